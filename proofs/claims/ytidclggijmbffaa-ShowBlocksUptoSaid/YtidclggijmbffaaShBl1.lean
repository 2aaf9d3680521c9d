/- Functions of the program as plain functions, each with the proof that the code comes to them. -/
import Derived.Test.YtidclggijmbffaaShBl0
namespace Go.Proofs.Yc
open Go Go.Aw Go.Proofs
set_option linter.unusedVariables false
set_option linter.unusedSimpArgs false
set_option maxRecDepth 100000
/-! dyehouse/show.operands -/
namespace N29
noncomputable def cfg : Cfg := { P := Try.prog, ty := tys, E := tab [(14, N14.ent)], atSeq := tab [(7, ⟨[(3, .keep)]⟩)], atLoop := tab [(3, ⟨[(3, .own 9 Ty.str), (6, .keep), (7, .keep), (8, .keep)]⟩)], outs := [], eqT := tab [], bT := tab [] }
noncomputable def body : Code := bodyOf Try.f29
def l3 (j7 : (List ByteArray) → Prop) (ag3 : Int → (List ByteArray) → Prop) (x6 : (List (Int × (Int × (Int × Int))))) (x7 : Int) (x8 : Int) (b0 : (List ByteArray)) (k : (List ByteArray) → Prop) : Prop :=
  (br (decide (x8 < x7)) ((inB 0 x8 ((((x6).length : Nat) : Int) - 1)) ∧ (N14.f (x6.getD (Int.toNat x8) ((0, (0, (0, 0))))).1 (x6.getD (Int.toNat x8) ((0, (0, (0, 0))))).2.1 (x6.getD (Int.toNat x8) ((0, (0, (0, 0))))).2.2.1 (x6.getD (Int.toNat x8) ((0, (0, (0, 0))))).2.2.2 (fun (y0_0 : ByteArray) => ((room ((b0).length + (([y0_0] : List ByteArray)).length) 16) ∧ (ag3 (IntKind.i64.wrap (x8 + (1 : Int))) (b0 ++ ([y0_0] : List ByteArray))))))) (j7 b0))
def j7 (b0 : (List ByteArray)) (k : (List ByteArray) → Prop) : Prop :=
  (k b0)
def c (l3 : (List (Int × (Int × (Int × Int)))) → Int → Int → (List ByteArray) → Prop) (x0 : (List (Int × (Int × (Int × Int))))) (k : (List ByteArray) → Prop) : Prop :=
  (l3 x0 ((((x0).length : Nat) : Int)) (0 : Int) ([] : List ByteArray))
def j7' (b0 : (List ByteArray)) (k : (List ByteArray) → Prop) : Prop := j7 b0 k
def l3' (x6 : (List (Int × (Int × (Int × Int))))) (x7 : Int) (x8 : Int) (b0 : (List ByteArray)) (k : (List ByteArray) → Prop) : Prop := ∃ n, loopS (fun (ag : (Int × (List ByteArray)) → Prop) (s : Int × (List ByteArray)) => l3 (fun b0 => j7' b0 k) (fun x8 b0 => ag (x8, b0)) x6 x7 s.1 s.2 k) n (x8, b0)
def f0 (x0 : (List (Int × (Int × (Int × Int))))) (k : (List ByteArray) → Prop) : Prop := c (fun x6 x7 x8 b0 => l3' x6 x7 x8 b0 k) x0 k
theorem f_ex : ∃ g : (List (Int × (Int × (Int × Int)))) → ((List ByteArray) → Prop) → Prop, g = f0 := ⟨_, rfl⟩
noncomputable def f : (List (Int × (Int × (Int × Int)))) → ((List ByteArray) → Prop) → Prop := Classical.choose f_ex
theorem f_def : f = f0 := Classical.choose_spec f_ex
def mL3 (x6 : (List (Int × (Int × (Int × Int))))) (x7 : Int) (x8 : Int) (b0 : (List ByteArray)) : St := { tmps := mkT 19 0 [(3, (.sl 0 0)), (6, (.fz (Ty.pair (Ty.int IntKind.i64) (Ty.pair (Ty.int IntKind.i64) (Ty.pair (Ty.int IntKind.i64) (Ty.int IntKind.i64)))) x6)), (7, (.v (.int IntKind.i64 x7))), (8, (.v (.int IntKind.i64 x8)))], hp := [(.lst 9 Ty.str b0 0 false)], m := 0 }
def m7 (b0 : (List ByteArray)) : St := { tmps := mkT 19 0 [(3, (.sl 0 0))], hp := [(.lst 9 Ty.str b0 0 false)], m := 0 }
noncomputable def YL3 (k kp : D → List Blk → Prop) : (St → Prop) → St → Prop := loopB cfg (sub [1, 1, 0, 1, 0, 0] body) (contK cfg (pick none' []) [1, 1, 0, 1, 0] body (topK cfg Try.f29 k kp))
noncomputable def XL3 (k kp : D → List Blk → Prop) : St → Prop := fun st => ∃ n, loopN (YL3 k kp) n st
noncomputable def X7 (k kp : D → List Blk → Prop) : St → Prop := atP cfg (pick none' []) [1, 1, 1] body (topK cfg Try.f29 k kp)
noncomputable def JJ_3 (k kp : D → List Blk → Prop) (ag3 : St → Prop) : Nat → St → Prop := pick none' [(7, X7 k kp)]
noncomputable def LL_3 (k kp : D → List Blk → Prop) (ag3 : St → Prop) : Nat → St → Prop := pick none' [(3, XL3 k kp)]
noncomputable def JJ (k kp : D → List Blk → Prop) : Nat → St → Prop := pick none' [(7, X7 k kp)]
noncomputable def LL (k kp : D → List Blk → Prop) : Nat → St → Prop := pick none' [(3, XL3 k kp)]
theorem j7_c (k kp : D → List Blk → Prop) (J L : Nat → St → Prop) (b0 : (List ByteArray)) : runC cfg 7 J L (pick none' []) [1, 1, 1] body (topK cfg Try.f29 k kp) (m7 b0) = j7 b0 (fun z0 => k (.sl 0 0) [(.lst 9 Ty.str z0 0 false)]) := by kernel_rfl
theorem j7_ag (k kp : D → List Blk → Prop) : agPL cfg 7 (JJ k kp) (LL k kp) [1, 1, 1] body = agPR cfg 7 (pick none' []) [1, 1, 1] body (topK cfg Try.f29 k kp) := by kernel_rfl
theorem j7_raw (k kp : D → List Blk → Prop) (b0 : (List ByteArray)) : X7 k kp (m7 b0) = j7 b0 (fun z0 => k (.sl 0 0) [(.lst 9 Ty.str z0 0 false)]) :=
  Eq.mp (by kernel_rfl) ((atP_run (j7_ag k kp) (m7 b0)).trans (j7_c k kp (JJ k kp) (LL k kp) b0))
theorem j7_eq (k kp : D → List Blk → Prop) (b0 : (List ByteArray)) : X7 k kp (m7 b0) = j7' b0 (fun z0 => k (.sl 0 0) [(.lst 9 Ty.str z0 0 false)]) := by
  rw [j7_raw]; rfl
theorem l3_c (k kp : D → List Blk → Prop) (J L : Nat → St → Prop) (ag3 : St → Prop) (x6 : (List (Int × (Int × (Int × Int))))) (x7 : Int) (x8 : Int) (b0 : (List ByteArray)) : runC cfg 1000001 J L (pick none' [(3, ag3)]) [1, 1, 0, 1, 0, 0] body (topK cfg Try.f29 k kp) (mL3 x6 x7 x8 b0) = l3 (fun b0 => J 7 (m7 b0)) (fun x8 b0 => ag3 (mL3 x6 x7 x8 b0)) x6 x7 x8 b0 (fun z0 => k (.sl 0 0) [(.lst 9 Ty.str z0 0 false)]) := by kernel_rfl
theorem l3_ag (k kp : D → List Blk → Prop) (ag3 : St → Prop) : agPL cfg 1000001 (JJ_3 k kp ag3) (LL_3 k kp ag3) [1, 1, 0, 1, 0, 0] body = agPR cfg 1000001 (pick none' [(3, ag3)]) [1, 1, 0, 1, 0, 0] body (topK cfg Try.f29 k kp) := by kernel_rfl
theorem l3_raw (k kp : D → List Blk → Prop) (ag3 : St → Prop) (x6 : (List (Int × (Int × (Int × Int))))) (x7 : Int) (x8 : Int) (b0 : (List ByteArray)) : YL3 k kp ag3 (mL3 x6 x7 x8 b0) = l3 (fun b0 => X7 k kp (m7 b0)) (fun x8 b0 => ag3 (mL3 x6 x7 x8 b0)) x6 x7 x8 b0 (fun z0 => k (.sl 0 0) [(.lst 9 Ty.str z0 0 false)]) :=
  Eq.mp (by kernel_rfl) ((atP_run (l3_ag k kp ag3) (mL3 x6 x7 x8 b0)).trans (l3_c k kp (JJ_3 k kp ag3) (LL_3 k kp ag3) ag3 x6 x7 x8 b0))
theorem l3_eq (k kp : D → List Blk → Prop) (x6 : (List (Int × (Int × (Int × Int))))) (x7 : Int) (x8 : Int) (b0 : (List ByteArray)) : XL3 k kp (mL3 x6 x7 x8 b0) = l3' x6 x7 x8 b0 (fun z0 => k (.sl 0 0) [(.lst 9 Ty.str z0 0 false)]) :=
  loop_eq (mk := fun (s : Int × (List ByteArray)) => mL3 x6 x7 s.1 s.2) (fun again s => by rw [l3_raw k kp again x6 x7 s.1 s.2]; simp only [j7_eq]; first | done | rfl) (x8, b0)
theorem c_c (k kp : D → List Blk → Prop) (J L : Nat → St → Prop) (x0 : (List (Int × (Int × (Int × Int))))) : runC cfg 1000001 J L none'' [] body (topK cfg Try.f29 k kp) (st0 Try.f29 [(.fz (Ty.pair (Ty.int IntKind.i64) (Ty.pair (Ty.int IntKind.i64) (Ty.pair (Ty.int IntKind.i64) (Ty.int IntKind.i64)))) x0)] []) = c (fun x6 x7 x8 b0 => L 3 (mL3 x6 x7 x8 b0)) x0 (fun z0 => k (.sl 0 0) [(.lst 9 Ty.str z0 0 false)]) := by kernel_rfl
theorem c_ag (k kp : D → List Blk → Prop) : agPL cfg 1000001 (JJ k kp) (LL k kp) [] body = agPR cfg 1000001 none'' [] body (topK cfg Try.f29 k kp) := by kernel_rfl
theorem body_is : Try.f29.body = some body := by kernel_rfl
theorem c_raw (k kp : D → List Blk → Prop) (x0 : (List (Int × (Int × (Int × Int))))) : funW cfg Try.f29 [(.fz (Ty.pair (Ty.int IntKind.i64) (Ty.pair (Ty.int IntKind.i64) (Ty.pair (Ty.int IntKind.i64) (Ty.int IntKind.i64)))) x0)] [] k kp = c (fun x6 x7 x8 b0 => XL3 k kp (mL3 x6 x7 x8 b0)) x0 (fun z0 => k (.sl 0 0) [(.lst 9 Ty.str z0 0 false)]) :=
  Eq.mp (by kernel_rfl) ((funW_run (AG := none'') body_is (c_ag k kp) [(.fz (Ty.pair (Ty.int IntKind.i64) (Ty.pair (Ty.int IntKind.i64) (Ty.pair (Ty.int IntKind.i64) (Ty.int IntKind.i64)))) x0)] []).trans (c_c k kp (JJ k kp) (LL k kp) x0))
theorem f_eq (k kp : D → List Blk → Prop) (x0 : (List (Int × (Int × (Int × Int))))) : funW cfg Try.f29 [(.fz (Ty.pair (Ty.int IntKind.i64) (Ty.pair (Ty.int IntKind.i64) (Ty.pair (Ty.int IntKind.i64) (Ty.int IntKind.i64)))) x0)] [] k kp = f x0 (fun z0 => k (.sl 0 0) [(.lst 9 Ty.str z0 0 false)]) := by
  rw [f_def, c_raw]; simp only [l3_eq]; first | done | rfl
noncomputable def ent0 : Entry := fun args blks k _ => match args, blks with
  | [d0], [] => aFz (Ty.pair (Ty.int IntKind.i64) (Ty.pair (Ty.int IntKind.i64) (Ty.pair (Ty.int IntKind.i64) (Ty.int IntKind.i64)))) d0 fun x0 => f x0 (fun z0 => k (.sl 0 0) [(.lst 9 Ty.str z0 0 false)])
  | _, _ => False
noncomputable def ent : Entry := fun args blks k kp => ent0 (convB [.one (Ty.pair (Ty.int IntKind.i64) (Ty.pair (Ty.int IntKind.i64) (Ty.pair (Ty.int IntKind.i64) (Ty.int IntKind.i64))))] args) blks k kp
theorem ok : EntOk Try.prog 0 0 29 ent := by
  refine EntOk.convB (EntOk.of (funW_ok (cfg := cfg) (tyOk_of rfl rfl tyL_ok) (eqOk_of (P := Try.prog) rfl rfl (by kernel_rfl)) mixed_ok (tab_ok ?_) Try.func29 (by rfl) (by rfl)) ?_) _
  · intro p hp
    simp only [List.mem_cons, List.not_mem_nil, or_false] at hp
    rcases hp with rfl
    · exact N14.ok
  · intro args blks k kp h k' kp'
    match args, blks, h with
    | [d0], [], h =>
    dsimp only [ent0] at h
    have h9 := aFz_elim (t := (Ty.pair (Ty.int IntKind.i64) (Ty.pair (Ty.int IntKind.i64) (Ty.pair (Ty.int IntKind.i64) (Ty.int IntKind.i64))))) h; clear h; obtain ⟨x0, rfl, h⟩ := h9
    exact (f_eq k' kp' x0).symm
end N29
end Go.Proofs.Yc
namespace Go.Proofs.Yc
open Go Go.Aw Go.Proofs
set_option linter.unusedVariables false
set_option linter.unusedSimpArgs false
set_option maxRecDepth 100000
/-! dyehouse/op.find -/
namespace N66
noncomputable def cfg : Cfg := { P := Try.prog, ty := tys, E := tab [], atSeq := tab [(2000003, ⟨[(0, .keep), (2, .keep), (4, .keep), (12, .keep)]⟩), (5, ⟨[(0, .keep), (2, .keep)]⟩)], atLoop := tab [], outs := [], eqT := tab [], bT := tab [] }
noncomputable def body : Code := bodyOf Try.f66
def j2000003 (j5 : Int → ByteArray → Int → Int → Int → Int → Bool → Prop) (x0 : Int) (x12 : Bool) (b0_0 : ByteArray) (b0_1 : Int) (b0_2 : Int) (b0_3 : Int) (b0_4 : Int) (b0_5 : Bool) (b1_0 : ByteArray) (b1_1 : Int) (b1_2 : Int) (b1_3 : Int) (b1_4 : Int) (b1_5 : Bool) (k : ByteArray → Int → Int → Int → Int → Bool → Bool → Prop) : Prop :=
  (br x12 (br (decide ((IntKind.i64.wrap (x0 - (1 : Int))) = ((0 : Nat) : Int))) (k (ByteArray.mk #[97, 100, 100]) b1_1 b1_2 b1_3 b1_4 b1_5 true) (br (decide ((IntKind.i64.wrap (x0 - (1 : Int))) = ((1 : Nat) : Int))) (k (ByteArray.mk #[115, 117, 98]) b1_1 b1_2 b1_3 b1_4 b1_5 true) (br (decide ((IntKind.i64.wrap (x0 - (1 : Int))) = ((2 : Nat) : Int))) (k (ByteArray.mk #[109, 117, 108]) b1_1 b1_2 b1_3 b1_4 b1_5 true) (br (decide ((IntKind.i64.wrap (x0 - (1 : Int))) = ((3 : Nat) : Int))) (k (ByteArray.mk #[97, 110, 100]) b1_1 b1_2 b1_3 b1_4 b1_5 true) (br (decide ((IntKind.i64.wrap (x0 - (1 : Int))) = ((4 : Nat) : Int))) (k (ByteArray.mk #[111, 114]) b1_1 b1_2 b1_3 b1_4 b1_5 true) (br (decide ((IntKind.i64.wrap (x0 - (1 : Int))) = ((5 : Nat) : Int))) (k (ByteArray.mk #[120, 111, 114]) b1_1 b1_2 b1_3 b1_4 b1_5 true) (br (decide ((IntKind.i64.wrap (x0 - (1 : Int))) = ((6 : Nat) : Int))) (k (ByteArray.mk #[115, 104, 108]) b1_1 b1_2 b1_3 b1_4 b1_5 true) (br (decide ((IntKind.i64.wrap (x0 - (1 : Int))) = ((7 : Nat) : Int))) (k (ByteArray.mk #[115, 104, 114]) b1_1 b1_2 b1_3 b1_4 b1_5 true) (br (decide ((IntKind.i64.wrap (x0 - (1 : Int))) = ((8 : Nat) : Int))) (k (ByteArray.mk #[115, 97, 114]) b1_1 b1_2 b1_3 b1_4 b1_5 true) (br (decide ((IntKind.i64.wrap (x0 - (1 : Int))) = ((9 : Nat) : Int))) (k (ByteArray.mk #[100, 105, 118]) b1_1 b1_2 b1_3 b1_4 b1_5 true) (br (decide ((IntKind.i64.wrap (x0 - (1 : Int))) = ((10 : Nat) : Int))) (k (ByteArray.mk #[114, 101, 109]) b1_1 b1_2 b1_3 b1_4 b1_5 true) (br (decide ((IntKind.i64.wrap (x0 - (1 : Int))) = ((11 : Nat) : Int))) (k (ByteArray.mk #[101, 113]) b1_1 b1_2 b1_3 b1_4 b1_5 true) (br (decide ((IntKind.i64.wrap (x0 - (1 : Int))) = ((12 : Nat) : Int))) (k (ByteArray.mk #[110, 101]) b1_1 b1_2 b1_3 b1_4 b1_5 true) (br (decide ((IntKind.i64.wrap (x0 - (1 : Int))) = ((13 : Nat) : Int))) (k (ByteArray.mk #[108, 116]) b1_1 b1_2 b1_3 b1_4 b1_5 true) (br (decide ((IntKind.i64.wrap (x0 - (1 : Int))) = ((14 : Nat) : Int))) (k (ByteArray.mk #[108, 101]) b1_1 b1_2 b1_3 b1_4 b1_5 true) False))))))))))))))) (j5 x0 b0_0 b0_1 b0_2 b0_3 b0_4 b0_5))
def j5 (x0 : Int) (b0_0 : ByteArray) (b0_1 : Int) (b0_2 : Int) (b0_3 : Int) (b0_4 : Int) (b0_5 : Bool) (k : ByteArray → Int → Int → Int → Int → Bool → Bool → Prop) : Prop :=
  (br (x0 == (16 : Int)) (k (ByteArray.mk #[99, 111, 112, 121]) (3 : Int) (7 : Int) (0 : Int) (0 : Int) false true) (br (x0 == (17 : Int)) (k (ByteArray.mk #[108, 111, 97, 100]) (1 : Int) (2 : Int) (0 : Int) (0 : Int) false true) (br (x0 == (18 : Int)) (k (ByteArray.mk #[115, 116, 111, 114, 101]) (0 : Int) (1 : Int) (2 : Int) (0 : Int) false true) (br (x0 == (19 : Int)) (k (ByteArray.mk #[99, 97, 108, 108]) (17 : Int) (13 : Int) (0 : Int) (0 : Int) false true) (br (x0 == (20 : Int)) (k (ByteArray.mk #[98, 114]) (0 : Int) (0 : Int) (0 : Int) (1 : Int) false true) (br (x0 == (21 : Int)) (k (ByteArray.mk #[98, 114, 105, 102]) (0 : Int) (1 : Int) (0 : Int) (2 : Int) false true) (br (x0 == (22 : Int)) (k (ByteArray.mk #[115, 119, 105, 116, 99, 104]) (0 : Int) (1 : Int) (0 : Int) (-1 : Int) false true) (br (x0 == (23 : Int)) (k (ByteArray.mk #[114, 101, 116]) (0 : Int) (5 : Int) (0 : Int) (0 : Int) false true) (br (x0 == (24 : Int)) (k (ByteArray.mk #[109, 111, 118, 101]) (3 : Int) (3 : Int) (0 : Int) (0 : Int) true true) (br (x0 == (25 : Int)) (k (ByteArray.mk #[115, 112, 105, 108, 108]) (8 : Int) (3 : Int) (0 : Int) (0 : Int) true true) (br (x0 == (26 : Int)) (k (ByteArray.mk #[114, 101, 108, 111, 97, 100]) (3 : Int) (8 : Int) (0 : Int) (0 : Int) true true) (br (x0 == (27 : Int)) (k (ByteArray.mk #[115, 119, 97, 112]) (0 : Int) (11 : Int) (11 : Int) (0 : Int) true true) (k (ByteArray.mk #[]) (0 : Int) (0 : Int) (0 : Int) (0 : Int) false false)))))))))))))
def c (j2000003 : Int → Bool → ByteArray → Int → Int → Int → Int → Bool → ByteArray → Int → Int → Int → Int → Bool → Prop) (x0 : Int) (k : ByteArray → Int → Int → Int → Int → Bool → Bool → Prop) : Prop :=
  (br (decide (x0 ≥ (1 : Int))) (j2000003 x0 (decide (x0 ≤ (15 : Int))) (ByteArray.mk #[]) (0 : Int) (0 : Int) (0 : Int) (0 : Int) false (ByteArray.mk #[]) (1 : Int) (1 : Int) (5 : Int) (0 : Int) false) (j2000003 x0 false (ByteArray.mk #[]) (0 : Int) (0 : Int) (0 : Int) (0 : Int) false (ByteArray.mk #[]) (1 : Int) (1 : Int) (5 : Int) (0 : Int) false))
def j5' (x0 : Int) (b0_0 : ByteArray) (b0_1 : Int) (b0_2 : Int) (b0_3 : Int) (b0_4 : Int) (b0_5 : Bool) (k : ByteArray → Int → Int → Int → Int → Bool → Bool → Prop) : Prop := j5 x0 b0_0 b0_1 b0_2 b0_3 b0_4 b0_5 k
def j2000003' (x0 : Int) (x12 : Bool) (b0_0 : ByteArray) (b0_1 : Int) (b0_2 : Int) (b0_3 : Int) (b0_4 : Int) (b0_5 : Bool) (b1_0 : ByteArray) (b1_1 : Int) (b1_2 : Int) (b1_3 : Int) (b1_4 : Int) (b1_5 : Bool) (k : ByteArray → Int → Int → Int → Int → Bool → Bool → Prop) : Prop := j2000003 (fun x0 b0_0 b0_1 b0_2 b0_3 b0_4 b0_5 => j5' x0 b0_0 b0_1 b0_2 b0_3 b0_4 b0_5 k) x0 x12 b0_0 b0_1 b0_2 b0_3 b0_4 b0_5 b1_0 b1_1 b1_2 b1_3 b1_4 b1_5 k
def f0 (x0 : Int) (k : ByteArray → Int → Int → Int → Int → Bool → Bool → Prop) : Prop := c (fun x0 x12 b0_0 b0_1 b0_2 b0_3 b0_4 b0_5 b1_0 b1_1 b1_2 b1_3 b1_4 b1_5 => j2000003' x0 x12 b0_0 b0_1 b0_2 b0_3 b0_4 b0_5 b1_0 b1_1 b1_2 b1_3 b1_4 b1_5 k) x0 k
theorem f_ex : ∃ g : Int → (ByteArray → Int → Int → Int → Int → Bool → Bool → Prop) → Prop, g = f0 := ⟨_, rfl⟩
noncomputable def f : Int → (ByteArray → Int → Int → Int → Int → Bool → Bool → Prop) → Prop := Classical.choose f_ex
theorem f_def : f = f0 := Classical.choose_spec f_ex
def m2000003 (x0 : Int) (x12 : Bool) (b0_0 : ByteArray) (b0_1 : Int) (b0_2 : Int) (b0_3 : Int) (b0_4 : Int) (b0_5 : Bool) (b1_0 : ByteArray) (b1_1 : Int) (b1_2 : Int) (b1_3 : Int) (b1_4 : Int) (b1_5 : Bool) : St := { tmps := mkT 68 0 [(0, (.v (.int IntKind.i64 x0))), (2, (.ptr 0 0)), (4, (.ptr 1 0)), (12, (.v (.bool x12)))], hp := [(.box 120 [(.v (.string b0_0)), (.v (.int IntKind.i64 b0_1)), (.v (.int IntKind.i64 b0_2)), (.v (.int IntKind.i64 b0_3)), (.v (.int IntKind.i64 b0_4)), (.v (.bool b0_5))]), (.box 120 [(.v (.string b1_0)), (.v (.int IntKind.i64 b1_1)), (.v (.int IntKind.i64 b1_2)), (.v (.int IntKind.i64 b1_3)), (.v (.int IntKind.i64 b1_4)), (.v (.bool b1_5))])], m := 0 }
def m5 (x0 : Int) (b0_0 : ByteArray) (b0_1 : Int) (b0_2 : Int) (b0_3 : Int) (b0_4 : Int) (b0_5 : Bool) : St := { tmps := mkT 68 0 [(0, (.v (.int IntKind.i64 x0))), (2, (.ptr 0 0))], hp := [(.box 120 [(.v (.string b0_0)), (.v (.int IntKind.i64 b0_1)), (.v (.int IntKind.i64 b0_2)), (.v (.int IntKind.i64 b0_3)), (.v (.int IntKind.i64 b0_4)), (.v (.bool b0_5))])], m := 0 }
noncomputable def X2000003 (k kp : D → List Blk → Prop) : St → Prop := atP cfg (pick none' []) [1, 1, 0, 1] body (topK cfg Try.f66 k kp)
noncomputable def X5 (k kp : D → List Blk → Prop) : St → Prop := atP cfg (pick none' []) [1, 1, 1] body (topK cfg Try.f66 k kp)
noncomputable def JJ (k kp : D → List Blk → Prop) : Nat → St → Prop := pick none' [(2000003, X2000003 k kp), (5, X5 k kp)]
noncomputable def LL (k kp : D → List Blk → Prop) : Nat → St → Prop := pick none' []
theorem j5_c (k kp : D → List Blk → Prop) (J L : Nat → St → Prop) (x0 : Int) (b0_0 : ByteArray) (b0_1 : Int) (b0_2 : Int) (b0_3 : Int) (b0_4 : Int) (b0_5 : Bool) : runC cfg 5 J L (pick none' []) [1, 1, 1] body (topK cfg Try.f66 k kp) (m5 x0 b0_0 b0_1 b0_2 b0_3 b0_4 b0_5) = j5 x0 b0_0 b0_1 b0_2 b0_3 b0_4 b0_5 (fun y0_0 y0_1 y0_2 y0_3 y0_4 y0_5 y1 => k (.tup [(.agg [(.v (.string y0_0)), (.v (.int IntKind.i64 y0_1)), (.v (.int IntKind.i64 y0_2)), (.v (.int IntKind.i64 y0_3)), (.v (.int IntKind.i64 y0_4)), (.v (.bool y0_5))]), (.v (.bool y1))]) []) := by kernel_rfl
theorem j5_ag (k kp : D → List Blk → Prop) : agPL cfg 5 (JJ k kp) (LL k kp) [1, 1, 1] body = agPR cfg 5 (pick none' []) [1, 1, 1] body (topK cfg Try.f66 k kp) := by kernel_rfl
theorem j5_raw (k kp : D → List Blk → Prop) (x0 : Int) (b0_0 : ByteArray) (b0_1 : Int) (b0_2 : Int) (b0_3 : Int) (b0_4 : Int) (b0_5 : Bool) : X5 k kp (m5 x0 b0_0 b0_1 b0_2 b0_3 b0_4 b0_5) = j5 x0 b0_0 b0_1 b0_2 b0_3 b0_4 b0_5 (fun y0_0 y0_1 y0_2 y0_3 y0_4 y0_5 y1 => k (.tup [(.agg [(.v (.string y0_0)), (.v (.int IntKind.i64 y0_1)), (.v (.int IntKind.i64 y0_2)), (.v (.int IntKind.i64 y0_3)), (.v (.int IntKind.i64 y0_4)), (.v (.bool y0_5))]), (.v (.bool y1))]) []) :=
  Eq.mp (by kernel_rfl) ((atP_run (j5_ag k kp) (m5 x0 b0_0 b0_1 b0_2 b0_3 b0_4 b0_5)).trans (j5_c k kp (JJ k kp) (LL k kp) x0 b0_0 b0_1 b0_2 b0_3 b0_4 b0_5))
theorem j5_eq (k kp : D → List Blk → Prop) (x0 : Int) (b0_0 : ByteArray) (b0_1 : Int) (b0_2 : Int) (b0_3 : Int) (b0_4 : Int) (b0_5 : Bool) : X5 k kp (m5 x0 b0_0 b0_1 b0_2 b0_3 b0_4 b0_5) = j5' x0 b0_0 b0_1 b0_2 b0_3 b0_4 b0_5 (fun y0_0 y0_1 y0_2 y0_3 y0_4 y0_5 y1 => k (.tup [(.agg [(.v (.string y0_0)), (.v (.int IntKind.i64 y0_1)), (.v (.int IntKind.i64 y0_2)), (.v (.int IntKind.i64 y0_3)), (.v (.int IntKind.i64 y0_4)), (.v (.bool y0_5))]), (.v (.bool y1))]) []) := by
  rw [j5_raw]; rfl
theorem j2000003_c (k kp : D → List Blk → Prop) (J L : Nat → St → Prop) (x0 : Int) (x12 : Bool) (b0_0 : ByteArray) (b0_1 : Int) (b0_2 : Int) (b0_3 : Int) (b0_4 : Int) (b0_5 : Bool) (b1_0 : ByteArray) (b1_1 : Int) (b1_2 : Int) (b1_3 : Int) (b1_4 : Int) (b1_5 : Bool) : runC cfg 2000003 J L (pick none' []) [1, 1, 0, 1] body (topK cfg Try.f66 k kp) (m2000003 x0 x12 b0_0 b0_1 b0_2 b0_3 b0_4 b0_5 b1_0 b1_1 b1_2 b1_3 b1_4 b1_5) = j2000003 (fun x0 b0_0 b0_1 b0_2 b0_3 b0_4 b0_5 => J 5 (m5 x0 b0_0 b0_1 b0_2 b0_3 b0_4 b0_5)) x0 x12 b0_0 b0_1 b0_2 b0_3 b0_4 b0_5 b1_0 b1_1 b1_2 b1_3 b1_4 b1_5 (fun y0_0 y0_1 y0_2 y0_3 y0_4 y0_5 y1 => k (.tup [(.agg [(.v (.string y0_0)), (.v (.int IntKind.i64 y0_1)), (.v (.int IntKind.i64 y0_2)), (.v (.int IntKind.i64 y0_3)), (.v (.int IntKind.i64 y0_4)), (.v (.bool y0_5))]), (.v (.bool y1))]) []) := by kernel_rfl
theorem j2000003_ag (k kp : D → List Blk → Prop) : agPL cfg 2000003 (JJ k kp) (LL k kp) [1, 1, 0, 1] body = agPR cfg 2000003 (pick none' []) [1, 1, 0, 1] body (topK cfg Try.f66 k kp) := by kernel_rfl
theorem j2000003_raw (k kp : D → List Blk → Prop) (x0 : Int) (x12 : Bool) (b0_0 : ByteArray) (b0_1 : Int) (b0_2 : Int) (b0_3 : Int) (b0_4 : Int) (b0_5 : Bool) (b1_0 : ByteArray) (b1_1 : Int) (b1_2 : Int) (b1_3 : Int) (b1_4 : Int) (b1_5 : Bool) : X2000003 k kp (m2000003 x0 x12 b0_0 b0_1 b0_2 b0_3 b0_4 b0_5 b1_0 b1_1 b1_2 b1_3 b1_4 b1_5) = j2000003 (fun x0 b0_0 b0_1 b0_2 b0_3 b0_4 b0_5 => X5 k kp (m5 x0 b0_0 b0_1 b0_2 b0_3 b0_4 b0_5)) x0 x12 b0_0 b0_1 b0_2 b0_3 b0_4 b0_5 b1_0 b1_1 b1_2 b1_3 b1_4 b1_5 (fun y0_0 y0_1 y0_2 y0_3 y0_4 y0_5 y1 => k (.tup [(.agg [(.v (.string y0_0)), (.v (.int IntKind.i64 y0_1)), (.v (.int IntKind.i64 y0_2)), (.v (.int IntKind.i64 y0_3)), (.v (.int IntKind.i64 y0_4)), (.v (.bool y0_5))]), (.v (.bool y1))]) []) :=
  Eq.mp (by kernel_rfl) ((atP_run (j2000003_ag k kp) (m2000003 x0 x12 b0_0 b0_1 b0_2 b0_3 b0_4 b0_5 b1_0 b1_1 b1_2 b1_3 b1_4 b1_5)).trans (j2000003_c k kp (JJ k kp) (LL k kp) x0 x12 b0_0 b0_1 b0_2 b0_3 b0_4 b0_5 b1_0 b1_1 b1_2 b1_3 b1_4 b1_5))
theorem j2000003_eq (k kp : D → List Blk → Prop) (x0 : Int) (x12 : Bool) (b0_0 : ByteArray) (b0_1 : Int) (b0_2 : Int) (b0_3 : Int) (b0_4 : Int) (b0_5 : Bool) (b1_0 : ByteArray) (b1_1 : Int) (b1_2 : Int) (b1_3 : Int) (b1_4 : Int) (b1_5 : Bool) : X2000003 k kp (m2000003 x0 x12 b0_0 b0_1 b0_2 b0_3 b0_4 b0_5 b1_0 b1_1 b1_2 b1_3 b1_4 b1_5) = j2000003' x0 x12 b0_0 b0_1 b0_2 b0_3 b0_4 b0_5 b1_0 b1_1 b1_2 b1_3 b1_4 b1_5 (fun y0_0 y0_1 y0_2 y0_3 y0_4 y0_5 y1 => k (.tup [(.agg [(.v (.string y0_0)), (.v (.int IntKind.i64 y0_1)), (.v (.int IntKind.i64 y0_2)), (.v (.int IntKind.i64 y0_3)), (.v (.int IntKind.i64 y0_4)), (.v (.bool y0_5))]), (.v (.bool y1))]) []) := by
  rw [j2000003_raw]; simp only [j5_eq]; first | done | rfl
theorem c_c (k kp : D → List Blk → Prop) (J L : Nat → St → Prop) (x0 : Int) : runC cfg 1000001 J L none'' [] body (topK cfg Try.f66 k kp) (st0 Try.f66 [(.v (.int IntKind.i64 x0))] []) = c (fun x0 x12 b0_0 b0_1 b0_2 b0_3 b0_4 b0_5 b1_0 b1_1 b1_2 b1_3 b1_4 b1_5 => J 2000003 (m2000003 x0 x12 b0_0 b0_1 b0_2 b0_3 b0_4 b0_5 b1_0 b1_1 b1_2 b1_3 b1_4 b1_5)) x0 (fun y0_0 y0_1 y0_2 y0_3 y0_4 y0_5 y1 => k (.tup [(.agg [(.v (.string y0_0)), (.v (.int IntKind.i64 y0_1)), (.v (.int IntKind.i64 y0_2)), (.v (.int IntKind.i64 y0_3)), (.v (.int IntKind.i64 y0_4)), (.v (.bool y0_5))]), (.v (.bool y1))]) []) := by kernel_rfl
theorem c_ag (k kp : D → List Blk → Prop) : agPL cfg 1000001 (JJ k kp) (LL k kp) [] body = agPR cfg 1000001 none'' [] body (topK cfg Try.f66 k kp) := by kernel_rfl
theorem body_is : Try.f66.body = some body := by kernel_rfl
theorem c_raw (k kp : D → List Blk → Prop) (x0 : Int) : funW cfg Try.f66 [(.v (.int IntKind.i64 x0))] [] k kp = c (fun x0 x12 b0_0 b0_1 b0_2 b0_3 b0_4 b0_5 b1_0 b1_1 b1_2 b1_3 b1_4 b1_5 => X2000003 k kp (m2000003 x0 x12 b0_0 b0_1 b0_2 b0_3 b0_4 b0_5 b1_0 b1_1 b1_2 b1_3 b1_4 b1_5)) x0 (fun y0_0 y0_1 y0_2 y0_3 y0_4 y0_5 y1 => k (.tup [(.agg [(.v (.string y0_0)), (.v (.int IntKind.i64 y0_1)), (.v (.int IntKind.i64 y0_2)), (.v (.int IntKind.i64 y0_3)), (.v (.int IntKind.i64 y0_4)), (.v (.bool y0_5))]), (.v (.bool y1))]) []) :=
  Eq.mp (by kernel_rfl) ((funW_run (AG := none'') body_is (c_ag k kp) [(.v (.int IntKind.i64 x0))] []).trans (c_c k kp (JJ k kp) (LL k kp) x0))
theorem f_eq (k kp : D → List Blk → Prop) (x0 : Int) : funW cfg Try.f66 [(.v (.int IntKind.i64 x0))] [] k kp = f x0 (fun y0_0 y0_1 y0_2 y0_3 y0_4 y0_5 y1 => k (.tup [(.agg [(.v (.string y0_0)), (.v (.int IntKind.i64 y0_1)), (.v (.int IntKind.i64 y0_2)), (.v (.int IntKind.i64 y0_3)), (.v (.int IntKind.i64 y0_4)), (.v (.bool y0_5))]), (.v (.bool y1))]) []) := by
  rw [f_def, c_raw]; simp only [j2000003_eq]; first | done | rfl
noncomputable def ent0 : Entry := fun args blks k _ => match args, blks with
  | [d0], [] => aInt IntKind.i64 d0 fun x0 => f x0 (fun y0_0 y0_1 y0_2 y0_3 y0_4 y0_5 y1 => k (.tup [(.agg [(.v (.string y0_0)), (.v (.int IntKind.i64 y0_1)), (.v (.int IntKind.i64 y0_2)), (.v (.int IntKind.i64 y0_3)), (.v (.int IntKind.i64 y0_4)), (.v (.bool y0_5))]), (.v (.bool y1))]) [])
  | _, _ => False
noncomputable def ent : Entry := fun args blks k kp => ent0 (convB [.no] args) blks k kp
theorem ok : EntOk Try.prog 0 0 66 ent := by
  refine EntOk.convB (EntOk.of (funW_ok (cfg := cfg) (tyOk_of rfl rfl tyL_ok) (eqOk_of (P := Try.prog) rfl rfl (by kernel_rfl)) mixed_ok (tab_ok ?_) Try.func66 (by rfl) (by rfl)) ?_) _
  · intro p hp
    cases hp
  · intro args blks k kp h k' kp'
    match args, blks, h with
    | [d0], [], h =>
    dsimp only [ent0] at h
    have h9 := aInt_elim h; clear h; obtain ⟨x0, rfl, h⟩ := h9
    exact (f_eq k' kp' x0).symm
end N66
end Go.Proofs.Yc
namespace Go.Proofs.Yc
open Go Go.Aw Go.Proofs
set_option linter.unusedVariables false
set_option linter.unusedSimpArgs false
set_option maxRecDepth 100000
/-! dyehouse/op.Is -/
namespace N57
noncomputable def cfg : Cfg := { P := Try.prog, ty := tys, E := tab [(66, N66.ent)], atSeq := tab [], atLoop := tab [], outs := [], eqT := tab [], bT := tab [] }
noncomputable def body : Code := bodyOf Try.f57
def c (x0 : Int) (k : Bool → Prop) : Prop :=
  (N66.f x0 (fun (y0_0_0 : ByteArray) (y0_1_0 : Int) (y0_2_0 : Int) (y0_3_0 : Int) (y0_4_0 : Int) (y0_5_0 : Bool) (y1_0 : Bool) => (k y1_0)))
def f0 (x0 : Int) (k : Bool → Prop) : Prop := c x0 k
theorem f_ex : ∃ g : Int → (Bool → Prop) → Prop, g = f0 := ⟨_, rfl⟩
noncomputable def f : Int → (Bool → Prop) → Prop := Classical.choose f_ex
theorem f_def : f = f0 := Classical.choose_spec f_ex
noncomputable def JJ (k kp : D → List Blk → Prop) : Nat → St → Prop := pick none' []
noncomputable def LL (k kp : D → List Blk → Prop) : Nat → St → Prop := pick none' []
theorem c_c (k kp : D → List Blk → Prop) (J L : Nat → St → Prop) (x0 : Int) : runC cfg 1000001 J L none'' [] body (topK cfg Try.f57 k kp) (st0 Try.f57 [(.v (.int IntKind.i64 x0))] []) = c x0 (fun y0 => k (.v (.bool y0)) []) := by kernel_rfl
theorem c_ag (k kp : D → List Blk → Prop) : agPL cfg 1000001 (JJ k kp) (LL k kp) [] body = agPR cfg 1000001 none'' [] body (topK cfg Try.f57 k kp) := by kernel_rfl
theorem body_is : Try.f57.body = some body := by kernel_rfl
theorem c_raw (k kp : D → List Blk → Prop) (x0 : Int) : funW cfg Try.f57 [(.v (.int IntKind.i64 x0))] [] k kp = c x0 (fun y0 => k (.v (.bool y0)) []) :=
  Eq.mp (by kernel_rfl) ((funW_run (AG := none'') body_is (c_ag k kp) [(.v (.int IntKind.i64 x0))] []).trans (c_c k kp (JJ k kp) (LL k kp) x0))
theorem f_eq (k kp : D → List Blk → Prop) (x0 : Int) : funW cfg Try.f57 [(.v (.int IntKind.i64 x0))] [] k kp = f x0 (fun y0 => k (.v (.bool y0)) []) := by
  rw [f_def, c_raw]; rfl
noncomputable def ent0 : Entry := fun args blks k _ => match args, blks with
  | [d0], [] => aInt IntKind.i64 d0 fun x0 => f x0 (fun y0 => k (.v (.bool y0)) [])
  | _, _ => False
noncomputable def ent : Entry := fun args blks k kp => ent0 (convB [.no] args) blks k kp
theorem ok : EntOk Try.prog 0 0 57 ent := by
  refine EntOk.convB (EntOk.of (funW_ok (cfg := cfg) (tyOk_of rfl rfl tyL_ok) (eqOk_of (P := Try.prog) rfl rfl (by kernel_rfl)) mixed_ok (tab_ok ?_) Try.func57 (by rfl) (by rfl)) ?_) _
  · intro p hp
    simp only [List.mem_cons, List.not_mem_nil, or_false] at hp
    rcases hp with rfl
    · exact N66.ok
  · intro args blks k kp h k' kp'
    match args, blks, h with
    | [d0], [], h =>
    dsimp only [ent0] at h
    have h9 := aInt_elim h; clear h; obtain ⟨x0, rfl, h⟩ := h9
    exact (f_eq k' kp' x0).symm
end N57
end Go.Proofs.Yc
namespace Go.Proofs.Yc
open Go Go.Aw Go.Proofs
set_option linter.unusedVariables false
set_option linter.unusedSimpArgs false
set_option maxRecDepth 100000
/-! dyehouse/op.Name -/
namespace N58
noncomputable def cfg : Cfg := { P := Try.prog, ty := tys, E := tab [(66, N66.ent)], atSeq := tab [], atLoop := tab [], outs := [], eqT := tab [], bT := tab [] }
noncomputable def body : Code := bodyOf Try.f58
def c (x0 : Int) (k : ByteArray → Prop) : Prop :=
  (N66.f x0 (fun (y0_0_0 : ByteArray) (y0_1_0 : Int) (y0_2_0 : Int) (y0_3_0 : Int) (y0_4_0 : Int) (y0_5_0 : Bool) (y1_0 : Bool) => (k y0_0_0)))
def f0 (x0 : Int) (k : ByteArray → Prop) : Prop := c x0 k
theorem f_ex : ∃ g : Int → (ByteArray → Prop) → Prop, g = f0 := ⟨_, rfl⟩
noncomputable def f : Int → (ByteArray → Prop) → Prop := Classical.choose f_ex
theorem f_def : f = f0 := Classical.choose_spec f_ex
noncomputable def JJ (k kp : D → List Blk → Prop) : Nat → St → Prop := pick none' []
noncomputable def LL (k kp : D → List Blk → Prop) : Nat → St → Prop := pick none' []
theorem c_c (k kp : D → List Blk → Prop) (J L : Nat → St → Prop) (x0 : Int) : runC cfg 1000001 J L none'' [] body (topK cfg Try.f58 k kp) (st0 Try.f58 [(.v (.int IntKind.i64 x0))] []) = c x0 (fun y0 => k (.v (.string y0)) []) := by kernel_rfl
theorem c_ag (k kp : D → List Blk → Prop) : agPL cfg 1000001 (JJ k kp) (LL k kp) [] body = agPR cfg 1000001 none'' [] body (topK cfg Try.f58 k kp) := by kernel_rfl
theorem body_is : Try.f58.body = some body := by kernel_rfl
theorem c_raw (k kp : D → List Blk → Prop) (x0 : Int) : funW cfg Try.f58 [(.v (.int IntKind.i64 x0))] [] k kp = c x0 (fun y0 => k (.v (.string y0)) []) :=
  Eq.mp (by kernel_rfl) ((funW_run (AG := none'') body_is (c_ag k kp) [(.v (.int IntKind.i64 x0))] []).trans (c_c k kp (JJ k kp) (LL k kp) x0))
theorem f_eq (k kp : D → List Blk → Prop) (x0 : Int) : funW cfg Try.f58 [(.v (.int IntKind.i64 x0))] [] k kp = f x0 (fun y0 => k (.v (.string y0)) []) := by
  rw [f_def, c_raw]; rfl
noncomputable def ent0 : Entry := fun args blks k _ => match args, blks with
  | [d0], [] => aInt IntKind.i64 d0 fun x0 => f x0 (fun y0 => k (.v (.string y0)) [])
  | _, _ => False
noncomputable def ent : Entry := fun args blks k kp => ent0 (convB [.no] args) blks k kp
theorem ok : EntOk Try.prog 0 0 58 ent := by
  refine EntOk.convB (EntOk.of (funW_ok (cfg := cfg) (tyOk_of rfl rfl tyL_ok) (eqOk_of (P := Try.prog) rfl rfl (by kernel_rfl)) mixed_ok (tab_ok ?_) Try.func58 (by rfl) (by rfl)) ?_) _
  · intro p hp
    simp only [List.mem_cons, List.not_mem_nil, or_false] at hp
    rcases hp with rfl
    · exact N66.ok
  · intro args blks k kp h k' kp'
    match args, blks, h with
    | [d0], [], h =>
    dsimp only [ent0] at h
    have h9 := aInt_elim h; clear h; obtain ⟨x0, rfl, h⟩ := h9
    exact (f_eq k' kp' x0).symm
end N58
end Go.Proofs.Yc
namespace Go.Proofs.Yc
open Go Go.Aw Go.Proofs
set_option linter.unusedVariables false
set_option linter.unusedSimpArgs false
set_option maxRecDepth 100000
/-! dyehouse/show.mnemonic -/
namespace N36
noncomputable def cfg : Cfg := { P := Try.prog, ty := tys, E := tab [(57, N57.ent), (58, N58.ent)], atSeq := tab [], atLoop := tab [], outs := [], eqT := tab [], bT := tab [], fzB := [1] }
noncomputable def body : Code := bodyOf Try.f36
def c (x0_0 : Int) (x0_1_0 : Int) (x0_1_1 : Int) (x0_1_2 : Int) (x0_1_3 : Int) (x0_2 : (List (Int × (Int × (Int × Int))))) (x0_3 : ByteArray) (x0_4 : Int) (x0_5 : (List ByteArray)) (x0_6 : (List Int)) (k : ByteArray → Prop) : Prop :=
  (N57.f x0_0 (fun (y0_0 : Bool) => (br (!y0_0) (k (ByteArray.mk #[63])) (N58.f x0_0 (fun (y0_1 : ByteArray) => (k y0_1))))))
def f0 (x0_0 : Int) (x0_1_0 : Int) (x0_1_1 : Int) (x0_1_2 : Int) (x0_1_3 : Int) (x0_2 : (List (Int × (Int × (Int × Int))))) (x0_3 : ByteArray) (x0_4 : Int) (x0_5 : (List ByteArray)) (x0_6 : (List Int)) (k : ByteArray → Prop) : Prop := c x0_0 x0_1_0 x0_1_1 x0_1_2 x0_1_3 x0_2 x0_3 x0_4 x0_5 x0_6 k
theorem f_ex : ∃ g : Int → Int → Int → Int → Int → (List (Int × (Int × (Int × Int)))) → ByteArray → Int → (List ByteArray) → (List Int) → (ByteArray → Prop) → Prop, g = f0 := ⟨_, rfl⟩
noncomputable def f : Int → Int → Int → Int → Int → (List (Int × (Int × (Int × Int)))) → ByteArray → Int → (List ByteArray) → (List Int) → (ByteArray → Prop) → Prop := Classical.choose f_ex
theorem f_def : f = f0 := Classical.choose_spec f_ex
noncomputable def JJ (k kp : D → List Blk → Prop) : Nat → St → Prop := pick none' []
noncomputable def LL (k kp : D → List Blk → Prop) : Nat → St → Prop := pick none' []
theorem c_c (k kp : D → List Blk → Prop) (J L : Nat → St → Prop) (x0_0 : Int) (x0_1_0 : Int) (x0_1_1 : Int) (x0_1_2 : Int) (x0_1_3 : Int) (x0_2 : (List (Int × (Int × (Int × Int))))) (x0_3 : ByteArray) (x0_4 : Int) (x0_5 : (List ByteArray)) (x0_6 : (List Int)) : runC cfg 1000001 J L none'' [] body (topK cfg Try.f36 k kp) (st0 Try.f36 [(.agg [(.v (.int IntKind.i64 x0_0)), (.v (.int IntKind.i64 x0_1_0)), (.v (.int IntKind.i64 x0_1_1)), (.v (.int IntKind.i64 x0_1_2)), (.v (.int IntKind.i64 x0_1_3)), (.fz (Ty.pair (Ty.int IntKind.i64) (Ty.pair (Ty.int IntKind.i64) (Ty.pair (Ty.int IntKind.i64) (Ty.int IntKind.i64)))) x0_2), (.v (.string x0_3)), (.v (.int IntKind.i64 x0_4)), (.fz Ty.str x0_5), (.fz (Ty.int IntKind.i64) x0_6)])] []) = c x0_0 x0_1_0 x0_1_1 x0_1_2 x0_1_3 x0_2 x0_3 x0_4 x0_5 x0_6 (fun y0 => k (.v (.string y0)) []) := by kernel_rfl
theorem c_ag (k kp : D → List Blk → Prop) : agPL cfg 1000001 (JJ k kp) (LL k kp) [] body = agPR cfg 1000001 none'' [] body (topK cfg Try.f36 k kp) := by kernel_rfl
theorem body_is : Try.f36.body = some body := by kernel_rfl
theorem c_raw (k kp : D → List Blk → Prop) (x0_0 : Int) (x0_1_0 : Int) (x0_1_1 : Int) (x0_1_2 : Int) (x0_1_3 : Int) (x0_2 : (List (Int × (Int × (Int × Int))))) (x0_3 : ByteArray) (x0_4 : Int) (x0_5 : (List ByteArray)) (x0_6 : (List Int)) : funW cfg Try.f36 [(.agg [(.v (.int IntKind.i64 x0_0)), (.v (.int IntKind.i64 x0_1_0)), (.v (.int IntKind.i64 x0_1_1)), (.v (.int IntKind.i64 x0_1_2)), (.v (.int IntKind.i64 x0_1_3)), (.fz (Ty.pair (Ty.int IntKind.i64) (Ty.pair (Ty.int IntKind.i64) (Ty.pair (Ty.int IntKind.i64) (Ty.int IntKind.i64)))) x0_2), (.v (.string x0_3)), (.v (.int IntKind.i64 x0_4)), (.fz Ty.str x0_5), (.fz (Ty.int IntKind.i64) x0_6)])] [] k kp = c x0_0 x0_1_0 x0_1_1 x0_1_2 x0_1_3 x0_2 x0_3 x0_4 x0_5 x0_6 (fun y0 => k (.v (.string y0)) []) :=
  Eq.mp (by kernel_rfl) ((funW_run (AG := none'') body_is (c_ag k kp) [(.agg [(.v (.int IntKind.i64 x0_0)), (.v (.int IntKind.i64 x0_1_0)), (.v (.int IntKind.i64 x0_1_1)), (.v (.int IntKind.i64 x0_1_2)), (.v (.int IntKind.i64 x0_1_3)), (.fz (Ty.pair (Ty.int IntKind.i64) (Ty.pair (Ty.int IntKind.i64) (Ty.pair (Ty.int IntKind.i64) (Ty.int IntKind.i64)))) x0_2), (.v (.string x0_3)), (.v (.int IntKind.i64 x0_4)), (.fz Ty.str x0_5), (.fz (Ty.int IntKind.i64) x0_6)])] []).trans (c_c k kp (JJ k kp) (LL k kp) x0_0 x0_1_0 x0_1_1 x0_1_2 x0_1_3 x0_2 x0_3 x0_4 x0_5 x0_6))
theorem f_eq (k kp : D → List Blk → Prop) (x0_0 : Int) (x0_1_0 : Int) (x0_1_1 : Int) (x0_1_2 : Int) (x0_1_3 : Int) (x0_2 : (List (Int × (Int × (Int × Int))))) (x0_3 : ByteArray) (x0_4 : Int) (x0_5 : (List ByteArray)) (x0_6 : (List Int)) : funW cfg Try.f36 [(.agg [(.v (.int IntKind.i64 x0_0)), (.v (.int IntKind.i64 x0_1_0)), (.v (.int IntKind.i64 x0_1_1)), (.v (.int IntKind.i64 x0_1_2)), (.v (.int IntKind.i64 x0_1_3)), (.fz (Ty.pair (Ty.int IntKind.i64) (Ty.pair (Ty.int IntKind.i64) (Ty.pair (Ty.int IntKind.i64) (Ty.int IntKind.i64)))) x0_2), (.v (.string x0_3)), (.v (.int IntKind.i64 x0_4)), (.fz Ty.str x0_5), (.fz (Ty.int IntKind.i64) x0_6)])] [] k kp = f x0_0 x0_1_0 x0_1_1 x0_1_2 x0_1_3 x0_2 x0_3 x0_4 x0_5 x0_6 (fun y0 => k (.v (.string y0)) []) := by
  rw [f_def, c_raw]; rfl
noncomputable def ent0 : Entry := fun args blks k _ => match args, blks with
  | [d0], [] => aAgg 10 d0 fun l => aCons l fun d0_0 l => aCons l fun d0_1 l => aCons l fun d0_2 l => aCons l fun d0_3 l => aCons l fun d0_4 l => aCons l fun d0_5 l => aCons l fun d0_6 l => aCons l fun d0_7 l => aCons l fun d0_8 l => aCons l fun d0_9 l => aNil l (aInt IntKind.i64 d0_0 fun x0_0 => aInt IntKind.i64 d0_1 fun x0_1_0 => aInt IntKind.i64 d0_2 fun x0_1_1 => aInt IntKind.i64 d0_3 fun x0_1_2 => aInt IntKind.i64 d0_4 fun x0_1_3 => aFz (Ty.pair (Ty.int IntKind.i64) (Ty.pair (Ty.int IntKind.i64) (Ty.pair (Ty.int IntKind.i64) (Ty.int IntKind.i64)))) d0_5 fun x0_2 => aStr d0_6 fun x0_3 => aInt IntKind.i64 d0_7 fun x0_4 => aFz Ty.str d0_8 fun x0_5 => aFz (Ty.int IntKind.i64) d0_9 fun x0_6 => f x0_0 x0_1_0 x0_1_1 x0_1_2 x0_1_3 x0_2 x0_3 x0_4 x0_5 x0_6 (fun y0 => k (.v (.string y0)) []))
  | _, _ => False
noncomputable def ent : Entry := fun args blks k kp => ent0 (convB [.cells [none, none, none, none, none, some (Ty.pair (Ty.int IntKind.i64) (Ty.pair (Ty.int IntKind.i64) (Ty.pair (Ty.int IntKind.i64) (Ty.int IntKind.i64)))), none, none, some Ty.str, some (Ty.int IntKind.i64)]] args) blks k kp
theorem ok : EntOk Try.prog 0 0 36 ent := by
  refine EntOk.convB (EntOk.of (funW_ok (cfg := cfg) (tyOk_of rfl rfl tyL_ok) (eqOk_of (P := Try.prog) rfl rfl (by kernel_rfl)) mixed_ok (tab_ok ?_) Try.func36 (by rfl) (by rfl)) ?_) _
  · intro p hp
    simp only [List.mem_cons, List.not_mem_nil, or_false] at hp
    rcases hp with rfl | rfl
    · exact N57.ok
    · exact N58.ok
  · intro args blks k kp h k' kp'
    match args, blks, h with
    | [d0], [], h =>
    dsimp only [ent0] at h
    have h9 := aAgg_elim h; clear h; obtain ⟨_, rfl, h⟩ := h9
    have h9 := aCons_elim h; clear h; obtain ⟨d0_0, _, rfl, h⟩ := h9
    have h9 := aCons_elim h; clear h; obtain ⟨d0_1, _, rfl, h⟩ := h9
    have h9 := aCons_elim h; clear h; obtain ⟨d0_2, _, rfl, h⟩ := h9
    have h9 := aCons_elim h; clear h; obtain ⟨d0_3, _, rfl, h⟩ := h9
    have h9 := aCons_elim h; clear h; obtain ⟨d0_4, _, rfl, h⟩ := h9
    have h9 := aCons_elim h; clear h; obtain ⟨d0_5, _, rfl, h⟩ := h9
    have h9 := aCons_elim h; clear h; obtain ⟨d0_6, _, rfl, h⟩ := h9
    have h9 := aCons_elim h; clear h; obtain ⟨d0_7, _, rfl, h⟩ := h9
    have h9 := aCons_elim h; clear h; obtain ⟨d0_8, _, rfl, h⟩ := h9
    have h9 := aCons_elim h; clear h; obtain ⟨d0_9, _, rfl, h⟩ := h9
    have h9 := aNil_elim h; clear h; obtain ⟨rfl, h⟩ := h9
    have h9 := aInt_elim h; clear h; obtain ⟨x0_0, rfl, h⟩ := h9
    have h9 := aInt_elim h; clear h; obtain ⟨x0_1_0, rfl, h⟩ := h9
    have h9 := aInt_elim h; clear h; obtain ⟨x0_1_1, rfl, h⟩ := h9
    have h9 := aInt_elim h; clear h; obtain ⟨x0_1_2, rfl, h⟩ := h9
    have h9 := aInt_elim h; clear h; obtain ⟨x0_1_3, rfl, h⟩ := h9
    have h9 := aFz_elim (t := (Ty.pair (Ty.int IntKind.i64) (Ty.pair (Ty.int IntKind.i64) (Ty.pair (Ty.int IntKind.i64) (Ty.int IntKind.i64))))) h; clear h; obtain ⟨x0_2, rfl, h⟩ := h9
    have h9 := aStr_elim h; clear h; obtain ⟨x0_3, rfl, h⟩ := h9
    have h9 := aInt_elim h; clear h; obtain ⟨x0_4, rfl, h⟩ := h9
    have h9 := aFz_elim (t := Ty.str) h; clear h; obtain ⟨x0_5, rfl, h⟩ := h9
    have h9 := aFz_elim (t := (Ty.int IntKind.i64)) h; clear h; obtain ⟨x0_6, rfl, h⟩ := h9
    exact (f_eq k' kp' x0_0 x0_1_0 x0_1_1 x0_1_2 x0_1_3 x0_2 x0_3 x0_4 x0_5 x0_6).symm
end N36
end Go.Proofs.Yc
namespace Go.Proofs.Yc
open Go Go.Aw Go.Proofs
set_option linter.unusedVariables false
set_option linter.unusedSimpArgs false
set_option maxRecDepth 100000
/-! dyehouse/show.parts -/
namespace N38
noncomputable def cfg : Cfg := { P := Try.prog, ty := tys, E := tab [(29, N29.ent), (43, N43.ent)], atSeq := tab [(2000005, ⟨[(1, .keep), (3, .keep), (9, .keep), (10, .keep)]⟩), (2000007, ⟨[(1, .keep), (3, .keep), (4, .keep), (22, .keep)]⟩), (2000010, ⟨[(1, .keep), (3, .keep), (33, .keep)]⟩), (11, ⟨[(3, .keep)]⟩)], atLoop := tab [], outs := [], eqT := tab [], bT := tab [], fzB := [1] }
noncomputable def body : Code := bodyOf Try.f38
def j2000005 (j2000007 : Int → Int → Int → Int → Int → (List (Int × (Int × (Int × Int)))) → ByteArray → Int → (List ByteArray) → (List Int) → Int → Bool → (List ByteArray) → Prop) (j2000010 : Int → Int → Int → Int → Int → (List (Int × (Int × (Int × Int)))) → ByteArray → Int → (List ByteArray) → (List Int) → Bool → (List ByteArray) → Prop) (x1_0 : Int) (x1_1 : Int) (x1_2 : Int) (x1_3 : Int) (x1_4 : Int) (x1_5 : (List (Int × (Int × (Int × Int))))) (x1_6 : ByteArray) (x1_7 : Int) (x1_8 : (List ByteArray)) (x1_9 : (List Int)) (x9 : Int) (x10 : Bool) (b0 : (List ByteArray)) (k : (List ByteArray) → Prop) : Prop :=
  (br x10 (br (decide ((IntKind.i64.wrap (((((b0).length : Nat) : Int)) - (1 : Int))) ≥ (0 : Int))) (j2000007 x1_0 x1_1 x1_2 x1_3 x1_4 x1_5 x1_6 x1_7 x1_8 x1_9 (IntKind.i64.wrap (((((b0).length : Nat) : Int)) - (1 : Int))) (x1_7 != (0 : Int)) b0) (j2000007 x1_0 x1_1 x1_2 x1_3 x1_4 x1_5 x1_6 x1_7 x1_8 x1_9 (IntKind.i64.wrap (((((b0).length : Nat) : Int)) - (1 : Int))) false b0)) (br (x9 == (20 : Int)) (j2000010 x1_0 x1_1 x1_2 x1_3 x1_4 x1_5 x1_6 x1_7 x1_8 x1_9 (x9 == (20 : Int)) b0) (j2000010 x1_0 x1_1 x1_2 x1_3 x1_4 x1_5 x1_6 x1_7 x1_8 x1_9 (x9 == (21 : Int)) b0)))
def j2000007 (j11 : (List ByteArray) → Prop) (x1_0 : Int) (x1_1 : Int) (x1_2 : Int) (x1_3 : Int) (x1_4 : Int) (x1_5 : (List (Int × (Int × (Int × Int))))) (x1_6 : ByteArray) (x1_7 : Int) (x1_8 : (List ByteArray)) (x1_9 : (List Int)) (x4 : Int) (x22 : Bool) (b0 : (List ByteArray)) (k : (List ByteArray) → Prop) : Prop :=
  (br x22 ((inB 0 x4 ((((b0).length : Nat) : Int) - 1)) ∧ (N43.f x1_7 (fun (y0_1 : ByteArray) => ((((ByteArray.mk #[32, 43, 32])).size + (y0_1).size ≤ 9223372036854775807) ∧ ((((b0.getD (Int.toNat x4) (ByteArray.empty))).size + (((ByteArray.mk #[32, 43, 32]) ++ y0_1)).size ≤ 9223372036854775807) ∧ ((inB 0 x4 ((((b0).length : Nat) : Int) - 1)) ∧ (j11 (b0.set (Int.toNat x4) ((b0.getD (Int.toNat x4) (ByteArray.empty)) ++ ((ByteArray.mk #[32, 43, 32]) ++ y0_1)))))))))) (j11 b0))
def j2000010 (j11 : (List ByteArray) → Prop) (x1_0 : Int) (x1_1 : Int) (x1_2 : Int) (x1_3 : Int) (x1_4 : Int) (x1_5 : (List (Int × (Int × (Int × Int))))) (x1_6 : ByteArray) (x1_7 : Int) (x1_8 : (List ByteArray)) (x1_9 : (List Int)) (x33 : Bool) (b0 : (List ByteArray)) (k : (List ByteArray) → Prop) : Prop :=
  (br x33 ((room ((b0).length + (x1_8).length) 16) ∧ (j11 (b0 ++ x1_8))) (j11 b0))
def j11 (b0 : (List ByteArray)) (k : (List ByteArray) → Prop) : Prop :=
  (k b0)
def c (j2000005 : Int → Int → Int → Int → Int → (List (Int × (Int × (Int × Int)))) → ByteArray → Int → (List ByteArray) → (List Int) → Int → Bool → (List ByteArray) → Prop) (x0_0 : Int) (x0_1_0 : Int) (x0_1_1 : Int) (x0_1_2 : Int) (x0_1_3 : Int) (x0_2 : (List (Int × (Int × (Int × Int))))) (x0_3 : ByteArray) (x0_4 : Int) (x0_5 : (List ByteArray)) (x0_6 : (List Int)) (k : (List ByteArray) → Prop) : Prop :=
  (N29.f x0_2 (fun (z0_0 : (List ByteArray)) => (br (x0_0 == (17 : Int)) (j2000005 x0_0 x0_1_0 x0_1_1 x0_1_2 x0_1_3 x0_2 x0_3 x0_4 x0_5 x0_6 x0_0 (x0_0 == (17 : Int)) z0_0) (j2000005 x0_0 x0_1_0 x0_1_1 x0_1_2 x0_1_3 x0_2 x0_3 x0_4 x0_5 x0_6 x0_0 (x0_0 == (18 : Int)) z0_0))))
def j11' (b0 : (List ByteArray)) (k : (List ByteArray) → Prop) : Prop := j11 b0 k
def j2000007' (x1_0 : Int) (x1_1 : Int) (x1_2 : Int) (x1_3 : Int) (x1_4 : Int) (x1_5 : (List (Int × (Int × (Int × Int))))) (x1_6 : ByteArray) (x1_7 : Int) (x1_8 : (List ByteArray)) (x1_9 : (List Int)) (x4 : Int) (x22 : Bool) (b0 : (List ByteArray)) (k : (List ByteArray) → Prop) : Prop := j2000007 (fun b0 => j11' b0 k) x1_0 x1_1 x1_2 x1_3 x1_4 x1_5 x1_6 x1_7 x1_8 x1_9 x4 x22 b0 k
def j2000010' (x1_0 : Int) (x1_1 : Int) (x1_2 : Int) (x1_3 : Int) (x1_4 : Int) (x1_5 : (List (Int × (Int × (Int × Int))))) (x1_6 : ByteArray) (x1_7 : Int) (x1_8 : (List ByteArray)) (x1_9 : (List Int)) (x33 : Bool) (b0 : (List ByteArray)) (k : (List ByteArray) → Prop) : Prop := j2000010 (fun b0 => j11' b0 k) x1_0 x1_1 x1_2 x1_3 x1_4 x1_5 x1_6 x1_7 x1_8 x1_9 x33 b0 k
def j2000005' (x1_0 : Int) (x1_1 : Int) (x1_2 : Int) (x1_3 : Int) (x1_4 : Int) (x1_5 : (List (Int × (Int × (Int × Int))))) (x1_6 : ByteArray) (x1_7 : Int) (x1_8 : (List ByteArray)) (x1_9 : (List Int)) (x9 : Int) (x10 : Bool) (b0 : (List ByteArray)) (k : (List ByteArray) → Prop) : Prop := j2000005 (fun x1_0 x1_1 x1_2 x1_3 x1_4 x1_5 x1_6 x1_7 x1_8 x1_9 x4 x22 b0 => j2000007' x1_0 x1_1 x1_2 x1_3 x1_4 x1_5 x1_6 x1_7 x1_8 x1_9 x4 x22 b0 k) (fun x1_0 x1_1 x1_2 x1_3 x1_4 x1_5 x1_6 x1_7 x1_8 x1_9 x33 b0 => j2000010' x1_0 x1_1 x1_2 x1_3 x1_4 x1_5 x1_6 x1_7 x1_8 x1_9 x33 b0 k) x1_0 x1_1 x1_2 x1_3 x1_4 x1_5 x1_6 x1_7 x1_8 x1_9 x9 x10 b0 k
def f0 (x0_0 : Int) (x0_1_0 : Int) (x0_1_1 : Int) (x0_1_2 : Int) (x0_1_3 : Int) (x0_2 : (List (Int × (Int × (Int × Int))))) (x0_3 : ByteArray) (x0_4 : Int) (x0_5 : (List ByteArray)) (x0_6 : (List Int)) (k : (List ByteArray) → Prop) : Prop := c (fun x1_0 x1_1 x1_2 x1_3 x1_4 x1_5 x1_6 x1_7 x1_8 x1_9 x9 x10 b0 => j2000005' x1_0 x1_1 x1_2 x1_3 x1_4 x1_5 x1_6 x1_7 x1_8 x1_9 x9 x10 b0 k) x0_0 x0_1_0 x0_1_1 x0_1_2 x0_1_3 x0_2 x0_3 x0_4 x0_5 x0_6 k
theorem f_ex : ∃ g : Int → Int → Int → Int → Int → (List (Int × (Int × (Int × Int)))) → ByteArray → Int → (List ByteArray) → (List Int) → ((List ByteArray) → Prop) → Prop, g = f0 := ⟨_, rfl⟩
noncomputable def f : Int → Int → Int → Int → Int → (List (Int × (Int × (Int × Int)))) → ByteArray → Int → (List ByteArray) → (List Int) → ((List ByteArray) → Prop) → Prop := Classical.choose f_ex
theorem f_def : f = f0 := Classical.choose_spec f_ex
def m2000005 (x1_0 : Int) (x1_1 : Int) (x1_2 : Int) (x1_3 : Int) (x1_4 : Int) (x1_5 : (List (Int × (Int × (Int × Int))))) (x1_6 : ByteArray) (x1_7 : Int) (x1_8 : (List ByteArray)) (x1_9 : (List Int)) (x9 : Int) (x10 : Bool) (b0 : (List ByteArray)) : St := { tmps := mkT 41 0 [(1, (.fp [(.v (.int IntKind.i64 x1_0)), (.v (.int IntKind.i64 x1_1)), (.v (.int IntKind.i64 x1_2)), (.v (.int IntKind.i64 x1_3)), (.v (.int IntKind.i64 x1_4)), (.fz (Ty.pair (Ty.int IntKind.i64) (Ty.pair (Ty.int IntKind.i64) (Ty.pair (Ty.int IntKind.i64) (Ty.int IntKind.i64)))) x1_5), (.v (.string x1_6)), (.v (.int IntKind.i64 x1_7)), (.fz Ty.str x1_8), (.fz (Ty.int IntKind.i64) x1_9)])), (3, (.sl 0 0)), (9, (.v (.int IntKind.i64 x9))), (10, (.v (.bool x10)))], hp := [(.lst 9 Ty.str b0 0 false)], m := 0 }
def m2000007 (x1_0 : Int) (x1_1 : Int) (x1_2 : Int) (x1_3 : Int) (x1_4 : Int) (x1_5 : (List (Int × (Int × (Int × Int))))) (x1_6 : ByteArray) (x1_7 : Int) (x1_8 : (List ByteArray)) (x1_9 : (List Int)) (x4 : Int) (x22 : Bool) (b0 : (List ByteArray)) : St := { tmps := mkT 41 0 [(1, (.fp [(.v (.int IntKind.i64 x1_0)), (.v (.int IntKind.i64 x1_1)), (.v (.int IntKind.i64 x1_2)), (.v (.int IntKind.i64 x1_3)), (.v (.int IntKind.i64 x1_4)), (.fz (Ty.pair (Ty.int IntKind.i64) (Ty.pair (Ty.int IntKind.i64) (Ty.pair (Ty.int IntKind.i64) (Ty.int IntKind.i64)))) x1_5), (.v (.string x1_6)), (.v (.int IntKind.i64 x1_7)), (.fz Ty.str x1_8), (.fz (Ty.int IntKind.i64) x1_9)])), (3, (.sl 0 0)), (4, (.v (.int IntKind.i64 x4))), (22, (.v (.bool x22)))], hp := [(.lst 9 Ty.str b0 0 false)], m := 0 }
def m2000010 (x1_0 : Int) (x1_1 : Int) (x1_2 : Int) (x1_3 : Int) (x1_4 : Int) (x1_5 : (List (Int × (Int × (Int × Int))))) (x1_6 : ByteArray) (x1_7 : Int) (x1_8 : (List ByteArray)) (x1_9 : (List Int)) (x33 : Bool) (b0 : (List ByteArray)) : St := { tmps := mkT 41 0 [(1, (.fp [(.v (.int IntKind.i64 x1_0)), (.v (.int IntKind.i64 x1_1)), (.v (.int IntKind.i64 x1_2)), (.v (.int IntKind.i64 x1_3)), (.v (.int IntKind.i64 x1_4)), (.fz (Ty.pair (Ty.int IntKind.i64) (Ty.pair (Ty.int IntKind.i64) (Ty.pair (Ty.int IntKind.i64) (Ty.int IntKind.i64)))) x1_5), (.v (.string x1_6)), (.v (.int IntKind.i64 x1_7)), (.fz Ty.str x1_8), (.fz (Ty.int IntKind.i64) x1_9)])), (3, (.sl 0 0)), (33, (.v (.bool x33)))], hp := [(.lst 9 Ty.str b0 0 false)], m := 0 }
def m11 (b0 : (List ByteArray)) : St := { tmps := mkT 41 0 [(3, (.sl 0 0))], hp := [(.lst 9 Ty.str b0 0 false)], m := 0 }
noncomputable def X2000005 (k kp : D → List Blk → Prop) : St → Prop := atP cfg (pick none' []) [1, 1, 0, 1, 0, 1] body (topK cfg Try.f38 k kp)
noncomputable def X2000007 (k kp : D → List Blk → Prop) : St → Prop := atP cfg (pick none' []) [1, 1, 0, 1, 0, 1, 0, 1, 1] body (topK cfg Try.f38 k kp)
noncomputable def X2000010 (k kp : D → List Blk → Prop) : St → Prop := atP cfg (pick none' []) [1, 1, 0, 1, 0, 1, 1, 1] body (topK cfg Try.f38 k kp)
noncomputable def X11 (k kp : D → List Blk → Prop) : St → Prop := atP cfg (pick none' []) [1, 1, 1] body (topK cfg Try.f38 k kp)
noncomputable def JJ (k kp : D → List Blk → Prop) : Nat → St → Prop := pick none' [(2000005, X2000005 k kp), (2000007, X2000007 k kp), (2000010, X2000010 k kp), (11, X11 k kp)]
noncomputable def LL (k kp : D → List Blk → Prop) : Nat → St → Prop := pick none' []
theorem j11_c (k kp : D → List Blk → Prop) (J L : Nat → St → Prop) (b0 : (List ByteArray)) : runC cfg 11 J L (pick none' []) [1, 1, 1] body (topK cfg Try.f38 k kp) (m11 b0) = j11 b0 (fun z0 => k (.sl 0 0) [(.lst 9 Ty.str z0 0 false)]) := by kernel_rfl
theorem j11_ag (k kp : D → List Blk → Prop) : agPL cfg 11 (JJ k kp) (LL k kp) [1, 1, 1] body = agPR cfg 11 (pick none' []) [1, 1, 1] body (topK cfg Try.f38 k kp) := by kernel_rfl
theorem j11_raw (k kp : D → List Blk → Prop) (b0 : (List ByteArray)) : X11 k kp (m11 b0) = j11 b0 (fun z0 => k (.sl 0 0) [(.lst 9 Ty.str z0 0 false)]) :=
  Eq.mp (by kernel_rfl) ((atP_run (j11_ag k kp) (m11 b0)).trans (j11_c k kp (JJ k kp) (LL k kp) b0))
theorem j11_eq (k kp : D → List Blk → Prop) (b0 : (List ByteArray)) : X11 k kp (m11 b0) = j11' b0 (fun z0 => k (.sl 0 0) [(.lst 9 Ty.str z0 0 false)]) := by
  rw [j11_raw]; rfl
theorem j2000007_c (k kp : D → List Blk → Prop) (J L : Nat → St → Prop) (x1_0 : Int) (x1_1 : Int) (x1_2 : Int) (x1_3 : Int) (x1_4 : Int) (x1_5 : (List (Int × (Int × (Int × Int))))) (x1_6 : ByteArray) (x1_7 : Int) (x1_8 : (List ByteArray)) (x1_9 : (List Int)) (x4 : Int) (x22 : Bool) (b0 : (List ByteArray)) : runC cfg 2000007 J L (pick none' []) [1, 1, 0, 1, 0, 1, 0, 1, 1] body (topK cfg Try.f38 k kp) (m2000007 x1_0 x1_1 x1_2 x1_3 x1_4 x1_5 x1_6 x1_7 x1_8 x1_9 x4 x22 b0) = j2000007 (fun b0 => J 11 (m11 b0)) x1_0 x1_1 x1_2 x1_3 x1_4 x1_5 x1_6 x1_7 x1_8 x1_9 x4 x22 b0 (fun z0 => k (.sl 0 0) [(.lst 9 Ty.str z0 0 false)]) := by kernel_rfl
theorem j2000007_ag (k kp : D → List Blk → Prop) : agPL cfg 2000007 (JJ k kp) (LL k kp) [1, 1, 0, 1, 0, 1, 0, 1, 1] body = agPR cfg 2000007 (pick none' []) [1, 1, 0, 1, 0, 1, 0, 1, 1] body (topK cfg Try.f38 k kp) := by kernel_rfl
theorem j2000007_raw (k kp : D → List Blk → Prop) (x1_0 : Int) (x1_1 : Int) (x1_2 : Int) (x1_3 : Int) (x1_4 : Int) (x1_5 : (List (Int × (Int × (Int × Int))))) (x1_6 : ByteArray) (x1_7 : Int) (x1_8 : (List ByteArray)) (x1_9 : (List Int)) (x4 : Int) (x22 : Bool) (b0 : (List ByteArray)) : X2000007 k kp (m2000007 x1_0 x1_1 x1_2 x1_3 x1_4 x1_5 x1_6 x1_7 x1_8 x1_9 x4 x22 b0) = j2000007 (fun b0 => X11 k kp (m11 b0)) x1_0 x1_1 x1_2 x1_3 x1_4 x1_5 x1_6 x1_7 x1_8 x1_9 x4 x22 b0 (fun z0 => k (.sl 0 0) [(.lst 9 Ty.str z0 0 false)]) :=
  Eq.mp (by kernel_rfl) ((atP_run (j2000007_ag k kp) (m2000007 x1_0 x1_1 x1_2 x1_3 x1_4 x1_5 x1_6 x1_7 x1_8 x1_9 x4 x22 b0)).trans (j2000007_c k kp (JJ k kp) (LL k kp) x1_0 x1_1 x1_2 x1_3 x1_4 x1_5 x1_6 x1_7 x1_8 x1_9 x4 x22 b0))
theorem j2000007_eq (k kp : D → List Blk → Prop) (x1_0 : Int) (x1_1 : Int) (x1_2 : Int) (x1_3 : Int) (x1_4 : Int) (x1_5 : (List (Int × (Int × (Int × Int))))) (x1_6 : ByteArray) (x1_7 : Int) (x1_8 : (List ByteArray)) (x1_9 : (List Int)) (x4 : Int) (x22 : Bool) (b0 : (List ByteArray)) : X2000007 k kp (m2000007 x1_0 x1_1 x1_2 x1_3 x1_4 x1_5 x1_6 x1_7 x1_8 x1_9 x4 x22 b0) = j2000007' x1_0 x1_1 x1_2 x1_3 x1_4 x1_5 x1_6 x1_7 x1_8 x1_9 x4 x22 b0 (fun z0 => k (.sl 0 0) [(.lst 9 Ty.str z0 0 false)]) := by
  rw [j2000007_raw]; simp only [j11_eq]; first | done | rfl
theorem j2000010_c (k kp : D → List Blk → Prop) (J L : Nat → St → Prop) (x1_0 : Int) (x1_1 : Int) (x1_2 : Int) (x1_3 : Int) (x1_4 : Int) (x1_5 : (List (Int × (Int × (Int × Int))))) (x1_6 : ByteArray) (x1_7 : Int) (x1_8 : (List ByteArray)) (x1_9 : (List Int)) (x33 : Bool) (b0 : (List ByteArray)) : runC cfg 2000010 J L (pick none' []) [1, 1, 0, 1, 0, 1, 1, 1] body (topK cfg Try.f38 k kp) (m2000010 x1_0 x1_1 x1_2 x1_3 x1_4 x1_5 x1_6 x1_7 x1_8 x1_9 x33 b0) = j2000010 (fun b0 => J 11 (m11 b0)) x1_0 x1_1 x1_2 x1_3 x1_4 x1_5 x1_6 x1_7 x1_8 x1_9 x33 b0 (fun z0 => k (.sl 0 0) [(.lst 9 Ty.str z0 0 false)]) := by kernel_rfl
theorem j2000010_ag (k kp : D → List Blk → Prop) : agPL cfg 2000010 (JJ k kp) (LL k kp) [1, 1, 0, 1, 0, 1, 1, 1] body = agPR cfg 2000010 (pick none' []) [1, 1, 0, 1, 0, 1, 1, 1] body (topK cfg Try.f38 k kp) := by kernel_rfl
theorem j2000010_raw (k kp : D → List Blk → Prop) (x1_0 : Int) (x1_1 : Int) (x1_2 : Int) (x1_3 : Int) (x1_4 : Int) (x1_5 : (List (Int × (Int × (Int × Int))))) (x1_6 : ByteArray) (x1_7 : Int) (x1_8 : (List ByteArray)) (x1_9 : (List Int)) (x33 : Bool) (b0 : (List ByteArray)) : X2000010 k kp (m2000010 x1_0 x1_1 x1_2 x1_3 x1_4 x1_5 x1_6 x1_7 x1_8 x1_9 x33 b0) = j2000010 (fun b0 => X11 k kp (m11 b0)) x1_0 x1_1 x1_2 x1_3 x1_4 x1_5 x1_6 x1_7 x1_8 x1_9 x33 b0 (fun z0 => k (.sl 0 0) [(.lst 9 Ty.str z0 0 false)]) :=
  Eq.mp (by kernel_rfl) ((atP_run (j2000010_ag k kp) (m2000010 x1_0 x1_1 x1_2 x1_3 x1_4 x1_5 x1_6 x1_7 x1_8 x1_9 x33 b0)).trans (j2000010_c k kp (JJ k kp) (LL k kp) x1_0 x1_1 x1_2 x1_3 x1_4 x1_5 x1_6 x1_7 x1_8 x1_9 x33 b0))
theorem j2000010_eq (k kp : D → List Blk → Prop) (x1_0 : Int) (x1_1 : Int) (x1_2 : Int) (x1_3 : Int) (x1_4 : Int) (x1_5 : (List (Int × (Int × (Int × Int))))) (x1_6 : ByteArray) (x1_7 : Int) (x1_8 : (List ByteArray)) (x1_9 : (List Int)) (x33 : Bool) (b0 : (List ByteArray)) : X2000010 k kp (m2000010 x1_0 x1_1 x1_2 x1_3 x1_4 x1_5 x1_6 x1_7 x1_8 x1_9 x33 b0) = j2000010' x1_0 x1_1 x1_2 x1_3 x1_4 x1_5 x1_6 x1_7 x1_8 x1_9 x33 b0 (fun z0 => k (.sl 0 0) [(.lst 9 Ty.str z0 0 false)]) := by
  rw [j2000010_raw]; simp only [j11_eq]; first | done | rfl
theorem j2000005_c (k kp : D → List Blk → Prop) (J L : Nat → St → Prop) (x1_0 : Int) (x1_1 : Int) (x1_2 : Int) (x1_3 : Int) (x1_4 : Int) (x1_5 : (List (Int × (Int × (Int × Int))))) (x1_6 : ByteArray) (x1_7 : Int) (x1_8 : (List ByteArray)) (x1_9 : (List Int)) (x9 : Int) (x10 : Bool) (b0 : (List ByteArray)) : runC cfg 2000005 J L (pick none' []) [1, 1, 0, 1, 0, 1] body (topK cfg Try.f38 k kp) (m2000005 x1_0 x1_1 x1_2 x1_3 x1_4 x1_5 x1_6 x1_7 x1_8 x1_9 x9 x10 b0) = j2000005 (fun x1_0 x1_1 x1_2 x1_3 x1_4 x1_5 x1_6 x1_7 x1_8 x1_9 x4 x22 b0 => J 2000007 (m2000007 x1_0 x1_1 x1_2 x1_3 x1_4 x1_5 x1_6 x1_7 x1_8 x1_9 x4 x22 b0)) (fun x1_0 x1_1 x1_2 x1_3 x1_4 x1_5 x1_6 x1_7 x1_8 x1_9 x33 b0 => J 2000010 (m2000010 x1_0 x1_1 x1_2 x1_3 x1_4 x1_5 x1_6 x1_7 x1_8 x1_9 x33 b0)) x1_0 x1_1 x1_2 x1_3 x1_4 x1_5 x1_6 x1_7 x1_8 x1_9 x9 x10 b0 (fun z0 => k (.sl 0 0) [(.lst 9 Ty.str z0 0 false)]) := by kernel_rfl
theorem j2000005_ag (k kp : D → List Blk → Prop) : agPL cfg 2000005 (JJ k kp) (LL k kp) [1, 1, 0, 1, 0, 1] body = agPR cfg 2000005 (pick none' []) [1, 1, 0, 1, 0, 1] body (topK cfg Try.f38 k kp) := by kernel_rfl
theorem j2000005_raw (k kp : D → List Blk → Prop) (x1_0 : Int) (x1_1 : Int) (x1_2 : Int) (x1_3 : Int) (x1_4 : Int) (x1_5 : (List (Int × (Int × (Int × Int))))) (x1_6 : ByteArray) (x1_7 : Int) (x1_8 : (List ByteArray)) (x1_9 : (List Int)) (x9 : Int) (x10 : Bool) (b0 : (List ByteArray)) : X2000005 k kp (m2000005 x1_0 x1_1 x1_2 x1_3 x1_4 x1_5 x1_6 x1_7 x1_8 x1_9 x9 x10 b0) = j2000005 (fun x1_0 x1_1 x1_2 x1_3 x1_4 x1_5 x1_6 x1_7 x1_8 x1_9 x4 x22 b0 => X2000007 k kp (m2000007 x1_0 x1_1 x1_2 x1_3 x1_4 x1_5 x1_6 x1_7 x1_8 x1_9 x4 x22 b0)) (fun x1_0 x1_1 x1_2 x1_3 x1_4 x1_5 x1_6 x1_7 x1_8 x1_9 x33 b0 => X2000010 k kp (m2000010 x1_0 x1_1 x1_2 x1_3 x1_4 x1_5 x1_6 x1_7 x1_8 x1_9 x33 b0)) x1_0 x1_1 x1_2 x1_3 x1_4 x1_5 x1_6 x1_7 x1_8 x1_9 x9 x10 b0 (fun z0 => k (.sl 0 0) [(.lst 9 Ty.str z0 0 false)]) :=
  Eq.mp (by kernel_rfl) ((atP_run (j2000005_ag k kp) (m2000005 x1_0 x1_1 x1_2 x1_3 x1_4 x1_5 x1_6 x1_7 x1_8 x1_9 x9 x10 b0)).trans (j2000005_c k kp (JJ k kp) (LL k kp) x1_0 x1_1 x1_2 x1_3 x1_4 x1_5 x1_6 x1_7 x1_8 x1_9 x9 x10 b0))
theorem j2000005_eq (k kp : D → List Blk → Prop) (x1_0 : Int) (x1_1 : Int) (x1_2 : Int) (x1_3 : Int) (x1_4 : Int) (x1_5 : (List (Int × (Int × (Int × Int))))) (x1_6 : ByteArray) (x1_7 : Int) (x1_8 : (List ByteArray)) (x1_9 : (List Int)) (x9 : Int) (x10 : Bool) (b0 : (List ByteArray)) : X2000005 k kp (m2000005 x1_0 x1_1 x1_2 x1_3 x1_4 x1_5 x1_6 x1_7 x1_8 x1_9 x9 x10 b0) = j2000005' x1_0 x1_1 x1_2 x1_3 x1_4 x1_5 x1_6 x1_7 x1_8 x1_9 x9 x10 b0 (fun z0 => k (.sl 0 0) [(.lst 9 Ty.str z0 0 false)]) := by
  rw [j2000005_raw]; simp only [j2000007_eq, j2000010_eq]; first | done | rfl
theorem c_c (k kp : D → List Blk → Prop) (J L : Nat → St → Prop) (x0_0 : Int) (x0_1_0 : Int) (x0_1_1 : Int) (x0_1_2 : Int) (x0_1_3 : Int) (x0_2 : (List (Int × (Int × (Int × Int))))) (x0_3 : ByteArray) (x0_4 : Int) (x0_5 : (List ByteArray)) (x0_6 : (List Int)) : runC cfg 1000001 J L none'' [] body (topK cfg Try.f38 k kp) (st0 Try.f38 [(.agg [(.v (.int IntKind.i64 x0_0)), (.v (.int IntKind.i64 x0_1_0)), (.v (.int IntKind.i64 x0_1_1)), (.v (.int IntKind.i64 x0_1_2)), (.v (.int IntKind.i64 x0_1_3)), (.fz (Ty.pair (Ty.int IntKind.i64) (Ty.pair (Ty.int IntKind.i64) (Ty.pair (Ty.int IntKind.i64) (Ty.int IntKind.i64)))) x0_2), (.v (.string x0_3)), (.v (.int IntKind.i64 x0_4)), (.fz Ty.str x0_5), (.fz (Ty.int IntKind.i64) x0_6)])] []) = c (fun x1_0 x1_1 x1_2 x1_3 x1_4 x1_5 x1_6 x1_7 x1_8 x1_9 x9 x10 b0 => J 2000005 (m2000005 x1_0 x1_1 x1_2 x1_3 x1_4 x1_5 x1_6 x1_7 x1_8 x1_9 x9 x10 b0)) x0_0 x0_1_0 x0_1_1 x0_1_2 x0_1_3 x0_2 x0_3 x0_4 x0_5 x0_6 (fun z0 => k (.sl 0 0) [(.lst 9 Ty.str z0 0 false)]) := by kernel_rfl
theorem c_ag (k kp : D → List Blk → Prop) : agPL cfg 1000001 (JJ k kp) (LL k kp) [] body = agPR cfg 1000001 none'' [] body (topK cfg Try.f38 k kp) := by kernel_rfl
theorem body_is : Try.f38.body = some body := by kernel_rfl
theorem c_raw (k kp : D → List Blk → Prop) (x0_0 : Int) (x0_1_0 : Int) (x0_1_1 : Int) (x0_1_2 : Int) (x0_1_3 : Int) (x0_2 : (List (Int × (Int × (Int × Int))))) (x0_3 : ByteArray) (x0_4 : Int) (x0_5 : (List ByteArray)) (x0_6 : (List Int)) : funW cfg Try.f38 [(.agg [(.v (.int IntKind.i64 x0_0)), (.v (.int IntKind.i64 x0_1_0)), (.v (.int IntKind.i64 x0_1_1)), (.v (.int IntKind.i64 x0_1_2)), (.v (.int IntKind.i64 x0_1_3)), (.fz (Ty.pair (Ty.int IntKind.i64) (Ty.pair (Ty.int IntKind.i64) (Ty.pair (Ty.int IntKind.i64) (Ty.int IntKind.i64)))) x0_2), (.v (.string x0_3)), (.v (.int IntKind.i64 x0_4)), (.fz Ty.str x0_5), (.fz (Ty.int IntKind.i64) x0_6)])] [] k kp = c (fun x1_0 x1_1 x1_2 x1_3 x1_4 x1_5 x1_6 x1_7 x1_8 x1_9 x9 x10 b0 => X2000005 k kp (m2000005 x1_0 x1_1 x1_2 x1_3 x1_4 x1_5 x1_6 x1_7 x1_8 x1_9 x9 x10 b0)) x0_0 x0_1_0 x0_1_1 x0_1_2 x0_1_3 x0_2 x0_3 x0_4 x0_5 x0_6 (fun z0 => k (.sl 0 0) [(.lst 9 Ty.str z0 0 false)]) :=
  Eq.mp (by kernel_rfl) ((funW_run (AG := none'') body_is (c_ag k kp) [(.agg [(.v (.int IntKind.i64 x0_0)), (.v (.int IntKind.i64 x0_1_0)), (.v (.int IntKind.i64 x0_1_1)), (.v (.int IntKind.i64 x0_1_2)), (.v (.int IntKind.i64 x0_1_3)), (.fz (Ty.pair (Ty.int IntKind.i64) (Ty.pair (Ty.int IntKind.i64) (Ty.pair (Ty.int IntKind.i64) (Ty.int IntKind.i64)))) x0_2), (.v (.string x0_3)), (.v (.int IntKind.i64 x0_4)), (.fz Ty.str x0_5), (.fz (Ty.int IntKind.i64) x0_6)])] []).trans (c_c k kp (JJ k kp) (LL k kp) x0_0 x0_1_0 x0_1_1 x0_1_2 x0_1_3 x0_2 x0_3 x0_4 x0_5 x0_6))
theorem f_eq (k kp : D → List Blk → Prop) (x0_0 : Int) (x0_1_0 : Int) (x0_1_1 : Int) (x0_1_2 : Int) (x0_1_3 : Int) (x0_2 : (List (Int × (Int × (Int × Int))))) (x0_3 : ByteArray) (x0_4 : Int) (x0_5 : (List ByteArray)) (x0_6 : (List Int)) : funW cfg Try.f38 [(.agg [(.v (.int IntKind.i64 x0_0)), (.v (.int IntKind.i64 x0_1_0)), (.v (.int IntKind.i64 x0_1_1)), (.v (.int IntKind.i64 x0_1_2)), (.v (.int IntKind.i64 x0_1_3)), (.fz (Ty.pair (Ty.int IntKind.i64) (Ty.pair (Ty.int IntKind.i64) (Ty.pair (Ty.int IntKind.i64) (Ty.int IntKind.i64)))) x0_2), (.v (.string x0_3)), (.v (.int IntKind.i64 x0_4)), (.fz Ty.str x0_5), (.fz (Ty.int IntKind.i64) x0_6)])] [] k kp = f x0_0 x0_1_0 x0_1_1 x0_1_2 x0_1_3 x0_2 x0_3 x0_4 x0_5 x0_6 (fun z0 => k (.sl 0 0) [(.lst 9 Ty.str z0 0 false)]) := by
  rw [f_def, c_raw]; simp only [j2000005_eq]; first | done | rfl
noncomputable def ent0 : Entry := fun args blks k _ => match args, blks with
  | [d0], [] => aAgg 10 d0 fun l => aCons l fun d0_0 l => aCons l fun d0_1 l => aCons l fun d0_2 l => aCons l fun d0_3 l => aCons l fun d0_4 l => aCons l fun d0_5 l => aCons l fun d0_6 l => aCons l fun d0_7 l => aCons l fun d0_8 l => aCons l fun d0_9 l => aNil l (aInt IntKind.i64 d0_0 fun x0_0 => aInt IntKind.i64 d0_1 fun x0_1_0 => aInt IntKind.i64 d0_2 fun x0_1_1 => aInt IntKind.i64 d0_3 fun x0_1_2 => aInt IntKind.i64 d0_4 fun x0_1_3 => aFz (Ty.pair (Ty.int IntKind.i64) (Ty.pair (Ty.int IntKind.i64) (Ty.pair (Ty.int IntKind.i64) (Ty.int IntKind.i64)))) d0_5 fun x0_2 => aStr d0_6 fun x0_3 => aInt IntKind.i64 d0_7 fun x0_4 => aFz Ty.str d0_8 fun x0_5 => aFz (Ty.int IntKind.i64) d0_9 fun x0_6 => f x0_0 x0_1_0 x0_1_1 x0_1_2 x0_1_3 x0_2 x0_3 x0_4 x0_5 x0_6 (fun z0 => k (.sl 0 0) [(.lst 9 Ty.str z0 0 false)]))
  | _, _ => False
noncomputable def ent : Entry := fun args blks k kp => ent0 (convB [.cells [none, none, none, none, none, some (Ty.pair (Ty.int IntKind.i64) (Ty.pair (Ty.int IntKind.i64) (Ty.pair (Ty.int IntKind.i64) (Ty.int IntKind.i64)))), none, none, some Ty.str, some (Ty.int IntKind.i64)]] args) blks k kp
theorem ok : EntOk Try.prog 0 0 38 ent := by
  refine EntOk.convB (EntOk.of (funW_ok (cfg := cfg) (tyOk_of rfl rfl tyL_ok) (eqOk_of (P := Try.prog) rfl rfl (by kernel_rfl)) mixed_ok (tab_ok ?_) Try.func38 (by rfl) (by rfl)) ?_) _
  · intro p hp
    simp only [List.mem_cons, List.not_mem_nil, or_false] at hp
    rcases hp with rfl | rfl
    · exact N29.ok
    · exact N43.ok
  · intro args blks k kp h k' kp'
    match args, blks, h with
    | [d0], [], h =>
    dsimp only [ent0] at h
    have h9 := aAgg_elim h; clear h; obtain ⟨_, rfl, h⟩ := h9
    have h9 := aCons_elim h; clear h; obtain ⟨d0_0, _, rfl, h⟩ := h9
    have h9 := aCons_elim h; clear h; obtain ⟨d0_1, _, rfl, h⟩ := h9
    have h9 := aCons_elim h; clear h; obtain ⟨d0_2, _, rfl, h⟩ := h9
    have h9 := aCons_elim h; clear h; obtain ⟨d0_3, _, rfl, h⟩ := h9
    have h9 := aCons_elim h; clear h; obtain ⟨d0_4, _, rfl, h⟩ := h9
    have h9 := aCons_elim h; clear h; obtain ⟨d0_5, _, rfl, h⟩ := h9
    have h9 := aCons_elim h; clear h; obtain ⟨d0_6, _, rfl, h⟩ := h9
    have h9 := aCons_elim h; clear h; obtain ⟨d0_7, _, rfl, h⟩ := h9
    have h9 := aCons_elim h; clear h; obtain ⟨d0_8, _, rfl, h⟩ := h9
    have h9 := aCons_elim h; clear h; obtain ⟨d0_9, _, rfl, h⟩ := h9
    have h9 := aNil_elim h; clear h; obtain ⟨rfl, h⟩ := h9
    have h9 := aInt_elim h; clear h; obtain ⟨x0_0, rfl, h⟩ := h9
    have h9 := aInt_elim h; clear h; obtain ⟨x0_1_0, rfl, h⟩ := h9
    have h9 := aInt_elim h; clear h; obtain ⟨x0_1_1, rfl, h⟩ := h9
    have h9 := aInt_elim h; clear h; obtain ⟨x0_1_2, rfl, h⟩ := h9
    have h9 := aInt_elim h; clear h; obtain ⟨x0_1_3, rfl, h⟩ := h9
    have h9 := aFz_elim (t := (Ty.pair (Ty.int IntKind.i64) (Ty.pair (Ty.int IntKind.i64) (Ty.pair (Ty.int IntKind.i64) (Ty.int IntKind.i64))))) h; clear h; obtain ⟨x0_2, rfl, h⟩ := h9
    have h9 := aStr_elim h; clear h; obtain ⟨x0_3, rfl, h⟩ := h9
    have h9 := aInt_elim h; clear h; obtain ⟨x0_4, rfl, h⟩ := h9
    have h9 := aFz_elim (t := Ty.str) h; clear h; obtain ⟨x0_5, rfl, h⟩ := h9
    have h9 := aFz_elim (t := (Ty.int IntKind.i64)) h; clear h; obtain ⟨x0_6, rfl, h⟩ := h9
    exact (f_eq k' kp' x0_0 x0_1_0 x0_1_1 x0_1_2 x0_1_3 x0_2 x0_3 x0_4 x0_5 x0_6).symm
end N38
end Go.Proofs.Yc
namespace Go.Proofs.Yc
open Go Go.Aw Go.Proofs
set_option linter.unusedVariables false
set_option linter.unusedSimpArgs false
set_option maxRecDepth 100000
/-! dyehouse/show.cases$1 -/
namespace N61
noncomputable def cfg : Cfg := { P := Try.prog, ty := tys, E := tab [], atSeq := tab [], atLoop := tab [], outs := [], eqT := tab [], bT := tab [] }
noncomputable def body : Code := bodyOf Try.f61
def c (x0 : Int) (x1_0 : Int) (x1_1_0 : Int) (x1_1_1 : Int) (x1_1_2 : Int) (x1_1_3 : Int) (x1_2 : (List (Int × (Int × (Int × Int))))) (x1_3 : ByteArray) (x1_4 : Int) (x1_5 : (List ByteArray)) (x1_6 : (List Int)) (k : ByteArray → Prop) : Prop :=
  (br (decide (x0 < ((((x1_5).length : Nat) : Int)))) ((inB 0 x0 ((((x1_5).length : Nat) : Int) - 1)) ∧ (k (x1_5.getD (Int.toNat x0) (ByteArray.empty)))) (k (ByteArray.mk #[])))
def f0 (x0 : Int) (x1_0 : Int) (x1_1_0 : Int) (x1_1_1 : Int) (x1_1_2 : Int) (x1_1_3 : Int) (x1_2 : (List (Int × (Int × (Int × Int))))) (x1_3 : ByteArray) (x1_4 : Int) (x1_5 : (List ByteArray)) (x1_6 : (List Int)) (k : ByteArray → Prop) : Prop := c x0 x1_0 x1_1_0 x1_1_1 x1_1_2 x1_1_3 x1_2 x1_3 x1_4 x1_5 x1_6 k
theorem f_ex : ∃ g : Int → Int → Int → Int → Int → Int → (List (Int × (Int × (Int × Int)))) → ByteArray → Int → (List ByteArray) → (List Int) → (ByteArray → Prop) → Prop, g = f0 := ⟨_, rfl⟩
noncomputable def f : Int → Int → Int → Int → Int → Int → (List (Int × (Int × (Int × Int)))) → ByteArray → Int → (List ByteArray) → (List Int) → (ByteArray → Prop) → Prop := Classical.choose f_ex
theorem f_def : f = f0 := Classical.choose_spec f_ex
noncomputable def JJ (k kp : D → List Blk → Prop) : Nat → St → Prop := pick none' []
noncomputable def LL (k kp : D → List Blk → Prop) : Nat → St → Prop := pick none' []
theorem c_c (k kp : D → List Blk → Prop) (J L : Nat → St → Prop) (x0 : Int) (x1_0 : Int) (x1_1_0 : Int) (x1_1_1 : Int) (x1_1_2 : Int) (x1_1_3 : Int) (x1_2 : (List (Int × (Int × (Int × Int))))) (x1_3 : ByteArray) (x1_4 : Int) (x1_5 : (List ByteArray)) (x1_6 : (List Int)) : runC cfg 1000001 J L none'' [] body (topK cfg Try.f61 k kp) (st0 Try.f61 [(.v (.int IntKind.i64 x0)), (.fp [(.v (.int IntKind.i64 x1_0)), (.v (.int IntKind.i64 x1_1_0)), (.v (.int IntKind.i64 x1_1_1)), (.v (.int IntKind.i64 x1_1_2)), (.v (.int IntKind.i64 x1_1_3)), (.fz (Ty.pair (Ty.int IntKind.i64) (Ty.pair (Ty.int IntKind.i64) (Ty.pair (Ty.int IntKind.i64) (Ty.int IntKind.i64)))) x1_2), (.v (.string x1_3)), (.v (.int IntKind.i64 x1_4)), (.fz Ty.str x1_5), (.fz (Ty.int IntKind.i64) x1_6)])] []) = c x0 x1_0 x1_1_0 x1_1_1 x1_1_2 x1_1_3 x1_2 x1_3 x1_4 x1_5 x1_6 (fun y0 => k (.v (.string y0)) []) := by kernel_rfl
theorem c_ag (k kp : D → List Blk → Prop) : agPL cfg 1000001 (JJ k kp) (LL k kp) [] body = agPR cfg 1000001 none'' [] body (topK cfg Try.f61 k kp) := by kernel_rfl
theorem body_is : Try.f61.body = some body := by kernel_rfl
theorem c_raw (k kp : D → List Blk → Prop) (x0 : Int) (x1_0 : Int) (x1_1_0 : Int) (x1_1_1 : Int) (x1_1_2 : Int) (x1_1_3 : Int) (x1_2 : (List (Int × (Int × (Int × Int))))) (x1_3 : ByteArray) (x1_4 : Int) (x1_5 : (List ByteArray)) (x1_6 : (List Int)) : funW cfg Try.f61 [(.v (.int IntKind.i64 x0)), (.fp [(.v (.int IntKind.i64 x1_0)), (.v (.int IntKind.i64 x1_1_0)), (.v (.int IntKind.i64 x1_1_1)), (.v (.int IntKind.i64 x1_1_2)), (.v (.int IntKind.i64 x1_1_3)), (.fz (Ty.pair (Ty.int IntKind.i64) (Ty.pair (Ty.int IntKind.i64) (Ty.pair (Ty.int IntKind.i64) (Ty.int IntKind.i64)))) x1_2), (.v (.string x1_3)), (.v (.int IntKind.i64 x1_4)), (.fz Ty.str x1_5), (.fz (Ty.int IntKind.i64) x1_6)])] [] k kp = c x0 x1_0 x1_1_0 x1_1_1 x1_1_2 x1_1_3 x1_2 x1_3 x1_4 x1_5 x1_6 (fun y0 => k (.v (.string y0)) []) :=
  Eq.mp (by kernel_rfl) ((funW_run (AG := none'') body_is (c_ag k kp) [(.v (.int IntKind.i64 x0)), (.fp [(.v (.int IntKind.i64 x1_0)), (.v (.int IntKind.i64 x1_1_0)), (.v (.int IntKind.i64 x1_1_1)), (.v (.int IntKind.i64 x1_1_2)), (.v (.int IntKind.i64 x1_1_3)), (.fz (Ty.pair (Ty.int IntKind.i64) (Ty.pair (Ty.int IntKind.i64) (Ty.pair (Ty.int IntKind.i64) (Ty.int IntKind.i64)))) x1_2), (.v (.string x1_3)), (.v (.int IntKind.i64 x1_4)), (.fz Ty.str x1_5), (.fz (Ty.int IntKind.i64) x1_6)])] []).trans (c_c k kp (JJ k kp) (LL k kp) x0 x1_0 x1_1_0 x1_1_1 x1_1_2 x1_1_3 x1_2 x1_3 x1_4 x1_5 x1_6))
theorem f_eq (k kp : D → List Blk → Prop) (x0 : Int) (x1_0 : Int) (x1_1_0 : Int) (x1_1_1 : Int) (x1_1_2 : Int) (x1_1_3 : Int) (x1_2 : (List (Int × (Int × (Int × Int))))) (x1_3 : ByteArray) (x1_4 : Int) (x1_5 : (List ByteArray)) (x1_6 : (List Int)) : funW cfg Try.f61 [(.v (.int IntKind.i64 x0)), (.fp [(.v (.int IntKind.i64 x1_0)), (.v (.int IntKind.i64 x1_1_0)), (.v (.int IntKind.i64 x1_1_1)), (.v (.int IntKind.i64 x1_1_2)), (.v (.int IntKind.i64 x1_1_3)), (.fz (Ty.pair (Ty.int IntKind.i64) (Ty.pair (Ty.int IntKind.i64) (Ty.pair (Ty.int IntKind.i64) (Ty.int IntKind.i64)))) x1_2), (.v (.string x1_3)), (.v (.int IntKind.i64 x1_4)), (.fz Ty.str x1_5), (.fz (Ty.int IntKind.i64) x1_6)])] [] k kp = f x0 x1_0 x1_1_0 x1_1_1 x1_1_2 x1_1_3 x1_2 x1_3 x1_4 x1_5 x1_6 (fun y0 => k (.v (.string y0)) []) := by
  rw [f_def, c_raw]; rfl
noncomputable def ent0 : Entry := fun args blks k _ => match args, blks with
  | [d0, d1], [] => aInt IntKind.i64 d0 fun x0 => aFp 10 d1 fun l => aCons l fun d1_0 l => aCons l fun d1_1 l => aCons l fun d1_2 l => aCons l fun d1_3 l => aCons l fun d1_4 l => aCons l fun d1_5 l => aCons l fun d1_6 l => aCons l fun d1_7 l => aCons l fun d1_8 l => aCons l fun d1_9 l => aNil l (aInt IntKind.i64 d1_0 fun x1_0 => aInt IntKind.i64 d1_1 fun x1_1_0 => aInt IntKind.i64 d1_2 fun x1_1_1 => aInt IntKind.i64 d1_3 fun x1_1_2 => aInt IntKind.i64 d1_4 fun x1_1_3 => aFz (Ty.pair (Ty.int IntKind.i64) (Ty.pair (Ty.int IntKind.i64) (Ty.pair (Ty.int IntKind.i64) (Ty.int IntKind.i64)))) d1_5 fun x1_2 => aStr d1_6 fun x1_3 => aInt IntKind.i64 d1_7 fun x1_4 => aFz Ty.str d1_8 fun x1_5 => aFz (Ty.int IntKind.i64) d1_9 fun x1_6 => f x0 x1_0 x1_1_0 x1_1_1 x1_1_2 x1_1_3 x1_2 x1_3 x1_4 x1_5 x1_6 (fun y0 => k (.v (.string y0)) []))
  | _, _ => False
noncomputable def ent : Entry := fun args blks k kp => ent0 (convB [.no, .cells [none, none, none, none, none, some (Ty.pair (Ty.int IntKind.i64) (Ty.pair (Ty.int IntKind.i64) (Ty.pair (Ty.int IntKind.i64) (Ty.int IntKind.i64)))), none, none, some Ty.str, some (Ty.int IntKind.i64)]] args) blks k kp
theorem ok : EntOk Try.prog 0 0 61 ent := by
  refine EntOk.convB (EntOk.of (funW_ok (cfg := cfg) (tyOk_of rfl rfl tyL_ok) (eqOk_of (P := Try.prog) rfl rfl (by kernel_rfl)) mixed_ok (tab_ok ?_) Try.func61 (by rfl) (by rfl)) ?_) _
  · intro p hp
    cases hp
  · intro args blks k kp h k' kp'
    match args, blks, h with
    | [d0, d1], [], h =>
    dsimp only [ent0] at h
    have h9 := aInt_elim h; clear h; obtain ⟨x0, rfl, h⟩ := h9
    have h9 := aFp_elim h; clear h; obtain ⟨_, rfl, h⟩ := h9
    have h9 := aCons_elim h; clear h; obtain ⟨d1_0, _, rfl, h⟩ := h9
    have h9 := aCons_elim h; clear h; obtain ⟨d1_1, _, rfl, h⟩ := h9
    have h9 := aCons_elim h; clear h; obtain ⟨d1_2, _, rfl, h⟩ := h9
    have h9 := aCons_elim h; clear h; obtain ⟨d1_3, _, rfl, h⟩ := h9
    have h9 := aCons_elim h; clear h; obtain ⟨d1_4, _, rfl, h⟩ := h9
    have h9 := aCons_elim h; clear h; obtain ⟨d1_5, _, rfl, h⟩ := h9
    have h9 := aCons_elim h; clear h; obtain ⟨d1_6, _, rfl, h⟩ := h9
    have h9 := aCons_elim h; clear h; obtain ⟨d1_7, _, rfl, h⟩ := h9
    have h9 := aCons_elim h; clear h; obtain ⟨d1_8, _, rfl, h⟩ := h9
    have h9 := aCons_elim h; clear h; obtain ⟨d1_9, _, rfl, h⟩ := h9
    have h9 := aNil_elim h; clear h; obtain ⟨rfl, h⟩ := h9
    have h9 := aInt_elim h; clear h; obtain ⟨x1_0, rfl, h⟩ := h9
    have h9 := aInt_elim h; clear h; obtain ⟨x1_1_0, rfl, h⟩ := h9
    have h9 := aInt_elim h; clear h; obtain ⟨x1_1_1, rfl, h⟩ := h9
    have h9 := aInt_elim h; clear h; obtain ⟨x1_1_2, rfl, h⟩ := h9
    have h9 := aInt_elim h; clear h; obtain ⟨x1_1_3, rfl, h⟩ := h9
    have h9 := aFz_elim (t := (Ty.pair (Ty.int IntKind.i64) (Ty.pair (Ty.int IntKind.i64) (Ty.pair (Ty.int IntKind.i64) (Ty.int IntKind.i64))))) h; clear h; obtain ⟨x1_2, rfl, h⟩ := h9
    have h9 := aStr_elim h; clear h; obtain ⟨x1_3, rfl, h⟩ := h9
    have h9 := aInt_elim h; clear h; obtain ⟨x1_4, rfl, h⟩ := h9
    have h9 := aFz_elim (t := Ty.str) h; clear h; obtain ⟨x1_5, rfl, h⟩ := h9
    have h9 := aFz_elim (t := (Ty.int IntKind.i64)) h; clear h; obtain ⟨x1_6, rfl, h⟩ := h9
    exact (f_eq k' kp' x0 x1_0 x1_1_0 x1_1_1 x1_1_2 x1_1_3 x1_2 x1_3 x1_4 x1_5 x1_6).symm
end N61
end Go.Proofs.Yc
namespace Go.Proofs.Yc
open Go Go.Aw Go.Proofs
set_option linter.unusedVariables false
set_option linter.unusedSimpArgs false
set_option maxRecDepth 100000
/-! dyehouse/show.cases -/
namespace N39
noncomputable def cfg : Cfg := { P := Try.prog, ty := tys, E := tab [(43, N43.ent), (61, N61.ent)], atSeq := tab [(8, ⟨[(1, .keep), (3, .keep), (4, .keep)]⟩)], atLoop := tab [(4, ⟨[(1, .keep), (3, .own 9 Ty.str), (4, .keep), (9, .keep), (10, .keep), (11, .keep)]⟩)], outs := [], eqT := tab [], bT := tab [], fzB := [1] }
noncomputable def body : Code := bodyOf Try.f39
def l4 (j8 : Int → Int → Int → Int → Int → (List (Int × (Int × (Int × Int)))) → ByteArray → Int → (List ByteArray) → (List Int) → Int → Int → Int → Int → Int → (List (Int × (Int × (Int × Int)))) → ByteArray → Int → (List ByteArray) → (List Int) → (List ByteArray) → Prop) (ag4 : Int → (List ByteArray) → Prop) (x1_0 : Int) (x1_1 : Int) (x1_2 : Int) (x1_3 : Int) (x1_4 : Int) (x1_5 : (List (Int × (Int × (Int × Int))))) (x1_6 : ByteArray) (x1_7 : Int) (x1_8 : (List ByteArray)) (x1_9 : (List Int)) (x4c0_0 : Int) (x4c0_1 : Int) (x4c0_2 : Int) (x4c0_3 : Int) (x4c0_4 : Int) (x4c0_5 : (List (Int × (Int × (Int × Int))))) (x4c0_6 : ByteArray) (x4c0_7 : Int) (x4c0_8 : (List ByteArray)) (x4c0_9 : (List Int)) (x9 : (List Int)) (x10 : Int) (x11 : Int) (b0 : (List ByteArray)) (k : (List ByteArray) → Prop) : Prop :=
  (br (decide (x11 < x10)) ((inB 0 x11 ((((x9).length : Nat) : Int) - 1)) ∧ (N43.f (x9.getD (Int.toNat x11) (0)) (fun (y0_0 : ByteArray) => (((y0_0).size + ((ByteArray.mk #[58, 32])).size ≤ 9223372036854775807) ∧ (N61.f x11 x4c0_0 x4c0_1 x4c0_2 x4c0_3 x4c0_4 x4c0_5 x4c0_6 x4c0_7 x4c0_8 x4c0_9 (fun (y0_1 : ByteArray) => ((((y0_0 ++ (ByteArray.mk #[58, 32]))).size + (y0_1).size ≤ 9223372036854775807) ∧ ((room ((b0).length + (([((y0_0 ++ (ByteArray.mk #[58, 32])) ++ y0_1)] : List ByteArray)).length) 16) ∧ (ag4 (IntKind.i64.wrap (x11 + (1 : Int))) (b0 ++ ([((y0_0 ++ (ByteArray.mk #[58, 32])) ++ y0_1)] : List ByteArray))))))))))) (j8 x1_0 x1_1 x1_2 x1_3 x1_4 x1_5 x1_6 x1_7 x1_8 x1_9 x4c0_0 x4c0_1 x4c0_2 x4c0_3 x4c0_4 x4c0_5 x4c0_6 x4c0_7 x4c0_8 x4c0_9 b0))
def j8 (x1_0 : Int) (x1_1 : Int) (x1_2 : Int) (x1_3 : Int) (x1_4 : Int) (x1_5 : (List (Int × (Int × (Int × Int))))) (x1_6 : ByteArray) (x1_7 : Int) (x1_8 : (List ByteArray)) (x1_9 : (List Int)) (x4c0_0 : Int) (x4c0_1 : Int) (x4c0_2 : Int) (x4c0_3 : Int) (x4c0_4 : Int) (x4c0_5 : (List (Int × (Int × (Int × Int))))) (x4c0_6 : ByteArray) (x4c0_7 : Int) (x4c0_8 : (List ByteArray)) (x4c0_9 : (List Int)) (b0 : (List ByteArray)) (k : (List ByteArray) → Prop) : Prop :=
  (N61.f ((((x1_9).length : Nat) : Int)) x4c0_0 x4c0_1 x4c0_2 x4c0_3 x4c0_4 x4c0_5 x4c0_6 x4c0_7 x4c0_8 x4c0_9 (fun (y0_2 : ByteArray) => ((((ByteArray.mk #[101, 108, 115, 101, 58, 32])).size + (y0_2).size ≤ 9223372036854775807) ∧ ((room ((b0).length + (([((ByteArray.mk #[101, 108, 115, 101, 58, 32]) ++ y0_2)] : List ByteArray)).length) 16) ∧ (k (b0 ++ ([((ByteArray.mk #[101, 108, 115, 101, 58, 32]) ++ y0_2)] : List ByteArray)))))))
def c (l4 : Int → Int → Int → Int → Int → (List (Int × (Int × (Int × Int)))) → ByteArray → Int → (List ByteArray) → (List Int) → Int → Int → Int → Int → Int → (List (Int × (Int × (Int × Int)))) → ByteArray → Int → (List ByteArray) → (List Int) → (List Int) → Int → Int → (List ByteArray) → Prop) (x0_0 : Int) (x0_1_0 : Int) (x0_1_1 : Int) (x0_1_2 : Int) (x0_1_3 : Int) (x0_2 : (List (Int × (Int × (Int × Int))))) (x0_3 : ByteArray) (x0_4 : Int) (x0_5 : (List ByteArray)) (x0_6 : (List Int)) (k : (List ByteArray) → Prop) : Prop :=
  (l4 x0_0 x0_1_0 x0_1_1 x0_1_2 x0_1_3 x0_2 x0_3 x0_4 x0_5 x0_6 x0_0 x0_1_0 x0_1_1 x0_1_2 x0_1_3 x0_2 x0_3 x0_4 x0_5 x0_6 x0_6 ((((x0_6).length : Nat) : Int)) (0 : Int) ([] : List ByteArray))
def j8' (x1_0 : Int) (x1_1 : Int) (x1_2 : Int) (x1_3 : Int) (x1_4 : Int) (x1_5 : (List (Int × (Int × (Int × Int))))) (x1_6 : ByteArray) (x1_7 : Int) (x1_8 : (List ByteArray)) (x1_9 : (List Int)) (x4c0_0 : Int) (x4c0_1 : Int) (x4c0_2 : Int) (x4c0_3 : Int) (x4c0_4 : Int) (x4c0_5 : (List (Int × (Int × (Int × Int))))) (x4c0_6 : ByteArray) (x4c0_7 : Int) (x4c0_8 : (List ByteArray)) (x4c0_9 : (List Int)) (b0 : (List ByteArray)) (k : (List ByteArray) → Prop) : Prop := j8 x1_0 x1_1 x1_2 x1_3 x1_4 x1_5 x1_6 x1_7 x1_8 x1_9 x4c0_0 x4c0_1 x4c0_2 x4c0_3 x4c0_4 x4c0_5 x4c0_6 x4c0_7 x4c0_8 x4c0_9 b0 k
def l4' (x1_0 : Int) (x1_1 : Int) (x1_2 : Int) (x1_3 : Int) (x1_4 : Int) (x1_5 : (List (Int × (Int × (Int × Int))))) (x1_6 : ByteArray) (x1_7 : Int) (x1_8 : (List ByteArray)) (x1_9 : (List Int)) (x4c0_0 : Int) (x4c0_1 : Int) (x4c0_2 : Int) (x4c0_3 : Int) (x4c0_4 : Int) (x4c0_5 : (List (Int × (Int × (Int × Int))))) (x4c0_6 : ByteArray) (x4c0_7 : Int) (x4c0_8 : (List ByteArray)) (x4c0_9 : (List Int)) (x9 : (List Int)) (x10 : Int) (x11 : Int) (b0 : (List ByteArray)) (k : (List ByteArray) → Prop) : Prop := ∃ n, loopS (fun (ag : (Int × (List ByteArray)) → Prop) (s : Int × (List ByteArray)) => l4 (fun x1_0 x1_1 x1_2 x1_3 x1_4 x1_5 x1_6 x1_7 x1_8 x1_9 x4c0_0 x4c0_1 x4c0_2 x4c0_3 x4c0_4 x4c0_5 x4c0_6 x4c0_7 x4c0_8 x4c0_9 b0 => j8' x1_0 x1_1 x1_2 x1_3 x1_4 x1_5 x1_6 x1_7 x1_8 x1_9 x4c0_0 x4c0_1 x4c0_2 x4c0_3 x4c0_4 x4c0_5 x4c0_6 x4c0_7 x4c0_8 x4c0_9 b0 k) (fun x11 b0 => ag (x11, b0)) x1_0 x1_1 x1_2 x1_3 x1_4 x1_5 x1_6 x1_7 x1_8 x1_9 x4c0_0 x4c0_1 x4c0_2 x4c0_3 x4c0_4 x4c0_5 x4c0_6 x4c0_7 x4c0_8 x4c0_9 x9 x10 s.1 s.2 k) n (x11, b0)
def f0 (x0_0 : Int) (x0_1_0 : Int) (x0_1_1 : Int) (x0_1_2 : Int) (x0_1_3 : Int) (x0_2 : (List (Int × (Int × (Int × Int))))) (x0_3 : ByteArray) (x0_4 : Int) (x0_5 : (List ByteArray)) (x0_6 : (List Int)) (k : (List ByteArray) → Prop) : Prop := c (fun x1_0 x1_1 x1_2 x1_3 x1_4 x1_5 x1_6 x1_7 x1_8 x1_9 x4c0_0 x4c0_1 x4c0_2 x4c0_3 x4c0_4 x4c0_5 x4c0_6 x4c0_7 x4c0_8 x4c0_9 x9 x10 x11 b0 => l4' x1_0 x1_1 x1_2 x1_3 x1_4 x1_5 x1_6 x1_7 x1_8 x1_9 x4c0_0 x4c0_1 x4c0_2 x4c0_3 x4c0_4 x4c0_5 x4c0_6 x4c0_7 x4c0_8 x4c0_9 x9 x10 x11 b0 k) x0_0 x0_1_0 x0_1_1 x0_1_2 x0_1_3 x0_2 x0_3 x0_4 x0_5 x0_6 k
theorem f_ex : ∃ g : Int → Int → Int → Int → Int → (List (Int × (Int × (Int × Int)))) → ByteArray → Int → (List ByteArray) → (List Int) → ((List ByteArray) → Prop) → Prop, g = f0 := ⟨_, rfl⟩
noncomputable def f : Int → Int → Int → Int → Int → (List (Int × (Int × (Int × Int)))) → ByteArray → Int → (List ByteArray) → (List Int) → ((List ByteArray) → Prop) → Prop := Classical.choose f_ex
theorem f_def : f = f0 := Classical.choose_spec f_ex
def mL4 (x1_0 : Int) (x1_1 : Int) (x1_2 : Int) (x1_3 : Int) (x1_4 : Int) (x1_5 : (List (Int × (Int × (Int × Int))))) (x1_6 : ByteArray) (x1_7 : Int) (x1_8 : (List ByteArray)) (x1_9 : (List Int)) (x4c0_0 : Int) (x4c0_1 : Int) (x4c0_2 : Int) (x4c0_3 : Int) (x4c0_4 : Int) (x4c0_5 : (List (Int × (Int × (Int × Int))))) (x4c0_6 : ByteArray) (x4c0_7 : Int) (x4c0_8 : (List ByteArray)) (x4c0_9 : (List Int)) (x9 : (List Int)) (x10 : Int) (x11 : Int) (b0 : (List ByteArray)) : St := { tmps := mkT 36 0 [(1, (.fp [(.v (.int IntKind.i64 x1_0)), (.v (.int IntKind.i64 x1_1)), (.v (.int IntKind.i64 x1_2)), (.v (.int IntKind.i64 x1_3)), (.v (.int IntKind.i64 x1_4)), (.fz (Ty.pair (Ty.int IntKind.i64) (Ty.pair (Ty.int IntKind.i64) (Ty.pair (Ty.int IntKind.i64) (Ty.int IntKind.i64)))) x1_5), (.v (.string x1_6)), (.v (.int IntKind.i64 x1_7)), (.fz Ty.str x1_8), (.fz (Ty.int IntKind.i64) x1_9)])), (3, (.sl 0 0)), (4, (.clo 61 [] [(.fp [(.v (.int IntKind.i64 x4c0_0)), (.v (.int IntKind.i64 x4c0_1)), (.v (.int IntKind.i64 x4c0_2)), (.v (.int IntKind.i64 x4c0_3)), (.v (.int IntKind.i64 x4c0_4)), (.fz (Ty.pair (Ty.int IntKind.i64) (Ty.pair (Ty.int IntKind.i64) (Ty.pair (Ty.int IntKind.i64) (Ty.int IntKind.i64)))) x4c0_5), (.v (.string x4c0_6)), (.v (.int IntKind.i64 x4c0_7)), (.fz Ty.str x4c0_8), (.fz (Ty.int IntKind.i64) x4c0_9)])])), (9, (.fz (Ty.int IntKind.i64) x9)), (10, (.v (.int IntKind.i64 x10))), (11, (.v (.int IntKind.i64 x11)))], hp := [(.lst 9 Ty.str b0 0 false)], m := 0 }
def m8 (x1_0 : Int) (x1_1 : Int) (x1_2 : Int) (x1_3 : Int) (x1_4 : Int) (x1_5 : (List (Int × (Int × (Int × Int))))) (x1_6 : ByteArray) (x1_7 : Int) (x1_8 : (List ByteArray)) (x1_9 : (List Int)) (x4c0_0 : Int) (x4c0_1 : Int) (x4c0_2 : Int) (x4c0_3 : Int) (x4c0_4 : Int) (x4c0_5 : (List (Int × (Int × (Int × Int))))) (x4c0_6 : ByteArray) (x4c0_7 : Int) (x4c0_8 : (List ByteArray)) (x4c0_9 : (List Int)) (b0 : (List ByteArray)) : St := { tmps := mkT 36 0 [(1, (.fp [(.v (.int IntKind.i64 x1_0)), (.v (.int IntKind.i64 x1_1)), (.v (.int IntKind.i64 x1_2)), (.v (.int IntKind.i64 x1_3)), (.v (.int IntKind.i64 x1_4)), (.fz (Ty.pair (Ty.int IntKind.i64) (Ty.pair (Ty.int IntKind.i64) (Ty.pair (Ty.int IntKind.i64) (Ty.int IntKind.i64)))) x1_5), (.v (.string x1_6)), (.v (.int IntKind.i64 x1_7)), (.fz Ty.str x1_8), (.fz (Ty.int IntKind.i64) x1_9)])), (3, (.sl 0 0)), (4, (.clo 61 [] [(.fp [(.v (.int IntKind.i64 x4c0_0)), (.v (.int IntKind.i64 x4c0_1)), (.v (.int IntKind.i64 x4c0_2)), (.v (.int IntKind.i64 x4c0_3)), (.v (.int IntKind.i64 x4c0_4)), (.fz (Ty.pair (Ty.int IntKind.i64) (Ty.pair (Ty.int IntKind.i64) (Ty.pair (Ty.int IntKind.i64) (Ty.int IntKind.i64)))) x4c0_5), (.v (.string x4c0_6)), (.v (.int IntKind.i64 x4c0_7)), (.fz Ty.str x4c0_8), (.fz (Ty.int IntKind.i64) x4c0_9)])]))], hp := [(.lst 9 Ty.str b0 0 false)], m := 0 }
noncomputable def YL4 (k kp : D → List Blk → Prop) : (St → Prop) → St → Prop := loopB cfg (sub [1, 1, 1, 0, 1, 0, 0] body) (contK cfg (pick none' []) [1, 1, 1, 0, 1, 0] body (topK cfg Try.f39 k kp))
noncomputable def XL4 (k kp : D → List Blk → Prop) : St → Prop := fun st => ∃ n, loopN (YL4 k kp) n st
noncomputable def X8 (k kp : D → List Blk → Prop) : St → Prop := atP cfg (pick none' []) [1, 1, 1, 1] body (topK cfg Try.f39 k kp)
noncomputable def JJ_4 (k kp : D → List Blk → Prop) (ag4 : St → Prop) : Nat → St → Prop := pick none' [(8, X8 k kp)]
noncomputable def LL_4 (k kp : D → List Blk → Prop) (ag4 : St → Prop) : Nat → St → Prop := pick none' [(4, XL4 k kp)]
noncomputable def JJ (k kp : D → List Blk → Prop) : Nat → St → Prop := pick none' [(8, X8 k kp)]
noncomputable def LL (k kp : D → List Blk → Prop) : Nat → St → Prop := pick none' [(4, XL4 k kp)]
theorem j8_c (k kp : D → List Blk → Prop) (J L : Nat → St → Prop) (x1_0 : Int) (x1_1 : Int) (x1_2 : Int) (x1_3 : Int) (x1_4 : Int) (x1_5 : (List (Int × (Int × (Int × Int))))) (x1_6 : ByteArray) (x1_7 : Int) (x1_8 : (List ByteArray)) (x1_9 : (List Int)) (x4c0_0 : Int) (x4c0_1 : Int) (x4c0_2 : Int) (x4c0_3 : Int) (x4c0_4 : Int) (x4c0_5 : (List (Int × (Int × (Int × Int))))) (x4c0_6 : ByteArray) (x4c0_7 : Int) (x4c0_8 : (List ByteArray)) (x4c0_9 : (List Int)) (b0 : (List ByteArray)) : runC cfg 8 J L (pick none' []) [1, 1, 1, 1] body (topK cfg Try.f39 k kp) (m8 x1_0 x1_1 x1_2 x1_3 x1_4 x1_5 x1_6 x1_7 x1_8 x1_9 x4c0_0 x4c0_1 x4c0_2 x4c0_3 x4c0_4 x4c0_5 x4c0_6 x4c0_7 x4c0_8 x4c0_9 b0) = j8 x1_0 x1_1 x1_2 x1_3 x1_4 x1_5 x1_6 x1_7 x1_8 x1_9 x4c0_0 x4c0_1 x4c0_2 x4c0_3 x4c0_4 x4c0_5 x4c0_6 x4c0_7 x4c0_8 x4c0_9 b0 (fun z0 => k (.sl 0 0) [(.lst 9 Ty.str z0 0 false)]) := by kernel_rfl
theorem j8_ag (k kp : D → List Blk → Prop) : agPL cfg 8 (JJ k kp) (LL k kp) [1, 1, 1, 1] body = agPR cfg 8 (pick none' []) [1, 1, 1, 1] body (topK cfg Try.f39 k kp) := by kernel_rfl
theorem j8_raw (k kp : D → List Blk → Prop) (x1_0 : Int) (x1_1 : Int) (x1_2 : Int) (x1_3 : Int) (x1_4 : Int) (x1_5 : (List (Int × (Int × (Int × Int))))) (x1_6 : ByteArray) (x1_7 : Int) (x1_8 : (List ByteArray)) (x1_9 : (List Int)) (x4c0_0 : Int) (x4c0_1 : Int) (x4c0_2 : Int) (x4c0_3 : Int) (x4c0_4 : Int) (x4c0_5 : (List (Int × (Int × (Int × Int))))) (x4c0_6 : ByteArray) (x4c0_7 : Int) (x4c0_8 : (List ByteArray)) (x4c0_9 : (List Int)) (b0 : (List ByteArray)) : X8 k kp (m8 x1_0 x1_1 x1_2 x1_3 x1_4 x1_5 x1_6 x1_7 x1_8 x1_9 x4c0_0 x4c0_1 x4c0_2 x4c0_3 x4c0_4 x4c0_5 x4c0_6 x4c0_7 x4c0_8 x4c0_9 b0) = j8 x1_0 x1_1 x1_2 x1_3 x1_4 x1_5 x1_6 x1_7 x1_8 x1_9 x4c0_0 x4c0_1 x4c0_2 x4c0_3 x4c0_4 x4c0_5 x4c0_6 x4c0_7 x4c0_8 x4c0_9 b0 (fun z0 => k (.sl 0 0) [(.lst 9 Ty.str z0 0 false)]) :=
  Eq.mp (by kernel_rfl) ((atP_run (j8_ag k kp) (m8 x1_0 x1_1 x1_2 x1_3 x1_4 x1_5 x1_6 x1_7 x1_8 x1_9 x4c0_0 x4c0_1 x4c0_2 x4c0_3 x4c0_4 x4c0_5 x4c0_6 x4c0_7 x4c0_8 x4c0_9 b0)).trans (j8_c k kp (JJ k kp) (LL k kp) x1_0 x1_1 x1_2 x1_3 x1_4 x1_5 x1_6 x1_7 x1_8 x1_9 x4c0_0 x4c0_1 x4c0_2 x4c0_3 x4c0_4 x4c0_5 x4c0_6 x4c0_7 x4c0_8 x4c0_9 b0))
theorem j8_eq (k kp : D → List Blk → Prop) (x1_0 : Int) (x1_1 : Int) (x1_2 : Int) (x1_3 : Int) (x1_4 : Int) (x1_5 : (List (Int × (Int × (Int × Int))))) (x1_6 : ByteArray) (x1_7 : Int) (x1_8 : (List ByteArray)) (x1_9 : (List Int)) (x4c0_0 : Int) (x4c0_1 : Int) (x4c0_2 : Int) (x4c0_3 : Int) (x4c0_4 : Int) (x4c0_5 : (List (Int × (Int × (Int × Int))))) (x4c0_6 : ByteArray) (x4c0_7 : Int) (x4c0_8 : (List ByteArray)) (x4c0_9 : (List Int)) (b0 : (List ByteArray)) : X8 k kp (m8 x1_0 x1_1 x1_2 x1_3 x1_4 x1_5 x1_6 x1_7 x1_8 x1_9 x4c0_0 x4c0_1 x4c0_2 x4c0_3 x4c0_4 x4c0_5 x4c0_6 x4c0_7 x4c0_8 x4c0_9 b0) = j8' x1_0 x1_1 x1_2 x1_3 x1_4 x1_5 x1_6 x1_7 x1_8 x1_9 x4c0_0 x4c0_1 x4c0_2 x4c0_3 x4c0_4 x4c0_5 x4c0_6 x4c0_7 x4c0_8 x4c0_9 b0 (fun z0 => k (.sl 0 0) [(.lst 9 Ty.str z0 0 false)]) := by
  rw [j8_raw]; rfl
theorem l4_c (k kp : D → List Blk → Prop) (J L : Nat → St → Prop) (ag4 : St → Prop) (x1_0 : Int) (x1_1 : Int) (x1_2 : Int) (x1_3 : Int) (x1_4 : Int) (x1_5 : (List (Int × (Int × (Int × Int))))) (x1_6 : ByteArray) (x1_7 : Int) (x1_8 : (List ByteArray)) (x1_9 : (List Int)) (x4c0_0 : Int) (x4c0_1 : Int) (x4c0_2 : Int) (x4c0_3 : Int) (x4c0_4 : Int) (x4c0_5 : (List (Int × (Int × (Int × Int))))) (x4c0_6 : ByteArray) (x4c0_7 : Int) (x4c0_8 : (List ByteArray)) (x4c0_9 : (List Int)) (x9 : (List Int)) (x10 : Int) (x11 : Int) (b0 : (List ByteArray)) : runC cfg 1000001 J L (pick none' [(4, ag4)]) [1, 1, 1, 0, 1, 0, 0] body (topK cfg Try.f39 k kp) (mL4 x1_0 x1_1 x1_2 x1_3 x1_4 x1_5 x1_6 x1_7 x1_8 x1_9 x4c0_0 x4c0_1 x4c0_2 x4c0_3 x4c0_4 x4c0_5 x4c0_6 x4c0_7 x4c0_8 x4c0_9 x9 x10 x11 b0) = l4 (fun x1_0 x1_1 x1_2 x1_3 x1_4 x1_5 x1_6 x1_7 x1_8 x1_9 x4c0_0 x4c0_1 x4c0_2 x4c0_3 x4c0_4 x4c0_5 x4c0_6 x4c0_7 x4c0_8 x4c0_9 b0 => J 8 (m8 x1_0 x1_1 x1_2 x1_3 x1_4 x1_5 x1_6 x1_7 x1_8 x1_9 x4c0_0 x4c0_1 x4c0_2 x4c0_3 x4c0_4 x4c0_5 x4c0_6 x4c0_7 x4c0_8 x4c0_9 b0)) (fun x11 b0 => ag4 (mL4 x1_0 x1_1 x1_2 x1_3 x1_4 x1_5 x1_6 x1_7 x1_8 x1_9 x4c0_0 x4c0_1 x4c0_2 x4c0_3 x4c0_4 x4c0_5 x4c0_6 x4c0_7 x4c0_8 x4c0_9 x9 x10 x11 b0)) x1_0 x1_1 x1_2 x1_3 x1_4 x1_5 x1_6 x1_7 x1_8 x1_9 x4c0_0 x4c0_1 x4c0_2 x4c0_3 x4c0_4 x4c0_5 x4c0_6 x4c0_7 x4c0_8 x4c0_9 x9 x10 x11 b0 (fun z0 => k (.sl 0 0) [(.lst 9 Ty.str z0 0 false)]) := by kernel_rfl
theorem l4_ag (k kp : D → List Blk → Prop) (ag4 : St → Prop) : agPL cfg 1000001 (JJ_4 k kp ag4) (LL_4 k kp ag4) [1, 1, 1, 0, 1, 0, 0] body = agPR cfg 1000001 (pick none' [(4, ag4)]) [1, 1, 1, 0, 1, 0, 0] body (topK cfg Try.f39 k kp) := by kernel_rfl
theorem l4_raw (k kp : D → List Blk → Prop) (ag4 : St → Prop) (x1_0 : Int) (x1_1 : Int) (x1_2 : Int) (x1_3 : Int) (x1_4 : Int) (x1_5 : (List (Int × (Int × (Int × Int))))) (x1_6 : ByteArray) (x1_7 : Int) (x1_8 : (List ByteArray)) (x1_9 : (List Int)) (x4c0_0 : Int) (x4c0_1 : Int) (x4c0_2 : Int) (x4c0_3 : Int) (x4c0_4 : Int) (x4c0_5 : (List (Int × (Int × (Int × Int))))) (x4c0_6 : ByteArray) (x4c0_7 : Int) (x4c0_8 : (List ByteArray)) (x4c0_9 : (List Int)) (x9 : (List Int)) (x10 : Int) (x11 : Int) (b0 : (List ByteArray)) : YL4 k kp ag4 (mL4 x1_0 x1_1 x1_2 x1_3 x1_4 x1_5 x1_6 x1_7 x1_8 x1_9 x4c0_0 x4c0_1 x4c0_2 x4c0_3 x4c0_4 x4c0_5 x4c0_6 x4c0_7 x4c0_8 x4c0_9 x9 x10 x11 b0) = l4 (fun x1_0 x1_1 x1_2 x1_3 x1_4 x1_5 x1_6 x1_7 x1_8 x1_9 x4c0_0 x4c0_1 x4c0_2 x4c0_3 x4c0_4 x4c0_5 x4c0_6 x4c0_7 x4c0_8 x4c0_9 b0 => X8 k kp (m8 x1_0 x1_1 x1_2 x1_3 x1_4 x1_5 x1_6 x1_7 x1_8 x1_9 x4c0_0 x4c0_1 x4c0_2 x4c0_3 x4c0_4 x4c0_5 x4c0_6 x4c0_7 x4c0_8 x4c0_9 b0)) (fun x11 b0 => ag4 (mL4 x1_0 x1_1 x1_2 x1_3 x1_4 x1_5 x1_6 x1_7 x1_8 x1_9 x4c0_0 x4c0_1 x4c0_2 x4c0_3 x4c0_4 x4c0_5 x4c0_6 x4c0_7 x4c0_8 x4c0_9 x9 x10 x11 b0)) x1_0 x1_1 x1_2 x1_3 x1_4 x1_5 x1_6 x1_7 x1_8 x1_9 x4c0_0 x4c0_1 x4c0_2 x4c0_3 x4c0_4 x4c0_5 x4c0_6 x4c0_7 x4c0_8 x4c0_9 x9 x10 x11 b0 (fun z0 => k (.sl 0 0) [(.lst 9 Ty.str z0 0 false)]) :=
  Eq.mp (by kernel_rfl) ((atP_run (l4_ag k kp ag4) (mL4 x1_0 x1_1 x1_2 x1_3 x1_4 x1_5 x1_6 x1_7 x1_8 x1_9 x4c0_0 x4c0_1 x4c0_2 x4c0_3 x4c0_4 x4c0_5 x4c0_6 x4c0_7 x4c0_8 x4c0_9 x9 x10 x11 b0)).trans (l4_c k kp (JJ_4 k kp ag4) (LL_4 k kp ag4) ag4 x1_0 x1_1 x1_2 x1_3 x1_4 x1_5 x1_6 x1_7 x1_8 x1_9 x4c0_0 x4c0_1 x4c0_2 x4c0_3 x4c0_4 x4c0_5 x4c0_6 x4c0_7 x4c0_8 x4c0_9 x9 x10 x11 b0))
theorem l4_eq (k kp : D → List Blk → Prop) (x1_0 : Int) (x1_1 : Int) (x1_2 : Int) (x1_3 : Int) (x1_4 : Int) (x1_5 : (List (Int × (Int × (Int × Int))))) (x1_6 : ByteArray) (x1_7 : Int) (x1_8 : (List ByteArray)) (x1_9 : (List Int)) (x4c0_0 : Int) (x4c0_1 : Int) (x4c0_2 : Int) (x4c0_3 : Int) (x4c0_4 : Int) (x4c0_5 : (List (Int × (Int × (Int × Int))))) (x4c0_6 : ByteArray) (x4c0_7 : Int) (x4c0_8 : (List ByteArray)) (x4c0_9 : (List Int)) (x9 : (List Int)) (x10 : Int) (x11 : Int) (b0 : (List ByteArray)) : XL4 k kp (mL4 x1_0 x1_1 x1_2 x1_3 x1_4 x1_5 x1_6 x1_7 x1_8 x1_9 x4c0_0 x4c0_1 x4c0_2 x4c0_3 x4c0_4 x4c0_5 x4c0_6 x4c0_7 x4c0_8 x4c0_9 x9 x10 x11 b0) = l4' x1_0 x1_1 x1_2 x1_3 x1_4 x1_5 x1_6 x1_7 x1_8 x1_9 x4c0_0 x4c0_1 x4c0_2 x4c0_3 x4c0_4 x4c0_5 x4c0_6 x4c0_7 x4c0_8 x4c0_9 x9 x10 x11 b0 (fun z0 => k (.sl 0 0) [(.lst 9 Ty.str z0 0 false)]) :=
  loop_eq (mk := fun (s : Int × (List ByteArray)) => mL4 x1_0 x1_1 x1_2 x1_3 x1_4 x1_5 x1_6 x1_7 x1_8 x1_9 x4c0_0 x4c0_1 x4c0_2 x4c0_3 x4c0_4 x4c0_5 x4c0_6 x4c0_7 x4c0_8 x4c0_9 x9 x10 s.1 s.2) (fun again s => by rw [l4_raw k kp again x1_0 x1_1 x1_2 x1_3 x1_4 x1_5 x1_6 x1_7 x1_8 x1_9 x4c0_0 x4c0_1 x4c0_2 x4c0_3 x4c0_4 x4c0_5 x4c0_6 x4c0_7 x4c0_8 x4c0_9 x9 x10 s.1 s.2]; simp only [j8_eq]; first | done | rfl) (x11, b0)
theorem c_c (k kp : D → List Blk → Prop) (J L : Nat → St → Prop) (x0_0 : Int) (x0_1_0 : Int) (x0_1_1 : Int) (x0_1_2 : Int) (x0_1_3 : Int) (x0_2 : (List (Int × (Int × (Int × Int))))) (x0_3 : ByteArray) (x0_4 : Int) (x0_5 : (List ByteArray)) (x0_6 : (List Int)) : runC cfg 1000001 J L none'' [] body (topK cfg Try.f39 k kp) (st0 Try.f39 [(.agg [(.v (.int IntKind.i64 x0_0)), (.v (.int IntKind.i64 x0_1_0)), (.v (.int IntKind.i64 x0_1_1)), (.v (.int IntKind.i64 x0_1_2)), (.v (.int IntKind.i64 x0_1_3)), (.fz (Ty.pair (Ty.int IntKind.i64) (Ty.pair (Ty.int IntKind.i64) (Ty.pair (Ty.int IntKind.i64) (Ty.int IntKind.i64)))) x0_2), (.v (.string x0_3)), (.v (.int IntKind.i64 x0_4)), (.fz Ty.str x0_5), (.fz (Ty.int IntKind.i64) x0_6)])] []) = c (fun x1_0 x1_1 x1_2 x1_3 x1_4 x1_5 x1_6 x1_7 x1_8 x1_9 x4c0_0 x4c0_1 x4c0_2 x4c0_3 x4c0_4 x4c0_5 x4c0_6 x4c0_7 x4c0_8 x4c0_9 x9 x10 x11 b0 => L 4 (mL4 x1_0 x1_1 x1_2 x1_3 x1_4 x1_5 x1_6 x1_7 x1_8 x1_9 x4c0_0 x4c0_1 x4c0_2 x4c0_3 x4c0_4 x4c0_5 x4c0_6 x4c0_7 x4c0_8 x4c0_9 x9 x10 x11 b0)) x0_0 x0_1_0 x0_1_1 x0_1_2 x0_1_3 x0_2 x0_3 x0_4 x0_5 x0_6 (fun z0 => k (.sl 0 0) [(.lst 9 Ty.str z0 0 false)]) := by kernel_rfl
theorem c_ag (k kp : D → List Blk → Prop) : agPL cfg 1000001 (JJ k kp) (LL k kp) [] body = agPR cfg 1000001 none'' [] body (topK cfg Try.f39 k kp) := by kernel_rfl
theorem body_is : Try.f39.body = some body := by kernel_rfl
theorem c_raw (k kp : D → List Blk → Prop) (x0_0 : Int) (x0_1_0 : Int) (x0_1_1 : Int) (x0_1_2 : Int) (x0_1_3 : Int) (x0_2 : (List (Int × (Int × (Int × Int))))) (x0_3 : ByteArray) (x0_4 : Int) (x0_5 : (List ByteArray)) (x0_6 : (List Int)) : funW cfg Try.f39 [(.agg [(.v (.int IntKind.i64 x0_0)), (.v (.int IntKind.i64 x0_1_0)), (.v (.int IntKind.i64 x0_1_1)), (.v (.int IntKind.i64 x0_1_2)), (.v (.int IntKind.i64 x0_1_3)), (.fz (Ty.pair (Ty.int IntKind.i64) (Ty.pair (Ty.int IntKind.i64) (Ty.pair (Ty.int IntKind.i64) (Ty.int IntKind.i64)))) x0_2), (.v (.string x0_3)), (.v (.int IntKind.i64 x0_4)), (.fz Ty.str x0_5), (.fz (Ty.int IntKind.i64) x0_6)])] [] k kp = c (fun x1_0 x1_1 x1_2 x1_3 x1_4 x1_5 x1_6 x1_7 x1_8 x1_9 x4c0_0 x4c0_1 x4c0_2 x4c0_3 x4c0_4 x4c0_5 x4c0_6 x4c0_7 x4c0_8 x4c0_9 x9 x10 x11 b0 => XL4 k kp (mL4 x1_0 x1_1 x1_2 x1_3 x1_4 x1_5 x1_6 x1_7 x1_8 x1_9 x4c0_0 x4c0_1 x4c0_2 x4c0_3 x4c0_4 x4c0_5 x4c0_6 x4c0_7 x4c0_8 x4c0_9 x9 x10 x11 b0)) x0_0 x0_1_0 x0_1_1 x0_1_2 x0_1_3 x0_2 x0_3 x0_4 x0_5 x0_6 (fun z0 => k (.sl 0 0) [(.lst 9 Ty.str z0 0 false)]) :=
  Eq.mp (by kernel_rfl) ((funW_run (AG := none'') body_is (c_ag k kp) [(.agg [(.v (.int IntKind.i64 x0_0)), (.v (.int IntKind.i64 x0_1_0)), (.v (.int IntKind.i64 x0_1_1)), (.v (.int IntKind.i64 x0_1_2)), (.v (.int IntKind.i64 x0_1_3)), (.fz (Ty.pair (Ty.int IntKind.i64) (Ty.pair (Ty.int IntKind.i64) (Ty.pair (Ty.int IntKind.i64) (Ty.int IntKind.i64)))) x0_2), (.v (.string x0_3)), (.v (.int IntKind.i64 x0_4)), (.fz Ty.str x0_5), (.fz (Ty.int IntKind.i64) x0_6)])] []).trans (c_c k kp (JJ k kp) (LL k kp) x0_0 x0_1_0 x0_1_1 x0_1_2 x0_1_3 x0_2 x0_3 x0_4 x0_5 x0_6))
theorem f_eq (k kp : D → List Blk → Prop) (x0_0 : Int) (x0_1_0 : Int) (x0_1_1 : Int) (x0_1_2 : Int) (x0_1_3 : Int) (x0_2 : (List (Int × (Int × (Int × Int))))) (x0_3 : ByteArray) (x0_4 : Int) (x0_5 : (List ByteArray)) (x0_6 : (List Int)) : funW cfg Try.f39 [(.agg [(.v (.int IntKind.i64 x0_0)), (.v (.int IntKind.i64 x0_1_0)), (.v (.int IntKind.i64 x0_1_1)), (.v (.int IntKind.i64 x0_1_2)), (.v (.int IntKind.i64 x0_1_3)), (.fz (Ty.pair (Ty.int IntKind.i64) (Ty.pair (Ty.int IntKind.i64) (Ty.pair (Ty.int IntKind.i64) (Ty.int IntKind.i64)))) x0_2), (.v (.string x0_3)), (.v (.int IntKind.i64 x0_4)), (.fz Ty.str x0_5), (.fz (Ty.int IntKind.i64) x0_6)])] [] k kp = f x0_0 x0_1_0 x0_1_1 x0_1_2 x0_1_3 x0_2 x0_3 x0_4 x0_5 x0_6 (fun z0 => k (.sl 0 0) [(.lst 9 Ty.str z0 0 false)]) := by
  rw [f_def, c_raw]; simp only [l4_eq]; first | done | rfl
noncomputable def ent0 : Entry := fun args blks k _ => match args, blks with
  | [d0], [] => aAgg 10 d0 fun l => aCons l fun d0_0 l => aCons l fun d0_1 l => aCons l fun d0_2 l => aCons l fun d0_3 l => aCons l fun d0_4 l => aCons l fun d0_5 l => aCons l fun d0_6 l => aCons l fun d0_7 l => aCons l fun d0_8 l => aCons l fun d0_9 l => aNil l (aInt IntKind.i64 d0_0 fun x0_0 => aInt IntKind.i64 d0_1 fun x0_1_0 => aInt IntKind.i64 d0_2 fun x0_1_1 => aInt IntKind.i64 d0_3 fun x0_1_2 => aInt IntKind.i64 d0_4 fun x0_1_3 => aFz (Ty.pair (Ty.int IntKind.i64) (Ty.pair (Ty.int IntKind.i64) (Ty.pair (Ty.int IntKind.i64) (Ty.int IntKind.i64)))) d0_5 fun x0_2 => aStr d0_6 fun x0_3 => aInt IntKind.i64 d0_7 fun x0_4 => aFz Ty.str d0_8 fun x0_5 => aFz (Ty.int IntKind.i64) d0_9 fun x0_6 => f x0_0 x0_1_0 x0_1_1 x0_1_2 x0_1_3 x0_2 x0_3 x0_4 x0_5 x0_6 (fun z0 => k (.sl 0 0) [(.lst 9 Ty.str z0 0 false)]))
  | _, _ => False
noncomputable def ent : Entry := fun args blks k kp => ent0 (convB [.cells [none, none, none, none, none, some (Ty.pair (Ty.int IntKind.i64) (Ty.pair (Ty.int IntKind.i64) (Ty.pair (Ty.int IntKind.i64) (Ty.int IntKind.i64)))), none, none, some Ty.str, some (Ty.int IntKind.i64)]] args) blks k kp
theorem ok : EntOk Try.prog 0 0 39 ent := by
  refine EntOk.convB (EntOk.of (funW_ok (cfg := cfg) (tyOk_of rfl rfl tyL_ok) (eqOk_of (P := Try.prog) rfl rfl (by kernel_rfl)) mixed_ok (tab_ok ?_) Try.func39 (by rfl) (by rfl)) ?_) _
  · intro p hp
    simp only [List.mem_cons, List.not_mem_nil, or_false] at hp
    rcases hp with rfl | rfl
    · exact N43.ok
    · exact N61.ok
  · intro args blks k kp h k' kp'
    match args, blks, h with
    | [d0], [], h =>
    dsimp only [ent0] at h
    have h9 := aAgg_elim h; clear h; obtain ⟨_, rfl, h⟩ := h9
    have h9 := aCons_elim h; clear h; obtain ⟨d0_0, _, rfl, h⟩ := h9
    have h9 := aCons_elim h; clear h; obtain ⟨d0_1, _, rfl, h⟩ := h9
    have h9 := aCons_elim h; clear h; obtain ⟨d0_2, _, rfl, h⟩ := h9
    have h9 := aCons_elim h; clear h; obtain ⟨d0_3, _, rfl, h⟩ := h9
    have h9 := aCons_elim h; clear h; obtain ⟨d0_4, _, rfl, h⟩ := h9
    have h9 := aCons_elim h; clear h; obtain ⟨d0_5, _, rfl, h⟩ := h9
    have h9 := aCons_elim h; clear h; obtain ⟨d0_6, _, rfl, h⟩ := h9
    have h9 := aCons_elim h; clear h; obtain ⟨d0_7, _, rfl, h⟩ := h9
    have h9 := aCons_elim h; clear h; obtain ⟨d0_8, _, rfl, h⟩ := h9
    have h9 := aCons_elim h; clear h; obtain ⟨d0_9, _, rfl, h⟩ := h9
    have h9 := aNil_elim h; clear h; obtain ⟨rfl, h⟩ := h9
    have h9 := aInt_elim h; clear h; obtain ⟨x0_0, rfl, h⟩ := h9
    have h9 := aInt_elim h; clear h; obtain ⟨x0_1_0, rfl, h⟩ := h9
    have h9 := aInt_elim h; clear h; obtain ⟨x0_1_1, rfl, h⟩ := h9
    have h9 := aInt_elim h; clear h; obtain ⟨x0_1_2, rfl, h⟩ := h9
    have h9 := aInt_elim h; clear h; obtain ⟨x0_1_3, rfl, h⟩ := h9
    have h9 := aFz_elim (t := (Ty.pair (Ty.int IntKind.i64) (Ty.pair (Ty.int IntKind.i64) (Ty.pair (Ty.int IntKind.i64) (Ty.int IntKind.i64))))) h; clear h; obtain ⟨x0_2, rfl, h⟩ := h9
    have h9 := aStr_elim h; clear h; obtain ⟨x0_3, rfl, h⟩ := h9
    have h9 := aInt_elim h; clear h; obtain ⟨x0_4, rfl, h⟩ := h9
    have h9 := aFz_elim (t := Ty.str) h; clear h; obtain ⟨x0_5, rfl, h⟩ := h9
    have h9 := aFz_elim (t := (Ty.int IntKind.i64)) h; clear h; obtain ⟨x0_6, rfl, h⟩ := h9
    exact (f_eq k' kp' x0_0 x0_1_0 x0_1_1 x0_1_2 x0_1_3 x0_2 x0_3 x0_4 x0_5 x0_6).symm
end N39
end Go.Proofs.Yc
namespace Go.Proofs.Yc
open Go Go.Aw Go.Proofs
set_option linter.unusedVariables false
set_option linter.unusedSimpArgs false
set_option maxRecDepth 100000
/-! dyehouse/show.Instr -/
namespace N12
noncomputable def cfg : Cfg := { P := Try.prog, ty := tys, E := tab [(14, N14.ent), (27, N27.ent), (36, N36.ent), (37, N37.ent), (29, N29.ent), (28, N28.ent), (31, N31.ent), (38, N38.ent), (39, N39.ent)], atSeq := tab [(4, ⟨[(1, .keep), (3, .keep)]⟩), (11, ⟨[(1, .keep), (3, .keep)]⟩), (13, ⟨[(3, .keep)]⟩)], atLoop := tab [], outs := [], eqT := tab [], bT := tab [(68, 5)], fzB := [1] }
noncomputable def body : Code := bodyOf Try.f12
def j4 (j11 : Int → Int → Int → Int → Int → (List (Int × (Int × (Int × Int)))) → ByteArray → Int → (List ByteArray) → (List Int) → ByteArray → Prop) (x1_0 : Int) (x1_1 : Int) (x1_2 : Int) (x1_3 : Int) (x1_4 : Int) (x1_5 : (List (Int × (Int × (Int × Int))))) (x1_6 : ByteArray) (x1_7 : Int) (x1_8 : (List ByteArray)) (x1_9 : (List Int)) (b0 : ByteArray) (k : ByteArray → Prop) : Prop :=
  (N36.f x1_0 x1_1 x1_2 x1_3 x1_4 x1_5 x1_6 x1_7 x1_8 x1_9 (fun (y0_2 : ByteArray) => (ws y0_2 b0 (fun (y_3 : Int) (z_3 : ByteArray) => (br (x1_0 == (19 : Int)) (N37.f x1_6 (fun (y0_4 : ByteArray) => ((((ByteArray.mk #[32])).size + (y0_4).size ≤ 9223372036854775807) ∧ (((((ByteArray.mk #[32]) ++ y0_4)).size + ((ByteArray.mk #[40])).size ≤ 9223372036854775807) ∧ (N29.f x1_5 (fun (z0_5 : (List ByteArray)) => (N28.f (((ByteArray.mk #[32]) ++ y0_4) ++ (ByteArray.mk #[40])) z0_5 (ByteArray.mk #[41]) z_3 (fun (z0_6 : ByteArray) => (bs z0_6 (fun (y_7 : ByteArray) => (k y_7))))))))))) (N38.f x1_0 x1_1 x1_2 x1_3 x1_4 x1_5 x1_6 x1_7 x1_8 x1_9 (fun (z0_8 : (List ByteArray)) => (br (decide (((((z0_8).length : Nat) : Int)) > (0 : Int))) (N28.f (ByteArray.mk #[32]) z0_8 (ByteArray.mk #[]) z_3 (fun (z0_9 : ByteArray) => (j11 x1_0 x1_1 x1_2 x1_3 x1_4 x1_5 x1_6 x1_7 x1_8 x1_9 z0_9))) (j11 x1_0 x1_1 x1_2 x1_3 x1_4 x1_5 x1_6 x1_7 x1_8 x1_9 z_3)))))))))
def j11 (j13 : ByteArray → Prop) (x1_0 : Int) (x1_1 : Int) (x1_2 : Int) (x1_3 : Int) (x1_4 : Int) (x1_5 : (List (Int × (Int × (Int × Int))))) (x1_6 : ByteArray) (x1_7 : Int) (x1_8 : (List ByteArray)) (x1_9 : (List Int)) (b0 : ByteArray) (k : ByteArray → Prop) : Prop :=
  (br (x1_0 == (22 : Int)) (N39.f x1_0 x1_1 x1_2 x1_3 x1_4 x1_5 x1_6 x1_7 x1_8 x1_9 (fun (z0_10 : (List ByteArray)) => (N28.f (ByteArray.mk #[32, 91]) z0_10 (ByteArray.mk #[93]) b0 (fun (z0_11 : ByteArray) => (j13 z0_11))))) (j13 b0))
def j13 (b0 : ByteArray) (k : ByteArray → Prop) : Prop :=
  (bs b0 (fun (y_12 : ByteArray) => (k y_12)))
def c (j4 : Int → Int → Int → Int → Int → (List (Int × (Int × (Int × Int)))) → ByteArray → Int → (List ByteArray) → (List Int) → ByteArray → Prop) (x0_0 : Int) (x0_1_0 : Int) (x0_1_1 : Int) (x0_1_2 : Int) (x0_1_3 : Int) (x0_2 : (List (Int × (Int × (Int × Int))))) (x0_3 : ByteArray) (x0_4 : Int) (x0_5 : (List ByteArray)) (x0_6 : (List Int)) (k : ByteArray → Prop) : Prop :=
  (br (x0_1_0 != (0 : Int)) (N14.f x0_1_0 x0_1_1 x0_1_2 x0_1_3 (fun (y0_0 : ByteArray) => (((y0_0).size + ((ByteArray.mk #[32, 61, 32])).size ≤ 9223372036854775807) ∧ (ws (y0_0 ++ (ByteArray.mk #[32, 61, 32])) ByteArray.empty (fun (y_1 : Int) (z_1 : ByteArray) => (j4 x0_0 x0_1_0 x0_1_1 x0_1_2 x0_1_3 x0_2 x0_3 x0_4 x0_5 x0_6 z_1)))))) (j4 x0_0 x0_1_0 x0_1_1 x0_1_2 x0_1_3 x0_2 x0_3 x0_4 x0_5 x0_6 ByteArray.empty))
def j13' (b0 : ByteArray) (k : ByteArray → Prop) : Prop := j13 b0 k
def j11' (x1_0 : Int) (x1_1 : Int) (x1_2 : Int) (x1_3 : Int) (x1_4 : Int) (x1_5 : (List (Int × (Int × (Int × Int))))) (x1_6 : ByteArray) (x1_7 : Int) (x1_8 : (List ByteArray)) (x1_9 : (List Int)) (b0 : ByteArray) (k : ByteArray → Prop) : Prop := j11 (fun b0 => j13' b0 k) x1_0 x1_1 x1_2 x1_3 x1_4 x1_5 x1_6 x1_7 x1_8 x1_9 b0 k
def j4' (x1_0 : Int) (x1_1 : Int) (x1_2 : Int) (x1_3 : Int) (x1_4 : Int) (x1_5 : (List (Int × (Int × (Int × Int))))) (x1_6 : ByteArray) (x1_7 : Int) (x1_8 : (List ByteArray)) (x1_9 : (List Int)) (b0 : ByteArray) (k : ByteArray → Prop) : Prop := j4 (fun x1_0 x1_1 x1_2 x1_3 x1_4 x1_5 x1_6 x1_7 x1_8 x1_9 b0 => j11' x1_0 x1_1 x1_2 x1_3 x1_4 x1_5 x1_6 x1_7 x1_8 x1_9 b0 k) x1_0 x1_1 x1_2 x1_3 x1_4 x1_5 x1_6 x1_7 x1_8 x1_9 b0 k
def f0 (x0_0 : Int) (x0_1_0 : Int) (x0_1_1 : Int) (x0_1_2 : Int) (x0_1_3 : Int) (x0_2 : (List (Int × (Int × (Int × Int))))) (x0_3 : ByteArray) (x0_4 : Int) (x0_5 : (List ByteArray)) (x0_6 : (List Int)) (k : ByteArray → Prop) : Prop := c (fun x1_0 x1_1 x1_2 x1_3 x1_4 x1_5 x1_6 x1_7 x1_8 x1_9 b0 => j4' x1_0 x1_1 x1_2 x1_3 x1_4 x1_5 x1_6 x1_7 x1_8 x1_9 b0 k) x0_0 x0_1_0 x0_1_1 x0_1_2 x0_1_3 x0_2 x0_3 x0_4 x0_5 x0_6 k
theorem f_ex : ∃ g : Int → Int → Int → Int → Int → (List (Int × (Int × (Int × Int)))) → ByteArray → Int → (List ByteArray) → (List Int) → (ByteArray → Prop) → Prop, g = f0 := ⟨_, rfl⟩
noncomputable def f : Int → Int → Int → Int → Int → (List (Int × (Int × (Int × Int)))) → ByteArray → Int → (List ByteArray) → (List Int) → (ByteArray → Prop) → Prop := Classical.choose f_ex
theorem f_def : f = f0 := Classical.choose_spec f_ex
def m4 (x1_0 : Int) (x1_1 : Int) (x1_2 : Int) (x1_3 : Int) (x1_4 : Int) (x1_5 : (List (Int × (Int × (Int × Int))))) (x1_6 : ByteArray) (x1_7 : Int) (x1_8 : (List ByteArray)) (x1_9 : (List Int)) (b0 : ByteArray) : St := { tmps := mkT 48 0 [(1, (.fp [(.v (.int IntKind.i64 x1_0)), (.v (.int IntKind.i64 x1_1)), (.v (.int IntKind.i64 x1_2)), (.v (.int IntKind.i64 x1_3)), (.v (.int IntKind.i64 x1_4)), (.fz (Ty.pair (Ty.int IntKind.i64) (Ty.pair (Ty.int IntKind.i64) (Ty.pair (Ty.int IntKind.i64) (Ty.int IntKind.i64)))) x1_5), (.v (.string x1_6)), (.v (.int IntKind.i64 x1_7)), (.fz Ty.str x1_8), (.fz (Ty.int IntKind.i64) x1_9)])), (3, (.ptr 0 0))], hp := [(.bld 68 5 b0)], m := 0 }
def m11 (x1_0 : Int) (x1_1 : Int) (x1_2 : Int) (x1_3 : Int) (x1_4 : Int) (x1_5 : (List (Int × (Int × (Int × Int))))) (x1_6 : ByteArray) (x1_7 : Int) (x1_8 : (List ByteArray)) (x1_9 : (List Int)) (b0 : ByteArray) : St := { tmps := mkT 48 0 [(1, (.fp [(.v (.int IntKind.i64 x1_0)), (.v (.int IntKind.i64 x1_1)), (.v (.int IntKind.i64 x1_2)), (.v (.int IntKind.i64 x1_3)), (.v (.int IntKind.i64 x1_4)), (.fz (Ty.pair (Ty.int IntKind.i64) (Ty.pair (Ty.int IntKind.i64) (Ty.pair (Ty.int IntKind.i64) (Ty.int IntKind.i64)))) x1_5), (.v (.string x1_6)), (.v (.int IntKind.i64 x1_7)), (.fz Ty.str x1_8), (.fz (Ty.int IntKind.i64) x1_9)])), (3, (.ptr 0 0))], hp := [(.bld 68 5 b0)], m := 0 }
def m13 (b0 : ByteArray) : St := { tmps := mkT 48 0 [(3, (.ptr 0 0))], hp := [(.bld 68 5 b0)], m := 0 }
noncomputable def X4 (k kp : D → List Blk → Prop) : St → Prop := atP cfg (pick none' []) [1, 1, 1] body (topK cfg Try.f12 k kp)
noncomputable def X11 (k kp : D → List Blk → Prop) : St → Prop := atP cfg (pick none' []) [1, 1, 1, 1, 1, 1] body (topK cfg Try.f12 k kp)
noncomputable def X13 (k kp : D → List Blk → Prop) : St → Prop := atP cfg (pick none' []) [1, 1, 1, 1, 1, 1, 1] body (topK cfg Try.f12 k kp)
noncomputable def JJ (k kp : D → List Blk → Prop) : Nat → St → Prop := pick none' [(4, X4 k kp), (11, X11 k kp), (13, X13 k kp)]
noncomputable def LL (k kp : D → List Blk → Prop) : Nat → St → Prop := pick none' []
theorem j13_c (k kp : D → List Blk → Prop) (J L : Nat → St → Prop) (b0 : ByteArray) : runC cfg 13 J L (pick none' []) [1, 1, 1, 1, 1, 1, 1] body (topK cfg Try.f12 k kp) (m13 b0) = j13 b0 (fun y0 => k (.v (.string y0)) []) := by kernel_rfl
theorem j13_ag (k kp : D → List Blk → Prop) : agPL cfg 13 (JJ k kp) (LL k kp) [1, 1, 1, 1, 1, 1, 1] body = agPR cfg 13 (pick none' []) [1, 1, 1, 1, 1, 1, 1] body (topK cfg Try.f12 k kp) := by kernel_rfl
theorem j13_raw (k kp : D → List Blk → Prop) (b0 : ByteArray) : X13 k kp (m13 b0) = j13 b0 (fun y0 => k (.v (.string y0)) []) :=
  Eq.mp (by kernel_rfl) ((atP_run (j13_ag k kp) (m13 b0)).trans (j13_c k kp (JJ k kp) (LL k kp) b0))
theorem j13_eq (k kp : D → List Blk → Prop) (b0 : ByteArray) : X13 k kp (m13 b0) = j13' b0 (fun y0 => k (.v (.string y0)) []) := by
  rw [j13_raw]; rfl
theorem j11_c (k kp : D → List Blk → Prop) (J L : Nat → St → Prop) (x1_0 : Int) (x1_1 : Int) (x1_2 : Int) (x1_3 : Int) (x1_4 : Int) (x1_5 : (List (Int × (Int × (Int × Int))))) (x1_6 : ByteArray) (x1_7 : Int) (x1_8 : (List ByteArray)) (x1_9 : (List Int)) (b0 : ByteArray) : runC cfg 11 J L (pick none' []) [1, 1, 1, 1, 1, 1] body (topK cfg Try.f12 k kp) (m11 x1_0 x1_1 x1_2 x1_3 x1_4 x1_5 x1_6 x1_7 x1_8 x1_9 b0) = j11 (fun b0 => J 13 (m13 b0)) x1_0 x1_1 x1_2 x1_3 x1_4 x1_5 x1_6 x1_7 x1_8 x1_9 b0 (fun y0 => k (.v (.string y0)) []) := by kernel_rfl
theorem j11_ag (k kp : D → List Blk → Prop) : agPL cfg 11 (JJ k kp) (LL k kp) [1, 1, 1, 1, 1, 1] body = agPR cfg 11 (pick none' []) [1, 1, 1, 1, 1, 1] body (topK cfg Try.f12 k kp) := by kernel_rfl
theorem j11_raw (k kp : D → List Blk → Prop) (x1_0 : Int) (x1_1 : Int) (x1_2 : Int) (x1_3 : Int) (x1_4 : Int) (x1_5 : (List (Int × (Int × (Int × Int))))) (x1_6 : ByteArray) (x1_7 : Int) (x1_8 : (List ByteArray)) (x1_9 : (List Int)) (b0 : ByteArray) : X11 k kp (m11 x1_0 x1_1 x1_2 x1_3 x1_4 x1_5 x1_6 x1_7 x1_8 x1_9 b0) = j11 (fun b0 => X13 k kp (m13 b0)) x1_0 x1_1 x1_2 x1_3 x1_4 x1_5 x1_6 x1_7 x1_8 x1_9 b0 (fun y0 => k (.v (.string y0)) []) :=
  Eq.mp (by kernel_rfl) ((atP_run (j11_ag k kp) (m11 x1_0 x1_1 x1_2 x1_3 x1_4 x1_5 x1_6 x1_7 x1_8 x1_9 b0)).trans (j11_c k kp (JJ k kp) (LL k kp) x1_0 x1_1 x1_2 x1_3 x1_4 x1_5 x1_6 x1_7 x1_8 x1_9 b0))
theorem j11_eq (k kp : D → List Blk → Prop) (x1_0 : Int) (x1_1 : Int) (x1_2 : Int) (x1_3 : Int) (x1_4 : Int) (x1_5 : (List (Int × (Int × (Int × Int))))) (x1_6 : ByteArray) (x1_7 : Int) (x1_8 : (List ByteArray)) (x1_9 : (List Int)) (b0 : ByteArray) : X11 k kp (m11 x1_0 x1_1 x1_2 x1_3 x1_4 x1_5 x1_6 x1_7 x1_8 x1_9 b0) = j11' x1_0 x1_1 x1_2 x1_3 x1_4 x1_5 x1_6 x1_7 x1_8 x1_9 b0 (fun y0 => k (.v (.string y0)) []) := by
  rw [j11_raw]; simp only [j13_eq]; first | done | rfl
theorem j4_c (k kp : D → List Blk → Prop) (J L : Nat → St → Prop) (x1_0 : Int) (x1_1 : Int) (x1_2 : Int) (x1_3 : Int) (x1_4 : Int) (x1_5 : (List (Int × (Int × (Int × Int))))) (x1_6 : ByteArray) (x1_7 : Int) (x1_8 : (List ByteArray)) (x1_9 : (List Int)) (b0 : ByteArray) : runC cfg 4 J L (pick none' []) [1, 1, 1] body (topK cfg Try.f12 k kp) (m4 x1_0 x1_1 x1_2 x1_3 x1_4 x1_5 x1_6 x1_7 x1_8 x1_9 b0) = j4 (fun x1_0 x1_1 x1_2 x1_3 x1_4 x1_5 x1_6 x1_7 x1_8 x1_9 b0 => J 11 (m11 x1_0 x1_1 x1_2 x1_3 x1_4 x1_5 x1_6 x1_7 x1_8 x1_9 b0)) x1_0 x1_1 x1_2 x1_3 x1_4 x1_5 x1_6 x1_7 x1_8 x1_9 b0 (fun y0 => k (.v (.string y0)) []) := by kernel_rfl
theorem j4_ag (k kp : D → List Blk → Prop) : agPL cfg 4 (JJ k kp) (LL k kp) [1, 1, 1] body = agPR cfg 4 (pick none' []) [1, 1, 1] body (topK cfg Try.f12 k kp) := by kernel_rfl
theorem j4_raw (k kp : D → List Blk → Prop) (x1_0 : Int) (x1_1 : Int) (x1_2 : Int) (x1_3 : Int) (x1_4 : Int) (x1_5 : (List (Int × (Int × (Int × Int))))) (x1_6 : ByteArray) (x1_7 : Int) (x1_8 : (List ByteArray)) (x1_9 : (List Int)) (b0 : ByteArray) : X4 k kp (m4 x1_0 x1_1 x1_2 x1_3 x1_4 x1_5 x1_6 x1_7 x1_8 x1_9 b0) = j4 (fun x1_0 x1_1 x1_2 x1_3 x1_4 x1_5 x1_6 x1_7 x1_8 x1_9 b0 => X11 k kp (m11 x1_0 x1_1 x1_2 x1_3 x1_4 x1_5 x1_6 x1_7 x1_8 x1_9 b0)) x1_0 x1_1 x1_2 x1_3 x1_4 x1_5 x1_6 x1_7 x1_8 x1_9 b0 (fun y0 => k (.v (.string y0)) []) :=
  Eq.mp (by kernel_rfl) ((atP_run (j4_ag k kp) (m4 x1_0 x1_1 x1_2 x1_3 x1_4 x1_5 x1_6 x1_7 x1_8 x1_9 b0)).trans (j4_c k kp (JJ k kp) (LL k kp) x1_0 x1_1 x1_2 x1_3 x1_4 x1_5 x1_6 x1_7 x1_8 x1_9 b0))
theorem j4_eq (k kp : D → List Blk → Prop) (x1_0 : Int) (x1_1 : Int) (x1_2 : Int) (x1_3 : Int) (x1_4 : Int) (x1_5 : (List (Int × (Int × (Int × Int))))) (x1_6 : ByteArray) (x1_7 : Int) (x1_8 : (List ByteArray)) (x1_9 : (List Int)) (b0 : ByteArray) : X4 k kp (m4 x1_0 x1_1 x1_2 x1_3 x1_4 x1_5 x1_6 x1_7 x1_8 x1_9 b0) = j4' x1_0 x1_1 x1_2 x1_3 x1_4 x1_5 x1_6 x1_7 x1_8 x1_9 b0 (fun y0 => k (.v (.string y0)) []) := by
  rw [j4_raw]; simp only [j11_eq]; first | done | rfl
theorem c_c (k kp : D → List Blk → Prop) (J L : Nat → St → Prop) (x0_0 : Int) (x0_1_0 : Int) (x0_1_1 : Int) (x0_1_2 : Int) (x0_1_3 : Int) (x0_2 : (List (Int × (Int × (Int × Int))))) (x0_3 : ByteArray) (x0_4 : Int) (x0_5 : (List ByteArray)) (x0_6 : (List Int)) : runC cfg 1000001 J L none'' [] body (topK cfg Try.f12 k kp) (st0 Try.f12 [(.agg [(.v (.int IntKind.i64 x0_0)), (.v (.int IntKind.i64 x0_1_0)), (.v (.int IntKind.i64 x0_1_1)), (.v (.int IntKind.i64 x0_1_2)), (.v (.int IntKind.i64 x0_1_3)), (.fz (Ty.pair (Ty.int IntKind.i64) (Ty.pair (Ty.int IntKind.i64) (Ty.pair (Ty.int IntKind.i64) (Ty.int IntKind.i64)))) x0_2), (.v (.string x0_3)), (.v (.int IntKind.i64 x0_4)), (.fz Ty.str x0_5), (.fz (Ty.int IntKind.i64) x0_6)])] []) = c (fun x1_0 x1_1 x1_2 x1_3 x1_4 x1_5 x1_6 x1_7 x1_8 x1_9 b0 => J 4 (m4 x1_0 x1_1 x1_2 x1_3 x1_4 x1_5 x1_6 x1_7 x1_8 x1_9 b0)) x0_0 x0_1_0 x0_1_1 x0_1_2 x0_1_3 x0_2 x0_3 x0_4 x0_5 x0_6 (fun y0 => k (.v (.string y0)) []) := by kernel_rfl
theorem c_ag (k kp : D → List Blk → Prop) : agPL cfg 1000001 (JJ k kp) (LL k kp) [] body = agPR cfg 1000001 none'' [] body (topK cfg Try.f12 k kp) := by kernel_rfl
theorem body_is : Try.f12.body = some body := by kernel_rfl
theorem c_raw (k kp : D → List Blk → Prop) (x0_0 : Int) (x0_1_0 : Int) (x0_1_1 : Int) (x0_1_2 : Int) (x0_1_3 : Int) (x0_2 : (List (Int × (Int × (Int × Int))))) (x0_3 : ByteArray) (x0_4 : Int) (x0_5 : (List ByteArray)) (x0_6 : (List Int)) : funW cfg Try.f12 [(.agg [(.v (.int IntKind.i64 x0_0)), (.v (.int IntKind.i64 x0_1_0)), (.v (.int IntKind.i64 x0_1_1)), (.v (.int IntKind.i64 x0_1_2)), (.v (.int IntKind.i64 x0_1_3)), (.fz (Ty.pair (Ty.int IntKind.i64) (Ty.pair (Ty.int IntKind.i64) (Ty.pair (Ty.int IntKind.i64) (Ty.int IntKind.i64)))) x0_2), (.v (.string x0_3)), (.v (.int IntKind.i64 x0_4)), (.fz Ty.str x0_5), (.fz (Ty.int IntKind.i64) x0_6)])] [] k kp = c (fun x1_0 x1_1 x1_2 x1_3 x1_4 x1_5 x1_6 x1_7 x1_8 x1_9 b0 => X4 k kp (m4 x1_0 x1_1 x1_2 x1_3 x1_4 x1_5 x1_6 x1_7 x1_8 x1_9 b0)) x0_0 x0_1_0 x0_1_1 x0_1_2 x0_1_3 x0_2 x0_3 x0_4 x0_5 x0_6 (fun y0 => k (.v (.string y0)) []) :=
  Eq.mp (by kernel_rfl) ((funW_run (AG := none'') body_is (c_ag k kp) [(.agg [(.v (.int IntKind.i64 x0_0)), (.v (.int IntKind.i64 x0_1_0)), (.v (.int IntKind.i64 x0_1_1)), (.v (.int IntKind.i64 x0_1_2)), (.v (.int IntKind.i64 x0_1_3)), (.fz (Ty.pair (Ty.int IntKind.i64) (Ty.pair (Ty.int IntKind.i64) (Ty.pair (Ty.int IntKind.i64) (Ty.int IntKind.i64)))) x0_2), (.v (.string x0_3)), (.v (.int IntKind.i64 x0_4)), (.fz Ty.str x0_5), (.fz (Ty.int IntKind.i64) x0_6)])] []).trans (c_c k kp (JJ k kp) (LL k kp) x0_0 x0_1_0 x0_1_1 x0_1_2 x0_1_3 x0_2 x0_3 x0_4 x0_5 x0_6))
theorem f_eq (k kp : D → List Blk → Prop) (x0_0 : Int) (x0_1_0 : Int) (x0_1_1 : Int) (x0_1_2 : Int) (x0_1_3 : Int) (x0_2 : (List (Int × (Int × (Int × Int))))) (x0_3 : ByteArray) (x0_4 : Int) (x0_5 : (List ByteArray)) (x0_6 : (List Int)) : funW cfg Try.f12 [(.agg [(.v (.int IntKind.i64 x0_0)), (.v (.int IntKind.i64 x0_1_0)), (.v (.int IntKind.i64 x0_1_1)), (.v (.int IntKind.i64 x0_1_2)), (.v (.int IntKind.i64 x0_1_3)), (.fz (Ty.pair (Ty.int IntKind.i64) (Ty.pair (Ty.int IntKind.i64) (Ty.pair (Ty.int IntKind.i64) (Ty.int IntKind.i64)))) x0_2), (.v (.string x0_3)), (.v (.int IntKind.i64 x0_4)), (.fz Ty.str x0_5), (.fz (Ty.int IntKind.i64) x0_6)])] [] k kp = f x0_0 x0_1_0 x0_1_1 x0_1_2 x0_1_3 x0_2 x0_3 x0_4 x0_5 x0_6 (fun y0 => k (.v (.string y0)) []) := by
  rw [f_def, c_raw]; simp only [j4_eq]; first | done | rfl
noncomputable def ent0 : Entry := fun args blks k _ => match args, blks with
  | [d0], [] => aAgg 10 d0 fun l => aCons l fun d0_0 l => aCons l fun d0_1 l => aCons l fun d0_2 l => aCons l fun d0_3 l => aCons l fun d0_4 l => aCons l fun d0_5 l => aCons l fun d0_6 l => aCons l fun d0_7 l => aCons l fun d0_8 l => aCons l fun d0_9 l => aNil l (aInt IntKind.i64 d0_0 fun x0_0 => aInt IntKind.i64 d0_1 fun x0_1_0 => aInt IntKind.i64 d0_2 fun x0_1_1 => aInt IntKind.i64 d0_3 fun x0_1_2 => aInt IntKind.i64 d0_4 fun x0_1_3 => aFz (Ty.pair (Ty.int IntKind.i64) (Ty.pair (Ty.int IntKind.i64) (Ty.pair (Ty.int IntKind.i64) (Ty.int IntKind.i64)))) d0_5 fun x0_2 => aStr d0_6 fun x0_3 => aInt IntKind.i64 d0_7 fun x0_4 => aFz Ty.str d0_8 fun x0_5 => aFz (Ty.int IntKind.i64) d0_9 fun x0_6 => f x0_0 x0_1_0 x0_1_1 x0_1_2 x0_1_3 x0_2 x0_3 x0_4 x0_5 x0_6 (fun y0 => k (.v (.string y0)) []))
  | _, _ => False
noncomputable def ent : Entry := fun args blks k kp => ent0 (convB [.cells [none, none, none, none, none, some (Ty.pair (Ty.int IntKind.i64) (Ty.pair (Ty.int IntKind.i64) (Ty.pair (Ty.int IntKind.i64) (Ty.int IntKind.i64)))), none, none, some Ty.str, some (Ty.int IntKind.i64)]] args) blks k kp
theorem ok : EntOk Try.prog 0 0 12 ent := by
  refine EntOk.convB (EntOk.of (funW_ok (cfg := cfg) (tyOk_of rfl rfl tyL_ok) (eqOk_of (P := Try.prog) rfl rfl (by kernel_rfl)) mixed_ok (tab_ok ?_) Try.func12 (by rfl) (by rfl)) ?_) _
  · intro p hp
    simp only [List.mem_cons, List.not_mem_nil, or_false] at hp
    rcases hp with rfl | rfl | rfl | rfl | rfl | rfl | rfl | rfl | rfl
    · exact N14.ok
    · exact N27.ok
    · exact N36.ok
    · exact N37.ok
    · exact N29.ok
    · exact N28.ok
    · exact N31.ok
    · exact N38.ok
    · exact N39.ok
  · intro args blks k kp h k' kp'
    match args, blks, h with
    | [d0], [], h =>
    dsimp only [ent0] at h
    have h9 := aAgg_elim h; clear h; obtain ⟨_, rfl, h⟩ := h9
    have h9 := aCons_elim h; clear h; obtain ⟨d0_0, _, rfl, h⟩ := h9
    have h9 := aCons_elim h; clear h; obtain ⟨d0_1, _, rfl, h⟩ := h9
    have h9 := aCons_elim h; clear h; obtain ⟨d0_2, _, rfl, h⟩ := h9
    have h9 := aCons_elim h; clear h; obtain ⟨d0_3, _, rfl, h⟩ := h9
    have h9 := aCons_elim h; clear h; obtain ⟨d0_4, _, rfl, h⟩ := h9
    have h9 := aCons_elim h; clear h; obtain ⟨d0_5, _, rfl, h⟩ := h9
    have h9 := aCons_elim h; clear h; obtain ⟨d0_6, _, rfl, h⟩ := h9
    have h9 := aCons_elim h; clear h; obtain ⟨d0_7, _, rfl, h⟩ := h9
    have h9 := aCons_elim h; clear h; obtain ⟨d0_8, _, rfl, h⟩ := h9
    have h9 := aCons_elim h; clear h; obtain ⟨d0_9, _, rfl, h⟩ := h9
    have h9 := aNil_elim h; clear h; obtain ⟨rfl, h⟩ := h9
    have h9 := aInt_elim h; clear h; obtain ⟨x0_0, rfl, h⟩ := h9
    have h9 := aInt_elim h; clear h; obtain ⟨x0_1_0, rfl, h⟩ := h9
    have h9 := aInt_elim h; clear h; obtain ⟨x0_1_1, rfl, h⟩ := h9
    have h9 := aInt_elim h; clear h; obtain ⟨x0_1_2, rfl, h⟩ := h9
    have h9 := aInt_elim h; clear h; obtain ⟨x0_1_3, rfl, h⟩ := h9
    have h9 := aFz_elim (t := (Ty.pair (Ty.int IntKind.i64) (Ty.pair (Ty.int IntKind.i64) (Ty.pair (Ty.int IntKind.i64) (Ty.int IntKind.i64))))) h; clear h; obtain ⟨x0_2, rfl, h⟩ := h9
    have h9 := aStr_elim h; clear h; obtain ⟨x0_3, rfl, h⟩ := h9
    have h9 := aInt_elim h; clear h; obtain ⟨x0_4, rfl, h⟩ := h9
    have h9 := aFz_elim (t := Ty.str) h; clear h; obtain ⟨x0_5, rfl, h⟩ := h9
    have h9 := aFz_elim (t := (Ty.int IntKind.i64)) h; clear h; obtain ⟨x0_6, rfl, h⟩ := h9
    exact (f_eq k' kp' x0_0 x0_1_0 x0_1_1 x0_1_2 x0_1_3 x0_2 x0_3 x0_4 x0_5 x0_6).symm
end N12
end Go.Proofs.Yc
namespace Go.Proofs.Yc
open Go Go.Aw Go.Proofs
set_option linter.unusedVariables false
set_option linter.unusedSimpArgs false
set_option maxRecDepth 100000
/-! dyehouse/show.Head -/
namespace N17
noncomputable def cfg : Cfg := { P := Try.prog, ty := tys, E := tab [(27, N27.ent), (29, N29.ent), (28, N28.ent), (47, N47.ent), (31, N31.ent)], atSeq := tab [(4, ⟨[(1, .keep), (3, .keep)]⟩), (7, ⟨[(3, .keep)]⟩)], atLoop := tab [], outs := [], eqT := tab [], bT := tab [(68, 5)], fzB := [1] }
noncomputable def body : Code := bodyOf Try.f17
def j4 (j7 : ByteArray → Prop) (x1_0 : ByteArray) (x1_1 : Bool) (x1_2 : (List (Int × (Int × (Int × Int))))) (x1_3 : (List (Int × ((Int × (Int × (Int × Int))) × ((List (Int × (Int × (Int × Int)))) × (ByteArray × (Int × ((List ByteArray) × (List Int))))))))) (b0 : ByteArray) (k : ByteArray → Prop) : Prop :=
  (ws x1_0 b0 (fun (y_1 : Int) (z_1 : ByteArray) => (br (decide (((((x1_2).length : Nat) : Int)) > (0 : Int))) (N29.f x1_2 (fun (z0_2 : (List ByteArray)) => (N28.f (ByteArray.mk #[32, 91]) z0_2 (ByteArray.mk #[93]) z_1 (fun (z0_3 : ByteArray) => (j7 z0_3))))) (j7 z_1))))
def j7 (b0 : ByteArray) (k : ByteArray → Prop) : Prop :=
  (wb (58 : Int) b0 (fun (z_4 : ByteArray) => (bs z_4 (fun (y_5 : ByteArray) => (k y_5)))))
def c (j4 : ByteArray → Bool → (List (Int × (Int × (Int × Int)))) → (List (Int × ((Int × (Int × (Int × Int))) × ((List (Int × (Int × (Int × Int)))) × (ByteArray × (Int × ((List ByteArray) × (List Int)))))))) → ByteArray → Prop) (x0_0 : ByteArray) (x0_1 : Bool) (x0_2 : (List (Int × (Int × (Int × Int))))) (x0_3 : (List (Int × ((Int × (Int × (Int × Int))) × ((List (Int × (Int × (Int × Int)))) × (ByteArray × (Int × ((List ByteArray) × (List Int))))))))) (k : ByteArray → Prop) : Prop :=
  (br x0_1 (ws (ByteArray.mk #[101, 100, 103, 101, 32]) ByteArray.empty (fun (y_0 : Int) (z_0 : ByteArray) => (j4 x0_0 x0_1 x0_2 x0_3 z_0))) (j4 x0_0 x0_1 x0_2 x0_3 ByteArray.empty))
def j7' (b0 : ByteArray) (k : ByteArray → Prop) : Prop := j7 b0 k
def j4' (x1_0 : ByteArray) (x1_1 : Bool) (x1_2 : (List (Int × (Int × (Int × Int))))) (x1_3 : (List (Int × ((Int × (Int × (Int × Int))) × ((List (Int × (Int × (Int × Int)))) × (ByteArray × (Int × ((List ByteArray) × (List Int))))))))) (b0 : ByteArray) (k : ByteArray → Prop) : Prop := j4 (fun b0 => j7' b0 k) x1_0 x1_1 x1_2 x1_3 b0 k
def f0 (x0_0 : ByteArray) (x0_1 : Bool) (x0_2 : (List (Int × (Int × (Int × Int))))) (x0_3 : (List (Int × ((Int × (Int × (Int × Int))) × ((List (Int × (Int × (Int × Int)))) × (ByteArray × (Int × ((List ByteArray) × (List Int))))))))) (k : ByteArray → Prop) : Prop := c (fun x1_0 x1_1 x1_2 x1_3 b0 => j4' x1_0 x1_1 x1_2 x1_3 b0 k) x0_0 x0_1 x0_2 x0_3 k
theorem f_ex : ∃ g : ByteArray → Bool → (List (Int × (Int × (Int × Int)))) → (List (Int × ((Int × (Int × (Int × Int))) × ((List (Int × (Int × (Int × Int)))) × (ByteArray × (Int × ((List ByteArray) × (List Int)))))))) → (ByteArray → Prop) → Prop, g = f0 := ⟨_, rfl⟩
noncomputable def f : ByteArray → Bool → (List (Int × (Int × (Int × Int)))) → (List (Int × ((Int × (Int × (Int × Int))) × ((List (Int × (Int × (Int × Int)))) × (ByteArray × (Int × ((List ByteArray) × (List Int)))))))) → (ByteArray → Prop) → Prop := Classical.choose f_ex
theorem f_def : f = f0 := Classical.choose_spec f_ex
def m4 (x1_0 : ByteArray) (x1_1 : Bool) (x1_2 : (List (Int × (Int × (Int × Int))))) (x1_3 : (List (Int × ((Int × (Int × (Int × Int))) × ((List (Int × (Int × (Int × Int)))) × (ByteArray × (Int × ((List ByteArray) × (List Int))))))))) (b0 : ByteArray) : St := { tmps := mkT 24 0 [(1, (.fp [(.v (.string x1_0)), (.v (.bool x1_1)), (.fz (Ty.pair (Ty.int IntKind.i64) (Ty.pair (Ty.int IntKind.i64) (Ty.pair (Ty.int IntKind.i64) (Ty.int IntKind.i64)))) x1_2), (.fz (Ty.pair (Ty.int IntKind.i64) (Ty.pair (Ty.pair (Ty.int IntKind.i64) (Ty.pair (Ty.int IntKind.i64) (Ty.pair (Ty.int IntKind.i64) (Ty.int IntKind.i64)))) (Ty.pair (Ty.list (Ty.pair (Ty.int IntKind.i64) (Ty.pair (Ty.int IntKind.i64) (Ty.pair (Ty.int IntKind.i64) (Ty.int IntKind.i64))))) (Ty.pair Ty.str (Ty.pair (Ty.int IntKind.i64) (Ty.pair (Ty.list Ty.str) (Ty.list (Ty.int IntKind.i64)))))))) x1_3)])), (3, (.ptr 0 0))], hp := [(.bld 68 5 b0)], m := 0 }
def m7 (b0 : ByteArray) : St := { tmps := mkT 24 0 [(3, (.ptr 0 0))], hp := [(.bld 68 5 b0)], m := 0 }
noncomputable def X4 (k kp : D → List Blk → Prop) : St → Prop := atP cfg (pick none' []) [1, 1, 1] body (topK cfg Try.f17 k kp)
noncomputable def X7 (k kp : D → List Blk → Prop) : St → Prop := atP cfg (pick none' []) [1, 1, 1, 1, 1] body (topK cfg Try.f17 k kp)
noncomputable def JJ (k kp : D → List Blk → Prop) : Nat → St → Prop := pick none' [(4, X4 k kp), (7, X7 k kp)]
noncomputable def LL (k kp : D → List Blk → Prop) : Nat → St → Prop := pick none' []
theorem j7_c (k kp : D → List Blk → Prop) (J L : Nat → St → Prop) (b0 : ByteArray) : runC cfg 7 J L (pick none' []) [1, 1, 1, 1, 1] body (topK cfg Try.f17 k kp) (m7 b0) = j7 b0 (fun y0 => k (.v (.string y0)) []) := by kernel_rfl
theorem j7_ag (k kp : D → List Blk → Prop) : agPL cfg 7 (JJ k kp) (LL k kp) [1, 1, 1, 1, 1] body = agPR cfg 7 (pick none' []) [1, 1, 1, 1, 1] body (topK cfg Try.f17 k kp) := by kernel_rfl
theorem j7_raw (k kp : D → List Blk → Prop) (b0 : ByteArray) : X7 k kp (m7 b0) = j7 b0 (fun y0 => k (.v (.string y0)) []) :=
  Eq.mp (by kernel_rfl) ((atP_run (j7_ag k kp) (m7 b0)).trans (j7_c k kp (JJ k kp) (LL k kp) b0))
theorem j7_eq (k kp : D → List Blk → Prop) (b0 : ByteArray) : X7 k kp (m7 b0) = j7' b0 (fun y0 => k (.v (.string y0)) []) := by
  rw [j7_raw]; rfl
theorem j4_c (k kp : D → List Blk → Prop) (J L : Nat → St → Prop) (x1_0 : ByteArray) (x1_1 : Bool) (x1_2 : (List (Int × (Int × (Int × Int))))) (x1_3 : (List (Int × ((Int × (Int × (Int × Int))) × ((List (Int × (Int × (Int × Int)))) × (ByteArray × (Int × ((List ByteArray) × (List Int))))))))) (b0 : ByteArray) : runC cfg 4 J L (pick none' []) [1, 1, 1] body (topK cfg Try.f17 k kp) (m4 x1_0 x1_1 x1_2 x1_3 b0) = j4 (fun b0 => J 7 (m7 b0)) x1_0 x1_1 x1_2 x1_3 b0 (fun y0 => k (.v (.string y0)) []) := by kernel_rfl
theorem j4_ag (k kp : D → List Blk → Prop) : agPL cfg 4 (JJ k kp) (LL k kp) [1, 1, 1] body = agPR cfg 4 (pick none' []) [1, 1, 1] body (topK cfg Try.f17 k kp) := by kernel_rfl
theorem j4_raw (k kp : D → List Blk → Prop) (x1_0 : ByteArray) (x1_1 : Bool) (x1_2 : (List (Int × (Int × (Int × Int))))) (x1_3 : (List (Int × ((Int × (Int × (Int × Int))) × ((List (Int × (Int × (Int × Int)))) × (ByteArray × (Int × ((List ByteArray) × (List Int))))))))) (b0 : ByteArray) : X4 k kp (m4 x1_0 x1_1 x1_2 x1_3 b0) = j4 (fun b0 => X7 k kp (m7 b0)) x1_0 x1_1 x1_2 x1_3 b0 (fun y0 => k (.v (.string y0)) []) :=
  Eq.mp (by kernel_rfl) ((atP_run (j4_ag k kp) (m4 x1_0 x1_1 x1_2 x1_3 b0)).trans (j4_c k kp (JJ k kp) (LL k kp) x1_0 x1_1 x1_2 x1_3 b0))
theorem j4_eq (k kp : D → List Blk → Prop) (x1_0 : ByteArray) (x1_1 : Bool) (x1_2 : (List (Int × (Int × (Int × Int))))) (x1_3 : (List (Int × ((Int × (Int × (Int × Int))) × ((List (Int × (Int × (Int × Int)))) × (ByteArray × (Int × ((List ByteArray) × (List Int))))))))) (b0 : ByteArray) : X4 k kp (m4 x1_0 x1_1 x1_2 x1_3 b0) = j4' x1_0 x1_1 x1_2 x1_3 b0 (fun y0 => k (.v (.string y0)) []) := by
  rw [j4_raw]; simp only [j7_eq]; first | done | rfl
theorem c_c (k kp : D → List Blk → Prop) (J L : Nat → St → Prop) (x0_0 : ByteArray) (x0_1 : Bool) (x0_2 : (List (Int × (Int × (Int × Int))))) (x0_3 : (List (Int × ((Int × (Int × (Int × Int))) × ((List (Int × (Int × (Int × Int)))) × (ByteArray × (Int × ((List ByteArray) × (List Int))))))))) : runC cfg 1000001 J L none'' [] body (topK cfg Try.f17 k kp) (st0 Try.f17 [(.agg [(.v (.string x0_0)), (.v (.bool x0_1)), (.fz (Ty.pair (Ty.int IntKind.i64) (Ty.pair (Ty.int IntKind.i64) (Ty.pair (Ty.int IntKind.i64) (Ty.int IntKind.i64)))) x0_2), (.fz (Ty.pair (Ty.int IntKind.i64) (Ty.pair (Ty.pair (Ty.int IntKind.i64) (Ty.pair (Ty.int IntKind.i64) (Ty.pair (Ty.int IntKind.i64) (Ty.int IntKind.i64)))) (Ty.pair (Ty.list (Ty.pair (Ty.int IntKind.i64) (Ty.pair (Ty.int IntKind.i64) (Ty.pair (Ty.int IntKind.i64) (Ty.int IntKind.i64))))) (Ty.pair Ty.str (Ty.pair (Ty.int IntKind.i64) (Ty.pair (Ty.list Ty.str) (Ty.list (Ty.int IntKind.i64)))))))) x0_3)])] []) = c (fun x1_0 x1_1 x1_2 x1_3 b0 => J 4 (m4 x1_0 x1_1 x1_2 x1_3 b0)) x0_0 x0_1 x0_2 x0_3 (fun y0 => k (.v (.string y0)) []) := by kernel_rfl
theorem c_ag (k kp : D → List Blk → Prop) : agPL cfg 1000001 (JJ k kp) (LL k kp) [] body = agPR cfg 1000001 none'' [] body (topK cfg Try.f17 k kp) := by kernel_rfl
theorem body_is : Try.f17.body = some body := by kernel_rfl
theorem c_raw (k kp : D → List Blk → Prop) (x0_0 : ByteArray) (x0_1 : Bool) (x0_2 : (List (Int × (Int × (Int × Int))))) (x0_3 : (List (Int × ((Int × (Int × (Int × Int))) × ((List (Int × (Int × (Int × Int)))) × (ByteArray × (Int × ((List ByteArray) × (List Int))))))))) : funW cfg Try.f17 [(.agg [(.v (.string x0_0)), (.v (.bool x0_1)), (.fz (Ty.pair (Ty.int IntKind.i64) (Ty.pair (Ty.int IntKind.i64) (Ty.pair (Ty.int IntKind.i64) (Ty.int IntKind.i64)))) x0_2), (.fz (Ty.pair (Ty.int IntKind.i64) (Ty.pair (Ty.pair (Ty.int IntKind.i64) (Ty.pair (Ty.int IntKind.i64) (Ty.pair (Ty.int IntKind.i64) (Ty.int IntKind.i64)))) (Ty.pair (Ty.list (Ty.pair (Ty.int IntKind.i64) (Ty.pair (Ty.int IntKind.i64) (Ty.pair (Ty.int IntKind.i64) (Ty.int IntKind.i64))))) (Ty.pair Ty.str (Ty.pair (Ty.int IntKind.i64) (Ty.pair (Ty.list Ty.str) (Ty.list (Ty.int IntKind.i64)))))))) x0_3)])] [] k kp = c (fun x1_0 x1_1 x1_2 x1_3 b0 => X4 k kp (m4 x1_0 x1_1 x1_2 x1_3 b0)) x0_0 x0_1 x0_2 x0_3 (fun y0 => k (.v (.string y0)) []) :=
  Eq.mp (by kernel_rfl) ((funW_run (AG := none'') body_is (c_ag k kp) [(.agg [(.v (.string x0_0)), (.v (.bool x0_1)), (.fz (Ty.pair (Ty.int IntKind.i64) (Ty.pair (Ty.int IntKind.i64) (Ty.pair (Ty.int IntKind.i64) (Ty.int IntKind.i64)))) x0_2), (.fz (Ty.pair (Ty.int IntKind.i64) (Ty.pair (Ty.pair (Ty.int IntKind.i64) (Ty.pair (Ty.int IntKind.i64) (Ty.pair (Ty.int IntKind.i64) (Ty.int IntKind.i64)))) (Ty.pair (Ty.list (Ty.pair (Ty.int IntKind.i64) (Ty.pair (Ty.int IntKind.i64) (Ty.pair (Ty.int IntKind.i64) (Ty.int IntKind.i64))))) (Ty.pair Ty.str (Ty.pair (Ty.int IntKind.i64) (Ty.pair (Ty.list Ty.str) (Ty.list (Ty.int IntKind.i64)))))))) x0_3)])] []).trans (c_c k kp (JJ k kp) (LL k kp) x0_0 x0_1 x0_2 x0_3))
theorem f_eq (k kp : D → List Blk → Prop) (x0_0 : ByteArray) (x0_1 : Bool) (x0_2 : (List (Int × (Int × (Int × Int))))) (x0_3 : (List (Int × ((Int × (Int × (Int × Int))) × ((List (Int × (Int × (Int × Int)))) × (ByteArray × (Int × ((List ByteArray) × (List Int))))))))) : funW cfg Try.f17 [(.agg [(.v (.string x0_0)), (.v (.bool x0_1)), (.fz (Ty.pair (Ty.int IntKind.i64) (Ty.pair (Ty.int IntKind.i64) (Ty.pair (Ty.int IntKind.i64) (Ty.int IntKind.i64)))) x0_2), (.fz (Ty.pair (Ty.int IntKind.i64) (Ty.pair (Ty.pair (Ty.int IntKind.i64) (Ty.pair (Ty.int IntKind.i64) (Ty.pair (Ty.int IntKind.i64) (Ty.int IntKind.i64)))) (Ty.pair (Ty.list (Ty.pair (Ty.int IntKind.i64) (Ty.pair (Ty.int IntKind.i64) (Ty.pair (Ty.int IntKind.i64) (Ty.int IntKind.i64))))) (Ty.pair Ty.str (Ty.pair (Ty.int IntKind.i64) (Ty.pair (Ty.list Ty.str) (Ty.list (Ty.int IntKind.i64)))))))) x0_3)])] [] k kp = f x0_0 x0_1 x0_2 x0_3 (fun y0 => k (.v (.string y0)) []) := by
  rw [f_def, c_raw]; simp only [j4_eq]; first | done | rfl
noncomputable def ent0 : Entry := fun args blks k _ => match args, blks with
  | [d0], [] => aAgg 4 d0 fun l => aCons l fun d0_0 l => aCons l fun d0_1 l => aCons l fun d0_2 l => aCons l fun d0_3 l => aNil l (aStr d0_0 fun x0_0 => aBool d0_1 fun x0_1 => aFz (Ty.pair (Ty.int IntKind.i64) (Ty.pair (Ty.int IntKind.i64) (Ty.pair (Ty.int IntKind.i64) (Ty.int IntKind.i64)))) d0_2 fun x0_2 => aFz (Ty.pair (Ty.int IntKind.i64) (Ty.pair (Ty.pair (Ty.int IntKind.i64) (Ty.pair (Ty.int IntKind.i64) (Ty.pair (Ty.int IntKind.i64) (Ty.int IntKind.i64)))) (Ty.pair (Ty.list (Ty.pair (Ty.int IntKind.i64) (Ty.pair (Ty.int IntKind.i64) (Ty.pair (Ty.int IntKind.i64) (Ty.int IntKind.i64))))) (Ty.pair Ty.str (Ty.pair (Ty.int IntKind.i64) (Ty.pair (Ty.list Ty.str) (Ty.list (Ty.int IntKind.i64)))))))) d0_3 fun x0_3 => f x0_0 x0_1 x0_2 x0_3 (fun y0 => k (.v (.string y0)) []))
  | _, _ => False
noncomputable def ent : Entry := fun args blks k kp => ent0 (convB [.cells [none, none, some (Ty.pair (Ty.int IntKind.i64) (Ty.pair (Ty.int IntKind.i64) (Ty.pair (Ty.int IntKind.i64) (Ty.int IntKind.i64)))), some (Ty.pair (Ty.int IntKind.i64) (Ty.pair (Ty.pair (Ty.int IntKind.i64) (Ty.pair (Ty.int IntKind.i64) (Ty.pair (Ty.int IntKind.i64) (Ty.int IntKind.i64)))) (Ty.pair (Ty.list (Ty.pair (Ty.int IntKind.i64) (Ty.pair (Ty.int IntKind.i64) (Ty.pair (Ty.int IntKind.i64) (Ty.int IntKind.i64))))) (Ty.pair Ty.str (Ty.pair (Ty.int IntKind.i64) (Ty.pair (Ty.list Ty.str) (Ty.list (Ty.int IntKind.i64))))))))]] args) blks k kp
theorem ok : EntOk Try.prog 0 0 17 ent := by
  refine EntOk.convB (EntOk.of (funW_ok (cfg := cfg) (tyOk_of rfl rfl tyL_ok) (eqOk_of (P := Try.prog) rfl rfl (by kernel_rfl)) mixed_ok (tab_ok ?_) Try.func17 (by rfl) (by rfl)) ?_) _
  · intro p hp
    simp only [List.mem_cons, List.not_mem_nil, or_false] at hp
    rcases hp with rfl | rfl | rfl | rfl | rfl
    · exact N27.ok
    · exact N29.ok
    · exact N28.ok
    · exact N47.ok
    · exact N31.ok
  · intro args blks k kp h k' kp'
    match args, blks, h with
    | [d0], [], h =>
    dsimp only [ent0] at h
    have h9 := aAgg_elim h; clear h; obtain ⟨_, rfl, h⟩ := h9
    have h9 := aCons_elim h; clear h; obtain ⟨d0_0, _, rfl, h⟩ := h9
    have h9 := aCons_elim h; clear h; obtain ⟨d0_1, _, rfl, h⟩ := h9
    have h9 := aCons_elim h; clear h; obtain ⟨d0_2, _, rfl, h⟩ := h9
    have h9 := aCons_elim h; clear h; obtain ⟨d0_3, _, rfl, h⟩ := h9
    have h9 := aNil_elim h; clear h; obtain ⟨rfl, h⟩ := h9
    have h9 := aStr_elim h; clear h; obtain ⟨x0_0, rfl, h⟩ := h9
    have h9 := aBool_elim h; clear h; obtain ⟨x0_1, rfl, h⟩ := h9
    have h9 := aFz_elim (t := (Ty.pair (Ty.int IntKind.i64) (Ty.pair (Ty.int IntKind.i64) (Ty.pair (Ty.int IntKind.i64) (Ty.int IntKind.i64))))) h; clear h; obtain ⟨x0_2, rfl, h⟩ := h9
    have h9 := aFz_elim (t := (Ty.pair (Ty.int IntKind.i64) (Ty.pair (Ty.pair (Ty.int IntKind.i64) (Ty.pair (Ty.int IntKind.i64) (Ty.pair (Ty.int IntKind.i64) (Ty.int IntKind.i64)))) (Ty.pair (Ty.list (Ty.pair (Ty.int IntKind.i64) (Ty.pair (Ty.int IntKind.i64) (Ty.pair (Ty.int IntKind.i64) (Ty.int IntKind.i64))))) (Ty.pair Ty.str (Ty.pair (Ty.int IntKind.i64) (Ty.pair (Ty.list Ty.str) (Ty.list (Ty.int IntKind.i64))))))))) h; clear h; obtain ⟨x0_3, rfl, h⟩ := h9
    exact (f_eq k' kp' x0_0 x0_1 x0_2 x0_3).symm
end N17
end Go.Proofs.Yc
namespace Go.Proofs.Yc
open Go Go.Aw Go.Proofs
set_option linter.unusedVariables false
set_option linter.unusedSimpArgs false
set_option maxRecDepth 100000
/-! dyehouse/show.Block -/
namespace N18
noncomputable def cfg : Cfg := { P := Try.prog, ty := tys, E := tab [(17, N17.ent), (27, N27.ent), (12, N12.ent), (31, N31.ent)], atSeq := tab [(8, ⟨[(3, .keep)]⟩)], atLoop := tab [(4, ⟨[(3, .keep), (12, .keep), (13, .keep), (14, .keep)]⟩)], outs := [], eqT := tab [], bT := tab [(68, 5)], fzB := [1] }
noncomputable def body : Code := bodyOf Try.f18
def l4 (j8 : ByteArray → Prop) (ag4 : Int → ByteArray → Prop) (x12 : (List (Int × ((Int × (Int × (Int × Int))) × ((List (Int × (Int × (Int × Int)))) × (ByteArray × (Int × ((List ByteArray) × (List Int))))))))) (x13 : Int) (x14 : Int) (b0 : ByteArray) (k : ByteArray → Prop) : Prop :=
  (br (decide (x14 < x13)) ((inB 0 x14 ((((x12).length : Nat) : Int) - 1)) ∧ (N12.f (x12.getD (Int.toNat x14) ((0, ((0, (0, (0, 0))), (([] : List (Int × (Int × (Int × Int)))), (ByteArray.empty, (0, (([] : List ByteArray), ([] : List Int))))))))).1 (x12.getD (Int.toNat x14) ((0, ((0, (0, (0, 0))), (([] : List (Int × (Int × (Int × Int)))), (ByteArray.empty, (0, (([] : List ByteArray), ([] : List Int))))))))).2.1.1 (x12.getD (Int.toNat x14) ((0, ((0, (0, (0, 0))), (([] : List (Int × (Int × (Int × Int)))), (ByteArray.empty, (0, (([] : List ByteArray), ([] : List Int))))))))).2.1.2.1 (x12.getD (Int.toNat x14) ((0, ((0, (0, (0, 0))), (([] : List (Int × (Int × (Int × Int)))), (ByteArray.empty, (0, (([] : List ByteArray), ([] : List Int))))))))).2.1.2.2.1 (x12.getD (Int.toNat x14) ((0, ((0, (0, (0, 0))), (([] : List (Int × (Int × (Int × Int)))), (ByteArray.empty, (0, (([] : List ByteArray), ([] : List Int))))))))).2.1.2.2.2 (x12.getD (Int.toNat x14) ((0, ((0, (0, (0, 0))), (([] : List (Int × (Int × (Int × Int)))), (ByteArray.empty, (0, (([] : List ByteArray), ([] : List Int))))))))).2.2.1 (x12.getD (Int.toNat x14) ((0, ((0, (0, (0, 0))), (([] : List (Int × (Int × (Int × Int)))), (ByteArray.empty, (0, (([] : List ByteArray), ([] : List Int))))))))).2.2.2.1 (x12.getD (Int.toNat x14) ((0, ((0, (0, (0, 0))), (([] : List (Int × (Int × (Int × Int)))), (ByteArray.empty, (0, (([] : List ByteArray), ([] : List Int))))))))).2.2.2.2.1 (x12.getD (Int.toNat x14) ((0, ((0, (0, (0, 0))), (([] : List (Int × (Int × (Int × Int)))), (ByteArray.empty, (0, (([] : List ByteArray), ([] : List Int))))))))).2.2.2.2.2.1 (x12.getD (Int.toNat x14) ((0, ((0, (0, (0, 0))), (([] : List (Int × (Int × (Int × Int)))), (ByteArray.empty, (0, (([] : List ByteArray), ([] : List Int))))))))).2.2.2.2.2.2 (fun (y0_2 : ByteArray) => ((((ByteArray.mk #[32, 32])).size + (y0_2).size ≤ 9223372036854775807) ∧ (((((ByteArray.mk #[32, 32]) ++ y0_2)).size + ((ByteArray.mk #[59, 10])).size ≤ 9223372036854775807) ∧ (ws (((ByteArray.mk #[32, 32]) ++ y0_2) ++ (ByteArray.mk #[59, 10])) b0 (fun (y_3 : Int) (z_3 : ByteArray) => (ag4 (IntKind.i64.wrap (x14 + (1 : Int))) z_3)))))))) (j8 b0))
def j8 (b0 : ByteArray) (k : ByteArray → Prop) : Prop :=
  (bs b0 (fun (y_4 : ByteArray) => (k y_4)))
def c (l4 : (List (Int × ((Int × (Int × (Int × Int))) × ((List (Int × (Int × (Int × Int)))) × (ByteArray × (Int × ((List ByteArray) × (List Int)))))))) → Int → Int → ByteArray → Prop) (x0_0 : ByteArray) (x0_1 : Bool) (x0_2 : (List (Int × (Int × (Int × Int))))) (x0_3 : (List (Int × ((Int × (Int × (Int × Int))) × ((List (Int × (Int × (Int × Int)))) × (ByteArray × (Int × ((List ByteArray) × (List Int))))))))) (k : ByteArray → Prop) : Prop :=
  (N17.f x0_0 x0_1 x0_2 x0_3 (fun (y0_0 : ByteArray) => (((y0_0).size + ((ByteArray.mk #[10])).size ≤ 9223372036854775807) ∧ (ws (y0_0 ++ (ByteArray.mk #[10])) ByteArray.empty (fun (y_1 : Int) (z_1 : ByteArray) => (l4 x0_3 ((((x0_3).length : Nat) : Int)) (0 : Int) z_1))))))
def j8' (b0 : ByteArray) (k : ByteArray → Prop) : Prop := j8 b0 k
def l4' (x12 : (List (Int × ((Int × (Int × (Int × Int))) × ((List (Int × (Int × (Int × Int)))) × (ByteArray × (Int × ((List ByteArray) × (List Int))))))))) (x13 : Int) (x14 : Int) (b0 : ByteArray) (k : ByteArray → Prop) : Prop := ∃ n, loopS (fun (ag : (Int × ByteArray) → Prop) (s : Int × ByteArray) => l4 (fun b0 => j8' b0 k) (fun x14 b0 => ag (x14, b0)) x12 x13 s.1 s.2 k) n (x14, b0)
def f0 (x0_0 : ByteArray) (x0_1 : Bool) (x0_2 : (List (Int × (Int × (Int × Int))))) (x0_3 : (List (Int × ((Int × (Int × (Int × Int))) × ((List (Int × (Int × (Int × Int)))) × (ByteArray × (Int × ((List ByteArray) × (List Int))))))))) (k : ByteArray → Prop) : Prop := c (fun x12 x13 x14 b0 => l4' x12 x13 x14 b0 k) x0_0 x0_1 x0_2 x0_3 k
theorem f_ex : ∃ g : ByteArray → Bool → (List (Int × (Int × (Int × Int)))) → (List (Int × ((Int × (Int × (Int × Int))) × ((List (Int × (Int × (Int × Int)))) × (ByteArray × (Int × ((List ByteArray) × (List Int)))))))) → (ByteArray → Prop) → Prop, g = f0 := ⟨_, rfl⟩
noncomputable def f : ByteArray → Bool → (List (Int × (Int × (Int × Int)))) → (List (Int × ((Int × (Int × (Int × Int))) × ((List (Int × (Int × (Int × Int)))) × (ByteArray × (Int × ((List ByteArray) × (List Int)))))))) → (ByteArray → Prop) → Prop := Classical.choose f_ex
theorem f_def : f = f0 := Classical.choose_spec f_ex
def mL4 (x12 : (List (Int × ((Int × (Int × (Int × Int))) × ((List (Int × (Int × (Int × Int)))) × (ByteArray × (Int × ((List ByteArray) × (List Int))))))))) (x13 : Int) (x14 : Int) (b0 : ByteArray) : St := { tmps := mkT 27 0 [(3, (.ptr 0 0)), (12, (.fz (Ty.pair (Ty.int IntKind.i64) (Ty.pair (Ty.pair (Ty.int IntKind.i64) (Ty.pair (Ty.int IntKind.i64) (Ty.pair (Ty.int IntKind.i64) (Ty.int IntKind.i64)))) (Ty.pair (Ty.list (Ty.pair (Ty.int IntKind.i64) (Ty.pair (Ty.int IntKind.i64) (Ty.pair (Ty.int IntKind.i64) (Ty.int IntKind.i64))))) (Ty.pair Ty.str (Ty.pair (Ty.int IntKind.i64) (Ty.pair (Ty.list Ty.str) (Ty.list (Ty.int IntKind.i64)))))))) x12)), (13, (.v (.int IntKind.i64 x13))), (14, (.v (.int IntKind.i64 x14)))], hp := [(.bld 68 5 b0)], m := 0 }
def m8 (b0 : ByteArray) : St := { tmps := mkT 27 0 [(3, (.ptr 0 0))], hp := [(.bld 68 5 b0)], m := 0 }
noncomputable def YL4 (k kp : D → List Blk → Prop) : (St → Prop) → St → Prop := loopB cfg (sub [1, 1, 1, 0, 1, 0, 0] body) (contK cfg (pick none' []) [1, 1, 1, 0, 1, 0] body (topK cfg Try.f18 k kp))
noncomputable def XL4 (k kp : D → List Blk → Prop) : St → Prop := fun st => ∃ n, loopN (YL4 k kp) n st
noncomputable def X8 (k kp : D → List Blk → Prop) : St → Prop := atP cfg (pick none' []) [1, 1, 1, 1] body (topK cfg Try.f18 k kp)
noncomputable def JJ_4 (k kp : D → List Blk → Prop) (ag4 : St → Prop) : Nat → St → Prop := pick none' [(8, X8 k kp)]
noncomputable def LL_4 (k kp : D → List Blk → Prop) (ag4 : St → Prop) : Nat → St → Prop := pick none' [(4, XL4 k kp)]
noncomputable def JJ (k kp : D → List Blk → Prop) : Nat → St → Prop := pick none' [(8, X8 k kp)]
noncomputable def LL (k kp : D → List Blk → Prop) : Nat → St → Prop := pick none' [(4, XL4 k kp)]
theorem j8_c (k kp : D → List Blk → Prop) (J L : Nat → St → Prop) (b0 : ByteArray) : runC cfg 8 J L (pick none' []) [1, 1, 1, 1] body (topK cfg Try.f18 k kp) (m8 b0) = j8 b0 (fun y0 => k (.v (.string y0)) []) := by kernel_rfl
theorem j8_ag (k kp : D → List Blk → Prop) : agPL cfg 8 (JJ k kp) (LL k kp) [1, 1, 1, 1] body = agPR cfg 8 (pick none' []) [1, 1, 1, 1] body (topK cfg Try.f18 k kp) := by kernel_rfl
theorem j8_raw (k kp : D → List Blk → Prop) (b0 : ByteArray) : X8 k kp (m8 b0) = j8 b0 (fun y0 => k (.v (.string y0)) []) :=
  Eq.mp (by kernel_rfl) ((atP_run (j8_ag k kp) (m8 b0)).trans (j8_c k kp (JJ k kp) (LL k kp) b0))
theorem j8_eq (k kp : D → List Blk → Prop) (b0 : ByteArray) : X8 k kp (m8 b0) = j8' b0 (fun y0 => k (.v (.string y0)) []) := by
  rw [j8_raw]; rfl
theorem l4_c (k kp : D → List Blk → Prop) (J L : Nat → St → Prop) (ag4 : St → Prop) (x12 : (List (Int × ((Int × (Int × (Int × Int))) × ((List (Int × (Int × (Int × Int)))) × (ByteArray × (Int × ((List ByteArray) × (List Int))))))))) (x13 : Int) (x14 : Int) (b0 : ByteArray) : runC cfg 1000001 J L (pick none' [(4, ag4)]) [1, 1, 1, 0, 1, 0, 0] body (topK cfg Try.f18 k kp) (mL4 x12 x13 x14 b0) = l4 (fun b0 => J 8 (m8 b0)) (fun x14 b0 => ag4 (mL4 x12 x13 x14 b0)) x12 x13 x14 b0 (fun y0 => k (.v (.string y0)) []) := by kernel_rfl
theorem l4_ag (k kp : D → List Blk → Prop) (ag4 : St → Prop) : agPL cfg 1000001 (JJ_4 k kp ag4) (LL_4 k kp ag4) [1, 1, 1, 0, 1, 0, 0] body = agPR cfg 1000001 (pick none' [(4, ag4)]) [1, 1, 1, 0, 1, 0, 0] body (topK cfg Try.f18 k kp) := by kernel_rfl
theorem l4_raw (k kp : D → List Blk → Prop) (ag4 : St → Prop) (x12 : (List (Int × ((Int × (Int × (Int × Int))) × ((List (Int × (Int × (Int × Int)))) × (ByteArray × (Int × ((List ByteArray) × (List Int))))))))) (x13 : Int) (x14 : Int) (b0 : ByteArray) : YL4 k kp ag4 (mL4 x12 x13 x14 b0) = l4 (fun b0 => X8 k kp (m8 b0)) (fun x14 b0 => ag4 (mL4 x12 x13 x14 b0)) x12 x13 x14 b0 (fun y0 => k (.v (.string y0)) []) :=
  Eq.mp (by kernel_rfl) ((atP_run (l4_ag k kp ag4) (mL4 x12 x13 x14 b0)).trans (l4_c k kp (JJ_4 k kp ag4) (LL_4 k kp ag4) ag4 x12 x13 x14 b0))
theorem l4_eq (k kp : D → List Blk → Prop) (x12 : (List (Int × ((Int × (Int × (Int × Int))) × ((List (Int × (Int × (Int × Int)))) × (ByteArray × (Int × ((List ByteArray) × (List Int))))))))) (x13 : Int) (x14 : Int) (b0 : ByteArray) : XL4 k kp (mL4 x12 x13 x14 b0) = l4' x12 x13 x14 b0 (fun y0 => k (.v (.string y0)) []) :=
  loop_eq (mk := fun (s : Int × ByteArray) => mL4 x12 x13 s.1 s.2) (fun again s => by rw [l4_raw k kp again x12 x13 s.1 s.2]; simp only [j8_eq]; first | done | rfl) (x14, b0)
theorem c_c (k kp : D → List Blk → Prop) (J L : Nat → St → Prop) (x0_0 : ByteArray) (x0_1 : Bool) (x0_2 : (List (Int × (Int × (Int × Int))))) (x0_3 : (List (Int × ((Int × (Int × (Int × Int))) × ((List (Int × (Int × (Int × Int)))) × (ByteArray × (Int × ((List ByteArray) × (List Int))))))))) : runC cfg 1000001 J L none'' [] body (topK cfg Try.f18 k kp) (st0 Try.f18 [(.agg [(.v (.string x0_0)), (.v (.bool x0_1)), (.fz (Ty.pair (Ty.int IntKind.i64) (Ty.pair (Ty.int IntKind.i64) (Ty.pair (Ty.int IntKind.i64) (Ty.int IntKind.i64)))) x0_2), (.fz (Ty.pair (Ty.int IntKind.i64) (Ty.pair (Ty.pair (Ty.int IntKind.i64) (Ty.pair (Ty.int IntKind.i64) (Ty.pair (Ty.int IntKind.i64) (Ty.int IntKind.i64)))) (Ty.pair (Ty.list (Ty.pair (Ty.int IntKind.i64) (Ty.pair (Ty.int IntKind.i64) (Ty.pair (Ty.int IntKind.i64) (Ty.int IntKind.i64))))) (Ty.pair Ty.str (Ty.pair (Ty.int IntKind.i64) (Ty.pair (Ty.list Ty.str) (Ty.list (Ty.int IntKind.i64)))))))) x0_3)])] []) = c (fun x12 x13 x14 b0 => L 4 (mL4 x12 x13 x14 b0)) x0_0 x0_1 x0_2 x0_3 (fun y0 => k (.v (.string y0)) []) := by kernel_rfl
theorem c_ag (k kp : D → List Blk → Prop) : agPL cfg 1000001 (JJ k kp) (LL k kp) [] body = agPR cfg 1000001 none'' [] body (topK cfg Try.f18 k kp) := by kernel_rfl
theorem body_is : Try.f18.body = some body := by kernel_rfl
theorem c_raw (k kp : D → List Blk → Prop) (x0_0 : ByteArray) (x0_1 : Bool) (x0_2 : (List (Int × (Int × (Int × Int))))) (x0_3 : (List (Int × ((Int × (Int × (Int × Int))) × ((List (Int × (Int × (Int × Int)))) × (ByteArray × (Int × ((List ByteArray) × (List Int))))))))) : funW cfg Try.f18 [(.agg [(.v (.string x0_0)), (.v (.bool x0_1)), (.fz (Ty.pair (Ty.int IntKind.i64) (Ty.pair (Ty.int IntKind.i64) (Ty.pair (Ty.int IntKind.i64) (Ty.int IntKind.i64)))) x0_2), (.fz (Ty.pair (Ty.int IntKind.i64) (Ty.pair (Ty.pair (Ty.int IntKind.i64) (Ty.pair (Ty.int IntKind.i64) (Ty.pair (Ty.int IntKind.i64) (Ty.int IntKind.i64)))) (Ty.pair (Ty.list (Ty.pair (Ty.int IntKind.i64) (Ty.pair (Ty.int IntKind.i64) (Ty.pair (Ty.int IntKind.i64) (Ty.int IntKind.i64))))) (Ty.pair Ty.str (Ty.pair (Ty.int IntKind.i64) (Ty.pair (Ty.list Ty.str) (Ty.list (Ty.int IntKind.i64)))))))) x0_3)])] [] k kp = c (fun x12 x13 x14 b0 => XL4 k kp (mL4 x12 x13 x14 b0)) x0_0 x0_1 x0_2 x0_3 (fun y0 => k (.v (.string y0)) []) :=
  Eq.mp (by kernel_rfl) ((funW_run (AG := none'') body_is (c_ag k kp) [(.agg [(.v (.string x0_0)), (.v (.bool x0_1)), (.fz (Ty.pair (Ty.int IntKind.i64) (Ty.pair (Ty.int IntKind.i64) (Ty.pair (Ty.int IntKind.i64) (Ty.int IntKind.i64)))) x0_2), (.fz (Ty.pair (Ty.int IntKind.i64) (Ty.pair (Ty.pair (Ty.int IntKind.i64) (Ty.pair (Ty.int IntKind.i64) (Ty.pair (Ty.int IntKind.i64) (Ty.int IntKind.i64)))) (Ty.pair (Ty.list (Ty.pair (Ty.int IntKind.i64) (Ty.pair (Ty.int IntKind.i64) (Ty.pair (Ty.int IntKind.i64) (Ty.int IntKind.i64))))) (Ty.pair Ty.str (Ty.pair (Ty.int IntKind.i64) (Ty.pair (Ty.list Ty.str) (Ty.list (Ty.int IntKind.i64)))))))) x0_3)])] []).trans (c_c k kp (JJ k kp) (LL k kp) x0_0 x0_1 x0_2 x0_3))
theorem f_eq (k kp : D → List Blk → Prop) (x0_0 : ByteArray) (x0_1 : Bool) (x0_2 : (List (Int × (Int × (Int × Int))))) (x0_3 : (List (Int × ((Int × (Int × (Int × Int))) × ((List (Int × (Int × (Int × Int)))) × (ByteArray × (Int × ((List ByteArray) × (List Int))))))))) : funW cfg Try.f18 [(.agg [(.v (.string x0_0)), (.v (.bool x0_1)), (.fz (Ty.pair (Ty.int IntKind.i64) (Ty.pair (Ty.int IntKind.i64) (Ty.pair (Ty.int IntKind.i64) (Ty.int IntKind.i64)))) x0_2), (.fz (Ty.pair (Ty.int IntKind.i64) (Ty.pair (Ty.pair (Ty.int IntKind.i64) (Ty.pair (Ty.int IntKind.i64) (Ty.pair (Ty.int IntKind.i64) (Ty.int IntKind.i64)))) (Ty.pair (Ty.list (Ty.pair (Ty.int IntKind.i64) (Ty.pair (Ty.int IntKind.i64) (Ty.pair (Ty.int IntKind.i64) (Ty.int IntKind.i64))))) (Ty.pair Ty.str (Ty.pair (Ty.int IntKind.i64) (Ty.pair (Ty.list Ty.str) (Ty.list (Ty.int IntKind.i64)))))))) x0_3)])] [] k kp = f x0_0 x0_1 x0_2 x0_3 (fun y0 => k (.v (.string y0)) []) := by
  rw [f_def, c_raw]; simp only [l4_eq]; first | done | rfl
noncomputable def ent0 : Entry := fun args blks k _ => match args, blks with
  | [d0], [] => aAgg 4 d0 fun l => aCons l fun d0_0 l => aCons l fun d0_1 l => aCons l fun d0_2 l => aCons l fun d0_3 l => aNil l (aStr d0_0 fun x0_0 => aBool d0_1 fun x0_1 => aFz (Ty.pair (Ty.int IntKind.i64) (Ty.pair (Ty.int IntKind.i64) (Ty.pair (Ty.int IntKind.i64) (Ty.int IntKind.i64)))) d0_2 fun x0_2 => aFz (Ty.pair (Ty.int IntKind.i64) (Ty.pair (Ty.pair (Ty.int IntKind.i64) (Ty.pair (Ty.int IntKind.i64) (Ty.pair (Ty.int IntKind.i64) (Ty.int IntKind.i64)))) (Ty.pair (Ty.list (Ty.pair (Ty.int IntKind.i64) (Ty.pair (Ty.int IntKind.i64) (Ty.pair (Ty.int IntKind.i64) (Ty.int IntKind.i64))))) (Ty.pair Ty.str (Ty.pair (Ty.int IntKind.i64) (Ty.pair (Ty.list Ty.str) (Ty.list (Ty.int IntKind.i64)))))))) d0_3 fun x0_3 => f x0_0 x0_1 x0_2 x0_3 (fun y0 => k (.v (.string y0)) []))
  | _, _ => False
noncomputable def ent : Entry := fun args blks k kp => ent0 (convB [.cells [none, none, some (Ty.pair (Ty.int IntKind.i64) (Ty.pair (Ty.int IntKind.i64) (Ty.pair (Ty.int IntKind.i64) (Ty.int IntKind.i64)))), some (Ty.pair (Ty.int IntKind.i64) (Ty.pair (Ty.pair (Ty.int IntKind.i64) (Ty.pair (Ty.int IntKind.i64) (Ty.pair (Ty.int IntKind.i64) (Ty.int IntKind.i64)))) (Ty.pair (Ty.list (Ty.pair (Ty.int IntKind.i64) (Ty.pair (Ty.int IntKind.i64) (Ty.pair (Ty.int IntKind.i64) (Ty.int IntKind.i64))))) (Ty.pair Ty.str (Ty.pair (Ty.int IntKind.i64) (Ty.pair (Ty.list Ty.str) (Ty.list (Ty.int IntKind.i64))))))))]] args) blks k kp
theorem ok : EntOk Try.prog 0 0 18 ent := by
  refine EntOk.convB (EntOk.of (funW_ok (cfg := cfg) (tyOk_of rfl rfl tyL_ok) (eqOk_of (P := Try.prog) rfl rfl (by kernel_rfl)) mixed_ok (tab_ok ?_) Try.func18 (by rfl) (by rfl)) ?_) _
  · intro p hp
    simp only [List.mem_cons, List.not_mem_nil, or_false] at hp
    rcases hp with rfl | rfl | rfl | rfl
    · exact N17.ok
    · exact N27.ok
    · exact N12.ok
    · exact N31.ok
  · intro args blks k kp h k' kp'
    match args, blks, h with
    | [d0], [], h =>
    dsimp only [ent0] at h
    have h9 := aAgg_elim h; clear h; obtain ⟨_, rfl, h⟩ := h9
    have h9 := aCons_elim h; clear h; obtain ⟨d0_0, _, rfl, h⟩ := h9
    have h9 := aCons_elim h; clear h; obtain ⟨d0_1, _, rfl, h⟩ := h9
    have h9 := aCons_elim h; clear h; obtain ⟨d0_2, _, rfl, h⟩ := h9
    have h9 := aCons_elim h; clear h; obtain ⟨d0_3, _, rfl, h⟩ := h9
    have h9 := aNil_elim h; clear h; obtain ⟨rfl, h⟩ := h9
    have h9 := aStr_elim h; clear h; obtain ⟨x0_0, rfl, h⟩ := h9
    have h9 := aBool_elim h; clear h; obtain ⟨x0_1, rfl, h⟩ := h9
    have h9 := aFz_elim (t := (Ty.pair (Ty.int IntKind.i64) (Ty.pair (Ty.int IntKind.i64) (Ty.pair (Ty.int IntKind.i64) (Ty.int IntKind.i64))))) h; clear h; obtain ⟨x0_2, rfl, h⟩ := h9
    have h9 := aFz_elim (t := (Ty.pair (Ty.int IntKind.i64) (Ty.pair (Ty.pair (Ty.int IntKind.i64) (Ty.pair (Ty.int IntKind.i64) (Ty.pair (Ty.int IntKind.i64) (Ty.int IntKind.i64)))) (Ty.pair (Ty.list (Ty.pair (Ty.int IntKind.i64) (Ty.pair (Ty.int IntKind.i64) (Ty.pair (Ty.int IntKind.i64) (Ty.int IntKind.i64))))) (Ty.pair Ty.str (Ty.pair (Ty.int IntKind.i64) (Ty.pair (Ty.list Ty.str) (Ty.list (Ty.int IntKind.i64))))))))) h; clear h; obtain ⟨x0_3, rfl, h⟩ := h9
    exact (f_eq k' kp' x0_0 x0_1 x0_2 x0_3).symm
end N18
end Go.Proofs.Yc
namespace Go.Proofs.Yc
open Go Go.Aw Go.Proofs
set_option linter.unusedVariables false
set_option linter.unusedSimpArgs false
set_option maxRecDepth 100000
/-! dyehouse/show.regs -/
namespace N30
noncomputable def cfg : Cfg := { P := Try.prog, ty := tys, E := tab [(27, N27.ent), (16, N16.ent), (49, N49.ent), (31, N31.ent)], atSeq := tab [(8, ⟨[(3, .keep)]⟩)], atLoop := tab [(4, ⟨[(3, .keep), (8, .keep), (9, .keep), (10, .keep)]⟩)], outs := [], eqT := tab [], bT := tab [(68, 5)] }
noncomputable def body : Code := bodyOf Try.f30
def l4 (j8 : ByteArray → Prop) (ag4 : Int → ByteArray → Prop) (x8 : (List (Int × Int))) (x9 : Int) (x10 : Int) (b0 : ByteArray) (k : ByteArray → Prop) : Prop :=
  (br (decide (x10 < x9)) ((inB 0 x10 ((((x8).length : Nat) : Int) - 1)) ∧ (N16.f (x8.getD (Int.toNat x10) ((0, 0))).1 (fun (y0_1 : ByteArray) => ((((ByteArray.mk #[32])).size + (y0_1).size ≤ 9223372036854775807) ∧ (((((ByteArray.mk #[32]) ++ y0_1)).size + ((ByteArray.mk #[58])).size ≤ 9223372036854775807) ∧ (N49.f (x8.getD (Int.toNat x10) ((0, 0))).2 (fun (y0_2 : ByteArray) => ((((((ByteArray.mk #[32]) ++ y0_1) ++ (ByteArray.mk #[58]))).size + (y0_2).size ≤ 9223372036854775807) ∧ (ws ((((ByteArray.mk #[32]) ++ y0_1) ++ (ByteArray.mk #[58])) ++ y0_2) b0 (fun (y_3 : Int) (z_3 : ByteArray) => (ag4 (IntKind.i64.wrap (x10 + (1 : Int))) z_3))))))))))) (j8 b0))
def j8 (b0 : ByteArray) (k : ByteArray → Prop) : Prop :=
  (ws (ByteArray.mk #[59, 10]) b0 (fun (y_4 : Int) (z_4 : ByteArray) => (bs z_4 (fun (y_5 : ByteArray) => (k y_5)))))
def c (l4 : (List (Int × Int)) → Int → Int → ByteArray → Prop) (x0 : (List (Int × Int))) (k : ByteArray → Prop) : Prop :=
  (ws (ByteArray.mk #[114, 101, 103, 115]) ByteArray.empty (fun (y_0 : Int) (z_0 : ByteArray) => (l4 x0 ((((x0).length : Nat) : Int)) (0 : Int) z_0)))
def j8' (b0 : ByteArray) (k : ByteArray → Prop) : Prop := j8 b0 k
def l4' (x8 : (List (Int × Int))) (x9 : Int) (x10 : Int) (b0 : ByteArray) (k : ByteArray → Prop) : Prop := ∃ n, loopS (fun (ag : (Int × ByteArray) → Prop) (s : Int × ByteArray) => l4 (fun b0 => j8' b0 k) (fun x10 b0 => ag (x10, b0)) x8 x9 s.1 s.2 k) n (x10, b0)
def f0 (x0 : (List (Int × Int))) (k : ByteArray → Prop) : Prop := c (fun x8 x9 x10 b0 => l4' x8 x9 x10 b0 k) x0 k
theorem f_ex : ∃ g : (List (Int × Int)) → (ByteArray → Prop) → Prop, g = f0 := ⟨_, rfl⟩
noncomputable def f : (List (Int × Int)) → (ByteArray → Prop) → Prop := Classical.choose f_ex
theorem f_def : f = f0 := Classical.choose_spec f_ex
def mL4 (x8 : (List (Int × Int))) (x9 : Int) (x10 : Int) (b0 : ByteArray) : St := { tmps := mkT 30 0 [(3, (.ptr 0 0)), (8, (.fz (Ty.pair (Ty.int IntKind.i64) (Ty.int IntKind.i64)) x8)), (9, (.v (.int IntKind.i64 x9))), (10, (.v (.int IntKind.i64 x10)))], hp := [(.bld 68 5 b0)], m := 0 }
def m8 (b0 : ByteArray) : St := { tmps := mkT 30 0 [(3, (.ptr 0 0))], hp := [(.bld 68 5 b0)], m := 0 }
noncomputable def YL4 (k kp : D → List Blk → Prop) : (St → Prop) → St → Prop := loopB cfg (sub [1, 1, 1, 0, 1, 0, 0] body) (contK cfg (pick none' []) [1, 1, 1, 0, 1, 0] body (topK cfg Try.f30 k kp))
noncomputable def XL4 (k kp : D → List Blk → Prop) : St → Prop := fun st => ∃ n, loopN (YL4 k kp) n st
noncomputable def X8 (k kp : D → List Blk → Prop) : St → Prop := atP cfg (pick none' []) [1, 1, 1, 1] body (topK cfg Try.f30 k kp)
noncomputable def JJ_4 (k kp : D → List Blk → Prop) (ag4 : St → Prop) : Nat → St → Prop := pick none' [(8, X8 k kp)]
noncomputable def LL_4 (k kp : D → List Blk → Prop) (ag4 : St → Prop) : Nat → St → Prop := pick none' [(4, XL4 k kp)]
noncomputable def JJ (k kp : D → List Blk → Prop) : Nat → St → Prop := pick none' [(8, X8 k kp)]
noncomputable def LL (k kp : D → List Blk → Prop) : Nat → St → Prop := pick none' [(4, XL4 k kp)]
theorem j8_c (k kp : D → List Blk → Prop) (J L : Nat → St → Prop) (b0 : ByteArray) : runC cfg 8 J L (pick none' []) [1, 1, 1, 1] body (topK cfg Try.f30 k kp) (m8 b0) = j8 b0 (fun y0 => k (.v (.string y0)) []) := by kernel_rfl
theorem j8_ag (k kp : D → List Blk → Prop) : agPL cfg 8 (JJ k kp) (LL k kp) [1, 1, 1, 1] body = agPR cfg 8 (pick none' []) [1, 1, 1, 1] body (topK cfg Try.f30 k kp) := by kernel_rfl
theorem j8_raw (k kp : D → List Blk → Prop) (b0 : ByteArray) : X8 k kp (m8 b0) = j8 b0 (fun y0 => k (.v (.string y0)) []) :=
  Eq.mp (by kernel_rfl) ((atP_run (j8_ag k kp) (m8 b0)).trans (j8_c k kp (JJ k kp) (LL k kp) b0))
theorem j8_eq (k kp : D → List Blk → Prop) (b0 : ByteArray) : X8 k kp (m8 b0) = j8' b0 (fun y0 => k (.v (.string y0)) []) := by
  rw [j8_raw]; rfl
theorem l4_c (k kp : D → List Blk → Prop) (J L : Nat → St → Prop) (ag4 : St → Prop) (x8 : (List (Int × Int))) (x9 : Int) (x10 : Int) (b0 : ByteArray) : runC cfg 1000001 J L (pick none' [(4, ag4)]) [1, 1, 1, 0, 1, 0, 0] body (topK cfg Try.f30 k kp) (mL4 x8 x9 x10 b0) = l4 (fun b0 => J 8 (m8 b0)) (fun x10 b0 => ag4 (mL4 x8 x9 x10 b0)) x8 x9 x10 b0 (fun y0 => k (.v (.string y0)) []) := by kernel_rfl
theorem l4_ag (k kp : D → List Blk → Prop) (ag4 : St → Prop) : agPL cfg 1000001 (JJ_4 k kp ag4) (LL_4 k kp ag4) [1, 1, 1, 0, 1, 0, 0] body = agPR cfg 1000001 (pick none' [(4, ag4)]) [1, 1, 1, 0, 1, 0, 0] body (topK cfg Try.f30 k kp) := by kernel_rfl
theorem l4_raw (k kp : D → List Blk → Prop) (ag4 : St → Prop) (x8 : (List (Int × Int))) (x9 : Int) (x10 : Int) (b0 : ByteArray) : YL4 k kp ag4 (mL4 x8 x9 x10 b0) = l4 (fun b0 => X8 k kp (m8 b0)) (fun x10 b0 => ag4 (mL4 x8 x9 x10 b0)) x8 x9 x10 b0 (fun y0 => k (.v (.string y0)) []) :=
  Eq.mp (by kernel_rfl) ((atP_run (l4_ag k kp ag4) (mL4 x8 x9 x10 b0)).trans (l4_c k kp (JJ_4 k kp ag4) (LL_4 k kp ag4) ag4 x8 x9 x10 b0))
theorem l4_eq (k kp : D → List Blk → Prop) (x8 : (List (Int × Int))) (x9 : Int) (x10 : Int) (b0 : ByteArray) : XL4 k kp (mL4 x8 x9 x10 b0) = l4' x8 x9 x10 b0 (fun y0 => k (.v (.string y0)) []) :=
  loop_eq (mk := fun (s : Int × ByteArray) => mL4 x8 x9 s.1 s.2) (fun again s => by rw [l4_raw k kp again x8 x9 s.1 s.2]; simp only [j8_eq]; first | done | rfl) (x10, b0)
theorem c_c (k kp : D → List Blk → Prop) (J L : Nat → St → Prop) (x0 : (List (Int × Int))) : runC cfg 1000001 J L none'' [] body (topK cfg Try.f30 k kp) (st0 Try.f30 [(.fz (Ty.pair (Ty.int IntKind.i64) (Ty.int IntKind.i64)) x0)] []) = c (fun x8 x9 x10 b0 => L 4 (mL4 x8 x9 x10 b0)) x0 (fun y0 => k (.v (.string y0)) []) := by kernel_rfl
theorem c_ag (k kp : D → List Blk → Prop) : agPL cfg 1000001 (JJ k kp) (LL k kp) [] body = agPR cfg 1000001 none'' [] body (topK cfg Try.f30 k kp) := by kernel_rfl
theorem body_is : Try.f30.body = some body := by kernel_rfl
theorem c_raw (k kp : D → List Blk → Prop) (x0 : (List (Int × Int))) : funW cfg Try.f30 [(.fz (Ty.pair (Ty.int IntKind.i64) (Ty.int IntKind.i64)) x0)] [] k kp = c (fun x8 x9 x10 b0 => XL4 k kp (mL4 x8 x9 x10 b0)) x0 (fun y0 => k (.v (.string y0)) []) :=
  Eq.mp (by kernel_rfl) ((funW_run (AG := none'') body_is (c_ag k kp) [(.fz (Ty.pair (Ty.int IntKind.i64) (Ty.int IntKind.i64)) x0)] []).trans (c_c k kp (JJ k kp) (LL k kp) x0))
theorem f_eq (k kp : D → List Blk → Prop) (x0 : (List (Int × Int))) : funW cfg Try.f30 [(.fz (Ty.pair (Ty.int IntKind.i64) (Ty.int IntKind.i64)) x0)] [] k kp = f x0 (fun y0 => k (.v (.string y0)) []) := by
  rw [f_def, c_raw]; simp only [l4_eq]; first | done | rfl
noncomputable def ent0 : Entry := fun args blks k _ => match args, blks with
  | [d0], [] => aFz (Ty.pair (Ty.int IntKind.i64) (Ty.int IntKind.i64)) d0 fun x0 => f x0 (fun y0 => k (.v (.string y0)) [])
  | _, _ => False
noncomputable def ent : Entry := fun args blks k kp => ent0 (convB [.one (Ty.pair (Ty.int IntKind.i64) (Ty.int IntKind.i64))] args) blks k kp
theorem ok : EntOk Try.prog 0 0 30 ent := by
  refine EntOk.convB (EntOk.of (funW_ok (cfg := cfg) (tyOk_of rfl rfl tyL_ok) (eqOk_of (P := Try.prog) rfl rfl (by kernel_rfl)) mixed_ok (tab_ok ?_) Try.func30 (by rfl) (by rfl)) ?_) _
  · intro p hp
    simp only [List.mem_cons, List.not_mem_nil, or_false] at hp
    rcases hp with rfl | rfl | rfl | rfl
    · exact N27.ok
    · exact N16.ok
    · exact N49.ok
    · exact N31.ok
  · intro args blks k kp h k' kp'
    match args, blks, h with
    | [d0], [], h =>
    dsimp only [ent0] at h
    have h9 := aFz_elim (t := (Ty.pair (Ty.int IntKind.i64) (Ty.int IntKind.i64))) h; clear h; obtain ⟨x0, rfl, h⟩ := h9
    exact (f_eq k' kp' x0).symm
end N30
end Go.Proofs.Yc
namespace Go.Proofs.Yc
open Go Go.Aw Go.Proofs
set_option linter.unusedVariables false
set_option linter.unusedSimpArgs false
set_option maxRecDepth 100000
/-! dyehouse/show.Func -/
namespace N10
noncomputable def cfg : Cfg := { P := Try.prog, ty := tys, E := tab [(27, N27.ent), (29, N29.ent), (28, N28.ent), (30, N30.ent), (18, N18.ent), (31, N31.ent)], atSeq := tab [(5, ⟨[(1, .keep), (3, .keep)]⟩), (8, ⟨[(1, .keep), (3, .keep)]⟩), (13, ⟨[(3, .keep)]⟩)], atLoop := tab [(9, ⟨[(3, .keep), (29, .keep), (30, .keep), (31, .keep)]⟩)], outs := [], eqT := tab [], bT := tab [(68, 5)], fzB := [1] }
noncomputable def body : Code := bodyOf Try.f10
def j5 (j8 : Bool → ByteArray → (List (Int × Int)) → (List (Int × (Int × (Int × Int)))) → (List (ByteArray × (Bool × ((List (Int × (Int × (Int × Int)))) × (List (Int × ((Int × (Int × (Int × Int))) × ((List (Int × (Int × (Int × Int)))) × (ByteArray × (Int × ((List ByteArray) × (List Int)))))))))))) → ByteArray → Prop) (x1_0 : Bool) (x1_1 : ByteArray) (x1_2 : (List (Int × Int))) (x1_3 : (List (Int × (Int × (Int × Int))))) (x1_4 : (List (ByteArray × (Bool × ((List (Int × (Int × (Int × Int)))) × (List (Int × ((Int × (Int × (Int × Int))) × ((List (Int × (Int × (Int × Int)))) × (ByteArray × (Int × ((List ByteArray) × (List Int))))))))))))) (b0 : ByteArray) (k : ByteArray → Prop) : Prop :=
  (((x1_1).size + ((ByteArray.mk #[40])).size ≤ 9223372036854775807) ∧ (N29.f x1_3 (fun (z0_2 : (List ByteArray)) => (N28.f (x1_1 ++ (ByteArray.mk #[40])) z0_2 (ByteArray.mk #[41, 32, 123, 10]) b0 (fun (z0_3 : ByteArray) => (br (decide (((((x1_2).length : Nat) : Int)) > (0 : Int))) (N30.f x1_2 (fun (y0_4 : ByteArray) => (ws y0_4 z0_3 (fun (y_5 : Int) (z_5 : ByteArray) => (j8 x1_0 x1_1 x1_2 x1_3 x1_4 z_5))))) (j8 x1_0 x1_1 x1_2 x1_3 x1_4 z0_3)))))))
def j8 (l9 : (List (ByteArray × (Bool × ((List (Int × (Int × (Int × Int)))) × (List (Int × ((Int × (Int × (Int × Int))) × ((List (Int × (Int × (Int × Int)))) × (ByteArray × (Int × ((List ByteArray) × (List Int)))))))))))) → Int → Int → ByteArray → Prop) (x1_0 : Bool) (x1_1 : ByteArray) (x1_2 : (List (Int × Int))) (x1_3 : (List (Int × (Int × (Int × Int))))) (x1_4 : (List (ByteArray × (Bool × ((List (Int × (Int × (Int × Int)))) × (List (Int × ((Int × (Int × (Int × Int))) × ((List (Int × (Int × (Int × Int)))) × (ByteArray × (Int × ((List ByteArray) × (List Int))))))))))))) (b0 : ByteArray) (k : ByteArray → Prop) : Prop :=
  (l9 x1_4 ((((x1_4).length : Nat) : Int)) (0 : Int) b0)
def l9 (j13 : ByteArray → Prop) (ag9 : Int → ByteArray → Prop) (x29 : (List (ByteArray × (Bool × ((List (Int × (Int × (Int × Int)))) × (List (Int × ((Int × (Int × (Int × Int))) × ((List (Int × (Int × (Int × Int)))) × (ByteArray × (Int × ((List ByteArray) × (List Int))))))))))))) (x30 : Int) (x31 : Int) (b0 : ByteArray) (k : ByteArray → Prop) : Prop :=
  (br (decide (x31 < x30)) ((inB 0 x31 ((((x29).length : Nat) : Int) - 1)) ∧ (N18.f (x29.getD (Int.toNat x31) ((ByteArray.empty, (false, (([] : List (Int × (Int × (Int × Int)))), ([] : List (Int × ((Int × (Int × (Int × Int))) × ((List (Int × (Int × (Int × Int)))) × (ByteArray × (Int × ((List ByteArray) × (List Int))))))))))))).1 (x29.getD (Int.toNat x31) ((ByteArray.empty, (false, (([] : List (Int × (Int × (Int × Int)))), ([] : List (Int × ((Int × (Int × (Int × Int))) × ((List (Int × (Int × (Int × Int)))) × (ByteArray × (Int × ((List ByteArray) × (List Int))))))))))))).2.1 (x29.getD (Int.toNat x31) ((ByteArray.empty, (false, (([] : List (Int × (Int × (Int × Int)))), ([] : List (Int × ((Int × (Int × (Int × Int))) × ((List (Int × (Int × (Int × Int)))) × (ByteArray × (Int × ((List ByteArray) × (List Int))))))))))))).2.2.1 (x29.getD (Int.toNat x31) ((ByteArray.empty, (false, (([] : List (Int × (Int × (Int × Int)))), ([] : List (Int × ((Int × (Int × (Int × Int))) × ((List (Int × (Int × (Int × Int)))) × (ByteArray × (Int × ((List ByteArray) × (List Int))))))))))))).2.2.2 (fun (y0_6 : ByteArray) => (ws y0_6 b0 (fun (y_7 : Int) (z_7 : ByteArray) => (ag9 (IntKind.i64.wrap (x31 + (1 : Int))) z_7)))))) (j13 b0))
def j13 (b0 : ByteArray) (k : ByteArray → Prop) : Prop :=
  (ws (ByteArray.mk #[125, 10]) b0 (fun (y_8 : Int) (z_8 : ByteArray) => (bs z_8 (fun (y_9 : ByteArray) => (k y_9)))))
def c (j5 : Bool → ByteArray → (List (Int × Int)) → (List (Int × (Int × (Int × Int)))) → (List (ByteArray × (Bool × ((List (Int × (Int × (Int × Int)))) × (List (Int × ((Int × (Int × (Int × Int))) × ((List (Int × (Int × (Int × Int)))) × (ByteArray × (Int × ((List ByteArray) × (List Int)))))))))))) → ByteArray → Prop) (x0_0 : Bool) (x0_1 : ByteArray) (x0_2 : (List (Int × Int))) (x0_3 : (List (Int × (Int × (Int × Int))))) (x0_4 : (List (ByteArray × (Bool × ((List (Int × (Int × (Int × Int)))) × (List (Int × ((Int × (Int × (Int × Int))) × ((List (Int × (Int × (Int × Int)))) × (ByteArray × (Int × ((List ByteArray) × (List Int))))))))))))) (k : ByteArray → Prop) : Prop :=
  (br x0_0 (ws (ByteArray.mk #[109, 97, 99, 104, 105, 110, 101, 32]) ByteArray.empty (fun (y_0 : Int) (z_0 : ByteArray) => (j5 x0_0 x0_1 x0_2 x0_3 x0_4 z_0))) (ws (ByteArray.mk #[102, 117, 110, 99, 32]) ByteArray.empty (fun (y_1 : Int) (z_1 : ByteArray) => (j5 x0_0 x0_1 x0_2 x0_3 x0_4 z_1))))
def j13' (b0 : ByteArray) (k : ByteArray → Prop) : Prop := j13 b0 k
def l9' (x29 : (List (ByteArray × (Bool × ((List (Int × (Int × (Int × Int)))) × (List (Int × ((Int × (Int × (Int × Int))) × ((List (Int × (Int × (Int × Int)))) × (ByteArray × (Int × ((List ByteArray) × (List Int))))))))))))) (x30 : Int) (x31 : Int) (b0 : ByteArray) (k : ByteArray → Prop) : Prop := ∃ n, loopS (fun (ag : (Int × ByteArray) → Prop) (s : Int × ByteArray) => l9 (fun b0 => j13' b0 k) (fun x31 b0 => ag (x31, b0)) x29 x30 s.1 s.2 k) n (x31, b0)
def j8' (x1_0 : Bool) (x1_1 : ByteArray) (x1_2 : (List (Int × Int))) (x1_3 : (List (Int × (Int × (Int × Int))))) (x1_4 : (List (ByteArray × (Bool × ((List (Int × (Int × (Int × Int)))) × (List (Int × ((Int × (Int × (Int × Int))) × ((List (Int × (Int × (Int × Int)))) × (ByteArray × (Int × ((List ByteArray) × (List Int))))))))))))) (b0 : ByteArray) (k : ByteArray → Prop) : Prop := j8 (fun x29 x30 x31 b0 => l9' x29 x30 x31 b0 k) x1_0 x1_1 x1_2 x1_3 x1_4 b0 k
def j5' (x1_0 : Bool) (x1_1 : ByteArray) (x1_2 : (List (Int × Int))) (x1_3 : (List (Int × (Int × (Int × Int))))) (x1_4 : (List (ByteArray × (Bool × ((List (Int × (Int × (Int × Int)))) × (List (Int × ((Int × (Int × (Int × Int))) × ((List (Int × (Int × (Int × Int)))) × (ByteArray × (Int × ((List ByteArray) × (List Int))))))))))))) (b0 : ByteArray) (k : ByteArray → Prop) : Prop := j5 (fun x1_0 x1_1 x1_2 x1_3 x1_4 b0 => j8' x1_0 x1_1 x1_2 x1_3 x1_4 b0 k) x1_0 x1_1 x1_2 x1_3 x1_4 b0 k
def f0 (x0_0 : Bool) (x0_1 : ByteArray) (x0_2 : (List (Int × Int))) (x0_3 : (List (Int × (Int × (Int × Int))))) (x0_4 : (List (ByteArray × (Bool × ((List (Int × (Int × (Int × Int)))) × (List (Int × ((Int × (Int × (Int × Int))) × ((List (Int × (Int × (Int × Int)))) × (ByteArray × (Int × ((List ByteArray) × (List Int))))))))))))) (k : ByteArray → Prop) : Prop := c (fun x1_0 x1_1 x1_2 x1_3 x1_4 b0 => j5' x1_0 x1_1 x1_2 x1_3 x1_4 b0 k) x0_0 x0_1 x0_2 x0_3 x0_4 k
theorem f_ex : ∃ g : Bool → ByteArray → (List (Int × Int)) → (List (Int × (Int × (Int × Int)))) → (List (ByteArray × (Bool × ((List (Int × (Int × (Int × Int)))) × (List (Int × ((Int × (Int × (Int × Int))) × ((List (Int × (Int × (Int × Int)))) × (ByteArray × (Int × ((List ByteArray) × (List Int)))))))))))) → (ByteArray → Prop) → Prop, g = f0 := ⟨_, rfl⟩
noncomputable def f : Bool → ByteArray → (List (Int × Int)) → (List (Int × (Int × (Int × Int)))) → (List (ByteArray × (Bool × ((List (Int × (Int × (Int × Int)))) × (List (Int × ((Int × (Int × (Int × Int))) × ((List (Int × (Int × (Int × Int)))) × (ByteArray × (Int × ((List ByteArray) × (List Int)))))))))))) → (ByteArray → Prop) → Prop := Classical.choose f_ex
theorem f_def : f = f0 := Classical.choose_spec f_ex
def m5 (x1_0 : Bool) (x1_1 : ByteArray) (x1_2 : (List (Int × Int))) (x1_3 : (List (Int × (Int × (Int × Int))))) (x1_4 : (List (ByteArray × (Bool × ((List (Int × (Int × (Int × Int)))) × (List (Int × ((Int × (Int × (Int × Int))) × ((List (Int × (Int × (Int × Int)))) × (ByteArray × (Int × ((List ByteArray) × (List Int))))))))))))) (b0 : ByteArray) : St := { tmps := mkT 44 0 [(1, (.fp [(.v (.bool x1_0)), (.v (.string x1_1)), (.fz (Ty.pair (Ty.int IntKind.i64) (Ty.int IntKind.i64)) x1_2), (.fz (Ty.pair (Ty.int IntKind.i64) (Ty.pair (Ty.int IntKind.i64) (Ty.pair (Ty.int IntKind.i64) (Ty.int IntKind.i64)))) x1_3), (.fz (Ty.pair Ty.str (Ty.pair Ty.bool (Ty.pair (Ty.list (Ty.pair (Ty.int IntKind.i64) (Ty.pair (Ty.int IntKind.i64) (Ty.pair (Ty.int IntKind.i64) (Ty.int IntKind.i64))))) (Ty.list (Ty.pair (Ty.int IntKind.i64) (Ty.pair (Ty.pair (Ty.int IntKind.i64) (Ty.pair (Ty.int IntKind.i64) (Ty.pair (Ty.int IntKind.i64) (Ty.int IntKind.i64)))) (Ty.pair (Ty.list (Ty.pair (Ty.int IntKind.i64) (Ty.pair (Ty.int IntKind.i64) (Ty.pair (Ty.int IntKind.i64) (Ty.int IntKind.i64))))) (Ty.pair Ty.str (Ty.pair (Ty.int IntKind.i64) (Ty.pair (Ty.list Ty.str) (Ty.list (Ty.int IntKind.i64)))))))))))) x1_4)])), (3, (.ptr 0 0))], hp := [(.bld 68 5 b0)], m := 0 }
def m8 (x1_0 : Bool) (x1_1 : ByteArray) (x1_2 : (List (Int × Int))) (x1_3 : (List (Int × (Int × (Int × Int))))) (x1_4 : (List (ByteArray × (Bool × ((List (Int × (Int × (Int × Int)))) × (List (Int × ((Int × (Int × (Int × Int))) × ((List (Int × (Int × (Int × Int)))) × (ByteArray × (Int × ((List ByteArray) × (List Int))))))))))))) (b0 : ByteArray) : St := { tmps := mkT 44 0 [(1, (.fp [(.v (.bool x1_0)), (.v (.string x1_1)), (.fz (Ty.pair (Ty.int IntKind.i64) (Ty.int IntKind.i64)) x1_2), (.fz (Ty.pair (Ty.int IntKind.i64) (Ty.pair (Ty.int IntKind.i64) (Ty.pair (Ty.int IntKind.i64) (Ty.int IntKind.i64)))) x1_3), (.fz (Ty.pair Ty.str (Ty.pair Ty.bool (Ty.pair (Ty.list (Ty.pair (Ty.int IntKind.i64) (Ty.pair (Ty.int IntKind.i64) (Ty.pair (Ty.int IntKind.i64) (Ty.int IntKind.i64))))) (Ty.list (Ty.pair (Ty.int IntKind.i64) (Ty.pair (Ty.pair (Ty.int IntKind.i64) (Ty.pair (Ty.int IntKind.i64) (Ty.pair (Ty.int IntKind.i64) (Ty.int IntKind.i64)))) (Ty.pair (Ty.list (Ty.pair (Ty.int IntKind.i64) (Ty.pair (Ty.int IntKind.i64) (Ty.pair (Ty.int IntKind.i64) (Ty.int IntKind.i64))))) (Ty.pair Ty.str (Ty.pair (Ty.int IntKind.i64) (Ty.pair (Ty.list Ty.str) (Ty.list (Ty.int IntKind.i64)))))))))))) x1_4)])), (3, (.ptr 0 0))], hp := [(.bld 68 5 b0)], m := 0 }
def mL9 (x29 : (List (ByteArray × (Bool × ((List (Int × (Int × (Int × Int)))) × (List (Int × ((Int × (Int × (Int × Int))) × ((List (Int × (Int × (Int × Int)))) × (ByteArray × (Int × ((List ByteArray) × (List Int))))))))))))) (x30 : Int) (x31 : Int) (b0 : ByteArray) : St := { tmps := mkT 44 0 [(3, (.ptr 0 0)), (29, (.fz (Ty.pair Ty.str (Ty.pair Ty.bool (Ty.pair (Ty.list (Ty.pair (Ty.int IntKind.i64) (Ty.pair (Ty.int IntKind.i64) (Ty.pair (Ty.int IntKind.i64) (Ty.int IntKind.i64))))) (Ty.list (Ty.pair (Ty.int IntKind.i64) (Ty.pair (Ty.pair (Ty.int IntKind.i64) (Ty.pair (Ty.int IntKind.i64) (Ty.pair (Ty.int IntKind.i64) (Ty.int IntKind.i64)))) (Ty.pair (Ty.list (Ty.pair (Ty.int IntKind.i64) (Ty.pair (Ty.int IntKind.i64) (Ty.pair (Ty.int IntKind.i64) (Ty.int IntKind.i64))))) (Ty.pair Ty.str (Ty.pair (Ty.int IntKind.i64) (Ty.pair (Ty.list Ty.str) (Ty.list (Ty.int IntKind.i64)))))))))))) x29)), (30, (.v (.int IntKind.i64 x30))), (31, (.v (.int IntKind.i64 x31)))], hp := [(.bld 68 5 b0)], m := 0 }
def m13 (b0 : ByteArray) : St := { tmps := mkT 44 0 [(3, (.ptr 0 0))], hp := [(.bld 68 5 b0)], m := 0 }
noncomputable def X5 (k kp : D → List Blk → Prop) : St → Prop := atP cfg (pick none' []) [1, 1, 1] body (topK cfg Try.f10 k kp)
noncomputable def X8 (k kp : D → List Blk → Prop) : St → Prop := atP cfg (pick none' []) [1, 1, 1, 1, 1] body (topK cfg Try.f10 k kp)
noncomputable def YL9 (k kp : D → List Blk → Prop) : (St → Prop) → St → Prop := loopB cfg (sub [1, 1, 1, 1, 1, 0, 1, 0, 0] body) (contK cfg (pick none' []) [1, 1, 1, 1, 1, 0, 1, 0] body (topK cfg Try.f10 k kp))
noncomputable def XL9 (k kp : D → List Blk → Prop) : St → Prop := fun st => ∃ n, loopN (YL9 k kp) n st
noncomputable def X13 (k kp : D → List Blk → Prop) : St → Prop := atP cfg (pick none' []) [1, 1, 1, 1, 1, 1] body (topK cfg Try.f10 k kp)
noncomputable def JJ (k kp : D → List Blk → Prop) : Nat → St → Prop := pick none' [(5, X5 k kp), (8, X8 k kp), (13, X13 k kp)]
noncomputable def LL (k kp : D → List Blk → Prop) : Nat → St → Prop := pick none' [(9, XL9 k kp)]
noncomputable def JJ_9 (k kp : D → List Blk → Prop) (ag9 : St → Prop) : Nat → St → Prop := pick none' [(5, X5 k kp), (8, X8 k kp), (13, X13 k kp)]
noncomputable def LL_9 (k kp : D → List Blk → Prop) (ag9 : St → Prop) : Nat → St → Prop := pick none' [(9, XL9 k kp)]
theorem j13_c (k kp : D → List Blk → Prop) (J L : Nat → St → Prop) (b0 : ByteArray) : runC cfg 13 J L (pick none' []) [1, 1, 1, 1, 1, 1] body (topK cfg Try.f10 k kp) (m13 b0) = j13 b0 (fun y0 => k (.v (.string y0)) []) := by kernel_rfl
theorem j13_ag (k kp : D → List Blk → Prop) : agPL cfg 13 (JJ k kp) (LL k kp) [1, 1, 1, 1, 1, 1] body = agPR cfg 13 (pick none' []) [1, 1, 1, 1, 1, 1] body (topK cfg Try.f10 k kp) := by kernel_rfl
theorem j13_raw (k kp : D → List Blk → Prop) (b0 : ByteArray) : X13 k kp (m13 b0) = j13 b0 (fun y0 => k (.v (.string y0)) []) :=
  Eq.mp (by kernel_rfl) ((atP_run (j13_ag k kp) (m13 b0)).trans (j13_c k kp (JJ k kp) (LL k kp) b0))
theorem j13_eq (k kp : D → List Blk → Prop) (b0 : ByteArray) : X13 k kp (m13 b0) = j13' b0 (fun y0 => k (.v (.string y0)) []) := by
  rw [j13_raw]; rfl
theorem l9_c (k kp : D → List Blk → Prop) (J L : Nat → St → Prop) (ag9 : St → Prop) (x29 : (List (ByteArray × (Bool × ((List (Int × (Int × (Int × Int)))) × (List (Int × ((Int × (Int × (Int × Int))) × ((List (Int × (Int × (Int × Int)))) × (ByteArray × (Int × ((List ByteArray) × (List Int))))))))))))) (x30 : Int) (x31 : Int) (b0 : ByteArray) : runC cfg 1000001 J L (pick none' [(9, ag9)]) [1, 1, 1, 1, 1, 0, 1, 0, 0] body (topK cfg Try.f10 k kp) (mL9 x29 x30 x31 b0) = l9 (fun b0 => J 13 (m13 b0)) (fun x31 b0 => ag9 (mL9 x29 x30 x31 b0)) x29 x30 x31 b0 (fun y0 => k (.v (.string y0)) []) := by kernel_rfl
theorem l9_ag (k kp : D → List Blk → Prop) (ag9 : St → Prop) : agPL cfg 1000001 (JJ_9 k kp ag9) (LL_9 k kp ag9) [1, 1, 1, 1, 1, 0, 1, 0, 0] body = agPR cfg 1000001 (pick none' [(9, ag9)]) [1, 1, 1, 1, 1, 0, 1, 0, 0] body (topK cfg Try.f10 k kp) := by kernel_rfl
theorem l9_raw (k kp : D → List Blk → Prop) (ag9 : St → Prop) (x29 : (List (ByteArray × (Bool × ((List (Int × (Int × (Int × Int)))) × (List (Int × ((Int × (Int × (Int × Int))) × ((List (Int × (Int × (Int × Int)))) × (ByteArray × (Int × ((List ByteArray) × (List Int))))))))))))) (x30 : Int) (x31 : Int) (b0 : ByteArray) : YL9 k kp ag9 (mL9 x29 x30 x31 b0) = l9 (fun b0 => X13 k kp (m13 b0)) (fun x31 b0 => ag9 (mL9 x29 x30 x31 b0)) x29 x30 x31 b0 (fun y0 => k (.v (.string y0)) []) :=
  Eq.mp (by kernel_rfl) ((atP_run (l9_ag k kp ag9) (mL9 x29 x30 x31 b0)).trans (l9_c k kp (JJ_9 k kp ag9) (LL_9 k kp ag9) ag9 x29 x30 x31 b0))
theorem l9_eq (k kp : D → List Blk → Prop) (x29 : (List (ByteArray × (Bool × ((List (Int × (Int × (Int × Int)))) × (List (Int × ((Int × (Int × (Int × Int))) × ((List (Int × (Int × (Int × Int)))) × (ByteArray × (Int × ((List ByteArray) × (List Int))))))))))))) (x30 : Int) (x31 : Int) (b0 : ByteArray) : XL9 k kp (mL9 x29 x30 x31 b0) = l9' x29 x30 x31 b0 (fun y0 => k (.v (.string y0)) []) :=
  loop_eq (mk := fun (s : Int × ByteArray) => mL9 x29 x30 s.1 s.2) (fun again s => by rw [l9_raw k kp again x29 x30 s.1 s.2]; simp only [j13_eq]; first | done | rfl) (x31, b0)
theorem j8_c (k kp : D → List Blk → Prop) (J L : Nat → St → Prop) (x1_0 : Bool) (x1_1 : ByteArray) (x1_2 : (List (Int × Int))) (x1_3 : (List (Int × (Int × (Int × Int))))) (x1_4 : (List (ByteArray × (Bool × ((List (Int × (Int × (Int × Int)))) × (List (Int × ((Int × (Int × (Int × Int))) × ((List (Int × (Int × (Int × Int)))) × (ByteArray × (Int × ((List ByteArray) × (List Int))))))))))))) (b0 : ByteArray) : runC cfg 8 J L (pick none' []) [1, 1, 1, 1, 1] body (topK cfg Try.f10 k kp) (m8 x1_0 x1_1 x1_2 x1_3 x1_4 b0) = j8 (fun x29 x30 x31 b0 => L 9 (mL9 x29 x30 x31 b0)) x1_0 x1_1 x1_2 x1_3 x1_4 b0 (fun y0 => k (.v (.string y0)) []) := by kernel_rfl
theorem j8_ag (k kp : D → List Blk → Prop) : agPL cfg 8 (JJ k kp) (LL k kp) [1, 1, 1, 1, 1] body = agPR cfg 8 (pick none' []) [1, 1, 1, 1, 1] body (topK cfg Try.f10 k kp) := by kernel_rfl
theorem j8_raw (k kp : D → List Blk → Prop) (x1_0 : Bool) (x1_1 : ByteArray) (x1_2 : (List (Int × Int))) (x1_3 : (List (Int × (Int × (Int × Int))))) (x1_4 : (List (ByteArray × (Bool × ((List (Int × (Int × (Int × Int)))) × (List (Int × ((Int × (Int × (Int × Int))) × ((List (Int × (Int × (Int × Int)))) × (ByteArray × (Int × ((List ByteArray) × (List Int))))))))))))) (b0 : ByteArray) : X8 k kp (m8 x1_0 x1_1 x1_2 x1_3 x1_4 b0) = j8 (fun x29 x30 x31 b0 => XL9 k kp (mL9 x29 x30 x31 b0)) x1_0 x1_1 x1_2 x1_3 x1_4 b0 (fun y0 => k (.v (.string y0)) []) :=
  Eq.mp (by kernel_rfl) ((atP_run (j8_ag k kp) (m8 x1_0 x1_1 x1_2 x1_3 x1_4 b0)).trans (j8_c k kp (JJ k kp) (LL k kp) x1_0 x1_1 x1_2 x1_3 x1_4 b0))
theorem j8_eq (k kp : D → List Blk → Prop) (x1_0 : Bool) (x1_1 : ByteArray) (x1_2 : (List (Int × Int))) (x1_3 : (List (Int × (Int × (Int × Int))))) (x1_4 : (List (ByteArray × (Bool × ((List (Int × (Int × (Int × Int)))) × (List (Int × ((Int × (Int × (Int × Int))) × ((List (Int × (Int × (Int × Int)))) × (ByteArray × (Int × ((List ByteArray) × (List Int))))))))))))) (b0 : ByteArray) : X8 k kp (m8 x1_0 x1_1 x1_2 x1_3 x1_4 b0) = j8' x1_0 x1_1 x1_2 x1_3 x1_4 b0 (fun y0 => k (.v (.string y0)) []) := by
  rw [j8_raw]; simp only [l9_eq]; first | done | rfl
theorem j5_c (k kp : D → List Blk → Prop) (J L : Nat → St → Prop) (x1_0 : Bool) (x1_1 : ByteArray) (x1_2 : (List (Int × Int))) (x1_3 : (List (Int × (Int × (Int × Int))))) (x1_4 : (List (ByteArray × (Bool × ((List (Int × (Int × (Int × Int)))) × (List (Int × ((Int × (Int × (Int × Int))) × ((List (Int × (Int × (Int × Int)))) × (ByteArray × (Int × ((List ByteArray) × (List Int))))))))))))) (b0 : ByteArray) : runC cfg 5 J L (pick none' []) [1, 1, 1] body (topK cfg Try.f10 k kp) (m5 x1_0 x1_1 x1_2 x1_3 x1_4 b0) = j5 (fun x1_0 x1_1 x1_2 x1_3 x1_4 b0 => J 8 (m8 x1_0 x1_1 x1_2 x1_3 x1_4 b0)) x1_0 x1_1 x1_2 x1_3 x1_4 b0 (fun y0 => k (.v (.string y0)) []) := by kernel_rfl
theorem j5_ag (k kp : D → List Blk → Prop) : agPL cfg 5 (JJ k kp) (LL k kp) [1, 1, 1] body = agPR cfg 5 (pick none' []) [1, 1, 1] body (topK cfg Try.f10 k kp) := by kernel_rfl
theorem j5_raw (k kp : D → List Blk → Prop) (x1_0 : Bool) (x1_1 : ByteArray) (x1_2 : (List (Int × Int))) (x1_3 : (List (Int × (Int × (Int × Int))))) (x1_4 : (List (ByteArray × (Bool × ((List (Int × (Int × (Int × Int)))) × (List (Int × ((Int × (Int × (Int × Int))) × ((List (Int × (Int × (Int × Int)))) × (ByteArray × (Int × ((List ByteArray) × (List Int))))))))))))) (b0 : ByteArray) : X5 k kp (m5 x1_0 x1_1 x1_2 x1_3 x1_4 b0) = j5 (fun x1_0 x1_1 x1_2 x1_3 x1_4 b0 => X8 k kp (m8 x1_0 x1_1 x1_2 x1_3 x1_4 b0)) x1_0 x1_1 x1_2 x1_3 x1_4 b0 (fun y0 => k (.v (.string y0)) []) :=
  Eq.mp (by kernel_rfl) ((atP_run (j5_ag k kp) (m5 x1_0 x1_1 x1_2 x1_3 x1_4 b0)).trans (j5_c k kp (JJ k kp) (LL k kp) x1_0 x1_1 x1_2 x1_3 x1_4 b0))
theorem j5_eq (k kp : D → List Blk → Prop) (x1_0 : Bool) (x1_1 : ByteArray) (x1_2 : (List (Int × Int))) (x1_3 : (List (Int × (Int × (Int × Int))))) (x1_4 : (List (ByteArray × (Bool × ((List (Int × (Int × (Int × Int)))) × (List (Int × ((Int × (Int × (Int × Int))) × ((List (Int × (Int × (Int × Int)))) × (ByteArray × (Int × ((List ByteArray) × (List Int))))))))))))) (b0 : ByteArray) : X5 k kp (m5 x1_0 x1_1 x1_2 x1_3 x1_4 b0) = j5' x1_0 x1_1 x1_2 x1_3 x1_4 b0 (fun y0 => k (.v (.string y0)) []) := by
  rw [j5_raw]; simp only [j8_eq]; first | done | rfl
theorem c_c (k kp : D → List Blk → Prop) (J L : Nat → St → Prop) (x0_0 : Bool) (x0_1 : ByteArray) (x0_2 : (List (Int × Int))) (x0_3 : (List (Int × (Int × (Int × Int))))) (x0_4 : (List (ByteArray × (Bool × ((List (Int × (Int × (Int × Int)))) × (List (Int × ((Int × (Int × (Int × Int))) × ((List (Int × (Int × (Int × Int)))) × (ByteArray × (Int × ((List ByteArray) × (List Int))))))))))))) : runC cfg 1000001 J L none'' [] body (topK cfg Try.f10 k kp) (st0 Try.f10 [(.agg [(.v (.bool x0_0)), (.v (.string x0_1)), (.fz (Ty.pair (Ty.int IntKind.i64) (Ty.int IntKind.i64)) x0_2), (.fz (Ty.pair (Ty.int IntKind.i64) (Ty.pair (Ty.int IntKind.i64) (Ty.pair (Ty.int IntKind.i64) (Ty.int IntKind.i64)))) x0_3), (.fz (Ty.pair Ty.str (Ty.pair Ty.bool (Ty.pair (Ty.list (Ty.pair (Ty.int IntKind.i64) (Ty.pair (Ty.int IntKind.i64) (Ty.pair (Ty.int IntKind.i64) (Ty.int IntKind.i64))))) (Ty.list (Ty.pair (Ty.int IntKind.i64) (Ty.pair (Ty.pair (Ty.int IntKind.i64) (Ty.pair (Ty.int IntKind.i64) (Ty.pair (Ty.int IntKind.i64) (Ty.int IntKind.i64)))) (Ty.pair (Ty.list (Ty.pair (Ty.int IntKind.i64) (Ty.pair (Ty.int IntKind.i64) (Ty.pair (Ty.int IntKind.i64) (Ty.int IntKind.i64))))) (Ty.pair Ty.str (Ty.pair (Ty.int IntKind.i64) (Ty.pair (Ty.list Ty.str) (Ty.list (Ty.int IntKind.i64)))))))))))) x0_4)])] []) = c (fun x1_0 x1_1 x1_2 x1_3 x1_4 b0 => J 5 (m5 x1_0 x1_1 x1_2 x1_3 x1_4 b0)) x0_0 x0_1 x0_2 x0_3 x0_4 (fun y0 => k (.v (.string y0)) []) := by kernel_rfl
theorem c_ag (k kp : D → List Blk → Prop) : agPL cfg 1000001 (JJ k kp) (LL k kp) [] body = agPR cfg 1000001 none'' [] body (topK cfg Try.f10 k kp) := by kernel_rfl
theorem body_is : Try.f10.body = some body := by kernel_rfl
theorem c_raw (k kp : D → List Blk → Prop) (x0_0 : Bool) (x0_1 : ByteArray) (x0_2 : (List (Int × Int))) (x0_3 : (List (Int × (Int × (Int × Int))))) (x0_4 : (List (ByteArray × (Bool × ((List (Int × (Int × (Int × Int)))) × (List (Int × ((Int × (Int × (Int × Int))) × ((List (Int × (Int × (Int × Int)))) × (ByteArray × (Int × ((List ByteArray) × (List Int))))))))))))) : funW cfg Try.f10 [(.agg [(.v (.bool x0_0)), (.v (.string x0_1)), (.fz (Ty.pair (Ty.int IntKind.i64) (Ty.int IntKind.i64)) x0_2), (.fz (Ty.pair (Ty.int IntKind.i64) (Ty.pair (Ty.int IntKind.i64) (Ty.pair (Ty.int IntKind.i64) (Ty.int IntKind.i64)))) x0_3), (.fz (Ty.pair Ty.str (Ty.pair Ty.bool (Ty.pair (Ty.list (Ty.pair (Ty.int IntKind.i64) (Ty.pair (Ty.int IntKind.i64) (Ty.pair (Ty.int IntKind.i64) (Ty.int IntKind.i64))))) (Ty.list (Ty.pair (Ty.int IntKind.i64) (Ty.pair (Ty.pair (Ty.int IntKind.i64) (Ty.pair (Ty.int IntKind.i64) (Ty.pair (Ty.int IntKind.i64) (Ty.int IntKind.i64)))) (Ty.pair (Ty.list (Ty.pair (Ty.int IntKind.i64) (Ty.pair (Ty.int IntKind.i64) (Ty.pair (Ty.int IntKind.i64) (Ty.int IntKind.i64))))) (Ty.pair Ty.str (Ty.pair (Ty.int IntKind.i64) (Ty.pair (Ty.list Ty.str) (Ty.list (Ty.int IntKind.i64)))))))))))) x0_4)])] [] k kp = c (fun x1_0 x1_1 x1_2 x1_3 x1_4 b0 => X5 k kp (m5 x1_0 x1_1 x1_2 x1_3 x1_4 b0)) x0_0 x0_1 x0_2 x0_3 x0_4 (fun y0 => k (.v (.string y0)) []) :=
  Eq.mp (by kernel_rfl) ((funW_run (AG := none'') body_is (c_ag k kp) [(.agg [(.v (.bool x0_0)), (.v (.string x0_1)), (.fz (Ty.pair (Ty.int IntKind.i64) (Ty.int IntKind.i64)) x0_2), (.fz (Ty.pair (Ty.int IntKind.i64) (Ty.pair (Ty.int IntKind.i64) (Ty.pair (Ty.int IntKind.i64) (Ty.int IntKind.i64)))) x0_3), (.fz (Ty.pair Ty.str (Ty.pair Ty.bool (Ty.pair (Ty.list (Ty.pair (Ty.int IntKind.i64) (Ty.pair (Ty.int IntKind.i64) (Ty.pair (Ty.int IntKind.i64) (Ty.int IntKind.i64))))) (Ty.list (Ty.pair (Ty.int IntKind.i64) (Ty.pair (Ty.pair (Ty.int IntKind.i64) (Ty.pair (Ty.int IntKind.i64) (Ty.pair (Ty.int IntKind.i64) (Ty.int IntKind.i64)))) (Ty.pair (Ty.list (Ty.pair (Ty.int IntKind.i64) (Ty.pair (Ty.int IntKind.i64) (Ty.pair (Ty.int IntKind.i64) (Ty.int IntKind.i64))))) (Ty.pair Ty.str (Ty.pair (Ty.int IntKind.i64) (Ty.pair (Ty.list Ty.str) (Ty.list (Ty.int IntKind.i64)))))))))))) x0_4)])] []).trans (c_c k kp (JJ k kp) (LL k kp) x0_0 x0_1 x0_2 x0_3 x0_4))
theorem f_eq (k kp : D → List Blk → Prop) (x0_0 : Bool) (x0_1 : ByteArray) (x0_2 : (List (Int × Int))) (x0_3 : (List (Int × (Int × (Int × Int))))) (x0_4 : (List (ByteArray × (Bool × ((List (Int × (Int × (Int × Int)))) × (List (Int × ((Int × (Int × (Int × Int))) × ((List (Int × (Int × (Int × Int)))) × (ByteArray × (Int × ((List ByteArray) × (List Int))))))))))))) : funW cfg Try.f10 [(.agg [(.v (.bool x0_0)), (.v (.string x0_1)), (.fz (Ty.pair (Ty.int IntKind.i64) (Ty.int IntKind.i64)) x0_2), (.fz (Ty.pair (Ty.int IntKind.i64) (Ty.pair (Ty.int IntKind.i64) (Ty.pair (Ty.int IntKind.i64) (Ty.int IntKind.i64)))) x0_3), (.fz (Ty.pair Ty.str (Ty.pair Ty.bool (Ty.pair (Ty.list (Ty.pair (Ty.int IntKind.i64) (Ty.pair (Ty.int IntKind.i64) (Ty.pair (Ty.int IntKind.i64) (Ty.int IntKind.i64))))) (Ty.list (Ty.pair (Ty.int IntKind.i64) (Ty.pair (Ty.pair (Ty.int IntKind.i64) (Ty.pair (Ty.int IntKind.i64) (Ty.pair (Ty.int IntKind.i64) (Ty.int IntKind.i64)))) (Ty.pair (Ty.list (Ty.pair (Ty.int IntKind.i64) (Ty.pair (Ty.int IntKind.i64) (Ty.pair (Ty.int IntKind.i64) (Ty.int IntKind.i64))))) (Ty.pair Ty.str (Ty.pair (Ty.int IntKind.i64) (Ty.pair (Ty.list Ty.str) (Ty.list (Ty.int IntKind.i64)))))))))))) x0_4)])] [] k kp = f x0_0 x0_1 x0_2 x0_3 x0_4 (fun y0 => k (.v (.string y0)) []) := by
  rw [f_def, c_raw]; simp only [j5_eq]; first | done | rfl
noncomputable def ent0 : Entry := fun args blks k _ => match args, blks with
  | [d0], [] => aAgg 5 d0 fun l => aCons l fun d0_0 l => aCons l fun d0_1 l => aCons l fun d0_2 l => aCons l fun d0_3 l => aCons l fun d0_4 l => aNil l (aBool d0_0 fun x0_0 => aStr d0_1 fun x0_1 => aFz (Ty.pair (Ty.int IntKind.i64) (Ty.int IntKind.i64)) d0_2 fun x0_2 => aFz (Ty.pair (Ty.int IntKind.i64) (Ty.pair (Ty.int IntKind.i64) (Ty.pair (Ty.int IntKind.i64) (Ty.int IntKind.i64)))) d0_3 fun x0_3 => aFz (Ty.pair Ty.str (Ty.pair Ty.bool (Ty.pair (Ty.list (Ty.pair (Ty.int IntKind.i64) (Ty.pair (Ty.int IntKind.i64) (Ty.pair (Ty.int IntKind.i64) (Ty.int IntKind.i64))))) (Ty.list (Ty.pair (Ty.int IntKind.i64) (Ty.pair (Ty.pair (Ty.int IntKind.i64) (Ty.pair (Ty.int IntKind.i64) (Ty.pair (Ty.int IntKind.i64) (Ty.int IntKind.i64)))) (Ty.pair (Ty.list (Ty.pair (Ty.int IntKind.i64) (Ty.pair (Ty.int IntKind.i64) (Ty.pair (Ty.int IntKind.i64) (Ty.int IntKind.i64))))) (Ty.pair Ty.str (Ty.pair (Ty.int IntKind.i64) (Ty.pair (Ty.list Ty.str) (Ty.list (Ty.int IntKind.i64)))))))))))) d0_4 fun x0_4 => f x0_0 x0_1 x0_2 x0_3 x0_4 (fun y0 => k (.v (.string y0)) []))
  | _, _ => False
noncomputable def ent : Entry := fun args blks k kp => ent0 (convB [.cells [none, none, some (Ty.pair (Ty.int IntKind.i64) (Ty.int IntKind.i64)), some (Ty.pair (Ty.int IntKind.i64) (Ty.pair (Ty.int IntKind.i64) (Ty.pair (Ty.int IntKind.i64) (Ty.int IntKind.i64)))), some (Ty.pair Ty.str (Ty.pair Ty.bool (Ty.pair (Ty.list (Ty.pair (Ty.int IntKind.i64) (Ty.pair (Ty.int IntKind.i64) (Ty.pair (Ty.int IntKind.i64) (Ty.int IntKind.i64))))) (Ty.list (Ty.pair (Ty.int IntKind.i64) (Ty.pair (Ty.pair (Ty.int IntKind.i64) (Ty.pair (Ty.int IntKind.i64) (Ty.pair (Ty.int IntKind.i64) (Ty.int IntKind.i64)))) (Ty.pair (Ty.list (Ty.pair (Ty.int IntKind.i64) (Ty.pair (Ty.int IntKind.i64) (Ty.pair (Ty.int IntKind.i64) (Ty.int IntKind.i64))))) (Ty.pair Ty.str (Ty.pair (Ty.int IntKind.i64) (Ty.pair (Ty.list Ty.str) (Ty.list (Ty.int IntKind.i64))))))))))))]] args) blks k kp
theorem ok : EntOk Try.prog 0 0 10 ent := by
  refine EntOk.convB (EntOk.of (funW_ok (cfg := cfg) (tyOk_of rfl rfl tyL_ok) (eqOk_of (P := Try.prog) rfl rfl (by kernel_rfl)) mixed_ok (tab_ok ?_) Try.func10 (by rfl) (by rfl)) ?_) _
  · intro p hp
    simp only [List.mem_cons, List.not_mem_nil, or_false] at hp
    rcases hp with rfl | rfl | rfl | rfl | rfl | rfl
    · exact N27.ok
    · exact N29.ok
    · exact N28.ok
    · exact N30.ok
    · exact N18.ok
    · exact N31.ok
  · intro args blks k kp h k' kp'
    match args, blks, h with
    | [d0], [], h =>
    dsimp only [ent0] at h
    have h9 := aAgg_elim h; clear h; obtain ⟨_, rfl, h⟩ := h9
    have h9 := aCons_elim h; clear h; obtain ⟨d0_0, _, rfl, h⟩ := h9
    have h9 := aCons_elim h; clear h; obtain ⟨d0_1, _, rfl, h⟩ := h9
    have h9 := aCons_elim h; clear h; obtain ⟨d0_2, _, rfl, h⟩ := h9
    have h9 := aCons_elim h; clear h; obtain ⟨d0_3, _, rfl, h⟩ := h9
    have h9 := aCons_elim h; clear h; obtain ⟨d0_4, _, rfl, h⟩ := h9
    have h9 := aNil_elim h; clear h; obtain ⟨rfl, h⟩ := h9
    have h9 := aBool_elim h; clear h; obtain ⟨x0_0, rfl, h⟩ := h9
    have h9 := aStr_elim h; clear h; obtain ⟨x0_1, rfl, h⟩ := h9
    have h9 := aFz_elim (t := (Ty.pair (Ty.int IntKind.i64) (Ty.int IntKind.i64))) h; clear h; obtain ⟨x0_2, rfl, h⟩ := h9
    have h9 := aFz_elim (t := (Ty.pair (Ty.int IntKind.i64) (Ty.pair (Ty.int IntKind.i64) (Ty.pair (Ty.int IntKind.i64) (Ty.int IntKind.i64))))) h; clear h; obtain ⟨x0_3, rfl, h⟩ := h9
    have h9 := aFz_elim (t := (Ty.pair Ty.str (Ty.pair Ty.bool (Ty.pair (Ty.list (Ty.pair (Ty.int IntKind.i64) (Ty.pair (Ty.int IntKind.i64) (Ty.pair (Ty.int IntKind.i64) (Ty.int IntKind.i64))))) (Ty.list (Ty.pair (Ty.int IntKind.i64) (Ty.pair (Ty.pair (Ty.int IntKind.i64) (Ty.pair (Ty.int IntKind.i64) (Ty.pair (Ty.int IntKind.i64) (Ty.int IntKind.i64)))) (Ty.pair (Ty.list (Ty.pair (Ty.int IntKind.i64) (Ty.pair (Ty.int IntKind.i64) (Ty.pair (Ty.int IntKind.i64) (Ty.int IntKind.i64))))) (Ty.pair Ty.str (Ty.pair (Ty.int IntKind.i64) (Ty.pair (Ty.list Ty.str) (Ty.list (Ty.int IntKind.i64))))))))))))) h; clear h; obtain ⟨x0_4, rfl, h⟩ := h9
    exact (f_eq k' kp' x0_0 x0_1 x0_2 x0_3 x0_4).symm
end N10
end Go.Proofs.Yc
namespace Go.Proofs.Yc
open Go Go.Aw Go.Proofs
set_option linter.unusedVariables false
set_option linter.unusedSimpArgs false
set_option maxRecDepth 100000
/-! dyehouse/dyehouselaw14.works -/
namespace N9
noncomputable def cfg : Cfg := { P := Try.prog, ty := tys, E := tab [(12, N12.ent), (14, N14.ent), (18, N18.ent), (16, N16.ent), (17, N17.ent), (10, N10.ent)], atSeq := tab [], atLoop := tab [], outs := [], eqT := tab [], bT := tab [] }
noncomputable def body : Code := bodyOf Try.f9
def c (k : Bool → Prop) : Prop :=
  (N12.f (17 : Int) (1 : Int) (0 : Int) (2 : Int) (0 : Int) ([((1 : Int), ((0 : Int), ((1 : Int), (0 : Int))))] : List (Int × (Int × (Int × Int)))) (ByteArray.mk #[]) (-8 : Int) ([] : List ByteArray) ([] : List Int) (fun (y0_0 : ByteArray) => (br (beqS y0_0 (ByteArray.mk #[37, 50, 32, 61, 32, 108, 111, 97, 100, 32, 37, 49, 32, 43, 32, 45, 56])) (N14.f (2 : Int) (1 : Int) (3 : Int) (9 : Int) (fun (y0_1 : ByteArray) => (br (beqS y0_1 (ByteArray.mk #[36, 120, 51, 58, 37, 57])) (N18.f (ByteArray.mk #[97]) false ([] : List (Int × (Int × (Int × Int)))) ([((17 : Int), (((1 : Int), ((0 : Int), ((2 : Int), (0 : Int)))), (([((1 : Int), ((0 : Int), ((1 : Int), (0 : Int))))] : List (Int × (Int × (Int × Int)))), ((ByteArray.mk #[]), ((-8 : Int), (([] : List ByteArray), ([] : List Int)))))))] : List (Int × ((Int × (Int × (Int × Int))) × ((List (Int × (Int × (Int × Int)))) × (ByteArray × (Int × ((List ByteArray) × (List Int)))))))) (fun (y0_2 : ByteArray) => (br (beqS y0_2 (ByteArray.mk #[97, 58, 10, 32, 32, 37, 50, 32, 61, 32, 108, 111, 97, 100, 32, 37, 49, 32, 43, 32, 45, 56, 59, 10])) (N16.f (4 : Int) (fun (y0_3 : ByteArray) => (br (beqS y0_3 (ByteArray.mk #[37, 52])) (N17.f (ByteArray.mk #[97, 46, 98]) true ([] : List (Int × (Int × (Int × Int)))) ([] : List (Int × ((Int × (Int × (Int × Int))) × ((List (Int × (Int × (Int × Int)))) × (ByteArray × (Int × ((List ByteArray) × (List Int)))))))) (fun (y0_4 : ByteArray) => (br (beqS y0_4 (ByteArray.mk #[101, 100, 103, 101, 32, 97, 46, 98, 58])) (N10.f false (ByteArray.mk #[102]) ([] : List (Int × Int)) ([((1 : Int), ((0 : Int), ((1 : Int), (0 : Int))))] : List (Int × (Int × (Int × Int)))) ([((ByteArray.mk #[97]), (false, (([] : List (Int × (Int × (Int × Int)))), ([((17 : Int), (((1 : Int), ((0 : Int), ((2 : Int), (0 : Int)))), (([((1 : Int), ((0 : Int), ((1 : Int), (0 : Int))))] : List (Int × (Int × (Int × Int)))), ((ByteArray.mk #[]), ((-8 : Int), (([] : List ByteArray), ([] : List Int)))))))] : List (Int × ((Int × (Int × (Int × Int))) × ((List (Int × (Int × (Int × Int)))) × (ByteArray × (Int × ((List ByteArray) × (List Int)))))))))))] : List (ByteArray × (Bool × ((List (Int × (Int × (Int × Int)))) × (List (Int × ((Int × (Int × (Int × Int))) × ((List (Int × (Int × (Int × Int)))) × (ByteArray × (Int × ((List ByteArray) × (List Int)))))))))))) (fun (y0_5 : ByteArray) => (k (beqS y0_5 (ByteArray.mk #[102, 117, 110, 99, 32, 102, 40, 37, 49, 41, 32, 123, 10, 97, 58, 10, 32, 32, 37, 50, 32, 61, 32, 108, 111, 97, 100, 32, 37, 49, 32, 43, 32, 45, 56, 59, 10, 125, 10]))))) (k false)))) (k false)))) (k false)))) (k false)))) (k false))))
def f0 (k : Bool → Prop) : Prop := c k
theorem f_ex : ∃ g : (Bool → Prop) → Prop, g = f0 := ⟨_, rfl⟩
noncomputable def f : (Bool → Prop) → Prop := Classical.choose f_ex
theorem f_def : f = f0 := Classical.choose_spec f_ex
noncomputable def JJ (k kp : D → List Blk → Prop) : Nat → St → Prop := pick none' []
noncomputable def LL (k kp : D → List Blk → Prop) : Nat → St → Prop := pick none' []
theorem c_c (k kp : D → List Blk → Prop) (J L : Nat → St → Prop) : runC cfg 1000001 J L none'' [] body (topK cfg Try.f9 k kp) (st0 Try.f9 [] []) = c (fun y0 => k (.v (.bool y0)) []) := by kernel_rfl
theorem c_ag (k kp : D → List Blk → Prop) : agPL cfg 1000001 (JJ k kp) (LL k kp) [] body = agPR cfg 1000001 none'' [] body (topK cfg Try.f9 k kp) := by kernel_rfl
theorem body_is : Try.f9.body = some body := by kernel_rfl
theorem c_raw (k kp : D → List Blk → Prop) : funW cfg Try.f9 [] [] k kp = c (fun y0 => k (.v (.bool y0)) []) :=
  Eq.mp (by kernel_rfl) ((funW_run (AG := none'') body_is (c_ag k kp) [] []).trans (c_c k kp (JJ k kp) (LL k kp)))
theorem f_eq (k kp : D → List Blk → Prop) : funW cfg Try.f9 [] [] k kp = f (fun y0 => k (.v (.bool y0)) []) := by
  rw [f_def, c_raw]; rfl
noncomputable def ent0 : Entry := fun args blks k _ => match args, blks with
  | [], [] => f (fun y0 => k (.v (.bool y0)) [])
  | _, _ => False
noncomputable def ent : Entry := fun args blks k kp => ent0 (convB [] args) blks k kp
theorem ok : EntOk Try.prog 0 0 9 ent := by
  refine EntOk.convB (EntOk.of (funW_ok (cfg := cfg) (tyOk_of rfl rfl tyL_ok) (eqOk_of (P := Try.prog) rfl rfl (by kernel_rfl)) mixed_ok (tab_ok ?_) Try.func9 (by rfl) (by rfl)) ?_) _
  · intro p hp
    simp only [List.mem_cons, List.not_mem_nil, or_false] at hp
    rcases hp with rfl | rfl | rfl | rfl | rfl | rfl
    · exact N12.ok
    · exact N14.ok
    · exact N18.ok
    · exact N16.ok
    · exact N17.ok
    · exact N10.ok
  · intro args blks k kp h k' kp'
    match args, blks, h with
    | [], [], h =>
    dsimp only [ent0] at h
    exact (f_eq k' kp').symm
end N9
end Go.Proofs.Yc
namespace Go.Proofs.Yc
open Go Go.Aw Go.Proofs
set_option linter.unusedVariables false
set_option linter.unusedSimpArgs false
set_option maxRecDepth 100000
/-! dyehouse/dyehouseref14.Operand -/
namespace N15
noncomputable def cfg : Cfg := { P := Try.prog, ty := tys, E := tab [(34, N34.ent), (46, N46.ent)], atSeq := tab [], atLoop := tab [], outs := [], eqT := tab [], bT := tab [], fzB := [1] }
noncomputable def body : Code := bodyOf Try.f15
def c (x0_0 : Int) (x0_1 : Int) (x0_2 : Int) (x0_3 : Int) (k : ByteArray → Prop) : Prop :=
  (N34.f x0_3 (fun (y0_0 : ByteArray) => ((((ByteArray.mk #[58, 37])).size + (y0_0).size ≤ 9223372036854775807) ∧ (br (x0_0 == (0 : Int)) (k (ByteArray.mk #[95])) (br (x0_0 == (1 : Int)) (N34.f x0_2 (fun (y0_1 : ByteArray) => ((((ByteArray.mk #[37])).size + (y0_1).size ≤ 9223372036854775807) ∧ (k ((ByteArray.mk #[37]) ++ y0_1))))) (br (x0_0 == (2 : Int)) (N46.f (2 : Int) x0_1 x0_2 (fun (y0_2 : ByteArray) => (((y0_2).size + (((ByteArray.mk #[58, 37]) ++ y0_0)).size ≤ 9223372036854775807) ∧ (k (y0_2 ++ ((ByteArray.mk #[58, 37]) ++ y0_0)))))) (br (x0_0 == (3 : Int)) (N34.f x0_2 (fun (y0_3 : ByteArray) => ((((ByteArray.mk #[35])).size + (y0_3).size ≤ 9223372036854775807) ∧ (((((ByteArray.mk #[35]) ++ y0_3)).size + (((ByteArray.mk #[58, 37]) ++ y0_0)).size ≤ 9223372036854775807) ∧ (k (((ByteArray.mk #[35]) ++ y0_3) ++ ((ByteArray.mk #[58, 37]) ++ y0_0))))))) (br (x0_0 == (4 : Int)) (N34.f x0_2 (fun (y0_4 : ByteArray) => (k y0_4))) (k (ByteArray.mk #[63]))))))))))
def f0 (x0_0 : Int) (x0_1 : Int) (x0_2 : Int) (x0_3 : Int) (k : ByteArray → Prop) : Prop := c x0_0 x0_1 x0_2 x0_3 k
theorem f_ex : ∃ g : Int → Int → Int → Int → (ByteArray → Prop) → Prop, g = f0 := ⟨_, rfl⟩
noncomputable def f : Int → Int → Int → Int → (ByteArray → Prop) → Prop := Classical.choose f_ex
theorem f_def : f = f0 := Classical.choose_spec f_ex
noncomputable def JJ (k kp : D → List Blk → Prop) : Nat → St → Prop := pick none' []
noncomputable def LL (k kp : D → List Blk → Prop) : Nat → St → Prop := pick none' []
theorem c_c (k kp : D → List Blk → Prop) (J L : Nat → St → Prop) (x0_0 : Int) (x0_1 : Int) (x0_2 : Int) (x0_3 : Int) : runC cfg 1000001 J L none'' [] body (topK cfg Try.f15 k kp) (st0 Try.f15 [(.agg [(.v (.int IntKind.i64 x0_0)), (.v (.int IntKind.i64 x0_1)), (.v (.int IntKind.i64 x0_2)), (.v (.int IntKind.i64 x0_3))])] []) = c x0_0 x0_1 x0_2 x0_3 (fun y0 => k (.v (.string y0)) []) := by kernel_rfl
theorem c_ag (k kp : D → List Blk → Prop) : agPL cfg 1000001 (JJ k kp) (LL k kp) [] body = agPR cfg 1000001 none'' [] body (topK cfg Try.f15 k kp) := by kernel_rfl
theorem body_is : Try.f15.body = some body := by kernel_rfl
theorem c_raw (k kp : D → List Blk → Prop) (x0_0 : Int) (x0_1 : Int) (x0_2 : Int) (x0_3 : Int) : funW cfg Try.f15 [(.agg [(.v (.int IntKind.i64 x0_0)), (.v (.int IntKind.i64 x0_1)), (.v (.int IntKind.i64 x0_2)), (.v (.int IntKind.i64 x0_3))])] [] k kp = c x0_0 x0_1 x0_2 x0_3 (fun y0 => k (.v (.string y0)) []) :=
  Eq.mp (by kernel_rfl) ((funW_run (AG := none'') body_is (c_ag k kp) [(.agg [(.v (.int IntKind.i64 x0_0)), (.v (.int IntKind.i64 x0_1)), (.v (.int IntKind.i64 x0_2)), (.v (.int IntKind.i64 x0_3))])] []).trans (c_c k kp (JJ k kp) (LL k kp) x0_0 x0_1 x0_2 x0_3))
theorem f_eq (k kp : D → List Blk → Prop) (x0_0 : Int) (x0_1 : Int) (x0_2 : Int) (x0_3 : Int) : funW cfg Try.f15 [(.agg [(.v (.int IntKind.i64 x0_0)), (.v (.int IntKind.i64 x0_1)), (.v (.int IntKind.i64 x0_2)), (.v (.int IntKind.i64 x0_3))])] [] k kp = f x0_0 x0_1 x0_2 x0_3 (fun y0 => k (.v (.string y0)) []) := by
  rw [f_def, c_raw]; rfl
noncomputable def ent0 : Entry := fun args blks k _ => match args, blks with
  | [d0], [] => aAgg 4 d0 fun l => aCons l fun d0_0 l => aCons l fun d0_1 l => aCons l fun d0_2 l => aCons l fun d0_3 l => aNil l (aInt IntKind.i64 d0_0 fun x0_0 => aInt IntKind.i64 d0_1 fun x0_1 => aInt IntKind.i64 d0_2 fun x0_2 => aInt IntKind.i64 d0_3 fun x0_3 => f x0_0 x0_1 x0_2 x0_3 (fun y0 => k (.v (.string y0)) []))
  | _, _ => False
noncomputable def ent : Entry := fun args blks k kp => ent0 (convB [.no] args) blks k kp
theorem ok : EntOk Try.prog 0 0 15 ent := by
  refine EntOk.convB (EntOk.of (funW_ok (cfg := cfg) (tyOk_of rfl rfl tyL_ok) (eqOk_of (P := Try.prog) rfl rfl (by kernel_rfl)) mixed_ok (tab_ok ?_) Try.func15 (by rfl) (by rfl)) ?_) _
  · intro p hp
    simp only [List.mem_cons, List.not_mem_nil, or_false] at hp
    rcases hp with rfl | rfl
    · exact N34.ok
    · exact N46.ok
  · intro args blks k kp h k' kp'
    match args, blks, h with
    | [d0], [], h =>
    dsimp only [ent0] at h
    have h9 := aAgg_elim h; clear h; obtain ⟨_, rfl, h⟩ := h9
    have h9 := aCons_elim h; clear h; obtain ⟨d0_0, _, rfl, h⟩ := h9
    have h9 := aCons_elim h; clear h; obtain ⟨d0_1, _, rfl, h⟩ := h9
    have h9 := aCons_elim h; clear h; obtain ⟨d0_2, _, rfl, h⟩ := h9
    have h9 := aCons_elim h; clear h; obtain ⟨d0_3, _, rfl, h⟩ := h9
    have h9 := aNil_elim h; clear h; obtain ⟨rfl, h⟩ := h9
    have h9 := aInt_elim h; clear h; obtain ⟨x0_0, rfl, h⟩ := h9
    have h9 := aInt_elim h; clear h; obtain ⟨x0_1, rfl, h⟩ := h9
    have h9 := aInt_elim h; clear h; obtain ⟨x0_2, rfl, h⟩ := h9
    have h9 := aInt_elim h; clear h; obtain ⟨x0_3, rfl, h⟩ := h9
    exact (f_eq k' kp' x0_0 x0_1 x0_2 x0_3).symm
end N15
end Go.Proofs.Yc
namespace Go.Proofs.Yc
open Go Go.Aw Go.Proofs
set_option linter.unusedVariables false
set_option linter.unusedSimpArgs false
set_option maxRecDepth 100000
/-! dyehouse/dyehouseref14.join -/
namespace N32
noncomputable def cfg : Cfg := { P := Try.prog, ty := tys, E := tab [], atSeq := tab [(7, ⟨[(0, .keep), (3, .keep), (4, .keep)]⟩), (8, ⟨[(3, .keep)]⟩), (4, ⟨[(0, .keep), (3, .keep), (4, .keep)]⟩)], atLoop := tab [(3, ⟨[(0, .keep), (3, .keep), (4, .keep)]⟩)], outs := [], eqT := tab [], bT := tab [] }
noncomputable def body : Code := bodyOf Try.f32
def l3 (j7 : (List ByteArray) → ByteArray → Int → Prop) (j8 : ByteArray → Prop) (x0 : (List ByteArray)) (x3 : ByteArray) (x4 : Int) (k : ByteArray → Prop) : Prop :=
  (br (decide (x4 < ((((x0).length : Nat) : Int)))) (br (decide (x4 > (0 : Int))) (((x3).size + ((ByteArray.mk #[44, 32])).size ≤ 9223372036854775807) ∧ (j7 x0 (x3 ++ (ByteArray.mk #[44, 32])) x4)) (j7 x0 x3 x4)) (j8 x3))
def j7 (j4 : (List ByteArray) → ByteArray → Int → Prop) (x0 : (List ByteArray)) (x3 : ByteArray) (x4 : Int) (k : ByteArray → Prop) : Prop :=
  ((inB 0 x4 ((((x0).length : Nat) : Int) - 1)) ∧ (((x3).size + ((x0.getD (Int.toNat x4) (ByteArray.empty))).size ≤ 9223372036854775807) ∧ (j4 x0 (x3 ++ (x0.getD (Int.toNat x4) (ByteArray.empty))) x4)))
def j8 (x3 : ByteArray) (k : ByteArray → Prop) : Prop :=
  (k x3)
def j4 (ag3 : ByteArray → Int → Prop) (x0 : (List ByteArray)) (x3 : ByteArray) (x4 : Int) (k : ByteArray → Prop) : Prop :=
  (ag3 x3 (IntKind.i64.wrap (x4 + (1 : Int))))
def c (l3 : (List ByteArray) → ByteArray → Int → Prop) (x0 : (List ByteArray)) (k : ByteArray → Prop) : Prop :=
  (l3 x0 (ByteArray.mk #[]) (0 : Int))
def j8' (x3 : ByteArray) (k : ByteArray → Prop) : Prop := j8 x3 k
def j4' (ag3 : ByteArray → Int → Prop) (x0 : (List ByteArray)) (x3 : ByteArray) (x4 : Int) (k : ByteArray → Prop) : Prop := j4 ag3 x0 x3 x4 k
def j7' (ag3 : ByteArray → Int → Prop) (x0 : (List ByteArray)) (x3 : ByteArray) (x4 : Int) (k : ByteArray → Prop) : Prop := j7 (fun x0 x3 x4 => j4' ag3 x0 x3 x4 k) x0 x3 x4 k
def l3' (x0 : (List ByteArray)) (x3 : ByteArray) (x4 : Int) (k : ByteArray → Prop) : Prop := ∃ n, loopS (fun (ag : (ByteArray × Int) → Prop) (s : ByteArray × Int) => l3 (fun x0 x3 x4 => j7' (fun x3 x4 => ag (x3, x4)) x0 x3 x4 k) (fun x3 => j8' x3 k) x0 s.1 s.2 k) n (x3, x4)
def f0 (x0 : (List ByteArray)) (k : ByteArray → Prop) : Prop := c (fun x0 x3 x4 => l3' x0 x3 x4 k) x0 k
theorem f_ex : ∃ g : (List ByteArray) → (ByteArray → Prop) → Prop, g = f0 := ⟨_, rfl⟩
noncomputable def f : (List ByteArray) → (ByteArray → Prop) → Prop := Classical.choose f_ex
theorem f_def : f = f0 := Classical.choose_spec f_ex
def mL3 (x0 : (List ByteArray)) (x3 : ByteArray) (x4 : Int) : St := { tmps := mkT 22 0 [(0, (.fz Ty.str x0)), (3, (.v (.string x3))), (4, (.v (.int IntKind.i64 x4)))], hp := [], m := 0 }
def m7 (x0 : (List ByteArray)) (x3 : ByteArray) (x4 : Int) : St := { tmps := mkT 22 0 [(0, (.fz Ty.str x0)), (3, (.v (.string x3))), (4, (.v (.int IntKind.i64 x4)))], hp := [], m := 0 }
def m8 (x3 : ByteArray) : St := { tmps := mkT 22 0 [(3, (.v (.string x3)))], hp := [], m := 0 }
def m4 (x0 : (List ByteArray)) (x3 : ByteArray) (x4 : Int) : St := { tmps := mkT 22 0 [(0, (.fz Ty.str x0)), (3, (.v (.string x3))), (4, (.v (.int IntKind.i64 x4)))], hp := [], m := 0 }
noncomputable def YL3 (k kp : D → List Blk → Prop) : (St → Prop) → St → Prop := loopB cfg (sub [1, 1, 0, 1, 0, 0] body) (contK cfg (pick none' []) [1, 1, 0, 1, 0] body (topK cfg Try.f32 k kp))
noncomputable def XL3 (k kp : D → List Blk → Prop) : St → Prop := fun st => ∃ n, loopN (YL3 k kp) n st
noncomputable def X7 (k kp : D → List Blk → Prop) (ag3 : St → Prop) : St → Prop := atP cfg (pick none' [(3, ag3)]) [1, 1, 0, 1, 0, 0, 1, 0, 0, 1] body (topK cfg Try.f32 k kp)
noncomputable def X8 (k kp : D → List Blk → Prop) : St → Prop := atP cfg (pick none' []) [1, 1, 1] body (topK cfg Try.f32 k kp)
noncomputable def X4 (k kp : D → List Blk → Prop) (ag3 : St → Prop) : St → Prop := atP cfg (pick none' [(3, ag3)]) [1, 1, 0, 1, 0, 0, 1, 1] body (topK cfg Try.f32 k kp)
noncomputable def JJ_3 (k kp : D → List Blk → Prop) (ag3 : St → Prop) : Nat → St → Prop := pick none' [(7, X7 k kp ag3), (8, X8 k kp), (4, X4 k kp ag3)]
noncomputable def LL_3 (k kp : D → List Blk → Prop) (ag3 : St → Prop) : Nat → St → Prop := pick none' [(3, XL3 k kp)]
noncomputable def JJ (k kp : D → List Blk → Prop) : Nat → St → Prop := pick none' [(8, X8 k kp)]
noncomputable def LL (k kp : D → List Blk → Prop) : Nat → St → Prop := pick none' [(3, XL3 k kp)]
theorem j8_c (k kp : D → List Blk → Prop) (J L : Nat → St → Prop) (x3 : ByteArray) : runC cfg 8 J L (pick none' []) [1, 1, 1] body (topK cfg Try.f32 k kp) (m8 x3) = j8 x3 (fun y0 => k (.v (.string y0)) []) := by kernel_rfl
theorem j8_ag (k kp : D → List Blk → Prop) : agPL cfg 8 (JJ k kp) (LL k kp) [1, 1, 1] body = agPR cfg 8 (pick none' []) [1, 1, 1] body (topK cfg Try.f32 k kp) := by kernel_rfl
theorem j8_raw (k kp : D → List Blk → Prop) (x3 : ByteArray) : X8 k kp (m8 x3) = j8 x3 (fun y0 => k (.v (.string y0)) []) :=
  Eq.mp (by kernel_rfl) ((atP_run (j8_ag k kp) (m8 x3)).trans (j8_c k kp (JJ k kp) (LL k kp) x3))
theorem j8_eq (k kp : D → List Blk → Prop) (x3 : ByteArray) : X8 k kp (m8 x3) = j8' x3 (fun y0 => k (.v (.string y0)) []) := by
  rw [j8_raw]; rfl
theorem j4_c (k kp : D → List Blk → Prop) (J L : Nat → St → Prop) (ag3 : St → Prop) (x0 : (List ByteArray)) (x3 : ByteArray) (x4 : Int) : runC cfg 4 J L (pick none' [(3, ag3)]) [1, 1, 0, 1, 0, 0, 1, 1] body (topK cfg Try.f32 k kp) (m4 x0 x3 x4) = j4 (fun x3 x4 => ag3 (mL3 x0 x3 x4)) x0 x3 x4 (fun y0 => k (.v (.string y0)) []) := by kernel_rfl
theorem j4_ag (k kp : D → List Blk → Prop) (ag3 : St → Prop) : agPL cfg 4 (JJ_3 k kp ag3) (LL_3 k kp ag3) [1, 1, 0, 1, 0, 0, 1, 1] body = agPR cfg 4 (pick none' [(3, ag3)]) [1, 1, 0, 1, 0, 0, 1, 1] body (topK cfg Try.f32 k kp) := by kernel_rfl
theorem j4_raw (k kp : D → List Blk → Prop) (ag3 : St → Prop) (x0 : (List ByteArray)) (x3 : ByteArray) (x4 : Int) : X4 k kp ag3 (m4 x0 x3 x4) = j4 (fun x3 x4 => ag3 (mL3 x0 x3 x4)) x0 x3 x4 (fun y0 => k (.v (.string y0)) []) :=
  Eq.mp (by kernel_rfl) ((atP_run (j4_ag k kp ag3) (m4 x0 x3 x4)).trans (j4_c k kp (JJ_3 k kp ag3) (LL_3 k kp ag3) ag3 x0 x3 x4))
theorem j4_eq (k kp : D → List Blk → Prop) (ag3 : St → Prop) (x0 : (List ByteArray)) (x3 : ByteArray) (x4 : Int) : X4 k kp ag3 (m4 x0 x3 x4) = j4' (fun x3 x4 => ag3 (mL3 x0 x3 x4)) x0 x3 x4 (fun y0 => k (.v (.string y0)) []) := by
  rw [j4_raw]; rfl
theorem j7_c (k kp : D → List Blk → Prop) (J L : Nat → St → Prop) (ag3 : St → Prop) (x0 : (List ByteArray)) (x3 : ByteArray) (x4 : Int) : runC cfg 7 J L (pick none' [(3, ag3)]) [1, 1, 0, 1, 0, 0, 1, 0, 0, 1] body (topK cfg Try.f32 k kp) (m7 x0 x3 x4) = j7 (fun x0 x3 x4 => J 4 (m4 x0 x3 x4)) x0 x3 x4 (fun y0 => k (.v (.string y0)) []) := by kernel_rfl
theorem j7_ag (k kp : D → List Blk → Prop) (ag3 : St → Prop) : agPL cfg 7 (JJ_3 k kp ag3) (LL_3 k kp ag3) [1, 1, 0, 1, 0, 0, 1, 0, 0, 1] body = agPR cfg 7 (pick none' [(3, ag3)]) [1, 1, 0, 1, 0, 0, 1, 0, 0, 1] body (topK cfg Try.f32 k kp) := by kernel_rfl
theorem j7_raw (k kp : D → List Blk → Prop) (ag3 : St → Prop) (x0 : (List ByteArray)) (x3 : ByteArray) (x4 : Int) : X7 k kp ag3 (m7 x0 x3 x4) = j7 (fun x0 x3 x4 => X4 k kp ag3 (m4 x0 x3 x4)) x0 x3 x4 (fun y0 => k (.v (.string y0)) []) :=
  Eq.mp (by kernel_rfl) ((atP_run (j7_ag k kp ag3) (m7 x0 x3 x4)).trans (j7_c k kp (JJ_3 k kp ag3) (LL_3 k kp ag3) ag3 x0 x3 x4))
theorem j7_eq (k kp : D → List Blk → Prop) (ag3 : St → Prop) (x0 : (List ByteArray)) (x3 : ByteArray) (x4 : Int) : X7 k kp ag3 (m7 x0 x3 x4) = j7' (fun x3 x4 => ag3 (mL3 x0 x3 x4)) x0 x3 x4 (fun y0 => k (.v (.string y0)) []) := by
  rw [j7_raw]; simp only [j4_eq]; first | done | rfl
theorem l3_c (k kp : D → List Blk → Prop) (J L : Nat → St → Prop) (ag3 : St → Prop) (x0 : (List ByteArray)) (x3 : ByteArray) (x4 : Int) : runC cfg 1000001 J L (pick none' [(3, ag3)]) [1, 1, 0, 1, 0, 0] body (topK cfg Try.f32 k kp) (mL3 x0 x3 x4) = l3 (fun x0 x3 x4 => J 7 (m7 x0 x3 x4)) (fun x3 => J 8 (m8 x3)) x0 x3 x4 (fun y0 => k (.v (.string y0)) []) := by kernel_rfl
theorem l3_ag (k kp : D → List Blk → Prop) (ag3 : St → Prop) : agPL cfg 1000001 (JJ_3 k kp ag3) (LL_3 k kp ag3) [1, 1, 0, 1, 0, 0] body = agPR cfg 1000001 (pick none' [(3, ag3)]) [1, 1, 0, 1, 0, 0] body (topK cfg Try.f32 k kp) := by kernel_rfl
theorem l3_raw (k kp : D → List Blk → Prop) (ag3 : St → Prop) (x0 : (List ByteArray)) (x3 : ByteArray) (x4 : Int) : YL3 k kp ag3 (mL3 x0 x3 x4) = l3 (fun x0 x3 x4 => X7 k kp ag3 (m7 x0 x3 x4)) (fun x3 => X8 k kp (m8 x3)) x0 x3 x4 (fun y0 => k (.v (.string y0)) []) :=
  Eq.mp (by kernel_rfl) ((atP_run (l3_ag k kp ag3) (mL3 x0 x3 x4)).trans (l3_c k kp (JJ_3 k kp ag3) (LL_3 k kp ag3) ag3 x0 x3 x4))
theorem l3_eq (k kp : D → List Blk → Prop) (x0 : (List ByteArray)) (x3 : ByteArray) (x4 : Int) : XL3 k kp (mL3 x0 x3 x4) = l3' x0 x3 x4 (fun y0 => k (.v (.string y0)) []) :=
  loop_eq (mk := fun (s : ByteArray × Int) => mL3 x0 s.1 s.2) (fun again s => by rw [l3_raw k kp again x0 s.1 s.2]; simp only [j7_eq, j8_eq]; first | done | rfl) (x3, x4)
theorem c_c (k kp : D → List Blk → Prop) (J L : Nat → St → Prop) (x0 : (List ByteArray)) : runC cfg 1000001 J L none'' [] body (topK cfg Try.f32 k kp) (st0 Try.f32 [(.fz Ty.str x0)] []) = c (fun x0 x3 x4 => L 3 (mL3 x0 x3 x4)) x0 (fun y0 => k (.v (.string y0)) []) := by kernel_rfl
theorem c_ag (k kp : D → List Blk → Prop) : agPL cfg 1000001 (JJ k kp) (LL k kp) [] body = agPR cfg 1000001 none'' [] body (topK cfg Try.f32 k kp) := by kernel_rfl
theorem body_is : Try.f32.body = some body := by kernel_rfl
theorem c_raw (k kp : D → List Blk → Prop) (x0 : (List ByteArray)) : funW cfg Try.f32 [(.fz Ty.str x0)] [] k kp = c (fun x0 x3 x4 => XL3 k kp (mL3 x0 x3 x4)) x0 (fun y0 => k (.v (.string y0)) []) :=
  Eq.mp (by kernel_rfl) ((funW_run (AG := none'') body_is (c_ag k kp) [(.fz Ty.str x0)] []).trans (c_c k kp (JJ k kp) (LL k kp) x0))
theorem f_eq (k kp : D → List Blk → Prop) (x0 : (List ByteArray)) : funW cfg Try.f32 [(.fz Ty.str x0)] [] k kp = f x0 (fun y0 => k (.v (.string y0)) []) := by
  rw [f_def, c_raw]; simp only [l3_eq]; first | done | rfl
noncomputable def ent0 : Entry := fun args blks k _ => match args, blks with
  | [d0], [] => aFz Ty.str d0 fun x0 => f x0 (fun y0 => k (.v (.string y0)) [])
  | _, _ => False
noncomputable def ent : Entry := fun args blks k kp => ent0 (convB [.one Ty.str] args) blks k kp
theorem ok : EntOk Try.prog 0 0 32 ent := by
  refine EntOk.convB (EntOk.of (funW_ok (cfg := cfg) (tyOk_of rfl rfl tyL_ok) (eqOk_of (P := Try.prog) rfl rfl (by kernel_rfl)) mixed_ok (tab_ok ?_) Try.func32 (by rfl) (by rfl)) ?_) _
  · intro p hp
    cases hp
  · intro args blks k kp h k' kp'
    match args, blks, h with
    | [d0], [], h =>
    dsimp only [ent0] at h
    have h9 := aFz_elim (t := Ty.str) h; clear h; obtain ⟨x0, rfl, h⟩ := h9
    exact (f_eq k' kp' x0).symm
end N32
end Go.Proofs.Yc
namespace Go.Proofs.Yc
open Go Go.Aw Go.Proofs
set_option linter.unusedVariables false
set_option linter.unusedSimpArgs false
set_option maxRecDepth 100000
/-! dyehouse/dyehouseref14.operands -/
namespace N33
noncomputable def cfg : Cfg := { P := Try.prog, ty := tys, E := tab [(15, N15.ent)], atSeq := tab [(6, ⟨[(3, .keep)]⟩)], atLoop := tab [(3, ⟨[(0, .keep), (3, .own 9 Ty.str), (4, .keep)]⟩)], outs := [], eqT := tab [], bT := tab [] }
noncomputable def body : Code := bodyOf Try.f33
def l3 (j6 : (List ByteArray) → Prop) (ag3 : Int → (List ByteArray) → Prop) (x0 : (List (Int × (Int × (Int × Int))))) (x4 : Int) (b0 : (List ByteArray)) (k : (List ByteArray) → Prop) : Prop :=
  (br (decide (x4 < ((((x0).length : Nat) : Int)))) ((inB 0 x4 ((((x0).length : Nat) : Int) - 1)) ∧ (N15.f (x0.getD (Int.toNat x4) ((0, (0, (0, 0))))).1 (x0.getD (Int.toNat x4) ((0, (0, (0, 0))))).2.1 (x0.getD (Int.toNat x4) ((0, (0, (0, 0))))).2.2.1 (x0.getD (Int.toNat x4) ((0, (0, (0, 0))))).2.2.2 (fun (y0_0 : ByteArray) => ((room ((b0).length + (([y0_0] : List ByteArray)).length) 16) ∧ (ag3 (IntKind.i64.wrap (x4 + (1 : Int))) (b0 ++ ([y0_0] : List ByteArray))))))) (j6 b0))
def j6 (b0 : (List ByteArray)) (k : (List ByteArray) → Prop) : Prop :=
  (k b0)
def c (l3 : (List (Int × (Int × (Int × Int)))) → Int → (List ByteArray) → Prop) (x0 : (List (Int × (Int × (Int × Int))))) (k : (List ByteArray) → Prop) : Prop :=
  (l3 x0 (0 : Int) ([] : List ByteArray))
def j6' (b0 : (List ByteArray)) (k : (List ByteArray) → Prop) : Prop := j6 b0 k
def l3' (x0 : (List (Int × (Int × (Int × Int))))) (x4 : Int) (b0 : (List ByteArray)) (k : (List ByteArray) → Prop) : Prop := ∃ n, loopS (fun (ag : (Int × (List ByteArray)) → Prop) (s : Int × (List ByteArray)) => l3 (fun b0 => j6' b0 k) (fun x4 b0 => ag (x4, b0)) x0 s.1 s.2 k) n (x4, b0)
def f0 (x0 : (List (Int × (Int × (Int × Int))))) (k : (List ByteArray) → Prop) : Prop := c (fun x0 x4 b0 => l3' x0 x4 b0 k) x0 k
theorem f_ex : ∃ g : (List (Int × (Int × (Int × Int)))) → ((List ByteArray) → Prop) → Prop, g = f0 := ⟨_, rfl⟩
noncomputable def f : (List (Int × (Int × (Int × Int)))) → ((List ByteArray) → Prop) → Prop := Classical.choose f_ex
theorem f_def : f = f0 := Classical.choose_spec f_ex
def mL3 (x0 : (List (Int × (Int × (Int × Int))))) (x4 : Int) (b0 : (List ByteArray)) : St := { tmps := mkT 20 0 [(0, (.fz (Ty.pair (Ty.int IntKind.i64) (Ty.pair (Ty.int IntKind.i64) (Ty.pair (Ty.int IntKind.i64) (Ty.int IntKind.i64)))) x0)), (3, (.sl 0 0)), (4, (.v (.int IntKind.i64 x4)))], hp := [(.lst 9 Ty.str b0 0 false)], m := 0 }
def m6 (b0 : (List ByteArray)) : St := { tmps := mkT 20 0 [(3, (.sl 0 0))], hp := [(.lst 9 Ty.str b0 0 false)], m := 0 }
noncomputable def YL3 (k kp : D → List Blk → Prop) : (St → Prop) → St → Prop := loopB cfg (sub [1, 1, 0, 1, 0, 0] body) (contK cfg (pick none' []) [1, 1, 0, 1, 0] body (topK cfg Try.f33 k kp))
noncomputable def XL3 (k kp : D → List Blk → Prop) : St → Prop := fun st => ∃ n, loopN (YL3 k kp) n st
noncomputable def X6 (k kp : D → List Blk → Prop) : St → Prop := atP cfg (pick none' []) [1, 1, 1] body (topK cfg Try.f33 k kp)
noncomputable def JJ_3 (k kp : D → List Blk → Prop) (ag3 : St → Prop) : Nat → St → Prop := pick none' [(6, X6 k kp)]
noncomputable def LL_3 (k kp : D → List Blk → Prop) (ag3 : St → Prop) : Nat → St → Prop := pick none' [(3, XL3 k kp)]
noncomputable def JJ (k kp : D → List Blk → Prop) : Nat → St → Prop := pick none' [(6, X6 k kp)]
noncomputable def LL (k kp : D → List Blk → Prop) : Nat → St → Prop := pick none' [(3, XL3 k kp)]
theorem j6_c (k kp : D → List Blk → Prop) (J L : Nat → St → Prop) (b0 : (List ByteArray)) : runC cfg 6 J L (pick none' []) [1, 1, 1] body (topK cfg Try.f33 k kp) (m6 b0) = j6 b0 (fun z0 => k (.sl 0 0) [(.lst 9 Ty.str z0 0 false)]) := by kernel_rfl
theorem j6_ag (k kp : D → List Blk → Prop) : agPL cfg 6 (JJ k kp) (LL k kp) [1, 1, 1] body = agPR cfg 6 (pick none' []) [1, 1, 1] body (topK cfg Try.f33 k kp) := by kernel_rfl
theorem j6_raw (k kp : D → List Blk → Prop) (b0 : (List ByteArray)) : X6 k kp (m6 b0) = j6 b0 (fun z0 => k (.sl 0 0) [(.lst 9 Ty.str z0 0 false)]) :=
  Eq.mp (by kernel_rfl) ((atP_run (j6_ag k kp) (m6 b0)).trans (j6_c k kp (JJ k kp) (LL k kp) b0))
theorem j6_eq (k kp : D → List Blk → Prop) (b0 : (List ByteArray)) : X6 k kp (m6 b0) = j6' b0 (fun z0 => k (.sl 0 0) [(.lst 9 Ty.str z0 0 false)]) := by
  rw [j6_raw]; rfl
theorem l3_c (k kp : D → List Blk → Prop) (J L : Nat → St → Prop) (ag3 : St → Prop) (x0 : (List (Int × (Int × (Int × Int))))) (x4 : Int) (b0 : (List ByteArray)) : runC cfg 1000001 J L (pick none' [(3, ag3)]) [1, 1, 0, 1, 0, 0] body (topK cfg Try.f33 k kp) (mL3 x0 x4 b0) = l3 (fun b0 => J 6 (m6 b0)) (fun x4 b0 => ag3 (mL3 x0 x4 b0)) x0 x4 b0 (fun z0 => k (.sl 0 0) [(.lst 9 Ty.str z0 0 false)]) := by kernel_rfl
theorem l3_ag (k kp : D → List Blk → Prop) (ag3 : St → Prop) : agPL cfg 1000001 (JJ_3 k kp ag3) (LL_3 k kp ag3) [1, 1, 0, 1, 0, 0] body = agPR cfg 1000001 (pick none' [(3, ag3)]) [1, 1, 0, 1, 0, 0] body (topK cfg Try.f33 k kp) := by kernel_rfl
theorem l3_raw (k kp : D → List Blk → Prop) (ag3 : St → Prop) (x0 : (List (Int × (Int × (Int × Int))))) (x4 : Int) (b0 : (List ByteArray)) : YL3 k kp ag3 (mL3 x0 x4 b0) = l3 (fun b0 => X6 k kp (m6 b0)) (fun x4 b0 => ag3 (mL3 x0 x4 b0)) x0 x4 b0 (fun z0 => k (.sl 0 0) [(.lst 9 Ty.str z0 0 false)]) :=
  Eq.mp (by kernel_rfl) ((atP_run (l3_ag k kp ag3) (mL3 x0 x4 b0)).trans (l3_c k kp (JJ_3 k kp ag3) (LL_3 k kp ag3) ag3 x0 x4 b0))
theorem l3_eq (k kp : D → List Blk → Prop) (x0 : (List (Int × (Int × (Int × Int))))) (x4 : Int) (b0 : (List ByteArray)) : XL3 k kp (mL3 x0 x4 b0) = l3' x0 x4 b0 (fun z0 => k (.sl 0 0) [(.lst 9 Ty.str z0 0 false)]) :=
  loop_eq (mk := fun (s : Int × (List ByteArray)) => mL3 x0 s.1 s.2) (fun again s => by rw [l3_raw k kp again x0 s.1 s.2]; simp only [j6_eq]; first | done | rfl) (x4, b0)
theorem c_c (k kp : D → List Blk → Prop) (J L : Nat → St → Prop) (x0 : (List (Int × (Int × (Int × Int))))) : runC cfg 1000001 J L none'' [] body (topK cfg Try.f33 k kp) (st0 Try.f33 [(.fz (Ty.pair (Ty.int IntKind.i64) (Ty.pair (Ty.int IntKind.i64) (Ty.pair (Ty.int IntKind.i64) (Ty.int IntKind.i64)))) x0)] []) = c (fun x0 x4 b0 => L 3 (mL3 x0 x4 b0)) x0 (fun z0 => k (.sl 0 0) [(.lst 9 Ty.str z0 0 false)]) := by kernel_rfl
theorem c_ag (k kp : D → List Blk → Prop) : agPL cfg 1000001 (JJ k kp) (LL k kp) [] body = agPR cfg 1000001 none'' [] body (topK cfg Try.f33 k kp) := by kernel_rfl
theorem body_is : Try.f33.body = some body := by kernel_rfl
theorem c_raw (k kp : D → List Blk → Prop) (x0 : (List (Int × (Int × (Int × Int))))) : funW cfg Try.f33 [(.fz (Ty.pair (Ty.int IntKind.i64) (Ty.pair (Ty.int IntKind.i64) (Ty.pair (Ty.int IntKind.i64) (Ty.int IntKind.i64)))) x0)] [] k kp = c (fun x0 x4 b0 => XL3 k kp (mL3 x0 x4 b0)) x0 (fun z0 => k (.sl 0 0) [(.lst 9 Ty.str z0 0 false)]) :=
  Eq.mp (by kernel_rfl) ((funW_run (AG := none'') body_is (c_ag k kp) [(.fz (Ty.pair (Ty.int IntKind.i64) (Ty.pair (Ty.int IntKind.i64) (Ty.pair (Ty.int IntKind.i64) (Ty.int IntKind.i64)))) x0)] []).trans (c_c k kp (JJ k kp) (LL k kp) x0))
theorem f_eq (k kp : D → List Blk → Prop) (x0 : (List (Int × (Int × (Int × Int))))) : funW cfg Try.f33 [(.fz (Ty.pair (Ty.int IntKind.i64) (Ty.pair (Ty.int IntKind.i64) (Ty.pair (Ty.int IntKind.i64) (Ty.int IntKind.i64)))) x0)] [] k kp = f x0 (fun z0 => k (.sl 0 0) [(.lst 9 Ty.str z0 0 false)]) := by
  rw [f_def, c_raw]; simp only [l3_eq]; first | done | rfl
noncomputable def ent0 : Entry := fun args blks k _ => match args, blks with
  | [d0], [] => aFz (Ty.pair (Ty.int IntKind.i64) (Ty.pair (Ty.int IntKind.i64) (Ty.pair (Ty.int IntKind.i64) (Ty.int IntKind.i64)))) d0 fun x0 => f x0 (fun z0 => k (.sl 0 0) [(.lst 9 Ty.str z0 0 false)])
  | _, _ => False
noncomputable def ent : Entry := fun args blks k kp => ent0 (convB [.one (Ty.pair (Ty.int IntKind.i64) (Ty.pair (Ty.int IntKind.i64) (Ty.pair (Ty.int IntKind.i64) (Ty.int IntKind.i64))))] args) blks k kp
theorem ok : EntOk Try.prog 0 0 33 ent := by
  refine EntOk.convB (EntOk.of (funW_ok (cfg := cfg) (tyOk_of rfl rfl tyL_ok) (eqOk_of (P := Try.prog) rfl rfl (by kernel_rfl)) mixed_ok (tab_ok ?_) Try.func33 (by rfl) (by rfl)) ?_) _
  · intro p hp
    simp only [List.mem_cons, List.not_mem_nil, or_false] at hp
    rcases hp with rfl
    · exact N15.ok
  · intro args blks k kp h k' kp'
    match args, blks, h with
    | [d0], [], h =>
    dsimp only [ent0] at h
    have h9 := aFz_elim (t := (Ty.pair (Ty.int IntKind.i64) (Ty.pair (Ty.int IntKind.i64) (Ty.pair (Ty.int IntKind.i64) (Ty.int IntKind.i64))))) h; clear h; obtain ⟨x0, rfl, h⟩ := h9
    exact (f_eq k' kp' x0).symm
end N33
end Go.Proofs.Yc
