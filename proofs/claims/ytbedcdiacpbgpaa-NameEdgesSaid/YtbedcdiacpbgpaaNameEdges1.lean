/- For all texts a, b, c and d the law NameEdges returns true: no further conditions. -/
import Derived.Test.YtbedcdiacpbgpaaNameEdges0
import Derived.Test.YtbedcdiacpbgpaaRows
import Derived.Test.YtbedcdiacpbgpaaT1
import Derived.WalkKit
import Derived.ProofKit
import Derived.OpenShut
import Derived.ShutString
import Derived.ChangeOld
import Derived.Below
import Derived.SizedLaws
namespace Go.Proofs.Yt
open Go Go.Aw Go.Proofs
set_option linter.unusedVariables false
set_option linter.unusedSimpArgs false
set_option maxRecDepth 100000
/-! dyehouse/name.Fresh -/
namespace N23
noncomputable def cfg : Cfg := { P := Try.prog, ty := tys, E := tab [(47, N47.ent), (18, N18.ent), (46, N46.ent)], atSeq := tab [(11, ⟨[]⟩)], atLoop := tab [(3, ⟨[(0, .keep), (5, .keep), (11, .keep), (12, .keep)]⟩)], outs := [] }
noncomputable def body : Code := bodyOf Try.f23
def l3 (j11 : Prop) (ag3 : Int → (List ByteArray) → Prop) (x0 : ByteArray) (x11 : Int) (x12 : Int) (b0_0 : (List ByteArray)) (k : ByteArray → Prop) : Prop :=
  (br (decide (x12 < x11)) (N47.f x12 (fun (y0_0 : ByteArray) => (((x0).size + (y0_0).size ≤ 9223372036854775807) ∧ (N18.f (x0 ++ y0_0) (fun (y0_1 : Bool) => (br (!y0_1) (k (ByteArray.mk #[])) (N46.f (x0 ++ y0_0) b0_0 (fun (y0_2 : Bool) (z0_0_2 : (List ByteArray)) => (br (!y0_2) (k (x0 ++ y0_0)) (ag3 (IntKind.i64.wrap (x12 + (1 : Int))) z0_0_2)))))))))) (j11))
def j11 (k : ByteArray → Prop) : Prop :=
  (k (ByteArray.mk #[]))
def c (l3 : ByteArray → Int → Int → (List ByteArray) → Prop) (x0 : ByteArray) (x1 : (List ByteArray)) (k : ByteArray → Prop) : Prop :=
  (l3 x0 (IntKind.i64.wrap (((((x1).length : Nat) : Int)) + (1 : Int))) (0 : Int) x1)
def j11' (k : ByteArray → Prop) : Prop := j11 k
def l3' (x0 : ByteArray) (x11 : Int) (x12 : Int) (b0_0 : (List ByteArray)) (k : ByteArray → Prop) : Prop := ∃ n, loopS (fun (ag : (Int × (List ByteArray)) → Prop) (s : Int × (List ByteArray)) => l3 (j11' k) (fun x12 b0_0 => ag (x12, b0_0)) x0 x11 s.1 s.2 k) n (x12, b0_0)
def f0 (x0 : ByteArray) (x1 : (List ByteArray)) (k : ByteArray → Prop) : Prop := c (fun x0 x11 x12 b0_0 => l3' x0 x11 x12 b0_0 k) x0 x1 k
theorem f_ex : ∃ g : ByteArray → (List ByteArray) → (ByteArray → Prop) → Prop, g = f0 := ⟨_, rfl⟩
noncomputable def f : ByteArray → (List ByteArray) → (ByteArray → Prop) → Prop := Classical.choose f_ex
theorem f_def : f = f0 := Classical.choose_spec f_ex
def mL3 (x0 : ByteArray) (x11 : Int) (x12 : Int) (b0_0 : (List ByteArray)) : St := { tmps := mkT 28 0 [(0, (.v (.string x0))), (5, (.clo 46 [] [(.ptr 0 0)])), (11, (.v (.int IntKind.i64 x11))), (12, (.v (.int IntKind.i64 x12)))], hp := [(.box 31 [(.fz Ty.str b0_0)])], m := 0 }
def m11 : St := { tmps := mkT 28 0 [], hp := [], m := 0 }
noncomputable def YL3 (k kp : D → List Blk → Prop) : (St → Prop) → St → Prop := loopB cfg (sub [1, 1, 0, 1, 0, 0] body) (contK cfg (pick none' []) [1, 1, 0, 1, 0] body (topK cfg Try.f23 k kp))
noncomputable def XL3 (k kp : D → List Blk → Prop) : St → Prop := fun st => ∃ n, loopN (YL3 k kp) n st
noncomputable def X11 (k kp : D → List Blk → Prop) : St → Prop := atP cfg (pick none' []) [1, 1, 1] body (topK cfg Try.f23 k kp)
noncomputable def JJ_3 (k kp : D → List Blk → Prop) (ag3 : St → Prop) : Nat → St → Prop := pick none' [(11, X11 k kp)]
noncomputable def LL_3 (k kp : D → List Blk → Prop) (ag3 : St → Prop) : Nat → St → Prop := pick none' [(3, XL3 k kp)]
noncomputable def JJ (k kp : D → List Blk → Prop) : Nat → St → Prop := pick none' [(11, X11 k kp)]
noncomputable def LL (k kp : D → List Blk → Prop) : Nat → St → Prop := pick none' [(3, XL3 k kp)]
theorem j11_c (k kp : D → List Blk → Prop) (J L : Nat → St → Prop) : runC cfg 11 J L (pick none' []) [1, 1, 1] body (topK cfg Try.f23 k kp) (m11) = j11 (fun y0 => k (.v (.string y0)) []) := by kernel_rfl
theorem j11_ag (k kp : D → List Blk → Prop) : agPL cfg 11 (JJ k kp) (LL k kp) [1, 1, 1] body = agPR cfg 11 (pick none' []) [1, 1, 1] body (topK cfg Try.f23 k kp) := by kernel_rfl
theorem j11_raw (k kp : D → List Blk → Prop) : X11 k kp (m11) = j11 (fun y0 => k (.v (.string y0)) []) :=
  Eq.mp (by kernel_rfl) ((atP_run (j11_ag k kp) (m11)).trans (j11_c k kp (JJ k kp) (LL k kp)))
theorem j11_eq (k kp : D → List Blk → Prop) : X11 k kp (m11) = j11' (fun y0 => k (.v (.string y0)) []) := by
  rw [j11_raw]; rfl
theorem l3_c (k kp : D → List Blk → Prop) (J L : Nat → St → Prop) (ag3 : St → Prop) (x0 : ByteArray) (x11 : Int) (x12 : Int) (b0_0 : (List ByteArray)) : runC cfg 1000001 J L (pick none' [(3, ag3)]) [1, 1, 0, 1, 0, 0] body (topK cfg Try.f23 k kp) (mL3 x0 x11 x12 b0_0) = l3 (J 11 (m11)) (fun x12 b0_0 => ag3 (mL3 x0 x11 x12 b0_0)) x0 x11 x12 b0_0 (fun y0 => k (.v (.string y0)) []) := by kernel_rfl
theorem l3_ag (k kp : D → List Blk → Prop) (ag3 : St → Prop) : agPL cfg 1000001 (JJ_3 k kp ag3) (LL_3 k kp ag3) [1, 1, 0, 1, 0, 0] body = agPR cfg 1000001 (pick none' [(3, ag3)]) [1, 1, 0, 1, 0, 0] body (topK cfg Try.f23 k kp) := by kernel_rfl
theorem l3_raw (k kp : D → List Blk → Prop) (ag3 : St → Prop) (x0 : ByteArray) (x11 : Int) (x12 : Int) (b0_0 : (List ByteArray)) : YL3 k kp ag3 (mL3 x0 x11 x12 b0_0) = l3 (X11 k kp (m11)) (fun x12 b0_0 => ag3 (mL3 x0 x11 x12 b0_0)) x0 x11 x12 b0_0 (fun y0 => k (.v (.string y0)) []) :=
  Eq.mp (by kernel_rfl) ((atP_run (l3_ag k kp ag3) (mL3 x0 x11 x12 b0_0)).trans (l3_c k kp (JJ_3 k kp ag3) (LL_3 k kp ag3) ag3 x0 x11 x12 b0_0))
theorem l3_eq (k kp : D → List Blk → Prop) (x0 : ByteArray) (x11 : Int) (x12 : Int) (b0_0 : (List ByteArray)) : XL3 k kp (mL3 x0 x11 x12 b0_0) = l3' x0 x11 x12 b0_0 (fun y0 => k (.v (.string y0)) []) :=
  loop_eq (mk := fun (s : Int × (List ByteArray)) => mL3 x0 x11 s.1 s.2) (fun again s => by rw [l3_raw k kp again x0 x11 s.1 s.2]; simp only [j11_eq]; first | done | rfl) (x12, b0_0)
theorem c_c (k kp : D → List Blk → Prop) (J L : Nat → St → Prop) (x0 : ByteArray) (x1 : (List ByteArray)) : runC cfg 1000001 J L none'' [] body (topK cfg Try.f23 k kp) (st0 Try.f23 [(.v (.string x0)), (.fz Ty.str x1)] []) = c (fun x0 x11 x12 b0_0 => L 3 (mL3 x0 x11 x12 b0_0)) x0 x1 (fun y0 => k (.v (.string y0)) []) := by kernel_rfl
theorem c_ag (k kp : D → List Blk → Prop) : agPL cfg 1000001 (JJ k kp) (LL k kp) [] body = agPR cfg 1000001 none'' [] body (topK cfg Try.f23 k kp) := by kernel_rfl
theorem body_is : Try.f23.body = some body := by kernel_rfl
theorem c_raw (k kp : D → List Blk → Prop) (x0 : ByteArray) (x1 : (List ByteArray)) : funW cfg Try.f23 [(.v (.string x0)), (.fz Ty.str x1)] [] k kp = c (fun x0 x11 x12 b0_0 => XL3 k kp (mL3 x0 x11 x12 b0_0)) x0 x1 (fun y0 => k (.v (.string y0)) []) :=
  Eq.mp (by kernel_rfl) ((funW_run (AG := none'') body_is (c_ag k kp) [(.v (.string x0)), (.fz Ty.str x1)] []).trans (c_c k kp (JJ k kp) (LL k kp) x0 x1))
theorem f_eq (k kp : D → List Blk → Prop) (x0 : ByteArray) (x1 : (List ByteArray)) : funW cfg Try.f23 [(.v (.string x0)), (.fz Ty.str x1)] [] k kp = f x0 x1 (fun y0 => k (.v (.string y0)) []) := by
  rw [f_def, c_raw]; simp only [l3_eq]; first | done | rfl
noncomputable def ent0 : Entry := fun args blks k _ => match args, blks with
  | [d0, d1], [] => aStr d0 fun x0 => aFz Ty.str d1 fun x1 => f x0 x1 (fun y0 => k (.v (.string y0)) [])
  | _, _ => False
noncomputable def ent : Entry := fun args blks k kp => ent0 (convA [none, some Ty.str] args) blks k kp
theorem ok : EntOk Try.prog 0 0 23 ent := by
  refine EntOk.conv (EntOk.of (funW_ok (cfg := cfg) (tyOk_of rfl rfl tyL_ok) (eqOk_none rfl) mixed_ok (tab_ok ?_) Try.func23 (by rfl) (by rfl)) ?_) _
  · intro p hp
    simp only [List.mem_cons, List.not_mem_nil, or_false] at hp
    rcases hp with rfl | rfl | rfl
    · exact N47.ok
    · exact N18.ok
    · exact N46.ok
  · intro args blks k kp h k' kp'
    match args, blks, h with
    | [d0, d1], [], h =>
    dsimp only [ent0] at h
    have h9 := aStr_elim h; clear h; obtain ⟨x0, rfl, h⟩ := h9
    have h9 := aFz_elim (t := Ty.str) h; clear h; obtain ⟨x1, rfl, h⟩ := h9
    exact (f_eq k' kp' x0 x1).symm
end N23
end Go.Proofs.Yt
namespace Go.Proofs.Yt
open Go Go.Aw Go.Proofs
set_option linter.unusedVariables false
set_option linter.unusedSimpArgs false
set_option maxRecDepth 100000
/-! dyehouse/dyehouselaw04.works -/
namespace N14
noncomputable def cfg : Cfg := { P := Try.prog, ty := tys, E := tab [(15, N15.ent), (18, N18.ent), (19, N19.ent), (22, N22.ent), (23, N23.ent), (43, N43.ent), (44, N44.ent), (21, N21.ent)], atSeq := tab [], atLoop := tab [], outs := [] }
noncomputable def body : Code := bodyOf Try.f14
def c (k : Bool → Prop) : Prop :=
  (N15.f (ByteArray.mk #[97, 46, 98, 95, 49]) (fun (y0_0 : ByteArray) (y1_0 : ByteArray) (y2_0 : Bool) => (br (beqS y0_0 (ByteArray.mk #[97])) (br (beqS y1_0 (ByteArray.mk #[98, 95, 49])) (br y2_0 (N18.f (ByteArray.mk #[120, 57]) (fun (y0_1 : Bool) => (br y0_1 (N18.f (ByteArray.mk #[57, 120]) (fun (y0_2 : Bool) => (br (!y0_2) (N19.f (ByteArray.mk #[97, 98, 32, 99]) (0 : Int) (fun (y0_3 : Int) => (br (y0_3 == (2 : Int)) (N22.f (ByteArray.mk #[112]) (ByteArray.mk #[113]) (fun (y0_4 : ByteArray) => (br (beqS y0_4 (ByteArray.mk #[112, 46, 113])) (N23.f (ByteArray.mk #[98]) ([(ByteArray.mk #[98, 48]), (ByteArray.mk #[98, 50])] : List ByteArray) (fun (y0_5 : ByteArray) => (br (beqS y0_5 (ByteArray.mk #[98, 49])) (N43.f (95 : Int) (fun (y0_6 : Bool) => (br y0_6 (N44.f (48 : Int) (fun (y0_7 : Bool) => (br y0_7 (N21.f (ByteArray.mk #[97, 46, 98]) true (fun (y0_8 : Bool) => (br y0_8 (N21.f (ByteArray.mk #[97, 46, 98]) false (fun (y0_9 : Bool) => (k (!y0_9)))) (k false)))) (k false)))) (k false)))) (k false)))) (k false)))) (k false)))) (k false)))) (k false)))) (k false)) (k false)) (k false))))
def f0 (k : Bool → Prop) : Prop := c k
theorem f_ex : ∃ g : (Bool → Prop) → Prop, g = f0 := ⟨_, rfl⟩
noncomputable def f : (Bool → Prop) → Prop := Classical.choose f_ex
theorem f_def : f = f0 := Classical.choose_spec f_ex
noncomputable def JJ (k kp : D → List Blk → Prop) : Nat → St → Prop := pick none' []
noncomputable def LL (k kp : D → List Blk → Prop) : Nat → St → Prop := pick none' []
theorem c_c (k kp : D → List Blk → Prop) (J L : Nat → St → Prop) : runC cfg 1000001 J L none'' [] body (topK cfg Try.f14 k kp) (st0 Try.f14 [] []) = c (fun y0 => k (.v (.bool y0)) []) := by kernel_rfl
theorem c_ag (k kp : D → List Blk → Prop) : agPL cfg 1000001 (JJ k kp) (LL k kp) [] body = agPR cfg 1000001 none'' [] body (topK cfg Try.f14 k kp) := by kernel_rfl
theorem body_is : Try.f14.body = some body := by kernel_rfl
theorem c_raw (k kp : D → List Blk → Prop) : funW cfg Try.f14 [] [] k kp = c (fun y0 => k (.v (.bool y0)) []) :=
  Eq.mp (by kernel_rfl) ((funW_run (AG := none'') body_is (c_ag k kp) [] []).trans (c_c k kp (JJ k kp) (LL k kp)))
theorem f_eq (k kp : D → List Blk → Prop) : funW cfg Try.f14 [] [] k kp = f (fun y0 => k (.v (.bool y0)) []) := by
  rw [f_def, c_raw]; rfl
noncomputable def ent0 : Entry := fun args blks k _ => match args, blks with
  | [], [] => f (fun y0 => k (.v (.bool y0)) [])
  | _, _ => False
noncomputable def ent : Entry := fun args blks k kp => ent0 (convA [] args) blks k kp
theorem ok : EntOk Try.prog 0 0 14 ent := by
  refine EntOk.conv (EntOk.of (funW_ok (cfg := cfg) (tyOk_of rfl rfl tyL_ok) (eqOk_none rfl) mixed_ok (tab_ok ?_) Try.func14 (by rfl) (by rfl)) ?_) _
  · intro p hp
    simp only [List.mem_cons, List.not_mem_nil, or_false] at hp
    rcases hp with rfl | rfl | rfl | rfl | rfl | rfl | rfl | rfl
    · exact N15.ok
    · exact N18.ok
    · exact N19.ok
    · exact N22.ok
    · exact N23.ok
    · exact N43.ok
    · exact N44.ok
    · exact N21.ok
  · intro args blks k kp h k' kp'
    match args, blks, h with
    | [], [], h =>
    dsimp only [ent0] at h
    exact (f_eq k' kp').symm
end N14
end Go.Proofs.Yt
namespace Go.Proofs.Yt
open Go Go.Aw Go.Proofs
set_option linter.unusedVariables false
set_option linter.unusedSimpArgs false
set_option maxRecDepth 100000
/-! dyehouse/dyehouseref04.Letter -/
namespace N45
noncomputable def cfg : Cfg := { P := Try.prog, ty := tys, E := tab [], atSeq := tab [], atLoop := tab [], outs := [] }
noncomputable def body : Code := bodyOf Try.f45
def c (x0 : Int) (k : Bool → Prop) : Prop :=
  (br (decide (x0 ≥ (97 : Int))) (br (decide (x0 ≤ (122 : Int))) (k true) (k (x0 == (95 : Int)))) (k (x0 == (95 : Int))))
def f0 (x0 : Int) (k : Bool → Prop) : Prop := c x0 k
theorem f_ex : ∃ g : Int → (Bool → Prop) → Prop, g = f0 := ⟨_, rfl⟩
noncomputable def f : Int → (Bool → Prop) → Prop := Classical.choose f_ex
theorem f_def : f = f0 := Classical.choose_spec f_ex
noncomputable def JJ (k kp : D → List Blk → Prop) : Nat → St → Prop := pick none' []
noncomputable def LL (k kp : D → List Blk → Prop) : Nat → St → Prop := pick none' []
theorem c_c (k kp : D → List Blk → Prop) (J L : Nat → St → Prop) (x0 : Int) : runC cfg 1000001 J L none'' [] body (topK cfg Try.f45 k kp) (st0 Try.f45 [(.v (.int IntKind.u8 x0))] []) = c x0 (fun y0 => k (.v (.bool y0)) []) := by kernel_rfl
theorem c_ag (k kp : D → List Blk → Prop) : agPL cfg 1000001 (JJ k kp) (LL k kp) [] body = agPR cfg 1000001 none'' [] body (topK cfg Try.f45 k kp) := by kernel_rfl
theorem body_is : Try.f45.body = some body := by kernel_rfl
theorem c_raw (k kp : D → List Blk → Prop) (x0 : Int) : funW cfg Try.f45 [(.v (.int IntKind.u8 x0))] [] k kp = c x0 (fun y0 => k (.v (.bool y0)) []) :=
  Eq.mp (by kernel_rfl) ((funW_run (AG := none'') body_is (c_ag k kp) [(.v (.int IntKind.u8 x0))] []).trans (c_c k kp (JJ k kp) (LL k kp) x0))
theorem f_eq (k kp : D → List Blk → Prop) (x0 : Int) : funW cfg Try.f45 [(.v (.int IntKind.u8 x0))] [] k kp = f x0 (fun y0 => k (.v (.bool y0)) []) := by
  rw [f_def, c_raw]; rfl
noncomputable def ent0 : Entry := fun args blks k _ => match args, blks with
  | [d0], [] => aInt IntKind.u8 d0 fun x0 => f x0 (fun y0 => k (.v (.bool y0)) [])
  | _, _ => False
noncomputable def ent : Entry := fun args blks k kp => ent0 (convA [none] args) blks k kp
theorem ok : EntOk Try.prog 0 0 45 ent := by
  refine EntOk.conv (EntOk.of (funW_ok (cfg := cfg) (tyOk_of rfl rfl tyL_ok) (eqOk_none rfl) mixed_ok (tab_ok ?_) Try.func45 (by rfl) (by rfl)) ?_) _
  · intro p hp
    cases hp
  · intro args blks k kp h k' kp'
    match args, blks, h with
    | [d0], [], h =>
    dsimp only [ent0] at h
    have h9 := aInt_elim h; clear h; obtain ⟨x0, rfl, h⟩ := h9
    exact (f_eq k' kp' x0).symm
end N45
end Go.Proofs.Yt
namespace Go.Proofs.Yt
open Go Go.Aw Go.Proofs
set_option linter.unusedVariables false
set_option linter.unusedSimpArgs false
set_option maxRecDepth 100000
/-! dyehouse/dyehouseref04.Right -/
namespace N17
noncomputable def cfg : Cfg := { P := Try.prog, ty := tys, E := tab [(45, N45.ent)], atSeq := tab [(2000002, ⟨[(0, .keep), (17, .keep)]⟩), (3, ⟨[(0, .keep)]⟩), (2000007, ⟨[(0, .keep), (3, .keep), (40, .keep)]⟩), (8, ⟨[]⟩), (5, ⟨[(0, .keep), (3, .keep)]⟩)], atLoop := tab [(4, ⟨[(0, .keep), (3, .keep)]⟩)], outs := [] }
noncomputable def body : Code := bodyOf Try.f17
def j2000002 (j3 : ByteArray → Prop) (x0 : ByteArray) (x17 : Bool) (k : Bool → Prop) : Prop :=
  (br x17 (k false) (j3 x0))
def j3 (l4 : ByteArray → Int → Prop) (x0 : ByteArray) (k : Bool → Prop) : Prop :=
  (l4 x0 (1 : Int))
def l4 (j2000007 : ByteArray → Int → Bool → Prop) (j8 : Prop) (x0 : ByteArray) (x3 : Int) (k : Bool → Prop) : Prop :=
  (br (decide (x3 < ((((x0).size : Nat) : Int)))) ((inB 0 x3 ((((x0).size : Nat) : Int) - 1)) ∧ (N45.f (byteAt x0 x3) (fun (y0_1 : Bool) => (br (!y0_1) ((inB 0 x3 ((((x0).size : Nat) : Int) - 1)) ∧ (br (decide ((byteAt x0 x3) < (48 : Int))) (j2000007 x0 x3 true) ((inB 0 x3 ((((x0).size : Nat) : Int) - 1)) ∧ (j2000007 x0 x3 (decide ((byteAt x0 x3) > (57 : Int))))))) (j2000007 x0 x3 false))))) (j8))
def j2000007 (j5 : ByteArray → Int → Prop) (x0 : ByteArray) (x3 : Int) (x40 : Bool) (k : Bool → Prop) : Prop :=
  (br x40 (k false) (j5 x0 x3))
def j8 (k : Bool → Prop) : Prop :=
  (k true)
def j5 (ag4 : Int → Prop) (x0 : ByteArray) (x3 : Int) (k : Bool → Prop) : Prop :=
  (ag4 (IntKind.i64.wrap (x3 + (1 : Int))))
def c (j2000002 : ByteArray → Bool → Prop) (x0 : ByteArray) (k : Bool → Prop) : Prop :=
  (br (decide (((((x0).size : Nat) : Int)) < (1 : Int))) (j2000002 x0 true) (br (decide (((((x0).size : Nat) : Int)) > (24 : Int))) (j2000002 x0 true) ((inB 0 (0 : Int) ((((x0).size : Nat) : Int) - 1)) ∧ (N45.f (byteAt x0 (0 : Int)) (fun (y0_0 : Bool) => (j2000002 x0 (!y0_0)))))))
def j8' (k : Bool → Prop) : Prop := j8 k
def j5' (ag4 : Int → Prop) (x0 : ByteArray) (x3 : Int) (k : Bool → Prop) : Prop := j5 ag4 x0 x3 k
def j2000007' (ag4 : Int → Prop) (x0 : ByteArray) (x3 : Int) (x40 : Bool) (k : Bool → Prop) : Prop := j2000007 (fun x0 x3 => j5' ag4 x0 x3 k) x0 x3 x40 k
def l4' (x0 : ByteArray) (x3 : Int) (k : Bool → Prop) : Prop := ∃ n, loopS (fun (ag : (Int) → Prop) (s : Int) => l4 (fun x0 x3 x40 => j2000007' (fun x3 => ag (x3)) x0 x3 x40 k) (j8' k) x0 s k) n (x3)
def j3' (x0 : ByteArray) (k : Bool → Prop) : Prop := j3 (fun x0 x3 => l4' x0 x3 k) x0 k
def j2000002' (x0 : ByteArray) (x17 : Bool) (k : Bool → Prop) : Prop := j2000002 (fun x0 => j3' x0 k) x0 x17 k
def f0 (x0 : ByteArray) (k : Bool → Prop) : Prop := c (fun x0 x17 => j2000002' x0 x17 k) x0 k
theorem f_ex : ∃ g : ByteArray → (Bool → Prop) → Prop, g = f0 := ⟨_, rfl⟩
noncomputable def f : ByteArray → (Bool → Prop) → Prop := Classical.choose f_ex
theorem f_def : f = f0 := Classical.choose_spec f_ex
def m2000002 (x0 : ByteArray) (x17 : Bool) : St := { tmps := mkT 41 0 [(0, (.v (.string x0))), (17, (.v (.bool x17)))], hp := [], m := 0 }
def m3 (x0 : ByteArray) : St := { tmps := mkT 41 0 [(0, (.v (.string x0)))], hp := [], m := 0 }
def mL4 (x0 : ByteArray) (x3 : Int) : St := { tmps := mkT 41 0 [(0, (.v (.string x0))), (3, (.v (.int IntKind.i64 x3)))], hp := [], m := 0 }
def m2000007 (x0 : ByteArray) (x3 : Int) (x40 : Bool) : St := { tmps := mkT 41 0 [(0, (.v (.string x0))), (3, (.v (.int IntKind.i64 x3))), (40, (.v (.bool x40)))], hp := [], m := 0 }
def m8 : St := { tmps := mkT 41 0 [], hp := [], m := 0 }
def m5 (x0 : ByteArray) (x3 : Int) : St := { tmps := mkT 41 0 [(0, (.v (.string x0))), (3, (.v (.int IntKind.i64 x3)))], hp := [], m := 0 }
noncomputable def X2000002 (k kp : D → List Blk → Prop) : St → Prop := atP cfg (pick none' []) [1, 0, 1] body (topK cfg Try.f17 k kp)
noncomputable def X3 (k kp : D → List Blk → Prop) : St → Prop := atP cfg (pick none' []) [1, 1] body (topK cfg Try.f17 k kp)
noncomputable def YL4 (k kp : D → List Blk → Prop) : (St → Prop) → St → Prop := loopB cfg (sub [1, 1, 0, 1, 0, 0] body) (contK cfg (pick none' []) [1, 1, 0, 1, 0] body (topK cfg Try.f17 k kp))
noncomputable def XL4 (k kp : D → List Blk → Prop) : St → Prop := fun st => ∃ n, loopN (YL4 k kp) n st
noncomputable def X2000007 (k kp : D → List Blk → Prop) (ag4 : St → Prop) : St → Prop := atP cfg (pick none' [(4, ag4)]) [1, 1, 0, 1, 0, 0, 1, 0, 0, 1] body (topK cfg Try.f17 k kp)
noncomputable def X8 (k kp : D → List Blk → Prop) : St → Prop := atP cfg (pick none' []) [1, 1, 1] body (topK cfg Try.f17 k kp)
noncomputable def X5 (k kp : D → List Blk → Prop) (ag4 : St → Prop) : St → Prop := atP cfg (pick none' [(4, ag4)]) [1, 1, 0, 1, 0, 0, 1, 1] body (topK cfg Try.f17 k kp)
noncomputable def JJ (k kp : D → List Blk → Prop) : Nat → St → Prop := pick none' [(2000002, X2000002 k kp), (3, X3 k kp), (8, X8 k kp)]
noncomputable def LL (k kp : D → List Blk → Prop) : Nat → St → Prop := pick none' [(4, XL4 k kp)]
noncomputable def JJ_4 (k kp : D → List Blk → Prop) (ag4 : St → Prop) : Nat → St → Prop := pick none' [(2000002, X2000002 k kp), (3, X3 k kp), (2000007, X2000007 k kp ag4), (8, X8 k kp), (5, X5 k kp ag4)]
noncomputable def LL_4 (k kp : D → List Blk → Prop) (ag4 : St → Prop) : Nat → St → Prop := pick none' [(4, XL4 k kp)]
theorem j8_c (k kp : D → List Blk → Prop) (J L : Nat → St → Prop) : runC cfg 8 J L (pick none' []) [1, 1, 1] body (topK cfg Try.f17 k kp) (m8) = j8 (fun y0 => k (.v (.bool y0)) []) := by kernel_rfl
theorem j8_ag (k kp : D → List Blk → Prop) : agPL cfg 8 (JJ k kp) (LL k kp) [1, 1, 1] body = agPR cfg 8 (pick none' []) [1, 1, 1] body (topK cfg Try.f17 k kp) := by kernel_rfl
theorem j8_raw (k kp : D → List Blk → Prop) : X8 k kp (m8) = j8 (fun y0 => k (.v (.bool y0)) []) :=
  Eq.mp (by kernel_rfl) ((atP_run (j8_ag k kp) (m8)).trans (j8_c k kp (JJ k kp) (LL k kp)))
theorem j8_eq (k kp : D → List Blk → Prop) : X8 k kp (m8) = j8' (fun y0 => k (.v (.bool y0)) []) := by
  rw [j8_raw]; rfl
theorem j5_c (k kp : D → List Blk → Prop) (J L : Nat → St → Prop) (ag4 : St → Prop) (x0 : ByteArray) (x3 : Int) : runC cfg 5 J L (pick none' [(4, ag4)]) [1, 1, 0, 1, 0, 0, 1, 1] body (topK cfg Try.f17 k kp) (m5 x0 x3) = j5 (fun x3 => ag4 (mL4 x0 x3)) x0 x3 (fun y0 => k (.v (.bool y0)) []) := by kernel_rfl
theorem j5_ag (k kp : D → List Blk → Prop) (ag4 : St → Prop) : agPL cfg 5 (JJ_4 k kp ag4) (LL_4 k kp ag4) [1, 1, 0, 1, 0, 0, 1, 1] body = agPR cfg 5 (pick none' [(4, ag4)]) [1, 1, 0, 1, 0, 0, 1, 1] body (topK cfg Try.f17 k kp) := by kernel_rfl
theorem j5_raw (k kp : D → List Blk → Prop) (ag4 : St → Prop) (x0 : ByteArray) (x3 : Int) : X5 k kp ag4 (m5 x0 x3) = j5 (fun x3 => ag4 (mL4 x0 x3)) x0 x3 (fun y0 => k (.v (.bool y0)) []) :=
  Eq.mp (by kernel_rfl) ((atP_run (j5_ag k kp ag4) (m5 x0 x3)).trans (j5_c k kp (JJ_4 k kp ag4) (LL_4 k kp ag4) ag4 x0 x3))
theorem j5_eq (k kp : D → List Blk → Prop) (ag4 : St → Prop) (x0 : ByteArray) (x3 : Int) : X5 k kp ag4 (m5 x0 x3) = j5' (fun x3 => ag4 (mL4 x0 x3)) x0 x3 (fun y0 => k (.v (.bool y0)) []) := by
  rw [j5_raw]; rfl
theorem j2000007_c (k kp : D → List Blk → Prop) (J L : Nat → St → Prop) (ag4 : St → Prop) (x0 : ByteArray) (x3 : Int) (x40 : Bool) : runC cfg 2000007 J L (pick none' [(4, ag4)]) [1, 1, 0, 1, 0, 0, 1, 0, 0, 1] body (topK cfg Try.f17 k kp) (m2000007 x0 x3 x40) = j2000007 (fun x0 x3 => J 5 (m5 x0 x3)) x0 x3 x40 (fun y0 => k (.v (.bool y0)) []) := by kernel_rfl
theorem j2000007_ag (k kp : D → List Blk → Prop) (ag4 : St → Prop) : agPL cfg 2000007 (JJ_4 k kp ag4) (LL_4 k kp ag4) [1, 1, 0, 1, 0, 0, 1, 0, 0, 1] body = agPR cfg 2000007 (pick none' [(4, ag4)]) [1, 1, 0, 1, 0, 0, 1, 0, 0, 1] body (topK cfg Try.f17 k kp) := by kernel_rfl
theorem j2000007_raw (k kp : D → List Blk → Prop) (ag4 : St → Prop) (x0 : ByteArray) (x3 : Int) (x40 : Bool) : X2000007 k kp ag4 (m2000007 x0 x3 x40) = j2000007 (fun x0 x3 => X5 k kp ag4 (m5 x0 x3)) x0 x3 x40 (fun y0 => k (.v (.bool y0)) []) :=
  Eq.mp (by kernel_rfl) ((atP_run (j2000007_ag k kp ag4) (m2000007 x0 x3 x40)).trans (j2000007_c k kp (JJ_4 k kp ag4) (LL_4 k kp ag4) ag4 x0 x3 x40))
theorem j2000007_eq (k kp : D → List Blk → Prop) (ag4 : St → Prop) (x0 : ByteArray) (x3 : Int) (x40 : Bool) : X2000007 k kp ag4 (m2000007 x0 x3 x40) = j2000007' (fun x3 => ag4 (mL4 x0 x3)) x0 x3 x40 (fun y0 => k (.v (.bool y0)) []) := by
  rw [j2000007_raw]; simp only [j5_eq]; first | done | rfl
theorem l4_c (k kp : D → List Blk → Prop) (J L : Nat → St → Prop) (ag4 : St → Prop) (x0 : ByteArray) (x3 : Int) : runC cfg 1000001 J L (pick none' [(4, ag4)]) [1, 1, 0, 1, 0, 0] body (topK cfg Try.f17 k kp) (mL4 x0 x3) = l4 (fun x0 x3 x40 => J 2000007 (m2000007 x0 x3 x40)) (J 8 (m8)) x0 x3 (fun y0 => k (.v (.bool y0)) []) := by kernel_rfl
theorem l4_ag (k kp : D → List Blk → Prop) (ag4 : St → Prop) : agPL cfg 1000001 (JJ_4 k kp ag4) (LL_4 k kp ag4) [1, 1, 0, 1, 0, 0] body = agPR cfg 1000001 (pick none' [(4, ag4)]) [1, 1, 0, 1, 0, 0] body (topK cfg Try.f17 k kp) := by kernel_rfl
theorem l4_raw (k kp : D → List Blk → Prop) (ag4 : St → Prop) (x0 : ByteArray) (x3 : Int) : YL4 k kp ag4 (mL4 x0 x3) = l4 (fun x0 x3 x40 => X2000007 k kp ag4 (m2000007 x0 x3 x40)) (X8 k kp (m8)) x0 x3 (fun y0 => k (.v (.bool y0)) []) :=
  Eq.mp (by kernel_rfl) ((atP_run (l4_ag k kp ag4) (mL4 x0 x3)).trans (l4_c k kp (JJ_4 k kp ag4) (LL_4 k kp ag4) ag4 x0 x3))
theorem l4_eq (k kp : D → List Blk → Prop) (x0 : ByteArray) (x3 : Int) : XL4 k kp (mL4 x0 x3) = l4' x0 x3 (fun y0 => k (.v (.bool y0)) []) :=
  loop_eq (mk := fun (s : Int) => mL4 x0 s) (fun again s => by rw [l4_raw k kp again x0 s]; simp only [j2000007_eq, j8_eq]; first | done | rfl) (x3)
theorem j3_c (k kp : D → List Blk → Prop) (J L : Nat → St → Prop) (x0 : ByteArray) : runC cfg 3 J L (pick none' []) [1, 1] body (topK cfg Try.f17 k kp) (m3 x0) = j3 (fun x0 x3 => L 4 (mL4 x0 x3)) x0 (fun y0 => k (.v (.bool y0)) []) := by kernel_rfl
theorem j3_ag (k kp : D → List Blk → Prop) : agPL cfg 3 (JJ k kp) (LL k kp) [1, 1] body = agPR cfg 3 (pick none' []) [1, 1] body (topK cfg Try.f17 k kp) := by kernel_rfl
theorem j3_raw (k kp : D → List Blk → Prop) (x0 : ByteArray) : X3 k kp (m3 x0) = j3 (fun x0 x3 => XL4 k kp (mL4 x0 x3)) x0 (fun y0 => k (.v (.bool y0)) []) :=
  Eq.mp (by kernel_rfl) ((atP_run (j3_ag k kp) (m3 x0)).trans (j3_c k kp (JJ k kp) (LL k kp) x0))
theorem j3_eq (k kp : D → List Blk → Prop) (x0 : ByteArray) : X3 k kp (m3 x0) = j3' x0 (fun y0 => k (.v (.bool y0)) []) := by
  rw [j3_raw]; simp only [l4_eq]; first | done | rfl
theorem j2000002_c (k kp : D → List Blk → Prop) (J L : Nat → St → Prop) (x0 : ByteArray) (x17 : Bool) : runC cfg 2000002 J L (pick none' []) [1, 0, 1] body (topK cfg Try.f17 k kp) (m2000002 x0 x17) = j2000002 (fun x0 => J 3 (m3 x0)) x0 x17 (fun y0 => k (.v (.bool y0)) []) := by kernel_rfl
theorem j2000002_ag (k kp : D → List Blk → Prop) : agPL cfg 2000002 (JJ k kp) (LL k kp) [1, 0, 1] body = agPR cfg 2000002 (pick none' []) [1, 0, 1] body (topK cfg Try.f17 k kp) := by kernel_rfl
theorem j2000002_raw (k kp : D → List Blk → Prop) (x0 : ByteArray) (x17 : Bool) : X2000002 k kp (m2000002 x0 x17) = j2000002 (fun x0 => X3 k kp (m3 x0)) x0 x17 (fun y0 => k (.v (.bool y0)) []) :=
  Eq.mp (by kernel_rfl) ((atP_run (j2000002_ag k kp) (m2000002 x0 x17)).trans (j2000002_c k kp (JJ k kp) (LL k kp) x0 x17))
theorem j2000002_eq (k kp : D → List Blk → Prop) (x0 : ByteArray) (x17 : Bool) : X2000002 k kp (m2000002 x0 x17) = j2000002' x0 x17 (fun y0 => k (.v (.bool y0)) []) := by
  rw [j2000002_raw]; simp only [j3_eq]; first | done | rfl
theorem c_c (k kp : D → List Blk → Prop) (J L : Nat → St → Prop) (x0 : ByteArray) : runC cfg 1000001 J L none'' [] body (topK cfg Try.f17 k kp) (st0 Try.f17 [(.v (.string x0))] []) = c (fun x0 x17 => J 2000002 (m2000002 x0 x17)) x0 (fun y0 => k (.v (.bool y0)) []) := by kernel_rfl
theorem c_ag (k kp : D → List Blk → Prop) : agPL cfg 1000001 (JJ k kp) (LL k kp) [] body = agPR cfg 1000001 none'' [] body (topK cfg Try.f17 k kp) := by kernel_rfl
theorem body_is : Try.f17.body = some body := by kernel_rfl
theorem c_raw (k kp : D → List Blk → Prop) (x0 : ByteArray) : funW cfg Try.f17 [(.v (.string x0))] [] k kp = c (fun x0 x17 => X2000002 k kp (m2000002 x0 x17)) x0 (fun y0 => k (.v (.bool y0)) []) :=
  Eq.mp (by kernel_rfl) ((funW_run (AG := none'') body_is (c_ag k kp) [(.v (.string x0))] []).trans (c_c k kp (JJ k kp) (LL k kp) x0))
theorem f_eq (k kp : D → List Blk → Prop) (x0 : ByteArray) : funW cfg Try.f17 [(.v (.string x0))] [] k kp = f x0 (fun y0 => k (.v (.bool y0)) []) := by
  rw [f_def, c_raw]; simp only [j2000002_eq]; first | done | rfl
noncomputable def ent0 : Entry := fun args blks k _ => match args, blks with
  | [d0], [] => aStr d0 fun x0 => f x0 (fun y0 => k (.v (.bool y0)) [])
  | _, _ => False
noncomputable def ent : Entry := fun args blks k kp => ent0 (convA [none] args) blks k kp
theorem ok : EntOk Try.prog 0 0 17 ent := by
  refine EntOk.conv (EntOk.of (funW_ok (cfg := cfg) (tyOk_of rfl rfl tyL_ok) (eqOk_none rfl) mixed_ok (tab_ok ?_) Try.func17 (by rfl) (by rfl)) ?_) _
  · intro p hp
    simp only [List.mem_cons, List.not_mem_nil, or_false] at hp
    rcases hp with rfl
    · exact N45.ok
  · intro args blks k kp h k' kp'
    match args, blks, h with
    | [d0], [], h =>
    dsimp only [ent0] at h
    have h9 := aStr_elim h; clear h; obtain ⟨x0, rfl, h⟩ := h9
    exact (f_eq k' kp' x0).symm
end N17
end Go.Proofs.Yt
namespace Go.Proofs.Yt
open Go Go.Aw Go.Proofs
set_option linter.unusedVariables false
set_option linter.unusedSimpArgs false
set_option maxRecDepth 100000
/-! dyehouse/dyehouseref04.Ends -/
namespace N16
noncomputable def cfg : Cfg := { P := Try.prog, ty := tys, E := tab [(17, N17.ent)], atSeq := tab [(2000005, ⟨[(0, .keep), (5, .keep), (28, .keep)]⟩), (6, ⟨[]⟩), (3, ⟨[(0, .keep), (5, .keep)]⟩)], atLoop := tab [(2, ⟨[(0, .keep), (5, .keep)]⟩)], outs := [] }
noncomputable def body : Code := bodyOf Try.f16
def l2 (j2000005 : ByteArray → Int → Bool → Prop) (j6 : Prop) (x0 : ByteArray) (x5 : Int) (k : ByteArray → ByteArray → Bool → Prop) : Prop :=
  (br (decide (x5 < ((((x0).size : Nat) : Int)))) ((inB 0 x5 ((((x0).size : Nat) : Int) - 1)) ∧ (br ((byteAt x0 x5) == (46 : Int)) ((inB 0 x5 (((x0).size : Nat) : Int)) ∧ (N17.f (ByteArray.extract x0 (Int.toNat 0) (Int.toNat x5)) (fun (y0_0 : Bool) => (br y0_0 ((inB (IntKind.i64.wrap (x5 + (1 : Int))) (((x0).size : Nat) : Int) (((x0).size : Nat) : Int)) ∧ (N17.f (ByteArray.extract x0 (Int.toNat (IntKind.i64.wrap (x5 + (1 : Int)))) (Int.toNat (((x0).size : Nat) : Int))) (fun (y0_1 : Bool) => (j2000005 x0 x5 y0_1)))) (j2000005 x0 x5 false))))) (j2000005 x0 x5 false))) (j6))
def j2000005 (j3 : ByteArray → Int → Prop) (x0 : ByteArray) (x5 : Int) (x28 : Bool) (k : ByteArray → ByteArray → Bool → Prop) : Prop :=
  (br x28 ((inB 0 x5 (((x0).size : Nat) : Int)) ∧ ((inB (IntKind.i64.wrap (x5 + (1 : Int))) (((x0).size : Nat) : Int) (((x0).size : Nat) : Int)) ∧ (k (ByteArray.extract x0 (Int.toNat 0) (Int.toNat x5)) (ByteArray.extract x0 (Int.toNat (IntKind.i64.wrap (x5 + (1 : Int)))) (Int.toNat (((x0).size : Nat) : Int))) true))) (j3 x0 x5))
def j6 (k : ByteArray → ByteArray → Bool → Prop) : Prop :=
  (k (ByteArray.mk #[]) (ByteArray.mk #[]) false)
def j3 (ag2 : Int → Prop) (x0 : ByteArray) (x5 : Int) (k : ByteArray → ByteArray → Bool → Prop) : Prop :=
  (ag2 (IntKind.i64.wrap (x5 + (1 : Int))))
def c (l2 : ByteArray → Int → Prop) (x0 : ByteArray) (k : ByteArray → ByteArray → Bool → Prop) : Prop :=
  (l2 x0 (0 : Int))
def j6' (k : ByteArray → ByteArray → Bool → Prop) : Prop := j6 k
def j3' (ag2 : Int → Prop) (x0 : ByteArray) (x5 : Int) (k : ByteArray → ByteArray → Bool → Prop) : Prop := j3 ag2 x0 x5 k
def j2000005' (ag2 : Int → Prop) (x0 : ByteArray) (x5 : Int) (x28 : Bool) (k : ByteArray → ByteArray → Bool → Prop) : Prop := j2000005 (fun x0 x5 => j3' ag2 x0 x5 k) x0 x5 x28 k
def l2' (x0 : ByteArray) (x5 : Int) (k : ByteArray → ByteArray → Bool → Prop) : Prop := ∃ n, loopS (fun (ag : (Int) → Prop) (s : Int) => l2 (fun x0 x5 x28 => j2000005' (fun x5 => ag (x5)) x0 x5 x28 k) (j6' k) x0 s k) n (x5)
def f0 (x0 : ByteArray) (k : ByteArray → ByteArray → Bool → Prop) : Prop := c (fun x0 x5 => l2' x0 x5 k) x0 k
theorem f_ex : ∃ g : ByteArray → (ByteArray → ByteArray → Bool → Prop) → Prop, g = f0 := ⟨_, rfl⟩
noncomputable def f : ByteArray → (ByteArray → ByteArray → Bool → Prop) → Prop := Classical.choose f_ex
theorem f_def : f = f0 := Classical.choose_spec f_ex
def mL2 (x0 : ByteArray) (x5 : Int) : St := { tmps := mkT 36 0 [(0, (.v (.string x0))), (5, (.v (.int IntKind.i64 x5)))], hp := [], m := 0 }
def m2000005 (x0 : ByteArray) (x5 : Int) (x28 : Bool) : St := { tmps := mkT 36 0 [(0, (.v (.string x0))), (5, (.v (.int IntKind.i64 x5))), (28, (.v (.bool x28)))], hp := [], m := 0 }
def m6 : St := { tmps := mkT 36 0 [], hp := [], m := 0 }
def m3 (x0 : ByteArray) (x5 : Int) : St := { tmps := mkT 36 0 [(0, (.v (.string x0))), (5, (.v (.int IntKind.i64 x5)))], hp := [], m := 0 }
noncomputable def YL2 (k kp : D → List Blk → Prop) : (St → Prop) → St → Prop := loopB cfg (sub [1, 0, 1, 0, 0] body) (contK cfg (pick none' []) [1, 0, 1, 0] body (topK cfg Try.f16 k kp))
noncomputable def XL2 (k kp : D → List Blk → Prop) : St → Prop := fun st => ∃ n, loopN (YL2 k kp) n st
noncomputable def X2000005 (k kp : D → List Blk → Prop) (ag2 : St → Prop) : St → Prop := atP cfg (pick none' [(2, ag2)]) [1, 0, 1, 0, 0, 1, 0, 0, 1] body (topK cfg Try.f16 k kp)
noncomputable def X6 (k kp : D → List Blk → Prop) : St → Prop := atP cfg (pick none' []) [1, 1] body (topK cfg Try.f16 k kp)
noncomputable def X3 (k kp : D → List Blk → Prop) (ag2 : St → Prop) : St → Prop := atP cfg (pick none' [(2, ag2)]) [1, 0, 1, 0, 0, 1, 1] body (topK cfg Try.f16 k kp)
noncomputable def JJ_2 (k kp : D → List Blk → Prop) (ag2 : St → Prop) : Nat → St → Prop := pick none' [(2000005, X2000005 k kp ag2), (6, X6 k kp), (3, X3 k kp ag2)]
noncomputable def LL_2 (k kp : D → List Blk → Prop) (ag2 : St → Prop) : Nat → St → Prop := pick none' [(2, XL2 k kp)]
noncomputable def JJ (k kp : D → List Blk → Prop) : Nat → St → Prop := pick none' [(6, X6 k kp)]
noncomputable def LL (k kp : D → List Blk → Prop) : Nat → St → Prop := pick none' [(2, XL2 k kp)]
theorem j6_c (k kp : D → List Blk → Prop) (J L : Nat → St → Prop) : runC cfg 6 J L (pick none' []) [1, 1] body (topK cfg Try.f16 k kp) (m6) = j6 (fun y0 y1 y2 => k (.tup [(.v (.string y0)), (.v (.string y1)), (.v (.bool y2))]) []) := by kernel_rfl
theorem j6_ag (k kp : D → List Blk → Prop) : agPL cfg 6 (JJ k kp) (LL k kp) [1, 1] body = agPR cfg 6 (pick none' []) [1, 1] body (topK cfg Try.f16 k kp) := by kernel_rfl
theorem j6_raw (k kp : D → List Blk → Prop) : X6 k kp (m6) = j6 (fun y0 y1 y2 => k (.tup [(.v (.string y0)), (.v (.string y1)), (.v (.bool y2))]) []) :=
  Eq.mp (by kernel_rfl) ((atP_run (j6_ag k kp) (m6)).trans (j6_c k kp (JJ k kp) (LL k kp)))
theorem j6_eq (k kp : D → List Blk → Prop) : X6 k kp (m6) = j6' (fun y0 y1 y2 => k (.tup [(.v (.string y0)), (.v (.string y1)), (.v (.bool y2))]) []) := by
  rw [j6_raw]; rfl
theorem j3_c (k kp : D → List Blk → Prop) (J L : Nat → St → Prop) (ag2 : St → Prop) (x0 : ByteArray) (x5 : Int) : runC cfg 3 J L (pick none' [(2, ag2)]) [1, 0, 1, 0, 0, 1, 1] body (topK cfg Try.f16 k kp) (m3 x0 x5) = j3 (fun x5 => ag2 (mL2 x0 x5)) x0 x5 (fun y0 y1 y2 => k (.tup [(.v (.string y0)), (.v (.string y1)), (.v (.bool y2))]) []) := by kernel_rfl
theorem j3_ag (k kp : D → List Blk → Prop) (ag2 : St → Prop) : agPL cfg 3 (JJ_2 k kp ag2) (LL_2 k kp ag2) [1, 0, 1, 0, 0, 1, 1] body = agPR cfg 3 (pick none' [(2, ag2)]) [1, 0, 1, 0, 0, 1, 1] body (topK cfg Try.f16 k kp) := by kernel_rfl
theorem j3_raw (k kp : D → List Blk → Prop) (ag2 : St → Prop) (x0 : ByteArray) (x5 : Int) : X3 k kp ag2 (m3 x0 x5) = j3 (fun x5 => ag2 (mL2 x0 x5)) x0 x5 (fun y0 y1 y2 => k (.tup [(.v (.string y0)), (.v (.string y1)), (.v (.bool y2))]) []) :=
  Eq.mp (by kernel_rfl) ((atP_run (j3_ag k kp ag2) (m3 x0 x5)).trans (j3_c k kp (JJ_2 k kp ag2) (LL_2 k kp ag2) ag2 x0 x5))
theorem j3_eq (k kp : D → List Blk → Prop) (ag2 : St → Prop) (x0 : ByteArray) (x5 : Int) : X3 k kp ag2 (m3 x0 x5) = j3' (fun x5 => ag2 (mL2 x0 x5)) x0 x5 (fun y0 y1 y2 => k (.tup [(.v (.string y0)), (.v (.string y1)), (.v (.bool y2))]) []) := by
  rw [j3_raw]; rfl
theorem j2000005_c (k kp : D → List Blk → Prop) (J L : Nat → St → Prop) (ag2 : St → Prop) (x0 : ByteArray) (x5 : Int) (x28 : Bool) : runC cfg 2000005 J L (pick none' [(2, ag2)]) [1, 0, 1, 0, 0, 1, 0, 0, 1] body (topK cfg Try.f16 k kp) (m2000005 x0 x5 x28) = j2000005 (fun x0 x5 => J 3 (m3 x0 x5)) x0 x5 x28 (fun y0 y1 y2 => k (.tup [(.v (.string y0)), (.v (.string y1)), (.v (.bool y2))]) []) := by kernel_rfl
theorem j2000005_ag (k kp : D → List Blk → Prop) (ag2 : St → Prop) : agPL cfg 2000005 (JJ_2 k kp ag2) (LL_2 k kp ag2) [1, 0, 1, 0, 0, 1, 0, 0, 1] body = agPR cfg 2000005 (pick none' [(2, ag2)]) [1, 0, 1, 0, 0, 1, 0, 0, 1] body (topK cfg Try.f16 k kp) := by kernel_rfl
theorem j2000005_raw (k kp : D → List Blk → Prop) (ag2 : St → Prop) (x0 : ByteArray) (x5 : Int) (x28 : Bool) : X2000005 k kp ag2 (m2000005 x0 x5 x28) = j2000005 (fun x0 x5 => X3 k kp ag2 (m3 x0 x5)) x0 x5 x28 (fun y0 y1 y2 => k (.tup [(.v (.string y0)), (.v (.string y1)), (.v (.bool y2))]) []) :=
  Eq.mp (by kernel_rfl) ((atP_run (j2000005_ag k kp ag2) (m2000005 x0 x5 x28)).trans (j2000005_c k kp (JJ_2 k kp ag2) (LL_2 k kp ag2) ag2 x0 x5 x28))
theorem j2000005_eq (k kp : D → List Blk → Prop) (ag2 : St → Prop) (x0 : ByteArray) (x5 : Int) (x28 : Bool) : X2000005 k kp ag2 (m2000005 x0 x5 x28) = j2000005' (fun x5 => ag2 (mL2 x0 x5)) x0 x5 x28 (fun y0 y1 y2 => k (.tup [(.v (.string y0)), (.v (.string y1)), (.v (.bool y2))]) []) := by
  rw [j2000005_raw]; simp only [j3_eq]; first | done | rfl
theorem l2_c (k kp : D → List Blk → Prop) (J L : Nat → St → Prop) (ag2 : St → Prop) (x0 : ByteArray) (x5 : Int) : runC cfg 1000001 J L (pick none' [(2, ag2)]) [1, 0, 1, 0, 0] body (topK cfg Try.f16 k kp) (mL2 x0 x5) = l2 (fun x0 x5 x28 => J 2000005 (m2000005 x0 x5 x28)) (J 6 (m6)) x0 x5 (fun y0 y1 y2 => k (.tup [(.v (.string y0)), (.v (.string y1)), (.v (.bool y2))]) []) := by kernel_rfl
theorem l2_ag (k kp : D → List Blk → Prop) (ag2 : St → Prop) : agPL cfg 1000001 (JJ_2 k kp ag2) (LL_2 k kp ag2) [1, 0, 1, 0, 0] body = agPR cfg 1000001 (pick none' [(2, ag2)]) [1, 0, 1, 0, 0] body (topK cfg Try.f16 k kp) := by kernel_rfl
theorem l2_raw (k kp : D → List Blk → Prop) (ag2 : St → Prop) (x0 : ByteArray) (x5 : Int) : YL2 k kp ag2 (mL2 x0 x5) = l2 (fun x0 x5 x28 => X2000005 k kp ag2 (m2000005 x0 x5 x28)) (X6 k kp (m6)) x0 x5 (fun y0 y1 y2 => k (.tup [(.v (.string y0)), (.v (.string y1)), (.v (.bool y2))]) []) :=
  Eq.mp (by kernel_rfl) ((atP_run (l2_ag k kp ag2) (mL2 x0 x5)).trans (l2_c k kp (JJ_2 k kp ag2) (LL_2 k kp ag2) ag2 x0 x5))
theorem l2_eq (k kp : D → List Blk → Prop) (x0 : ByteArray) (x5 : Int) : XL2 k kp (mL2 x0 x5) = l2' x0 x5 (fun y0 y1 y2 => k (.tup [(.v (.string y0)), (.v (.string y1)), (.v (.bool y2))]) []) :=
  loop_eq (mk := fun (s : Int) => mL2 x0 s) (fun again s => by rw [l2_raw k kp again x0 s]; simp only [j2000005_eq, j6_eq]; first | done | rfl) (x5)
theorem c_c (k kp : D → List Blk → Prop) (J L : Nat → St → Prop) (x0 : ByteArray) : runC cfg 1000001 J L none'' [] body (topK cfg Try.f16 k kp) (st0 Try.f16 [(.v (.string x0))] []) = c (fun x0 x5 => L 2 (mL2 x0 x5)) x0 (fun y0 y1 y2 => k (.tup [(.v (.string y0)), (.v (.string y1)), (.v (.bool y2))]) []) := by kernel_rfl
theorem c_ag (k kp : D → List Blk → Prop) : agPL cfg 1000001 (JJ k kp) (LL k kp) [] body = agPR cfg 1000001 none'' [] body (topK cfg Try.f16 k kp) := by kernel_rfl
theorem body_is : Try.f16.body = some body := by kernel_rfl
theorem c_raw (k kp : D → List Blk → Prop) (x0 : ByteArray) : funW cfg Try.f16 [(.v (.string x0))] [] k kp = c (fun x0 x5 => XL2 k kp (mL2 x0 x5)) x0 (fun y0 y1 y2 => k (.tup [(.v (.string y0)), (.v (.string y1)), (.v (.bool y2))]) []) :=
  Eq.mp (by kernel_rfl) ((funW_run (AG := none'') body_is (c_ag k kp) [(.v (.string x0))] []).trans (c_c k kp (JJ k kp) (LL k kp) x0))
theorem f_eq (k kp : D → List Blk → Prop) (x0 : ByteArray) : funW cfg Try.f16 [(.v (.string x0))] [] k kp = f x0 (fun y0 y1 y2 => k (.tup [(.v (.string y0)), (.v (.string y1)), (.v (.bool y2))]) []) := by
  rw [f_def, c_raw]; simp only [l2_eq]; first | done | rfl
noncomputable def ent0 : Entry := fun args blks k _ => match args, blks with
  | [d0], [] => aStr d0 fun x0 => f x0 (fun y0 y1 y2 => k (.tup [(.v (.string y0)), (.v (.string y1)), (.v (.bool y2))]) [])
  | _, _ => False
noncomputable def ent : Entry := fun args blks k kp => ent0 (convA [none] args) blks k kp
theorem ok : EntOk Try.prog 0 0 16 ent := by
  refine EntOk.conv (EntOk.of (funW_ok (cfg := cfg) (tyOk_of rfl rfl tyL_ok) (eqOk_none rfl) mixed_ok (tab_ok ?_) Try.func16 (by rfl) (by rfl)) ?_) _
  · intro p hp
    simp only [List.mem_cons, List.not_mem_nil, or_false] at hp
    rcases hp with rfl
    · exact N17.ok
  · intro args blks k kp h k' kp'
    match args, blks, h with
    | [d0], [], h =>
    dsimp only [ent0] at h
    have h9 := aStr_elim h; clear h; obtain ⟨x0, rfl, h⟩ := h9
    exact (f_eq k' kp' x0).symm
end N16
end Go.Proofs.Yt
namespace Go.Proofs.Yt
open Go Go.Aw Go.Proofs
set_option linter.unusedVariables false
set_option linter.unusedSimpArgs false
set_option maxRecDepth 100000
/-! dyehouse/dyehouseref04.Scan -/
namespace N20
noncomputable def cfg : Cfg := { P := Try.prog, ty := tys, E := tab [(45, N45.ent)], atSeq := tab [(2000002, ⟨[(0, .keep), (1, .keep), (20, .keep)]⟩), (3, ⟨[(0, .keep), (1, .keep)]⟩), (5, ⟨[(0, .keep), (5, .keep)]⟩), (6, ⟨[(5, .keep)]⟩)], atLoop := tab [(4, ⟨[(0, .keep), (5, .keep)]⟩)], outs := [] }
noncomputable def body : Code := bodyOf Try.f20
def j2000002 (j3 : ByteArray → Int → Prop) (x0 : ByteArray) (x1 : Int) (x20 : Bool) (k : Int → Prop) : Prop :=
  (br x20 (k x1) (j3 x0 x1))
def j3 (l4 : ByteArray → Int → Prop) (x0 : ByteArray) (x1 : Int) (k : Int → Prop) : Prop :=
  (l4 x0 (IntKind.i64.wrap (x1 + (1 : Int))))
def l4 (j5 : ByteArray → Int → Prop) (j6 : Int → Prop) (x0 : ByteArray) (x5 : Int) (k : Int → Prop) : Prop :=
  (br (decide (x5 < ((((x0).size : Nat) : Int)))) ((inB 0 x5 ((((x0).size : Nat) : Int) - 1)) ∧ (N45.f (byteAt x0 x5) (fun (y0_1 : Bool) => (br y0_1 (j5 x0 x5) ((inB 0 x5 ((((x0).size : Nat) : Int) - 1)) ∧ (br (decide ((byteAt x0 x5) ≥ (48 : Int))) ((inB 0 x5 ((((x0).size : Nat) : Int) - 1)) ∧ (br (decide ((byteAt x0 x5) ≤ (57 : Int))) (j5 x0 x5) (j6 x5))) (j6 x5))))))) (j6 x5))
def j5 (ag4 : Int → Prop) (x0 : ByteArray) (x5 : Int) (k : Int → Prop) : Prop :=
  (ag4 (IntKind.i64.wrap (x5 + (1 : Int))))
def j6 (x5 : Int) (k : Int → Prop) : Prop :=
  (k x5)
def c (j2000002 : ByteArray → Int → Bool → Prop) (x0 : ByteArray) (x1 : Int) (k : Int → Prop) : Prop :=
  (br (decide (x1 < (0 : Int))) (j2000002 x0 x1 true) (br (decide (x1 ≥ ((((x0).size : Nat) : Int)))) (j2000002 x0 x1 true) ((inB 0 x1 ((((x0).size : Nat) : Int) - 1)) ∧ (N45.f (byteAt x0 x1) (fun (y0_0 : Bool) => (j2000002 x0 x1 (!y0_0)))))))
def j5' (ag4 : Int → Prop) (x0 : ByteArray) (x5 : Int) (k : Int → Prop) : Prop := j5 ag4 x0 x5 k
def j6' (x5 : Int) (k : Int → Prop) : Prop := j6 x5 k
def l4' (x0 : ByteArray) (x5 : Int) (k : Int → Prop) : Prop := ∃ n, loopS (fun (ag : (Int) → Prop) (s : Int) => l4 (fun x0 x5 => j5' (fun x5 => ag (x5)) x0 x5 k) (fun x5 => j6' x5 k) x0 s k) n (x5)
def j3' (x0 : ByteArray) (x1 : Int) (k : Int → Prop) : Prop := j3 (fun x0 x5 => l4' x0 x5 k) x0 x1 k
def j2000002' (x0 : ByteArray) (x1 : Int) (x20 : Bool) (k : Int → Prop) : Prop := j2000002 (fun x0 x1 => j3' x0 x1 k) x0 x1 x20 k
def f0 (x0 : ByteArray) (x1 : Int) (k : Int → Prop) : Prop := c (fun x0 x1 x20 => j2000002' x0 x1 x20 k) x0 x1 k
theorem f_ex : ∃ g : ByteArray → Int → (Int → Prop) → Prop, g = f0 := ⟨_, rfl⟩
noncomputable def f : ByteArray → Int → (Int → Prop) → Prop := Classical.choose f_ex
theorem f_def : f = f0 := Classical.choose_spec f_ex
def m2000002 (x0 : ByteArray) (x1 : Int) (x20 : Bool) : St := { tmps := mkT 49 0 [(0, (.v (.string x0))), (1, (.v (.int IntKind.i64 x1))), (20, (.v (.bool x20)))], hp := [], m := 0 }
def m3 (x0 : ByteArray) (x1 : Int) : St := { tmps := mkT 49 0 [(0, (.v (.string x0))), (1, (.v (.int IntKind.i64 x1)))], hp := [], m := 0 }
def mL4 (x0 : ByteArray) (x5 : Int) : St := { tmps := mkT 49 0 [(0, (.v (.string x0))), (5, (.v (.int IntKind.i64 x5)))], hp := [], m := 0 }
def m5 (x0 : ByteArray) (x5 : Int) : St := { tmps := mkT 49 0 [(0, (.v (.string x0))), (5, (.v (.int IntKind.i64 x5)))], hp := [], m := 0 }
def m6 (x5 : Int) : St := { tmps := mkT 49 0 [(5, (.v (.int IntKind.i64 x5)))], hp := [], m := 0 }
noncomputable def X2000002 (k kp : D → List Blk → Prop) : St → Prop := atP cfg (pick none' []) [1, 0, 1] body (topK cfg Try.f20 k kp)
noncomputable def X3 (k kp : D → List Blk → Prop) : St → Prop := atP cfg (pick none' []) [1, 1] body (topK cfg Try.f20 k kp)
noncomputable def YL4 (k kp : D → List Blk → Prop) : (St → Prop) → St → Prop := loopB cfg (sub [1, 1, 1, 0, 0, 0] body) (contK cfg (pick none' []) [1, 1, 1, 0, 0] body (topK cfg Try.f20 k kp))
noncomputable def XL4 (k kp : D → List Blk → Prop) : St → Prop := fun st => ∃ n, loopN (YL4 k kp) n st
noncomputable def X5 (k kp : D → List Blk → Prop) (ag4 : St → Prop) : St → Prop := atP cfg (pick none' [(4, ag4)]) [1, 1, 1, 0, 0, 0, 1] body (topK cfg Try.f20 k kp)
noncomputable def X6 (k kp : D → List Blk → Prop) : St → Prop := atP cfg (pick none' []) [1, 1, 1, 1] body (topK cfg Try.f20 k kp)
noncomputable def JJ (k kp : D → List Blk → Prop) : Nat → St → Prop := pick none' [(2000002, X2000002 k kp), (3, X3 k kp), (6, X6 k kp)]
noncomputable def LL (k kp : D → List Blk → Prop) : Nat → St → Prop := pick none' [(4, XL4 k kp)]
noncomputable def JJ_4 (k kp : D → List Blk → Prop) (ag4 : St → Prop) : Nat → St → Prop := pick none' [(2000002, X2000002 k kp), (3, X3 k kp), (5, X5 k kp ag4), (6, X6 k kp)]
noncomputable def LL_4 (k kp : D → List Blk → Prop) (ag4 : St → Prop) : Nat → St → Prop := pick none' [(4, XL4 k kp)]
theorem j5_c (k kp : D → List Blk → Prop) (J L : Nat → St → Prop) (ag4 : St → Prop) (x0 : ByteArray) (x5 : Int) : runC cfg 5 J L (pick none' [(4, ag4)]) [1, 1, 1, 0, 0, 0, 1] body (topK cfg Try.f20 k kp) (m5 x0 x5) = j5 (fun x5 => ag4 (mL4 x0 x5)) x0 x5 (fun y0 => k (.v (.int IntKind.i64 y0)) []) := by kernel_rfl
theorem j5_ag (k kp : D → List Blk → Prop) (ag4 : St → Prop) : agPL cfg 5 (JJ_4 k kp ag4) (LL_4 k kp ag4) [1, 1, 1, 0, 0, 0, 1] body = agPR cfg 5 (pick none' [(4, ag4)]) [1, 1, 1, 0, 0, 0, 1] body (topK cfg Try.f20 k kp) := by kernel_rfl
theorem j5_raw (k kp : D → List Blk → Prop) (ag4 : St → Prop) (x0 : ByteArray) (x5 : Int) : X5 k kp ag4 (m5 x0 x5) = j5 (fun x5 => ag4 (mL4 x0 x5)) x0 x5 (fun y0 => k (.v (.int IntKind.i64 y0)) []) :=
  Eq.mp (by kernel_rfl) ((atP_run (j5_ag k kp ag4) (m5 x0 x5)).trans (j5_c k kp (JJ_4 k kp ag4) (LL_4 k kp ag4) ag4 x0 x5))
theorem j5_eq (k kp : D → List Blk → Prop) (ag4 : St → Prop) (x0 : ByteArray) (x5 : Int) : X5 k kp ag4 (m5 x0 x5) = j5' (fun x5 => ag4 (mL4 x0 x5)) x0 x5 (fun y0 => k (.v (.int IntKind.i64 y0)) []) := by
  rw [j5_raw]; rfl
theorem j6_c (k kp : D → List Blk → Prop) (J L : Nat → St → Prop) (x5 : Int) : runC cfg 6 J L (pick none' []) [1, 1, 1, 1] body (topK cfg Try.f20 k kp) (m6 x5) = j6 x5 (fun y0 => k (.v (.int IntKind.i64 y0)) []) := by kernel_rfl
theorem j6_ag (k kp : D → List Blk → Prop) : agPL cfg 6 (JJ k kp) (LL k kp) [1, 1, 1, 1] body = agPR cfg 6 (pick none' []) [1, 1, 1, 1] body (topK cfg Try.f20 k kp) := by kernel_rfl
theorem j6_raw (k kp : D → List Blk → Prop) (x5 : Int) : X6 k kp (m6 x5) = j6 x5 (fun y0 => k (.v (.int IntKind.i64 y0)) []) :=
  Eq.mp (by kernel_rfl) ((atP_run (j6_ag k kp) (m6 x5)).trans (j6_c k kp (JJ k kp) (LL k kp) x5))
theorem j6_eq (k kp : D → List Blk → Prop) (x5 : Int) : X6 k kp (m6 x5) = j6' x5 (fun y0 => k (.v (.int IntKind.i64 y0)) []) := by
  rw [j6_raw]; rfl
theorem l4_c (k kp : D → List Blk → Prop) (J L : Nat → St → Prop) (ag4 : St → Prop) (x0 : ByteArray) (x5 : Int) : runC cfg 1000001 J L (pick none' [(4, ag4)]) [1, 1, 1, 0, 0, 0] body (topK cfg Try.f20 k kp) (mL4 x0 x5) = l4 (fun x0 x5 => J 5 (m5 x0 x5)) (fun x5 => J 6 (m6 x5)) x0 x5 (fun y0 => k (.v (.int IntKind.i64 y0)) []) := by kernel_rfl
theorem l4_ag (k kp : D → List Blk → Prop) (ag4 : St → Prop) : agPL cfg 1000001 (JJ_4 k kp ag4) (LL_4 k kp ag4) [1, 1, 1, 0, 0, 0] body = agPR cfg 1000001 (pick none' [(4, ag4)]) [1, 1, 1, 0, 0, 0] body (topK cfg Try.f20 k kp) := by kernel_rfl
theorem l4_raw (k kp : D → List Blk → Prop) (ag4 : St → Prop) (x0 : ByteArray) (x5 : Int) : YL4 k kp ag4 (mL4 x0 x5) = l4 (fun x0 x5 => X5 k kp ag4 (m5 x0 x5)) (fun x5 => X6 k kp (m6 x5)) x0 x5 (fun y0 => k (.v (.int IntKind.i64 y0)) []) :=
  Eq.mp (by kernel_rfl) ((atP_run (l4_ag k kp ag4) (mL4 x0 x5)).trans (l4_c k kp (JJ_4 k kp ag4) (LL_4 k kp ag4) ag4 x0 x5))
theorem l4_eq (k kp : D → List Blk → Prop) (x0 : ByteArray) (x5 : Int) : XL4 k kp (mL4 x0 x5) = l4' x0 x5 (fun y0 => k (.v (.int IntKind.i64 y0)) []) :=
  loop_eq (mk := fun (s : Int) => mL4 x0 s) (fun again s => by rw [l4_raw k kp again x0 s]; simp only [j5_eq, j6_eq]; first | done | rfl) (x5)
theorem j3_c (k kp : D → List Blk → Prop) (J L : Nat → St → Prop) (x0 : ByteArray) (x1 : Int) : runC cfg 3 J L (pick none' []) [1, 1] body (topK cfg Try.f20 k kp) (m3 x0 x1) = j3 (fun x0 x5 => L 4 (mL4 x0 x5)) x0 x1 (fun y0 => k (.v (.int IntKind.i64 y0)) []) := by kernel_rfl
theorem j3_ag (k kp : D → List Blk → Prop) : agPL cfg 3 (JJ k kp) (LL k kp) [1, 1] body = agPR cfg 3 (pick none' []) [1, 1] body (topK cfg Try.f20 k kp) := by kernel_rfl
theorem j3_raw (k kp : D → List Blk → Prop) (x0 : ByteArray) (x1 : Int) : X3 k kp (m3 x0 x1) = j3 (fun x0 x5 => XL4 k kp (mL4 x0 x5)) x0 x1 (fun y0 => k (.v (.int IntKind.i64 y0)) []) :=
  Eq.mp (by kernel_rfl) ((atP_run (j3_ag k kp) (m3 x0 x1)).trans (j3_c k kp (JJ k kp) (LL k kp) x0 x1))
theorem j3_eq (k kp : D → List Blk → Prop) (x0 : ByteArray) (x1 : Int) : X3 k kp (m3 x0 x1) = j3' x0 x1 (fun y0 => k (.v (.int IntKind.i64 y0)) []) := by
  rw [j3_raw]; simp only [l4_eq]; first | done | rfl
theorem j2000002_c (k kp : D → List Blk → Prop) (J L : Nat → St → Prop) (x0 : ByteArray) (x1 : Int) (x20 : Bool) : runC cfg 2000002 J L (pick none' []) [1, 0, 1] body (topK cfg Try.f20 k kp) (m2000002 x0 x1 x20) = j2000002 (fun x0 x1 => J 3 (m3 x0 x1)) x0 x1 x20 (fun y0 => k (.v (.int IntKind.i64 y0)) []) := by kernel_rfl
theorem j2000002_ag (k kp : D → List Blk → Prop) : agPL cfg 2000002 (JJ k kp) (LL k kp) [1, 0, 1] body = agPR cfg 2000002 (pick none' []) [1, 0, 1] body (topK cfg Try.f20 k kp) := by kernel_rfl
theorem j2000002_raw (k kp : D → List Blk → Prop) (x0 : ByteArray) (x1 : Int) (x20 : Bool) : X2000002 k kp (m2000002 x0 x1 x20) = j2000002 (fun x0 x1 => X3 k kp (m3 x0 x1)) x0 x1 x20 (fun y0 => k (.v (.int IntKind.i64 y0)) []) :=
  Eq.mp (by kernel_rfl) ((atP_run (j2000002_ag k kp) (m2000002 x0 x1 x20)).trans (j2000002_c k kp (JJ k kp) (LL k kp) x0 x1 x20))
theorem j2000002_eq (k kp : D → List Blk → Prop) (x0 : ByteArray) (x1 : Int) (x20 : Bool) : X2000002 k kp (m2000002 x0 x1 x20) = j2000002' x0 x1 x20 (fun y0 => k (.v (.int IntKind.i64 y0)) []) := by
  rw [j2000002_raw]; simp only [j3_eq]; first | done | rfl
theorem c_c (k kp : D → List Blk → Prop) (J L : Nat → St → Prop) (x0 : ByteArray) (x1 : Int) : runC cfg 1000001 J L none'' [] body (topK cfg Try.f20 k kp) (st0 Try.f20 [(.v (.string x0)), (.v (.int IntKind.i64 x1))] []) = c (fun x0 x1 x20 => J 2000002 (m2000002 x0 x1 x20)) x0 x1 (fun y0 => k (.v (.int IntKind.i64 y0)) []) := by kernel_rfl
theorem c_ag (k kp : D → List Blk → Prop) : agPL cfg 1000001 (JJ k kp) (LL k kp) [] body = agPR cfg 1000001 none'' [] body (topK cfg Try.f20 k kp) := by kernel_rfl
theorem body_is : Try.f20.body = some body := by kernel_rfl
theorem c_raw (k kp : D → List Blk → Prop) (x0 : ByteArray) (x1 : Int) : funW cfg Try.f20 [(.v (.string x0)), (.v (.int IntKind.i64 x1))] [] k kp = c (fun x0 x1 x20 => X2000002 k kp (m2000002 x0 x1 x20)) x0 x1 (fun y0 => k (.v (.int IntKind.i64 y0)) []) :=
  Eq.mp (by kernel_rfl) ((funW_run (AG := none'') body_is (c_ag k kp) [(.v (.string x0)), (.v (.int IntKind.i64 x1))] []).trans (c_c k kp (JJ k kp) (LL k kp) x0 x1))
theorem f_eq (k kp : D → List Blk → Prop) (x0 : ByteArray) (x1 : Int) : funW cfg Try.f20 [(.v (.string x0)), (.v (.int IntKind.i64 x1))] [] k kp = f x0 x1 (fun y0 => k (.v (.int IntKind.i64 y0)) []) := by
  rw [f_def, c_raw]; simp only [j2000002_eq]; first | done | rfl
noncomputable def ent0 : Entry := fun args blks k _ => match args, blks with
  | [d0, d1], [] => aStr d0 fun x0 => aInt IntKind.i64 d1 fun x1 => f x0 x1 (fun y0 => k (.v (.int IntKind.i64 y0)) [])
  | _, _ => False
noncomputable def ent : Entry := fun args blks k kp => ent0 (convA [none, none] args) blks k kp
theorem ok : EntOk Try.prog 0 0 20 ent := by
  refine EntOk.conv (EntOk.of (funW_ok (cfg := cfg) (tyOk_of rfl rfl tyL_ok) (eqOk_none rfl) mixed_ok (tab_ok ?_) Try.func20 (by rfl) (by rfl)) ?_) _
  · intro p hp
    simp only [List.mem_cons, List.not_mem_nil, or_false] at hp
    rcases hp with rfl
    · exact N45.ok
  · intro args blks k kp h k' kp'
    match args, blks, h with
    | [d0, d1], [], h =>
    dsimp only [ent0] at h
    have h9 := aStr_elim h; clear h; obtain ⟨x0, rfl, h⟩ := h9
    have h9 := aInt_elim h; clear h; obtain ⟨x1, rfl, h⟩ := h9
    exact (f_eq k' kp' x0 x1).symm
end N20
end Go.Proofs.Yt
namespace Go.Proofs.Yt
open Go Go.Aw Go.Proofs
set_option linter.unusedVariables false
set_option linter.unusedSimpArgs false
set_option maxRecDepth 100000
/-! dyehouse/dyehouseref04.Fresh -/
namespace N24
noncomputable def cfg : Cfg := { P := Try.prog, ty := tys, E := tab [(35, N35.ent), (17, N17.ent)], atSeq := tab [(14, ⟨[]⟩), (10, ⟨[(0, .keep), (1, .keep), (5, .keep), (6, .keep), (7, .keep), (8, .keep)]⟩), (12, ⟨[(0, .keep), (1, .keep), (5, .keep), (6, .keep), (7, .keep)]⟩), (3, ⟨[(0, .keep), (1, .keep), (5, .keep)]⟩)], atLoop := tab [(2, ⟨[(0, .keep), (1, .keep), (5, .keep)]⟩), (9, ⟨[(0, .keep), (1, .keep), (5, .keep), (6, .keep), (7, .keep), (8, .keep)]⟩)], outs := [] }
noncomputable def body : Code := bodyOf Try.f24
def l2 (l9 : ByteArray → (List ByteArray) → Int → ByteArray → Bool → Int → Prop) (j14 : Prop) (x0 : ByteArray) (x1 : (List ByteArray)) (x5 : Int) (k : ByteArray → Prop) : Prop :=
  (br (decide (x5 ≤ ((((x1).length : Nat) : Int)))) (N35.f x5 (fun (y0_0 : ByteArray) => (((x0).size + (y0_0).size ≤ 9223372036854775807) ∧ (N17.f (x0 ++ y0_0) (fun (y0_1 : Bool) => (br (!y0_1) (k (ByteArray.mk #[])) (l9 x0 x1 x5 (x0 ++ y0_0) false (0 : Int)))))))) (j14))
def l9 (j10 : ByteArray → (List ByteArray) → Int → ByteArray → Bool → Int → Prop) (j12 : ByteArray → (List ByteArray) → Int → ByteArray → Bool → Prop) (x0 : ByteArray) (x1 : (List ByteArray)) (x5 : Int) (x6 : ByteArray) (x7 : Bool) (x8 : Int) (k : ByteArray → Prop) : Prop :=
  (br (decide (x8 < ((((x1).length : Nat) : Int)))) (br x7 (j10 x0 x1 x5 x6 true x8) ((inB 0 x8 ((((x1).length : Nat) : Int) - 1)) ∧ (j10 x0 x1 x5 x6 (beqS (x1.getD (Int.toNat x8) (ByteArray.empty)) x6) x8))) (j12 x0 x1 x5 x6 x7))
def j14 (k : ByteArray → Prop) : Prop :=
  (k (ByteArray.mk #[]))
def j10 (ag9 : Bool → Int → Prop) (x0 : ByteArray) (x1 : (List ByteArray)) (x5 : Int) (x6 : ByteArray) (x7 : Bool) (x8 : Int) (k : ByteArray → Prop) : Prop :=
  (ag9 x7 (IntKind.i64.wrap (x8 + (1 : Int))))
def j12 (j3 : ByteArray → (List ByteArray) → Int → Prop) (x0 : ByteArray) (x1 : (List ByteArray)) (x5 : Int) (x6 : ByteArray) (x7 : Bool) (k : ByteArray → Prop) : Prop :=
  (br (!x7) (k x6) (j3 x0 x1 x5))
def j3 (ag2 : Int → Prop) (x0 : ByteArray) (x1 : (List ByteArray)) (x5 : Int) (k : ByteArray → Prop) : Prop :=
  (ag2 (IntKind.i64.wrap (x5 + (1 : Int))))
def c (l2 : ByteArray → (List ByteArray) → Int → Prop) (x0 : ByteArray) (x1 : (List ByteArray)) (k : ByteArray → Prop) : Prop :=
  (l2 x0 x1 (0 : Int))
def j14' (k : ByteArray → Prop) : Prop := j14 k
def j10' (ag9 : Bool → Int → Prop) (x0 : ByteArray) (x1 : (List ByteArray)) (x5 : Int) (x6 : ByteArray) (x7 : Bool) (x8 : Int) (k : ByteArray → Prop) : Prop := j10 ag9 x0 x1 x5 x6 x7 x8 k
def j3' (ag2 : Int → Prop) (x0 : ByteArray) (x1 : (List ByteArray)) (x5 : Int) (k : ByteArray → Prop) : Prop := j3 ag2 x0 x1 x5 k
def j12' (ag2 : Int → Prop) (x0 : ByteArray) (x1 : (List ByteArray)) (x5 : Int) (x6 : ByteArray) (x7 : Bool) (k : ByteArray → Prop) : Prop := j12 (fun x0 x1 x5 => j3' ag2 x0 x1 x5 k) x0 x1 x5 x6 x7 k
def l9' (ag2 : Int → Prop) (x0 : ByteArray) (x1 : (List ByteArray)) (x5 : Int) (x6 : ByteArray) (x7 : Bool) (x8 : Int) (k : ByteArray → Prop) : Prop := ∃ n, loopS (fun (ag : (Bool × Int) → Prop) (s : Bool × Int) => l9 (fun x0 x1 x5 x6 x7 x8 => j10' (fun x7 x8 => ag (x7, x8)) x0 x1 x5 x6 x7 x8 k) (fun x0 x1 x5 x6 x7 => j12' ag2 x0 x1 x5 x6 x7 k) x0 x1 x5 x6 s.1 s.2 k) n (x7, x8)
def l2' (x0 : ByteArray) (x1 : (List ByteArray)) (x5 : Int) (k : ByteArray → Prop) : Prop := ∃ n, loopS (fun (ag : (Int) → Prop) (s : Int) => l2 (fun x0 x1 x5 x6 x7 x8 => l9' (fun x5 => ag (x5)) x0 x1 x5 x6 x7 x8 k) (j14' k) x0 x1 s k) n (x5)
def f0 (x0 : ByteArray) (x1 : (List ByteArray)) (k : ByteArray → Prop) : Prop := c (fun x0 x1 x5 => l2' x0 x1 x5 k) x0 x1 k
theorem f_ex : ∃ g : ByteArray → (List ByteArray) → (ByteArray → Prop) → Prop, g = f0 := ⟨_, rfl⟩
noncomputable def f : ByteArray → (List ByteArray) → (ByteArray → Prop) → Prop := Classical.choose f_ex
theorem f_def : f = f0 := Classical.choose_spec f_ex
def mL2 (x0 : ByteArray) (x1 : (List ByteArray)) (x5 : Int) : St := { tmps := mkT 40 0 [(0, (.v (.string x0))), (1, (.fz Ty.str x1)), (5, (.v (.int IntKind.i64 x5)))], hp := [], m := 0 }
def mL9 (x0 : ByteArray) (x1 : (List ByteArray)) (x5 : Int) (x6 : ByteArray) (x7 : Bool) (x8 : Int) : St := { tmps := mkT 40 0 [(0, (.v (.string x0))), (1, (.fz Ty.str x1)), (5, (.v (.int IntKind.i64 x5))), (6, (.v (.string x6))), (7, (.v (.bool x7))), (8, (.v (.int IntKind.i64 x8)))], hp := [], m := 0 }
def m14 : St := { tmps := mkT 40 0 [], hp := [], m := 0 }
def m10 (x0 : ByteArray) (x1 : (List ByteArray)) (x5 : Int) (x6 : ByteArray) (x7 : Bool) (x8 : Int) : St := { tmps := mkT 40 0 [(0, (.v (.string x0))), (1, (.fz Ty.str x1)), (5, (.v (.int IntKind.i64 x5))), (6, (.v (.string x6))), (7, (.v (.bool x7))), (8, (.v (.int IntKind.i64 x8)))], hp := [], m := 0 }
def m12 (x0 : ByteArray) (x1 : (List ByteArray)) (x5 : Int) (x6 : ByteArray) (x7 : Bool) : St := { tmps := mkT 40 0 [(0, (.v (.string x0))), (1, (.fz Ty.str x1)), (5, (.v (.int IntKind.i64 x5))), (6, (.v (.string x6))), (7, (.v (.bool x7)))], hp := [], m := 0 }
def m3 (x0 : ByteArray) (x1 : (List ByteArray)) (x5 : Int) : St := { tmps := mkT 40 0 [(0, (.v (.string x0))), (1, (.fz Ty.str x1)), (5, (.v (.int IntKind.i64 x5)))], hp := [], m := 0 }
noncomputable def YL2 (k kp : D → List Blk → Prop) : (St → Prop) → St → Prop := loopB cfg (sub [1, 0, 1, 0, 0] body) (contK cfg (pick none' []) [1, 0, 1, 0] body (topK cfg Try.f24 k kp))
noncomputable def XL2 (k kp : D → List Blk → Prop) : St → Prop := fun st => ∃ n, loopN (YL2 k kp) n st
noncomputable def YL9 (k kp : D → List Blk → Prop) (ag2 : St → Prop) : (St → Prop) → St → Prop := loopB cfg (sub [1, 0, 1, 0, 0, 1, 0, 0, 1, 1, 1, 0, 1, 0, 0] body) (contK cfg (pick none' [(2, ag2)]) [1, 0, 1, 0, 0, 1, 0, 0, 1, 1, 1, 0, 1, 0] body (topK cfg Try.f24 k kp))
noncomputable def XL9 (k kp : D → List Blk → Prop) (ag2 : St → Prop) : St → Prop := fun st => ∃ n, loopN (YL9 k kp ag2) n st
noncomputable def X14 (k kp : D → List Blk → Prop) : St → Prop := atP cfg (pick none' []) [1, 1] body (topK cfg Try.f24 k kp)
noncomputable def X10 (k kp : D → List Blk → Prop) (ag2 : St → Prop) (ag9 : St → Prop) : St → Prop := atP cfg (pick none' [(2, ag2), (9, ag9)]) [1, 0, 1, 0, 0, 1, 0, 0, 1, 1, 1, 0, 1, 0, 0, 1, 1] body (topK cfg Try.f24 k kp)
noncomputable def X12 (k kp : D → List Blk → Prop) (ag2 : St → Prop) : St → Prop := atP cfg (pick none' [(2, ag2)]) [1, 0, 1, 0, 0, 1, 0, 0, 1, 1, 1, 1] body (topK cfg Try.f24 k kp)
noncomputable def X3 (k kp : D → List Blk → Prop) (ag2 : St → Prop) : St → Prop := atP cfg (pick none' [(2, ag2)]) [1, 0, 1, 0, 0, 1, 1] body (topK cfg Try.f24 k kp)
noncomputable def JJ_2 (k kp : D → List Blk → Prop) (ag2 : St → Prop) : Nat → St → Prop := pick none' [(14, X14 k kp), (12, X12 k kp ag2), (3, X3 k kp ag2)]
noncomputable def LL_2 (k kp : D → List Blk → Prop) (ag2 : St → Prop) : Nat → St → Prop := pick none' [(2, XL2 k kp), (9, XL9 k kp ag2)]
noncomputable def JJ_2_9 (k kp : D → List Blk → Prop) (ag2 : St → Prop) (ag9 : St → Prop) : Nat → St → Prop := pick none' [(14, X14 k kp), (10, X10 k kp ag2 ag9), (12, X12 k kp ag2), (3, X3 k kp ag2)]
noncomputable def LL_2_9 (k kp : D → List Blk → Prop) (ag2 : St → Prop) (ag9 : St → Prop) : Nat → St → Prop := pick none' [(2, XL2 k kp), (9, XL9 k kp ag2)]
noncomputable def JJ (k kp : D → List Blk → Prop) : Nat → St → Prop := pick none' [(14, X14 k kp)]
noncomputable def LL (k kp : D → List Blk → Prop) : Nat → St → Prop := pick none' [(2, XL2 k kp)]
theorem j14_c (k kp : D → List Blk → Prop) (J L : Nat → St → Prop) : runC cfg 14 J L (pick none' []) [1, 1] body (topK cfg Try.f24 k kp) (m14) = j14 (fun y0 => k (.v (.string y0)) []) := by kernel_rfl
theorem j14_ag (k kp : D → List Blk → Prop) : agPL cfg 14 (JJ k kp) (LL k kp) [1, 1] body = agPR cfg 14 (pick none' []) [1, 1] body (topK cfg Try.f24 k kp) := by kernel_rfl
theorem j14_raw (k kp : D → List Blk → Prop) : X14 k kp (m14) = j14 (fun y0 => k (.v (.string y0)) []) :=
  Eq.mp (by kernel_rfl) ((atP_run (j14_ag k kp) (m14)).trans (j14_c k kp (JJ k kp) (LL k kp)))
theorem j14_eq (k kp : D → List Blk → Prop) : X14 k kp (m14) = j14' (fun y0 => k (.v (.string y0)) []) := by
  rw [j14_raw]; rfl
theorem j10_c (k kp : D → List Blk → Prop) (J L : Nat → St → Prop) (ag2 : St → Prop) (ag9 : St → Prop) (x0 : ByteArray) (x1 : (List ByteArray)) (x5 : Int) (x6 : ByteArray) (x7 : Bool) (x8 : Int) : runC cfg 10 J L (pick none' [(2, ag2), (9, ag9)]) [1, 0, 1, 0, 0, 1, 0, 0, 1, 1, 1, 0, 1, 0, 0, 1, 1] body (topK cfg Try.f24 k kp) (m10 x0 x1 x5 x6 x7 x8) = j10 (fun x7 x8 => ag9 (mL9 x0 x1 x5 x6 x7 x8)) x0 x1 x5 x6 x7 x8 (fun y0 => k (.v (.string y0)) []) := by kernel_rfl
theorem j10_ag (k kp : D → List Blk → Prop) (ag2 : St → Prop) (ag9 : St → Prop) : agPL cfg 10 (JJ_2_9 k kp ag2 ag9) (LL_2_9 k kp ag2 ag9) [1, 0, 1, 0, 0, 1, 0, 0, 1, 1, 1, 0, 1, 0, 0, 1, 1] body = agPR cfg 10 (pick none' [(2, ag2), (9, ag9)]) [1, 0, 1, 0, 0, 1, 0, 0, 1, 1, 1, 0, 1, 0, 0, 1, 1] body (topK cfg Try.f24 k kp) := by kernel_rfl
theorem j10_raw (k kp : D → List Blk → Prop) (ag2 : St → Prop) (ag9 : St → Prop) (x0 : ByteArray) (x1 : (List ByteArray)) (x5 : Int) (x6 : ByteArray) (x7 : Bool) (x8 : Int) : X10 k kp ag2 ag9 (m10 x0 x1 x5 x6 x7 x8) = j10 (fun x7 x8 => ag9 (mL9 x0 x1 x5 x6 x7 x8)) x0 x1 x5 x6 x7 x8 (fun y0 => k (.v (.string y0)) []) :=
  Eq.mp (by kernel_rfl) ((atP_run (j10_ag k kp ag2 ag9) (m10 x0 x1 x5 x6 x7 x8)).trans (j10_c k kp (JJ_2_9 k kp ag2 ag9) (LL_2_9 k kp ag2 ag9) ag2 ag9 x0 x1 x5 x6 x7 x8))
theorem j10_eq (k kp : D → List Blk → Prop) (ag2 : St → Prop) (ag9 : St → Prop) (x0 : ByteArray) (x1 : (List ByteArray)) (x5 : Int) (x6 : ByteArray) (x7 : Bool) (x8 : Int) : X10 k kp ag2 ag9 (m10 x0 x1 x5 x6 x7 x8) = j10' (fun x7 x8 => ag9 (mL9 x0 x1 x5 x6 x7 x8)) x0 x1 x5 x6 x7 x8 (fun y0 => k (.v (.string y0)) []) := by
  rw [j10_raw]; rfl
theorem j3_c (k kp : D → List Blk → Prop) (J L : Nat → St → Prop) (ag2 : St → Prop) (x0 : ByteArray) (x1 : (List ByteArray)) (x5 : Int) : runC cfg 3 J L (pick none' [(2, ag2)]) [1, 0, 1, 0, 0, 1, 1] body (topK cfg Try.f24 k kp) (m3 x0 x1 x5) = j3 (fun x5 => ag2 (mL2 x0 x1 x5)) x0 x1 x5 (fun y0 => k (.v (.string y0)) []) := by kernel_rfl
theorem j3_ag (k kp : D → List Blk → Prop) (ag2 : St → Prop) : agPL cfg 3 (JJ_2 k kp ag2) (LL_2 k kp ag2) [1, 0, 1, 0, 0, 1, 1] body = agPR cfg 3 (pick none' [(2, ag2)]) [1, 0, 1, 0, 0, 1, 1] body (topK cfg Try.f24 k kp) := by kernel_rfl
theorem j3_raw (k kp : D → List Blk → Prop) (ag2 : St → Prop) (x0 : ByteArray) (x1 : (List ByteArray)) (x5 : Int) : X3 k kp ag2 (m3 x0 x1 x5) = j3 (fun x5 => ag2 (mL2 x0 x1 x5)) x0 x1 x5 (fun y0 => k (.v (.string y0)) []) :=
  Eq.mp (by kernel_rfl) ((atP_run (j3_ag k kp ag2) (m3 x0 x1 x5)).trans (j3_c k kp (JJ_2 k kp ag2) (LL_2 k kp ag2) ag2 x0 x1 x5))
theorem j3_eq (k kp : D → List Blk → Prop) (ag2 : St → Prop) (x0 : ByteArray) (x1 : (List ByteArray)) (x5 : Int) : X3 k kp ag2 (m3 x0 x1 x5) = j3' (fun x5 => ag2 (mL2 x0 x1 x5)) x0 x1 x5 (fun y0 => k (.v (.string y0)) []) := by
  rw [j3_raw]; rfl
theorem j12_c (k kp : D → List Blk → Prop) (J L : Nat → St → Prop) (ag2 : St → Prop) (x0 : ByteArray) (x1 : (List ByteArray)) (x5 : Int) (x6 : ByteArray) (x7 : Bool) : runC cfg 12 J L (pick none' [(2, ag2)]) [1, 0, 1, 0, 0, 1, 0, 0, 1, 1, 1, 1] body (topK cfg Try.f24 k kp) (m12 x0 x1 x5 x6 x7) = j12 (fun x0 x1 x5 => J 3 (m3 x0 x1 x5)) x0 x1 x5 x6 x7 (fun y0 => k (.v (.string y0)) []) := by kernel_rfl
theorem j12_ag (k kp : D → List Blk → Prop) (ag2 : St → Prop) : agPL cfg 12 (JJ_2 k kp ag2) (LL_2 k kp ag2) [1, 0, 1, 0, 0, 1, 0, 0, 1, 1, 1, 1] body = agPR cfg 12 (pick none' [(2, ag2)]) [1, 0, 1, 0, 0, 1, 0, 0, 1, 1, 1, 1] body (topK cfg Try.f24 k kp) := by kernel_rfl
theorem j12_raw (k kp : D → List Blk → Prop) (ag2 : St → Prop) (x0 : ByteArray) (x1 : (List ByteArray)) (x5 : Int) (x6 : ByteArray) (x7 : Bool) : X12 k kp ag2 (m12 x0 x1 x5 x6 x7) = j12 (fun x0 x1 x5 => X3 k kp ag2 (m3 x0 x1 x5)) x0 x1 x5 x6 x7 (fun y0 => k (.v (.string y0)) []) :=
  Eq.mp (by kernel_rfl) ((atP_run (j12_ag k kp ag2) (m12 x0 x1 x5 x6 x7)).trans (j12_c k kp (JJ_2 k kp ag2) (LL_2 k kp ag2) ag2 x0 x1 x5 x6 x7))
theorem j12_eq (k kp : D → List Blk → Prop) (ag2 : St → Prop) (x0 : ByteArray) (x1 : (List ByteArray)) (x5 : Int) (x6 : ByteArray) (x7 : Bool) : X12 k kp ag2 (m12 x0 x1 x5 x6 x7) = j12' (fun x5 => ag2 (mL2 x0 x1 x5)) x0 x1 x5 x6 x7 (fun y0 => k (.v (.string y0)) []) := by
  rw [j12_raw]; simp only [j3_eq]; first | done | rfl
theorem l9_c (k kp : D → List Blk → Prop) (J L : Nat → St → Prop) (ag2 : St → Prop) (ag9 : St → Prop) (x0 : ByteArray) (x1 : (List ByteArray)) (x5 : Int) (x6 : ByteArray) (x7 : Bool) (x8 : Int) : runC cfg 1000001 J L (pick none' [(2, ag2), (9, ag9)]) [1, 0, 1, 0, 0, 1, 0, 0, 1, 1, 1, 0, 1, 0, 0] body (topK cfg Try.f24 k kp) (mL9 x0 x1 x5 x6 x7 x8) = l9 (fun x0 x1 x5 x6 x7 x8 => J 10 (m10 x0 x1 x5 x6 x7 x8)) (fun x0 x1 x5 x6 x7 => J 12 (m12 x0 x1 x5 x6 x7)) x0 x1 x5 x6 x7 x8 (fun y0 => k (.v (.string y0)) []) := by kernel_rfl
theorem l9_ag (k kp : D → List Blk → Prop) (ag2 : St → Prop) (ag9 : St → Prop) : agPL cfg 1000001 (JJ_2_9 k kp ag2 ag9) (LL_2_9 k kp ag2 ag9) [1, 0, 1, 0, 0, 1, 0, 0, 1, 1, 1, 0, 1, 0, 0] body = agPR cfg 1000001 (pick none' [(2, ag2), (9, ag9)]) [1, 0, 1, 0, 0, 1, 0, 0, 1, 1, 1, 0, 1, 0, 0] body (topK cfg Try.f24 k kp) := by kernel_rfl
theorem l9_raw (k kp : D → List Blk → Prop) (ag2 : St → Prop) (ag9 : St → Prop) (x0 : ByteArray) (x1 : (List ByteArray)) (x5 : Int) (x6 : ByteArray) (x7 : Bool) (x8 : Int) : YL9 k kp ag2 ag9 (mL9 x0 x1 x5 x6 x7 x8) = l9 (fun x0 x1 x5 x6 x7 x8 => X10 k kp ag2 ag9 (m10 x0 x1 x5 x6 x7 x8)) (fun x0 x1 x5 x6 x7 => X12 k kp ag2 (m12 x0 x1 x5 x6 x7)) x0 x1 x5 x6 x7 x8 (fun y0 => k (.v (.string y0)) []) :=
  Eq.mp (by kernel_rfl) ((atP_run (l9_ag k kp ag2 ag9) (mL9 x0 x1 x5 x6 x7 x8)).trans (l9_c k kp (JJ_2_9 k kp ag2 ag9) (LL_2_9 k kp ag2 ag9) ag2 ag9 x0 x1 x5 x6 x7 x8))
theorem l9_eq (k kp : D → List Blk → Prop) (ag2 : St → Prop) (x0 : ByteArray) (x1 : (List ByteArray)) (x5 : Int) (x6 : ByteArray) (x7 : Bool) (x8 : Int) : XL9 k kp ag2 (mL9 x0 x1 x5 x6 x7 x8) = l9' (fun x5 => ag2 (mL2 x0 x1 x5)) x0 x1 x5 x6 x7 x8 (fun y0 => k (.v (.string y0)) []) :=
  loop_eq (mk := fun (s : Bool × Int) => mL9 x0 x1 x5 x6 s.1 s.2) (fun again s => by rw [l9_raw k kp ag2 again x0 x1 x5 x6 s.1 s.2]; simp only [j10_eq, j12_eq]; first | done | rfl) (x7, x8)
theorem l2_c (k kp : D → List Blk → Prop) (J L : Nat → St → Prop) (ag2 : St → Prop) (x0 : ByteArray) (x1 : (List ByteArray)) (x5 : Int) : runC cfg 1000001 J L (pick none' [(2, ag2)]) [1, 0, 1, 0, 0] body (topK cfg Try.f24 k kp) (mL2 x0 x1 x5) = l2 (fun x0 x1 x5 x6 x7 x8 => L 9 (mL9 x0 x1 x5 x6 x7 x8)) (J 14 (m14)) x0 x1 x5 (fun y0 => k (.v (.string y0)) []) := by kernel_rfl
theorem l2_ag (k kp : D → List Blk → Prop) (ag2 : St → Prop) : agPL cfg 1000001 (JJ_2 k kp ag2) (LL_2 k kp ag2) [1, 0, 1, 0, 0] body = agPR cfg 1000001 (pick none' [(2, ag2)]) [1, 0, 1, 0, 0] body (topK cfg Try.f24 k kp) := by kernel_rfl
theorem l2_raw (k kp : D → List Blk → Prop) (ag2 : St → Prop) (x0 : ByteArray) (x1 : (List ByteArray)) (x5 : Int) : YL2 k kp ag2 (mL2 x0 x1 x5) = l2 (fun x0 x1 x5 x6 x7 x8 => XL9 k kp ag2 (mL9 x0 x1 x5 x6 x7 x8)) (X14 k kp (m14)) x0 x1 x5 (fun y0 => k (.v (.string y0)) []) :=
  Eq.mp (by kernel_rfl) ((atP_run (l2_ag k kp ag2) (mL2 x0 x1 x5)).trans (l2_c k kp (JJ_2 k kp ag2) (LL_2 k kp ag2) ag2 x0 x1 x5))
theorem l2_eq (k kp : D → List Blk → Prop) (x0 : ByteArray) (x1 : (List ByteArray)) (x5 : Int) : XL2 k kp (mL2 x0 x1 x5) = l2' x0 x1 x5 (fun y0 => k (.v (.string y0)) []) :=
  loop_eq (mk := fun (s : Int) => mL2 x0 x1 s) (fun again s => by rw [l2_raw k kp again x0 x1 s]; simp only [l9_eq, j14_eq]; first | done | rfl) (x5)
theorem c_c (k kp : D → List Blk → Prop) (J L : Nat → St → Prop) (x0 : ByteArray) (x1 : (List ByteArray)) : runC cfg 1000001 J L none'' [] body (topK cfg Try.f24 k kp) (st0 Try.f24 [(.v (.string x0)), (.fz Ty.str x1)] []) = c (fun x0 x1 x5 => L 2 (mL2 x0 x1 x5)) x0 x1 (fun y0 => k (.v (.string y0)) []) := by kernel_rfl
theorem c_ag (k kp : D → List Blk → Prop) : agPL cfg 1000001 (JJ k kp) (LL k kp) [] body = agPR cfg 1000001 none'' [] body (topK cfg Try.f24 k kp) := by kernel_rfl
theorem body_is : Try.f24.body = some body := by kernel_rfl
theorem c_raw (k kp : D → List Blk → Prop) (x0 : ByteArray) (x1 : (List ByteArray)) : funW cfg Try.f24 [(.v (.string x0)), (.fz Ty.str x1)] [] k kp = c (fun x0 x1 x5 => XL2 k kp (mL2 x0 x1 x5)) x0 x1 (fun y0 => k (.v (.string y0)) []) :=
  Eq.mp (by kernel_rfl) ((funW_run (AG := none'') body_is (c_ag k kp) [(.v (.string x0)), (.fz Ty.str x1)] []).trans (c_c k kp (JJ k kp) (LL k kp) x0 x1))
theorem f_eq (k kp : D → List Blk → Prop) (x0 : ByteArray) (x1 : (List ByteArray)) : funW cfg Try.f24 [(.v (.string x0)), (.fz Ty.str x1)] [] k kp = f x0 x1 (fun y0 => k (.v (.string y0)) []) := by
  rw [f_def, c_raw]; simp only [l2_eq]; first | done | rfl
noncomputable def ent0 : Entry := fun args blks k _ => match args, blks with
  | [d0, d1], [] => aStr d0 fun x0 => aFz Ty.str d1 fun x1 => f x0 x1 (fun y0 => k (.v (.string y0)) [])
  | _, _ => False
noncomputable def ent : Entry := fun args blks k kp => ent0 (convA [none, some Ty.str] args) blks k kp
theorem ok : EntOk Try.prog 0 0 24 ent := by
  refine EntOk.conv (EntOk.of (funW_ok (cfg := cfg) (tyOk_of rfl rfl tyL_ok) (eqOk_none rfl) mixed_ok (tab_ok ?_) Try.func24 (by rfl) (by rfl)) ?_) _
  · intro p hp
    simp only [List.mem_cons, List.not_mem_nil, or_false] at hp
    rcases hp with rfl | rfl
    · exact N35.ok
    · exact N17.ok
  · intro args blks k kp h k' kp'
    match args, blks, h with
    | [d0, d1], [], h =>
    dsimp only [ent0] at h
    have h9 := aStr_elim h; clear h; obtain ⟨x0, rfl, h⟩ := h9
    have h9 := aFz_elim (t := Ty.str) h; clear h; obtain ⟨x1, rfl, h⟩ := h9
    exact (f_eq k' kp' x0 x1).symm
end N24
end Go.Proofs.Yt
namespace Go.Proofs.Yt
open Go Go.Aw Go.Proofs Go.RowKit
set_option linter.unusedVariables false
set_option linter.unusedSimpArgs false

def isL (x : Int) : Bool := (decide (97 ≤ x) && decide (x ≤ 122)) || decide (x = 95)
def isS (x : Int) : Bool := isL x || (decide (48 ≤ x) && decide (x ≤ 57))
/-- Is it a name? -/
def rightI (l : List Int) : Bool := decide (1 ≤ l.length) && decide (l.length ≤ 24) && isL (l.getD 0 0) && l.all isS
/-- How many that may stand in a name stand ahead. -/
def runS : List Int → Nat
  | [] => 0
  | x :: r => if isS x then runS r + 1 else 0
/-- How many stand ahead of the first byte 46. -/
def pre : List Int → Nat
  | [] => 0
  | x :: r => if x = 46 then 0 else pre r + 1

theorem letter_s (x : Int) (k : Bool → Prop) : N43.f x k ↔ k (isL x) := by
  rw [N43.f_def]
  unfold N43.f0 N43.c isL
  simp only [br_dec]
  by_cases h1 : 97 ≤ x <;> by_cases h2 : x ≤ 122 <;> simp [h1, h2, BEq.beq]
theorem letterr_s (x : Int) (k : Bool → Prop) : N45.f x k ↔ k (isL x) := by
  rw [N45.f_def]
  unfold N45.f0 N45.c isL
  simp only [br_dec]
  by_cases h1 : 97 ≤ x <;> by_cases h2 : x ≤ 122 <;> simp [h1, h2, BEq.beq]
theorem sign_s (x : Int) (k : Bool → Prop) : N44.f x k ↔ k (isS x) := by
  rw [N44.f_def]
  unfold N44.f0 N44.c isS
  rw [letter_s]
  cases isL x
  · simp only [br_false, br_dec]
    by_cases h1 : 48 ≤ x <;> simp [h1]
  · simp

theorem isS_of_isL {x : Int} (h : isL x = true) : isS x = true := by unfold isS; rw [h]; rfl
theorem isS_no {x : Int} (h : isL x = false) (h2 : x < 48 ∨ 57 < x) : isS x = false := by
  unfold isS; rw [h]; simp; omega
theorem isS_yes {x : Int} (h : 48 ≤ x) (h2 : x ≤ 57) : isS x = true := by
  unfold isS; simp [h, h2]
theorem isS_46 : isS 46 = false := by decide

theorem runS_le : ∀ (l : List Int), runS l ≤ l.length
  | [] => Nat.le_refl _
  | x :: r => by unfold runS; split <;> simp; have := runS_le r; omega
theorem runS_step {l : List Int} {i j : Nat} (h : runS (l.drop i) = j) (hj : i + j < l.length) : isS (l.getD (i + j) 0) = false := by
  induction j generalizing i with
  | zero =>
    rw [drop_get (d := 0) (by omega)] at h
    unfold runS at h
    split at h
    · omega
    · rename_i hn; simpa using hn
  | succ j ih =>
    have hi : i < l.length := by omega
    rw [drop_get (d := 0) hi] at h
    unfold runS at h
    split at h
    · have := ih (i := i + 1) (by omega) (by omega)
      rwa [show i + 1 + j = i + (j + 1) by omega] at this
    · omega
theorem runS_in {l : List Int} {i j : Nat} (hj : j < runS (l.drop i)) : isS (l.getD (i + j) 0) = true := by
  induction j generalizing i with
  | zero =>
    have hi : i < l.length := by have := runS_le (l.drop i); rw [List.length_drop] at this; omega
    rw [drop_get (d := 0) hi] at hj
    unfold runS at hj
    split at hj
    · rename_i h; exact h
    · omega
  | succ j ih =>
    have hi : i < l.length := by have := runS_le (l.drop i); rw [List.length_drop] at this; omega
    rw [drop_get (d := 0) hi] at hj
    unfold runS at hj
    split at hj
    · have := ih (i := i + 1) (by omega)
      rwa [show i + 1 + j = i + (j + 1) by omega] at this
    · omega

theorem all_getD {l : List Int} {p : Int → Bool} : l.all p = true ↔ ∀ i, i < l.length → p (l.getD i 0) = true := by
  rw [List.all_eq_true]
  constructor
  · intro h i hi
    have e : l.getD i 0 = l[i] := by simp [List.getD, List.getElem?_eq_getElem hi]
    rw [e]; exact h _ (List.getElem_mem hi)
  · intro h x hx
    obtain ⟨i, hi, rfl⟩ := List.getElem_of_mem hx
    have e : l.getD i 0 = l[i] := by simp [List.getD, List.getElem?_eq_getElem hi]
    rw [← e]; exact h i hi
theorem all_false {l : List Int} {p : Int → Bool} {i : Nat} (hi : i < l.length) (h : p (l.getD i 0) = false) : l.all p = false := by
  cases e : l.all p with
  | false => rfl
  | true => have := all_getD.1 e i hi; rw [h] at this; cases this

theorem empty_iff (s : ByteArray) : beqS s (ByteArray.mk #[]) = decide (s.size = 0) := by
  unfold beqS
  have : s.size = s.data.toList.length := by rw [Array.length_toList]; rfl
  rw [this]
  cases s.data.toList <;> simp

theorem right_s (s : ByteArray) (k : Bool → Prop) (h : k (rightI (ofBytes s))) : N18.f s k := by
  have hl := ofBytes_length s
  rw [N18.f_def]
  unfold N18.f0 N18.c N18.j2000002' N18.j2000002
  dsimp only
  unfold rightI at h
  rw [hl] at h
  rw [empty_iff]
  refine br_of (fun h0 => ?_) (fun h0 => br_of (fun h1 => ?_) (fun h1 => ?_))
  · have h0 := of_decide_eq_true h0
    rw [h0] at h; exact h
  · have h1 := of_decide_eq_true h1
    have : decide (s.size ≤ 24) = false := by rw [decide_eq_false_iff_not]; omega
    rw [this] at h
    simpa using h
  · have h0 := of_decide_eq_false h0
    have h1 := of_decide_eq_false h1
    have e1 : decide (1 ≤ s.size) = true := by rw [decide_eq_true_eq]; omega
    have e2 : decide (s.size ≤ 24) = true := by rw [decide_eq_true_eq]; omega
    have hb : byteAt s 0 = (ofBytes s).getD 0 0 := byteAt_eq s 0
    rw [e1, e2, Bool.true_and, Bool.true_and] at h
    refine ⟨⟨by omega, by omega, by omega⟩, (letter_s _ _).2 ?_⟩
    rw [hb]
    cases hL : isL ((ofBytes s).getD 0 0) with
    | false => rw [hL] at h; exact h
    | true =>
      rw [hL, Bool.true_and] at h
      simp only [Bool.not_true, br_false]
      unfold N18.j3' N18.j3 N18.l4'
      refine loopS_of (fun x : Int => ∃ i : Nat, x = i ∧ i ≤ s.size ∧ ∀ j, j < i → isS ((ofBytes s).getD j 0) = true) (fun x => (s.size - x).toNat) ?_ ⟨0, rfl, Nat.zero_le _, fun j hj => by omega⟩
      rintro again x ⟨i, rfl, hi, hall⟩ hag
      unfold N18.l4 N18.j9' N18.j9
      dsimp only
      refine br_of (fun hlt => ?_) (fun hge => ?_)
      · have hlt := of_decide_eq_true hlt
        refine ⟨⟨by omega, by omega, by omega⟩, (sign_s _ _).2 ?_⟩
        rw [byteAt_eq]
        have ew : IntKind.i64.wrap ((i : Int) + 1) = ((i + 1 : Nat) : Int) := by rw [wrap_id (by omega) (by omega)]; omega
        rw [ew]
        cases hS : isS ((ofBytes s).getD i 0) with
        | false =>
          rw [all_false (by omega) hS] at h
          exact h
        | true =>
          refine hag _ ⟨i + 1, rfl, by omega, fun j hj => ?_⟩ (by omega)
          by_cases e : j = i
          · rw [e]; exact hS
          · exact hall j (by omega)
      · have hge := of_decide_eq_false hge
        rw [all_getD.2 (fun j hj => hall j (by omega))] at h
        exact h

theorem rightr_s (s : ByteArray) (k : Bool → Prop) (h : k (rightI (ofBytes s))) : N17.f s k := by
  have hl := ofBytes_length s
  rw [N17.f_def]
  unfold N17.f0 N17.c N17.j2000002' N17.j2000002
  dsimp only
  unfold rightI at h
  rw [hl] at h
  refine br_of (fun h0 => ?_) (fun h0 => br_of (fun h1 => ?_) (fun h1 => ?_))
  · have h0 := of_decide_eq_true h0
    have : decide (1 ≤ s.size) = false := by rw [decide_eq_false_iff_not]; omega
    rw [this] at h; exact h
  · have h1 := of_decide_eq_true h1
    have : decide (s.size ≤ 24) = false := by rw [decide_eq_false_iff_not]; omega
    rw [this] at h
    simpa using h
  · have h0 := of_decide_eq_false h0
    have h1 := of_decide_eq_false h1
    have e1 : decide (1 ≤ s.size) = true := by rw [decide_eq_true_eq]; omega
    have e2 : decide (s.size ≤ 24) = true := by rw [decide_eq_true_eq]; omega
    have hb : byteAt s 0 = (ofBytes s).getD 0 0 := byteAt_eq s 0
    rw [e1, e2, Bool.true_and, Bool.true_and] at h
    refine ⟨⟨by omega, by omega, by omega⟩, (letterr_s _ _).2 ?_⟩
    rw [hb]
    cases hL : isL ((ofBytes s).getD 0 0) with
    | false => rw [hL] at h; exact h
    | true =>
      rw [hL, Bool.true_and] at h
      simp only [Bool.not_true, br_false]
      unfold N17.j3' N17.j3 N17.l4'
      refine loopS_of (fun x : Int => ∃ i : Nat, x = i ∧ i ≤ s.size ∧ ∀ j, j < i → isS ((ofBytes s).getD j 0) = true) (fun x => (s.size - x).toNat) ?_ ⟨1, rfl, by omega, fun j hj => ?_⟩
      · rintro again x ⟨i, rfl, hi, hall⟩ hag
        unfold N17.l4 N17.j8' N17.j8 N17.j2000007' N17.j2000007 N17.j5' N17.j5
        dsimp only
        refine br_of (fun hlt => ?_) (fun hge => ?_)
        · have hlt := of_decide_eq_true hlt
          have hin : inB 0 (i : Int) ((s.size : Int) - 1) := ⟨by omega, by omega, by omega⟩
          refine ⟨hin, (letterr_s _ _).2 ?_⟩
          rw [byteAt_eq]
          have ew : IntKind.i64.wrap ((i : Int) + 1) = ((i + 1 : Nat) : Int) := by rw [wrap_id (by omega) (by omega)]; omega
          rw [ew]
          have go : isS ((ofBytes s).getD i 0) = true → again ((i + 1 : Nat) : Int) := by
            intro hS
            refine hag _ ⟨i + 1, rfl, by omega, fun j hj => ?_⟩ (by omega)
            by_cases e : j = i
            · rw [e]; exact hS
            · exact hall j (by omega)
          have no : isS ((ofBytes s).getD i 0) = false → k false := by
            intro hS
            rw [all_false (by omega) hS] at h
            exact h
          cases hL2 : isL ((ofBytes s).getD i 0) with
          | true => exact go (isS_of_isL hL2)
          | false =>
            simp only [Bool.not_false, br_true]
            refine ⟨hin, br_of (fun h4 => ?_) (fun h4 => ⟨hin, br_of (fun h5 => ?_) (fun h5 => ?_)⟩)⟩
            · have h4 := of_decide_eq_true h4
              exact no (isS_no hL2 (.inl (by omega)))
            · have h5 := of_decide_eq_true h5
              exact no (isS_no hL2 (.inr (by omega)))
            · have h4 := of_decide_eq_false h4
              have h5 := of_decide_eq_false h5
              exact go (isS_yes (by omega) (by omega))
        · have hge := of_decide_eq_false hge
          rw [all_getD.2 (fun j hj => hall j (by omega))] at h
          exact h
      · have : j = 0 := by omega
        rw [this]; exact isS_of_isL hL

/-- Where a name ends. -/
def scanN (l : List Int) (a : Int) : Int := if a < 0 ∨ a ≥ (l.length : Int) ∨ isL (l.getD a.toNat 0) = false then a else ((a.toNat + runS (l.drop a.toNat) : Nat) : Int)

theorem nscan_s (s : ByteArray) (hs : s.size ≤ reachBytes) (a : Int) (k : Int → Prop) (h : k (scanN (ofBytes s) a)) : N19.f s a k := by
  have hr : reachBytes < 2 ^ 47 := reachBytes_lt
  have hl := ofBytes_length s
  rw [N19.f_def]
  unfold N19.f0 N19.c N19.j2000002' N19.j2000002
  dsimp only
  unfold scanN at h
  rw [hl] at h
  refine br_of (fun h0 => ?_) (fun h0 => br_of (fun h1 => ?_) (fun h1 => ?_))
  · rw [if_pos (.inl (of_decide_eq_true h0))] at h; exact h
  · rw [if_pos (.inr (.inl (of_decide_eq_true h1)))] at h; exact h
  · have h0 := of_decide_eq_false h0
    have h1 := of_decide_eq_false h1
    obtain ⟨p, rfl⟩ : ∃ p : Nat, a = p := ⟨a.toNat, by omega⟩
    rw [Int.toNat_natCast] at h
    refine ⟨⟨by omega, by omega, by omega⟩, (letter_s _ _).2 ?_⟩
    rw [byteAt_eq]
    cases hL : isL ((ofBytes s).getD p 0) with
    | false => rw [if_pos (.inr (.inr hL))] at h; exact h
    | true =>
      rw [if_neg (by rw [hL]; simp; omega)] at h
      simp only [Bool.not_true, br_false]
      unfold N19.j3' N19.j3 N19.l3'
      have hrl := runS_le ((ofBytes s).drop p)
      rw [List.length_drop, hl] at hrl
      refine loopS_of (fun x : Int => ∃ j : Nat, x = ((p + j : Nat) : Int) ∧ j ≤ runS ((ofBytes s).drop p)) (fun x => (s.size - x).toNat) ?_ ⟨0, rfl, Nat.zero_le _⟩
      rintro again x ⟨j, rfl, hj⟩ hag
      unfold N19.l3 N19.j4' N19.j4 N19.j5' N19.j5
      dsimp only
      refine br_of (fun hlt => ?_) (fun hge => ?_)
      · have hlt := of_decide_eq_true hlt
        refine ⟨⟨by omega, by omega, by omega⟩, (sign_s _ _).2 ?_⟩
        rw [byteAt_eq]
        have ew : IntKind.i64.wrap (((p + j : Nat) : Int) + 1) = ((p + (j + 1) : Nat) : Int) := by rw [wrap_id (by omega) (by omega)]; omega
        rw [ew]
        cases hS : isS ((ofBytes s).getD (p + j) 0) with
        | true =>
          refine hag _ ⟨j + 1, rfl, ?_⟩ (by omega)
          rcases Nat.lt_or_ge j (runS ((ofBytes s).drop p)) with hh | hh
          · omega
          · have := runS_step (l := ofBytes s) (i := p) (j := j) (by omega) (by omega)
            rw [hS] at this; cases this
        | false =>
          have : j = runS ((ofBytes s).drop p) := by
            rcases Nat.lt_or_ge j (runS ((ofBytes s).drop p)) with hh | hh
            · have := runS_in hh; rw [hS] at this; cases this
            · omega
          rw [← this] at h; exact h
      · have hge := of_decide_eq_false hge
        have : j = runS ((ofBytes s).drop p) := by omega
        rw [← this] at h; exact h

theorem nscanr_s (s : ByteArray) (hs : s.size ≤ reachBytes) (a : Int) (k : Int → Prop) (h : k (scanN (ofBytes s) a)) : N20.f s a k := by
  have hr : reachBytes < 2 ^ 47 := reachBytes_lt
  have hl := ofBytes_length s
  rw [N20.f_def]
  unfold N20.f0 N20.c N20.j2000002' N20.j2000002
  dsimp only
  unfold scanN at h
  rw [hl] at h
  refine br_of (fun h0 => ?_) (fun h0 => br_of (fun h1 => ?_) (fun h1 => ?_))
  · rw [if_pos (.inl (of_decide_eq_true h0))] at h; exact h
  · rw [if_pos (.inr (.inl (of_decide_eq_true h1)))] at h; exact h
  · have h0 := of_decide_eq_false h0
    have h1 := of_decide_eq_false h1
    obtain ⟨p, rfl⟩ : ∃ p : Nat, a = p := ⟨a.toNat, by omega⟩
    rw [Int.toNat_natCast] at h
    refine ⟨⟨by omega, by omega, by omega⟩, (letterr_s _ _).2 ?_⟩
    rw [byteAt_eq]
    cases hL : isL ((ofBytes s).getD p 0) with
    | false => rw [if_pos (.inr (.inr hL))] at h; exact h
    | true =>
      rw [if_neg (by rw [hL]; simp; omega)] at h
      simp only [Bool.not_true, br_false]
      unfold N20.j3' N20.j3 N20.l4'
      have hrl := runS_le ((ofBytes s).drop p)
      rw [List.length_drop, hl] at hrl
      have h1r : 1 ≤ runS ((ofBytes s).drop p) := by
        rw [drop_get (d := 0) (by omega)]
        unfold runS
        rw [if_pos (isS_of_isL hL)]; omega
      have ew0 : IntKind.i64.wrap ((p : Int) + 1) = ((p + 1 : Nat) : Int) := by rw [wrap_id (by omega) (by omega)]; omega
      rw [ew0]
      refine loopS_of (fun x : Int => ∃ j : Nat, x = ((p + j : Nat) : Int) ∧ j ≤ runS ((ofBytes s).drop p)) (fun x => (s.size - x).toNat) ?_ ⟨1, rfl, h1r⟩
      rintro again x ⟨j, rfl, hj⟩ hag
      unfold N20.l4 N20.j5' N20.j5 N20.j6' N20.j6
      dsimp only
      have stop : (p + j < s.size → isS ((ofBytes s).getD (p + j) 0) = false) → k ((p + j : Nat) : Int) := by
        intro hn
        have : j = runS ((ofBytes s).drop p) := by
          rcases Nat.lt_or_ge j (runS ((ofBytes s).drop p)) with hh | hh
          · have h2 := runS_in hh; rw [hn (by omega)] at h2; cases h2
          · omega
        rw [← this] at h; exact h
      refine br_of (fun hlt => ?_) (fun hge => stop (fun hh => by have := of_decide_eq_false hge; omega))
      have hlt := of_decide_eq_true hlt
      have hin : inB 0 ((p + j : Nat) : Int) ((s.size : Int) - 1) := ⟨by omega, by omega, by omega⟩
      refine ⟨hin, (letterr_s _ _).2 ?_⟩
      rw [byteAt_eq]
      have ew : IntKind.i64.wrap (((p + j : Nat) : Int) + 1) = ((p + (j + 1) : Nat) : Int) := by rw [wrap_id (by omega) (by omega)]; omega
      rw [ew]
      have go : isS ((ofBytes s).getD (p + j) 0) = true → again ((p + (j + 1) : Nat) : Int) := by
        intro hS
        refine hag _ ⟨j + 1, rfl, ?_⟩ (by omega)
        rcases Nat.lt_or_ge j (runS ((ofBytes s).drop p)) with hh | hh
        · omega
        · have := runS_step (l := ofBytes s) (i := p) (j := j) (by omega) (by omega)
          rw [hS] at this; cases this
      cases hL2 : isL ((ofBytes s).getD (p + j) 0) with
      | true => exact go (isS_of_isL hL2)
      | false =>
        simp only [br_false]
        refine ⟨hin, br_of (fun h4 => ⟨hin, br_of (fun h5 => ?_) (fun h5 => stop (fun _ => ?_))⟩) (fun h4 => stop (fun _ => ?_))⟩
        · have h4 := of_decide_eq_true h4
          have h5 := of_decide_eq_true h5
          exact go (isS_yes (by omega) (by omega))
        · have h5 := of_decide_eq_false h5
          exact isS_no hL2 (.inr (by omega))
        · have h4 := of_decide_eq_false h4
          exact isS_no hL2 (.inl (by omega))
end Go.Proofs.Yt
namespace Go.Proofs.Yt
open Go Go.Aw Go.Proofs Go.RowKit
set_option linter.unusedVariables false
set_option linter.unusedSimpArgs false

theorem extract_is (s : ByteArray) (i j : Nat) : s.extract i j = bytesOf (((ofBytes s).take j).drop i) := by rw [← ofBytes_extract, bytesOf_ofBytes]

theorem pre_le : ∀ l : List Int, pre l ≤ l.length
  | [] => Nat.le_refl _
  | x :: r => by unfold pre; split <;> simp; have := pre_le r; omega
theorem pre_at : ∀ {l : List Int}, pre l < l.length → l.getD (pre l) 0 = 46
  | [], h => by simp at h
  | x :: r, h => by
    unfold pre at *
    split
    · rename_i e; simpa using e
    · rename_i e
      rw [if_neg e] at h
      have := pre_at (l := r) (by simpa using h)
      simpa using this
theorem pre_no : ∀ {l : List Int} {j : Nat}, j < pre l → l.getD j 0 ≠ 46
  | [], j, h => by simp [pre] at h
  | x :: r, j, h => by
    unfold pre at h
    split at h
    · omega
    · rename_i e
      cases j with
      | zero => simpa using e
      | succ j => have := pre_no (l := r) (j := j) (by omega); simpa using this
theorem pre_is {l : List Int} {i : Nat} (hi : i < l.length) (h : l.getD i 0 = 46) (hn : ∀ j, j < i → l.getD j 0 ≠ 46) : pre l = i := by
  have h1 := pre_le l
  rcases Nat.lt_trichotomy (pre l) i with hh | hh | hh
  · exact absurd (pre_at (by omega)) (hn _ hh)
  · exact hh
  · exact absurd h (pre_no hh)

theorem right_46 {l : List Int} {i : Nat} (hi : i < l.length) (h : l.getD i 0 = 46) : rightI l = false := by
  unfold rightI
  rw [all_false hi (by rw [h]; exact isS_46), Bool.and_false]

/-- An edge's two ends. -/
def endsI (l : List Int) : List Int × List Int × Bool :=
  if pre l < l.length ∧ rightI (l.take (pre l)) = true ∧ rightI (l.drop (pre l + 1)) = true then (l.take (pre l), l.drop (pre l + 1), true) else ([], [], false)

theorem ends_s (s : ByteArray) (hs : s.size ≤ reachBytes) (k : ByteArray → ByteArray → Bool → Prop) (h : k (bytesOf (endsI (ofBytes s)).1) (bytesOf (endsI (ofBytes s)).2.1) (endsI (ofBytes s)).2.2) : N15.f s k := by
  have hr : reachBytes < 2 ^ 47 := reachBytes_lt
  have hl := ofBytes_length s
  rw [N15.f_def]
  unfold N15.f0 N15.c N15.l2'
  refine loopS_of (fun x : Int => ∃ i : Nat, x = i ∧ i ≤ pre (ofBytes s)) (fun x => (s.size - x).toNat) ?_ ⟨0, rfl, Nat.zero_le _⟩
  rintro again x ⟨i, rfl, hi⟩ hag
  have hpl := pre_le (ofBytes s)
  unfold N15.l2 N15.j2000007' N15.j2000007 N15.j8' N15.j8 N15.j10' N15.j10
  dsimp only
  refine br_of (fun hlt => ?_) (fun hge => ?_)
  · have hlt := of_decide_eq_true hlt
    have ew : IntKind.i64.wrap ((i : Int) + 1) = ((i + 1 : Nat) : Int) := by rw [wrap_id (by omega) (by omega)]; omega
    rw [ew, byteAt_eq]
    refine ⟨⟨by omega, by omega, by omega⟩, br_of (fun h46 => ?_) (fun h46 => ?_)⟩
    · have h46 : (ofBytes s).getD i 0 = 46 := eq_of_beq h46
      have hip : i = pre (ofBytes s) := by
        rcases Nat.lt_or_ge i (pre (ofBytes s)) with hh | hh
        · exact absurd h46 (pre_no hh)
        · omega
      have e0 : Int.toNat 0 = 0 := rfl
      refine ⟨⟨by omega, by omega, by omega⟩, ⟨by omega, by omega, by omega⟩, right_s _ _ ?_⟩
      simp only [e0, Int.toNat_natCast]
      have x1 : s.extract 0 i = bytesOf ((ofBytes s).take i) := by rw [extract_is, List.drop_zero]
      have x2 : s.extract (i + 1) s.size = bytesOf ((ofBytes s).drop (i + 1)) := by rw [extract_is, List.take_of_length_le (by omega)]
      have y1 : ofBytes (s.extract 0 i) = (ofBytes s).take i := by rw [ofBytes_extract, List.drop_zero]
      have y2 : ofBytes (s.extract (i + 1) s.size) = (ofBytes s).drop (i + 1) := by rw [ofBytes_extract, List.take_of_length_le (by omega)]
      rw [y1]
      unfold endsI at h
      rw [← hip] at h
      cases h1 : rightI ((ofBytes s).take i) with
      | false =>
        rw [if_neg (by rw [h1]; simp)] at h
        exact h
      | true =>
        simp only [Bool.not_true, br_false]
        refine right_s _ _ ?_
        rw [y2]
        cases h2 : rightI ((ofBytes s).drop (i + 1)) with
        | false =>
          rw [if_neg (by rw [h2]; simp)] at h
          exact h
        | true =>
          rw [if_pos ⟨by omega, h1, h2⟩] at h
          rw [x1, x2]
          exact h
    · have h46 : (ofBytes s).getD i 0 ≠ 46 := by simpa using h46
      refine hag _ ⟨i + 1, rfl, ?_⟩ (by omega)
      rcases Nat.lt_or_ge i (pre (ofBytes s)) with hh | hh
      · omega
      · have : i = pre (ofBytes s) := by omega
        subst this
        exact absurd (pre_at (by omega)) h46
  · have hge := of_decide_eq_false hge
    unfold endsI at h
    rw [if_neg (by omega)] at h
    exact h

theorem endsr_s (s : ByteArray) (hs : s.size ≤ reachBytes) (k : ByteArray → ByteArray → Bool → Prop) (h : k (bytesOf (endsI (ofBytes s)).1) (bytesOf (endsI (ofBytes s)).2.1) (endsI (ofBytes s)).2.2) : N16.f s k := by
  have hr : reachBytes < 2 ^ 47 := reachBytes_lt
  have hl := ofBytes_length s
  rw [N16.f_def]
  unfold N16.f0 N16.c N16.l2'
  refine loopS_of (fun x : Int => ∃ i : Nat, x = i ∧ i ≤ s.size ∧ (i ≤ pre (ofBytes s) ∨ endsI (ofBytes s) = ([], [], false))) (fun x => (s.size - x).toNat) ?_ ⟨0, rfl, Nat.zero_le _, .inl (Nat.zero_le _)⟩
  rintro again x ⟨i, rfl, hi, hpre⟩ hag
  have hpl := pre_le (ofBytes s)
  unfold N16.l2 N16.j2000005' N16.j2000005 N16.j6' N16.j6 N16.j3' N16.j3
  dsimp only
  refine br_of (fun hlt => ?_) (fun hge => ?_)
  · have hlt := of_decide_eq_true hlt
    have ew : IntKind.i64.wrap ((i : Int) + 1) = ((i + 1 : Nat) : Int) := by rw [wrap_id (by omega) (by omega)]; omega
    rw [ew, byteAt_eq]
    have e0 : Int.toNat 0 = 0 := rfl
    simp only [e0, Int.toNat_natCast]
    have x1 : s.extract 0 i = bytesOf ((ofBytes s).take i) := by rw [extract_is, List.drop_zero]
    have x2 : s.extract (i + 1) s.size = bytesOf ((ofBytes s).drop (i + 1)) := by rw [extract_is, List.take_of_length_le (by omega)]
    have y1 : ofBytes (s.extract 0 i) = (ofBytes s).take i := by rw [ofBytes_extract, List.drop_zero]
    have y2 : ofBytes (s.extract (i + 1) s.size) = (ofBytes s).drop (i + 1) := by rw [ofBytes_extract, List.take_of_length_le (by omega)]
    have in1 : inB 0 (i : Int) (s.size : Int) := ⟨by omega, by omega, by omega⟩
    have in2 : inB ((i + 1 : Nat) : Int) (s.size : Int) (s.size : Int) := ⟨by omega, by omega, by omega⟩
    -- on
    have go : (i < pre (ofBytes s) ∨ endsI (ofBytes s) = ([], [], false)) → again ((i + 1 : Nat) : Int) := by
      intro hh
      refine hag _ ⟨i + 1, rfl, by omega, ?_⟩ (by omega)
      rcases hh with hh | hh
      · exact .inl (by omega)
      · exact .inr hh
    refine ⟨⟨by omega, by omega, by omega⟩, br_of (fun h46 => ?_) (fun h46 => ?_)⟩
    · have h46 : (ofBytes s).getD i 0 = 46 := eq_of_beq h46
      refine ⟨in1, rightr_s _ _ ?_⟩
      rw [y1]
      by_cases hip : i = pre (ofBytes s)
      · cases h1 : rightI ((ofBytes s).take i) with
        | false =>
          refine go (.inr ?_)
          unfold endsI
          rw [← hip, if_neg (by rw [h1]; simp)]
        | true =>
          refine ⟨in2, rightr_s _ _ ?_⟩
          rw [y2]
          cases h2 : rightI ((ofBytes s).drop (i + 1)) with
          | false =>
            refine go (.inr ?_)
            unfold endsI
            rw [← hip, if_neg (by rw [h2]; simp)]
          | true =>
            refine ⟨in1, in2, ?_⟩
            unfold endsI at h
            rw [← hip, if_pos ⟨by omega, h1, h2⟩] at h
            rw [x1, x2]
            exact h
      · have hend : endsI (ofBytes s) = ([], [], false) := by
          rcases hpre with hh | hh
          · exact absurd h46 (pre_no (by omega))
          · exact hh
        -- an earlier byte 46 stands in the first part, or none has been
        cases h1 : rightI ((ofBytes s).take i) with
        | false => exact go (.inr hend)
        | true =>
          refine ⟨in2, rightr_s _ _ ?_⟩
          rw [y2]
          cases h2 : rightI ((ofBytes s).drop (i + 1)) with
          | false => exact go (.inr hend)
          | true =>
            exfalso
            have hne : pre (ofBytes s) < i := by
              rcases Nat.lt_trichotomy (pre (ofBytes s)) i with hh | hh | hh
              · exact hh
              · exact absurd hh.symm hip
              · exact absurd h46 (pre_no hh)
            have hat := pre_at (l := ofBytes s) (by omega)
            have := right_46 (l := (ofBytes s).take i) (i := pre (ofBytes s)) (by simp; omega) (by
              unfold List.getD at hat ⊢
              rw [List.getElem?_take_of_lt hne]; exact hat)
            rw [h1] at this; cases this
    · have h46 : (ofBytes s).getD i 0 ≠ 46 := by simpa using h46
      rcases hpre with hh | hh
      · rcases Nat.lt_or_ge i (pre (ofBytes s)) with h3 | h3
        · exact go (.inl h3)
        · have : i = pre (ofBytes s) := by omega
          subst this
          exact absurd (pre_at (by omega)) h46
      · exact go (.inr hh)
  · have hge := of_decide_eq_false hge
    have : endsI (ofBytes s) = ([], [], false) := by
      rcases hpre with hh | hh
      · unfold endsI; rw [if_neg (by omega)]
      · exact hh
    rw [this] at h
    exact h

theorem label_s (s : ByteArray) (hs : s.size ≤ reachBytes) (edge : Bool) (k : Bool → Prop) (h : k (bif edge then (endsI (ofBytes s)).2.2 else rightI (ofBytes s))) : N21.f s edge k := by
  rw [N21.f_def]
  unfold N21.f0 N21.c
  cases edge with
  | true => exact ends_s s hs _ h
  | false => exact right_s s _ h

theorem edge_s (a b : ByteArray) (ha : a.size ≤ reachBytes) (hb : b.size ≤ reachBytes) (k : ByteArray → Prop) (h : k (bytesOf (ofBytes a ++ 46 :: ofBytes b))) : N22.f a b k := by
  have hr : reachBytes < 2 ^ 47 := reachBytes_lt
  rw [N22.f_def]
  unfold N22.f0 N22.c
  have e : (a ++ ByteArray.mk #[46]) ++ b = bytesOf (ofBytes a ++ 46 :: ofBytes b) := by
    apply eq_of_ofBytes
    rw [ofBytes_append, ofBytes_append, ofBytes_bytesOf]
    · have : ofBytes (ByteArray.mk #[46]) = [46] := by decide
      rw [this]; simp
    · intro x hx
      rcases List.mem_append.1 hx with h1 | h1
      · exact ofBytes_isB a x h1
      · rcases List.mem_cons.1 h1 with h1 | h1
        · subst h1; exact ⟨by decide, by decide⟩
        · exact ofBytes_isB b x h1
  have e1 : (ByteArray.mk #[46]).size = 1 := rfl
  refine ⟨by rw [e1]; omega, by rw [size_append, e1]; omega, ?_⟩
  rw [e]; exact h

/-! ### A new name -/
theorem digits47 : ∀ (f n : Nat), n < 10 ^ (f + 1) → n < 2 ^ 62 → f ≤ 19 → ∀ k : ByteArray → Prop, k (bytesOf (dl (f + 1) n).reverse) → N47.fuel (f + 1) (n : Int) k
  | f, n, hf, hn, hf2, k, h => by
    show N47.f0 (N47.fuel f) (n : Int) k
    unfold N47.f0 N47.c
    have em : Int.tmod (n : Int) 10 = ((n % 10 : Nat) : Int) := by norm_cast
    have ed : Int.tdiv (n : Int) 10 = ((n / 10 : Nat) : Int) := by norm_cast
    have ec : IntKind.u8.wrap (IntKind.i64.wrap ((48 : Int) + ((n % 10 : Nat) : Int))) = ((48 + n % 10 : Nat) : Int) := by
      rw [wrap_id (by omega) (by omega), wu8_eq]; omega
    rw [em, ed, ec]
    rw [dl_succ] at h
    refine ⟨by decide, br_of (fun hlt => ?_) (fun hge => ?_)⟩
    · have hlt := of_decide_eq_true hlt
      rw [if_pos (by omega)] at h
      exact h
    · have hge := of_decide_eq_false hge
      rw [if_neg (by omega)] at h
      rw [wrap_id (by omega) (by omega)]
      cases f with
      | zero => simp at hf; omega
      | succ f =>
        have hlen := dl_len_le (f + 1) (n / 10)
        refine ⟨by decide, digits47 f (n / 10) (by rw [Nat.pow_succ] at hf; omega) (by omega) (by omega) _ ⟨?_, ?_⟩⟩
        · rw [bytesOf_size, bytesOf_size]; simp; omega
        · rw [← bytesOf_append]
          simpa using h

theorem digits_n (n : Nat) (hn : n < 2 ^ 62) (k : ByteArray → Prop) (h : k (bytesOf (putL n))) : N47.f (n : Int) k := by
  rw [N47.f_def]
  refine ⟨20, digits47 19 n (by omega) hn (by decide) k ?_⟩
  unfold putL at h
  rw [if_neg (by omega), Int.natAbs_natCast] at h
  exact h

theorem taken_s (x : ByteArray) (used : List ByteArray) (hu : used.length < 2 ^ 62) (k : Bool → List ByteArray → Prop) (h : k (used.any fun u => beqS u x) used) : N46.f x used k := by
  rw [N46.f_def]
  unfold N46.f0 N46.c N46.l2'
  refine loopS_of (fun s : Int × List ByteArray => ∃ i : Nat, s.1 = i ∧ i ≤ used.length ∧ s.2 = used ∧ ∀ j, j < i → beqS (used.getD j ByteArray.empty) x = false) (fun s => (used.length - s.1).toNat) ?_ ⟨0, rfl, Nat.zero_le _, rfl, fun j hj => by omega⟩
  rintro again ⟨i', b⟩ ⟨i, e1, hi, e2, hall⟩ hag
  simp only at e1 e2
  subst e1; subst e2
  simp only at hag ⊢
  unfold N46.l2 N46.j7' N46.j7
  dsimp only
  refine br_of (fun hlt => ?_) (fun hge => ?_)
  · have hlt := of_decide_eq_true hlt
    refine ⟨⟨by omega, by omega, by omega⟩, ?_⟩
    rw [Int.toNat_natCast]
    have ew : IntKind.i64.wrap ((i : Int) + 1) = ((i + 1 : Nat) : Int) := by rw [wrap_id (by omega) (by omega)]; omega
    rw [ew]
    refine br_of (fun hb => ?_) (fun hb => hag _ ⟨i + 1, rfl, by omega, rfl, fun j hj => ?_⟩ (by simp; omega))
    · have : (b.any fun u => beqS u x) = true := by
        rw [List.any_eq_true]
        refine ⟨b.getD i ByteArray.empty, ?_, hb⟩
        have hib : i < b.length := by omega
        simp only [List.getD, List.getElem?_eq_getElem hib, Option.getD_some]
        exact List.getElem_mem hib
      rw [this] at h; exact h
    · by_cases e : j = i
      · rw [e]; exact hb
      · exact hall j (by omega)
  · have hge := of_decide_eq_false hge
    have : (b.any fun u => beqS u x) = false := by
      rw [List.any_eq_false]
      intro u hu'
      obtain ⟨j, hj, rfl⟩ := List.getElem_of_mem hu'
      have h3 := hall j (by omega)
      simp only [List.getD, List.getElem?_eq_getElem hj, Option.getD_some] at h3
      rw [h3]; simp
    rw [this] at h; exact h

theorem putL_len' (n : Nat) : 1 ≤ (putL n).length ∧ (putL n).length ≤ 21 := by
  have h1 : 0 < (dl 20 ((n : Int)).natAbs).length := dl_len_pos 19 _
  have h2 := dl_len_le 20 ((n : Int)).natAbs
  unfold putL
  rw [if_neg (by omega), List.nil_append, List.length_reverse]
  omega

/-- The name that is made anew, from the i-th on. -/
def freshI (stem : ByteArray) (used : List ByteArray) : Nat → Nat → ByteArray
  | 0, _ => ByteArray.mk #[]
  | f + 1, i => if rightI (ofBytes (stem ++ bytesOf (putL i))) = false then ByteArray.mk #[] else if (used.any fun u => beqS u (stem ++ bytesOf (putL i))) = true then freshI stem used f (i + 1) else stem ++ bytesOf (putL i)

theorem fresh_s (stem : ByteArray) (used : List ByteArray) (hs : stem.size ≤ reachBytes) (hu : used.length < 2 ^ 61) (k : ByteArray → Prop) (h : k (freshI stem used (used.length + 1) 0)) : N23.f stem used k := by
  have hr : reachBytes < 2 ^ 47 := reachBytes_lt
  rw [N23.f_def]
  unfold N23.f0 N23.c N23.l3'
  have ew0 : IntKind.i64.wrap (((used.length : Nat) : Int) + 1) = ((used.length + 1 : Nat) : Int) := by rw [wrap_id (by omega) (by omega)]; omega
  rw [ew0]
  refine loopS_of (fun s : Int × List ByteArray => ∃ i : Nat, s.1 = i ∧ i ≤ used.length + 1 ∧ s.2 = used ∧ freshI stem used (used.length + 1) 0 = freshI stem used (used.length + 1 - i) i) (fun s => (used.length + 1 - s.1).toNat) ?_ ⟨0, rfl, Nat.zero_le _, rfl, rfl⟩
  rintro again ⟨i', b⟩ ⟨i, e1, hi, e2, hf⟩ hag
  simp only at e1 e2
  subst e1; subst e2
  simp only at hag ⊢
  rw [hf] at h
  unfold N23.l3 N23.j11' N23.j11
  dsimp only
  refine br_of (fun hlt => ?_) (fun hge => ?_)
  · have hlt := of_decide_eq_true hlt
    obtain ⟨p1, p2⟩ := putL_len' i
    refine digits_n i (by omega) _ ⟨by rw [bytesOf_size]; omega, right_s _ _ ?_⟩
    obtain ⟨g, hg⟩ : ∃ g, b.length + 1 - i = g + 1 := ⟨b.length - i, by omega⟩
    rw [hg] at h hf
    have hfs : freshI stem b (g + 1) i = if rightI (ofBytes (stem ++ bytesOf (putL i))) = false then ByteArray.mk #[] else if (b.any fun u => beqS u (stem ++ bytesOf (putL i))) = true then freshI stem b g (i + 1) else stem ++ bytesOf (putL i) := rfl
    rw [hfs] at h hf
    cases hR : rightI (ofBytes (stem ++ bytesOf (putL i))) with
    | false => rw [if_pos hR] at h; exact h
    | true =>
      rw [if_neg (by rw [hR]; simp)] at h hf
      simp only [Bool.not_true, br_false]
      refine taken_s _ _ (by omega) _ ?_
      cases hT : (b.any fun u => beqS u (stem ++ bytesOf (putL i))) with
      | false => rw [if_neg (by rw [hT]; simp)] at h; exact h
      | true =>
        rw [if_pos hT] at hf
        have ew : IntKind.i64.wrap ((i : Int) + 1) = ((i + 1 : Nat) : Int) := by rw [wrap_id (by omega) (by omega)]; omega
        rw [ew]
        refine hag _ ⟨i + 1, rfl, by omega, rfl, ?_⟩ (by simp; omega)
        rw [hf]
        congr 1
        omega
  · have hge := of_decide_eq_false hge
    have : b.length + 1 - i = 0 := by omega
    rw [this] at h
    exact h

theorem freshr_s (stem : ByteArray) (used : List ByteArray) (hs : stem.size ≤ reachBytes) (hu : used.length < 2 ^ 61) (k : ByteArray → Prop) (h : k (freshI stem used (used.length + 1) 0)) : N24.f stem used k := by
  have hr : reachBytes < 2 ^ 47 := reachBytes_lt
  rw [N24.f_def]
  unfold N24.f0 N24.c N24.l2'
  refine loopS_of (fun x : Int => ∃ i : Nat, x = i ∧ i ≤ used.length + 1 ∧ freshI stem used (used.length + 1) 0 = freshI stem used (used.length + 1 - i) i) (fun x => (used.length + 1 - x).toNat) ?_ ⟨0, rfl, Nat.zero_le _, rfl⟩
  rintro again x ⟨i, rfl, hi, hf⟩ hag
  rw [hf] at h
  unfold N24.l2 N24.j14' N24.j14
  dsimp only
  refine br_of (fun hlt => ?_) (fun hge => ?_)
  · have hlt := of_decide_eq_true hlt
    obtain ⟨p1, p2⟩ := putL_len' i
    refine putr_s i ⟨by omega, by omega⟩ _ ⟨by rw [bytesOf_size]; omega, rightr_s _ _ ?_⟩
    obtain ⟨g, hg⟩ : ∃ g, used.length + 1 - i = g + 1 := ⟨used.length - i, by omega⟩
    rw [hg] at h hf
    have hfs : freshI stem used (g + 1) i = if rightI (ofBytes (stem ++ bytesOf (putL i))) = false then ByteArray.mk #[] else if (used.any fun u => beqS u (stem ++ bytesOf (putL i))) = true then freshI stem used g (i + 1) else stem ++ bytesOf (putL i) := rfl
    rw [hfs] at h hf
    cases hR : rightI (ofBytes (stem ++ bytesOf (putL i))) with
    | false => rw [if_pos hR] at h; exact h
    | true =>
      rw [if_neg (by rw [hR]; simp)] at h hf
      simp only [Bool.not_true, br_false]
      generalize stem ++ bytesOf (putL i) = S at *
      -- is it among those?
      unfold N24.l9'
      refine loopS_of (fun s : Bool × Int => ∃ j : Nat, s.2 = j ∧ j ≤ used.length ∧ s.1 = ((used.take j).any fun u => beqS u S)) (fun s => (used.length - s.2).toNat) ?_ ⟨0, rfl, Nat.zero_le _, rfl⟩
      rintro again2 ⟨c, y⟩ ⟨j, rfl, hj, rfl⟩ hag2
      simp only at hag2 ⊢
      unfold N24.l9 N24.j10' N24.j10 N24.j12' N24.j12 N24.j3' N24.j3
      dsimp only
      refine br_of (fun hlt2 => ?_) (fun hge2 => ?_)
      · have hlt2 := of_decide_eq_true hlt2
        have hjl : j < used.length := by omega
        have ew : IntKind.i64.wrap ((j : Int) + 1) = ((j + 1 : Nat) : Int) := by rw [wrap_id (by omega) (by omega)]; omega
        rw [ew, Int.toNat_natCast]
        have hstep : ((used.take (j + 1)).any fun u => beqS u S) = (((used.take j).any fun u => beqS u S) || beqS (used.getD j ByteArray.empty) S) := by
          rw [List.take_succ_eq_append_getElem hjl, List.any_append]
          simp [List.getD, List.getElem?_eq_getElem hjl]
        have go : ∀ c, c = ((used.take (j + 1)).any fun u => beqS u S) → again2 (c, ((j + 1 : Nat) : Int)) := by
          rintro c rfl
          exact hag2 _ ⟨j + 1, rfl, by omega, rfl⟩ (by simp; omega)
        refine br_of (fun hb => ?_) (fun hb => ⟨⟨by omega, by omega, by omega⟩, ?_⟩)
        · exact go _ (by rw [hstep, hb]; rfl)
        · exact go _ (by rw [hstep, hb]; rfl)
      · have hge2 := of_decide_eq_false hge2
        have : used.take j = used := List.take_of_length_le (by omega)
        rw [this]
        cases hT : (used.any fun u => beqS u S) with
        | false => rw [if_neg (by rw [hT]; simp)] at h; exact h
        | true =>
          rw [if_pos hT] at hf
          have ew : IntKind.i64.wrap ((i : Int) + 1) = ((i + 1 : Nat) : Int) := by rw [wrap_id (by omega) (by omega)]; omega
          rw [ew]
          refine hag _ ⟨i + 1, rfl, by omega, ?_⟩ (by omega)
          rw [hf]
          congr 1
          omega
  · have hge := of_decide_eq_false hge
    have : used.length + 1 - i = 0 := by omega
    rw [this] at h
    exact h

theorem fresh_not (stem : ByteArray) (used : List ByteArray) : ∀ f i, freshI stem used f i = ByteArray.mk #[] ∨ (used.any fun u => beqS u (freshI stem used f i)) = false
  | 0, i => .inl rfl
  | f + 1, i => by
    unfold freshI
    split
    · exact .inl rfl
    · split
      · exact fresh_not stem used f (i + 1)
      · rename_i h
        exact .inr (by simpa using h)

theorem worksN_s (k : Bool → Prop) (h : k true) : N14.f k := by
  rw [N14.f_def]
  unfold N14.f0 N14.c
  refine ends_s _ (by decide) _ ?_
  have e1 : beqS (bytesOf (endsI (ofBytes (ByteArray.mk #[97, 46, 98, 95, 49]))).1) (ByteArray.mk #[97]) = true := by decide +kernel
  have e2 : beqS (bytesOf (endsI (ofBytes (ByteArray.mk #[97, 46, 98, 95, 49]))).2.1) (ByteArray.mk #[98, 95, 49]) = true := by decide +kernel
  have e3 : (endsI (ofBytes (ByteArray.mk #[97, 46, 98, 95, 49]))).2.2 = true := by decide +kernel
  rw [e1, e2, e3]
  simp only [br_true]
  refine right_s _ _ ?_
  have e4 : rightI (ofBytes (ByteArray.mk #[120, 57])) = true := by decide +kernel
  rw [e4]
  simp only [br_true]
  refine right_s _ _ ?_
  have e5 : (!rightI (ofBytes (ByteArray.mk #[57, 120]))) = true := by decide +kernel
  rw [e5]
  simp only [br_true]
  refine nscan_s _ (by decide) _ _ ?_
  have e6 : (scanN (ofBytes (ByteArray.mk #[97, 98, 32, 99])) 0 == 2) = true := by decide +kernel
  rw [e6]
  simp only [br_true]
  refine edge_s _ _ (by decide) (by decide) _ ?_
  have e7 : beqS (bytesOf (ofBytes (ByteArray.mk #[112]) ++ 46 :: ofBytes (ByteArray.mk #[113]))) (ByteArray.mk #[112, 46, 113]) = true := by decide +kernel
  rw [e7]
  simp only [br_true]
  refine fresh_s _ _ (by decide) (by decide) _ ?_
  have e8 : beqS (freshI (ByteArray.mk #[98]) [ByteArray.mk #[98, 48], ByteArray.mk #[98, 50]] ([ByteArray.mk #[98, 48], ByteArray.mk #[98, 50]].length + 1) 0) (ByteArray.mk #[98, 49]) = true := by decide +kernel
  rw [e8]
  simp only [br_true]
  refine (letter_s _ _).2 ?_
  have e9 : isL 95 = true := by decide
  rw [e9]
  simp only [br_true]
  refine (sign_s _ _).2 ?_
  have e10 : isS 48 = true := by decide
  rw [e10]
  simp only [br_true]
  refine label_s _ (by decide) _ _ ?_
  have e11 : (bif true then (endsI (ofBytes (ByteArray.mk #[97, 46, 98]))).2.2 else rightI (ofBytes (ByteArray.mk #[97, 46, 98]))) = true := by decide +kernel
  rw [e11]
  simp only [br_true]
  refine label_s _ (by decide) _ _ ?_
  have e12 : (!(bif false then (endsI (ofBytes (ByteArray.mk #[97, 46, 98]))).2.2 else rightI (ofBytes (ByteArray.mk #[97, 46, 98])))) = true := by decide +kernel
  rw [e12]
  exact h
end Go.Proofs.Yt
namespace Go.Proofs.Yt
open Go Go.Aw Go.Proofs
set_option linter.unusedVariables false
set_option linter.unusedSimpArgs false
set_option maxRecDepth 100000
/-! dyehouse/dyehouselaw04.NameEdges -/
namespace N4
noncomputable def cfg : Cfg := { P := Try.prog, ty := tys, E := tab [(17, N17.ent), (14, N14.ent), (22, N22.ent), (15, N15.ent), (18, N18.ent)], atSeq := tab [(2000002, ⟨[(0, .keep), (1, .keep), (2, .keep), (3, .keep), (30, .keep)]⟩), (3, ⟨[(0, .keep), (1, .keep), (2, .keep), (3, .keep)]⟩)], atLoop := tab [], outs := [] }
noncomputable def body : Code := bodyOf Try.f4
def j2000002 (j3 : ByteArray → ByteArray → ByteArray → ByteArray → Prop) (x0 : ByteArray) (x1 : ByteArray) (x2 : ByteArray) (x3 : ByteArray) (x30 : Bool) (k : Bool → Prop) : Prop :=
  (br x30 (N14.f (fun (y0_4 : Bool) => (k y0_4))) (j3 x0 x1 x2 x3))
def j3 (x0 : ByteArray) (x1 : ByteArray) (x2 : ByteArray) (x3 : ByteArray) (k : Bool → Prop) : Prop :=
  (N22.f x0 x1 (fun (y0_5 : ByteArray) => (N15.f y0_5 (fun (y0_6 : ByteArray) (y1_6 : ByteArray) (y2_6 : Bool) => (br y2_6 (br (beqS y0_6 x0) (br (beqS y1_6 x1) (N18.f y0_5 (fun (y0_7 : Bool) => (br (!y0_7) (N22.f x2 x3 (fun (y0_8 : ByteArray) => (br (beqS x0 x2) (br ((beqS y0_5 y0_8) == (beqS x1 x3)) (N14.f (fun (y0_9 : Bool) => (k y0_9))) (k false)) (br ((beqS y0_5 y0_8) == false) (N14.f (fun (y0_10 : Bool) => (k y0_10))) (k false))))) (k false)))) (k false)) (k false)) (k false))))))
def c (j2000002 : ByteArray → ByteArray → ByteArray → ByteArray → Bool → Prop) (x0 : ByteArray) (x1 : ByteArray) (x2 : ByteArray) (x3 : ByteArray) (k : Bool → Prop) : Prop :=
  (N17.f x0 (fun (y0_0 : Bool) => (br (!y0_0) (j2000002 x0 x1 x2 x3 true) (N17.f x1 (fun (y0_1 : Bool) => (br (!y0_1) (j2000002 x0 x1 x2 x3 true) (N17.f x2 (fun (y0_2 : Bool) => (br (!y0_2) (j2000002 x0 x1 x2 x3 true) (N17.f x3 (fun (y0_3 : Bool) => (j2000002 x0 x1 x2 x3 (!y0_3)))))))))))))
def j3' (x0 : ByteArray) (x1 : ByteArray) (x2 : ByteArray) (x3 : ByteArray) (k : Bool → Prop) : Prop := j3 x0 x1 x2 x3 k
def j2000002' (x0 : ByteArray) (x1 : ByteArray) (x2 : ByteArray) (x3 : ByteArray) (x30 : Bool) (k : Bool → Prop) : Prop := j2000002 (fun x0 x1 x2 x3 => j3' x0 x1 x2 x3 k) x0 x1 x2 x3 x30 k
def f0 (x0 : ByteArray) (x1 : ByteArray) (x2 : ByteArray) (x3 : ByteArray) (k : Bool → Prop) : Prop := c (fun x0 x1 x2 x3 x30 => j2000002' x0 x1 x2 x3 x30 k) x0 x1 x2 x3 k
theorem f_ex : ∃ g : ByteArray → ByteArray → ByteArray → ByteArray → (Bool → Prop) → Prop, g = f0 := ⟨_, rfl⟩
noncomputable def f : ByteArray → ByteArray → ByteArray → ByteArray → (Bool → Prop) → Prop := Classical.choose f_ex
theorem f_def : f = f0 := Classical.choose_spec f_ex
def m2000002 (x0 : ByteArray) (x1 : ByteArray) (x2 : ByteArray) (x3 : ByteArray) (x30 : Bool) : St := { tmps := mkT 76 0 [(0, (.v (.string x0))), (1, (.v (.string x1))), (2, (.v (.string x2))), (3, (.v (.string x3))), (30, (.v (.bool x30)))], hp := [], m := 0 }
def m3 (x0 : ByteArray) (x1 : ByteArray) (x2 : ByteArray) (x3 : ByteArray) : St := { tmps := mkT 76 0 [(0, (.v (.string x0))), (1, (.v (.string x1))), (2, (.v (.string x2))), (3, (.v (.string x3)))], hp := [], m := 0 }
noncomputable def X2000002 (k kp : D → List Blk → Prop) : St → Prop := atP cfg (pick none' []) [1, 0, 1] body (topK cfg Try.f4 k kp)
noncomputable def X3 (k kp : D → List Blk → Prop) : St → Prop := atP cfg (pick none' []) [1, 1] body (topK cfg Try.f4 k kp)
noncomputable def JJ (k kp : D → List Blk → Prop) : Nat → St → Prop := pick none' [(2000002, X2000002 k kp), (3, X3 k kp)]
noncomputable def LL (k kp : D → List Blk → Prop) : Nat → St → Prop := pick none' []
theorem j3_c (k kp : D → List Blk → Prop) (J L : Nat → St → Prop) (x0 : ByteArray) (x1 : ByteArray) (x2 : ByteArray) (x3 : ByteArray) : runC cfg 3 J L (pick none' []) [1, 1] body (topK cfg Try.f4 k kp) (m3 x0 x1 x2 x3) = j3 x0 x1 x2 x3 (fun y0 => k (.v (.bool y0)) []) := by kernel_rfl
theorem j3_ag (k kp : D → List Blk → Prop) : agPL cfg 3 (JJ k kp) (LL k kp) [1, 1] body = agPR cfg 3 (pick none' []) [1, 1] body (topK cfg Try.f4 k kp) := by kernel_rfl
theorem j3_raw (k kp : D → List Blk → Prop) (x0 : ByteArray) (x1 : ByteArray) (x2 : ByteArray) (x3 : ByteArray) : X3 k kp (m3 x0 x1 x2 x3) = j3 x0 x1 x2 x3 (fun y0 => k (.v (.bool y0)) []) :=
  Eq.mp (by kernel_rfl) ((atP_run (j3_ag k kp) (m3 x0 x1 x2 x3)).trans (j3_c k kp (JJ k kp) (LL k kp) x0 x1 x2 x3))
theorem j3_eq (k kp : D → List Blk → Prop) (x0 : ByteArray) (x1 : ByteArray) (x2 : ByteArray) (x3 : ByteArray) : X3 k kp (m3 x0 x1 x2 x3) = j3' x0 x1 x2 x3 (fun y0 => k (.v (.bool y0)) []) := by
  rw [j3_raw]; rfl
theorem j2000002_c (k kp : D → List Blk → Prop) (J L : Nat → St → Prop) (x0 : ByteArray) (x1 : ByteArray) (x2 : ByteArray) (x3 : ByteArray) (x30 : Bool) : runC cfg 2000002 J L (pick none' []) [1, 0, 1] body (topK cfg Try.f4 k kp) (m2000002 x0 x1 x2 x3 x30) = j2000002 (fun x0 x1 x2 x3 => J 3 (m3 x0 x1 x2 x3)) x0 x1 x2 x3 x30 (fun y0 => k (.v (.bool y0)) []) := by kernel_rfl
theorem j2000002_ag (k kp : D → List Blk → Prop) : agPL cfg 2000002 (JJ k kp) (LL k kp) [1, 0, 1] body = agPR cfg 2000002 (pick none' []) [1, 0, 1] body (topK cfg Try.f4 k kp) := by kernel_rfl
theorem j2000002_raw (k kp : D → List Blk → Prop) (x0 : ByteArray) (x1 : ByteArray) (x2 : ByteArray) (x3 : ByteArray) (x30 : Bool) : X2000002 k kp (m2000002 x0 x1 x2 x3 x30) = j2000002 (fun x0 x1 x2 x3 => X3 k kp (m3 x0 x1 x2 x3)) x0 x1 x2 x3 x30 (fun y0 => k (.v (.bool y0)) []) :=
  Eq.mp (by kernel_rfl) ((atP_run (j2000002_ag k kp) (m2000002 x0 x1 x2 x3 x30)).trans (j2000002_c k kp (JJ k kp) (LL k kp) x0 x1 x2 x3 x30))
theorem j2000002_eq (k kp : D → List Blk → Prop) (x0 : ByteArray) (x1 : ByteArray) (x2 : ByteArray) (x3 : ByteArray) (x30 : Bool) : X2000002 k kp (m2000002 x0 x1 x2 x3 x30) = j2000002' x0 x1 x2 x3 x30 (fun y0 => k (.v (.bool y0)) []) := by
  rw [j2000002_raw]; simp only [j3_eq]; first | done | rfl
theorem c_c (k kp : D → List Blk → Prop) (J L : Nat → St → Prop) (x0 : ByteArray) (x1 : ByteArray) (x2 : ByteArray) (x3 : ByteArray) : runC cfg 1000001 J L none'' [] body (topK cfg Try.f4 k kp) (st0 Try.f4 [(.v (.string x0)), (.v (.string x1)), (.v (.string x2)), (.v (.string x3))] []) = c (fun x0 x1 x2 x3 x30 => J 2000002 (m2000002 x0 x1 x2 x3 x30)) x0 x1 x2 x3 (fun y0 => k (.v (.bool y0)) []) := by kernel_rfl
theorem c_ag (k kp : D → List Blk → Prop) : agPL cfg 1000001 (JJ k kp) (LL k kp) [] body = agPR cfg 1000001 none'' [] body (topK cfg Try.f4 k kp) := by kernel_rfl
theorem body_is : Try.f4.body = some body := by kernel_rfl
theorem c_raw (k kp : D → List Blk → Prop) (x0 : ByteArray) (x1 : ByteArray) (x2 : ByteArray) (x3 : ByteArray) : funW cfg Try.f4 [(.v (.string x0)), (.v (.string x1)), (.v (.string x2)), (.v (.string x3))] [] k kp = c (fun x0 x1 x2 x3 x30 => X2000002 k kp (m2000002 x0 x1 x2 x3 x30)) x0 x1 x2 x3 (fun y0 => k (.v (.bool y0)) []) :=
  Eq.mp (by kernel_rfl) ((funW_run (AG := none'') body_is (c_ag k kp) [(.v (.string x0)), (.v (.string x1)), (.v (.string x2)), (.v (.string x3))] []).trans (c_c k kp (JJ k kp) (LL k kp) x0 x1 x2 x3))
theorem f_eq (k kp : D → List Blk → Prop) (x0 : ByteArray) (x1 : ByteArray) (x2 : ByteArray) (x3 : ByteArray) : funW cfg Try.f4 [(.v (.string x0)), (.v (.string x1)), (.v (.string x2)), (.v (.string x3))] [] k kp = f x0 x1 x2 x3 (fun y0 => k (.v (.bool y0)) []) := by
  rw [f_def, c_raw]; simp only [j2000002_eq]; first | done | rfl
noncomputable def ent0 : Entry := fun args blks k _ => match args, blks with
  | [d0, d1, d2, d3], [] => aStr d0 fun x0 => aStr d1 fun x1 => aStr d2 fun x2 => aStr d3 fun x3 => f x0 x1 x2 x3 (fun y0 => k (.v (.bool y0)) [])
  | _, _ => False
noncomputable def ent : Entry := fun args blks k kp => ent0 (convA [none, none, none, none] args) blks k kp
theorem ok : EntOk Try.prog 0 0 4 ent := by
  refine EntOk.conv (EntOk.of (funW_ok (cfg := cfg) (tyOk_of rfl rfl tyL_ok) (eqOk_none rfl) mixed_ok (tab_ok ?_) Try.func4 (by rfl) (by rfl)) ?_) _
  · intro p hp
    simp only [List.mem_cons, List.not_mem_nil, or_false] at hp
    rcases hp with rfl | rfl | rfl | rfl | rfl
    · exact N17.ok
    · exact N14.ok
    · exact N22.ok
    · exact N15.ok
    · exact N18.ok
  · intro args blks k kp h k' kp'
    match args, blks, h with
    | [d0, d1, d2, d3], [], h =>
    dsimp only [ent0] at h
    have h9 := aStr_elim h; clear h; obtain ⟨x0, rfl, h⟩ := h9
    have h9 := aStr_elim h; clear h; obtain ⟨x1, rfl, h⟩ := h9
    have h9 := aStr_elim h; clear h; obtain ⟨x2, rfl, h⟩ := h9
    have h9 := aStr_elim h; clear h; obtain ⟨x3, rfl, h⟩ := h9
    exact (f_eq k' kp' x0 x1 x2 x3).symm
end N4
end Go.Proofs.Yt
namespace Go.Proofs.Yt.NameEdges
open Go Go.Aw Go.Proofs Go.Proofs.Ytbedcdiacpbgpaa Go.ChangeShapes Go.WideShapes Go.ChangeAt Go.RowKit
set_option linter.unusedVariables false
set_option linter.unusedSimpArgs false
set_option maxRecDepth 100000
/-! 4 dyehouse/dyehouselaw04.NameEdges -/
def Pure : Prop := ∀ (x0 : ByteArray) (w0 : x0.size ≤ reachBytes) (x1 : ByteArray) (w1 : x1.size ≤ reachBytes) (x2 : ByteArray) (w2 : x2.size ≤ reachBytes) (x3 : ByteArray) (w3 : x3.size ≤ reachBytes), N4.f x0 x1 x2 x3 (fun y0 => y0 = true)
theorem own : ownKnob Try.prog.godebug = none := by kernel_rfl
theorem laid : laidOutB Try.prog = true := by kernel_rfl
theorem lifted (pure : Pure) (os : Os) (started : os.Started) (H : Type) (enc : TypeId × Value → H) :
    ReturnsInHanded {} Try.checked os 4 .any (Rows.nameEdgesSpec.pre6 enc Try.prog Try.f4 Rows.nameEdgesRow.domain false) (Rows.nameEdgesSpec.post enc Try.prog Try.f4 false true false false) := by
  refine returnsInHanded_of_change_sized (C := Try.checked) own started (by kernel_rfl) Try.func4
    (ChangeSpec.witness6 (enc := enc) (C := Try.checked) false ⟨#[], #[.string ⟨#[]⟩, .string ⟨#[]⟩, .string ⟨#[]⟩, .string ⟨#[]⟩], []⟩ 4 (by kernel_rfl) (by kernel_rfl) (by kernel_rfl) (by kernel_rfl)) ?_
  intro W base args ds gs before hval0 hW hcnd hsz0 _
  have hsz : (DataW.weightsEach Try.prog (Try.f4.params.toList ++ Rows.nameEdgesSpec.plain.varTypes Try.prog) (ds ++ gs)).all (· ≤ reachBytes) = true := hsz0
  have hval : ∀ (j : Nat) t v, Try.f4.params[j]? = some t → args[j]? = some v → Value.okWide Try.prog W .any base t v := hval0
  have hW' := hW
  have hlt := hW.lt
  obtain ⟨p, q, hA0, hV, rfl, hfz, hnd⟩ := hW
  have hA : DataW.TrodAll enc Try.prog W 0 (fun _ => true) true Try.f4.params.toList args.toList ds p := hA0
  have hAk := hA
  rw [Try.params4] at hA hval hsz
  obtain ⟨v0, vs0, d0, ds0, p0, q0, hargs, rfl, rfl, h0, r0⟩ := trodAll_cons hA
  obtain ⟨v1, vs1, d1, ds1, p1, q1, rfl, rfl, rfl, h1, r1⟩ := trodAll_cons r0
  obtain ⟨v2, vs2, d2, ds2, p2, q2, rfl, rfl, rfl, h2, r2⟩ := trodAll_cons r1
  obtain ⟨v3, vs3, d3, ds3, p3, q3, rfl, rfl, rfl, h3, r3⟩ := trodAll_cons r2
  obtain ⟨rfl, rfl, rfl⟩ := trodAll_nil r3
  obtain rfl : args = #[v0, v1, v2, v3] := by cases args; simp_all
  obtain ⟨rfl, rfl⟩ := trodVars_none hV
  obtain ⟨x0, k0, w0⟩ := arg_str (tf := 0) (tw := 0) (by kernel_rfl) (hval 0 9 v0 rfl rfl) h0 (fun m hm => of_decide_eq_true (List.all_eq_true.1 hsz m (DataW.weights_mem_each (j := 0) rfl rfl m hm)))
  obtain ⟨x1, k1, w1⟩ := arg_str (tf := 0) (tw := 0) (by kernel_rfl) (hval 1 9 v1 rfl rfl) h1 (fun m hm => of_decide_eq_true (List.all_eq_true.1 hsz m (DataW.weights_mem_each (j := 1) rfl rfl m hm)))
  obtain ⟨x2, k2, w2⟩ := arg_str (tf := 0) (tw := 0) (by kernel_rfl) (hval 2 9 v2 rfl rfl) h2 (fun m hm => of_decide_eq_true (List.all_eq_true.1 hsz m (DataW.weights_mem_each (j := 2) rfl rfl m hm)))
  obtain ⟨x3, k3, w3⟩ := arg_str (tf := 0) (tw := 0) (by kernel_rfl) (hval 3 9 v3 rfl rfl) h3 (fun m hm => of_decide_eq_true (List.all_eq_true.1 hsz m (DataW.weights_mem_each (j := 3) rfl rfl m hm)))
  refine (law_of N4.ok (W := W) (us := [v0, v1, v2, v3]) (ds := [.v (.string x0), .v (.string x1), .v (.string x2), .v (.string x3)]) ⟨_, _, rfl, k0, ⟨_, _, rfl, k1, ⟨_, _, rfl, k2, ⟨_, _, rfl, k3, by simp only [RepL]⟩⟩⟩⟩ (show N4.ent _ _ _ _ from pure x0 w0 x1 w1 x2 w2 x3 w3)).mono fun e W' ⟨he, bel⟩ => ?_
  subst he
  exact ⟨_, rfl, _, _, _, [], _, [], hW', trodAll_mk1 (shut_bool (by kernel_rfl) _), trodAll_below laid bel (by kernel_rfl) hAk (fun x hx => hlt x (by simpa using hx)), rfl, bel.frame _, fun h => by cases h⟩
theorem over (pure : Pure) : Rows.nameEdgesRow.holds Try.pinned (OpenSpec.ofChange Rows.nameEdgesSpec) :=
  OpenClaim.holds_of_wide 4 Try.f4 rfl rfl rfl rfl rfl rfl rfl ⟨rfl, rfl, rfl, rfl, rfl⟩ rfl rfl rfl rfl rfl (by kernel_rfl) Try.func4 (by kernel_rfl)
    (of_decide_eq_true (by kernel_rfl)) (by unfold Func.isWrapper; first | (rw [if_pos (by decide +kernel)]; kernel_rfl) | (rw [if_neg (by decide +kernel)]; exact ⟨rfl, rfl⟩))
    (fun os started H enc _ => lifted pure os started H enc)
theorem holds (pure : Pure) : Rows.NameEdgesSaid := over pure
end Go.Proofs.Yt.NameEdges
namespace Go.Proofs.Yt.NameEdges
open Go Go.Aw Go.Proofs Go.RowKit
set_option linter.unusedVariables false
set_option linter.unusedSimpArgs false

theorem right_no46 {l : List Int} (h : rightI l = true) : ∀ j, j < l.length → l.getD j 0 ≠ 46 := by
  intro j hj e
  rw [right_46 hj e] at h; cases h

theorem pre_edge {a : List Int} (b : List Int) (h : rightI a = true) : pre (a ++ 46 :: b) = a.length := by
  apply pre_is
  · simp
  · simp [List.getD]
  · intro j hj
    have := right_no46 h j hj
    unfold List.getD at this ⊢
    rw [List.getElem?_append_left hj]; exact this

theorem ends_edge {a b : List Int} (ha : rightI a = true) (hb : rightI b = true) : endsI (a ++ 46 :: b) = (a, b, true) := by
  unfold endsI
  rw [pre_edge b ha]
  have h1 : (a ++ 46 :: b).take a.length = a := List.take_left
  have h2 : (a ++ 46 :: b).drop (a.length + 1) = b := by
    rw [← List.drop_drop, List.drop_left]; rfl
  rw [h1, h2, if_pos ⟨by simp, ha, hb⟩]

theorem edge_inj {a b c d : List Int} (ha : rightI a = true) (hc : rightI c = true) (h : a ++ 46 :: b = c ++ 46 :: d) : a = c ∧ b = d := by
  have h1 := pre_edge b ha
  have h2 := pre_edge d hc
  rw [h] at h1
  have hl : a.length = c.length := by omega
  have := List.append_inj h hl
  exact ⟨this.1, by simpa using this.2⟩

theorem pure : Pure := by
  intro a wa b wb c wc d wd
  have hk : N14.f (fun y => y = true) := worksN_s _ rfl
  rw [N4.f_def]
  unfold N4.f0 N4.c N4.j2000002' N4.j2000002 N4.j3' N4.j3
  refine rightr_s _ _ (br_of (fun h => hk) (fun ha => rightr_s _ _ (br_of (fun h => hk) (fun hb => rightr_s _ _ (br_of (fun h => hk) (fun hc => rightr_s _ _ (br_of (fun h => hk) (fun hd => ?_))))))))
  have ha : rightI (ofBytes a) = true := by simpa using ha
  have hb : rightI (ofBytes b) = true := by simpa using hb
  have hc : rightI (ofBytes c) = true := by simpa using hc
  have hd : rightI (ofBytes d) = true := by simpa using hd
  have len : ∀ s : ByteArray, rightI (ofBytes s) = true → s.size ≤ 24 := by
    intro s h
    unfold rightI at h
    simp only [Bool.and_eq_true, decide_eq_true_eq] at h
    rw [ofBytes_length] at h
    exact h.1.1.2
  have la := len a ha
  have lb := len b hb
  have hr2 : 1000 ≤ reachBytes := by decide
  have isb : ∀ x y : ByteArray, ∀ z ∈ ofBytes x ++ 46 :: ofBytes y, isB z := by
    intro x y z hz
    rcases List.mem_append.1 hz with h1 | h1
    · exact ofBytes_isB x z h1
    · rcases List.mem_cons.1 h1 with h1 | h1
      · subst h1; exact ⟨by decide, by decide⟩
      · exact ofBytes_isB y z h1
  have sz : (bytesOf (ofBytes a ++ 46 :: ofBytes b)).size ≤ reachBytes := by
    rw [bytesOf_size]
    simp only [List.length_append, List.length_cons, ofBytes_length]
    omega
  have he : ofBytes (bytesOf (ofBytes a ++ 46 :: ofBytes b)) = ofBytes a ++ 46 :: ofBytes b := ofBytes_bytesOf (isb a b)
  refine edge_s _ _ wa wb _ (ends_s _ sz _ ?_)
  rw [he, ends_edge ha hb]
  simp only [bytesOf_ofBytes, beqS_self, br_true]
  refine right_s _ _ ?_
  have hno : rightI (ofBytes a ++ 46 :: ofBytes b) = false := right_46 (i := (ofBytes a).length) (by simp) (by simp [List.getD])
  rw [he, hno]
  simp only [Bool.not_false, br_true]
  refine edge_s _ _ wc wd _ ?_
  have key : beqS (bytesOf (ofBytes a ++ 46 :: ofBytes b)) (bytesOf (ofBytes c ++ 46 :: ofBytes d)) = (beqS a c && beqS b d) := by
    rw [Bool.eq_iff_iff, Bool.and_eq_true, beqS_iff, beqS_iff, beqS_iff]
    constructor
    · intro h
      have h := congrArg ofBytes h
      rw [he, ofBytes_bytesOf (isb c d)] at h
      obtain ⟨h1, h2⟩ := edge_inj ha hc h
      exact ⟨eq_of_ofBytes h1, eq_of_ofBytes h2⟩
    · rintro ⟨rfl, rfl⟩; rfl
  rw [key]
  cases beqS a c with
  | true => simp only [br_true, Bool.true_and, beq_self_eq_true]; exact hk
  | false => simp only [br_false, Bool.false_and, beq_self_eq_true, br_true]; exact hk

theorem proved : Go.Proofs.Ytbedcdiacpbgpaa.Rows.NameEdgesSaid := holds pure
end Go.Proofs.Yt.NameEdges
namespace Go.Proofs.Ytbedcdiacpbgpaa
/-- The statement. -/
theorem nameEdges_holds : Rows.NameEdgesSaid := Go.Proofs.Yt.NameEdges.proved
#print axioms nameEdges_holds
end Go.Proofs.Ytbedcdiacpbgpaa
