/- Functions of the program as plain functions, each with the proof that the code comes to them. -/
import Derived.Test.YtbfggnlonemmiaaObBe0
namespace Go.Proofs.Yu
open Go Go.Aw Go.Proofs
set_option linter.unusedVariables false
set_option linter.unusedSimpArgs false
set_option maxRecDepth 100000
/-! dyehouse/obs.Same -/
namespace N36
noncomputable def cfg : Cfg := { P := Try.prog, ty := tys, E := tab [(70, N70.ent), (71, N71.ent), (72, N72.ent)], atSeq := tab [], atLoop := tab [], outs := [], eqT := tab [(94, [(Ty.int IntKind.i64), (Ty.int IntKind.i64), (Ty.int IntKind.i64)])], bT := tab [], fzB := [2, 3] }
noncomputable def body : Code := bodyOf Try.f36
def c (x0_0 : (List (ByteArray × (List Int)))) (x0_1 : Int) (x0_2 : Int) (x0_3 : (List Int)) (x0_4 : Int) (x1_0 : (List (ByteArray × (List Int)))) (x1_1 : Int) (x1_2 : Int) (x1_3 : (List Int)) (x1_4 : Int) (k : Bool → Prop) : Prop :=
  (N70.f x0_0 x0_1 x0_2 x0_3 x0_4 (fun (y0_0_0 : Int) (y0_1_0 : Int) (y0_2_0 : Int) => (N70.f x1_0 x1_1 x1_2 x1_3 x1_4 (fun (y0_0_1 : Int) (y0_1_1 : Int) (y0_2_1 : Int) => (br ((y0_0_0 == y0_0_1) && ((y0_1_0 == y0_1_1) && ((y0_2_0 == y0_2_1) && true))) (N71.f x0_3 x1_3 (fun (y0_2 : Bool) => (br y0_2 (N72.f x0_0 x1_0 (fun (y0_3 : Bool) => (k y0_3))) (k false)))) (k false))))))
def f0 (x0_0 : (List (ByteArray × (List Int)))) (x0_1 : Int) (x0_2 : Int) (x0_3 : (List Int)) (x0_4 : Int) (x1_0 : (List (ByteArray × (List Int)))) (x1_1 : Int) (x1_2 : Int) (x1_3 : (List Int)) (x1_4 : Int) (k : Bool → Prop) : Prop := c x0_0 x0_1 x0_2 x0_3 x0_4 x1_0 x1_1 x1_2 x1_3 x1_4 k
theorem f_ex : ∃ g : (List (ByteArray × (List Int))) → Int → Int → (List Int) → Int → (List (ByteArray × (List Int))) → Int → Int → (List Int) → Int → (Bool → Prop) → Prop, g = f0 := ⟨_, rfl⟩
noncomputable def f : (List (ByteArray × (List Int))) → Int → Int → (List Int) → Int → (List (ByteArray × (List Int))) → Int → Int → (List Int) → Int → (Bool → Prop) → Prop := Classical.choose f_ex
theorem f_def : f = f0 := Classical.choose_spec f_ex
noncomputable def JJ (k kp : D → List Blk → Prop) : Nat → St → Prop := pick none' []
noncomputable def LL (k kp : D → List Blk → Prop) : Nat → St → Prop := pick none' []
theorem c_c (k kp : D → List Blk → Prop) (J L : Nat → St → Prop) (x0_0 : (List (ByteArray × (List Int)))) (x0_1 : Int) (x0_2 : Int) (x0_3 : (List Int)) (x0_4 : Int) (x1_0 : (List (ByteArray × (List Int)))) (x1_1 : Int) (x1_2 : Int) (x1_3 : (List Int)) (x1_4 : Int) : runC cfg 1000001 J L none'' [] body (topK cfg Try.f36 k kp) (st0 Try.f36 [(.agg [(.fz (Ty.pair Ty.str (Ty.list (Ty.int IntKind.i64))) x0_0), (.v (.int IntKind.i64 x0_1)), (.v (.int IntKind.i64 x0_2)), (.fz (Ty.int IntKind.i64) x0_3), (.v (.int IntKind.i64 x0_4))]), (.agg [(.fz (Ty.pair Ty.str (Ty.list (Ty.int IntKind.i64))) x1_0), (.v (.int IntKind.i64 x1_1)), (.v (.int IntKind.i64 x1_2)), (.fz (Ty.int IntKind.i64) x1_3), (.v (.int IntKind.i64 x1_4))])] []) = c x0_0 x0_1 x0_2 x0_3 x0_4 x1_0 x1_1 x1_2 x1_3 x1_4 (fun y0 => k (.v (.bool y0)) []) := by kernel_rfl
theorem c_ag (k kp : D → List Blk → Prop) : agPL cfg 1000001 (JJ k kp) (LL k kp) [] body = agPR cfg 1000001 none'' [] body (topK cfg Try.f36 k kp) := by kernel_rfl
theorem body_is : Try.f36.body = some body := by kernel_rfl
theorem c_raw (k kp : D → List Blk → Prop) (x0_0 : (List (ByteArray × (List Int)))) (x0_1 : Int) (x0_2 : Int) (x0_3 : (List Int)) (x0_4 : Int) (x1_0 : (List (ByteArray × (List Int)))) (x1_1 : Int) (x1_2 : Int) (x1_3 : (List Int)) (x1_4 : Int) : funW cfg Try.f36 [(.agg [(.fz (Ty.pair Ty.str (Ty.list (Ty.int IntKind.i64))) x0_0), (.v (.int IntKind.i64 x0_1)), (.v (.int IntKind.i64 x0_2)), (.fz (Ty.int IntKind.i64) x0_3), (.v (.int IntKind.i64 x0_4))]), (.agg [(.fz (Ty.pair Ty.str (Ty.list (Ty.int IntKind.i64))) x1_0), (.v (.int IntKind.i64 x1_1)), (.v (.int IntKind.i64 x1_2)), (.fz (Ty.int IntKind.i64) x1_3), (.v (.int IntKind.i64 x1_4))])] [] k kp = c x0_0 x0_1 x0_2 x0_3 x0_4 x1_0 x1_1 x1_2 x1_3 x1_4 (fun y0 => k (.v (.bool y0)) []) :=
  Eq.mp (by kernel_rfl) ((funW_run (AG := none'') body_is (c_ag k kp) [(.agg [(.fz (Ty.pair Ty.str (Ty.list (Ty.int IntKind.i64))) x0_0), (.v (.int IntKind.i64 x0_1)), (.v (.int IntKind.i64 x0_2)), (.fz (Ty.int IntKind.i64) x0_3), (.v (.int IntKind.i64 x0_4))]), (.agg [(.fz (Ty.pair Ty.str (Ty.list (Ty.int IntKind.i64))) x1_0), (.v (.int IntKind.i64 x1_1)), (.v (.int IntKind.i64 x1_2)), (.fz (Ty.int IntKind.i64) x1_3), (.v (.int IntKind.i64 x1_4))])] []).trans (c_c k kp (JJ k kp) (LL k kp) x0_0 x0_1 x0_2 x0_3 x0_4 x1_0 x1_1 x1_2 x1_3 x1_4))
theorem f_eq (k kp : D → List Blk → Prop) (x0_0 : (List (ByteArray × (List Int)))) (x0_1 : Int) (x0_2 : Int) (x0_3 : (List Int)) (x0_4 : Int) (x1_0 : (List (ByteArray × (List Int)))) (x1_1 : Int) (x1_2 : Int) (x1_3 : (List Int)) (x1_4 : Int) : funW cfg Try.f36 [(.agg [(.fz (Ty.pair Ty.str (Ty.list (Ty.int IntKind.i64))) x0_0), (.v (.int IntKind.i64 x0_1)), (.v (.int IntKind.i64 x0_2)), (.fz (Ty.int IntKind.i64) x0_3), (.v (.int IntKind.i64 x0_4))]), (.agg [(.fz (Ty.pair Ty.str (Ty.list (Ty.int IntKind.i64))) x1_0), (.v (.int IntKind.i64 x1_1)), (.v (.int IntKind.i64 x1_2)), (.fz (Ty.int IntKind.i64) x1_3), (.v (.int IntKind.i64 x1_4))])] [] k kp = f x0_0 x0_1 x0_2 x0_3 x0_4 x1_0 x1_1 x1_2 x1_3 x1_4 (fun y0 => k (.v (.bool y0)) []) := by
  rw [f_def, c_raw]; rfl
noncomputable def ent0 : Entry := fun args blks k _ => match args, blks with
  | [d0, d1], [] => aAgg 5 d0 fun l => aCons l fun d0_0 l => aCons l fun d0_1 l => aCons l fun d0_2 l => aCons l fun d0_3 l => aCons l fun d0_4 l => aNil l (aFz (Ty.pair Ty.str (Ty.list (Ty.int IntKind.i64))) d0_0 fun x0_0 => aInt IntKind.i64 d0_1 fun x0_1 => aInt IntKind.i64 d0_2 fun x0_2 => aFz (Ty.int IntKind.i64) d0_3 fun x0_3 => aInt IntKind.i64 d0_4 fun x0_4 => aAgg 5 d1 fun l => aCons l fun d1_0 l => aCons l fun d1_1 l => aCons l fun d1_2 l => aCons l fun d1_3 l => aCons l fun d1_4 l => aNil l (aFz (Ty.pair Ty.str (Ty.list (Ty.int IntKind.i64))) d1_0 fun x1_0 => aInt IntKind.i64 d1_1 fun x1_1 => aInt IntKind.i64 d1_2 fun x1_2 => aFz (Ty.int IntKind.i64) d1_3 fun x1_3 => aInt IntKind.i64 d1_4 fun x1_4 => f x0_0 x0_1 x0_2 x0_3 x0_4 x1_0 x1_1 x1_2 x1_3 x1_4 (fun y0 => k (.v (.bool y0)) [])))
  | _, _ => False
noncomputable def ent : Entry := fun args blks k kp => ent0 (convB [.cells [some (Ty.pair Ty.str (Ty.list (Ty.int IntKind.i64))), none, none, some (Ty.int IntKind.i64), none], .cells [some (Ty.pair Ty.str (Ty.list (Ty.int IntKind.i64))), none, none, some (Ty.int IntKind.i64), none]] args) blks k kp
theorem ok : EntOk Try.prog 0 0 36 ent := by
  refine EntOk.convB (EntOk.of (funW_ok (cfg := cfg) (tyOk_of rfl rfl tyL_ok) (eqOk_of (P := Try.prog) rfl rfl (by kernel_rfl)) mixed_ok (tab_ok ?_) Try.func36 (by rfl) (by rfl)) ?_) _
  · intro p hp
    simp only [List.mem_cons, List.not_mem_nil, or_false] at hp
    rcases hp with rfl | rfl | rfl
    · exact N70.ok
    · exact N71.ok
    · exact N72.ok
  · intro args blks k kp h k' kp'
    match args, blks, h with
    | [d0, d1], [], h =>
    dsimp only [ent0] at h
    have h9 := aAgg_elim h; clear h; obtain ⟨_, rfl, h⟩ := h9
    have h9 := aCons_elim h; clear h; obtain ⟨d0_0, _, rfl, h⟩ := h9
    have h9 := aCons_elim h; clear h; obtain ⟨d0_1, _, rfl, h⟩ := h9
    have h9 := aCons_elim h; clear h; obtain ⟨d0_2, _, rfl, h⟩ := h9
    have h9 := aCons_elim h; clear h; obtain ⟨d0_3, _, rfl, h⟩ := h9
    have h9 := aCons_elim h; clear h; obtain ⟨d0_4, _, rfl, h⟩ := h9
    have h9 := aNil_elim h; clear h; obtain ⟨rfl, h⟩ := h9
    have h9 := aFz_elim (t := (Ty.pair Ty.str (Ty.list (Ty.int IntKind.i64)))) h; clear h; obtain ⟨x0_0, rfl, h⟩ := h9
    have h9 := aInt_elim h; clear h; obtain ⟨x0_1, rfl, h⟩ := h9
    have h9 := aInt_elim h; clear h; obtain ⟨x0_2, rfl, h⟩ := h9
    have h9 := aFz_elim (t := (Ty.int IntKind.i64)) h; clear h; obtain ⟨x0_3, rfl, h⟩ := h9
    have h9 := aInt_elim h; clear h; obtain ⟨x0_4, rfl, h⟩ := h9
    have h9 := aAgg_elim h; clear h; obtain ⟨_, rfl, h⟩ := h9
    have h9 := aCons_elim h; clear h; obtain ⟨d1_0, _, rfl, h⟩ := h9
    have h9 := aCons_elim h; clear h; obtain ⟨d1_1, _, rfl, h⟩ := h9
    have h9 := aCons_elim h; clear h; obtain ⟨d1_2, _, rfl, h⟩ := h9
    have h9 := aCons_elim h; clear h; obtain ⟨d1_3, _, rfl, h⟩ := h9
    have h9 := aCons_elim h; clear h; obtain ⟨d1_4, _, rfl, h⟩ := h9
    have h9 := aNil_elim h; clear h; obtain ⟨rfl, h⟩ := h9
    have h9 := aFz_elim (t := (Ty.pair Ty.str (Ty.list (Ty.int IntKind.i64)))) h; clear h; obtain ⟨x1_0, rfl, h⟩ := h9
    have h9 := aInt_elim h; clear h; obtain ⟨x1_1, rfl, h⟩ := h9
    have h9 := aInt_elim h; clear h; obtain ⟨x1_2, rfl, h⟩ := h9
    have h9 := aFz_elim (t := (Ty.int IntKind.i64)) h; clear h; obtain ⟨x1_3, rfl, h⟩ := h9
    have h9 := aInt_elim h; clear h; obtain ⟨x1_4, rfl, h⟩ := h9
    exact (f_eq k' kp' x0_0 x0_1 x0_2 x0_3 x0_4 x1_0 x1_1 x1_2 x1_3 x1_4).symm
end N36
end Go.Proofs.Yu
namespace Go.Proofs.Yu
open Go Go.Aw Go.Proofs
set_option linter.unusedVariables false
set_option linter.unusedSimpArgs false
set_option maxRecDepth 100000
/-! dyehouse/dyehouseref12.Ints -/
namespace N61
noncomputable def cfg : Cfg := { P := Try.prog, ty := tys, E := tab [], atSeq := tab [(8, ⟨[]⟩)], atLoop := tab [(4, ⟨[(0, .keep), (1, .keep), (5, .keep)]⟩)], outs := [], eqT := tab [], bT := tab [] }
noncomputable def body : Code := bodyOf Try.f61
def l4 (j8 : Prop) (ag4 : Int → Prop) (x0 : (List Int)) (x1 : (List Int)) (x5 : Int) (k : Bool → Prop) : Prop :=
  (br (decide (x5 < ((((x0).length : Nat) : Int)))) ((inB 0 x5 ((((x0).length : Nat) : Int) - 1)) ∧ ((inB 0 x5 ((((x1).length : Nat) : Int) - 1)) ∧ (br ((x0.getD (Int.toNat x5) (0)) != (x1.getD (Int.toNat x5) (0))) (k false) (ag4 (IntKind.i64.wrap (x5 + (1 : Int))))))) (j8))
def j8 (k : Bool → Prop) : Prop :=
  (k true)
def c (l4 : (List Int) → (List Int) → Int → Prop) (x0 : (List Int)) (x1 : (List Int)) (k : Bool → Prop) : Prop :=
  (br (((((x0).length : Nat) : Int)) != ((((x1).length : Nat) : Int))) (k false) (l4 x0 x1 (0 : Int)))
def j8' (k : Bool → Prop) : Prop := j8 k
def l4' (x0 : (List Int)) (x1 : (List Int)) (x5 : Int) (k : Bool → Prop) : Prop := ∃ n, loopS (fun (ag : (Int) → Prop) (s : Int) => l4 (j8' k) (fun x5 => ag (x5)) x0 x1 s k) n (x5)
def f0 (x0 : (List Int)) (x1 : (List Int)) (k : Bool → Prop) : Prop := c (fun x0 x1 x5 => l4' x0 x1 x5 k) x0 x1 k
theorem f_ex : ∃ g : (List Int) → (List Int) → (Bool → Prop) → Prop, g = f0 := ⟨_, rfl⟩
noncomputable def f : (List Int) → (List Int) → (Bool → Prop) → Prop := Classical.choose f_ex
theorem f_def : f = f0 := Classical.choose_spec f_ex
def mL4 (x0 : (List Int)) (x1 : (List Int)) (x5 : Int) : St := { tmps := mkT 26 0 [(0, (.fz (Ty.int IntKind.i64) x0)), (1, (.fz (Ty.int IntKind.i64) x1)), (5, (.v (.int IntKind.i64 x5)))], hp := [], m := 0 }
def m8 : St := { tmps := mkT 26 0 [], hp := [], m := 0 }
noncomputable def YL4 (k kp : D → List Blk → Prop) : (St → Prop) → St → Prop := loopB cfg (sub [1, 1, 0, 1, 0, 0] body) (contK cfg (pick none' []) [1, 1, 0, 1, 0] body (topK cfg Try.f61 k kp))
noncomputable def XL4 (k kp : D → List Blk → Prop) : St → Prop := fun st => ∃ n, loopN (YL4 k kp) n st
noncomputable def X8 (k kp : D → List Blk → Prop) : St → Prop := atP cfg (pick none' []) [1, 1, 1] body (topK cfg Try.f61 k kp)
noncomputable def JJ_4 (k kp : D → List Blk → Prop) (ag4 : St → Prop) : Nat → St → Prop := pick none' [(8, X8 k kp)]
noncomputable def LL_4 (k kp : D → List Blk → Prop) (ag4 : St → Prop) : Nat → St → Prop := pick none' [(4, XL4 k kp)]
noncomputable def JJ (k kp : D → List Blk → Prop) : Nat → St → Prop := pick none' [(8, X8 k kp)]
noncomputable def LL (k kp : D → List Blk → Prop) : Nat → St → Prop := pick none' [(4, XL4 k kp)]
theorem j8_c (k kp : D → List Blk → Prop) (J L : Nat → St → Prop) : runC cfg 8 J L (pick none' []) [1, 1, 1] body (topK cfg Try.f61 k kp) (m8) = j8 (fun y0 => k (.v (.bool y0)) []) := by kernel_rfl
theorem j8_ag (k kp : D → List Blk → Prop) : agPL cfg 8 (JJ k kp) (LL k kp) [1, 1, 1] body = agPR cfg 8 (pick none' []) [1, 1, 1] body (topK cfg Try.f61 k kp) := by kernel_rfl
theorem j8_raw (k kp : D → List Blk → Prop) : X8 k kp (m8) = j8 (fun y0 => k (.v (.bool y0)) []) :=
  Eq.mp (by kernel_rfl) ((atP_run (j8_ag k kp) (m8)).trans (j8_c k kp (JJ k kp) (LL k kp)))
theorem j8_eq (k kp : D → List Blk → Prop) : X8 k kp (m8) = j8' (fun y0 => k (.v (.bool y0)) []) := by
  rw [j8_raw]; rfl
theorem l4_c (k kp : D → List Blk → Prop) (J L : Nat → St → Prop) (ag4 : St → Prop) (x0 : (List Int)) (x1 : (List Int)) (x5 : Int) : runC cfg 1000001 J L (pick none' [(4, ag4)]) [1, 1, 0, 1, 0, 0] body (topK cfg Try.f61 k kp) (mL4 x0 x1 x5) = l4 (J 8 (m8)) (fun x5 => ag4 (mL4 x0 x1 x5)) x0 x1 x5 (fun y0 => k (.v (.bool y0)) []) := by kernel_rfl
theorem l4_ag (k kp : D → List Blk → Prop) (ag4 : St → Prop) : agPL cfg 1000001 (JJ_4 k kp ag4) (LL_4 k kp ag4) [1, 1, 0, 1, 0, 0] body = agPR cfg 1000001 (pick none' [(4, ag4)]) [1, 1, 0, 1, 0, 0] body (topK cfg Try.f61 k kp) := by kernel_rfl
theorem l4_raw (k kp : D → List Blk → Prop) (ag4 : St → Prop) (x0 : (List Int)) (x1 : (List Int)) (x5 : Int) : YL4 k kp ag4 (mL4 x0 x1 x5) = l4 (X8 k kp (m8)) (fun x5 => ag4 (mL4 x0 x1 x5)) x0 x1 x5 (fun y0 => k (.v (.bool y0)) []) :=
  Eq.mp (by kernel_rfl) ((atP_run (l4_ag k kp ag4) (mL4 x0 x1 x5)).trans (l4_c k kp (JJ_4 k kp ag4) (LL_4 k kp ag4) ag4 x0 x1 x5))
theorem l4_eq (k kp : D → List Blk → Prop) (x0 : (List Int)) (x1 : (List Int)) (x5 : Int) : XL4 k kp (mL4 x0 x1 x5) = l4' x0 x1 x5 (fun y0 => k (.v (.bool y0)) []) :=
  loop_eq (mk := fun (s : Int) => mL4 x0 x1 s) (fun again s => by rw [l4_raw k kp again x0 x1 s]; simp only [j8_eq]; first | done | rfl) (x5)
theorem c_c (k kp : D → List Blk → Prop) (J L : Nat → St → Prop) (x0 : (List Int)) (x1 : (List Int)) : runC cfg 1000001 J L none'' [] body (topK cfg Try.f61 k kp) (st0 Try.f61 [(.fz (Ty.int IntKind.i64) x0), (.fz (Ty.int IntKind.i64) x1)] []) = c (fun x0 x1 x5 => L 4 (mL4 x0 x1 x5)) x0 x1 (fun y0 => k (.v (.bool y0)) []) := by kernel_rfl
theorem c_ag (k kp : D → List Blk → Prop) : agPL cfg 1000001 (JJ k kp) (LL k kp) [] body = agPR cfg 1000001 none'' [] body (topK cfg Try.f61 k kp) := by kernel_rfl
theorem body_is : Try.f61.body = some body := by kernel_rfl
theorem c_raw (k kp : D → List Blk → Prop) (x0 : (List Int)) (x1 : (List Int)) : funW cfg Try.f61 [(.fz (Ty.int IntKind.i64) x0), (.fz (Ty.int IntKind.i64) x1)] [] k kp = c (fun x0 x1 x5 => XL4 k kp (mL4 x0 x1 x5)) x0 x1 (fun y0 => k (.v (.bool y0)) []) :=
  Eq.mp (by kernel_rfl) ((funW_run (AG := none'') body_is (c_ag k kp) [(.fz (Ty.int IntKind.i64) x0), (.fz (Ty.int IntKind.i64) x1)] []).trans (c_c k kp (JJ k kp) (LL k kp) x0 x1))
theorem f_eq (k kp : D → List Blk → Prop) (x0 : (List Int)) (x1 : (List Int)) : funW cfg Try.f61 [(.fz (Ty.int IntKind.i64) x0), (.fz (Ty.int IntKind.i64) x1)] [] k kp = f x0 x1 (fun y0 => k (.v (.bool y0)) []) := by
  rw [f_def, c_raw]; simp only [l4_eq]; first | done | rfl
noncomputable def ent0 : Entry := fun args blks k _ => match args, blks with
  | [d0, d1], [] => aFz (Ty.int IntKind.i64) d0 fun x0 => aFz (Ty.int IntKind.i64) d1 fun x1 => f x0 x1 (fun y0 => k (.v (.bool y0)) [])
  | _, _ => False
noncomputable def ent : Entry := fun args blks k kp => ent0 (convB [.one (Ty.int IntKind.i64), .one (Ty.int IntKind.i64)] args) blks k kp
theorem ok : EntOk Try.prog 0 0 61 ent := by
  refine EntOk.convB (EntOk.of (funW_ok (cfg := cfg) (tyOk_of rfl rfl tyL_ok) (eqOk_of (P := Try.prog) rfl rfl (by kernel_rfl)) mixed_ok (tab_ok ?_) Try.func61 (by rfl) (by rfl)) ?_) _
  · intro p hp
    cases hp
  · intro args blks k kp h k' kp'
    match args, blks, h with
    | [d0, d1], [], h =>
    dsimp only [ent0] at h
    have h9 := aFz_elim (t := (Ty.int IntKind.i64)) h; clear h; obtain ⟨x0, rfl, h⟩ := h9
    have h9 := aFz_elim (t := (Ty.int IntKind.i64)) h; clear h; obtain ⟨x1, rfl, h⟩ := h9
    exact (f_eq k' kp' x0 x1).symm
end N61
end Go.Proofs.Yu
namespace Go.Proofs.Yu
open Go Go.Aw Go.Proofs
set_option linter.unusedVariables false
set_option linter.unusedSimpArgs false
set_option maxRecDepth 100000
/-! dyehouse/dyehouseref33.Same -/
namespace N37
noncomputable def cfg : Cfg := { P := Try.prog, ty := tys, E := tab [(61, N61.ent)], atSeq := tab [(2000002, ⟨[(2, .keep), (3, .keep), (41, .keep)]⟩), (3, ⟨[(2, .keep), (3, .keep)]⟩), (2000007, ⟨[(2, .keep), (3, .keep), (5, .keep), (77, .keep)]⟩), (8, ⟨[]⟩), (5, ⟨[(2, .keep), (3, .keep), (5, .keep)]⟩)], atLoop := tab [(4, ⟨[(2, .keep), (3, .keep), (5, .keep)]⟩)], outs := [], eqT := tab [], bT := tab [], fzB := [2, 3] }
noncomputable def body : Code := bodyOf Try.f37
def j2000002 (j3 : (List (ByteArray × (List Int))) → Int → Int → (List Int) → Int → (List (ByteArray × (List Int))) → Int → Int → (List Int) → Int → Prop) (x2_0 : (List (ByteArray × (List Int)))) (x2_1 : Int) (x2_2 : Int) (x2_3 : (List Int)) (x2_4 : Int) (x3_0 : (List (ByteArray × (List Int)))) (x3_1 : Int) (x3_2 : Int) (x3_3 : (List Int)) (x3_4 : Int) (x41 : Bool) (k : Bool → Prop) : Prop :=
  (br x41 (k false) (j3 x2_0 x2_1 x2_2 x2_3 x2_4 x3_0 x3_1 x3_2 x3_3 x3_4))
def j3 (l4 : (List (ByteArray × (List Int))) → Int → Int → (List Int) → Int → (List (ByteArray × (List Int))) → Int → Int → (List Int) → Int → Int → Prop) (x2_0 : (List (ByteArray × (List Int)))) (x2_1 : Int) (x2_2 : Int) (x2_3 : (List Int)) (x2_4 : Int) (x3_0 : (List (ByteArray × (List Int)))) (x3_1 : Int) (x3_2 : Int) (x3_3 : (List Int)) (x3_4 : Int) (k : Bool → Prop) : Prop :=
  (l4 x2_0 x2_1 x2_2 x2_3 x2_4 x3_0 x3_1 x3_2 x3_3 x3_4 (0 : Int))
def l4 (j2000007 : (List (ByteArray × (List Int))) → Int → Int → (List Int) → Int → (List (ByteArray × (List Int))) → Int → Int → (List Int) → Int → Int → Bool → Prop) (j8 : Prop) (x2_0 : (List (ByteArray × (List Int)))) (x2_1 : Int) (x2_2 : Int) (x2_3 : (List Int)) (x2_4 : Int) (x3_0 : (List (ByteArray × (List Int)))) (x3_1 : Int) (x3_2 : Int) (x3_3 : (List Int)) (x3_4 : Int) (x5 : Int) (k : Bool → Prop) : Prop :=
  (br (decide (x5 < ((((x2_0).length : Nat) : Int)))) ((inB 0 x5 ((((x2_0).length : Nat) : Int) - 1)) ∧ ((inB 0 x5 ((((x3_0).length : Nat) : Int) - 1)) ∧ (br (!(beqS (x2_0.getD (Int.toNat x5) ((ByteArray.empty, ([] : List Int)))).1 (x3_0.getD (Int.toNat x5) ((ByteArray.empty, ([] : List Int)))).1)) (j2000007 x2_0 x2_1 x2_2 x2_3 x2_4 x3_0 x3_1 x3_2 x3_3 x3_4 x5 true) ((inB 0 x5 ((((x2_0).length : Nat) : Int) - 1)) ∧ ((inB 0 x5 ((((x3_0).length : Nat) : Int) - 1)) ∧ (N61.f (x2_0.getD (Int.toNat x5) ((ByteArray.empty, ([] : List Int)))).2 (x3_0.getD (Int.toNat x5) ((ByteArray.empty, ([] : List Int)))).2 (fun (y0_1 : Bool) => (j2000007 x2_0 x2_1 x2_2 x2_3 x2_4 x3_0 x3_1 x3_2 x3_3 x3_4 x5 (!y0_1))))))))) (j8))
def j2000007 (j5 : (List (ByteArray × (List Int))) → Int → Int → (List Int) → Int → (List (ByteArray × (List Int))) → Int → Int → (List Int) → Int → Int → Prop) (x2_0 : (List (ByteArray × (List Int)))) (x2_1 : Int) (x2_2 : Int) (x2_3 : (List Int)) (x2_4 : Int) (x3_0 : (List (ByteArray × (List Int)))) (x3_1 : Int) (x3_2 : Int) (x3_3 : (List Int)) (x3_4 : Int) (x5 : Int) (x77 : Bool) (k : Bool → Prop) : Prop :=
  (br x77 (k false) (j5 x2_0 x2_1 x2_2 x2_3 x2_4 x3_0 x3_1 x3_2 x3_3 x3_4 x5))
def j8 (k : Bool → Prop) : Prop :=
  (k true)
def j5 (ag4 : Int → Prop) (x2_0 : (List (ByteArray × (List Int)))) (x2_1 : Int) (x2_2 : Int) (x2_3 : (List Int)) (x2_4 : Int) (x3_0 : (List (ByteArray × (List Int)))) (x3_1 : Int) (x3_2 : Int) (x3_3 : (List Int)) (x3_4 : Int) (x5 : Int) (k : Bool → Prop) : Prop :=
  (ag4 (IntKind.i64.wrap (x5 + (1 : Int))))
def c (j2000002 : (List (ByteArray × (List Int))) → Int → Int → (List Int) → Int → (List (ByteArray × (List Int))) → Int → Int → (List Int) → Int → Bool → Prop) (x0_0 : (List (ByteArray × (List Int)))) (x0_1 : Int) (x0_2 : Int) (x0_3 : (List Int)) (x0_4 : Int) (x1_0 : (List (ByteArray × (List Int)))) (x1_1 : Int) (x1_2 : Int) (x1_3 : (List Int)) (x1_4 : Int) (k : Bool → Prop) : Prop :=
  (br (x0_1 != x1_1) (j2000002 x0_0 x0_1 x0_2 x0_3 x0_4 x1_0 x1_1 x1_2 x1_3 x1_4 true) (br (x0_2 != x1_2) (j2000002 x0_0 x0_1 x0_2 x0_3 x0_4 x1_0 x1_1 x1_2 x1_3 x1_4 true) (br (x0_4 != x1_4) (j2000002 x0_0 x0_1 x0_2 x0_3 x0_4 x1_0 x1_1 x1_2 x1_3 x1_4 true) (N61.f x0_3 x1_3 (fun (y0_0 : Bool) => (br (!y0_0) (j2000002 x0_0 x0_1 x0_2 x0_3 x0_4 x1_0 x1_1 x1_2 x1_3 x1_4 true) (j2000002 x0_0 x0_1 x0_2 x0_3 x0_4 x1_0 x1_1 x1_2 x1_3 x1_4 (((((x0_0).length : Nat) : Int)) != ((((x1_0).length : Nat) : Int))))))))))
def j8' (k : Bool → Prop) : Prop := j8 k
def j5' (ag4 : Int → Prop) (x2_0 : (List (ByteArray × (List Int)))) (x2_1 : Int) (x2_2 : Int) (x2_3 : (List Int)) (x2_4 : Int) (x3_0 : (List (ByteArray × (List Int)))) (x3_1 : Int) (x3_2 : Int) (x3_3 : (List Int)) (x3_4 : Int) (x5 : Int) (k : Bool → Prop) : Prop := j5 ag4 x2_0 x2_1 x2_2 x2_3 x2_4 x3_0 x3_1 x3_2 x3_3 x3_4 x5 k
def j2000007' (ag4 : Int → Prop) (x2_0 : (List (ByteArray × (List Int)))) (x2_1 : Int) (x2_2 : Int) (x2_3 : (List Int)) (x2_4 : Int) (x3_0 : (List (ByteArray × (List Int)))) (x3_1 : Int) (x3_2 : Int) (x3_3 : (List Int)) (x3_4 : Int) (x5 : Int) (x77 : Bool) (k : Bool → Prop) : Prop := j2000007 (fun x2_0 x2_1 x2_2 x2_3 x2_4 x3_0 x3_1 x3_2 x3_3 x3_4 x5 => j5' ag4 x2_0 x2_1 x2_2 x2_3 x2_4 x3_0 x3_1 x3_2 x3_3 x3_4 x5 k) x2_0 x2_1 x2_2 x2_3 x2_4 x3_0 x3_1 x3_2 x3_3 x3_4 x5 x77 k
def l4' (x2_0 : (List (ByteArray × (List Int)))) (x2_1 : Int) (x2_2 : Int) (x2_3 : (List Int)) (x2_4 : Int) (x3_0 : (List (ByteArray × (List Int)))) (x3_1 : Int) (x3_2 : Int) (x3_3 : (List Int)) (x3_4 : Int) (x5 : Int) (k : Bool → Prop) : Prop := ∃ n, loopS (fun (ag : (Int) → Prop) (s : Int) => l4 (fun x2_0 x2_1 x2_2 x2_3 x2_4 x3_0 x3_1 x3_2 x3_3 x3_4 x5 x77 => j2000007' (fun x5 => ag (x5)) x2_0 x2_1 x2_2 x2_3 x2_4 x3_0 x3_1 x3_2 x3_3 x3_4 x5 x77 k) (j8' k) x2_0 x2_1 x2_2 x2_3 x2_4 x3_0 x3_1 x3_2 x3_3 x3_4 s k) n (x5)
def j3' (x2_0 : (List (ByteArray × (List Int)))) (x2_1 : Int) (x2_2 : Int) (x2_3 : (List Int)) (x2_4 : Int) (x3_0 : (List (ByteArray × (List Int)))) (x3_1 : Int) (x3_2 : Int) (x3_3 : (List Int)) (x3_4 : Int) (k : Bool → Prop) : Prop := j3 (fun x2_0 x2_1 x2_2 x2_3 x2_4 x3_0 x3_1 x3_2 x3_3 x3_4 x5 => l4' x2_0 x2_1 x2_2 x2_3 x2_4 x3_0 x3_1 x3_2 x3_3 x3_4 x5 k) x2_0 x2_1 x2_2 x2_3 x2_4 x3_0 x3_1 x3_2 x3_3 x3_4 k
def j2000002' (x2_0 : (List (ByteArray × (List Int)))) (x2_1 : Int) (x2_2 : Int) (x2_3 : (List Int)) (x2_4 : Int) (x3_0 : (List (ByteArray × (List Int)))) (x3_1 : Int) (x3_2 : Int) (x3_3 : (List Int)) (x3_4 : Int) (x41 : Bool) (k : Bool → Prop) : Prop := j2000002 (fun x2_0 x2_1 x2_2 x2_3 x2_4 x3_0 x3_1 x3_2 x3_3 x3_4 => j3' x2_0 x2_1 x2_2 x2_3 x2_4 x3_0 x3_1 x3_2 x3_3 x3_4 k) x2_0 x2_1 x2_2 x2_3 x2_4 x3_0 x3_1 x3_2 x3_3 x3_4 x41 k
def f0 (x0_0 : (List (ByteArray × (List Int)))) (x0_1 : Int) (x0_2 : Int) (x0_3 : (List Int)) (x0_4 : Int) (x1_0 : (List (ByteArray × (List Int)))) (x1_1 : Int) (x1_2 : Int) (x1_3 : (List Int)) (x1_4 : Int) (k : Bool → Prop) : Prop := c (fun x2_0 x2_1 x2_2 x2_3 x2_4 x3_0 x3_1 x3_2 x3_3 x3_4 x41 => j2000002' x2_0 x2_1 x2_2 x2_3 x2_4 x3_0 x3_1 x3_2 x3_3 x3_4 x41 k) x0_0 x0_1 x0_2 x0_3 x0_4 x1_0 x1_1 x1_2 x1_3 x1_4 k
theorem f_ex : ∃ g : (List (ByteArray × (List Int))) → Int → Int → (List Int) → Int → (List (ByteArray × (List Int))) → Int → Int → (List Int) → Int → (Bool → Prop) → Prop, g = f0 := ⟨_, rfl⟩
noncomputable def f : (List (ByteArray × (List Int))) → Int → Int → (List Int) → Int → (List (ByteArray × (List Int))) → Int → Int → (List Int) → Int → (Bool → Prop) → Prop := Classical.choose f_ex
theorem f_def : f = f0 := Classical.choose_spec f_ex
def m2000002 (x2_0 : (List (ByteArray × (List Int)))) (x2_1 : Int) (x2_2 : Int) (x2_3 : (List Int)) (x2_4 : Int) (x3_0 : (List (ByteArray × (List Int)))) (x3_1 : Int) (x3_2 : Int) (x3_3 : (List Int)) (x3_4 : Int) (x41 : Bool) : St := { tmps := mkT 78 0 [(2, (.fp [(.fz (Ty.pair Ty.str (Ty.list (Ty.int IntKind.i64))) x2_0), (.v (.int IntKind.i64 x2_1)), (.v (.int IntKind.i64 x2_2)), (.fz (Ty.int IntKind.i64) x2_3), (.v (.int IntKind.i64 x2_4))])), (3, (.fp [(.fz (Ty.pair Ty.str (Ty.list (Ty.int IntKind.i64))) x3_0), (.v (.int IntKind.i64 x3_1)), (.v (.int IntKind.i64 x3_2)), (.fz (Ty.int IntKind.i64) x3_3), (.v (.int IntKind.i64 x3_4))])), (41, (.v (.bool x41)))], hp := [], m := 0 }
def m3 (x2_0 : (List (ByteArray × (List Int)))) (x2_1 : Int) (x2_2 : Int) (x2_3 : (List Int)) (x2_4 : Int) (x3_0 : (List (ByteArray × (List Int)))) (x3_1 : Int) (x3_2 : Int) (x3_3 : (List Int)) (x3_4 : Int) : St := { tmps := mkT 78 0 [(2, (.fp [(.fz (Ty.pair Ty.str (Ty.list (Ty.int IntKind.i64))) x2_0), (.v (.int IntKind.i64 x2_1)), (.v (.int IntKind.i64 x2_2)), (.fz (Ty.int IntKind.i64) x2_3), (.v (.int IntKind.i64 x2_4))])), (3, (.fp [(.fz (Ty.pair Ty.str (Ty.list (Ty.int IntKind.i64))) x3_0), (.v (.int IntKind.i64 x3_1)), (.v (.int IntKind.i64 x3_2)), (.fz (Ty.int IntKind.i64) x3_3), (.v (.int IntKind.i64 x3_4))]))], hp := [], m := 0 }
def mL4 (x2_0 : (List (ByteArray × (List Int)))) (x2_1 : Int) (x2_2 : Int) (x2_3 : (List Int)) (x2_4 : Int) (x3_0 : (List (ByteArray × (List Int)))) (x3_1 : Int) (x3_2 : Int) (x3_3 : (List Int)) (x3_4 : Int) (x5 : Int) : St := { tmps := mkT 78 0 [(2, (.fp [(.fz (Ty.pair Ty.str (Ty.list (Ty.int IntKind.i64))) x2_0), (.v (.int IntKind.i64 x2_1)), (.v (.int IntKind.i64 x2_2)), (.fz (Ty.int IntKind.i64) x2_3), (.v (.int IntKind.i64 x2_4))])), (3, (.fp [(.fz (Ty.pair Ty.str (Ty.list (Ty.int IntKind.i64))) x3_0), (.v (.int IntKind.i64 x3_1)), (.v (.int IntKind.i64 x3_2)), (.fz (Ty.int IntKind.i64) x3_3), (.v (.int IntKind.i64 x3_4))])), (5, (.v (.int IntKind.i64 x5)))], hp := [], m := 0 }
def m2000007 (x2_0 : (List (ByteArray × (List Int)))) (x2_1 : Int) (x2_2 : Int) (x2_3 : (List Int)) (x2_4 : Int) (x3_0 : (List (ByteArray × (List Int)))) (x3_1 : Int) (x3_2 : Int) (x3_3 : (List Int)) (x3_4 : Int) (x5 : Int) (x77 : Bool) : St := { tmps := mkT 78 0 [(2, (.fp [(.fz (Ty.pair Ty.str (Ty.list (Ty.int IntKind.i64))) x2_0), (.v (.int IntKind.i64 x2_1)), (.v (.int IntKind.i64 x2_2)), (.fz (Ty.int IntKind.i64) x2_3), (.v (.int IntKind.i64 x2_4))])), (3, (.fp [(.fz (Ty.pair Ty.str (Ty.list (Ty.int IntKind.i64))) x3_0), (.v (.int IntKind.i64 x3_1)), (.v (.int IntKind.i64 x3_2)), (.fz (Ty.int IntKind.i64) x3_3), (.v (.int IntKind.i64 x3_4))])), (5, (.v (.int IntKind.i64 x5))), (77, (.v (.bool x77)))], hp := [], m := 0 }
def m8 : St := { tmps := mkT 78 0 [], hp := [], m := 0 }
def m5 (x2_0 : (List (ByteArray × (List Int)))) (x2_1 : Int) (x2_2 : Int) (x2_3 : (List Int)) (x2_4 : Int) (x3_0 : (List (ByteArray × (List Int)))) (x3_1 : Int) (x3_2 : Int) (x3_3 : (List Int)) (x3_4 : Int) (x5 : Int) : St := { tmps := mkT 78 0 [(2, (.fp [(.fz (Ty.pair Ty.str (Ty.list (Ty.int IntKind.i64))) x2_0), (.v (.int IntKind.i64 x2_1)), (.v (.int IntKind.i64 x2_2)), (.fz (Ty.int IntKind.i64) x2_3), (.v (.int IntKind.i64 x2_4))])), (3, (.fp [(.fz (Ty.pair Ty.str (Ty.list (Ty.int IntKind.i64))) x3_0), (.v (.int IntKind.i64 x3_1)), (.v (.int IntKind.i64 x3_2)), (.fz (Ty.int IntKind.i64) x3_3), (.v (.int IntKind.i64 x3_4))])), (5, (.v (.int IntKind.i64 x5)))], hp := [], m := 0 }
noncomputable def X2000002 (k kp : D → List Blk → Prop) : St → Prop := atP cfg (pick none' []) [1, 0, 1] body (topK cfg Try.f37 k kp)
noncomputable def X3 (k kp : D → List Blk → Prop) : St → Prop := atP cfg (pick none' []) [1, 1] body (topK cfg Try.f37 k kp)
noncomputable def YL4 (k kp : D → List Blk → Prop) : (St → Prop) → St → Prop := loopB cfg (sub [1, 1, 0, 1, 0, 0] body) (contK cfg (pick none' []) [1, 1, 0, 1, 0] body (topK cfg Try.f37 k kp))
noncomputable def XL4 (k kp : D → List Blk → Prop) : St → Prop := fun st => ∃ n, loopN (YL4 k kp) n st
noncomputable def X2000007 (k kp : D → List Blk → Prop) (ag4 : St → Prop) : St → Prop := atP cfg (pick none' [(4, ag4)]) [1, 1, 0, 1, 0, 0, 1, 0, 0, 1] body (topK cfg Try.f37 k kp)
noncomputable def X8 (k kp : D → List Blk → Prop) : St → Prop := atP cfg (pick none' []) [1, 1, 1] body (topK cfg Try.f37 k kp)
noncomputable def X5 (k kp : D → List Blk → Prop) (ag4 : St → Prop) : St → Prop := atP cfg (pick none' [(4, ag4)]) [1, 1, 0, 1, 0, 0, 1, 1] body (topK cfg Try.f37 k kp)
noncomputable def JJ (k kp : D → List Blk → Prop) : Nat → St → Prop := pick none' [(2000002, X2000002 k kp), (3, X3 k kp), (8, X8 k kp)]
noncomputable def LL (k kp : D → List Blk → Prop) : Nat → St → Prop := pick none' [(4, XL4 k kp)]
noncomputable def JJ_4 (k kp : D → List Blk → Prop) (ag4 : St → Prop) : Nat → St → Prop := pick none' [(2000002, X2000002 k kp), (3, X3 k kp), (2000007, X2000007 k kp ag4), (8, X8 k kp), (5, X5 k kp ag4)]
noncomputable def LL_4 (k kp : D → List Blk → Prop) (ag4 : St → Prop) : Nat → St → Prop := pick none' [(4, XL4 k kp)]
theorem j8_c (k kp : D → List Blk → Prop) (J L : Nat → St → Prop) : runC cfg 8 J L (pick none' []) [1, 1, 1] body (topK cfg Try.f37 k kp) (m8) = j8 (fun y0 => k (.v (.bool y0)) []) := by kernel_rfl
theorem j8_ag (k kp : D → List Blk → Prop) : agPL cfg 8 (JJ k kp) (LL k kp) [1, 1, 1] body = agPR cfg 8 (pick none' []) [1, 1, 1] body (topK cfg Try.f37 k kp) := by kernel_rfl
theorem j8_raw (k kp : D → List Blk → Prop) : X8 k kp (m8) = j8 (fun y0 => k (.v (.bool y0)) []) :=
  Eq.mp (by kernel_rfl) ((atP_run (j8_ag k kp) (m8)).trans (j8_c k kp (JJ k kp) (LL k kp)))
theorem j8_eq (k kp : D → List Blk → Prop) : X8 k kp (m8) = j8' (fun y0 => k (.v (.bool y0)) []) := by
  rw [j8_raw]; rfl
theorem j5_c (k kp : D → List Blk → Prop) (J L : Nat → St → Prop) (ag4 : St → Prop) (x2_0 : (List (ByteArray × (List Int)))) (x2_1 : Int) (x2_2 : Int) (x2_3 : (List Int)) (x2_4 : Int) (x3_0 : (List (ByteArray × (List Int)))) (x3_1 : Int) (x3_2 : Int) (x3_3 : (List Int)) (x3_4 : Int) (x5 : Int) : runC cfg 5 J L (pick none' [(4, ag4)]) [1, 1, 0, 1, 0, 0, 1, 1] body (topK cfg Try.f37 k kp) (m5 x2_0 x2_1 x2_2 x2_3 x2_4 x3_0 x3_1 x3_2 x3_3 x3_4 x5) = j5 (fun x5 => ag4 (mL4 x2_0 x2_1 x2_2 x2_3 x2_4 x3_0 x3_1 x3_2 x3_3 x3_4 x5)) x2_0 x2_1 x2_2 x2_3 x2_4 x3_0 x3_1 x3_2 x3_3 x3_4 x5 (fun y0 => k (.v (.bool y0)) []) := by kernel_rfl
theorem j5_ag (k kp : D → List Blk → Prop) (ag4 : St → Prop) : agPL cfg 5 (JJ_4 k kp ag4) (LL_4 k kp ag4) [1, 1, 0, 1, 0, 0, 1, 1] body = agPR cfg 5 (pick none' [(4, ag4)]) [1, 1, 0, 1, 0, 0, 1, 1] body (topK cfg Try.f37 k kp) := by kernel_rfl
theorem j5_raw (k kp : D → List Blk → Prop) (ag4 : St → Prop) (x2_0 : (List (ByteArray × (List Int)))) (x2_1 : Int) (x2_2 : Int) (x2_3 : (List Int)) (x2_4 : Int) (x3_0 : (List (ByteArray × (List Int)))) (x3_1 : Int) (x3_2 : Int) (x3_3 : (List Int)) (x3_4 : Int) (x5 : Int) : X5 k kp ag4 (m5 x2_0 x2_1 x2_2 x2_3 x2_4 x3_0 x3_1 x3_2 x3_3 x3_4 x5) = j5 (fun x5 => ag4 (mL4 x2_0 x2_1 x2_2 x2_3 x2_4 x3_0 x3_1 x3_2 x3_3 x3_4 x5)) x2_0 x2_1 x2_2 x2_3 x2_4 x3_0 x3_1 x3_2 x3_3 x3_4 x5 (fun y0 => k (.v (.bool y0)) []) :=
  Eq.mp (by kernel_rfl) ((atP_run (j5_ag k kp ag4) (m5 x2_0 x2_1 x2_2 x2_3 x2_4 x3_0 x3_1 x3_2 x3_3 x3_4 x5)).trans (j5_c k kp (JJ_4 k kp ag4) (LL_4 k kp ag4) ag4 x2_0 x2_1 x2_2 x2_3 x2_4 x3_0 x3_1 x3_2 x3_3 x3_4 x5))
theorem j5_eq (k kp : D → List Blk → Prop) (ag4 : St → Prop) (x2_0 : (List (ByteArray × (List Int)))) (x2_1 : Int) (x2_2 : Int) (x2_3 : (List Int)) (x2_4 : Int) (x3_0 : (List (ByteArray × (List Int)))) (x3_1 : Int) (x3_2 : Int) (x3_3 : (List Int)) (x3_4 : Int) (x5 : Int) : X5 k kp ag4 (m5 x2_0 x2_1 x2_2 x2_3 x2_4 x3_0 x3_1 x3_2 x3_3 x3_4 x5) = j5' (fun x5 => ag4 (mL4 x2_0 x2_1 x2_2 x2_3 x2_4 x3_0 x3_1 x3_2 x3_3 x3_4 x5)) x2_0 x2_1 x2_2 x2_3 x2_4 x3_0 x3_1 x3_2 x3_3 x3_4 x5 (fun y0 => k (.v (.bool y0)) []) := by
  rw [j5_raw]; rfl
theorem j2000007_c (k kp : D → List Blk → Prop) (J L : Nat → St → Prop) (ag4 : St → Prop) (x2_0 : (List (ByteArray × (List Int)))) (x2_1 : Int) (x2_2 : Int) (x2_3 : (List Int)) (x2_4 : Int) (x3_0 : (List (ByteArray × (List Int)))) (x3_1 : Int) (x3_2 : Int) (x3_3 : (List Int)) (x3_4 : Int) (x5 : Int) (x77 : Bool) : runC cfg 2000007 J L (pick none' [(4, ag4)]) [1, 1, 0, 1, 0, 0, 1, 0, 0, 1] body (topK cfg Try.f37 k kp) (m2000007 x2_0 x2_1 x2_2 x2_3 x2_4 x3_0 x3_1 x3_2 x3_3 x3_4 x5 x77) = j2000007 (fun x2_0 x2_1 x2_2 x2_3 x2_4 x3_0 x3_1 x3_2 x3_3 x3_4 x5 => J 5 (m5 x2_0 x2_1 x2_2 x2_3 x2_4 x3_0 x3_1 x3_2 x3_3 x3_4 x5)) x2_0 x2_1 x2_2 x2_3 x2_4 x3_0 x3_1 x3_2 x3_3 x3_4 x5 x77 (fun y0 => k (.v (.bool y0)) []) := by kernel_rfl
theorem j2000007_ag (k kp : D → List Blk → Prop) (ag4 : St → Prop) : agPL cfg 2000007 (JJ_4 k kp ag4) (LL_4 k kp ag4) [1, 1, 0, 1, 0, 0, 1, 0, 0, 1] body = agPR cfg 2000007 (pick none' [(4, ag4)]) [1, 1, 0, 1, 0, 0, 1, 0, 0, 1] body (topK cfg Try.f37 k kp) := by kernel_rfl
theorem j2000007_raw (k kp : D → List Blk → Prop) (ag4 : St → Prop) (x2_0 : (List (ByteArray × (List Int)))) (x2_1 : Int) (x2_2 : Int) (x2_3 : (List Int)) (x2_4 : Int) (x3_0 : (List (ByteArray × (List Int)))) (x3_1 : Int) (x3_2 : Int) (x3_3 : (List Int)) (x3_4 : Int) (x5 : Int) (x77 : Bool) : X2000007 k kp ag4 (m2000007 x2_0 x2_1 x2_2 x2_3 x2_4 x3_0 x3_1 x3_2 x3_3 x3_4 x5 x77) = j2000007 (fun x2_0 x2_1 x2_2 x2_3 x2_4 x3_0 x3_1 x3_2 x3_3 x3_4 x5 => X5 k kp ag4 (m5 x2_0 x2_1 x2_2 x2_3 x2_4 x3_0 x3_1 x3_2 x3_3 x3_4 x5)) x2_0 x2_1 x2_2 x2_3 x2_4 x3_0 x3_1 x3_2 x3_3 x3_4 x5 x77 (fun y0 => k (.v (.bool y0)) []) :=
  Eq.mp (by kernel_rfl) ((atP_run (j2000007_ag k kp ag4) (m2000007 x2_0 x2_1 x2_2 x2_3 x2_4 x3_0 x3_1 x3_2 x3_3 x3_4 x5 x77)).trans (j2000007_c k kp (JJ_4 k kp ag4) (LL_4 k kp ag4) ag4 x2_0 x2_1 x2_2 x2_3 x2_4 x3_0 x3_1 x3_2 x3_3 x3_4 x5 x77))
theorem j2000007_eq (k kp : D → List Blk → Prop) (ag4 : St → Prop) (x2_0 : (List (ByteArray × (List Int)))) (x2_1 : Int) (x2_2 : Int) (x2_3 : (List Int)) (x2_4 : Int) (x3_0 : (List (ByteArray × (List Int)))) (x3_1 : Int) (x3_2 : Int) (x3_3 : (List Int)) (x3_4 : Int) (x5 : Int) (x77 : Bool) : X2000007 k kp ag4 (m2000007 x2_0 x2_1 x2_2 x2_3 x2_4 x3_0 x3_1 x3_2 x3_3 x3_4 x5 x77) = j2000007' (fun x5 => ag4 (mL4 x2_0 x2_1 x2_2 x2_3 x2_4 x3_0 x3_1 x3_2 x3_3 x3_4 x5)) x2_0 x2_1 x2_2 x2_3 x2_4 x3_0 x3_1 x3_2 x3_3 x3_4 x5 x77 (fun y0 => k (.v (.bool y0)) []) := by
  rw [j2000007_raw]; simp only [j5_eq]; first | done | rfl
theorem l4_c (k kp : D → List Blk → Prop) (J L : Nat → St → Prop) (ag4 : St → Prop) (x2_0 : (List (ByteArray × (List Int)))) (x2_1 : Int) (x2_2 : Int) (x2_3 : (List Int)) (x2_4 : Int) (x3_0 : (List (ByteArray × (List Int)))) (x3_1 : Int) (x3_2 : Int) (x3_3 : (List Int)) (x3_4 : Int) (x5 : Int) : runC cfg 1000001 J L (pick none' [(4, ag4)]) [1, 1, 0, 1, 0, 0] body (topK cfg Try.f37 k kp) (mL4 x2_0 x2_1 x2_2 x2_3 x2_4 x3_0 x3_1 x3_2 x3_3 x3_4 x5) = l4 (fun x2_0 x2_1 x2_2 x2_3 x2_4 x3_0 x3_1 x3_2 x3_3 x3_4 x5 x77 => J 2000007 (m2000007 x2_0 x2_1 x2_2 x2_3 x2_4 x3_0 x3_1 x3_2 x3_3 x3_4 x5 x77)) (J 8 (m8)) x2_0 x2_1 x2_2 x2_3 x2_4 x3_0 x3_1 x3_2 x3_3 x3_4 x5 (fun y0 => k (.v (.bool y0)) []) := by kernel_rfl
theorem l4_ag (k kp : D → List Blk → Prop) (ag4 : St → Prop) : agPL cfg 1000001 (JJ_4 k kp ag4) (LL_4 k kp ag4) [1, 1, 0, 1, 0, 0] body = agPR cfg 1000001 (pick none' [(4, ag4)]) [1, 1, 0, 1, 0, 0] body (topK cfg Try.f37 k kp) := by kernel_rfl
theorem l4_raw (k kp : D → List Blk → Prop) (ag4 : St → Prop) (x2_0 : (List (ByteArray × (List Int)))) (x2_1 : Int) (x2_2 : Int) (x2_3 : (List Int)) (x2_4 : Int) (x3_0 : (List (ByteArray × (List Int)))) (x3_1 : Int) (x3_2 : Int) (x3_3 : (List Int)) (x3_4 : Int) (x5 : Int) : YL4 k kp ag4 (mL4 x2_0 x2_1 x2_2 x2_3 x2_4 x3_0 x3_1 x3_2 x3_3 x3_4 x5) = l4 (fun x2_0 x2_1 x2_2 x2_3 x2_4 x3_0 x3_1 x3_2 x3_3 x3_4 x5 x77 => X2000007 k kp ag4 (m2000007 x2_0 x2_1 x2_2 x2_3 x2_4 x3_0 x3_1 x3_2 x3_3 x3_4 x5 x77)) (X8 k kp (m8)) x2_0 x2_1 x2_2 x2_3 x2_4 x3_0 x3_1 x3_2 x3_3 x3_4 x5 (fun y0 => k (.v (.bool y0)) []) :=
  Eq.mp (by kernel_rfl) ((atP_run (l4_ag k kp ag4) (mL4 x2_0 x2_1 x2_2 x2_3 x2_4 x3_0 x3_1 x3_2 x3_3 x3_4 x5)).trans (l4_c k kp (JJ_4 k kp ag4) (LL_4 k kp ag4) ag4 x2_0 x2_1 x2_2 x2_3 x2_4 x3_0 x3_1 x3_2 x3_3 x3_4 x5))
theorem l4_eq (k kp : D → List Blk → Prop) (x2_0 : (List (ByteArray × (List Int)))) (x2_1 : Int) (x2_2 : Int) (x2_3 : (List Int)) (x2_4 : Int) (x3_0 : (List (ByteArray × (List Int)))) (x3_1 : Int) (x3_2 : Int) (x3_3 : (List Int)) (x3_4 : Int) (x5 : Int) : XL4 k kp (mL4 x2_0 x2_1 x2_2 x2_3 x2_4 x3_0 x3_1 x3_2 x3_3 x3_4 x5) = l4' x2_0 x2_1 x2_2 x2_3 x2_4 x3_0 x3_1 x3_2 x3_3 x3_4 x5 (fun y0 => k (.v (.bool y0)) []) :=
  loop_eq (mk := fun (s : Int) => mL4 x2_0 x2_1 x2_2 x2_3 x2_4 x3_0 x3_1 x3_2 x3_3 x3_4 s) (fun again s => by rw [l4_raw k kp again x2_0 x2_1 x2_2 x2_3 x2_4 x3_0 x3_1 x3_2 x3_3 x3_4 s]; simp only [j2000007_eq, j8_eq]; first | done | rfl) (x5)
theorem j3_c (k kp : D → List Blk → Prop) (J L : Nat → St → Prop) (x2_0 : (List (ByteArray × (List Int)))) (x2_1 : Int) (x2_2 : Int) (x2_3 : (List Int)) (x2_4 : Int) (x3_0 : (List (ByteArray × (List Int)))) (x3_1 : Int) (x3_2 : Int) (x3_3 : (List Int)) (x3_4 : Int) : runC cfg 3 J L (pick none' []) [1, 1] body (topK cfg Try.f37 k kp) (m3 x2_0 x2_1 x2_2 x2_3 x2_4 x3_0 x3_1 x3_2 x3_3 x3_4) = j3 (fun x2_0 x2_1 x2_2 x2_3 x2_4 x3_0 x3_1 x3_2 x3_3 x3_4 x5 => L 4 (mL4 x2_0 x2_1 x2_2 x2_3 x2_4 x3_0 x3_1 x3_2 x3_3 x3_4 x5)) x2_0 x2_1 x2_2 x2_3 x2_4 x3_0 x3_1 x3_2 x3_3 x3_4 (fun y0 => k (.v (.bool y0)) []) := by kernel_rfl
theorem j3_ag (k kp : D → List Blk → Prop) : agPL cfg 3 (JJ k kp) (LL k kp) [1, 1] body = agPR cfg 3 (pick none' []) [1, 1] body (topK cfg Try.f37 k kp) := by kernel_rfl
theorem j3_raw (k kp : D → List Blk → Prop) (x2_0 : (List (ByteArray × (List Int)))) (x2_1 : Int) (x2_2 : Int) (x2_3 : (List Int)) (x2_4 : Int) (x3_0 : (List (ByteArray × (List Int)))) (x3_1 : Int) (x3_2 : Int) (x3_3 : (List Int)) (x3_4 : Int) : X3 k kp (m3 x2_0 x2_1 x2_2 x2_3 x2_4 x3_0 x3_1 x3_2 x3_3 x3_4) = j3 (fun x2_0 x2_1 x2_2 x2_3 x2_4 x3_0 x3_1 x3_2 x3_3 x3_4 x5 => XL4 k kp (mL4 x2_0 x2_1 x2_2 x2_3 x2_4 x3_0 x3_1 x3_2 x3_3 x3_4 x5)) x2_0 x2_1 x2_2 x2_3 x2_4 x3_0 x3_1 x3_2 x3_3 x3_4 (fun y0 => k (.v (.bool y0)) []) :=
  Eq.mp (by kernel_rfl) ((atP_run (j3_ag k kp) (m3 x2_0 x2_1 x2_2 x2_3 x2_4 x3_0 x3_1 x3_2 x3_3 x3_4)).trans (j3_c k kp (JJ k kp) (LL k kp) x2_0 x2_1 x2_2 x2_3 x2_4 x3_0 x3_1 x3_2 x3_3 x3_4))
theorem j3_eq (k kp : D → List Blk → Prop) (x2_0 : (List (ByteArray × (List Int)))) (x2_1 : Int) (x2_2 : Int) (x2_3 : (List Int)) (x2_4 : Int) (x3_0 : (List (ByteArray × (List Int)))) (x3_1 : Int) (x3_2 : Int) (x3_3 : (List Int)) (x3_4 : Int) : X3 k kp (m3 x2_0 x2_1 x2_2 x2_3 x2_4 x3_0 x3_1 x3_2 x3_3 x3_4) = j3' x2_0 x2_1 x2_2 x2_3 x2_4 x3_0 x3_1 x3_2 x3_3 x3_4 (fun y0 => k (.v (.bool y0)) []) := by
  rw [j3_raw]; simp only [l4_eq]; first | done | rfl
theorem j2000002_c (k kp : D → List Blk → Prop) (J L : Nat → St → Prop) (x2_0 : (List (ByteArray × (List Int)))) (x2_1 : Int) (x2_2 : Int) (x2_3 : (List Int)) (x2_4 : Int) (x3_0 : (List (ByteArray × (List Int)))) (x3_1 : Int) (x3_2 : Int) (x3_3 : (List Int)) (x3_4 : Int) (x41 : Bool) : runC cfg 2000002 J L (pick none' []) [1, 0, 1] body (topK cfg Try.f37 k kp) (m2000002 x2_0 x2_1 x2_2 x2_3 x2_4 x3_0 x3_1 x3_2 x3_3 x3_4 x41) = j2000002 (fun x2_0 x2_1 x2_2 x2_3 x2_4 x3_0 x3_1 x3_2 x3_3 x3_4 => J 3 (m3 x2_0 x2_1 x2_2 x2_3 x2_4 x3_0 x3_1 x3_2 x3_3 x3_4)) x2_0 x2_1 x2_2 x2_3 x2_4 x3_0 x3_1 x3_2 x3_3 x3_4 x41 (fun y0 => k (.v (.bool y0)) []) := by kernel_rfl
theorem j2000002_ag (k kp : D → List Blk → Prop) : agPL cfg 2000002 (JJ k kp) (LL k kp) [1, 0, 1] body = agPR cfg 2000002 (pick none' []) [1, 0, 1] body (topK cfg Try.f37 k kp) := by kernel_rfl
theorem j2000002_raw (k kp : D → List Blk → Prop) (x2_0 : (List (ByteArray × (List Int)))) (x2_1 : Int) (x2_2 : Int) (x2_3 : (List Int)) (x2_4 : Int) (x3_0 : (List (ByteArray × (List Int)))) (x3_1 : Int) (x3_2 : Int) (x3_3 : (List Int)) (x3_4 : Int) (x41 : Bool) : X2000002 k kp (m2000002 x2_0 x2_1 x2_2 x2_3 x2_4 x3_0 x3_1 x3_2 x3_3 x3_4 x41) = j2000002 (fun x2_0 x2_1 x2_2 x2_3 x2_4 x3_0 x3_1 x3_2 x3_3 x3_4 => X3 k kp (m3 x2_0 x2_1 x2_2 x2_3 x2_4 x3_0 x3_1 x3_2 x3_3 x3_4)) x2_0 x2_1 x2_2 x2_3 x2_4 x3_0 x3_1 x3_2 x3_3 x3_4 x41 (fun y0 => k (.v (.bool y0)) []) :=
  Eq.mp (by kernel_rfl) ((atP_run (j2000002_ag k kp) (m2000002 x2_0 x2_1 x2_2 x2_3 x2_4 x3_0 x3_1 x3_2 x3_3 x3_4 x41)).trans (j2000002_c k kp (JJ k kp) (LL k kp) x2_0 x2_1 x2_2 x2_3 x2_4 x3_0 x3_1 x3_2 x3_3 x3_4 x41))
theorem j2000002_eq (k kp : D → List Blk → Prop) (x2_0 : (List (ByteArray × (List Int)))) (x2_1 : Int) (x2_2 : Int) (x2_3 : (List Int)) (x2_4 : Int) (x3_0 : (List (ByteArray × (List Int)))) (x3_1 : Int) (x3_2 : Int) (x3_3 : (List Int)) (x3_4 : Int) (x41 : Bool) : X2000002 k kp (m2000002 x2_0 x2_1 x2_2 x2_3 x2_4 x3_0 x3_1 x3_2 x3_3 x3_4 x41) = j2000002' x2_0 x2_1 x2_2 x2_3 x2_4 x3_0 x3_1 x3_2 x3_3 x3_4 x41 (fun y0 => k (.v (.bool y0)) []) := by
  rw [j2000002_raw]; simp only [j3_eq]; first | done | rfl
theorem c_c (k kp : D → List Blk → Prop) (J L : Nat → St → Prop) (x0_0 : (List (ByteArray × (List Int)))) (x0_1 : Int) (x0_2 : Int) (x0_3 : (List Int)) (x0_4 : Int) (x1_0 : (List (ByteArray × (List Int)))) (x1_1 : Int) (x1_2 : Int) (x1_3 : (List Int)) (x1_4 : Int) : runC cfg 1000001 J L none'' [] body (topK cfg Try.f37 k kp) (st0 Try.f37 [(.agg [(.fz (Ty.pair Ty.str (Ty.list (Ty.int IntKind.i64))) x0_0), (.v (.int IntKind.i64 x0_1)), (.v (.int IntKind.i64 x0_2)), (.fz (Ty.int IntKind.i64) x0_3), (.v (.int IntKind.i64 x0_4))]), (.agg [(.fz (Ty.pair Ty.str (Ty.list (Ty.int IntKind.i64))) x1_0), (.v (.int IntKind.i64 x1_1)), (.v (.int IntKind.i64 x1_2)), (.fz (Ty.int IntKind.i64) x1_3), (.v (.int IntKind.i64 x1_4))])] []) = c (fun x2_0 x2_1 x2_2 x2_3 x2_4 x3_0 x3_1 x3_2 x3_3 x3_4 x41 => J 2000002 (m2000002 x2_0 x2_1 x2_2 x2_3 x2_4 x3_0 x3_1 x3_2 x3_3 x3_4 x41)) x0_0 x0_1 x0_2 x0_3 x0_4 x1_0 x1_1 x1_2 x1_3 x1_4 (fun y0 => k (.v (.bool y0)) []) := by kernel_rfl
theorem c_ag (k kp : D → List Blk → Prop) : agPL cfg 1000001 (JJ k kp) (LL k kp) [] body = agPR cfg 1000001 none'' [] body (topK cfg Try.f37 k kp) := by kernel_rfl
theorem body_is : Try.f37.body = some body := by kernel_rfl
theorem c_raw (k kp : D → List Blk → Prop) (x0_0 : (List (ByteArray × (List Int)))) (x0_1 : Int) (x0_2 : Int) (x0_3 : (List Int)) (x0_4 : Int) (x1_0 : (List (ByteArray × (List Int)))) (x1_1 : Int) (x1_2 : Int) (x1_3 : (List Int)) (x1_4 : Int) : funW cfg Try.f37 [(.agg [(.fz (Ty.pair Ty.str (Ty.list (Ty.int IntKind.i64))) x0_0), (.v (.int IntKind.i64 x0_1)), (.v (.int IntKind.i64 x0_2)), (.fz (Ty.int IntKind.i64) x0_3), (.v (.int IntKind.i64 x0_4))]), (.agg [(.fz (Ty.pair Ty.str (Ty.list (Ty.int IntKind.i64))) x1_0), (.v (.int IntKind.i64 x1_1)), (.v (.int IntKind.i64 x1_2)), (.fz (Ty.int IntKind.i64) x1_3), (.v (.int IntKind.i64 x1_4))])] [] k kp = c (fun x2_0 x2_1 x2_2 x2_3 x2_4 x3_0 x3_1 x3_2 x3_3 x3_4 x41 => X2000002 k kp (m2000002 x2_0 x2_1 x2_2 x2_3 x2_4 x3_0 x3_1 x3_2 x3_3 x3_4 x41)) x0_0 x0_1 x0_2 x0_3 x0_4 x1_0 x1_1 x1_2 x1_3 x1_4 (fun y0 => k (.v (.bool y0)) []) :=
  Eq.mp (by kernel_rfl) ((funW_run (AG := none'') body_is (c_ag k kp) [(.agg [(.fz (Ty.pair Ty.str (Ty.list (Ty.int IntKind.i64))) x0_0), (.v (.int IntKind.i64 x0_1)), (.v (.int IntKind.i64 x0_2)), (.fz (Ty.int IntKind.i64) x0_3), (.v (.int IntKind.i64 x0_4))]), (.agg [(.fz (Ty.pair Ty.str (Ty.list (Ty.int IntKind.i64))) x1_0), (.v (.int IntKind.i64 x1_1)), (.v (.int IntKind.i64 x1_2)), (.fz (Ty.int IntKind.i64) x1_3), (.v (.int IntKind.i64 x1_4))])] []).trans (c_c k kp (JJ k kp) (LL k kp) x0_0 x0_1 x0_2 x0_3 x0_4 x1_0 x1_1 x1_2 x1_3 x1_4))
theorem f_eq (k kp : D → List Blk → Prop) (x0_0 : (List (ByteArray × (List Int)))) (x0_1 : Int) (x0_2 : Int) (x0_3 : (List Int)) (x0_4 : Int) (x1_0 : (List (ByteArray × (List Int)))) (x1_1 : Int) (x1_2 : Int) (x1_3 : (List Int)) (x1_4 : Int) : funW cfg Try.f37 [(.agg [(.fz (Ty.pair Ty.str (Ty.list (Ty.int IntKind.i64))) x0_0), (.v (.int IntKind.i64 x0_1)), (.v (.int IntKind.i64 x0_2)), (.fz (Ty.int IntKind.i64) x0_3), (.v (.int IntKind.i64 x0_4))]), (.agg [(.fz (Ty.pair Ty.str (Ty.list (Ty.int IntKind.i64))) x1_0), (.v (.int IntKind.i64 x1_1)), (.v (.int IntKind.i64 x1_2)), (.fz (Ty.int IntKind.i64) x1_3), (.v (.int IntKind.i64 x1_4))])] [] k kp = f x0_0 x0_1 x0_2 x0_3 x0_4 x1_0 x1_1 x1_2 x1_3 x1_4 (fun y0 => k (.v (.bool y0)) []) := by
  rw [f_def, c_raw]; simp only [j2000002_eq]; first | done | rfl
noncomputable def ent0 : Entry := fun args blks k _ => match args, blks with
  | [d0, d1], [] => aAgg 5 d0 fun l => aCons l fun d0_0 l => aCons l fun d0_1 l => aCons l fun d0_2 l => aCons l fun d0_3 l => aCons l fun d0_4 l => aNil l (aFz (Ty.pair Ty.str (Ty.list (Ty.int IntKind.i64))) d0_0 fun x0_0 => aInt IntKind.i64 d0_1 fun x0_1 => aInt IntKind.i64 d0_2 fun x0_2 => aFz (Ty.int IntKind.i64) d0_3 fun x0_3 => aInt IntKind.i64 d0_4 fun x0_4 => aAgg 5 d1 fun l => aCons l fun d1_0 l => aCons l fun d1_1 l => aCons l fun d1_2 l => aCons l fun d1_3 l => aCons l fun d1_4 l => aNil l (aFz (Ty.pair Ty.str (Ty.list (Ty.int IntKind.i64))) d1_0 fun x1_0 => aInt IntKind.i64 d1_1 fun x1_1 => aInt IntKind.i64 d1_2 fun x1_2 => aFz (Ty.int IntKind.i64) d1_3 fun x1_3 => aInt IntKind.i64 d1_4 fun x1_4 => f x0_0 x0_1 x0_2 x0_3 x0_4 x1_0 x1_1 x1_2 x1_3 x1_4 (fun y0 => k (.v (.bool y0)) [])))
  | _, _ => False
noncomputable def ent : Entry := fun args blks k kp => ent0 (convB [.cells [some (Ty.pair Ty.str (Ty.list (Ty.int IntKind.i64))), none, none, some (Ty.int IntKind.i64), none], .cells [some (Ty.pair Ty.str (Ty.list (Ty.int IntKind.i64))), none, none, some (Ty.int IntKind.i64), none]] args) blks k kp
theorem ok : EntOk Try.prog 0 0 37 ent := by
  refine EntOk.convB (EntOk.of (funW_ok (cfg := cfg) (tyOk_of rfl rfl tyL_ok) (eqOk_of (P := Try.prog) rfl rfl (by kernel_rfl)) mixed_ok (tab_ok ?_) Try.func37 (by rfl) (by rfl)) ?_) _
  · intro p hp
    simp only [List.mem_cons, List.not_mem_nil, or_false] at hp
    rcases hp with rfl
    · exact N61.ok
  · intro args blks k kp h k' kp'
    match args, blks, h with
    | [d0, d1], [], h =>
    dsimp only [ent0] at h
    have h9 := aAgg_elim h; clear h; obtain ⟨_, rfl, h⟩ := h9
    have h9 := aCons_elim h; clear h; obtain ⟨d0_0, _, rfl, h⟩ := h9
    have h9 := aCons_elim h; clear h; obtain ⟨d0_1, _, rfl, h⟩ := h9
    have h9 := aCons_elim h; clear h; obtain ⟨d0_2, _, rfl, h⟩ := h9
    have h9 := aCons_elim h; clear h; obtain ⟨d0_3, _, rfl, h⟩ := h9
    have h9 := aCons_elim h; clear h; obtain ⟨d0_4, _, rfl, h⟩ := h9
    have h9 := aNil_elim h; clear h; obtain ⟨rfl, h⟩ := h9
    have h9 := aFz_elim (t := (Ty.pair Ty.str (Ty.list (Ty.int IntKind.i64)))) h; clear h; obtain ⟨x0_0, rfl, h⟩ := h9
    have h9 := aInt_elim h; clear h; obtain ⟨x0_1, rfl, h⟩ := h9
    have h9 := aInt_elim h; clear h; obtain ⟨x0_2, rfl, h⟩ := h9
    have h9 := aFz_elim (t := (Ty.int IntKind.i64)) h; clear h; obtain ⟨x0_3, rfl, h⟩ := h9
    have h9 := aInt_elim h; clear h; obtain ⟨x0_4, rfl, h⟩ := h9
    have h9 := aAgg_elim h; clear h; obtain ⟨_, rfl, h⟩ := h9
    have h9 := aCons_elim h; clear h; obtain ⟨d1_0, _, rfl, h⟩ := h9
    have h9 := aCons_elim h; clear h; obtain ⟨d1_1, _, rfl, h⟩ := h9
    have h9 := aCons_elim h; clear h; obtain ⟨d1_2, _, rfl, h⟩ := h9
    have h9 := aCons_elim h; clear h; obtain ⟨d1_3, _, rfl, h⟩ := h9
    have h9 := aCons_elim h; clear h; obtain ⟨d1_4, _, rfl, h⟩ := h9
    have h9 := aNil_elim h; clear h; obtain ⟨rfl, h⟩ := h9
    have h9 := aFz_elim (t := (Ty.pair Ty.str (Ty.list (Ty.int IntKind.i64)))) h; clear h; obtain ⟨x1_0, rfl, h⟩ := h9
    have h9 := aInt_elim h; clear h; obtain ⟨x1_1, rfl, h⟩ := h9
    have h9 := aInt_elim h; clear h; obtain ⟨x1_2, rfl, h⟩ := h9
    have h9 := aFz_elim (t := (Ty.int IntKind.i64)) h; clear h; obtain ⟨x1_3, rfl, h⟩ := h9
    have h9 := aInt_elim h; clear h; obtain ⟨x1_4, rfl, h⟩ := h9
    exact (f_eq k' kp' x0_0 x0_1 x0_2 x0_3 x0_4 x1_0 x1_1 x1_2 x1_3 x1_4).symm
end N37
end Go.Proofs.Yu
namespace Go.Proofs.Yu
open Go Go.Aw Go.Proofs
set_option linter.unusedVariables false
set_option linter.unusedSimpArgs false
set_option maxRecDepth 100000
/-! dyehouse/obs.Parts -/
namespace N38
noncomputable def cfg : Cfg := { P := Try.prog, ty := tys, E := tab [(73, N73.ent)], atSeq := tab [(8, ⟨[(2, .keep), (3, .keep), (5, .keep)]⟩)], atLoop := tab [(3, ⟨[(2, .keep), (3, .keep), (5, .keep), (14, .keep), (15, .keep)]⟩)], outs := [], eqT := tab [], bT := tab [], fzB := [2, 3] }
noncomputable def body : Code := bodyOf Try.f38
def l3 (j8 : (List (ByteArray × (List Int))) → Int → Int → (List Int) → Int → (List (ByteArray × (List Int))) → Int → Int → (List Int) → Int → Int → Prop) (ag3 : Int → Prop) (x2_0 : (List (ByteArray × (List Int)))) (x2_1 : Int) (x2_2 : Int) (x2_3 : (List Int)) (x2_4 : Int) (x3_0 : (List (ByteArray × (List Int)))) (x3_1 : Int) (x3_2 : Int) (x3_3 : (List Int)) (x3_4 : Int) (x5 : Int) (x14 : Int) (x15 : Int) (k : Int → Prop) : Prop :=
  (br (decide (x15 < x14)) ((inB 0 x15 ((((x2_0).length : Nat) : Int) - 1)) ∧ ((inB 0 x15 ((((x3_0).length : Nat) : Int) - 1)) ∧ (N73.f (x2_0.getD (Int.toNat x15) ((ByteArray.empty, ([] : List Int)))).1 (x2_0.getD (Int.toNat x15) ((ByteArray.empty, ([] : List Int)))).2 (x3_0.getD (Int.toNat x15) ((ByteArray.empty, ([] : List Int)))).1 (x3_0.getD (Int.toNat x15) ((ByteArray.empty, ([] : List Int)))).2 (fun (y0_0 : Bool) => (br (!y0_0) (k x15) (ag3 (IntKind.i64.wrap (x15 + (1 : Int))))))))) (j8 x2_0 x2_1 x2_2 x2_3 x2_4 x3_0 x3_1 x3_2 x3_3 x3_4 x5))
def j8 (x2_0 : (List (ByteArray × (List Int)))) (x2_1 : Int) (x2_2 : Int) (x2_3 : (List Int)) (x2_4 : Int) (x3_0 : (List (ByteArray × (List Int)))) (x3_1 : Int) (x3_2 : Int) (x3_3 : (List Int)) (x3_4 : Int) (x5 : Int) (k : Int → Prop) : Prop :=
  (br (((((x2_0).length : Nat) : Int)) != ((((x3_0).length : Nat) : Int))) (k x5) (k (-1 : Int)))
def c (l3 : (List (ByteArray × (List Int))) → Int → Int → (List Int) → Int → (List (ByteArray × (List Int))) → Int → Int → (List Int) → Int → Int → Int → Int → Prop) (x0_0 : (List (ByteArray × (List Int)))) (x0_1 : Int) (x0_2 : Int) (x0_3 : (List Int)) (x0_4 : Int) (x1_0 : (List (ByteArray × (List Int)))) (x1_1 : Int) (x1_2 : Int) (x1_3 : (List Int)) (x1_4 : Int) (k : Int → Prop) : Prop :=
  (l3 x0_0 x0_1 x0_2 x0_3 x0_4 x1_0 x1_1 x1_2 x1_3 x1_4 (mmv false ((((x0_0).length : Nat) : Int)) ((((x1_0).length : Nat) : Int))) (mmv false ((((x0_0).length : Nat) : Int)) ((((x1_0).length : Nat) : Int))) (0 : Int))
def j8' (x2_0 : (List (ByteArray × (List Int)))) (x2_1 : Int) (x2_2 : Int) (x2_3 : (List Int)) (x2_4 : Int) (x3_0 : (List (ByteArray × (List Int)))) (x3_1 : Int) (x3_2 : Int) (x3_3 : (List Int)) (x3_4 : Int) (x5 : Int) (k : Int → Prop) : Prop := j8 x2_0 x2_1 x2_2 x2_3 x2_4 x3_0 x3_1 x3_2 x3_3 x3_4 x5 k
def l3' (x2_0 : (List (ByteArray × (List Int)))) (x2_1 : Int) (x2_2 : Int) (x2_3 : (List Int)) (x2_4 : Int) (x3_0 : (List (ByteArray × (List Int)))) (x3_1 : Int) (x3_2 : Int) (x3_3 : (List Int)) (x3_4 : Int) (x5 : Int) (x14 : Int) (x15 : Int) (k : Int → Prop) : Prop := ∃ n, loopS (fun (ag : (Int) → Prop) (s : Int) => l3 (fun x2_0 x2_1 x2_2 x2_3 x2_4 x3_0 x3_1 x3_2 x3_3 x3_4 x5 => j8' x2_0 x2_1 x2_2 x2_3 x2_4 x3_0 x3_1 x3_2 x3_3 x3_4 x5 k) (fun x15 => ag (x15)) x2_0 x2_1 x2_2 x2_3 x2_4 x3_0 x3_1 x3_2 x3_3 x3_4 x5 x14 s k) n (x15)
def f0 (x0_0 : (List (ByteArray × (List Int)))) (x0_1 : Int) (x0_2 : Int) (x0_3 : (List Int)) (x0_4 : Int) (x1_0 : (List (ByteArray × (List Int)))) (x1_1 : Int) (x1_2 : Int) (x1_3 : (List Int)) (x1_4 : Int) (k : Int → Prop) : Prop := c (fun x2_0 x2_1 x2_2 x2_3 x2_4 x3_0 x3_1 x3_2 x3_3 x3_4 x5 x14 x15 => l3' x2_0 x2_1 x2_2 x2_3 x2_4 x3_0 x3_1 x3_2 x3_3 x3_4 x5 x14 x15 k) x0_0 x0_1 x0_2 x0_3 x0_4 x1_0 x1_1 x1_2 x1_3 x1_4 k
theorem f_ex : ∃ g : (List (ByteArray × (List Int))) → Int → Int → (List Int) → Int → (List (ByteArray × (List Int))) → Int → Int → (List Int) → Int → (Int → Prop) → Prop, g = f0 := ⟨_, rfl⟩
noncomputable def f : (List (ByteArray × (List Int))) → Int → Int → (List Int) → Int → (List (ByteArray × (List Int))) → Int → Int → (List Int) → Int → (Int → Prop) → Prop := Classical.choose f_ex
theorem f_def : f = f0 := Classical.choose_spec f_ex
def mL3 (x2_0 : (List (ByteArray × (List Int)))) (x2_1 : Int) (x2_2 : Int) (x2_3 : (List Int)) (x2_4 : Int) (x3_0 : (List (ByteArray × (List Int)))) (x3_1 : Int) (x3_2 : Int) (x3_3 : (List Int)) (x3_4 : Int) (x5 : Int) (x14 : Int) (x15 : Int) : St := { tmps := mkT 40 0 [(2, (.fp [(.fz (Ty.pair Ty.str (Ty.list (Ty.int IntKind.i64))) x2_0), (.v (.int IntKind.i64 x2_1)), (.v (.int IntKind.i64 x2_2)), (.fz (Ty.int IntKind.i64) x2_3), (.v (.int IntKind.i64 x2_4))])), (3, (.fp [(.fz (Ty.pair Ty.str (Ty.list (Ty.int IntKind.i64))) x3_0), (.v (.int IntKind.i64 x3_1)), (.v (.int IntKind.i64 x3_2)), (.fz (Ty.int IntKind.i64) x3_3), (.v (.int IntKind.i64 x3_4))])), (5, (.v (.int IntKind.i64 x5))), (14, (.v (.int IntKind.i64 x14))), (15, (.v (.int IntKind.i64 x15)))], hp := [], m := 0 }
def m8 (x2_0 : (List (ByteArray × (List Int)))) (x2_1 : Int) (x2_2 : Int) (x2_3 : (List Int)) (x2_4 : Int) (x3_0 : (List (ByteArray × (List Int)))) (x3_1 : Int) (x3_2 : Int) (x3_3 : (List Int)) (x3_4 : Int) (x5 : Int) : St := { tmps := mkT 40 0 [(2, (.fp [(.fz (Ty.pair Ty.str (Ty.list (Ty.int IntKind.i64))) x2_0), (.v (.int IntKind.i64 x2_1)), (.v (.int IntKind.i64 x2_2)), (.fz (Ty.int IntKind.i64) x2_3), (.v (.int IntKind.i64 x2_4))])), (3, (.fp [(.fz (Ty.pair Ty.str (Ty.list (Ty.int IntKind.i64))) x3_0), (.v (.int IntKind.i64 x3_1)), (.v (.int IntKind.i64 x3_2)), (.fz (Ty.int IntKind.i64) x3_3), (.v (.int IntKind.i64 x3_4))])), (5, (.v (.int IntKind.i64 x5)))], hp := [], m := 0 }
noncomputable def YL3 (k kp : D → List Blk → Prop) : (St → Prop) → St → Prop := loopB cfg (sub [1, 1, 0, 1, 0, 0] body) (contK cfg (pick none' []) [1, 1, 0, 1, 0] body (topK cfg Try.f38 k kp))
noncomputable def XL3 (k kp : D → List Blk → Prop) : St → Prop := fun st => ∃ n, loopN (YL3 k kp) n st
noncomputable def X8 (k kp : D → List Blk → Prop) : St → Prop := atP cfg (pick none' []) [1, 1, 1] body (topK cfg Try.f38 k kp)
noncomputable def JJ_3 (k kp : D → List Blk → Prop) (ag3 : St → Prop) : Nat → St → Prop := pick none' [(8, X8 k kp)]
noncomputable def LL_3 (k kp : D → List Blk → Prop) (ag3 : St → Prop) : Nat → St → Prop := pick none' [(3, XL3 k kp)]
noncomputable def JJ (k kp : D → List Blk → Prop) : Nat → St → Prop := pick none' [(8, X8 k kp)]
noncomputable def LL (k kp : D → List Blk → Prop) : Nat → St → Prop := pick none' [(3, XL3 k kp)]
theorem j8_c (k kp : D → List Blk → Prop) (J L : Nat → St → Prop) (x2_0 : (List (ByteArray × (List Int)))) (x2_1 : Int) (x2_2 : Int) (x2_3 : (List Int)) (x2_4 : Int) (x3_0 : (List (ByteArray × (List Int)))) (x3_1 : Int) (x3_2 : Int) (x3_3 : (List Int)) (x3_4 : Int) (x5 : Int) : runC cfg 8 J L (pick none' []) [1, 1, 1] body (topK cfg Try.f38 k kp) (m8 x2_0 x2_1 x2_2 x2_3 x2_4 x3_0 x3_1 x3_2 x3_3 x3_4 x5) = j8 x2_0 x2_1 x2_2 x2_3 x2_4 x3_0 x3_1 x3_2 x3_3 x3_4 x5 (fun y0 => k (.v (.int IntKind.i64 y0)) []) := by kernel_rfl
theorem j8_ag (k kp : D → List Blk → Prop) : agPL cfg 8 (JJ k kp) (LL k kp) [1, 1, 1] body = agPR cfg 8 (pick none' []) [1, 1, 1] body (topK cfg Try.f38 k kp) := by kernel_rfl
theorem j8_raw (k kp : D → List Blk → Prop) (x2_0 : (List (ByteArray × (List Int)))) (x2_1 : Int) (x2_2 : Int) (x2_3 : (List Int)) (x2_4 : Int) (x3_0 : (List (ByteArray × (List Int)))) (x3_1 : Int) (x3_2 : Int) (x3_3 : (List Int)) (x3_4 : Int) (x5 : Int) : X8 k kp (m8 x2_0 x2_1 x2_2 x2_3 x2_4 x3_0 x3_1 x3_2 x3_3 x3_4 x5) = j8 x2_0 x2_1 x2_2 x2_3 x2_4 x3_0 x3_1 x3_2 x3_3 x3_4 x5 (fun y0 => k (.v (.int IntKind.i64 y0)) []) :=
  Eq.mp (by kernel_rfl) ((atP_run (j8_ag k kp) (m8 x2_0 x2_1 x2_2 x2_3 x2_4 x3_0 x3_1 x3_2 x3_3 x3_4 x5)).trans (j8_c k kp (JJ k kp) (LL k kp) x2_0 x2_1 x2_2 x2_3 x2_4 x3_0 x3_1 x3_2 x3_3 x3_4 x5))
theorem j8_eq (k kp : D → List Blk → Prop) (x2_0 : (List (ByteArray × (List Int)))) (x2_1 : Int) (x2_2 : Int) (x2_3 : (List Int)) (x2_4 : Int) (x3_0 : (List (ByteArray × (List Int)))) (x3_1 : Int) (x3_2 : Int) (x3_3 : (List Int)) (x3_4 : Int) (x5 : Int) : X8 k kp (m8 x2_0 x2_1 x2_2 x2_3 x2_4 x3_0 x3_1 x3_2 x3_3 x3_4 x5) = j8' x2_0 x2_1 x2_2 x2_3 x2_4 x3_0 x3_1 x3_2 x3_3 x3_4 x5 (fun y0 => k (.v (.int IntKind.i64 y0)) []) := by
  rw [j8_raw]; rfl
theorem l3_c (k kp : D → List Blk → Prop) (J L : Nat → St → Prop) (ag3 : St → Prop) (x2_0 : (List (ByteArray × (List Int)))) (x2_1 : Int) (x2_2 : Int) (x2_3 : (List Int)) (x2_4 : Int) (x3_0 : (List (ByteArray × (List Int)))) (x3_1 : Int) (x3_2 : Int) (x3_3 : (List Int)) (x3_4 : Int) (x5 : Int) (x14 : Int) (x15 : Int) : runC cfg 1000001 J L (pick none' [(3, ag3)]) [1, 1, 0, 1, 0, 0] body (topK cfg Try.f38 k kp) (mL3 x2_0 x2_1 x2_2 x2_3 x2_4 x3_0 x3_1 x3_2 x3_3 x3_4 x5 x14 x15) = l3 (fun x2_0 x2_1 x2_2 x2_3 x2_4 x3_0 x3_1 x3_2 x3_3 x3_4 x5 => J 8 (m8 x2_0 x2_1 x2_2 x2_3 x2_4 x3_0 x3_1 x3_2 x3_3 x3_4 x5)) (fun x15 => ag3 (mL3 x2_0 x2_1 x2_2 x2_3 x2_4 x3_0 x3_1 x3_2 x3_3 x3_4 x5 x14 x15)) x2_0 x2_1 x2_2 x2_3 x2_4 x3_0 x3_1 x3_2 x3_3 x3_4 x5 x14 x15 (fun y0 => k (.v (.int IntKind.i64 y0)) []) := by kernel_rfl
theorem l3_ag (k kp : D → List Blk → Prop) (ag3 : St → Prop) : agPL cfg 1000001 (JJ_3 k kp ag3) (LL_3 k kp ag3) [1, 1, 0, 1, 0, 0] body = agPR cfg 1000001 (pick none' [(3, ag3)]) [1, 1, 0, 1, 0, 0] body (topK cfg Try.f38 k kp) := by kernel_rfl
theorem l3_raw (k kp : D → List Blk → Prop) (ag3 : St → Prop) (x2_0 : (List (ByteArray × (List Int)))) (x2_1 : Int) (x2_2 : Int) (x2_3 : (List Int)) (x2_4 : Int) (x3_0 : (List (ByteArray × (List Int)))) (x3_1 : Int) (x3_2 : Int) (x3_3 : (List Int)) (x3_4 : Int) (x5 : Int) (x14 : Int) (x15 : Int) : YL3 k kp ag3 (mL3 x2_0 x2_1 x2_2 x2_3 x2_4 x3_0 x3_1 x3_2 x3_3 x3_4 x5 x14 x15) = l3 (fun x2_0 x2_1 x2_2 x2_3 x2_4 x3_0 x3_1 x3_2 x3_3 x3_4 x5 => X8 k kp (m8 x2_0 x2_1 x2_2 x2_3 x2_4 x3_0 x3_1 x3_2 x3_3 x3_4 x5)) (fun x15 => ag3 (mL3 x2_0 x2_1 x2_2 x2_3 x2_4 x3_0 x3_1 x3_2 x3_3 x3_4 x5 x14 x15)) x2_0 x2_1 x2_2 x2_3 x2_4 x3_0 x3_1 x3_2 x3_3 x3_4 x5 x14 x15 (fun y0 => k (.v (.int IntKind.i64 y0)) []) :=
  Eq.mp (by kernel_rfl) ((atP_run (l3_ag k kp ag3) (mL3 x2_0 x2_1 x2_2 x2_3 x2_4 x3_0 x3_1 x3_2 x3_3 x3_4 x5 x14 x15)).trans (l3_c k kp (JJ_3 k kp ag3) (LL_3 k kp ag3) ag3 x2_0 x2_1 x2_2 x2_3 x2_4 x3_0 x3_1 x3_2 x3_3 x3_4 x5 x14 x15))
theorem l3_eq (k kp : D → List Blk → Prop) (x2_0 : (List (ByteArray × (List Int)))) (x2_1 : Int) (x2_2 : Int) (x2_3 : (List Int)) (x2_4 : Int) (x3_0 : (List (ByteArray × (List Int)))) (x3_1 : Int) (x3_2 : Int) (x3_3 : (List Int)) (x3_4 : Int) (x5 : Int) (x14 : Int) (x15 : Int) : XL3 k kp (mL3 x2_0 x2_1 x2_2 x2_3 x2_4 x3_0 x3_1 x3_2 x3_3 x3_4 x5 x14 x15) = l3' x2_0 x2_1 x2_2 x2_3 x2_4 x3_0 x3_1 x3_2 x3_3 x3_4 x5 x14 x15 (fun y0 => k (.v (.int IntKind.i64 y0)) []) :=
  loop_eq (mk := fun (s : Int) => mL3 x2_0 x2_1 x2_2 x2_3 x2_4 x3_0 x3_1 x3_2 x3_3 x3_4 x5 x14 s) (fun again s => by rw [l3_raw k kp again x2_0 x2_1 x2_2 x2_3 x2_4 x3_0 x3_1 x3_2 x3_3 x3_4 x5 x14 s]; simp only [j8_eq]; first | done | rfl) (x15)
theorem c_c (k kp : D → List Blk → Prop) (J L : Nat → St → Prop) (x0_0 : (List (ByteArray × (List Int)))) (x0_1 : Int) (x0_2 : Int) (x0_3 : (List Int)) (x0_4 : Int) (x1_0 : (List (ByteArray × (List Int)))) (x1_1 : Int) (x1_2 : Int) (x1_3 : (List Int)) (x1_4 : Int) : runC cfg 1000001 J L none'' [] body (topK cfg Try.f38 k kp) (st0 Try.f38 [(.agg [(.fz (Ty.pair Ty.str (Ty.list (Ty.int IntKind.i64))) x0_0), (.v (.int IntKind.i64 x0_1)), (.v (.int IntKind.i64 x0_2)), (.fz (Ty.int IntKind.i64) x0_3), (.v (.int IntKind.i64 x0_4))]), (.agg [(.fz (Ty.pair Ty.str (Ty.list (Ty.int IntKind.i64))) x1_0), (.v (.int IntKind.i64 x1_1)), (.v (.int IntKind.i64 x1_2)), (.fz (Ty.int IntKind.i64) x1_3), (.v (.int IntKind.i64 x1_4))])] []) = c (fun x2_0 x2_1 x2_2 x2_3 x2_4 x3_0 x3_1 x3_2 x3_3 x3_4 x5 x14 x15 => L 3 (mL3 x2_0 x2_1 x2_2 x2_3 x2_4 x3_0 x3_1 x3_2 x3_3 x3_4 x5 x14 x15)) x0_0 x0_1 x0_2 x0_3 x0_4 x1_0 x1_1 x1_2 x1_3 x1_4 (fun y0 => k (.v (.int IntKind.i64 y0)) []) := by kernel_rfl
theorem c_ag (k kp : D → List Blk → Prop) : agPL cfg 1000001 (JJ k kp) (LL k kp) [] body = agPR cfg 1000001 none'' [] body (topK cfg Try.f38 k kp) := by kernel_rfl
theorem body_is : Try.f38.body = some body := by kernel_rfl
theorem c_raw (k kp : D → List Blk → Prop) (x0_0 : (List (ByteArray × (List Int)))) (x0_1 : Int) (x0_2 : Int) (x0_3 : (List Int)) (x0_4 : Int) (x1_0 : (List (ByteArray × (List Int)))) (x1_1 : Int) (x1_2 : Int) (x1_3 : (List Int)) (x1_4 : Int) : funW cfg Try.f38 [(.agg [(.fz (Ty.pair Ty.str (Ty.list (Ty.int IntKind.i64))) x0_0), (.v (.int IntKind.i64 x0_1)), (.v (.int IntKind.i64 x0_2)), (.fz (Ty.int IntKind.i64) x0_3), (.v (.int IntKind.i64 x0_4))]), (.agg [(.fz (Ty.pair Ty.str (Ty.list (Ty.int IntKind.i64))) x1_0), (.v (.int IntKind.i64 x1_1)), (.v (.int IntKind.i64 x1_2)), (.fz (Ty.int IntKind.i64) x1_3), (.v (.int IntKind.i64 x1_4))])] [] k kp = c (fun x2_0 x2_1 x2_2 x2_3 x2_4 x3_0 x3_1 x3_2 x3_3 x3_4 x5 x14 x15 => XL3 k kp (mL3 x2_0 x2_1 x2_2 x2_3 x2_4 x3_0 x3_1 x3_2 x3_3 x3_4 x5 x14 x15)) x0_0 x0_1 x0_2 x0_3 x0_4 x1_0 x1_1 x1_2 x1_3 x1_4 (fun y0 => k (.v (.int IntKind.i64 y0)) []) :=
  Eq.mp (by kernel_rfl) ((funW_run (AG := none'') body_is (c_ag k kp) [(.agg [(.fz (Ty.pair Ty.str (Ty.list (Ty.int IntKind.i64))) x0_0), (.v (.int IntKind.i64 x0_1)), (.v (.int IntKind.i64 x0_2)), (.fz (Ty.int IntKind.i64) x0_3), (.v (.int IntKind.i64 x0_4))]), (.agg [(.fz (Ty.pair Ty.str (Ty.list (Ty.int IntKind.i64))) x1_0), (.v (.int IntKind.i64 x1_1)), (.v (.int IntKind.i64 x1_2)), (.fz (Ty.int IntKind.i64) x1_3), (.v (.int IntKind.i64 x1_4))])] []).trans (c_c k kp (JJ k kp) (LL k kp) x0_0 x0_1 x0_2 x0_3 x0_4 x1_0 x1_1 x1_2 x1_3 x1_4))
theorem f_eq (k kp : D → List Blk → Prop) (x0_0 : (List (ByteArray × (List Int)))) (x0_1 : Int) (x0_2 : Int) (x0_3 : (List Int)) (x0_4 : Int) (x1_0 : (List (ByteArray × (List Int)))) (x1_1 : Int) (x1_2 : Int) (x1_3 : (List Int)) (x1_4 : Int) : funW cfg Try.f38 [(.agg [(.fz (Ty.pair Ty.str (Ty.list (Ty.int IntKind.i64))) x0_0), (.v (.int IntKind.i64 x0_1)), (.v (.int IntKind.i64 x0_2)), (.fz (Ty.int IntKind.i64) x0_3), (.v (.int IntKind.i64 x0_4))]), (.agg [(.fz (Ty.pair Ty.str (Ty.list (Ty.int IntKind.i64))) x1_0), (.v (.int IntKind.i64 x1_1)), (.v (.int IntKind.i64 x1_2)), (.fz (Ty.int IntKind.i64) x1_3), (.v (.int IntKind.i64 x1_4))])] [] k kp = f x0_0 x0_1 x0_2 x0_3 x0_4 x1_0 x1_1 x1_2 x1_3 x1_4 (fun y0 => k (.v (.int IntKind.i64 y0)) []) := by
  rw [f_def, c_raw]; simp only [l3_eq]; first | done | rfl
noncomputable def ent0 : Entry := fun args blks k _ => match args, blks with
  | [d0, d1], [] => aAgg 5 d0 fun l => aCons l fun d0_0 l => aCons l fun d0_1 l => aCons l fun d0_2 l => aCons l fun d0_3 l => aCons l fun d0_4 l => aNil l (aFz (Ty.pair Ty.str (Ty.list (Ty.int IntKind.i64))) d0_0 fun x0_0 => aInt IntKind.i64 d0_1 fun x0_1 => aInt IntKind.i64 d0_2 fun x0_2 => aFz (Ty.int IntKind.i64) d0_3 fun x0_3 => aInt IntKind.i64 d0_4 fun x0_4 => aAgg 5 d1 fun l => aCons l fun d1_0 l => aCons l fun d1_1 l => aCons l fun d1_2 l => aCons l fun d1_3 l => aCons l fun d1_4 l => aNil l (aFz (Ty.pair Ty.str (Ty.list (Ty.int IntKind.i64))) d1_0 fun x1_0 => aInt IntKind.i64 d1_1 fun x1_1 => aInt IntKind.i64 d1_2 fun x1_2 => aFz (Ty.int IntKind.i64) d1_3 fun x1_3 => aInt IntKind.i64 d1_4 fun x1_4 => f x0_0 x0_1 x0_2 x0_3 x0_4 x1_0 x1_1 x1_2 x1_3 x1_4 (fun y0 => k (.v (.int IntKind.i64 y0)) [])))
  | _, _ => False
noncomputable def ent : Entry := fun args blks k kp => ent0 (convB [.cells [some (Ty.pair Ty.str (Ty.list (Ty.int IntKind.i64))), none, none, some (Ty.int IntKind.i64), none], .cells [some (Ty.pair Ty.str (Ty.list (Ty.int IntKind.i64))), none, none, some (Ty.int IntKind.i64), none]] args) blks k kp
theorem ok : EntOk Try.prog 0 0 38 ent := by
  refine EntOk.convB (EntOk.of (funW_ok (cfg := cfg) (tyOk_of rfl rfl tyL_ok) (eqOk_of (P := Try.prog) rfl rfl (by kernel_rfl)) mixed_ok (tab_ok ?_) Try.func38 (by rfl) (by rfl)) ?_) _
  · intro p hp
    simp only [List.mem_cons, List.not_mem_nil, or_false] at hp
    rcases hp with rfl
    · exact N73.ok
  · intro args blks k kp h k' kp'
    match args, blks, h with
    | [d0, d1], [], h =>
    dsimp only [ent0] at h
    have h9 := aAgg_elim h; clear h; obtain ⟨_, rfl, h⟩ := h9
    have h9 := aCons_elim h; clear h; obtain ⟨d0_0, _, rfl, h⟩ := h9
    have h9 := aCons_elim h; clear h; obtain ⟨d0_1, _, rfl, h⟩ := h9
    have h9 := aCons_elim h; clear h; obtain ⟨d0_2, _, rfl, h⟩ := h9
    have h9 := aCons_elim h; clear h; obtain ⟨d0_3, _, rfl, h⟩ := h9
    have h9 := aCons_elim h; clear h; obtain ⟨d0_4, _, rfl, h⟩ := h9
    have h9 := aNil_elim h; clear h; obtain ⟨rfl, h⟩ := h9
    have h9 := aFz_elim (t := (Ty.pair Ty.str (Ty.list (Ty.int IntKind.i64)))) h; clear h; obtain ⟨x0_0, rfl, h⟩ := h9
    have h9 := aInt_elim h; clear h; obtain ⟨x0_1, rfl, h⟩ := h9
    have h9 := aInt_elim h; clear h; obtain ⟨x0_2, rfl, h⟩ := h9
    have h9 := aFz_elim (t := (Ty.int IntKind.i64)) h; clear h; obtain ⟨x0_3, rfl, h⟩ := h9
    have h9 := aInt_elim h; clear h; obtain ⟨x0_4, rfl, h⟩ := h9
    have h9 := aAgg_elim h; clear h; obtain ⟨_, rfl, h⟩ := h9
    have h9 := aCons_elim h; clear h; obtain ⟨d1_0, _, rfl, h⟩ := h9
    have h9 := aCons_elim h; clear h; obtain ⟨d1_1, _, rfl, h⟩ := h9
    have h9 := aCons_elim h; clear h; obtain ⟨d1_2, _, rfl, h⟩ := h9
    have h9 := aCons_elim h; clear h; obtain ⟨d1_3, _, rfl, h⟩ := h9
    have h9 := aCons_elim h; clear h; obtain ⟨d1_4, _, rfl, h⟩ := h9
    have h9 := aNil_elim h; clear h; obtain ⟨rfl, h⟩ := h9
    have h9 := aFz_elim (t := (Ty.pair Ty.str (Ty.list (Ty.int IntKind.i64)))) h; clear h; obtain ⟨x1_0, rfl, h⟩ := h9
    have h9 := aInt_elim h; clear h; obtain ⟨x1_1, rfl, h⟩ := h9
    have h9 := aInt_elim h; clear h; obtain ⟨x1_2, rfl, h⟩ := h9
    have h9 := aFz_elim (t := (Ty.int IntKind.i64)) h; clear h; obtain ⟨x1_3, rfl, h⟩ := h9
    have h9 := aInt_elim h; clear h; obtain ⟨x1_4, rfl, h⟩ := h9
    exact (f_eq k' kp' x0_0 x0_1 x0_2 x0_3 x0_4 x1_0 x1_1 x1_2 x1_3 x1_4).symm
end N38
end Go.Proofs.Yu
namespace Go.Proofs.Yu
open Go Go.Aw Go.Proofs
set_option linter.unusedVariables false
set_option linter.unusedSimpArgs false
set_option maxRecDepth 100000
/-! dyehouse/dyehouseref35.call -/
namespace N74
noncomputable def cfg : Cfg := { P := Try.prog, ty := tys, E := tab [], atSeq := tab [(2000002, ⟨[(2, .keep), (3, .keep), (19, .keep)]⟩), (3, ⟨[(2, .keep), (3, .keep)]⟩), (8, ⟨[]⟩)], atLoop := tab [(4, ⟨[(2, .keep), (3, .keep), (5, .keep)]⟩)], outs := [], eqT := tab [], bT := tab [], fzB := [2, 3] }
noncomputable def body : Code := bodyOf Try.f74
def j2000002 (j3 : ByteArray → (List Int) → ByteArray → (List Int) → Prop) (x2_0 : ByteArray) (x2_1 : (List Int)) (x3_0 : ByteArray) (x3_1 : (List Int)) (x19 : Bool) (k : Bool → Prop) : Prop :=
  (br x19 (k false) (j3 x2_0 x2_1 x3_0 x3_1))
def j3 (l4 : ByteArray → (List Int) → ByteArray → (List Int) → Int → Prop) (x2_0 : ByteArray) (x2_1 : (List Int)) (x3_0 : ByteArray) (x3_1 : (List Int)) (k : Bool → Prop) : Prop :=
  (l4 x2_0 x2_1 x3_0 x3_1 (0 : Int))
def l4 (j8 : Prop) (ag4 : Int → Prop) (x2_0 : ByteArray) (x2_1 : (List Int)) (x3_0 : ByteArray) (x3_1 : (List Int)) (x5 : Int) (k : Bool → Prop) : Prop :=
  (br (decide (x5 < ((((x2_1).length : Nat) : Int)))) ((inB 0 x5 ((((x2_1).length : Nat) : Int) - 1)) ∧ ((inB 0 x5 ((((x3_1).length : Nat) : Int) - 1)) ∧ (br ((x2_1.getD (Int.toNat x5) (0)) != (x3_1.getD (Int.toNat x5) (0))) (k false) (ag4 (IntKind.i64.wrap (x5 + (1 : Int))))))) (j8))
def j8 (k : Bool → Prop) : Prop :=
  (k true)
def c (j2000002 : ByteArray → (List Int) → ByteArray → (List Int) → Bool → Prop) (x0_0 : ByteArray) (x0_1 : (List Int)) (x1_0 : ByteArray) (x1_1 : (List Int)) (k : Bool → Prop) : Prop :=
  (br (!(beqS x0_0 x1_0)) (j2000002 x0_0 x0_1 x1_0 x1_1 true) (j2000002 x0_0 x0_1 x1_0 x1_1 (((((x0_1).length : Nat) : Int)) != ((((x1_1).length : Nat) : Int)))))
def j8' (k : Bool → Prop) : Prop := j8 k
def l4' (x2_0 : ByteArray) (x2_1 : (List Int)) (x3_0 : ByteArray) (x3_1 : (List Int)) (x5 : Int) (k : Bool → Prop) : Prop := ∃ n, loopS (fun (ag : (Int) → Prop) (s : Int) => l4 (j8' k) (fun x5 => ag (x5)) x2_0 x2_1 x3_0 x3_1 s k) n (x5)
def j3' (x2_0 : ByteArray) (x2_1 : (List Int)) (x3_0 : ByteArray) (x3_1 : (List Int)) (k : Bool → Prop) : Prop := j3 (fun x2_0 x2_1 x3_0 x3_1 x5 => l4' x2_0 x2_1 x3_0 x3_1 x5 k) x2_0 x2_1 x3_0 x3_1 k
def j2000002' (x2_0 : ByteArray) (x2_1 : (List Int)) (x3_0 : ByteArray) (x3_1 : (List Int)) (x19 : Bool) (k : Bool → Prop) : Prop := j2000002 (fun x2_0 x2_1 x3_0 x3_1 => j3' x2_0 x2_1 x3_0 x3_1 k) x2_0 x2_1 x3_0 x3_1 x19 k
def f0 (x0_0 : ByteArray) (x0_1 : (List Int)) (x1_0 : ByteArray) (x1_1 : (List Int)) (k : Bool → Prop) : Prop := c (fun x2_0 x2_1 x3_0 x3_1 x19 => j2000002' x2_0 x2_1 x3_0 x3_1 x19 k) x0_0 x0_1 x1_0 x1_1 k
theorem f_ex : ∃ g : ByteArray → (List Int) → ByteArray → (List Int) → (Bool → Prop) → Prop, g = f0 := ⟨_, rfl⟩
noncomputable def f : ByteArray → (List Int) → ByteArray → (List Int) → (Bool → Prop) → Prop := Classical.choose f_ex
theorem f_def : f = f0 := Classical.choose_spec f_ex
def m2000002 (x2_0 : ByteArray) (x2_1 : (List Int)) (x3_0 : ByteArray) (x3_1 : (List Int)) (x19 : Bool) : St := { tmps := mkT 38 0 [(2, (.fp [(.v (.string x2_0)), (.fz (Ty.int IntKind.i64) x2_1)])), (3, (.fp [(.v (.string x3_0)), (.fz (Ty.int IntKind.i64) x3_1)])), (19, (.v (.bool x19)))], hp := [], m := 0 }
def m3 (x2_0 : ByteArray) (x2_1 : (List Int)) (x3_0 : ByteArray) (x3_1 : (List Int)) : St := { tmps := mkT 38 0 [(2, (.fp [(.v (.string x2_0)), (.fz (Ty.int IntKind.i64) x2_1)])), (3, (.fp [(.v (.string x3_0)), (.fz (Ty.int IntKind.i64) x3_1)]))], hp := [], m := 0 }
def mL4 (x2_0 : ByteArray) (x2_1 : (List Int)) (x3_0 : ByteArray) (x3_1 : (List Int)) (x5 : Int) : St := { tmps := mkT 38 0 [(2, (.fp [(.v (.string x2_0)), (.fz (Ty.int IntKind.i64) x2_1)])), (3, (.fp [(.v (.string x3_0)), (.fz (Ty.int IntKind.i64) x3_1)])), (5, (.v (.int IntKind.i64 x5)))], hp := [], m := 0 }
def m8 : St := { tmps := mkT 38 0 [], hp := [], m := 0 }
noncomputable def X2000002 (k kp : D → List Blk → Prop) : St → Prop := atP cfg (pick none' []) [1, 0, 1] body (topK cfg Try.f74 k kp)
noncomputable def X3 (k kp : D → List Blk → Prop) : St → Prop := atP cfg (pick none' []) [1, 1] body (topK cfg Try.f74 k kp)
noncomputable def YL4 (k kp : D → List Blk → Prop) : (St → Prop) → St → Prop := loopB cfg (sub [1, 1, 0, 1, 0, 0] body) (contK cfg (pick none' []) [1, 1, 0, 1, 0] body (topK cfg Try.f74 k kp))
noncomputable def XL4 (k kp : D → List Blk → Prop) : St → Prop := fun st => ∃ n, loopN (YL4 k kp) n st
noncomputable def X8 (k kp : D → List Blk → Prop) : St → Prop := atP cfg (pick none' []) [1, 1, 1] body (topK cfg Try.f74 k kp)
noncomputable def JJ (k kp : D → List Blk → Prop) : Nat → St → Prop := pick none' [(2000002, X2000002 k kp), (3, X3 k kp), (8, X8 k kp)]
noncomputable def LL (k kp : D → List Blk → Prop) : Nat → St → Prop := pick none' [(4, XL4 k kp)]
noncomputable def JJ_4 (k kp : D → List Blk → Prop) (ag4 : St → Prop) : Nat → St → Prop := pick none' [(2000002, X2000002 k kp), (3, X3 k kp), (8, X8 k kp)]
noncomputable def LL_4 (k kp : D → List Blk → Prop) (ag4 : St → Prop) : Nat → St → Prop := pick none' [(4, XL4 k kp)]
theorem j8_c (k kp : D → List Blk → Prop) (J L : Nat → St → Prop) : runC cfg 8 J L (pick none' []) [1, 1, 1] body (topK cfg Try.f74 k kp) (m8) = j8 (fun y0 => k (.v (.bool y0)) []) := by kernel_rfl
theorem j8_ag (k kp : D → List Blk → Prop) : agPL cfg 8 (JJ k kp) (LL k kp) [1, 1, 1] body = agPR cfg 8 (pick none' []) [1, 1, 1] body (topK cfg Try.f74 k kp) := by kernel_rfl
theorem j8_raw (k kp : D → List Blk → Prop) : X8 k kp (m8) = j8 (fun y0 => k (.v (.bool y0)) []) :=
  Eq.mp (by kernel_rfl) ((atP_run (j8_ag k kp) (m8)).trans (j8_c k kp (JJ k kp) (LL k kp)))
theorem j8_eq (k kp : D → List Blk → Prop) : X8 k kp (m8) = j8' (fun y0 => k (.v (.bool y0)) []) := by
  rw [j8_raw]; rfl
theorem l4_c (k kp : D → List Blk → Prop) (J L : Nat → St → Prop) (ag4 : St → Prop) (x2_0 : ByteArray) (x2_1 : (List Int)) (x3_0 : ByteArray) (x3_1 : (List Int)) (x5 : Int) : runC cfg 1000001 J L (pick none' [(4, ag4)]) [1, 1, 0, 1, 0, 0] body (topK cfg Try.f74 k kp) (mL4 x2_0 x2_1 x3_0 x3_1 x5) = l4 (J 8 (m8)) (fun x5 => ag4 (mL4 x2_0 x2_1 x3_0 x3_1 x5)) x2_0 x2_1 x3_0 x3_1 x5 (fun y0 => k (.v (.bool y0)) []) := by kernel_rfl
theorem l4_ag (k kp : D → List Blk → Prop) (ag4 : St → Prop) : agPL cfg 1000001 (JJ_4 k kp ag4) (LL_4 k kp ag4) [1, 1, 0, 1, 0, 0] body = agPR cfg 1000001 (pick none' [(4, ag4)]) [1, 1, 0, 1, 0, 0] body (topK cfg Try.f74 k kp) := by kernel_rfl
theorem l4_raw (k kp : D → List Blk → Prop) (ag4 : St → Prop) (x2_0 : ByteArray) (x2_1 : (List Int)) (x3_0 : ByteArray) (x3_1 : (List Int)) (x5 : Int) : YL4 k kp ag4 (mL4 x2_0 x2_1 x3_0 x3_1 x5) = l4 (X8 k kp (m8)) (fun x5 => ag4 (mL4 x2_0 x2_1 x3_0 x3_1 x5)) x2_0 x2_1 x3_0 x3_1 x5 (fun y0 => k (.v (.bool y0)) []) :=
  Eq.mp (by kernel_rfl) ((atP_run (l4_ag k kp ag4) (mL4 x2_0 x2_1 x3_0 x3_1 x5)).trans (l4_c k kp (JJ_4 k kp ag4) (LL_4 k kp ag4) ag4 x2_0 x2_1 x3_0 x3_1 x5))
theorem l4_eq (k kp : D → List Blk → Prop) (x2_0 : ByteArray) (x2_1 : (List Int)) (x3_0 : ByteArray) (x3_1 : (List Int)) (x5 : Int) : XL4 k kp (mL4 x2_0 x2_1 x3_0 x3_1 x5) = l4' x2_0 x2_1 x3_0 x3_1 x5 (fun y0 => k (.v (.bool y0)) []) :=
  loop_eq (mk := fun (s : Int) => mL4 x2_0 x2_1 x3_0 x3_1 s) (fun again s => by rw [l4_raw k kp again x2_0 x2_1 x3_0 x3_1 s]; simp only [j8_eq]; first | done | rfl) (x5)
theorem j3_c (k kp : D → List Blk → Prop) (J L : Nat → St → Prop) (x2_0 : ByteArray) (x2_1 : (List Int)) (x3_0 : ByteArray) (x3_1 : (List Int)) : runC cfg 3 J L (pick none' []) [1, 1] body (topK cfg Try.f74 k kp) (m3 x2_0 x2_1 x3_0 x3_1) = j3 (fun x2_0 x2_1 x3_0 x3_1 x5 => L 4 (mL4 x2_0 x2_1 x3_0 x3_1 x5)) x2_0 x2_1 x3_0 x3_1 (fun y0 => k (.v (.bool y0)) []) := by kernel_rfl
theorem j3_ag (k kp : D → List Blk → Prop) : agPL cfg 3 (JJ k kp) (LL k kp) [1, 1] body = agPR cfg 3 (pick none' []) [1, 1] body (topK cfg Try.f74 k kp) := by kernel_rfl
theorem j3_raw (k kp : D → List Blk → Prop) (x2_0 : ByteArray) (x2_1 : (List Int)) (x3_0 : ByteArray) (x3_1 : (List Int)) : X3 k kp (m3 x2_0 x2_1 x3_0 x3_1) = j3 (fun x2_0 x2_1 x3_0 x3_1 x5 => XL4 k kp (mL4 x2_0 x2_1 x3_0 x3_1 x5)) x2_0 x2_1 x3_0 x3_1 (fun y0 => k (.v (.bool y0)) []) :=
  Eq.mp (by kernel_rfl) ((atP_run (j3_ag k kp) (m3 x2_0 x2_1 x3_0 x3_1)).trans (j3_c k kp (JJ k kp) (LL k kp) x2_0 x2_1 x3_0 x3_1))
theorem j3_eq (k kp : D → List Blk → Prop) (x2_0 : ByteArray) (x2_1 : (List Int)) (x3_0 : ByteArray) (x3_1 : (List Int)) : X3 k kp (m3 x2_0 x2_1 x3_0 x3_1) = j3' x2_0 x2_1 x3_0 x3_1 (fun y0 => k (.v (.bool y0)) []) := by
  rw [j3_raw]; simp only [l4_eq]; first | done | rfl
theorem j2000002_c (k kp : D → List Blk → Prop) (J L : Nat → St → Prop) (x2_0 : ByteArray) (x2_1 : (List Int)) (x3_0 : ByteArray) (x3_1 : (List Int)) (x19 : Bool) : runC cfg 2000002 J L (pick none' []) [1, 0, 1] body (topK cfg Try.f74 k kp) (m2000002 x2_0 x2_1 x3_0 x3_1 x19) = j2000002 (fun x2_0 x2_1 x3_0 x3_1 => J 3 (m3 x2_0 x2_1 x3_0 x3_1)) x2_0 x2_1 x3_0 x3_1 x19 (fun y0 => k (.v (.bool y0)) []) := by kernel_rfl
theorem j2000002_ag (k kp : D → List Blk → Prop) : agPL cfg 2000002 (JJ k kp) (LL k kp) [1, 0, 1] body = agPR cfg 2000002 (pick none' []) [1, 0, 1] body (topK cfg Try.f74 k kp) := by kernel_rfl
theorem j2000002_raw (k kp : D → List Blk → Prop) (x2_0 : ByteArray) (x2_1 : (List Int)) (x3_0 : ByteArray) (x3_1 : (List Int)) (x19 : Bool) : X2000002 k kp (m2000002 x2_0 x2_1 x3_0 x3_1 x19) = j2000002 (fun x2_0 x2_1 x3_0 x3_1 => X3 k kp (m3 x2_0 x2_1 x3_0 x3_1)) x2_0 x2_1 x3_0 x3_1 x19 (fun y0 => k (.v (.bool y0)) []) :=
  Eq.mp (by kernel_rfl) ((atP_run (j2000002_ag k kp) (m2000002 x2_0 x2_1 x3_0 x3_1 x19)).trans (j2000002_c k kp (JJ k kp) (LL k kp) x2_0 x2_1 x3_0 x3_1 x19))
theorem j2000002_eq (k kp : D → List Blk → Prop) (x2_0 : ByteArray) (x2_1 : (List Int)) (x3_0 : ByteArray) (x3_1 : (List Int)) (x19 : Bool) : X2000002 k kp (m2000002 x2_0 x2_1 x3_0 x3_1 x19) = j2000002' x2_0 x2_1 x3_0 x3_1 x19 (fun y0 => k (.v (.bool y0)) []) := by
  rw [j2000002_raw]; simp only [j3_eq]; first | done | rfl
theorem c_c (k kp : D → List Blk → Prop) (J L : Nat → St → Prop) (x0_0 : ByteArray) (x0_1 : (List Int)) (x1_0 : ByteArray) (x1_1 : (List Int)) : runC cfg 1000001 J L none'' [] body (topK cfg Try.f74 k kp) (st0 Try.f74 [(.agg [(.v (.string x0_0)), (.fz (Ty.int IntKind.i64) x0_1)]), (.agg [(.v (.string x1_0)), (.fz (Ty.int IntKind.i64) x1_1)])] []) = c (fun x2_0 x2_1 x3_0 x3_1 x19 => J 2000002 (m2000002 x2_0 x2_1 x3_0 x3_1 x19)) x0_0 x0_1 x1_0 x1_1 (fun y0 => k (.v (.bool y0)) []) := by kernel_rfl
theorem c_ag (k kp : D → List Blk → Prop) : agPL cfg 1000001 (JJ k kp) (LL k kp) [] body = agPR cfg 1000001 none'' [] body (topK cfg Try.f74 k kp) := by kernel_rfl
theorem body_is : Try.f74.body = some body := by kernel_rfl
theorem c_raw (k kp : D → List Blk → Prop) (x0_0 : ByteArray) (x0_1 : (List Int)) (x1_0 : ByteArray) (x1_1 : (List Int)) : funW cfg Try.f74 [(.agg [(.v (.string x0_0)), (.fz (Ty.int IntKind.i64) x0_1)]), (.agg [(.v (.string x1_0)), (.fz (Ty.int IntKind.i64) x1_1)])] [] k kp = c (fun x2_0 x2_1 x3_0 x3_1 x19 => X2000002 k kp (m2000002 x2_0 x2_1 x3_0 x3_1 x19)) x0_0 x0_1 x1_0 x1_1 (fun y0 => k (.v (.bool y0)) []) :=
  Eq.mp (by kernel_rfl) ((funW_run (AG := none'') body_is (c_ag k kp) [(.agg [(.v (.string x0_0)), (.fz (Ty.int IntKind.i64) x0_1)]), (.agg [(.v (.string x1_0)), (.fz (Ty.int IntKind.i64) x1_1)])] []).trans (c_c k kp (JJ k kp) (LL k kp) x0_0 x0_1 x1_0 x1_1))
theorem f_eq (k kp : D → List Blk → Prop) (x0_0 : ByteArray) (x0_1 : (List Int)) (x1_0 : ByteArray) (x1_1 : (List Int)) : funW cfg Try.f74 [(.agg [(.v (.string x0_0)), (.fz (Ty.int IntKind.i64) x0_1)]), (.agg [(.v (.string x1_0)), (.fz (Ty.int IntKind.i64) x1_1)])] [] k kp = f x0_0 x0_1 x1_0 x1_1 (fun y0 => k (.v (.bool y0)) []) := by
  rw [f_def, c_raw]; simp only [j2000002_eq]; first | done | rfl
noncomputable def ent0 : Entry := fun args blks k _ => match args, blks with
  | [d0, d1], [] => aAgg 2 d0 fun l => aCons l fun d0_0 l => aCons l fun d0_1 l => aNil l (aStr d0_0 fun x0_0 => aFz (Ty.int IntKind.i64) d0_1 fun x0_1 => aAgg 2 d1 fun l => aCons l fun d1_0 l => aCons l fun d1_1 l => aNil l (aStr d1_0 fun x1_0 => aFz (Ty.int IntKind.i64) d1_1 fun x1_1 => f x0_0 x0_1 x1_0 x1_1 (fun y0 => k (.v (.bool y0)) [])))
  | _, _ => False
noncomputable def ent : Entry := fun args blks k kp => ent0 (convB [.cells [none, some (Ty.int IntKind.i64)], .cells [none, some (Ty.int IntKind.i64)]] args) blks k kp
theorem ok : EntOk Try.prog 0 0 74 ent := by
  refine EntOk.convB (EntOk.of (funW_ok (cfg := cfg) (tyOk_of rfl rfl tyL_ok) (eqOk_of (P := Try.prog) rfl rfl (by kernel_rfl)) mixed_ok (tab_ok ?_) Try.func74 (by rfl) (by rfl)) ?_) _
  · intro p hp
    cases hp
  · intro args blks k kp h k' kp'
    match args, blks, h with
    | [d0, d1], [], h =>
    dsimp only [ent0] at h
    have h9 := aAgg_elim h; clear h; obtain ⟨_, rfl, h⟩ := h9
    have h9 := aCons_elim h; clear h; obtain ⟨d0_0, _, rfl, h⟩ := h9
    have h9 := aCons_elim h; clear h; obtain ⟨d0_1, _, rfl, h⟩ := h9
    have h9 := aNil_elim h; clear h; obtain ⟨rfl, h⟩ := h9
    have h9 := aStr_elim h; clear h; obtain ⟨x0_0, rfl, h⟩ := h9
    have h9 := aFz_elim (t := (Ty.int IntKind.i64)) h; clear h; obtain ⟨x0_1, rfl, h⟩ := h9
    have h9 := aAgg_elim h; clear h; obtain ⟨_, rfl, h⟩ := h9
    have h9 := aCons_elim h; clear h; obtain ⟨d1_0, _, rfl, h⟩ := h9
    have h9 := aCons_elim h; clear h; obtain ⟨d1_1, _, rfl, h⟩ := h9
    have h9 := aNil_elim h; clear h; obtain ⟨rfl, h⟩ := h9
    have h9 := aStr_elim h; clear h; obtain ⟨x1_0, rfl, h⟩ := h9
    have h9 := aFz_elim (t := (Ty.int IntKind.i64)) h; clear h; obtain ⟨x1_1, rfl, h⟩ := h9
    exact (f_eq k' kp' x0_0 x0_1 x1_0 x1_1).symm
end N74
end Go.Proofs.Yu
namespace Go.Proofs.Yu
open Go Go.Aw Go.Proofs
set_option linter.unusedVariables false
set_option linter.unusedSimpArgs false
set_option maxRecDepth 100000
/-! dyehouse/dyehouseref35.Parts -/
namespace N39
noncomputable def cfg : Cfg := { P := Try.prog, ty := tys, E := tab [(74, N74.ent)], atSeq := tab [(4, ⟨[(2, .keep), (3, .keep), (5, .keep)]⟩), (6, ⟨[]⟩), (2000005, ⟨[(2, .keep), (3, .keep), (5, .keep), (45, .keep)]⟩), (3, ⟨[(2, .keep), (3, .keep), (5, .keep)]⟩)], atLoop := tab [(2, ⟨[(2, .keep), (3, .keep), (5, .keep)]⟩)], outs := [], eqT := tab [], bT := tab [], fzB := [2, 3] }
noncomputable def body : Code := bodyOf Try.f39
def l2 (j4 : (List (ByteArray × (List Int))) → Int → Int → (List Int) → Int → (List (ByteArray × (List Int))) → Int → Int → (List Int) → Int → Int → Prop) (j6 : Prop) (x2_0 : (List (ByteArray × (List Int)))) (x2_1 : Int) (x2_2 : Int) (x2_3 : (List Int)) (x2_4 : Int) (x3_0 : (List (ByteArray × (List Int)))) (x3_1 : Int) (x3_2 : Int) (x3_3 : (List Int)) (x3_4 : Int) (x5 : Int) (k : Int → Prop) : Prop :=
  (br (decide (x5 < ((((x2_0).length : Nat) : Int)))) (j4 x2_0 x2_1 x2_2 x2_3 x2_4 x3_0 x3_1 x3_2 x3_3 x3_4 x5) (br (decide (x5 < ((((x3_0).length : Nat) : Int)))) (j4 x2_0 x2_1 x2_2 x2_3 x2_4 x3_0 x3_1 x3_2 x3_3 x3_4 x5) (j6)))
def j4 (j2000005 : (List (ByteArray × (List Int))) → Int → Int → (List Int) → Int → (List (ByteArray × (List Int))) → Int → Int → (List Int) → Int → Int → Bool → Prop) (x2_0 : (List (ByteArray × (List Int)))) (x2_1 : Int) (x2_2 : Int) (x2_3 : (List Int)) (x2_4 : Int) (x3_0 : (List (ByteArray × (List Int)))) (x3_1 : Int) (x3_2 : Int) (x3_3 : (List Int)) (x3_4 : Int) (x5 : Int) (k : Int → Prop) : Prop :=
  (br (decide (x5 ≥ ((((x2_0).length : Nat) : Int)))) (j2000005 x2_0 x2_1 x2_2 x2_3 x2_4 x3_0 x3_1 x3_2 x3_3 x3_4 x5 true) (br (decide (x5 ≥ ((((x3_0).length : Nat) : Int)))) (j2000005 x2_0 x2_1 x2_2 x2_3 x2_4 x3_0 x3_1 x3_2 x3_3 x3_4 x5 true) ((inB 0 x5 ((((x2_0).length : Nat) : Int) - 1)) ∧ ((inB 0 x5 ((((x3_0).length : Nat) : Int) - 1)) ∧ (N74.f (x2_0.getD (Int.toNat x5) ((ByteArray.empty, ([] : List Int)))).1 (x2_0.getD (Int.toNat x5) ((ByteArray.empty, ([] : List Int)))).2 (x3_0.getD (Int.toNat x5) ((ByteArray.empty, ([] : List Int)))).1 (x3_0.getD (Int.toNat x5) ((ByteArray.empty, ([] : List Int)))).2 (fun (y0_0 : Bool) => (j2000005 x2_0 x2_1 x2_2 x2_3 x2_4 x3_0 x3_1 x3_2 x3_3 x3_4 x5 (!y0_0))))))))
def j6 (k : Int → Prop) : Prop :=
  (k (-1 : Int))
def j2000005 (j3 : (List (ByteArray × (List Int))) → Int → Int → (List Int) → Int → (List (ByteArray × (List Int))) → Int → Int → (List Int) → Int → Int → Prop) (x2_0 : (List (ByteArray × (List Int)))) (x2_1 : Int) (x2_2 : Int) (x2_3 : (List Int)) (x2_4 : Int) (x3_0 : (List (ByteArray × (List Int)))) (x3_1 : Int) (x3_2 : Int) (x3_3 : (List Int)) (x3_4 : Int) (x5 : Int) (x45 : Bool) (k : Int → Prop) : Prop :=
  (br x45 (k x5) (j3 x2_0 x2_1 x2_2 x2_3 x2_4 x3_0 x3_1 x3_2 x3_3 x3_4 x5))
def j3 (ag2 : Int → Prop) (x2_0 : (List (ByteArray × (List Int)))) (x2_1 : Int) (x2_2 : Int) (x2_3 : (List Int)) (x2_4 : Int) (x3_0 : (List (ByteArray × (List Int)))) (x3_1 : Int) (x3_2 : Int) (x3_3 : (List Int)) (x3_4 : Int) (x5 : Int) (k : Int → Prop) : Prop :=
  (ag2 (IntKind.i64.wrap (x5 + (1 : Int))))
def c (l2 : (List (ByteArray × (List Int))) → Int → Int → (List Int) → Int → (List (ByteArray × (List Int))) → Int → Int → (List Int) → Int → Int → Prop) (x0_0 : (List (ByteArray × (List Int)))) (x0_1 : Int) (x0_2 : Int) (x0_3 : (List Int)) (x0_4 : Int) (x1_0 : (List (ByteArray × (List Int)))) (x1_1 : Int) (x1_2 : Int) (x1_3 : (List Int)) (x1_4 : Int) (k : Int → Prop) : Prop :=
  (l2 x0_0 x0_1 x0_2 x0_3 x0_4 x1_0 x1_1 x1_2 x1_3 x1_4 (0 : Int))
def j6' (k : Int → Prop) : Prop := j6 k
def j3' (ag2 : Int → Prop) (x2_0 : (List (ByteArray × (List Int)))) (x2_1 : Int) (x2_2 : Int) (x2_3 : (List Int)) (x2_4 : Int) (x3_0 : (List (ByteArray × (List Int)))) (x3_1 : Int) (x3_2 : Int) (x3_3 : (List Int)) (x3_4 : Int) (x5 : Int) (k : Int → Prop) : Prop := j3 ag2 x2_0 x2_1 x2_2 x2_3 x2_4 x3_0 x3_1 x3_2 x3_3 x3_4 x5 k
def j2000005' (ag2 : Int → Prop) (x2_0 : (List (ByteArray × (List Int)))) (x2_1 : Int) (x2_2 : Int) (x2_3 : (List Int)) (x2_4 : Int) (x3_0 : (List (ByteArray × (List Int)))) (x3_1 : Int) (x3_2 : Int) (x3_3 : (List Int)) (x3_4 : Int) (x5 : Int) (x45 : Bool) (k : Int → Prop) : Prop := j2000005 (fun x2_0 x2_1 x2_2 x2_3 x2_4 x3_0 x3_1 x3_2 x3_3 x3_4 x5 => j3' ag2 x2_0 x2_1 x2_2 x2_3 x2_4 x3_0 x3_1 x3_2 x3_3 x3_4 x5 k) x2_0 x2_1 x2_2 x2_3 x2_4 x3_0 x3_1 x3_2 x3_3 x3_4 x5 x45 k
def j4' (ag2 : Int → Prop) (x2_0 : (List (ByteArray × (List Int)))) (x2_1 : Int) (x2_2 : Int) (x2_3 : (List Int)) (x2_4 : Int) (x3_0 : (List (ByteArray × (List Int)))) (x3_1 : Int) (x3_2 : Int) (x3_3 : (List Int)) (x3_4 : Int) (x5 : Int) (k : Int → Prop) : Prop := j4 (fun x2_0 x2_1 x2_2 x2_3 x2_4 x3_0 x3_1 x3_2 x3_3 x3_4 x5 x45 => j2000005' ag2 x2_0 x2_1 x2_2 x2_3 x2_4 x3_0 x3_1 x3_2 x3_3 x3_4 x5 x45 k) x2_0 x2_1 x2_2 x2_3 x2_4 x3_0 x3_1 x3_2 x3_3 x3_4 x5 k
def l2' (x2_0 : (List (ByteArray × (List Int)))) (x2_1 : Int) (x2_2 : Int) (x2_3 : (List Int)) (x2_4 : Int) (x3_0 : (List (ByteArray × (List Int)))) (x3_1 : Int) (x3_2 : Int) (x3_3 : (List Int)) (x3_4 : Int) (x5 : Int) (k : Int → Prop) : Prop := ∃ n, loopS (fun (ag : (Int) → Prop) (s : Int) => l2 (fun x2_0 x2_1 x2_2 x2_3 x2_4 x3_0 x3_1 x3_2 x3_3 x3_4 x5 => j4' (fun x5 => ag (x5)) x2_0 x2_1 x2_2 x2_3 x2_4 x3_0 x3_1 x3_2 x3_3 x3_4 x5 k) (j6' k) x2_0 x2_1 x2_2 x2_3 x2_4 x3_0 x3_1 x3_2 x3_3 x3_4 s k) n (x5)
def f0 (x0_0 : (List (ByteArray × (List Int)))) (x0_1 : Int) (x0_2 : Int) (x0_3 : (List Int)) (x0_4 : Int) (x1_0 : (List (ByteArray × (List Int)))) (x1_1 : Int) (x1_2 : Int) (x1_3 : (List Int)) (x1_4 : Int) (k : Int → Prop) : Prop := c (fun x2_0 x2_1 x2_2 x2_3 x2_4 x3_0 x3_1 x3_2 x3_3 x3_4 x5 => l2' x2_0 x2_1 x2_2 x2_3 x2_4 x3_0 x3_1 x3_2 x3_3 x3_4 x5 k) x0_0 x0_1 x0_2 x0_3 x0_4 x1_0 x1_1 x1_2 x1_3 x1_4 k
theorem f_ex : ∃ g : (List (ByteArray × (List Int))) → Int → Int → (List Int) → Int → (List (ByteArray × (List Int))) → Int → Int → (List Int) → Int → (Int → Prop) → Prop, g = f0 := ⟨_, rfl⟩
noncomputable def f : (List (ByteArray × (List Int))) → Int → Int → (List Int) → Int → (List (ByteArray × (List Int))) → Int → Int → (List Int) → Int → (Int → Prop) → Prop := Classical.choose f_ex
theorem f_def : f = f0 := Classical.choose_spec f_ex
def mL2 (x2_0 : (List (ByteArray × (List Int)))) (x2_1 : Int) (x2_2 : Int) (x2_3 : (List Int)) (x2_4 : Int) (x3_0 : (List (ByteArray × (List Int)))) (x3_1 : Int) (x3_2 : Int) (x3_3 : (List Int)) (x3_4 : Int) (x5 : Int) : St := { tmps := mkT 47 0 [(2, (.fp [(.fz (Ty.pair Ty.str (Ty.list (Ty.int IntKind.i64))) x2_0), (.v (.int IntKind.i64 x2_1)), (.v (.int IntKind.i64 x2_2)), (.fz (Ty.int IntKind.i64) x2_3), (.v (.int IntKind.i64 x2_4))])), (3, (.fp [(.fz (Ty.pair Ty.str (Ty.list (Ty.int IntKind.i64))) x3_0), (.v (.int IntKind.i64 x3_1)), (.v (.int IntKind.i64 x3_2)), (.fz (Ty.int IntKind.i64) x3_3), (.v (.int IntKind.i64 x3_4))])), (5, (.v (.int IntKind.i64 x5)))], hp := [], m := 0 }
def m4 (x2_0 : (List (ByteArray × (List Int)))) (x2_1 : Int) (x2_2 : Int) (x2_3 : (List Int)) (x2_4 : Int) (x3_0 : (List (ByteArray × (List Int)))) (x3_1 : Int) (x3_2 : Int) (x3_3 : (List Int)) (x3_4 : Int) (x5 : Int) : St := { tmps := mkT 47 0 [(2, (.fp [(.fz (Ty.pair Ty.str (Ty.list (Ty.int IntKind.i64))) x2_0), (.v (.int IntKind.i64 x2_1)), (.v (.int IntKind.i64 x2_2)), (.fz (Ty.int IntKind.i64) x2_3), (.v (.int IntKind.i64 x2_4))])), (3, (.fp [(.fz (Ty.pair Ty.str (Ty.list (Ty.int IntKind.i64))) x3_0), (.v (.int IntKind.i64 x3_1)), (.v (.int IntKind.i64 x3_2)), (.fz (Ty.int IntKind.i64) x3_3), (.v (.int IntKind.i64 x3_4))])), (5, (.v (.int IntKind.i64 x5)))], hp := [], m := 0 }
def m6 : St := { tmps := mkT 47 0 [], hp := [], m := 0 }
def m2000005 (x2_0 : (List (ByteArray × (List Int)))) (x2_1 : Int) (x2_2 : Int) (x2_3 : (List Int)) (x2_4 : Int) (x3_0 : (List (ByteArray × (List Int)))) (x3_1 : Int) (x3_2 : Int) (x3_3 : (List Int)) (x3_4 : Int) (x5 : Int) (x45 : Bool) : St := { tmps := mkT 47 0 [(2, (.fp [(.fz (Ty.pair Ty.str (Ty.list (Ty.int IntKind.i64))) x2_0), (.v (.int IntKind.i64 x2_1)), (.v (.int IntKind.i64 x2_2)), (.fz (Ty.int IntKind.i64) x2_3), (.v (.int IntKind.i64 x2_4))])), (3, (.fp [(.fz (Ty.pair Ty.str (Ty.list (Ty.int IntKind.i64))) x3_0), (.v (.int IntKind.i64 x3_1)), (.v (.int IntKind.i64 x3_2)), (.fz (Ty.int IntKind.i64) x3_3), (.v (.int IntKind.i64 x3_4))])), (5, (.v (.int IntKind.i64 x5))), (45, (.v (.bool x45)))], hp := [], m := 0 }
def m3 (x2_0 : (List (ByteArray × (List Int)))) (x2_1 : Int) (x2_2 : Int) (x2_3 : (List Int)) (x2_4 : Int) (x3_0 : (List (ByteArray × (List Int)))) (x3_1 : Int) (x3_2 : Int) (x3_3 : (List Int)) (x3_4 : Int) (x5 : Int) : St := { tmps := mkT 47 0 [(2, (.fp [(.fz (Ty.pair Ty.str (Ty.list (Ty.int IntKind.i64))) x2_0), (.v (.int IntKind.i64 x2_1)), (.v (.int IntKind.i64 x2_2)), (.fz (Ty.int IntKind.i64) x2_3), (.v (.int IntKind.i64 x2_4))])), (3, (.fp [(.fz (Ty.pair Ty.str (Ty.list (Ty.int IntKind.i64))) x3_0), (.v (.int IntKind.i64 x3_1)), (.v (.int IntKind.i64 x3_2)), (.fz (Ty.int IntKind.i64) x3_3), (.v (.int IntKind.i64 x3_4))])), (5, (.v (.int IntKind.i64 x5)))], hp := [], m := 0 }
noncomputable def YL2 (k kp : D → List Blk → Prop) : (St → Prop) → St → Prop := loopB cfg (sub [1, 0, 1, 0, 0] body) (contK cfg (pick none' []) [1, 0, 1, 0] body (topK cfg Try.f39 k kp))
noncomputable def XL2 (k kp : D → List Blk → Prop) : St → Prop := fun st => ∃ n, loopN (YL2 k kp) n st
noncomputable def X4 (k kp : D → List Blk → Prop) (ag2 : St → Prop) : St → Prop := atP cfg (pick none' [(2, ag2)]) [1, 0, 1, 0, 0, 1] body (topK cfg Try.f39 k kp)
noncomputable def X6 (k kp : D → List Blk → Prop) : St → Prop := atP cfg (pick none' []) [1, 1] body (topK cfg Try.f39 k kp)
noncomputable def X2000005 (k kp : D → List Blk → Prop) (ag2 : St → Prop) : St → Prop := atP cfg (pick none' [(2, ag2)]) [1, 0, 1, 0, 0, 1, 0, 0, 1] body (topK cfg Try.f39 k kp)
noncomputable def X3 (k kp : D → List Blk → Prop) (ag2 : St → Prop) : St → Prop := atP cfg (pick none' [(2, ag2)]) [1, 0, 1, 0, 0, 1, 1] body (topK cfg Try.f39 k kp)
noncomputable def JJ_2 (k kp : D → List Blk → Prop) (ag2 : St → Prop) : Nat → St → Prop := pick none' [(4, X4 k kp ag2), (6, X6 k kp), (2000005, X2000005 k kp ag2), (3, X3 k kp ag2)]
noncomputable def LL_2 (k kp : D → List Blk → Prop) (ag2 : St → Prop) : Nat → St → Prop := pick none' [(2, XL2 k kp)]
noncomputable def JJ (k kp : D → List Blk → Prop) : Nat → St → Prop := pick none' [(6, X6 k kp)]
noncomputable def LL (k kp : D → List Blk → Prop) : Nat → St → Prop := pick none' [(2, XL2 k kp)]
theorem j6_c (k kp : D → List Blk → Prop) (J L : Nat → St → Prop) : runC cfg 6 J L (pick none' []) [1, 1] body (topK cfg Try.f39 k kp) (m6) = j6 (fun y0 => k (.v (.int IntKind.i64 y0)) []) := by kernel_rfl
theorem j6_ag (k kp : D → List Blk → Prop) : agPL cfg 6 (JJ k kp) (LL k kp) [1, 1] body = agPR cfg 6 (pick none' []) [1, 1] body (topK cfg Try.f39 k kp) := by kernel_rfl
theorem j6_raw (k kp : D → List Blk → Prop) : X6 k kp (m6) = j6 (fun y0 => k (.v (.int IntKind.i64 y0)) []) :=
  Eq.mp (by kernel_rfl) ((atP_run (j6_ag k kp) (m6)).trans (j6_c k kp (JJ k kp) (LL k kp)))
theorem j6_eq (k kp : D → List Blk → Prop) : X6 k kp (m6) = j6' (fun y0 => k (.v (.int IntKind.i64 y0)) []) := by
  rw [j6_raw]; rfl
theorem j3_c (k kp : D → List Blk → Prop) (J L : Nat → St → Prop) (ag2 : St → Prop) (x2_0 : (List (ByteArray × (List Int)))) (x2_1 : Int) (x2_2 : Int) (x2_3 : (List Int)) (x2_4 : Int) (x3_0 : (List (ByteArray × (List Int)))) (x3_1 : Int) (x3_2 : Int) (x3_3 : (List Int)) (x3_4 : Int) (x5 : Int) : runC cfg 3 J L (pick none' [(2, ag2)]) [1, 0, 1, 0, 0, 1, 1] body (topK cfg Try.f39 k kp) (m3 x2_0 x2_1 x2_2 x2_3 x2_4 x3_0 x3_1 x3_2 x3_3 x3_4 x5) = j3 (fun x5 => ag2 (mL2 x2_0 x2_1 x2_2 x2_3 x2_4 x3_0 x3_1 x3_2 x3_3 x3_4 x5)) x2_0 x2_1 x2_2 x2_3 x2_4 x3_0 x3_1 x3_2 x3_3 x3_4 x5 (fun y0 => k (.v (.int IntKind.i64 y0)) []) := by kernel_rfl
theorem j3_ag (k kp : D → List Blk → Prop) (ag2 : St → Prop) : agPL cfg 3 (JJ_2 k kp ag2) (LL_2 k kp ag2) [1, 0, 1, 0, 0, 1, 1] body = agPR cfg 3 (pick none' [(2, ag2)]) [1, 0, 1, 0, 0, 1, 1] body (topK cfg Try.f39 k kp) := by kernel_rfl
theorem j3_raw (k kp : D → List Blk → Prop) (ag2 : St → Prop) (x2_0 : (List (ByteArray × (List Int)))) (x2_1 : Int) (x2_2 : Int) (x2_3 : (List Int)) (x2_4 : Int) (x3_0 : (List (ByteArray × (List Int)))) (x3_1 : Int) (x3_2 : Int) (x3_3 : (List Int)) (x3_4 : Int) (x5 : Int) : X3 k kp ag2 (m3 x2_0 x2_1 x2_2 x2_3 x2_4 x3_0 x3_1 x3_2 x3_3 x3_4 x5) = j3 (fun x5 => ag2 (mL2 x2_0 x2_1 x2_2 x2_3 x2_4 x3_0 x3_1 x3_2 x3_3 x3_4 x5)) x2_0 x2_1 x2_2 x2_3 x2_4 x3_0 x3_1 x3_2 x3_3 x3_4 x5 (fun y0 => k (.v (.int IntKind.i64 y0)) []) :=
  Eq.mp (by kernel_rfl) ((atP_run (j3_ag k kp ag2) (m3 x2_0 x2_1 x2_2 x2_3 x2_4 x3_0 x3_1 x3_2 x3_3 x3_4 x5)).trans (j3_c k kp (JJ_2 k kp ag2) (LL_2 k kp ag2) ag2 x2_0 x2_1 x2_2 x2_3 x2_4 x3_0 x3_1 x3_2 x3_3 x3_4 x5))
theorem j3_eq (k kp : D → List Blk → Prop) (ag2 : St → Prop) (x2_0 : (List (ByteArray × (List Int)))) (x2_1 : Int) (x2_2 : Int) (x2_3 : (List Int)) (x2_4 : Int) (x3_0 : (List (ByteArray × (List Int)))) (x3_1 : Int) (x3_2 : Int) (x3_3 : (List Int)) (x3_4 : Int) (x5 : Int) : X3 k kp ag2 (m3 x2_0 x2_1 x2_2 x2_3 x2_4 x3_0 x3_1 x3_2 x3_3 x3_4 x5) = j3' (fun x5 => ag2 (mL2 x2_0 x2_1 x2_2 x2_3 x2_4 x3_0 x3_1 x3_2 x3_3 x3_4 x5)) x2_0 x2_1 x2_2 x2_3 x2_4 x3_0 x3_1 x3_2 x3_3 x3_4 x5 (fun y0 => k (.v (.int IntKind.i64 y0)) []) := by
  rw [j3_raw]; rfl
theorem j2000005_c (k kp : D → List Blk → Prop) (J L : Nat → St → Prop) (ag2 : St → Prop) (x2_0 : (List (ByteArray × (List Int)))) (x2_1 : Int) (x2_2 : Int) (x2_3 : (List Int)) (x2_4 : Int) (x3_0 : (List (ByteArray × (List Int)))) (x3_1 : Int) (x3_2 : Int) (x3_3 : (List Int)) (x3_4 : Int) (x5 : Int) (x45 : Bool) : runC cfg 2000005 J L (pick none' [(2, ag2)]) [1, 0, 1, 0, 0, 1, 0, 0, 1] body (topK cfg Try.f39 k kp) (m2000005 x2_0 x2_1 x2_2 x2_3 x2_4 x3_0 x3_1 x3_2 x3_3 x3_4 x5 x45) = j2000005 (fun x2_0 x2_1 x2_2 x2_3 x2_4 x3_0 x3_1 x3_2 x3_3 x3_4 x5 => J 3 (m3 x2_0 x2_1 x2_2 x2_3 x2_4 x3_0 x3_1 x3_2 x3_3 x3_4 x5)) x2_0 x2_1 x2_2 x2_3 x2_4 x3_0 x3_1 x3_2 x3_3 x3_4 x5 x45 (fun y0 => k (.v (.int IntKind.i64 y0)) []) := by kernel_rfl
theorem j2000005_ag (k kp : D → List Blk → Prop) (ag2 : St → Prop) : agPL cfg 2000005 (JJ_2 k kp ag2) (LL_2 k kp ag2) [1, 0, 1, 0, 0, 1, 0, 0, 1] body = agPR cfg 2000005 (pick none' [(2, ag2)]) [1, 0, 1, 0, 0, 1, 0, 0, 1] body (topK cfg Try.f39 k kp) := by kernel_rfl
theorem j2000005_raw (k kp : D → List Blk → Prop) (ag2 : St → Prop) (x2_0 : (List (ByteArray × (List Int)))) (x2_1 : Int) (x2_2 : Int) (x2_3 : (List Int)) (x2_4 : Int) (x3_0 : (List (ByteArray × (List Int)))) (x3_1 : Int) (x3_2 : Int) (x3_3 : (List Int)) (x3_4 : Int) (x5 : Int) (x45 : Bool) : X2000005 k kp ag2 (m2000005 x2_0 x2_1 x2_2 x2_3 x2_4 x3_0 x3_1 x3_2 x3_3 x3_4 x5 x45) = j2000005 (fun x2_0 x2_1 x2_2 x2_3 x2_4 x3_0 x3_1 x3_2 x3_3 x3_4 x5 => X3 k kp ag2 (m3 x2_0 x2_1 x2_2 x2_3 x2_4 x3_0 x3_1 x3_2 x3_3 x3_4 x5)) x2_0 x2_1 x2_2 x2_3 x2_4 x3_0 x3_1 x3_2 x3_3 x3_4 x5 x45 (fun y0 => k (.v (.int IntKind.i64 y0)) []) :=
  Eq.mp (by kernel_rfl) ((atP_run (j2000005_ag k kp ag2) (m2000005 x2_0 x2_1 x2_2 x2_3 x2_4 x3_0 x3_1 x3_2 x3_3 x3_4 x5 x45)).trans (j2000005_c k kp (JJ_2 k kp ag2) (LL_2 k kp ag2) ag2 x2_0 x2_1 x2_2 x2_3 x2_4 x3_0 x3_1 x3_2 x3_3 x3_4 x5 x45))
theorem j2000005_eq (k kp : D → List Blk → Prop) (ag2 : St → Prop) (x2_0 : (List (ByteArray × (List Int)))) (x2_1 : Int) (x2_2 : Int) (x2_3 : (List Int)) (x2_4 : Int) (x3_0 : (List (ByteArray × (List Int)))) (x3_1 : Int) (x3_2 : Int) (x3_3 : (List Int)) (x3_4 : Int) (x5 : Int) (x45 : Bool) : X2000005 k kp ag2 (m2000005 x2_0 x2_1 x2_2 x2_3 x2_4 x3_0 x3_1 x3_2 x3_3 x3_4 x5 x45) = j2000005' (fun x5 => ag2 (mL2 x2_0 x2_1 x2_2 x2_3 x2_4 x3_0 x3_1 x3_2 x3_3 x3_4 x5)) x2_0 x2_1 x2_2 x2_3 x2_4 x3_0 x3_1 x3_2 x3_3 x3_4 x5 x45 (fun y0 => k (.v (.int IntKind.i64 y0)) []) := by
  rw [j2000005_raw]; simp only [j3_eq]; first | done | rfl
theorem j4_c (k kp : D → List Blk → Prop) (J L : Nat → St → Prop) (ag2 : St → Prop) (x2_0 : (List (ByteArray × (List Int)))) (x2_1 : Int) (x2_2 : Int) (x2_3 : (List Int)) (x2_4 : Int) (x3_0 : (List (ByteArray × (List Int)))) (x3_1 : Int) (x3_2 : Int) (x3_3 : (List Int)) (x3_4 : Int) (x5 : Int) : runC cfg 4 J L (pick none' [(2, ag2)]) [1, 0, 1, 0, 0, 1] body (topK cfg Try.f39 k kp) (m4 x2_0 x2_1 x2_2 x2_3 x2_4 x3_0 x3_1 x3_2 x3_3 x3_4 x5) = j4 (fun x2_0 x2_1 x2_2 x2_3 x2_4 x3_0 x3_1 x3_2 x3_3 x3_4 x5 x45 => J 2000005 (m2000005 x2_0 x2_1 x2_2 x2_3 x2_4 x3_0 x3_1 x3_2 x3_3 x3_4 x5 x45)) x2_0 x2_1 x2_2 x2_3 x2_4 x3_0 x3_1 x3_2 x3_3 x3_4 x5 (fun y0 => k (.v (.int IntKind.i64 y0)) []) := by kernel_rfl
theorem j4_ag (k kp : D → List Blk → Prop) (ag2 : St → Prop) : agPL cfg 4 (JJ_2 k kp ag2) (LL_2 k kp ag2) [1, 0, 1, 0, 0, 1] body = agPR cfg 4 (pick none' [(2, ag2)]) [1, 0, 1, 0, 0, 1] body (topK cfg Try.f39 k kp) := by kernel_rfl
theorem j4_raw (k kp : D → List Blk → Prop) (ag2 : St → Prop) (x2_0 : (List (ByteArray × (List Int)))) (x2_1 : Int) (x2_2 : Int) (x2_3 : (List Int)) (x2_4 : Int) (x3_0 : (List (ByteArray × (List Int)))) (x3_1 : Int) (x3_2 : Int) (x3_3 : (List Int)) (x3_4 : Int) (x5 : Int) : X4 k kp ag2 (m4 x2_0 x2_1 x2_2 x2_3 x2_4 x3_0 x3_1 x3_2 x3_3 x3_4 x5) = j4 (fun x2_0 x2_1 x2_2 x2_3 x2_4 x3_0 x3_1 x3_2 x3_3 x3_4 x5 x45 => X2000005 k kp ag2 (m2000005 x2_0 x2_1 x2_2 x2_3 x2_4 x3_0 x3_1 x3_2 x3_3 x3_4 x5 x45)) x2_0 x2_1 x2_2 x2_3 x2_4 x3_0 x3_1 x3_2 x3_3 x3_4 x5 (fun y0 => k (.v (.int IntKind.i64 y0)) []) :=
  Eq.mp (by kernel_rfl) ((atP_run (j4_ag k kp ag2) (m4 x2_0 x2_1 x2_2 x2_3 x2_4 x3_0 x3_1 x3_2 x3_3 x3_4 x5)).trans (j4_c k kp (JJ_2 k kp ag2) (LL_2 k kp ag2) ag2 x2_0 x2_1 x2_2 x2_3 x2_4 x3_0 x3_1 x3_2 x3_3 x3_4 x5))
theorem j4_eq (k kp : D → List Blk → Prop) (ag2 : St → Prop) (x2_0 : (List (ByteArray × (List Int)))) (x2_1 : Int) (x2_2 : Int) (x2_3 : (List Int)) (x2_4 : Int) (x3_0 : (List (ByteArray × (List Int)))) (x3_1 : Int) (x3_2 : Int) (x3_3 : (List Int)) (x3_4 : Int) (x5 : Int) : X4 k kp ag2 (m4 x2_0 x2_1 x2_2 x2_3 x2_4 x3_0 x3_1 x3_2 x3_3 x3_4 x5) = j4' (fun x5 => ag2 (mL2 x2_0 x2_1 x2_2 x2_3 x2_4 x3_0 x3_1 x3_2 x3_3 x3_4 x5)) x2_0 x2_1 x2_2 x2_3 x2_4 x3_0 x3_1 x3_2 x3_3 x3_4 x5 (fun y0 => k (.v (.int IntKind.i64 y0)) []) := by
  rw [j4_raw]; simp only [j2000005_eq]; first | done | rfl
theorem l2_c (k kp : D → List Blk → Prop) (J L : Nat → St → Prop) (ag2 : St → Prop) (x2_0 : (List (ByteArray × (List Int)))) (x2_1 : Int) (x2_2 : Int) (x2_3 : (List Int)) (x2_4 : Int) (x3_0 : (List (ByteArray × (List Int)))) (x3_1 : Int) (x3_2 : Int) (x3_3 : (List Int)) (x3_4 : Int) (x5 : Int) : runC cfg 1000001 J L (pick none' [(2, ag2)]) [1, 0, 1, 0, 0] body (topK cfg Try.f39 k kp) (mL2 x2_0 x2_1 x2_2 x2_3 x2_4 x3_0 x3_1 x3_2 x3_3 x3_4 x5) = l2 (fun x2_0 x2_1 x2_2 x2_3 x2_4 x3_0 x3_1 x3_2 x3_3 x3_4 x5 => J 4 (m4 x2_0 x2_1 x2_2 x2_3 x2_4 x3_0 x3_1 x3_2 x3_3 x3_4 x5)) (J 6 (m6)) x2_0 x2_1 x2_2 x2_3 x2_4 x3_0 x3_1 x3_2 x3_3 x3_4 x5 (fun y0 => k (.v (.int IntKind.i64 y0)) []) := by kernel_rfl
theorem l2_ag (k kp : D → List Blk → Prop) (ag2 : St → Prop) : agPL cfg 1000001 (JJ_2 k kp ag2) (LL_2 k kp ag2) [1, 0, 1, 0, 0] body = agPR cfg 1000001 (pick none' [(2, ag2)]) [1, 0, 1, 0, 0] body (topK cfg Try.f39 k kp) := by kernel_rfl
theorem l2_raw (k kp : D → List Blk → Prop) (ag2 : St → Prop) (x2_0 : (List (ByteArray × (List Int)))) (x2_1 : Int) (x2_2 : Int) (x2_3 : (List Int)) (x2_4 : Int) (x3_0 : (List (ByteArray × (List Int)))) (x3_1 : Int) (x3_2 : Int) (x3_3 : (List Int)) (x3_4 : Int) (x5 : Int) : YL2 k kp ag2 (mL2 x2_0 x2_1 x2_2 x2_3 x2_4 x3_0 x3_1 x3_2 x3_3 x3_4 x5) = l2 (fun x2_0 x2_1 x2_2 x2_3 x2_4 x3_0 x3_1 x3_2 x3_3 x3_4 x5 => X4 k kp ag2 (m4 x2_0 x2_1 x2_2 x2_3 x2_4 x3_0 x3_1 x3_2 x3_3 x3_4 x5)) (X6 k kp (m6)) x2_0 x2_1 x2_2 x2_3 x2_4 x3_0 x3_1 x3_2 x3_3 x3_4 x5 (fun y0 => k (.v (.int IntKind.i64 y0)) []) :=
  Eq.mp (by kernel_rfl) ((atP_run (l2_ag k kp ag2) (mL2 x2_0 x2_1 x2_2 x2_3 x2_4 x3_0 x3_1 x3_2 x3_3 x3_4 x5)).trans (l2_c k kp (JJ_2 k kp ag2) (LL_2 k kp ag2) ag2 x2_0 x2_1 x2_2 x2_3 x2_4 x3_0 x3_1 x3_2 x3_3 x3_4 x5))
theorem l2_eq (k kp : D → List Blk → Prop) (x2_0 : (List (ByteArray × (List Int)))) (x2_1 : Int) (x2_2 : Int) (x2_3 : (List Int)) (x2_4 : Int) (x3_0 : (List (ByteArray × (List Int)))) (x3_1 : Int) (x3_2 : Int) (x3_3 : (List Int)) (x3_4 : Int) (x5 : Int) : XL2 k kp (mL2 x2_0 x2_1 x2_2 x2_3 x2_4 x3_0 x3_1 x3_2 x3_3 x3_4 x5) = l2' x2_0 x2_1 x2_2 x2_3 x2_4 x3_0 x3_1 x3_2 x3_3 x3_4 x5 (fun y0 => k (.v (.int IntKind.i64 y0)) []) :=
  loop_eq (mk := fun (s : Int) => mL2 x2_0 x2_1 x2_2 x2_3 x2_4 x3_0 x3_1 x3_2 x3_3 x3_4 s) (fun again s => by rw [l2_raw k kp again x2_0 x2_1 x2_2 x2_3 x2_4 x3_0 x3_1 x3_2 x3_3 x3_4 s]; simp only [j4_eq, j6_eq]; first | done | rfl) (x5)
theorem c_c (k kp : D → List Blk → Prop) (J L : Nat → St → Prop) (x0_0 : (List (ByteArray × (List Int)))) (x0_1 : Int) (x0_2 : Int) (x0_3 : (List Int)) (x0_4 : Int) (x1_0 : (List (ByteArray × (List Int)))) (x1_1 : Int) (x1_2 : Int) (x1_3 : (List Int)) (x1_4 : Int) : runC cfg 1000001 J L none'' [] body (topK cfg Try.f39 k kp) (st0 Try.f39 [(.agg [(.fz (Ty.pair Ty.str (Ty.list (Ty.int IntKind.i64))) x0_0), (.v (.int IntKind.i64 x0_1)), (.v (.int IntKind.i64 x0_2)), (.fz (Ty.int IntKind.i64) x0_3), (.v (.int IntKind.i64 x0_4))]), (.agg [(.fz (Ty.pair Ty.str (Ty.list (Ty.int IntKind.i64))) x1_0), (.v (.int IntKind.i64 x1_1)), (.v (.int IntKind.i64 x1_2)), (.fz (Ty.int IntKind.i64) x1_3), (.v (.int IntKind.i64 x1_4))])] []) = c (fun x2_0 x2_1 x2_2 x2_3 x2_4 x3_0 x3_1 x3_2 x3_3 x3_4 x5 => L 2 (mL2 x2_0 x2_1 x2_2 x2_3 x2_4 x3_0 x3_1 x3_2 x3_3 x3_4 x5)) x0_0 x0_1 x0_2 x0_3 x0_4 x1_0 x1_1 x1_2 x1_3 x1_4 (fun y0 => k (.v (.int IntKind.i64 y0)) []) := by kernel_rfl
theorem c_ag (k kp : D → List Blk → Prop) : agPL cfg 1000001 (JJ k kp) (LL k kp) [] body = agPR cfg 1000001 none'' [] body (topK cfg Try.f39 k kp) := by kernel_rfl
theorem body_is : Try.f39.body = some body := by kernel_rfl
theorem c_raw (k kp : D → List Blk → Prop) (x0_0 : (List (ByteArray × (List Int)))) (x0_1 : Int) (x0_2 : Int) (x0_3 : (List Int)) (x0_4 : Int) (x1_0 : (List (ByteArray × (List Int)))) (x1_1 : Int) (x1_2 : Int) (x1_3 : (List Int)) (x1_4 : Int) : funW cfg Try.f39 [(.agg [(.fz (Ty.pair Ty.str (Ty.list (Ty.int IntKind.i64))) x0_0), (.v (.int IntKind.i64 x0_1)), (.v (.int IntKind.i64 x0_2)), (.fz (Ty.int IntKind.i64) x0_3), (.v (.int IntKind.i64 x0_4))]), (.agg [(.fz (Ty.pair Ty.str (Ty.list (Ty.int IntKind.i64))) x1_0), (.v (.int IntKind.i64 x1_1)), (.v (.int IntKind.i64 x1_2)), (.fz (Ty.int IntKind.i64) x1_3), (.v (.int IntKind.i64 x1_4))])] [] k kp = c (fun x2_0 x2_1 x2_2 x2_3 x2_4 x3_0 x3_1 x3_2 x3_3 x3_4 x5 => XL2 k kp (mL2 x2_0 x2_1 x2_2 x2_3 x2_4 x3_0 x3_1 x3_2 x3_3 x3_4 x5)) x0_0 x0_1 x0_2 x0_3 x0_4 x1_0 x1_1 x1_2 x1_3 x1_4 (fun y0 => k (.v (.int IntKind.i64 y0)) []) :=
  Eq.mp (by kernel_rfl) ((funW_run (AG := none'') body_is (c_ag k kp) [(.agg [(.fz (Ty.pair Ty.str (Ty.list (Ty.int IntKind.i64))) x0_0), (.v (.int IntKind.i64 x0_1)), (.v (.int IntKind.i64 x0_2)), (.fz (Ty.int IntKind.i64) x0_3), (.v (.int IntKind.i64 x0_4))]), (.agg [(.fz (Ty.pair Ty.str (Ty.list (Ty.int IntKind.i64))) x1_0), (.v (.int IntKind.i64 x1_1)), (.v (.int IntKind.i64 x1_2)), (.fz (Ty.int IntKind.i64) x1_3), (.v (.int IntKind.i64 x1_4))])] []).trans (c_c k kp (JJ k kp) (LL k kp) x0_0 x0_1 x0_2 x0_3 x0_4 x1_0 x1_1 x1_2 x1_3 x1_4))
theorem f_eq (k kp : D → List Blk → Prop) (x0_0 : (List (ByteArray × (List Int)))) (x0_1 : Int) (x0_2 : Int) (x0_3 : (List Int)) (x0_4 : Int) (x1_0 : (List (ByteArray × (List Int)))) (x1_1 : Int) (x1_2 : Int) (x1_3 : (List Int)) (x1_4 : Int) : funW cfg Try.f39 [(.agg [(.fz (Ty.pair Ty.str (Ty.list (Ty.int IntKind.i64))) x0_0), (.v (.int IntKind.i64 x0_1)), (.v (.int IntKind.i64 x0_2)), (.fz (Ty.int IntKind.i64) x0_3), (.v (.int IntKind.i64 x0_4))]), (.agg [(.fz (Ty.pair Ty.str (Ty.list (Ty.int IntKind.i64))) x1_0), (.v (.int IntKind.i64 x1_1)), (.v (.int IntKind.i64 x1_2)), (.fz (Ty.int IntKind.i64) x1_3), (.v (.int IntKind.i64 x1_4))])] [] k kp = f x0_0 x0_1 x0_2 x0_3 x0_4 x1_0 x1_1 x1_2 x1_3 x1_4 (fun y0 => k (.v (.int IntKind.i64 y0)) []) := by
  rw [f_def, c_raw]; simp only [l2_eq]; first | done | rfl
noncomputable def ent0 : Entry := fun args blks k _ => match args, blks with
  | [d0, d1], [] => aAgg 5 d0 fun l => aCons l fun d0_0 l => aCons l fun d0_1 l => aCons l fun d0_2 l => aCons l fun d0_3 l => aCons l fun d0_4 l => aNil l (aFz (Ty.pair Ty.str (Ty.list (Ty.int IntKind.i64))) d0_0 fun x0_0 => aInt IntKind.i64 d0_1 fun x0_1 => aInt IntKind.i64 d0_2 fun x0_2 => aFz (Ty.int IntKind.i64) d0_3 fun x0_3 => aInt IntKind.i64 d0_4 fun x0_4 => aAgg 5 d1 fun l => aCons l fun d1_0 l => aCons l fun d1_1 l => aCons l fun d1_2 l => aCons l fun d1_3 l => aCons l fun d1_4 l => aNil l (aFz (Ty.pair Ty.str (Ty.list (Ty.int IntKind.i64))) d1_0 fun x1_0 => aInt IntKind.i64 d1_1 fun x1_1 => aInt IntKind.i64 d1_2 fun x1_2 => aFz (Ty.int IntKind.i64) d1_3 fun x1_3 => aInt IntKind.i64 d1_4 fun x1_4 => f x0_0 x0_1 x0_2 x0_3 x0_4 x1_0 x1_1 x1_2 x1_3 x1_4 (fun y0 => k (.v (.int IntKind.i64 y0)) [])))
  | _, _ => False
noncomputable def ent : Entry := fun args blks k kp => ent0 (convB [.cells [some (Ty.pair Ty.str (Ty.list (Ty.int IntKind.i64))), none, none, some (Ty.int IntKind.i64), none], .cells [some (Ty.pair Ty.str (Ty.list (Ty.int IntKind.i64))), none, none, some (Ty.int IntKind.i64), none]] args) blks k kp
theorem ok : EntOk Try.prog 0 0 39 ent := by
  refine EntOk.convB (EntOk.of (funW_ok (cfg := cfg) (tyOk_of rfl rfl tyL_ok) (eqOk_of (P := Try.prog) rfl rfl (by kernel_rfl)) mixed_ok (tab_ok ?_) Try.func39 (by rfl) (by rfl)) ?_) _
  · intro p hp
    simp only [List.mem_cons, List.not_mem_nil, or_false] at hp
    rcases hp with rfl
    · exact N74.ok
  · intro args blks k kp h k' kp'
    match args, blks, h with
    | [d0, d1], [], h =>
    dsimp only [ent0] at h
    have h9 := aAgg_elim h; clear h; obtain ⟨_, rfl, h⟩ := h9
    have h9 := aCons_elim h; clear h; obtain ⟨d0_0, _, rfl, h⟩ := h9
    have h9 := aCons_elim h; clear h; obtain ⟨d0_1, _, rfl, h⟩ := h9
    have h9 := aCons_elim h; clear h; obtain ⟨d0_2, _, rfl, h⟩ := h9
    have h9 := aCons_elim h; clear h; obtain ⟨d0_3, _, rfl, h⟩ := h9
    have h9 := aCons_elim h; clear h; obtain ⟨d0_4, _, rfl, h⟩ := h9
    have h9 := aNil_elim h; clear h; obtain ⟨rfl, h⟩ := h9
    have h9 := aFz_elim (t := (Ty.pair Ty.str (Ty.list (Ty.int IntKind.i64)))) h; clear h; obtain ⟨x0_0, rfl, h⟩ := h9
    have h9 := aInt_elim h; clear h; obtain ⟨x0_1, rfl, h⟩ := h9
    have h9 := aInt_elim h; clear h; obtain ⟨x0_2, rfl, h⟩ := h9
    have h9 := aFz_elim (t := (Ty.int IntKind.i64)) h; clear h; obtain ⟨x0_3, rfl, h⟩ := h9
    have h9 := aInt_elim h; clear h; obtain ⟨x0_4, rfl, h⟩ := h9
    have h9 := aAgg_elim h; clear h; obtain ⟨_, rfl, h⟩ := h9
    have h9 := aCons_elim h; clear h; obtain ⟨d1_0, _, rfl, h⟩ := h9
    have h9 := aCons_elim h; clear h; obtain ⟨d1_1, _, rfl, h⟩ := h9
    have h9 := aCons_elim h; clear h; obtain ⟨d1_2, _, rfl, h⟩ := h9
    have h9 := aCons_elim h; clear h; obtain ⟨d1_3, _, rfl, h⟩ := h9
    have h9 := aCons_elim h; clear h; obtain ⟨d1_4, _, rfl, h⟩ := h9
    have h9 := aNil_elim h; clear h; obtain ⟨rfl, h⟩ := h9
    have h9 := aFz_elim (t := (Ty.pair Ty.str (Ty.list (Ty.int IntKind.i64)))) h; clear h; obtain ⟨x1_0, rfl, h⟩ := h9
    have h9 := aInt_elim h; clear h; obtain ⟨x1_1, rfl, h⟩ := h9
    have h9 := aInt_elim h; clear h; obtain ⟨x1_2, rfl, h⟩ := h9
    have h9 := aFz_elim (t := (Ty.int IntKind.i64)) h; clear h; obtain ⟨x1_3, rfl, h⟩ := h9
    have h9 := aInt_elim h; clear h; obtain ⟨x1_4, rfl, h⟩ := h9
    exact (f_eq k' kp' x0_0 x0_1 x0_2 x0_3 x0_4 x1_0 x1_1 x1_2 x1_3 x1_4).symm
end N39
end Go.Proofs.Yu
namespace Go.Proofs.Yu
open Go Go.Aw Go.Proofs
set_option linter.unusedVariables false
set_option linter.unusedSimpArgs false
set_option maxRecDepth 100000
/-! dyehouse/obs.Begins -/
namespace N40
noncomputable def cfg : Cfg := { P := Try.prog, ty := tys, E := tab [(72, N72.ent)], atSeq := tab [], atLoop := tab [], outs := [], eqT := tab [], bT := tab [], fzB := [2, 3] }
noncomputable def body : Code := bodyOf Try.f40
def c (x0_0 : (List (ByteArray × (List Int)))) (x0_1 : Int) (x0_2 : Int) (x0_3 : (List Int)) (x0_4 : Int) (x1_0 : (List (ByteArray × (List Int)))) (x1_1 : Int) (x1_2 : Int) (x1_3 : (List Int)) (x1_4 : Int) (k : Bool → Prop) : Prop :=
  (br (decide (((((x0_0).length : Nat) : Int)) ≤ ((((x1_0).length : Nat) : Int)))) ((inB 0 ((((x0_0).length : Nat) : Int)) (((x1_0).length : Nat) : Int)) ∧ (N72.f x0_0 (List.drop (Int.toNat 0) (List.take (Int.toNat ((((x0_0).length : Nat) : Int))) x1_0)) (fun (y0_0 : Bool) => (k y0_0)))) (k false))
def f0 (x0_0 : (List (ByteArray × (List Int)))) (x0_1 : Int) (x0_2 : Int) (x0_3 : (List Int)) (x0_4 : Int) (x1_0 : (List (ByteArray × (List Int)))) (x1_1 : Int) (x1_2 : Int) (x1_3 : (List Int)) (x1_4 : Int) (k : Bool → Prop) : Prop := c x0_0 x0_1 x0_2 x0_3 x0_4 x1_0 x1_1 x1_2 x1_3 x1_4 k
theorem f_ex : ∃ g : (List (ByteArray × (List Int))) → Int → Int → (List Int) → Int → (List (ByteArray × (List Int))) → Int → Int → (List Int) → Int → (Bool → Prop) → Prop, g = f0 := ⟨_, rfl⟩
noncomputable def f : (List (ByteArray × (List Int))) → Int → Int → (List Int) → Int → (List (ByteArray × (List Int))) → Int → Int → (List Int) → Int → (Bool → Prop) → Prop := Classical.choose f_ex
theorem f_def : f = f0 := Classical.choose_spec f_ex
noncomputable def JJ (k kp : D → List Blk → Prop) : Nat → St → Prop := pick none' []
noncomputable def LL (k kp : D → List Blk → Prop) : Nat → St → Prop := pick none' []
theorem c_c (k kp : D → List Blk → Prop) (J L : Nat → St → Prop) (x0_0 : (List (ByteArray × (List Int)))) (x0_1 : Int) (x0_2 : Int) (x0_3 : (List Int)) (x0_4 : Int) (x1_0 : (List (ByteArray × (List Int)))) (x1_1 : Int) (x1_2 : Int) (x1_3 : (List Int)) (x1_4 : Int) : runC cfg 1000001 J L none'' [] body (topK cfg Try.f40 k kp) (st0 Try.f40 [(.agg [(.fz (Ty.pair Ty.str (Ty.list (Ty.int IntKind.i64))) x0_0), (.v (.int IntKind.i64 x0_1)), (.v (.int IntKind.i64 x0_2)), (.fz (Ty.int IntKind.i64) x0_3), (.v (.int IntKind.i64 x0_4))]), (.agg [(.fz (Ty.pair Ty.str (Ty.list (Ty.int IntKind.i64))) x1_0), (.v (.int IntKind.i64 x1_1)), (.v (.int IntKind.i64 x1_2)), (.fz (Ty.int IntKind.i64) x1_3), (.v (.int IntKind.i64 x1_4))])] []) = c x0_0 x0_1 x0_2 x0_3 x0_4 x1_0 x1_1 x1_2 x1_3 x1_4 (fun y0 => k (.v (.bool y0)) []) := by kernel_rfl
theorem c_ag (k kp : D → List Blk → Prop) : agPL cfg 1000001 (JJ k kp) (LL k kp) [] body = agPR cfg 1000001 none'' [] body (topK cfg Try.f40 k kp) := by kernel_rfl
theorem body_is : Try.f40.body = some body := by kernel_rfl
theorem c_raw (k kp : D → List Blk → Prop) (x0_0 : (List (ByteArray × (List Int)))) (x0_1 : Int) (x0_2 : Int) (x0_3 : (List Int)) (x0_4 : Int) (x1_0 : (List (ByteArray × (List Int)))) (x1_1 : Int) (x1_2 : Int) (x1_3 : (List Int)) (x1_4 : Int) : funW cfg Try.f40 [(.agg [(.fz (Ty.pair Ty.str (Ty.list (Ty.int IntKind.i64))) x0_0), (.v (.int IntKind.i64 x0_1)), (.v (.int IntKind.i64 x0_2)), (.fz (Ty.int IntKind.i64) x0_3), (.v (.int IntKind.i64 x0_4))]), (.agg [(.fz (Ty.pair Ty.str (Ty.list (Ty.int IntKind.i64))) x1_0), (.v (.int IntKind.i64 x1_1)), (.v (.int IntKind.i64 x1_2)), (.fz (Ty.int IntKind.i64) x1_3), (.v (.int IntKind.i64 x1_4))])] [] k kp = c x0_0 x0_1 x0_2 x0_3 x0_4 x1_0 x1_1 x1_2 x1_3 x1_4 (fun y0 => k (.v (.bool y0)) []) :=
  Eq.mp (by kernel_rfl) ((funW_run (AG := none'') body_is (c_ag k kp) [(.agg [(.fz (Ty.pair Ty.str (Ty.list (Ty.int IntKind.i64))) x0_0), (.v (.int IntKind.i64 x0_1)), (.v (.int IntKind.i64 x0_2)), (.fz (Ty.int IntKind.i64) x0_3), (.v (.int IntKind.i64 x0_4))]), (.agg [(.fz (Ty.pair Ty.str (Ty.list (Ty.int IntKind.i64))) x1_0), (.v (.int IntKind.i64 x1_1)), (.v (.int IntKind.i64 x1_2)), (.fz (Ty.int IntKind.i64) x1_3), (.v (.int IntKind.i64 x1_4))])] []).trans (c_c k kp (JJ k kp) (LL k kp) x0_0 x0_1 x0_2 x0_3 x0_4 x1_0 x1_1 x1_2 x1_3 x1_4))
theorem f_eq (k kp : D → List Blk → Prop) (x0_0 : (List (ByteArray × (List Int)))) (x0_1 : Int) (x0_2 : Int) (x0_3 : (List Int)) (x0_4 : Int) (x1_0 : (List (ByteArray × (List Int)))) (x1_1 : Int) (x1_2 : Int) (x1_3 : (List Int)) (x1_4 : Int) : funW cfg Try.f40 [(.agg [(.fz (Ty.pair Ty.str (Ty.list (Ty.int IntKind.i64))) x0_0), (.v (.int IntKind.i64 x0_1)), (.v (.int IntKind.i64 x0_2)), (.fz (Ty.int IntKind.i64) x0_3), (.v (.int IntKind.i64 x0_4))]), (.agg [(.fz (Ty.pair Ty.str (Ty.list (Ty.int IntKind.i64))) x1_0), (.v (.int IntKind.i64 x1_1)), (.v (.int IntKind.i64 x1_2)), (.fz (Ty.int IntKind.i64) x1_3), (.v (.int IntKind.i64 x1_4))])] [] k kp = f x0_0 x0_1 x0_2 x0_3 x0_4 x1_0 x1_1 x1_2 x1_3 x1_4 (fun y0 => k (.v (.bool y0)) []) := by
  rw [f_def, c_raw]; rfl
noncomputable def ent0 : Entry := fun args blks k _ => match args, blks with
  | [d0, d1], [] => aAgg 5 d0 fun l => aCons l fun d0_0 l => aCons l fun d0_1 l => aCons l fun d0_2 l => aCons l fun d0_3 l => aCons l fun d0_4 l => aNil l (aFz (Ty.pair Ty.str (Ty.list (Ty.int IntKind.i64))) d0_0 fun x0_0 => aInt IntKind.i64 d0_1 fun x0_1 => aInt IntKind.i64 d0_2 fun x0_2 => aFz (Ty.int IntKind.i64) d0_3 fun x0_3 => aInt IntKind.i64 d0_4 fun x0_4 => aAgg 5 d1 fun l => aCons l fun d1_0 l => aCons l fun d1_1 l => aCons l fun d1_2 l => aCons l fun d1_3 l => aCons l fun d1_4 l => aNil l (aFz (Ty.pair Ty.str (Ty.list (Ty.int IntKind.i64))) d1_0 fun x1_0 => aInt IntKind.i64 d1_1 fun x1_1 => aInt IntKind.i64 d1_2 fun x1_2 => aFz (Ty.int IntKind.i64) d1_3 fun x1_3 => aInt IntKind.i64 d1_4 fun x1_4 => f x0_0 x0_1 x0_2 x0_3 x0_4 x1_0 x1_1 x1_2 x1_3 x1_4 (fun y0 => k (.v (.bool y0)) [])))
  | _, _ => False
noncomputable def ent : Entry := fun args blks k kp => ent0 (convB [.cells [some (Ty.pair Ty.str (Ty.list (Ty.int IntKind.i64))), none, none, some (Ty.int IntKind.i64), none], .cells [some (Ty.pair Ty.str (Ty.list (Ty.int IntKind.i64))), none, none, some (Ty.int IntKind.i64), none]] args) blks k kp
theorem ok : EntOk Try.prog 0 0 40 ent := by
  refine EntOk.convB (EntOk.of (funW_ok (cfg := cfg) (tyOk_of rfl rfl tyL_ok) (eqOk_of (P := Try.prog) rfl rfl (by kernel_rfl)) mixed_ok (tab_ok ?_) Try.func40 (by rfl) (by rfl)) ?_) _
  · intro p hp
    simp only [List.mem_cons, List.not_mem_nil, or_false] at hp
    rcases hp with rfl
    · exact N72.ok
  · intro args blks k kp h k' kp'
    match args, blks, h with
    | [d0, d1], [], h =>
    dsimp only [ent0] at h
    have h9 := aAgg_elim h; clear h; obtain ⟨_, rfl, h⟩ := h9
    have h9 := aCons_elim h; clear h; obtain ⟨d0_0, _, rfl, h⟩ := h9
    have h9 := aCons_elim h; clear h; obtain ⟨d0_1, _, rfl, h⟩ := h9
    have h9 := aCons_elim h; clear h; obtain ⟨d0_2, _, rfl, h⟩ := h9
    have h9 := aCons_elim h; clear h; obtain ⟨d0_3, _, rfl, h⟩ := h9
    have h9 := aCons_elim h; clear h; obtain ⟨d0_4, _, rfl, h⟩ := h9
    have h9 := aNil_elim h; clear h; obtain ⟨rfl, h⟩ := h9
    have h9 := aFz_elim (t := (Ty.pair Ty.str (Ty.list (Ty.int IntKind.i64)))) h; clear h; obtain ⟨x0_0, rfl, h⟩ := h9
    have h9 := aInt_elim h; clear h; obtain ⟨x0_1, rfl, h⟩ := h9
    have h9 := aInt_elim h; clear h; obtain ⟨x0_2, rfl, h⟩ := h9
    have h9 := aFz_elim (t := (Ty.int IntKind.i64)) h; clear h; obtain ⟨x0_3, rfl, h⟩ := h9
    have h9 := aInt_elim h; clear h; obtain ⟨x0_4, rfl, h⟩ := h9
    have h9 := aAgg_elim h; clear h; obtain ⟨_, rfl, h⟩ := h9
    have h9 := aCons_elim h; clear h; obtain ⟨d1_0, _, rfl, h⟩ := h9
    have h9 := aCons_elim h; clear h; obtain ⟨d1_1, _, rfl, h⟩ := h9
    have h9 := aCons_elim h; clear h; obtain ⟨d1_2, _, rfl, h⟩ := h9
    have h9 := aCons_elim h; clear h; obtain ⟨d1_3, _, rfl, h⟩ := h9
    have h9 := aCons_elim h; clear h; obtain ⟨d1_4, _, rfl, h⟩ := h9
    have h9 := aNil_elim h; clear h; obtain ⟨rfl, h⟩ := h9
    have h9 := aFz_elim (t := (Ty.pair Ty.str (Ty.list (Ty.int IntKind.i64)))) h; clear h; obtain ⟨x1_0, rfl, h⟩ := h9
    have h9 := aInt_elim h; clear h; obtain ⟨x1_1, rfl, h⟩ := h9
    have h9 := aInt_elim h; clear h; obtain ⟨x1_2, rfl, h⟩ := h9
    have h9 := aFz_elim (t := (Ty.int IntKind.i64)) h; clear h; obtain ⟨x1_3, rfl, h⟩ := h9
    have h9 := aInt_elim h; clear h; obtain ⟨x1_4, rfl, h⟩ := h9
    exact (f_eq k' kp' x0_0 x0_1 x0_2 x0_3 x0_4 x1_0 x1_1 x1_2 x1_3 x1_4).symm
end N40
end Go.Proofs.Yu
namespace Go.Proofs.Yu
open Go Go.Aw Go.Proofs
set_option linter.unusedVariables false
set_option linter.unusedSimpArgs false
set_option maxRecDepth 100000
/-! dyehouse/dyehouseref35.Begins -/
namespace N41
noncomputable def cfg : Cfg := { P := Try.prog, ty := tys, E := tab [(39, N39.ent)], atSeq := tab [], atLoop := tab [], outs := [], eqT := tab [], bT := tab [], fzB := [2, 3] }
noncomputable def body : Code := bodyOf Try.f41
def c (x0_0 : (List (ByteArray × (List Int)))) (x0_1 : Int) (x0_2 : Int) (x0_3 : (List Int)) (x0_4 : Int) (x1_0 : (List (ByteArray × (List Int)))) (x1_1 : Int) (x1_2 : Int) (x1_3 : (List Int)) (x1_4 : Int) (k : Bool → Prop) : Prop :=
  (N39.f x0_0 x0_1 x0_2 x0_3 x0_4 x1_0 x1_1 x1_2 x1_3 x1_4 (fun (y0_0 : Int) => (br (decide (y0_0 < (0 : Int))) (k true) (k (y0_0 == ((((x0_0).length : Nat) : Int)))))))
def f0 (x0_0 : (List (ByteArray × (List Int)))) (x0_1 : Int) (x0_2 : Int) (x0_3 : (List Int)) (x0_4 : Int) (x1_0 : (List (ByteArray × (List Int)))) (x1_1 : Int) (x1_2 : Int) (x1_3 : (List Int)) (x1_4 : Int) (k : Bool → Prop) : Prop := c x0_0 x0_1 x0_2 x0_3 x0_4 x1_0 x1_1 x1_2 x1_3 x1_4 k
theorem f_ex : ∃ g : (List (ByteArray × (List Int))) → Int → Int → (List Int) → Int → (List (ByteArray × (List Int))) → Int → Int → (List Int) → Int → (Bool → Prop) → Prop, g = f0 := ⟨_, rfl⟩
noncomputable def f : (List (ByteArray × (List Int))) → Int → Int → (List Int) → Int → (List (ByteArray × (List Int))) → Int → Int → (List Int) → Int → (Bool → Prop) → Prop := Classical.choose f_ex
theorem f_def : f = f0 := Classical.choose_spec f_ex
noncomputable def JJ (k kp : D → List Blk → Prop) : Nat → St → Prop := pick none' []
noncomputable def LL (k kp : D → List Blk → Prop) : Nat → St → Prop := pick none' []
theorem c_c (k kp : D → List Blk → Prop) (J L : Nat → St → Prop) (x0_0 : (List (ByteArray × (List Int)))) (x0_1 : Int) (x0_2 : Int) (x0_3 : (List Int)) (x0_4 : Int) (x1_0 : (List (ByteArray × (List Int)))) (x1_1 : Int) (x1_2 : Int) (x1_3 : (List Int)) (x1_4 : Int) : runC cfg 1000001 J L none'' [] body (topK cfg Try.f41 k kp) (st0 Try.f41 [(.agg [(.fz (Ty.pair Ty.str (Ty.list (Ty.int IntKind.i64))) x0_0), (.v (.int IntKind.i64 x0_1)), (.v (.int IntKind.i64 x0_2)), (.fz (Ty.int IntKind.i64) x0_3), (.v (.int IntKind.i64 x0_4))]), (.agg [(.fz (Ty.pair Ty.str (Ty.list (Ty.int IntKind.i64))) x1_0), (.v (.int IntKind.i64 x1_1)), (.v (.int IntKind.i64 x1_2)), (.fz (Ty.int IntKind.i64) x1_3), (.v (.int IntKind.i64 x1_4))])] []) = c x0_0 x0_1 x0_2 x0_3 x0_4 x1_0 x1_1 x1_2 x1_3 x1_4 (fun y0 => k (.v (.bool y0)) []) := by kernel_rfl
theorem c_ag (k kp : D → List Blk → Prop) : agPL cfg 1000001 (JJ k kp) (LL k kp) [] body = agPR cfg 1000001 none'' [] body (topK cfg Try.f41 k kp) := by kernel_rfl
theorem body_is : Try.f41.body = some body := by kernel_rfl
theorem c_raw (k kp : D → List Blk → Prop) (x0_0 : (List (ByteArray × (List Int)))) (x0_1 : Int) (x0_2 : Int) (x0_3 : (List Int)) (x0_4 : Int) (x1_0 : (List (ByteArray × (List Int)))) (x1_1 : Int) (x1_2 : Int) (x1_3 : (List Int)) (x1_4 : Int) : funW cfg Try.f41 [(.agg [(.fz (Ty.pair Ty.str (Ty.list (Ty.int IntKind.i64))) x0_0), (.v (.int IntKind.i64 x0_1)), (.v (.int IntKind.i64 x0_2)), (.fz (Ty.int IntKind.i64) x0_3), (.v (.int IntKind.i64 x0_4))]), (.agg [(.fz (Ty.pair Ty.str (Ty.list (Ty.int IntKind.i64))) x1_0), (.v (.int IntKind.i64 x1_1)), (.v (.int IntKind.i64 x1_2)), (.fz (Ty.int IntKind.i64) x1_3), (.v (.int IntKind.i64 x1_4))])] [] k kp = c x0_0 x0_1 x0_2 x0_3 x0_4 x1_0 x1_1 x1_2 x1_3 x1_4 (fun y0 => k (.v (.bool y0)) []) :=
  Eq.mp (by kernel_rfl) ((funW_run (AG := none'') body_is (c_ag k kp) [(.agg [(.fz (Ty.pair Ty.str (Ty.list (Ty.int IntKind.i64))) x0_0), (.v (.int IntKind.i64 x0_1)), (.v (.int IntKind.i64 x0_2)), (.fz (Ty.int IntKind.i64) x0_3), (.v (.int IntKind.i64 x0_4))]), (.agg [(.fz (Ty.pair Ty.str (Ty.list (Ty.int IntKind.i64))) x1_0), (.v (.int IntKind.i64 x1_1)), (.v (.int IntKind.i64 x1_2)), (.fz (Ty.int IntKind.i64) x1_3), (.v (.int IntKind.i64 x1_4))])] []).trans (c_c k kp (JJ k kp) (LL k kp) x0_0 x0_1 x0_2 x0_3 x0_4 x1_0 x1_1 x1_2 x1_3 x1_4))
theorem f_eq (k kp : D → List Blk → Prop) (x0_0 : (List (ByteArray × (List Int)))) (x0_1 : Int) (x0_2 : Int) (x0_3 : (List Int)) (x0_4 : Int) (x1_0 : (List (ByteArray × (List Int)))) (x1_1 : Int) (x1_2 : Int) (x1_3 : (List Int)) (x1_4 : Int) : funW cfg Try.f41 [(.agg [(.fz (Ty.pair Ty.str (Ty.list (Ty.int IntKind.i64))) x0_0), (.v (.int IntKind.i64 x0_1)), (.v (.int IntKind.i64 x0_2)), (.fz (Ty.int IntKind.i64) x0_3), (.v (.int IntKind.i64 x0_4))]), (.agg [(.fz (Ty.pair Ty.str (Ty.list (Ty.int IntKind.i64))) x1_0), (.v (.int IntKind.i64 x1_1)), (.v (.int IntKind.i64 x1_2)), (.fz (Ty.int IntKind.i64) x1_3), (.v (.int IntKind.i64 x1_4))])] [] k kp = f x0_0 x0_1 x0_2 x0_3 x0_4 x1_0 x1_1 x1_2 x1_3 x1_4 (fun y0 => k (.v (.bool y0)) []) := by
  rw [f_def, c_raw]; rfl
noncomputable def ent0 : Entry := fun args blks k _ => match args, blks with
  | [d0, d1], [] => aAgg 5 d0 fun l => aCons l fun d0_0 l => aCons l fun d0_1 l => aCons l fun d0_2 l => aCons l fun d0_3 l => aCons l fun d0_4 l => aNil l (aFz (Ty.pair Ty.str (Ty.list (Ty.int IntKind.i64))) d0_0 fun x0_0 => aInt IntKind.i64 d0_1 fun x0_1 => aInt IntKind.i64 d0_2 fun x0_2 => aFz (Ty.int IntKind.i64) d0_3 fun x0_3 => aInt IntKind.i64 d0_4 fun x0_4 => aAgg 5 d1 fun l => aCons l fun d1_0 l => aCons l fun d1_1 l => aCons l fun d1_2 l => aCons l fun d1_3 l => aCons l fun d1_4 l => aNil l (aFz (Ty.pair Ty.str (Ty.list (Ty.int IntKind.i64))) d1_0 fun x1_0 => aInt IntKind.i64 d1_1 fun x1_1 => aInt IntKind.i64 d1_2 fun x1_2 => aFz (Ty.int IntKind.i64) d1_3 fun x1_3 => aInt IntKind.i64 d1_4 fun x1_4 => f x0_0 x0_1 x0_2 x0_3 x0_4 x1_0 x1_1 x1_2 x1_3 x1_4 (fun y0 => k (.v (.bool y0)) [])))
  | _, _ => False
noncomputable def ent : Entry := fun args blks k kp => ent0 (convB [.cells [some (Ty.pair Ty.str (Ty.list (Ty.int IntKind.i64))), none, none, some (Ty.int IntKind.i64), none], .cells [some (Ty.pair Ty.str (Ty.list (Ty.int IntKind.i64))), none, none, some (Ty.int IntKind.i64), none]] args) blks k kp
theorem ok : EntOk Try.prog 0 0 41 ent := by
  refine EntOk.convB (EntOk.of (funW_ok (cfg := cfg) (tyOk_of rfl rfl tyL_ok) (eqOk_of (P := Try.prog) rfl rfl (by kernel_rfl)) mixed_ok (tab_ok ?_) Try.func41 (by rfl) (by rfl)) ?_) _
  · intro p hp
    simp only [List.mem_cons, List.not_mem_nil, or_false] at hp
    rcases hp with rfl
    · exact N39.ok
  · intro args blks k kp h k' kp'
    match args, blks, h with
    | [d0, d1], [], h =>
    dsimp only [ent0] at h
    have h9 := aAgg_elim h; clear h; obtain ⟨_, rfl, h⟩ := h9
    have h9 := aCons_elim h; clear h; obtain ⟨d0_0, _, rfl, h⟩ := h9
    have h9 := aCons_elim h; clear h; obtain ⟨d0_1, _, rfl, h⟩ := h9
    have h9 := aCons_elim h; clear h; obtain ⟨d0_2, _, rfl, h⟩ := h9
    have h9 := aCons_elim h; clear h; obtain ⟨d0_3, _, rfl, h⟩ := h9
    have h9 := aCons_elim h; clear h; obtain ⟨d0_4, _, rfl, h⟩ := h9
    have h9 := aNil_elim h; clear h; obtain ⟨rfl, h⟩ := h9
    have h9 := aFz_elim (t := (Ty.pair Ty.str (Ty.list (Ty.int IntKind.i64)))) h; clear h; obtain ⟨x0_0, rfl, h⟩ := h9
    have h9 := aInt_elim h; clear h; obtain ⟨x0_1, rfl, h⟩ := h9
    have h9 := aInt_elim h; clear h; obtain ⟨x0_2, rfl, h⟩ := h9
    have h9 := aFz_elim (t := (Ty.int IntKind.i64)) h; clear h; obtain ⟨x0_3, rfl, h⟩ := h9
    have h9 := aInt_elim h; clear h; obtain ⟨x0_4, rfl, h⟩ := h9
    have h9 := aAgg_elim h; clear h; obtain ⟨_, rfl, h⟩ := h9
    have h9 := aCons_elim h; clear h; obtain ⟨d1_0, _, rfl, h⟩ := h9
    have h9 := aCons_elim h; clear h; obtain ⟨d1_1, _, rfl, h⟩ := h9
    have h9 := aCons_elim h; clear h; obtain ⟨d1_2, _, rfl, h⟩ := h9
    have h9 := aCons_elim h; clear h; obtain ⟨d1_3, _, rfl, h⟩ := h9
    have h9 := aCons_elim h; clear h; obtain ⟨d1_4, _, rfl, h⟩ := h9
    have h9 := aNil_elim h; clear h; obtain ⟨rfl, h⟩ := h9
    have h9 := aFz_elim (t := (Ty.pair Ty.str (Ty.list (Ty.int IntKind.i64)))) h; clear h; obtain ⟨x1_0, rfl, h⟩ := h9
    have h9 := aInt_elim h; clear h; obtain ⟨x1_1, rfl, h⟩ := h9
    have h9 := aInt_elim h; clear h; obtain ⟨x1_2, rfl, h⟩ := h9
    have h9 := aFz_elim (t := (Ty.int IntKind.i64)) h; clear h; obtain ⟨x1_3, rfl, h⟩ := h9
    have h9 := aInt_elim h; clear h; obtain ⟨x1_4, rfl, h⟩ := h9
    exact (f_eq k' kp' x0_0 x0_1 x0_2 x0_3 x0_4 x1_0 x1_1 x1_2 x1_3 x1_4).symm
end N41
end Go.Proofs.Yu
namespace Go.Proofs.Yu
open Go Go.Aw Go.Proofs
set_option linter.unusedVariables false
set_option linter.unusedSimpArgs false
set_option maxRecDepth 100000
/-! dyehouse/obs.Ending -/
namespace N44
noncomputable def cfg : Cfg := { P := Try.prog, ty := tys, E := tab [], atSeq := tab [(2000003, ⟨[(0, .keep), (3, .keep), (10, .keep)]⟩), (4, ⟨[(0, .keep), (3, .keep)]⟩)], atLoop := tab [], outs := [], eqT := tab [], bT := tab [] }
noncomputable def body : Code := bodyOf Try.f44
def j2000003 (j4 : Int → ByteArray → ByteArray → ByteArray → ByteArray → ByteArray → ByteArray → Prop) (x0 : Int) (x10 : Bool) (b0_0 : ByteArray) (b0_1 : ByteArray) (b0_2 : ByteArray) (b0_3 : ByteArray) (b0_4 : ByteArray) (b0_5 : ByteArray) (k : ByteArray → Prop) : Prop :=
  (br x10 (k (ByteArray.mk #[])) (j4 x0 b0_0 b0_1 b0_2 b0_3 b0_4 b0_5))
def j4 (x0 : Int) (b0_0 : ByteArray) (b0_1 : ByteArray) (b0_2 : ByteArray) (b0_3 : ByteArray) (b0_4 : ByteArray) (b0_5 : ByteArray) (k : ByteArray → Prop) : Prop :=
  (br (decide (x0 = ((0 : Nat) : Int))) (k b0_0) (br (decide (x0 = ((1 : Nat) : Int))) (k b0_1) (br (decide (x0 = ((2 : Nat) : Int))) (k b0_2) (br (decide (x0 = ((3 : Nat) : Int))) (k b0_3) (br (decide (x0 = ((4 : Nat) : Int))) (k b0_4) (br (decide (x0 = ((5 : Nat) : Int))) (k b0_5) False))))))
def c (j2000003 : Int → Bool → ByteArray → ByteArray → ByteArray → ByteArray → ByteArray → ByteArray → Prop) (x0 : Int) (k : ByteArray → Prop) : Prop :=
  (br (decide (x0 < (0 : Int))) (j2000003 x0 true (ByteArray.mk #[114, 117, 110, 115]) (ByteArray.mk #[114, 101, 116]) (ByteArray.mk #[100, 105, 118]) (ByteArray.mk #[109, 101, 109]) (ByteArray.mk #[115, 99, 114, 105, 112, 116]) (ByteArray.mk #[102, 117, 101, 108])) (j2000003 x0 (decide (x0 ≥ (6 : Int))) (ByteArray.mk #[114, 117, 110, 115]) (ByteArray.mk #[114, 101, 116]) (ByteArray.mk #[100, 105, 118]) (ByteArray.mk #[109, 101, 109]) (ByteArray.mk #[115, 99, 114, 105, 112, 116]) (ByteArray.mk #[102, 117, 101, 108])))
def j4' (x0 : Int) (b0_0 : ByteArray) (b0_1 : ByteArray) (b0_2 : ByteArray) (b0_3 : ByteArray) (b0_4 : ByteArray) (b0_5 : ByteArray) (k : ByteArray → Prop) : Prop := j4 x0 b0_0 b0_1 b0_2 b0_3 b0_4 b0_5 k
def j2000003' (x0 : Int) (x10 : Bool) (b0_0 : ByteArray) (b0_1 : ByteArray) (b0_2 : ByteArray) (b0_3 : ByteArray) (b0_4 : ByteArray) (b0_5 : ByteArray) (k : ByteArray → Prop) : Prop := j2000003 (fun x0 b0_0 b0_1 b0_2 b0_3 b0_4 b0_5 => j4' x0 b0_0 b0_1 b0_2 b0_3 b0_4 b0_5 k) x0 x10 b0_0 b0_1 b0_2 b0_3 b0_4 b0_5 k
def f0 (x0 : Int) (k : ByteArray → Prop) : Prop := c (fun x0 x10 b0_0 b0_1 b0_2 b0_3 b0_4 b0_5 => j2000003' x0 x10 b0_0 b0_1 b0_2 b0_3 b0_4 b0_5 k) x0 k
theorem f_ex : ∃ g : Int → (ByteArray → Prop) → Prop, g = f0 := ⟨_, rfl⟩
noncomputable def f : Int → (ByteArray → Prop) → Prop := Classical.choose f_ex
theorem f_def : f = f0 := Classical.choose_spec f_ex
def m2000003 (x0 : Int) (x10 : Bool) (b0_0 : ByteArray) (b0_1 : ByteArray) (b0_2 : ByteArray) (b0_3 : ByteArray) (b0_4 : ByteArray) (b0_5 : ByteArray) : St := { tmps := mkT 14 0 [(0, (.v (.int IntKind.i64 x0))), (3, (.ptr 0 0)), (10, (.v (.bool x10)))], hp := [(.box 101 [(.v (.string b0_0)), (.v (.string b0_1)), (.v (.string b0_2)), (.v (.string b0_3)), (.v (.string b0_4)), (.v (.string b0_5))])], m := 0 }
def m4 (x0 : Int) (b0_0 : ByteArray) (b0_1 : ByteArray) (b0_2 : ByteArray) (b0_3 : ByteArray) (b0_4 : ByteArray) (b0_5 : ByteArray) : St := { tmps := mkT 14 0 [(0, (.v (.int IntKind.i64 x0))), (3, (.ptr 0 0))], hp := [(.box 101 [(.v (.string b0_0)), (.v (.string b0_1)), (.v (.string b0_2)), (.v (.string b0_3)), (.v (.string b0_4)), (.v (.string b0_5))])], m := 0 }
noncomputable def X2000003 (k kp : D → List Blk → Prop) : St → Prop := atP cfg (pick none' []) [1, 1, 0, 1] body (topK cfg Try.f44 k kp)
noncomputable def X4 (k kp : D → List Blk → Prop) : St → Prop := atP cfg (pick none' []) [1, 1, 1] body (topK cfg Try.f44 k kp)
noncomputable def JJ (k kp : D → List Blk → Prop) : Nat → St → Prop := pick none' [(2000003, X2000003 k kp), (4, X4 k kp)]
noncomputable def LL (k kp : D → List Blk → Prop) : Nat → St → Prop := pick none' []
theorem j4_c (k kp : D → List Blk → Prop) (J L : Nat → St → Prop) (x0 : Int) (b0_0 : ByteArray) (b0_1 : ByteArray) (b0_2 : ByteArray) (b0_3 : ByteArray) (b0_4 : ByteArray) (b0_5 : ByteArray) : runC cfg 4 J L (pick none' []) [1, 1, 1] body (topK cfg Try.f44 k kp) (m4 x0 b0_0 b0_1 b0_2 b0_3 b0_4 b0_5) = j4 x0 b0_0 b0_1 b0_2 b0_3 b0_4 b0_5 (fun y0 => k (.v (.string y0)) []) := by kernel_rfl
theorem j4_ag (k kp : D → List Blk → Prop) : agPL cfg 4 (JJ k kp) (LL k kp) [1, 1, 1] body = agPR cfg 4 (pick none' []) [1, 1, 1] body (topK cfg Try.f44 k kp) := by kernel_rfl
theorem j4_raw (k kp : D → List Blk → Prop) (x0 : Int) (b0_0 : ByteArray) (b0_1 : ByteArray) (b0_2 : ByteArray) (b0_3 : ByteArray) (b0_4 : ByteArray) (b0_5 : ByteArray) : X4 k kp (m4 x0 b0_0 b0_1 b0_2 b0_3 b0_4 b0_5) = j4 x0 b0_0 b0_1 b0_2 b0_3 b0_4 b0_5 (fun y0 => k (.v (.string y0)) []) :=
  Eq.mp (by kernel_rfl) ((atP_run (j4_ag k kp) (m4 x0 b0_0 b0_1 b0_2 b0_3 b0_4 b0_5)).trans (j4_c k kp (JJ k kp) (LL k kp) x0 b0_0 b0_1 b0_2 b0_3 b0_4 b0_5))
theorem j4_eq (k kp : D → List Blk → Prop) (x0 : Int) (b0_0 : ByteArray) (b0_1 : ByteArray) (b0_2 : ByteArray) (b0_3 : ByteArray) (b0_4 : ByteArray) (b0_5 : ByteArray) : X4 k kp (m4 x0 b0_0 b0_1 b0_2 b0_3 b0_4 b0_5) = j4' x0 b0_0 b0_1 b0_2 b0_3 b0_4 b0_5 (fun y0 => k (.v (.string y0)) []) := by
  rw [j4_raw]; rfl
theorem j2000003_c (k kp : D → List Blk → Prop) (J L : Nat → St → Prop) (x0 : Int) (x10 : Bool) (b0_0 : ByteArray) (b0_1 : ByteArray) (b0_2 : ByteArray) (b0_3 : ByteArray) (b0_4 : ByteArray) (b0_5 : ByteArray) : runC cfg 2000003 J L (pick none' []) [1, 1, 0, 1] body (topK cfg Try.f44 k kp) (m2000003 x0 x10 b0_0 b0_1 b0_2 b0_3 b0_4 b0_5) = j2000003 (fun x0 b0_0 b0_1 b0_2 b0_3 b0_4 b0_5 => J 4 (m4 x0 b0_0 b0_1 b0_2 b0_3 b0_4 b0_5)) x0 x10 b0_0 b0_1 b0_2 b0_3 b0_4 b0_5 (fun y0 => k (.v (.string y0)) []) := by kernel_rfl
theorem j2000003_ag (k kp : D → List Blk → Prop) : agPL cfg 2000003 (JJ k kp) (LL k kp) [1, 1, 0, 1] body = agPR cfg 2000003 (pick none' []) [1, 1, 0, 1] body (topK cfg Try.f44 k kp) := by kernel_rfl
theorem j2000003_raw (k kp : D → List Blk → Prop) (x0 : Int) (x10 : Bool) (b0_0 : ByteArray) (b0_1 : ByteArray) (b0_2 : ByteArray) (b0_3 : ByteArray) (b0_4 : ByteArray) (b0_5 : ByteArray) : X2000003 k kp (m2000003 x0 x10 b0_0 b0_1 b0_2 b0_3 b0_4 b0_5) = j2000003 (fun x0 b0_0 b0_1 b0_2 b0_3 b0_4 b0_5 => X4 k kp (m4 x0 b0_0 b0_1 b0_2 b0_3 b0_4 b0_5)) x0 x10 b0_0 b0_1 b0_2 b0_3 b0_4 b0_5 (fun y0 => k (.v (.string y0)) []) :=
  Eq.mp (by kernel_rfl) ((atP_run (j2000003_ag k kp) (m2000003 x0 x10 b0_0 b0_1 b0_2 b0_3 b0_4 b0_5)).trans (j2000003_c k kp (JJ k kp) (LL k kp) x0 x10 b0_0 b0_1 b0_2 b0_3 b0_4 b0_5))
theorem j2000003_eq (k kp : D → List Blk → Prop) (x0 : Int) (x10 : Bool) (b0_0 : ByteArray) (b0_1 : ByteArray) (b0_2 : ByteArray) (b0_3 : ByteArray) (b0_4 : ByteArray) (b0_5 : ByteArray) : X2000003 k kp (m2000003 x0 x10 b0_0 b0_1 b0_2 b0_3 b0_4 b0_5) = j2000003' x0 x10 b0_0 b0_1 b0_2 b0_3 b0_4 b0_5 (fun y0 => k (.v (.string y0)) []) := by
  rw [j2000003_raw]; simp only [j4_eq]; first | done | rfl
theorem c_c (k kp : D → List Blk → Prop) (J L : Nat → St → Prop) (x0 : Int) : runC cfg 1000001 J L none'' [] body (topK cfg Try.f44 k kp) (st0 Try.f44 [(.v (.int IntKind.i64 x0))] []) = c (fun x0 x10 b0_0 b0_1 b0_2 b0_3 b0_4 b0_5 => J 2000003 (m2000003 x0 x10 b0_0 b0_1 b0_2 b0_3 b0_4 b0_5)) x0 (fun y0 => k (.v (.string y0)) []) := by kernel_rfl
theorem c_ag (k kp : D → List Blk → Prop) : agPL cfg 1000001 (JJ k kp) (LL k kp) [] body = agPR cfg 1000001 none'' [] body (topK cfg Try.f44 k kp) := by kernel_rfl
theorem body_is : Try.f44.body = some body := by kernel_rfl
theorem c_raw (k kp : D → List Blk → Prop) (x0 : Int) : funW cfg Try.f44 [(.v (.int IntKind.i64 x0))] [] k kp = c (fun x0 x10 b0_0 b0_1 b0_2 b0_3 b0_4 b0_5 => X2000003 k kp (m2000003 x0 x10 b0_0 b0_1 b0_2 b0_3 b0_4 b0_5)) x0 (fun y0 => k (.v (.string y0)) []) :=
  Eq.mp (by kernel_rfl) ((funW_run (AG := none'') body_is (c_ag k kp) [(.v (.int IntKind.i64 x0))] []).trans (c_c k kp (JJ k kp) (LL k kp) x0))
theorem f_eq (k kp : D → List Blk → Prop) (x0 : Int) : funW cfg Try.f44 [(.v (.int IntKind.i64 x0))] [] k kp = f x0 (fun y0 => k (.v (.string y0)) []) := by
  rw [f_def, c_raw]; simp only [j2000003_eq]; first | done | rfl
noncomputable def ent0 : Entry := fun args blks k _ => match args, blks with
  | [d0], [] => aInt IntKind.i64 d0 fun x0 => f x0 (fun y0 => k (.v (.string y0)) [])
  | _, _ => False
noncomputable def ent : Entry := fun args blks k kp => ent0 (convB [.no] args) blks k kp
theorem ok : EntOk Try.prog 0 0 44 ent := by
  refine EntOk.convB (EntOk.of (funW_ok (cfg := cfg) (tyOk_of rfl rfl tyL_ok) (eqOk_of (P := Try.prog) rfl rfl (by kernel_rfl)) mixed_ok (tab_ok ?_) Try.func44 (by rfl) (by rfl)) ?_) _
  · intro p hp
    cases hp
  · intro args blks k kp h k' kp'
    match args, blks, h with
    | [d0], [], h =>
    dsimp only [ent0] at h
    have h9 := aInt_elim h; clear h; obtain ⟨x0, rfl, h⟩ := h9
    exact (f_eq k' kp' x0).symm
end N44
end Go.Proofs.Yu
namespace Go.Proofs.Yu
open Go Go.Aw Go.Proofs
set_option linter.unusedVariables false
set_option linter.unusedSimpArgs false
set_option maxRecDepth 100000
/-! dyehouse/obs.numbers -/
namespace N76
noncomputable def cfg : Cfg := { P := Try.prog, ty := tys, E := tab [(62, N62.ent), (75, N75.ent), (67, N67.ent)], atSeq := tab [(7, ⟨[(3, .keep)]⟩)], atLoop := tab [(3, ⟨[(3, .keep), (6, .keep), (7, .keep), (8, .keep)]⟩)], outs := [], eqT := tab [], bT := tab [(81, 5)] }
noncomputable def body : Code := bodyOf Try.f76
def l3 (j7 : ByteArray → Prop) (ag3 : Int → ByteArray → Prop) (x6 : (List Int)) (x7 : Int) (x8 : Int) (b0 : ByteArray) (k : ByteArray → Prop) : Prop :=
  (br (decide (x8 < x7)) ((inB 0 x8 ((((x6).length : Nat) : Int) - 1)) ∧ (N62.f (x6.getD (Int.toNat x8) (0)) (fun (y0_0 : ByteArray) => ((((ByteArray.mk #[32])).size + (y0_0).size ≤ 9223372036854775807) ∧ (ws ((ByteArray.mk #[32]) ++ y0_0) b0 (fun (y_1 : Int) (z_1 : ByteArray) => (ag3 (IntKind.i64.wrap (x8 + (1 : Int))) z_1))))))) (j7 b0))
def j7 (b0 : ByteArray) (k : ByteArray → Prop) : Prop :=
  (bs b0 (fun (y_2 : ByteArray) => (k y_2)))
def c (l3 : (List Int) → Int → Int → ByteArray → Prop) (x0 : (List Int)) (k : ByteArray → Prop) : Prop :=
  (l3 x0 ((((x0).length : Nat) : Int)) (0 : Int) ByteArray.empty)
def j7' (b0 : ByteArray) (k : ByteArray → Prop) : Prop := j7 b0 k
def l3' (x6 : (List Int)) (x7 : Int) (x8 : Int) (b0 : ByteArray) (k : ByteArray → Prop) : Prop := ∃ n, loopS (fun (ag : (Int × ByteArray) → Prop) (s : Int × ByteArray) => l3 (fun b0 => j7' b0 k) (fun x8 b0 => ag (x8, b0)) x6 x7 s.1 s.2 k) n (x8, b0)
def f0 (x0 : (List Int)) (k : ByteArray → Prop) : Prop := c (fun x6 x7 x8 b0 => l3' x6 x7 x8 b0 k) x0 k
theorem f_ex : ∃ g : (List Int) → (ByteArray → Prop) → Prop, g = f0 := ⟨_, rfl⟩
noncomputable def f : (List Int) → (ByteArray → Prop) → Prop := Classical.choose f_ex
theorem f_def : f = f0 := Classical.choose_spec f_ex
def mL3 (x6 : (List Int)) (x7 : Int) (x8 : Int) (b0 : ByteArray) : St := { tmps := mkT 18 0 [(3, (.ptr 0 0)), (6, (.fz (Ty.int IntKind.i64) x6)), (7, (.v (.int IntKind.i64 x7))), (8, (.v (.int IntKind.i64 x8)))], hp := [(.bld 81 5 b0)], m := 0 }
def m7 (b0 : ByteArray) : St := { tmps := mkT 18 0 [(3, (.ptr 0 0))], hp := [(.bld 81 5 b0)], m := 0 }
noncomputable def YL3 (k kp : D → List Blk → Prop) : (St → Prop) → St → Prop := loopB cfg (sub [1, 1, 0, 1, 0, 0] body) (contK cfg (pick none' []) [1, 1, 0, 1, 0] body (topK cfg Try.f76 k kp))
noncomputable def XL3 (k kp : D → List Blk → Prop) : St → Prop := fun st => ∃ n, loopN (YL3 k kp) n st
noncomputable def X7 (k kp : D → List Blk → Prop) : St → Prop := atP cfg (pick none' []) [1, 1, 1] body (topK cfg Try.f76 k kp)
noncomputable def JJ_3 (k kp : D → List Blk → Prop) (ag3 : St → Prop) : Nat → St → Prop := pick none' [(7, X7 k kp)]
noncomputable def LL_3 (k kp : D → List Blk → Prop) (ag3 : St → Prop) : Nat → St → Prop := pick none' [(3, XL3 k kp)]
noncomputable def JJ (k kp : D → List Blk → Prop) : Nat → St → Prop := pick none' [(7, X7 k kp)]
noncomputable def LL (k kp : D → List Blk → Prop) : Nat → St → Prop := pick none' [(3, XL3 k kp)]
theorem j7_c (k kp : D → List Blk → Prop) (J L : Nat → St → Prop) (b0 : ByteArray) : runC cfg 7 J L (pick none' []) [1, 1, 1] body (topK cfg Try.f76 k kp) (m7 b0) = j7 b0 (fun y0 => k (.v (.string y0)) []) := by kernel_rfl
theorem j7_ag (k kp : D → List Blk → Prop) : agPL cfg 7 (JJ k kp) (LL k kp) [1, 1, 1] body = agPR cfg 7 (pick none' []) [1, 1, 1] body (topK cfg Try.f76 k kp) := by kernel_rfl
theorem j7_raw (k kp : D → List Blk → Prop) (b0 : ByteArray) : X7 k kp (m7 b0) = j7 b0 (fun y0 => k (.v (.string y0)) []) :=
  Eq.mp (by kernel_rfl) ((atP_run (j7_ag k kp) (m7 b0)).trans (j7_c k kp (JJ k kp) (LL k kp) b0))
theorem j7_eq (k kp : D → List Blk → Prop) (b0 : ByteArray) : X7 k kp (m7 b0) = j7' b0 (fun y0 => k (.v (.string y0)) []) := by
  rw [j7_raw]; rfl
theorem l3_c (k kp : D → List Blk → Prop) (J L : Nat → St → Prop) (ag3 : St → Prop) (x6 : (List Int)) (x7 : Int) (x8 : Int) (b0 : ByteArray) : runC cfg 1000001 J L (pick none' [(3, ag3)]) [1, 1, 0, 1, 0, 0] body (topK cfg Try.f76 k kp) (mL3 x6 x7 x8 b0) = l3 (fun b0 => J 7 (m7 b0)) (fun x8 b0 => ag3 (mL3 x6 x7 x8 b0)) x6 x7 x8 b0 (fun y0 => k (.v (.string y0)) []) := by kernel_rfl
theorem l3_ag (k kp : D → List Blk → Prop) (ag3 : St → Prop) : agPL cfg 1000001 (JJ_3 k kp ag3) (LL_3 k kp ag3) [1, 1, 0, 1, 0, 0] body = agPR cfg 1000001 (pick none' [(3, ag3)]) [1, 1, 0, 1, 0, 0] body (topK cfg Try.f76 k kp) := by kernel_rfl
theorem l3_raw (k kp : D → List Blk → Prop) (ag3 : St → Prop) (x6 : (List Int)) (x7 : Int) (x8 : Int) (b0 : ByteArray) : YL3 k kp ag3 (mL3 x6 x7 x8 b0) = l3 (fun b0 => X7 k kp (m7 b0)) (fun x8 b0 => ag3 (mL3 x6 x7 x8 b0)) x6 x7 x8 b0 (fun y0 => k (.v (.string y0)) []) :=
  Eq.mp (by kernel_rfl) ((atP_run (l3_ag k kp ag3) (mL3 x6 x7 x8 b0)).trans (l3_c k kp (JJ_3 k kp ag3) (LL_3 k kp ag3) ag3 x6 x7 x8 b0))
theorem l3_eq (k kp : D → List Blk → Prop) (x6 : (List Int)) (x7 : Int) (x8 : Int) (b0 : ByteArray) : XL3 k kp (mL3 x6 x7 x8 b0) = l3' x6 x7 x8 b0 (fun y0 => k (.v (.string y0)) []) :=
  loop_eq (mk := fun (s : Int × ByteArray) => mL3 x6 x7 s.1 s.2) (fun again s => by rw [l3_raw k kp again x6 x7 s.1 s.2]; simp only [j7_eq]; first | done | rfl) (x8, b0)
theorem c_c (k kp : D → List Blk → Prop) (J L : Nat → St → Prop) (x0 : (List Int)) : runC cfg 1000001 J L none'' [] body (topK cfg Try.f76 k kp) (st0 Try.f76 [(.fz (Ty.int IntKind.i64) x0)] []) = c (fun x6 x7 x8 b0 => L 3 (mL3 x6 x7 x8 b0)) x0 (fun y0 => k (.v (.string y0)) []) := by kernel_rfl
theorem c_ag (k kp : D → List Blk → Prop) : agPL cfg 1000001 (JJ k kp) (LL k kp) [] body = agPR cfg 1000001 none'' [] body (topK cfg Try.f76 k kp) := by kernel_rfl
theorem body_is : Try.f76.body = some body := by kernel_rfl
theorem c_raw (k kp : D → List Blk → Prop) (x0 : (List Int)) : funW cfg Try.f76 [(.fz (Ty.int IntKind.i64) x0)] [] k kp = c (fun x6 x7 x8 b0 => XL3 k kp (mL3 x6 x7 x8 b0)) x0 (fun y0 => k (.v (.string y0)) []) :=
  Eq.mp (by kernel_rfl) ((funW_run (AG := none'') body_is (c_ag k kp) [(.fz (Ty.int IntKind.i64) x0)] []).trans (c_c k kp (JJ k kp) (LL k kp) x0))
theorem f_eq (k kp : D → List Blk → Prop) (x0 : (List Int)) : funW cfg Try.f76 [(.fz (Ty.int IntKind.i64) x0)] [] k kp = f x0 (fun y0 => k (.v (.string y0)) []) := by
  rw [f_def, c_raw]; simp only [l3_eq]; first | done | rfl
noncomputable def ent0 : Entry := fun args blks k _ => match args, blks with
  | [d0], [] => aFz (Ty.int IntKind.i64) d0 fun x0 => f x0 (fun y0 => k (.v (.string y0)) [])
  | _, _ => False
noncomputable def ent : Entry := fun args blks k kp => ent0 (convB [.one (Ty.int IntKind.i64)] args) blks k kp
theorem ok : EntOk Try.prog 0 0 76 ent := by
  refine EntOk.convB (EntOk.of (funW_ok (cfg := cfg) (tyOk_of rfl rfl tyL_ok) (eqOk_of (P := Try.prog) rfl rfl (by kernel_rfl)) mixed_ok (tab_ok ?_) Try.func76 (by rfl) (by rfl)) ?_) _
  · intro p hp
    simp only [List.mem_cons, List.not_mem_nil, or_false] at hp
    rcases hp with rfl | rfl | rfl
    · exact N62.ok
    · exact N75.ok
    · exact N67.ok
  · intro args blks k kp h k' kp'
    match args, blks, h with
    | [d0], [], h =>
    dsimp only [ent0] at h
    have h9 := aFz_elim (t := (Ty.int IntKind.i64)) h; clear h; obtain ⟨x0, rfl, h⟩ := h9
    exact (f_eq k' kp' x0).symm
end N76
end Go.Proofs.Yu
namespace Go.Proofs.Yu
open Go Go.Aw Go.Proofs
set_option linter.unusedVariables false
set_option linter.unusedSimpArgs false
set_option maxRecDepth 100000
/-! dyehouse/obs.Text -/
namespace N42
noncomputable def cfg : Cfg := { P := Try.prog, ty := tys, E := tab [(30, N30.ent), (76, N76.ent), (75, N75.ent), (44, N44.ent), (67, N67.ent)], atSeq := tab [(7, ⟨[(1, .keep), (3, .keep)]⟩), (10, ⟨[(1, .keep), (3, .keep), (6, .keep)]⟩)], atLoop := tab [(3, ⟨[(1, .keep), (3, .keep), (8, .keep), (9, .keep), (10, .keep)]⟩)], outs := [], eqT := tab [], bT := tab [(81, 5)], fzB := [1] }
noncomputable def body : Code := bodyOf Try.f42
def l3 (j7 : (List (ByteArray × (List Int))) → Int → Int → (List Int) → Int → ByteArray → Prop) (ag3 : Int → ByteArray → Prop) (x1_0 : (List (ByteArray × (List Int)))) (x1_1 : Int) (x1_2 : Int) (x1_3 : (List Int)) (x1_4 : Int) (x8 : (List (ByteArray × (List Int)))) (x9 : Int) (x10 : Int) (b0 : ByteArray) (k : ByteArray → Prop) : Prop :=
  (br (decide (x10 < x9)) ((inB 0 x10 ((((x8).length : Nat) : Int) - 1)) ∧ (N30.f (x8.getD (Int.toNat x10) ((ByteArray.empty, ([] : List Int)))).1 (fun (y0_0 : ByteArray) => ((((ByteArray.mk #[99, 97, 108, 108, 32])).size + (y0_0).size ≤ 9223372036854775807) ∧ (N76.f (x8.getD (Int.toNat x10) ((ByteArray.empty, ([] : List Int)))).2 (fun (y0_1 : ByteArray) => (((((ByteArray.mk #[99, 97, 108, 108, 32]) ++ y0_0)).size + (y0_1).size ≤ 9223372036854775807) ∧ ((((((ByteArray.mk #[99, 97, 108, 108, 32]) ++ y0_0) ++ y0_1)).size + ((ByteArray.mk #[10])).size ≤ 9223372036854775807) ∧ (ws ((((ByteArray.mk #[99, 97, 108, 108, 32]) ++ y0_0) ++ y0_1) ++ (ByteArray.mk #[10])) b0 (fun (y_2 : Int) (z_2 : ByteArray) => (ag3 (IntKind.i64.wrap (x10 + (1 : Int))) z_2))))))))))) (j7 x1_0 x1_1 x1_2 x1_3 x1_4 b0))
def j7 (j10 : (List (ByteArray × (List Int))) → Int → Int → (List Int) → Int → ByteArray → ByteArray → Prop) (x1_0 : (List (ByteArray × (List Int)))) (x1_1 : Int) (x1_2 : Int) (x1_3 : (List Int)) (x1_4 : Int) (b0 : ByteArray) (k : ByteArray → Prop) : Prop :=
  (N44.f x1_1 (fun (y0_3 : ByteArray) => (br (beqS y0_3 (ByteArray.mk #[])) (j10 x1_0 x1_1 x1_2 x1_3 x1_4 (ByteArray.mk #[63]) b0) (j10 x1_0 x1_1 x1_2 x1_3 x1_4 y0_3 b0))))
def j10 (x1_0 : (List (ByteArray × (List Int)))) (x1_1 : Int) (x1_2 : Int) (x1_3 : (List Int)) (x1_4 : Int) (x6 : ByteArray) (b0 : ByteArray) (k : ByteArray → Prop) : Prop :=
  ((((ByteArray.mk #[101, 110, 100, 32])).size + (x6).size ≤ 9223372036854775807) ∧ (N76.f ([x1_1, x1_2] : List Int) (fun (y0_4 : ByteArray) => (((((ByteArray.mk #[101, 110, 100, 32]) ++ x6)).size + (y0_4).size ≤ 9223372036854775807) ∧ ((((((ByteArray.mk #[101, 110, 100, 32]) ++ x6) ++ y0_4)).size + ((ByteArray.mk #[10])).size ≤ 9223372036854775807) ∧ (ws ((((ByteArray.mk #[101, 110, 100, 32]) ++ x6) ++ y0_4) ++ (ByteArray.mk #[10])) b0 (fun (y_5 : Int) (z_5 : ByteArray) => (N76.f x1_3 (fun (y0_6 : ByteArray) => ((((ByteArray.mk #[109, 101, 109])).size + (y0_6).size ≤ 9223372036854775807) ∧ (((((ByteArray.mk #[109, 101, 109]) ++ y0_6)).size + ((ByteArray.mk #[10])).size ≤ 9223372036854775807) ∧ (ws (((ByteArray.mk #[109, 101, 109]) ++ y0_6) ++ (ByteArray.mk #[10])) z_5 (fun (y_7 : Int) (z_7 : ByteArray) => (N76.f ([x1_4] : List Int) (fun (y0_8 : ByteArray) => ((((ByteArray.mk #[108, 101, 102, 116])).size + (y0_8).size ≤ 9223372036854775807) ∧ (((((ByteArray.mk #[108, 101, 102, 116]) ++ y0_8)).size + ((ByteArray.mk #[10])).size ≤ 9223372036854775807) ∧ (ws (((ByteArray.mk #[108, 101, 102, 116]) ++ y0_8) ++ (ByteArray.mk #[10])) z_7 (fun (y_9 : Int) (z_9 : ByteArray) => (bs z_9 (fun (y_10 : ByteArray) => (k y_10))))))))))))))))))))))
def c (l3 : (List (ByteArray × (List Int))) → Int → Int → (List Int) → Int → (List (ByteArray × (List Int))) → Int → Int → ByteArray → Prop) (x0_0 : (List (ByteArray × (List Int)))) (x0_1 : Int) (x0_2 : Int) (x0_3 : (List Int)) (x0_4 : Int) (k : ByteArray → Prop) : Prop :=
  (l3 x0_0 x0_1 x0_2 x0_3 x0_4 x0_0 ((((x0_0).length : Nat) : Int)) (0 : Int) ByteArray.empty)
def j10' (x1_0 : (List (ByteArray × (List Int)))) (x1_1 : Int) (x1_2 : Int) (x1_3 : (List Int)) (x1_4 : Int) (x6 : ByteArray) (b0 : ByteArray) (k : ByteArray → Prop) : Prop := j10 x1_0 x1_1 x1_2 x1_3 x1_4 x6 b0 k
def j7' (x1_0 : (List (ByteArray × (List Int)))) (x1_1 : Int) (x1_2 : Int) (x1_3 : (List Int)) (x1_4 : Int) (b0 : ByteArray) (k : ByteArray → Prop) : Prop := j7 (fun x1_0 x1_1 x1_2 x1_3 x1_4 x6 b0 => j10' x1_0 x1_1 x1_2 x1_3 x1_4 x6 b0 k) x1_0 x1_1 x1_2 x1_3 x1_4 b0 k
def l3' (x1_0 : (List (ByteArray × (List Int)))) (x1_1 : Int) (x1_2 : Int) (x1_3 : (List Int)) (x1_4 : Int) (x8 : (List (ByteArray × (List Int)))) (x9 : Int) (x10 : Int) (b0 : ByteArray) (k : ByteArray → Prop) : Prop := ∃ n, loopS (fun (ag : (Int × ByteArray) → Prop) (s : Int × ByteArray) => l3 (fun x1_0 x1_1 x1_2 x1_3 x1_4 b0 => j7' x1_0 x1_1 x1_2 x1_3 x1_4 b0 k) (fun x10 b0 => ag (x10, b0)) x1_0 x1_1 x1_2 x1_3 x1_4 x8 x9 s.1 s.2 k) n (x10, b0)
def f0 (x0_0 : (List (ByteArray × (List Int)))) (x0_1 : Int) (x0_2 : Int) (x0_3 : (List Int)) (x0_4 : Int) (k : ByteArray → Prop) : Prop := c (fun x1_0 x1_1 x1_2 x1_3 x1_4 x8 x9 x10 b0 => l3' x1_0 x1_1 x1_2 x1_3 x1_4 x8 x9 x10 b0 k) x0_0 x0_1 x0_2 x0_3 x0_4 k
theorem f_ex : ∃ g : (List (ByteArray × (List Int))) → Int → Int → (List Int) → Int → (ByteArray → Prop) → Prop, g = f0 := ⟨_, rfl⟩
noncomputable def f : (List (ByteArray × (List Int))) → Int → Int → (List Int) → Int → (ByteArray → Prop) → Prop := Classical.choose f_ex
theorem f_def : f = f0 := Classical.choose_spec f_ex
def mL3 (x1_0 : (List (ByteArray × (List Int)))) (x1_1 : Int) (x1_2 : Int) (x1_3 : (List Int)) (x1_4 : Int) (x8 : (List (ByteArray × (List Int)))) (x9 : Int) (x10 : Int) (b0 : ByteArray) : St := { tmps := mkT 55 0 [(1, (.fp [(.fz (Ty.pair Ty.str (Ty.list (Ty.int IntKind.i64))) x1_0), (.v (.int IntKind.i64 x1_1)), (.v (.int IntKind.i64 x1_2)), (.fz (Ty.int IntKind.i64) x1_3), (.v (.int IntKind.i64 x1_4))])), (3, (.ptr 0 0)), (8, (.fz (Ty.pair Ty.str (Ty.list (Ty.int IntKind.i64))) x8)), (9, (.v (.int IntKind.i64 x9))), (10, (.v (.int IntKind.i64 x10)))], hp := [(.bld 81 5 b0)], m := 0 }
def m7 (x1_0 : (List (ByteArray × (List Int)))) (x1_1 : Int) (x1_2 : Int) (x1_3 : (List Int)) (x1_4 : Int) (b0 : ByteArray) : St := { tmps := mkT 55 0 [(1, (.fp [(.fz (Ty.pair Ty.str (Ty.list (Ty.int IntKind.i64))) x1_0), (.v (.int IntKind.i64 x1_1)), (.v (.int IntKind.i64 x1_2)), (.fz (Ty.int IntKind.i64) x1_3), (.v (.int IntKind.i64 x1_4))])), (3, (.ptr 0 0))], hp := [(.bld 81 5 b0)], m := 0 }
def m10 (x1_0 : (List (ByteArray × (List Int)))) (x1_1 : Int) (x1_2 : Int) (x1_3 : (List Int)) (x1_4 : Int) (x6 : ByteArray) (b0 : ByteArray) : St := { tmps := mkT 55 0 [(1, (.fp [(.fz (Ty.pair Ty.str (Ty.list (Ty.int IntKind.i64))) x1_0), (.v (.int IntKind.i64 x1_1)), (.v (.int IntKind.i64 x1_2)), (.fz (Ty.int IntKind.i64) x1_3), (.v (.int IntKind.i64 x1_4))])), (3, (.ptr 0 0)), (6, (.v (.string x6)))], hp := [(.bld 81 5 b0)], m := 0 }
noncomputable def YL3 (k kp : D → List Blk → Prop) : (St → Prop) → St → Prop := loopB cfg (sub [1, 1, 0, 1, 0, 0] body) (contK cfg (pick none' []) [1, 1, 0, 1, 0] body (topK cfg Try.f42 k kp))
noncomputable def XL3 (k kp : D → List Blk → Prop) : St → Prop := fun st => ∃ n, loopN (YL3 k kp) n st
noncomputable def X7 (k kp : D → List Blk → Prop) : St → Prop := atP cfg (pick none' []) [1, 1, 1] body (topK cfg Try.f42 k kp)
noncomputable def X10 (k kp : D → List Blk → Prop) : St → Prop := atP cfg (pick none' []) [1, 1, 1, 1, 1] body (topK cfg Try.f42 k kp)
noncomputable def JJ_3 (k kp : D → List Blk → Prop) (ag3 : St → Prop) : Nat → St → Prop := pick none' [(7, X7 k kp), (10, X10 k kp)]
noncomputable def LL_3 (k kp : D → List Blk → Prop) (ag3 : St → Prop) : Nat → St → Prop := pick none' [(3, XL3 k kp)]
noncomputable def JJ (k kp : D → List Blk → Prop) : Nat → St → Prop := pick none' [(7, X7 k kp), (10, X10 k kp)]
noncomputable def LL (k kp : D → List Blk → Prop) : Nat → St → Prop := pick none' [(3, XL3 k kp)]
theorem j10_c (k kp : D → List Blk → Prop) (J L : Nat → St → Prop) (x1_0 : (List (ByteArray × (List Int)))) (x1_1 : Int) (x1_2 : Int) (x1_3 : (List Int)) (x1_4 : Int) (x6 : ByteArray) (b0 : ByteArray) : runC cfg 10 J L (pick none' []) [1, 1, 1, 1, 1] body (topK cfg Try.f42 k kp) (m10 x1_0 x1_1 x1_2 x1_3 x1_4 x6 b0) = j10 x1_0 x1_1 x1_2 x1_3 x1_4 x6 b0 (fun y0 => k (.v (.string y0)) []) := by kernel_rfl
theorem j10_ag (k kp : D → List Blk → Prop) : agPL cfg 10 (JJ k kp) (LL k kp) [1, 1, 1, 1, 1] body = agPR cfg 10 (pick none' []) [1, 1, 1, 1, 1] body (topK cfg Try.f42 k kp) := by kernel_rfl
theorem j10_raw (k kp : D → List Blk → Prop) (x1_0 : (List (ByteArray × (List Int)))) (x1_1 : Int) (x1_2 : Int) (x1_3 : (List Int)) (x1_4 : Int) (x6 : ByteArray) (b0 : ByteArray) : X10 k kp (m10 x1_0 x1_1 x1_2 x1_3 x1_4 x6 b0) = j10 x1_0 x1_1 x1_2 x1_3 x1_4 x6 b0 (fun y0 => k (.v (.string y0)) []) :=
  Eq.mp (by kernel_rfl) ((atP_run (j10_ag k kp) (m10 x1_0 x1_1 x1_2 x1_3 x1_4 x6 b0)).trans (j10_c k kp (JJ k kp) (LL k kp) x1_0 x1_1 x1_2 x1_3 x1_4 x6 b0))
theorem j10_eq (k kp : D → List Blk → Prop) (x1_0 : (List (ByteArray × (List Int)))) (x1_1 : Int) (x1_2 : Int) (x1_3 : (List Int)) (x1_4 : Int) (x6 : ByteArray) (b0 : ByteArray) : X10 k kp (m10 x1_0 x1_1 x1_2 x1_3 x1_4 x6 b0) = j10' x1_0 x1_1 x1_2 x1_3 x1_4 x6 b0 (fun y0 => k (.v (.string y0)) []) := by
  rw [j10_raw]; rfl
theorem j7_c (k kp : D → List Blk → Prop) (J L : Nat → St → Prop) (x1_0 : (List (ByteArray × (List Int)))) (x1_1 : Int) (x1_2 : Int) (x1_3 : (List Int)) (x1_4 : Int) (b0 : ByteArray) : runC cfg 7 J L (pick none' []) [1, 1, 1] body (topK cfg Try.f42 k kp) (m7 x1_0 x1_1 x1_2 x1_3 x1_4 b0) = j7 (fun x1_0 x1_1 x1_2 x1_3 x1_4 x6 b0 => J 10 (m10 x1_0 x1_1 x1_2 x1_3 x1_4 x6 b0)) x1_0 x1_1 x1_2 x1_3 x1_4 b0 (fun y0 => k (.v (.string y0)) []) := by kernel_rfl
theorem j7_ag (k kp : D → List Blk → Prop) : agPL cfg 7 (JJ k kp) (LL k kp) [1, 1, 1] body = agPR cfg 7 (pick none' []) [1, 1, 1] body (topK cfg Try.f42 k kp) := by kernel_rfl
theorem j7_raw (k kp : D → List Blk → Prop) (x1_0 : (List (ByteArray × (List Int)))) (x1_1 : Int) (x1_2 : Int) (x1_3 : (List Int)) (x1_4 : Int) (b0 : ByteArray) : X7 k kp (m7 x1_0 x1_1 x1_2 x1_3 x1_4 b0) = j7 (fun x1_0 x1_1 x1_2 x1_3 x1_4 x6 b0 => X10 k kp (m10 x1_0 x1_1 x1_2 x1_3 x1_4 x6 b0)) x1_0 x1_1 x1_2 x1_3 x1_4 b0 (fun y0 => k (.v (.string y0)) []) :=
  Eq.mp (by kernel_rfl) ((atP_run (j7_ag k kp) (m7 x1_0 x1_1 x1_2 x1_3 x1_4 b0)).trans (j7_c k kp (JJ k kp) (LL k kp) x1_0 x1_1 x1_2 x1_3 x1_4 b0))
theorem j7_eq (k kp : D → List Blk → Prop) (x1_0 : (List (ByteArray × (List Int)))) (x1_1 : Int) (x1_2 : Int) (x1_3 : (List Int)) (x1_4 : Int) (b0 : ByteArray) : X7 k kp (m7 x1_0 x1_1 x1_2 x1_3 x1_4 b0) = j7' x1_0 x1_1 x1_2 x1_3 x1_4 b0 (fun y0 => k (.v (.string y0)) []) := by
  rw [j7_raw]; simp only [j10_eq]; first | done | rfl
theorem l3_c (k kp : D → List Blk → Prop) (J L : Nat → St → Prop) (ag3 : St → Prop) (x1_0 : (List (ByteArray × (List Int)))) (x1_1 : Int) (x1_2 : Int) (x1_3 : (List Int)) (x1_4 : Int) (x8 : (List (ByteArray × (List Int)))) (x9 : Int) (x10 : Int) (b0 : ByteArray) : runC cfg 1000001 J L (pick none' [(3, ag3)]) [1, 1, 0, 1, 0, 0] body (topK cfg Try.f42 k kp) (mL3 x1_0 x1_1 x1_2 x1_3 x1_4 x8 x9 x10 b0) = l3 (fun x1_0 x1_1 x1_2 x1_3 x1_4 b0 => J 7 (m7 x1_0 x1_1 x1_2 x1_3 x1_4 b0)) (fun x10 b0 => ag3 (mL3 x1_0 x1_1 x1_2 x1_3 x1_4 x8 x9 x10 b0)) x1_0 x1_1 x1_2 x1_3 x1_4 x8 x9 x10 b0 (fun y0 => k (.v (.string y0)) []) := by kernel_rfl
theorem l3_ag (k kp : D → List Blk → Prop) (ag3 : St → Prop) : agPL cfg 1000001 (JJ_3 k kp ag3) (LL_3 k kp ag3) [1, 1, 0, 1, 0, 0] body = agPR cfg 1000001 (pick none' [(3, ag3)]) [1, 1, 0, 1, 0, 0] body (topK cfg Try.f42 k kp) := by kernel_rfl
theorem l3_raw (k kp : D → List Blk → Prop) (ag3 : St → Prop) (x1_0 : (List (ByteArray × (List Int)))) (x1_1 : Int) (x1_2 : Int) (x1_3 : (List Int)) (x1_4 : Int) (x8 : (List (ByteArray × (List Int)))) (x9 : Int) (x10 : Int) (b0 : ByteArray) : YL3 k kp ag3 (mL3 x1_0 x1_1 x1_2 x1_3 x1_4 x8 x9 x10 b0) = l3 (fun x1_0 x1_1 x1_2 x1_3 x1_4 b0 => X7 k kp (m7 x1_0 x1_1 x1_2 x1_3 x1_4 b0)) (fun x10 b0 => ag3 (mL3 x1_0 x1_1 x1_2 x1_3 x1_4 x8 x9 x10 b0)) x1_0 x1_1 x1_2 x1_3 x1_4 x8 x9 x10 b0 (fun y0 => k (.v (.string y0)) []) :=
  Eq.mp (by kernel_rfl) ((atP_run (l3_ag k kp ag3) (mL3 x1_0 x1_1 x1_2 x1_3 x1_4 x8 x9 x10 b0)).trans (l3_c k kp (JJ_3 k kp ag3) (LL_3 k kp ag3) ag3 x1_0 x1_1 x1_2 x1_3 x1_4 x8 x9 x10 b0))
theorem l3_eq (k kp : D → List Blk → Prop) (x1_0 : (List (ByteArray × (List Int)))) (x1_1 : Int) (x1_2 : Int) (x1_3 : (List Int)) (x1_4 : Int) (x8 : (List (ByteArray × (List Int)))) (x9 : Int) (x10 : Int) (b0 : ByteArray) : XL3 k kp (mL3 x1_0 x1_1 x1_2 x1_3 x1_4 x8 x9 x10 b0) = l3' x1_0 x1_1 x1_2 x1_3 x1_4 x8 x9 x10 b0 (fun y0 => k (.v (.string y0)) []) :=
  loop_eq (mk := fun (s : Int × ByteArray) => mL3 x1_0 x1_1 x1_2 x1_3 x1_4 x8 x9 s.1 s.2) (fun again s => by rw [l3_raw k kp again x1_0 x1_1 x1_2 x1_3 x1_4 x8 x9 s.1 s.2]; simp only [j7_eq]; first | done | rfl) (x10, b0)
theorem c_c (k kp : D → List Blk → Prop) (J L : Nat → St → Prop) (x0_0 : (List (ByteArray × (List Int)))) (x0_1 : Int) (x0_2 : Int) (x0_3 : (List Int)) (x0_4 : Int) : runC cfg 1000001 J L none'' [] body (topK cfg Try.f42 k kp) (st0 Try.f42 [(.agg [(.fz (Ty.pair Ty.str (Ty.list (Ty.int IntKind.i64))) x0_0), (.v (.int IntKind.i64 x0_1)), (.v (.int IntKind.i64 x0_2)), (.fz (Ty.int IntKind.i64) x0_3), (.v (.int IntKind.i64 x0_4))])] []) = c (fun x1_0 x1_1 x1_2 x1_3 x1_4 x8 x9 x10 b0 => L 3 (mL3 x1_0 x1_1 x1_2 x1_3 x1_4 x8 x9 x10 b0)) x0_0 x0_1 x0_2 x0_3 x0_4 (fun y0 => k (.v (.string y0)) []) := by kernel_rfl
theorem c_ag (k kp : D → List Blk → Prop) : agPL cfg 1000001 (JJ k kp) (LL k kp) [] body = agPR cfg 1000001 none'' [] body (topK cfg Try.f42 k kp) := by kernel_rfl
theorem body_is : Try.f42.body = some body := by kernel_rfl
theorem c_raw (k kp : D → List Blk → Prop) (x0_0 : (List (ByteArray × (List Int)))) (x0_1 : Int) (x0_2 : Int) (x0_3 : (List Int)) (x0_4 : Int) : funW cfg Try.f42 [(.agg [(.fz (Ty.pair Ty.str (Ty.list (Ty.int IntKind.i64))) x0_0), (.v (.int IntKind.i64 x0_1)), (.v (.int IntKind.i64 x0_2)), (.fz (Ty.int IntKind.i64) x0_3), (.v (.int IntKind.i64 x0_4))])] [] k kp = c (fun x1_0 x1_1 x1_2 x1_3 x1_4 x8 x9 x10 b0 => XL3 k kp (mL3 x1_0 x1_1 x1_2 x1_3 x1_4 x8 x9 x10 b0)) x0_0 x0_1 x0_2 x0_3 x0_4 (fun y0 => k (.v (.string y0)) []) :=
  Eq.mp (by kernel_rfl) ((funW_run (AG := none'') body_is (c_ag k kp) [(.agg [(.fz (Ty.pair Ty.str (Ty.list (Ty.int IntKind.i64))) x0_0), (.v (.int IntKind.i64 x0_1)), (.v (.int IntKind.i64 x0_2)), (.fz (Ty.int IntKind.i64) x0_3), (.v (.int IntKind.i64 x0_4))])] []).trans (c_c k kp (JJ k kp) (LL k kp) x0_0 x0_1 x0_2 x0_3 x0_4))
theorem f_eq (k kp : D → List Blk → Prop) (x0_0 : (List (ByteArray × (List Int)))) (x0_1 : Int) (x0_2 : Int) (x0_3 : (List Int)) (x0_4 : Int) : funW cfg Try.f42 [(.agg [(.fz (Ty.pair Ty.str (Ty.list (Ty.int IntKind.i64))) x0_0), (.v (.int IntKind.i64 x0_1)), (.v (.int IntKind.i64 x0_2)), (.fz (Ty.int IntKind.i64) x0_3), (.v (.int IntKind.i64 x0_4))])] [] k kp = f x0_0 x0_1 x0_2 x0_3 x0_4 (fun y0 => k (.v (.string y0)) []) := by
  rw [f_def, c_raw]; simp only [l3_eq]; first | done | rfl
noncomputable def ent0 : Entry := fun args blks k _ => match args, blks with
  | [d0], [] => aAgg 5 d0 fun l => aCons l fun d0_0 l => aCons l fun d0_1 l => aCons l fun d0_2 l => aCons l fun d0_3 l => aCons l fun d0_4 l => aNil l (aFz (Ty.pair Ty.str (Ty.list (Ty.int IntKind.i64))) d0_0 fun x0_0 => aInt IntKind.i64 d0_1 fun x0_1 => aInt IntKind.i64 d0_2 fun x0_2 => aFz (Ty.int IntKind.i64) d0_3 fun x0_3 => aInt IntKind.i64 d0_4 fun x0_4 => f x0_0 x0_1 x0_2 x0_3 x0_4 (fun y0 => k (.v (.string y0)) []))
  | _, _ => False
noncomputable def ent : Entry := fun args blks k kp => ent0 (convB [.cells [some (Ty.pair Ty.str (Ty.list (Ty.int IntKind.i64))), none, none, some (Ty.int IntKind.i64), none]] args) blks k kp
theorem ok : EntOk Try.prog 0 0 42 ent := by
  refine EntOk.convB (EntOk.of (funW_ok (cfg := cfg) (tyOk_of rfl rfl tyL_ok) (eqOk_of (P := Try.prog) rfl rfl (by kernel_rfl)) mixed_ok (tab_ok ?_) Try.func42 (by rfl) (by rfl)) ?_) _
  · intro p hp
    simp only [List.mem_cons, List.not_mem_nil, or_false] at hp
    rcases hp with rfl | rfl | rfl | rfl | rfl
    · exact N30.ok
    · exact N76.ok
    · exact N75.ok
    · exact N44.ok
    · exact N67.ok
  · intro args blks k kp h k' kp'
    match args, blks, h with
    | [d0], [], h =>
    dsimp only [ent0] at h
    have h9 := aAgg_elim h; clear h; obtain ⟨_, rfl, h⟩ := h9
    have h9 := aCons_elim h; clear h; obtain ⟨d0_0, _, rfl, h⟩ := h9
    have h9 := aCons_elim h; clear h; obtain ⟨d0_1, _, rfl, h⟩ := h9
    have h9 := aCons_elim h; clear h; obtain ⟨d0_2, _, rfl, h⟩ := h9
    have h9 := aCons_elim h; clear h; obtain ⟨d0_3, _, rfl, h⟩ := h9
    have h9 := aCons_elim h; clear h; obtain ⟨d0_4, _, rfl, h⟩ := h9
    have h9 := aNil_elim h; clear h; obtain ⟨rfl, h⟩ := h9
    have h9 := aFz_elim (t := (Ty.pair Ty.str (Ty.list (Ty.int IntKind.i64)))) h; clear h; obtain ⟨x0_0, rfl, h⟩ := h9
    have h9 := aInt_elim h; clear h; obtain ⟨x0_1, rfl, h⟩ := h9
    have h9 := aInt_elim h; clear h; obtain ⟨x0_2, rfl, h⟩ := h9
    have h9 := aFz_elim (t := (Ty.int IntKind.i64)) h; clear h; obtain ⟨x0_3, rfl, h⟩ := h9
    have h9 := aInt_elim h; clear h; obtain ⟨x0_4, rfl, h⟩ := h9
    exact (f_eq k' kp' x0_0 x0_1 x0_2 x0_3 x0_4).symm
end N42
end Go.Proofs.Yu
namespace Go.Proofs.Yu
open Go Go.Aw Go.Proofs
set_option linter.unusedVariables false
set_option linter.unusedSimpArgs false
set_option maxRecDepth 100000
/-! dyehouse/dyehouseref35.Ending -/
namespace N45
noncomputable def cfg : Cfg := { P := Try.prog, ty := tys, E := tab [], atSeq := tab [], atLoop := tab [], outs := [], eqT := tab [], bT := tab [] }
noncomputable def body : Code := bodyOf Try.f45
def c (x0 : Int) (k : ByteArray → Prop) : Prop :=
  (br (x0 == (0 : Int)) (k (ByteArray.mk #[114, 117, 110, 115])) (br (x0 == (1 : Int)) (k (ByteArray.mk #[114, 101, 116])) (br (x0 == (2 : Int)) (k (ByteArray.mk #[100, 105, 118])) (br (x0 == (3 : Int)) (k (ByteArray.mk #[109, 101, 109])) (br (x0 == (4 : Int)) (k (ByteArray.mk #[115, 99, 114, 105, 112, 116])) (br (x0 == (5 : Int)) (k (ByteArray.mk #[102, 117, 101, 108])) (k (ByteArray.mk #[]))))))))
def f0 (x0 : Int) (k : ByteArray → Prop) : Prop := c x0 k
theorem f_ex : ∃ g : Int → (ByteArray → Prop) → Prop, g = f0 := ⟨_, rfl⟩
noncomputable def f : Int → (ByteArray → Prop) → Prop := Classical.choose f_ex
theorem f_def : f = f0 := Classical.choose_spec f_ex
noncomputable def JJ (k kp : D → List Blk → Prop) : Nat → St → Prop := pick none' []
noncomputable def LL (k kp : D → List Blk → Prop) : Nat → St → Prop := pick none' []
theorem c_c (k kp : D → List Blk → Prop) (J L : Nat → St → Prop) (x0 : Int) : runC cfg 1000001 J L none'' [] body (topK cfg Try.f45 k kp) (st0 Try.f45 [(.v (.int IntKind.i64 x0))] []) = c x0 (fun y0 => k (.v (.string y0)) []) := by kernel_rfl
theorem c_ag (k kp : D → List Blk → Prop) : agPL cfg 1000001 (JJ k kp) (LL k kp) [] body = agPR cfg 1000001 none'' [] body (topK cfg Try.f45 k kp) := by kernel_rfl
theorem body_is : Try.f45.body = some body := by kernel_rfl
theorem c_raw (k kp : D → List Blk → Prop) (x0 : Int) : funW cfg Try.f45 [(.v (.int IntKind.i64 x0))] [] k kp = c x0 (fun y0 => k (.v (.string y0)) []) :=
  Eq.mp (by kernel_rfl) ((funW_run (AG := none'') body_is (c_ag k kp) [(.v (.int IntKind.i64 x0))] []).trans (c_c k kp (JJ k kp) (LL k kp) x0))
theorem f_eq (k kp : D → List Blk → Prop) (x0 : Int) : funW cfg Try.f45 [(.v (.int IntKind.i64 x0))] [] k kp = f x0 (fun y0 => k (.v (.string y0)) []) := by
  rw [f_def, c_raw]; rfl
noncomputable def ent0 : Entry := fun args blks k _ => match args, blks with
  | [d0], [] => aInt IntKind.i64 d0 fun x0 => f x0 (fun y0 => k (.v (.string y0)) [])
  | _, _ => False
noncomputable def ent : Entry := fun args blks k kp => ent0 (convB [.no] args) blks k kp
theorem ok : EntOk Try.prog 0 0 45 ent := by
  refine EntOk.convB (EntOk.of (funW_ok (cfg := cfg) (tyOk_of rfl rfl tyL_ok) (eqOk_of (P := Try.prog) rfl rfl (by kernel_rfl)) mixed_ok (tab_ok ?_) Try.func45 (by rfl) (by rfl)) ?_) _
  · intro p hp
    cases hp
  · intro args blks k kp h k' kp'
    match args, blks, h with
    | [d0], [], h =>
    dsimp only [ent0] at h
    have h9 := aInt_elim h; clear h; obtain ⟨x0, rfl, h⟩ := h9
    exact (f_eq k' kp' x0).symm
end N45
end Go.Proofs.Yu
namespace Go.Proofs.Yu
open Go Go.Aw Go.Proofs
set_option linter.unusedVariables false
set_option linter.unusedSimpArgs false
set_option maxRecDepth 100000
/-! dyehouse/dyehouseref35.numbers -/
namespace N77
noncomputable def cfg : Cfg := { P := Try.prog, ty := tys, E := tab [(63, N63.ent)], atSeq := tab [(6, ⟨[(3, .keep)]⟩)], atLoop := tab [(3, ⟨[(0, .keep), (3, .keep), (4, .keep)]⟩)], outs := [], eqT := tab [], bT := tab [] }
noncomputable def body : Code := bodyOf Try.f77
def l3 (j6 : ByteArray → Prop) (ag3 : ByteArray → Int → Prop) (x0 : (List Int)) (x3 : ByteArray) (x4 : Int) (k : ByteArray → Prop) : Prop :=
  (br (decide (x4 < ((((x0).length : Nat) : Int)))) (((x3).size + ((ByteArray.mk #[32])).size ≤ 9223372036854775807) ∧ ((inB 0 x4 ((((x0).length : Nat) : Int) - 1)) ∧ (N63.f (x0.getD (Int.toNat x4) (0)) (fun (y0_0 : ByteArray) => ((((x3 ++ (ByteArray.mk #[32]))).size + (y0_0).size ≤ 9223372036854775807) ∧ (ag3 ((x3 ++ (ByteArray.mk #[32])) ++ y0_0) (IntKind.i64.wrap (x4 + (1 : Int))))))))) (j6 x3))
def j6 (x3 : ByteArray) (k : ByteArray → Prop) : Prop :=
  (k x3)
def c (l3 : (List Int) → ByteArray → Int → Prop) (x0 : (List Int)) (k : ByteArray → Prop) : Prop :=
  (l3 x0 (ByteArray.mk #[]) (0 : Int))
def j6' (x3 : ByteArray) (k : ByteArray → Prop) : Prop := j6 x3 k
def l3' (x0 : (List Int)) (x3 : ByteArray) (x4 : Int) (k : ByteArray → Prop) : Prop := ∃ n, loopS (fun (ag : (ByteArray × Int) → Prop) (s : ByteArray × Int) => l3 (fun x3 => j6' x3 k) (fun x3 x4 => ag (x3, x4)) x0 s.1 s.2 k) n (x3, x4)
def f0 (x0 : (List Int)) (k : ByteArray → Prop) : Prop := c (fun x0 x3 x4 => l3' x0 x3 x4 k) x0 k
theorem f_ex : ∃ g : (List Int) → (ByteArray → Prop) → Prop, g = f0 := ⟨_, rfl⟩
noncomputable def f : (List Int) → (ByteArray → Prop) → Prop := Classical.choose f_ex
theorem f_def : f = f0 := Classical.choose_spec f_ex
def mL3 (x0 : (List Int)) (x3 : ByteArray) (x4 : Int) : St := { tmps := mkT 20 0 [(0, (.fz (Ty.int IntKind.i64) x0)), (3, (.v (.string x3))), (4, (.v (.int IntKind.i64 x4)))], hp := [], m := 0 }
def m6 (x3 : ByteArray) : St := { tmps := mkT 20 0 [(3, (.v (.string x3)))], hp := [], m := 0 }
noncomputable def YL3 (k kp : D → List Blk → Prop) : (St → Prop) → St → Prop := loopB cfg (sub [1, 1, 0, 1, 0, 0] body) (contK cfg (pick none' []) [1, 1, 0, 1, 0] body (topK cfg Try.f77 k kp))
noncomputable def XL3 (k kp : D → List Blk → Prop) : St → Prop := fun st => ∃ n, loopN (YL3 k kp) n st
noncomputable def X6 (k kp : D → List Blk → Prop) : St → Prop := atP cfg (pick none' []) [1, 1, 1] body (topK cfg Try.f77 k kp)
noncomputable def JJ_3 (k kp : D → List Blk → Prop) (ag3 : St → Prop) : Nat → St → Prop := pick none' [(6, X6 k kp)]
noncomputable def LL_3 (k kp : D → List Blk → Prop) (ag3 : St → Prop) : Nat → St → Prop := pick none' [(3, XL3 k kp)]
noncomputable def JJ (k kp : D → List Blk → Prop) : Nat → St → Prop := pick none' [(6, X6 k kp)]
noncomputable def LL (k kp : D → List Blk → Prop) : Nat → St → Prop := pick none' [(3, XL3 k kp)]
theorem j6_c (k kp : D → List Blk → Prop) (J L : Nat → St → Prop) (x3 : ByteArray) : runC cfg 6 J L (pick none' []) [1, 1, 1] body (topK cfg Try.f77 k kp) (m6 x3) = j6 x3 (fun y0 => k (.v (.string y0)) []) := by kernel_rfl
theorem j6_ag (k kp : D → List Blk → Prop) : agPL cfg 6 (JJ k kp) (LL k kp) [1, 1, 1] body = agPR cfg 6 (pick none' []) [1, 1, 1] body (topK cfg Try.f77 k kp) := by kernel_rfl
theorem j6_raw (k kp : D → List Blk → Prop) (x3 : ByteArray) : X6 k kp (m6 x3) = j6 x3 (fun y0 => k (.v (.string y0)) []) :=
  Eq.mp (by kernel_rfl) ((atP_run (j6_ag k kp) (m6 x3)).trans (j6_c k kp (JJ k kp) (LL k kp) x3))
theorem j6_eq (k kp : D → List Blk → Prop) (x3 : ByteArray) : X6 k kp (m6 x3) = j6' x3 (fun y0 => k (.v (.string y0)) []) := by
  rw [j6_raw]; rfl
theorem l3_c (k kp : D → List Blk → Prop) (J L : Nat → St → Prop) (ag3 : St → Prop) (x0 : (List Int)) (x3 : ByteArray) (x4 : Int) : runC cfg 1000001 J L (pick none' [(3, ag3)]) [1, 1, 0, 1, 0, 0] body (topK cfg Try.f77 k kp) (mL3 x0 x3 x4) = l3 (fun x3 => J 6 (m6 x3)) (fun x3 x4 => ag3 (mL3 x0 x3 x4)) x0 x3 x4 (fun y0 => k (.v (.string y0)) []) := by kernel_rfl
theorem l3_ag (k kp : D → List Blk → Prop) (ag3 : St → Prop) : agPL cfg 1000001 (JJ_3 k kp ag3) (LL_3 k kp ag3) [1, 1, 0, 1, 0, 0] body = agPR cfg 1000001 (pick none' [(3, ag3)]) [1, 1, 0, 1, 0, 0] body (topK cfg Try.f77 k kp) := by kernel_rfl
theorem l3_raw (k kp : D → List Blk → Prop) (ag3 : St → Prop) (x0 : (List Int)) (x3 : ByteArray) (x4 : Int) : YL3 k kp ag3 (mL3 x0 x3 x4) = l3 (fun x3 => X6 k kp (m6 x3)) (fun x3 x4 => ag3 (mL3 x0 x3 x4)) x0 x3 x4 (fun y0 => k (.v (.string y0)) []) :=
  Eq.mp (by kernel_rfl) ((atP_run (l3_ag k kp ag3) (mL3 x0 x3 x4)).trans (l3_c k kp (JJ_3 k kp ag3) (LL_3 k kp ag3) ag3 x0 x3 x4))
theorem l3_eq (k kp : D → List Blk → Prop) (x0 : (List Int)) (x3 : ByteArray) (x4 : Int) : XL3 k kp (mL3 x0 x3 x4) = l3' x0 x3 x4 (fun y0 => k (.v (.string y0)) []) :=
  loop_eq (mk := fun (s : ByteArray × Int) => mL3 x0 s.1 s.2) (fun again s => by rw [l3_raw k kp again x0 s.1 s.2]; simp only [j6_eq]; first | done | rfl) (x3, x4)
theorem c_c (k kp : D → List Blk → Prop) (J L : Nat → St → Prop) (x0 : (List Int)) : runC cfg 1000001 J L none'' [] body (topK cfg Try.f77 k kp) (st0 Try.f77 [(.fz (Ty.int IntKind.i64) x0)] []) = c (fun x0 x3 x4 => L 3 (mL3 x0 x3 x4)) x0 (fun y0 => k (.v (.string y0)) []) := by kernel_rfl
theorem c_ag (k kp : D → List Blk → Prop) : agPL cfg 1000001 (JJ k kp) (LL k kp) [] body = agPR cfg 1000001 none'' [] body (topK cfg Try.f77 k kp) := by kernel_rfl
theorem body_is : Try.f77.body = some body := by kernel_rfl
theorem c_raw (k kp : D → List Blk → Prop) (x0 : (List Int)) : funW cfg Try.f77 [(.fz (Ty.int IntKind.i64) x0)] [] k kp = c (fun x0 x3 x4 => XL3 k kp (mL3 x0 x3 x4)) x0 (fun y0 => k (.v (.string y0)) []) :=
  Eq.mp (by kernel_rfl) ((funW_run (AG := none'') body_is (c_ag k kp) [(.fz (Ty.int IntKind.i64) x0)] []).trans (c_c k kp (JJ k kp) (LL k kp) x0))
theorem f_eq (k kp : D → List Blk → Prop) (x0 : (List Int)) : funW cfg Try.f77 [(.fz (Ty.int IntKind.i64) x0)] [] k kp = f x0 (fun y0 => k (.v (.string y0)) []) := by
  rw [f_def, c_raw]; simp only [l3_eq]; first | done | rfl
noncomputable def ent0 : Entry := fun args blks k _ => match args, blks with
  | [d0], [] => aFz (Ty.int IntKind.i64) d0 fun x0 => f x0 (fun y0 => k (.v (.string y0)) [])
  | _, _ => False
noncomputable def ent : Entry := fun args blks k kp => ent0 (convB [.one (Ty.int IntKind.i64)] args) blks k kp
theorem ok : EntOk Try.prog 0 0 77 ent := by
  refine EntOk.convB (EntOk.of (funW_ok (cfg := cfg) (tyOk_of rfl rfl tyL_ok) (eqOk_of (P := Try.prog) rfl rfl (by kernel_rfl)) mixed_ok (tab_ok ?_) Try.func77 (by rfl) (by rfl)) ?_) _
  · intro p hp
    simp only [List.mem_cons, List.not_mem_nil, or_false] at hp
    rcases hp with rfl
    · exact N63.ok
  · intro args blks k kp h k' kp'
    match args, blks, h with
    | [d0], [], h =>
    dsimp only [ent0] at h
    have h9 := aFz_elim (t := (Ty.int IntKind.i64)) h; clear h; obtain ⟨x0, rfl, h⟩ := h9
    exact (f_eq k' kp' x0).symm
end N77
end Go.Proofs.Yu
namespace Go.Proofs.Yu
open Go Go.Aw Go.Proofs
set_option linter.unusedVariables false
set_option linter.unusedSimpArgs false
set_option maxRecDepth 100000
/-! dyehouse/dyehouseref35.Text -/
namespace N43
noncomputable def cfg : Cfg := { P := Try.prog, ty := tys, E := tab [(32, N32.ent), (77, N77.ent), (45, N45.ent)], atSeq := tab [(6, ⟨[(1, .keep), (3, .keep)]⟩), (9, ⟨[(1, .keep), (3, .keep), (5, .keep)]⟩)], atLoop := tab [(3, ⟨[(1, .keep), (3, .keep), (4, .keep)]⟩)], outs := [], eqT := tab [], bT := tab [], fzB := [1] }
noncomputable def body : Code := bodyOf Try.f43
def l3 (j6 : (List (ByteArray × (List Int))) → Int → Int → (List Int) → Int → ByteArray → Prop) (ag3 : ByteArray → Int → Prop) (x1_0 : (List (ByteArray × (List Int)))) (x1_1 : Int) (x1_2 : Int) (x1_3 : (List Int)) (x1_4 : Int) (x3 : ByteArray) (x4 : Int) (k : ByteArray → Prop) : Prop :=
  (br (decide (x4 < ((((x1_0).length : Nat) : Int)))) (((x3).size + ((ByteArray.mk #[99, 97, 108, 108, 32])).size ≤ 9223372036854775807) ∧ ((inB 0 x4 ((((x1_0).length : Nat) : Int) - 1)) ∧ (N32.f (x1_0.getD (Int.toNat x4) ((ByteArray.empty, ([] : List Int)))).1 (fun (y0_0 : ByteArray) => ((((x3 ++ (ByteArray.mk #[99, 97, 108, 108, 32]))).size + (y0_0).size ≤ 9223372036854775807) ∧ ((inB 0 x4 ((((x1_0).length : Nat) : Int) - 1)) ∧ (N77.f (x1_0.getD (Int.toNat x4) ((ByteArray.empty, ([] : List Int)))).2 (fun (y0_1 : ByteArray) => (((((x3 ++ (ByteArray.mk #[99, 97, 108, 108, 32])) ++ y0_0)).size + (y0_1).size ≤ 9223372036854775807) ∧ ((((((x3 ++ (ByteArray.mk #[99, 97, 108, 108, 32])) ++ y0_0) ++ y0_1)).size + ((ByteArray.mk #[10])).size ≤ 9223372036854775807) ∧ (ag3 ((((x3 ++ (ByteArray.mk #[99, 97, 108, 108, 32])) ++ y0_0) ++ y0_1) ++ (ByteArray.mk #[10])) (IntKind.i64.wrap (x4 + (1 : Int)))))))))))))) (j6 x1_0 x1_1 x1_2 x1_3 x1_4 x3))
def j6 (j9 : (List (ByteArray × (List Int))) → Int → Int → (List Int) → Int → ByteArray → ByteArray → Prop) (x1_0 : (List (ByteArray × (List Int)))) (x1_1 : Int) (x1_2 : Int) (x1_3 : (List Int)) (x1_4 : Int) (x3 : ByteArray) (k : ByteArray → Prop) : Prop :=
  (N45.f x1_1 (fun (y0_2 : ByteArray) => (br (beqS y0_2 (ByteArray.mk #[])) (j9 x1_0 x1_1 x1_2 x1_3 x1_4 x3 (ByteArray.mk #[63])) (j9 x1_0 x1_1 x1_2 x1_3 x1_4 x3 y0_2))))
def j9 (x1_0 : (List (ByteArray × (List Int)))) (x1_1 : Int) (x1_2 : Int) (x1_3 : (List Int)) (x1_4 : Int) (x3 : ByteArray) (x5 : ByteArray) (k : ByteArray → Prop) : Prop :=
  (((x3).size + ((ByteArray.mk #[101, 110, 100, 32])).size ≤ 9223372036854775807) ∧ ((((x3 ++ (ByteArray.mk #[101, 110, 100, 32]))).size + (x5).size ≤ 9223372036854775807) ∧ (N77.f ([x1_1, x1_2] : List Int) (fun (y0_3 : ByteArray) => (((((x3 ++ (ByteArray.mk #[101, 110, 100, 32])) ++ x5)).size + (y0_3).size ≤ 9223372036854775807) ∧ ((((((x3 ++ (ByteArray.mk #[101, 110, 100, 32])) ++ x5) ++ y0_3)).size + ((ByteArray.mk #[10, 109, 101, 109])).size ≤ 9223372036854775807) ∧ (N77.f x1_3 (fun (y0_4 : ByteArray) => (((((((x3 ++ (ByteArray.mk #[101, 110, 100, 32])) ++ x5) ++ y0_3) ++ (ByteArray.mk #[10, 109, 101, 109]))).size + (y0_4).size ≤ 9223372036854775807) ∧ ((((((((x3 ++ (ByteArray.mk #[101, 110, 100, 32])) ++ x5) ++ y0_3) ++ (ByteArray.mk #[10, 109, 101, 109])) ++ y0_4)).size + ((ByteArray.mk #[10, 108, 101, 102, 116])).size ≤ 9223372036854775807) ∧ (N77.f ([x1_4] : List Int) (fun (y0_5 : ByteArray) => (((((((((x3 ++ (ByteArray.mk #[101, 110, 100, 32])) ++ x5) ++ y0_3) ++ (ByteArray.mk #[10, 109, 101, 109])) ++ y0_4) ++ (ByteArray.mk #[10, 108, 101, 102, 116]))).size + (y0_5).size ≤ 9223372036854775807) ∧ ((((((((((x3 ++ (ByteArray.mk #[101, 110, 100, 32])) ++ x5) ++ y0_3) ++ (ByteArray.mk #[10, 109, 101, 109])) ++ y0_4) ++ (ByteArray.mk #[10, 108, 101, 102, 116])) ++ y0_5)).size + ((ByteArray.mk #[10])).size ≤ 9223372036854775807) ∧ (k ((((((((x3 ++ (ByteArray.mk #[101, 110, 100, 32])) ++ x5) ++ y0_3) ++ (ByteArray.mk #[10, 109, 101, 109])) ++ y0_4) ++ (ByteArray.mk #[10, 108, 101, 102, 116])) ++ y0_5) ++ (ByteArray.mk #[10])))))))))))))))))
def c (l3 : (List (ByteArray × (List Int))) → Int → Int → (List Int) → Int → ByteArray → Int → Prop) (x0_0 : (List (ByteArray × (List Int)))) (x0_1 : Int) (x0_2 : Int) (x0_3 : (List Int)) (x0_4 : Int) (k : ByteArray → Prop) : Prop :=
  (l3 x0_0 x0_1 x0_2 x0_3 x0_4 (ByteArray.mk #[]) (0 : Int))
def j9' (x1_0 : (List (ByteArray × (List Int)))) (x1_1 : Int) (x1_2 : Int) (x1_3 : (List Int)) (x1_4 : Int) (x3 : ByteArray) (x5 : ByteArray) (k : ByteArray → Prop) : Prop := j9 x1_0 x1_1 x1_2 x1_3 x1_4 x3 x5 k
def j6' (x1_0 : (List (ByteArray × (List Int)))) (x1_1 : Int) (x1_2 : Int) (x1_3 : (List Int)) (x1_4 : Int) (x3 : ByteArray) (k : ByteArray → Prop) : Prop := j6 (fun x1_0 x1_1 x1_2 x1_3 x1_4 x3 x5 => j9' x1_0 x1_1 x1_2 x1_3 x1_4 x3 x5 k) x1_0 x1_1 x1_2 x1_3 x1_4 x3 k
def l3' (x1_0 : (List (ByteArray × (List Int)))) (x1_1 : Int) (x1_2 : Int) (x1_3 : (List Int)) (x1_4 : Int) (x3 : ByteArray) (x4 : Int) (k : ByteArray → Prop) : Prop := ∃ n, loopS (fun (ag : (ByteArray × Int) → Prop) (s : ByteArray × Int) => l3 (fun x1_0 x1_1 x1_2 x1_3 x1_4 x3 => j6' x1_0 x1_1 x1_2 x1_3 x1_4 x3 k) (fun x3 x4 => ag (x3, x4)) x1_0 x1_1 x1_2 x1_3 x1_4 s.1 s.2 k) n (x3, x4)
def f0 (x0_0 : (List (ByteArray × (List Int)))) (x0_1 : Int) (x0_2 : Int) (x0_3 : (List Int)) (x0_4 : Int) (k : ByteArray → Prop) : Prop := c (fun x1_0 x1_1 x1_2 x1_3 x1_4 x3 x4 => l3' x1_0 x1_1 x1_2 x1_3 x1_4 x3 x4 k) x0_0 x0_1 x0_2 x0_3 x0_4 k
theorem f_ex : ∃ g : (List (ByteArray × (List Int))) → Int → Int → (List Int) → Int → (ByteArray → Prop) → Prop, g = f0 := ⟨_, rfl⟩
noncomputable def f : (List (ByteArray × (List Int))) → Int → Int → (List Int) → Int → (ByteArray → Prop) → Prop := Classical.choose f_ex
theorem f_def : f = f0 := Classical.choose_spec f_ex
def mL3 (x1_0 : (List (ByteArray × (List Int)))) (x1_1 : Int) (x1_2 : Int) (x1_3 : (List Int)) (x1_4 : Int) (x3 : ByteArray) (x4 : Int) : St := { tmps := mkT 60 0 [(1, (.fp [(.fz (Ty.pair Ty.str (Ty.list (Ty.int IntKind.i64))) x1_0), (.v (.int IntKind.i64 x1_1)), (.v (.int IntKind.i64 x1_2)), (.fz (Ty.int IntKind.i64) x1_3), (.v (.int IntKind.i64 x1_4))])), (3, (.v (.string x3))), (4, (.v (.int IntKind.i64 x4)))], hp := [], m := 0 }
def m6 (x1_0 : (List (ByteArray × (List Int)))) (x1_1 : Int) (x1_2 : Int) (x1_3 : (List Int)) (x1_4 : Int) (x3 : ByteArray) : St := { tmps := mkT 60 0 [(1, (.fp [(.fz (Ty.pair Ty.str (Ty.list (Ty.int IntKind.i64))) x1_0), (.v (.int IntKind.i64 x1_1)), (.v (.int IntKind.i64 x1_2)), (.fz (Ty.int IntKind.i64) x1_3), (.v (.int IntKind.i64 x1_4))])), (3, (.v (.string x3)))], hp := [], m := 0 }
def m9 (x1_0 : (List (ByteArray × (List Int)))) (x1_1 : Int) (x1_2 : Int) (x1_3 : (List Int)) (x1_4 : Int) (x3 : ByteArray) (x5 : ByteArray) : St := { tmps := mkT 60 0 [(1, (.fp [(.fz (Ty.pair Ty.str (Ty.list (Ty.int IntKind.i64))) x1_0), (.v (.int IntKind.i64 x1_1)), (.v (.int IntKind.i64 x1_2)), (.fz (Ty.int IntKind.i64) x1_3), (.v (.int IntKind.i64 x1_4))])), (3, (.v (.string x3))), (5, (.v (.string x5)))], hp := [], m := 0 }
noncomputable def YL3 (k kp : D → List Blk → Prop) : (St → Prop) → St → Prop := loopB cfg (sub [1, 1, 0, 1, 0, 0] body) (contK cfg (pick none' []) [1, 1, 0, 1, 0] body (topK cfg Try.f43 k kp))
noncomputable def XL3 (k kp : D → List Blk → Prop) : St → Prop := fun st => ∃ n, loopN (YL3 k kp) n st
noncomputable def X6 (k kp : D → List Blk → Prop) : St → Prop := atP cfg (pick none' []) [1, 1, 1] body (topK cfg Try.f43 k kp)
noncomputable def X9 (k kp : D → List Blk → Prop) : St → Prop := atP cfg (pick none' []) [1, 1, 1, 1, 1] body (topK cfg Try.f43 k kp)
noncomputable def JJ_3 (k kp : D → List Blk → Prop) (ag3 : St → Prop) : Nat → St → Prop := pick none' [(6, X6 k kp), (9, X9 k kp)]
noncomputable def LL_3 (k kp : D → List Blk → Prop) (ag3 : St → Prop) : Nat → St → Prop := pick none' [(3, XL3 k kp)]
noncomputable def JJ (k kp : D → List Blk → Prop) : Nat → St → Prop := pick none' [(6, X6 k kp), (9, X9 k kp)]
noncomputable def LL (k kp : D → List Blk → Prop) : Nat → St → Prop := pick none' [(3, XL3 k kp)]
theorem j9_c (k kp : D → List Blk → Prop) (J L : Nat → St → Prop) (x1_0 : (List (ByteArray × (List Int)))) (x1_1 : Int) (x1_2 : Int) (x1_3 : (List Int)) (x1_4 : Int) (x3 : ByteArray) (x5 : ByteArray) : runC cfg 9 J L (pick none' []) [1, 1, 1, 1, 1] body (topK cfg Try.f43 k kp) (m9 x1_0 x1_1 x1_2 x1_3 x1_4 x3 x5) = j9 x1_0 x1_1 x1_2 x1_3 x1_4 x3 x5 (fun y0 => k (.v (.string y0)) []) := by kernel_rfl
theorem j9_ag (k kp : D → List Blk → Prop) : agPL cfg 9 (JJ k kp) (LL k kp) [1, 1, 1, 1, 1] body = agPR cfg 9 (pick none' []) [1, 1, 1, 1, 1] body (topK cfg Try.f43 k kp) := by kernel_rfl
theorem j9_raw (k kp : D → List Blk → Prop) (x1_0 : (List (ByteArray × (List Int)))) (x1_1 : Int) (x1_2 : Int) (x1_3 : (List Int)) (x1_4 : Int) (x3 : ByteArray) (x5 : ByteArray) : X9 k kp (m9 x1_0 x1_1 x1_2 x1_3 x1_4 x3 x5) = j9 x1_0 x1_1 x1_2 x1_3 x1_4 x3 x5 (fun y0 => k (.v (.string y0)) []) :=
  Eq.mp (by kernel_rfl) ((atP_run (j9_ag k kp) (m9 x1_0 x1_1 x1_2 x1_3 x1_4 x3 x5)).trans (j9_c k kp (JJ k kp) (LL k kp) x1_0 x1_1 x1_2 x1_3 x1_4 x3 x5))
theorem j9_eq (k kp : D → List Blk → Prop) (x1_0 : (List (ByteArray × (List Int)))) (x1_1 : Int) (x1_2 : Int) (x1_3 : (List Int)) (x1_4 : Int) (x3 : ByteArray) (x5 : ByteArray) : X9 k kp (m9 x1_0 x1_1 x1_2 x1_3 x1_4 x3 x5) = j9' x1_0 x1_1 x1_2 x1_3 x1_4 x3 x5 (fun y0 => k (.v (.string y0)) []) := by
  rw [j9_raw]; rfl
theorem j6_c (k kp : D → List Blk → Prop) (J L : Nat → St → Prop) (x1_0 : (List (ByteArray × (List Int)))) (x1_1 : Int) (x1_2 : Int) (x1_3 : (List Int)) (x1_4 : Int) (x3 : ByteArray) : runC cfg 6 J L (pick none' []) [1, 1, 1] body (topK cfg Try.f43 k kp) (m6 x1_0 x1_1 x1_2 x1_3 x1_4 x3) = j6 (fun x1_0 x1_1 x1_2 x1_3 x1_4 x3 x5 => J 9 (m9 x1_0 x1_1 x1_2 x1_3 x1_4 x3 x5)) x1_0 x1_1 x1_2 x1_3 x1_4 x3 (fun y0 => k (.v (.string y0)) []) := by kernel_rfl
theorem j6_ag (k kp : D → List Blk → Prop) : agPL cfg 6 (JJ k kp) (LL k kp) [1, 1, 1] body = agPR cfg 6 (pick none' []) [1, 1, 1] body (topK cfg Try.f43 k kp) := by kernel_rfl
theorem j6_raw (k kp : D → List Blk → Prop) (x1_0 : (List (ByteArray × (List Int)))) (x1_1 : Int) (x1_2 : Int) (x1_3 : (List Int)) (x1_4 : Int) (x3 : ByteArray) : X6 k kp (m6 x1_0 x1_1 x1_2 x1_3 x1_4 x3) = j6 (fun x1_0 x1_1 x1_2 x1_3 x1_4 x3 x5 => X9 k kp (m9 x1_0 x1_1 x1_2 x1_3 x1_4 x3 x5)) x1_0 x1_1 x1_2 x1_3 x1_4 x3 (fun y0 => k (.v (.string y0)) []) :=
  Eq.mp (by kernel_rfl) ((atP_run (j6_ag k kp) (m6 x1_0 x1_1 x1_2 x1_3 x1_4 x3)).trans (j6_c k kp (JJ k kp) (LL k kp) x1_0 x1_1 x1_2 x1_3 x1_4 x3))
theorem j6_eq (k kp : D → List Blk → Prop) (x1_0 : (List (ByteArray × (List Int)))) (x1_1 : Int) (x1_2 : Int) (x1_3 : (List Int)) (x1_4 : Int) (x3 : ByteArray) : X6 k kp (m6 x1_0 x1_1 x1_2 x1_3 x1_4 x3) = j6' x1_0 x1_1 x1_2 x1_3 x1_4 x3 (fun y0 => k (.v (.string y0)) []) := by
  rw [j6_raw]; simp only [j9_eq]; first | done | rfl
theorem l3_c (k kp : D → List Blk → Prop) (J L : Nat → St → Prop) (ag3 : St → Prop) (x1_0 : (List (ByteArray × (List Int)))) (x1_1 : Int) (x1_2 : Int) (x1_3 : (List Int)) (x1_4 : Int) (x3 : ByteArray) (x4 : Int) : runC cfg 1000001 J L (pick none' [(3, ag3)]) [1, 1, 0, 1, 0, 0] body (topK cfg Try.f43 k kp) (mL3 x1_0 x1_1 x1_2 x1_3 x1_4 x3 x4) = l3 (fun x1_0 x1_1 x1_2 x1_3 x1_4 x3 => J 6 (m6 x1_0 x1_1 x1_2 x1_3 x1_4 x3)) (fun x3 x4 => ag3 (mL3 x1_0 x1_1 x1_2 x1_3 x1_4 x3 x4)) x1_0 x1_1 x1_2 x1_3 x1_4 x3 x4 (fun y0 => k (.v (.string y0)) []) := by kernel_rfl
theorem l3_ag (k kp : D → List Blk → Prop) (ag3 : St → Prop) : agPL cfg 1000001 (JJ_3 k kp ag3) (LL_3 k kp ag3) [1, 1, 0, 1, 0, 0] body = agPR cfg 1000001 (pick none' [(3, ag3)]) [1, 1, 0, 1, 0, 0] body (topK cfg Try.f43 k kp) := by kernel_rfl
theorem l3_raw (k kp : D → List Blk → Prop) (ag3 : St → Prop) (x1_0 : (List (ByteArray × (List Int)))) (x1_1 : Int) (x1_2 : Int) (x1_3 : (List Int)) (x1_4 : Int) (x3 : ByteArray) (x4 : Int) : YL3 k kp ag3 (mL3 x1_0 x1_1 x1_2 x1_3 x1_4 x3 x4) = l3 (fun x1_0 x1_1 x1_2 x1_3 x1_4 x3 => X6 k kp (m6 x1_0 x1_1 x1_2 x1_3 x1_4 x3)) (fun x3 x4 => ag3 (mL3 x1_0 x1_1 x1_2 x1_3 x1_4 x3 x4)) x1_0 x1_1 x1_2 x1_3 x1_4 x3 x4 (fun y0 => k (.v (.string y0)) []) :=
  Eq.mp (by kernel_rfl) ((atP_run (l3_ag k kp ag3) (mL3 x1_0 x1_1 x1_2 x1_3 x1_4 x3 x4)).trans (l3_c k kp (JJ_3 k kp ag3) (LL_3 k kp ag3) ag3 x1_0 x1_1 x1_2 x1_3 x1_4 x3 x4))
theorem l3_eq (k kp : D → List Blk → Prop) (x1_0 : (List (ByteArray × (List Int)))) (x1_1 : Int) (x1_2 : Int) (x1_3 : (List Int)) (x1_4 : Int) (x3 : ByteArray) (x4 : Int) : XL3 k kp (mL3 x1_0 x1_1 x1_2 x1_3 x1_4 x3 x4) = l3' x1_0 x1_1 x1_2 x1_3 x1_4 x3 x4 (fun y0 => k (.v (.string y0)) []) :=
  loop_eq (mk := fun (s : ByteArray × Int) => mL3 x1_0 x1_1 x1_2 x1_3 x1_4 s.1 s.2) (fun again s => by rw [l3_raw k kp again x1_0 x1_1 x1_2 x1_3 x1_4 s.1 s.2]; simp only [j6_eq]; first | done | rfl) (x3, x4)
theorem c_c (k kp : D → List Blk → Prop) (J L : Nat → St → Prop) (x0_0 : (List (ByteArray × (List Int)))) (x0_1 : Int) (x0_2 : Int) (x0_3 : (List Int)) (x0_4 : Int) : runC cfg 1000001 J L none'' [] body (topK cfg Try.f43 k kp) (st0 Try.f43 [(.agg [(.fz (Ty.pair Ty.str (Ty.list (Ty.int IntKind.i64))) x0_0), (.v (.int IntKind.i64 x0_1)), (.v (.int IntKind.i64 x0_2)), (.fz (Ty.int IntKind.i64) x0_3), (.v (.int IntKind.i64 x0_4))])] []) = c (fun x1_0 x1_1 x1_2 x1_3 x1_4 x3 x4 => L 3 (mL3 x1_0 x1_1 x1_2 x1_3 x1_4 x3 x4)) x0_0 x0_1 x0_2 x0_3 x0_4 (fun y0 => k (.v (.string y0)) []) := by kernel_rfl
theorem c_ag (k kp : D → List Blk → Prop) : agPL cfg 1000001 (JJ k kp) (LL k kp) [] body = agPR cfg 1000001 none'' [] body (topK cfg Try.f43 k kp) := by kernel_rfl
theorem body_is : Try.f43.body = some body := by kernel_rfl
theorem c_raw (k kp : D → List Blk → Prop) (x0_0 : (List (ByteArray × (List Int)))) (x0_1 : Int) (x0_2 : Int) (x0_3 : (List Int)) (x0_4 : Int) : funW cfg Try.f43 [(.agg [(.fz (Ty.pair Ty.str (Ty.list (Ty.int IntKind.i64))) x0_0), (.v (.int IntKind.i64 x0_1)), (.v (.int IntKind.i64 x0_2)), (.fz (Ty.int IntKind.i64) x0_3), (.v (.int IntKind.i64 x0_4))])] [] k kp = c (fun x1_0 x1_1 x1_2 x1_3 x1_4 x3 x4 => XL3 k kp (mL3 x1_0 x1_1 x1_2 x1_3 x1_4 x3 x4)) x0_0 x0_1 x0_2 x0_3 x0_4 (fun y0 => k (.v (.string y0)) []) :=
  Eq.mp (by kernel_rfl) ((funW_run (AG := none'') body_is (c_ag k kp) [(.agg [(.fz (Ty.pair Ty.str (Ty.list (Ty.int IntKind.i64))) x0_0), (.v (.int IntKind.i64 x0_1)), (.v (.int IntKind.i64 x0_2)), (.fz (Ty.int IntKind.i64) x0_3), (.v (.int IntKind.i64 x0_4))])] []).trans (c_c k kp (JJ k kp) (LL k kp) x0_0 x0_1 x0_2 x0_3 x0_4))
theorem f_eq (k kp : D → List Blk → Prop) (x0_0 : (List (ByteArray × (List Int)))) (x0_1 : Int) (x0_2 : Int) (x0_3 : (List Int)) (x0_4 : Int) : funW cfg Try.f43 [(.agg [(.fz (Ty.pair Ty.str (Ty.list (Ty.int IntKind.i64))) x0_0), (.v (.int IntKind.i64 x0_1)), (.v (.int IntKind.i64 x0_2)), (.fz (Ty.int IntKind.i64) x0_3), (.v (.int IntKind.i64 x0_4))])] [] k kp = f x0_0 x0_1 x0_2 x0_3 x0_4 (fun y0 => k (.v (.string y0)) []) := by
  rw [f_def, c_raw]; simp only [l3_eq]; first | done | rfl
noncomputable def ent0 : Entry := fun args blks k _ => match args, blks with
  | [d0], [] => aAgg 5 d0 fun l => aCons l fun d0_0 l => aCons l fun d0_1 l => aCons l fun d0_2 l => aCons l fun d0_3 l => aCons l fun d0_4 l => aNil l (aFz (Ty.pair Ty.str (Ty.list (Ty.int IntKind.i64))) d0_0 fun x0_0 => aInt IntKind.i64 d0_1 fun x0_1 => aInt IntKind.i64 d0_2 fun x0_2 => aFz (Ty.int IntKind.i64) d0_3 fun x0_3 => aInt IntKind.i64 d0_4 fun x0_4 => f x0_0 x0_1 x0_2 x0_3 x0_4 (fun y0 => k (.v (.string y0)) []))
  | _, _ => False
noncomputable def ent : Entry := fun args blks k kp => ent0 (convB [.cells [some (Ty.pair Ty.str (Ty.list (Ty.int IntKind.i64))), none, none, some (Ty.int IntKind.i64), none]] args) blks k kp
theorem ok : EntOk Try.prog 0 0 43 ent := by
  refine EntOk.convB (EntOk.of (funW_ok (cfg := cfg) (tyOk_of rfl rfl tyL_ok) (eqOk_of (P := Try.prog) rfl rfl (by kernel_rfl)) mixed_ok (tab_ok ?_) Try.func43 (by rfl) (by rfl)) ?_) _
  · intro p hp
    simp only [List.mem_cons, List.not_mem_nil, or_false] at hp
    rcases hp with rfl | rfl | rfl
    · exact N32.ok
    · exact N77.ok
    · exact N45.ok
  · intro args blks k kp h k' kp'
    match args, blks, h with
    | [d0], [], h =>
    dsimp only [ent0] at h
    have h9 := aAgg_elim h; clear h; obtain ⟨_, rfl, h⟩ := h9
    have h9 := aCons_elim h; clear h; obtain ⟨d0_0, _, rfl, h⟩ := h9
    have h9 := aCons_elim h; clear h; obtain ⟨d0_1, _, rfl, h⟩ := h9
    have h9 := aCons_elim h; clear h; obtain ⟨d0_2, _, rfl, h⟩ := h9
    have h9 := aCons_elim h; clear h; obtain ⟨d0_3, _, rfl, h⟩ := h9
    have h9 := aCons_elim h; clear h; obtain ⟨d0_4, _, rfl, h⟩ := h9
    have h9 := aNil_elim h; clear h; obtain ⟨rfl, h⟩ := h9
    have h9 := aFz_elim (t := (Ty.pair Ty.str (Ty.list (Ty.int IntKind.i64)))) h; clear h; obtain ⟨x0_0, rfl, h⟩ := h9
    have h9 := aInt_elim h; clear h; obtain ⟨x0_1, rfl, h⟩ := h9
    have h9 := aInt_elim h; clear h; obtain ⟨x0_2, rfl, h⟩ := h9
    have h9 := aFz_elim (t := (Ty.int IntKind.i64)) h; clear h; obtain ⟨x0_3, rfl, h⟩ := h9
    have h9 := aInt_elim h; clear h; obtain ⟨x0_4, rfl, h⟩ := h9
    exact (f_eq k' kp' x0_0 x0_1 x0_2 x0_3 x0_4).symm
end N43
end Go.Proofs.Yu
namespace Go.Proofs.Yu
open Go Go.Aw Go.Proofs Go.RowKit
set_option linter.unusedVariables false
set_option linter.unusedSimpArgs false

/-! ### Numbers with blanks ahead -/
def numL (n : Int) : List Int := 32 :: putL n
def numsL (l : List Int) : List Int := l.flatMap numL
theorem numL_len (n : Int) : (numL n).length ≤ 22 := by unfold numL; have := (putL_len n).2; simp; omega
theorem flatMap_le {α : Type} (f : α → List Int) (c : Nat) (hf : ∀ x, (f x).length ≤ c) : ∀ l : List α, (l.flatMap f).length ≤ c * l.length
  | [] => by simp
  | x :: l => by
    rw [List.flatMap_cons, List.length_append, List.length_cons, Nat.mul_succ]
    have := hf x
    have := flatMap_le f c hf l
    omega
theorem numsL_len (l : List Int) : (numsL l).length ≤ 22 * l.length := flatMap_le numL 22 numL_len l
theorem numsL_isB (l : List Int) : ∀ x ∈ numsL l, isB x := by
  intro x hx
  unfold numsL numL at hx
  obtain ⟨n, _, hx⟩ := List.mem_flatMap.1 hx
  rcases List.mem_cons.1 hx with rfl | hx
  · exact ⟨by decide, by decide⟩
  · exact putL_isB n x hx
theorem take_flatG {α : Type} {L : List α} {d : α} {i : Nat} (h : i < L.length) (f : α → List Int) : (L.take (i + 1)).flatMap f = (L.take i).flatMap f ++ f (L.getD i d) := by
  rw [List.take_succ_eq_append_getElem h, List.flatMap_append]
  simp [List.getD, List.getElem?_eq_getElem h]
theorem take_len_le {α : Type} (L : List α) (i : Nat) : (L.take i).length ≤ L.length := by simp; omega

theorem getD_in {l : List Int} (h : ∀ x ∈ l, in64 x) {i : Nat} (hi : i < l.length) : in64 (l.getD i 0) := by
  rw [List.getD, List.getElem?_eq_getElem hi]
  exact h _ (List.getElem_mem hi)

theorem numbers_s (l : List Int) (hl : ∀ x ∈ l, in64 x) (hb : l.length ≤ 1000000000000) (k : ByteArray → Prop) (h : k (bytesOf (numsL l))) : N76.f l k := by
  rw [N76.f_def]
  unfold N76.f0 N76.c N76.l3'
  rw [show ByteArray.empty = bytesOf [] from rfl]
  refine loopS_of (fun s : Int × ByteArray => ∃ i : Nat, s.1 = i ∧ i ≤ l.length ∧ s.2 = bytesOf (numsL (l.take i))) (fun s => l.length - s.1.toNat) ?_ ⟨0, rfl, Nat.zero_le _, rfl⟩
  rintro again ⟨a, b⟩ ⟨i, e1, hi, e2⟩ hag
  simp only at e1 e2
  subst e1; subst e2
  unfold N76.l3 N76.j7' N76.j7
  dsimp only
  refine br_of (fun hlt => ?_) (fun hge => ?_)
  · have hlt : i < l.length := by simp at hlt; omega
    refine ⟨⟨by omega, by omega, by omega⟩, ?_⟩
    simp only [Int.toNat_natCast]
    refine put_s _ (getD_in hl hlt) _ ⟨?_, ?_⟩
    · rw [show ByteArray.mk #[32] = bytesOf [32] from rfl, bytesOf_size, bytesOf_size]
      have := putL_len (l.getD i 0)
      simp only [List.length_cons, List.length_nil]; omega
    · rw [show ByteArray.mk #[32] = bytesOf [32] from rfl, ← bytesOf_append]
      have h1 := numsL_len (l.take i)
      have h2 := take_len_le l i
      have h3 := (putL_len (l.getD i 0)).2
      refine ws_s ?_ ?_
      · simp only [List.length_append, List.length_cons, List.length_nil]; omega
      · rw [wrap_id (by omega) (by omega)]
        refine hag _ ⟨i + 1, by simp, by omega, ?_⟩ (by simp only; omega)
        unfold numsL
        rw [take_flatG (d := 0) hlt]
        rfl
  · have hge : i = l.length := by simp at hge; omega
    subst hge
    rw [List.take_length]
    exact bs_s h

theorem numbersr_s (l : List Int) (hl : ∀ x ∈ l, in64 x) (hb : l.length ≤ 1000000000000) (k : ByteArray → Prop) (h : k (bytesOf (numsL l))) : N77.f l k := by
  rw [N77.f_def]
  unfold N77.f0 N77.c N77.l3'
  rw [show ByteArray.mk #[] = bytesOf [] from rfl]
  refine loopS_of (fun s : ByteArray × Int => ∃ i : Nat, s.2 = i ∧ i ≤ l.length ∧ s.1 = bytesOf (numsL (l.take i))) (fun s => l.length - s.2.toNat) ?_ ⟨0, rfl, Nat.zero_le _, rfl⟩
  rintro again ⟨b, a⟩ ⟨i, e1, hi, e2⟩ hag
  simp only at e1 e2
  subst e1; subst e2
  unfold N77.l3 N77.j6' N77.j6
  dsimp only
  have h1 := numsL_len (l.take i)
  have h2 := take_len_le l i
  refine br_of (fun hlt => ?_) (fun hge => ?_)
  · have hlt : i < l.length := by simp at hlt; omega
    have h3 := (putL_len (l.getD i 0)).2
    rw [show ByteArray.mk #[32] = bytesOf [32] from rfl, ← bytesOf_append]
    refine ⟨?_, ⟨by omega, by omega, by omega⟩, ?_⟩
    · rw [bytesOf_size, bytesOf_size]; simp only [List.length_cons, List.length_nil]; omega
    · simp only [Int.toNat_natCast]
      refine putr_s _ (getD_in hl hlt) _ ⟨?_, ?_⟩
      · rw [bytesOf_size, bytesOf_size]; simp only [List.length_append, List.length_cons, List.length_nil]; omega
      · rw [wrap_id (by omega) (by omega), ← bytesOf_append]
        refine hag _ ⟨i + 1, by simp, by omega, ?_⟩ (by simp only; omega)
        unfold numsL
        rw [take_flatG (d := 0) hlt]
        unfold numL
        simp
  · have hge : i = l.length := by simp at hge; omega
    subst hge
    rw [List.take_length]
    exact h

/-! ### What is seen of a run, as text -/
abbrev Cl := ByteArray × List Int
def callL (c : Cl) : List Int := [99, 97, 108, 108, 32] ++ qputL (ofBytes c.1) ++ numsL c.2 ++ [10]
def endW (e : Int) : List Int := if e = 0 then [114, 117, 110, 115] else if e = 1 then [114, 101, 116] else if e = 2 then [100, 105, 118] else if e = 3 then [109, 101, 109] else if e = 4 then [115, 99, 114, 105, 112, 116] else if e = 5 then [102, 117, 101, 108] else []
def endL (e : Int) : List Int := if endW e = [] then [63] else endW e
def lastL (e v : Int) (mem : List Int) (left : Int) : List Int := [101, 110, 100, 32] ++ endL e ++ numsL [e, v] ++ [10] ++ ([109, 101, 109] ++ numsL mem ++ [10]) ++ ([108, 101, 102, 116] ++ numsL [left] ++ [10])
def textL (cs : List Cl) (e v : Int) (mem : List Int) (left : Int) : List Int := cs.flatMap callL ++ lastL e v mem left

def callB (c : Cl) : Nat := c.1.size + 1 + (c.2.length + 1)
theorem callL_len (c : Cl) : (callL c).length ≤ 30 * callB c := by
  unfold callL callB
  have h1 := qputL_len (ofBytes c.1)
  have h2 := numsL_len c.2
  have h3 := ofBytes_length c.1
  simp only [List.length_append, List.length_cons, List.length_nil]
  omega
theorem calls_len : ∀ cs : List Cl, (cs.flatMap callL).length ≤ 30 * (cs.map callB).sum
  | [] => by simp
  | c :: cs => by
    rw [List.flatMap_cons, List.length_append, List.map_cons, List.sum_cons]
    have := callL_len c
    have := calls_len cs
    omega
theorem calls_take (cs : List Cl) (i : Nat) : ((cs.take i).flatMap callL).length ≤ (cs.flatMap callL).length := by
  conv => rhs; rw [← List.take_append_drop i cs, List.flatMap_append, List.length_append]
  omega
theorem endL_len (e : Int) : (endL e).length ≤ 6 := by
  unfold endL endW
  repeat' split
  all_goals first | decide | simp_all

theorem ending_s (e : Int) (k : ByteArray → Prop) (h : k (bytesOf (endW e))) : N44.f e k := by
  rw [N44.f_def]
  unfold N44.f0 N44.c N44.j2000003' N44.j2000003 N44.j4' N44.j4
  unfold endW at h
  simp only [br_dec, br_true]
  by_cases hneg : e < 0
  · rw [if_pos hneg]
    rw [if_neg (by omega), if_neg (by omega), if_neg (by omega), if_neg (by omega), if_neg (by omega), if_neg (by omega)] at h
    exact h
  · rw [if_neg hneg]
    by_cases h6 : e ≥ 6
    · rw [if_pos h6]
      rw [if_neg (by omega), if_neg (by omega), if_neg (by omega), if_neg (by omega), if_neg (by omega), if_neg (by omega)] at h
      exact h
    · rw [if_neg h6]
      have : e = 0 ∨ e = 1 ∨ e = 2 ∨ e = 3 ∨ e = 4 ∨ e = 5 := by omega
      rcases this with rfl | rfl | rfl | rfl | rfl | rfl <;> exact h

theorem endingr_s (e : Int) (k : ByteArray → Prop) (h : k (bytesOf (endW e))) : N45.f e k := by
  rw [N45.f_def]
  unfold N45.f0 N45.c
  unfold endW at h
  simp only [br_beq]
  repeat' split
  all_goals simp_all
  all_goals exact h

theorem endL_sel (e : Int) : (beqS (bytesOf (endW e)) (ByteArray.mk #[]) = true ∧ ByteArray.mk #[63] = bytesOf (endL e)) ∨ (beqS (bytesOf (endW e)) (ByteArray.mk #[]) = false ∧ bytesOf (endW e) = bytesOf (endL e)) := by
  unfold endL
  by_cases h : endW e = []
  · rw [if_pos h, h]; exact .inl ⟨by decide, rfl⟩
  · rw [if_neg h]
    refine .inr ⟨?_, rfl⟩
    rw [bytesOf_nil]
    exact decide_eq_false h

/-- What is asked of what is seen of a run. -/
structure ObsOk (cs : List Cl) (e v : Int) (mem : List Int) (left : Int) : Prop where
  calls : (cs.map callB).sum ≤ 1048576
  memL : mem.length ≤ 1048576
  args : ∀ c ∈ cs, ∀ x ∈ c.2, in64 x
  mem64 : ∀ x ∈ mem, in64 x
  e64 : in64 e
  v64 : in64 v
  l64 : in64 left

theorem bulk_mem {cs : List Cl} {c : Cl} (h : c ∈ cs) : callB c ≤ (cs.map callB).sum := by
  induction cs with
  | nil => cases h
  | cons x r ih =>
    rw [List.map_cons, List.sum_cons]
    rcases List.mem_cons.1 h with rfl | h
    · omega
    · have := ih h; omega
theorem bulk_len : ∀ cs : List Cl, cs.length ≤ (cs.map callB).sum
  | [] => by simp
  | c :: cs => by
    rw [List.map_cons, List.sum_cons, List.length_cons]
    have := bulk_len cs
    have : 1 ≤ callB c := by unfold callB; omega
    omega
theorem bulk_call (c : Cl) : c.1.size + c.2.length ≤ callB c := by unfold callB; omega
theorem pair64 {a b : Int} (ha : in64 a) (hb : in64 b) : ∀ x ∈ [a, b], in64 x := by
  intro x hx
  rcases List.mem_cons.1 hx with rfl | hx
  · exact ha
  · rw [List.mem_singleton.1 hx]; exact hb
theorem one64 {a : Int} (ha : in64 a) : ∀ x ∈ [a], in64 x := by
  intro x hx; rw [List.mem_singleton.1 hx]; exact ha
theorem getD_mem {cs : List Cl} {i : Nat} (h : i < cs.length) : cs.getD i (ByteArray.empty, []) ∈ cs := by
  rw [List.getD, List.getElem?_eq_getElem h]; exact List.getElem_mem h

theorem br_t {A B : Prop} : br true A B = A := by simp
theorem br_f {A B : Prop} : br false A B = B := by simp

theorem text_s (cs : List Cl) (e v : Int) (mem : List Int) (left : Int) (ok : ObsOk cs e v mem left) (k : ByteArray → Prop) (h : k (bytesOf (textL cs e v mem left))) : N42.f cs e v mem left k := by
  rw [N42.f_def]
  unfold N42.f0 N42.c N42.l3'
  rw [show ByteArray.empty = bytesOf [] from rfl]
  have hcl := calls_len cs
  have hlen := bulk_len cs
  have hall := ok.calls
  refine loopS_of (fun s : Int × ByteArray => ∃ i : Nat, s.1 = i ∧ i ≤ cs.length ∧ s.2 = bytesOf ((cs.take i).flatMap callL)) (fun s => cs.length - s.1.toNat) ?_ ⟨0, rfl, Nat.zero_le _, rfl⟩
  rintro again ⟨a, b⟩ ⟨i, e1, hi, e2⟩ hag
  simp only at e1 e2
  subst e1; subst e2
  have hct := calls_take cs i
  unfold N42.l3 N42.j7' N42.j7 N42.j10' N42.j10
  dsimp only
  refine br_of (fun hlt => ?_) (fun hge => ?_)
  · have hlt : i < cs.length := by simp at hlt; omega
    refine ⟨⟨by omega, by omega, by omega⟩, ?_⟩
    simp only [Int.toNat_natCast]
    have hm := getD_mem hlt
    have hstep := take_flatG (d := ((ByteArray.empty, []) : Cl)) hlt callL
    generalize hc : cs.getD i (ByteArray.empty, []) = c at *
    have hb := bulk_mem hm
    have hb2 := bulk_call c
    have hq := qputL_len (ofBytes c.1)
    have hq2 := ofBytes_length c.1
    have hn := numsL_len c.2
    refine put_s_q _ (by omega) _ ⟨?_, numbers_s _ (ok.args c hm) (by omega) _ ⟨?_, ?_, ?_⟩⟩
    · rw [bytesOf_size]; show 5 + _ ≤ _; omega
    · rw [size_append, bytesOf_size, bytesOf_size]; show 5 + _ + _ ≤ _; omega
    · rw [size_append, size_append, bytesOf_size, bytesOf_size]; show 5 + _ + _ + 1 ≤ _; omega
    · rw [show ByteArray.mk #[99, 97, 108, 108, 32] = bytesOf [99, 97, 108, 108, 32] from rfl, show ByteArray.mk #[10] = bytesOf [10] from rfl, ← bytesOf_append, ← bytesOf_append, ← bytesOf_append]
      refine ws_s ?_ ?_
      · simp only [List.length_append, List.length_cons, List.length_nil]; omega
      · rw [wrap_id (by omega) (by omega)]
        refine hag _ ⟨i + 1, by simp, by omega, ?_⟩ (by simp only; omega)
        rw [hstep]; rfl
  · have hge : i = cs.length := by simp at hge; omega
    subst hge
    rw [List.take_length] at *
    have hend := endL_len e
    have hn2 := numsL_len [e, v]
    have hn1 := numsL_len [left]
    have hnm := numsL_len mem
    have hmem := ok.memL
    simp only [List.length_cons, List.length_nil] at hn2 hn1
    refine ending_s e _ ?_
    have hsel := endL_sel e
    generalize endW e = we at hsel ⊢
    rcases hsel with ⟨h1, h2⟩ | ⟨h1, h2⟩
    all_goals
      rw [h1]
      first | rw [br_t] | rw [br_f]
      rw [h2]
      clear h1 h2
      refine ⟨by rw [bytesOf_size]; show 4 + _ ≤ _; omega, numbers_s _ (pair64 ok.e64 ok.v64) (by simp) _ ⟨?_, ?_, ?_⟩⟩
      · rw [size_append, bytesOf_size, bytesOf_size]; show 4 + _ + _ ≤ _; omega
      · rw [size_append, size_append, bytesOf_size, bytesOf_size]; show 4 + _ + _ + 1 ≤ _; omega
      · rw [show ByteArray.mk #[101, 110, 100, 32] = bytesOf [101, 110, 100, 32] from rfl, show ByteArray.mk #[10] = bytesOf [10] from rfl, ← bytesOf_append, ← bytesOf_append, ← bytesOf_append]
        refine ws_s (by simp only [List.length_append, List.length_cons, List.length_nil]; omega) ?_
        refine numbers_s _ ok.mem64 (by omega) _ ⟨?_, ?_, ?_⟩
        · rw [bytesOf_size]; show 3 + _ ≤ _; omega
        · rw [size_append, bytesOf_size, bytesOf_size]; show 3 + _ + 1 ≤ _; omega
        · rw [show ByteArray.mk #[109, 101, 109] = bytesOf [109, 101, 109] from rfl, ← bytesOf_append, ← bytesOf_append]
          refine ws_s (by simp only [List.length_append, List.length_cons, List.length_nil]; omega) ?_
          refine numbers_s _ (one64 ok.l64) (by simp) _ ⟨?_, ?_, ?_⟩
          · rw [bytesOf_size]; show 4 + _ ≤ _; omega
          · rw [size_append, bytesOf_size, bytesOf_size]; show 4 + _ + 1 ≤ _; omega
          · rw [show ByteArray.mk #[108, 101, 102, 116] = bytesOf [108, 101, 102, 116] from rfl, ← bytesOf_append, ← bytesOf_append]
            refine ws_s (by simp only [List.length_append, List.length_cons, List.length_nil]; omega) (bs_s ?_)
            have : textL cs e v mem left = cs.flatMap callL ++ ([101, 110, 100, 32] ++ endL e ++ numsL [e, v] ++ [10]) ++ ([109, 101, 109] ++ numsL mem ++ [10]) ++ ([108, 101, 102, 116] ++ numsL [left] ++ [10]) := by
              unfold textL lastL
              simp only [List.append_assoc]
            rw [← this]
            exact h

theorem textr_s (cs : List Cl) (e v : Int) (mem : List Int) (left : Int) (ok : ObsOk cs e v mem left) (k : ByteArray → Prop) (h : k (bytesOf (textL cs e v mem left))) : N43.f cs e v mem left k := by
  rw [N43.f_def]
  unfold N43.f0 N43.c N43.l3'
  rw [show ByteArray.mk #[] = bytesOf [] from rfl]
  have hcl := calls_len cs
  have hlen := bulk_len cs
  have hall := ok.calls
  refine loopS_of (fun s : ByteArray × Int => ∃ i : Nat, s.2 = i ∧ i ≤ cs.length ∧ s.1 = bytesOf ((cs.take i).flatMap callL)) (fun s => cs.length - s.2.toNat) ?_ ⟨0, rfl, Nat.zero_le _, rfl⟩
  rintro again ⟨b, a⟩ ⟨i, e1, hi, e2⟩ hag
  simp only at e1 e2
  subst e1; subst e2
  have hct := calls_take cs i
  unfold N43.l3 N43.j6' N43.j6 N43.j9' N43.j9
  dsimp only
  refine br_of (fun hlt => ?_) (fun hge => ?_)
  · have hlt : i < cs.length := by simp at hlt; omega
    simp only [Int.toNat_natCast]
    have hm := getD_mem hlt
    have hstep := take_flatG (d := ((ByteArray.empty, []) : Cl)) hlt callL
    generalize hc : cs.getD i (ByteArray.empty, []) = c at *
    have hb := bulk_mem hm
    have hb2 := bulk_call c
    have hq := qputL_len (ofBytes c.1)
    have hq2 := ofBytes_length c.1
    have hn := numsL_len c.2
    rw [show ByteArray.mk #[99, 97, 108, 108, 32] = bytesOf [99, 97, 108, 108, 32] from rfl, show ByteArray.mk #[10] = bytesOf [10] from rfl]
    refine ⟨by rw [bytesOf_size, bytesOf_size]; simp only [List.length_cons, List.length_nil]; omega, ⟨by omega, by omega, by omega⟩, putr_s_q _ (by omega) _ ⟨?_, ⟨by omega, by omega, by omega⟩, numbersr_s _ (ok.args c hm) (by omega) _ ⟨?_, ?_, ?_⟩⟩⟩
    · rw [size_append, bytesOf_size, bytesOf_size, bytesOf_size]; simp only [List.length_cons, List.length_nil]; omega
    · rw [size_append, size_append, bytesOf_size, bytesOf_size, bytesOf_size, bytesOf_size]; simp only [List.length_cons, List.length_nil]; omega
    · rw [size_append, size_append, size_append, bytesOf_size, bytesOf_size, bytesOf_size, bytesOf_size, bytesOf_size]; simp only [List.length_cons, List.length_nil]; omega
    · rw [← bytesOf_append, ← bytesOf_append, ← bytesOf_append, ← bytesOf_append, wrap_id (by omega) (by omega)]
      refine hag _ ⟨i + 1, by simp, by omega, ?_⟩ (by simp only; omega)
      rw [hstep]
      unfold callL
      simp only [List.append_assoc]
  · have hge : i = cs.length := by simp at hge; omega
    subst hge
    rw [List.take_length] at *
    have hend := endL_len e
    have hn2 := numsL_len [e, v]
    have hn1 := numsL_len [left]
    have hnm := numsL_len mem
    have hmem := ok.memL
    simp only [List.length_cons, List.length_nil] at hn2 hn1
    rw [show ByteArray.mk #[101, 110, 100, 32] = bytesOf [101, 110, 100, 32] from rfl, show ByteArray.mk #[10, 109, 101, 109] = bytesOf [10, 109, 101, 109] from rfl, show ByteArray.mk #[10, 108, 101, 102, 116] = bytesOf [10, 108, 101, 102, 116] from rfl, show ByteArray.mk #[10] = bytesOf [10] from rfl]
    refine endingr_s e _ ?_
    have hsel := endL_sel e
    generalize endW e = we at hsel ⊢
    rcases hsel with ⟨h1, h2⟩ | ⟨h1, h2⟩
    all_goals
      rw [h1]
      first | rw [br_t] | rw [br_f]
      rw [h2]
      clear h1 h2
      refine ⟨?_, ?_, numbersr_s _ (pair64 ok.e64 ok.v64) (by simp) _ ⟨?_, ?_, numbersr_s _ ok.mem64 (by omega) _ ⟨?_, ?_, numbersr_s _ (one64 ok.l64) (by simp) _ ⟨?_, ?_, ?_⟩⟩⟩⟩
      all_goals (try (simp only [size_append, bytesOf_size, List.length_cons, List.length_nil]; omega))
      simp only [← bytesOf_append]
      have : textL cs e v mem left = cs.flatMap callL ++ [101, 110, 100, 32] ++ endL e ++ numsL [e, v] ++ [10, 109, 101, 109] ++ numsL mem ++ [10, 108, 101, 102, 116] ++ numsL [left] ++ [10] := by
        unfold textL lastL
        simp [List.append_assoc]
      rw [← this]
      exact h
end Go.Proofs.Yu
namespace Go.Proofs.Yu
open Go Go.Aw Go.Proofs
set_option linter.unusedVariables false
set_option linter.unusedSimpArgs false
set_option maxRecDepth 100000
/-! dyehouse/dyehouselaw35.works -/
namespace N35
noncomputable def cfg : Cfg := { P := Try.prog, ty := tys, E := tab [(36, N36.ent), (40, N40.ent), (38, N38.ent), (44, N44.ent), (42, N42.ent)], atSeq := tab [], atLoop := tab [], outs := [], eqT := tab [], bT := tab [] }
noncomputable def body : Code := bodyOf Try.f35
def c (k : Bool → Prop) : Prop :=
  (N36.f ([((ByteArray.mk #[102]), ([(1 : Int)] : List Int))] : List (ByteArray × (List Int))) (1 : Int) (7 : Int) ([(3 : Int)] : List Int) (2 : Int) ([((ByteArray.mk #[102]), ([(1 : Int)] : List Int))] : List (ByteArray × (List Int))) (1 : Int) (7 : Int) ([(3 : Int)] : List Int) (2 : Int) (fun (y0_0 : Bool) => (br y0_0 (N36.f ([((ByteArray.mk #[102]), ([(1 : Int)] : List Int))] : List (ByteArray × (List Int))) (1 : Int) (7 : Int) ([(3 : Int)] : List Int) (2 : Int) ([((ByteArray.mk #[102]), ([(1 : Int)] : List Int)), ((ByteArray.mk #[103]), ([] : List Int))] : List (ByteArray × (List Int))) (0 : Int) (0 : Int) ([] : List Int) (0 : Int) (fun (y0_1 : Bool) => (br (!y0_1) (N40.f ([((ByteArray.mk #[102]), ([(1 : Int)] : List Int))] : List (ByteArray × (List Int))) (1 : Int) (7 : Int) ([(3 : Int)] : List Int) (2 : Int) ([((ByteArray.mk #[102]), ([(1 : Int)] : List Int)), ((ByteArray.mk #[103]), ([] : List Int))] : List (ByteArray × (List Int))) (0 : Int) (0 : Int) ([] : List Int) (0 : Int) (fun (y0_2 : Bool) => (br y0_2 (N40.f ([((ByteArray.mk #[102]), ([(1 : Int)] : List Int)), ((ByteArray.mk #[103]), ([] : List Int))] : List (ByteArray × (List Int))) (0 : Int) (0 : Int) ([] : List Int) (0 : Int) ([((ByteArray.mk #[102]), ([(1 : Int)] : List Int))] : List (ByteArray × (List Int))) (1 : Int) (7 : Int) ([(3 : Int)] : List Int) (2 : Int) (fun (y0_3 : Bool) => (br (!y0_3) (N38.f ([((ByteArray.mk #[102]), ([(1 : Int)] : List Int))] : List (ByteArray × (List Int))) (1 : Int) (7 : Int) ([(3 : Int)] : List Int) (2 : Int) ([((ByteArray.mk #[102]), ([(1 : Int)] : List Int)), ((ByteArray.mk #[103]), ([] : List Int))] : List (ByteArray × (List Int))) (0 : Int) (0 : Int) ([] : List Int) (0 : Int) (fun (y0_4 : Int) => (br (y0_4 == (1 : Int)) (N44.f (5 : Int) (fun (y0_5 : ByteArray) => (br (beqS y0_5 (ByteArray.mk #[102, 117, 101, 108])) (N42.f ([((ByteArray.mk #[102]), ([(1 : Int)] : List Int))] : List (ByteArray × (List Int))) (1 : Int) (7 : Int) ([(3 : Int)] : List Int) (2 : Int) (fun (y0_6 : ByteArray) => (k (beqS y0_6 (ByteArray.mk #[99, 97, 108, 108, 32, 34, 102, 34, 32, 49, 10, 101, 110, 100, 32, 114, 101, 116, 32, 49, 32, 55, 10, 109, 101, 109, 32, 51, 10, 108, 101, 102, 116, 32, 50, 10]))))) (k false)))) (k false)))) (k false)))) (k false)))) (k false)))) (k false))))
def f0 (k : Bool → Prop) : Prop := c k
theorem f_ex : ∃ g : (Bool → Prop) → Prop, g = f0 := ⟨_, rfl⟩
noncomputable def f : (Bool → Prop) → Prop := Classical.choose f_ex
theorem f_def : f = f0 := Classical.choose_spec f_ex
noncomputable def JJ (k kp : D → List Blk → Prop) : Nat → St → Prop := pick none' []
noncomputable def LL (k kp : D → List Blk → Prop) : Nat → St → Prop := pick none' []
theorem c_c (k kp : D → List Blk → Prop) (J L : Nat → St → Prop) : runC cfg 1000001 J L none'' [] body (topK cfg Try.f35 k kp) (st0 Try.f35 [] []) = c (fun y0 => k (.v (.bool y0)) []) := by kernel_rfl
theorem c_ag (k kp : D → List Blk → Prop) : agPL cfg 1000001 (JJ k kp) (LL k kp) [] body = agPR cfg 1000001 none'' [] body (topK cfg Try.f35 k kp) := by kernel_rfl
theorem body_is : Try.f35.body = some body := by kernel_rfl
theorem c_raw (k kp : D → List Blk → Prop) : funW cfg Try.f35 [] [] k kp = c (fun y0 => k (.v (.bool y0)) []) :=
  Eq.mp (by kernel_rfl) ((funW_run (AG := none'') body_is (c_ag k kp) [] []).trans (c_c k kp (JJ k kp) (LL k kp)))
theorem f_eq (k kp : D → List Blk → Prop) : funW cfg Try.f35 [] [] k kp = f (fun y0 => k (.v (.bool y0)) []) := by
  rw [f_def, c_raw]; rfl
noncomputable def ent0 : Entry := fun args blks k _ => match args, blks with
  | [], [] => f (fun y0 => k (.v (.bool y0)) [])
  | _, _ => False
noncomputable def ent : Entry := fun args blks k kp => ent0 (convB [] args) blks k kp
theorem ok : EntOk Try.prog 0 0 35 ent := by
  refine EntOk.convB (EntOk.of (funW_ok (cfg := cfg) (tyOk_of rfl rfl tyL_ok) (eqOk_of (P := Try.prog) rfl rfl (by kernel_rfl)) mixed_ok (tab_ok ?_) Try.func35 (by rfl) (by rfl)) ?_) _
  · intro p hp
    simp only [List.mem_cons, List.not_mem_nil, or_false] at hp
    rcases hp with rfl | rfl | rfl | rfl | rfl
    · exact N36.ok
    · exact N40.ok
    · exact N38.ok
    · exact N44.ok
    · exact N42.ok
  · intro args blks k kp h k' kp'
    match args, blks, h with
    | [], [], h =>
    dsimp only [ent0] at h
    exact (f_eq k' kp').symm
end N35
end Go.Proofs.Yu
namespace Go.Proofs.Yu
open Go Go.Aw Go.Proofs
set_option linter.unusedVariables false
set_option linter.unusedSimpArgs false
set_option maxRecDepth 100000
/-! dyehouse/dyehouselaw35.ObsTells -/
namespace N8
noncomputable def cfg : Cfg := { P := Try.prog, ty := tys, E := tab [(34, N34.ent), (35, N35.ent), (36, N36.ent), (37, N37.ent), (38, N38.ent), (39, N39.ent), (40, N40.ent), (41, N41.ent), (42, N42.ent), (43, N43.ent), (44, N44.ent), (45, N45.ent)], atSeq := tab [(2000002, ⟨[(2, .keep), (3, .keep), (10, .keep)]⟩), (3, ⟨[(2, .keep), (3, .keep)]⟩)], atLoop := tab [], outs := [], eqT := tab [], bT := tab [], fzB := [2, 3] }
noncomputable def body : Code := bodyOf Try.f8
def j2000002 (j3 : (List (ByteArray × (List Int))) → Int → Int → (List Int) → Int → (List (ByteArray × (List Int))) → Int → Int → (List Int) → Int → Prop) (x2_0 : (List (ByteArray × (List Int)))) (x2_1 : Int) (x2_2 : Int) (x2_3 : (List Int)) (x2_4 : Int) (x3_0 : (List (ByteArray × (List Int)))) (x3_1 : Int) (x3_2 : Int) (x3_3 : (List Int)) (x3_4 : Int) (x10 : Bool) (k : Bool → Prop) : Prop :=
  (br x10 (N35.f (fun (y0_2 : Bool) => (k y0_2))) (j3 x2_0 x2_1 x2_2 x2_3 x2_4 x3_0 x3_1 x3_2 x3_3 x3_4))
def j3 (x2_0 : (List (ByteArray × (List Int)))) (x2_1 : Int) (x2_2 : Int) (x2_3 : (List Int)) (x2_4 : Int) (x3_0 : (List (ByteArray × (List Int)))) (x3_1 : Int) (x3_2 : Int) (x3_3 : (List Int)) (x3_4 : Int) (k : Bool → Prop) : Prop :=
  (N36.f x2_0 x2_1 x2_2 x2_3 x2_4 x3_0 x3_1 x3_2 x3_3 x3_4 (fun (y0_3 : Bool) => (N37.f x2_0 x2_1 x2_2 x2_3 x2_4 x3_0 x3_1 x3_2 x3_3 x3_4 (fun (y0_4 : Bool) => (br (y0_3 == y0_4) (N36.f x2_0 x2_1 x2_2 x2_3 x2_4 x2_0 x2_1 x2_2 x2_3 x2_4 (fun (y0_5 : Bool) => (br y0_5 (N38.f x2_0 x2_1 x2_2 x2_3 x2_4 x3_0 x3_1 x3_2 x3_3 x3_4 (fun (y0_6 : Int) => (N39.f x2_0 x2_1 x2_2 x2_3 x2_4 x3_0 x3_1 x3_2 x3_3 x3_4 (fun (y0_7 : Int) => (br (y0_6 == y0_7) (N40.f x2_0 x2_1 x2_2 x2_3 x2_4 x3_0 x3_1 x3_2 x3_3 x3_4 (fun (y0_8 : Bool) => (N41.f x2_0 x2_1 x2_2 x2_3 x2_4 x3_0 x3_1 x3_2 x3_3 x3_4 (fun (y0_9 : Bool) => (br (y0_8 == y0_9) (N42.f x2_0 x2_1 x2_2 x2_3 x2_4 (fun (y0_10 : ByteArray) => (N43.f x2_0 x2_1 x2_2 x2_3 x2_4 (fun (y0_11 : ByteArray) => (br (beqS y0_10 y0_11) (N44.f x2_1 (fun (y0_12 : ByteArray) => (N45.f x2_1 (fun (y0_13 : ByteArray) => (br (beqS y0_12 y0_13) (N35.f (fun (y0_14 : Bool) => (k y0_14))) (k false)))))) (k false)))))) (k false)))))) (k false)))))) (k false)))) (k false))))))
def c (j2000002 : (List (ByteArray × (List Int))) → Int → Int → (List Int) → Int → (List (ByteArray × (List Int))) → Int → Int → (List Int) → Int → Bool → Prop) (x0_0 : (List (ByteArray × (List Int)))) (x0_1 : Int) (x0_2 : Int) (x0_3 : (List Int)) (x0_4 : Int) (x1_0 : (List (ByteArray × (List Int)))) (x1_1 : Int) (x1_2 : Int) (x1_3 : (List Int)) (x1_4 : Int) (k : Bool → Prop) : Prop :=
  (N34.f x0_0 x0_1 x0_2 x0_3 x0_4 (fun (y0_0 : Bool) => (br y0_0 (j2000002 x0_0 x0_1 x0_2 x0_3 x0_4 x1_0 x1_1 x1_2 x1_3 x1_4 true) (N34.f x1_0 x1_1 x1_2 x1_3 x1_4 (fun (y0_1 : Bool) => (j2000002 x0_0 x0_1 x0_2 x0_3 x0_4 x1_0 x1_1 x1_2 x1_3 x1_4 y0_1))))))
def j3' (x2_0 : (List (ByteArray × (List Int)))) (x2_1 : Int) (x2_2 : Int) (x2_3 : (List Int)) (x2_4 : Int) (x3_0 : (List (ByteArray × (List Int)))) (x3_1 : Int) (x3_2 : Int) (x3_3 : (List Int)) (x3_4 : Int) (k : Bool → Prop) : Prop := j3 x2_0 x2_1 x2_2 x2_3 x2_4 x3_0 x3_1 x3_2 x3_3 x3_4 k
def j2000002' (x2_0 : (List (ByteArray × (List Int)))) (x2_1 : Int) (x2_2 : Int) (x2_3 : (List Int)) (x2_4 : Int) (x3_0 : (List (ByteArray × (List Int)))) (x3_1 : Int) (x3_2 : Int) (x3_3 : (List Int)) (x3_4 : Int) (x10 : Bool) (k : Bool → Prop) : Prop := j2000002 (fun x2_0 x2_1 x2_2 x2_3 x2_4 x3_0 x3_1 x3_2 x3_3 x3_4 => j3' x2_0 x2_1 x2_2 x2_3 x2_4 x3_0 x3_1 x3_2 x3_3 x3_4 k) x2_0 x2_1 x2_2 x2_3 x2_4 x3_0 x3_1 x3_2 x3_3 x3_4 x10 k
def f0 (x0_0 : (List (ByteArray × (List Int)))) (x0_1 : Int) (x0_2 : Int) (x0_3 : (List Int)) (x0_4 : Int) (x1_0 : (List (ByteArray × (List Int)))) (x1_1 : Int) (x1_2 : Int) (x1_3 : (List Int)) (x1_4 : Int) (k : Bool → Prop) : Prop := c (fun x2_0 x2_1 x2_2 x2_3 x2_4 x3_0 x3_1 x3_2 x3_3 x3_4 x10 => j2000002' x2_0 x2_1 x2_2 x2_3 x2_4 x3_0 x3_1 x3_2 x3_3 x3_4 x10 k) x0_0 x0_1 x0_2 x0_3 x0_4 x1_0 x1_1 x1_2 x1_3 x1_4 k
theorem f_ex : ∃ g : (List (ByteArray × (List Int))) → Int → Int → (List Int) → Int → (List (ByteArray × (List Int))) → Int → Int → (List Int) → Int → (Bool → Prop) → Prop, g = f0 := ⟨_, rfl⟩
noncomputable def f : (List (ByteArray × (List Int))) → Int → Int → (List Int) → Int → (List (ByteArray × (List Int))) → Int → Int → (List Int) → Int → (Bool → Prop) → Prop := Classical.choose f_ex
theorem f_def : f = f0 := Classical.choose_spec f_ex
def m2000002 (x2_0 : (List (ByteArray × (List Int)))) (x2_1 : Int) (x2_2 : Int) (x2_3 : (List Int)) (x2_4 : Int) (x3_0 : (List (ByteArray × (List Int)))) (x3_1 : Int) (x3_2 : Int) (x3_3 : (List Int)) (x3_4 : Int) (x10 : Bool) : St := { tmps := mkT 61 0 [(2, (.fp [(.fz (Ty.pair Ty.str (Ty.list (Ty.int IntKind.i64))) x2_0), (.v (.int IntKind.i64 x2_1)), (.v (.int IntKind.i64 x2_2)), (.fz (Ty.int IntKind.i64) x2_3), (.v (.int IntKind.i64 x2_4))])), (3, (.fp [(.fz (Ty.pair Ty.str (Ty.list (Ty.int IntKind.i64))) x3_0), (.v (.int IntKind.i64 x3_1)), (.v (.int IntKind.i64 x3_2)), (.fz (Ty.int IntKind.i64) x3_3), (.v (.int IntKind.i64 x3_4))])), (10, (.v (.bool x10)))], hp := [], m := 0 }
def m3 (x2_0 : (List (ByteArray × (List Int)))) (x2_1 : Int) (x2_2 : Int) (x2_3 : (List Int)) (x2_4 : Int) (x3_0 : (List (ByteArray × (List Int)))) (x3_1 : Int) (x3_2 : Int) (x3_3 : (List Int)) (x3_4 : Int) : St := { tmps := mkT 61 0 [(2, (.fp [(.fz (Ty.pair Ty.str (Ty.list (Ty.int IntKind.i64))) x2_0), (.v (.int IntKind.i64 x2_1)), (.v (.int IntKind.i64 x2_2)), (.fz (Ty.int IntKind.i64) x2_3), (.v (.int IntKind.i64 x2_4))])), (3, (.fp [(.fz (Ty.pair Ty.str (Ty.list (Ty.int IntKind.i64))) x3_0), (.v (.int IntKind.i64 x3_1)), (.v (.int IntKind.i64 x3_2)), (.fz (Ty.int IntKind.i64) x3_3), (.v (.int IntKind.i64 x3_4))]))], hp := [], m := 0 }
noncomputable def X2000002 (k kp : D → List Blk → Prop) : St → Prop := atP cfg (pick none' []) [1, 0, 1] body (topK cfg Try.f8 k kp)
noncomputable def X3 (k kp : D → List Blk → Prop) : St → Prop := atP cfg (pick none' []) [1, 1] body (topK cfg Try.f8 k kp)
noncomputable def JJ (k kp : D → List Blk → Prop) : Nat → St → Prop := pick none' [(2000002, X2000002 k kp), (3, X3 k kp)]
noncomputable def LL (k kp : D → List Blk → Prop) : Nat → St → Prop := pick none' []
theorem j3_c (k kp : D → List Blk → Prop) (J L : Nat → St → Prop) (x2_0 : (List (ByteArray × (List Int)))) (x2_1 : Int) (x2_2 : Int) (x2_3 : (List Int)) (x2_4 : Int) (x3_0 : (List (ByteArray × (List Int)))) (x3_1 : Int) (x3_2 : Int) (x3_3 : (List Int)) (x3_4 : Int) : runC cfg 3 J L (pick none' []) [1, 1] body (topK cfg Try.f8 k kp) (m3 x2_0 x2_1 x2_2 x2_3 x2_4 x3_0 x3_1 x3_2 x3_3 x3_4) = j3 x2_0 x2_1 x2_2 x2_3 x2_4 x3_0 x3_1 x3_2 x3_3 x3_4 (fun y0 => k (.v (.bool y0)) []) := by kernel_rfl
theorem j3_ag (k kp : D → List Blk → Prop) : agPL cfg 3 (JJ k kp) (LL k kp) [1, 1] body = agPR cfg 3 (pick none' []) [1, 1] body (topK cfg Try.f8 k kp) := by kernel_rfl
theorem j3_raw (k kp : D → List Blk → Prop) (x2_0 : (List (ByteArray × (List Int)))) (x2_1 : Int) (x2_2 : Int) (x2_3 : (List Int)) (x2_4 : Int) (x3_0 : (List (ByteArray × (List Int)))) (x3_1 : Int) (x3_2 : Int) (x3_3 : (List Int)) (x3_4 : Int) : X3 k kp (m3 x2_0 x2_1 x2_2 x2_3 x2_4 x3_0 x3_1 x3_2 x3_3 x3_4) = j3 x2_0 x2_1 x2_2 x2_3 x2_4 x3_0 x3_1 x3_2 x3_3 x3_4 (fun y0 => k (.v (.bool y0)) []) :=
  Eq.mp (by kernel_rfl) ((atP_run (j3_ag k kp) (m3 x2_0 x2_1 x2_2 x2_3 x2_4 x3_0 x3_1 x3_2 x3_3 x3_4)).trans (j3_c k kp (JJ k kp) (LL k kp) x2_0 x2_1 x2_2 x2_3 x2_4 x3_0 x3_1 x3_2 x3_3 x3_4))
theorem j3_eq (k kp : D → List Blk → Prop) (x2_0 : (List (ByteArray × (List Int)))) (x2_1 : Int) (x2_2 : Int) (x2_3 : (List Int)) (x2_4 : Int) (x3_0 : (List (ByteArray × (List Int)))) (x3_1 : Int) (x3_2 : Int) (x3_3 : (List Int)) (x3_4 : Int) : X3 k kp (m3 x2_0 x2_1 x2_2 x2_3 x2_4 x3_0 x3_1 x3_2 x3_3 x3_4) = j3' x2_0 x2_1 x2_2 x2_3 x2_4 x3_0 x3_1 x3_2 x3_3 x3_4 (fun y0 => k (.v (.bool y0)) []) := by
  rw [j3_raw]; rfl
theorem j2000002_c (k kp : D → List Blk → Prop) (J L : Nat → St → Prop) (x2_0 : (List (ByteArray × (List Int)))) (x2_1 : Int) (x2_2 : Int) (x2_3 : (List Int)) (x2_4 : Int) (x3_0 : (List (ByteArray × (List Int)))) (x3_1 : Int) (x3_2 : Int) (x3_3 : (List Int)) (x3_4 : Int) (x10 : Bool) : runC cfg 2000002 J L (pick none' []) [1, 0, 1] body (topK cfg Try.f8 k kp) (m2000002 x2_0 x2_1 x2_2 x2_3 x2_4 x3_0 x3_1 x3_2 x3_3 x3_4 x10) = j2000002 (fun x2_0 x2_1 x2_2 x2_3 x2_4 x3_0 x3_1 x3_2 x3_3 x3_4 => J 3 (m3 x2_0 x2_1 x2_2 x2_3 x2_4 x3_0 x3_1 x3_2 x3_3 x3_4)) x2_0 x2_1 x2_2 x2_3 x2_4 x3_0 x3_1 x3_2 x3_3 x3_4 x10 (fun y0 => k (.v (.bool y0)) []) := by kernel_rfl
theorem j2000002_ag (k kp : D → List Blk → Prop) : agPL cfg 2000002 (JJ k kp) (LL k kp) [1, 0, 1] body = agPR cfg 2000002 (pick none' []) [1, 0, 1] body (topK cfg Try.f8 k kp) := by kernel_rfl
theorem j2000002_raw (k kp : D → List Blk → Prop) (x2_0 : (List (ByteArray × (List Int)))) (x2_1 : Int) (x2_2 : Int) (x2_3 : (List Int)) (x2_4 : Int) (x3_0 : (List (ByteArray × (List Int)))) (x3_1 : Int) (x3_2 : Int) (x3_3 : (List Int)) (x3_4 : Int) (x10 : Bool) : X2000002 k kp (m2000002 x2_0 x2_1 x2_2 x2_3 x2_4 x3_0 x3_1 x3_2 x3_3 x3_4 x10) = j2000002 (fun x2_0 x2_1 x2_2 x2_3 x2_4 x3_0 x3_1 x3_2 x3_3 x3_4 => X3 k kp (m3 x2_0 x2_1 x2_2 x2_3 x2_4 x3_0 x3_1 x3_2 x3_3 x3_4)) x2_0 x2_1 x2_2 x2_3 x2_4 x3_0 x3_1 x3_2 x3_3 x3_4 x10 (fun y0 => k (.v (.bool y0)) []) :=
  Eq.mp (by kernel_rfl) ((atP_run (j2000002_ag k kp) (m2000002 x2_0 x2_1 x2_2 x2_3 x2_4 x3_0 x3_1 x3_2 x3_3 x3_4 x10)).trans (j2000002_c k kp (JJ k kp) (LL k kp) x2_0 x2_1 x2_2 x2_3 x2_4 x3_0 x3_1 x3_2 x3_3 x3_4 x10))
theorem j2000002_eq (k kp : D → List Blk → Prop) (x2_0 : (List (ByteArray × (List Int)))) (x2_1 : Int) (x2_2 : Int) (x2_3 : (List Int)) (x2_4 : Int) (x3_0 : (List (ByteArray × (List Int)))) (x3_1 : Int) (x3_2 : Int) (x3_3 : (List Int)) (x3_4 : Int) (x10 : Bool) : X2000002 k kp (m2000002 x2_0 x2_1 x2_2 x2_3 x2_4 x3_0 x3_1 x3_2 x3_3 x3_4 x10) = j2000002' x2_0 x2_1 x2_2 x2_3 x2_4 x3_0 x3_1 x3_2 x3_3 x3_4 x10 (fun y0 => k (.v (.bool y0)) []) := by
  rw [j2000002_raw]; simp only [j3_eq]; first | done | rfl
theorem c_c (k kp : D → List Blk → Prop) (J L : Nat → St → Prop) (x0_0 : (List (ByteArray × (List Int)))) (x0_1 : Int) (x0_2 : Int) (x0_3 : (List Int)) (x0_4 : Int) (x1_0 : (List (ByteArray × (List Int)))) (x1_1 : Int) (x1_2 : Int) (x1_3 : (List Int)) (x1_4 : Int) : runC cfg 1000001 J L none'' [] body (topK cfg Try.f8 k kp) (st0 Try.f8 [(.agg [(.fz (Ty.pair Ty.str (Ty.list (Ty.int IntKind.i64))) x0_0), (.v (.int IntKind.i64 x0_1)), (.v (.int IntKind.i64 x0_2)), (.fz (Ty.int IntKind.i64) x0_3), (.v (.int IntKind.i64 x0_4))]), (.agg [(.fz (Ty.pair Ty.str (Ty.list (Ty.int IntKind.i64))) x1_0), (.v (.int IntKind.i64 x1_1)), (.v (.int IntKind.i64 x1_2)), (.fz (Ty.int IntKind.i64) x1_3), (.v (.int IntKind.i64 x1_4))])] []) = c (fun x2_0 x2_1 x2_2 x2_3 x2_4 x3_0 x3_1 x3_2 x3_3 x3_4 x10 => J 2000002 (m2000002 x2_0 x2_1 x2_2 x2_3 x2_4 x3_0 x3_1 x3_2 x3_3 x3_4 x10)) x0_0 x0_1 x0_2 x0_3 x0_4 x1_0 x1_1 x1_2 x1_3 x1_4 (fun y0 => k (.v (.bool y0)) []) := by kernel_rfl
theorem c_ag (k kp : D → List Blk → Prop) : agPL cfg 1000001 (JJ k kp) (LL k kp) [] body = agPR cfg 1000001 none'' [] body (topK cfg Try.f8 k kp) := by kernel_rfl
theorem body_is : Try.f8.body = some body := by kernel_rfl
theorem c_raw (k kp : D → List Blk → Prop) (x0_0 : (List (ByteArray × (List Int)))) (x0_1 : Int) (x0_2 : Int) (x0_3 : (List Int)) (x0_4 : Int) (x1_0 : (List (ByteArray × (List Int)))) (x1_1 : Int) (x1_2 : Int) (x1_3 : (List Int)) (x1_4 : Int) : funW cfg Try.f8 [(.agg [(.fz (Ty.pair Ty.str (Ty.list (Ty.int IntKind.i64))) x0_0), (.v (.int IntKind.i64 x0_1)), (.v (.int IntKind.i64 x0_2)), (.fz (Ty.int IntKind.i64) x0_3), (.v (.int IntKind.i64 x0_4))]), (.agg [(.fz (Ty.pair Ty.str (Ty.list (Ty.int IntKind.i64))) x1_0), (.v (.int IntKind.i64 x1_1)), (.v (.int IntKind.i64 x1_2)), (.fz (Ty.int IntKind.i64) x1_3), (.v (.int IntKind.i64 x1_4))])] [] k kp = c (fun x2_0 x2_1 x2_2 x2_3 x2_4 x3_0 x3_1 x3_2 x3_3 x3_4 x10 => X2000002 k kp (m2000002 x2_0 x2_1 x2_2 x2_3 x2_4 x3_0 x3_1 x3_2 x3_3 x3_4 x10)) x0_0 x0_1 x0_2 x0_3 x0_4 x1_0 x1_1 x1_2 x1_3 x1_4 (fun y0 => k (.v (.bool y0)) []) :=
  Eq.mp (by kernel_rfl) ((funW_run (AG := none'') body_is (c_ag k kp) [(.agg [(.fz (Ty.pair Ty.str (Ty.list (Ty.int IntKind.i64))) x0_0), (.v (.int IntKind.i64 x0_1)), (.v (.int IntKind.i64 x0_2)), (.fz (Ty.int IntKind.i64) x0_3), (.v (.int IntKind.i64 x0_4))]), (.agg [(.fz (Ty.pair Ty.str (Ty.list (Ty.int IntKind.i64))) x1_0), (.v (.int IntKind.i64 x1_1)), (.v (.int IntKind.i64 x1_2)), (.fz (Ty.int IntKind.i64) x1_3), (.v (.int IntKind.i64 x1_4))])] []).trans (c_c k kp (JJ k kp) (LL k kp) x0_0 x0_1 x0_2 x0_3 x0_4 x1_0 x1_1 x1_2 x1_3 x1_4))
theorem f_eq (k kp : D → List Blk → Prop) (x0_0 : (List (ByteArray × (List Int)))) (x0_1 : Int) (x0_2 : Int) (x0_3 : (List Int)) (x0_4 : Int) (x1_0 : (List (ByteArray × (List Int)))) (x1_1 : Int) (x1_2 : Int) (x1_3 : (List Int)) (x1_4 : Int) : funW cfg Try.f8 [(.agg [(.fz (Ty.pair Ty.str (Ty.list (Ty.int IntKind.i64))) x0_0), (.v (.int IntKind.i64 x0_1)), (.v (.int IntKind.i64 x0_2)), (.fz (Ty.int IntKind.i64) x0_3), (.v (.int IntKind.i64 x0_4))]), (.agg [(.fz (Ty.pair Ty.str (Ty.list (Ty.int IntKind.i64))) x1_0), (.v (.int IntKind.i64 x1_1)), (.v (.int IntKind.i64 x1_2)), (.fz (Ty.int IntKind.i64) x1_3), (.v (.int IntKind.i64 x1_4))])] [] k kp = f x0_0 x0_1 x0_2 x0_3 x0_4 x1_0 x1_1 x1_2 x1_3 x1_4 (fun y0 => k (.v (.bool y0)) []) := by
  rw [f_def, c_raw]; simp only [j2000002_eq]; first | done | rfl
noncomputable def ent0 : Entry := fun args blks k _ => match args, blks with
  | [d0, d1], [] => aAgg 5 d0 fun l => aCons l fun d0_0 l => aCons l fun d0_1 l => aCons l fun d0_2 l => aCons l fun d0_3 l => aCons l fun d0_4 l => aNil l (aFz (Ty.pair Ty.str (Ty.list (Ty.int IntKind.i64))) d0_0 fun x0_0 => aInt IntKind.i64 d0_1 fun x0_1 => aInt IntKind.i64 d0_2 fun x0_2 => aFz (Ty.int IntKind.i64) d0_3 fun x0_3 => aInt IntKind.i64 d0_4 fun x0_4 => aAgg 5 d1 fun l => aCons l fun d1_0 l => aCons l fun d1_1 l => aCons l fun d1_2 l => aCons l fun d1_3 l => aCons l fun d1_4 l => aNil l (aFz (Ty.pair Ty.str (Ty.list (Ty.int IntKind.i64))) d1_0 fun x1_0 => aInt IntKind.i64 d1_1 fun x1_1 => aInt IntKind.i64 d1_2 fun x1_2 => aFz (Ty.int IntKind.i64) d1_3 fun x1_3 => aInt IntKind.i64 d1_4 fun x1_4 => f x0_0 x0_1 x0_2 x0_3 x0_4 x1_0 x1_1 x1_2 x1_3 x1_4 (fun y0 => k (.v (.bool y0)) [])))
  | _, _ => False
noncomputable def ent : Entry := fun args blks k kp => ent0 (convB [.cells [some (Ty.pair Ty.str (Ty.list (Ty.int IntKind.i64))), none, none, some (Ty.int IntKind.i64), none], .cells [some (Ty.pair Ty.str (Ty.list (Ty.int IntKind.i64))), none, none, some (Ty.int IntKind.i64), none]] args) blks k kp
theorem ok : EntOk Try.prog 0 0 8 ent := by
  refine EntOk.convB (EntOk.of (funW_ok (cfg := cfg) (tyOk_of rfl rfl tyL_ok) (eqOk_of (P := Try.prog) rfl rfl (by kernel_rfl)) mixed_ok (tab_ok ?_) Try.func8 (by rfl) (by rfl)) ?_) _
  · intro p hp
    simp only [List.mem_cons, List.not_mem_nil, or_false] at hp
    rcases hp with rfl | rfl | rfl | rfl | rfl | rfl | rfl | rfl | rfl | rfl | rfl | rfl
    · exact N34.ok
    · exact N35.ok
    · exact N36.ok
    · exact N37.ok
    · exact N38.ok
    · exact N39.ok
    · exact N40.ok
    · exact N41.ok
    · exact N42.ok
    · exact N43.ok
    · exact N44.ok
    · exact N45.ok
  · intro args blks k kp h k' kp'
    match args, blks, h with
    | [d0, d1], [], h =>
    dsimp only [ent0] at h
    have h9 := aAgg_elim h; clear h; obtain ⟨_, rfl, h⟩ := h9
    have h9 := aCons_elim h; clear h; obtain ⟨d0_0, _, rfl, h⟩ := h9
    have h9 := aCons_elim h; clear h; obtain ⟨d0_1, _, rfl, h⟩ := h9
    have h9 := aCons_elim h; clear h; obtain ⟨d0_2, _, rfl, h⟩ := h9
    have h9 := aCons_elim h; clear h; obtain ⟨d0_3, _, rfl, h⟩ := h9
    have h9 := aCons_elim h; clear h; obtain ⟨d0_4, _, rfl, h⟩ := h9
    have h9 := aNil_elim h; clear h; obtain ⟨rfl, h⟩ := h9
    have h9 := aFz_elim (t := (Ty.pair Ty.str (Ty.list (Ty.int IntKind.i64)))) h; clear h; obtain ⟨x0_0, rfl, h⟩ := h9
    have h9 := aInt_elim h; clear h; obtain ⟨x0_1, rfl, h⟩ := h9
    have h9 := aInt_elim h; clear h; obtain ⟨x0_2, rfl, h⟩ := h9
    have h9 := aFz_elim (t := (Ty.int IntKind.i64)) h; clear h; obtain ⟨x0_3, rfl, h⟩ := h9
    have h9 := aInt_elim h; clear h; obtain ⟨x0_4, rfl, h⟩ := h9
    have h9 := aAgg_elim h; clear h; obtain ⟨_, rfl, h⟩ := h9
    have h9 := aCons_elim h; clear h; obtain ⟨d1_0, _, rfl, h⟩ := h9
    have h9 := aCons_elim h; clear h; obtain ⟨d1_1, _, rfl, h⟩ := h9
    have h9 := aCons_elim h; clear h; obtain ⟨d1_2, _, rfl, h⟩ := h9
    have h9 := aCons_elim h; clear h; obtain ⟨d1_3, _, rfl, h⟩ := h9
    have h9 := aCons_elim h; clear h; obtain ⟨d1_4, _, rfl, h⟩ := h9
    have h9 := aNil_elim h; clear h; obtain ⟨rfl, h⟩ := h9
    have h9 := aFz_elim (t := (Ty.pair Ty.str (Ty.list (Ty.int IntKind.i64)))) h; clear h; obtain ⟨x1_0, rfl, h⟩ := h9
    have h9 := aInt_elim h; clear h; obtain ⟨x1_1, rfl, h⟩ := h9
    have h9 := aInt_elim h; clear h; obtain ⟨x1_2, rfl, h⟩ := h9
    have h9 := aFz_elim (t := (Ty.int IntKind.i64)) h; clear h; obtain ⟨x1_3, rfl, h⟩ := h9
    have h9 := aInt_elim h; clear h; obtain ⟨x1_4, rfl, h⟩ := h9
    exact (f_eq k' kp' x0_0 x0_1 x0_2 x0_3 x0_4 x1_0 x1_1 x1_2 x1_3 x1_4).symm
end N8
end Go.Proofs.Yu
