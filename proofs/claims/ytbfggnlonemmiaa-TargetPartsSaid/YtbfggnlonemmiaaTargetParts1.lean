/- Spoilt and kept registers share out the class. -/
import Derived.Test.YtbfggnlonemmiaaTargetParts0
import Derived.Test.YtbfggnlonemmiaaRows
import Derived.Test.YtbfggnlonemmiaaT1
import Derived.WalkKit
import Derived.ProofKit
import Derived.OpenShut
import Derived.ShutString
import Derived.ChangeOld
import Derived.Below
import Derived.SizedLaws
namespace Go.Proofs.Yu
open Go Go.Aw Go.Proofs
set_option linter.unusedVariables false
set_option linter.unusedSimpArgs false
set_option maxRecDepth 100000
/-! dyehouse/dyehouseref13.Has -/
namespace N19
noncomputable def cfg : Cfg := { P := Try.prog, ty := tys, E := tab [], atSeq := tab [], atLoop := tab [], outs := [], eqT := tab [] }
noncomputable def body : Code := bodyOf Try.f19
def c (x0_0_0 : Int) (x0_0_1 : Int) (x0_1_0 : (List Int)) (x0_1_1 : (List Int)) (x0_2 : Int) (x1_0 : Int) (x1_1 : Int) (x1_2 : Int) (k : Bool → Prop) : Prop :=
  (br (x1_0 == (3 : Int)) (br (x1_1 == (0 : Int)) (br (decide (x1_2 ≥ (0 : Int))) (k (decide (x1_2 < x0_2))) (k false)) (k false)) (br (x1_0 == (2 : Int)) (br (x1_1 == (0 : Int)) (br (decide (x1_2 ≥ (0 : Int))) (br (decide (x1_1 = ((0 : Nat) : Int))) (k (decide (x1_2 < x0_0_0))) (br (decide (x1_1 = ((1 : Nat) : Int))) (k (decide (x1_2 < x0_0_1))) False)) (k false)) (br (x1_1 == (1 : Int)) (br (decide (x1_2 ≥ (0 : Int))) (br (decide (x1_1 = ((0 : Nat) : Int))) (k (decide (x1_2 < x0_0_0))) (br (decide (x1_1 = ((1 : Nat) : Int))) (k (decide (x1_2 < x0_0_1))) False)) (k false)) (k false))) (k false)))
def f0 (x0_0_0 : Int) (x0_0_1 : Int) (x0_1_0 : (List Int)) (x0_1_1 : (List Int)) (x0_2 : Int) (x1_0 : Int) (x1_1 : Int) (x1_2 : Int) (k : Bool → Prop) : Prop := c x0_0_0 x0_0_1 x0_1_0 x0_1_1 x0_2 x1_0 x1_1 x1_2 k
theorem f_ex : ∃ g : Int → Int → (List Int) → (List Int) → Int → Int → Int → Int → (Bool → Prop) → Prop, g = f0 := ⟨_, rfl⟩
noncomputable def f : Int → Int → (List Int) → (List Int) → Int → Int → Int → Int → (Bool → Prop) → Prop := Classical.choose f_ex
theorem f_def : f = f0 := Classical.choose_spec f_ex
noncomputable def JJ (k kp : D → List Blk → Prop) : Nat → St → Prop := pick none' []
noncomputable def LL (k kp : D → List Blk → Prop) : Nat → St → Prop := pick none' []
theorem c_c (k kp : D → List Blk → Prop) (J L : Nat → St → Prop) (x0_0_0 : Int) (x0_0_1 : Int) (x0_1_0 : (List Int)) (x0_1_1 : (List Int)) (x0_2 : Int) (x1_0 : Int) (x1_1 : Int) (x1_2 : Int) : runC cfg 1000001 J L none'' [] body (topK cfg Try.f19 k kp) (st0 Try.f19 [(.agg [(.v (.int IntKind.i64 x0_0_0)), (.v (.int IntKind.i64 x0_0_1)), (.fz (Ty.int IntKind.i64) x0_1_0), (.fz (Ty.int IntKind.i64) x0_1_1), (.v (.int IntKind.i64 x0_2))]), (.agg [(.v (.int IntKind.i64 x1_0)), (.v (.int IntKind.i64 x1_1)), (.v (.int IntKind.i64 x1_2))])] []) = c x0_0_0 x0_0_1 x0_1_0 x0_1_1 x0_2 x1_0 x1_1 x1_2 (fun y0 => k (.v (.bool y0)) []) := by kernel_rfl
theorem c_ag (k kp : D → List Blk → Prop) : agPL cfg 1000001 (JJ k kp) (LL k kp) [] body = agPR cfg 1000001 none'' [] body (topK cfg Try.f19 k kp) := by kernel_rfl
theorem body_is : Try.f19.body = some body := by kernel_rfl
theorem c_raw (k kp : D → List Blk → Prop) (x0_0_0 : Int) (x0_0_1 : Int) (x0_1_0 : (List Int)) (x0_1_1 : (List Int)) (x0_2 : Int) (x1_0 : Int) (x1_1 : Int) (x1_2 : Int) : funW cfg Try.f19 [(.agg [(.v (.int IntKind.i64 x0_0_0)), (.v (.int IntKind.i64 x0_0_1)), (.fz (Ty.int IntKind.i64) x0_1_0), (.fz (Ty.int IntKind.i64) x0_1_1), (.v (.int IntKind.i64 x0_2))]), (.agg [(.v (.int IntKind.i64 x1_0)), (.v (.int IntKind.i64 x1_1)), (.v (.int IntKind.i64 x1_2))])] [] k kp = c x0_0_0 x0_0_1 x0_1_0 x0_1_1 x0_2 x1_0 x1_1 x1_2 (fun y0 => k (.v (.bool y0)) []) :=
  Eq.mp (by kernel_rfl) ((funW_run (AG := none'') body_is (c_ag k kp) [(.agg [(.v (.int IntKind.i64 x0_0_0)), (.v (.int IntKind.i64 x0_0_1)), (.fz (Ty.int IntKind.i64) x0_1_0), (.fz (Ty.int IntKind.i64) x0_1_1), (.v (.int IntKind.i64 x0_2))]), (.agg [(.v (.int IntKind.i64 x1_0)), (.v (.int IntKind.i64 x1_1)), (.v (.int IntKind.i64 x1_2))])] []).trans (c_c k kp (JJ k kp) (LL k kp) x0_0_0 x0_0_1 x0_1_0 x0_1_1 x0_2 x1_0 x1_1 x1_2))
theorem f_eq (k kp : D → List Blk → Prop) (x0_0_0 : Int) (x0_0_1 : Int) (x0_1_0 : (List Int)) (x0_1_1 : (List Int)) (x0_2 : Int) (x1_0 : Int) (x1_1 : Int) (x1_2 : Int) : funW cfg Try.f19 [(.agg [(.v (.int IntKind.i64 x0_0_0)), (.v (.int IntKind.i64 x0_0_1)), (.fz (Ty.int IntKind.i64) x0_1_0), (.fz (Ty.int IntKind.i64) x0_1_1), (.v (.int IntKind.i64 x0_2))]), (.agg [(.v (.int IntKind.i64 x1_0)), (.v (.int IntKind.i64 x1_1)), (.v (.int IntKind.i64 x1_2))])] [] k kp = f x0_0_0 x0_0_1 x0_1_0 x0_1_1 x0_2 x1_0 x1_1 x1_2 (fun y0 => k (.v (.bool y0)) []) := by
  rw [f_def, c_raw]; rfl
noncomputable def ent0 : Entry := fun args blks k _ => match args, blks with
  | [d0, d1], [] => aAgg 5 d0 fun l => aCons l fun d0_0 l => aCons l fun d0_1 l => aCons l fun d0_2 l => aCons l fun d0_3 l => aCons l fun d0_4 l => aNil l (aInt IntKind.i64 d0_0 fun x0_0_0 => aInt IntKind.i64 d0_1 fun x0_0_1 => aFz (Ty.int IntKind.i64) d0_2 fun x0_1_0 => aFz (Ty.int IntKind.i64) d0_3 fun x0_1_1 => aInt IntKind.i64 d0_4 fun x0_2 => aAgg 3 d1 fun l => aCons l fun d1_0 l => aCons l fun d1_1 l => aCons l fun d1_2 l => aNil l (aInt IntKind.i64 d1_0 fun x1_0 => aInt IntKind.i64 d1_1 fun x1_1 => aInt IntKind.i64 d1_2 fun x1_2 => f x0_0_0 x0_0_1 x0_1_0 x0_1_1 x0_2 x1_0 x1_1 x1_2 (fun y0 => k (.v (.bool y0)) [])))
  | _, _ => False
noncomputable def ent : Entry := fun args blks k kp => ent0 (convA [none, none] args) blks k kp
theorem ok : EntOk Try.prog 0 0 19 ent := by
  refine EntOk.conv (EntOk.of (funW_ok (cfg := cfg) (tyOk_of rfl rfl tyL_ok) (eqOk_of (P := Try.prog) rfl rfl (by kernel_rfl)) mixed_ok (tab_ok ?_) Try.func19 (by rfl) (by rfl)) ?_) _
  · intro p hp
    cases hp
  · intro args blks k kp h k' kp'
    match args, blks, h with
    | [d0, d1], [], h =>
    dsimp only [ent0] at h
    have h9 := aAgg_elim h; clear h; obtain ⟨_, rfl, h⟩ := h9
    have h9 := aCons_elim h; clear h; obtain ⟨d0_0, _, rfl, h⟩ := h9
    have h9 := aCons_elim h; clear h; obtain ⟨d0_1, _, rfl, h⟩ := h9
    have h9 := aCons_elim h; clear h; obtain ⟨d0_2, _, rfl, h⟩ := h9
    have h9 := aCons_elim h; clear h; obtain ⟨d0_3, _, rfl, h⟩ := h9
    have h9 := aCons_elim h; clear h; obtain ⟨d0_4, _, rfl, h⟩ := h9
    have h9 := aNil_elim h; clear h; obtain ⟨rfl, h⟩ := h9
    have h9 := aInt_elim h; clear h; obtain ⟨x0_0_0, rfl, h⟩ := h9
    have h9 := aInt_elim h; clear h; obtain ⟨x0_0_1, rfl, h⟩ := h9
    have h9 := aFz_elim (t := (Ty.int IntKind.i64)) h; clear h; obtain ⟨x0_1_0, rfl, h⟩ := h9
    have h9 := aFz_elim (t := (Ty.int IntKind.i64)) h; clear h; obtain ⟨x0_1_1, rfl, h⟩ := h9
    have h9 := aInt_elim h; clear h; obtain ⟨x0_2, rfl, h⟩ := h9
    have h9 := aAgg_elim h; clear h; obtain ⟨_, rfl, h⟩ := h9
    have h9 := aCons_elim h; clear h; obtain ⟨d1_0, _, rfl, h⟩ := h9
    have h9 := aCons_elim h; clear h; obtain ⟨d1_1, _, rfl, h⟩ := h9
    have h9 := aCons_elim h; clear h; obtain ⟨d1_2, _, rfl, h⟩ := h9
    have h9 := aNil_elim h; clear h; obtain ⟨rfl, h⟩ := h9
    have h9 := aInt_elim h; clear h; obtain ⟨x1_0, rfl, h⟩ := h9
    have h9 := aInt_elim h; clear h; obtain ⟨x1_1, rfl, h⟩ := h9
    have h9 := aInt_elim h; clear h; obtain ⟨x1_2, rfl, h⟩ := h9
    exact (f_eq k' kp' x0_0_0 x0_0_1 x0_1_0 x0_1_1 x0_2 x1_0 x1_1 x1_2).symm
end N19
end Go.Proofs.Yu
namespace Go.Proofs.Yu
open Go Go.Aw Go.Proofs
set_option linter.unusedVariables false
set_option linter.unusedSimpArgs false
set_option maxRecDepth 100000
/-! dyehouse/dyehouseref13.Spoils -/
namespace N21
noncomputable def cfg : Cfg := { P := Try.prog, ty := tys, E := tab [], atSeq := tab [(2000002, ⟨[(2, .keep), (3, .keep), (18, .keep)]⟩), (3, ⟨[(2, .keep), (3, .keep)]⟩), (8, ⟨[]⟩)], atLoop := tab [(4, ⟨[(2, .keep), (3, .keep), (5, .keep)]⟩)], outs := [], eqT := tab [] }
noncomputable def body : Code := bodyOf Try.f21
def j2000002 (j3 : Int → Int → (List Int) → (List Int) → Int → Int → Int → Int → Prop) (x18 : Bool) (b0_0 : Int) (b0_1 : Int) (b0_2 : (List Int)) (b0_3 : (List Int)) (b0_4 : Int) (b1_0 : Int) (b1_1 : Int) (b1_2 : Int) (k : Bool → Prop) : Prop :=
  (br x18 (k false) (j3 b0_0 b0_1 b0_2 b0_3 b0_4 b1_0 b1_1 b1_2))
def j3 (l4 : Int → Int → Int → (List Int) → (List Int) → Int → Int → Int → Int → Prop) (b0_0 : Int) (b0_1 : Int) (b0_2 : (List Int)) (b0_3 : (List Int)) (b0_4 : Int) (b1_0 : Int) (b1_1 : Int) (b1_2 : Int) (k : Bool → Prop) : Prop :=
  (l4 (0 : Int) b0_0 b0_1 b0_2 b0_3 b0_4 b1_0 b1_1 b1_2)
def l4 (j8 : Prop) (ag4 : Int → Int → Int → (List Int) → (List Int) → Int → Int → Int → Int → Prop) (x5 : Int) (b0_0 : Int) (b0_1 : Int) (b0_2 : (List Int)) (b0_3 : (List Int)) (b0_4 : Int) (b1_0 : Int) (b1_1 : Int) (b1_2 : Int) (k : Bool → Prop) : Prop :=
  (br (decide (b1_1 = ((0 : Nat) : Int))) (br (decide (x5 < ((((b0_2).length : Nat) : Int)))) (br (decide (b1_1 = ((0 : Nat) : Int))) ((inB 0 x5 ((((b0_2).length : Nat) : Int) - 1)) ∧ (br ((b0_2.getD (Int.toNat x5) (0)) == b1_2) (k true) (ag4 (IntKind.i64.wrap (x5 + (1 : Int))) b0_0 b0_1 b0_2 b0_3 b0_4 b1_0 b1_1 b1_2))) (br (decide (b1_1 = ((1 : Nat) : Int))) ((inB 0 x5 ((((b0_3).length : Nat) : Int) - 1)) ∧ (br ((b0_3.getD (Int.toNat x5) (0)) == b1_2) (k true) (ag4 (IntKind.i64.wrap (x5 + (1 : Int))) b0_0 b0_1 b0_2 b0_3 b0_4 b1_0 b1_1 b1_2))) False)) (j8)) (br (decide (b1_1 = ((1 : Nat) : Int))) (br (decide (x5 < ((((b0_3).length : Nat) : Int)))) (br (decide (b1_1 = ((0 : Nat) : Int))) ((inB 0 x5 ((((b0_2).length : Nat) : Int) - 1)) ∧ (br ((b0_2.getD (Int.toNat x5) (0)) == b1_2) (k true) (ag4 (IntKind.i64.wrap (x5 + (1 : Int))) b0_0 b0_1 b0_2 b0_3 b0_4 b1_0 b1_1 b1_2))) (br (decide (b1_1 = ((1 : Nat) : Int))) ((inB 0 x5 ((((b0_3).length : Nat) : Int) - 1)) ∧ (br ((b0_3.getD (Int.toNat x5) (0)) == b1_2) (k true) (ag4 (IntKind.i64.wrap (x5 + (1 : Int))) b0_0 b0_1 b0_2 b0_3 b0_4 b1_0 b1_1 b1_2))) False)) (j8)) False))
def j8 (k : Bool → Prop) : Prop :=
  (k false)
def c (j2000002 : Bool → Int → Int → (List Int) → (List Int) → Int → Int → Int → Int → Prop) (x0_0_0 : Int) (x0_0_1 : Int) (x0_1_0 : (List Int)) (x0_1_1 : (List Int)) (x0_2 : Int) (x1_0 : Int) (x1_1 : Int) (x1_2 : Int) (k : Bool → Prop) : Prop :=
  (br (x1_0 != (2 : Int)) (j2000002 true x0_0_0 x0_0_1 x0_1_0 x0_1_1 x0_2 x1_0 x1_1 x1_2) (br (x1_1 != (0 : Int)) (j2000002 (x1_1 != (1 : Int)) x0_0_0 x0_0_1 x0_1_0 x0_1_1 x0_2 x1_0 x1_1 x1_2) (j2000002 false x0_0_0 x0_0_1 x0_1_0 x0_1_1 x0_2 x1_0 x1_1 x1_2)))
def j8' (k : Bool → Prop) : Prop := j8 k
def l4' (x5 : Int) (b0_0 : Int) (b0_1 : Int) (b0_2 : (List Int)) (b0_3 : (List Int)) (b0_4 : Int) (b1_0 : Int) (b1_1 : Int) (b1_2 : Int) (k : Bool → Prop) : Prop := ∃ n, loopS (fun (ag : (Int × Int × Int × (List Int) × (List Int) × Int × Int × Int × Int) → Prop) (s : Int × Int × Int × (List Int) × (List Int) × Int × Int × Int × Int) => l4 (j8' k) (fun x5 b0_0 b0_1 b0_2 b0_3 b0_4 b1_0 b1_1 b1_2 => ag (x5, b0_0, b0_1, b0_2, b0_3, b0_4, b1_0, b1_1, b1_2)) s.1 s.2.1 s.2.2.1 s.2.2.2.1 s.2.2.2.2.1 s.2.2.2.2.2.1 s.2.2.2.2.2.2.1 s.2.2.2.2.2.2.2.1 s.2.2.2.2.2.2.2.2 k) n (x5, b0_0, b0_1, b0_2, b0_3, b0_4, b1_0, b1_1, b1_2)
def j3' (b0_0 : Int) (b0_1 : Int) (b0_2 : (List Int)) (b0_3 : (List Int)) (b0_4 : Int) (b1_0 : Int) (b1_1 : Int) (b1_2 : Int) (k : Bool → Prop) : Prop := j3 (fun x5 b0_0 b0_1 b0_2 b0_3 b0_4 b1_0 b1_1 b1_2 => l4' x5 b0_0 b0_1 b0_2 b0_3 b0_4 b1_0 b1_1 b1_2 k) b0_0 b0_1 b0_2 b0_3 b0_4 b1_0 b1_1 b1_2 k
def j2000002' (x18 : Bool) (b0_0 : Int) (b0_1 : Int) (b0_2 : (List Int)) (b0_3 : (List Int)) (b0_4 : Int) (b1_0 : Int) (b1_1 : Int) (b1_2 : Int) (k : Bool → Prop) : Prop := j2000002 (fun b0_0 b0_1 b0_2 b0_3 b0_4 b1_0 b1_1 b1_2 => j3' b0_0 b0_1 b0_2 b0_3 b0_4 b1_0 b1_1 b1_2 k) x18 b0_0 b0_1 b0_2 b0_3 b0_4 b1_0 b1_1 b1_2 k
def f0 (x0_0_0 : Int) (x0_0_1 : Int) (x0_1_0 : (List Int)) (x0_1_1 : (List Int)) (x0_2 : Int) (x1_0 : Int) (x1_1 : Int) (x1_2 : Int) (k : Bool → Prop) : Prop := c (fun x18 b0_0 b0_1 b0_2 b0_3 b0_4 b1_0 b1_1 b1_2 => j2000002' x18 b0_0 b0_1 b0_2 b0_3 b0_4 b1_0 b1_1 b1_2 k) x0_0_0 x0_0_1 x0_1_0 x0_1_1 x0_2 x1_0 x1_1 x1_2 k
theorem f_ex : ∃ g : Int → Int → (List Int) → (List Int) → Int → Int → Int → Int → (Bool → Prop) → Prop, g = f0 := ⟨_, rfl⟩
noncomputable def f : Int → Int → (List Int) → (List Int) → Int → Int → Int → Int → (Bool → Prop) → Prop := Classical.choose f_ex
theorem f_def : f = f0 := Classical.choose_spec f_ex
def m2000002 (x18 : Bool) (b0_0 : Int) (b0_1 : Int) (b0_2 : (List Int)) (b0_3 : (List Int)) (b0_4 : Int) (b1_0 : Int) (b1_1 : Int) (b1_2 : Int) : St := { tmps := mkT 40 0 [(2, (.ptr 0 0)), (3, (.ptr 1 0)), (18, (.v (.bool x18)))], hp := [(.box 26 [(.v (.int IntKind.i64 b0_0)), (.v (.int IntKind.i64 b0_1)), (.fz (Ty.int IntKind.i64) b0_2), (.fz (Ty.int IntKind.i64) b0_3), (.v (.int IntKind.i64 b0_4))]), (.box 28 [(.v (.int IntKind.i64 b1_0)), (.v (.int IntKind.i64 b1_1)), (.v (.int IntKind.i64 b1_2))])], m := 0 }
def m3 (b0_0 : Int) (b0_1 : Int) (b0_2 : (List Int)) (b0_3 : (List Int)) (b0_4 : Int) (b1_0 : Int) (b1_1 : Int) (b1_2 : Int) : St := { tmps := mkT 40 0 [(2, (.ptr 0 0)), (3, (.ptr 1 0))], hp := [(.box 26 [(.v (.int IntKind.i64 b0_0)), (.v (.int IntKind.i64 b0_1)), (.fz (Ty.int IntKind.i64) b0_2), (.fz (Ty.int IntKind.i64) b0_3), (.v (.int IntKind.i64 b0_4))]), (.box 28 [(.v (.int IntKind.i64 b1_0)), (.v (.int IntKind.i64 b1_1)), (.v (.int IntKind.i64 b1_2))])], m := 0 }
def mL4 (x5 : Int) (b0_0 : Int) (b0_1 : Int) (b0_2 : (List Int)) (b0_3 : (List Int)) (b0_4 : Int) (b1_0 : Int) (b1_1 : Int) (b1_2 : Int) : St := { tmps := mkT 40 0 [(2, (.ptr 0 0)), (3, (.ptr 1 0)), (5, (.v (.int IntKind.i64 x5)))], hp := [(.box 26 [(.v (.int IntKind.i64 b0_0)), (.v (.int IntKind.i64 b0_1)), (.fz (Ty.int IntKind.i64) b0_2), (.fz (Ty.int IntKind.i64) b0_3), (.v (.int IntKind.i64 b0_4))]), (.box 28 [(.v (.int IntKind.i64 b1_0)), (.v (.int IntKind.i64 b1_1)), (.v (.int IntKind.i64 b1_2))])], m := 0 }
def m8 : St := { tmps := mkT 40 0 [], hp := [], m := 0 }
noncomputable def X2000002 (k kp : D → List Blk → Prop) : St → Prop := atP cfg (pick none' []) [1, 0, 1] body (topK cfg Try.f21 k kp)
noncomputable def X3 (k kp : D → List Blk → Prop) : St → Prop := atP cfg (pick none' []) [1, 1] body (topK cfg Try.f21 k kp)
noncomputable def YL4 (k kp : D → List Blk → Prop) : (St → Prop) → St → Prop := loopB cfg (sub [1, 1, 0, 1, 0, 0] body) (contK cfg (pick none' []) [1, 1, 0, 1, 0] body (topK cfg Try.f21 k kp))
noncomputable def XL4 (k kp : D → List Blk → Prop) : St → Prop := fun st => ∃ n, loopN (YL4 k kp) n st
noncomputable def X8 (k kp : D → List Blk → Prop) : St → Prop := atP cfg (pick none' []) [1, 1, 1] body (topK cfg Try.f21 k kp)
noncomputable def JJ (k kp : D → List Blk → Prop) : Nat → St → Prop := pick none' [(2000002, X2000002 k kp), (3, X3 k kp), (8, X8 k kp)]
noncomputable def LL (k kp : D → List Blk → Prop) : Nat → St → Prop := pick none' [(4, XL4 k kp)]
noncomputable def JJ_4 (k kp : D → List Blk → Prop) (ag4 : St → Prop) : Nat → St → Prop := pick none' [(2000002, X2000002 k kp), (3, X3 k kp), (8, X8 k kp)]
noncomputable def LL_4 (k kp : D → List Blk → Prop) (ag4 : St → Prop) : Nat → St → Prop := pick none' [(4, XL4 k kp)]
theorem j8_c (k kp : D → List Blk → Prop) (J L : Nat → St → Prop) : runC cfg 8 J L (pick none' []) [1, 1, 1] body (topK cfg Try.f21 k kp) (m8) = j8 (fun y0 => k (.v (.bool y0)) []) := by kernel_rfl
theorem j8_ag (k kp : D → List Blk → Prop) : agPL cfg 8 (JJ k kp) (LL k kp) [1, 1, 1] body = agPR cfg 8 (pick none' []) [1, 1, 1] body (topK cfg Try.f21 k kp) := by kernel_rfl
theorem j8_raw (k kp : D → List Blk → Prop) : X8 k kp (m8) = j8 (fun y0 => k (.v (.bool y0)) []) :=
  Eq.mp (by kernel_rfl) ((atP_run (j8_ag k kp) (m8)).trans (j8_c k kp (JJ k kp) (LL k kp)))
theorem j8_eq (k kp : D → List Blk → Prop) : X8 k kp (m8) = j8' (fun y0 => k (.v (.bool y0)) []) := by
  rw [j8_raw]; rfl
theorem l4_c (k kp : D → List Blk → Prop) (J L : Nat → St → Prop) (ag4 : St → Prop) (x5 : Int) (b0_0 : Int) (b0_1 : Int) (b0_2 : (List Int)) (b0_3 : (List Int)) (b0_4 : Int) (b1_0 : Int) (b1_1 : Int) (b1_2 : Int) : runC cfg 1000001 J L (pick none' [(4, ag4)]) [1, 1, 0, 1, 0, 0] body (topK cfg Try.f21 k kp) (mL4 x5 b0_0 b0_1 b0_2 b0_3 b0_4 b1_0 b1_1 b1_2) = l4 (J 8 (m8)) (fun x5 b0_0 b0_1 b0_2 b0_3 b0_4 b1_0 b1_1 b1_2 => ag4 (mL4 x5 b0_0 b0_1 b0_2 b0_3 b0_4 b1_0 b1_1 b1_2)) x5 b0_0 b0_1 b0_2 b0_3 b0_4 b1_0 b1_1 b1_2 (fun y0 => k (.v (.bool y0)) []) := by kernel_rfl
theorem l4_ag (k kp : D → List Blk → Prop) (ag4 : St → Prop) : agPL cfg 1000001 (JJ_4 k kp ag4) (LL_4 k kp ag4) [1, 1, 0, 1, 0, 0] body = agPR cfg 1000001 (pick none' [(4, ag4)]) [1, 1, 0, 1, 0, 0] body (topK cfg Try.f21 k kp) := by kernel_rfl
theorem l4_raw (k kp : D → List Blk → Prop) (ag4 : St → Prop) (x5 : Int) (b0_0 : Int) (b0_1 : Int) (b0_2 : (List Int)) (b0_3 : (List Int)) (b0_4 : Int) (b1_0 : Int) (b1_1 : Int) (b1_2 : Int) : YL4 k kp ag4 (mL4 x5 b0_0 b0_1 b0_2 b0_3 b0_4 b1_0 b1_1 b1_2) = l4 (X8 k kp (m8)) (fun x5 b0_0 b0_1 b0_2 b0_3 b0_4 b1_0 b1_1 b1_2 => ag4 (mL4 x5 b0_0 b0_1 b0_2 b0_3 b0_4 b1_0 b1_1 b1_2)) x5 b0_0 b0_1 b0_2 b0_3 b0_4 b1_0 b1_1 b1_2 (fun y0 => k (.v (.bool y0)) []) :=
  Eq.mp (by kernel_rfl) ((atP_run (l4_ag k kp ag4) (mL4 x5 b0_0 b0_1 b0_2 b0_3 b0_4 b1_0 b1_1 b1_2)).trans (l4_c k kp (JJ_4 k kp ag4) (LL_4 k kp ag4) ag4 x5 b0_0 b0_1 b0_2 b0_3 b0_4 b1_0 b1_1 b1_2))
theorem l4_eq (k kp : D → List Blk → Prop) (x5 : Int) (b0_0 : Int) (b0_1 : Int) (b0_2 : (List Int)) (b0_3 : (List Int)) (b0_4 : Int) (b1_0 : Int) (b1_1 : Int) (b1_2 : Int) : XL4 k kp (mL4 x5 b0_0 b0_1 b0_2 b0_3 b0_4 b1_0 b1_1 b1_2) = l4' x5 b0_0 b0_1 b0_2 b0_3 b0_4 b1_0 b1_1 b1_2 (fun y0 => k (.v (.bool y0)) []) :=
  loop_eq (mk := fun (s : Int × Int × Int × (List Int) × (List Int) × Int × Int × Int × Int) => mL4 s.1 s.2.1 s.2.2.1 s.2.2.2.1 s.2.2.2.2.1 s.2.2.2.2.2.1 s.2.2.2.2.2.2.1 s.2.2.2.2.2.2.2.1 s.2.2.2.2.2.2.2.2) (fun again s => by rw [l4_raw k kp again s.1 s.2.1 s.2.2.1 s.2.2.2.1 s.2.2.2.2.1 s.2.2.2.2.2.1 s.2.2.2.2.2.2.1 s.2.2.2.2.2.2.2.1 s.2.2.2.2.2.2.2.2]; simp only [j8_eq]; first | done | rfl) (x5, b0_0, b0_1, b0_2, b0_3, b0_4, b1_0, b1_1, b1_2)
theorem j3_c (k kp : D → List Blk → Prop) (J L : Nat → St → Prop) (b0_0 : Int) (b0_1 : Int) (b0_2 : (List Int)) (b0_3 : (List Int)) (b0_4 : Int) (b1_0 : Int) (b1_1 : Int) (b1_2 : Int) : runC cfg 3 J L (pick none' []) [1, 1] body (topK cfg Try.f21 k kp) (m3 b0_0 b0_1 b0_2 b0_3 b0_4 b1_0 b1_1 b1_2) = j3 (fun x5 b0_0 b0_1 b0_2 b0_3 b0_4 b1_0 b1_1 b1_2 => L 4 (mL4 x5 b0_0 b0_1 b0_2 b0_3 b0_4 b1_0 b1_1 b1_2)) b0_0 b0_1 b0_2 b0_3 b0_4 b1_0 b1_1 b1_2 (fun y0 => k (.v (.bool y0)) []) := by kernel_rfl
theorem j3_ag (k kp : D → List Blk → Prop) : agPL cfg 3 (JJ k kp) (LL k kp) [1, 1] body = agPR cfg 3 (pick none' []) [1, 1] body (topK cfg Try.f21 k kp) := by kernel_rfl
theorem j3_raw (k kp : D → List Blk → Prop) (b0_0 : Int) (b0_1 : Int) (b0_2 : (List Int)) (b0_3 : (List Int)) (b0_4 : Int) (b1_0 : Int) (b1_1 : Int) (b1_2 : Int) : X3 k kp (m3 b0_0 b0_1 b0_2 b0_3 b0_4 b1_0 b1_1 b1_2) = j3 (fun x5 b0_0 b0_1 b0_2 b0_3 b0_4 b1_0 b1_1 b1_2 => XL4 k kp (mL4 x5 b0_0 b0_1 b0_2 b0_3 b0_4 b1_0 b1_1 b1_2)) b0_0 b0_1 b0_2 b0_3 b0_4 b1_0 b1_1 b1_2 (fun y0 => k (.v (.bool y0)) []) :=
  Eq.mp (by kernel_rfl) ((atP_run (j3_ag k kp) (m3 b0_0 b0_1 b0_2 b0_3 b0_4 b1_0 b1_1 b1_2)).trans (j3_c k kp (JJ k kp) (LL k kp) b0_0 b0_1 b0_2 b0_3 b0_4 b1_0 b1_1 b1_2))
theorem j3_eq (k kp : D → List Blk → Prop) (b0_0 : Int) (b0_1 : Int) (b0_2 : (List Int)) (b0_3 : (List Int)) (b0_4 : Int) (b1_0 : Int) (b1_1 : Int) (b1_2 : Int) : X3 k kp (m3 b0_0 b0_1 b0_2 b0_3 b0_4 b1_0 b1_1 b1_2) = j3' b0_0 b0_1 b0_2 b0_3 b0_4 b1_0 b1_1 b1_2 (fun y0 => k (.v (.bool y0)) []) := by
  rw [j3_raw]; simp only [l4_eq]; first | done | rfl
theorem j2000002_c (k kp : D → List Blk → Prop) (J L : Nat → St → Prop) (x18 : Bool) (b0_0 : Int) (b0_1 : Int) (b0_2 : (List Int)) (b0_3 : (List Int)) (b0_4 : Int) (b1_0 : Int) (b1_1 : Int) (b1_2 : Int) : runC cfg 2000002 J L (pick none' []) [1, 0, 1] body (topK cfg Try.f21 k kp) (m2000002 x18 b0_0 b0_1 b0_2 b0_3 b0_4 b1_0 b1_1 b1_2) = j2000002 (fun b0_0 b0_1 b0_2 b0_3 b0_4 b1_0 b1_1 b1_2 => J 3 (m3 b0_0 b0_1 b0_2 b0_3 b0_4 b1_0 b1_1 b1_2)) x18 b0_0 b0_1 b0_2 b0_3 b0_4 b1_0 b1_1 b1_2 (fun y0 => k (.v (.bool y0)) []) := by kernel_rfl
theorem j2000002_ag (k kp : D → List Blk → Prop) : agPL cfg 2000002 (JJ k kp) (LL k kp) [1, 0, 1] body = agPR cfg 2000002 (pick none' []) [1, 0, 1] body (topK cfg Try.f21 k kp) := by kernel_rfl
theorem j2000002_raw (k kp : D → List Blk → Prop) (x18 : Bool) (b0_0 : Int) (b0_1 : Int) (b0_2 : (List Int)) (b0_3 : (List Int)) (b0_4 : Int) (b1_0 : Int) (b1_1 : Int) (b1_2 : Int) : X2000002 k kp (m2000002 x18 b0_0 b0_1 b0_2 b0_3 b0_4 b1_0 b1_1 b1_2) = j2000002 (fun b0_0 b0_1 b0_2 b0_3 b0_4 b1_0 b1_1 b1_2 => X3 k kp (m3 b0_0 b0_1 b0_2 b0_3 b0_4 b1_0 b1_1 b1_2)) x18 b0_0 b0_1 b0_2 b0_3 b0_4 b1_0 b1_1 b1_2 (fun y0 => k (.v (.bool y0)) []) :=
  Eq.mp (by kernel_rfl) ((atP_run (j2000002_ag k kp) (m2000002 x18 b0_0 b0_1 b0_2 b0_3 b0_4 b1_0 b1_1 b1_2)).trans (j2000002_c k kp (JJ k kp) (LL k kp) x18 b0_0 b0_1 b0_2 b0_3 b0_4 b1_0 b1_1 b1_2))
theorem j2000002_eq (k kp : D → List Blk → Prop) (x18 : Bool) (b0_0 : Int) (b0_1 : Int) (b0_2 : (List Int)) (b0_3 : (List Int)) (b0_4 : Int) (b1_0 : Int) (b1_1 : Int) (b1_2 : Int) : X2000002 k kp (m2000002 x18 b0_0 b0_1 b0_2 b0_3 b0_4 b1_0 b1_1 b1_2) = j2000002' x18 b0_0 b0_1 b0_2 b0_3 b0_4 b1_0 b1_1 b1_2 (fun y0 => k (.v (.bool y0)) []) := by
  rw [j2000002_raw]; simp only [j3_eq]; first | done | rfl
theorem c_c (k kp : D → List Blk → Prop) (J L : Nat → St → Prop) (x0_0_0 : Int) (x0_0_1 : Int) (x0_1_0 : (List Int)) (x0_1_1 : (List Int)) (x0_2 : Int) (x1_0 : Int) (x1_1 : Int) (x1_2 : Int) : runC cfg 1000001 J L none'' [] body (topK cfg Try.f21 k kp) (st0 Try.f21 [(.agg [(.v (.int IntKind.i64 x0_0_0)), (.v (.int IntKind.i64 x0_0_1)), (.fz (Ty.int IntKind.i64) x0_1_0), (.fz (Ty.int IntKind.i64) x0_1_1), (.v (.int IntKind.i64 x0_2))]), (.agg [(.v (.int IntKind.i64 x1_0)), (.v (.int IntKind.i64 x1_1)), (.v (.int IntKind.i64 x1_2))])] []) = c (fun x18 b0_0 b0_1 b0_2 b0_3 b0_4 b1_0 b1_1 b1_2 => J 2000002 (m2000002 x18 b0_0 b0_1 b0_2 b0_3 b0_4 b1_0 b1_1 b1_2)) x0_0_0 x0_0_1 x0_1_0 x0_1_1 x0_2 x1_0 x1_1 x1_2 (fun y0 => k (.v (.bool y0)) []) := by kernel_rfl
theorem c_ag (k kp : D → List Blk → Prop) : agPL cfg 1000001 (JJ k kp) (LL k kp) [] body = agPR cfg 1000001 none'' [] body (topK cfg Try.f21 k kp) := by kernel_rfl
theorem body_is : Try.f21.body = some body := by kernel_rfl
theorem c_raw (k kp : D → List Blk → Prop) (x0_0_0 : Int) (x0_0_1 : Int) (x0_1_0 : (List Int)) (x0_1_1 : (List Int)) (x0_2 : Int) (x1_0 : Int) (x1_1 : Int) (x1_2 : Int) : funW cfg Try.f21 [(.agg [(.v (.int IntKind.i64 x0_0_0)), (.v (.int IntKind.i64 x0_0_1)), (.fz (Ty.int IntKind.i64) x0_1_0), (.fz (Ty.int IntKind.i64) x0_1_1), (.v (.int IntKind.i64 x0_2))]), (.agg [(.v (.int IntKind.i64 x1_0)), (.v (.int IntKind.i64 x1_1)), (.v (.int IntKind.i64 x1_2))])] [] k kp = c (fun x18 b0_0 b0_1 b0_2 b0_3 b0_4 b1_0 b1_1 b1_2 => X2000002 k kp (m2000002 x18 b0_0 b0_1 b0_2 b0_3 b0_4 b1_0 b1_1 b1_2)) x0_0_0 x0_0_1 x0_1_0 x0_1_1 x0_2 x1_0 x1_1 x1_2 (fun y0 => k (.v (.bool y0)) []) :=
  Eq.mp (by kernel_rfl) ((funW_run (AG := none'') body_is (c_ag k kp) [(.agg [(.v (.int IntKind.i64 x0_0_0)), (.v (.int IntKind.i64 x0_0_1)), (.fz (Ty.int IntKind.i64) x0_1_0), (.fz (Ty.int IntKind.i64) x0_1_1), (.v (.int IntKind.i64 x0_2))]), (.agg [(.v (.int IntKind.i64 x1_0)), (.v (.int IntKind.i64 x1_1)), (.v (.int IntKind.i64 x1_2))])] []).trans (c_c k kp (JJ k kp) (LL k kp) x0_0_0 x0_0_1 x0_1_0 x0_1_1 x0_2 x1_0 x1_1 x1_2))
theorem f_eq (k kp : D → List Blk → Prop) (x0_0_0 : Int) (x0_0_1 : Int) (x0_1_0 : (List Int)) (x0_1_1 : (List Int)) (x0_2 : Int) (x1_0 : Int) (x1_1 : Int) (x1_2 : Int) : funW cfg Try.f21 [(.agg [(.v (.int IntKind.i64 x0_0_0)), (.v (.int IntKind.i64 x0_0_1)), (.fz (Ty.int IntKind.i64) x0_1_0), (.fz (Ty.int IntKind.i64) x0_1_1), (.v (.int IntKind.i64 x0_2))]), (.agg [(.v (.int IntKind.i64 x1_0)), (.v (.int IntKind.i64 x1_1)), (.v (.int IntKind.i64 x1_2))])] [] k kp = f x0_0_0 x0_0_1 x0_1_0 x0_1_1 x0_2 x1_0 x1_1 x1_2 (fun y0 => k (.v (.bool y0)) []) := by
  rw [f_def, c_raw]; simp only [j2000002_eq]; first | done | rfl
noncomputable def ent0 : Entry := fun args blks k _ => match args, blks with
  | [d0, d1], [] => aAgg 5 d0 fun l => aCons l fun d0_0 l => aCons l fun d0_1 l => aCons l fun d0_2 l => aCons l fun d0_3 l => aCons l fun d0_4 l => aNil l (aInt IntKind.i64 d0_0 fun x0_0_0 => aInt IntKind.i64 d0_1 fun x0_0_1 => aFz (Ty.int IntKind.i64) d0_2 fun x0_1_0 => aFz (Ty.int IntKind.i64) d0_3 fun x0_1_1 => aInt IntKind.i64 d0_4 fun x0_2 => aAgg 3 d1 fun l => aCons l fun d1_0 l => aCons l fun d1_1 l => aCons l fun d1_2 l => aNil l (aInt IntKind.i64 d1_0 fun x1_0 => aInt IntKind.i64 d1_1 fun x1_1 => aInt IntKind.i64 d1_2 fun x1_2 => f x0_0_0 x0_0_1 x0_1_0 x0_1_1 x0_2 x1_0 x1_1 x1_2 (fun y0 => k (.v (.bool y0)) [])))
  | _, _ => False
noncomputable def ent : Entry := fun args blks k kp => ent0 (convA [none, none] args) blks k kp
theorem ok : EntOk Try.prog 0 0 21 ent := by
  refine EntOk.conv (EntOk.of (funW_ok (cfg := cfg) (tyOk_of rfl rfl tyL_ok) (eqOk_of (P := Try.prog) rfl rfl (by kernel_rfl)) mixed_ok (tab_ok ?_) Try.func21 (by rfl) (by rfl)) ?_) _
  · intro p hp
    cases hp
  · intro args blks k kp h k' kp'
    match args, blks, h with
    | [d0, d1], [], h =>
    dsimp only [ent0] at h
    have h9 := aAgg_elim h; clear h; obtain ⟨_, rfl, h⟩ := h9
    have h9 := aCons_elim h; clear h; obtain ⟨d0_0, _, rfl, h⟩ := h9
    have h9 := aCons_elim h; clear h; obtain ⟨d0_1, _, rfl, h⟩ := h9
    have h9 := aCons_elim h; clear h; obtain ⟨d0_2, _, rfl, h⟩ := h9
    have h9 := aCons_elim h; clear h; obtain ⟨d0_3, _, rfl, h⟩ := h9
    have h9 := aCons_elim h; clear h; obtain ⟨d0_4, _, rfl, h⟩ := h9
    have h9 := aNil_elim h; clear h; obtain ⟨rfl, h⟩ := h9
    have h9 := aInt_elim h; clear h; obtain ⟨x0_0_0, rfl, h⟩ := h9
    have h9 := aInt_elim h; clear h; obtain ⟨x0_0_1, rfl, h⟩ := h9
    have h9 := aFz_elim (t := (Ty.int IntKind.i64)) h; clear h; obtain ⟨x0_1_0, rfl, h⟩ := h9
    have h9 := aFz_elim (t := (Ty.int IntKind.i64)) h; clear h; obtain ⟨x0_1_1, rfl, h⟩ := h9
    have h9 := aInt_elim h; clear h; obtain ⟨x0_2, rfl, h⟩ := h9
    have h9 := aAgg_elim h; clear h; obtain ⟨_, rfl, h⟩ := h9
    have h9 := aCons_elim h; clear h; obtain ⟨d1_0, _, rfl, h⟩ := h9
    have h9 := aCons_elim h; clear h; obtain ⟨d1_1, _, rfl, h⟩ := h9
    have h9 := aCons_elim h; clear h; obtain ⟨d1_2, _, rfl, h⟩ := h9
    have h9 := aNil_elim h; clear h; obtain ⟨rfl, h⟩ := h9
    have h9 := aInt_elim h; clear h; obtain ⟨x1_0, rfl, h⟩ := h9
    have h9 := aInt_elim h; clear h; obtain ⟨x1_1, rfl, h⟩ := h9
    have h9 := aInt_elim h; clear h; obtain ⟨x1_2, rfl, h⟩ := h9
    exact (f_eq k' kp' x0_0_0 x0_0_1 x0_1_0 x0_1_1 x0_2 x1_0 x1_1 x1_2).symm
end N21
end Go.Proofs.Yu
namespace Go.Proofs.Yu
open Go Go.Aw Go.Proofs
set_option linter.unusedVariables false
set_option linter.unusedSimpArgs false
set_option maxRecDepth 100000
/-! dyehouse/dyehouseref13.Name -/
namespace N23
noncomputable def cfg : Cfg := { P := Try.prog, ty := tys, E := tab [(63, N63.ent)], atSeq := tab [(2000004, ⟨[(1, .keep), (17, .keep)]⟩), (5, ⟨[(1, .keep)]⟩), (2000006, ⟨[(1, .keep), (29, .keep)]⟩), (7, ⟨[]⟩)], atLoop := tab [], outs := [], eqT := tab [] }
noncomputable def body : Code := bodyOf Try.f23
def j2000004 (j5 : Int → Int → Int → Prop) (x17 : Bool) (b0_0 : Int) (b0_1 : Int) (b0_2 : Int) (k : ByteArray → Prop) : Prop :=
  (br x17 (N63.f b0_2 (fun (y0_1 : ByteArray) => ((((ByteArray.mk #[36, 103])).size + (y0_1).size ≤ 9223372036854775807) ∧ (k ((ByteArray.mk #[36, 103]) ++ y0_1))))) (j5 b0_0 b0_1 b0_2))
def j5 (j2000006 : Bool → Int → Int → Int → Prop) (b0_0 : Int) (b0_1 : Int) (b0_2 : Int) (k : ByteArray → Prop) : Prop :=
  (br (b0_0 == (2 : Int)) (j2000006 (b0_1 == (1 : Int)) b0_0 b0_1 b0_2) (j2000006 false b0_0 b0_1 b0_2))
def j2000006 (j7 : Prop) (x29 : Bool) (b0_0 : Int) (b0_1 : Int) (b0_2 : Int) (k : ByteArray → Prop) : Prop :=
  (br x29 (N63.f b0_2 (fun (y0_2 : ByteArray) => ((((ByteArray.mk #[36, 120])).size + (y0_2).size ≤ 9223372036854775807) ∧ (k ((ByteArray.mk #[36, 120]) ++ y0_2))))) (j7))
def j7 (k : ByteArray → Prop) : Prop :=
  (k (ByteArray.mk #[]))
def c (j2000004 : Bool → Int → Int → Int → Prop) (x0_0 : Int) (x0_1 : Int) (x0_2 : Int) (k : ByteArray → Prop) : Prop :=
  (br (x0_0 == (3 : Int)) (N63.f x0_2 (fun (y0_0 : ByteArray) => ((((ByteArray.mk #[35])).size + (y0_0).size ≤ 9223372036854775807) ∧ (k ((ByteArray.mk #[35]) ++ y0_0))))) (br (x0_0 == (2 : Int)) (j2000004 (x0_1 == (0 : Int)) x0_0 x0_1 x0_2) (j2000004 false x0_0 x0_1 x0_2)))
def j7' (k : ByteArray → Prop) : Prop := j7 k
def j2000006' (x29 : Bool) (b0_0 : Int) (b0_1 : Int) (b0_2 : Int) (k : ByteArray → Prop) : Prop := j2000006 (j7' k) x29 b0_0 b0_1 b0_2 k
def j5' (b0_0 : Int) (b0_1 : Int) (b0_2 : Int) (k : ByteArray → Prop) : Prop := j5 (fun x29 b0_0 b0_1 b0_2 => j2000006' x29 b0_0 b0_1 b0_2 k) b0_0 b0_1 b0_2 k
def j2000004' (x17 : Bool) (b0_0 : Int) (b0_1 : Int) (b0_2 : Int) (k : ByteArray → Prop) : Prop := j2000004 (fun b0_0 b0_1 b0_2 => j5' b0_0 b0_1 b0_2 k) x17 b0_0 b0_1 b0_2 k
def f0 (x0_0 : Int) (x0_1 : Int) (x0_2 : Int) (k : ByteArray → Prop) : Prop := c (fun x17 b0_0 b0_1 b0_2 => j2000004' x17 b0_0 b0_1 b0_2 k) x0_0 x0_1 x0_2 k
theorem f_ex : ∃ g : Int → Int → Int → (ByteArray → Prop) → Prop, g = f0 := ⟨_, rfl⟩
noncomputable def f : Int → Int → Int → (ByteArray → Prop) → Prop := Classical.choose f_ex
theorem f_def : f = f0 := Classical.choose_spec f_ex
def m2000004 (x17 : Bool) (b0_0 : Int) (b0_1 : Int) (b0_2 : Int) : St := { tmps := mkT 34 0 [(1, (.ptr 0 0)), (17, (.v (.bool x17)))], hp := [(.box 28 [(.v (.int IntKind.i64 b0_0)), (.v (.int IntKind.i64 b0_1)), (.v (.int IntKind.i64 b0_2))])], m := 0 }
def m5 (b0_0 : Int) (b0_1 : Int) (b0_2 : Int) : St := { tmps := mkT 34 0 [(1, (.ptr 0 0))], hp := [(.box 28 [(.v (.int IntKind.i64 b0_0)), (.v (.int IntKind.i64 b0_1)), (.v (.int IntKind.i64 b0_2))])], m := 0 }
def m2000006 (x29 : Bool) (b0_0 : Int) (b0_1 : Int) (b0_2 : Int) : St := { tmps := mkT 34 0 [(1, (.ptr 0 0)), (29, (.v (.bool x29)))], hp := [(.box 28 [(.v (.int IntKind.i64 b0_0)), (.v (.int IntKind.i64 b0_1)), (.v (.int IntKind.i64 b0_2))])], m := 0 }
def m7 : St := { tmps := mkT 34 0 [], hp := [], m := 0 }
noncomputable def X2000004 (k kp : D → List Blk → Prop) : St → Prop := atP cfg (pick none' []) [1, 1, 0, 1] body (topK cfg Try.f23 k kp)
noncomputable def X5 (k kp : D → List Blk → Prop) : St → Prop := atP cfg (pick none' []) [1, 1, 1] body (topK cfg Try.f23 k kp)
noncomputable def X2000006 (k kp : D → List Blk → Prop) : St → Prop := atP cfg (pick none' []) [1, 1, 1, 0, 1] body (topK cfg Try.f23 k kp)
noncomputable def X7 (k kp : D → List Blk → Prop) : St → Prop := atP cfg (pick none' []) [1, 1, 1, 1] body (topK cfg Try.f23 k kp)
noncomputable def JJ (k kp : D → List Blk → Prop) : Nat → St → Prop := pick none' [(2000004, X2000004 k kp), (5, X5 k kp), (2000006, X2000006 k kp), (7, X7 k kp)]
noncomputable def LL (k kp : D → List Blk → Prop) : Nat → St → Prop := pick none' []
theorem j7_c (k kp : D → List Blk → Prop) (J L : Nat → St → Prop) : runC cfg 7 J L (pick none' []) [1, 1, 1, 1] body (topK cfg Try.f23 k kp) (m7) = j7 (fun y0 => k (.v (.string y0)) []) := by kernel_rfl
theorem j7_ag (k kp : D → List Blk → Prop) : agPL cfg 7 (JJ k kp) (LL k kp) [1, 1, 1, 1] body = agPR cfg 7 (pick none' []) [1, 1, 1, 1] body (topK cfg Try.f23 k kp) := by kernel_rfl
theorem j7_raw (k kp : D → List Blk → Prop) : X7 k kp (m7) = j7 (fun y0 => k (.v (.string y0)) []) :=
  Eq.mp (by kernel_rfl) ((atP_run (j7_ag k kp) (m7)).trans (j7_c k kp (JJ k kp) (LL k kp)))
theorem j7_eq (k kp : D → List Blk → Prop) : X7 k kp (m7) = j7' (fun y0 => k (.v (.string y0)) []) := by
  rw [j7_raw]; rfl
theorem j2000006_c (k kp : D → List Blk → Prop) (J L : Nat → St → Prop) (x29 : Bool) (b0_0 : Int) (b0_1 : Int) (b0_2 : Int) : runC cfg 2000006 J L (pick none' []) [1, 1, 1, 0, 1] body (topK cfg Try.f23 k kp) (m2000006 x29 b0_0 b0_1 b0_2) = j2000006 (J 7 (m7)) x29 b0_0 b0_1 b0_2 (fun y0 => k (.v (.string y0)) []) := by kernel_rfl
theorem j2000006_ag (k kp : D → List Blk → Prop) : agPL cfg 2000006 (JJ k kp) (LL k kp) [1, 1, 1, 0, 1] body = agPR cfg 2000006 (pick none' []) [1, 1, 1, 0, 1] body (topK cfg Try.f23 k kp) := by kernel_rfl
theorem j2000006_raw (k kp : D → List Blk → Prop) (x29 : Bool) (b0_0 : Int) (b0_1 : Int) (b0_2 : Int) : X2000006 k kp (m2000006 x29 b0_0 b0_1 b0_2) = j2000006 (X7 k kp (m7)) x29 b0_0 b0_1 b0_2 (fun y0 => k (.v (.string y0)) []) :=
  Eq.mp (by kernel_rfl) ((atP_run (j2000006_ag k kp) (m2000006 x29 b0_0 b0_1 b0_2)).trans (j2000006_c k kp (JJ k kp) (LL k kp) x29 b0_0 b0_1 b0_2))
theorem j2000006_eq (k kp : D → List Blk → Prop) (x29 : Bool) (b0_0 : Int) (b0_1 : Int) (b0_2 : Int) : X2000006 k kp (m2000006 x29 b0_0 b0_1 b0_2) = j2000006' x29 b0_0 b0_1 b0_2 (fun y0 => k (.v (.string y0)) []) := by
  rw [j2000006_raw]; simp only [j7_eq]; first | done | rfl
theorem j5_c (k kp : D → List Blk → Prop) (J L : Nat → St → Prop) (b0_0 : Int) (b0_1 : Int) (b0_2 : Int) : runC cfg 5 J L (pick none' []) [1, 1, 1] body (topK cfg Try.f23 k kp) (m5 b0_0 b0_1 b0_2) = j5 (fun x29 b0_0 b0_1 b0_2 => J 2000006 (m2000006 x29 b0_0 b0_1 b0_2)) b0_0 b0_1 b0_2 (fun y0 => k (.v (.string y0)) []) := by kernel_rfl
theorem j5_ag (k kp : D → List Blk → Prop) : agPL cfg 5 (JJ k kp) (LL k kp) [1, 1, 1] body = agPR cfg 5 (pick none' []) [1, 1, 1] body (topK cfg Try.f23 k kp) := by kernel_rfl
theorem j5_raw (k kp : D → List Blk → Prop) (b0_0 : Int) (b0_1 : Int) (b0_2 : Int) : X5 k kp (m5 b0_0 b0_1 b0_2) = j5 (fun x29 b0_0 b0_1 b0_2 => X2000006 k kp (m2000006 x29 b0_0 b0_1 b0_2)) b0_0 b0_1 b0_2 (fun y0 => k (.v (.string y0)) []) :=
  Eq.mp (by kernel_rfl) ((atP_run (j5_ag k kp) (m5 b0_0 b0_1 b0_2)).trans (j5_c k kp (JJ k kp) (LL k kp) b0_0 b0_1 b0_2))
theorem j5_eq (k kp : D → List Blk → Prop) (b0_0 : Int) (b0_1 : Int) (b0_2 : Int) : X5 k kp (m5 b0_0 b0_1 b0_2) = j5' b0_0 b0_1 b0_2 (fun y0 => k (.v (.string y0)) []) := by
  rw [j5_raw]; simp only [j2000006_eq]; first | done | rfl
theorem j2000004_c (k kp : D → List Blk → Prop) (J L : Nat → St → Prop) (x17 : Bool) (b0_0 : Int) (b0_1 : Int) (b0_2 : Int) : runC cfg 2000004 J L (pick none' []) [1, 1, 0, 1] body (topK cfg Try.f23 k kp) (m2000004 x17 b0_0 b0_1 b0_2) = j2000004 (fun b0_0 b0_1 b0_2 => J 5 (m5 b0_0 b0_1 b0_2)) x17 b0_0 b0_1 b0_2 (fun y0 => k (.v (.string y0)) []) := by kernel_rfl
theorem j2000004_ag (k kp : D → List Blk → Prop) : agPL cfg 2000004 (JJ k kp) (LL k kp) [1, 1, 0, 1] body = agPR cfg 2000004 (pick none' []) [1, 1, 0, 1] body (topK cfg Try.f23 k kp) := by kernel_rfl
theorem j2000004_raw (k kp : D → List Blk → Prop) (x17 : Bool) (b0_0 : Int) (b0_1 : Int) (b0_2 : Int) : X2000004 k kp (m2000004 x17 b0_0 b0_1 b0_2) = j2000004 (fun b0_0 b0_1 b0_2 => X5 k kp (m5 b0_0 b0_1 b0_2)) x17 b0_0 b0_1 b0_2 (fun y0 => k (.v (.string y0)) []) :=
  Eq.mp (by kernel_rfl) ((atP_run (j2000004_ag k kp) (m2000004 x17 b0_0 b0_1 b0_2)).trans (j2000004_c k kp (JJ k kp) (LL k kp) x17 b0_0 b0_1 b0_2))
theorem j2000004_eq (k kp : D → List Blk → Prop) (x17 : Bool) (b0_0 : Int) (b0_1 : Int) (b0_2 : Int) : X2000004 k kp (m2000004 x17 b0_0 b0_1 b0_2) = j2000004' x17 b0_0 b0_1 b0_2 (fun y0 => k (.v (.string y0)) []) := by
  rw [j2000004_raw]; simp only [j5_eq]; first | done | rfl
theorem c_c (k kp : D → List Blk → Prop) (J L : Nat → St → Prop) (x0_0 : Int) (x0_1 : Int) (x0_2 : Int) : runC cfg 1000001 J L none'' [] body (topK cfg Try.f23 k kp) (st0 Try.f23 [(.agg [(.v (.int IntKind.i64 x0_0)), (.v (.int IntKind.i64 x0_1)), (.v (.int IntKind.i64 x0_2))])] []) = c (fun x17 b0_0 b0_1 b0_2 => J 2000004 (m2000004 x17 b0_0 b0_1 b0_2)) x0_0 x0_1 x0_2 (fun y0 => k (.v (.string y0)) []) := by kernel_rfl
theorem c_ag (k kp : D → List Blk → Prop) : agPL cfg 1000001 (JJ k kp) (LL k kp) [] body = agPR cfg 1000001 none'' [] body (topK cfg Try.f23 k kp) := by kernel_rfl
theorem body_is : Try.f23.body = some body := by kernel_rfl
theorem c_raw (k kp : D → List Blk → Prop) (x0_0 : Int) (x0_1 : Int) (x0_2 : Int) : funW cfg Try.f23 [(.agg [(.v (.int IntKind.i64 x0_0)), (.v (.int IntKind.i64 x0_1)), (.v (.int IntKind.i64 x0_2))])] [] k kp = c (fun x17 b0_0 b0_1 b0_2 => X2000004 k kp (m2000004 x17 b0_0 b0_1 b0_2)) x0_0 x0_1 x0_2 (fun y0 => k (.v (.string y0)) []) :=
  Eq.mp (by kernel_rfl) ((funW_run (AG := none'') body_is (c_ag k kp) [(.agg [(.v (.int IntKind.i64 x0_0)), (.v (.int IntKind.i64 x0_1)), (.v (.int IntKind.i64 x0_2))])] []).trans (c_c k kp (JJ k kp) (LL k kp) x0_0 x0_1 x0_2))
theorem f_eq (k kp : D → List Blk → Prop) (x0_0 : Int) (x0_1 : Int) (x0_2 : Int) : funW cfg Try.f23 [(.agg [(.v (.int IntKind.i64 x0_0)), (.v (.int IntKind.i64 x0_1)), (.v (.int IntKind.i64 x0_2))])] [] k kp = f x0_0 x0_1 x0_2 (fun y0 => k (.v (.string y0)) []) := by
  rw [f_def, c_raw]; simp only [j2000004_eq]; first | done | rfl
noncomputable def ent0 : Entry := fun args blks k _ => match args, blks with
  | [d0], [] => aAgg 3 d0 fun l => aCons l fun d0_0 l => aCons l fun d0_1 l => aCons l fun d0_2 l => aNil l (aInt IntKind.i64 d0_0 fun x0_0 => aInt IntKind.i64 d0_1 fun x0_1 => aInt IntKind.i64 d0_2 fun x0_2 => f x0_0 x0_1 x0_2 (fun y0 => k (.v (.string y0)) []))
  | _, _ => False
noncomputable def ent : Entry := fun args blks k kp => ent0 (convA [none] args) blks k kp
theorem ok : EntOk Try.prog 0 0 23 ent := by
  refine EntOk.conv (EntOk.of (funW_ok (cfg := cfg) (tyOk_of rfl rfl tyL_ok) (eqOk_of (P := Try.prog) rfl rfl (by kernel_rfl)) mixed_ok (tab_ok ?_) Try.func23 (by rfl) (by rfl)) ?_) _
  · intro p hp
    simp only [List.mem_cons, List.not_mem_nil, or_false] at hp
    rcases hp with rfl
    · exact N63.ok
  · intro args blks k kp h k' kp'
    match args, blks, h with
    | [d0], [], h =>
    dsimp only [ent0] at h
    have h9 := aAgg_elim h; clear h; obtain ⟨_, rfl, h⟩ := h9
    have h9 := aCons_elim h; clear h; obtain ⟨d0_0, _, rfl, h⟩ := h9
    have h9 := aCons_elim h; clear h; obtain ⟨d0_1, _, rfl, h⟩ := h9
    have h9 := aCons_elim h; clear h; obtain ⟨d0_2, _, rfl, h⟩ := h9
    have h9 := aNil_elim h; clear h; obtain ⟨rfl, h⟩ := h9
    have h9 := aInt_elim h; clear h; obtain ⟨x0_0, rfl, h⟩ := h9
    have h9 := aInt_elim h; clear h; obtain ⟨x0_1, rfl, h⟩ := h9
    have h9 := aInt_elim h; clear h; obtain ⟨x0_2, rfl, h⟩ := h9
    exact (f_eq k' kp' x0_0 x0_1 x0_2).symm
end N23
end Go.Proofs.Yu
namespace Go.Proofs.Yu
open Go Go.Aw Go.Proofs
set_option linter.unusedVariables false
set_option linter.unusedSimpArgs false
set_option maxRecDepth 100000
/-! dyehouse/dyehouseref12.In -/
namespace N26
noncomputable def cfg : Cfg := { P := Try.prog, ty := tys, E := tab [], atSeq := tab [(6, ⟨[]⟩)], atLoop := tab [(2, ⟨[(0, .keep), (1, .keep), (5, .keep)]⟩)], outs := [], eqT := tab [] }
noncomputable def body : Code := bodyOf Try.f26
def l2 (j6 : Prop) (ag2 : Int → Prop) (x0 : (List Int)) (x1 : Int) (x5 : Int) (k : Bool → Prop) : Prop :=
  (br (decide (x5 < ((((x0).length : Nat) : Int)))) ((inB 0 x5 ((((x0).length : Nat) : Int) - 1)) ∧ (br ((x0.getD (Int.toNat x5) (0)) == x1) (k true) (ag2 (IntKind.i64.wrap (x5 + (1 : Int)))))) (j6))
def j6 (k : Bool → Prop) : Prop :=
  (k false)
def c (l2 : (List Int) → Int → Int → Prop) (x0 : (List Int)) (x1 : Int) (k : Bool → Prop) : Prop :=
  (l2 x0 x1 (0 : Int))
def j6' (k : Bool → Prop) : Prop := j6 k
def l2' (x0 : (List Int)) (x1 : Int) (x5 : Int) (k : Bool → Prop) : Prop := ∃ n, loopS (fun (ag : (Int) → Prop) (s : Int) => l2 (j6' k) (fun x5 => ag (x5)) x0 x1 s k) n (x5)
def f0 (x0 : (List Int)) (x1 : Int) (k : Bool → Prop) : Prop := c (fun x0 x1 x5 => l2' x0 x1 x5 k) x0 x1 k
theorem f_ex : ∃ g : (List Int) → Int → (Bool → Prop) → Prop, g = f0 := ⟨_, rfl⟩
noncomputable def f : (List Int) → Int → (Bool → Prop) → Prop := Classical.choose f_ex
theorem f_def : f = f0 := Classical.choose_spec f_ex
def mL2 (x0 : (List Int)) (x1 : Int) (x5 : Int) : St := { tmps := mkT 18 0 [(0, (.fz (Ty.int IntKind.i64) x0)), (1, (.v (.int IntKind.i64 x1))), (5, (.v (.int IntKind.i64 x5)))], hp := [], m := 0 }
def m6 : St := { tmps := mkT 18 0 [], hp := [], m := 0 }
noncomputable def YL2 (k kp : D → List Blk → Prop) : (St → Prop) → St → Prop := loopB cfg (sub [1, 0, 1, 0, 0] body) (contK cfg (pick none' []) [1, 0, 1, 0] body (topK cfg Try.f26 k kp))
noncomputable def XL2 (k kp : D → List Blk → Prop) : St → Prop := fun st => ∃ n, loopN (YL2 k kp) n st
noncomputable def X6 (k kp : D → List Blk → Prop) : St → Prop := atP cfg (pick none' []) [1, 1] body (topK cfg Try.f26 k kp)
noncomputable def JJ_2 (k kp : D → List Blk → Prop) (ag2 : St → Prop) : Nat → St → Prop := pick none' [(6, X6 k kp)]
noncomputable def LL_2 (k kp : D → List Blk → Prop) (ag2 : St → Prop) : Nat → St → Prop := pick none' [(2, XL2 k kp)]
noncomputable def JJ (k kp : D → List Blk → Prop) : Nat → St → Prop := pick none' [(6, X6 k kp)]
noncomputable def LL (k kp : D → List Blk → Prop) : Nat → St → Prop := pick none' [(2, XL2 k kp)]
theorem j6_c (k kp : D → List Blk → Prop) (J L : Nat → St → Prop) : runC cfg 6 J L (pick none' []) [1, 1] body (topK cfg Try.f26 k kp) (m6) = j6 (fun y0 => k (.v (.bool y0)) []) := by kernel_rfl
theorem j6_ag (k kp : D → List Blk → Prop) : agPL cfg 6 (JJ k kp) (LL k kp) [1, 1] body = agPR cfg 6 (pick none' []) [1, 1] body (topK cfg Try.f26 k kp) := by kernel_rfl
theorem j6_raw (k kp : D → List Blk → Prop) : X6 k kp (m6) = j6 (fun y0 => k (.v (.bool y0)) []) :=
  Eq.mp (by kernel_rfl) ((atP_run (j6_ag k kp) (m6)).trans (j6_c k kp (JJ k kp) (LL k kp)))
theorem j6_eq (k kp : D → List Blk → Prop) : X6 k kp (m6) = j6' (fun y0 => k (.v (.bool y0)) []) := by
  rw [j6_raw]; rfl
theorem l2_c (k kp : D → List Blk → Prop) (J L : Nat → St → Prop) (ag2 : St → Prop) (x0 : (List Int)) (x1 : Int) (x5 : Int) : runC cfg 1000001 J L (pick none' [(2, ag2)]) [1, 0, 1, 0, 0] body (topK cfg Try.f26 k kp) (mL2 x0 x1 x5) = l2 (J 6 (m6)) (fun x5 => ag2 (mL2 x0 x1 x5)) x0 x1 x5 (fun y0 => k (.v (.bool y0)) []) := by kernel_rfl
theorem l2_ag (k kp : D → List Blk → Prop) (ag2 : St → Prop) : agPL cfg 1000001 (JJ_2 k kp ag2) (LL_2 k kp ag2) [1, 0, 1, 0, 0] body = agPR cfg 1000001 (pick none' [(2, ag2)]) [1, 0, 1, 0, 0] body (topK cfg Try.f26 k kp) := by kernel_rfl
theorem l2_raw (k kp : D → List Blk → Prop) (ag2 : St → Prop) (x0 : (List Int)) (x1 : Int) (x5 : Int) : YL2 k kp ag2 (mL2 x0 x1 x5) = l2 (X6 k kp (m6)) (fun x5 => ag2 (mL2 x0 x1 x5)) x0 x1 x5 (fun y0 => k (.v (.bool y0)) []) :=
  Eq.mp (by kernel_rfl) ((atP_run (l2_ag k kp ag2) (mL2 x0 x1 x5)).trans (l2_c k kp (JJ_2 k kp ag2) (LL_2 k kp ag2) ag2 x0 x1 x5))
theorem l2_eq (k kp : D → List Blk → Prop) (x0 : (List Int)) (x1 : Int) (x5 : Int) : XL2 k kp (mL2 x0 x1 x5) = l2' x0 x1 x5 (fun y0 => k (.v (.bool y0)) []) :=
  loop_eq (mk := fun (s : Int) => mL2 x0 x1 s) (fun again s => by rw [l2_raw k kp again x0 x1 s]; simp only [j6_eq]; first | done | rfl) (x5)
theorem c_c (k kp : D → List Blk → Prop) (J L : Nat → St → Prop) (x0 : (List Int)) (x1 : Int) : runC cfg 1000001 J L none'' [] body (topK cfg Try.f26 k kp) (st0 Try.f26 [(.fz (Ty.int IntKind.i64) x0), (.v (.int IntKind.i64 x1))] []) = c (fun x0 x1 x5 => L 2 (mL2 x0 x1 x5)) x0 x1 (fun y0 => k (.v (.bool y0)) []) := by kernel_rfl
theorem c_ag (k kp : D → List Blk → Prop) : agPL cfg 1000001 (JJ k kp) (LL k kp) [] body = agPR cfg 1000001 none'' [] body (topK cfg Try.f26 k kp) := by kernel_rfl
theorem body_is : Try.f26.body = some body := by kernel_rfl
theorem c_raw (k kp : D → List Blk → Prop) (x0 : (List Int)) (x1 : Int) : funW cfg Try.f26 [(.fz (Ty.int IntKind.i64) x0), (.v (.int IntKind.i64 x1))] [] k kp = c (fun x0 x1 x5 => XL2 k kp (mL2 x0 x1 x5)) x0 x1 (fun y0 => k (.v (.bool y0)) []) :=
  Eq.mp (by kernel_rfl) ((funW_run (AG := none'') body_is (c_ag k kp) [(.fz (Ty.int IntKind.i64) x0), (.v (.int IntKind.i64 x1))] []).trans (c_c k kp (JJ k kp) (LL k kp) x0 x1))
theorem f_eq (k kp : D → List Blk → Prop) (x0 : (List Int)) (x1 : Int) : funW cfg Try.f26 [(.fz (Ty.int IntKind.i64) x0), (.v (.int IntKind.i64 x1))] [] k kp = f x0 x1 (fun y0 => k (.v (.bool y0)) []) := by
  rw [f_def, c_raw]; simp only [l2_eq]; first | done | rfl
noncomputable def ent0 : Entry := fun args blks k _ => match args, blks with
  | [d0, d1], [] => aFz (Ty.int IntKind.i64) d0 fun x0 => aInt IntKind.i64 d1 fun x1 => f x0 x1 (fun y0 => k (.v (.bool y0)) [])
  | _, _ => False
noncomputable def ent : Entry := fun args blks k kp => ent0 (convA [some (Ty.int IntKind.i64), none] args) blks k kp
theorem ok : EntOk Try.prog 0 0 26 ent := by
  refine EntOk.conv (EntOk.of (funW_ok (cfg := cfg) (tyOk_of rfl rfl tyL_ok) (eqOk_of (P := Try.prog) rfl rfl (by kernel_rfl)) mixed_ok (tab_ok ?_) Try.func26 (by rfl) (by rfl)) ?_) _
  · intro p hp
    cases hp
  · intro args blks k kp h k' kp'
    match args, blks, h with
    | [d0, d1], [], h =>
    dsimp only [ent0] at h
    have h9 := aFz_elim (t := (Ty.int IntKind.i64)) h; clear h; obtain ⟨x0, rfl, h⟩ := h9
    have h9 := aInt_elim h; clear h; obtain ⟨x1, rfl, h⟩ := h9
    exact (f_eq k' kp' x0 x1).symm
end N26
end Go.Proofs.Yu
namespace Go.Proofs.Yu
open Go Go.Aw Go.Proofs Go.RowKit
set_option linter.unusedVariables false
set_option linter.unusedSimpArgs false

theorem putL_len (n : Int) : 1 ≤ (putL n).length ∧ (putL n).length ≤ 21 := by
  unfold putL
  have h1 : 0 < (dl 20 n.natAbs).length := dl_len_pos 19 n.natAbs
  have h2 := dl_len_le 20 n.natAbs
  simp
  split <;> simp <;> omega

/-- A class's letter. -/
def letterL (c : Int) : ByteArray := if c = 0 then ByteArray.mk #[103] else if c = 1 then ByteArray.mk #[120] else ByteArray.mk #[]
def classI (s : ByteArray) : Int × Bool := if beqS (ByteArray.mk #[103]) s then (0, true) else if beqS (ByteArray.mk #[120]) s then (1, true) else (0, false)

theorem letter_s (c : Int) (k : ByteArray → Prop) (h : k (letterL c)) : N27.f c k := by
  rw [N27.f_def]
  unfold N27.f0 N27.c N27.j2000002' N27.j2000002 N27.j3' N27.j3
  dsimp only
  unfold letterL at h
  have no : (c < 0 ∨ 2 ≤ c) → k (ByteArray.mk #[]) := by
    intro hc
    rw [if_neg (by omega), if_neg (by omega)] at h
    exact h
  refine br_of (fun h0 => ?_) (fun h0 => br_of (fun h1 => ?_) (fun h1 => ?_))
  · exact no (.inl (of_decide_eq_true h0))
  · exact no (.inr (of_decide_eq_true h1))
  · have h0 := of_decide_eq_false h0
    have h1 := of_decide_eq_false h1
    have hs : (ByteArray.mk #[103, 120]).size = 2 := rfl
    rw [wrap_id (by omega) (by omega)]
    refine ⟨⟨by omega, by omega, by rw [hs]; omega⟩, ?_⟩
    rcases (by omega : c = 0 ∨ c = 1) with rfl | rfl
    · exact h
    · exact h

theorem letter_no (c : Int) : beqS (letterL c) (ByteArray.mk #[]) = !(decide (c = 0) || decide (c = 1)) := by
  unfold letterL
  by_cases h0 : c = 0
  · rw [if_pos h0]; simp [h0]; decide
  · by_cases h1 : c = 1
    · rw [if_neg h0, if_pos h1]; simp [h1]; decide
    · rw [if_neg h0, if_neg h1]; simp [h0, h1]; decide

theorem class_s (s : ByteArray) (k : Int → Bool → Prop) (h : k (classI s).1 (classI s).2) : N28.f s k := by
  rw [N28.f_def]
  unfold N28.f0 N28.c N28.l2'
  unfold classI at h
  refine loopS_of (fun x : Int => x = 0 ∨ (x = 1 ∧ beqS (ByteArray.mk #[103]) s = false) ∨ (x = 2 ∧ beqS (ByteArray.mk #[103]) s = false ∧ beqS (ByteArray.mk #[120]) s = false)) (fun x => (2 - x).toNat) ?_ (.inl rfl)
  rintro again x hx hag
  unfold N28.l2 N28.j7' N28.j7
  dsimp only
  rcases hx with rfl | ⟨rfl, h1⟩ | ⟨rfl, h1, h2⟩
  · refine br_of (fun _ => letter_s _ _ ?_) (fun h0 => absurd (of_decide_eq_false h0) (by decide))
    have e : letterL 0 = ByteArray.mk #[103] := rfl
    rw [e]
    refine br_of (fun hb => ?_) (fun hb => hag _ (.inr (.inl ⟨by decide, hb⟩)) (by decide))
    rw [if_pos hb] at h; exact h
  · refine br_of (fun _ => letter_s _ _ ?_) (fun h0 => absurd (of_decide_eq_false h0) (by decide))
    have e : letterL 1 = ByteArray.mk #[120] := rfl
    rw [e]
    rw [if_neg (by rw [h1]; simp)] at h
    refine br_of (fun hb => ?_) (fun hb => hag _ (.inr (.inr ⟨by decide, h1, hb⟩)) (by decide))
    rw [if_pos hb] at h; exact h
  · refine br_of (fun h0 => absurd (of_decide_eq_true h0) (by decide)) (fun _ => ?_)
    rw [if_neg (by rw [h1]; simp), if_neg (by rw [h2]; simp)] at h
    exact h

/-- Has it such a place? -/
def hasI (r0 r1 slots kind cl n : Int) : Bool := (decide (kind = 2) && decide (0 ≤ n) && ((decide (cl = 0) && decide (n < r0)) || (decide (cl = 1) && decide (n < r1)))) || (decide (kind = 3) && decide (cl = 0) && decide (0 ≤ n) && decide (n < slots))

theorem has_s (r0 r1 : Int) (c0 c1 : List Int) (slots kind cl n : Int) (k : Bool → Prop) (h : k (hasI r0 r1 slots kind cl n)) : N18.f r0 r1 c0 c1 slots kind cl n k := by
  rw [N18.f_def]
  unfold N18.f0 N18.c
  unfold hasI at h
  simp only [br_beq]
  by_cases k2 : kind = 2
  · rw [if_pos k2]
    refine letter_s _ _ ?_
    rw [letter_no]
    subst k2
    by_cases h0 : cl = 0
    · subst h0
      by_cases hn : 0 ≤ n
      · simpa [hn] using h
      · simpa [hn] using h
    · by_cases h1 : cl = 1
      · subst h1
        by_cases hn : 0 ≤ n
        · simpa [hn] using h
        · simpa [hn] using h
      · simpa [h0, h1] using h
  · rw [if_neg k2]
    by_cases k3 : kind = 3
    · rw [if_pos k3]
      subst k3
      by_cases h0 : cl = 0
      · subst h0
        by_cases hn : 0 ≤ n
        · simpa [hn] using h
        · simpa [hn] using h
      · simpa [h0] using h
    · rw [if_neg k3]
      simpa [k2, k3] using h

theorem hasr_s (r0 r1 : Int) (c0 c1 : List Int) (slots kind cl n : Int) (k : Bool → Prop) (h : k (hasI r0 r1 slots kind cl n)) : N19.f r0 r1 c0 c1 slots kind cl n k := by
  rw [N19.f_def]
  unfold N19.f0 N19.c
  unfold hasI at h
  simp only [br_beq]
  by_cases k3 : kind = 3
  · rw [if_pos k3]
    subst k3
    by_cases h0 : cl = 0
    · subst h0
      by_cases hn : 0 ≤ n
      · simpa [hn] using h
      · simpa [hn] using h
    · simpa [h0] using h
  · rw [if_neg k3]
    by_cases k2 : kind = 2
    · rw [if_pos k2]
      subst k2
      by_cases h0 : cl = 0
      · subst h0
        by_cases hn : 0 ≤ n
        · simpa [hn] using h
        · simpa [hn] using h
      · by_cases h1 : cl = 1
        · subst h1
          by_cases hn : 0 ≤ n
          · simpa [hn] using h
          · simpa [hn] using h
        · simpa [h0, h1] using h
    · rw [if_neg k2]
      simpa [k2, k3] using h

/-- A place's name. -/
def nameI (kind cl n : Int) : ByteArray := if kind = 3 then bytesOf (35 :: putL n) else if kind = 2 ∧ cl = 0 then bytesOf (36 :: 103 :: putL n) else if kind = 2 ∧ cl = 1 then bytesOf (36 :: 120 :: putL n) else ByteArray.mk #[]

theorem name_s (kind cl n : Int) (hn : in64 n) (k : ByteArray → Prop) (h : k (nameI kind cl n)) : N22.f kind cl n k := by
  obtain ⟨p1, p2⟩ := putL_len n
  rw [N22.f_def]
  unfold N22.f0 N22.c N22.j2000002' N22.j2000002 N22.j5' N22.j5
  unfold nameI at h
  simp only [br_beq]
  by_cases k2 : kind = 2
  · rw [if_pos k2]
    refine letter_s _ _ ?_
    rw [letter_no]
    by_cases h01 : cl = 0 ∨ cl = 1
    · have : (!(!(decide (cl = 0) || decide (cl = 1)))) = true := by simpa using h01
      rw [this]
      simp only [br_true]
      refine letter_s _ _ ?_
      rw [if_neg (by omega)] at h
      rcases h01 with rfl | rfl
      · rw [if_pos ⟨k2, rfl⟩] at h
        have e : letterL 0 = bytesOf [103] := rfl
        have e2 : ByteArray.mk #[36] = bytesOf [36] := rfl
        rw [e, e2]
        refine ⟨by decide, put_s n hn _ ⟨?_, ?_⟩⟩
        · rw [← bytesOf_append, bytesOf_size, bytesOf_size]; simp; omega
        · rw [← bytesOf_append, ← bytesOf_append]; exact h
      · rw [if_neg (by omega), if_pos ⟨k2, rfl⟩] at h
        have e : letterL 1 = bytesOf [120] := rfl
        have e2 : ByteArray.mk #[36] = bytesOf [36] := rfl
        rw [e, e2]
        refine ⟨by decide, put_s n hn _ ⟨?_, ?_⟩⟩
        · rw [← bytesOf_append, bytesOf_size, bytesOf_size]; simp; omega
        · rw [← bytesOf_append, ← bytesOf_append]; exact h
    · have : (!(!(decide (cl = 0) || decide (cl = 1)))) = false := by simpa using h01
      rw [this]
      simp only [br_false]
      rw [if_neg (by omega)]
      rw [if_neg (by omega), if_neg (by omega), if_neg (by omega)] at h
      exact h
  · rw [if_neg k2]
    simp only [br_false]
    by_cases k3 : kind = 3
    · rw [if_pos k3]
      rw [if_pos k3] at h
      have e2 : ByteArray.mk #[35] = bytesOf [35] := rfl
      rw [e2]
      refine put_s n hn _ ⟨?_, ?_⟩
      · rw [bytesOf_size, bytesOf_size]; simp; omega
      · rw [← bytesOf_append]; exact h
    · rw [if_neg k3]
      rw [if_neg k3, if_neg (by omega), if_neg (by omega)] at h
      exact h

theorem namer_s (kind cl n : Int) (hn : in64 n) (k : ByteArray → Prop) (h : k (nameI kind cl n)) : N23.f kind cl n k := by
  obtain ⟨p1, p2⟩ := putL_len n
  rw [N23.f_def]
  unfold N23.f0 N23.c N23.j2000004' N23.j2000004 N23.j5' N23.j5 N23.j2000006' N23.j2000006 N23.j7' N23.j7
  unfold nameI at h
  dsimp only
  simp only [br_beq, br_false]
  by_cases k3 : kind = 3
  · rw [if_pos k3]
    rw [if_pos k3] at h
    have e2 : ByteArray.mk #[35] = bytesOf [35] := rfl
    rw [e2]
    refine putr_s n hn _ ⟨?_, ?_⟩
    · rw [bytesOf_size, bytesOf_size]; simp; omega
    · rw [← bytesOf_append]; exact h
  · rw [if_neg k3]
    rw [if_neg k3] at h
    by_cases k2 : kind = 2
    · rw [if_pos k2]
      by_cases h0 : cl = 0
      · rw [if_pos h0]
        rw [if_pos ⟨k2, h0⟩] at h
        have e2 : ByteArray.mk #[36, 103] = bytesOf [36, 103] := rfl
        rw [e2]
        refine putr_s n hn _ ⟨?_, ?_⟩
        · rw [bytesOf_size, bytesOf_size]; simp; omega
        · rw [← bytesOf_append]; exact h
      · rw [if_neg h0, if_pos k2]
        rw [if_neg (by omega)] at h
        by_cases h1 : cl = 1
        · rw [if_pos h1]
          rw [if_pos ⟨k2, h1⟩] at h
          have e2 : ByteArray.mk #[36, 120] = bytesOf [36, 120] := rfl
          rw [e2]
          refine putr_s n hn _ ⟨?_, ?_⟩
          · rw [bytesOf_size, bytesOf_size]; simp; omega
          · rw [← bytesOf_append]; exact h
        · rw [if_neg h1]
          rw [if_neg (by omega)] at h
          exact h
    · rw [if_neg k2, if_neg k2]
      rw [if_neg (by omega), if_neg (by omega)] at h
      exact h

/-- Does a call spoil it? -/
def spoilsI (c0 c1 : List Int) (kind cl n : Int) : Bool := decide (kind = 2) && ((decide (cl = 0) && c0.contains n) || (decide (cl = 1) && c1.contains n))

theorem contains_at {l : List Int} {i : Nat} {n : Int} (hi : i < l.length) (h : l.getD i 0 = n) : l.contains n = true := by
  rw [List.contains_iff_mem, ← h]
  simp only [List.getD, List.getElem?_eq_getElem hi, Option.getD_some]
  exact List.getElem_mem hi
theorem contains_no {l : List Int} {n : Int} (h : ∀ j, j < l.length → l.getD j 0 ≠ n) : l.contains n = false := by
  cases e : l.contains n with
  | false => rfl
  | true =>
    rw [List.contains_iff_mem] at e
    obtain ⟨j, hj, rfl⟩ := List.getElem_of_mem e
    have := h j hj
    simp [List.getD, hj] at this

theorem spoils_s (r0 r1 : Int) (c0 c1 : List Int) (slots kind cl n : Int) (h0 : c0.length < 2 ^ 60) (h1 : c1.length < 2 ^ 60) (k : Bool → Prop) (h : k (spoilsI c0 c1 kind cl n)) : N20.f r0 r1 c0 c1 slots kind cl n k := by
  rw [N20.f_def]
  unfold N20.f0 N20.c N20.j2000002' N20.j2000002 N20.j3' N20.j3
  unfold spoilsI at h
  dsimp only
  simp only [br_bne, br_true]
  by_cases k2 : kind = 2
  · rw [if_pos k2]
    rw [decide_eq_true k2, Bool.true_and] at h
    refine letter_s _ _ ?_
    rw [letter_no]
    have find : ∀ l : List Int, l.length < 2 ^ 60 → k (l.contains n) → N20.l4' l ((l.length : Nat) : Int) 0 kind cl n k := by
      intro l hl hk
      unfold N20.l4'
      refine loopS_of (fun s : Int × Int × Int × Int => ∃ i : Nat, s.1 = i ∧ i ≤ l.length ∧ s.2.2.2 = n ∧ ∀ j, j < i → l.getD j 0 ≠ n) (fun s => (l.length - s.1).toNat) ?_ ⟨0, rfl, Nat.zero_le _, rfl, fun j hj => by omega⟩
      rintro again ⟨x, a, b, c⟩ ⟨i, e1, hi, e2, hall⟩ hag
      simp only at e1 e2
      subst e1; subst e2
      simp only at hag ⊢
      unfold N20.l4 N20.j9' N20.j9
      dsimp only
      refine br_of (fun hlt => ?_) (fun hge => ?_)
      · have hlt := of_decide_eq_true hlt
        have ew : IntKind.i64.wrap ((i : Int) + 1) = ((i + 1 : Nat) : Int) := by rw [wrap_id (by omega) (by omega)]; omega
        rw [ew, Int.toNat_natCast]
        refine ⟨⟨by omega, by omega, by omega⟩, br_of (fun hb => ?_) (fun hb => hag _ ⟨i + 1, rfl, by omega, rfl, fun j hj => ?_⟩ (by simp; omega))⟩
        · rw [contains_at (by omega) (eq_of_beq hb)] at hk; exact hk
        · by_cases e : j = i
          · rw [e]; simpa using hb
          · exact hall j (by omega)
      · have hge := of_decide_eq_false hge
        rw [contains_no (fun j hj => hall j (by omega))] at hk
        exact hk
    by_cases c0' : cl = 0
    · subst c0'
      have : (!(decide ((0 : Int) = 0) || decide ((0 : Int) = 1))) = false := by decide
      rw [this]
      simp only [br_false, br_dec]
      exact find c0 h0 (by simpa using h)
    · by_cases c1' : cl = 1
      · subst c1'
        have : (!(decide ((1 : Int) = 0) || decide ((1 : Int) = 1))) = false := by decide
        rw [this]
        simp only [br_false, br_dec]
        exact find c1 h1 (by simpa using h)
      · have : (!(decide (cl = 0) || decide (cl = 1))) = true := by simp [c0', c1']
        rw [this]
        simpa [c0', c1'] using h
  · rw [if_neg k2]
    simpa [k2] using h

theorem spoilsr_s (r0 r1 : Int) (c0 c1 : List Int) (slots kind cl n : Int) (h0 : c0.length < 2 ^ 60) (h1 : c1.length < 2 ^ 60) (k : Bool → Prop) (h : k (spoilsI c0 c1 kind cl n)) : N21.f r0 r1 c0 c1 slots kind cl n k := by
  rw [N21.f_def]
  unfold N21.f0 N21.c N21.j2000002' N21.j2000002 N21.j3' N21.j3
  unfold spoilsI at h
  dsimp only
  simp only [br_bne, br_true, br_false]
  by_cases k2 : kind = 2
  · rw [if_pos k2]
    rw [decide_eq_true k2, Bool.true_and] at h
    have main : (cl = 0 ∨ cl = 1) → N21.l4' 0 r0 r1 c0 c1 slots kind cl n k := by
      intro h01
      unfold N21.l4'
      refine loopS_of (fun s : Int × Int × Int × List Int × List Int × Int × Int × Int × Int => ∃ i : Nat, s.1 = i ∧ s.2.2.2.1 = c0 ∧ s.2.2.2.2.1 = c1 ∧ s.2.2.2.2.2.2.2.1 = cl ∧ s.2.2.2.2.2.2.2.2 = n ∧
        i ≤ (if cl = 0 then c0 else c1).length ∧ ∀ j, j < i → (if cl = 0 then c0 else c1).getD j 0 ≠ n) (fun s => ((if cl = 0 then c0 else c1).length - s.1).toNat) ?_ ⟨0, rfl, rfl, rfl, rfl, rfl, Nat.zero_le _, fun j hj => by omega⟩
      rintro again ⟨x, a0, a1, l0, l1, a2, a3, a4, a5⟩ ⟨i, e1, e2, e3, e4, e5, hi, hall⟩ hag
      simp only at e1 e2 e3 e4 e5
      subst e1; subst e2; subst e3; subst e4; subst e5
      simp only at hag ⊢
      unfold N21.l4 N21.j8' N21.j8
      dsimp only
      rcases h01 with rfl | rfl
      · simp only [if_true] at hi hall hag
        simp only [br_dec]
        rw [if_pos (by decide)]
        by_cases hlt : (i : Int) < ((l0.length : Nat) : Int)
        · rw [if_pos hlt, if_pos (by decide)]
          have ew : IntKind.i64.wrap ((i : Int) + 1) = ((i + 1 : Nat) : Int) := by rw [wrap_id (by omega) (by omega)]; omega
          rw [ew, Int.toNat_natCast]
          refine ⟨⟨by omega, by omega, by omega⟩, br_of (fun hb => ?_) (fun hb => hag _ ⟨i + 1, rfl, rfl, rfl, rfl, rfl, by omega, fun j hj => ?_⟩ (by simp; omega))⟩
          · rw [contains_at (l := l0) (by omega) (eq_of_beq hb)] at h; simpa using h
          · by_cases e : j = i
            · rw [e]; simpa using hb
            · exact hall j (by omega)
        · have hge := hlt
          rw [if_neg hlt]
          rw [contains_no (l := l0) (fun j hj => hall j (by omega))] at h
          simpa using h
      · have h10 : ¬ (1 : Int) = 0 := by decide
        rw [if_neg h10] at hi hall hag
        simp only [br_dec]
        rw [if_neg (by decide), if_pos (by decide)]
        by_cases hlt : (i : Int) < ((l1.length : Nat) : Int)
        · rw [if_pos hlt, if_neg (by decide), if_pos (by decide)]
          have ew : IntKind.i64.wrap ((i : Int) + 1) = ((i + 1 : Nat) : Int) := by rw [wrap_id (by omega) (by omega)]; omega
          rw [ew, Int.toNat_natCast]
          refine ⟨⟨by omega, by omega, by omega⟩, br_of (fun hb => ?_) (fun hb => hag _ ⟨i + 1, rfl, rfl, rfl, rfl, rfl, ?_, fun j hj => ?_⟩ (by simp; omega))⟩
          · rw [contains_at (l := l1) (by omega) (eq_of_beq hb)] at h; simpa using h
          · omega
          · by_cases e : j = i
            · rw [e]; simpa using hb
            · exact hall j (by omega)
        · have hge := hlt
          rw [if_neg hlt]
          rw [contains_no (l := l1) (fun j hj => hall j (by omega))] at h
          simpa using h
    by_cases c0' : cl = 0
    · rw [if_pos c0']
      exact main (.inl c0')
    · rw [if_neg c0']
      by_cases c1' : cl = 1
      · rw [if_pos c1']
        exact main (.inr c1')
      · rw [if_neg c1']
        simpa [c0', c1'] using h
  · rw [if_neg k2]
    simpa [k2] using h
end Go.Proofs.Yu
namespace Go.Proofs.Yu
open Go Go.Aw Go.Proofs Go.RowKit
set_option linter.unusedVariables false
set_option linter.unusedSimpArgs false

/-- Is the i-th of those that are spoilt right? -/
def okAt (n : Int) (l : List Int) (i : Nat) : Bool := decide (0 ≤ l.getD i 0) && decide (l.getD i 0 < n) && (decide (i = 0) || decide (l.getD (i - 1) 0 < l.getD i 0))
def clob (n : Int) (l : List Int) : Bool := (List.range l.length).all (okAt n l)
/-- What is wrong with a target. -/
def checkI (r0 r1 : Int) (c0 c1 : List Int) (slots : Int) : Int :=
  if r0 < 0 ∨ 16 < r0 then 2 else if clob r0 c0 = false then 45 else if r1 < 0 ∨ 16 < r1 then 2 else if clob r1 c1 = false then 45 else if slots < 0 ∨ 4096 < slots then 2 else 0

theorem clob_yes {n : Int} {l : List Int} (h : ∀ j, j < l.length → okAt n l j = true) : clob n l = true := by
  unfold clob
  rw [List.all_eq_true]
  intro x hx
  exact h x (by simpa using hx)
theorem clob_no {n : Int} {l : List Int} {j : Nat} (hj : j < l.length) (h : okAt n l j = false) : clob n l = false := by
  cases e : clob n l with
  | false => rfl
  | true =>
    unfold clob at e
    rw [List.all_eq_true] at e
    have := e j (by simpa using hj)
    rw [h] at this; cases this

/-- One class's round of target.Check. -/
theorem clob_s (ag : Int → Int → Int → List Int → List Int → Int → Prop) (c n r0 r1 : Int) (c0 c1 : List Int) (slots : Int) (l : List Int) (hc : (c = 0 ∧ l = c0) ∨ (c = 1 ∧ l = c1)) (hl : l.length < 2 ^ 60) (k : Int → Prop)
    (h1 : clob n l = true → ag (IntKind.i64.wrap (c + 1)) r0 r1 c0 c1 slots) (h2 : clob n l = false → k 45) : N16.l7' ag c n r0 r1 c l ((l.length : Nat) : Int) 0 r0 r1 c0 c1 slots k := by
  unfold N16.l7'
  refine loopS_of (fun s : Int × Int × Int × List Int × List Int × Int => ∃ i : Nat, s = ((i : Int), r0, r1, c0, c1, slots) ∧ i ≤ l.length ∧ ∀ j, j < i → okAt n l j = true) (fun s => (l.length - s.1).toNat) ?_ ⟨0, rfl, Nat.zero_le _, fun j hj => by omega⟩
  rintro again s ⟨i, rfl, hi, hall⟩ hag
  simp only at hag ⊢
  unfold N16.l7 N16.j2000010' N16.j2000010 N16.j11' N16.j11 N16.j12' N16.j12
  dsimp only
  refine br_of (fun hlt => ?_) (fun hge => ?_)
  · have hlt := of_decide_eq_true hlt
    have ew : IntKind.i64.wrap ((i : Int) + 1) = ((i + 1 : Nat) : Int) := by rw [wrap_id (by omega) (by omega)]; omega
    rw [ew, Int.toNat_natCast]
    have go : okAt n l i = true → again (((i + 1 : Nat) : Int), r0, r1, c0, c1, slots) := by
      intro hok
      refine hag _ ⟨i + 1, rfl, by omega, fun j hj => ?_⟩ (by simp; omega)
      by_cases e : j = i
      · rw [e]; exact hok
      · exact hall j (by omega)
    have no : okAt n l i = false → k 45 := fun hno => h2 (clob_no (by omega) hno)
    refine ⟨⟨by omega, by omega, by omega⟩, br_of (fun ha => ?_) (fun ha => br_of (fun hb => ?_) (fun hb => br_of (fun hd => ?_) (fun hd => ?_)))⟩
    · have ha := of_decide_eq_true ha
      exact no (by unfold okAt; rw [decide_eq_false (by omega : ¬ 0 ≤ l.getD i 0)]; rfl)
    · have hb := of_decide_eq_true hb
      exact no (by unfold okAt; rw [decide_eq_false (by omega : ¬ l.getD i 0 < n)]; simp)
    · have ha := of_decide_eq_false ha
      have hb := of_decide_eq_false hb
      have hd := of_decide_eq_true hd
      have ew2 : IntKind.i64.wrap ((i : Int) - 1) = ((i - 1 : Nat) : Int) := by rw [wrap_id (by omega) (by omega)]; omega
      rw [ew2, Int.toNat_natCast]
      have hok : okAt n l i = decide (l.getD (i - 1) 0 < l.getD i 0) := by
        unfold okAt
        rw [decide_eq_true (by omega : 0 ≤ l.getD i 0), decide_eq_true (by omega : l.getD i 0 < n), decide_eq_false (by omega : ¬ i = 0)]
        rfl
      have last : br (decide (l.getD (i - 1) 0 ≥ l.getD i 0)) (k 45) (again (((i + 1 : Nat) : Int), r0, r1, c0, c1, slots)) := by
        refine br_of (fun hx => ?_) (fun hx => ?_)
        · have hx := of_decide_eq_true hx
          exact no (by rw [hok]; exact decide_eq_false (by omega))
        · have hx := of_decide_eq_false hx
          exact go (by rw [hok]; exact decide_eq_true (by omega))
      rcases hc with ⟨rfl, rfl⟩ | ⟨rfl, rfl⟩
      · simp only [br_dec]
        rw [if_pos (by decide)]
        exact ⟨⟨by omega, by omega, by omega⟩, by simpa only [br_dec] using last⟩
      · simp only [br_dec]
        rw [if_neg (by decide), if_pos (by decide)]
        exact ⟨⟨by omega, by omega, by omega⟩, by simpa only [br_dec] using last⟩
    · have ha := of_decide_eq_false ha
      have hb := of_decide_eq_false hb
      have hd := of_decide_eq_false hd
      simp only [br_false]
      exact go (by
        unfold okAt
        rw [decide_eq_true (by omega : 0 ≤ l.getD i 0), decide_eq_true (by omega : l.getD i 0 < n), decide_eq_true (by omega : i = 0)]
        rfl)
  · have hge := of_decide_eq_false hge
    exact h1 (clob_yes (fun j hj => hall j (by omega)))

theorem check_s (r0 r1 : Int) (c0 c1 : List Int) (slots : Int) (h0 : c0.length < 2 ^ 60) (h1 : c1.length < 2 ^ 60) (k : Int → Prop) (h : k (checkI r0 r1 c0 c1 slots)) : N16.f r0 r1 c0 c1 slots k := by
  rw [N16.f_def]
  unfold N16.f0 N16.c N16.l2'
  unfold checkI at h
  refine loopS_of (fun s : Int × Int × Int × List Int × List Int × Int => ∃ i : Int, s = (i, r0, r1, c0, c1, slots) ∧ (i = 0 ∨ (i = 1 ∧ ¬ (r0 < 0 ∨ 16 < r0) ∧ clob r0 c0 = true) ∨ (i = 2 ∧ ¬ (r0 < 0 ∨ 16 < r0) ∧ clob r0 c0 = true ∧ ¬ (r1 < 0 ∨ 16 < r1) ∧ clob r1 c1 = true))) (fun s => (2 - s.1).toNat) ?_ ⟨0, rfl, .inl rfl⟩
  rintro again s ⟨i, rfl, hi⟩ hag
  simp only at hag ⊢
  unfold N16.l2 N16.j2000005' N16.j2000005 N16.j6' N16.j6 N16.j13' N16.j13 N16.j2000014' N16.j2000014 N16.j15' N16.j15
  dsimp only
  rcases hi with rfl | ⟨rfl, a1, a2⟩ | ⟨rfl, a1, a2, a3, a4⟩
  · have d1 : decide ((0 : Int) < 2) = true := by decide
    have d2 : decide ((0 : Int) = ((0 : Nat) : Int)) = true := by decide
    rw [d1, d2]
    simp only [br_true]
    have main : ¬ (r0 < 0 ∨ 16 < r0) → N16.l7' (fun x9 b0_0 b0_1 b0_2 b0_3 b0_4 => again (x9, b0_0, b0_1, b0_2, b0_3, b0_4)) 0 r0 r0 r1 0 c0 ((c0.length : Nat) : Int) 0 r0 r1 c0 c1 slots k := by
      intro hr
      rw [if_neg hr] at h
      refine clob_s _ 0 r0 r0 r1 c0 c1 slots c0 (.inl ⟨rfl, rfl⟩) h0 k (fun hc => ?_) (fun hc => by rw [if_pos hc] at h; exact h)
      exact hag _ ⟨1, rfl, .inr (.inl ⟨rfl, hr, hc⟩)⟩ (by show (2 - IntKind.i64.wrap (0 + 1)).toNat < (2 - 0 : Int).toNat; decide)
    refine br_of (fun hx => ?_) (fun hx => br_of (fun hy => ?_) (fun hy => ?_))
    · rw [if_pos (.inl (of_decide_eq_true hx))] at h; exact h
    · rw [if_pos (.inr (of_decide_eq_true hy))] at h; exact h
    · have hx := of_decide_eq_false hx
      have hy := of_decide_eq_false hy
      exact main (by omega)
  · have d1 : decide ((1 : Int) < 2) = true := by decide
    have d2 : decide ((1 : Int) = ((0 : Nat) : Int)) = false := by decide
    have d3 : decide ((1 : Int) = ((1 : Nat) : Int)) = true := by decide
    rw [d1, d2, d3]
    simp only [br_true, br_false]
    rw [if_neg a1, if_neg (by rw [a2]; simp)] at h
    have main : ¬ (r1 < 0 ∨ 16 < r1) → N16.l7' (fun x9 b0_0 b0_1 b0_2 b0_3 b0_4 => again (x9, b0_0, b0_1, b0_2, b0_3, b0_4)) 1 r1 r0 r1 1 c1 ((c1.length : Nat) : Int) 0 r0 r1 c0 c1 slots k := by
      intro hr
      rw [if_neg hr] at h
      refine clob_s _ 1 r1 r0 r1 c0 c1 slots c1 (.inr ⟨rfl, rfl⟩) h1 k (fun hc => ?_) (fun hc => by rw [if_pos hc] at h; exact h)
      exact hag _ ⟨2, rfl, .inr (.inr ⟨rfl, a1, a2, hr, hc⟩)⟩ (by show (2 - IntKind.i64.wrap (1 + 1)).toNat < (2 - 1 : Int).toNat; decide)
    refine br_of (fun hx => ?_) (fun hx => br_of (fun hy => ?_) (fun hy => ?_))
    · rw [if_pos (.inl (of_decide_eq_true hx))] at h; exact h
    · rw [if_pos (.inr (of_decide_eq_true hy))] at h; exact h
    · have hx := of_decide_eq_false hx
      have hy := of_decide_eq_false hy
      exact main (by omega)
  · have d1 : decide ((2 : Int) < 2) = false := by decide
    rw [d1]
    simp only [br_false]
    rw [if_neg a1, if_neg (by rw [a2]; simp), if_neg a3, if_neg (by rw [a4]; simp)] at h
    refine br_of (fun hx => ?_) (fun hx => br_of (fun hy => ?_) (fun hy => ?_))
    · rw [if_pos (.inl (of_decide_eq_true hx))] at h; exact h
    · rw [if_pos (.inr (of_decide_eq_true hy))] at h; exact h
    · have hx := of_decide_eq_false hx
      have hy := of_decide_eq_false hy
      rw [if_neg (by omega)] at h; exact h

theorem clobr_s (ag : Int → Int → Int → List Int → List Int → Int → Prop) (c n r0 r1 : Int) (c0 c1 : List Int) (slots : Int) (l : List Int) (hc : (c = 0 ∧ n = r0) ∨ (c = 1 ∧ n = r1)) (hl : l.length < 2 ^ 60) (k : Int → Prop)
    (h1 : clob n l = true → ag (IntKind.i64.wrap (c + 1)) r0 r1 c0 c1 slots) (h2 : clob n l = false → k 45) : N17.l8' ag c l 0 r0 r1 c0 c1 slots k := by
  unfold N17.l8'
  refine loopS_of (fun s : Int × Int × Int × List Int × List Int × Int => ∃ i : Nat, s = ((i : Int), r0, r1, c0, c1, slots) ∧ i ≤ l.length ∧ ∀ j, j < i → okAt n l j = true) (fun s => (l.length - s.1).toNat) ?_ ⟨0, rfl, Nat.zero_le _, fun j hj => by omega⟩
  rintro again s ⟨i, rfl, hi, hall⟩ hag
  simp only at hag ⊢
  unfold N17.l8 N17.j2000011' N17.j2000011 N17.j9' N17.j9 N17.j3' N17.j3
  dsimp only
  refine br_of (fun hlt => ?_) (fun hge => ?_)
  · have hlt := of_decide_eq_true hlt
    have ew : IntKind.i64.wrap ((i : Int) + 1) = ((i + 1 : Nat) : Int) := by rw [wrap_id (by omega) (by omega)]; omega
    have hin : inB 0 (i : Int) ((l.length : Int) - 1) := ⟨by omega, by omega, by omega⟩
    rw [ew, Int.toNat_natCast]
    have go : okAt n l i = true → again (((i + 1 : Nat) : Int), r0, r1, c0, c1, slots) := by
      intro hok
      refine hag _ ⟨i + 1, rfl, by omega, fun j hj => ?_⟩ (by simp; omega)
      by_cases e : j = i
      · rw [e]; exact hok
      · exact hall j (by omega)
    have no : okAt n l i = false → k 45 := fun hno => h2 (clob_no (by omega) hno)
    refine ⟨hin, br_of (fun ha => ?_) (fun ha => ⟨hin, ?_⟩)⟩
    · have ha := of_decide_eq_true ha
      exact no (by unfold okAt; rw [decide_eq_false (by omega : ¬ 0 ≤ l.getD i 0)]; rfl)
    · have ha := of_decide_eq_false ha
      have rest : br (decide (l.getD i 0 ≥ n)) (br true (k 45) (again (((i + 1 : Nat) : Int), r0, r1, c0, c1, slots))) (br (decide ((i : Int) > 0)) ((inB 0 (i : Int) ((l.length : Int) - 1)) ∧ ((inB 0 (IntKind.i64.wrap ((i : Int) - 1)) ((l.length : Int) - 1)) ∧
          (br (decide (l.getD i 0 ≤ l.getD (Int.toNat (IntKind.i64.wrap ((i : Int) - 1))) 0)) (k 45) (again (((i + 1 : Nat) : Int), r0, r1, c0, c1, slots))))) (br false (k 45) (again (((i + 1 : Nat) : Int), r0, r1, c0, c1, slots)))) := by
        refine br_of (fun hb => ?_) (fun hb => br_of (fun hd => ?_) (fun hd => ?_))
        · have hb := of_decide_eq_true hb
          exact no (by unfold okAt; rw [decide_eq_false (by omega : ¬ l.getD i 0 < n)]; simp)
        · have hb := of_decide_eq_false hb
          have hd := of_decide_eq_true hd
          have ew2 : IntKind.i64.wrap ((i : Int) - 1) = ((i - 1 : Nat) : Int) := by rw [wrap_id (by omega) (by omega)]; omega
          rw [ew2, Int.toNat_natCast]
          have hok : okAt n l i = decide (l.getD (i - 1) 0 < l.getD i 0) := by
            unfold okAt
            rw [decide_eq_true (by omega : 0 ≤ l.getD i 0), decide_eq_true (by omega : l.getD i 0 < n), decide_eq_false (by omega : ¬ i = 0)]
            rfl
          refine ⟨hin, ⟨by omega, by omega, by omega⟩, br_of (fun hx => ?_) (fun hx => ?_)⟩
          · have hx := of_decide_eq_true hx
            exact no (by rw [hok]; exact decide_eq_false (by omega))
          · have hx := of_decide_eq_false hx
            exact go (by rw [hok]; exact decide_eq_true (by omega))
        · have hb := of_decide_eq_false hb
          have hd := of_decide_eq_false hd
          simp only [br_false]
          exact go (by
            unfold okAt
            rw [decide_eq_true (by omega : 0 ≤ l.getD i 0), decide_eq_true (by omega : l.getD i 0 < n), decide_eq_true (by omega : i = 0)]
            rfl)
      rcases hc with ⟨rfl, rfl⟩ | ⟨rfl, rfl⟩
      · have d2 : decide ((0 : Int) = ((0 : Nat) : Int)) = true := by decide
        rw [d2]
        exact rest
      · have d2 : decide ((1 : Int) = ((0 : Nat) : Int)) = false := by decide
        have d3 : decide ((1 : Int) = ((1 : Nat) : Int)) = true := by decide
        rw [d2, d3]
        exact rest
  · have hge := of_decide_eq_false hge
    exact h1 (clob_yes (fun j hj => hall j (by omega)))

theorem checkr_s (r0 r1 : Int) (c0 c1 : List Int) (slots : Int) (h0 : c0.length < 2 ^ 60) (h1 : c1.length < 2 ^ 60) (k : Int → Prop) (h : k (checkI r0 r1 c0 c1 slots)) : N17.f r0 r1 c0 c1 slots k := by
  rw [N17.f_def]
  unfold N17.f0 N17.c N17.l2'
  unfold checkI at h
  refine loopS_of (fun s : Int × Int × Int × List Int × List Int × Int => ∃ i : Int, s = (i, r0, r1, c0, c1, slots) ∧ (i = 0 ∨ (i = 1 ∧ ¬ (r0 < 0 ∨ 16 < r0) ∧ clob r0 c0 = true) ∨ (i = 2 ∧ ¬ (r0 < 0 ∨ 16 < r0) ∧ clob r0 c0 = true ∧ ¬ (r1 < 0 ∨ 16 < r1) ∧ clob r1 c1 = true))) (fun s => (2 - s.1).toNat) ?_ ⟨0, rfl, .inl rfl⟩
  rintro again s ⟨i, rfl, hi⟩ hag
  simp only at hag ⊢
  unfold N17.l2 N17.j2000005' N17.j2000005 N17.j6' N17.j6 N17.j12' N17.j12 N17.j2000013' N17.j2000013 N17.j14' N17.j14
  dsimp only
  rcases hi with rfl | ⟨rfl, a1, a2⟩ | ⟨rfl, a1, a2, a3, a4⟩
  · have d1 : decide ((0 : Int) < 2) = true := by decide
    have d2 : decide ((0 : Int) = ((0 : Nat) : Int)) = true := by decide
    rw [d1, d2]
    simp only [br_true]
    have main : ¬ (r0 < 0 ∨ 16 < r0) → N17.l8' (fun x9 b0_0 b0_1 b0_2 b0_3 b0_4 => again (x9, b0_0, b0_1, b0_2, b0_3, b0_4)) 0 c0 0 r0 r1 c0 c1 slots k := by
      intro hr
      rw [if_neg hr] at h
      refine clobr_s _ 0 r0 r0 r1 c0 c1 slots c0 (.inl ⟨rfl, rfl⟩) h0 k (fun hc => ?_) (fun hc => by rw [if_pos hc] at h; exact h)
      exact hag _ ⟨1, rfl, .inr (.inl ⟨rfl, hr, hc⟩)⟩ (by show (2 - IntKind.i64.wrap (0 + 1)).toNat < (2 - 0 : Int).toNat; decide)
    refine br_of (fun hx => ?_) (fun hx => br_of (fun hy => ?_) (fun hy => ?_))
    · rw [if_pos (.inl (of_decide_eq_true hx))] at h; exact h
    · rw [if_pos (.inr (of_decide_eq_true hy))] at h; exact h
    · have hx := of_decide_eq_false hx
      have hy := of_decide_eq_false hy
      exact main (by omega)
  · have d1 : decide ((1 : Int) < 2) = true := by decide
    have d2 : decide ((1 : Int) = ((0 : Nat) : Int)) = false := by decide
    have d3 : decide ((1 : Int) = ((1 : Nat) : Int)) = true := by decide
    rw [d1, d2, d3]
    simp only [br_true, br_false]
    rw [if_neg a1, if_neg (by rw [a2]; simp)] at h
    have main : ¬ (r1 < 0 ∨ 16 < r1) → N17.l8' (fun x9 b0_0 b0_1 b0_2 b0_3 b0_4 => again (x9, b0_0, b0_1, b0_2, b0_3, b0_4)) 1 c1 0 r0 r1 c0 c1 slots k := by
      intro hr
      rw [if_neg hr] at h
      refine clobr_s _ 1 r1 r0 r1 c0 c1 slots c1 (.inr ⟨rfl, rfl⟩) h1 k (fun hc => ?_) (fun hc => by rw [if_pos hc] at h; exact h)
      exact hag _ ⟨2, rfl, .inr (.inr ⟨rfl, a1, a2, hr, hc⟩)⟩ (by show (2 - IntKind.i64.wrap (1 + 1)).toNat < (2 - 1 : Int).toNat; decide)
    refine br_of (fun hx => ?_) (fun hx => br_of (fun hy => ?_) (fun hy => ?_))
    · rw [if_pos (.inl (of_decide_eq_true hx))] at h; exact h
    · rw [if_pos (.inr (of_decide_eq_true hy))] at h; exact h
    · have hx := of_decide_eq_false hx
      have hy := of_decide_eq_false hy
      exact main (by omega)
  · have d1 : decide ((2 : Int) < 2) = false := by decide
    rw [d1]
    simp only [br_false]
    rw [if_neg a1, if_neg (by rw [a2]; simp), if_neg a3, if_neg (by rw [a4]; simp)] at h
    refine br_of (fun hx => ?_) (fun hx => br_of (fun hy => ?_) (fun hy => ?_))
    · rw [if_pos (.inl (of_decide_eq_true hx))] at h; exact h
    · rw [if_pos (.inr (of_decide_eq_true hy))] at h; exact h
    · have hx := of_decide_eq_false hx
      have hy := of_decide_eq_false hy
      rw [if_neg (by omega)] at h; exact h

/-! ### Spoilt, kept -/
def locs (c : Int) (l : List Int) : List (Int × (Int × Int)) := l.map fun r => (2, (c, r))

theorem locs_s (ag : Int → List (Int × (Int × Int)) → Prop) (c : Int) (c0 c1 l : List Int) (x10 : Int) (b : List (Int × (Int × Int))) (hl : b.length + l.length < 2 ^ 40) (k : List (Int × (Int × Int)) → Prop)
    (h : ag (IntKind.i64.wrap (x10 + 1)) (b ++ locs c l)) : N25.l6' ag c c0 c1 x10 l ((l.length : Nat) : Int) 0 b k := by
  unfold N25.l6'
  refine loopS_of (fun s : Int × List (Int × (Int × Int)) => ∃ i : Nat, s = ((i : Int), b ++ locs c (l.take i)) ∧ i ≤ l.length) (fun s => (l.length - s.1).toNat) ?_ ⟨0, by simp [locs], Nat.zero_le _⟩
  rintro again s ⟨i, rfl, hi⟩ hag
  simp only at hag ⊢
  unfold N25.l6 N25.j10' N25.j10
  dsimp only
  refine br_of (fun hlt => ?_) (fun hge => ?_)
  · have hlt := of_decide_eq_true hlt
    have hil : i < l.length := by omega
    have ew : IntKind.i64.wrap ((i : Int) + 1) = ((i + 1 : Nat) : Int) := by rw [wrap_id (by omega) (by omega)]; omega
    rw [ew, Int.toNat_natCast]
    refine ⟨⟨by omega, by omega, by omega⟩, ?_, hag _ ⟨i + 1, ?_, by omega⟩ (by simp; omega)⟩
    · unfold room locs; simp; omega
    · have : l.take (i + 1) = l.take i ++ [l.getD i 0] := by
        rw [List.take_succ_eq_append_getElem hil]; simp [List.getD, List.getElem?_eq_getElem hil]
      rw [this]
      simp [locs]
  · have hge := of_decide_eq_false hge
    have : l.take i = l := List.take_of_length_le (by omega)
    rw [this]; exact h

theorem spoilt_s (r0 r1 : Int) (c0 c1 : List Int) (slots : Int) (h0 : c0.length + c1.length < 2 ^ 40) (k : List (Int × (Int × Int)) → Prop) (h : k (locs 0 c0 ++ locs 1 c1)) : N25.f r0 r1 c0 c1 slots k := by
  rw [N25.f_def]
  unfold N25.f0 N25.c N25.l3'
  refine loopS_of (fun s : Int × List (Int × (Int × Int)) => s = (0, []) ∨ s = (1, locs 0 c0) ∨ s = (2, locs 0 c0 ++ locs 1 c1)) (fun s => (2 - s.1).toNat) ?_ (.inl rfl)
  rintro again s hs hag
  unfold N25.l3 N25.j11' N25.j11
  dsimp only
  rcases hs with rfl | rfl | rfl
  · have d1 : decide ((0 : Int) < 2) = true := by decide
    have d2 : decide ((0 : Int) = ((0 : Nat) : Int)) = true := by decide
    simp only [d1, d2, br_true]
    refine locs_s _ 0 c0 c1 c0 0 [] (by simp; omega) k ?_
    exact hag _ (.inr (.inl rfl)) (by show (2 - IntKind.i64.wrap (0 + 1)).toNat < (2 - 0 : Int).toNat; decide)
  · have d1 : decide ((1 : Int) < 2) = true := by decide
    have d2 : decide ((1 : Int) = ((0 : Nat) : Int)) = false := by decide
    have d3 : decide ((1 : Int) = ((1 : Nat) : Int)) = true := by decide
    simp only [d1, d2, d3, br_true, br_false]
    refine locs_s _ 1 c0 c1 c1 1 (locs 0 c0) (by simp [locs]; omega) k ?_
    exact hag _ (.inr (.inr rfl)) (by show (2 - IntKind.i64.wrap (1 + 1)).toNat < (2 - 1 : Int).toNat; decide)
  · have d1 : decide ((2 : Int) < 2) = false := by decide
    simp only [d1, br_false]
    exact h

/-- Those that a call keeps, of the first n of a class. -/
def keptL (c0 c1 : List Int) (cl : Int) (n : Nat) : List Int := ((List.range n).map fun i => ((i : Nat) : Int)).filter fun x => !(spoilsI c0 c1 2 cl x)

theorem keptL_succ (c0 c1 : List Int) (cl : Int) (n : Nat) : keptL c0 c1 cl (n + 1) = keptL c0 c1 cl n ++ (if spoilsI c0 c1 2 cl (n : Int) = true then [] else [(n : Int)]) := by
  unfold keptL
  rw [List.range_succ, List.map_append, List.filter_append]
  congr 1
  cases e : spoilsI c0 c1 2 cl (n : Int) <;> simp [e]

theorem keptL_len (c0 c1 : List Int) (cl : Int) (n : Nat) : (keptL c0 c1 cl n).length ≤ n := by
  unfold keptL
  exact Nat.le_trans (List.length_filter_le _ _) (by simp)

def regOf (r0 r1 cl : Int) : Int := if cl = 0 then r0 else r1

theorem kept_s (r0 r1 : Int) (c0 c1 : List Int) (slots cl below : Int) (h0 : c0.length < 2 ^ 60) (h1 : c1.length < 2 ^ 60) (hr0 : r0 ≤ 1000) (hr1 : r1 ≤ 1000) (k : List Int → Prop)
    (h : k (if cl = 0 ∨ cl = 1 then keptL c0 c1 cl (min below (regOf r0 r1 cl)).toNat else [])) : N24.f r0 r1 c0 c1 slots cl below k := by
  rw [N24.f_def]
  unfold N24.f0 N24.c
  refine letter_s _ _ ?_
  rw [letter_no]
  have main : ∀ top : Int, top = min below (regOf r0 r1 cl) → (cl = 0 ∨ cl = 1) → N24.l5' cl top 0 r0 r1 c0 c1 slots [] k := by
    intro top ht hcl
    have htop : top ≤ 1000 := by rw [ht]; unfold regOf; split <;> omega
    rw [if_pos hcl, ← ht] at h
    unfold N24.l5'
    refine loopS_of (fun s : Int × Int × Int × List Int × List Int × Int × List Int => ∃ i : Nat, s = ((i : Int), r0, r1, c0, c1, slots, keptL c0 c1 cl i) ∧ i ≤ top.toNat) (fun s => (top - s.1).toNat) ?_ ⟨0, rfl, Nat.zero_le _⟩
    rintro again s ⟨i, rfl, hi⟩ hag
    simp only at hag ⊢
    unfold N24.l5 N24.j9' N24.j9 N24.j10' N24.j10
    dsimp only
    refine br_of (fun hlt => ?_) (fun hge => ?_)
    · have hlt := of_decide_eq_true hlt
      have ew : IntKind.i64.wrap ((i : Int) + 1) = ((i + 1 : Nat) : Int) := by rw [wrap_id (by omega) (by omega)]; omega
      rw [ew]
      refine spoils_s _ _ _ _ _ _ _ _ h0 h1 _ ?_
      have hkl := keptL_len c0 c1 cl i
      have hks := keptL_succ c0 c1 cl i
      cases hsp : spoilsI c0 c1 2 cl (i : Int) with
      | true =>
        rw [if_pos hsp, List.append_nil] at hks
        simp only [Bool.not_true, br_false]
        exact hag _ ⟨i + 1, by rw [hks], by omega⟩ (by simp; omega)
      | false =>
        rw [if_neg (by rw [hsp]; simp)] at hks
        simp only [Bool.not_false, br_true]
        refine ⟨by unfold room; simp; omega, hag _ ⟨i + 1, by rw [hks], by omega⟩ (by simp; omega)⟩
    · have hge := of_decide_eq_false hge
      have : i = top.toNat := by omega
      subst this
      exact h
  have hmm : ∀ a b : Int, mmv false a b = min a b := by
    intro a b
    unfold mmv
    simp only
    split <;> omega
  by_cases c0' : cl = 0
  · subst c0'
    have : (!(decide ((0 : Int) = 0) || decide ((0 : Int) = 1))) = false := by decide
    have d2 : decide ((0 : Int) = ((0 : Nat) : Int)) = true := by decide
    rw [this, d2]
    simp only [br_false, br_true]
    exact main _ (by rw [hmm]; rfl) (.inl rfl)
  · by_cases c1' : cl = 1
    · subst c1'
      have : (!(decide ((1 : Int) = 0) || decide ((1 : Int) = 1))) = false := by decide
      have d2 : decide ((1 : Int) = ((0 : Nat) : Int)) = false := by decide
      have d3 : decide ((1 : Int) = ((1 : Nat) : Int)) = true := by decide
      rw [this, d2, d3]
      simp only [br_false, br_true]
      exact main _ (by rw [hmm]; rfl) (.inr rfl)
    · have : (!(decide (cl = 0) || decide (cl = 1))) = true := by simp [c0', c1']
      rw [this]
      rw [if_neg (by omega)] at h
      exact h

theorem ints_s (a b : List Int) (ha : a.length < 2 ^ 60) (k : Bool → Prop) (h : k (a == b)) : N61.f a b k := by
  rw [N61.f_def]
  unfold N61.f0 N61.c
  refine br_of (fun hne => ?_) (fun he => ?_)
  · have : a.length ≠ b.length := by simp at hne; omega
    have : (a == b) = false := by
      simp
      intro e; subst e; exact this rfl
    rw [this] at h; exact h
  · have hl : a.length = b.length := by simp at he; omega
    unfold N61.l4'
    refine loopS_of (fun x : Int => ∃ i : Nat, x = i ∧ i ≤ a.length ∧ ∀ j, j < i → a.getD j 0 = b.getD j 0) (fun x => (a.length - x).toNat) ?_ ⟨0, rfl, Nat.zero_le _, fun j hj => by omega⟩
    rintro again x ⟨i, rfl, hi, hall⟩ hag
    unfold N61.l4 N61.j8' N61.j8
    dsimp only
    refine br_of (fun hlt => ?_) (fun hge => ?_)
    · have hlt := of_decide_eq_true hlt
      have ew : IntKind.i64.wrap ((i : Int) + 1) = ((i + 1 : Nat) : Int) := by rw [wrap_id (by omega) (by omega)]; omega
      rw [ew, Int.toNat_natCast]
      refine ⟨⟨by omega, by omega, by omega⟩, ⟨by omega, by omega, by omega⟩, br_of (fun hb => ?_) (fun hb => hag _ ⟨i + 1, rfl, by omega, fun j hj => ?_⟩ (by omega))⟩
      · have hb : a.getD i 0 ≠ b.getD i 0 := by simpa using hb
        have : (a == b) = false := by
          rw [beq_eq_false_iff_ne]
          intro e; subst e; exact hb rfl
        rw [this] at h; exact h
      · by_cases e : j = i
        · rw [e]; simpa using hb
        · exact hall j (by omega)
    · have hge := of_decide_eq_false hge
      have : a = b := by
        apply List.ext_getElem hl
        intro j h1 h2
        have := hall j (by omega)
        simpa [List.getD, h1, h2] using this
      rw [beq_iff_eq.2 this] at h; exact h

theorem usual_s (k : Int → Int → List Int → List Int → Int → Prop) (h : k 8 4 [0, 1, 2, 3] [0, 1] 1024) : N60.f k := by
  rw [N60.f_def]
  exact h

theorem worksT_s (k : Bool → Prop) (h : k true) : N15.f k := by
  rw [N15.f_def]
  unfold N15.f0 N15.c
  refine usual_s _ (class_s _ _ (check_s _ _ _ _ _ (by decide) (by decide) _ ?_))
  have e1 : (checkI 8 4 [0, 1, 2, 3] [0, 1] 1024 == 0) = true := by decide +kernel
  rw [e1]
  simp only [br_true]
  refine letter_s _ _ ?_
  have e2 : beqS (letterL 1) (ByteArray.mk #[120]) = true := by decide +kernel
  have e3 : classI (ByteArray.mk #[120]) = (1, true) := by decide +kernel
  rw [e2, e3]
  simp only [br_true, beq_self_eq_true]
  refine name_s _ _ _ ⟨by decide, by decide⟩ _ ?_
  have e4 : beqS (nameI 2 1 3) (ByteArray.mk #[36, 120, 51]) = true := by decide +kernel
  rw [e4]
  simp only [br_true]
  refine spoilt_s _ _ _ _ _ (by decide) _ ?_
  have e5 : ((((locs 0 [0, 1, 2, 3] ++ locs 1 [0, 1]).length : Nat) : Int) == 6) = true := by decide +kernel
  rw [e5]
  simp only [br_true]
  refine kept_s _ _ _ _ _ _ _ (by decide) (by decide) (by decide) (by decide) _ (ints_s _ _ (by decide +kernel) _ ?_)
  have e6 : ((if (0 : Int) = 0 ∨ (0 : Int) = 1 then keptL [0, 1, 2, 3] [0, 1] 0 (min 6 (regOf 8 4 0)).toNat else []) == [4, 5]) = true := by decide +kernel
  rw [e6]
  simp only [br_true]
  refine has_s _ _ _ _ _ _ _ _ _ ?_
  have e7 : hasI 8 4 1024 3 0 1023 = true := by decide +kernel
  rw [e7]
  simp only [br_true]
  refine spoils_s _ _ _ _ _ _ _ _ (by decide) (by decide) _ ?_
  have e8 : spoilsI [0, 1, 2, 3] [0, 1] 2 0 0 = true := by decide +kernel
  rw [e8]
  simp only [br_true]
  exact h
end Go.Proofs.Yu
namespace Go.Proofs.Yu
open Go Go.Aw Go.Proofs
set_option linter.unusedVariables false
set_option linter.unusedSimpArgs false
set_option maxRecDepth 100000
/-! dyehouse/dyehouselaw13.TargetParts -/
namespace N4
noncomputable def cfg : Cfg := { P := Try.prog, ty := tys, E := tab [(17, N17.ent), (24, N24.ent), (15, N15.ent), (25, N25.ent), (26, N26.ent), (20, N20.ent)], atSeq := tab [(2000002, ⟨[(1, .keep), (2, .keep), (3, .keep), (23, .keep)]⟩), (3, ⟨[(1, .keep), (2, .keep), (3, .keep)]⟩), (9, ⟨[(1, .keep), (2, .keep), (3, .keep), (7, .keep), (8, .keep), (9, .keep), (10, .keep)]⟩), (18, ⟨[(3, .keep), (7, .keep), (8, .keep), (9, .keep)]⟩), (12, ⟨[(1, .keep), (2, .keep), (3, .keep), (7, .keep), (8, .keep), (9, .keep), (10, .keep), (11, .keep), (12, .keep)]⟩), (14, ⟨[(1, .keep), (2, .keep), (3, .keep), (7, .keep), (8, .keep), (9, .keep), (10, .keep), (11, .keep)]⟩), (2000015, ⟨[(1, .keep), (2, .keep), (3, .keep), (7, .keep), (8, .keep), (9, .keep), (10, .keep), (11, .keep), (86, .keep)]⟩), (16, ⟨[(1, .keep), (2, .keep), (3, .keep), (7, .keep), (8, .keep), (9, .keep), (10, .keep), (11, .keep)]⟩), (8, ⟨[(1, .keep), (2, .keep), (3, .keep), (7, .keep), (8, .keep), (9, .keep), (10, .keep)]⟩)], atLoop := tab [(7, ⟨[(1, .keep), (2, .keep), (3, .keep), (7, .cold (Ty.int IntKind.i64)), (8, .keep), (9, .keep), (10, .keep)]⟩), (11, ⟨[(1, .keep), (2, .keep), (3, .keep), (7, .keep), (8, .keep), (9, .keep), (10, .keep), (11, .keep), (12, .keep)]⟩)], outs := [], eqT := tab [(28, [(Ty.int IntKind.i64), (Ty.int IntKind.i64), (Ty.int IntKind.i64)])] }
noncomputable def body : Code := bodyOf Try.f4
def j2000002 (j3 : Int → Int → Int → Int → (List Int) → (List Int) → Int → Prop) (x1 : Int) (x2 : Int) (x23 : Bool) (b0_0 : Int) (b0_1 : Int) (b0_2 : (List Int)) (b0_3 : (List Int)) (b0_4 : Int) (k : Bool → Prop) : Prop :=
  (br x23 (N24.f b0_0 b0_1 b0_2 b0_3 b0_4 (2 : Int) (9 : Int) (fun (z0_1 : (List Int)) => (br (((((z0_1).length : Nat) : Int)) == (0 : Int)) (N24.f b0_0 b0_1 b0_2 b0_3 b0_4 (-1 : Int) (9 : Int) (fun (z0_2 : (List Int)) => (br (((((z0_2).length : Nat) : Int)) == (0 : Int)) (N15.f (fun (y0_3 : Bool) => (k y0_3))) (k false)))) (k false)))) (j3 x1 x2 b0_0 b0_1 b0_2 b0_3 b0_4))
def j3 (l7 : Int → Int → (List Int) → Int → Int → Int → Int → (List Int) → (List Int) → Int → (List (Int × (Int × Int))) → Prop) (x1 : Int) (x2 : Int) (b0_0 : Int) (b0_1 : Int) (b0_2 : (List Int)) (b0_3 : (List Int)) (b0_4 : Int) (k : Bool → Prop) : Prop :=
  (N24.f b0_0 b0_1 b0_2 b0_3 b0_4 x1 x2 (fun (z0_4 : (List Int)) => (N25.f b0_0 b0_1 b0_2 b0_3 b0_4 (fun (z0_5 : (List (Int × (Int × Int)))) => (l7 x1 x2 z0_4 (0 : Int) (0 : Int) b0_0 b0_1 b0_2 b0_3 b0_4 z0_5)))))
def l7 (j9 : Int → Int → (List Int) → Int → Int → Int → Int → (List Int) → (List Int) → Int → (List (Int × (Int × Int))) → Prop) (j18 : (List Int) → Int → Int → Int → (List Int) → (List Int) → Int → (List (Int × (Int × Int))) → Prop) (x1 : Int) (x2 : Int) (x7 : (List Int)) (x9 : Int) (x10 : Int) (b0_0 : Int) (b0_1 : Int) (b0_2 : (List Int)) (b0_3 : (List Int)) (b0_4 : Int) (b1 : (List (Int × (Int × Int)))) (k : Bool → Prop) : Prop :=
  (br (decide (x1 = ((0 : Nat) : Int))) (br (decide (x10 < b0_0)) (br (decide (x10 < x2)) (j9 x1 x2 x7 x9 x10 b0_0 b0_1 b0_2 b0_3 b0_4 b1) (j18 x7 x9 b0_0 b0_1 b0_2 b0_3 b0_4 b1)) (j18 x7 x9 b0_0 b0_1 b0_2 b0_3 b0_4 b1)) (br (decide (x1 = ((1 : Nat) : Int))) (br (decide (x10 < b0_1)) (br (decide (x10 < x2)) (j9 x1 x2 x7 x9 x10 b0_0 b0_1 b0_2 b0_3 b0_4 b1) (j18 x7 x9 b0_0 b0_1 b0_2 b0_3 b0_4 b1)) (j18 x7 x9 b0_0 b0_1 b0_2 b0_3 b0_4 b1)) False))
def j9 (l11 : Int → Int → (List Int) → Int → Int → Bool → Int → Int → Int → (List Int) → (List Int) → Int → (List (Int × (Int × Int))) → Prop) (x1 : Int) (x2 : Int) (x7 : (List Int)) (x9 : Int) (x10 : Int) (b0_0 : Int) (b0_1 : Int) (b0_2 : (List Int)) (b0_3 : (List Int)) (b0_4 : Int) (b1 : (List (Int × (Int × Int)))) (k : Bool → Prop) : Prop :=
  (l11 x1 x2 x7 x9 x10 false (0 : Int) b0_0 b0_1 b0_2 b0_3 b0_4 b1)
def j18 (x7 : (List Int)) (x9 : Int) (b0_0 : Int) (b0_1 : Int) (b0_2 : (List Int)) (b0_3 : (List Int)) (b0_4 : Int) (b1 : (List (Int × (Int × Int)))) (k : Bool → Prop) : Prop :=
  (br (x9 == ((((x7).length : Nat) : Int))) (br (((((b1).length : Nat) : Int)) == (IntKind.i64.wrap (((((b0_2).length : Nat) : Int)) + ((((b0_3).length : Nat) : Int))))) (N15.f (fun (y0_6 : Bool) => (k y0_6))) (k false)) (k false))
def l11 (j12 : Int → Int → (List Int) → Int → Int → Bool → Int → Int → Int → (List Int) → (List Int) → Int → (List (Int × (Int × Int))) → Prop) (j14 : Int → Int → (List Int) → Int → Int → Bool → Int → Int → (List Int) → (List Int) → Int → (List (Int × (Int × Int))) → Prop) (x1 : Int) (x2 : Int) (x7 : (List Int)) (x9 : Int) (x10 : Int) (x11 : Bool) (x12 : Int) (b0_0 : Int) (b0_1 : Int) (b0_2 : (List Int)) (b0_3 : (List Int)) (b0_4 : Int) (b1 : (List (Int × (Int × Int)))) (k : Bool → Prop) : Prop :=
  (br (decide (x12 < ((((b1).length : Nat) : Int)))) (br x11 (j12 x1 x2 x7 x9 x10 true x12 b0_0 b0_1 b0_2 b0_3 b0_4 b1) ((inB 0 x12 ((((b1).length : Nat) : Int) - 1)) ∧ (j12 x1 x2 x7 x9 x10 (((b1.getD (Int.toNat x12) ((0, (0, 0)))).1 == (2 : Int)) && (((b1.getD (Int.toNat x12) ((0, (0, 0)))).2.1 == x1) && (((b1.getD (Int.toNat x12) ((0, (0, 0)))).2.2 == x10) && true))) x12 b0_0 b0_1 b0_2 b0_3 b0_4 b1))) (j14 x1 x2 x7 x9 x10 x11 b0_0 b0_1 b0_2 b0_3 b0_4 b1))
def j12 (ag11 : Bool → Int → Int → Int → (List Int) → (List Int) → Int → (List (Int × (Int × Int))) → Prop) (x1 : Int) (x2 : Int) (x7 : (List Int)) (x9 : Int) (x10 : Int) (x11 : Bool) (x12 : Int) (b0_0 : Int) (b0_1 : Int) (b0_2 : (List Int)) (b0_3 : (List Int)) (b0_4 : Int) (b1 : (List (Int × (Int × Int)))) (k : Bool → Prop) : Prop :=
  (ag11 x11 (IntKind.i64.wrap (x12 + (1 : Int))) b0_0 b0_1 b0_2 b0_3 b0_4 b1)
def j14 (j2000015 : Int → Int → (List Int) → Int → Int → Bool → Bool → Int → Int → (List Int) → (List Int) → Int → (List (Int × (Int × Int))) → Prop) (x1 : Int) (x2 : Int) (x7 : (List Int)) (x9 : Int) (x10 : Int) (x11 : Bool) (b0_0 : Int) (b0_1 : Int) (b0_2 : (List Int)) (b0_3 : (List Int)) (b0_4 : Int) (b1 : (List (Int × (Int × Int)))) (k : Bool → Prop) : Prop :=
  (N26.f x7 x10 (fun (y0_7 : Bool) => (br (x11 == y0_7) (j2000015 x1 x2 x7 x9 x10 x11 true b0_0 b0_1 b0_2 b0_3 b0_4 b1) (N20.f b0_0 b0_1 b0_2 b0_3 b0_4 (2 : Int) x1 x10 (fun (y0_8 : Bool) => (j2000015 x1 x2 x7 x9 x10 x11 (!(x11 == y0_8)) b0_0 b0_1 b0_2 b0_3 b0_4 b1))))))
def j2000015 (j16 : Int → Int → (List Int) → Int → Int → Bool → Int → Int → (List Int) → (List Int) → Int → (List (Int × (Int × Int))) → Prop) (x1 : Int) (x2 : Int) (x7 : (List Int)) (x9 : Int) (x10 : Int) (x11 : Bool) (x86 : Bool) (b0_0 : Int) (b0_1 : Int) (b0_2 : (List Int)) (b0_3 : (List Int)) (b0_4 : Int) (b1 : (List (Int × (Int × Int)))) (k : Bool → Prop) : Prop :=
  (br x86 (k false) (j16 x1 x2 x7 x9 x10 x11 b0_0 b0_1 b0_2 b0_3 b0_4 b1))
def j16 (j8 : Int → Int → (List Int) → Int → Int → Int → Int → (List Int) → (List Int) → Int → (List (Int × (Int × Int))) → Prop) (x1 : Int) (x2 : Int) (x7 : (List Int)) (x9 : Int) (x10 : Int) (x11 : Bool) (b0_0 : Int) (b0_1 : Int) (b0_2 : (List Int)) (b0_3 : (List Int)) (b0_4 : Int) (b1 : (List (Int × (Int × Int)))) (k : Bool → Prop) : Prop :=
  (br (!x11) (j8 x1 x2 x7 (IntKind.i64.wrap (x9 + (1 : Int))) x10 b0_0 b0_1 b0_2 b0_3 b0_4 b1) (j8 x1 x2 x7 x9 x10 b0_0 b0_1 b0_2 b0_3 b0_4 b1))
def j8 (ag7 : Int → Int → Int → Int → (List Int) → (List Int) → Int → (List (Int × (Int × Int))) → Prop) (x1 : Int) (x2 : Int) (x7 : (List Int)) (x9 : Int) (x10 : Int) (b0_0 : Int) (b0_1 : Int) (b0_2 : (List Int)) (b0_3 : (List Int)) (b0_4 : Int) (b1 : (List (Int × (Int × Int)))) (k : Bool → Prop) : Prop :=
  (ag7 x9 (IntKind.i64.wrap (x10 + (1 : Int))) b0_0 b0_1 b0_2 b0_3 b0_4 b1)
def c (j2000002 : Int → Int → Bool → Int → Int → (List Int) → (List Int) → Int → Prop) (x0_0_0 : Int) (x0_0_1 : Int) (x0_1_0 : (List Int)) (x0_1_1 : (List Int)) (x0_2 : Int) (x1 : Int) (x2 : Int) (k : Bool → Prop) : Prop :=
  (N17.f x0_0_0 x0_0_1 x0_1_0 x0_1_1 x0_2 (fun (y0_0 : Int) => (br (y0_0 != (0 : Int)) (j2000002 x1 x2 true x0_0_0 x0_0_1 x0_1_0 x0_1_1 x0_2) (br (decide (x1 < (0 : Int))) (j2000002 x1 x2 true x0_0_0 x0_0_1 x0_1_0 x0_1_1 x0_2) (j2000002 x1 x2 (decide (x1 > (1 : Int))) x0_0_0 x0_0_1 x0_1_0 x0_1_1 x0_2)))))
def j18' (x7 : (List Int)) (x9 : Int) (b0_0 : Int) (b0_1 : Int) (b0_2 : (List Int)) (b0_3 : (List Int)) (b0_4 : Int) (b1 : (List (Int × (Int × Int)))) (k : Bool → Prop) : Prop := j18 x7 x9 b0_0 b0_1 b0_2 b0_3 b0_4 b1 k
def j12' (ag11 : Bool → Int → Int → Int → (List Int) → (List Int) → Int → (List (Int × (Int × Int))) → Prop) (x1 : Int) (x2 : Int) (x7 : (List Int)) (x9 : Int) (x10 : Int) (x11 : Bool) (x12 : Int) (b0_0 : Int) (b0_1 : Int) (b0_2 : (List Int)) (b0_3 : (List Int)) (b0_4 : Int) (b1 : (List (Int × (Int × Int)))) (k : Bool → Prop) : Prop := j12 ag11 x1 x2 x7 x9 x10 x11 x12 b0_0 b0_1 b0_2 b0_3 b0_4 b1 k
def j8' (ag7 : Int → Int → Int → Int → (List Int) → (List Int) → Int → (List (Int × (Int × Int))) → Prop) (x1 : Int) (x2 : Int) (x7 : (List Int)) (x9 : Int) (x10 : Int) (b0_0 : Int) (b0_1 : Int) (b0_2 : (List Int)) (b0_3 : (List Int)) (b0_4 : Int) (b1 : (List (Int × (Int × Int)))) (k : Bool → Prop) : Prop := j8 ag7 x1 x2 x7 x9 x10 b0_0 b0_1 b0_2 b0_3 b0_4 b1 k
def j16' (ag7 : Int → Int → Int → Int → (List Int) → (List Int) → Int → (List (Int × (Int × Int))) → Prop) (x1 : Int) (x2 : Int) (x7 : (List Int)) (x9 : Int) (x10 : Int) (x11 : Bool) (b0_0 : Int) (b0_1 : Int) (b0_2 : (List Int)) (b0_3 : (List Int)) (b0_4 : Int) (b1 : (List (Int × (Int × Int)))) (k : Bool → Prop) : Prop := j16 (fun x1 x2 x7 x9 x10 b0_0 b0_1 b0_2 b0_3 b0_4 b1 => j8' ag7 x1 x2 x7 x9 x10 b0_0 b0_1 b0_2 b0_3 b0_4 b1 k) x1 x2 x7 x9 x10 x11 b0_0 b0_1 b0_2 b0_3 b0_4 b1 k
def j2000015' (ag7 : Int → Int → Int → Int → (List Int) → (List Int) → Int → (List (Int × (Int × Int))) → Prop) (x1 : Int) (x2 : Int) (x7 : (List Int)) (x9 : Int) (x10 : Int) (x11 : Bool) (x86 : Bool) (b0_0 : Int) (b0_1 : Int) (b0_2 : (List Int)) (b0_3 : (List Int)) (b0_4 : Int) (b1 : (List (Int × (Int × Int)))) (k : Bool → Prop) : Prop := j2000015 (fun x1 x2 x7 x9 x10 x11 b0_0 b0_1 b0_2 b0_3 b0_4 b1 => j16' ag7 x1 x2 x7 x9 x10 x11 b0_0 b0_1 b0_2 b0_3 b0_4 b1 k) x1 x2 x7 x9 x10 x11 x86 b0_0 b0_1 b0_2 b0_3 b0_4 b1 k
def j14' (ag7 : Int → Int → Int → Int → (List Int) → (List Int) → Int → (List (Int × (Int × Int))) → Prop) (x1 : Int) (x2 : Int) (x7 : (List Int)) (x9 : Int) (x10 : Int) (x11 : Bool) (b0_0 : Int) (b0_1 : Int) (b0_2 : (List Int)) (b0_3 : (List Int)) (b0_4 : Int) (b1 : (List (Int × (Int × Int)))) (k : Bool → Prop) : Prop := j14 (fun x1 x2 x7 x9 x10 x11 x86 b0_0 b0_1 b0_2 b0_3 b0_4 b1 => j2000015' ag7 x1 x2 x7 x9 x10 x11 x86 b0_0 b0_1 b0_2 b0_3 b0_4 b1 k) x1 x2 x7 x9 x10 x11 b0_0 b0_1 b0_2 b0_3 b0_4 b1 k
def l11' (ag7 : Int → Int → Int → Int → (List Int) → (List Int) → Int → (List (Int × (Int × Int))) → Prop) (x1 : Int) (x2 : Int) (x7 : (List Int)) (x9 : Int) (x10 : Int) (x11 : Bool) (x12 : Int) (b0_0 : Int) (b0_1 : Int) (b0_2 : (List Int)) (b0_3 : (List Int)) (b0_4 : Int) (b1 : (List (Int × (Int × Int)))) (k : Bool → Prop) : Prop := ∃ n, loopS (fun (ag : (Bool × Int × Int × Int × (List Int) × (List Int) × Int × (List (Int × (Int × Int)))) → Prop) (s : Bool × Int × Int × Int × (List Int) × (List Int) × Int × (List (Int × (Int × Int)))) => l11 (fun x1 x2 x7 x9 x10 x11 x12 b0_0 b0_1 b0_2 b0_3 b0_4 b1 => j12' (fun x11 x12 b0_0 b0_1 b0_2 b0_3 b0_4 b1 => ag (x11, x12, b0_0, b0_1, b0_2, b0_3, b0_4, b1)) x1 x2 x7 x9 x10 x11 x12 b0_0 b0_1 b0_2 b0_3 b0_4 b1 k) (fun x1 x2 x7 x9 x10 x11 b0_0 b0_1 b0_2 b0_3 b0_4 b1 => j14' ag7 x1 x2 x7 x9 x10 x11 b0_0 b0_1 b0_2 b0_3 b0_4 b1 k) x1 x2 x7 x9 x10 s.1 s.2.1 s.2.2.1 s.2.2.2.1 s.2.2.2.2.1 s.2.2.2.2.2.1 s.2.2.2.2.2.2.1 s.2.2.2.2.2.2.2 k) n (x11, x12, b0_0, b0_1, b0_2, b0_3, b0_4, b1)
def j9' (ag7 : Int → Int → Int → Int → (List Int) → (List Int) → Int → (List (Int × (Int × Int))) → Prop) (x1 : Int) (x2 : Int) (x7 : (List Int)) (x9 : Int) (x10 : Int) (b0_0 : Int) (b0_1 : Int) (b0_2 : (List Int)) (b0_3 : (List Int)) (b0_4 : Int) (b1 : (List (Int × (Int × Int)))) (k : Bool → Prop) : Prop := j9 (fun x1 x2 x7 x9 x10 x11 x12 b0_0 b0_1 b0_2 b0_3 b0_4 b1 => l11' ag7 x1 x2 x7 x9 x10 x11 x12 b0_0 b0_1 b0_2 b0_3 b0_4 b1 k) x1 x2 x7 x9 x10 b0_0 b0_1 b0_2 b0_3 b0_4 b1 k
def l7' (x1 : Int) (x2 : Int) (x7 : (List Int)) (x9 : Int) (x10 : Int) (b0_0 : Int) (b0_1 : Int) (b0_2 : (List Int)) (b0_3 : (List Int)) (b0_4 : Int) (b1 : (List (Int × (Int × Int)))) (k : Bool → Prop) : Prop := ∃ n, loopS (fun (ag : (Int × Int × Int × Int × (List Int) × (List Int) × Int × (List (Int × (Int × Int)))) → Prop) (s : Int × Int × Int × Int × (List Int) × (List Int) × Int × (List (Int × (Int × Int)))) => l7 (fun x1 x2 x7 x9 x10 b0_0 b0_1 b0_2 b0_3 b0_4 b1 => j9' (fun x9 x10 b0_0 b0_1 b0_2 b0_3 b0_4 b1 => ag (x9, x10, b0_0, b0_1, b0_2, b0_3, b0_4, b1)) x1 x2 x7 x9 x10 b0_0 b0_1 b0_2 b0_3 b0_4 b1 k) (fun x7 x9 b0_0 b0_1 b0_2 b0_3 b0_4 b1 => j18' x7 x9 b0_0 b0_1 b0_2 b0_3 b0_4 b1 k) x1 x2 x7 s.1 s.2.1 s.2.2.1 s.2.2.2.1 s.2.2.2.2.1 s.2.2.2.2.2.1 s.2.2.2.2.2.2.1 s.2.2.2.2.2.2.2 k) n (x9, x10, b0_0, b0_1, b0_2, b0_3, b0_4, b1)
def j3' (x1 : Int) (x2 : Int) (b0_0 : Int) (b0_1 : Int) (b0_2 : (List Int)) (b0_3 : (List Int)) (b0_4 : Int) (k : Bool → Prop) : Prop := j3 (fun x1 x2 x7 x9 x10 b0_0 b0_1 b0_2 b0_3 b0_4 b1 => l7' x1 x2 x7 x9 x10 b0_0 b0_1 b0_2 b0_3 b0_4 b1 k) x1 x2 b0_0 b0_1 b0_2 b0_3 b0_4 k
def j2000002' (x1 : Int) (x2 : Int) (x23 : Bool) (b0_0 : Int) (b0_1 : Int) (b0_2 : (List Int)) (b0_3 : (List Int)) (b0_4 : Int) (k : Bool → Prop) : Prop := j2000002 (fun x1 x2 b0_0 b0_1 b0_2 b0_3 b0_4 => j3' x1 x2 b0_0 b0_1 b0_2 b0_3 b0_4 k) x1 x2 x23 b0_0 b0_1 b0_2 b0_3 b0_4 k
def f0 (x0_0_0 : Int) (x0_0_1 : Int) (x0_1_0 : (List Int)) (x0_1_1 : (List Int)) (x0_2 : Int) (x1 : Int) (x2 : Int) (k : Bool → Prop) : Prop := c (fun x1 x2 x23 b0_0 b0_1 b0_2 b0_3 b0_4 => j2000002' x1 x2 x23 b0_0 b0_1 b0_2 b0_3 b0_4 k) x0_0_0 x0_0_1 x0_1_0 x0_1_1 x0_2 x1 x2 k
theorem f_ex : ∃ g : Int → Int → (List Int) → (List Int) → Int → Int → Int → (Bool → Prop) → Prop, g = f0 := ⟨_, rfl⟩
noncomputable def f : Int → Int → (List Int) → (List Int) → Int → Int → Int → (Bool → Prop) → Prop := Classical.choose f_ex
theorem f_def : f = f0 := Classical.choose_spec f_ex
def m2000002 (x1 : Int) (x2 : Int) (x23 : Bool) (b0_0 : Int) (b0_1 : Int) (b0_2 : (List Int)) (b0_3 : (List Int)) (b0_4 : Int) : St := { tmps := mkT 112 0 [(1, (.v (.int IntKind.i64 x1))), (2, (.v (.int IntKind.i64 x2))), (3, (.ptr 0 0)), (23, (.v (.bool x23)))], hp := [(.box 26 [(.v (.int IntKind.i64 b0_0)), (.v (.int IntKind.i64 b0_1)), (.fz (Ty.int IntKind.i64) b0_2), (.fz (Ty.int IntKind.i64) b0_3), (.v (.int IntKind.i64 b0_4))])], m := 0 }
def m3 (x1 : Int) (x2 : Int) (b0_0 : Int) (b0_1 : Int) (b0_2 : (List Int)) (b0_3 : (List Int)) (b0_4 : Int) : St := { tmps := mkT 112 0 [(1, (.v (.int IntKind.i64 x1))), (2, (.v (.int IntKind.i64 x2))), (3, (.ptr 0 0))], hp := [(.box 26 [(.v (.int IntKind.i64 b0_0)), (.v (.int IntKind.i64 b0_1)), (.fz (Ty.int IntKind.i64) b0_2), (.fz (Ty.int IntKind.i64) b0_3), (.v (.int IntKind.i64 b0_4))])], m := 0 }
def mL7 (x1 : Int) (x2 : Int) (x7 : (List Int)) (x9 : Int) (x10 : Int) (b0_0 : Int) (b0_1 : Int) (b0_2 : (List Int)) (b0_3 : (List Int)) (b0_4 : Int) (b1 : (List (Int × (Int × Int)))) : St := { tmps := mkT 112 0 [(1, (.v (.int IntKind.i64 x1))), (2, (.v (.int IntKind.i64 x2))), (3, (.ptr 0 0)), (7, (.fz (Ty.int IntKind.i64) x7)), (8, (.sl 1 0)), (9, (.v (.int IntKind.i64 x9))), (10, (.v (.int IntKind.i64 x10)))], hp := [(.box 26 [(.v (.int IntKind.i64 b0_0)), (.v (.int IntKind.i64 b0_1)), (.fz (Ty.int IntKind.i64) b0_2), (.fz (Ty.int IntKind.i64) b0_3), (.v (.int IntKind.i64 b0_4))]), (.lst 28 (Ty.pair (Ty.int IntKind.i64) (Ty.pair (Ty.int IntKind.i64) (Ty.int IntKind.i64))) b1 0 false)], m := 0 }
def m9 (x1 : Int) (x2 : Int) (x7 : (List Int)) (x9 : Int) (x10 : Int) (b0_0 : Int) (b0_1 : Int) (b0_2 : (List Int)) (b0_3 : (List Int)) (b0_4 : Int) (b1 : (List (Int × (Int × Int)))) : St := { tmps := mkT 112 0 [(1, (.v (.int IntKind.i64 x1))), (2, (.v (.int IntKind.i64 x2))), (3, (.ptr 0 0)), (7, (.fz (Ty.int IntKind.i64) x7)), (8, (.sl 1 0)), (9, (.v (.int IntKind.i64 x9))), (10, (.v (.int IntKind.i64 x10)))], hp := [(.box 26 [(.v (.int IntKind.i64 b0_0)), (.v (.int IntKind.i64 b0_1)), (.fz (Ty.int IntKind.i64) b0_2), (.fz (Ty.int IntKind.i64) b0_3), (.v (.int IntKind.i64 b0_4))]), (.lst 28 (Ty.pair (Ty.int IntKind.i64) (Ty.pair (Ty.int IntKind.i64) (Ty.int IntKind.i64))) b1 0 false)], m := 0 }
def m18 (x7 : (List Int)) (x9 : Int) (b0_0 : Int) (b0_1 : Int) (b0_2 : (List Int)) (b0_3 : (List Int)) (b0_4 : Int) (b1 : (List (Int × (Int × Int)))) : St := { tmps := mkT 112 0 [(3, (.ptr 0 0)), (7, (.fz (Ty.int IntKind.i64) x7)), (8, (.sl 1 0)), (9, (.v (.int IntKind.i64 x9)))], hp := [(.box 26 [(.v (.int IntKind.i64 b0_0)), (.v (.int IntKind.i64 b0_1)), (.fz (Ty.int IntKind.i64) b0_2), (.fz (Ty.int IntKind.i64) b0_3), (.v (.int IntKind.i64 b0_4))]), (.lst 28 (Ty.pair (Ty.int IntKind.i64) (Ty.pair (Ty.int IntKind.i64) (Ty.int IntKind.i64))) b1 0 false)], m := 0 }
def mL11 (x1 : Int) (x2 : Int) (x7 : (List Int)) (x9 : Int) (x10 : Int) (x11 : Bool) (x12 : Int) (b0_0 : Int) (b0_1 : Int) (b0_2 : (List Int)) (b0_3 : (List Int)) (b0_4 : Int) (b1 : (List (Int × (Int × Int)))) : St := { tmps := mkT 112 0 [(1, (.v (.int IntKind.i64 x1))), (2, (.v (.int IntKind.i64 x2))), (3, (.ptr 0 0)), (7, (.fz (Ty.int IntKind.i64) x7)), (8, (.sl 1 0)), (9, (.v (.int IntKind.i64 x9))), (10, (.v (.int IntKind.i64 x10))), (11, (.v (.bool x11))), (12, (.v (.int IntKind.i64 x12)))], hp := [(.box 26 [(.v (.int IntKind.i64 b0_0)), (.v (.int IntKind.i64 b0_1)), (.fz (Ty.int IntKind.i64) b0_2), (.fz (Ty.int IntKind.i64) b0_3), (.v (.int IntKind.i64 b0_4))]), (.lst 28 (Ty.pair (Ty.int IntKind.i64) (Ty.pair (Ty.int IntKind.i64) (Ty.int IntKind.i64))) b1 0 false)], m := 0 }
def m12 (x1 : Int) (x2 : Int) (x7 : (List Int)) (x9 : Int) (x10 : Int) (x11 : Bool) (x12 : Int) (b0_0 : Int) (b0_1 : Int) (b0_2 : (List Int)) (b0_3 : (List Int)) (b0_4 : Int) (b1 : (List (Int × (Int × Int)))) : St := { tmps := mkT 112 0 [(1, (.v (.int IntKind.i64 x1))), (2, (.v (.int IntKind.i64 x2))), (3, (.ptr 0 0)), (7, (.fz (Ty.int IntKind.i64) x7)), (8, (.sl 1 0)), (9, (.v (.int IntKind.i64 x9))), (10, (.v (.int IntKind.i64 x10))), (11, (.v (.bool x11))), (12, (.v (.int IntKind.i64 x12)))], hp := [(.box 26 [(.v (.int IntKind.i64 b0_0)), (.v (.int IntKind.i64 b0_1)), (.fz (Ty.int IntKind.i64) b0_2), (.fz (Ty.int IntKind.i64) b0_3), (.v (.int IntKind.i64 b0_4))]), (.lst 28 (Ty.pair (Ty.int IntKind.i64) (Ty.pair (Ty.int IntKind.i64) (Ty.int IntKind.i64))) b1 0 false)], m := 0 }
def m14 (x1 : Int) (x2 : Int) (x7 : (List Int)) (x9 : Int) (x10 : Int) (x11 : Bool) (b0_0 : Int) (b0_1 : Int) (b0_2 : (List Int)) (b0_3 : (List Int)) (b0_4 : Int) (b1 : (List (Int × (Int × Int)))) : St := { tmps := mkT 112 0 [(1, (.v (.int IntKind.i64 x1))), (2, (.v (.int IntKind.i64 x2))), (3, (.ptr 0 0)), (7, (.fz (Ty.int IntKind.i64) x7)), (8, (.sl 1 0)), (9, (.v (.int IntKind.i64 x9))), (10, (.v (.int IntKind.i64 x10))), (11, (.v (.bool x11)))], hp := [(.box 26 [(.v (.int IntKind.i64 b0_0)), (.v (.int IntKind.i64 b0_1)), (.fz (Ty.int IntKind.i64) b0_2), (.fz (Ty.int IntKind.i64) b0_3), (.v (.int IntKind.i64 b0_4))]), (.lst 28 (Ty.pair (Ty.int IntKind.i64) (Ty.pair (Ty.int IntKind.i64) (Ty.int IntKind.i64))) b1 0 false)], m := 0 }
def m2000015 (x1 : Int) (x2 : Int) (x7 : (List Int)) (x9 : Int) (x10 : Int) (x11 : Bool) (x86 : Bool) (b0_0 : Int) (b0_1 : Int) (b0_2 : (List Int)) (b0_3 : (List Int)) (b0_4 : Int) (b1 : (List (Int × (Int × Int)))) : St := { tmps := mkT 112 0 [(1, (.v (.int IntKind.i64 x1))), (2, (.v (.int IntKind.i64 x2))), (3, (.ptr 0 0)), (7, (.fz (Ty.int IntKind.i64) x7)), (8, (.sl 1 0)), (9, (.v (.int IntKind.i64 x9))), (10, (.v (.int IntKind.i64 x10))), (11, (.v (.bool x11))), (86, (.v (.bool x86)))], hp := [(.box 26 [(.v (.int IntKind.i64 b0_0)), (.v (.int IntKind.i64 b0_1)), (.fz (Ty.int IntKind.i64) b0_2), (.fz (Ty.int IntKind.i64) b0_3), (.v (.int IntKind.i64 b0_4))]), (.lst 28 (Ty.pair (Ty.int IntKind.i64) (Ty.pair (Ty.int IntKind.i64) (Ty.int IntKind.i64))) b1 0 false)], m := 0 }
def m16 (x1 : Int) (x2 : Int) (x7 : (List Int)) (x9 : Int) (x10 : Int) (x11 : Bool) (b0_0 : Int) (b0_1 : Int) (b0_2 : (List Int)) (b0_3 : (List Int)) (b0_4 : Int) (b1 : (List (Int × (Int × Int)))) : St := { tmps := mkT 112 0 [(1, (.v (.int IntKind.i64 x1))), (2, (.v (.int IntKind.i64 x2))), (3, (.ptr 0 0)), (7, (.fz (Ty.int IntKind.i64) x7)), (8, (.sl 1 0)), (9, (.v (.int IntKind.i64 x9))), (10, (.v (.int IntKind.i64 x10))), (11, (.v (.bool x11)))], hp := [(.box 26 [(.v (.int IntKind.i64 b0_0)), (.v (.int IntKind.i64 b0_1)), (.fz (Ty.int IntKind.i64) b0_2), (.fz (Ty.int IntKind.i64) b0_3), (.v (.int IntKind.i64 b0_4))]), (.lst 28 (Ty.pair (Ty.int IntKind.i64) (Ty.pair (Ty.int IntKind.i64) (Ty.int IntKind.i64))) b1 0 false)], m := 0 }
def m8 (x1 : Int) (x2 : Int) (x7 : (List Int)) (x9 : Int) (x10 : Int) (b0_0 : Int) (b0_1 : Int) (b0_2 : (List Int)) (b0_3 : (List Int)) (b0_4 : Int) (b1 : (List (Int × (Int × Int)))) : St := { tmps := mkT 112 0 [(1, (.v (.int IntKind.i64 x1))), (2, (.v (.int IntKind.i64 x2))), (3, (.ptr 0 0)), (7, (.fz (Ty.int IntKind.i64) x7)), (8, (.sl 1 0)), (9, (.v (.int IntKind.i64 x9))), (10, (.v (.int IntKind.i64 x10)))], hp := [(.box 26 [(.v (.int IntKind.i64 b0_0)), (.v (.int IntKind.i64 b0_1)), (.fz (Ty.int IntKind.i64) b0_2), (.fz (Ty.int IntKind.i64) b0_3), (.v (.int IntKind.i64 b0_4))]), (.lst 28 (Ty.pair (Ty.int IntKind.i64) (Ty.pair (Ty.int IntKind.i64) (Ty.int IntKind.i64))) b1 0 false)], m := 0 }
noncomputable def X2000002 (k kp : D → List Blk → Prop) : St → Prop := atP cfg (pick none' []) [1, 0, 1] body (topK cfg Try.f4 k kp)
noncomputable def X3 (k kp : D → List Blk → Prop) : St → Prop := atP cfg (pick none' []) [1, 1] body (topK cfg Try.f4 k kp)
noncomputable def YL7 (k kp : D → List Blk → Prop) : (St → Prop) → St → Prop := loopB cfg (sub [1, 1, 1, 1, 1, 0, 1, 0, 0] body) (contK cfg (pick none' []) [1, 1, 1, 1, 1, 0, 1, 0] body (topK cfg Try.f4 k kp))
noncomputable def XL7 (k kp : D → List Blk → Prop) : St → Prop := fun st => ∃ n, loopN (YL7 k kp) n st
noncomputable def X9 (k kp : D → List Blk → Prop) (ag7 : St → Prop) : St → Prop := atP cfg (pick none' [(7, ag7)]) [1, 1, 1, 1, 1, 0, 1, 0, 0, 1] body (topK cfg Try.f4 k kp)
noncomputable def X18 (k kp : D → List Blk → Prop) : St → Prop := atP cfg (pick none' []) [1, 1, 1, 1, 1, 1] body (topK cfg Try.f4 k kp)
noncomputable def YL11 (k kp : D → List Blk → Prop) (ag7 : St → Prop) : (St → Prop) → St → Prop := loopB cfg (sub [1, 1, 1, 1, 1, 0, 1, 0, 0, 1, 0, 0, 1, 0, 1, 0, 0] body) (contK cfg (pick none' [(7, ag7)]) [1, 1, 1, 1, 1, 0, 1, 0, 0, 1, 0, 0, 1, 0, 1, 0] body (topK cfg Try.f4 k kp))
noncomputable def XL11 (k kp : D → List Blk → Prop) (ag7 : St → Prop) : St → Prop := fun st => ∃ n, loopN (YL11 k kp ag7) n st
noncomputable def X12 (k kp : D → List Blk → Prop) (ag7 : St → Prop) (ag11 : St → Prop) : St → Prop := atP cfg (pick none' [(7, ag7), (11, ag11)]) [1, 1, 1, 1, 1, 0, 1, 0, 0, 1, 0, 0, 1, 0, 1, 0, 0, 1, 1] body (topK cfg Try.f4 k kp)
noncomputable def X14 (k kp : D → List Blk → Prop) (ag7 : St → Prop) : St → Prop := atP cfg (pick none' [(7, ag7)]) [1, 1, 1, 1, 1, 0, 1, 0, 0, 1, 0, 0, 1, 1] body (topK cfg Try.f4 k kp)
noncomputable def X2000015 (k kp : D → List Blk → Prop) (ag7 : St → Prop) : St → Prop := atP cfg (pick none' [(7, ag7)]) [1, 1, 1, 1, 1, 0, 1, 0, 0, 1, 0, 0, 1, 1, 0, 1] body (topK cfg Try.f4 k kp)
noncomputable def X16 (k kp : D → List Blk → Prop) (ag7 : St → Prop) : St → Prop := atP cfg (pick none' [(7, ag7)]) [1, 1, 1, 1, 1, 0, 1, 0, 0, 1, 0, 0, 1, 1, 1] body (topK cfg Try.f4 k kp)
noncomputable def X8 (k kp : D → List Blk → Prop) (ag7 : St → Prop) : St → Prop := atP cfg (pick none' [(7, ag7)]) [1, 1, 1, 1, 1, 0, 1, 0, 0, 1, 1] body (topK cfg Try.f4 k kp)
noncomputable def JJ (k kp : D → List Blk → Prop) : Nat → St → Prop := pick none' [(2000002, X2000002 k kp), (3, X3 k kp), (18, X18 k kp)]
noncomputable def LL (k kp : D → List Blk → Prop) : Nat → St → Prop := pick none' [(7, XL7 k kp)]
noncomputable def JJ_7 (k kp : D → List Blk → Prop) (ag7 : St → Prop) : Nat → St → Prop := pick none' [(2000002, X2000002 k kp), (3, X3 k kp), (9, X9 k kp ag7), (18, X18 k kp), (14, X14 k kp ag7), (2000015, X2000015 k kp ag7), (16, X16 k kp ag7), (8, X8 k kp ag7)]
noncomputable def LL_7 (k kp : D → List Blk → Prop) (ag7 : St → Prop) : Nat → St → Prop := pick none' [(7, XL7 k kp), (11, XL11 k kp ag7)]
noncomputable def JJ_7_11 (k kp : D → List Blk → Prop) (ag7 : St → Prop) (ag11 : St → Prop) : Nat → St → Prop := pick none' [(2000002, X2000002 k kp), (3, X3 k kp), (9, X9 k kp ag7), (18, X18 k kp), (12, X12 k kp ag7 ag11), (14, X14 k kp ag7), (2000015, X2000015 k kp ag7), (16, X16 k kp ag7), (8, X8 k kp ag7)]
noncomputable def LL_7_11 (k kp : D → List Blk → Prop) (ag7 : St → Prop) (ag11 : St → Prop) : Nat → St → Prop := pick none' [(7, XL7 k kp), (11, XL11 k kp ag7)]
theorem j18_c (k kp : D → List Blk → Prop) (J L : Nat → St → Prop) (x7 : (List Int)) (x9 : Int) (b0_0 : Int) (b0_1 : Int) (b0_2 : (List Int)) (b0_3 : (List Int)) (b0_4 : Int) (b1 : (List (Int × (Int × Int)))) : runC cfg 18 J L (pick none' []) [1, 1, 1, 1, 1, 1] body (topK cfg Try.f4 k kp) (m18 x7 x9 b0_0 b0_1 b0_2 b0_3 b0_4 b1) = j18 x7 x9 b0_0 b0_1 b0_2 b0_3 b0_4 b1 (fun y0 => k (.v (.bool y0)) []) := by kernel_rfl
theorem j18_ag (k kp : D → List Blk → Prop) : agPL cfg 18 (JJ k kp) (LL k kp) [1, 1, 1, 1, 1, 1] body = agPR cfg 18 (pick none' []) [1, 1, 1, 1, 1, 1] body (topK cfg Try.f4 k kp) := by kernel_rfl
theorem j18_raw (k kp : D → List Blk → Prop) (x7 : (List Int)) (x9 : Int) (b0_0 : Int) (b0_1 : Int) (b0_2 : (List Int)) (b0_3 : (List Int)) (b0_4 : Int) (b1 : (List (Int × (Int × Int)))) : X18 k kp (m18 x7 x9 b0_0 b0_1 b0_2 b0_3 b0_4 b1) = j18 x7 x9 b0_0 b0_1 b0_2 b0_3 b0_4 b1 (fun y0 => k (.v (.bool y0)) []) :=
  Eq.mp (by kernel_rfl) ((atP_run (j18_ag k kp) (m18 x7 x9 b0_0 b0_1 b0_2 b0_3 b0_4 b1)).trans (j18_c k kp (JJ k kp) (LL k kp) x7 x9 b0_0 b0_1 b0_2 b0_3 b0_4 b1))
theorem j18_eq (k kp : D → List Blk → Prop) (x7 : (List Int)) (x9 : Int) (b0_0 : Int) (b0_1 : Int) (b0_2 : (List Int)) (b0_3 : (List Int)) (b0_4 : Int) (b1 : (List (Int × (Int × Int)))) : X18 k kp (m18 x7 x9 b0_0 b0_1 b0_2 b0_3 b0_4 b1) = j18' x7 x9 b0_0 b0_1 b0_2 b0_3 b0_4 b1 (fun y0 => k (.v (.bool y0)) []) := by
  rw [j18_raw]; rfl
theorem j12_c (k kp : D → List Blk → Prop) (J L : Nat → St → Prop) (ag7 : St → Prop) (ag11 : St → Prop) (x1 : Int) (x2 : Int) (x7 : (List Int)) (x9 : Int) (x10 : Int) (x11 : Bool) (x12 : Int) (b0_0 : Int) (b0_1 : Int) (b0_2 : (List Int)) (b0_3 : (List Int)) (b0_4 : Int) (b1 : (List (Int × (Int × Int)))) : runC cfg 12 J L (pick none' [(7, ag7), (11, ag11)]) [1, 1, 1, 1, 1, 0, 1, 0, 0, 1, 0, 0, 1, 0, 1, 0, 0, 1, 1] body (topK cfg Try.f4 k kp) (m12 x1 x2 x7 x9 x10 x11 x12 b0_0 b0_1 b0_2 b0_3 b0_4 b1) = j12 (fun x11 x12 b0_0 b0_1 b0_2 b0_3 b0_4 b1 => ag11 (mL11 x1 x2 x7 x9 x10 x11 x12 b0_0 b0_1 b0_2 b0_3 b0_4 b1)) x1 x2 x7 x9 x10 x11 x12 b0_0 b0_1 b0_2 b0_3 b0_4 b1 (fun y0 => k (.v (.bool y0)) []) := by kernel_rfl
theorem j12_ag (k kp : D → List Blk → Prop) (ag7 : St → Prop) (ag11 : St → Prop) : agPL cfg 12 (JJ_7_11 k kp ag7 ag11) (LL_7_11 k kp ag7 ag11) [1, 1, 1, 1, 1, 0, 1, 0, 0, 1, 0, 0, 1, 0, 1, 0, 0, 1, 1] body = agPR cfg 12 (pick none' [(7, ag7), (11, ag11)]) [1, 1, 1, 1, 1, 0, 1, 0, 0, 1, 0, 0, 1, 0, 1, 0, 0, 1, 1] body (topK cfg Try.f4 k kp) := by kernel_rfl
theorem j12_raw (k kp : D → List Blk → Prop) (ag7 : St → Prop) (ag11 : St → Prop) (x1 : Int) (x2 : Int) (x7 : (List Int)) (x9 : Int) (x10 : Int) (x11 : Bool) (x12 : Int) (b0_0 : Int) (b0_1 : Int) (b0_2 : (List Int)) (b0_3 : (List Int)) (b0_4 : Int) (b1 : (List (Int × (Int × Int)))) : X12 k kp ag7 ag11 (m12 x1 x2 x7 x9 x10 x11 x12 b0_0 b0_1 b0_2 b0_3 b0_4 b1) = j12 (fun x11 x12 b0_0 b0_1 b0_2 b0_3 b0_4 b1 => ag11 (mL11 x1 x2 x7 x9 x10 x11 x12 b0_0 b0_1 b0_2 b0_3 b0_4 b1)) x1 x2 x7 x9 x10 x11 x12 b0_0 b0_1 b0_2 b0_3 b0_4 b1 (fun y0 => k (.v (.bool y0)) []) :=
  Eq.mp (by kernel_rfl) ((atP_run (j12_ag k kp ag7 ag11) (m12 x1 x2 x7 x9 x10 x11 x12 b0_0 b0_1 b0_2 b0_3 b0_4 b1)).trans (j12_c k kp (JJ_7_11 k kp ag7 ag11) (LL_7_11 k kp ag7 ag11) ag7 ag11 x1 x2 x7 x9 x10 x11 x12 b0_0 b0_1 b0_2 b0_3 b0_4 b1))
theorem j12_eq (k kp : D → List Blk → Prop) (ag7 : St → Prop) (ag11 : St → Prop) (x1 : Int) (x2 : Int) (x7 : (List Int)) (x9 : Int) (x10 : Int) (x11 : Bool) (x12 : Int) (b0_0 : Int) (b0_1 : Int) (b0_2 : (List Int)) (b0_3 : (List Int)) (b0_4 : Int) (b1 : (List (Int × (Int × Int)))) : X12 k kp ag7 ag11 (m12 x1 x2 x7 x9 x10 x11 x12 b0_0 b0_1 b0_2 b0_3 b0_4 b1) = j12' (fun x11 x12 b0_0 b0_1 b0_2 b0_3 b0_4 b1 => ag11 (mL11 x1 x2 x7 x9 x10 x11 x12 b0_0 b0_1 b0_2 b0_3 b0_4 b1)) x1 x2 x7 x9 x10 x11 x12 b0_0 b0_1 b0_2 b0_3 b0_4 b1 (fun y0 => k (.v (.bool y0)) []) := by
  rw [j12_raw]; rfl
theorem j8_c (k kp : D → List Blk → Prop) (J L : Nat → St → Prop) (ag7 : St → Prop) (x1 : Int) (x2 : Int) (x7 : (List Int)) (x9 : Int) (x10 : Int) (b0_0 : Int) (b0_1 : Int) (b0_2 : (List Int)) (b0_3 : (List Int)) (b0_4 : Int) (b1 : (List (Int × (Int × Int)))) : runC cfg 8 J L (pick none' [(7, ag7)]) [1, 1, 1, 1, 1, 0, 1, 0, 0, 1, 1] body (topK cfg Try.f4 k kp) (m8 x1 x2 x7 x9 x10 b0_0 b0_1 b0_2 b0_3 b0_4 b1) = j8 (fun x9 x10 b0_0 b0_1 b0_2 b0_3 b0_4 b1 => ag7 (mL7 x1 x2 x7 x9 x10 b0_0 b0_1 b0_2 b0_3 b0_4 b1)) x1 x2 x7 x9 x10 b0_0 b0_1 b0_2 b0_3 b0_4 b1 (fun y0 => k (.v (.bool y0)) []) := by kernel_rfl
theorem j8_ag (k kp : D → List Blk → Prop) (ag7 : St → Prop) : agPL cfg 8 (JJ_7 k kp ag7) (LL_7 k kp ag7) [1, 1, 1, 1, 1, 0, 1, 0, 0, 1, 1] body = agPR cfg 8 (pick none' [(7, ag7)]) [1, 1, 1, 1, 1, 0, 1, 0, 0, 1, 1] body (topK cfg Try.f4 k kp) := by kernel_rfl
theorem j8_raw (k kp : D → List Blk → Prop) (ag7 : St → Prop) (x1 : Int) (x2 : Int) (x7 : (List Int)) (x9 : Int) (x10 : Int) (b0_0 : Int) (b0_1 : Int) (b0_2 : (List Int)) (b0_3 : (List Int)) (b0_4 : Int) (b1 : (List (Int × (Int × Int)))) : X8 k kp ag7 (m8 x1 x2 x7 x9 x10 b0_0 b0_1 b0_2 b0_3 b0_4 b1) = j8 (fun x9 x10 b0_0 b0_1 b0_2 b0_3 b0_4 b1 => ag7 (mL7 x1 x2 x7 x9 x10 b0_0 b0_1 b0_2 b0_3 b0_4 b1)) x1 x2 x7 x9 x10 b0_0 b0_1 b0_2 b0_3 b0_4 b1 (fun y0 => k (.v (.bool y0)) []) :=
  Eq.mp (by kernel_rfl) ((atP_run (j8_ag k kp ag7) (m8 x1 x2 x7 x9 x10 b0_0 b0_1 b0_2 b0_3 b0_4 b1)).trans (j8_c k kp (JJ_7 k kp ag7) (LL_7 k kp ag7) ag7 x1 x2 x7 x9 x10 b0_0 b0_1 b0_2 b0_3 b0_4 b1))
theorem j8_eq (k kp : D → List Blk → Prop) (ag7 : St → Prop) (x1 : Int) (x2 : Int) (x7 : (List Int)) (x9 : Int) (x10 : Int) (b0_0 : Int) (b0_1 : Int) (b0_2 : (List Int)) (b0_3 : (List Int)) (b0_4 : Int) (b1 : (List (Int × (Int × Int)))) : X8 k kp ag7 (m8 x1 x2 x7 x9 x10 b0_0 b0_1 b0_2 b0_3 b0_4 b1) = j8' (fun x9 x10 b0_0 b0_1 b0_2 b0_3 b0_4 b1 => ag7 (mL7 x1 x2 x7 x9 x10 b0_0 b0_1 b0_2 b0_3 b0_4 b1)) x1 x2 x7 x9 x10 b0_0 b0_1 b0_2 b0_3 b0_4 b1 (fun y0 => k (.v (.bool y0)) []) := by
  rw [j8_raw]; rfl
theorem j16_c (k kp : D → List Blk → Prop) (J L : Nat → St → Prop) (ag7 : St → Prop) (x1 : Int) (x2 : Int) (x7 : (List Int)) (x9 : Int) (x10 : Int) (x11 : Bool) (b0_0 : Int) (b0_1 : Int) (b0_2 : (List Int)) (b0_3 : (List Int)) (b0_4 : Int) (b1 : (List (Int × (Int × Int)))) : runC cfg 16 J L (pick none' [(7, ag7)]) [1, 1, 1, 1, 1, 0, 1, 0, 0, 1, 0, 0, 1, 1, 1] body (topK cfg Try.f4 k kp) (m16 x1 x2 x7 x9 x10 x11 b0_0 b0_1 b0_2 b0_3 b0_4 b1) = j16 (fun x1 x2 x7 x9 x10 b0_0 b0_1 b0_2 b0_3 b0_4 b1 => J 8 (m8 x1 x2 x7 x9 x10 b0_0 b0_1 b0_2 b0_3 b0_4 b1)) x1 x2 x7 x9 x10 x11 b0_0 b0_1 b0_2 b0_3 b0_4 b1 (fun y0 => k (.v (.bool y0)) []) := by kernel_rfl
theorem j16_ag (k kp : D → List Blk → Prop) (ag7 : St → Prop) : agPL cfg 16 (JJ_7 k kp ag7) (LL_7 k kp ag7) [1, 1, 1, 1, 1, 0, 1, 0, 0, 1, 0, 0, 1, 1, 1] body = agPR cfg 16 (pick none' [(7, ag7)]) [1, 1, 1, 1, 1, 0, 1, 0, 0, 1, 0, 0, 1, 1, 1] body (topK cfg Try.f4 k kp) := by kernel_rfl
theorem j16_raw (k kp : D → List Blk → Prop) (ag7 : St → Prop) (x1 : Int) (x2 : Int) (x7 : (List Int)) (x9 : Int) (x10 : Int) (x11 : Bool) (b0_0 : Int) (b0_1 : Int) (b0_2 : (List Int)) (b0_3 : (List Int)) (b0_4 : Int) (b1 : (List (Int × (Int × Int)))) : X16 k kp ag7 (m16 x1 x2 x7 x9 x10 x11 b0_0 b0_1 b0_2 b0_3 b0_4 b1) = j16 (fun x1 x2 x7 x9 x10 b0_0 b0_1 b0_2 b0_3 b0_4 b1 => X8 k kp ag7 (m8 x1 x2 x7 x9 x10 b0_0 b0_1 b0_2 b0_3 b0_4 b1)) x1 x2 x7 x9 x10 x11 b0_0 b0_1 b0_2 b0_3 b0_4 b1 (fun y0 => k (.v (.bool y0)) []) :=
  Eq.mp (by kernel_rfl) ((atP_run (j16_ag k kp ag7) (m16 x1 x2 x7 x9 x10 x11 b0_0 b0_1 b0_2 b0_3 b0_4 b1)).trans (j16_c k kp (JJ_7 k kp ag7) (LL_7 k kp ag7) ag7 x1 x2 x7 x9 x10 x11 b0_0 b0_1 b0_2 b0_3 b0_4 b1))
theorem j16_eq (k kp : D → List Blk → Prop) (ag7 : St → Prop) (x1 : Int) (x2 : Int) (x7 : (List Int)) (x9 : Int) (x10 : Int) (x11 : Bool) (b0_0 : Int) (b0_1 : Int) (b0_2 : (List Int)) (b0_3 : (List Int)) (b0_4 : Int) (b1 : (List (Int × (Int × Int)))) : X16 k kp ag7 (m16 x1 x2 x7 x9 x10 x11 b0_0 b0_1 b0_2 b0_3 b0_4 b1) = j16' (fun x9 x10 b0_0 b0_1 b0_2 b0_3 b0_4 b1 => ag7 (mL7 x1 x2 x7 x9 x10 b0_0 b0_1 b0_2 b0_3 b0_4 b1)) x1 x2 x7 x9 x10 x11 b0_0 b0_1 b0_2 b0_3 b0_4 b1 (fun y0 => k (.v (.bool y0)) []) := by
  rw [j16_raw]; simp only [j8_eq]; first | done | rfl
theorem j2000015_c (k kp : D → List Blk → Prop) (J L : Nat → St → Prop) (ag7 : St → Prop) (x1 : Int) (x2 : Int) (x7 : (List Int)) (x9 : Int) (x10 : Int) (x11 : Bool) (x86 : Bool) (b0_0 : Int) (b0_1 : Int) (b0_2 : (List Int)) (b0_3 : (List Int)) (b0_4 : Int) (b1 : (List (Int × (Int × Int)))) : runC cfg 2000015 J L (pick none' [(7, ag7)]) [1, 1, 1, 1, 1, 0, 1, 0, 0, 1, 0, 0, 1, 1, 0, 1] body (topK cfg Try.f4 k kp) (m2000015 x1 x2 x7 x9 x10 x11 x86 b0_0 b0_1 b0_2 b0_3 b0_4 b1) = j2000015 (fun x1 x2 x7 x9 x10 x11 b0_0 b0_1 b0_2 b0_3 b0_4 b1 => J 16 (m16 x1 x2 x7 x9 x10 x11 b0_0 b0_1 b0_2 b0_3 b0_4 b1)) x1 x2 x7 x9 x10 x11 x86 b0_0 b0_1 b0_2 b0_3 b0_4 b1 (fun y0 => k (.v (.bool y0)) []) := by kernel_rfl
theorem j2000015_ag (k kp : D → List Blk → Prop) (ag7 : St → Prop) : agPL cfg 2000015 (JJ_7 k kp ag7) (LL_7 k kp ag7) [1, 1, 1, 1, 1, 0, 1, 0, 0, 1, 0, 0, 1, 1, 0, 1] body = agPR cfg 2000015 (pick none' [(7, ag7)]) [1, 1, 1, 1, 1, 0, 1, 0, 0, 1, 0, 0, 1, 1, 0, 1] body (topK cfg Try.f4 k kp) := by kernel_rfl
theorem j2000015_raw (k kp : D → List Blk → Prop) (ag7 : St → Prop) (x1 : Int) (x2 : Int) (x7 : (List Int)) (x9 : Int) (x10 : Int) (x11 : Bool) (x86 : Bool) (b0_0 : Int) (b0_1 : Int) (b0_2 : (List Int)) (b0_3 : (List Int)) (b0_4 : Int) (b1 : (List (Int × (Int × Int)))) : X2000015 k kp ag7 (m2000015 x1 x2 x7 x9 x10 x11 x86 b0_0 b0_1 b0_2 b0_3 b0_4 b1) = j2000015 (fun x1 x2 x7 x9 x10 x11 b0_0 b0_1 b0_2 b0_3 b0_4 b1 => X16 k kp ag7 (m16 x1 x2 x7 x9 x10 x11 b0_0 b0_1 b0_2 b0_3 b0_4 b1)) x1 x2 x7 x9 x10 x11 x86 b0_0 b0_1 b0_2 b0_3 b0_4 b1 (fun y0 => k (.v (.bool y0)) []) :=
  Eq.mp (by kernel_rfl) ((atP_run (j2000015_ag k kp ag7) (m2000015 x1 x2 x7 x9 x10 x11 x86 b0_0 b0_1 b0_2 b0_3 b0_4 b1)).trans (j2000015_c k kp (JJ_7 k kp ag7) (LL_7 k kp ag7) ag7 x1 x2 x7 x9 x10 x11 x86 b0_0 b0_1 b0_2 b0_3 b0_4 b1))
theorem j2000015_eq (k kp : D → List Blk → Prop) (ag7 : St → Prop) (x1 : Int) (x2 : Int) (x7 : (List Int)) (x9 : Int) (x10 : Int) (x11 : Bool) (x86 : Bool) (b0_0 : Int) (b0_1 : Int) (b0_2 : (List Int)) (b0_3 : (List Int)) (b0_4 : Int) (b1 : (List (Int × (Int × Int)))) : X2000015 k kp ag7 (m2000015 x1 x2 x7 x9 x10 x11 x86 b0_0 b0_1 b0_2 b0_3 b0_4 b1) = j2000015' (fun x9 x10 b0_0 b0_1 b0_2 b0_3 b0_4 b1 => ag7 (mL7 x1 x2 x7 x9 x10 b0_0 b0_1 b0_2 b0_3 b0_4 b1)) x1 x2 x7 x9 x10 x11 x86 b0_0 b0_1 b0_2 b0_3 b0_4 b1 (fun y0 => k (.v (.bool y0)) []) := by
  rw [j2000015_raw]; simp only [j16_eq]; first | done | rfl
theorem j14_c (k kp : D → List Blk → Prop) (J L : Nat → St → Prop) (ag7 : St → Prop) (x1 : Int) (x2 : Int) (x7 : (List Int)) (x9 : Int) (x10 : Int) (x11 : Bool) (b0_0 : Int) (b0_1 : Int) (b0_2 : (List Int)) (b0_3 : (List Int)) (b0_4 : Int) (b1 : (List (Int × (Int × Int)))) : runC cfg 14 J L (pick none' [(7, ag7)]) [1, 1, 1, 1, 1, 0, 1, 0, 0, 1, 0, 0, 1, 1] body (topK cfg Try.f4 k kp) (m14 x1 x2 x7 x9 x10 x11 b0_0 b0_1 b0_2 b0_3 b0_4 b1) = j14 (fun x1 x2 x7 x9 x10 x11 x86 b0_0 b0_1 b0_2 b0_3 b0_4 b1 => J 2000015 (m2000015 x1 x2 x7 x9 x10 x11 x86 b0_0 b0_1 b0_2 b0_3 b0_4 b1)) x1 x2 x7 x9 x10 x11 b0_0 b0_1 b0_2 b0_3 b0_4 b1 (fun y0 => k (.v (.bool y0)) []) := by kernel_rfl
theorem j14_ag (k kp : D → List Blk → Prop) (ag7 : St → Prop) : agPL cfg 14 (JJ_7 k kp ag7) (LL_7 k kp ag7) [1, 1, 1, 1, 1, 0, 1, 0, 0, 1, 0, 0, 1, 1] body = agPR cfg 14 (pick none' [(7, ag7)]) [1, 1, 1, 1, 1, 0, 1, 0, 0, 1, 0, 0, 1, 1] body (topK cfg Try.f4 k kp) := by kernel_rfl
theorem j14_raw (k kp : D → List Blk → Prop) (ag7 : St → Prop) (x1 : Int) (x2 : Int) (x7 : (List Int)) (x9 : Int) (x10 : Int) (x11 : Bool) (b0_0 : Int) (b0_1 : Int) (b0_2 : (List Int)) (b0_3 : (List Int)) (b0_4 : Int) (b1 : (List (Int × (Int × Int)))) : X14 k kp ag7 (m14 x1 x2 x7 x9 x10 x11 b0_0 b0_1 b0_2 b0_3 b0_4 b1) = j14 (fun x1 x2 x7 x9 x10 x11 x86 b0_0 b0_1 b0_2 b0_3 b0_4 b1 => X2000015 k kp ag7 (m2000015 x1 x2 x7 x9 x10 x11 x86 b0_0 b0_1 b0_2 b0_3 b0_4 b1)) x1 x2 x7 x9 x10 x11 b0_0 b0_1 b0_2 b0_3 b0_4 b1 (fun y0 => k (.v (.bool y0)) []) :=
  Eq.mp (by kernel_rfl) ((atP_run (j14_ag k kp ag7) (m14 x1 x2 x7 x9 x10 x11 b0_0 b0_1 b0_2 b0_3 b0_4 b1)).trans (j14_c k kp (JJ_7 k kp ag7) (LL_7 k kp ag7) ag7 x1 x2 x7 x9 x10 x11 b0_0 b0_1 b0_2 b0_3 b0_4 b1))
theorem j14_eq (k kp : D → List Blk → Prop) (ag7 : St → Prop) (x1 : Int) (x2 : Int) (x7 : (List Int)) (x9 : Int) (x10 : Int) (x11 : Bool) (b0_0 : Int) (b0_1 : Int) (b0_2 : (List Int)) (b0_3 : (List Int)) (b0_4 : Int) (b1 : (List (Int × (Int × Int)))) : X14 k kp ag7 (m14 x1 x2 x7 x9 x10 x11 b0_0 b0_1 b0_2 b0_3 b0_4 b1) = j14' (fun x9 x10 b0_0 b0_1 b0_2 b0_3 b0_4 b1 => ag7 (mL7 x1 x2 x7 x9 x10 b0_0 b0_1 b0_2 b0_3 b0_4 b1)) x1 x2 x7 x9 x10 x11 b0_0 b0_1 b0_2 b0_3 b0_4 b1 (fun y0 => k (.v (.bool y0)) []) := by
  rw [j14_raw]; simp only [j2000015_eq]; first | done | rfl
theorem l11_c (k kp : D → List Blk → Prop) (J L : Nat → St → Prop) (ag7 : St → Prop) (ag11 : St → Prop) (x1 : Int) (x2 : Int) (x7 : (List Int)) (x9 : Int) (x10 : Int) (x11 : Bool) (x12 : Int) (b0_0 : Int) (b0_1 : Int) (b0_2 : (List Int)) (b0_3 : (List Int)) (b0_4 : Int) (b1 : (List (Int × (Int × Int)))) : runC cfg 1000001 J L (pick none' [(7, ag7), (11, ag11)]) [1, 1, 1, 1, 1, 0, 1, 0, 0, 1, 0, 0, 1, 0, 1, 0, 0] body (topK cfg Try.f4 k kp) (mL11 x1 x2 x7 x9 x10 x11 x12 b0_0 b0_1 b0_2 b0_3 b0_4 b1) = l11 (fun x1 x2 x7 x9 x10 x11 x12 b0_0 b0_1 b0_2 b0_3 b0_4 b1 => J 12 (m12 x1 x2 x7 x9 x10 x11 x12 b0_0 b0_1 b0_2 b0_3 b0_4 b1)) (fun x1 x2 x7 x9 x10 x11 b0_0 b0_1 b0_2 b0_3 b0_4 b1 => J 14 (m14 x1 x2 x7 x9 x10 x11 b0_0 b0_1 b0_2 b0_3 b0_4 b1)) x1 x2 x7 x9 x10 x11 x12 b0_0 b0_1 b0_2 b0_3 b0_4 b1 (fun y0 => k (.v (.bool y0)) []) := by kernel_rfl
theorem l11_ag (k kp : D → List Blk → Prop) (ag7 : St → Prop) (ag11 : St → Prop) : agPL cfg 1000001 (JJ_7_11 k kp ag7 ag11) (LL_7_11 k kp ag7 ag11) [1, 1, 1, 1, 1, 0, 1, 0, 0, 1, 0, 0, 1, 0, 1, 0, 0] body = agPR cfg 1000001 (pick none' [(7, ag7), (11, ag11)]) [1, 1, 1, 1, 1, 0, 1, 0, 0, 1, 0, 0, 1, 0, 1, 0, 0] body (topK cfg Try.f4 k kp) := by kernel_rfl
theorem l11_raw (k kp : D → List Blk → Prop) (ag7 : St → Prop) (ag11 : St → Prop) (x1 : Int) (x2 : Int) (x7 : (List Int)) (x9 : Int) (x10 : Int) (x11 : Bool) (x12 : Int) (b0_0 : Int) (b0_1 : Int) (b0_2 : (List Int)) (b0_3 : (List Int)) (b0_4 : Int) (b1 : (List (Int × (Int × Int)))) : YL11 k kp ag7 ag11 (mL11 x1 x2 x7 x9 x10 x11 x12 b0_0 b0_1 b0_2 b0_3 b0_4 b1) = l11 (fun x1 x2 x7 x9 x10 x11 x12 b0_0 b0_1 b0_2 b0_3 b0_4 b1 => X12 k kp ag7 ag11 (m12 x1 x2 x7 x9 x10 x11 x12 b0_0 b0_1 b0_2 b0_3 b0_4 b1)) (fun x1 x2 x7 x9 x10 x11 b0_0 b0_1 b0_2 b0_3 b0_4 b1 => X14 k kp ag7 (m14 x1 x2 x7 x9 x10 x11 b0_0 b0_1 b0_2 b0_3 b0_4 b1)) x1 x2 x7 x9 x10 x11 x12 b0_0 b0_1 b0_2 b0_3 b0_4 b1 (fun y0 => k (.v (.bool y0)) []) :=
  Eq.mp (by kernel_rfl) ((atP_run (l11_ag k kp ag7 ag11) (mL11 x1 x2 x7 x9 x10 x11 x12 b0_0 b0_1 b0_2 b0_3 b0_4 b1)).trans (l11_c k kp (JJ_7_11 k kp ag7 ag11) (LL_7_11 k kp ag7 ag11) ag7 ag11 x1 x2 x7 x9 x10 x11 x12 b0_0 b0_1 b0_2 b0_3 b0_4 b1))
theorem l11_eq (k kp : D → List Blk → Prop) (ag7 : St → Prop) (x1 : Int) (x2 : Int) (x7 : (List Int)) (x9 : Int) (x10 : Int) (x11 : Bool) (x12 : Int) (b0_0 : Int) (b0_1 : Int) (b0_2 : (List Int)) (b0_3 : (List Int)) (b0_4 : Int) (b1 : (List (Int × (Int × Int)))) : XL11 k kp ag7 (mL11 x1 x2 x7 x9 x10 x11 x12 b0_0 b0_1 b0_2 b0_3 b0_4 b1) = l11' (fun x9 x10 b0_0 b0_1 b0_2 b0_3 b0_4 b1 => ag7 (mL7 x1 x2 x7 x9 x10 b0_0 b0_1 b0_2 b0_3 b0_4 b1)) x1 x2 x7 x9 x10 x11 x12 b0_0 b0_1 b0_2 b0_3 b0_4 b1 (fun y0 => k (.v (.bool y0)) []) :=
  loop_eq (mk := fun (s : Bool × Int × Int × Int × (List Int) × (List Int) × Int × (List (Int × (Int × Int)))) => mL11 x1 x2 x7 x9 x10 s.1 s.2.1 s.2.2.1 s.2.2.2.1 s.2.2.2.2.1 s.2.2.2.2.2.1 s.2.2.2.2.2.2.1 s.2.2.2.2.2.2.2) (fun again s => by rw [l11_raw k kp ag7 again x1 x2 x7 x9 x10 s.1 s.2.1 s.2.2.1 s.2.2.2.1 s.2.2.2.2.1 s.2.2.2.2.2.1 s.2.2.2.2.2.2.1 s.2.2.2.2.2.2.2]; simp only [j12_eq, j14_eq]; first | done | rfl) (x11, x12, b0_0, b0_1, b0_2, b0_3, b0_4, b1)
theorem j9_c (k kp : D → List Blk → Prop) (J L : Nat → St → Prop) (ag7 : St → Prop) (x1 : Int) (x2 : Int) (x7 : (List Int)) (x9 : Int) (x10 : Int) (b0_0 : Int) (b0_1 : Int) (b0_2 : (List Int)) (b0_3 : (List Int)) (b0_4 : Int) (b1 : (List (Int × (Int × Int)))) : runC cfg 9 J L (pick none' [(7, ag7)]) [1, 1, 1, 1, 1, 0, 1, 0, 0, 1] body (topK cfg Try.f4 k kp) (m9 x1 x2 x7 x9 x10 b0_0 b0_1 b0_2 b0_3 b0_4 b1) = j9 (fun x1 x2 x7 x9 x10 x11 x12 b0_0 b0_1 b0_2 b0_3 b0_4 b1 => L 11 (mL11 x1 x2 x7 x9 x10 x11 x12 b0_0 b0_1 b0_2 b0_3 b0_4 b1)) x1 x2 x7 x9 x10 b0_0 b0_1 b0_2 b0_3 b0_4 b1 (fun y0 => k (.v (.bool y0)) []) := by kernel_rfl
theorem j9_ag (k kp : D → List Blk → Prop) (ag7 : St → Prop) : agPL cfg 9 (JJ_7 k kp ag7) (LL_7 k kp ag7) [1, 1, 1, 1, 1, 0, 1, 0, 0, 1] body = agPR cfg 9 (pick none' [(7, ag7)]) [1, 1, 1, 1, 1, 0, 1, 0, 0, 1] body (topK cfg Try.f4 k kp) := by kernel_rfl
theorem j9_raw (k kp : D → List Blk → Prop) (ag7 : St → Prop) (x1 : Int) (x2 : Int) (x7 : (List Int)) (x9 : Int) (x10 : Int) (b0_0 : Int) (b0_1 : Int) (b0_2 : (List Int)) (b0_3 : (List Int)) (b0_4 : Int) (b1 : (List (Int × (Int × Int)))) : X9 k kp ag7 (m9 x1 x2 x7 x9 x10 b0_0 b0_1 b0_2 b0_3 b0_4 b1) = j9 (fun x1 x2 x7 x9 x10 x11 x12 b0_0 b0_1 b0_2 b0_3 b0_4 b1 => XL11 k kp ag7 (mL11 x1 x2 x7 x9 x10 x11 x12 b0_0 b0_1 b0_2 b0_3 b0_4 b1)) x1 x2 x7 x9 x10 b0_0 b0_1 b0_2 b0_3 b0_4 b1 (fun y0 => k (.v (.bool y0)) []) :=
  Eq.mp (by kernel_rfl) ((atP_run (j9_ag k kp ag7) (m9 x1 x2 x7 x9 x10 b0_0 b0_1 b0_2 b0_3 b0_4 b1)).trans (j9_c k kp (JJ_7 k kp ag7) (LL_7 k kp ag7) ag7 x1 x2 x7 x9 x10 b0_0 b0_1 b0_2 b0_3 b0_4 b1))
theorem j9_eq (k kp : D → List Blk → Prop) (ag7 : St → Prop) (x1 : Int) (x2 : Int) (x7 : (List Int)) (x9 : Int) (x10 : Int) (b0_0 : Int) (b0_1 : Int) (b0_2 : (List Int)) (b0_3 : (List Int)) (b0_4 : Int) (b1 : (List (Int × (Int × Int)))) : X9 k kp ag7 (m9 x1 x2 x7 x9 x10 b0_0 b0_1 b0_2 b0_3 b0_4 b1) = j9' (fun x9 x10 b0_0 b0_1 b0_2 b0_3 b0_4 b1 => ag7 (mL7 x1 x2 x7 x9 x10 b0_0 b0_1 b0_2 b0_3 b0_4 b1)) x1 x2 x7 x9 x10 b0_0 b0_1 b0_2 b0_3 b0_4 b1 (fun y0 => k (.v (.bool y0)) []) := by
  rw [j9_raw]; simp only [l11_eq]; first | done | rfl
theorem l7_c (k kp : D → List Blk → Prop) (J L : Nat → St → Prop) (ag7 : St → Prop) (x1 : Int) (x2 : Int) (x7 : (List Int)) (x9 : Int) (x10 : Int) (b0_0 : Int) (b0_1 : Int) (b0_2 : (List Int)) (b0_3 : (List Int)) (b0_4 : Int) (b1 : (List (Int × (Int × Int)))) : runC cfg 1000001 J L (pick none' [(7, ag7)]) [1, 1, 1, 1, 1, 0, 1, 0, 0] body (topK cfg Try.f4 k kp) (mL7 x1 x2 x7 x9 x10 b0_0 b0_1 b0_2 b0_3 b0_4 b1) = l7 (fun x1 x2 x7 x9 x10 b0_0 b0_1 b0_2 b0_3 b0_4 b1 => J 9 (m9 x1 x2 x7 x9 x10 b0_0 b0_1 b0_2 b0_3 b0_4 b1)) (fun x7 x9 b0_0 b0_1 b0_2 b0_3 b0_4 b1 => J 18 (m18 x7 x9 b0_0 b0_1 b0_2 b0_3 b0_4 b1)) x1 x2 x7 x9 x10 b0_0 b0_1 b0_2 b0_3 b0_4 b1 (fun y0 => k (.v (.bool y0)) []) := by kernel_rfl
theorem l7_ag (k kp : D → List Blk → Prop) (ag7 : St → Prop) : agPL cfg 1000001 (JJ_7 k kp ag7) (LL_7 k kp ag7) [1, 1, 1, 1, 1, 0, 1, 0, 0] body = agPR cfg 1000001 (pick none' [(7, ag7)]) [1, 1, 1, 1, 1, 0, 1, 0, 0] body (topK cfg Try.f4 k kp) := by kernel_rfl
theorem l7_raw (k kp : D → List Blk → Prop) (ag7 : St → Prop) (x1 : Int) (x2 : Int) (x7 : (List Int)) (x9 : Int) (x10 : Int) (b0_0 : Int) (b0_1 : Int) (b0_2 : (List Int)) (b0_3 : (List Int)) (b0_4 : Int) (b1 : (List (Int × (Int × Int)))) : YL7 k kp ag7 (mL7 x1 x2 x7 x9 x10 b0_0 b0_1 b0_2 b0_3 b0_4 b1) = l7 (fun x1 x2 x7 x9 x10 b0_0 b0_1 b0_2 b0_3 b0_4 b1 => X9 k kp ag7 (m9 x1 x2 x7 x9 x10 b0_0 b0_1 b0_2 b0_3 b0_4 b1)) (fun x7 x9 b0_0 b0_1 b0_2 b0_3 b0_4 b1 => X18 k kp (m18 x7 x9 b0_0 b0_1 b0_2 b0_3 b0_4 b1)) x1 x2 x7 x9 x10 b0_0 b0_1 b0_2 b0_3 b0_4 b1 (fun y0 => k (.v (.bool y0)) []) :=
  Eq.mp (by kernel_rfl) ((atP_run (l7_ag k kp ag7) (mL7 x1 x2 x7 x9 x10 b0_0 b0_1 b0_2 b0_3 b0_4 b1)).trans (l7_c k kp (JJ_7 k kp ag7) (LL_7 k kp ag7) ag7 x1 x2 x7 x9 x10 b0_0 b0_1 b0_2 b0_3 b0_4 b1))
theorem l7_eq (k kp : D → List Blk → Prop) (x1 : Int) (x2 : Int) (x7 : (List Int)) (x9 : Int) (x10 : Int) (b0_0 : Int) (b0_1 : Int) (b0_2 : (List Int)) (b0_3 : (List Int)) (b0_4 : Int) (b1 : (List (Int × (Int × Int)))) : XL7 k kp (mL7 x1 x2 x7 x9 x10 b0_0 b0_1 b0_2 b0_3 b0_4 b1) = l7' x1 x2 x7 x9 x10 b0_0 b0_1 b0_2 b0_3 b0_4 b1 (fun y0 => k (.v (.bool y0)) []) :=
  loop_eq (mk := fun (s : Int × Int × Int × Int × (List Int) × (List Int) × Int × (List (Int × (Int × Int)))) => mL7 x1 x2 x7 s.1 s.2.1 s.2.2.1 s.2.2.2.1 s.2.2.2.2.1 s.2.2.2.2.2.1 s.2.2.2.2.2.2.1 s.2.2.2.2.2.2.2) (fun again s => by rw [l7_raw k kp again x1 x2 x7 s.1 s.2.1 s.2.2.1 s.2.2.2.1 s.2.2.2.2.1 s.2.2.2.2.2.1 s.2.2.2.2.2.2.1 s.2.2.2.2.2.2.2]; simp only [j9_eq, j18_eq]; first | done | rfl) (x9, x10, b0_0, b0_1, b0_2, b0_3, b0_4, b1)
theorem j3_c (k kp : D → List Blk → Prop) (J L : Nat → St → Prop) (x1 : Int) (x2 : Int) (b0_0 : Int) (b0_1 : Int) (b0_2 : (List Int)) (b0_3 : (List Int)) (b0_4 : Int) : runC cfg 3 J L (pick none' []) [1, 1] body (topK cfg Try.f4 k kp) (m3 x1 x2 b0_0 b0_1 b0_2 b0_3 b0_4) = j3 (fun x1 x2 x7 x9 x10 b0_0 b0_1 b0_2 b0_3 b0_4 b1 => L 7 (mL7 x1 x2 x7 x9 x10 b0_0 b0_1 b0_2 b0_3 b0_4 b1)) x1 x2 b0_0 b0_1 b0_2 b0_3 b0_4 (fun y0 => k (.v (.bool y0)) []) := by kernel_rfl
theorem j3_ag (k kp : D → List Blk → Prop) : agPL cfg 3 (JJ k kp) (LL k kp) [1, 1] body = agPR cfg 3 (pick none' []) [1, 1] body (topK cfg Try.f4 k kp) := by kernel_rfl
theorem j3_raw (k kp : D → List Blk → Prop) (x1 : Int) (x2 : Int) (b0_0 : Int) (b0_1 : Int) (b0_2 : (List Int)) (b0_3 : (List Int)) (b0_4 : Int) : X3 k kp (m3 x1 x2 b0_0 b0_1 b0_2 b0_3 b0_4) = j3 (fun x1 x2 x7 x9 x10 b0_0 b0_1 b0_2 b0_3 b0_4 b1 => XL7 k kp (mL7 x1 x2 x7 x9 x10 b0_0 b0_1 b0_2 b0_3 b0_4 b1)) x1 x2 b0_0 b0_1 b0_2 b0_3 b0_4 (fun y0 => k (.v (.bool y0)) []) :=
  Eq.mp (by kernel_rfl) ((atP_run (j3_ag k kp) (m3 x1 x2 b0_0 b0_1 b0_2 b0_3 b0_4)).trans (j3_c k kp (JJ k kp) (LL k kp) x1 x2 b0_0 b0_1 b0_2 b0_3 b0_4))
theorem j3_eq (k kp : D → List Blk → Prop) (x1 : Int) (x2 : Int) (b0_0 : Int) (b0_1 : Int) (b0_2 : (List Int)) (b0_3 : (List Int)) (b0_4 : Int) : X3 k kp (m3 x1 x2 b0_0 b0_1 b0_2 b0_3 b0_4) = j3' x1 x2 b0_0 b0_1 b0_2 b0_3 b0_4 (fun y0 => k (.v (.bool y0)) []) := by
  rw [j3_raw]; simp only [l7_eq]; first | done | rfl
theorem j2000002_c (k kp : D → List Blk → Prop) (J L : Nat → St → Prop) (x1 : Int) (x2 : Int) (x23 : Bool) (b0_0 : Int) (b0_1 : Int) (b0_2 : (List Int)) (b0_3 : (List Int)) (b0_4 : Int) : runC cfg 2000002 J L (pick none' []) [1, 0, 1] body (topK cfg Try.f4 k kp) (m2000002 x1 x2 x23 b0_0 b0_1 b0_2 b0_3 b0_4) = j2000002 (fun x1 x2 b0_0 b0_1 b0_2 b0_3 b0_4 => J 3 (m3 x1 x2 b0_0 b0_1 b0_2 b0_3 b0_4)) x1 x2 x23 b0_0 b0_1 b0_2 b0_3 b0_4 (fun y0 => k (.v (.bool y0)) []) := by kernel_rfl
theorem j2000002_ag (k kp : D → List Blk → Prop) : agPL cfg 2000002 (JJ k kp) (LL k kp) [1, 0, 1] body = agPR cfg 2000002 (pick none' []) [1, 0, 1] body (topK cfg Try.f4 k kp) := by kernel_rfl
theorem j2000002_raw (k kp : D → List Blk → Prop) (x1 : Int) (x2 : Int) (x23 : Bool) (b0_0 : Int) (b0_1 : Int) (b0_2 : (List Int)) (b0_3 : (List Int)) (b0_4 : Int) : X2000002 k kp (m2000002 x1 x2 x23 b0_0 b0_1 b0_2 b0_3 b0_4) = j2000002 (fun x1 x2 b0_0 b0_1 b0_2 b0_3 b0_4 => X3 k kp (m3 x1 x2 b0_0 b0_1 b0_2 b0_3 b0_4)) x1 x2 x23 b0_0 b0_1 b0_2 b0_3 b0_4 (fun y0 => k (.v (.bool y0)) []) :=
  Eq.mp (by kernel_rfl) ((atP_run (j2000002_ag k kp) (m2000002 x1 x2 x23 b0_0 b0_1 b0_2 b0_3 b0_4)).trans (j2000002_c k kp (JJ k kp) (LL k kp) x1 x2 x23 b0_0 b0_1 b0_2 b0_3 b0_4))
theorem j2000002_eq (k kp : D → List Blk → Prop) (x1 : Int) (x2 : Int) (x23 : Bool) (b0_0 : Int) (b0_1 : Int) (b0_2 : (List Int)) (b0_3 : (List Int)) (b0_4 : Int) : X2000002 k kp (m2000002 x1 x2 x23 b0_0 b0_1 b0_2 b0_3 b0_4) = j2000002' x1 x2 x23 b0_0 b0_1 b0_2 b0_3 b0_4 (fun y0 => k (.v (.bool y0)) []) := by
  rw [j2000002_raw]; simp only [j3_eq]; first | done | rfl
theorem c_c (k kp : D → List Blk → Prop) (J L : Nat → St → Prop) (x0_0_0 : Int) (x0_0_1 : Int) (x0_1_0 : (List Int)) (x0_1_1 : (List Int)) (x0_2 : Int) (x1 : Int) (x2 : Int) : runC cfg 1000001 J L none'' [] body (topK cfg Try.f4 k kp) (st0 Try.f4 [(.agg [(.v (.int IntKind.i64 x0_0_0)), (.v (.int IntKind.i64 x0_0_1)), (.fz (Ty.int IntKind.i64) x0_1_0), (.fz (Ty.int IntKind.i64) x0_1_1), (.v (.int IntKind.i64 x0_2))]), (.v (.int IntKind.i64 x1)), (.v (.int IntKind.i64 x2))] []) = c (fun x1 x2 x23 b0_0 b0_1 b0_2 b0_3 b0_4 => J 2000002 (m2000002 x1 x2 x23 b0_0 b0_1 b0_2 b0_3 b0_4)) x0_0_0 x0_0_1 x0_1_0 x0_1_1 x0_2 x1 x2 (fun y0 => k (.v (.bool y0)) []) := by kernel_rfl
theorem c_ag (k kp : D → List Blk → Prop) : agPL cfg 1000001 (JJ k kp) (LL k kp) [] body = agPR cfg 1000001 none'' [] body (topK cfg Try.f4 k kp) := by kernel_rfl
theorem body_is : Try.f4.body = some body := by kernel_rfl
theorem c_raw (k kp : D → List Blk → Prop) (x0_0_0 : Int) (x0_0_1 : Int) (x0_1_0 : (List Int)) (x0_1_1 : (List Int)) (x0_2 : Int) (x1 : Int) (x2 : Int) : funW cfg Try.f4 [(.agg [(.v (.int IntKind.i64 x0_0_0)), (.v (.int IntKind.i64 x0_0_1)), (.fz (Ty.int IntKind.i64) x0_1_0), (.fz (Ty.int IntKind.i64) x0_1_1), (.v (.int IntKind.i64 x0_2))]), (.v (.int IntKind.i64 x1)), (.v (.int IntKind.i64 x2))] [] k kp = c (fun x1 x2 x23 b0_0 b0_1 b0_2 b0_3 b0_4 => X2000002 k kp (m2000002 x1 x2 x23 b0_0 b0_1 b0_2 b0_3 b0_4)) x0_0_0 x0_0_1 x0_1_0 x0_1_1 x0_2 x1 x2 (fun y0 => k (.v (.bool y0)) []) :=
  Eq.mp (by kernel_rfl) ((funW_run (AG := none'') body_is (c_ag k kp) [(.agg [(.v (.int IntKind.i64 x0_0_0)), (.v (.int IntKind.i64 x0_0_1)), (.fz (Ty.int IntKind.i64) x0_1_0), (.fz (Ty.int IntKind.i64) x0_1_1), (.v (.int IntKind.i64 x0_2))]), (.v (.int IntKind.i64 x1)), (.v (.int IntKind.i64 x2))] []).trans (c_c k kp (JJ k kp) (LL k kp) x0_0_0 x0_0_1 x0_1_0 x0_1_1 x0_2 x1 x2))
theorem f_eq (k kp : D → List Blk → Prop) (x0_0_0 : Int) (x0_0_1 : Int) (x0_1_0 : (List Int)) (x0_1_1 : (List Int)) (x0_2 : Int) (x1 : Int) (x2 : Int) : funW cfg Try.f4 [(.agg [(.v (.int IntKind.i64 x0_0_0)), (.v (.int IntKind.i64 x0_0_1)), (.fz (Ty.int IntKind.i64) x0_1_0), (.fz (Ty.int IntKind.i64) x0_1_1), (.v (.int IntKind.i64 x0_2))]), (.v (.int IntKind.i64 x1)), (.v (.int IntKind.i64 x2))] [] k kp = f x0_0_0 x0_0_1 x0_1_0 x0_1_1 x0_2 x1 x2 (fun y0 => k (.v (.bool y0)) []) := by
  rw [f_def, c_raw]; simp only [j2000002_eq]; first | done | rfl
noncomputable def ent0 : Entry := fun args blks k _ => match args, blks with
  | [d0, d1, d2], [] => aAgg 5 d0 fun l => aCons l fun d0_0 l => aCons l fun d0_1 l => aCons l fun d0_2 l => aCons l fun d0_3 l => aCons l fun d0_4 l => aNil l (aInt IntKind.i64 d0_0 fun x0_0_0 => aInt IntKind.i64 d0_1 fun x0_0_1 => aFz (Ty.int IntKind.i64) d0_2 fun x0_1_0 => aFz (Ty.int IntKind.i64) d0_3 fun x0_1_1 => aInt IntKind.i64 d0_4 fun x0_2 => aInt IntKind.i64 d1 fun x1 => aInt IntKind.i64 d2 fun x2 => f x0_0_0 x0_0_1 x0_1_0 x0_1_1 x0_2 x1 x2 (fun y0 => k (.v (.bool y0)) []))
  | _, _ => False
noncomputable def ent : Entry := fun args blks k kp => ent0 (convA [none, none, none] args) blks k kp
theorem ok : EntOk Try.prog 0 0 4 ent := by
  refine EntOk.conv (EntOk.of (funW_ok (cfg := cfg) (tyOk_of rfl rfl tyL_ok) (eqOk_of (P := Try.prog) rfl rfl (by kernel_rfl)) mixed_ok (tab_ok ?_) Try.func4 (by rfl) (by rfl)) ?_) _
  · intro p hp
    simp only [List.mem_cons, List.not_mem_nil, or_false] at hp
    rcases hp with rfl | rfl | rfl | rfl | rfl | rfl
    · exact N17.ok
    · exact N24.ok
    · exact N15.ok
    · exact N25.ok
    · exact N26.ok
    · exact N20.ok
  · intro args blks k kp h k' kp'
    match args, blks, h with
    | [d0, d1, d2], [], h =>
    dsimp only [ent0] at h
    have h9 := aAgg_elim h; clear h; obtain ⟨_, rfl, h⟩ := h9
    have h9 := aCons_elim h; clear h; obtain ⟨d0_0, _, rfl, h⟩ := h9
    have h9 := aCons_elim h; clear h; obtain ⟨d0_1, _, rfl, h⟩ := h9
    have h9 := aCons_elim h; clear h; obtain ⟨d0_2, _, rfl, h⟩ := h9
    have h9 := aCons_elim h; clear h; obtain ⟨d0_3, _, rfl, h⟩ := h9
    have h9 := aCons_elim h; clear h; obtain ⟨d0_4, _, rfl, h⟩ := h9
    have h9 := aNil_elim h; clear h; obtain ⟨rfl, h⟩ := h9
    have h9 := aInt_elim h; clear h; obtain ⟨x0_0_0, rfl, h⟩ := h9
    have h9 := aInt_elim h; clear h; obtain ⟨x0_0_1, rfl, h⟩ := h9
    have h9 := aFz_elim (t := (Ty.int IntKind.i64)) h; clear h; obtain ⟨x0_1_0, rfl, h⟩ := h9
    have h9 := aFz_elim (t := (Ty.int IntKind.i64)) h; clear h; obtain ⟨x0_1_1, rfl, h⟩ := h9
    have h9 := aInt_elim h; clear h; obtain ⟨x0_2, rfl, h⟩ := h9
    have h9 := aInt_elim h; clear h; obtain ⟨x1, rfl, h⟩ := h9
    have h9 := aInt_elim h; clear h; obtain ⟨x2, rfl, h⟩ := h9
    exact (f_eq k' kp' x0_0_0 x0_0_1 x0_1_0 x0_1_1 x0_2 x1 x2).symm
end N4
end Go.Proofs.Yu
namespace Go.Proofs.Yu.TargetParts
open Go Go.Aw Go.Proofs Go.Proofs.Ytbfggnlonemmiaa Go.ChangeShapes Go.WideShapes Go.ChangeAt Go.RowKit
set_option linter.unusedVariables false
set_option linter.unusedSimpArgs false
set_option maxRecDepth 100000
/-! 4 dyehouse/dyehouselaw13.TargetParts -/
def Pure : Prop := ∀ (x0 : ((Int × Int) × (((List Int) × (List Int)) × Int))) (w0 : Ty.Wf (Ty.pair (Ty.pair (Ty.int IntKind.i64) (Ty.int IntKind.i64)) (Ty.pair (Ty.pair (Ty.list (Ty.int IntKind.i64)) (Ty.list (Ty.int IntKind.i64))) (Ty.int IntKind.i64))) x0) (x1 : Int) (w1 : (Lit.int IntKind.i64 x1).wf = true) (x2 : Int) (w2 : (Lit.int IntKind.i64 x2).wf = true), N4.f x0.1.1 x0.1.2 x0.2.1.1 x0.2.1.2 x0.2.2 x1 x2 (fun y0 => y0 = true)
theorem own : ownKnob Try.prog.godebug = none := by kernel_rfl
theorem laid : laidOutB Try.prog = true := by kernel_rfl
theorem lifted (pure : Pure) (os : Os) (started : os.Started) (H : Type) (enc : TypeId × Value → H) :
    ReturnsInHanded {} Try.checked os 4 .any (Rows.targetPartsSpec.pre6 enc Try.prog Try.f4 Rows.targetPartsRow.domain false) (Rows.targetPartsSpec.post enc Try.prog Try.f4 false true false false) := by
  refine returnsInHanded_of_change_sized (C := Try.checked) own started (by kernel_rfl) Try.func4
    (ChangeSpec.witness6 (enc := enc) (C := Try.checked) false ⟨#[], #[(Value.agg #[(Value.int IntKind.i64 (0 : Int)), (Value.int IntKind.i64 (0 : Int)), (Value.slice none 0 0), (Value.slice none 0 0), (Value.int IntKind.i64 (0 : Int))]), .int IntKind.i64 0, .int IntKind.i64 0], []⟩ 4 (by kernel_rfl) (by kernel_rfl) (by kernel_rfl) (by kernel_rfl)) ?_
  intro W base args ds gs before hval0 hW hcnd hsz0 _
  have hsz : (DataW.weightsEach Try.prog (Try.f4.params.toList ++ Rows.targetPartsSpec.plain.varTypes Try.prog) (ds ++ gs)).all (· ≤ reachBytes) = true := hsz0
  have hval : ∀ (j : Nat) t v, Try.f4.params[j]? = some t → args[j]? = some v → Value.okWide Try.prog W .any base t v := hval0
  have hW' := hW
  have hlt := hW.lt
  obtain ⟨p, q, hA0, hV, rfl, hfz, hnd⟩ := hW
  have hA : DataW.TrodAll enc Try.prog W 0 (fun _ => true) true Try.f4.params.toList args.toList ds p := hA0
  have hAk := hA
  rw [Try.params4] at hA hval hsz
  obtain ⟨v0, vs0, d0, ds0, p0, q0, hargs, rfl, rfl, h0, r0⟩ := trodAll_cons hA
  obtain ⟨v1, vs1, d1, ds1, p1, q1, rfl, rfl, rfl, h1, r1⟩ := trodAll_cons r0
  obtain ⟨v2, vs2, d2, ds2, p2, q2, rfl, rfl, rfl, h2, r2⟩ := trodAll_cons r1
  obtain ⟨rfl, rfl, rfl⟩ := trodAll_nil r2
  obtain rfl : args = #[v0, v1, v2] := by cases args; simp_all
  obtain ⟨rfl, rfl⟩ := trodVars_none hV
  obtain ⟨x0, k0, w0⟩ := arg_agg (tf := 0) (tw := 0) (n := 60) (ty := (Ty.pair (Ty.pair (Ty.int IntKind.i64) (Ty.int IntKind.i64)) (Ty.pair (Ty.pair (Ty.list (Ty.int IntKind.i64)) (Ty.list (Ty.int IntKind.i64))) (Ty.int IntKind.i64)))) (.inl ⟨_, Try.underlying26⟩) (hval 0 26 v0 rfl rfl) (by kernel_rfl) h0 (fun m hm => of_decide_eq_true (List.all_eq_true.1 hsz m (DataW.weights_mem_each (j := 0) rfl rfl m hm)))
  obtain ⟨x1, k1, w1⟩ := arg_int (tf := 0) (tw := 0) (n := 1) (k := IntKind.i64) (by kernel_rfl) (hval 1 3 v1 rfl rfl) h1
  obtain ⟨x2, k2, w2⟩ := arg_int (tf := 0) (tw := 0) (n := 1) (k := IntKind.i64) (by kernel_rfl) (hval 2 3 v2 rfl rfl) h2
  refine (law_of N4.ok (W := W) (us := [v0, v1, v2]) (ds := [.agg (expand (Ty.pair (Ty.pair (Ty.int IntKind.i64) (Ty.int IntKind.i64)) (Ty.pair (Ty.pair (Ty.list (Ty.int IntKind.i64)) (Ty.list (Ty.int IntKind.i64))) (Ty.int IntKind.i64))) x0), .v (.int IntKind.i64 x1), .v (.int IntKind.i64 x2)]) ⟨_, _, rfl, k0, ⟨_, _, rfl, k1, ⟨_, _, rfl, k2, by simp only [RepL]⟩⟩⟩ (show N4.ent _ _ _ _ from pure x0 w0 x1 w1 x2 w2)).mono fun e W' ⟨he, bel⟩ => ?_
  subst he
  exact ⟨_, rfl, _, _, _, [], _, [], hW', trodAll_mk1 (shut_bool (by kernel_rfl) _), trodAll_below laid bel (by kernel_rfl) hAk (fun x hx => hlt x (by simpa using hx)), rfl, bel.frame _, fun h => by cases h⟩
theorem over (pure : Pure) : Rows.targetPartsRow.holds Try.pinned (OpenSpec.ofChange Rows.targetPartsSpec) :=
  OpenClaim.holds_of_wide 4 Try.f4 rfl rfl rfl rfl rfl rfl rfl ⟨rfl, rfl, rfl, rfl, rfl⟩ rfl rfl rfl rfl rfl (by kernel_rfl) Try.func4 (by kernel_rfl)
    (of_decide_eq_true (by kernel_rfl)) (by unfold Func.isWrapper; first | (rw [if_pos (by decide +kernel)]; kernel_rfl) | (rw [if_neg (by decide +kernel)]; exact ⟨rfl, rfl⟩))
    (fun os started H enc _ => lifted pure os started H enc)
theorem holds (pure : Pure) : Rows.TargetPartsSaid := over pure
end Go.Proofs.Yu.TargetParts
namespace Go.Proofs.Yu.TargetParts
open Go Go.Aw Go.Proofs Go.RowKit
set_option linter.unusedVariables false
set_option linter.unusedSimpArgs false

theorem kept_no (r0 r1 : Int) (c0 c1 : List Int) (slots cl below : Int) (hn0 : cl ≠ 0) (hn1 : cl ≠ 1) (k : List Int → Prop) (h : k []) : N24.f r0 r1 c0 c1 slots cl below k := by
  rw [N24.f_def]
  unfold N24.f0 N24.c
  refine letter_s _ _ ?_
  rw [letter_no]
  have : (!(decide (cl = 0) || decide (cl = 1))) = true := by simp [hn0, hn1]
  rw [this]
  exact h

theorem clob_len {n : Int} {l : List Int} (h : clob n l = true) (hn : n ≤ 16) : l.length ≤ 16 := by
  unfold clob at h
  rw [List.all_eq_true] at h
  have at' : ∀ i, i < l.length → okAt n l i = true := fun i hi => h i (by simpa using hi)
  have low : ∀ i : Nat, i < l.length → (i : Int) ≤ l.getD i 0 ∧ l.getD i 0 < n := by
    intro i
    induction i with
    | zero =>
      intro hi
      have := at' 0 hi
      unfold okAt at this
      simp only [Bool.and_eq_true, decide_eq_true_eq] at this
      exact ⟨by have := this.1.1; omega, this.1.2⟩
    | succ i ih =>
      intro hi
      have a := ih (by omega)
      have := at' (i + 1) hi
      unfold okAt at this
      simp only [Bool.and_eq_true, Bool.or_eq_true, decide_eq_true_eq] at this
      obtain ⟨⟨h1, h2⟩, h3⟩ := this
      have h3 : l.getD (i + 1 - 1) 0 < l.getD (i + 1) 0 := by
        rcases h3 with h3 | h3
        · omega
        · exact h3
      rw [Nat.add_sub_cancel] at h3
      exact ⟨by have := a.1; omega, h2⟩
  by_cases e : l.length = 0
  · omega
  · have := low (l.length - 1) (by omega)
    omega

def isAt (cl n : Int) (p : Int × (Int × Int)) : Bool := p.1 == (2 : Int) && (p.2.1 == cl && (p.2.2 == n && true))

theorem locs_any (c cl n : Int) (l : List Int) : (locs c l).any (isAt cl n) = (decide (cl = c) && l.contains n) := by
  unfold locs
  rw [List.any_map]
  induction l with
  | nil => simp
  | cons a l ih =>
    rw [List.any_cons, ih]
    have : (isAt cl n ∘ fun r => ((2 : Int), (c, r))) a = (decide (cl = c) && decide (n = a)) := by
      show isAt cl n (2, (c, a)) = _
      unfold isAt
      by_cases h1 : cl = c
      · subst h1
        by_cases h2 : n = a
        · subst h2; simp
        · rw [decide_eq_false h2, Bool.and_false]
          show ((2 : Int) == 2 && (cl == cl && (a == n && true))) = false
          rw [beq_eq_false_iff_ne.2 (Ne.symm h2)]; simp
      · rw [decide_eq_false h1, Bool.false_and]
        show ((2 : Int) == 2 && (c == cl && (a == n && true))) = false
        rw [beq_eq_false_iff_ne.2 (Ne.symm h1)]; rfl
    rw [this, List.contains_cons]
    by_cases h1 : cl = c <;> by_cases h2 : n = a <;> simp [h1, h2]

theorem any_spoils (c0 c1 : List Int) (cl n : Int) : (locs 0 c0 ++ locs 1 c1).any (isAt cl n) = spoilsI c0 c1 2 cl n := by
  rw [List.any_append, locs_any, locs_any]
  unfold spoilsI
  simp

theorem kept_has (c0 c1 : List Int) (cl : Int) (n i : Nat) (hi : i < n) : (keptL c0 c1 cl n).contains (i : Int) = !(spoilsI c0 c1 2 cl (i : Int)) := by
  unfold keptL
  rw [Bool.eq_iff_iff, List.contains_iff_mem, List.mem_filter]
  constructor
  · exact fun h => h.2
  · exact fun h => ⟨List.mem_map.2 ⟨i, by simpa using hi, rfl⟩, h⟩

theorem in_s (l : List Int) (n : Int) (hl : l.length < 2 ^ 60) (k : Bool → Prop) (h : k (l.contains n)) : N26.f l n k := by
  rw [N26.f_def]
  unfold N26.f0 N26.c N26.l2'
  refine loopS_of (fun x : Int => ∃ i : Nat, x = i ∧ i ≤ l.length ∧ ∀ j, j < i → l.getD j 0 ≠ n) (fun x => (l.length - x).toNat) ?_ ⟨0, rfl, Nat.zero_le _, fun j hj => by omega⟩
  rintro again x ⟨i, rfl, hi, hall⟩ hag
  unfold N26.l2 N26.j6' N26.j6
  dsimp only
  refine br_of (fun hlt => ?_) (fun hge => ?_)
  · have hlt := of_decide_eq_true hlt
    have ew : IntKind.i64.wrap ((i : Int) + 1) = ((i + 1 : Nat) : Int) := by rw [wrap_id (by omega) (by omega)]; omega
    rw [ew, Int.toNat_natCast]
    refine ⟨⟨by omega, by omega, by omega⟩, br_of (fun hb => ?_) (fun hb => hag _ ⟨i + 1, rfl, by omega, fun j hj => ?_⟩ (by omega))⟩
    · have hc := contains_at (l := l) (i := i) (n := n) (by omega) (by simpa using hb)
      rw [hc] at h; exact h
    · by_cases e : j = i
      · rw [e]; simpa using hb
      · exact hall j (by omega)
  · have hge := of_decide_eq_false hge
    rw [contains_no (fun j hj => hall j (by omega))] at h; exact h

/-- The inner loop: is it among those that are spoilt? -/
theorem any_s (ag : Int → Int → Int → Int → List Int → List Int → Int → List (Int × (Int × Int)) → Prop) (x1 x2 : Int) (x7 : List Int) (x9 x10 r0 r1 : Int) (c0 c1 : List Int) (slots : Int) (b : List (Int × (Int × Int))) (hb : b.length < 2 ^ 40) (k : Bool → Prop)
    (h : N4.j14' ag x1 x2 x7 x9 x10 (b.any (isAt x1 x10)) r0 r1 c0 c1 slots b k) : N4.l11' ag x1 x2 x7 x9 x10 false 0 r0 r1 c0 c1 slots b k := by
  unfold N4.l11'
  refine loopS_of (fun s : Bool × Int × Int × Int × List Int × List Int × Int × List (Int × (Int × Int)) => ∃ i : Nat, s = ((b.take i).any (isAt x1 x10), (i : Int), r0, r1, c0, c1, slots, b) ∧ i ≤ b.length) (fun s => (b.length - s.2.1).toNat) ?_ ⟨0, rfl, Nat.zero_le _⟩
  rintro again s ⟨i, rfl, hi⟩ hag
  simp only at hag ⊢
  unfold N4.l11 N4.j12' N4.j12
  dsimp only
  refine br_of (fun hlt => ?_) (fun hge => ?_)
  · have hlt := of_decide_eq_true hlt
    have hil : i < b.length := by omega
    have ew : IntKind.i64.wrap ((i : Int) + 1) = ((i + 1 : Nat) : Int) := by rw [wrap_id (by omega) (by omega)]; omega
    rw [ew, Int.toNat_natCast]
    have hg : b.getD i (0, (0, 0)) = b[i] := by simp [List.getD, List.getElem?_eq_getElem hil]
    have ht : (b.take (i + 1)).any (isAt x1 x10) = ((b.take i).any (isAt x1 x10) || isAt x1 x10 (b.getD i (0, (0, 0)))) := by
      rw [List.take_succ_eq_append_getElem hil, List.any_append, hg]; simp
    refine br_of (fun ha => ?_) (fun ha => ?_)
    · refine hag _ ⟨i + 1, ?_, by omega⟩ (by simp; omega)
      rw [ht, ha]; rfl
    · refine ⟨⟨by omega, by omega, by omega⟩, hag _ ⟨i + 1, ?_, by omega⟩ (by simp; omega)⟩
      rw [ht, ha]; rfl
  · have hge := of_decide_eq_false hge
    have : b.take i = b := List.take_of_length_le (by omega)
    rw [this]; exact h

theorem pure : Pure := by
  rintro ⟨⟨r0, r1⟩, ⟨c0, c1⟩, slots⟩ wt cl wcl below wb
  have hk : N15.f (fun y => y = true) := worksT_s _ rfl
  have l0 : c0.length * 8 ≤ reachBytes := wt.2.1.1.1
  have l1 : c1.length * 8 ≤ reachBytes := wt.2.1.2.1
  have h0 : c0.length < 2 ^ 60 := by unfold reachBytes at l0; omega
  have h1 : c1.length < 2 ^ 60 := by unfold reachBytes at l1; omega
  show N4.f r0 r1 c0 c1 slots cl below (fun y0 => y0 = true)
  rw [N4.f_def]
  unfold N4.f0 N4.c
  refine checkr_s _ _ _ _ _ h0 h1 _ ?_
  have out : N4.j2000002' cl below true r0 r1 c0 c1 slots (fun y0 => y0 = true) := by
    unfold N4.j2000002' N4.j2000002
    rw [br_true]
    refine kept_no _ _ _ _ _ _ _ (by decide) (by decide) _ ?_
    refine br_of (fun _ => ?_) (fun hx => absurd hx (by simp))
    refine kept_no _ _ _ _ _ _ _ (by decide) (by decide) _ ?_
    exact br_of (fun _ => hk) (fun hx => absurd hx (by simp))
  refine br_of (fun _ => out) (fun hc => br_of (fun _ => out) (fun hl => ?_))
  have hc : checkI r0 r1 c0 c1 slots = 0 := by simpa using hc
  have hl := of_decide_eq_false hl
  by_cases hu : cl > 1
  · rw [decide_eq_true hu]; exact out
  rw [decide_eq_false hu]
  have hcl : cl = 0 ∨ cl = 1 := by omega
  unfold N4.j2000002' N4.j2000002
  dsimp only
  rw [br_false]
  unfold checkI at hc
  split at hc
  · exact absurd hc (by decide)
  rename_i g0
  split at hc
  · exact absurd hc (by decide)
  rename_i g1
  split at hc
  · exact absurd hc (by decide)
  rename_i g2
  split at hc
  · exact absurd hc (by decide)
  rename_i g3
  have k0 := clob_len (by simpa using g1) (by omega)
  have k1 := clob_len (by simpa using g3) (by omega)
  unfold N4.j3' N4.j3
  refine kept_s _ _ _ _ _ _ _ h0 h1 (by omega) (by omega) _ (spoilt_s _ _ _ _ _ (by omega) _ ?_)
  rw [if_pos hcl]
  have htop : regOf r0 r1 cl ≤ 16 ∧ 0 ≤ regOf r0 r1 cl := by unfold regOf; split <;> omega
  have hlen : (locs 0 c0 ++ locs 1 c1).length = c0.length + c1.length := by simp [locs]
  generalize hreg : regOf r0 r1 cl = reg at htop
  generalize htt : (min below reg).toNat = top
  have htl : top ≤ 16 := by omega
  have klt : ∀ n, (keptL c0 c1 cl n).length ≤ n := keptL_len c0 c1 cl
  unfold N4.l7'
  refine loopS_of (fun s : Int × Int × Int × Int × List Int × List Int × Int × List (Int × (Int × Int)) => ∃ i : Nat, s = (((keptL c0 c1 cl i).length : Int), (i : Int), r0, r1, c0, c1, slots, locs 0 c0 ++ locs 1 c1) ∧ i ≤ top) (fun s => (top - s.2.1).toNat) ?_ ⟨0, rfl, Nat.zero_le _⟩
  rintro again s ⟨i, rfl, hi⟩ hag
  simp only at hag ⊢
  have fin : i = top → N4.j18' (keptL c0 c1 cl top) ((keptL c0 c1 cl i).length : Int) r0 r1 c0 c1 slots (locs 0 c0 ++ locs 1 c1) (fun y0 => y0 = true) := by
    rintro rfl
    unfold N4.j18' N4.j18
    refine br_of (fun _ => br_of (fun _ => hk) (fun hx => ?_)) (fun hx => absurd hx (by simp))
    exfalso
    rw [hlen, wrap_id (by omega) (by omega)] at hx
    simp at hx
  have body : i < top → N4.j9' (fun x9 x10 b0_0 b0_1 b0_2 b0_3 b0_4 b1 => again (x9, x10, b0_0, b0_1, b0_2, b0_3, b0_4, b1)) cl below (keptL c0 c1 cl top) ((keptL c0 c1 cl i).length : Int) (i : Int) r0 r1 c0 c1 slots (locs 0 c0 ++ locs 1 c1) (fun y0 => y0 = true) := by
    intro hit
    unfold N4.j9' N4.j9
    refine any_s _ _ _ _ _ _ _ _ _ _ _ _ (by omega) _ ?_
    rw [any_spoils]
    unfold N4.j14' N4.j14
    refine in_s _ _ (by have := klt top; omega) _ ?_
    rw [kept_has _ _ _ _ _ hit]
    have e1 : (spoilsI c0 c1 2 cl (i : Int) == !(spoilsI c0 c1 2 cl (i : Int))) = false := by cases spoilsI c0 c1 2 cl (i : Int) <;> rfl
    rw [e1, br_false]
    refine spoils_s _ _ _ _ _ _ _ _ h0 h1 _ ?_
    have e2 : (!(spoilsI c0 c1 2 cl (i : Int) == spoilsI c0 c1 2 cl (i : Int))) = false := by cases spoilsI c0 c1 2 cl (i : Int) <;> rfl
    rw [e2]
    unfold N4.j2000015' N4.j2000015
    dsimp only
    rw [br_false]
    unfold N4.j16' N4.j16 N4.j8' N4.j8
    dsimp only
    have ew : IntKind.i64.wrap ((i : Int) + 1) = ((i + 1 : Nat) : Int) := by rw [wrap_id (by omega) (by omega)]; omega
    have kl := klt i
    have ew2 : IntKind.i64.wrap (((keptL c0 c1 cl i).length : Int) + 1) = (((keptL c0 c1 cl i).length + 1 : Nat) : Int) := by rw [wrap_id (by omega) (by omega)]; omega
    have hs := keptL_succ c0 c1 cl i
    rw [ew, ew2]
    cases hsp : spoilsI c0 c1 2 cl (i : Int) with
    | true =>
      rw [if_pos hsp, List.append_nil] at hs
      rw [Bool.not_true, br_false]
      exact hag _ ⟨i + 1, by rw [hs], by omega⟩ (by simp; omega)
    | false =>
      rw [if_neg (by rw [hsp]; simp)] at hs
      rw [Bool.not_false, br_true]
      exact hag _ ⟨i + 1, by rw [hs]; simp, by omega⟩ (by simp; omega)
  unfold N4.l7
  dsimp only
  rcases hcl with rfl | rfl
  · have e : reg = r0 := by rw [← hreg]; rfl
    have d2 : decide ((0 : Int) = ((0 : Nat) : Int)) = true := by decide
    rw [d2, br_true]
    refine br_of (fun ha => br_of (fun hb => ?_) (fun hb => ?_)) (fun ha => ?_)
    · have ha := of_decide_eq_true ha
      have hb := of_decide_eq_true hb
      exact body (by omega)
    · have ha := of_decide_eq_true ha
      have hb := of_decide_eq_false hb
      exact fin (by omega)
    · have ha := of_decide_eq_false ha
      exact fin (by omega)
  · have e : reg = r1 := by rw [← hreg]; rfl
    have d2 : decide ((1 : Int) = ((0 : Nat) : Int)) = false := by decide
    have d3 : decide ((1 : Int) = ((1 : Nat) : Int)) = true := by decide
    rw [d2, d3, br_false, br_true]
    refine br_of (fun ha => br_of (fun hb => ?_) (fun hb => ?_)) (fun ha => ?_)
    · have ha := of_decide_eq_true ha
      have hb := of_decide_eq_true hb
      exact body (by omega)
    · have ha := of_decide_eq_true ha
      have hb := of_decide_eq_false hb
      exact fin (by omega)
    · have ha := of_decide_eq_false ha
      exact fin (by omega)

theorem proved : Go.Proofs.Ytbfggnlonemmiaa.Rows.TargetPartsSaid := holds pure
end Go.Proofs.Yu.TargetParts
namespace Go.Proofs.Ytbfggnlonemmiaa
/-- The statement. -/
theorem targetParts_holds : Rows.TargetPartsSaid := Go.Proofs.Yu.TargetParts.proved
#print axioms targetParts_holds
end Go.Proofs.Ytbfggnlonemmiaa
