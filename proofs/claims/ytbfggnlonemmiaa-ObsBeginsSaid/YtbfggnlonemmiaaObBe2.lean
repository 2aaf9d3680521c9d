/- ObsBegins: whose calls begin another one's, and the other way round, has just the same. -/
import Derived.Test.YtbfggnlonemmiaaObBe0
import Derived.Test.YtbfggnlonemmiaaObBe1
import Derived.Test.YtbfggnlonemmiaaT2
import Derived.Test.YtbfggnlonemmiaaRows
import Derived.WalkKit
import Derived.ProofKit
import Derived.OpenShut
import Derived.ShutString
import Derived.ChangeOld
import Derived.Below
import Derived.SizedLaws
import Derived.Deep.CondSized
namespace Go.Proofs.Yu
open Go Go.Aw Go.Proofs
set_option linter.unusedVariables false
set_option linter.unusedSimpArgs false
set_option maxRecDepth 100000
/-! dyehouse/dyehouselaw35.ObsTexts -/
namespace N9
noncomputable def cfg : Cfg := { P := Try.prog, ty := tys, E := tab [(34, N34.ent), (35, N35.ent), (42, N42.ent), (37, N37.ent)], atSeq := tab [(2000002, ⟨[(2, .keep), (3, .keep), (10, .keep)]⟩), (3, ⟨[(2, .keep), (3, .keep)]⟩)], atLoop := tab [], outs := [], eqT := tab [], bT := tab [], fzB := [2, 3] }
noncomputable def body : Code := bodyOf Try.f9
def j2000002 (j3 : (List (ByteArray × (List Int))) → Int → Int → (List Int) → Int → (List (ByteArray × (List Int))) → Int → Int → (List Int) → Int → Prop) (x2_0 : (List (ByteArray × (List Int)))) (x2_1 : Int) (x2_2 : Int) (x2_3 : (List Int)) (x2_4 : Int) (x3_0 : (List (ByteArray × (List Int)))) (x3_1 : Int) (x3_2 : Int) (x3_3 : (List Int)) (x3_4 : Int) (x10 : Bool) (k : Bool → Prop) : Prop :=
  (br x10 (N35.f (fun (y0_2 : Bool) => (k y0_2))) (j3 x2_0 x2_1 x2_2 x2_3 x2_4 x3_0 x3_1 x3_2 x3_3 x3_4))
def j3 (x2_0 : (List (ByteArray × (List Int)))) (x2_1 : Int) (x2_2 : Int) (x2_3 : (List Int)) (x2_4 : Int) (x3_0 : (List (ByteArray × (List Int)))) (x3_1 : Int) (x3_2 : Int) (x3_3 : (List Int)) (x3_4 : Int) (k : Bool → Prop) : Prop :=
  (N42.f x2_0 x2_1 x2_2 x2_3 x2_4 (fun (y0_3 : ByteArray) => (N42.f x3_0 x3_1 x3_2 x3_3 x3_4 (fun (y0_4 : ByteArray) => (N37.f x2_0 x2_1 x2_2 x2_3 x2_4 x3_0 x3_1 x3_2 x3_3 x3_4 (fun (y0_5 : Bool) => (br ((beqS y0_3 y0_4) == y0_5) (N35.f (fun (y0_6 : Bool) => (k y0_6))) (k false))))))))
def c (j2000002 : (List (ByteArray × (List Int))) → Int → Int → (List Int) → Int → (List (ByteArray × (List Int))) → Int → Int → (List Int) → Int → Bool → Prop) (x0_0 : (List (ByteArray × (List Int)))) (x0_1 : Int) (x0_2 : Int) (x0_3 : (List Int)) (x0_4 : Int) (x1_0 : (List (ByteArray × (List Int)))) (x1_1 : Int) (x1_2 : Int) (x1_3 : (List Int)) (x1_4 : Int) (k : Bool → Prop) : Prop :=
  (N34.f x0_0 x0_1 x0_2 x0_3 x0_4 (fun (y0_0 : Bool) => (br y0_0 (j2000002 x0_0 x0_1 x0_2 x0_3 x0_4 x1_0 x1_1 x1_2 x1_3 x1_4 true) (N34.f x1_0 x1_1 x1_2 x1_3 x1_4 (fun (y0_1 : Bool) => (j2000002 x0_0 x0_1 x0_2 x0_3 x0_4 x1_0 x1_1 x1_2 x1_3 x1_4 y0_1))))))
def j3' (x2_0 : (List (ByteArray × (List Int)))) (x2_1 : Int) (x2_2 : Int) (x2_3 : (List Int)) (x2_4 : Int) (x3_0 : (List (ByteArray × (List Int)))) (x3_1 : Int) (x3_2 : Int) (x3_3 : (List Int)) (x3_4 : Int) (k : Bool → Prop) : Prop := j3 x2_0 x2_1 x2_2 x2_3 x2_4 x3_0 x3_1 x3_2 x3_3 x3_4 k
def j2000002' (x2_0 : (List (ByteArray × (List Int)))) (x2_1 : Int) (x2_2 : Int) (x2_3 : (List Int)) (x2_4 : Int) (x3_0 : (List (ByteArray × (List Int)))) (x3_1 : Int) (x3_2 : Int) (x3_3 : (List Int)) (x3_4 : Int) (x10 : Bool) (k : Bool → Prop) : Prop := j2000002 (fun x2_0 x2_1 x2_2 x2_3 x2_4 x3_0 x3_1 x3_2 x3_3 x3_4 => j3' x2_0 x2_1 x2_2 x2_3 x2_4 x3_0 x3_1 x3_2 x3_3 x3_4 k) x2_0 x2_1 x2_2 x2_3 x2_4 x3_0 x3_1 x3_2 x3_3 x3_4 x10 k
def f0 (x0_0 : (List (ByteArray × (List Int)))) (x0_1 : Int) (x0_2 : Int) (x0_3 : (List Int)) (x0_4 : Int) (x1_0 : (List (ByteArray × (List Int)))) (x1_1 : Int) (x1_2 : Int) (x1_3 : (List Int)) (x1_4 : Int) (k : Bool → Prop) : Prop := c (fun x2_0 x2_1 x2_2 x2_3 x2_4 x3_0 x3_1 x3_2 x3_3 x3_4 x10 => j2000002' x2_0 x2_1 x2_2 x2_3 x2_4 x3_0 x3_1 x3_2 x3_3 x3_4 x10 k) x0_0 x0_1 x0_2 x0_3 x0_4 x1_0 x1_1 x1_2 x1_3 x1_4 k
theorem f_ex : ∃ g : (List (ByteArray × (List Int))) → Int → Int → (List Int) → Int → (List (ByteArray × (List Int))) → Int → Int → (List Int) → Int → (Bool → Prop) → Prop, g = f0 := ⟨_, rfl⟩
noncomputable def f : (List (ByteArray × (List Int))) → Int → Int → (List Int) → Int → (List (ByteArray × (List Int))) → Int → Int → (List Int) → Int → (Bool → Prop) → Prop := Classical.choose f_ex
theorem f_def : f = f0 := Classical.choose_spec f_ex
def m2000002 (x2_0 : (List (ByteArray × (List Int)))) (x2_1 : Int) (x2_2 : Int) (x2_3 : (List Int)) (x2_4 : Int) (x3_0 : (List (ByteArray × (List Int)))) (x3_1 : Int) (x3_2 : Int) (x3_3 : (List Int)) (x3_4 : Int) (x10 : Bool) : St := { tmps := mkT 24 0 [(2, (.fp [(.fz (Ty.pair Ty.str (Ty.list (Ty.int IntKind.i64))) x2_0), (.v (.int IntKind.i64 x2_1)), (.v (.int IntKind.i64 x2_2)), (.fz (Ty.int IntKind.i64) x2_3), (.v (.int IntKind.i64 x2_4))])), (3, (.fp [(.fz (Ty.pair Ty.str (Ty.list (Ty.int IntKind.i64))) x3_0), (.v (.int IntKind.i64 x3_1)), (.v (.int IntKind.i64 x3_2)), (.fz (Ty.int IntKind.i64) x3_3), (.v (.int IntKind.i64 x3_4))])), (10, (.v (.bool x10)))], hp := [], m := 0 }
def m3 (x2_0 : (List (ByteArray × (List Int)))) (x2_1 : Int) (x2_2 : Int) (x2_3 : (List Int)) (x2_4 : Int) (x3_0 : (List (ByteArray × (List Int)))) (x3_1 : Int) (x3_2 : Int) (x3_3 : (List Int)) (x3_4 : Int) : St := { tmps := mkT 24 0 [(2, (.fp [(.fz (Ty.pair Ty.str (Ty.list (Ty.int IntKind.i64))) x2_0), (.v (.int IntKind.i64 x2_1)), (.v (.int IntKind.i64 x2_2)), (.fz (Ty.int IntKind.i64) x2_3), (.v (.int IntKind.i64 x2_4))])), (3, (.fp [(.fz (Ty.pair Ty.str (Ty.list (Ty.int IntKind.i64))) x3_0), (.v (.int IntKind.i64 x3_1)), (.v (.int IntKind.i64 x3_2)), (.fz (Ty.int IntKind.i64) x3_3), (.v (.int IntKind.i64 x3_4))]))], hp := [], m := 0 }
noncomputable def X2000002 (k kp : D → List Blk → Prop) : St → Prop := atP cfg (pick none' []) [1, 0, 1] body (topK cfg Try.f9 k kp)
noncomputable def X3 (k kp : D → List Blk → Prop) : St → Prop := atP cfg (pick none' []) [1, 1] body (topK cfg Try.f9 k kp)
noncomputable def JJ (k kp : D → List Blk → Prop) : Nat → St → Prop := pick none' [(2000002, X2000002 k kp), (3, X3 k kp)]
noncomputable def LL (k kp : D → List Blk → Prop) : Nat → St → Prop := pick none' []
theorem j3_c (k kp : D → List Blk → Prop) (J L : Nat → St → Prop) (x2_0 : (List (ByteArray × (List Int)))) (x2_1 : Int) (x2_2 : Int) (x2_3 : (List Int)) (x2_4 : Int) (x3_0 : (List (ByteArray × (List Int)))) (x3_1 : Int) (x3_2 : Int) (x3_3 : (List Int)) (x3_4 : Int) : runC cfg 3 J L (pick none' []) [1, 1] body (topK cfg Try.f9 k kp) (m3 x2_0 x2_1 x2_2 x2_3 x2_4 x3_0 x3_1 x3_2 x3_3 x3_4) = j3 x2_0 x2_1 x2_2 x2_3 x2_4 x3_0 x3_1 x3_2 x3_3 x3_4 (fun y0 => k (.v (.bool y0)) []) := by kernel_rfl
theorem j3_ag (k kp : D → List Blk → Prop) : agPL cfg 3 (JJ k kp) (LL k kp) [1, 1] body = agPR cfg 3 (pick none' []) [1, 1] body (topK cfg Try.f9 k kp) := by kernel_rfl
theorem j3_raw (k kp : D → List Blk → Prop) (x2_0 : (List (ByteArray × (List Int)))) (x2_1 : Int) (x2_2 : Int) (x2_3 : (List Int)) (x2_4 : Int) (x3_0 : (List (ByteArray × (List Int)))) (x3_1 : Int) (x3_2 : Int) (x3_3 : (List Int)) (x3_4 : Int) : X3 k kp (m3 x2_0 x2_1 x2_2 x2_3 x2_4 x3_0 x3_1 x3_2 x3_3 x3_4) = j3 x2_0 x2_1 x2_2 x2_3 x2_4 x3_0 x3_1 x3_2 x3_3 x3_4 (fun y0 => k (.v (.bool y0)) []) :=
  Eq.mp (by kernel_rfl) ((atP_run (j3_ag k kp) (m3 x2_0 x2_1 x2_2 x2_3 x2_4 x3_0 x3_1 x3_2 x3_3 x3_4)).trans (j3_c k kp (JJ k kp) (LL k kp) x2_0 x2_1 x2_2 x2_3 x2_4 x3_0 x3_1 x3_2 x3_3 x3_4))
theorem j3_eq (k kp : D → List Blk → Prop) (x2_0 : (List (ByteArray × (List Int)))) (x2_1 : Int) (x2_2 : Int) (x2_3 : (List Int)) (x2_4 : Int) (x3_0 : (List (ByteArray × (List Int)))) (x3_1 : Int) (x3_2 : Int) (x3_3 : (List Int)) (x3_4 : Int) : X3 k kp (m3 x2_0 x2_1 x2_2 x2_3 x2_4 x3_0 x3_1 x3_2 x3_3 x3_4) = j3' x2_0 x2_1 x2_2 x2_3 x2_4 x3_0 x3_1 x3_2 x3_3 x3_4 (fun y0 => k (.v (.bool y0)) []) := by
  rw [j3_raw]; rfl
theorem j2000002_c (k kp : D → List Blk → Prop) (J L : Nat → St → Prop) (x2_0 : (List (ByteArray × (List Int)))) (x2_1 : Int) (x2_2 : Int) (x2_3 : (List Int)) (x2_4 : Int) (x3_0 : (List (ByteArray × (List Int)))) (x3_1 : Int) (x3_2 : Int) (x3_3 : (List Int)) (x3_4 : Int) (x10 : Bool) : runC cfg 2000002 J L (pick none' []) [1, 0, 1] body (topK cfg Try.f9 k kp) (m2000002 x2_0 x2_1 x2_2 x2_3 x2_4 x3_0 x3_1 x3_2 x3_3 x3_4 x10) = j2000002 (fun x2_0 x2_1 x2_2 x2_3 x2_4 x3_0 x3_1 x3_2 x3_3 x3_4 => J 3 (m3 x2_0 x2_1 x2_2 x2_3 x2_4 x3_0 x3_1 x3_2 x3_3 x3_4)) x2_0 x2_1 x2_2 x2_3 x2_4 x3_0 x3_1 x3_2 x3_3 x3_4 x10 (fun y0 => k (.v (.bool y0)) []) := by kernel_rfl
theorem j2000002_ag (k kp : D → List Blk → Prop) : agPL cfg 2000002 (JJ k kp) (LL k kp) [1, 0, 1] body = agPR cfg 2000002 (pick none' []) [1, 0, 1] body (topK cfg Try.f9 k kp) := by kernel_rfl
theorem j2000002_raw (k kp : D → List Blk → Prop) (x2_0 : (List (ByteArray × (List Int)))) (x2_1 : Int) (x2_2 : Int) (x2_3 : (List Int)) (x2_4 : Int) (x3_0 : (List (ByteArray × (List Int)))) (x3_1 : Int) (x3_2 : Int) (x3_3 : (List Int)) (x3_4 : Int) (x10 : Bool) : X2000002 k kp (m2000002 x2_0 x2_1 x2_2 x2_3 x2_4 x3_0 x3_1 x3_2 x3_3 x3_4 x10) = j2000002 (fun x2_0 x2_1 x2_2 x2_3 x2_4 x3_0 x3_1 x3_2 x3_3 x3_4 => X3 k kp (m3 x2_0 x2_1 x2_2 x2_3 x2_4 x3_0 x3_1 x3_2 x3_3 x3_4)) x2_0 x2_1 x2_2 x2_3 x2_4 x3_0 x3_1 x3_2 x3_3 x3_4 x10 (fun y0 => k (.v (.bool y0)) []) :=
  Eq.mp (by kernel_rfl) ((atP_run (j2000002_ag k kp) (m2000002 x2_0 x2_1 x2_2 x2_3 x2_4 x3_0 x3_1 x3_2 x3_3 x3_4 x10)).trans (j2000002_c k kp (JJ k kp) (LL k kp) x2_0 x2_1 x2_2 x2_3 x2_4 x3_0 x3_1 x3_2 x3_3 x3_4 x10))
theorem j2000002_eq (k kp : D → List Blk → Prop) (x2_0 : (List (ByteArray × (List Int)))) (x2_1 : Int) (x2_2 : Int) (x2_3 : (List Int)) (x2_4 : Int) (x3_0 : (List (ByteArray × (List Int)))) (x3_1 : Int) (x3_2 : Int) (x3_3 : (List Int)) (x3_4 : Int) (x10 : Bool) : X2000002 k kp (m2000002 x2_0 x2_1 x2_2 x2_3 x2_4 x3_0 x3_1 x3_2 x3_3 x3_4 x10) = j2000002' x2_0 x2_1 x2_2 x2_3 x2_4 x3_0 x3_1 x3_2 x3_3 x3_4 x10 (fun y0 => k (.v (.bool y0)) []) := by
  rw [j2000002_raw]; simp only [j3_eq]; first | done | rfl
theorem c_c (k kp : D → List Blk → Prop) (J L : Nat → St → Prop) (x0_0 : (List (ByteArray × (List Int)))) (x0_1 : Int) (x0_2 : Int) (x0_3 : (List Int)) (x0_4 : Int) (x1_0 : (List (ByteArray × (List Int)))) (x1_1 : Int) (x1_2 : Int) (x1_3 : (List Int)) (x1_4 : Int) : runC cfg 1000001 J L none'' [] body (topK cfg Try.f9 k kp) (st0 Try.f9 [(.agg [(.fz (Ty.pair Ty.str (Ty.list (Ty.int IntKind.i64))) x0_0), (.v (.int IntKind.i64 x0_1)), (.v (.int IntKind.i64 x0_2)), (.fz (Ty.int IntKind.i64) x0_3), (.v (.int IntKind.i64 x0_4))]), (.agg [(.fz (Ty.pair Ty.str (Ty.list (Ty.int IntKind.i64))) x1_0), (.v (.int IntKind.i64 x1_1)), (.v (.int IntKind.i64 x1_2)), (.fz (Ty.int IntKind.i64) x1_3), (.v (.int IntKind.i64 x1_4))])] []) = c (fun x2_0 x2_1 x2_2 x2_3 x2_4 x3_0 x3_1 x3_2 x3_3 x3_4 x10 => J 2000002 (m2000002 x2_0 x2_1 x2_2 x2_3 x2_4 x3_0 x3_1 x3_2 x3_3 x3_4 x10)) x0_0 x0_1 x0_2 x0_3 x0_4 x1_0 x1_1 x1_2 x1_3 x1_4 (fun y0 => k (.v (.bool y0)) []) := by kernel_rfl
theorem c_ag (k kp : D → List Blk → Prop) : agPL cfg 1000001 (JJ k kp) (LL k kp) [] body = agPR cfg 1000001 none'' [] body (topK cfg Try.f9 k kp) := by kernel_rfl
theorem body_is : Try.f9.body = some body := by kernel_rfl
theorem c_raw (k kp : D → List Blk → Prop) (x0_0 : (List (ByteArray × (List Int)))) (x0_1 : Int) (x0_2 : Int) (x0_3 : (List Int)) (x0_4 : Int) (x1_0 : (List (ByteArray × (List Int)))) (x1_1 : Int) (x1_2 : Int) (x1_3 : (List Int)) (x1_4 : Int) : funW cfg Try.f9 [(.agg [(.fz (Ty.pair Ty.str (Ty.list (Ty.int IntKind.i64))) x0_0), (.v (.int IntKind.i64 x0_1)), (.v (.int IntKind.i64 x0_2)), (.fz (Ty.int IntKind.i64) x0_3), (.v (.int IntKind.i64 x0_4))]), (.agg [(.fz (Ty.pair Ty.str (Ty.list (Ty.int IntKind.i64))) x1_0), (.v (.int IntKind.i64 x1_1)), (.v (.int IntKind.i64 x1_2)), (.fz (Ty.int IntKind.i64) x1_3), (.v (.int IntKind.i64 x1_4))])] [] k kp = c (fun x2_0 x2_1 x2_2 x2_3 x2_4 x3_0 x3_1 x3_2 x3_3 x3_4 x10 => X2000002 k kp (m2000002 x2_0 x2_1 x2_2 x2_3 x2_4 x3_0 x3_1 x3_2 x3_3 x3_4 x10)) x0_0 x0_1 x0_2 x0_3 x0_4 x1_0 x1_1 x1_2 x1_3 x1_4 (fun y0 => k (.v (.bool y0)) []) :=
  Eq.mp (by kernel_rfl) ((funW_run (AG := none'') body_is (c_ag k kp) [(.agg [(.fz (Ty.pair Ty.str (Ty.list (Ty.int IntKind.i64))) x0_0), (.v (.int IntKind.i64 x0_1)), (.v (.int IntKind.i64 x0_2)), (.fz (Ty.int IntKind.i64) x0_3), (.v (.int IntKind.i64 x0_4))]), (.agg [(.fz (Ty.pair Ty.str (Ty.list (Ty.int IntKind.i64))) x1_0), (.v (.int IntKind.i64 x1_1)), (.v (.int IntKind.i64 x1_2)), (.fz (Ty.int IntKind.i64) x1_3), (.v (.int IntKind.i64 x1_4))])] []).trans (c_c k kp (JJ k kp) (LL k kp) x0_0 x0_1 x0_2 x0_3 x0_4 x1_0 x1_1 x1_2 x1_3 x1_4))
theorem f_eq (k kp : D → List Blk → Prop) (x0_0 : (List (ByteArray × (List Int)))) (x0_1 : Int) (x0_2 : Int) (x0_3 : (List Int)) (x0_4 : Int) (x1_0 : (List (ByteArray × (List Int)))) (x1_1 : Int) (x1_2 : Int) (x1_3 : (List Int)) (x1_4 : Int) : funW cfg Try.f9 [(.agg [(.fz (Ty.pair Ty.str (Ty.list (Ty.int IntKind.i64))) x0_0), (.v (.int IntKind.i64 x0_1)), (.v (.int IntKind.i64 x0_2)), (.fz (Ty.int IntKind.i64) x0_3), (.v (.int IntKind.i64 x0_4))]), (.agg [(.fz (Ty.pair Ty.str (Ty.list (Ty.int IntKind.i64))) x1_0), (.v (.int IntKind.i64 x1_1)), (.v (.int IntKind.i64 x1_2)), (.fz (Ty.int IntKind.i64) x1_3), (.v (.int IntKind.i64 x1_4))])] [] k kp = f x0_0 x0_1 x0_2 x0_3 x0_4 x1_0 x1_1 x1_2 x1_3 x1_4 (fun y0 => k (.v (.bool y0)) []) := by
  rw [f_def, c_raw]; simp only [j2000002_eq]; first | done | rfl
noncomputable def ent0 : Entry := fun args blks k _ => match args, blks with
  | [d0, d1], [] => aAgg 5 d0 fun l => aCons l fun d0_0 l => aCons l fun d0_1 l => aCons l fun d0_2 l => aCons l fun d0_3 l => aCons l fun d0_4 l => aNil l (aFz (Ty.pair Ty.str (Ty.list (Ty.int IntKind.i64))) d0_0 fun x0_0 => aInt IntKind.i64 d0_1 fun x0_1 => aInt IntKind.i64 d0_2 fun x0_2 => aFz (Ty.int IntKind.i64) d0_3 fun x0_3 => aInt IntKind.i64 d0_4 fun x0_4 => aAgg 5 d1 fun l => aCons l fun d1_0 l => aCons l fun d1_1 l => aCons l fun d1_2 l => aCons l fun d1_3 l => aCons l fun d1_4 l => aNil l (aFz (Ty.pair Ty.str (Ty.list (Ty.int IntKind.i64))) d1_0 fun x1_0 => aInt IntKind.i64 d1_1 fun x1_1 => aInt IntKind.i64 d1_2 fun x1_2 => aFz (Ty.int IntKind.i64) d1_3 fun x1_3 => aInt IntKind.i64 d1_4 fun x1_4 => f x0_0 x0_1 x0_2 x0_3 x0_4 x1_0 x1_1 x1_2 x1_3 x1_4 (fun y0 => k (.v (.bool y0)) [])))
  | _, _ => False
noncomputable def ent : Entry := fun args blks k kp => ent0 (convB [.cells [some (Ty.pair Ty.str (Ty.list (Ty.int IntKind.i64))), none, none, some (Ty.int IntKind.i64), none], .cells [some (Ty.pair Ty.str (Ty.list (Ty.int IntKind.i64))), none, none, some (Ty.int IntKind.i64), none]] args) blks k kp
theorem ok : EntOk Try.prog 0 0 9 ent := by
  refine EntOk.convB (EntOk.of (funW_ok (cfg := cfg) (tyOk_of rfl rfl tyL_ok) (eqOk_of (P := Try.prog) rfl rfl (by kernel_rfl)) mixed_ok (tab_ok ?_) Try.func9 (by rfl) (by rfl)) ?_) _
  · intro p hp
    simp only [List.mem_cons, List.not_mem_nil, or_false] at hp
    rcases hp with rfl | rfl | rfl | rfl
    · exact N34.ok
    · exact N35.ok
    · exact N42.ok
    · exact N37.ok
  · intro args blks k kp h k' kp'
    match args, blks, h with
    | [d0, d1], [], h =>
    dsimp only [ent0] at h
    have h9 := aAgg_elim h; clear h; obtain ⟨_, rfl, h⟩ := h9
    have h9 := aCons_elim h; clear h; obtain ⟨d0_0, _, rfl, h⟩ := h9
    have h9 := aCons_elim h; clear h; obtain ⟨d0_1, _, rfl, h⟩ := h9
    have h9 := aCons_elim h; clear h; obtain ⟨d0_2, _, rfl, h⟩ := h9
    have h9 := aCons_elim h; clear h; obtain ⟨d0_3, _, rfl, h⟩ := h9
    have h9 := aCons_elim h; clear h; obtain ⟨d0_4, _, rfl, h⟩ := h9
    have h9 := aNil_elim h; clear h; obtain ⟨rfl, h⟩ := h9
    have h9 := aFz_elim (t := (Ty.pair Ty.str (Ty.list (Ty.int IntKind.i64)))) h; clear h; obtain ⟨x0_0, rfl, h⟩ := h9
    have h9 := aInt_elim h; clear h; obtain ⟨x0_1, rfl, h⟩ := h9
    have h9 := aInt_elim h; clear h; obtain ⟨x0_2, rfl, h⟩ := h9
    have h9 := aFz_elim (t := (Ty.int IntKind.i64)) h; clear h; obtain ⟨x0_3, rfl, h⟩ := h9
    have h9 := aInt_elim h; clear h; obtain ⟨x0_4, rfl, h⟩ := h9
    have h9 := aAgg_elim h; clear h; obtain ⟨_, rfl, h⟩ := h9
    have h9 := aCons_elim h; clear h; obtain ⟨d1_0, _, rfl, h⟩ := h9
    have h9 := aCons_elim h; clear h; obtain ⟨d1_1, _, rfl, h⟩ := h9
    have h9 := aCons_elim h; clear h; obtain ⟨d1_2, _, rfl, h⟩ := h9
    have h9 := aCons_elim h; clear h; obtain ⟨d1_3, _, rfl, h⟩ := h9
    have h9 := aCons_elim h; clear h; obtain ⟨d1_4, _, rfl, h⟩ := h9
    have h9 := aNil_elim h; clear h; obtain ⟨rfl, h⟩ := h9
    have h9 := aFz_elim (t := (Ty.pair Ty.str (Ty.list (Ty.int IntKind.i64)))) h; clear h; obtain ⟨x1_0, rfl, h⟩ := h9
    have h9 := aInt_elim h; clear h; obtain ⟨x1_1, rfl, h⟩ := h9
    have h9 := aInt_elim h; clear h; obtain ⟨x1_2, rfl, h⟩ := h9
    have h9 := aFz_elim (t := (Ty.int IntKind.i64)) h; clear h; obtain ⟨x1_3, rfl, h⟩ := h9
    have h9 := aInt_elim h; clear h; obtain ⟨x1_4, rfl, h⟩ := h9
    exact (f_eq k' kp' x0_0 x0_1 x0_2 x0_3 x0_4 x1_0 x1_1 x1_2 x1_3 x1_4).symm
end N9
end Go.Proofs.Yu
namespace Go.Proofs.Yu
open Go Go.Aw Go.Proofs Go.RowKit
set_option linter.unusedVariables false
set_option linter.unusedSimpArgs false

theorem drop_getD {α : Type} {L : List α} {d : α} {i : Nat} (h : i < L.length) : L.drop i = L.getD i d :: L.drop (i + 1) := by
  rw [List.drop_eq_getElem_cons h, List.getD, List.getElem?_eq_getElem h]; rfl
theorem drop_eq {α : Type} {a b : List α} {d : α} {i : Nat} (ha : i < a.length) (hb : i < b.length) : a.drop i = b.drop i ↔ a.getD i d = b.getD i d ∧ a.drop (i + 1) = b.drop (i + 1) := by
  rw [drop_getD (d := d) ha, drop_getD (d := d) hb, List.cons.injEq]
theorem len_lt {i n : Nat} : (decide ((i : Int) < (n : Int)) = true) ↔ i < n := by simp
theorem inB_ok {i n : Nat} (h : i < n) : inB 0 (i : Int) ((n : Int) - 1) := ⟨by omega, by omega, by omega⟩
theorem bmk {a b : ByteArray} : beqS a b = decide (a = b) := by
  by_cases h : a = b
  · rw [(beqS_iff a b).2 h, decide_eq_true h]
  · rw [decide_eq_false h]
    cases hh : beqS a b with
    | false => rfl
    | true => exact absurd ((beqS_iff a b).1 hh) h

theorem eq_s (a b : List Int) (hb : a.length < 2 ^ 60) (k : Bool → Prop) (h : k (decide (a = b))) : N71.f a b k := by
  rw [N71.f_def]
  unfold N71.f0 N71.c N71.l4'
  simp only [br_bne]
  by_cases hl : a.length = b.length
  · rw [if_pos (by exact congrArg Int.ofNat hl)]
    refine loopS_of (fun s : Int => ∃ i : Nat, s = i ∧ i ≤ a.length ∧ (a = b ↔ a.drop i = b.drop i)) (fun s => a.length - s.toNat) ?_ ⟨0, rfl, Nat.zero_le _, Iff.rfl⟩
    rintro again s ⟨i, rfl, hi, hd⟩ hag
    unfold N71.l4 N71.j9' N71.j9
    refine br_of (fun hlt => ?_) (fun hge => ?_)
    · have hlt := len_lt.1 hlt
      refine ⟨inB_ok hlt, inB_ok (by omega), ?_⟩
      simp only [Int.toNat_natCast, br_bne]
      rw [drop_eq (d := 0) hlt (by omega)] at hd
      split
      · rename_i he
        rw [wrap_id (by omega) (by omega)]
        exact hag _ ⟨i + 1, by simp, by omega, hd.trans ⟨fun h => h.2, fun h => ⟨he, h⟩⟩⟩ (by omega)
      · rename_i he
        rw [decide_eq_false (fun h => he (hd.1 h).1)] at h
        exact h
    · have hge : i = a.length := by simp at hge; omega
      rw [hge, List.drop_length, hl, List.drop_length] at hd
      rw [decide_eq_true (hd.2 rfl)] at h
      exact h
  · rw [if_neg (by omega)]
    rw [decide_eq_false (fun h => hl (congrArg List.length h))] at h
    exact h

theorem eqr_s (a b : List Int) (hb : a.length < 2 ^ 60) (k : Bool → Prop) (h : k (decide (a = b))) : N61.f a b k := by
  rw [N61.f_def]
  unfold N61.f0 N61.c N61.l4'
  simp only [br_bne]
  by_cases hl : a.length = b.length
  · rw [if_pos (by exact congrArg Int.ofNat hl)]
    refine loopS_of (fun s : Int => ∃ i : Nat, s = i ∧ i ≤ a.length ∧ (a = b ↔ a.drop i = b.drop i)) (fun s => a.length - s.toNat) ?_ ⟨0, rfl, Nat.zero_le _, Iff.rfl⟩
    rintro again s ⟨i, rfl, hi, hd⟩ hag
    unfold N61.l4 N61.j8' N61.j8
    refine br_of (fun hlt => ?_) (fun hge => ?_)
    · have hlt := len_lt.1 hlt
      refine ⟨inB_ok hlt, inB_ok (by omega), ?_⟩
      simp only [Int.toNat_natCast, br_bne]
      rw [drop_eq (d := 0) hlt (by omega)] at hd
      split
      · rename_i he
        rw [wrap_id (by omega) (by omega)]
        exact hag _ ⟨i + 1, by simp, by omega, hd.trans ⟨fun h => h.2, fun h => ⟨he, h⟩⟩⟩ (by omega)
      · rename_i he
        rw [decide_eq_false (fun h => he (hd.1 h).1)] at h
        exact h
    · have hge : i = a.length := by simp at hge; omega
      rw [hge, List.drop_length, hl, List.drop_length] at hd
      rw [decide_eq_true (hd.2 rfl)] at h
      exact h
  · rw [if_neg (by omega)]
    rw [decide_eq_false (fun h => hl (congrArg List.length h))] at h
    exact h

theorem cl_eq (c d : Cl) : (c = d) ↔ c.1 = d.1 ∧ c.2 = d.2 := by cases c; cases d; simp

theorem call_s (c d : Cl) (hb : c.2.length < 2 ^ 60) (k : Bool → Prop) (h : k (decide (c = d))) : N73.f c.1 c.2 d.1 d.2 k := by
  rw [N73.f_def]
  unfold N73.f0 N73.c
  rw [bmk]
  simp only [br_dec]
  split
  · rename_i he
    refine eq_s _ _ hb _ ?_
    have : decide (c.2 = d.2) = decide (c = d) := by simp [cl_eq, he]
    rw [this]; exact h
  · rename_i he
    rw [decide_eq_false (fun h => he (by rw [h]))] at h
    exact h

theorem callr_s (c d : Cl) (hb : c.2.length < 2 ^ 60) (k : Bool → Prop) (h : k (decide (c = d))) : N74.f c.1 c.2 d.1 d.2 k := by
  rw [N74.f_def]
  unfold N74.f0 N74.c N74.j2000002' N74.j2000002 N74.j3' N74.j3 N74.l4'
  rw [bmk]
  simp only [br_not, br_dec, br_true]
  by_cases hn : c.1 = d.1
  · rw [if_pos hn]
    by_cases hl : c.2.length = d.2.length
    · rw [show ((c.2.length : Int) != (d.2.length : Int)) = false by simp [hl]]
      simp only [br_false]
      have h : k (decide (c.2 = d.2)) := by
        have : decide (c.2 = d.2) = decide (c = d) := by simp [cl_eq, hn]
        rw [this]; exact h
      generalize c.2 = a at *
      generalize d.2 = b at *
      refine loopS_of (fun s : Int => ∃ i : Nat, s = i ∧ i ≤ a.length ∧ (a = b ↔ a.drop i = b.drop i)) (fun s => a.length - s.toNat) ?_ ⟨0, rfl, Nat.zero_le _, Iff.rfl⟩
      rintro again s ⟨i, rfl, hi, hd⟩ hag
      unfold N74.l4 N74.j8' N74.j8
      refine br_of (fun hlt => ?_) (fun hge => ?_)
      · have hlt := len_lt.1 hlt
        refine ⟨inB_ok hlt, inB_ok (by omega), ?_⟩
        simp only [Int.toNat_natCast, br_bne]
        rw [drop_eq (d := 0) hlt (by omega)] at hd
        split
        · rename_i he
          rw [wrap_id (by omega) (by omega)]
          exact hag _ ⟨i + 1, by simp, by omega, hd.trans ⟨fun h => h.2, fun h => ⟨he, h⟩⟩⟩ (by omega)
        · rename_i he
          rw [decide_eq_false (fun h => he (hd.1 h).1)] at h
          exact h
      · have hge : i = a.length := by simp at hge; omega
        rw [hge, List.drop_length, hl, List.drop_length] at hd
        rw [decide_eq_true (hd.2 rfl)] at h
        exact h
    · rw [show ((c.2.length : Int) != (d.2.length : Int)) = true by simp; omega]
      simp only [br_true]
      rw [decide_eq_false (fun h => hl (by rw [h]))] at h
      exact h
  · rw [if_neg hn]
    rw [decide_eq_false (fun h => hn (by rw [h]))] at h
    exact h

theorem calls_s (a b : List Cl) (hb : a.length < 2 ^ 60) (hb2 : ∀ c ∈ a, c.2.length < 2 ^ 60) (k : Bool → Prop) (h : k (decide (a = b))) : N72.f a b k := by
  rw [N72.f_def]
  unfold N72.f0 N72.c N72.l4'
  simp only [br_bne]
  by_cases hl : a.length = b.length
  · rw [if_pos (by exact congrArg Int.ofNat hl)]
    refine loopS_of (fun s : Int => ∃ i : Nat, s = i ∧ i ≤ a.length ∧ (a = b ↔ a.drop i = b.drop i)) (fun s => a.length - s.toNat) ?_ ⟨0, rfl, Nat.zero_le _, Iff.rfl⟩
    rintro again s ⟨i, rfl, hi, hd⟩ hag
    unfold N72.l4 N72.j10' N72.j10
    refine br_of (fun hlt => ?_) (fun hge => ?_)
    · have hlt := len_lt.1 hlt
      refine ⟨inB_ok hlt, inB_ok (by omega), ?_⟩
      simp only [Int.toNat_natCast]
      rw [drop_eq (d := ((ByteArray.empty, []) : Cl)) hlt (by omega)] at hd
      have hm := getD_mem hlt
      refine call_s _ _ (hb2 _ hm) _ ?_
      simp only [br_not, br_dec]
      split
      · rename_i he
        rw [wrap_id (by omega) (by omega)]
        exact hag _ ⟨i + 1, by simp, by omega, hd.trans ⟨fun h => h.2, fun h => ⟨he, h⟩⟩⟩ (by omega)
      · rename_i he
        rw [decide_eq_false (fun h => he (hd.1 h).1)] at h
        exact h
    · have hge : i = a.length := by simp at hge; omega
      rw [hge, List.drop_length, hl, List.drop_length] at hd
      rw [decide_eq_true (hd.2 rfl)] at h
      exact h
  · rw [if_neg (by omega)]
    rw [decide_eq_false (fun h => hl (congrArg List.length h))] at h
    exact h

/-- Are two runs seen alike? -/
abbrev sameP (cs : List Cl) (e v : Int) (mem : List Int) (left : Int) (cs' : List Cl) (e' v' : Int) (mem' : List Int) (left' : Int) : Prop := e = e' ∧ v = v' ∧ left = left' ∧ mem = mem' ∧ cs = cs'

theorem same_s (cs : List Cl) (e v : Int) (mem : List Int) (left : Int) (cs' : List Cl) (e' v' : Int) (mem' : List Int) (left' : Int) (hb : cs.length < 2 ^ 60) (hb2 : ∀ c ∈ cs, c.2.length < 2 ^ 60) (hm : mem.length < 2 ^ 60) (k : Bool → Prop) (h : k (decide (sameP cs e v mem left cs' e' v' mem' left'))) : N36.f cs e v mem left cs' e' v' mem' left' k := by
  rw [N36.f_def]
  unfold N36.f0 N36.c
  simp only [N70.f_def, N70.f0, N70.c]
  by_cases h1 : e = e'
  · by_cases h2 : v = v'
    · by_cases h3 : left = left'
      · subst h1; subst h2; subst h3
        simp only [beq_self_eq_true, Bool.and_self, br_true]
        refine eq_s _ _ hm _ ?_
        simp only [br_dec]
        split
        · rename_i h4
          refine calls_s _ _ hb hb2 _ ?_
          have : decide (cs = cs') = decide (sameP cs e v mem left cs' e v mem' left) := by simp [sameP, h4]
          rw [this]; exact h
        · rename_i h4
          rw [decide_eq_false (fun q => h4 q.2.2.2.1)] at h
          exact h
      · rw [decide_eq_false (fun q => h3 q.2.2.1)] at h
        rw [show (left == left') = false by simp [h3]]
        simp only [Bool.false_and, Bool.and_false, br_false]
        exact h
    · rw [decide_eq_false (fun q => h2 q.2.1)] at h
      rw [show (v == v') = false by simp [h2]]
      simp only [Bool.false_and, Bool.and_false, br_false]
      exact h
  · rw [decide_eq_false (fun q => h1 q.1)] at h
    rw [show (e == e') = false by simp [h1]]
    simp only [Bool.false_and, br_false]
    exact h

theorem samer_s (cs : List Cl) (e v : Int) (mem : List Int) (left : Int) (cs' : List Cl) (e' v' : Int) (mem' : List Int) (left' : Int) (hb : cs.length < 2 ^ 60) (hb2 : ∀ c ∈ cs, c.2.length < 2 ^ 60) (hm : mem.length < 2 ^ 60) (k : Bool → Prop) (h : k (decide (sameP cs e v mem left cs' e' v' mem' left'))) : N37.f cs e v mem left cs' e' v' mem' left' k := by
  rw [N37.f_def]
  unfold N37.f0 N37.c N37.j2000002' N37.j2000002 N37.j3' N37.j3 N37.l4'
  simp only [br_bne, br_true]
  split
  rotate_left
  · rename_i h1; rw [decide_eq_false (fun q => h1 q.1)] at h; exact h
  rename_i h1
  split
  rotate_left
  · rename_i h1; rw [decide_eq_false (fun q => h1 q.2.1)] at h; exact h
  rename_i h2
  split
  rotate_left
  · rename_i h1; rw [decide_eq_false (fun q => h1 q.2.2.1)] at h; exact h
  rename_i h3
  refine eqr_s _ _ hm _ ?_
  simp only [br_not, br_dec]
  split
  rotate_left
  · rename_i h1; rw [decide_eq_false (fun q => h1 q.2.2.2.1)] at h; exact h
  rename_i h4
  have h5 : decide (sameP cs e v mem left cs' e' v' mem' left') = decide (cs = cs') := by simp [sameP, h1, h2, h3, h4]
  rw [h5] at h
  split
  · rename_i hl
    have hl : cs.length = cs'.length := by omega
    refine loopS_of (fun s : Int => ∃ i : Nat, s = i ∧ i ≤ cs.length ∧ (cs = cs' ↔ cs.drop i = cs'.drop i)) (fun s => cs.length - s.toNat) ?_ ⟨0, rfl, Nat.zero_le _, Iff.rfl⟩
    rintro again s ⟨i, rfl, hi, hd⟩ hag
    unfold N37.l4 N37.j2000007' N37.j2000007 N37.j8' N37.j8 N37.j5' N37.j5
    refine br_of (fun hlt => ?_) (fun hge => ?_)
    · have hlt := len_lt.1 hlt
      refine ⟨inB_ok hlt, inB_ok (by omega), ?_⟩
      simp only [Int.toNat_natCast]
      rw [drop_eq (d := ((ByteArray.empty, []) : Cl)) hlt (by omega), cl_eq] at hd
      have hm := getD_mem hlt
      rw [bmk]
      simp only [br_not, br_dec, br_true]
      split
      · rename_i he
        refine ⟨inB_ok hlt, inB_ok (by omega), eqr_s _ _ (hb2 _ hm) _ ?_⟩
        simp only [br_dec]
        split
        · rename_i he2
          rw [wrap_id (by omega) (by omega)]
          exact hag _ ⟨i + 1, by simp, by omega, hd.trans ⟨fun h => h.2, fun h => ⟨⟨he, he2⟩, h⟩⟩⟩ (by omega)
        · rename_i he2
          rw [decide_eq_false (fun h => he2 (hd.1 h).1.2)] at h
          exact h
      · rename_i he
        rw [decide_eq_false (fun h => he (hd.1 h).1.1)] at h
        exact h
    · have hge : i = cs.length := by simp at hge; omega
      rw [hge, List.drop_length, hl, List.drop_length] at hd
      rw [decide_eq_true (hd.2 rfl)] at h
      exact h
  · rename_i hl
    rw [decide_eq_false (fun q => hl (by rw [q]))] at h
    exact h

/-! ### Where two runs part -/
def partsL : List Cl → List Cl → Nat → Int
  | [], [], _ => -1
  | [], _ :: _, n => n
  | _ :: _, [], n => n
  | c :: cs, d :: ds, n => if c = d then partsL cs ds (n + 1) else n

theorem partsL_step {a b : List Cl} {i : Nat} (ha : i < a.length) (hb : i < b.length) (n : Nat) : partsL (a.drop i) (b.drop i) n = if a.getD i (ByteArray.empty, []) = b.getD i (ByteArray.empty, []) then partsL (a.drop (i + 1)) (b.drop (i + 1)) (n + 1) else n := by
  rw [drop_getD (d := ((ByteArray.empty, []) : Cl)) ha, drop_getD (d := ((ByteArray.empty, []) : Cl)) hb, partsL]
theorem partsL_end {a b : List Cl} {i : Nat} (h : i = a.length ∨ i = b.length) (ha : i ≤ a.length) (hb : i ≤ b.length) (n : Nat) : partsL (a.drop i) (b.drop i) n = if a.length = b.length then (-1 : Int) else (n : Int) := by
  by_cases e : a.length = b.length
  · rw [if_pos e, show a.drop i = [] from List.drop_eq_nil_of_le (by omega), show b.drop i = [] from List.drop_eq_nil_of_le (by omega), partsL]
  · rw [if_neg e]
    rcases h with h | h
    · have h2 : i < b.length := by omega
      rw [show a.drop i = [] from List.drop_eq_nil_of_le (by omega), drop_getD (d := ((ByteArray.empty, []) : Cl)) h2, partsL]
    · have h2 : i < a.length := by omega
      rw [show b.drop i = [] from List.drop_eq_nil_of_le (by omega), drop_getD (d := ((ByteArray.empty, []) : Cl)) h2, partsL]
theorem mmv_min (a b : Nat) : mmv false (a : Int) (b : Int) = ((min a b : Nat) : Int) := by
  unfold mmv; simp only; split <;> omega

theorem parts_s (cs : List Cl) (e v : Int) (mem : List Int) (left : Int) (cs' : List Cl) (e' v' : Int) (mem' : List Int) (left' : Int) (hb : cs.length < 2 ^ 60) (hb2 : ∀ c ∈ cs, c.2.length < 2 ^ 60) (k : Int → Prop) (h : k (partsL cs cs' 0)) : N38.f cs e v mem left cs' e' v' mem' left' k := by
  rw [N38.f_def]
  unfold N38.f0 N38.c N38.l3'
  rw [mmv_min]
  refine loopS_of (fun s : Int => ∃ i : Nat, s = i ∧ i ≤ cs.length ∧ i ≤ cs'.length ∧ partsL cs cs' 0 = partsL (cs.drop i) (cs'.drop i) i) (fun s => cs.length - s.toNat) ?_ ⟨0, rfl, Nat.zero_le _, Nat.zero_le _, rfl⟩
  rintro again s ⟨i, rfl, hi, hi2, hd⟩ hag
  unfold N38.l3 N38.j8' N38.j8
  refine br_of (fun hlt => ?_) (fun hge => ?_)
  · have hlt := len_lt.1 hlt
    have h1 : i < cs.length := by omega
    have h2 : i < cs'.length := by omega
    refine ⟨inB_ok h1, inB_ok h2, ?_⟩
    simp only [Int.toNat_natCast]
    refine call_s _ _ (hb2 _ (getD_mem h1)) _ ?_
    rw [partsL_step h1 h2] at hd
    simp only [br_not, br_dec]
    split
    · rename_i he
      rw [if_pos he] at hd
      rw [wrap_id (by omega) (by omega)]
      exact hag _ ⟨i + 1, by simp, by omega, by omega, hd⟩ (by omega)
    · rename_i he
      rw [if_neg he] at hd
      rw [hd] at h
      exact h
  · have hge : i = min cs.length cs'.length := by simp at hge; omega
    rw [partsL_end (by omega) (by omega) (by omega)] at hd
    simp only [br_bne]
    rw [hd] at h
    split
    · rename_i he; rw [if_pos (by omega)] at h; exact h
    · rename_i he; rw [if_neg (by omega), hge] at h; exact h

theorem partsr_s (cs : List Cl) (e v : Int) (mem : List Int) (left : Int) (cs' : List Cl) (e' v' : Int) (mem' : List Int) (left' : Int) (hb : cs.length < 2 ^ 60) (hb' : cs'.length < 2 ^ 60) (hb2 : ∀ c ∈ cs, c.2.length < 2 ^ 60) (k : Int → Prop) (h : k (partsL cs cs' 0)) : N39.f cs e v mem left cs' e' v' mem' left' k := by
  rw [N39.f_def]
  unfold N39.f0 N39.c N39.l2'
  refine loopS_of (fun s : Int => ∃ i : Nat, s = i ∧ i ≤ cs.length ∧ i ≤ cs'.length ∧ partsL cs cs' 0 = partsL (cs.drop i) (cs'.drop i) i) (fun s => cs.length - s.toNat) ?_ ⟨0, rfl, Nat.zero_le _, Nat.zero_le _, rfl⟩
  rintro again s ⟨i, rfl, hi, hi2, hd⟩ hag
  unfold N39.l2 N39.j4' N39.j4 N39.j6' N39.j6 N39.j2000005' N39.j2000005 N39.j3' N39.j3
  simp only [Int.toNat_natCast, br_true]
  have fin : (i = cs.length ∨ i = cs'.length) → cs.length ≠ cs'.length → k (i : Int) := by
    intro hq hne
    rw [partsL_end hq hi hi2, if_neg hne] at hd
    rw [hd] at h; exact h
  have step : br (decide ((i : Int) ≥ (cs.length : Int))) (k i) (br (decide ((i : Int) ≥ (cs'.length : Int))) (k i) (inB 0 (i : Int) ((cs.length : Int) - 1) ∧ inB 0 (i : Int) ((cs'.length : Int) - 1) ∧ N74.f (cs.getD i (ByteArray.empty, [])).1 (cs.getD i (ByteArray.empty, [])).2 (cs'.getD i (ByteArray.empty, [])).1 (cs'.getD i (ByteArray.empty, [])).2 (fun y => br (!y) (k i) (again (IntKind.i64.wrap ((i : Int) + 1)))))) ∨ cs.length = cs'.length ∧ i = cs.length := by
    by_cases hend : cs.length = cs'.length ∧ i = cs.length
    · exact .inr hend
    refine .inl ?_
    simp only [br_dec]
    split
    · exact fin (by omega) (by omega)
    · split
      · exact fin (by omega) (by omega)
      · have h1 : i < cs.length := by omega
        have h2 : i < cs'.length := by omega
        refine ⟨inB_ok h1, inB_ok h2, callr_s _ _ (hb2 _ (getD_mem h1)) _ ?_⟩
        rw [partsL_step h1 h2] at hd
        simp only [br_not, br_dec]
        split
        · rename_i he
          rw [if_pos he] at hd
          rw [wrap_id (by omega) (by omega)]
          exact hag _ ⟨i + 1, by simp, by omega, by omega, hd⟩ (by omega)
        · rename_i he
          rw [if_neg he] at hd
          rw [hd] at h
          exact h
  rcases step with st | ⟨h1, h2⟩
  · refine br_of (fun _ => st) (fun hge => br_of (fun _ => st) (fun hge2 => ?_))
    rw [partsL_end (by simp at hge; omega) hi hi2, if_pos (by simp at hge hge2; omega)] at hd
    rw [hd] at h; exact h
  · rw [partsL_end (by omega) hi hi2, if_pos h1] at hd
    rw [hd] at h
    simp only [br_dec]
    rw [if_neg (by omega), if_neg (by omega)]
    exact h

def pfx (p : Int) (m : Nat) : Bool := decide (p < 0) || p == (m : Int)
theorem pfx_eq (n m : Nat) : pfx (n : Int) m = decide (n = m) := by
  unfold pfx
  rw [decide_eq_false (by omega), Bool.false_or]
  by_cases h : n = m
  · rw [h, decide_eq_true rfl]; exact beq_self_eq_true _
  · rw [decide_eq_false h]
    have : (n : Int) ≠ (m : Int) := by omega
    simp [this]
theorem partsL_prefix : ∀ (a b : List Cl) (n : Nat), (if a.length ≤ b.length then decide (a = b.take a.length) else false) = pfx (partsL a b n) (a.length + n)
  | [], [], n => by rw [partsL]; rfl
  | [], y :: b, n => by
    rw [partsL, pfx_eq]
    simp
  | x :: a, [], n => by
    rw [partsL, pfx_eq]
    simp
  | x :: a, y :: b, n => by
    have ih := partsL_prefix a b (n + 1)
    rw [partsL]
    by_cases hxy : x = y
    · rw [if_pos hxy, show (x :: a).length + n = a.length + (n + 1) by simp only [List.length_cons]; omega, ← ih]
      simp [hxy]
    · rw [if_neg hxy, pfx_eq]
      simp [hxy]

def beginsB (a b : List Cl) : Bool := if a.length ≤ b.length then decide (a = b.take a.length) else false

theorem begins_s (cs : List Cl) (e v : Int) (mem : List Int) (left : Int) (cs' : List Cl) (e' v' : Int) (mem' : List Int) (left' : Int) (hb : cs.length < 2 ^ 60) (hb2 : ∀ c ∈ cs, c.2.length < 2 ^ 60) (k : Bool → Prop) (h : k (beginsB cs cs')) : N40.f cs e v mem left cs' e' v' mem' left' k := by
  rw [N40.f_def]
  unfold N40.f0 N40.c
  unfold beginsB at h
  simp only [br_dec]
  split
  · rename_i hl
    rw [if_pos (by omega)] at h
    refine ⟨⟨by omega, by omega, by omega⟩, ?_⟩
    simp only [Int.toNat_natCast, Int.toNat_zero, List.drop_zero]
    exact calls_s _ _ hb hb2 _ h
  · rename_i hl
    rw [if_neg (by omega)] at h
    exact h

theorem beginsr_s (cs : List Cl) (e v : Int) (mem : List Int) (left : Int) (cs' : List Cl) (e' v' : Int) (mem' : List Int) (left' : Int) (hb : cs.length < 2 ^ 60) (hb' : cs'.length < 2 ^ 60) (hb2 : ∀ c ∈ cs, c.2.length < 2 ^ 60) (k : Bool → Prop) (h : k (beginsB cs cs')) : N41.f cs e v mem left cs' e' v' mem' left' k := by
  rw [N41.f_def]
  unfold N41.f0 N41.c
  refine partsr_s _ _ _ _ _ _ _ _ _ _ hb hb' hb2 _ ?_
  have := partsL_prefix cs cs' 0
  unfold beginsB at h
  rw [this] at h
  unfold pfx at h
  simp only [br_dec]
  split
  · rename_i hq; rw [decide_eq_true hq] at h; exact h
  · rename_i hq; rw [decide_eq_false hq] at h; exact h

/-! ### What works of itself -/
abbrev cF : Cl := (ByteArray.mk #[102], [(1 : Int)])
abbrev cG : Cl := (ByteArray.mk #[103], [])
theorem works_s (k : Bool → Prop) (h : k true) : N35.f k := by
  rw [N35.f_def]
  unfold N35.f0 N35.c
  have m1 : ∀ c ∈ [cF], c.2.length < 2 ^ 60 := by intro c hc; rw [List.mem_singleton.1 hc]; decide
  have m2 : ∀ c ∈ [cF, cG], c.2.length < 2 ^ 60 := by
    intro c hc
    rcases List.mem_cons.1 hc with rfl | hc
    · decide
    · rw [List.mem_singleton.1 hc]; decide
  refine same_s [cF] _ _ _ _ [cF] _ _ _ _ (by decide) m1 (by decide) _ ?_
  rw [decide_eq_true ⟨rfl, rfl, rfl, rfl, rfl⟩, br_true]
  refine same_s [cF] _ _ _ _ [cF, cG] _ _ _ _ (by decide) m1 (by decide) _ ?_
  rw [decide_eq_false (fun q => absurd q.1 (by decide)), Bool.not_false, br_true]
  refine begins_s [cF] _ _ _ _ [cF, cG] _ _ _ _ (by decide) m1 _ ?_
  rw [show beginsB [cF] [cF, cG] = true by unfold beginsB; rw [if_pos (by decide)]; exact decide_eq_true rfl, br_true]
  refine begins_s [cF, cG] _ _ _ _ [cF] _ _ _ _ (by decide) m2 _ ?_
  rw [show beginsB [cF, cG] [cF] = false by unfold beginsB; rw [if_neg (by decide)], Bool.not_false, br_true]
  refine parts_s [cF] _ _ _ _ [cF, cG] _ _ _ _ (by decide) m1 _ ?_
  rw [show partsL [cF] [cF, cG] 0 = 1 by rw [partsL, if_pos rfl, partsL]; rfl]
  simp only [beq_self_eq_true, br_true]
  refine ending_s 5 _ ?_
  rw [show bytesOf (endW 5) = ByteArray.mk #[102, 117, 101, 108] from rfl, beqS_self, br_true]
  refine text_s [cF] 1 7 [3] 2 ⟨by decide, by decide, ?_, ?_, by unfold in64; decide, by unfold in64; decide, by unfold in64; decide⟩ _ ?_
  · intro c hc x hx
    rw [List.mem_singleton.1 hc] at hx
    rw [List.mem_singleton.1 hx]; unfold in64; decide
  · intro x hx; rw [List.mem_singleton.1 hx]; unfold in64; decide
  · rw [show bytesOf (textL [cF] 1 7 [3] 2) = ByteArray.mk #[99, 97, 108, 108, 32, 34, 102, 34, 32, 49, 10, 101, 110, 100, 32, 114, 101, 116, 32, 49, 32, 55, 10, 109, 101, 109, 32, 51, 10, 108, 101, 102, 116, 32, 50, 10] by decide +kernel, beqS_self]
    exact h

theorem large_s (cs : List Cl) (e v : Int) (mem : List Int) (left : Int) (ok : (cs.map callB).sum ≤ 1048576 ∧ mem.length ≤ 1048576) (k : Bool → Prop) (h1 : k true) (h2 : k false) : N34.f cs e v mem left k := by
  rw [N34.f_def]
  unfold N34.f0 N34.c N34.l3'
  have hlen := bulk_len cs
  refine loopS_of (fun s : Int × Int => ∃ i : Nat, s.2 = i ∧ i ≤ cs.length) (fun s => cs.length - s.2.toNat) ?_ ⟨0, rfl, Nat.zero_le _⟩
  rintro again ⟨a, b⟩ ⟨i, e1, hi⟩ hag
  simp only at e1
  subst e1
  unfold N34.l3 N34.j6' N34.j6
  dsimp only
  refine br_of (fun hlt => ?_) (fun hge => ?_)
  · have hlt := len_lt.1 hlt
    refine ⟨inB_ok hlt, inB_ok hlt, ?_⟩
    rw [wrap_id (n := ((i : Int) + 1)) (by omega) (by omega)]
    exact hag _ ⟨i + 1, by simp, by omega⟩ (by simp only; omega)
  · cases decide (a > (600 : Int)) with
    | true => exact h1
    | false => exact h2
end Go.Proofs.Yu
namespace Go.Proofs.Yu
open Go Go.Aw Go.Proofs Go.RowKit
set_option linter.unusedVariables false
set_option linter.unusedSimpArgs false

abbrev ObsTy : Ty := Ty.pair (Ty.list (Ty.pair Ty.str (Ty.list (Ty.int IntKind.i64)))) (Ty.pair (Ty.int IntKind.i64) (Ty.pair (Ty.int IntKind.i64) (Ty.pair (Ty.list (Ty.int IntKind.i64)) (Ty.int IntKind.i64))))
abbrev ObsV := List Cl × (Int × (Int × (List Int × Int)))

theorem ones (l : List Int) : (List.map (fun _ : Int => 1) l).sum = l.length := by
  induction l with
  | nil => rfl
  | cons x l ih => rw [List.map_cons, List.sum_cons, ih, List.length_cons]; omega
theorem bulk_obs (x : ObsV) : Ty.bulk ObsTy x = ((x.1.map callB).sum + 1) + (1 + (1 + ((x.2.2.2.1.length + 1) + 1))) := by
  have h : ∀ c : Cl, Ty.bulk (Ty.pair Ty.str (Ty.list (Ty.int IntKind.i64))) c = callB c := by
    intro c
    show (c.1.size + 1) + ((List.map (fun _ : Int => 1) c.2).sum + 1) = _
    rw [ones]; rfl
  show ((List.map (Ty.bulk (Ty.pair Ty.str (Ty.list (Ty.int IntKind.i64)))) x.1).sum + 1) + (1 + (1 + (((List.map (fun _ : Int => 1) x.2.2.2.1).sum + 1) + 1))) = _
  rw [ones, show (Ty.bulk (Ty.pair Ty.str (Ty.list (Ty.int IntKind.i64)))) = callB from funext h]; rfl
theorem in64_wf {n : Int} (h : Ty.Wf (Ty.int IntKind.i64) n) : in64 n := wf64 h
theorem obsOk_of (x : ObsV) (w : Ty.Wf ObsTy x) (hb : Ty.bulk ObsTy x ≤ 1048576) : ObsOk x.1 x.2.1 x.2.2.1 x.2.2.2.1 x.2.2.2.2 := by
  rw [bulk_obs] at hb
  obtain ⟨⟨_, w1⟩, w2, w3, ⟨_, w4⟩, w5⟩ := w
  exact ⟨by omega, by omega, fun c hc y hy => in64_wf ((w1 c hc).2.2 y hy), fun y hy => in64_wf (w4 y hy), in64_wf w2, in64_wf w3, in64_wf w5⟩

theorem ok_small {cs : List Cl} {e v : Int} {mem : List Int} {left : Int} (ok : ObsOk cs e v mem left) : cs.length < 2 ^ 60 ∧ (∀ c ∈ cs, c.2.length < 2 ^ 60) ∧ mem.length < 2 ^ 60 := by
  have h1 := bulk_len cs
  have h2 := ok.calls
  have h3 := ok.memL
  refine ⟨by omega, fun c hc => ?_, by omega⟩
  have := bulk_mem hc
  have := bulk_call c
  omega
end Go.Proofs.Yu
namespace Go.Proofs.Yu
open Go Go.Aw Go.Proofs
set_option linter.unusedVariables false
set_option linter.unusedSimpArgs false
set_option maxRecDepth 100000
/-! dyehouse/dyehouselaw35.ObsBegins$1 -/
namespace N46
noncomputable def cfg : Cfg := { P := Try.prog, ty := tys, E := tab [], atSeq := tab [], atLoop := tab [], outs := [], eqT := tab [], bT := tab [] }
noncomputable def body : Code := bodyOf Try.f46
def c (x0 : Int) (x1_0 : (List (ByteArray × (List Int)))) (x1_1 : Int) (x1_2 : Int) (x1_3 : (List Int)) (x1_4 : Int) (k : (List (ByteArray × (List Int))) → Int → Int → (List Int) → Int → Prop) : Prop :=
  (((IntKind.i64.wrap (((((x1_0).length : Nat) : Int)) + (1 : Int))) ≠ 0) ∧ ((inB 0 (Int.tmod (IntKind.i64.wrap x0) (IntKind.i64.wrap (((((x1_0).length : Nat) : Int)) + (1 : Int)))) (((x1_0).length : Nat) : Int)) ∧ (k (List.drop (Int.toNat 0) (List.take (Int.toNat (Int.tmod (IntKind.i64.wrap x0) (IntKind.i64.wrap (((((x1_0).length : Nat) : Int)) + (1 : Int))))) x1_0)) x1_1 x1_2 x1_3 x1_4)))
def f0 (x0 : Int) (x1_0 : (List (ByteArray × (List Int)))) (x1_1 : Int) (x1_2 : Int) (x1_3 : (List Int)) (x1_4 : Int) (k : (List (ByteArray × (List Int))) → Int → Int → (List Int) → Int → Prop) : Prop := c x0 x1_0 x1_1 x1_2 x1_3 x1_4 k
theorem f_ex : ∃ g : Int → (List (ByteArray × (List Int))) → Int → Int → (List Int) → Int → ((List (ByteArray × (List Int))) → Int → Int → (List Int) → Int → Prop) → Prop, g = f0 := ⟨_, rfl⟩
noncomputable def f : Int → (List (ByteArray × (List Int))) → Int → Int → (List Int) → Int → ((List (ByteArray × (List Int))) → Int → Int → (List Int) → Int → Prop) → Prop := Classical.choose f_ex
theorem f_def : f = f0 := Classical.choose_spec f_ex
noncomputable def JJ (k kp : D → List Blk → Prop) : Nat → St → Prop := pick none' []
noncomputable def LL (k kp : D → List Blk → Prop) : Nat → St → Prop := pick none' []
theorem c_c (k kp : D → List Blk → Prop) (J L : Nat → St → Prop) (x0 : Int) (x1_0 : (List (ByteArray × (List Int)))) (x1_1 : Int) (x1_2 : Int) (x1_3 : (List Int)) (x1_4 : Int) : runC cfg 1000001 J L none'' [] body (topK cfg Try.f46 k kp) (st0 Try.f46 [(.v (.int IntKind.u8 x0)), (.fp [(.fz (Ty.pair Ty.str (Ty.list (Ty.int IntKind.i64))) x1_0), (.v (.int IntKind.i64 x1_1)), (.v (.int IntKind.i64 x1_2)), (.fz (Ty.int IntKind.i64) x1_3), (.v (.int IntKind.i64 x1_4))])] []) = c x0 x1_0 x1_1 x1_2 x1_3 x1_4 (fun y0_0 y0_1 y0_2 y0_3 y0_4 => k (.agg [(.fz (Ty.pair Ty.str (Ty.list (Ty.int IntKind.i64))) y0_0), (.v (.int IntKind.i64 y0_1)), (.v (.int IntKind.i64 y0_2)), (.fz (Ty.int IntKind.i64) y0_3), (.v (.int IntKind.i64 y0_4))]) []) := by kernel_rfl
theorem c_ag (k kp : D → List Blk → Prop) : agPL cfg 1000001 (JJ k kp) (LL k kp) [] body = agPR cfg 1000001 none'' [] body (topK cfg Try.f46 k kp) := by kernel_rfl
theorem body_is : Try.f46.body = some body := by kernel_rfl
theorem c_raw (k kp : D → List Blk → Prop) (x0 : Int) (x1_0 : (List (ByteArray × (List Int)))) (x1_1 : Int) (x1_2 : Int) (x1_3 : (List Int)) (x1_4 : Int) : funW cfg Try.f46 [(.v (.int IntKind.u8 x0)), (.fp [(.fz (Ty.pair Ty.str (Ty.list (Ty.int IntKind.i64))) x1_0), (.v (.int IntKind.i64 x1_1)), (.v (.int IntKind.i64 x1_2)), (.fz (Ty.int IntKind.i64) x1_3), (.v (.int IntKind.i64 x1_4))])] [] k kp = c x0 x1_0 x1_1 x1_2 x1_3 x1_4 (fun y0_0 y0_1 y0_2 y0_3 y0_4 => k (.agg [(.fz (Ty.pair Ty.str (Ty.list (Ty.int IntKind.i64))) y0_0), (.v (.int IntKind.i64 y0_1)), (.v (.int IntKind.i64 y0_2)), (.fz (Ty.int IntKind.i64) y0_3), (.v (.int IntKind.i64 y0_4))]) []) :=
  Eq.mp (by kernel_rfl) ((funW_run (AG := none'') body_is (c_ag k kp) [(.v (.int IntKind.u8 x0)), (.fp [(.fz (Ty.pair Ty.str (Ty.list (Ty.int IntKind.i64))) x1_0), (.v (.int IntKind.i64 x1_1)), (.v (.int IntKind.i64 x1_2)), (.fz (Ty.int IntKind.i64) x1_3), (.v (.int IntKind.i64 x1_4))])] []).trans (c_c k kp (JJ k kp) (LL k kp) x0 x1_0 x1_1 x1_2 x1_3 x1_4))
theorem f_eq (k kp : D → List Blk → Prop) (x0 : Int) (x1_0 : (List (ByteArray × (List Int)))) (x1_1 : Int) (x1_2 : Int) (x1_3 : (List Int)) (x1_4 : Int) : funW cfg Try.f46 [(.v (.int IntKind.u8 x0)), (.fp [(.fz (Ty.pair Ty.str (Ty.list (Ty.int IntKind.i64))) x1_0), (.v (.int IntKind.i64 x1_1)), (.v (.int IntKind.i64 x1_2)), (.fz (Ty.int IntKind.i64) x1_3), (.v (.int IntKind.i64 x1_4))])] [] k kp = f x0 x1_0 x1_1 x1_2 x1_3 x1_4 (fun y0_0 y0_1 y0_2 y0_3 y0_4 => k (.agg [(.fz (Ty.pair Ty.str (Ty.list (Ty.int IntKind.i64))) y0_0), (.v (.int IntKind.i64 y0_1)), (.v (.int IntKind.i64 y0_2)), (.fz (Ty.int IntKind.i64) y0_3), (.v (.int IntKind.i64 y0_4))]) []) := by
  rw [f_def, c_raw]; rfl
noncomputable def ent0 : Entry := fun args blks k _ => match args, blks with
  | [d0, d1], [] => aInt IntKind.u8 d0 fun x0 => aFp 5 d1 fun l => aCons l fun d1_0 l => aCons l fun d1_1 l => aCons l fun d1_2 l => aCons l fun d1_3 l => aCons l fun d1_4 l => aNil l (aFz (Ty.pair Ty.str (Ty.list (Ty.int IntKind.i64))) d1_0 fun x1_0 => aInt IntKind.i64 d1_1 fun x1_1 => aInt IntKind.i64 d1_2 fun x1_2 => aFz (Ty.int IntKind.i64) d1_3 fun x1_3 => aInt IntKind.i64 d1_4 fun x1_4 => f x0 x1_0 x1_1 x1_2 x1_3 x1_4 (fun y0_0 y0_1 y0_2 y0_3 y0_4 => k (.agg [(.fz (Ty.pair Ty.str (Ty.list (Ty.int IntKind.i64))) y0_0), (.v (.int IntKind.i64 y0_1)), (.v (.int IntKind.i64 y0_2)), (.fz (Ty.int IntKind.i64) y0_3), (.v (.int IntKind.i64 y0_4))]) []))
  | _, _ => False
noncomputable def ent : Entry := fun args blks k kp => ent0 (convB [.no, .cells [some (Ty.pair Ty.str (Ty.list (Ty.int IntKind.i64))), none, none, some (Ty.int IntKind.i64), none]] args) blks k kp
theorem ok : EntOk Try.prog 0 0 46 ent := by
  refine EntOk.convB (EntOk.of (funW_ok (cfg := cfg) (tyOk_of rfl rfl tyL_ok) (eqOk_of (P := Try.prog) rfl rfl (by kernel_rfl)) mixed_ok (tab_ok ?_) Try.func46 (by rfl) (by rfl)) ?_) _
  · intro p hp
    cases hp
  · intro args blks k kp h k' kp'
    match args, blks, h with
    | [d0, d1], [], h =>
    dsimp only [ent0] at h
    have h9 := aInt_elim h; clear h; obtain ⟨x0, rfl, h⟩ := h9
    have h9 := aFp_elim h; clear h; obtain ⟨_, rfl, h⟩ := h9
    have h9 := aCons_elim h; clear h; obtain ⟨d1_0, _, rfl, h⟩ := h9
    have h9 := aCons_elim h; clear h; obtain ⟨d1_1, _, rfl, h⟩ := h9
    have h9 := aCons_elim h; clear h; obtain ⟨d1_2, _, rfl, h⟩ := h9
    have h9 := aCons_elim h; clear h; obtain ⟨d1_3, _, rfl, h⟩ := h9
    have h9 := aCons_elim h; clear h; obtain ⟨d1_4, _, rfl, h⟩ := h9
    have h9 := aNil_elim h; clear h; obtain ⟨rfl, h⟩ := h9
    have h9 := aFz_elim (t := (Ty.pair Ty.str (Ty.list (Ty.int IntKind.i64)))) h; clear h; obtain ⟨x1_0, rfl, h⟩ := h9
    have h9 := aInt_elim h; clear h; obtain ⟨x1_1, rfl, h⟩ := h9
    have h9 := aInt_elim h; clear h; obtain ⟨x1_2, rfl, h⟩ := h9
    have h9 := aFz_elim (t := (Ty.int IntKind.i64)) h; clear h; obtain ⟨x1_3, rfl, h⟩ := h9
    have h9 := aInt_elim h; clear h; obtain ⟨x1_4, rfl, h⟩ := h9
    exact (f_eq k' kp' x0 x1_0 x1_1 x1_2 x1_3 x1_4).symm
end N46
end Go.Proofs.Yu
namespace Go.Proofs.Yu
open Go Go.Aw Go.Proofs
set_option linter.unusedVariables false
set_option linter.unusedSimpArgs false
set_option maxRecDepth 100000
/-! dyehouse/dyehouselaw35.ObsBegins -/
namespace N10
noncomputable def cfg : Cfg := { P := Try.prog, ty := tys, E := tab [(34, N34.ent), (35, N35.ent), (46, N46.ent), (40, N40.ent), (36, N36.ent)], atSeq := tab [(2000006, ⟨[(6, .keep), (7, .keep), (38, .keep)]⟩), (7, ⟨[(6, .keep), (7, .keep)]⟩)], atLoop := tab [], outs := [], eqT := tab [], bT := tab [], fzB := [2], lt := [13, 17, 21, 42, 45, 48, 49, 50, 54, 58, 62, 63, 64, 66], pd := [(6, 52), (7, 52), (8, 52)] }
noncomputable def body : Code := bodyOf Try.f10
def j2000006 (j7 : (List (ByteArray × (List Int))) → Int → Int → (List Int) → Int → (List (ByteArray × (List Int))) → Int → Int → (List Int) → Int → Prop) (x38 : Bool) (b0_0 : (List (ByteArray × (List Int)))) (b0_1 : Int) (b0_2 : Int) (b0_3 : (List Int)) (b0_4 : Int) (b1_0 : (List (ByteArray × (List Int)))) (b1_1 : Int) (b1_2 : Int) (b1_3 : (List Int)) (b1_4 : Int) (k : Bool → Prop) : Prop :=
  (br x38 (k false) (j7 b0_0 b0_1 b0_2 b0_3 b0_4 b1_0 b1_1 b1_2 b1_3 b1_4))
def j7 (b0_0 : (List (ByteArray × (List Int)))) (b0_1 : Int) (b0_2 : Int) (b0_3 : (List Int)) (b0_4 : Int) (b1_0 : (List (ByteArray × (List Int)))) (b1_1 : Int) (b1_2 : Int) (b1_3 : (List Int)) (b1_4 : Int) (k : Bool → Prop) : Prop :=
  (N40.f b0_0 b0_1 b0_2 b0_3 b0_4 b1_0 b1_1 b1_2 b1_3 b1_4 (fun (y0_8 : Bool) => (br (y0_8 == (decide (((((b0_0).length : Nat) : Int)) ≤ ((((b1_0).length : Nat) : Int))))) (N40.f b0_0 b0_1 b0_2 b0_3 b0_4 b1_0 b1_1 b1_2 b1_3 b1_4 (fun (y0_9 : Bool) => (br y0_9 (N40.f b1_0 b1_1 b1_2 b1_3 b1_4 b0_0 b0_1 b0_2 b0_3 b0_4 (fun (y0_10 : Bool) => (N36.f b0_0 b0_1 b0_2 b0_3 b0_4 b1_0 b1_1 b1_2 b1_3 b1_4 (fun (y0_11 : Bool) => (br (y0_10 == y0_11) (N35.f (fun (y0_12 : Bool) => (k y0_12))) (k false)))))) (N36.f b0_0 b0_1 b0_2 b0_3 b0_4 b1_0 b1_1 b1_2 b1_3 b1_4 (fun (y0_13 : Bool) => (br (false == y0_13) (N35.f (fun (y0_14 : Bool) => (k y0_14))) (k false))))))) (k false))))
def c (j2000006 : Bool → (List (ByteArray × (List Int))) → Int → Int → (List Int) → Int → (List (ByteArray × (List Int))) → Int → Int → (List Int) → Int → Prop) (x0_0 : (List (ByteArray × (List Int)))) (x0_1 : Int) (x0_2 : Int) (x0_3 : (List Int)) (x0_4 : Int) (x1_0 : Int) (x1_1 : Int) (x1_2 : Int) (k : Bool → Prop) : Prop :=
  (N34.f x0_0 x0_1 x0_2 x0_3 x0_4 (fun (y0_0 : Bool) => (br y0_0 (N35.f (fun (y0_1 : Bool) => (k y0_1))) (N46.f x1_0 x0_0 x0_1 x0_2 x0_3 x0_4 (fun (y0_0_2 : (List (ByteArray × (List Int)))) (y0_1_2 : Int) (y0_2_2 : Int) (y0_3_2 : (List Int)) (y0_4_2 : Int) => (N46.f x1_1 x0_0 x0_1 x0_2 x0_3 x0_4 (fun (y0_0_3 : (List (ByteArray × (List Int)))) (y0_1_3 : Int) (y0_2_3 : Int) (y0_3_3 : (List Int)) (y0_4_3 : Int) => (N46.f x1_2 x0_0 x0_1 x0_2 x0_3 x0_4 (fun (y0_0_4 : (List (ByteArray × (List Int)))) (y0_1_4 : Int) (y0_2_4 : Int) (y0_3_4 : (List Int)) (y0_4_4 : Int) => (N40.f y0_0_2 y0_1_2 y0_2_2 y0_3_2 y0_4_2 y0_0_3 y0_1_3 y0_2_3 y0_3_3 y0_4_3 (fun (y0_5 : Bool) => (br y0_5 (N40.f y0_0_3 y0_1_3 y0_2_3 y0_3_3 y0_4_3 y0_0_4 y0_1_4 y0_2_4 y0_3_4 y0_4_4 (fun (y0_6 : Bool) => (br y0_6 (N40.f y0_0_2 y0_1_2 y0_2_2 y0_3_2 y0_4_2 y0_0_4 y0_1_4 y0_2_4 y0_3_4 y0_4_4 (fun (y0_7 : Bool) => (j2000006 (!y0_7) y0_0_2 y0_1_2 y0_2_2 y0_3_2 y0_4_2 y0_0_3 y0_1_3 y0_2_3 y0_3_3 y0_4_3))) (j2000006 false y0_0_2 y0_1_2 y0_2_2 y0_3_2 y0_4_2 y0_0_3 y0_1_3 y0_2_3 y0_3_3 y0_4_3)))) (j2000006 false y0_0_2 y0_1_2 y0_2_2 y0_3_2 y0_4_2 y0_0_3 y0_1_3 y0_2_3 y0_3_3 y0_4_3)))))))))))))
def j7' (b0_0 : (List (ByteArray × (List Int)))) (b0_1 : Int) (b0_2 : Int) (b0_3 : (List Int)) (b0_4 : Int) (b1_0 : (List (ByteArray × (List Int)))) (b1_1 : Int) (b1_2 : Int) (b1_3 : (List Int)) (b1_4 : Int) (k : Bool → Prop) : Prop := j7 b0_0 b0_1 b0_2 b0_3 b0_4 b1_0 b1_1 b1_2 b1_3 b1_4 k
def j2000006' (x38 : Bool) (b0_0 : (List (ByteArray × (List Int)))) (b0_1 : Int) (b0_2 : Int) (b0_3 : (List Int)) (b0_4 : Int) (b1_0 : (List (ByteArray × (List Int)))) (b1_1 : Int) (b1_2 : Int) (b1_3 : (List Int)) (b1_4 : Int) (k : Bool → Prop) : Prop := j2000006 (fun b0_0 b0_1 b0_2 b0_3 b0_4 b1_0 b1_1 b1_2 b1_3 b1_4 => j7' b0_0 b0_1 b0_2 b0_3 b0_4 b1_0 b1_1 b1_2 b1_3 b1_4 k) x38 b0_0 b0_1 b0_2 b0_3 b0_4 b1_0 b1_1 b1_2 b1_3 b1_4 k
def f0 (x0_0 : (List (ByteArray × (List Int)))) (x0_1 : Int) (x0_2 : Int) (x0_3 : (List Int)) (x0_4 : Int) (x1_0 : Int) (x1_1 : Int) (x1_2 : Int) (k : Bool → Prop) : Prop := c (fun x38 b0_0 b0_1 b0_2 b0_3 b0_4 b1_0 b1_1 b1_2 b1_3 b1_4 => j2000006' x38 b0_0 b0_1 b0_2 b0_3 b0_4 b1_0 b1_1 b1_2 b1_3 b1_4 k) x0_0 x0_1 x0_2 x0_3 x0_4 x1_0 x1_1 x1_2 k
theorem f_ex : ∃ g : (List (ByteArray × (List Int))) → Int → Int → (List Int) → Int → Int → Int → Int → (Bool → Prop) → Prop, g = f0 := ⟨_, rfl⟩
noncomputable def f : (List (ByteArray × (List Int))) → Int → Int → (List Int) → Int → Int → Int → Int → (Bool → Prop) → Prop := Classical.choose f_ex
theorem f_def : f = f0 := Classical.choose_spec f_ex
def m2000006 (x38 : Bool) (b0_0 : (List (ByteArray × (List Int)))) (b0_1 : Int) (b0_2 : Int) (b0_3 : (List Int)) (b0_4 : Int) (b1_0 : (List (ByteArray × (List Int)))) (b1_1 : Int) (b1_2 : Int) (b1_3 : (List Int)) (b1_4 : Int) : St := { tmps := mkT 67 0 [(6, (.ptr 0 0)), (7, (.ptr 1 0)), (38, (.v (.bool x38)))], hp := [(.box 52 [(.fz (Ty.pair Ty.str (Ty.list (Ty.int IntKind.i64))) b0_0), (.v (.int IntKind.i64 b0_1)), (.v (.int IntKind.i64 b0_2)), (.fz (Ty.int IntKind.i64) b0_3), (.v (.int IntKind.i64 b0_4))]), (.box 52 [(.fz (Ty.pair Ty.str (Ty.list (Ty.int IntKind.i64))) b1_0), (.v (.int IntKind.i64 b1_1)), (.v (.int IntKind.i64 b1_2)), (.fz (Ty.int IntKind.i64) b1_3), (.v (.int IntKind.i64 b1_4))])], m := 0 }
def m7 (b0_0 : (List (ByteArray × (List Int)))) (b0_1 : Int) (b0_2 : Int) (b0_3 : (List Int)) (b0_4 : Int) (b1_0 : (List (ByteArray × (List Int)))) (b1_1 : Int) (b1_2 : Int) (b1_3 : (List Int)) (b1_4 : Int) : St := { tmps := mkT 67 0 [(6, (.ptr 0 0)), (7, (.ptr 1 0))], hp := [(.box 52 [(.fz (Ty.pair Ty.str (Ty.list (Ty.int IntKind.i64))) b0_0), (.v (.int IntKind.i64 b0_1)), (.v (.int IntKind.i64 b0_2)), (.fz (Ty.int IntKind.i64) b0_3), (.v (.int IntKind.i64 b0_4))]), (.box 52 [(.fz (Ty.pair Ty.str (Ty.list (Ty.int IntKind.i64))) b1_0), (.v (.int IntKind.i64 b1_1)), (.v (.int IntKind.i64 b1_2)), (.fz (Ty.int IntKind.i64) b1_3), (.v (.int IntKind.i64 b1_4))])], m := 0 }
noncomputable def X2000006 (k kp : D → List Blk → Prop) : St → Prop := atP cfg (pick none' []) [1, 1, 1, 1, 0, 1] body (topK cfg Try.f10 k kp)
noncomputable def X7 (k kp : D → List Blk → Prop) : St → Prop := atP cfg (pick none' []) [1, 1, 1, 1, 1] body (topK cfg Try.f10 k kp)
noncomputable def JJ (k kp : D → List Blk → Prop) : Nat → St → Prop := pick none' [(2000006, X2000006 k kp), (7, X7 k kp)]
noncomputable def LL (k kp : D → List Blk → Prop) : Nat → St → Prop := pick none' []
theorem j7_c (k kp : D → List Blk → Prop) (J L : Nat → St → Prop) (b0_0 : (List (ByteArray × (List Int)))) (b0_1 : Int) (b0_2 : Int) (b0_3 : (List Int)) (b0_4 : Int) (b1_0 : (List (ByteArray × (List Int)))) (b1_1 : Int) (b1_2 : Int) (b1_3 : (List Int)) (b1_4 : Int) : runC cfg 7 J L (pick none' []) [1, 1, 1, 1, 1] body (topK cfg Try.f10 k kp) (m7 b0_0 b0_1 b0_2 b0_3 b0_4 b1_0 b1_1 b1_2 b1_3 b1_4) = j7 b0_0 b0_1 b0_2 b0_3 b0_4 b1_0 b1_1 b1_2 b1_3 b1_4 (fun y0 => k (.v (.bool y0)) []) := by kernel_rfl
theorem j7_ag (k kp : D → List Blk → Prop) : agPL cfg 7 (JJ k kp) (LL k kp) [1, 1, 1, 1, 1] body = agPR cfg 7 (pick none' []) [1, 1, 1, 1, 1] body (topK cfg Try.f10 k kp) := by kernel_rfl
theorem j7_raw (k kp : D → List Blk → Prop) (b0_0 : (List (ByteArray × (List Int)))) (b0_1 : Int) (b0_2 : Int) (b0_3 : (List Int)) (b0_4 : Int) (b1_0 : (List (ByteArray × (List Int)))) (b1_1 : Int) (b1_2 : Int) (b1_3 : (List Int)) (b1_4 : Int) : X7 k kp (m7 b0_0 b0_1 b0_2 b0_3 b0_4 b1_0 b1_1 b1_2 b1_3 b1_4) = j7 b0_0 b0_1 b0_2 b0_3 b0_4 b1_0 b1_1 b1_2 b1_3 b1_4 (fun y0 => k (.v (.bool y0)) []) :=
  Eq.mp (by kernel_rfl) ((atP_run (j7_ag k kp) (m7 b0_0 b0_1 b0_2 b0_3 b0_4 b1_0 b1_1 b1_2 b1_3 b1_4)).trans (j7_c k kp (JJ k kp) (LL k kp) b0_0 b0_1 b0_2 b0_3 b0_4 b1_0 b1_1 b1_2 b1_3 b1_4))
theorem j7_eq (k kp : D → List Blk → Prop) (b0_0 : (List (ByteArray × (List Int)))) (b0_1 : Int) (b0_2 : Int) (b0_3 : (List Int)) (b0_4 : Int) (b1_0 : (List (ByteArray × (List Int)))) (b1_1 : Int) (b1_2 : Int) (b1_3 : (List Int)) (b1_4 : Int) : X7 k kp (m7 b0_0 b0_1 b0_2 b0_3 b0_4 b1_0 b1_1 b1_2 b1_3 b1_4) = j7' b0_0 b0_1 b0_2 b0_3 b0_4 b1_0 b1_1 b1_2 b1_3 b1_4 (fun y0 => k (.v (.bool y0)) []) := by
  rw [j7_raw]; rfl
theorem j2000006_c (k kp : D → List Blk → Prop) (J L : Nat → St → Prop) (x38 : Bool) (b0_0 : (List (ByteArray × (List Int)))) (b0_1 : Int) (b0_2 : Int) (b0_3 : (List Int)) (b0_4 : Int) (b1_0 : (List (ByteArray × (List Int)))) (b1_1 : Int) (b1_2 : Int) (b1_3 : (List Int)) (b1_4 : Int) : runC cfg 2000006 J L (pick none' []) [1, 1, 1, 1, 0, 1] body (topK cfg Try.f10 k kp) (m2000006 x38 b0_0 b0_1 b0_2 b0_3 b0_4 b1_0 b1_1 b1_2 b1_3 b1_4) = j2000006 (fun b0_0 b0_1 b0_2 b0_3 b0_4 b1_0 b1_1 b1_2 b1_3 b1_4 => J 7 (m7 b0_0 b0_1 b0_2 b0_3 b0_4 b1_0 b1_1 b1_2 b1_3 b1_4)) x38 b0_0 b0_1 b0_2 b0_3 b0_4 b1_0 b1_1 b1_2 b1_3 b1_4 (fun y0 => k (.v (.bool y0)) []) := by kernel_rfl
theorem j2000006_ag (k kp : D → List Blk → Prop) : agPL cfg 2000006 (JJ k kp) (LL k kp) [1, 1, 1, 1, 0, 1] body = agPR cfg 2000006 (pick none' []) [1, 1, 1, 1, 0, 1] body (topK cfg Try.f10 k kp) := by kernel_rfl
theorem j2000006_raw (k kp : D → List Blk → Prop) (x38 : Bool) (b0_0 : (List (ByteArray × (List Int)))) (b0_1 : Int) (b0_2 : Int) (b0_3 : (List Int)) (b0_4 : Int) (b1_0 : (List (ByteArray × (List Int)))) (b1_1 : Int) (b1_2 : Int) (b1_3 : (List Int)) (b1_4 : Int) : X2000006 k kp (m2000006 x38 b0_0 b0_1 b0_2 b0_3 b0_4 b1_0 b1_1 b1_2 b1_3 b1_4) = j2000006 (fun b0_0 b0_1 b0_2 b0_3 b0_4 b1_0 b1_1 b1_2 b1_3 b1_4 => X7 k kp (m7 b0_0 b0_1 b0_2 b0_3 b0_4 b1_0 b1_1 b1_2 b1_3 b1_4)) x38 b0_0 b0_1 b0_2 b0_3 b0_4 b1_0 b1_1 b1_2 b1_3 b1_4 (fun y0 => k (.v (.bool y0)) []) :=
  Eq.mp (by kernel_rfl) ((atP_run (j2000006_ag k kp) (m2000006 x38 b0_0 b0_1 b0_2 b0_3 b0_4 b1_0 b1_1 b1_2 b1_3 b1_4)).trans (j2000006_c k kp (JJ k kp) (LL k kp) x38 b0_0 b0_1 b0_2 b0_3 b0_4 b1_0 b1_1 b1_2 b1_3 b1_4))
theorem j2000006_eq (k kp : D → List Blk → Prop) (x38 : Bool) (b0_0 : (List (ByteArray × (List Int)))) (b0_1 : Int) (b0_2 : Int) (b0_3 : (List Int)) (b0_4 : Int) (b1_0 : (List (ByteArray × (List Int)))) (b1_1 : Int) (b1_2 : Int) (b1_3 : (List Int)) (b1_4 : Int) : X2000006 k kp (m2000006 x38 b0_0 b0_1 b0_2 b0_3 b0_4 b1_0 b1_1 b1_2 b1_3 b1_4) = j2000006' x38 b0_0 b0_1 b0_2 b0_3 b0_4 b1_0 b1_1 b1_2 b1_3 b1_4 (fun y0 => k (.v (.bool y0)) []) := by
  rw [j2000006_raw]; simp only [j7_eq]; first | done | rfl
theorem c_c (k kp : D → List Blk → Prop) (J L : Nat → St → Prop) (x0_0 : (List (ByteArray × (List Int)))) (x0_1 : Int) (x0_2 : Int) (x0_3 : (List Int)) (x0_4 : Int) (x1_0 : Int) (x1_1 : Int) (x1_2 : Int) : runC cfg 1000001 J L none'' [] body (topK cfg Try.f10 k kp) (st0 Try.f10 [(.agg [(.fz (Ty.pair Ty.str (Ty.list (Ty.int IntKind.i64))) x0_0), (.v (.int IntKind.i64 x0_1)), (.v (.int IntKind.i64 x0_2)), (.fz (Ty.int IntKind.i64) x0_3), (.v (.int IntKind.i64 x0_4))]), (.agg [(.v (.int IntKind.u8 x1_0)), (.v (.int IntKind.u8 x1_1)), (.v (.int IntKind.u8 x1_2))])] []) = c (fun x38 b0_0 b0_1 b0_2 b0_3 b0_4 b1_0 b1_1 b1_2 b1_3 b1_4 => J 2000006 (m2000006 x38 b0_0 b0_1 b0_2 b0_3 b0_4 b1_0 b1_1 b1_2 b1_3 b1_4)) x0_0 x0_1 x0_2 x0_3 x0_4 x1_0 x1_1 x1_2 (fun y0 => k (.v (.bool y0)) []) := by kernel_rfl
theorem c_ag (k kp : D → List Blk → Prop) : agPL cfg 1000001 (JJ k kp) (LL k kp) [] body = agPR cfg 1000001 none'' [] body (topK cfg Try.f10 k kp) := by kernel_rfl
theorem body_is : Try.f10.body = some body := by kernel_rfl
theorem c_raw (k kp : D → List Blk → Prop) (x0_0 : (List (ByteArray × (List Int)))) (x0_1 : Int) (x0_2 : Int) (x0_3 : (List Int)) (x0_4 : Int) (x1_0 : Int) (x1_1 : Int) (x1_2 : Int) : funW cfg Try.f10 [(.agg [(.fz (Ty.pair Ty.str (Ty.list (Ty.int IntKind.i64))) x0_0), (.v (.int IntKind.i64 x0_1)), (.v (.int IntKind.i64 x0_2)), (.fz (Ty.int IntKind.i64) x0_3), (.v (.int IntKind.i64 x0_4))]), (.agg [(.v (.int IntKind.u8 x1_0)), (.v (.int IntKind.u8 x1_1)), (.v (.int IntKind.u8 x1_2))])] [] k kp = c (fun x38 b0_0 b0_1 b0_2 b0_3 b0_4 b1_0 b1_1 b1_2 b1_3 b1_4 => X2000006 k kp (m2000006 x38 b0_0 b0_1 b0_2 b0_3 b0_4 b1_0 b1_1 b1_2 b1_3 b1_4)) x0_0 x0_1 x0_2 x0_3 x0_4 x1_0 x1_1 x1_2 (fun y0 => k (.v (.bool y0)) []) :=
  Eq.mp (by kernel_rfl) ((funW_run (AG := none'') body_is (c_ag k kp) [(.agg [(.fz (Ty.pair Ty.str (Ty.list (Ty.int IntKind.i64))) x0_0), (.v (.int IntKind.i64 x0_1)), (.v (.int IntKind.i64 x0_2)), (.fz (Ty.int IntKind.i64) x0_3), (.v (.int IntKind.i64 x0_4))]), (.agg [(.v (.int IntKind.u8 x1_0)), (.v (.int IntKind.u8 x1_1)), (.v (.int IntKind.u8 x1_2))])] []).trans (c_c k kp (JJ k kp) (LL k kp) x0_0 x0_1 x0_2 x0_3 x0_4 x1_0 x1_1 x1_2))
theorem f_eq (k kp : D → List Blk → Prop) (x0_0 : (List (ByteArray × (List Int)))) (x0_1 : Int) (x0_2 : Int) (x0_3 : (List Int)) (x0_4 : Int) (x1_0 : Int) (x1_1 : Int) (x1_2 : Int) : funW cfg Try.f10 [(.agg [(.fz (Ty.pair Ty.str (Ty.list (Ty.int IntKind.i64))) x0_0), (.v (.int IntKind.i64 x0_1)), (.v (.int IntKind.i64 x0_2)), (.fz (Ty.int IntKind.i64) x0_3), (.v (.int IntKind.i64 x0_4))]), (.agg [(.v (.int IntKind.u8 x1_0)), (.v (.int IntKind.u8 x1_1)), (.v (.int IntKind.u8 x1_2))])] [] k kp = f x0_0 x0_1 x0_2 x0_3 x0_4 x1_0 x1_1 x1_2 (fun y0 => k (.v (.bool y0)) []) := by
  rw [f_def, c_raw]; simp only [j2000006_eq]; first | done | rfl
noncomputable def ent0 : Entry := fun args blks k _ => match args, blks with
  | [d0, d1], [] => aAgg 5 d0 fun l => aCons l fun d0_0 l => aCons l fun d0_1 l => aCons l fun d0_2 l => aCons l fun d0_3 l => aCons l fun d0_4 l => aNil l (aFz (Ty.pair Ty.str (Ty.list (Ty.int IntKind.i64))) d0_0 fun x0_0 => aInt IntKind.i64 d0_1 fun x0_1 => aInt IntKind.i64 d0_2 fun x0_2 => aFz (Ty.int IntKind.i64) d0_3 fun x0_3 => aInt IntKind.i64 d0_4 fun x0_4 => aAgg 3 d1 fun l => aCons l fun d1_0 l => aCons l fun d1_1 l => aCons l fun d1_2 l => aNil l (aInt IntKind.u8 d1_0 fun x1_0 => aInt IntKind.u8 d1_1 fun x1_1 => aInt IntKind.u8 d1_2 fun x1_2 => f x0_0 x0_1 x0_2 x0_3 x0_4 x1_0 x1_1 x1_2 (fun y0 => k (.v (.bool y0)) [])))
  | _, _ => False
noncomputable def ent : Entry := fun args blks k kp => ent0 (convB [.cells [some (Ty.pair Ty.str (Ty.list (Ty.int IntKind.i64))), none, none, some (Ty.int IntKind.i64), none], .no] args) blks k kp
theorem ok : EntOk Try.prog 0 0 10 ent := by
  refine EntOk.convB (EntOk.of (funW_ok (cfg := cfg) (tyOk_of rfl rfl tyL_ok) (eqOk_of (P := Try.prog) rfl rfl (by kernel_rfl)) mixed_ok (tab_ok ?_) Try.func10 (by rfl) (by rfl)) ?_) _
  · intro p hp
    simp only [List.mem_cons, List.not_mem_nil, or_false] at hp
    rcases hp with rfl | rfl | rfl | rfl | rfl
    · exact N34.ok
    · exact N35.ok
    · exact N46.ok
    · exact N40.ok
    · exact N36.ok
  · intro args blks k kp h k' kp'
    match args, blks, h with
    | [d0, d1], [], h =>
    dsimp only [ent0] at h
    have h9 := aAgg_elim h; clear h; obtain ⟨_, rfl, h⟩ := h9
    have h9 := aCons_elim h; clear h; obtain ⟨d0_0, _, rfl, h⟩ := h9
    have h9 := aCons_elim h; clear h; obtain ⟨d0_1, _, rfl, h⟩ := h9
    have h9 := aCons_elim h; clear h; obtain ⟨d0_2, _, rfl, h⟩ := h9
    have h9 := aCons_elim h; clear h; obtain ⟨d0_3, _, rfl, h⟩ := h9
    have h9 := aCons_elim h; clear h; obtain ⟨d0_4, _, rfl, h⟩ := h9
    have h9 := aNil_elim h; clear h; obtain ⟨rfl, h⟩ := h9
    have h9 := aFz_elim (t := (Ty.pair Ty.str (Ty.list (Ty.int IntKind.i64)))) h; clear h; obtain ⟨x0_0, rfl, h⟩ := h9
    have h9 := aInt_elim h; clear h; obtain ⟨x0_1, rfl, h⟩ := h9
    have h9 := aInt_elim h; clear h; obtain ⟨x0_2, rfl, h⟩ := h9
    have h9 := aFz_elim (t := (Ty.int IntKind.i64)) h; clear h; obtain ⟨x0_3, rfl, h⟩ := h9
    have h9 := aInt_elim h; clear h; obtain ⟨x0_4, rfl, h⟩ := h9
    have h9 := aAgg_elim h; clear h; obtain ⟨_, rfl, h⟩ := h9
    have h9 := aCons_elim h; clear h; obtain ⟨d1_0, _, rfl, h⟩ := h9
    have h9 := aCons_elim h; clear h; obtain ⟨d1_1, _, rfl, h⟩ := h9
    have h9 := aCons_elim h; clear h; obtain ⟨d1_2, _, rfl, h⟩ := h9
    have h9 := aNil_elim h; clear h; obtain ⟨rfl, h⟩ := h9
    have h9 := aInt_elim h; clear h; obtain ⟨x1_0, rfl, h⟩ := h9
    have h9 := aInt_elim h; clear h; obtain ⟨x1_1, rfl, h⟩ := h9
    have h9 := aInt_elim h; clear h; obtain ⟨x1_2, rfl, h⟩ := h9
    exact (f_eq k' kp' x0_0 x0_1 x0_2 x0_3 x0_4 x1_0 x1_1 x1_2).symm
end N10
end Go.Proofs.Yu
namespace Go.Proofs.Yu.ObsBegins
open Go Go.Aw Go.Proofs Go.Proofs.Ytbfggnlonemmiaa Go.ChangeShapes Go.WideShapes Go.ChangeAt Go.RowKit
set_option linter.unusedVariables false
set_option linter.unusedSimpArgs false
set_option maxRecDepth 100000
/-! 10 dyehouse/dyehouselaw35.ObsBegins -/
def Pure : Prop := ∀ (x0 : ((List (ByteArray × (List Int))) × (Int × (Int × ((List Int) × Int))))) (w0 : Ty.Wf (Ty.pair (Ty.list (Ty.pair Ty.str (Ty.list (Ty.int IntKind.i64)))) (Ty.pair (Ty.int IntKind.i64) (Ty.pair (Ty.int IntKind.i64) (Ty.pair (Ty.list (Ty.int IntKind.i64)) (Ty.int IntKind.i64))))) x0) (x1 : (Int × (Int × Int))) (w1 : Ty.Wf (Ty.pair (Ty.int IntKind.u8) (Ty.pair (Ty.int IntKind.u8) (Ty.int IntKind.u8))) x1), N10.f x0.1 x0.2.1 x0.2.2.1 x0.2.2.2.1 x0.2.2.2.2 x1.1 x1.2.1 x1.2.2 (fun y0 => y0 = true)
theorem own : ownKnob Try.prog.godebug = none := by kernel_rfl
theorem laid : laidOutB Try.prog = true := by kernel_rfl
theorem lifted (pure : Pure) (os : Os) (started : os.Started) (H : Type) (enc : TypeId × Value → H) :
    ReturnsInHanded {} Try.checked os 10 .any (Rows.obsBeginsSpec.pre6 enc Try.prog Try.f10 Rows.obsBeginsRow.domain false) (Rows.obsBeginsSpec.post enc Try.prog Try.f10 false true false false) := by
  refine returnsInHanded_of_change_sized (C := Try.checked) own started (by kernel_rfl) Try.func10
    (ChangeSpec.witness6 (enc := enc) (C := Try.checked) false ⟨#[], #[(Value.agg #[(Value.slice none 0 0), (Value.int IntKind.i64 (0 : Int)), (Value.int IntKind.i64 (0 : Int)), (Value.slice none 0 0), (Value.int IntKind.i64 (0 : Int))]), (Value.agg #[(Value.int IntKind.u8 (0 : Int)), (Value.int IntKind.u8 (0 : Int)), (Value.int IntKind.u8 (0 : Int))])], []⟩ 10 (by kernel_rfl) (by kernel_rfl) (by kernel_rfl) (by kernel_rfl)) ?_
  intro W base args ds gs before hval0 hW hcnd hsz0 _
  have hsz : (DataW.weightsEach Try.prog (Try.f10.params.toList ++ Rows.obsBeginsSpec.plain.varTypes Try.prog) (ds ++ gs)).all (· ≤ reachBytes) = true := hsz0
  have hval : ∀ (j : Nat) t v, Try.f10.params[j]? = some t → args[j]? = some v → Value.okWide Try.prog W .any base t v := hval0
  have hW' := hW
  have hlt := hW.lt
  obtain ⟨p, q, hA0, hV, rfl, hfz, hnd⟩ := hW
  have hA : DataW.TrodAll enc Try.prog W 0 (fun _ => true) true Try.f10.params.toList args.toList ds p := hA0
  have hAk := hA
  rw [Try.params10] at hA hval hsz
  obtain ⟨v0, vs0, d0, ds0, p0, q0, hargs, rfl, rfl, h0, r0⟩ := trodAll_cons hA
  obtain ⟨v1, vs1, d1, ds1, p1, q1, rfl, rfl, rfl, h1, r1⟩ := trodAll_cons r0
  obtain ⟨rfl, rfl, rfl⟩ := trodAll_nil r1
  obtain rfl : args = #[v0, v1] := by cases args; simp_all
  obtain ⟨rfl, rfl⟩ := trodVars_none hV
  obtain ⟨x0, k0, w0, q0⟩ := arg_agg (tf := 0) (tw := 0) (n := 60) (ty := (Ty.pair (Ty.list (Ty.pair Ty.str (Ty.list (Ty.int IntKind.i64)))) (Ty.pair (Ty.int IntKind.i64) (Ty.pair (Ty.int IntKind.i64) (Ty.pair (Ty.list (Ty.int IntKind.i64)) (Ty.int IntKind.i64)))))) (.inl ⟨_, Try.underlying52⟩) (hval 0 52 v0 rfl rfl) (by kernel_rfl) h0 (fun m hm => of_decide_eq_true (List.all_eq_true.1 hsz m (DataW.weights_mem_each (j := 0) rfl rfl m hm)))
  obtain ⟨x1, k1, w1, q1⟩ := arg_agg (tf := 0) (tw := 0) (n := 60) (ty := (Ty.pair (Ty.int IntKind.u8) (Ty.pair (Ty.int IntKind.u8) (Ty.int IntKind.u8)))) (.inr ⟨_, _, Try.underlying57⟩) (hval 1 57 v1 rfl rfl) (by kernel_rfl) h1 (fun m hm => of_decide_eq_true (List.all_eq_true.1 hsz m (DataW.weights_mem_each (j := 1) rfl rfl m hm)))
  refine (law_of N10.ok (W := W) (us := [v0, v1]) (ds := [.agg (expand (Ty.pair (Ty.list (Ty.pair Ty.str (Ty.list (Ty.int IntKind.i64)))) (Ty.pair (Ty.int IntKind.i64) (Ty.pair (Ty.int IntKind.i64) (Ty.pair (Ty.list (Ty.int IntKind.i64)) (Ty.int IntKind.i64))))) x0), .agg (expand (Ty.pair (Ty.int IntKind.u8) (Ty.pair (Ty.int IntKind.u8) (Ty.int IntKind.u8))) x1)]) ⟨_, _, rfl, k0, ⟨_, _, rfl, k1, by simp only [RepL]⟩⟩ (show N10.ent _ _ _ _ from pure x0 w0 x1 w1)).mono fun e W' ⟨he, bel⟩ => ?_
  subst he
  exact ⟨_, rfl, _, _, _, [], _, [], hW', trodAll_mk1 (shut_bool (by kernel_rfl) _), trodAll_below laid bel (by kernel_rfl) hAk (fun x hx => hlt x (by simpa using hx)), rfl, bel.frame _, fun h => by cases h⟩
theorem over (pure : Pure) : Rows.obsBeginsRow.holds Try.pinned (OpenSpec.ofChange Rows.obsBeginsSpec) :=
  OpenClaim.holds_of_wide 10 Try.f10 rfl rfl rfl rfl rfl rfl rfl ⟨rfl, rfl, rfl, rfl, rfl⟩ rfl rfl rfl rfl rfl (by kernel_rfl) Try.func10 (by kernel_rfl)
    (of_decide_eq_true (by kernel_rfl)) (by unfold Func.isWrapper; first | (rw [if_pos (by decide +kernel)]; kernel_rfl) | (rw [if_neg (by decide +kernel)]; exact ⟨rfl, rfl⟩))
    (fun os started H enc _ => lifted pure os started H enc)
theorem holds (pure : Pure) : Rows.ObsBeginsSaid := over pure
end Go.Proofs.Yu.ObsBegins
namespace Go.Proofs.Yu.ObsBegins
open Go Go.Aw Go.Proofs Go.RowKit
set_option linter.unusedVariables false
set_option linter.unusedSimpArgs false

theorem large_b (cs : List Cl) (e v : Int) (mem : List Int) (left : Int) (hlen : cs.length < 2 ^ 60) (k : Bool → Prop) (h1 : k true) (h2 : k false) : N34.f cs e v mem left k := by
  rw [N34.f_def]
  unfold N34.f0 N34.c N34.l3'
  refine loopS_of (fun s : Int × Int => ∃ i : Nat, s.2 = i ∧ i ≤ cs.length) (fun s => cs.length - s.2.toNat) ?_ ⟨0, rfl, Nat.zero_le _⟩
  rintro again ⟨a, b⟩ ⟨i, e1, hi⟩ hag
  simp only at e1
  subst e1
  unfold N34.l3 N34.j6' N34.j6
  dsimp only
  refine br_of (fun hlt => ?_) (fun hge => ?_)
  · have hlt := len_lt.1 hlt
    refine ⟨inB_ok hlt, inB_ok hlt, ?_⟩
    rw [wrap_id (n := ((i : Int) + 1)) (by omega) (by omega)]
    exact hag _ ⟨i + 1, by simp, by omega⟩ (by simp only; omega)
  · cases decide (a > (600 : Int)) with
    | true => exact h1
    | false => exact h2

theorem cut_b (n : Int) (hn : 0 ≤ n ∧ n < 256) (cs : List Cl) (e v : Int) (mem : List Int) (left : Int) (hlen : cs.length < 2 ^ 60) (k : List Cl → Int → Int → List Int → Int → Prop) (h : ∀ i, i ≤ cs.length → k (cs.take i) e v mem left) : N46.f n cs e v mem left k := by
  rw [N46.f_def]
  unfold N46.f0 N46.c
  rw [wrap_id (n := (cs.length : Int) + 1) (by omega) (by omega), wrap_id (n := n) (by omega) (by omega)]
  have h0 : 0 ≤ Int.tmod n ((cs.length : Int) + 1) := Int.tmod_nonneg _ hn.1
  have h1 : Int.tmod n ((cs.length : Int) + 1) < (cs.length : Int) + 1 := Int.tmod_lt_of_pos _ (by omega)
  refine ⟨by omega, ⟨by omega, by omega, by omega⟩, ?_⟩
  rw [show Int.toNat 0 = 0 from rfl, List.drop_zero]
  exact h _ (by omega)

theorem begins_take (cs : List Cl) {i j : Nat} (hi : i ≤ cs.length) (hj : j ≤ cs.length) : beginsB (cs.take i) (cs.take j) = decide (i ≤ j) := by
  unfold beginsB
  have li : (cs.take i).length = i := by simp; omega
  have lj : (cs.take j).length = j := by simp; omega
  rw [li, lj]
  by_cases h : i ≤ j
  · rw [if_pos h, List.take_take, Nat.min_eq_left h, decide_eq_true rfl, decide_eq_true h]
  · rw [if_neg h, decide_eq_false h]
theorem take_eq (cs : List Cl) {i j : Nat} (hi : i ≤ cs.length) (hj : j ≤ cs.length) : (cs.take i = cs.take j) ↔ i = j := by
  constructor
  · intro h
    have := congrArg List.length h
    rw [List.length_take, List.length_take] at this
    omega
  · rintro rfl; rfl

theorem pure : Pure := by
  intro x0 w0 n w1
  obtain ⟨cs, e, v, mem, left⟩ := x0
  obtain ⟨⟨wl, wc⟩, _, _, ⟨wm, _⟩, _⟩ := w0
  have hlen : cs.length < 2 ^ 60 := by
    have : cs.length * 1 ≤ reachBytes := Nat.le_trans (Nat.mul_le_mul_left _ (by decide)) wl
    have hr : reachBytes < 2 ^ 60 := by decide
    omega
  have hc2 : ∀ c ∈ cs, c.2.length < 2 ^ 60 := by
    intro c hc
    have := (wc c hc).2.1
    have : c.2.length * 1 ≤ reachBytes := Nat.le_trans (Nat.mul_le_mul_left _ (by decide)) this
    have hr : reachBytes < 2 ^ 60 := by decide
    omega
  have hm : mem.length < 2 ^ 60 := by
    have : mem.length * 1 ≤ reachBytes := Nat.le_trans (Nat.mul_le_mul_left _ (by decide)) wm
    have hr : reachBytes < 2 ^ 60 := by decide
    omega
  have hw : N35.f (fun y => y = true) := works_s _ rfl
  rw [N10.f_def]
  unfold N10.f0 N10.c
  refine large_b cs e v mem left hlen _ ?_ ?_
  · rw [br_true]; exact hw
  rw [br_false]
  have u8 : ∀ {k : Int}, Ty.Wf (Ty.int IntKind.u8) k → 0 ≤ k ∧ k < 256 := by
    intro k hk
    have hk : (Lit.int .u8 k).wf = true := hk
    simp [Lit.wf, IntKind.min, IntKind.max, IntKind.signed, IntKind.bits] at hk
    omega
  have tc : ∀ i, ∀ c ∈ cs.take i, c.2.length < 2 ^ 60 := fun i c hc => hc2 c (List.mem_of_mem_take hc)
  have tl : ∀ i, (cs.take i).length < 2 ^ 60 := fun i => by rw [List.length_take]; omega
  refine cut_b _ (u8 w1.1) cs e v mem left hlen _ fun i hi => ?_
  refine cut_b _ (u8 w1.2.1) cs e v mem left hlen _ fun j hj => ?_
  refine cut_b _ (u8 w1.2.2) cs e v mem left hlen _ fun l hl => ?_
  have rest : N10.j2000006' false (cs.take i) e v mem left (cs.take j) e v mem left (fun y => y = true) := by
    unfold N10.j2000006' N10.j2000006 N10.j7' N10.j7
    simp only [br_false]
    refine begins_s _ _ _ _ _ _ _ _ _ _ (tl i) (tc i) _ ?_
    rw [begins_take cs hi hj]
    have hle : decide (((cs.take i).length : Int) ≤ ((cs.take j).length : Int)) = decide (i ≤ j) := by
      rw [show (cs.take i).length = i by simp; omega, show (cs.take j).length = j by simp; omega]
      by_cases h : i ≤ j
      · rw [decide_eq_true h, decide_eq_true (by omega)]
      · rw [decide_eq_false h, decide_eq_false (by omega)]
    rw [hle]
    simp only [beq_self_eq_true, br_true]
    refine begins_s _ _ _ _ _ _ _ _ _ _ (tl i) (tc i) _ ?_
    rw [begins_take cs hi hj]
    have hs : ∀ b : Bool, decide (sameP (cs.take i) e v mem left (cs.take j) e v mem left) = decide (i = j) := by
      intro _
      by_cases h : i = j
      · rw [decide_eq_true h]
        subst h
        exact decide_eq_true ⟨rfl, rfl, rfl, rfl, rfl⟩
      · rw [decide_eq_false h]
        exact decide_eq_false (fun q => h ((take_eq cs hi hj).1 q.2.2.2.2))
    by_cases hij : i ≤ j
    · rw [decide_eq_true hij, br_true]
      refine begins_s _ _ _ _ _ _ _ _ _ _ (tl j) (tc j) _ ?_
      rw [begins_take cs hj hi]
      refine same_s _ _ _ _ _ _ _ _ _ _ (tl i) (tc i) hm _ ?_
      rw [hs true]
      have : decide (j ≤ i) = decide (i = j) := by
        by_cases h : i = j
        · rw [decide_eq_true h, decide_eq_true (by omega)]
        · rw [decide_eq_false h, decide_eq_false (by omega)]
      rw [this]
      simp only [beq_self_eq_true, br_true]
      exact hw
    · rw [decide_eq_false hij, br_false]
      refine same_s _ _ _ _ _ _ _ _ _ _ (tl i) (tc i) hm _ ?_
      rw [hs true, decide_eq_false (by omega : ¬ i = j)]
      simp only [beq_self_eq_true, br_true]
      exact hw
  refine begins_s _ _ _ _ _ _ _ _ _ _ (tl i) (tc i) _ ?_
  rw [begins_take cs hi hj]
  by_cases h1 : i ≤ j
  · rw [decide_eq_true h1, br_true]
    refine begins_s _ _ _ _ _ _ _ _ _ _ (tl j) (tc j) _ ?_
    rw [begins_take cs hj hl]
    by_cases h2 : j ≤ l
    · rw [decide_eq_true h2, br_true]
      refine begins_s _ _ _ _ _ _ _ _ _ _ (tl i) (tc i) _ ?_
      rw [begins_take cs hi hl, decide_eq_true (by omega : i ≤ l), Bool.not_true]
      exact rest
    · rw [decide_eq_false h2, br_false]
      exact rest
  · rw [decide_eq_false h1, br_false]
    exact rest

theorem proved : Go.Proofs.Ytbfggnlonemmiaa.Rows.ObsBeginsSaid := holds pure
end Go.Proofs.Yu.ObsBegins
namespace Go.Proofs.Ytbfggnlonemmiaa
/-- The statement. -/
theorem obsBegins_holds : Rows.ObsBeginsSaid := Go.Proofs.Yu.ObsBegins.proved
#print axioms obsBegins_holds
end Go.Proofs.Ytbfggnlonemmiaa
