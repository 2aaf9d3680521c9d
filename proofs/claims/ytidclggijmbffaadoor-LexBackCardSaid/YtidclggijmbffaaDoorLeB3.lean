/- Tokens that are told one behind the other, with a blank between, or with a remark, are the same tokens, but for where they stand; with no conditions. -/
import Derived.Test.YtidclggijmbffaaDoorLeB0
import Derived.Test.YtidclggijmbffaaDoorLeB2
import Derived.Test.YtidclggijmbffaaDoorLeB1
import Derived.Test.YtidclggijmbffaaDoorT2
import Derived.Test.YtidclggijmbffaaDoorCards
import Derived.Test.YtidclggijmbffaaDoorTie
import Derived.SevenTiedAt
import Derived.Deep.DeepHandedRow
import Derived.Test.YtidclggijmbffaaDoorRows
import Derived.WalkKit
import Derived.ProofKit
import Derived.OpenShut
import Derived.ShutString
import Derived.ChangeOld
import Derived.Below
import Derived.SizedLaws
import Derived.Deep.CondSized
set_option linter.unusedVariables false
set_option linter.unusedSimpArgs false
namespace Go.Proofs.Ye
open Go Go.Aw Go.Proofs
set_option maxRecDepth 100000
set_option maxHeartbeats 4000000
namespace N63
noncomputable def cfg : Cfg := { P := Tryd.prog, tf := 49, tw := 0, ty := tys, E := tab [(60, N60.ent), (61, N61.ent)], atSeq := tab [(2000003, ⟨[(0, .keep), (1, .keep), (3, .keep), (8, .keep), (10, .keep), (11, .keep), (12, .keep), (29, .keep)]⟩), (4, ⟨[(0, .keep), (1, .keep), (3, .keep), (8, .keep), (10, .keep), (11, .keep), (12, .keep)]⟩)], atLoop := tab [], outs := [], eqT := tab [], bT := tab [] }
noncomputable def body : Code := bodyOf Tryd.f63
def j2000003 (j4 : Int → Int → Int → Int → Int → BA → Int → Int → BA → Int → Int → Int → Prop) (x1 x3 : Int) (x10 x11 x12 : Int) (x29 : Bool) (b0_0 : BA) (b0_1 b1_0 : Int) (b1_1 : BA) (b1_2 b1_3 b1_4 : Int) (k : Int → BA → Int → Int → Int → Int → BA → Int → Prop) : Prop :=
  (br x29 (j4 x1 x3 x10 x11 (2 : Int) b0_0 b0_1 b1_0 b1_1 b1_2 b1_3 b1_4) (j4 x1 x3 x10 x11 x12 b0_0 b0_1 b1_0 b1_1 b1_2 b1_3 b1_4))
def j4 (x1 x3 : Int) (x10 x11 x12 : Int) (b0_0 : BA) (b0_1 b1_0 : Int) (b1_1 : BA) (b1_2 b1_3 b1_4 : Int) (k : Int → BA → Int → Int → Int → Int → BA → Int → Prop) : Prop :=
  (N61.f x1 (ByteArray.mk #[]) x10 x3 (0 : Int) x11 b0_0 b0_1 (fun (y0_0_1 : Int) (y0_1_1 : BA) (y0_2_1 y0_3_1 y0_4_1 : Int) (z0_0_1 : BA) (z0_1_1 : Int) => (k y0_0_1 y0_1_1 y0_2_1 y0_3_1 y0_4_1 x12 z0_0_1 z0_1_1)))
def c (j2000003 : Int → Int → Int → Int → Int → Bool → BA → Int → Int → BA → Int → Int → Int → Prop) (x1 x2 x3 : Int) (b0_0 : BA) (b0_1 : Int) (k : Int → BA → Int → Int → Int → Int → BA → Int → Prop) : Prop :=
  (N60.f x2 b0_0 b0_1 (fun (y0_0 y1_0 y2_0 : Int) (z0_0_0 : BA) (z0_1_0 : Int) => (br (y2_0 == (0 : Int)) (br (decide (y0_0 < (0 : Int))) (j2000003 x1 x3 y0_0 y1_0 y2_0 true z0_0_0 z0_1_0 (0 : Int) (ByteArray.mk #[]) (0 : Int) (0 : Int) (0 : Int)) (j2000003 x1 x3 y0_0 y1_0 y2_0 (decide (y0_0 > (2147483647 : Int))) z0_0_0 z0_1_0 (0 : Int) (ByteArray.mk #[]) (0 : Int) (0 : Int) (0 : Int))) (j2000003 x1 x3 y0_0 y1_0 y2_0 false z0_0_0 z0_1_0 (0 : Int) (ByteArray.mk #[]) (0 : Int) (0 : Int) (0 : Int)))))
def j4' (x1 x3 : Int) (x10 x11 x12 : Int) (b0_0 : BA) (b0_1 b1_0 : Int) (b1_1 : BA) (b1_2 b1_3 b1_4 : Int) (k : Int → BA → Int → Int → Int → Int → BA → Int → Prop) : Prop := j4 x1 x3 x10 x11 x12 b0_0 b0_1 b1_0 b1_1 b1_2 b1_3 b1_4 k
def j2000003' (x1 x3 : Int) (x10 x11 x12 : Int) (x29 : Bool) (b0_0 : BA) (b0_1 b1_0 : Int) (b1_1 : BA) (b1_2 b1_3 b1_4 : Int) (k : Int → BA → Int → Int → Int → Int → BA → Int → Prop) : Prop := j2000003 (fun x1 x3 x10 x11 x12 b0_0 b0_1 b1_0 b1_1 b1_2 b1_3 b1_4 => j4' x1 x3 x10 x11 x12 b0_0 b0_1 b1_0 b1_1 b1_2 b1_3 b1_4 k) x1 x3 x10 x11 x12 x29 b0_0 b0_1 b1_0 b1_1 b1_2 b1_3 b1_4 k
def f0 (x1 x2 x3 : Int) (b0_0 : BA) (b0_1 : Int) (k : Int → BA → Int → Int → Int → Int → BA → Int → Prop) : Prop := c (fun x1 x3 x10 x11 x12 x29 b0_0 b0_1 b1_0 b1_1 b1_2 b1_3 b1_4 => j2000003' x1 x3 x10 x11 x12 x29 b0_0 b0_1 b1_0 b1_1 b1_2 b1_3 b1_4 k) x1 x2 x3 b0_0 b0_1 k
theorem f_ex : ∃ g, g = f0 := ⟨_, rfl⟩
noncomputable def f := Classical.choose f_ex
theorem f_def : f = f0 := Classical.choose_spec f_ex
def m2000003 (x1 x3 : Int) (x10 x11 x12 : Int) (x29 : Bool) (b0_0 : BA) (b0_1 b1_0 : Int) (b1_1 : BA) (b1_2 b1_3 b1_4 : Int) : St := { tmps := mkT 38 0 [(0, (.ptr 0 0)), (1, (.v (.int .i64 x1))), (3, (.v (.int .i64 x3))), (8, (.ptr 1 0)), (10, (.v (.int .i64 x10))), (11, (.v (.int .i64 x11))), (12, (.v (.int .i64 x12))), (29, (.v (.bool x29)))], hp := [(.box 57 [(.v (.string b0_0)), (.v (.int .i64 b0_1))]), (.box 42 [(.v (.int .i64 b1_0)), (.v (.string b1_1)), (.v (.int .i64 b1_2)), (.v (.int .i64 b1_3)), (.v (.int .i64 b1_4))])], m := 1 }
def m4 (x1 x3 : Int) (x10 x11 x12 : Int) (b0_0 : BA) (b0_1 b1_0 : Int) (b1_1 : BA) (b1_2 b1_3 b1_4 : Int) : St := { tmps := mkT 38 0 [(0, (.ptr 0 0)), (1, (.v (.int .i64 x1))), (3, (.v (.int .i64 x3))), (8, (.ptr 1 0)), (10, (.v (.int .i64 x10))), (11, (.v (.int .i64 x11))), (12, (.v (.int .i64 x12)))], hp := [(.box 57 [(.v (.string b0_0)), (.v (.int .i64 b0_1))]), (.box 42 [(.v (.int .i64 b1_0)), (.v (.string b1_1)), (.v (.int .i64 b1_2)), (.v (.int .i64 b1_3)), (.v (.int .i64 b1_4))])], m := 1 }
noncomputable def X2000003 (k kp : KT) : St → Prop := atP cfg (pick none' []) [1, 1, 0, 1] body (topK cfg Tryd.f63 k kp)
noncomputable def X4 (k kp : KT) : St → Prop := atP cfg (pick none' []) [1, 1, 1] body (topK cfg Tryd.f63 k kp)
noncomputable def JJ (k kp : KT) : Nat → St → Prop := pick none' [(2000003, X2000003 k kp), (4, X4 k kp)]
noncomputable def LL (k kp : KT) : Nat → St → Prop := pick none' []
theorem j4_c (k kp : KT) (J L : Nat → St → Prop) (x1 x3 : Int) (x10 x11 x12 : Int) (b0_0 : BA) (b0_1 b1_0 : Int) (b1_1 : BA) (b1_2 b1_3 b1_4 : Int) : runC cfg 4 J L (pick none' []) [1, 1, 1] body (topK cfg Tryd.f63 k kp) (m4 x1 x3 x10 x11 x12 b0_0 b0_1 b1_0 b1_1 b1_2 b1_3 b1_4) = j4 x1 x3 x10 x11 x12 b0_0 b0_1 b1_0 b1_1 b1_2 b1_3 b1_4 (fun y0_0 y0_1 y0_2 y0_3 y0_4 y1 z0_0 z0_1 => k (.tup [(.agg [(.v (.int .i64 y0_0)), (.v (.string y0_1)), (.v (.int .i64 y0_2)), (.v (.int .i64 y0_3)), (.v (.int .i64 y0_4))]), (.v (.int .i64 y1))]) [(.box 57 [(.v (.string z0_0)), (.v (.int .i64 z0_1))])]) := by kernel_rfl
theorem j4_ag (k kp : KT) : agPL cfg 4 (JJ k kp) (LL k kp) [1, 1, 1] body = agPR cfg 4 (pick none' []) [1, 1, 1] body (topK cfg Tryd.f63 k kp) := by kernel_rfl
theorem j4_raw (k kp : KT) (x1 x3 : Int) (x10 x11 x12 : Int) (b0_0 : BA) (b0_1 b1_0 : Int) (b1_1 : BA) (b1_2 b1_3 b1_4 : Int) : X4 k kp (m4 x1 x3 x10 x11 x12 b0_0 b0_1 b1_0 b1_1 b1_2 b1_3 b1_4) = j4 x1 x3 x10 x11 x12 b0_0 b0_1 b1_0 b1_1 b1_2 b1_3 b1_4 (fun y0_0 y0_1 y0_2 y0_3 y0_4 y1 z0_0 z0_1 => k (.tup [(.agg [(.v (.int .i64 y0_0)), (.v (.string y0_1)), (.v (.int .i64 y0_2)), (.v (.int .i64 y0_3)), (.v (.int .i64 y0_4))]), (.v (.int .i64 y1))]) [(.box 57 [(.v (.string z0_0)), (.v (.int .i64 z0_1))])]) :=
  Eq.mp (by kernel_rfl) ((atP_run (j4_ag k kp) (m4 x1 x3 x10 x11 x12 b0_0 b0_1 b1_0 b1_1 b1_2 b1_3 b1_4)).trans (j4_c k kp (JJ k kp) (LL k kp) x1 x3 x10 x11 x12 b0_0 b0_1 b1_0 b1_1 b1_2 b1_3 b1_4))
theorem j4_eq (k kp : KT) (x1 x3 : Int) (x10 x11 x12 : Int) (b0_0 : BA) (b0_1 b1_0 : Int) (b1_1 : BA) (b1_2 b1_3 b1_4 : Int) : X4 k kp (m4 x1 x3 x10 x11 x12 b0_0 b0_1 b1_0 b1_1 b1_2 b1_3 b1_4) = j4' x1 x3 x10 x11 x12 b0_0 b0_1 b1_0 b1_1 b1_2 b1_3 b1_4 (fun y0_0 y0_1 y0_2 y0_3 y0_4 y1 z0_0 z0_1 => k (.tup [(.agg [(.v (.int .i64 y0_0)), (.v (.string y0_1)), (.v (.int .i64 y0_2)), (.v (.int .i64 y0_3)), (.v (.int .i64 y0_4))]), (.v (.int .i64 y1))]) [(.box 57 [(.v (.string z0_0)), (.v (.int .i64 z0_1))])]) := by
  rw [j4_raw]; rfl
theorem j2000003_c (k kp : KT) (J L : Nat → St → Prop) (x1 x3 : Int) (x10 x11 x12 : Int) (x29 : Bool) (b0_0 : BA) (b0_1 b1_0 : Int) (b1_1 : BA) (b1_2 b1_3 b1_4 : Int) : runC cfg 2000003 J L (pick none' []) [1, 1, 0, 1] body (topK cfg Tryd.f63 k kp) (m2000003 x1 x3 x10 x11 x12 x29 b0_0 b0_1 b1_0 b1_1 b1_2 b1_3 b1_4) = j2000003 (fun x1 x3 x10 x11 x12 b0_0 b0_1 b1_0 b1_1 b1_2 b1_3 b1_4 => J 4 (m4 x1 x3 x10 x11 x12 b0_0 b0_1 b1_0 b1_1 b1_2 b1_3 b1_4)) x1 x3 x10 x11 x12 x29 b0_0 b0_1 b1_0 b1_1 b1_2 b1_3 b1_4 (fun y0_0 y0_1 y0_2 y0_3 y0_4 y1 z0_0 z0_1 => k (.tup [(.agg [(.v (.int .i64 y0_0)), (.v (.string y0_1)), (.v (.int .i64 y0_2)), (.v (.int .i64 y0_3)), (.v (.int .i64 y0_4))]), (.v (.int .i64 y1))]) [(.box 57 [(.v (.string z0_0)), (.v (.int .i64 z0_1))])]) := by kernel_rfl
theorem j2000003_ag (k kp : KT) : agPL cfg 2000003 (JJ k kp) (LL k kp) [1, 1, 0, 1] body = agPR cfg 2000003 (pick none' []) [1, 1, 0, 1] body (topK cfg Tryd.f63 k kp) := by kernel_rfl
theorem j2000003_raw (k kp : KT) (x1 x3 : Int) (x10 x11 x12 : Int) (x29 : Bool) (b0_0 : BA) (b0_1 b1_0 : Int) (b1_1 : BA) (b1_2 b1_3 b1_4 : Int) : X2000003 k kp (m2000003 x1 x3 x10 x11 x12 x29 b0_0 b0_1 b1_0 b1_1 b1_2 b1_3 b1_4) = j2000003 (fun x1 x3 x10 x11 x12 b0_0 b0_1 b1_0 b1_1 b1_2 b1_3 b1_4 => X4 k kp (m4 x1 x3 x10 x11 x12 b0_0 b0_1 b1_0 b1_1 b1_2 b1_3 b1_4)) x1 x3 x10 x11 x12 x29 b0_0 b0_1 b1_0 b1_1 b1_2 b1_3 b1_4 (fun y0_0 y0_1 y0_2 y0_3 y0_4 y1 z0_0 z0_1 => k (.tup [(.agg [(.v (.int .i64 y0_0)), (.v (.string y0_1)), (.v (.int .i64 y0_2)), (.v (.int .i64 y0_3)), (.v (.int .i64 y0_4))]), (.v (.int .i64 y1))]) [(.box 57 [(.v (.string z0_0)), (.v (.int .i64 z0_1))])]) :=
  Eq.mp (by kernel_rfl) ((atP_run (j2000003_ag k kp) (m2000003 x1 x3 x10 x11 x12 x29 b0_0 b0_1 b1_0 b1_1 b1_2 b1_3 b1_4)).trans (j2000003_c k kp (JJ k kp) (LL k kp) x1 x3 x10 x11 x12 x29 b0_0 b0_1 b1_0 b1_1 b1_2 b1_3 b1_4))
theorem j2000003_eq (k kp : KT) (x1 x3 : Int) (x10 x11 x12 : Int) (x29 : Bool) (b0_0 : BA) (b0_1 b1_0 : Int) (b1_1 : BA) (b1_2 b1_3 b1_4 : Int) : X2000003 k kp (m2000003 x1 x3 x10 x11 x12 x29 b0_0 b0_1 b1_0 b1_1 b1_2 b1_3 b1_4) = j2000003' x1 x3 x10 x11 x12 x29 b0_0 b0_1 b1_0 b1_1 b1_2 b1_3 b1_4 (fun y0_0 y0_1 y0_2 y0_3 y0_4 y1 z0_0 z0_1 => k (.tup [(.agg [(.v (.int .i64 y0_0)), (.v (.string y0_1)), (.v (.int .i64 y0_2)), (.v (.int .i64 y0_3)), (.v (.int .i64 y0_4))]), (.v (.int .i64 y1))]) [(.box 57 [(.v (.string z0_0)), (.v (.int .i64 z0_1))])]) := by
  rw [j2000003_raw]; simp only [j4_eq]; first | done | rfl
theorem c_c (k kp : KT) (J L : Nat → St → Prop) (x1 x2 x3 : Int) (b0_0 : BA) (b0_1 : Int) : runC cfg 1000001 J L none'' [] body (topK cfg Tryd.f63 k kp) (st0 Tryd.f63 [(.ptr 0 0), (.v (.int .i64 x1)), (.v (.int .i64 x2)), (.v (.int .i64 x3))] [(.box 57 [(.v (.string b0_0)), (.v (.int .i64 b0_1))])]) = c (fun x1 x3 x10 x11 x12 x29 b0_0 b0_1 b1_0 b1_1 b1_2 b1_3 b1_4 => J 2000003 (m2000003 x1 x3 x10 x11 x12 x29 b0_0 b0_1 b1_0 b1_1 b1_2 b1_3 b1_4)) x1 x2 x3 b0_0 b0_1 (fun y0_0 y0_1 y0_2 y0_3 y0_4 y1 z0_0 z0_1 => k (.tup [(.agg [(.v (.int .i64 y0_0)), (.v (.string y0_1)), (.v (.int .i64 y0_2)), (.v (.int .i64 y0_3)), (.v (.int .i64 y0_4))]), (.v (.int .i64 y1))]) [(.box 57 [(.v (.string z0_0)), (.v (.int .i64 z0_1))])]) := by kernel_rfl
theorem c_ag (k kp : KT) : agPL cfg 1000001 (JJ k kp) (LL k kp) [] body = agPR cfg 1000001 none'' [] body (topK cfg Tryd.f63 k kp) := by kernel_rfl
theorem body_is : Tryd.f63.body = some body := by kernel_rfl
theorem c_raw (k kp : KT) (x1 x2 x3 : Int) (b0_0 : BA) (b0_1 : Int) : funW cfg Tryd.f63 [(.ptr 0 0), (.v (.int .i64 x1)), (.v (.int .i64 x2)), (.v (.int .i64 x3))] [(.box 57 [(.v (.string b0_0)), (.v (.int .i64 b0_1))])] k kp = c (fun x1 x3 x10 x11 x12 x29 b0_0 b0_1 b1_0 b1_1 b1_2 b1_3 b1_4 => X2000003 k kp (m2000003 x1 x3 x10 x11 x12 x29 b0_0 b0_1 b1_0 b1_1 b1_2 b1_3 b1_4)) x1 x2 x3 b0_0 b0_1 (fun y0_0 y0_1 y0_2 y0_3 y0_4 y1 z0_0 z0_1 => k (.tup [(.agg [(.v (.int .i64 y0_0)), (.v (.string y0_1)), (.v (.int .i64 y0_2)), (.v (.int .i64 y0_3)), (.v (.int .i64 y0_4))]), (.v (.int .i64 y1))]) [(.box 57 [(.v (.string z0_0)), (.v (.int .i64 z0_1))])]) :=
  Eq.mp (by kernel_rfl) ((funW_run (AG := none'') body_is (c_ag k kp) [(.ptr 0 0), (.v (.int .i64 x1)), (.v (.int .i64 x2)), (.v (.int .i64 x3))] [(.box 57 [(.v (.string b0_0)), (.v (.int .i64 b0_1))])]).trans (c_c k kp (JJ k kp) (LL k kp) x1 x2 x3 b0_0 b0_1))
theorem f_eq (k kp : KT) (x1 x2 x3 : Int) (b0_0 : BA) (b0_1 : Int) : funW cfg Tryd.f63 [(.ptr 0 0), (.v (.int .i64 x1)), (.v (.int .i64 x2)), (.v (.int .i64 x3))] [(.box 57 [(.v (.string b0_0)), (.v (.int .i64 b0_1))])] k kp = f x1 x2 x3 b0_0 b0_1 (fun y0_0 y0_1 y0_2 y0_3 y0_4 y1 z0_0 z0_1 => k (.tup [(.agg [(.v (.int .i64 y0_0)), (.v (.string y0_1)), (.v (.int .i64 y0_2)), (.v (.int .i64 y0_3)), (.v (.int .i64 y0_4))]), (.v (.int .i64 y1))]) [(.box 57 [(.v (.string z0_0)), (.v (.int .i64 z0_1))])]) := by
  rw [f_def, c_raw]; simp only [j2000003_eq]; first | done | rfl
noncomputable def ent0 : Entry := fun args blks k _ => match args, blks with
  | [d0, d1, d2, d3], [e0] => aPtr 0 0 d0 (aInt IntKind.i64 d1 fun x1 => aInt IntKind.i64 d2 fun x2 => aInt IntKind.i64 d3 fun x3 => aBox 57 e0 fun l => aCons l fun e0_0 l => aCons l fun e0_1 l => aNil l (aStr e0_0 fun b0_0 => aInt IntKind.i64 e0_1 fun b0_1 => f x1 x2 x3 b0_0 b0_1 (fun y0_0 y0_1 y0_2 y0_3 y0_4 y1 z0_0 z0_1 => k (.tup [(.agg [(.v (.int .i64 y0_0)), (.v (.string y0_1)), (.v (.int .i64 y0_2)), (.v (.int .i64 y0_3)), (.v (.int .i64 y0_4))]), (.v (.int .i64 y1))]) [(.box 57 [(.v (.string z0_0)), (.v (.int .i64 z0_1))])])))
  | _, _ => False
noncomputable def ent : Entry := fun args blks k kp => ent0 (convB [.no, .no, .no, .no] args) blks k kp
theorem ok : EntOk Tryd.prog 49 0 63 ent := by
  refine EntOk.convB (EntOk.of (funW_ok (cfg := cfg) (tyOk_of rfl rfl tyL_ok) (eqOk_of (P := Tryd.prog) rfl rfl (by kernel_rfl)) mixed_ok (tab_ok ?_) Tryd.func63 (by rfl) (by rfl)) ?_) _
  · intro p hp
    simp only [List.mem_cons, List.not_mem_nil, or_false] at hp
    rcases hp with rfl | rfl
    · exact N60.ok
    · exact N61.ok
  · intro args blks k kp h k' kp'
    match args, blks, h with
    | [d0, d1, d2, d3], [e0], h =>
    dsimp only [ent0] at h
    have h9 := aPtr_elim h; clear h; obtain ⟨rfl, h⟩ := h9
    have h9 := aInt_elim h; clear h; obtain ⟨x1, rfl, h⟩ := h9
    have h9 := aInt_elim h; clear h; obtain ⟨x2, rfl, h⟩ := h9
    have h9 := aInt_elim h; clear h; obtain ⟨x3, rfl, h⟩ := h9
    have h9 := aBox_elim h; clear h; obtain ⟨_, rfl, h⟩ := h9
    have h9 := aCons_elim h; clear h; obtain ⟨e0_0, _, rfl, h⟩ := h9
    have h9 := aCons_elim h; clear h; obtain ⟨e0_1, _, rfl, h⟩ := h9
    have h9 := aNil_elim h; clear h; obtain ⟨rfl, h⟩ := h9
    have h9 := aStr_elim h; clear h; obtain ⟨b0_0, rfl, h⟩ := h9
    have h9 := aInt_elim h; clear h; obtain ⟨b0_1, rfl, h⟩ := h9
    exact (f_eq k' kp' x1 x2 x3 b0_0 b0_1).symm
end N63
end Go.Proofs.Ye

namespace Go.Proofs.Ye
open Go Go.Aw Go.Proofs
set_option maxRecDepth 100000
set_option maxHeartbeats 4000000
namespace N43
noncomputable def cfg : Cfg := { P := Tryd.prog, tf := 49, tw := 0, ty := tys, E := tab [(63, N63.ent)], atSeq := tab [], atLoop := tab [], outs := [], eqT := tab [], bT := tab [] }
noncomputable def body : Code := bodyOf Tryd.f43
def c (b0_0 : BA) (b0_1 : Int) (k : Int → BA → Int → Int → Int → Int → BA → Int → Prop) : Prop :=
  (N63.f (4 : Int) (1 : Int) (0 : Int) b0_0 b0_1 (fun (y0_0_0 : Int) (y0_1_0 : BA) (y0_2_0 y0_3_0 : Int) (y0_4_0 y1_0 : Int) (z0_0_0 : BA) (z0_1_0 : Int) => (k y0_0_0 y0_1_0 y0_2_0 y0_3_0 y0_4_0 y1_0 z0_0_0 z0_1_0)))
def f0 (b0_0 : BA) (b0_1 : Int) (k : Int → BA → Int → Int → Int → Int → BA → Int → Prop) : Prop := c b0_0 b0_1 k
theorem f_ex : ∃ g, g = f0 := ⟨_, rfl⟩
noncomputable def f := Classical.choose f_ex
theorem f_def : f = f0 := Classical.choose_spec f_ex
noncomputable def JJ (k kp : KT) : Nat → St → Prop := pick none' []
noncomputable def LL (k kp : KT) : Nat → St → Prop := pick none' []
theorem c_c (k kp : KT) (J L : Nat → St → Prop) (b0_0 : BA) (b0_1 : Int) : runC cfg 1000001 J L none'' [] body (topK cfg Tryd.f43 k kp) (st0 Tryd.f43 [(.ptr 0 0)] [(.box 57 [(.v (.string b0_0)), (.v (.int .i64 b0_1))])]) = c b0_0 b0_1 (fun y0_0 y0_1 y0_2 y0_3 y0_4 y1 z0_0 z0_1 => k (.tup [(.agg [(.v (.int .i64 y0_0)), (.v (.string y0_1)), (.v (.int .i64 y0_2)), (.v (.int .i64 y0_3)), (.v (.int .i64 y0_4))]), (.v (.int .i64 y1))]) [(.box 57 [(.v (.string z0_0)), (.v (.int .i64 z0_1))])]) := by kernel_rfl
theorem c_ag (k kp : KT) : agPL cfg 1000001 (JJ k kp) (LL k kp) [] body = agPR cfg 1000001 none'' [] body (topK cfg Tryd.f43 k kp) := by kernel_rfl
theorem body_is : Tryd.f43.body = some body := by kernel_rfl
theorem c_raw (k kp : KT) (b0_0 : BA) (b0_1 : Int) : funW cfg Tryd.f43 [(.ptr 0 0)] [(.box 57 [(.v (.string b0_0)), (.v (.int .i64 b0_1))])] k kp = c b0_0 b0_1 (fun y0_0 y0_1 y0_2 y0_3 y0_4 y1 z0_0 z0_1 => k (.tup [(.agg [(.v (.int .i64 y0_0)), (.v (.string y0_1)), (.v (.int .i64 y0_2)), (.v (.int .i64 y0_3)), (.v (.int .i64 y0_4))]), (.v (.int .i64 y1))]) [(.box 57 [(.v (.string z0_0)), (.v (.int .i64 z0_1))])]) :=
  Eq.mp (by kernel_rfl) ((funW_run (AG := none'') body_is (c_ag k kp) [(.ptr 0 0)] [(.box 57 [(.v (.string b0_0)), (.v (.int .i64 b0_1))])]).trans (c_c k kp (JJ k kp) (LL k kp) b0_0 b0_1))
theorem f_eq (k kp : KT) (b0_0 : BA) (b0_1 : Int) : funW cfg Tryd.f43 [(.ptr 0 0)] [(.box 57 [(.v (.string b0_0)), (.v (.int .i64 b0_1))])] k kp = f b0_0 b0_1 (fun y0_0 y0_1 y0_2 y0_3 y0_4 y1 z0_0 z0_1 => k (.tup [(.agg [(.v (.int .i64 y0_0)), (.v (.string y0_1)), (.v (.int .i64 y0_2)), (.v (.int .i64 y0_3)), (.v (.int .i64 y0_4))]), (.v (.int .i64 y1))]) [(.box 57 [(.v (.string z0_0)), (.v (.int .i64 z0_1))])]) := by
  rw [f_def, c_raw]; rfl
noncomputable def ent0 : Entry := fun args blks k _ => match args, blks with
  | [d0], [e0] => aPtr 0 0 d0 (aBox 57 e0 fun l => aCons l fun e0_0 l => aCons l fun e0_1 l => aNil l (aStr e0_0 fun b0_0 => aInt IntKind.i64 e0_1 fun b0_1 => f b0_0 b0_1 (fun y0_0 y0_1 y0_2 y0_3 y0_4 y1 z0_0 z0_1 => k (.tup [(.agg [(.v (.int .i64 y0_0)), (.v (.string y0_1)), (.v (.int .i64 y0_2)), (.v (.int .i64 y0_3)), (.v (.int .i64 y0_4))]), (.v (.int .i64 y1))]) [(.box 57 [(.v (.string z0_0)), (.v (.int .i64 z0_1))])])))
  | _, _ => False
noncomputable def ent : Entry := fun args blks k kp => ent0 (convB [.no] args) blks k kp
theorem ok : EntOk Tryd.prog 49 0 43 ent := by
  refine EntOk.convB (EntOk.of (funW_ok (cfg := cfg) (tyOk_of rfl rfl tyL_ok) (eqOk_of (P := Tryd.prog) rfl rfl (by kernel_rfl)) mixed_ok (tab_ok ?_) Tryd.func43 (by rfl) (by rfl)) ?_) _
  · intro p hp
    simp only [List.mem_cons, List.not_mem_nil, or_false] at hp
    rcases hp with rfl
    · exact N63.ok
  · intro args blks k kp h k' kp'
    match args, blks, h with
    | [d0], [e0], h =>
    dsimp only [ent0] at h
    have h9 := aPtr_elim h; clear h; obtain ⟨rfl, h⟩ := h9
    have h9 := aBox_elim h; clear h; obtain ⟨_, rfl, h⟩ := h9
    have h9 := aCons_elim h; clear h; obtain ⟨e0_0, _, rfl, h⟩ := h9
    have h9 := aCons_elim h; clear h; obtain ⟨e0_1, _, rfl, h⟩ := h9
    have h9 := aNil_elim h; clear h; obtain ⟨rfl, h⟩ := h9
    have h9 := aStr_elim h; clear h; obtain ⟨b0_0, rfl, h⟩ := h9
    have h9 := aInt_elim h; clear h; obtain ⟨b0_1, rfl, h⟩ := h9
    exact (f_eq k' kp' b0_0 b0_1).symm
end N43
end Go.Proofs.Ye

namespace Go.Proofs.Ye
open Go Go.Aw Go.Proofs
set_option maxRecDepth 100000
set_option maxHeartbeats 4000000
namespace N44
noncomputable def cfg : Cfg := { P := Tryd.prog, tf := 49, tw := 0, ty := tys, E := tab [(64, N64.ent), (63, N63.ent)], atSeq := tab [], atLoop := tab [], outs := [], eqT := tab [], bT := tab [] }
noncomputable def body : Code := bodyOf Tryd.f44
def c (b0_0 : BA) (b0_1 : Int) (k : Int → BA → Int → Int → Int → Int → BA → Int → Prop) : Prop :=
  (N64.f (1 : Int) b0_0 b0_1 (fun (y0_0 : Int) (z0_0_0 : BA) (z0_1_0 : Int) => (br (y0_0 == (103 : Int)) (N63.f (5 : Int) (2 : Int) (0 : Int) z0_0_0 z0_1_0 (fun (y0_0_1 : Int) (y0_1_1 : BA) (y0_2_1 y0_3_1 : Int) (y0_4_1 y1_1 : Int) (z0_0_1 : BA) (z0_1_1 : Int) => (k y0_0_1 y0_1_1 y0_2_1 y0_3_1 y0_4_1 y1_1 z0_0_1 z0_1_1))) (br (y0_0 == (120 : Int)) (N63.f (5 : Int) (2 : Int) (1 : Int) z0_0_0 z0_1_0 (fun (y0_0_2 : Int) (y0_1_2 : BA) (y0_2_2 y0_3_2 : Int) (y0_4_2 y1_2 : Int) (z0_0_2 : BA) (z0_1_2 : Int) => (k y0_0_2 y0_1_2 y0_2_2 y0_3_2 y0_4_2 y1_2 z0_0_2 z0_1_2))) (k (0 : Int) (ByteArray.mk #[]) (0 : Int) (0 : Int) (0 : Int) (12 : Int) z0_0_0 z0_1_0)))))
def f0 (b0_0 : BA) (b0_1 : Int) (k : Int → BA → Int → Int → Int → Int → BA → Int → Prop) : Prop := c b0_0 b0_1 k
theorem f_ex : ∃ g, g = f0 := ⟨_, rfl⟩
noncomputable def f := Classical.choose f_ex
theorem f_def : f = f0 := Classical.choose_spec f_ex
noncomputable def JJ (k kp : KT) : Nat → St → Prop := pick none' []
noncomputable def LL (k kp : KT) : Nat → St → Prop := pick none' []
theorem c_c (k kp : KT) (J L : Nat → St → Prop) (b0_0 : BA) (b0_1 : Int) : runC cfg 1000001 J L none'' [] body (topK cfg Tryd.f44 k kp) (st0 Tryd.f44 [(.ptr 0 0)] [(.box 57 [(.v (.string b0_0)), (.v (.int .i64 b0_1))])]) = c b0_0 b0_1 (fun y0_0 y0_1 y0_2 y0_3 y0_4 y1 z0_0 z0_1 => k (.tup [(.agg [(.v (.int .i64 y0_0)), (.v (.string y0_1)), (.v (.int .i64 y0_2)), (.v (.int .i64 y0_3)), (.v (.int .i64 y0_4))]), (.v (.int .i64 y1))]) [(.box 57 [(.v (.string z0_0)), (.v (.int .i64 z0_1))])]) := by kernel_rfl
theorem c_ag (k kp : KT) : agPL cfg 1000001 (JJ k kp) (LL k kp) [] body = agPR cfg 1000001 none'' [] body (topK cfg Tryd.f44 k kp) := by kernel_rfl
theorem body_is : Tryd.f44.body = some body := by kernel_rfl
theorem c_raw (k kp : KT) (b0_0 : BA) (b0_1 : Int) : funW cfg Tryd.f44 [(.ptr 0 0)] [(.box 57 [(.v (.string b0_0)), (.v (.int .i64 b0_1))])] k kp = c b0_0 b0_1 (fun y0_0 y0_1 y0_2 y0_3 y0_4 y1 z0_0 z0_1 => k (.tup [(.agg [(.v (.int .i64 y0_0)), (.v (.string y0_1)), (.v (.int .i64 y0_2)), (.v (.int .i64 y0_3)), (.v (.int .i64 y0_4))]), (.v (.int .i64 y1))]) [(.box 57 [(.v (.string z0_0)), (.v (.int .i64 z0_1))])]) :=
  Eq.mp (by kernel_rfl) ((funW_run (AG := none'') body_is (c_ag k kp) [(.ptr 0 0)] [(.box 57 [(.v (.string b0_0)), (.v (.int .i64 b0_1))])]).trans (c_c k kp (JJ k kp) (LL k kp) b0_0 b0_1))
theorem f_eq (k kp : KT) (b0_0 : BA) (b0_1 : Int) : funW cfg Tryd.f44 [(.ptr 0 0)] [(.box 57 [(.v (.string b0_0)), (.v (.int .i64 b0_1))])] k kp = f b0_0 b0_1 (fun y0_0 y0_1 y0_2 y0_3 y0_4 y1 z0_0 z0_1 => k (.tup [(.agg [(.v (.int .i64 y0_0)), (.v (.string y0_1)), (.v (.int .i64 y0_2)), (.v (.int .i64 y0_3)), (.v (.int .i64 y0_4))]), (.v (.int .i64 y1))]) [(.box 57 [(.v (.string z0_0)), (.v (.int .i64 z0_1))])]) := by
  rw [f_def, c_raw]; rfl
noncomputable def ent0 : Entry := fun args blks k _ => match args, blks with
  | [d0], [e0] => aPtr 0 0 d0 (aBox 57 e0 fun l => aCons l fun e0_0 l => aCons l fun e0_1 l => aNil l (aStr e0_0 fun b0_0 => aInt IntKind.i64 e0_1 fun b0_1 => f b0_0 b0_1 (fun y0_0 y0_1 y0_2 y0_3 y0_4 y1 z0_0 z0_1 => k (.tup [(.agg [(.v (.int .i64 y0_0)), (.v (.string y0_1)), (.v (.int .i64 y0_2)), (.v (.int .i64 y0_3)), (.v (.int .i64 y0_4))]), (.v (.int .i64 y1))]) [(.box 57 [(.v (.string z0_0)), (.v (.int .i64 z0_1))])])))
  | _, _ => False
noncomputable def ent : Entry := fun args blks k kp => ent0 (convB [.no] args) blks k kp
theorem ok : EntOk Tryd.prog 49 0 44 ent := by
  refine EntOk.convB (EntOk.of (funW_ok (cfg := cfg) (tyOk_of rfl rfl tyL_ok) (eqOk_of (P := Tryd.prog) rfl rfl (by kernel_rfl)) mixed_ok (tab_ok ?_) Tryd.func44 (by rfl) (by rfl)) ?_) _
  · intro p hp
    simp only [List.mem_cons, List.not_mem_nil, or_false] at hp
    rcases hp with rfl | rfl
    · exact N64.ok
    · exact N63.ok
  · intro args blks k kp h k' kp'
    match args, blks, h with
    | [d0], [e0], h =>
    dsimp only [ent0] at h
    have h9 := aPtr_elim h; clear h; obtain ⟨rfl, h⟩ := h9
    have h9 := aBox_elim h; clear h; obtain ⟨_, rfl, h⟩ := h9
    have h9 := aCons_elim h; clear h; obtain ⟨e0_0, _, rfl, h⟩ := h9
    have h9 := aCons_elim h; clear h; obtain ⟨e0_1, _, rfl, h⟩ := h9
    have h9 := aNil_elim h; clear h; obtain ⟨rfl, h⟩ := h9
    have h9 := aStr_elim h; clear h; obtain ⟨b0_0, rfl, h⟩ := h9
    have h9 := aInt_elim h; clear h; obtain ⟨b0_1, rfl, h⟩ := h9
    exact (f_eq k' kp' b0_0 b0_1).symm
end N44
end Go.Proofs.Ye

namespace Go.Proofs.Ye
open Go Go.Aw Go.Proofs
set_option maxRecDepth 100000
set_option maxHeartbeats 4000000
namespace N45
noncomputable def cfg : Cfg := { P := Tryd.prog, tf := 49, tw := 0, ty := tys, E := tab [(63, N63.ent)], atSeq := tab [], atLoop := tab [], outs := [], eqT := tab [], bT := tab [] }
noncomputable def body : Code := bodyOf Tryd.f45
def c (b0_0 : BA) (b0_1 : Int) (k : Int → BA → Int → Int → Int → Int → BA → Int → Prop) : Prop :=
  (N63.f (6 : Int) (1 : Int) (0 : Int) b0_0 b0_1 (fun (y0_0_0 : Int) (y0_1_0 : BA) (y0_2_0 y0_3_0 : Int) (y0_4_0 y1_0 : Int) (z0_0_0 : BA) (z0_1_0 : Int) => (k y0_0_0 y0_1_0 y0_2_0 y0_3_0 y0_4_0 y1_0 z0_0_0 z0_1_0)))
def f0 (b0_0 : BA) (b0_1 : Int) (k : Int → BA → Int → Int → Int → Int → BA → Int → Prop) : Prop := c b0_0 b0_1 k
theorem f_ex : ∃ g, g = f0 := ⟨_, rfl⟩
noncomputable def f := Classical.choose f_ex
theorem f_def : f = f0 := Classical.choose_spec f_ex
noncomputable def JJ (k kp : KT) : Nat → St → Prop := pick none' []
noncomputable def LL (k kp : KT) : Nat → St → Prop := pick none' []
theorem c_c (k kp : KT) (J L : Nat → St → Prop) (b0_0 : BA) (b0_1 : Int) : runC cfg 1000001 J L none'' [] body (topK cfg Tryd.f45 k kp) (st0 Tryd.f45 [(.ptr 0 0)] [(.box 57 [(.v (.string b0_0)), (.v (.int .i64 b0_1))])]) = c b0_0 b0_1 (fun y0_0 y0_1 y0_2 y0_3 y0_4 y1 z0_0 z0_1 => k (.tup [(.agg [(.v (.int .i64 y0_0)), (.v (.string y0_1)), (.v (.int .i64 y0_2)), (.v (.int .i64 y0_3)), (.v (.int .i64 y0_4))]), (.v (.int .i64 y1))]) [(.box 57 [(.v (.string z0_0)), (.v (.int .i64 z0_1))])]) := by kernel_rfl
theorem c_ag (k kp : KT) : agPL cfg 1000001 (JJ k kp) (LL k kp) [] body = agPR cfg 1000001 none'' [] body (topK cfg Tryd.f45 k kp) := by kernel_rfl
theorem body_is : Tryd.f45.body = some body := by kernel_rfl
theorem c_raw (k kp : KT) (b0_0 : BA) (b0_1 : Int) : funW cfg Tryd.f45 [(.ptr 0 0)] [(.box 57 [(.v (.string b0_0)), (.v (.int .i64 b0_1))])] k kp = c b0_0 b0_1 (fun y0_0 y0_1 y0_2 y0_3 y0_4 y1 z0_0 z0_1 => k (.tup [(.agg [(.v (.int .i64 y0_0)), (.v (.string y0_1)), (.v (.int .i64 y0_2)), (.v (.int .i64 y0_3)), (.v (.int .i64 y0_4))]), (.v (.int .i64 y1))]) [(.box 57 [(.v (.string z0_0)), (.v (.int .i64 z0_1))])]) :=
  Eq.mp (by kernel_rfl) ((funW_run (AG := none'') body_is (c_ag k kp) [(.ptr 0 0)] [(.box 57 [(.v (.string b0_0)), (.v (.int .i64 b0_1))])]).trans (c_c k kp (JJ k kp) (LL k kp) b0_0 b0_1))
theorem f_eq (k kp : KT) (b0_0 : BA) (b0_1 : Int) : funW cfg Tryd.f45 [(.ptr 0 0)] [(.box 57 [(.v (.string b0_0)), (.v (.int .i64 b0_1))])] k kp = f b0_0 b0_1 (fun y0_0 y0_1 y0_2 y0_3 y0_4 y1 z0_0 z0_1 => k (.tup [(.agg [(.v (.int .i64 y0_0)), (.v (.string y0_1)), (.v (.int .i64 y0_2)), (.v (.int .i64 y0_3)), (.v (.int .i64 y0_4))]), (.v (.int .i64 y1))]) [(.box 57 [(.v (.string z0_0)), (.v (.int .i64 z0_1))])]) := by
  rw [f_def, c_raw]; rfl
noncomputable def ent0 : Entry := fun args blks k _ => match args, blks with
  | [d0], [e0] => aPtr 0 0 d0 (aBox 57 e0 fun l => aCons l fun e0_0 l => aCons l fun e0_1 l => aNil l (aStr e0_0 fun b0_0 => aInt IntKind.i64 e0_1 fun b0_1 => f b0_0 b0_1 (fun y0_0 y0_1 y0_2 y0_3 y0_4 y1 z0_0 z0_1 => k (.tup [(.agg [(.v (.int .i64 y0_0)), (.v (.string y0_1)), (.v (.int .i64 y0_2)), (.v (.int .i64 y0_3)), (.v (.int .i64 y0_4))]), (.v (.int .i64 y1))]) [(.box 57 [(.v (.string z0_0)), (.v (.int .i64 z0_1))])])))
  | _, _ => False
noncomputable def ent : Entry := fun args blks k kp => ent0 (convB [.no] args) blks k kp
theorem ok : EntOk Tryd.prog 49 0 45 ent := by
  refine EntOk.convB (EntOk.of (funW_ok (cfg := cfg) (tyOk_of rfl rfl tyL_ok) (eqOk_of (P := Tryd.prog) rfl rfl (by kernel_rfl)) mixed_ok (tab_ok ?_) Tryd.func45 (by rfl) (by rfl)) ?_) _
  · intro p hp
    simp only [List.mem_cons, List.not_mem_nil, or_false] at hp
    rcases hp with rfl
    · exact N63.ok
  · intro args blks k kp h k' kp'
    match args, blks, h with
    | [d0], [e0], h =>
    dsimp only [ent0] at h
    have h9 := aPtr_elim h; clear h; obtain ⟨rfl, h⟩ := h9
    have h9 := aBox_elim h; clear h; obtain ⟨_, rfl, h⟩ := h9
    have h9 := aCons_elim h; clear h; obtain ⟨e0_0, _, rfl, h⟩ := h9
    have h9 := aCons_elim h; clear h; obtain ⟨e0_1, _, rfl, h⟩ := h9
    have h9 := aNil_elim h; clear h; obtain ⟨rfl, h⟩ := h9
    have h9 := aStr_elim h; clear h; obtain ⟨b0_0, rfl, h⟩ := h9
    have h9 := aInt_elim h; clear h; obtain ⟨b0_1, rfl, h⟩ := h9
    exact (f_eq k' kp' b0_0 b0_1).symm
end N45
end Go.Proofs.Ye

namespace Go.Proofs.Ye
open Go Go.Aw Go.Proofs
set_option maxRecDepth 100000
set_option maxHeartbeats 4000000
namespace N46
noncomputable def cfg : Cfg := { P := Tryd.prog, tf := 49, tw := 0, ty := tys, E := tab [(64, N64.ent), (61, N61.ent)], atSeq := tab [(2000003, ⟨[(0, .keep), (2, .keep), (4, .keep), (17, .keep)]⟩), (4, ⟨[(0, .keep), (2, .keep), (4, .keep)]⟩)], atLoop := tab [], outs := [], eqT := tab [], bT := tab [] }
noncomputable def body : Code := bodyOf Tryd.f46
def j2000003 (j4 : Int → BA → Int → Int → BA → Int → Int → Int → Prop) (x4 : Int) (x17 : Bool) (b0_0 : BA) (b0_1 b1_0 : Int) (b1_1 : BA) (b1_2 b1_3 b1_4 : Int) (k : Int → BA → Int → Int → Int → Int → BA → Int → Prop) : Prop :=
  (br x17 (j4 (IntKind.i64.wrap (x4 + (1 : Int))) b0_0 b0_1 b1_0 b1_1 b1_2 b1_3 b1_4) (j4 x4 b0_0 b0_1 b1_0 b1_1 b1_2 b1_3 b1_4))
def j4 (x4 : Int) (b0_0 : BA) (b0_1 b1_0 : Int) (b1_1 : BA) (b1_2 b1_3 b1_4 : Int) (k : Int → BA → Int → Int → Int → Int → BA → Int → Prop) : Prop :=
  (N61.f (7 : Int) (ByteArray.mk #[]) (0 : Int) (0 : Int) (0 : Int) x4 b0_0 b0_1 (fun (y0_0_2 : Int) (y0_1_2 : BA) (y0_2_2 y0_3_2 y0_4_2 : Int) (z0_0_2 : BA) (z0_1_2 : Int) => (k y0_0_2 y0_1_2 y0_2_2 y0_3_2 y0_4_2 (0 : Int) z0_0_2 z0_1_2)))
def c (j2000003 : Int → Bool → BA → Int → Int → BA → Int → Int → Int → Prop) (b0_0 : BA) (b0_1 : Int) (k : Int → BA → Int → Int → Int → Int → BA → Int → Prop) : Prop :=
  (N64.f (0 : Int) b0_0 b0_1 (fun (y0_0 : Int) (z0_0_0 : BA) (z0_1_0 : Int) => (br (y0_0 == (46 : Int)) (N64.f (1 : Int) z0_0_0 z0_1_0 (fun (y0_1 : Int) (z0_0_1 : BA) (z0_1_1 : Int) => (j2000003 (IntKind.i64.wrap (b0_1 + (1 : Int))) (y0_1 == (46 : Int)) z0_0_1 z0_1_1 (0 : Int) (ByteArray.mk #[]) (0 : Int) (0 : Int) (0 : Int)))) (j2000003 (IntKind.i64.wrap (b0_1 + (1 : Int))) false z0_0_0 z0_1_0 (0 : Int) (ByteArray.mk #[]) (0 : Int) (0 : Int) (0 : Int)))))
def j4' (x4 : Int) (b0_0 : BA) (b0_1 b1_0 : Int) (b1_1 : BA) (b1_2 b1_3 b1_4 : Int) (k : Int → BA → Int → Int → Int → Int → BA → Int → Prop) : Prop := j4 x4 b0_0 b0_1 b1_0 b1_1 b1_2 b1_3 b1_4 k
def j2000003' (x4 : Int) (x17 : Bool) (b0_0 : BA) (b0_1 b1_0 : Int) (b1_1 : BA) (b1_2 b1_3 b1_4 : Int) (k : Int → BA → Int → Int → Int → Int → BA → Int → Prop) : Prop := j2000003 (fun x4 b0_0 b0_1 b1_0 b1_1 b1_2 b1_3 b1_4 => j4' x4 b0_0 b0_1 b1_0 b1_1 b1_2 b1_3 b1_4 k) x4 x17 b0_0 b0_1 b1_0 b1_1 b1_2 b1_3 b1_4 k
def f0 (b0_0 : BA) (b0_1 : Int) (k : Int → BA → Int → Int → Int → Int → BA → Int → Prop) : Prop := c (fun x4 x17 b0_0 b0_1 b1_0 b1_1 b1_2 b1_3 b1_4 => j2000003' x4 x17 b0_0 b0_1 b1_0 b1_1 b1_2 b1_3 b1_4 k) b0_0 b0_1 k
theorem f_ex : ∃ g, g = f0 := ⟨_, rfl⟩
noncomputable def f := Classical.choose f_ex
theorem f_def : f = f0 := Classical.choose_spec f_ex
def m2000003 (x4 : Int) (x17 : Bool) (b0_0 : BA) (b0_1 b1_0 : Int) (b1_1 : BA) (b1_2 b1_3 b1_4 : Int) : St := { tmps := mkT 24 0 [(0, (.ptr 0 0)), (2, (.ptr 1 0)), (4, (.v (.int .i64 x4))), (17, (.v (.bool x17)))], hp := [(.box 57 [(.v (.string b0_0)), (.v (.int .i64 b0_1))]), (.box 42 [(.v (.int .i64 b1_0)), (.v (.string b1_1)), (.v (.int .i64 b1_2)), (.v (.int .i64 b1_3)), (.v (.int .i64 b1_4))])], m := 1 }
def m4 (x4 : Int) (b0_0 : BA) (b0_1 b1_0 : Int) (b1_1 : BA) (b1_2 b1_3 b1_4 : Int) : St := { tmps := mkT 24 0 [(0, (.ptr 0 0)), (2, (.ptr 1 0)), (4, (.v (.int .i64 x4)))], hp := [(.box 57 [(.v (.string b0_0)), (.v (.int .i64 b0_1))]), (.box 42 [(.v (.int .i64 b1_0)), (.v (.string b1_1)), (.v (.int .i64 b1_2)), (.v (.int .i64 b1_3)), (.v (.int .i64 b1_4))])], m := 1 }
noncomputable def X2000003 (k kp : KT) : St → Prop := atP cfg (pick none' []) [1, 1, 0, 1] body (topK cfg Tryd.f46 k kp)
noncomputable def X4 (k kp : KT) : St → Prop := atP cfg (pick none' []) [1, 1, 1] body (topK cfg Tryd.f46 k kp)
noncomputable def JJ (k kp : KT) : Nat → St → Prop := pick none' [(2000003, X2000003 k kp), (4, X4 k kp)]
noncomputable def LL (k kp : KT) : Nat → St → Prop := pick none' []
theorem j4_c (k kp : KT) (J L : Nat → St → Prop) (x4 : Int) (b0_0 : BA) (b0_1 b1_0 : Int) (b1_1 : BA) (b1_2 b1_3 b1_4 : Int) : runC cfg 4 J L (pick none' []) [1, 1, 1] body (topK cfg Tryd.f46 k kp) (m4 x4 b0_0 b0_1 b1_0 b1_1 b1_2 b1_3 b1_4) = j4 x4 b0_0 b0_1 b1_0 b1_1 b1_2 b1_3 b1_4 (fun y0_0 y0_1 y0_2 y0_3 y0_4 y1 z0_0 z0_1 => k (.tup [(.agg [(.v (.int .i64 y0_0)), (.v (.string y0_1)), (.v (.int .i64 y0_2)), (.v (.int .i64 y0_3)), (.v (.int .i64 y0_4))]), (.v (.int .i64 y1))]) [(.box 57 [(.v (.string z0_0)), (.v (.int .i64 z0_1))])]) := by kernel_rfl
theorem j4_ag (k kp : KT) : agPL cfg 4 (JJ k kp) (LL k kp) [1, 1, 1] body = agPR cfg 4 (pick none' []) [1, 1, 1] body (topK cfg Tryd.f46 k kp) := by kernel_rfl
theorem j4_raw (k kp : KT) (x4 : Int) (b0_0 : BA) (b0_1 b1_0 : Int) (b1_1 : BA) (b1_2 b1_3 b1_4 : Int) : X4 k kp (m4 x4 b0_0 b0_1 b1_0 b1_1 b1_2 b1_3 b1_4) = j4 x4 b0_0 b0_1 b1_0 b1_1 b1_2 b1_3 b1_4 (fun y0_0 y0_1 y0_2 y0_3 y0_4 y1 z0_0 z0_1 => k (.tup [(.agg [(.v (.int .i64 y0_0)), (.v (.string y0_1)), (.v (.int .i64 y0_2)), (.v (.int .i64 y0_3)), (.v (.int .i64 y0_4))]), (.v (.int .i64 y1))]) [(.box 57 [(.v (.string z0_0)), (.v (.int .i64 z0_1))])]) :=
  Eq.mp (by kernel_rfl) ((atP_run (j4_ag k kp) (m4 x4 b0_0 b0_1 b1_0 b1_1 b1_2 b1_3 b1_4)).trans (j4_c k kp (JJ k kp) (LL k kp) x4 b0_0 b0_1 b1_0 b1_1 b1_2 b1_3 b1_4))
theorem j4_eq (k kp : KT) (x4 : Int) (b0_0 : BA) (b0_1 b1_0 : Int) (b1_1 : BA) (b1_2 b1_3 b1_4 : Int) : X4 k kp (m4 x4 b0_0 b0_1 b1_0 b1_1 b1_2 b1_3 b1_4) = j4' x4 b0_0 b0_1 b1_0 b1_1 b1_2 b1_3 b1_4 (fun y0_0 y0_1 y0_2 y0_3 y0_4 y1 z0_0 z0_1 => k (.tup [(.agg [(.v (.int .i64 y0_0)), (.v (.string y0_1)), (.v (.int .i64 y0_2)), (.v (.int .i64 y0_3)), (.v (.int .i64 y0_4))]), (.v (.int .i64 y1))]) [(.box 57 [(.v (.string z0_0)), (.v (.int .i64 z0_1))])]) := by
  rw [j4_raw]; rfl
theorem j2000003_c (k kp : KT) (J L : Nat → St → Prop) (x4 : Int) (x17 : Bool) (b0_0 : BA) (b0_1 b1_0 : Int) (b1_1 : BA) (b1_2 b1_3 b1_4 : Int) : runC cfg 2000003 J L (pick none' []) [1, 1, 0, 1] body (topK cfg Tryd.f46 k kp) (m2000003 x4 x17 b0_0 b0_1 b1_0 b1_1 b1_2 b1_3 b1_4) = j2000003 (fun x4 b0_0 b0_1 b1_0 b1_1 b1_2 b1_3 b1_4 => J 4 (m4 x4 b0_0 b0_1 b1_0 b1_1 b1_2 b1_3 b1_4)) x4 x17 b0_0 b0_1 b1_0 b1_1 b1_2 b1_3 b1_4 (fun y0_0 y0_1 y0_2 y0_3 y0_4 y1 z0_0 z0_1 => k (.tup [(.agg [(.v (.int .i64 y0_0)), (.v (.string y0_1)), (.v (.int .i64 y0_2)), (.v (.int .i64 y0_3)), (.v (.int .i64 y0_4))]), (.v (.int .i64 y1))]) [(.box 57 [(.v (.string z0_0)), (.v (.int .i64 z0_1))])]) := by kernel_rfl
theorem j2000003_ag (k kp : KT) : agPL cfg 2000003 (JJ k kp) (LL k kp) [1, 1, 0, 1] body = agPR cfg 2000003 (pick none' []) [1, 1, 0, 1] body (topK cfg Tryd.f46 k kp) := by kernel_rfl
theorem j2000003_raw (k kp : KT) (x4 : Int) (x17 : Bool) (b0_0 : BA) (b0_1 b1_0 : Int) (b1_1 : BA) (b1_2 b1_3 b1_4 : Int) : X2000003 k kp (m2000003 x4 x17 b0_0 b0_1 b1_0 b1_1 b1_2 b1_3 b1_4) = j2000003 (fun x4 b0_0 b0_1 b1_0 b1_1 b1_2 b1_3 b1_4 => X4 k kp (m4 x4 b0_0 b0_1 b1_0 b1_1 b1_2 b1_3 b1_4)) x4 x17 b0_0 b0_1 b1_0 b1_1 b1_2 b1_3 b1_4 (fun y0_0 y0_1 y0_2 y0_3 y0_4 y1 z0_0 z0_1 => k (.tup [(.agg [(.v (.int .i64 y0_0)), (.v (.string y0_1)), (.v (.int .i64 y0_2)), (.v (.int .i64 y0_3)), (.v (.int .i64 y0_4))]), (.v (.int .i64 y1))]) [(.box 57 [(.v (.string z0_0)), (.v (.int .i64 z0_1))])]) :=
  Eq.mp (by kernel_rfl) ((atP_run (j2000003_ag k kp) (m2000003 x4 x17 b0_0 b0_1 b1_0 b1_1 b1_2 b1_3 b1_4)).trans (j2000003_c k kp (JJ k kp) (LL k kp) x4 x17 b0_0 b0_1 b1_0 b1_1 b1_2 b1_3 b1_4))
theorem j2000003_eq (k kp : KT) (x4 : Int) (x17 : Bool) (b0_0 : BA) (b0_1 b1_0 : Int) (b1_1 : BA) (b1_2 b1_3 b1_4 : Int) : X2000003 k kp (m2000003 x4 x17 b0_0 b0_1 b1_0 b1_1 b1_2 b1_3 b1_4) = j2000003' x4 x17 b0_0 b0_1 b1_0 b1_1 b1_2 b1_3 b1_4 (fun y0_0 y0_1 y0_2 y0_3 y0_4 y1 z0_0 z0_1 => k (.tup [(.agg [(.v (.int .i64 y0_0)), (.v (.string y0_1)), (.v (.int .i64 y0_2)), (.v (.int .i64 y0_3)), (.v (.int .i64 y0_4))]), (.v (.int .i64 y1))]) [(.box 57 [(.v (.string z0_0)), (.v (.int .i64 z0_1))])]) := by
  rw [j2000003_raw]; simp only [j4_eq]; first | done | rfl
theorem c_c (k kp : KT) (J L : Nat → St → Prop) (b0_0 : BA) (b0_1 : Int) : runC cfg 1000001 J L none'' [] body (topK cfg Tryd.f46 k kp) (st0 Tryd.f46 [(.ptr 0 0)] [(.box 57 [(.v (.string b0_0)), (.v (.int .i64 b0_1))])]) = c (fun x4 x17 b0_0 b0_1 b1_0 b1_1 b1_2 b1_3 b1_4 => J 2000003 (m2000003 x4 x17 b0_0 b0_1 b1_0 b1_1 b1_2 b1_3 b1_4)) b0_0 b0_1 (fun y0_0 y0_1 y0_2 y0_3 y0_4 y1 z0_0 z0_1 => k (.tup [(.agg [(.v (.int .i64 y0_0)), (.v (.string y0_1)), (.v (.int .i64 y0_2)), (.v (.int .i64 y0_3)), (.v (.int .i64 y0_4))]), (.v (.int .i64 y1))]) [(.box 57 [(.v (.string z0_0)), (.v (.int .i64 z0_1))])]) := by kernel_rfl
theorem c_ag (k kp : KT) : agPL cfg 1000001 (JJ k kp) (LL k kp) [] body = agPR cfg 1000001 none'' [] body (topK cfg Tryd.f46 k kp) := by kernel_rfl
theorem body_is : Tryd.f46.body = some body := by kernel_rfl
theorem c_raw (k kp : KT) (b0_0 : BA) (b0_1 : Int) : funW cfg Tryd.f46 [(.ptr 0 0)] [(.box 57 [(.v (.string b0_0)), (.v (.int .i64 b0_1))])] k kp = c (fun x4 x17 b0_0 b0_1 b1_0 b1_1 b1_2 b1_3 b1_4 => X2000003 k kp (m2000003 x4 x17 b0_0 b0_1 b1_0 b1_1 b1_2 b1_3 b1_4)) b0_0 b0_1 (fun y0_0 y0_1 y0_2 y0_3 y0_4 y1 z0_0 z0_1 => k (.tup [(.agg [(.v (.int .i64 y0_0)), (.v (.string y0_1)), (.v (.int .i64 y0_2)), (.v (.int .i64 y0_3)), (.v (.int .i64 y0_4))]), (.v (.int .i64 y1))]) [(.box 57 [(.v (.string z0_0)), (.v (.int .i64 z0_1))])]) :=
  Eq.mp (by kernel_rfl) ((funW_run (AG := none'') body_is (c_ag k kp) [(.ptr 0 0)] [(.box 57 [(.v (.string b0_0)), (.v (.int .i64 b0_1))])]).trans (c_c k kp (JJ k kp) (LL k kp) b0_0 b0_1))
theorem f_eq (k kp : KT) (b0_0 : BA) (b0_1 : Int) : funW cfg Tryd.f46 [(.ptr 0 0)] [(.box 57 [(.v (.string b0_0)), (.v (.int .i64 b0_1))])] k kp = f b0_0 b0_1 (fun y0_0 y0_1 y0_2 y0_3 y0_4 y1 z0_0 z0_1 => k (.tup [(.agg [(.v (.int .i64 y0_0)), (.v (.string y0_1)), (.v (.int .i64 y0_2)), (.v (.int .i64 y0_3)), (.v (.int .i64 y0_4))]), (.v (.int .i64 y1))]) [(.box 57 [(.v (.string z0_0)), (.v (.int .i64 z0_1))])]) := by
  rw [f_def, c_raw]; simp only [j2000003_eq]; first | done | rfl
noncomputable def ent0 : Entry := fun args blks k _ => match args, blks with
  | [d0], [e0] => aPtr 0 0 d0 (aBox 57 e0 fun l => aCons l fun e0_0 l => aCons l fun e0_1 l => aNil l (aStr e0_0 fun b0_0 => aInt IntKind.i64 e0_1 fun b0_1 => f b0_0 b0_1 (fun y0_0 y0_1 y0_2 y0_3 y0_4 y1 z0_0 z0_1 => k (.tup [(.agg [(.v (.int .i64 y0_0)), (.v (.string y0_1)), (.v (.int .i64 y0_2)), (.v (.int .i64 y0_3)), (.v (.int .i64 y0_4))]), (.v (.int .i64 y1))]) [(.box 57 [(.v (.string z0_0)), (.v (.int .i64 z0_1))])])))
  | _, _ => False
noncomputable def ent : Entry := fun args blks k kp => ent0 (convB [.no] args) blks k kp
theorem ok : EntOk Tryd.prog 49 0 46 ent := by
  refine EntOk.convB (EntOk.of (funW_ok (cfg := cfg) (tyOk_of rfl rfl tyL_ok) (eqOk_of (P := Tryd.prog) rfl rfl (by kernel_rfl)) mixed_ok (tab_ok ?_) Tryd.func46 (by rfl) (by rfl)) ?_) _
  · intro p hp
    simp only [List.mem_cons, List.not_mem_nil, or_false] at hp
    rcases hp with rfl | rfl
    · exact N64.ok
    · exact N61.ok
  · intro args blks k kp h k' kp'
    match args, blks, h with
    | [d0], [e0], h =>
    dsimp only [ent0] at h
    have h9 := aPtr_elim h; clear h; obtain ⟨rfl, h⟩ := h9
    have h9 := aBox_elim h; clear h; obtain ⟨_, rfl, h⟩ := h9
    have h9 := aCons_elim h; clear h; obtain ⟨e0_0, _, rfl, h⟩ := h9
    have h9 := aCons_elim h; clear h; obtain ⟨e0_1, _, rfl, h⟩ := h9
    have h9 := aNil_elim h; clear h; obtain ⟨rfl, h⟩ := h9
    have h9 := aStr_elim h; clear h; obtain ⟨b0_0, rfl, h⟩ := h9
    have h9 := aInt_elim h; clear h; obtain ⟨b0_1, rfl, h⟩ := h9
    exact (f_eq k' kp' b0_0 b0_1).symm
end N46
end Go.Proofs.Ye

namespace Go.Proofs.Ye
open Go Go.Aw Go.Proofs Go.RowKit
theorem isDig_s (c : Int) (k : Bool → Prop) (h : k (decide (isD c))) : N39.f c k := by
  rw [N39.f_def]
  unfold N39.f0 N39.c
  unfold isD at h
  simp only [br_dec]
  split
  · rename_i h1
    have : decide (c ≤ 57) = decide (48 ≤ c ∧ c ≤ 57) := by rw [Bool.eq_iff_iff]; simp; omega
    rw [this]; exact h
  · rename_i h1
    have : false = decide (48 ≤ c ∧ c ≤ 57) := by rw [eq_comm]; simp; omega
    rw [this]; exact h
theorem indexB_s (s : ByteArray) (c : Int) (k : Int → Prop) (h : k (indexB s c)) : N36.f s c k := by
  rw [N36.f_def]
  unfold N36.f0 N36.c
  exact h
theorem prefix2_s (s : ByteArray) (k : Bool → Prop) (h : k (decide (1 < s.size ∧ (ofBytes s).getD 0 0 = 47 ∧ (ofBytes s).getD 1 0 = 47))) : N37.f s (ByteArray.mk #[47, 47]) k := by
  rw [N37.f_def]
  unfold N37.f0 N37.c
  rw [N58.f_def]
  unfold N58.f0 N58.c
  have hl := ofBytes_length s
  have e2 : (ByteArray.mk #[47, 47]).size = 2 := rfl
  rw [e2]
  simp only [br_dec]
  split
  · rename_i h1
    refine ⟨⟨by omega, by omega, by omega⟩, ?_⟩
    have : beqS (s.extract (Int.toNat 0) (Int.toNat ((2 : Nat) : Int))) (ByteArray.mk #[47, 47]) = decide (1 < s.size ∧ (ofBytes s).getD 0 0 = 47 ∧ (ofBytes s).getD 1 0 = 47) := by
      rw [Bool.eq_iff_iff, beqS_iff, decide_eq_true_eq]
      have ex : ofBytes (s.extract 0 2) = (ofBytes s).take 2 := by rw [ofBytes_extract]; simp
      match hL : ofBytes s, hl with
      | [], hl => simp at hl; omega
      | [a], hl => simp at hl; omega
      | a :: b :: r, hl =>
        simp only [List.getD_cons_zero, List.getD_cons_succ]
        constructor
        · intro h2
          have h3 : ofBytes (s.extract 0 2) = [47, 47] := by rw [show s.extract 0 2 = ByteArray.mk #[47, 47] from h2]; rfl
          rw [ex, hL] at h3
          simp at h3
          exact ⟨by simp at hl; omega, h3⟩
        · rintro ⟨_, rfl, rfl⟩
          refine eq_of_ofBytes ?_
          show ofBytes (s.extract 0 2) = _
          rw [ex, hL]; rfl
    rw [this]; exact h
  · rename_i h1
    have : false = decide (1 < s.size ∧ (ofBytes s).getD 0 0 = 47 ∧ (ofBytes s).getD 1 0 = 47) := by rw [eq_comm]; simp; omega
    rw [this]; exact h
theorem peek_s (s : ByteArray) (hs : s.size ≤ reachBytes) (p n : Nat) (hp : p ≤ s.size) (hn : n ≤ 2) (k : Int → ByteArray → Int → Prop) (h : k ((ofBytes s).getD (p + n) 0) s p) : N64.f (n : Int) s (p : Int) k := by
  have hr : reachBytes < 2 ^ 47 := reachBytes_lt
  have hl := ofBytes_length s
  rw [N64.f_def]
  unfold N64.f0 N64.c
  have ew : IntKind.i64.wrap ((p : Int) + (n : Int)) = ((p + n : Nat) : Int) := by rw [wrap_id (by omega) (by omega)]; omega
  rw [ew]
  simp only [br_dec]
  split
  · rename_i h1
    refine ⟨⟨by omega, by omega, by omega⟩, ?_⟩
    rw [byteAt_eq]; exact h
  · rename_i h1
    have : (ofBytes s).getD (p + n) 0 = 0 := by simp [List.getD, List.getElem?_eq_none (show (ofBytes s).length ≤ p + n by omega)]
    rw [this] at h; exact h
theorem digits_s' (s : ByteArray) (hs : s.size ≤ reachBytes) (p a : Nat) (hp : p < s.size) (ha : a ≤ 2) (k : Int → Int → Int → ByteArray → Int → Prop)
    (h1 : digC ((ofBytes s).drop (p + a)) ≠ 0 → ∀ e : Int, e ≤ s.size → k 0 e (digC ((ofBytes s).drop (p + a))) s p)
    (h2 : digC ((ofBytes s).drop (p + a)) = 0 → k (w64 (val (((ofBytes s).drop (p + a)).take (run ((ofBytes s).drop (p + a)))))) ((p + a + run ((ofBytes s).drop (p + a)) : Nat) : Int) 0 s p) : N60.f (a : Int) s (p : Int) k := by
  have hr : reachBytes < 2 ^ 47 := reachBytes_lt
  have hl := ofBytes_length s
  rw [N60.f_def]
  unfold N60.f0 N60.c N60.j2000008' N60.j2000008 N60.j9' N60.j9
  refine peek_s s hs p a (by omega) ha _ (isDig_s _ _ ?_)
  have hgd : ((ofBytes s).drop (p + a)).getD 0 0 = (ofBytes s).getD (p + a) 0 := by simp [List.getD, List.getElem?_drop]
  rw [← hgd]
  have hlr : ((ofBytes s).drop (p + a)).length = s.size - (p + a) := by rw [List.length_drop, hl]
  have hB : ∀ y ∈ (ofBytes s).drop (p + a), isB y := fun y hy => ofBytes_isB s y (List.mem_of_mem_drop hy)
  simp only [br_not, br_dec]
  split
  case isFalse hd =>
    have : digC ((ofBytes s).drop (p + a)) = 12 := by
      unfold digC
      refine if_pos (.inl ?_)
      cases hc : (ofBytes s).drop (p + a) with
      | nil => rfl
      | cons c r => rw [hc] at hd; simp at hd; simp [run, hd]
    rw [this] at h1
    exact h1 (by decide) 0 (by omega)
  case isTrue hd =>
    have hpos : p + a < s.size := by
      rcases Nat.lt_or_ge (p + a) s.size with hh | hh
      · exact hh
      · rw [List.drop_of_length_le (by omega)] at hd; simp [isD] at hd
    have hrun : 1 ≤ run ((ofBytes s).drop (p + a)) := by
      cases hc : (ofBytes s).drop (p + a) with
      | nil => rw [hc] at hlr; simp at hlr; omega
      | cons c r => rw [hc] at hd; simp at hd; simp [run, hd]
    have hrl := run_le ((ofBytes s).drop (p + a))
    have ew : IntKind.i64.wrap ((p : Int) + (a : Int)) = ((p + a : Nat) : Int) := by rw [wrap_id (by omega) (by omega)]; omega
    rw [ew, rest_eq s (p + a) (by omega), bytesOf_size]
    have hmin : mmv false (((((ofBytes s).drop (p + a)).length : Nat) : Int)) 24 = ((min ((ofBytes s).drop (p + a)).length 24 : Nat) : Int) := by
      unfold mmv; dsimp only; split <;> omega
    rw [hmin]
    have hex : ByteArray.extract (bytesOf ((ofBytes s).drop (p + a))) (Int.toNat 0) (Int.toNat ((min ((ofBytes s).drop (p + a)).length 24 : Nat) : Int)) = bytesOf (((ofBytes s).drop (p + a)).take 24) := by
      apply eq_of_ofBytes
      rw [ofBytes_extract, ofBytes_bytesOf hB, ofBytes_bytesOf (fun y hy => hB y (List.mem_of_mem_take hy)), Int.toNat_natCast]
      simp [List.take_take]
      exact Nat.min_comm _ _
    rw [hex]
    refine ⟨⟨by omega, by omega, by omega⟩, ⟨by omega, by omega, by omega⟩, ?_, ?_⟩
    · rw [bytesOf_size, List.length_take]
      show (1 : Nat) + _ ≤ _
      omega
    have hap : ByteArray.mk #[45] ++ bytesOf (((ofBytes s).drop (p + a)).take 24) = bytesOf (45 :: ((ofBytes s).drop (p + a)).take 24) := by
      rw [show ByteArray.mk #[45] = bytesOf [45] from rfl, ← bytesOf_append]; rfl
    rw [hap]
    have hB2 : ∀ y ∈ 45 :: ((ofBytes s).drop (p + a)).take 24, isB y := by
      intro y hy
      rcases List.mem_cons.1 hy with rfl | hy
      · exact ⟨by decide, by decide⟩
      · exact hB y (List.mem_of_mem_take hy)
    have hr2 : 30 ≤ reachBytes := by decide
    refine dscan_s _ (by rw [bytesOf_size]; simp; omega) _ _ ?_
    rw [ofBytes_bytesOf hB2, scan_minus]
    have hz2 : ¬ 1 < run ((ofBytes s).drop (p + a)) → ((ofBytes s).drop (p + a)).getD 0 0 = 48 → val (((ofBytes s).drop (p + a)).take (run ((ofBytes s).drop (p + a)))) = 0 := by
      intro g1 g2
      rw [show run ((ofBytes s).drop (p + a)) = 1 by omega]
      cases hc : (ofBytes s).drop (p + a) with
      | nil => rfl
      | cons x r =>
        rw [hc] at g2
        simp only [List.getD_cons_zero] at g2
        subst g2
        rfl
    have hz := val_zero (r := (ofBytes s).drop (p + a)) (by omega)
    have hs2 : scanI (ofBytes s) ((p + a : Nat) : Int) = if ((ofBytes s).drop (p + a)).getD 0 0 = 48 ∧ 1 < run ((ofBytes s).drop (p + a)) then (0, 0, 12) else if val (((ofBytes s).drop (p + a)).take (run ((ofBytes s).drop (p + a)))) ≥ 2 ^ 63 then (0, 0, 2) else ((val (((ofBytes s).drop (p + a)).take (run ((ofBytes s).drop (p + a)))) : Int), ((p + a + run ((ofBytes s).drop (p + a)) : Nat) : Int), 0) := by
      unfold scanI
      rw [if_neg (by rw [hl]; omega)]
      dsimp only
      have hm : (decide ((((p + a : Nat) : Int)).toNat < (ofBytes s).length) && ((ofBytes s).getD (((p + a : Nat) : Int)).toNat 0 == 45)) = false := by
        rw [Int.toNat_natCast, ← hgd]
        have : (((ofBytes s).drop (p + a)).getD 0 0 == 45) = false := by
          unfold isD at hd
          rw [beq_eq_false_iff_ne]; omega
        rw [this]; simp
      rw [hm]
      simp only [Int.toNat_natCast, Bool.toNat_false, Nat.add_zero, Bool.false_eq_true, if_false, and_true, or_false]
      rw [hgd]
      by_cases c1 : (ofBytes s).getD (p + a) 0 = 48 ∧ 1 < run ((ofBytes s).drop (p + a))
      · rw [if_pos (.inr c1), if_pos c1]
      · rw [if_neg (by rintro (h | h); omega; exact c1 h), if_neg c1]
        by_cases c2 : val (((ofBytes s).drop (p + a)).take (run ((ofBytes s).drop (p + a)))) ≥ 2 ^ 63
        · rw [if_pos (by omega), if_pos c2]
        · rw [if_neg (by omega), if_neg c2]
    unfold digC at h1 h2
    have hscan := dscan_s s hs ((p + a : Nat) : Int)
    rw [hs2] at hscan
    have hnd : ¬ run ((ofBytes s).drop (p + a)) = 0 := by omega
    generalize hv : val (((ofBytes s).drop (p + a)).take (run ((ofBytes s).drop (p + a)))) = v at *
    generalize run ((ofBytes s).drop (p + a)) = d at *
    generalize ((ofBytes s).drop (p + a)).getD 0 0 = c at *
    have err : ∀ e : Int, e ≤ s.size → IntKind.i64.wrap (IntKind.i64.wrap (((p + a : Nat) : Int) + 0) - 1) ≤ (s.size : Int) := by
      intro e he
      rw [wrap_id (n := ((p + a : Nat) : Int) + 0) (by omega) (by omega), wrap_id (by omega) (by omega)]
      omega
    by_cases c48 : c = 48
    · rw [if_pos (.inr c48)]
      dsimp only
      rw [br_beq, if_pos rfl]
      refine hscan _ ?_
      by_cases cd : 1 < d
      · rw [if_pos ⟨c48, cd⟩]
        dsimp only
        rw [br_beq, if_neg (by decide)]
        rw [if_pos (.inr ⟨c48, cd⟩)] at h1
        exact h1 (by decide) _ (err 0 (by omega))
      · rw [if_neg (by omega)]
        have hv0 : v = 0 := hz2 cd c48
        subst hv0
        rw [if_neg (by decide)]
        dsimp only
        rw [br_beq, if_pos rfl]
        rw [if_neg (by omega), if_neg (by decide)] at h2
        exact h2 rfl
    · rw [if_neg (by omega)]
      by_cases cv : v > 2 ^ 63
      · rw [if_pos cv]
        dsimp only
        rw [br_beq, if_pos rfl]
        refine hscan _ ?_
        rw [if_neg (by omega), if_pos (by omega)]
        dsimp only
        rw [br_beq, if_neg (by decide)]
        rw [if_neg (by omega), if_pos cv] at h1
        exact h1 (by decide) _ (err 0 (by omega))
      · rw [if_neg cv]
        dsimp only
        have hv1 : v ≠ 0 := fun h => c48 (hz h)
        rw [br_beq, if_neg (by omega)]
        rw [if_neg (by omega), if_neg cv] at h2
        have e1 : IntKind.i64.wrap (0 - -(v : Int)) = w64 v := by congr 1; omega
        have e2 : IntKind.i64.wrap (IntKind.i64.wrap (((p + a : Nat) : Int) + ((1 + d : Nat) : Int)) - 1) = ((p + a + d : Nat) : Int) := by
          rw [wrap_id (n := ((p + a : Nat) : Int) + ((1 + d : Nat) : Int)) (by omega) (by omega), wrap_id (by omega) (by omega)]
          omega
        rw [e1, e2]
        exact h2 rfl
def Rd (s : ByteArray) (p : Nat) (g : Got) (k : Int → ByteArray → Int → Int → Int → Int → ByteArray → Int → Prop) : Prop :=
  (g.code ≠ 0 → ∀ a b c d e, k a b c d e g.code s p) ∧ (g.code = 0 → k g.kind (bytesOf g.text) g.num g.cls p 0 s p)
theorem take_s (s : ByteArray) (p : Nat) (x0 : Int) (x1 : ByteArray) (x2 x3 x4 : Int) (e : Int) (he : e ≤ s.size) (k : Int → ByteArray → Int → Int → Int → ByteArray → Int → Prop)
    (h : k x0 (if e > p then bytesOf (((ofBytes s).drop p).take (e.toNat - p)) else x1) x2 x3 p s p) : N61.f x0 x1 x2 x3 x4 e s (p : Int) k := by
  rw [N61.f_def]
  unfold N61.f0 N61.c N61.j4' N61.j4
  simp only [br_dec]
  split
  · rename_i h1
    rw [if_pos h1] at h
    refine ⟨⟨by omega, by omega, by omega⟩, ?_⟩
    have := part_eq s p (e.toNat - p)
    rw [show (((p + (e.toNat - p) : Nat) : Int)) = e by omega] at this
    rw [this]; exact h
  · rename_i h1
    rw [if_neg h1] at h
    exact h
theorem id_s (s : ByteArray) (hs : s.size ≤ reachBytes) (p a : Nat) (hp : p < s.size) (ha : a ≤ 2) (ha0 : 0 < a) (kind cls : Int) (k : Int → ByteArray → Int → Int → Int → Int → ByteArray → Int → Prop)
    (h : Rd s p (numS kind a cls ((ofBytes s).drop p)) k) : N63.f kind (a : Int) cls s (p : Int) k := by
  have hr : reachBytes < 2 ^ 47 := reachBytes_lt
  have hl := ofBytes_length s
  rw [N63.f_def]
  unfold N63.f0 N63.c N63.j2000003' N63.j2000003 N63.j4' N63.j4
  unfold Rd at h
  rw [numS_eq, List.drop_drop] at h
  obtain ⟨ha1, ha2⟩ := h
  have hrl := run_le ((ofBytes s).drop (p + a))
  rw [List.length_drop, hl] at hrl
  have bad : ∀ (n e c : Int), e ≤ s.size → (∀ t0 t1 t2 t3 t4, k t0 t1 t2 t3 t4 c s p) → N61.f kind (ByteArray.mk #[]) n cls 0 e s (p : Int) (fun y0 y1 y2 y3 y4 z0 z1 => k y0 y1 y2 y3 y4 c z0 z1) := by
    intro n e c he hk
    exact take_s s p _ _ _ _ _ e he _ (hk _ _ _ _ _)
  refine digits_s' s hs p a hp ha _ ?_ ?_
  · intro hd e he
    rw [if_pos hd] at ha1
    simp only [Got.bad] at ha1
    rw [br_beq, if_neg hd]
    simp only [br_false]
    exact bad _ _ _ he (ha1 hd)
  · intro hd
    rw [if_neg (by simpa using hd)] at ha1 ha2
    have hv : val (((ofBytes s).drop (p + a)).take (run ((ofBytes s).drop (p + a)))) ≤ 2 ^ 63 := by
      unfold digC at hd
      split at hd
      · cases hd
      · split at hd
        · cases hd
        · omega
    have hd0 : 1 ≤ run ((ofBytes s).drop (p + a)) := by
      unfold digC at hd
      split at hd
      · cases hd
      · omega
    have hpa : p + a + run ((ofBytes s).drop (p + a)) ≤ s.size := by
      rcases Nat.lt_or_ge (p + a) s.size with hh | hh
      · omega
      · rw [List.drop_of_length_le (by omega)] at hd0; simp [run] at hd0
    generalize val (((ofBytes s).drop (p + a)).take (run ((ofBytes s).drop (p + a)))) = v at *
    generalize run ((ofBytes s).drop (p + a)) = d at *
    rw [br_beq, if_pos rfl]
    have good : ¬ v > 2 ^ 31 - 1 → N61.f kind (ByteArray.mk #[]) (w64 v) cls 0 ((p + a + d : Nat) : Int) s (p : Int) (fun y0 y1 y2 y3 y4 z0 z1 => k y0 y1 y2 y3 y4 0 z0 z1) := by
      intro hv2
      rw [if_neg (fun hh => hv2 hh.2)] at ha2
      refine take_s s p _ _ _ _ _ _ (by omega) _ ?_
      rw [if_pos (by omega), show ((p + a + d : Nat) : Int).toNat - p = a + d by omega]
      exact ha2 rfl
    have wrong : v > 2 ^ 31 - 1 → N61.f kind (ByteArray.mk #[]) (w64 v) cls 0 ((p + a + d : Nat) : Int) s (p : Int) (fun y0 y1 y2 y3 y4 z0 z1 => k y0 y1 y2 y3 y4 2 z0 z1) := by
      intro hv2
      rw [if_pos ⟨ha0, hv2⟩] at ha1
      simp only [Got.bad] at ha1
      exact bad _ _ _ (by omega) (ha1 (by decide))
    by_cases hv63 : v = 2 ^ 63
    · have e1 : w64 (v : Int) < 0 := by rw [hv63]; decide
      rw [br_dec, if_pos e1]
      simp only [br_true]
      exact wrong (by omega)
    · have e1 : w64 (v : Int) = v := w64_id ⟨by omega, by omega⟩
      rw [e1] at good wrong ⊢
      rw [br_dec, if_neg (by omega)]
      refine br_of (fun hh => wrong ?_) (fun hh => good ?_)
      · have := of_decide_eq_true hh; omega
      · have := of_decide_eq_false hh; omega
theorem number_s (s : ByteArray) (hs : s.size ≤ reachBytes) (p : Nat) (hp : p < s.size) (k : Int → ByteArray → Int → Int → Int → Int → ByteArray → Int → Prop)
    (h : Rd s p (numS 2 0 0 ((ofBytes s).drop p)) k) : N40.f s (p : Int) k := by
  have hr : reachBytes < 2 ^ 47 := reachBytes_lt
  have hl := ofBytes_length s
  rw [N40.f_def]
  unfold N40.f0 N40.c
  unfold Rd at h
  rw [numS_eq, List.drop_drop] at h
  obtain ⟨ha1, ha2⟩ := h
  have hrl := run_le ((ofBytes s).drop (p + 0))
  rw [List.length_drop, hl] at hrl
  refine digits_s' s hs p 0 hp (by omega) _ ?_ ?_
  · intro hd e he
    rw [if_pos hd] at ha1
    simp only [Got.bad] at ha1
    exact take_s s p _ _ _ _ _ e he _ (ha1 hd _ _ _ _ _)
  · intro hd
    rw [if_neg (by simpa using hd), if_neg (fun hh => absurd hh.1 (by decide))] at ha2
    have hd0 : 1 ≤ run ((ofBytes s).drop (p + 0)) := by
      unfold digC at hd
      split at hd
      · cases hd
      · omega
    refine take_s s p _ _ _ _ _ _ (by omega) _ ?_
    rw [if_pos (by omega), show ((p + 0 + run ((ofBytes s).drop (p + 0)) : Nat) : Int).toNat - p = 0 + run ((ofBytes s).drop (p + 0)) by omega]
    exact ha2 rfl
theorem vreg_s (s : ByteArray) (hs : s.size ≤ reachBytes) (p : Nat) (hp : p < s.size) (k : Int → ByteArray → Int → Int → Int → Int → ByteArray → Int → Prop)
    (h : Rd s p (numS 4 1 0 ((ofBytes s).drop p)) k) : N43.f s (p : Int) k := by
  rw [N43.f_def]
  unfold N43.f0 N43.c
  exact id_s s hs p 1 hp (by omega) (by omega) _ _ _ h
theorem slot_s (s : ByteArray) (hs : s.size ≤ reachBytes) (p : Nat) (hp : p < s.size) (k : Int → ByteArray → Int → Int → Int → Int → ByteArray → Int → Prop)
    (h : Rd s p (numS 6 1 0 ((ofBytes s).drop p)) k) : N45.f s (p : Int) k := by
  rw [N45.f_def]
  unfold N45.f0 N45.c
  exact id_s s hs p 1 hp (by omega) (by omega) _ _ _ h
theorem preg_s (s : ByteArray) (hs : s.size ≤ reachBytes) (p : Nat) (hp : p < s.size) (k : Int → ByteArray → Int → Int → Int → Int → ByteArray → Int → Prop)
    (h : Rd s p (if (ofBytes s).getD (p + 1) 0 = 103 then numS 5 2 0 ((ofBytes s).drop p) else if (ofBytes s).getD (p + 1) 0 = 120 then numS 5 2 1 ((ofBytes s).drop p) else .bad 12 0) k) : N44.f s (p : Int) k := by
  rw [N44.f_def]
  unfold N44.f0 N44.c
  refine peek_s s hs p 1 (by omega) (by omega) _ ?_
  simp only [br_beq]
  split
  · rename_i h1
    rw [if_pos h1] at h
    exact id_s s hs p 2 hp (by omega) (by omega) _ _ _ h
  · rename_i h1
    rw [if_neg h1] at h
    split
    · rename_i h2
      rw [if_pos h2] at h
      exact id_s s hs p 2 hp (by omega) (by omega) _ _ _ h
    · rename_i h2
      rw [if_neg h2] at h
      exact h.1 (by decide) _ _ _ _ _
theorem word_s (s : ByteArray) (hs : s.size ≤ reachBytes) (p : Nat) (hp : p < s.size) (hL : isL ((ofBytes s).getD p 0) = true) (k : Int → ByteArray → Int → Int → Int → Int → ByteArray → Int → Prop)
    (h : Rd s p (if runS ((ofBytes s).drop p) > 24 then .bad 3 0 else ⟨1, ((ofBytes s).drop p).take (runS ((ofBytes s).drop p)), 0, 0, runS ((ofBytes s).drop p), 0, 0⟩) k) : N42.f s (p : Int) k := by
  have hr : reachBytes < 2 ^ 47 := reachBytes_lt
  have hl := ofBytes_length s
  rw [N42.f_def]
  unfold N42.f0 N42.c
  refine nscan_s s hs _ _ ?_
  have e : scanN (ofBytes s) (p : Int) = ((p + runS ((ofBytes s).drop p) : Nat) : Int) := by
    unfold scanN
    rw [if_neg (by rw [Int.toNat_natCast, hL, hl]; simp; omega), Int.toNat_natCast]
  have hrl := runS_le ((ofBytes s).drop p)
  have h1 : 1 ≤ runS ((ofBytes s).drop p) := by
    rw [drop_get (d := 0) (by omega)]
    exact runS_pos hL
  rw [List.length_drop, hl] at hrl
  rw [e]
  refine take_s s p _ _ _ _ _ _ (by omega) _ ?_
  rw [if_pos (by omega), show ((p + runS ((ofBytes s).drop p) : Nat) : Int).toNat - p = runS ((ofBytes s).drop p) by omega]
  have esz : (bytesOf (((ofBytes s).drop p).take (runS ((ofBytes s).drop p)))).size = runS ((ofBytes s).drop p) := by
    rw [bytesOf_size, List.length_take, List.length_drop, hl]; omega
  rw [esz]
  simp only [br_dec]
  split
  · rename_i h2
    rw [if_pos (by omega)] at h
    exact h.1 (by decide) _ _ _ _ _
  · rename_i h2
    rw [if_neg (by omega)] at h
    exact h.2 rfl
theorem sign_s' (s : ByteArray) (hs : s.size ≤ reachBytes) (p : Nat) (hp : p < s.size) (k : Int → ByteArray → Int → Int → Int → Int → ByteArray → Int → Prop)
    (h : Rd s p (if (ofBytes s).getD p 0 = 46 ∧ (ofBytes s).getD (p + 1) 0 = 46 then ⟨7, [46, 46], 0, 0, 2, 0, 0⟩ else ⟨7, [(ofBytes s).getD p 0], 0, 0, 1, 0, 0⟩) k) : N46.f s (p : Int) k := by
  have hr : reachBytes < 2 ^ 47 := reachBytes_lt
  have hl := ofBytes_length s
  rw [N46.f_def]
  unfold N46.f0 N46.c N46.j2000003' N46.j2000003 N46.j4' N46.j4
  refine peek_s s hs p 0 (by omega) (by omega) _ ?_
  rw [Nat.add_zero]
  have ew : IntKind.i64.wrap ((p : Int) + 1) = ((p + 1 : Nat) : Int) := by rw [wrap_id (by omega) (by omega)]; omega
  have ew2 : IntKind.i64.wrap (((p + 1 : Nat) : Int) + 1) = ((p + 2 : Nat) : Int) := by rw [wrap_id (by omega) (by omega)]; omega
  rw [ew]
  dsimp only
  rw [ew2]
  have one : ¬ ((ofBytes s).getD p 0 = 46 ∧ (ofBytes s).getD (p + 1) 0 = 46) → N61.f 7 (ByteArray.mk #[]) 0 0 0 ((p + 1 : Nat) : Int) s (p : Int) (fun y0 y1 y2 y3 y4 z0 z1 => k y0 y1 y2 y3 y4 0 z0 z1) := by
    intro hn
    rw [if_neg hn] at h
    refine take_s s p _ _ _ _ _ _ (by omega) _ ?_
    rw [if_pos (by omega), show ((p + 1 : Nat) : Int).toNat - p = 1 by omega, drop_get (d := 0) (by omega : p < (ofBytes s).length)]
    exact h.2 rfl
  simp only [br_beq]
  split
  · rename_i h1
    refine peek_s s hs p 1 (by omega) (by omega) _ ?_
    split
    · rename_i h2
      rw [if_pos ⟨h1, h2⟩] at h
      have hp1 : p + 1 < s.size := by
        rcases Nat.lt_or_ge (p + 1) s.size with hh | hh
        · exact hh
        · rw [show (ofBytes s).getD (p + 1) 0 = 0 by simp [List.getD, List.getElem?_eq_none (show (ofBytes s).length ≤ p + 1 by omega)]] at h2
          cases h2
      refine take_s s p _ _ _ _ _ _ (by omega) _ ?_
      rw [if_pos (by omega), show ((p + 2 : Nat) : Int).toNat - p = 2 by omega, drop_get (d := 0) (by omega : p < (ofBytes s).length), drop_get (d := 0) (by omega : p + 1 < (ofBytes s).length), h1, h2]
      exact h.2 rfl
    · rename_i h2
      exact one (fun hh => h2 hh.2)
  · rename_i h1
    simp only [br_false]
    exact one (fun hh => h1 hh.1)
end Go.Proofs.Ye

namespace Go.Proofs.Ye
open Go Go.Aw Go.Proofs
set_option maxRecDepth 100000
set_option maxHeartbeats 4000000
namespace N25
noncomputable def cfg : Cfg := { P := Tryd.prog, tf := 49, tw := 0, ty := tys, E := tab [(39, N39.ent), (41, N41.ent), (36, N36.ent)], atSeq := tab [], atLoop := tab [], outs := [], eqT := tab [], bT := tab [] }
noncomputable def body : Code := bodyOf Tryd.f25
def c (x1 : Int) (b0_0 : BA) (b0_1 : Int) (k : BA → Int → Prop) (k1 : BA → Int → Prop) (k2 : BA → Int → Prop) (k3 : BA → Int → Prop) (k4 : BA → Int → Prop) (k5 : BA → Int → Prop) (k6 : BA → Int → Prop) : Prop :=
  (N39.f x1 (fun (y0_0 : Bool) => (br y0_0 (k b0_0 b0_1) (N41.f x1 (fun (y0_1 : Bool) => (br y0_1 (k1 b0_0 b0_1) (br (x1 == (37 : Int)) (k2 b0_0 b0_1) (br (x1 == (36 : Int)) (k3 b0_0 b0_1) (br (x1 == (35 : Int)) (k4 b0_0 b0_1) (N36.f (ByteArray.mk #[123, 125, 40, 41, 91, 93, 44, 58, 59, 61, 43, 45, 42, 46]) x1 (fun (y0_2 : Int) => (br (decide (y0_2 ≥ (0 : Int))) (k5 b0_0 b0_1) (k6 b0_0 b0_1)))))))))))))
def f0 (x1 : Int) (b0_0 : BA) (b0_1 : Int) (k : BA → Int → Prop) (k1 : BA → Int → Prop) (k2 : BA → Int → Prop) (k3 : BA → Int → Prop) (k4 : BA → Int → Prop) (k5 : BA → Int → Prop) (k6 : BA → Int → Prop) : Prop := c x1 b0_0 b0_1 k k1 k2 k3 k4 k5 k6
theorem f_ex : ∃ g, g = f0 := ⟨_, rfl⟩
noncomputable def f := Classical.choose f_ex
theorem f_def : f = f0 := Classical.choose_spec f_ex
noncomputable def JJ (k kp : KT) : Nat → St → Prop := pick none' []
noncomputable def LL (k kp : KT) : Nat → St → Prop := pick none' []
theorem c_c (k kp : KT) (J L : Nat → St → Prop) (x1 : Int) (b0_0 : BA) (b0_1 : Int) : runC cfg 1000001 J L none'' [] body (topK cfg Tryd.f25 k kp) (st0 Tryd.f25 [(.ptr 0 0), (.v (.int IntKind.u8 x1))] [(.box 57 [(.v (.string b0_0)), (.v (.int .i64 b0_1))])]) = c x1 b0_0 b0_1 (fun z0_0 z0_1 => k (.clo 40 [(.ptr 0 0)] []) [(.box 57 [(.v (.string z0_0)), (.v (.int .i64 z0_1))])]) (fun z0_0 z0_1 => k (.clo 42 [(.ptr 0 0)] []) [(.box 57 [(.v (.string z0_0)), (.v (.int .i64 z0_1))])]) (fun z0_0 z0_1 => k (.clo 43 [(.ptr 0 0)] []) [(.box 57 [(.v (.string z0_0)), (.v (.int .i64 z0_1))])]) (fun z0_0 z0_1 => k (.clo 44 [(.ptr 0 0)] []) [(.box 57 [(.v (.string z0_0)), (.v (.int .i64 z0_1))])]) (fun z0_0 z0_1 => k (.clo 45 [(.ptr 0 0)] []) [(.box 57 [(.v (.string z0_0)), (.v (.int .i64 z0_1))])]) (fun z0_0 z0_1 => k (.clo 46 [(.ptr 0 0)] []) [(.box 57 [(.v (.string z0_0)), (.v (.int .i64 z0_1))])]) (fun z0_0 z0_1 => k (.v Value.nilFunc) [(.box 57 [(.v (.string z0_0)), (.v (.int .i64 z0_1))])]) := by kernel_rfl
theorem c_ag (k kp : KT) : agPL cfg 1000001 (JJ k kp) (LL k kp) [] body = agPR cfg 1000001 none'' [] body (topK cfg Tryd.f25 k kp) := by kernel_rfl
theorem body_is : Tryd.f25.body = some body := by kernel_rfl
theorem c_raw (k kp : KT) (x1 : Int) (b0_0 : BA) (b0_1 : Int) : funW cfg Tryd.f25 [(.ptr 0 0), (.v (.int IntKind.u8 x1))] [(.box 57 [(.v (.string b0_0)), (.v (.int .i64 b0_1))])] k kp = c x1 b0_0 b0_1 (fun z0_0 z0_1 => k (.clo 40 [(.ptr 0 0)] []) [(.box 57 [(.v (.string z0_0)), (.v (.int .i64 z0_1))])]) (fun z0_0 z0_1 => k (.clo 42 [(.ptr 0 0)] []) [(.box 57 [(.v (.string z0_0)), (.v (.int .i64 z0_1))])]) (fun z0_0 z0_1 => k (.clo 43 [(.ptr 0 0)] []) [(.box 57 [(.v (.string z0_0)), (.v (.int .i64 z0_1))])]) (fun z0_0 z0_1 => k (.clo 44 [(.ptr 0 0)] []) [(.box 57 [(.v (.string z0_0)), (.v (.int .i64 z0_1))])]) (fun z0_0 z0_1 => k (.clo 45 [(.ptr 0 0)] []) [(.box 57 [(.v (.string z0_0)), (.v (.int .i64 z0_1))])]) (fun z0_0 z0_1 => k (.clo 46 [(.ptr 0 0)] []) [(.box 57 [(.v (.string z0_0)), (.v (.int .i64 z0_1))])]) (fun z0_0 z0_1 => k (.v Value.nilFunc) [(.box 57 [(.v (.string z0_0)), (.v (.int .i64 z0_1))])]) :=
  Eq.mp (by kernel_rfl) ((funW_run (AG := none'') body_is (c_ag k kp) [(.ptr 0 0), (.v (.int IntKind.u8 x1))] [(.box 57 [(.v (.string b0_0)), (.v (.int .i64 b0_1))])]).trans (c_c k kp (JJ k kp) (LL k kp) x1 b0_0 b0_1))
theorem f_eq (k kp : KT) (x1 : Int) (b0_0 : BA) (b0_1 : Int) : funW cfg Tryd.f25 [(.ptr 0 0), (.v (.int IntKind.u8 x1))] [(.box 57 [(.v (.string b0_0)), (.v (.int .i64 b0_1))])] k kp = f x1 b0_0 b0_1 (fun z0_0 z0_1 => k (.clo 40 [(.ptr 0 0)] []) [(.box 57 [(.v (.string z0_0)), (.v (.int .i64 z0_1))])]) (fun z0_0 z0_1 => k (.clo 42 [(.ptr 0 0)] []) [(.box 57 [(.v (.string z0_0)), (.v (.int .i64 z0_1))])]) (fun z0_0 z0_1 => k (.clo 43 [(.ptr 0 0)] []) [(.box 57 [(.v (.string z0_0)), (.v (.int .i64 z0_1))])]) (fun z0_0 z0_1 => k (.clo 44 [(.ptr 0 0)] []) [(.box 57 [(.v (.string z0_0)), (.v (.int .i64 z0_1))])]) (fun z0_0 z0_1 => k (.clo 45 [(.ptr 0 0)] []) [(.box 57 [(.v (.string z0_0)), (.v (.int .i64 z0_1))])]) (fun z0_0 z0_1 => k (.clo 46 [(.ptr 0 0)] []) [(.box 57 [(.v (.string z0_0)), (.v (.int .i64 z0_1))])]) (fun z0_0 z0_1 => k (.v Value.nilFunc) [(.box 57 [(.v (.string z0_0)), (.v (.int .i64 z0_1))])]) := by
  rw [f_def, c_raw]; rfl
noncomputable def ent0 : Entry := fun args blks k _ => match args, blks with
  | [d0, d1], [e0] => aPtr 0 0 d0 (aInt IntKind.u8 d1 fun x1 => aBox 57 e0 fun l => aCons l fun e0_0 l => aCons l fun e0_1 l => aNil l (aStr e0_0 fun b0_0 => aInt IntKind.i64 e0_1 fun b0_1 => f x1 b0_0 b0_1 (fun z0_0 z0_1 => k (.clo 40 [(.ptr 0 0)] []) [(.box 57 [(.v (.string z0_0)), (.v (.int .i64 z0_1))])]) (fun z0_0 z0_1 => k (.clo 42 [(.ptr 0 0)] []) [(.box 57 [(.v (.string z0_0)), (.v (.int .i64 z0_1))])]) (fun z0_0 z0_1 => k (.clo 43 [(.ptr 0 0)] []) [(.box 57 [(.v (.string z0_0)), (.v (.int .i64 z0_1))])]) (fun z0_0 z0_1 => k (.clo 44 [(.ptr 0 0)] []) [(.box 57 [(.v (.string z0_0)), (.v (.int .i64 z0_1))])]) (fun z0_0 z0_1 => k (.clo 45 [(.ptr 0 0)] []) [(.box 57 [(.v (.string z0_0)), (.v (.int .i64 z0_1))])]) (fun z0_0 z0_1 => k (.clo 46 [(.ptr 0 0)] []) [(.box 57 [(.v (.string z0_0)), (.v (.int .i64 z0_1))])]) (fun z0_0 z0_1 => k (.v Value.nilFunc) [(.box 57 [(.v (.string z0_0)), (.v (.int .i64 z0_1))])])))
  | _, _ => False
noncomputable def ent : Entry := fun args blks k kp => ent0 (convB [.no, .no] args) blks k kp
theorem ok : EntOk Tryd.prog 49 0 25 ent := by
  refine EntOk.convB (EntOk.of (funW_ok (cfg := cfg) (tyOk_of rfl rfl tyL_ok) (eqOk_of (P := Tryd.prog) rfl rfl (by kernel_rfl)) mixed_ok (tab_ok ?_) Tryd.func25 (by rfl) (by rfl)) ?_) _
  · intro p hp
    simp only [List.mem_cons, List.not_mem_nil, or_false] at hp
    rcases hp with rfl | rfl | rfl
    · exact N39.ok
    · exact N41.ok
    · exact N36.ok
  · intro args blks k kp h k' kp'
    match args, blks, h with
    | [d0, d1], [e0], h =>
    dsimp only [ent0] at h
    have h9 := aPtr_elim h; clear h; obtain ⟨rfl, h⟩ := h9
    have h9 := aInt_elim h; clear h; obtain ⟨x1, rfl, h⟩ := h9
    have h9 := aBox_elim h; clear h; obtain ⟨_, rfl, h⟩ := h9
    have h9 := aCons_elim h; clear h; obtain ⟨e0_0, _, rfl, h⟩ := h9
    have h9 := aCons_elim h; clear h; obtain ⟨e0_1, _, rfl, h⟩ := h9
    have h9 := aNil_elim h; clear h; obtain ⟨rfl, h⟩ := h9
    have h9 := aStr_elim h; clear h; obtain ⟨b0_0, rfl, h⟩ := h9
    have h9 := aInt_elim h; clear h; obtain ⟨b0_1, rfl, h⟩ := h9
    exact (f_eq k' kp' x1 b0_0 b0_1).symm
end N25
end Go.Proofs.Ye

namespace Go.Proofs.Ye
open Go Go.Aw Go.Proofs
set_option maxRecDepth 100000
set_option maxHeartbeats 4000000
namespace N14
noncomputable def cfg : Cfg := { P := Tryd.prog, tf := 49, tw := 0, ty := tys, E := tab [(22, N22.ent), (23, N23.ent), (24, N24.ent), (25, N25.ent), (40, N40.ent), (42, N42.ent), (43, N43.ent), (44, N44.ent), (45, N45.ent), (46, N46.ent)], atSeq := tab [(21, ⟨[(4, .keep), (5, .keep)]⟩)], atLoop := tab [(5, ⟨[(0, .keep), (4, .keep), (5, .own 42 Zy0)]⟩)], outs := [.own 42 Zy0, .keep], eqT := tab [], bT := tab [] }
noncomputable def body : Code := bodyOf Tryd.f14
def l5 (j21 : BA → Int → (List Zq0) → Prop) (ag5 : BA → Int → (List Zq0) → Prop) (x0 b0_0 : BA) (b0_1 : Int) (b1 : (List Zq0)) (k : Err → (List Zq0) → Prop) : Prop :=
  (N23.f b0_0 b0_1 (fun (z0_0_0 : BA) (z0_1_0 : Int) => (br (z0_1_0 == ((((x0).size : Nat) : Int))) (j21 z0_0_0 z0_1_0 b1) ((inB 0 z0_1_0 ((((x0).size : Nat) : Int) - 1)) ∧ (br ((byteAt x0 z0_1_0) == (34 : Int)) (N24.f z0_0_0 z0_1_0 (fun (y0_0_1 : Int) (y0_1_1 : BA) (y0_2_1 y0_3_1 : Int) (y0_4_1 y1_1 y2_1 : Int) (z0_0_1 : BA) (z0_1_1 : Int) => (br (y2_1 != (0 : Int)) (k (newE y2_1 y1_1) ([] : List Zq0)) ((room ((b1).length + (([(y0_0_1, (y0_1_1, (y0_2_1, (y0_3_1, y0_4_1))))] : List Zq0)).length) 48) ∧ (ag5 z0_0_1 y1_1 (b1 ++ ([(y0_0_1, (y0_1_1, (y0_2_1, (y0_3_1, y0_4_1))))] : List Zq0))))))) ((inB 0 z0_1_0 ((((x0).size : Nat) : Int) - 1)) ∧ (N25.f (byteAt x0 z0_1_0) z0_0_0 z0_1_0 (fun (z0_0_2 : BA) (z0_1_2 : Int) => (N40.f z0_0_2 z0_1_2 (fun (y0_0_3 : Int) (y0_1_3 : BA) (y0_2_3 y0_3_3 : Int) (y0_4_3 y1_3 : Int) (z0_0_3 : BA) (z0_1_3 : Int) => (br (y1_3 != (0 : Int)) (k (newE y1_3 z0_1_3) ([] : List Zq0)) ((room ((b1).length + (([(y0_0_3, (y0_1_3, (y0_2_3, (y0_3_3, y0_4_3))))] : List Zq0)).length) 48) ∧ (ag5 z0_0_3 (IntKind.i64.wrap (z0_1_3 + ((((y0_1_3).size : Nat) : Int)))) (b1 ++ ([(y0_0_3, (y0_1_3, (y0_2_3, (y0_3_3, y0_4_3))))] : List Zq0)))))))) (fun (z0_0_4 : BA) (z0_1_4 : Int) => (N42.f z0_0_4 z0_1_4 (fun (y0_0_5 : Int) (y0_1_5 : BA) (y0_2_5 y0_3_5 : Int) (y0_4_5 y1_5 : Int) (z0_0_5 : BA) (z0_1_5 : Int) => (br (y1_5 != (0 : Int)) (k (newE y1_5 z0_1_5) ([] : List Zq0)) ((room ((b1).length + (([(y0_0_5, (y0_1_5, (y0_2_5, (y0_3_5, y0_4_5))))] : List Zq0)).length) 48) ∧ (ag5 z0_0_5 (IntKind.i64.wrap (z0_1_5 + ((((y0_1_5).size : Nat) : Int)))) (b1 ++ ([(y0_0_5, (y0_1_5, (y0_2_5, (y0_3_5, y0_4_5))))] : List Zq0)))))))) (fun (z0_0_6 : BA) (z0_1_6 : Int) => (N43.f z0_0_6 z0_1_6 (fun (y0_0_7 : Int) (y0_1_7 : BA) (y0_2_7 y0_3_7 : Int) (y0_4_7 y1_7 : Int) (z0_0_7 : BA) (z0_1_7 : Int) => (br (y1_7 != (0 : Int)) (k (newE y1_7 z0_1_7) ([] : List Zq0)) ((room ((b1).length + (([(y0_0_7, (y0_1_7, (y0_2_7, (y0_3_7, y0_4_7))))] : List Zq0)).length) 48) ∧ (ag5 z0_0_7 (IntKind.i64.wrap (z0_1_7 + ((((y0_1_7).size : Nat) : Int)))) (b1 ++ ([(y0_0_7, (y0_1_7, (y0_2_7, (y0_3_7, y0_4_7))))] : List Zq0)))))))) (fun (z0_0_8 : BA) (z0_1_8 : Int) => (N44.f z0_0_8 z0_1_8 (fun (y0_0_9 : Int) (y0_1_9 : BA) (y0_2_9 y0_3_9 : Int) (y0_4_9 y1_9 : Int) (z0_0_9 : BA) (z0_1_9 : Int) => (br (y1_9 != (0 : Int)) (k (newE y1_9 z0_1_9) ([] : List Zq0)) ((room ((b1).length + (([(y0_0_9, (y0_1_9, (y0_2_9, (y0_3_9, y0_4_9))))] : List Zq0)).length) 48) ∧ (ag5 z0_0_9 (IntKind.i64.wrap (z0_1_9 + ((((y0_1_9).size : Nat) : Int)))) (b1 ++ ([(y0_0_9, (y0_1_9, (y0_2_9, (y0_3_9, y0_4_9))))] : List Zq0)))))))) (fun (z0_0_10 : BA) (z0_1_10 : Int) => (N45.f z0_0_10 z0_1_10 (fun (y0_0_11 : Int) (y0_1_11 : BA) (y0_2_11 y0_3_11 : Int) (y0_4_11 y1_11 : Int) (z0_0_11 : BA) (z0_1_11 : Int) => (br (y1_11 != (0 : Int)) (k (newE y1_11 z0_1_11) ([] : List Zq0)) ((room ((b1).length + (([(y0_0_11, (y0_1_11, (y0_2_11, (y0_3_11, y0_4_11))))] : List Zq0)).length) 48) ∧ (ag5 z0_0_11 (IntKind.i64.wrap (z0_1_11 + ((((y0_1_11).size : Nat) : Int)))) (b1 ++ ([(y0_0_11, (y0_1_11, (y0_2_11, (y0_3_11, y0_4_11))))] : List Zq0)))))))) (fun (z0_0_12 : BA) (z0_1_12 : Int) => (N46.f z0_0_12 z0_1_12 (fun (y0_0_13 : Int) (y0_1_13 : BA) (y0_2_13 y0_3_13 : Int) (y0_4_13 y1_13 : Int) (z0_0_13 : BA) (z0_1_13 : Int) => (br (y1_13 != (0 : Int)) (k (newE y1_13 z0_1_13) ([] : List Zq0)) ((room ((b1).length + (([(y0_0_13, (y0_1_13, (y0_2_13, (y0_3_13, y0_4_13))))] : List Zq0)).length) 48) ∧ (ag5 z0_0_13 (IntKind.i64.wrap (z0_1_13 + ((((y0_1_13).size : Nat) : Int)))) (b1 ++ ([(y0_0_13, (y0_1_13, (y0_2_13, (y0_3_13, y0_4_13))))] : List Zq0)))))))) (fun (z0_0_14 : BA) (z0_1_14 : Int) => (k (newE (10 : Int) z0_1_14) ([] : List Zq0))))))))))
def j21 (b0_0 : BA) (b0_1 : Int) (b1 : (List Zq0)) (k : Err → (List Zq0) → Prop) : Prop :=
  ((room ((b1).length + (([((0 : Int), ((ByteArray.mk #[]), ((0 : Int), ((0 : Int), b0_1))))] : List Zq0)).length) 48) ∧ (k Err.nil (b1 ++ ([((0 : Int), ((ByteArray.mk #[]), ((0 : Int), ((0 : Int), b0_1))))] : List Zq0))))
def c (l5 : BA → BA → Int → (List Zq0) → Prop) (x0 : BA) (k : Err → (List Zq0) → Prop) : Prop :=
  (br (decide (((((x0).size : Nat) : Int)) > (65536 : Int))) (k (newE (3 : Int) (0 : Int)) ([] : List Zq0)) (l5 x0 x0 (0 : Int) ([] : List Zq0)))
def j21' (b0_0 : BA) (b0_1 : Int) (b1 : (List Zq0)) (k : Err → (List Zq0) → Prop) : Prop := j21 b0_0 b0_1 b1 k
def l5' (x0 b0_0 : BA) (b0_1 : Int) (b1 : (List Zq0)) (k : Err → (List Zq0) → Prop) : Prop := ∃ n, loopS (fun (ag : (BA × Int × (List Zq0)) → Prop) (s : BA × Int × (List Zq0)) => l5 (fun b0_0 b0_1 b1 => j21' b0_0 b0_1 b1 k) (fun b0_0 b0_1 b1 => ag (b0_0, b0_1, b1)) x0 s.1 s.2.1 s.2.2 k) n (b0_0, b0_1, b1)
def f0 (x0 : BA) (k : Err → (List Zq0) → Prop) : Prop := c (fun x0 b0_0 b0_1 b1 => l5' x0 b0_0 b0_1 b1 k) x0 k
theorem f_ex : ∃ g, g = f0 := ⟨_, rfl⟩
noncomputable def f := Classical.choose f_ex
theorem f_def : f = f0 := Classical.choose_spec f_ex
def mL5 (x0 b0_0 : BA) (b0_1 : Int) (b1 : (List Zq0)) : St := { tmps := mkT 106 0 [(0, (.v (.string x0))), (4, (.ptr 0 0)), (5, (.sl 1 0))], hp := [(.box 57 [(.v (.string b0_0)), (.v (.int .i64 b0_1))]), (.lst 42 Zy0 b1 0 false)], m := 0 }
def m21 (b0_0 : BA) (b0_1 : Int) (b1 : (List Zq0)) : St := { tmps := mkT 106 0 [(4, (.ptr 0 0)), (5, (.sl 1 0))], hp := [(.box 57 [(.v (.string b0_0)), (.v (.int .i64 b0_1))]), (.lst 42 Zy0 b1 0 false)], m := 0 }
noncomputable def YL5 (k kp : KT) : (St → Prop) → St → Prop := loopB cfg (sub [1, 0, 1, 1, 1, 1, 0, 0, 0] body) (contK cfg (pick none' []) [1, 0, 1, 1, 1, 1, 0, 0] body (topK cfg Tryd.f14 k kp))
noncomputable def XL5 (k kp : KT) : St → Prop := fun st => ∃ n, loopN (YL5 k kp) n st
noncomputable def X21 (k kp : KT) : St → Prop := atP cfg (pick none' []) [1, 0, 1, 1, 1, 1, 1] body (topK cfg Tryd.f14 k kp)
noncomputable def JJ_5 (k kp : KT) (ag5 : St → Prop) : Nat → St → Prop := pick none' [(21, X21 k kp)]
noncomputable def LL_5 (k kp : KT) (ag5 : St → Prop) : Nat → St → Prop := pick none' [(5, XL5 k kp)]
noncomputable def JJ (k kp : KT) : Nat → St → Prop := pick none' [(21, X21 k kp)]
noncomputable def LL (k kp : KT) : Nat → St → Prop := pick none' [(5, XL5 k kp)]
theorem j21_c (k kp : KT) (J L : Nat → St → Prop) (b0_0 : BA) (b0_1 : Int) (b1 : (List Zq0)) : runC cfg 21 J L (pick none' []) [1, 0, 1, 1, 1, 1, 1] body (topK cfg Tryd.f14 k kp) (m21 b0_0 b0_1 b1) = j21 b0_0 b0_1 b1 (fun y1 z0 => k (.tup [(.sl 0 0), (.er y1)]) [(.lst 42 Zy0 z0 0 false)]) := by kernel_rfl
theorem j21_ag (k kp : KT) : agPL cfg 21 (JJ k kp) (LL k kp) [1, 0, 1, 1, 1, 1, 1] body = agPR cfg 21 (pick none' []) [1, 0, 1, 1, 1, 1, 1] body (topK cfg Tryd.f14 k kp) := by kernel_rfl
theorem j21_raw (k kp : KT) (b0_0 : BA) (b0_1 : Int) (b1 : (List Zq0)) : X21 k kp (m21 b0_0 b0_1 b1) = j21 b0_0 b0_1 b1 (fun y1 z0 => k (.tup [(.sl 0 0), (.er y1)]) [(.lst 42 Zy0 z0 0 false)]) :=
  Eq.mp (by kernel_rfl) ((atP_run (j21_ag k kp) (m21 b0_0 b0_1 b1)).trans (j21_c k kp (JJ k kp) (LL k kp) b0_0 b0_1 b1))
theorem j21_eq (k kp : KT) (b0_0 : BA) (b0_1 : Int) (b1 : (List Zq0)) : X21 k kp (m21 b0_0 b0_1 b1) = j21' b0_0 b0_1 b1 (fun y1 z0 => k (.tup [(.sl 0 0), (.er y1)]) [(.lst 42 Zy0 z0 0 false)]) := by
  rw [j21_raw]; rfl
theorem l5_c (k kp : KT) (J L : Nat → St → Prop) (ag5 : St → Prop) (x0 b0_0 : BA) (b0_1 : Int) (b1 : (List Zq0)) : runC cfg 1000001 J L (pick none' [(5, ag5)]) [1, 0, 1, 1, 1, 1, 0, 0, 0] body (topK cfg Tryd.f14 k kp) (mL5 x0 b0_0 b0_1 b1) = l5 (fun b0_0 b0_1 b1 => J 21 (m21 b0_0 b0_1 b1)) (fun b0_0 b0_1 b1 => ag5 (mL5 x0 b0_0 b0_1 b1)) x0 b0_0 b0_1 b1 (fun y1 z0 => k (.tup [(.sl 0 0), (.er y1)]) [(.lst 42 Zy0 z0 0 false)]) := by kernel_rfl
theorem l5_ag (k kp : KT) (ag5 : St → Prop) : agPL cfg 1000001 (JJ_5 k kp ag5) (LL_5 k kp ag5) [1, 0, 1, 1, 1, 1, 0, 0, 0] body = agPR cfg 1000001 (pick none' [(5, ag5)]) [1, 0, 1, 1, 1, 1, 0, 0, 0] body (topK cfg Tryd.f14 k kp) := by kernel_rfl
theorem l5_raw (k kp : KT) (ag5 : St → Prop) (x0 b0_0 : BA) (b0_1 : Int) (b1 : (List Zq0)) : YL5 k kp ag5 (mL5 x0 b0_0 b0_1 b1) = l5 (fun b0_0 b0_1 b1 => X21 k kp (m21 b0_0 b0_1 b1)) (fun b0_0 b0_1 b1 => ag5 (mL5 x0 b0_0 b0_1 b1)) x0 b0_0 b0_1 b1 (fun y1 z0 => k (.tup [(.sl 0 0), (.er y1)]) [(.lst 42 Zy0 z0 0 false)]) :=
  Eq.mp (by kernel_rfl) ((atP_run (l5_ag k kp ag5) (mL5 x0 b0_0 b0_1 b1)).trans (l5_c k kp (JJ_5 k kp ag5) (LL_5 k kp ag5) ag5 x0 b0_0 b0_1 b1))
theorem l5_eq (k kp : KT) (x0 b0_0 : BA) (b0_1 : Int) (b1 : (List Zq0)) : XL5 k kp (mL5 x0 b0_0 b0_1 b1) = l5' x0 b0_0 b0_1 b1 (fun y1 z0 => k (.tup [(.sl 0 0), (.er y1)]) [(.lst 42 Zy0 z0 0 false)]) :=
  loop_eq (mk := fun (s : BA × Int × (List Zq0)) => mL5 x0 s.1 s.2.1 s.2.2) (fun again s => by rw [l5_raw k kp again x0 s.1 s.2.1 s.2.2]; simp only [j21_eq]; first | done | rfl) (b0_0, b0_1, b1)
theorem c_c (k kp : KT) (J L : Nat → St → Prop) (x0 : BA) : runC cfg 1000001 J L none'' [] body (topK cfg Tryd.f14 k kp) (st0 Tryd.f14 [(.v (.string x0))] []) = c (fun x0 b0_0 b0_1 b1 => L 5 (mL5 x0 b0_0 b0_1 b1)) x0 (fun y1 z0 => k (.tup [(.sl 0 0), (.er y1)]) [(.lst 42 Zy0 z0 0 false)]) := by kernel_rfl
theorem c_ag (k kp : KT) : agPL cfg 1000001 (JJ k kp) (LL k kp) [] body = agPR cfg 1000001 none'' [] body (topK cfg Tryd.f14 k kp) := by kernel_rfl
theorem body_is : Tryd.f14.body = some body := by kernel_rfl
theorem c_raw (k kp : KT) (x0 : BA) : funW cfg Tryd.f14 [(.v (.string x0))] [] k kp = c (fun x0 b0_0 b0_1 b1 => XL5 k kp (mL5 x0 b0_0 b0_1 b1)) x0 (fun y1 z0 => k (.tup [(.sl 0 0), (.er y1)]) [(.lst 42 Zy0 z0 0 false)]) :=
  Eq.mp (by kernel_rfl) ((funW_run (AG := none'') body_is (c_ag k kp) [(.v (.string x0))] []).trans (c_c k kp (JJ k kp) (LL k kp) x0))
theorem f_eq (k kp : KT) (x0 : BA) : funW cfg Tryd.f14 [(.v (.string x0))] [] k kp = f x0 (fun y1 z0 => k (.tup [(.sl 0 0), (.er y1)]) [(.lst 42 Zy0 z0 0 false)]) := by
  rw [f_def, c_raw]; simp only [l5_eq]; first | done | rfl
noncomputable def ent0 : Entry := fun args blks k _ => match args, blks with
  | [d0], [] => aStr d0 fun x0 => f x0 (fun y1 z0 => k (.tup [(.sl 0 0), (.er y1)]) [(.lst 42 Zy0 z0 0 false)])
  | _, _ => False
noncomputable def ent : Entry := fun args blks k kp => ent0 (convB [.no] args) blks k kp
theorem ok : EntOk Tryd.prog 49 0 14 ent := by
  refine EntOk.convB (EntOk.of (funW_ok (cfg := cfg) (tyOk_of rfl rfl tyL_ok) (eqOk_of (P := Tryd.prog) rfl rfl (by kernel_rfl)) mixed_ok (tab_ok ?_) Tryd.func14 (by rfl) (by rfl)) ?_) _
  · intro p hp
    simp only [List.mem_cons, List.not_mem_nil, or_false] at hp
    rcases hp with rfl | rfl | rfl | rfl | rfl | rfl | rfl | rfl | rfl | rfl
    · exact N22.ok
    · exact N23.ok
    · exact N24.ok
    · exact N25.ok
    · exact N40.ok
    · exact N42.ok
    · exact N43.ok
    · exact N44.ok
    · exact N45.ok
    · exact N46.ok
  · intro args blks k kp h k' kp'
    match args, blks, h with
    | [d0], [], h =>
    dsimp only [ent0] at h
    have h9 := aStr_elim h; clear h; obtain ⟨x0, rfl, h⟩ := h9
    exact (f_eq k' kp' x0).symm
end N14
end Go.Proofs.Ye

namespace Go.Proofs.Ye
open Go Go.Aw Go.Proofs Go.RowKit
theorem skip_s (s : ByteArray) (hs : s.size ≤ reachBytes) (p : Nat) (hp : p ≤ s.size) (k : ByteArray → Int → Prop)
    (h : ∀ q : Nat, p ≤ q → q ≤ s.size → stopAt ((ofBytes s).drop q) → (∀ out, lexW ((ofBytes s).drop p) p out = lexW ((ofBytes s).drop q) q out) → k s q) : N23.f s (p : Int) k := by
  have hr : reachBytes < 2 ^ 47 := reachBytes_lt
  have hl := ofBytes_length s
  rw [N23.f_def]
  unfold N23.f0 N23.c N23.l0'
  refine loopS_of (fun st : ByteArray × Int => ∃ q : Nat, st.1 = s ∧ st.2 = q ∧ p ≤ q ∧ q ≤ s.size ∧ ∀ out, lexW ((ofBytes s).drop p) p out = lexW ((ofBytes s).drop q) q out) (fun st => s.size - st.2.toNat) ?_ ⟨p, rfl, rfl, Nat.le_refl _, hp, fun _ => rfl⟩
  rintro again ⟨s', x⟩ ⟨q, rfl, rfl, hpq, hq, he⟩ hag
  simp only at hag hr hl hs h ⊢
  unfold N23.l0 N23.j8' N23.j8
  dsimp only
  refine br_of (fun hlt => ?_) (fun hge => ?_)
  · have hlt : q < s'.size := by simp at hlt; omega
    rw [rest_eq s' q hq]
    have hB : ∀ y ∈ (ofBytes s').drop q, isB y := fun y hy => ofBytes_isB s' y (List.mem_of_mem_drop hy)
    have hdl : ((ofBytes s').drop q).length = s'.size - q := by rw [List.length_drop, hl]
    rw [bytesOf_size, show byteAt (bytesOf ((ofBytes s').drop q)) 0 = ((ofBytes s').drop q).getD 0 0 from byteAt_bytes hB 0, show (((ofBytes s').drop q).getD 0 0) = (ofBytes s').getD q 0 by simp [List.getD, List.getElem?_drop]]
    refine ⟨⟨by omega, by omega, by omega⟩, ⟨by omega, by omega, by omega⟩, indexB_s _ _ _ ?_⟩
    have hc := getD_isB s' q
    have hdr := drop_get (d := (0 : Int)) (by omega : q < (ofBytes s').length)
    rw [br_dec]
    by_cases hW : isW ((ofBytes s').getD q 0) = true
    · rw [if_pos ((indexB_blank hc).2 hW), wrap_id (by omega) (by omega)]
      refine hag _ ⟨q + 1, rfl, by simp, by omega, by omega, fun out => ?_⟩ (by simp only; omega)
      rw [he, hdr, lexW_blank _ _ hW]
      simp
    · rw [if_neg (fun hh => hW ((indexB_blank hc).1 hh))]
      refine prefix2_s _ _ ?_
      rw [bytesOf_size, ofBytes_bytesOf hB]
      refine br_of (fun hrem => ?_) (fun hno => ?_)
      · have hrem := of_decide_eq_true hrem
        refine indexB_s _ _ _ ?_
        rw [indexB_eq _ (by exact ⟨by decide, by decide⟩), ofBytes_bytesOf hB, idxI_line]
        have hln := lineN_le ((ofBytes s').drop q)
        have hd2 : ((ofBytes s').drop q).head? = some 47 ∧ (((ofBytes s').drop q).drop 1).head? = some 47 := by
          match hc2 : (ofBytes s').drop q, hrem with
          | [], hrem => simp at hrem
          | [a], hrem => simp at hrem
          | a :: b :: r, hrem => simp at hrem; simp [hrem]
        have hl1 : 1 ≤ lineN ((ofBytes s').drop q) := by
          rw [hdr] at hd2 ⊢
          unfold lineN
          have h47 : (ofBytes s').getD q 0 = 47 := Option.some.inj hd2.1
          rw [if_neg (by rw [h47]; decide)]; omega
        have go : ∀ n : Int, n = lineN ((ofBytes s').drop q) → again (s', IntKind.i64.wrap ((q : Int) + n)) := by
          rintro n rfl
          rw [wrap_id (by omega) (by omega)]
          refine hag _ ⟨q + lineN ((ofBytes s').drop q), rfl, by simp, by omega, by omega, fun out => ?_⟩ (by simp only; omega)
          rw [he, ← List.drop_drop]
          obtain ⟨r, hr2, hr3⟩ : ∃ r, (ofBytes s').drop q = 47 :: r ∧ r.head? = some 47 := by
            rw [hdr] at hd2 ⊢
            simp only [List.head?_cons, Option.some.injEq, List.drop_succ_cons, List.drop_zero] at hd2
            exact ⟨_, by rw [hd2.1], hd2.2⟩
          rw [hr2, lexW_remark _ _ hr3]
          simp
        rw [br_dec]
        by_cases hnl : lineN ((ofBytes s').drop q) < ((ofBytes s').drop q).length
        · rw [if_pos hnl, if_neg (by omega)]
          exact go _ rfl
        · rw [if_neg hnl, if_pos (by decide)]
          exact go _ (by omega)
      · have hno := of_decide_eq_false hno
        refine h q hpq hq ?_ he
        rw [hdr]
        refine ⟨by simpa using hW, ?_⟩
        rintro ⟨h47, hh⟩
        refine hno ⟨?_, ?_, ?_⟩
        · rw [hdl]
          rcases Nat.lt_or_ge 1 (s'.size - q) with g | g
          · exact g
          · rw [List.drop_of_length_le (by omega)] at hh; simp at hh
        · rw [hdr]; simpa using h47
        · rw [hdr]
          simp only [List.getD_cons_succ]
          cases hc3 : (ofBytes s').drop (q + 1) with
          | nil => rw [hc3] at hh; simp at hh
          | cons a r => rw [hc3] at hh; simpa using hh
  · have hge : ¬ q < s'.size := by simp at hge; omega
    refine h q hpq hq ?_ he
    rw [List.drop_of_length_le (by omega)]
    trivial
theorem quoted_s (s : ByteArray) (hx : s.size ≤ 1000000000000) (p : Nat) (k : Int → ByteArray → Int → Int → Int → Int → Int → ByteArray → Int → Prop)
    (hp : p < s.size) (hq : (ofBytes s).getD p 0 = 34)
    (h : ∀ t e c, scanL 64 ((ofBytes s).length + 1) ((ofBytes s).drop (p + 1)) (p + 1) [] = (t, e, c) → k 3 (bytesOf t) 0 0 p e c s p) : N24.f s (p : Int) k := by
  have hl := ofBytes_length s
  rw [N24.f_def]
  unfold N24.f0 N24.c
  refine qscan_s s hx _ _ (fun hn => ?_) (fun t e c _ he => h t e c (by simpa using he))
  exfalso
  unfold noQuote at hn
  rw [Int.toNat_natCast] at hn
  rcases hn with hn | hn | hn
  · omega
  · omega
  · exact hn hq
theorem all_s (s : ByteArray) (hs : s.size ≤ reachBytes) (k : Err → List LTok → Prop) (h : k (newE (lexAll (ofBytes s)).2.1 (lexAll (ofBytes s)).2.2) (lexAll (ofBytes s)).1) : N14.f s k := by
  have hr : reachBytes < 2 ^ 47 := reachBytes_lt
  have hl := ofBytes_length s
  rw [N14.f_def]
  unfold N14.f0 N14.c
  rw [lexAll_eq, hl] at h
  rw [br_dec]
  split
  · rename_i h1
    rw [if_pos (by omega)] at h
    exact h
  · rename_i h1
    rw [if_neg (by omega)] at h
    have h64 : s.size ≤ 65536 := by omega
    generalize hR : lexW (ofBytes s) 0 [] = R at h
    unfold N14.l5'
    refine loopS_of (fun st : ByteArray × Int × List LTok => ∃ q : Nat, st.1 = s ∧ st.2.1 = q ∧ q ≤ s.size ∧ st.2.2.length ≤ q ∧ lexW ((ofBytes s).drop q) q st.2.2 = R) (fun st => s.size - st.2.1.toNat) ?_ ⟨0, rfl, rfl, Nat.zero_le _, Nat.zero_le _, by rw [← hR]; rfl⟩
    rintro again ⟨s', x, out⟩ ⟨q0, rfl, rfl, hq0, ho, he⟩ hag
    simp only at hag ho he hr hl hs h h64 hq0 ⊢
    unfold N14.l5 N14.j21' N14.j21
    dsimp only
    refine skip_s s' hs q0 hq0 _ ?_
    intro q hqq hq hst hsk
    have he : lexW ((ofBytes s').drop q) q out = R := by rw [← he, hsk]
    have ho : out.length ≤ q := by omega
    rw [br_beq]
    split
    · rename_i hend
      have hend : q = s'.size := by omega
      refine ⟨by unfold room; simp; omega, ?_⟩
      rw [List.drop_of_length_le (by omega), lexW_nil] at he
      rw [← he] at h
      exact h
    · rename_i hend
      have hlt : q < s'.size := by omega
      have hdr := drop_get (d := (0 : Int)) (by omega : q < (ofBytes s').length)
      refine ⟨⟨by omega, by omega, by omega⟩, ?_⟩
      rw [byteAt_eq]
      rw [hdr] at hst he
      rw [lexW_tok _ _ hst, ← hdr] at he
      have hc := getD_isB s' q
      rw [br_beq]
      have rd : ∀ g : Got, tokS ((ofBytes s').drop q) = g → g.off = 0 → (g.code = 0 → g.text.length = g.len) → Rd s' q g (fun (y0 : Int) (y1 : ByteArray) (y2 y3 y4 y5 : Int) (z0 : ByteArray) (z1 : Int) => (br (y5 != (0 : Int)) (k (newE y5 z1) ([] : List LTok)) ((room (out.length + (([(y0, (y1, (y2, (y3, y4))))] : List LTok)).length) 48) ∧ (again (z0, (w64 (z1 + ((((y1).size : Nat) : Int)))), (out ++ ([(y0, (y1, (y2, (y3, y4))))] : List LTok))))))) := by
        intro g hg hoff hlen
        rw [hg] at he
        constructor
        · intro hc0 a b c d e
          rw [if_pos hc0, hoff] at he
          rw [br_bne, if_neg hc0]
          rw [← show (([] : List LTok), g.code, (q : Int)) = R by rw [← he]; simp] at h
          exact h
        · intro hc0
          rw [if_neg (by simpa using hc0)] at he
          have htl := tokS_len (l := (ofBytes s').drop q) (by rw [hg]; exact hc0)
          rw [hg, List.length_drop] at htl
          rw [br_bne, if_pos rfl]
          refine ⟨by unfold room; simp; omega, ?_⟩
          have e1 : (bytesOf g.text).size = g.len := by rw [bytesOf_size]; exact hlen hc0
          rw [e1, w64_id ⟨by omega, by omega⟩]
          refine hag _ ⟨q + g.len, rfl, by simp, by omega, by simp; omega, ?_⟩ (by simp only; omega)
          rw [← he, List.drop_drop]
          simp
      have num : ∀ kind cls a, (numS kind a cls ((ofBytes s').drop q)).off = 0 ∧ ((numS kind a cls ((ofBytes s').drop q)).code = 0 → (numS kind a cls ((ofBytes s').drop q)).text.length = (numS kind a cls ((ofBytes s').drop q)).len) := by
        intro kind cls a
        have hrl := run_le (((ofBytes s').drop q).drop a)
        rw [List.length_drop] at hrl
        unfold numS
        dsimp only
        split
        · exact ⟨rfl, fun hh => absurd hh (by simp [Got.bad])⟩
        · rename_i hn
          split
          · exact ⟨rfl, fun hh => absurd hh (by simp [Got.bad])⟩
          · refine ⟨rfl, fun _ => ?_⟩
            dsimp only
            rw [List.length_take]
            omega
      split
      · rename_i h34
        refine quoted_s s' (by omega) q _ hlt h34 ?_
        intro t e c hsc
        have ht := tokS_quote (ofBytes s') q (by omega) h34 hsc
        rw [ht] at he
        rw [br_bne]
        split
        · rename_i hc0
          subst hc0
          simp only [if_true, ne_eq, not_true, if_false] at he
          have htl := tokS_len (l := (ofBytes s').drop q) (by rw [ht]; rfl)
          rw [ht, List.length_drop] at htl
          simp only [if_true] at htl
          refine ⟨by unfold room; simp; omega, ?_⟩
          refine hag _ ⟨q + (e - q).toNat, rfl, by simp only; omega, by omega, by simp; omega, ?_⟩ (by simp only; omega)
          rw [← he, List.drop_drop]
          simp
        · rename_i hc0
          rw [if_neg hc0] at he
          rw [if_pos (show (Got.bad c (e - q)).code ≠ 0 from hc0)] at he
          simp only [Got.bad] at he
          rw [show (q : Int) + (e - q) = e by omega] at he
          rw [← he] at h
          exact h
      · rename_i h34
        refine ⟨⟨by omega, by omega, by omega⟩, ?_⟩
        rw [N25.f_def]
        unfold N25.f0 N25.c
        refine isDig_s _ _ ?_
        generalize hcc : (ofBytes s').getD q 0 = c at *
        have hh1 : ((ofBytes s').drop (q + 1)).head? = some ((ofBytes s').getD (q + 1) 0) ∨ (ofBytes s').drop (q + 1) = [] := by
          rcases Nat.lt_or_ge (q + 1) (ofBytes s').length with g | g
          · left; rw [drop_get (d := 0) g]; rfl
          · right; exact List.drop_of_length_le g
        have hnil : (ofBytes s').drop (q + 1) = [] → (ofBytes s').getD (q + 1) 0 = 0 := by
          intro g
          have : (ofBytes s').length ≤ q + 1 := by
            have := congrArg List.length g
            rw [List.length_drop] at this; simp at this; omega
          simp [List.getD, List.getElem?_eq_none this]
        rw [br_dec]
        split
        · rename_i hD
          have e1 : tokS ((ofBytes s').drop q) = numS 2 0 0 ((ofBytes s').drop q) := by rw [hdr, tokS_D _ hD]
          exact number_s s' hs q hlt _ (rd _ e1 (num _ _ _).1 (num _ _ _).2)
        · rename_i hD
          refine (letter_s _ _).2 ?_
          refine br_of (fun hL => ?_) (fun hL => ?_)
          · have e1 : tokS ((ofBytes s').drop q) = if runS ((ofBytes s').drop q) > 24 then .bad 3 0 else ⟨1, ((ofBytes s').drop q).take (runS ((ofBytes s').drop q)), 0, 0, runS ((ofBytes s').drop q), 0, 0⟩ := by
              rw [hdr, tokS_L _ hL]
            refine word_s s' hs q hlt (by rw [hcc]; exact hL) _ (rd _ e1 ?_ ?_)
            · split <;> rfl
            · split
              · intro hh; exact absurd hh (by simp [Got.bad])
              · intro _
                have := runS_le ((ofBytes s').drop q)
                dsimp only
                rw [List.length_take]; omega
          · rw [br_beq]
            split
            · rename_i h37
              have e1 : tokS ((ofBytes s').drop q) = numS 4 1 0 ((ofBytes s').drop q) := by rw [hdr, h37, tokS_37]
              exact vreg_s s' hs q hlt _ (rd _ e1 (num _ _ _).1 (num _ _ _).2)
            · rename_i h37
              rw [br_beq]
              split
              · rename_i h36
                have e1 : tokS ((ofBytes s').drop q) = if (ofBytes s').getD (q + 1) 0 = 103 then numS 5 2 0 ((ofBytes s').drop q) else if (ofBytes s').getD (q + 1) 0 = 120 then numS 5 2 1 ((ofBytes s').drop q) else .bad 12 0 := by
                  rw [hdr, h36, tokS_36]
                  rcases hh1 with g | g
                  · rw [g]; simp only [Option.some.injEq]
                  · rw [hnil g, g]; simp
                refine preg_s s' hs q hlt _ (rd _ e1 ?_ ?_)
                · split
                  · exact (num _ _ _).1
                  · split
                    · exact (num _ _ _).1
                    · rfl
                · split
                  · exact (num _ _ _).2
                  · split
                    · exact (num _ _ _).2
                    · intro hh; exact absurd hh (by simp [Got.bad])
              · rename_i h36
                rw [br_beq]
                split
                · rename_i h35
                  have e1 : tokS ((ofBytes s').drop q) = numS 6 1 0 ((ofBytes s').drop q) := by rw [hdr, h35, tokS_35]
                  exact slot_s s' hs q hlt _ (rd _ e1 (num _ _ _).1 (num _ _ _).2)
                · rename_i h35
                  refine indexB_s _ _ _ ?_
                  rw [br_dec]
                  split
                  · rename_i hS
                    have hS := (indexB_signs hc).1 hS
                    have e1 : tokS ((ofBytes s').drop q) = if c = 46 ∧ (ofBytes s').getD (q + 1) 0 = 46 then ⟨7, [46, 46], 0, 0, 2, 0, 0⟩ else ⟨7, [c], 0, 0, 1, 0, 0⟩ := by
                      rw [hdr, tokS_S _ hS]
                      rcases hh1 with g | g
                      · rw [g]; simp only [Option.some.injEq]
                      · rw [hnil g, g]; simp
                    refine sign_s' s' hs q hlt _ ?_
                    rw [hcc]
                    refine rd _ e1 ?_ ?_
                    · split <;> rfl
                    · split <;> (intro _; rfl)
                  · rename_i hS
                    have hS := fun hh => hS ((indexB_signs hc).2 hh)
                    rw [hdr, tokS_no _ h34 hL h37 h35 h36 hD hS] at he
                    simp [Got.bad] at he
                    rw [← he] at h
                    exact h
end Go.Proofs.Ye

namespace Go.Aw
open Go Go.RowKit
theorem ofN (c a : Int) (h : c ≠ 0) : newE c a = .flt c a := by unfold newE; rw [if_neg h]
theorem err_flat (c a : Int) : flatE (newE c a) = true := by unfold newE; split <;> rfl
theorem err_of (c a : Int) : ofE (newE c a) = c := by
  unfold newE
  split
  · rename_i h; rw [h]; rfl
  · rfl
theorem err_at {c a : Int} (h : c = 0 → a = 0) : atE (newE c a) = a := by
  unfold newE
  split
  · rename_i h1; rw [h h1]; rfl
  · rfl
theorem err_nil (c a : Int) : (newE c a).isNil = decide (c = 0) := by
  unfold newE
  split
  · rename_i h; simp [h, Err.isNil]
  · rename_i h; simp [h, Err.isNil]
end Go.Aw

namespace Go.Proofs.Ye
open Go Go.Aw Go.Proofs
set_option maxRecDepth 100000
set_option maxHeartbeats 4000000
namespace N21
noncomputable def cfg : Cfg := { P := Tryd.prog, tf := 49, tw := 0, ty := tys, E := tab [], atSeq := tab [], atLoop := tab [], outs := [], eqT := tab [], bT := tab [], fzB := [2] }
noncomputable def body : Code := bodyOf Tryd.f21
def c (x0_0 : Int) (x0_1 : BA) (x0_2 x0_3 x0_4 : Int) (x1 : BA) (k : Bool → Prop) : Prop :=
  (br (x0_0 == (1 : Int)) (k (beqS x0_1 x1)) (br (x0_0 == (7 : Int)) (k (beqS x0_1 x1)) (k false)))
def f0 (x0_0 : Int) (x0_1 : BA) (x0_2 x0_3 x0_4 : Int) (x1 : BA) (k : Bool → Prop) : Prop := c x0_0 x0_1 x0_2 x0_3 x0_4 x1 k
theorem f_ex : ∃ g, g = f0 := ⟨_, rfl⟩
noncomputable def f := Classical.choose f_ex
theorem f_def : f = f0 := Classical.choose_spec f_ex
noncomputable def JJ (k kp : KT) : Nat → St → Prop := pick none' []
noncomputable def LL (k kp : KT) : Nat → St → Prop := pick none' []
theorem c_c (k kp : KT) (J L : Nat → St → Prop) (x0_0 : Int) (x0_1 : BA) (x0_2 x0_3 x0_4 : Int) (x1 : BA) : runC cfg 1000001 J L none'' [] body (topK cfg Tryd.f21 k kp) (st0 Tryd.f21 [(.agg [(.v (.int .i64 x0_0)), (.v (.string x0_1)), (.v (.int .i64 x0_2)), (.v (.int .i64 x0_3)), (.v (.int .i64 x0_4))]), (.v (.string x1))] []) = c x0_0 x0_1 x0_2 x0_3 x0_4 x1 (fun y0 => k (.v (.bool y0)) []) := by kernel_rfl
theorem c_ag (k kp : KT) : agPL cfg 1000001 (JJ k kp) (LL k kp) [] body = agPR cfg 1000001 none'' [] body (topK cfg Tryd.f21 k kp) := by kernel_rfl
theorem body_is : Tryd.f21.body = some body := by kernel_rfl
theorem c_raw (k kp : KT) (x0_0 : Int) (x0_1 : BA) (x0_2 x0_3 x0_4 : Int) (x1 : BA) : funW cfg Tryd.f21 [(.agg [(.v (.int .i64 x0_0)), (.v (.string x0_1)), (.v (.int .i64 x0_2)), (.v (.int .i64 x0_3)), (.v (.int .i64 x0_4))]), (.v (.string x1))] [] k kp = c x0_0 x0_1 x0_2 x0_3 x0_4 x1 (fun y0 => k (.v (.bool y0)) []) :=
  Eq.mp (by kernel_rfl) ((funW_run (AG := none'') body_is (c_ag k kp) [(.agg [(.v (.int .i64 x0_0)), (.v (.string x0_1)), (.v (.int .i64 x0_2)), (.v (.int .i64 x0_3)), (.v (.int .i64 x0_4))]), (.v (.string x1))] []).trans (c_c k kp (JJ k kp) (LL k kp) x0_0 x0_1 x0_2 x0_3 x0_4 x1))
theorem f_eq (k kp : KT) (x0_0 : Int) (x0_1 : BA) (x0_2 x0_3 x0_4 : Int) (x1 : BA) : funW cfg Tryd.f21 [(.agg [(.v (.int .i64 x0_0)), (.v (.string x0_1)), (.v (.int .i64 x0_2)), (.v (.int .i64 x0_3)), (.v (.int .i64 x0_4))]), (.v (.string x1))] [] k kp = f x0_0 x0_1 x0_2 x0_3 x0_4 x1 (fun y0 => k (.v (.bool y0)) []) := by
  rw [f_def, c_raw]; rfl
noncomputable def ent0 : Entry := fun args blks k _ => match args, blks with
  | [d0, d1], [] => aAgg 5 d0 fun l => aCons l fun d0_0 l => aCons l fun d0_1 l => aCons l fun d0_2 l => aCons l fun d0_3 l => aCons l fun d0_4 l => aNil l (aInt IntKind.i64 d0_0 fun x0_0 => aStr d0_1 fun x0_1 => aInt IntKind.i64 d0_2 fun x0_2 => aInt IntKind.i64 d0_3 fun x0_3 => aInt IntKind.i64 d0_4 fun x0_4 => aStr d1 fun x1 => f x0_0 x0_1 x0_2 x0_3 x0_4 x1 (fun y0 => k (.v (.bool y0)) []))
  | _, _ => False
noncomputable def ent : Entry := fun args blks k kp => ent0 (convB [.no, .no] args) blks k kp
theorem ok : EntOk Tryd.prog 49 0 21 ent := by
  refine EntOk.convB (EntOk.of (funW_ok (cfg := cfg) (tyOk_of rfl rfl tyL_ok) (eqOk_of (P := Tryd.prog) rfl rfl (by kernel_rfl)) mixed_ok (tab_ok ?_) Tryd.func21 (by rfl) (by rfl)) ?_) _
  · intro p hp
    cases hp
  · intro args blks k kp h k' kp'
    match args, blks, h with
    | [d0, d1], [], h =>
    dsimp only [ent0] at h
    have h9 := aAgg_elim h; clear h; obtain ⟨_, rfl, h⟩ := h9
    have h9 := aCons_elim h; clear h; obtain ⟨d0_0, _, rfl, h⟩ := h9
    have h9 := aCons_elim h; clear h; obtain ⟨d0_1, _, rfl, h⟩ := h9
    have h9 := aCons_elim h; clear h; obtain ⟨d0_2, _, rfl, h⟩ := h9
    have h9 := aCons_elim h; clear h; obtain ⟨d0_3, _, rfl, h⟩ := h9
    have h9 := aCons_elim h; clear h; obtain ⟨d0_4, _, rfl, h⟩ := h9
    have h9 := aNil_elim h; clear h; obtain ⟨rfl, h⟩ := h9
    have h9 := aInt_elim h; clear h; obtain ⟨x0_0, rfl, h⟩ := h9
    have h9 := aStr_elim h; clear h; obtain ⟨x0_1, rfl, h⟩ := h9
    have h9 := aInt_elim h; clear h; obtain ⟨x0_2, rfl, h⟩ := h9
    have h9 := aInt_elim h; clear h; obtain ⟨x0_3, rfl, h⟩ := h9
    have h9 := aInt_elim h; clear h; obtain ⟨x0_4, rfl, h⟩ := h9
    have h9 := aStr_elim h; clear h; obtain ⟨x1, rfl, h⟩ := h9
    exact (f_eq k' kp' x0_0 x0_1 x0_2 x0_3 x0_4 x1).symm
end N21
end Go.Proofs.Ye

namespace Go.Proofs.Ye
open Go Go.Aw Go.Proofs
set_option maxRecDepth 100000
set_option maxHeartbeats 4000000
namespace N13
noncomputable def cfg : Cfg := { P := Tryd.prog, tf := 49, tw := 0, ty := tys, E := tab [(14, N14.ent), (11, N11.ent), (12, N12.ent), (21, N21.ent)], atSeq := tab [], atLoop := tab [], outs := [], eqT := tab [(42, [(Ty.int IntKind.i64), Ty.str, (Ty.int IntKind.i64), (Ty.int IntKind.i64), (Ty.int IntKind.i64)])], bT := tab [] }
noncomputable def body : Code := bodyOf Tryd.f13
def c (k : Bool → Prop) : Prop :=
  (N14.f (ByteArray.mk #[37, 55, 32, 61, 32, 97, 100, 100, 32, 36, 120, 50, 44, 32, 53, 59, 32, 47, 47, 32, 110, 111, 10, 34, 97, 34, 32, 48, 46, 46, 52]) (fun (y1_0 : Err) (z0_0 : (List Zq0)) => (N14.f (ByteArray.mk #[97, 32, 63]) (fun (y1_1 : Err) (z0_1 : (List Zq0)) => (br (y1_0).isNil (br (((((z0_0).length : Nat) : Int)) == (12 : Int)) ((inB 0 (0 : Int) ((((z0_0).length : Nat) : Int) - 1)) ∧ (br (((z0_0.getD (Int.toNat (0 : Int)) ((0, (ByteArray.empty, (0, (0, 0)))))).1 == (4 : Int)) && (beqS (z0_0.getD (Int.toNat (0 : Int)) ((0, (ByteArray.empty, (0, (0, 0)))))).2.1 (ByteArray.mk #[37, 55]) && (((z0_0.getD (Int.toNat (0 : Int)) ((0, (ByteArray.empty, (0, (0, 0)))))).2.2.1 == (7 : Int)) && (((z0_0.getD (Int.toNat (0 : Int)) ((0, (ByteArray.empty, (0, (0, 0)))))).2.2.2.1 == (0 : Int)) && (((z0_0.getD (Int.toNat (0 : Int)) ((0, (ByteArray.empty, (0, (0, 0)))))).2.2.2.2 == (0 : Int)) && true))))) ((inB 0 (3 : Int) ((((z0_0).length : Nat) : Int) - 1)) ∧ (br ((z0_0.getD (Int.toNat (3 : Int)) ((0, (ByteArray.empty, (0, (0, 0)))))).2.2.2.1 == (1 : Int)) ((inB 0 (3 : Int) ((((z0_0).length : Nat) : Int) - 1)) ∧ (br ((z0_0.getD (Int.toNat (3 : Int)) ((0, (ByteArray.empty, (0, (0, 0)))))).2.2.1 == (2 : Int)) ((inB 0 (6 : Int) ((((z0_0).length : Nat) : Int) - 1)) ∧ (br (beqS (z0_0.getD (Int.toNat (6 : Int)) ((0, (ByteArray.empty, (0, (0, 0)))))).2.1 (ByteArray.mk #[59])) ((inB 0 (7 : Int) ((((z0_0).length : Nat) : Int) - 1)) ∧ (br ((z0_0.getD (Int.toNat (7 : Int)) ((0, (ByteArray.empty, (0, (0, 0)))))).1 == (3 : Int)) ((inB 0 (7 : Int) ((((z0_0).length : Nat) : Int) - 1)) ∧ (br (beqS (z0_0.getD (Int.toNat (7 : Int)) ((0, (ByteArray.empty, (0, (0, 0)))))).2.1 (ByteArray.mk #[97])) ((inB 0 (9 : Int) ((((z0_0).length : Nat) : Int) - 1)) ∧ (br (beqS (z0_0.getD (Int.toNat (9 : Int)) ((0, (ByteArray.empty, (0, (0, 0)))))).2.1 (ByteArray.mk #[46, 46])) ((inB 0 (10 : Int) ((((z0_0).length : Nat) : Int) - 1)) ∧ (br ((z0_0.getD (Int.toNat (10 : Int)) ((0, (ByteArray.empty, (0, (0, 0)))))).2.2.1 == (4 : Int)) ((flatE y1_1 = true) ∧ (br ((ofE y1_1) == (10 : Int)) ((flatE y1_1 = true) ∧ (br ((atE y1_1) == (2 : Int)) ((inB 0 (2 : Int) ((((z0_0).length : Nat) : Int) - 1)) ∧ (N21.f (z0_0.getD (Int.toNat (2 : Int)) ((0, (ByteArray.empty, (0, (0, 0)))))).1 (z0_0.getD (Int.toNat (2 : Int)) ((0, (ByteArray.empty, (0, (0, 0)))))).2.1 (z0_0.getD (Int.toNat (2 : Int)) ((0, (ByteArray.empty, (0, (0, 0)))))).2.2.1 (z0_0.getD (Int.toNat (2 : Int)) ((0, (ByteArray.empty, (0, (0, 0)))))).2.2.2.1 (z0_0.getD (Int.toNat (2 : Int)) ((0, (ByteArray.empty, (0, (0, 0)))))).2.2.2.2 (ByteArray.mk #[97, 100, 100]) (fun (y0_2 : Bool) => (br y0_2 ((inB 0 (7 : Int) ((((z0_0).length : Nat) : Int) - 1)) ∧ (N21.f (z0_0.getD (Int.toNat (7 : Int)) ((0, (ByteArray.empty, (0, (0, 0)))))).1 (z0_0.getD (Int.toNat (7 : Int)) ((0, (ByteArray.empty, (0, (0, 0)))))).2.1 (z0_0.getD (Int.toNat (7 : Int)) ((0, (ByteArray.empty, (0, (0, 0)))))).2.2.1 (z0_0.getD (Int.toNat (7 : Int)) ((0, (ByteArray.empty, (0, (0, 0)))))).2.2.2.1 (z0_0.getD (Int.toNat (7 : Int)) ((0, (ByteArray.empty, (0, (0, 0)))))).2.2.2.2 (ByteArray.mk #[97]) (fun (y0_3 : Bool) => (k (!y0_3))))) (k false))))) (k false))) (k false))) (k false))) (k false))) (k false))) (k false))) (k false))) (k false))) (k false))) (k false))) (k false)) (k false))))))
def f0 (k : Bool → Prop) : Prop := c k
theorem f_ex : ∃ g, g = f0 := ⟨_, rfl⟩
noncomputable def f := Classical.choose f_ex
theorem f_def : f = f0 := Classical.choose_spec f_ex
noncomputable def JJ (k kp : KT) : Nat → St → Prop := pick none' []
noncomputable def LL (k kp : KT) : Nat → St → Prop := pick none' []
theorem c_c (k kp : KT) (J L : Nat → St → Prop) : runC cfg 1000001 J L none'' [] body (topK cfg Tryd.f13 k kp) (st0 Tryd.f13 [] []) = c (fun y0 => k (.v (.bool y0)) []) := by kernel_rfl
theorem c_ag (k kp : KT) : agPL cfg 1000001 (JJ k kp) (LL k kp) [] body = agPR cfg 1000001 none'' [] body (topK cfg Tryd.f13 k kp) := by kernel_rfl
theorem body_is : Tryd.f13.body = some body := by kernel_rfl
theorem c_raw (k kp : KT) : funW cfg Tryd.f13 [] [] k kp = c (fun y0 => k (.v (.bool y0)) []) :=
  Eq.mp (by kernel_rfl) ((funW_run (AG := none'') body_is (c_ag k kp) [] []).trans (c_c k kp (JJ k kp) (LL k kp)))
theorem f_eq (k kp : KT) : funW cfg Tryd.f13 [] [] k kp = f (fun y0 => k (.v (.bool y0)) []) := by
  rw [f_def, c_raw]; rfl
noncomputable def ent0 : Entry := fun args blks k _ => match args, blks with
  | [], [] => f (fun y0 => k (.v (.bool y0)) [])
  | _, _ => False
noncomputable def ent : Entry := fun args blks k kp => ent0 (convB [] args) blks k kp
theorem ok : EntOk Tryd.prog 49 0 13 ent := by
  refine EntOk.convB (EntOk.of (funW_ok (cfg := cfg) (tyOk_of rfl rfl tyL_ok) (eqOk_of (P := Tryd.prog) rfl rfl (by kernel_rfl)) mixed_ok (tab_ok ?_) Tryd.func13 (by rfl) (by rfl)) ?_) _
  · intro p hp
    simp only [List.mem_cons, List.not_mem_nil, or_false] at hp
    rcases hp with rfl | rfl | rfl | rfl
    · exact N14.ok
    · exact N11.ok
    · exact N12.ok
    · exact N21.ok
  · intro args blks k kp h k' kp'
    match args, blks, h with
    | [], [], h =>
    dsimp only [ent0] at h
    exact (f_eq k' kp').symm
end N13
end Go.Proofs.Ye

namespace Go.Proofs.Ye
open Go Go.Aw Go.Proofs Go.RowKit
theorem same_s (a b : List LTok) (hl : a.length ≤ 281474976710656) (k : Bool → Prop) (he : a = b) (h : k true) : N16.f a b k := by
  subst he
  rw [N16.f_def]
  unfold N16.f0 N16.c
  rw [br_bne, if_pos rfl]
  unfold N16.l4'
  refine loopS_of (fun x : Int => ∃ j : Nat, x = j ∧ j ≤ a.length) (fun x => a.length - x.toNat) ?_ ⟨0, rfl, Nat.zero_le _⟩
  rintro again x ⟨j, rfl, hj⟩ hag
  unfold N16.l4 N16.j8' N16.j8
  dsimp only
  refine br_of (fun hlt => ?_) (fun _ => h)
  have hlt := of_decide_eq_true hlt
  refine ⟨⟨by omega, by omega, by omega⟩, ⟨by omega, by omega, by omega⟩, ?_⟩
  simp only [beq_self_eq_true, beqS_self, Bool.and_self, Bool.not_true, br_false]
  rw [wrap_id (by omega) (by omega)]
  exact hag _ ⟨j + 1, by simp, by omega⟩ (by omega)
theorem is_s (a : Int) (t : ByteArray) (n c p : Int) (w : ByteArray) (k : Bool → Prop) (h : k ((decide (a = 1) || decide (a = 7)) && beqS t w)) : N21.f a t n c p w k := by
  rw [N21.f_def]
  unfold N21.f0 N21.c
  simp only [br_beq]
  split
  · rename_i h1; simpa [h1] using h
  · rename_i h1
    split
    · rename_i h2; simpa [h2] using h
    · rename_i h2; simpa [h1, h2] using h
def exA : List Int := [37, 55, 32, 61, 32, 97, 100, 100, 32, 36, 120, 50, 44, 32, 53, 59, 32, 47, 47, 32, 110, 111, 10, 34, 97, 34, 32, 48, 46, 46, 52]
def lexA : List LTok := [(4, ⟨#[37, 55]⟩, 7, 0, 0), (7, ⟨#[61]⟩, 0, 0, 3), (1, ⟨#[97, 100, 100]⟩, 0, 0, 5), (5, ⟨#[36, 120, 50]⟩, 2, 1, 9), (7, ⟨#[44]⟩, 0, 0, 12), (2, ⟨#[53]⟩, 5, 0, 14), (7, ⟨#[59]⟩, 0, 0, 15), (3, ⟨#[97]⟩, 0, 0, 23), (2, ⟨#[48]⟩, 0, 0, 27), (7, ⟨#[46, 46]⟩, 0, 0, 28), (2, ⟨#[52]⟩, 4, 0, 30), (0, ⟨#[]⟩, 0, 0, 31)]
theorem lexA_eq : lexAll exA = (lexA, 0, 0) := by decide +kernel
theorem lexB_eq : lexAll [97, 32, 63] = ([], 10, 2) := by decide +kernel
theorem lworks_s (k : Bool → Prop) (h : k true) : N13.f k := by
  rw [N13.f_def]
  unfold N13.f0 N13.c
  refine all_s _ (by decide) _ ?_
  rw [show ofBytes (ByteArray.mk #[37, 55, 32, 61, 32, 97, 100, 100, 32, 36, 120, 50, 44, 32, 53, 59, 32, 47, 47, 32, 110, 111, 10, 34, 97, 34, 32, 48, 46, 46, 52]) = exA from rfl, lexA_eq]
  refine all_s _ (by decide) _ ?_
  rw [show ofBytes (ByteArray.mk #[97, 32, 63]) = [97, 32, 63] from rfl, lexB_eq]
  rw [ofN 10 2 (by decide), show newE 0 0 = .nil from rfl]
  show br true _ _
  rw [br_true]
  have hlen : lexA.length = 12 := rfl
  rw [hlen]
  have B : ∀ i : Int, 0 ≤ i → i ≤ 11 → inB 0 i (((12 : Nat) : Int) - 1) := fun i h1 h2 => ⟨by omega, by omega, by omega⟩
  show br true _ _
  rw [br_true]
  refine ⟨B 0 (by omega) (by omega), ?_⟩
  show br true _ _
  refine ⟨B 3 (by omega) (by omega), ?_⟩
  show br true _ _
  refine ⟨B 3 (by omega) (by omega), ?_⟩
  show br true _ _
  refine ⟨B 6 (by omega) (by omega), ?_⟩
  show br true _ _
  refine ⟨B 7 (by omega) (by omega), ?_⟩
  show br true _ _
  refine ⟨B 7 (by omega) (by omega), ?_⟩
  show br true _ _
  refine ⟨B 9 (by omega) (by omega), ?_⟩
  show br true _ _
  refine ⟨B 10 (by omega) (by omega), ?_⟩
  show br true _ _
  refine ⟨rfl, ?_⟩
  show br true _ _
  refine ⟨rfl, ?_⟩
  show br true _ _
  refine ⟨B 2 (by omega) (by omega), is_s _ _ _ _ _ _ _ ?_⟩
  show br true _ _
  refine ⟨B 7 (by omega) (by omega), is_s _ _ _ _ _ _ _ ?_⟩
  exact h
end Go.Proofs.Ye

namespace Go.Proofs.Ye
open Go Go.Aw Go.Proofs
set_option maxRecDepth 100000
set_option maxHeartbeats 4000000
namespace N17
noncomputable def cfg : Cfg := { P := Tryd.prog, tf := 49, tw := 0, ty := tys, E := tab [(28, N28.ent)], atSeq := tab [], atLoop := tab [], outs := [], eqT := tab [], bT := tab [], fzB := [1] }
noncomputable def body : Code := bodyOf Tryd.f17
def c (x0_0 : Int) (x0_1 : BA) (x0_2 x0_3 x0_4 : Int) (k : BA → Prop) : Prop :=
  (br (x0_0 == (3 : Int)) (N28.f x0_1 (fun (y0_0 : BA) => (k y0_0))) (k x0_1))
def f0 (x0_0 : Int) (x0_1 : BA) (x0_2 x0_3 x0_4 : Int) (k : BA → Prop) : Prop := c x0_0 x0_1 x0_2 x0_3 x0_4 k
theorem f_ex : ∃ g, g = f0 := ⟨_, rfl⟩
noncomputable def f := Classical.choose f_ex
theorem f_def : f = f0 := Classical.choose_spec f_ex
noncomputable def JJ (k kp : KT) : Nat → St → Prop := pick none' []
noncomputable def LL (k kp : KT) : Nat → St → Prop := pick none' []
theorem c_c (k kp : KT) (J L : Nat → St → Prop) (x0_0 : Int) (x0_1 : BA) (x0_2 x0_3 x0_4 : Int) : runC cfg 1000001 J L none'' [] body (topK cfg Tryd.f17 k kp) (st0 Tryd.f17 [(.agg [(.v (.int .i64 x0_0)), (.v (.string x0_1)), (.v (.int .i64 x0_2)), (.v (.int .i64 x0_3)), (.v (.int .i64 x0_4))])] []) = c x0_0 x0_1 x0_2 x0_3 x0_4 (fun y0 => k (.v (.string y0)) []) := by kernel_rfl
theorem c_ag (k kp : KT) : agPL cfg 1000001 (JJ k kp) (LL k kp) [] body = agPR cfg 1000001 none'' [] body (topK cfg Tryd.f17 k kp) := by kernel_rfl
theorem body_is : Tryd.f17.body = some body := by kernel_rfl
theorem c_raw (k kp : KT) (x0_0 : Int) (x0_1 : BA) (x0_2 x0_3 x0_4 : Int) : funW cfg Tryd.f17 [(.agg [(.v (.int .i64 x0_0)), (.v (.string x0_1)), (.v (.int .i64 x0_2)), (.v (.int .i64 x0_3)), (.v (.int .i64 x0_4))])] [] k kp = c x0_0 x0_1 x0_2 x0_3 x0_4 (fun y0 => k (.v (.string y0)) []) :=
  Eq.mp (by kernel_rfl) ((funW_run (AG := none'') body_is (c_ag k kp) [(.agg [(.v (.int .i64 x0_0)), (.v (.string x0_1)), (.v (.int .i64 x0_2)), (.v (.int .i64 x0_3)), (.v (.int .i64 x0_4))])] []).trans (c_c k kp (JJ k kp) (LL k kp) x0_0 x0_1 x0_2 x0_3 x0_4))
theorem f_eq (k kp : KT) (x0_0 : Int) (x0_1 : BA) (x0_2 x0_3 x0_4 : Int) : funW cfg Tryd.f17 [(.agg [(.v (.int .i64 x0_0)), (.v (.string x0_1)), (.v (.int .i64 x0_2)), (.v (.int .i64 x0_3)), (.v (.int .i64 x0_4))])] [] k kp = f x0_0 x0_1 x0_2 x0_3 x0_4 (fun y0 => k (.v (.string y0)) []) := by
  rw [f_def, c_raw]; rfl
noncomputable def ent0 : Entry := fun args blks k _ => match args, blks with
  | [d0], [] => aAgg 5 d0 fun l => aCons l fun d0_0 l => aCons l fun d0_1 l => aCons l fun d0_2 l => aCons l fun d0_3 l => aCons l fun d0_4 l => aNil l (aInt IntKind.i64 d0_0 fun x0_0 => aStr d0_1 fun x0_1 => aInt IntKind.i64 d0_2 fun x0_2 => aInt IntKind.i64 d0_3 fun x0_3 => aInt IntKind.i64 d0_4 fun x0_4 => f x0_0 x0_1 x0_2 x0_3 x0_4 (fun y0 => k (.v (.string y0)) []))
  | _, _ => False
noncomputable def ent : Entry := fun args blks k kp => ent0 (convB [.no] args) blks k kp
theorem ok : EntOk Tryd.prog 49 0 17 ent := by
  refine EntOk.convB (EntOk.of (funW_ok (cfg := cfg) (tyOk_of rfl rfl tyL_ok) (eqOk_of (P := Tryd.prog) rfl rfl (by kernel_rfl)) mixed_ok (tab_ok ?_) Tryd.func17 (by rfl) (by rfl)) ?_) _
  · intro p hp
    simp only [List.mem_cons, List.not_mem_nil, or_false] at hp
    rcases hp with rfl
    · exact N28.ok
  · intro args blks k kp h k' kp'
    match args, blks, h with
    | [d0], [], h =>
    dsimp only [ent0] at h
    have h9 := aAgg_elim h; clear h; obtain ⟨_, rfl, h⟩ := h9
    have h9 := aCons_elim h; clear h; obtain ⟨d0_0, _, rfl, h⟩ := h9
    have h9 := aCons_elim h; clear h; obtain ⟨d0_1, _, rfl, h⟩ := h9
    have h9 := aCons_elim h; clear h; obtain ⟨d0_2, _, rfl, h⟩ := h9
    have h9 := aCons_elim h; clear h; obtain ⟨d0_3, _, rfl, h⟩ := h9
    have h9 := aCons_elim h; clear h; obtain ⟨d0_4, _, rfl, h⟩ := h9
    have h9 := aNil_elim h; clear h; obtain ⟨rfl, h⟩ := h9
    have h9 := aInt_elim h; clear h; obtain ⟨x0_0, rfl, h⟩ := h9
    have h9 := aStr_elim h; clear h; obtain ⟨x0_1, rfl, h⟩ := h9
    have h9 := aInt_elim h; clear h; obtain ⟨x0_2, rfl, h⟩ := h9
    have h9 := aInt_elim h; clear h; obtain ⟨x0_3, rfl, h⟩ := h9
    have h9 := aInt_elim h; clear h; obtain ⟨x0_4, rfl, h⟩ := h9
    exact (f_eq k' kp' x0_0 x0_1 x0_2 x0_3 x0_4).symm
end N17
end Go.Proofs.Ye

namespace Go.Proofs.Ye
open Go Go.Aw Go.Proofs
set_option maxRecDepth 100000
set_option maxHeartbeats 4000000
namespace N6
noncomputable def cfg : Cfg := { P := Tryd.prog, tf := 49, tw := 0, ty := tys, E := tab [(13, N13.ent), (14, N14.ent), (17, N17.ent)], atSeq := tab [(2000002, ⟨[(0, .keep), (1, .keep), (22, .keep)]⟩), (3, ⟨[(0, .keep), (1, .keep)]⟩), (8, ⟨[(0, .keep), (1, .keep)]⟩), (14, ⟨[(1, .keep), (6, .keep), (8, .keep), (9, .keep)]⟩), (18, ⟨[(6, .keep), (8, .keep)]⟩), (2000022, ⟨[(6, .keep), (10, .cold Zy0), (87, .keep)]⟩), (23, ⟨[(6, .keep), (10, .keep)]⟩), (30, ⟨[]⟩)], atLoop := tab [(4, ⟨[(0, .keep), (1, .keep), (5, .keep)]⟩), (13, ⟨[(1, .keep), (6, .cold Zy0), (8, .keep), (9, .keep)]⟩), (24, ⟨[(6, .keep), (10, .keep), (12, .keep)]⟩)], outs := [], eqT := tab [(42, [(Ty.int IntKind.i64), Ty.str, (Ty.int IntKind.i64), (Ty.int IntKind.i64), (Ty.int IntKind.i64)])], bT := tab [], lt := [94, 95, 96, 97, 98, 99, 100, 101], pd := [(13, 42), (14, 42)] }
noncomputable def body : Code := bodyOf Tryd.f6
def j2000002 (j3 : BA → BA → Prop) (x0 x1 : BA) (x22 : Bool) (k : Bool → Prop) : Prop :=
  (br x22 (N13.f (fun (y0_0 : Bool) => (k y0_0))) (j3 x0 x1))
def j3 (l4 : BA → BA → Int → Prop) (x0 x1 : BA) (k : Bool → Prop) : Prop :=
  (l4 x0 x1 (0 : Int))
def l4 (j8 : BA → BA → Prop) (ag4 : Int → Prop) (x0 x1 : BA) (x5 : Int) (k : Bool → Prop) : Prop :=
  (br (decide (x5 < ((((x1).size : Nat) : Int)))) ((inB 0 x5 ((((x1).size : Nat) : Int) - 1)) ∧ (br ((byteAt x1 x5) == (10 : Int)) (N13.f (fun (y0_1 : Bool) => (k y0_1))) (ag4 (IntKind.i64.wrap (x5 + (1 : Int)))))) (j8 x0 x1))
def j8 (l13 : BA → (List Zq0) → BA → Int → Prop) (x0 x1 : BA) (k : Bool → Prop) : Prop :=
  (N14.f x0 (fun (y1_2 : Err) (z0_2 : (List Zq0)) => (br (!(y1_2).isNil) (br (((((z0_2).length : Nat) : Int)) == (0 : Int)) (N13.f (fun (y0_3 : Bool) => (k y0_3))) (k false)) (l13 x1 z0_2 (ByteArray.mk #[]) (0 : Int)))))
def l13 (j14 : BA → (List Zq0) → BA → Int → Prop) (j18 : (List Zq0) → BA → Prop) (x1 : BA) (x6 : (List Zq0)) (x8 : BA) (x9 : Int) (k : Bool → Prop) : Prop :=
  (br (decide (x9 < ((((x6).length : Nat) : Int)))) ((inB 0 x9 ((((x6).length : Nat) : Int) - 1)) ∧ (N17.f (x6.getD (Int.toNat x9) ((0, (ByteArray.empty, (0, (0, 0)))))).1 (x6.getD (Int.toNat x9) ((0, (ByteArray.empty, (0, (0, 0)))))).2.1 (x6.getD (Int.toNat x9) ((0, (ByteArray.empty, (0, (0, 0)))))).2.2.1 (x6.getD (Int.toNat x9) ((0, (ByteArray.empty, (0, (0, 0)))))).2.2.2.1 (x6.getD (Int.toNat x9) ((0, (ByteArray.empty, (0, (0, 0)))))).2.2.2.2 (fun (y0_4 : BA) => (((x8).size + (y0_4).size ≤ 9223372036854775807) ∧ ((((x8 ++ y0_4)).size + ((ByteArray.mk #[32])).size ≤ 9223372036854775807) ∧ (((3 : Int) ≠ 0) ∧ (br ((Int.tmod x9 (3 : Int)) == (1 : Int)) (((((x8 ++ y0_4) ++ (ByteArray.mk #[32]))).size + ((ByteArray.mk #[47, 47])).size ≤ 9223372036854775807) ∧ ((((((x8 ++ y0_4) ++ (ByteArray.mk #[32])) ++ (ByteArray.mk #[47, 47]))).size + (x1).size ≤ 9223372036854775807) ∧ (((((((x8 ++ y0_4) ++ (ByteArray.mk #[32])) ++ (ByteArray.mk #[47, 47])) ++ x1)).size + ((ByteArray.mk #[10])).size ≤ 9223372036854775807) ∧ (j14 x1 x6 (((((x8 ++ y0_4) ++ (ByteArray.mk #[32])) ++ (ByteArray.mk #[47, 47])) ++ x1) ++ (ByteArray.mk #[10])) x9)))) (j14 x1 x6 ((x8 ++ y0_4) ++ (ByteArray.mk #[32])) x9)))))))) (j18 x6 x8))
def j14 (ag13 : BA → Int → Prop) (x1 : BA) (x6 : (List Zq0)) (x8 : BA) (x9 : Int) (k : Bool → Prop) : Prop :=
  (ag13 x8 (IntKind.i64.wrap (x9 + (1 : Int))))
def j18 (j2000022 : (List Zq0) → (List Zq0) → Bool → Prop) (x6 : (List Zq0)) (x8 : BA) (k : Bool → Prop) : Prop :=
  (br (decide (((((x8).size : Nat) : Int)) > (65536 : Int))) (N13.f (fun (y0_5 : Bool) => (k y0_5))) (N14.f x8 (fun (y1_6 : Err) (z0_6 : (List Zq0)) => (br (!(y1_6).isNil) (j2000022 x6 z0_6 true) (j2000022 x6 z0_6 (((((z0_6).length : Nat) : Int)) != ((((x6).length : Nat) : Int))))))))
def j2000022 (j23 : (List Zq0) → (List Zq0) → Prop) (x6 x10 : (List Zq0)) (x87 : Bool) (k : Bool → Prop) : Prop :=
  (br x87 (k false) (j23 x6 x10))
def j23 (l24 : (List Zq0) → (List Zq0) → Int → Prop) (x6 x10 : (List Zq0)) (k : Bool → Prop) : Prop :=
  (l24 x6 x10 (0 : Int))
def l24 (j30 : Prop) (ag24 : Int → Prop) (x6 x10 : (List Zq0)) (x12 : Int) (k : Bool → Prop) : Prop :=
  (br (decide (x12 < ((((x6).length : Nat) : Int)))) ((inB 0 x12 ((((x6).length : Nat) : Int) - 1)) ∧ ((inB 0 x12 ((((x10).length : Nat) : Int) - 1)) ∧ (br (!(((x6.getD (Int.toNat x12) ((0, (ByteArray.empty, (0, (0, 0)))))).1 == (x10.getD (Int.toNat x12) ((0, (ByteArray.empty, (0, (0, 0)))))).1) && (beqS (x6.getD (Int.toNat x12) ((0, (ByteArray.empty, (0, (0, 0)))))).2.1 (x10.getD (Int.toNat x12) ((0, (ByteArray.empty, (0, (0, 0)))))).2.1 && (((x6.getD (Int.toNat x12) ((0, (ByteArray.empty, (0, (0, 0)))))).2.2.1 == (x10.getD (Int.toNat x12) ((0, (ByteArray.empty, (0, (0, 0)))))).2.2.1) && (((x6.getD (Int.toNat x12) ((0, (ByteArray.empty, (0, (0, 0)))))).2.2.2.1 == (x10.getD (Int.toNat x12) ((0, (ByteArray.empty, (0, (0, 0)))))).2.2.2.1) && (((0 : Int) == (0 : Int)) && true)))))) (k false) (ag24 (IntKind.i64.wrap (x12 + (1 : Int))))))) (j30))
def j30 (k : Bool → Prop) : Prop :=
  (N13.f (fun (y0_7 : Bool) => (k y0_7)))
def c (j2000002 : BA → BA → Bool → Prop) (x0 x1 : BA) (k : Bool → Prop) : Prop :=
  (br (decide (((((x0).size : Nat) : Int)) > (1000 : Int))) (j2000002 x0 x1 true) (j2000002 x0 x1 (decide (((((x1).size : Nat) : Int)) > (40 : Int)))))
def j14' (ag13 : BA → Int → Prop) (x1 : BA) (x6 : (List Zq0)) (x8 : BA) (x9 : Int) (k : Bool → Prop) : Prop := j14 ag13 x1 x6 x8 x9 k
def j30' (k : Bool → Prop) : Prop := j30 k
def l24' (x6 x10 : (List Zq0)) (x12 : Int) (k : Bool → Prop) : Prop := ∃ n, loopS (fun (ag : (Int) → Prop) (s : Int) => l24 (j30' k) (fun x12 => ag (x12)) x6 x10 s k) n (x12)
def j23' (x6 x10 : (List Zq0)) (k : Bool → Prop) : Prop := j23 (fun x6 x10 x12 => l24' x6 x10 x12 k) x6 x10 k
def j2000022' (x6 x10 : (List Zq0)) (x87 : Bool) (k : Bool → Prop) : Prop := j2000022 (fun x6 x10 => j23' x6 x10 k) x6 x10 x87 k
def j18' (x6 : (List Zq0)) (x8 : BA) (k : Bool → Prop) : Prop := j18 (fun x6 x10 x87 => j2000022' x6 x10 x87 k) x6 x8 k
def l13' (x1 : BA) (x6 : (List Zq0)) (x8 : BA) (x9 : Int) (k : Bool → Prop) : Prop := ∃ n, loopS (fun (ag : (BA × Int) → Prop) (s : BA × Int) => l13 (fun x1 x6 x8 x9 => j14' (fun x8 x9 => ag (x8, x9)) x1 x6 x8 x9 k) (fun x6 x8 => j18' x6 x8 k) x1 x6 s.1 s.2 k) n (x8, x9)
def j8' (x0 x1 : BA) (k : Bool → Prop) : Prop := j8 (fun x1 x6 x8 x9 => l13' x1 x6 x8 x9 k) x0 x1 k
def l4' (x0 x1 : BA) (x5 : Int) (k : Bool → Prop) : Prop := ∃ n, loopS (fun (ag : (Int) → Prop) (s : Int) => l4 (fun x0 x1 => j8' x0 x1 k) (fun x5 => ag (x5)) x0 x1 s k) n (x5)
def j3' (x0 x1 : BA) (k : Bool → Prop) : Prop := j3 (fun x0 x1 x5 => l4' x0 x1 x5 k) x0 x1 k
def j2000002' (x0 x1 : BA) (x22 : Bool) (k : Bool → Prop) : Prop := j2000002 (fun x0 x1 => j3' x0 x1 k) x0 x1 x22 k
def f0 (x0 x1 : BA) (k : Bool → Prop) : Prop := c (fun x0 x1 x22 => j2000002' x0 x1 x22 k) x0 x1 k
theorem f_ex : ∃ g, g = f0 := ⟨_, rfl⟩
noncomputable def f := Classical.choose f_ex
theorem f_def : f = f0 := Classical.choose_spec f_ex
def m2000002 (x0 x1 : BA) (x22 : Bool) : St := { tmps := mkT 108 0 [(0, (.v (.string x0))), (1, (.v (.string x1))), (22, (.v (.bool x22)))], hp := [], m := 0 }
def m3 (x0 x1 : BA) : St := { tmps := mkT 108 0 [(0, (.v (.string x0))), (1, (.v (.string x1)))], hp := [], m := 0 }
def mL4 (x0 x1 : BA) (x5 : Int) : St := { tmps := mkT 108 0 [(0, (.v (.string x0))), (1, (.v (.string x1))), (5, (.v (.int .i64 x5)))], hp := [], m := 0 }
def m8 (x0 x1 : BA) : St := { tmps := mkT 108 0 [(0, (.v (.string x0))), (1, (.v (.string x1)))], hp := [], m := 0 }
def mL13 (x1 : BA) (x6 : (List Zq0)) (x8 : BA) (x9 : Int) : St := { tmps := mkT 108 0 [(1, (.v (.string x1))), (6, (.fz Zy0 x6)), (8, (.v (.string x8))), (9, (.v (.int .i64 x9)))], hp := [], m := 0 }
def m14 (x1 : BA) (x6 : (List Zq0)) (x8 : BA) (x9 : Int) : St := { tmps := mkT 108 0 [(1, (.v (.string x1))), (6, (.fz Zy0 x6)), (8, (.v (.string x8))), (9, (.v (.int .i64 x9)))], hp := [], m := 0 }
def m18 (x6 : (List Zq0)) (x8 : BA) : St := { tmps := mkT 108 0 [(6, (.fz Zy0 x6)), (8, (.v (.string x8)))], hp := [], m := 0 }
def m2000022 (x6 x10 : (List Zq0)) (x87 : Bool) : St := { tmps := mkT 108 0 [(6, (.fz Zy0 x6)), (10, (.fz Zy0 x10)), (87, (.v (.bool x87)))], hp := [], m := 0 }
def m23 (x6 x10 : (List Zq0)) : St := { tmps := mkT 108 0 [(6, (.fz Zy0 x6)), (10, (.fz Zy0 x10))], hp := [], m := 0 }
def mL24 (x6 x10 : (List Zq0)) (x12 : Int) : St := { tmps := mkT 108 0 [(6, (.fz Zy0 x6)), (10, (.fz Zy0 x10)), (12, (.v (.int .i64 x12)))], hp := [], m := 0 }
def m30 : St := { tmps := mkT 108 0 [], hp := [], m := 0 }
noncomputable def X2000002 (k kp : KT) : St → Prop := atP cfg (pick none' []) [1, 0, 1] body (topK cfg Tryd.f6 k kp)
noncomputable def X3 (k kp : KT) : St → Prop := atP cfg (pick none' []) [1, 1] body (topK cfg Tryd.f6 k kp)
noncomputable def YL4 (k kp : KT) : (St → Prop) → St → Prop := loopB cfg (sub [1, 1, 0, 1, 0, 0] body) (contK cfg (pick none' []) [1, 1, 0, 1, 0] body (topK cfg Tryd.f6 k kp))
noncomputable def XL4 (k kp : KT) : St → Prop := fun st => ∃ n, loopN (YL4 k kp) n st
noncomputable def X8 (k kp : KT) : St → Prop := atP cfg (pick none' []) [1, 1, 1] body (topK cfg Tryd.f6 k kp)
noncomputable def YL13 (k kp : KT) : (St → Prop) → St → Prop := loopB cfg (sub [1, 1, 1, 1, 1, 1, 0, 1, 0, 0] body) (contK cfg (pick none' []) [1, 1, 1, 1, 1, 1, 0, 1, 0] body (topK cfg Tryd.f6 k kp))
noncomputable def XL13 (k kp : KT) : St → Prop := fun st => ∃ n, loopN (YL13 k kp) n st
noncomputable def X14 (k kp : KT) (ag13 : St → Prop) : St → Prop := atP cfg (pick none' [(13, ag13)]) [1, 1, 1, 1, 1, 1, 0, 1, 0, 0, 1, 1] body (topK cfg Tryd.f6 k kp)
noncomputable def X18 (k kp : KT) : St → Prop := atP cfg (pick none' []) [1, 1, 1, 1, 1, 1, 1] body (topK cfg Tryd.f6 k kp)
noncomputable def X2000022 (k kp : KT) : St → Prop := atP cfg (pick none' []) [1, 1, 1, 1, 1, 1, 1, 1, 1, 0, 1] body (topK cfg Tryd.f6 k kp)
noncomputable def X23 (k kp : KT) : St → Prop := atP cfg (pick none' []) [1, 1, 1, 1, 1, 1, 1, 1, 1, 1] body (topK cfg Tryd.f6 k kp)
noncomputable def YL24 (k kp : KT) : (St → Prop) → St → Prop := loopB cfg (sub [1, 1, 1, 1, 1, 1, 1, 1, 1, 1, 0, 1, 0, 0] body) (contK cfg (pick none' []) [1, 1, 1, 1, 1, 1, 1, 1, 1, 1, 0, 1, 0] body (topK cfg Tryd.f6 k kp))
noncomputable def XL24 (k kp : KT) : St → Prop := fun st => ∃ n, loopN (YL24 k kp) n st
noncomputable def X30 (k kp : KT) : St → Prop := atP cfg (pick none' []) [1, 1, 1, 1, 1, 1, 1, 1, 1, 1, 1] body (topK cfg Tryd.f6 k kp)
noncomputable def JJ (k kp : KT) : Nat → St → Prop := pick none' [(2000002, X2000002 k kp), (3, X3 k kp), (8, X8 k kp), (18, X18 k kp), (2000022, X2000022 k kp), (23, X23 k kp), (30, X30 k kp)]
noncomputable def LL (k kp : KT) : Nat → St → Prop := pick none' [(4, XL4 k kp), (13, XL13 k kp), (24, XL24 k kp)]
noncomputable def JJ_4 (k kp : KT) (ag4 : St → Prop) : Nat → St → Prop := pick none' [(2000002, X2000002 k kp), (3, X3 k kp), (8, X8 k kp), (18, X18 k kp), (2000022, X2000022 k kp), (23, X23 k kp), (30, X30 k kp)]
noncomputable def LL_4 (k kp : KT) (ag4 : St → Prop) : Nat → St → Prop := pick none' [(4, XL4 k kp), (13, XL13 k kp), (24, XL24 k kp)]
noncomputable def JJ_13 (k kp : KT) (ag13 : St → Prop) : Nat → St → Prop := pick none' [(2000002, X2000002 k kp), (3, X3 k kp), (8, X8 k kp), (14, X14 k kp ag13), (18, X18 k kp), (2000022, X2000022 k kp), (23, X23 k kp), (30, X30 k kp)]
noncomputable def LL_13 (k kp : KT) (ag13 : St → Prop) : Nat → St → Prop := pick none' [(4, XL4 k kp), (13, XL13 k kp), (24, XL24 k kp)]
noncomputable def JJ_24 (k kp : KT) (ag24 : St → Prop) : Nat → St → Prop := pick none' [(2000002, X2000002 k kp), (3, X3 k kp), (8, X8 k kp), (18, X18 k kp), (2000022, X2000022 k kp), (23, X23 k kp), (30, X30 k kp)]
noncomputable def LL_24 (k kp : KT) (ag24 : St → Prop) : Nat → St → Prop := pick none' [(4, XL4 k kp), (13, XL13 k kp), (24, XL24 k kp)]
theorem j14_c (k kp : KT) (J L : Nat → St → Prop) (ag13 : St → Prop) (x1 : BA) (x6 : (List Zq0)) (x8 : BA) (x9 : Int) : runC cfg 14 J L (pick none' [(13, ag13)]) [1, 1, 1, 1, 1, 1, 0, 1, 0, 0, 1, 1] body (topK cfg Tryd.f6 k kp) (m14 x1 x6 x8 x9) = j14 (fun x8 x9 => ag13 (mL13 x1 x6 x8 x9)) x1 x6 x8 x9 (fun y0 => k (.v (.bool y0)) []) := by kernel_rfl
theorem j14_ag (k kp : KT) (ag13 : St → Prop) : agPL cfg 14 (JJ_13 k kp ag13) (LL_13 k kp ag13) [1, 1, 1, 1, 1, 1, 0, 1, 0, 0, 1, 1] body = agPR cfg 14 (pick none' [(13, ag13)]) [1, 1, 1, 1, 1, 1, 0, 1, 0, 0, 1, 1] body (topK cfg Tryd.f6 k kp) := by kernel_rfl
theorem j14_raw (k kp : KT) (ag13 : St → Prop) (x1 : BA) (x6 : (List Zq0)) (x8 : BA) (x9 : Int) : X14 k kp ag13 (m14 x1 x6 x8 x9) = j14 (fun x8 x9 => ag13 (mL13 x1 x6 x8 x9)) x1 x6 x8 x9 (fun y0 => k (.v (.bool y0)) []) :=
  Eq.mp (by kernel_rfl) ((atP_run (j14_ag k kp ag13) (m14 x1 x6 x8 x9)).trans (j14_c k kp (JJ_13 k kp ag13) (LL_13 k kp ag13) ag13 x1 x6 x8 x9))
theorem j14_eq (k kp : KT) (ag13 : St → Prop) (x1 : BA) (x6 : (List Zq0)) (x8 : BA) (x9 : Int) : X14 k kp ag13 (m14 x1 x6 x8 x9) = j14' (fun x8 x9 => ag13 (mL13 x1 x6 x8 x9)) x1 x6 x8 x9 (fun y0 => k (.v (.bool y0)) []) := by
  rw [j14_raw]; rfl
theorem j30_c (k kp : KT) (J L : Nat → St → Prop) : runC cfg 30 J L (pick none' []) [1, 1, 1, 1, 1, 1, 1, 1, 1, 1, 1] body (topK cfg Tryd.f6 k kp) (m30) = j30 (fun y0 => k (.v (.bool y0)) []) := by kernel_rfl
theorem j30_ag (k kp : KT) : agPL cfg 30 (JJ k kp) (LL k kp) [1, 1, 1, 1, 1, 1, 1, 1, 1, 1, 1] body = agPR cfg 30 (pick none' []) [1, 1, 1, 1, 1, 1, 1, 1, 1, 1, 1] body (topK cfg Tryd.f6 k kp) := by kernel_rfl
theorem j30_raw (k kp : KT) : X30 k kp (m30) = j30 (fun y0 => k (.v (.bool y0)) []) :=
  Eq.mp (by kernel_rfl) ((atP_run (j30_ag k kp) (m30)).trans (j30_c k kp (JJ k kp) (LL k kp)))
theorem j30_eq (k kp : KT) : X30 k kp (m30) = j30' (fun y0 => k (.v (.bool y0)) []) := by
  rw [j30_raw]; rfl
theorem l24_c (k kp : KT) (J L : Nat → St → Prop) (ag24 : St → Prop) (x6 x10 : (List Zq0)) (x12 : Int) : runC cfg 1000001 J L (pick none' [(24, ag24)]) [1, 1, 1, 1, 1, 1, 1, 1, 1, 1, 0, 1, 0, 0] body (topK cfg Tryd.f6 k kp) (mL24 x6 x10 x12) = l24 (J 30 (m30)) (fun x12 => ag24 (mL24 x6 x10 x12)) x6 x10 x12 (fun y0 => k (.v (.bool y0)) []) := by kernel_rfl
theorem l24_ag (k kp : KT) (ag24 : St → Prop) : agPL cfg 1000001 (JJ_24 k kp ag24) (LL_24 k kp ag24) [1, 1, 1, 1, 1, 1, 1, 1, 1, 1, 0, 1, 0, 0] body = agPR cfg 1000001 (pick none' [(24, ag24)]) [1, 1, 1, 1, 1, 1, 1, 1, 1, 1, 0, 1, 0, 0] body (topK cfg Tryd.f6 k kp) := by kernel_rfl
theorem l24_raw (k kp : KT) (ag24 : St → Prop) (x6 x10 : (List Zq0)) (x12 : Int) : YL24 k kp ag24 (mL24 x6 x10 x12) = l24 (X30 k kp (m30)) (fun x12 => ag24 (mL24 x6 x10 x12)) x6 x10 x12 (fun y0 => k (.v (.bool y0)) []) :=
  Eq.mp (by kernel_rfl) ((atP_run (l24_ag k kp ag24) (mL24 x6 x10 x12)).trans (l24_c k kp (JJ_24 k kp ag24) (LL_24 k kp ag24) ag24 x6 x10 x12))
theorem l24_eq (k kp : KT) (x6 x10 : (List Zq0)) (x12 : Int) : XL24 k kp (mL24 x6 x10 x12) = l24' x6 x10 x12 (fun y0 => k (.v (.bool y0)) []) :=
  loop_eq (mk := fun (s : Int) => mL24 x6 x10 s) (fun again s => by rw [l24_raw k kp again x6 x10 s]; simp only [j30_eq]; first | done | rfl) (x12)
theorem j23_c (k kp : KT) (J L : Nat → St → Prop) (x6 x10 : (List Zq0)) : runC cfg 23 J L (pick none' []) [1, 1, 1, 1, 1, 1, 1, 1, 1, 1] body (topK cfg Tryd.f6 k kp) (m23 x6 x10) = j23 (fun x6 x10 x12 => L 24 (mL24 x6 x10 x12)) x6 x10 (fun y0 => k (.v (.bool y0)) []) := by kernel_rfl
theorem j23_ag (k kp : KT) : agPL cfg 23 (JJ k kp) (LL k kp) [1, 1, 1, 1, 1, 1, 1, 1, 1, 1] body = agPR cfg 23 (pick none' []) [1, 1, 1, 1, 1, 1, 1, 1, 1, 1] body (topK cfg Tryd.f6 k kp) := by kernel_rfl
theorem j23_raw (k kp : KT) (x6 x10 : (List Zq0)) : X23 k kp (m23 x6 x10) = j23 (fun x6 x10 x12 => XL24 k kp (mL24 x6 x10 x12)) x6 x10 (fun y0 => k (.v (.bool y0)) []) :=
  Eq.mp (by kernel_rfl) ((atP_run (j23_ag k kp) (m23 x6 x10)).trans (j23_c k kp (JJ k kp) (LL k kp) x6 x10))
theorem j23_eq (k kp : KT) (x6 x10 : (List Zq0)) : X23 k kp (m23 x6 x10) = j23' x6 x10 (fun y0 => k (.v (.bool y0)) []) := by
  rw [j23_raw]; simp only [l24_eq]; first | done | rfl
theorem j2000022_c (k kp : KT) (J L : Nat → St → Prop) (x6 x10 : (List Zq0)) (x87 : Bool) : runC cfg 2000022 J L (pick none' []) [1, 1, 1, 1, 1, 1, 1, 1, 1, 0, 1] body (topK cfg Tryd.f6 k kp) (m2000022 x6 x10 x87) = j2000022 (fun x6 x10 => J 23 (m23 x6 x10)) x6 x10 x87 (fun y0 => k (.v (.bool y0)) []) := by kernel_rfl
theorem j2000022_ag (k kp : KT) : agPL cfg 2000022 (JJ k kp) (LL k kp) [1, 1, 1, 1, 1, 1, 1, 1, 1, 0, 1] body = agPR cfg 2000022 (pick none' []) [1, 1, 1, 1, 1, 1, 1, 1, 1, 0, 1] body (topK cfg Tryd.f6 k kp) := by kernel_rfl
theorem j2000022_raw (k kp : KT) (x6 x10 : (List Zq0)) (x87 : Bool) : X2000022 k kp (m2000022 x6 x10 x87) = j2000022 (fun x6 x10 => X23 k kp (m23 x6 x10)) x6 x10 x87 (fun y0 => k (.v (.bool y0)) []) :=
  Eq.mp (by kernel_rfl) ((atP_run (j2000022_ag k kp) (m2000022 x6 x10 x87)).trans (j2000022_c k kp (JJ k kp) (LL k kp) x6 x10 x87))
theorem j2000022_eq (k kp : KT) (x6 x10 : (List Zq0)) (x87 : Bool) : X2000022 k kp (m2000022 x6 x10 x87) = j2000022' x6 x10 x87 (fun y0 => k (.v (.bool y0)) []) := by
  rw [j2000022_raw]; simp only [j23_eq]; first | done | rfl
theorem j18_c (k kp : KT) (J L : Nat → St → Prop) (x6 : (List Zq0)) (x8 : BA) : runC cfg 18 J L (pick none' []) [1, 1, 1, 1, 1, 1, 1] body (topK cfg Tryd.f6 k kp) (m18 x6 x8) = j18 (fun x6 x10 x87 => J 2000022 (m2000022 x6 x10 x87)) x6 x8 (fun y0 => k (.v (.bool y0)) []) := by kernel_rfl
theorem j18_ag (k kp : KT) : agPL cfg 18 (JJ k kp) (LL k kp) [1, 1, 1, 1, 1, 1, 1] body = agPR cfg 18 (pick none' []) [1, 1, 1, 1, 1, 1, 1] body (topK cfg Tryd.f6 k kp) := by kernel_rfl
theorem j18_raw (k kp : KT) (x6 : (List Zq0)) (x8 : BA) : X18 k kp (m18 x6 x8) = j18 (fun x6 x10 x87 => X2000022 k kp (m2000022 x6 x10 x87)) x6 x8 (fun y0 => k (.v (.bool y0)) []) :=
  Eq.mp (by kernel_rfl) ((atP_run (j18_ag k kp) (m18 x6 x8)).trans (j18_c k kp (JJ k kp) (LL k kp) x6 x8))
theorem j18_eq (k kp : KT) (x6 : (List Zq0)) (x8 : BA) : X18 k kp (m18 x6 x8) = j18' x6 x8 (fun y0 => k (.v (.bool y0)) []) := by
  rw [j18_raw]; simp only [j2000022_eq]; first | done | rfl
theorem l13_c (k kp : KT) (J L : Nat → St → Prop) (ag13 : St → Prop) (x1 : BA) (x6 : (List Zq0)) (x8 : BA) (x9 : Int) : runC cfg 1000001 J L (pick none' [(13, ag13)]) [1, 1, 1, 1, 1, 1, 0, 1, 0, 0] body (topK cfg Tryd.f6 k kp) (mL13 x1 x6 x8 x9) = l13 (fun x1 x6 x8 x9 => J 14 (m14 x1 x6 x8 x9)) (fun x6 x8 => J 18 (m18 x6 x8)) x1 x6 x8 x9 (fun y0 => k (.v (.bool y0)) []) := by kernel_rfl
theorem l13_ag (k kp : KT) (ag13 : St → Prop) : agPL cfg 1000001 (JJ_13 k kp ag13) (LL_13 k kp ag13) [1, 1, 1, 1, 1, 1, 0, 1, 0, 0] body = agPR cfg 1000001 (pick none' [(13, ag13)]) [1, 1, 1, 1, 1, 1, 0, 1, 0, 0] body (topK cfg Tryd.f6 k kp) := by kernel_rfl
theorem l13_raw (k kp : KT) (ag13 : St → Prop) (x1 : BA) (x6 : (List Zq0)) (x8 : BA) (x9 : Int) : YL13 k kp ag13 (mL13 x1 x6 x8 x9) = l13 (fun x1 x6 x8 x9 => X14 k kp ag13 (m14 x1 x6 x8 x9)) (fun x6 x8 => X18 k kp (m18 x6 x8)) x1 x6 x8 x9 (fun y0 => k (.v (.bool y0)) []) :=
  Eq.mp (by kernel_rfl) ((atP_run (l13_ag k kp ag13) (mL13 x1 x6 x8 x9)).trans (l13_c k kp (JJ_13 k kp ag13) (LL_13 k kp ag13) ag13 x1 x6 x8 x9))
theorem l13_eq (k kp : KT) (x1 : BA) (x6 : (List Zq0)) (x8 : BA) (x9 : Int) : XL13 k kp (mL13 x1 x6 x8 x9) = l13' x1 x6 x8 x9 (fun y0 => k (.v (.bool y0)) []) :=
  loop_eq (mk := fun (s : BA × Int) => mL13 x1 x6 s.1 s.2) (fun again s => by rw [l13_raw k kp again x1 x6 s.1 s.2]; simp only [j14_eq, j18_eq]; first | done | rfl) (x8, x9)
theorem j8_c (k kp : KT) (J L : Nat → St → Prop) (x0 x1 : BA) : runC cfg 8 J L (pick none' []) [1, 1, 1] body (topK cfg Tryd.f6 k kp) (m8 x0 x1) = j8 (fun x1 x6 x8 x9 => L 13 (mL13 x1 x6 x8 x9)) x0 x1 (fun y0 => k (.v (.bool y0)) []) := by kernel_rfl
theorem j8_ag (k kp : KT) : agPL cfg 8 (JJ k kp) (LL k kp) [1, 1, 1] body = agPR cfg 8 (pick none' []) [1, 1, 1] body (topK cfg Tryd.f6 k kp) := by kernel_rfl
theorem j8_raw (k kp : KT) (x0 x1 : BA) : X8 k kp (m8 x0 x1) = j8 (fun x1 x6 x8 x9 => XL13 k kp (mL13 x1 x6 x8 x9)) x0 x1 (fun y0 => k (.v (.bool y0)) []) :=
  Eq.mp (by kernel_rfl) ((atP_run (j8_ag k kp) (m8 x0 x1)).trans (j8_c k kp (JJ k kp) (LL k kp) x0 x1))
theorem j8_eq (k kp : KT) (x0 x1 : BA) : X8 k kp (m8 x0 x1) = j8' x0 x1 (fun y0 => k (.v (.bool y0)) []) := by
  rw [j8_raw]; simp only [l13_eq]; first | done | rfl
theorem l4_c (k kp : KT) (J L : Nat → St → Prop) (ag4 : St → Prop) (x0 x1 : BA) (x5 : Int) : runC cfg 1000001 J L (pick none' [(4, ag4)]) [1, 1, 0, 1, 0, 0] body (topK cfg Tryd.f6 k kp) (mL4 x0 x1 x5) = l4 (fun x0 x1 => J 8 (m8 x0 x1)) (fun x5 => ag4 (mL4 x0 x1 x5)) x0 x1 x5 (fun y0 => k (.v (.bool y0)) []) := by kernel_rfl
theorem l4_ag (k kp : KT) (ag4 : St → Prop) : agPL cfg 1000001 (JJ_4 k kp ag4) (LL_4 k kp ag4) [1, 1, 0, 1, 0, 0] body = agPR cfg 1000001 (pick none' [(4, ag4)]) [1, 1, 0, 1, 0, 0] body (topK cfg Tryd.f6 k kp) := by kernel_rfl
theorem l4_raw (k kp : KT) (ag4 : St → Prop) (x0 x1 : BA) (x5 : Int) : YL4 k kp ag4 (mL4 x0 x1 x5) = l4 (fun x0 x1 => X8 k kp (m8 x0 x1)) (fun x5 => ag4 (mL4 x0 x1 x5)) x0 x1 x5 (fun y0 => k (.v (.bool y0)) []) :=
  Eq.mp (by kernel_rfl) ((atP_run (l4_ag k kp ag4) (mL4 x0 x1 x5)).trans (l4_c k kp (JJ_4 k kp ag4) (LL_4 k kp ag4) ag4 x0 x1 x5))
theorem l4_eq (k kp : KT) (x0 x1 : BA) (x5 : Int) : XL4 k kp (mL4 x0 x1 x5) = l4' x0 x1 x5 (fun y0 => k (.v (.bool y0)) []) :=
  loop_eq (mk := fun (s : Int) => mL4 x0 x1 s) (fun again s => by rw [l4_raw k kp again x0 x1 s]; simp only [j8_eq]; first | done | rfl) (x5)
theorem j3_c (k kp : KT) (J L : Nat → St → Prop) (x0 x1 : BA) : runC cfg 3 J L (pick none' []) [1, 1] body (topK cfg Tryd.f6 k kp) (m3 x0 x1) = j3 (fun x0 x1 x5 => L 4 (mL4 x0 x1 x5)) x0 x1 (fun y0 => k (.v (.bool y0)) []) := by kernel_rfl
theorem j3_ag (k kp : KT) : agPL cfg 3 (JJ k kp) (LL k kp) [1, 1] body = agPR cfg 3 (pick none' []) [1, 1] body (topK cfg Tryd.f6 k kp) := by kernel_rfl
theorem j3_raw (k kp : KT) (x0 x1 : BA) : X3 k kp (m3 x0 x1) = j3 (fun x0 x1 x5 => XL4 k kp (mL4 x0 x1 x5)) x0 x1 (fun y0 => k (.v (.bool y0)) []) :=
  Eq.mp (by kernel_rfl) ((atP_run (j3_ag k kp) (m3 x0 x1)).trans (j3_c k kp (JJ k kp) (LL k kp) x0 x1))
theorem j3_eq (k kp : KT) (x0 x1 : BA) : X3 k kp (m3 x0 x1) = j3' x0 x1 (fun y0 => k (.v (.bool y0)) []) := by
  rw [j3_raw]; simp only [l4_eq]; first | done | rfl
theorem j2000002_c (k kp : KT) (J L : Nat → St → Prop) (x0 x1 : BA) (x22 : Bool) : runC cfg 2000002 J L (pick none' []) [1, 0, 1] body (topK cfg Tryd.f6 k kp) (m2000002 x0 x1 x22) = j2000002 (fun x0 x1 => J 3 (m3 x0 x1)) x0 x1 x22 (fun y0 => k (.v (.bool y0)) []) := by kernel_rfl
theorem j2000002_ag (k kp : KT) : agPL cfg 2000002 (JJ k kp) (LL k kp) [1, 0, 1] body = agPR cfg 2000002 (pick none' []) [1, 0, 1] body (topK cfg Tryd.f6 k kp) := by kernel_rfl
theorem j2000002_raw (k kp : KT) (x0 x1 : BA) (x22 : Bool) : X2000002 k kp (m2000002 x0 x1 x22) = j2000002 (fun x0 x1 => X3 k kp (m3 x0 x1)) x0 x1 x22 (fun y0 => k (.v (.bool y0)) []) :=
  Eq.mp (by kernel_rfl) ((atP_run (j2000002_ag k kp) (m2000002 x0 x1 x22)).trans (j2000002_c k kp (JJ k kp) (LL k kp) x0 x1 x22))
theorem j2000002_eq (k kp : KT) (x0 x1 : BA) (x22 : Bool) : X2000002 k kp (m2000002 x0 x1 x22) = j2000002' x0 x1 x22 (fun y0 => k (.v (.bool y0)) []) := by
  rw [j2000002_raw]; simp only [j3_eq]; first | done | rfl
theorem c_c (k kp : KT) (J L : Nat → St → Prop) (x0 x1 : BA) : runC cfg 1000001 J L none'' [] body (topK cfg Tryd.f6 k kp) (st0 Tryd.f6 [(.v (.string x0)), (.v (.string x1))] []) = c (fun x0 x1 x22 => J 2000002 (m2000002 x0 x1 x22)) x0 x1 (fun y0 => k (.v (.bool y0)) []) := by kernel_rfl
theorem c_ag (k kp : KT) : agPL cfg 1000001 (JJ k kp) (LL k kp) [] body = agPR cfg 1000001 none'' [] body (topK cfg Tryd.f6 k kp) := by kernel_rfl
theorem body_is : Tryd.f6.body = some body := by kernel_rfl
theorem c_raw (k kp : KT) (x0 x1 : BA) : funW cfg Tryd.f6 [(.v (.string x0)), (.v (.string x1))] [] k kp = c (fun x0 x1 x22 => X2000002 k kp (m2000002 x0 x1 x22)) x0 x1 (fun y0 => k (.v (.bool y0)) []) :=
  Eq.mp (by kernel_rfl) ((funW_run (AG := none'') body_is (c_ag k kp) [(.v (.string x0)), (.v (.string x1))] []).trans (c_c k kp (JJ k kp) (LL k kp) x0 x1))
theorem f_eq (k kp : KT) (x0 x1 : BA) : funW cfg Tryd.f6 [(.v (.string x0)), (.v (.string x1))] [] k kp = f x0 x1 (fun y0 => k (.v (.bool y0)) []) := by
  rw [f_def, c_raw]; simp only [j2000002_eq]; first | done | rfl
noncomputable def ent0 : Entry := fun args blks k _ => match args, blks with
  | [d0, d1], [] => aStr d0 fun x0 => aStr d1 fun x1 => f x0 x1 (fun y0 => k (.v (.bool y0)) [])
  | _, _ => False
noncomputable def ent : Entry := fun args blks k kp => ent0 (convB [.no, .no] args) blks k kp
theorem ok : EntOk Tryd.prog 49 0 6 ent := by
  refine EntOk.convB (EntOk.of (funW_ok (cfg := cfg) (tyOk_of rfl rfl tyL_ok) (eqOk_of (P := Tryd.prog) rfl rfl (by kernel_rfl)) mixed_ok (tab_ok ?_) Tryd.func6 (by rfl) (by rfl)) ?_) _
  · intro p hp
    simp only [List.mem_cons, List.not_mem_nil, or_false] at hp
    rcases hp with rfl | rfl | rfl
    · exact N13.ok
    · exact N14.ok
    · exact N17.ok
  · intro args blks k kp h k' kp'
    match args, blks, h with
    | [d0, d1], [], h =>
    dsimp only [ent0] at h
    have h9 := aStr_elim h; clear h; obtain ⟨x0, rfl, h⟩ := h9
    have h9 := aStr_elim h; clear h; obtain ⟨x1, rfl, h⟩ := h9
    exact (f_eq k' kp' x0 x1).symm
end N6
end Go.Proofs.Ye

namespace Go.Proofs.Ye.LexBack
open Go Go.Aw Go.Proofs Go.Proofs.YtidclggijmbffaaDoor Go.ChangeShapes Go.WideShapes Go.ChangeAt Go.RowKit
set_option maxRecDepth 100000
set_option maxHeartbeats 4000000
def Pure : Prop := ∀ (x0 : ByteArray) (w0 : x0.size ≤ reachBytes) (x1 : ByteArray) (w1 : x1.size ≤ reachBytes), N6.f x0 x1 (fun y0 => y0 = true)
theorem own : ownKnob Tryd.prog.godebug = none := by kernel_rfl
theorem laid : laidOutB Tryd.prog = true := by kernel_rfl
set_option maxRecDepth 100000 in
theorem lifted (pure : Pure) (os : Os) (started : os.Started) (H : Type) (enc : TypeId × Value → H) (F : Stop.Interp) :
    ReturnsInHanded {} Tryd.checked os 6 .any ((OpenSpec.ofChange Rows.lexBackSpec).preRow enc Tryd.prog Tryd.f6 Rows.lexBackRow.domain false Rows.lexBackRow.laid) (((OpenSpec.ofChange Rows.lexBackSpec).at F).post enc Tryd.prog Tryd.f6 false true false false) := by
  obtain ⟨places, hx⟩ : ∃ places, DataW.whole enc Tryd.prog ((laidWorld os).forCall (fun _ _ => 0) ⟨#[], #[.string ⟨#[]⟩, .string ⟨#[]⟩], []⟩).memory Tryd.f6.params.toList Rows.lexBackSpec.vars false (#[.string ⟨#[]⟩, .string ⟨#[]⟩] : Array Value).toList 60 = some ([(.lit (.string [])), (.lit (.string []))], [], places) := ⟨[], by kernel_rfl⟩
  refine returnsInHanded_of_row (C := Tryd.checked) (s := (OpenSpec.ofChange Rows.lexBackSpec)) own started (by kernel_rfl) Tryd.func6
    (witness_row_at (enc := enc) (C := Tryd.checked) false (laidWorld os) #[.string ⟨#[]⟩, .string ⟨#[]⟩] rfl (by kernel_rfl) (by kernel_rfl) (by kernel_rfl)
      (OpenSpec.preRow_of_cond 60 hx (by kernel_rfl) (fun k hk => by cases hk) (by kernel_rfl) (laid_met os _))) ?_
  intro W base args ds gs before hval0 hW hcnd hcond hsz0 hL _ _
  have hsz : (DataW.weightsEach Tryd.prog (Tryd.f6.params.toList ++ Rows.lexBackSpec.plain.varTypes Tryd.prog) (ds ++ gs)).all (· ≤ reachBytes) = true := hsz0
  have hval : ∀ (j : Nat) t v, Tryd.f6.params[j]? = some t → args[j]? = some v → Value.okWide Tryd.prog W .any base t v := hval0
  have hW' := hW
  have hlt := hW.lt
  obtain ⟨p, q, hA0, hV, rfl, hfz, hnd⟩ := hW
  have hA : DataW.TrodAll enc Tryd.prog W 0 (fun _ => true) true Tryd.f6.params.toList args.toList ds p := hA0
  have hAk := hA
  rw [Tryd.params6] at hA hval hsz
  obtain ⟨v0, vs0, d0, ds0, p0, q0, hargs, rfl, rfl, h0, r0⟩ := trodAll_cons hA
  obtain ⟨v1, vs1, d1, ds1, p1, q1, rfl, rfl, rfl, h1, r1⟩ := trodAll_cons r0
  obtain ⟨rfl, rfl, rfl⟩ := trodAll_nil r1
  obtain rfl : args = #[v0, v1] := by cases args; simp_all
  obtain ⟨rfl, rfl⟩ := trodVars_none hV
  obtain ⟨x0, k0, w0, q0⟩ := arg_str (tf := 49) (tw := 0) (by kernel_rfl) (hval 0 9 v0 rfl rfl) h0 (fun m hm => of_decide_eq_true (List.all_eq_true.1 hsz m (DataW.weights_mem_each (j := 0) rfl rfl m hm)))
  obtain ⟨x1, k1, w1, q1⟩ := arg_str (tf := 49) (tw := 0) (by kernel_rfl) (hval 1 9 v1 rfl rfl) h1 (fun m hm => of_decide_eq_true (List.all_eq_true.1 hsz m (DataW.weights_mem_each (j := 1) rfl rfl m hm)))
  refine (law_ofG N6.ok (W := W) (hand hL) (us := [v0, v1]) (ds := [.v (.string x0), .v (.string x1)]) ⟨_, _, rfl, k0, ⟨_, _, rfl, k1, by simp only [RepL]⟩⟩ (show N6.ent _ _ _ _ from pure x0 w0 x1 w1)).mono fun e W' ⟨he, bel⟩ => ?_
  subst he
  exact ⟨_, rfl, _, _, _, [], _, [], hW', trodAll_mk1 (shut_bool (by kernel_rfl) _), trodAll_below laid bel (by kernel_rfl) hAk (fun x hx => hlt x (by simpa using hx)), rfl, bel.frame _, fun h => by cases h⟩
theorem said (pure : Pure) : Rows.LexBackSaid :=
  OpenClaim.holds_of_cond 6 Tryd.f6 rfl rfl rfl rfl rfl rfl rfl ⟨rfl, rfl, rfl, rfl, rfl⟩ rfl rfl rfl rfl rfl (by kernel_rfl) Tryd.func6 (by kernel_rfl)
    (of_decide_eq_true (by kernel_rfl)) (by unfold Func.isWrapper; first | (rw [if_pos (by decide +kernel)]; kernel_rfl) | (rw [if_neg (by decide +kernel)]; exact ⟨rfl, rfl⟩))
    (fun os started H enc _ F => by rw [OpenClaim.pre_eq_preRow]; exact lifted pure os started H enc F)
theorem holds (pure : Pure) : Rows.LexBackCardSaid :=
  Claim7.holds_tied_plain_at .later [] _ _ _ _ (said pure) (fun _ h => by cases h) (by kernel_rfl) (fun _ h => by cases h) lexBack_row_tie rfl ⟨rfl, rfl⟩ (by kernel_rfl) rfl
    (fun f fn hf hfn => by
      obtain rfl : f = 6 := Option.some.inj ((show Tryd.prog.funcNamed "dyehouse/dyehouselaw09.LexBack" = some 6 by kernel_rfl).symm.trans hf) |>.symm
      obtain rfl : fn = Tryd.f6 := (Option.some.inj (Tryd.func6.symm.trans hfn)).symm
      refine ⟨by kernel_rfl, fun j t ht => ?_⟩
      rw [Tryd.params6] at ht
      have hm : t ∈ ([9, 9] : List TypeId) := by simpa using Array.mem_of_getElem? ht
      simp only [List.mem_cons, List.not_mem_nil, or_false] at hm
      rcases hm with rfl | rfl
      · exact (show Tryd.prog.wantsStandIn 9 = false by kernel_rfl)
      · exact (show Tryd.prog.wantsStandIn 9 = false by kernel_rfl)
    )
    (by kernel_rfl)
end Go.Proofs.Ye.LexBack

namespace Go.Aw
open Go Go.RowKit
open Classical in
noncomputable def pcT (t : LTok) : Pc := if h : Told t then Classical.choose h else .dd
theorem pcT_is {t : LTok} (h : Told t) : (pcT t).good (some 32) ∧ (pcT t).tok t.pos = [t] ∧ (∀ c, pcT t ≠ .ws c) ∧ (∀ s, pcT t ≠ .rem s) := by
  unfold pcT
  rw [dif_pos h]
  exact Classical.choose_spec h
theorem hdK_ne {j : Nat} (h : j < 5) : hdK j ≠ 0 ∧ hdK j ≠ 3 := by
  rcases (by omega : j = 0 ∨ j = 1 ∨ j = 2 ∨ j = 3 ∨ j = 4) with rfl | rfl | rfl | rfl | rfl <;> decide
theorem lexS_len : ∀ (f : Nat) (l : List Int) (a : Int) (out : List LTok), (lexS f l a out).1.length ≤ out.length + l.length + 1
  | 0, l, a, out => by simp [lexS]
  | f + 1, l, a, out => by
    unfold lexS
    cases l with
    | nil => simp
    | cons c r =>
      dsimp only
      simp only [List.length_cons]
      split
      · have := lexS_len f r (a + 1) out
        omega
      · split
        · have := lexS_len f ((c :: r).drop (lineN (c :: r))) (a + lineN (c :: r)) out
          rw [List.length_drop, List.length_cons] at this
          omega
        · split
          · simp
          · rename_i h3
            have h := tokS_len (l := c :: r) (by simpa using h3)
            have := lexS_len f ((c :: r).drop (tokS (c :: r)).len) (a + (tokS (c :: r)).len) (out ++ [((tokS (c :: r)).kind, bytesOf (tokS (c :: r)).text, (tokS (c :: r)).num, (tokS (c :: r)).cls, a)])
            simp only [List.length_drop, List.length_cons, List.length_append, List.length_nil] at this h
            omega
theorem lexAll_len (l : List Int) : (lexAll l).1.length ≤ l.length + 1 := by
  unfold lexAll
  split
  · simp
  · have := lexS_len (l.length + 1) l 0 []
    simp at this
    omega
def againL (t : LTok) : List Int := if t.kind = 3 then qputL (ofBytes t.text) else ofBytes t.text
theorem againL_ne {t : LTok} (h : t.kind ≠ 3) : againL t = ofBytes t.text := if_neg h
theorem againL_st {t : LTok} (h : t.kind = 3) : againL t = qputL (ofBytes t.text) := if_pos h
theorem again_eq {t : LTok} (h : Told t) : t.kind ≠ 0 ∧ bytesOf (againL t) = bytesOf (pcT t).text ∧ (pcT t).text.length ≤ 300 := by
  obtain ⟨h1, h2, h3, h4⟩ := pcT_is h
  generalize pcT t = p at *
  cases p with
  | ws c => exact absurd rfl (h3 c)
  | rem s => exact absurd rfl (h4 s)
  | sg c =>
    have h2 := (List.cons.inj h2).1
    rw [← h2]
    refine ⟨show (7 : Int) ≠ 0 by decide, ?_, by simp [Pc.text]⟩
    rw [againL_ne (t := (7, bytesOf [c], 0, 0, t.pos)) (show (7 : Int) ≠ 3 by decide)]
    exact bytesOf_ofBytes _
  | dd =>
    have h2 := (List.cons.inj h2).1
    rw [← h2]
    refine ⟨show (7 : Int) ≠ 0 by decide, ?_, by simp [Pc.text]⟩
    rw [againL_ne (t := (7, bytesOf [46, 46], 0, 0, t.pos)) (show (7 : Int) ≠ 3 by decide)]
    exact bytesOf_ofBytes _
  | wd s =>
    have h2 := (List.cons.inj h2).1
    rw [← h2]
    refine ⟨show (1 : Int) ≠ 0 by decide, ?_, by simp only [Pc.text]; have := h1.2.1; omega⟩
    rw [againL_ne (t := (1, bytesOf s, 0, 0, t.pos)) (show (1 : Int) ≠ 3 by decide)]
    exact bytesOf_ofBytes _
  | nm j m =>
    have h2 := (List.cons.inj h2).1
    have hk := hdK_ne h1.1
    rw [← h2]
    refine ⟨hk.1, ?_, ?_⟩
    · refine (congrArg bytesOf (againL_ne (t := (hdK j, bytesOf (hdT j ++ digs m), w64 m, hdC j, t.pos)) (show hdK j ≠ 3 from hk.2))).trans ?_
      exact bytesOf_ofBytes _
    · have := digs_len m
      have hj : (hdT j).length ≤ 2 := by
        have := h1.1
        rcases (by omega : j = 0 ∨ j = 1 ∨ j = 2 ∨ j = 3 ∨ j = 4) with rfl | rfl | rfl | rfl | rfl <;> decide
      simp only [Pc.text, List.length_append]; omega
  | st s =>
    have h2 := (List.cons.inj h2).1
    rw [← h2]
    refine ⟨show (3 : Int) ≠ 0 by decide, ?_, ?_⟩
    · rw [againL_st (t := (3, bytesOf s, 0, 0, t.pos)) (show (3 : Int) = 3 from rfl)]
      show bytesOf (qputL (ofBytes (bytesOf s))) = _
      rw [ofBytes_bytesOf h1.1]; rfl
    · have := flat_len s
      have := h1.2
      simp only [Pc.text, qputL, List.length_cons, List.length_append, List.length_nil]; omega
noncomputable def bkP (rm : List Int) (t : LTok) (i : Nat) : List Pc := (if t.kind = 0 then [] else [pcT t]) ++ (.ws 32 :: (if i % 3 = 1 then [.rem rm] else []))
noncomputable def bkL (rm : List Int) : List LTok → Nat → List Pc
  | [], _ => []
  | t :: l, i => bkP rm t i ++ bkL rm l (i + 1)
theorem bkL_append (rm : List Int) : ∀ (l m : List LTok) (i : Nat), bkL rm (l ++ m) i = bkL rm l i ++ bkL rm m (i + l.length)
  | [], m, i => rfl
  | t :: l, m, i => by
    rw [List.cons_append, bkL, bkL, bkL_append rm l m, List.append_assoc, List.length_cons, show i + 1 + l.length = i + (l.length + 1) by omega]
theorem bkP_good {rm : List Int} (hrm : ∀ x ∈ rm, x ≠ 10) {t : LTok} (h : t.kind = 0 ∨ Told t) (i : Nat) (rest : List Int) : goodL (bkP rm t i) rest := by
  unfold bkP
  have hw : goodL (.ws 32 :: (if i % 3 = 1 then [.rem rm] else [])) rest := by
    refine ⟨show isW 32 = true from rfl, ?_⟩
    split
    · exact ⟨hrm, trivial⟩
    · trivial
  rw [goodL_append]
  refine ⟨?_, hw⟩
  split
  · trivial
  · rename_i hk
    exact ⟨(pcT_is (h.resolve_left hk)).1, trivial⟩
theorem bkL_good {rm : List Int} (hrm : ∀ x ∈ rm, x ≠ 10) : ∀ (l : List LTok) (i : Nat) (rest : List Int), (∀ t ∈ l, t.kind = 0 ∨ Told t) → goodL (bkL rm l i) rest
  | [], _, _, _ => trivial
  | t :: l, i, rest, h => by
    rw [bkL, goodL_append]
    exact ⟨bkP_good hrm (h t (by simp)) i _, bkL_good hrm l (i + 1) rest fun t' ht => h t' (by simp [ht])⟩
def strip (t : LTok) : Int × (ByteArray × (Int × Int)) := (t.1, t.2.1, t.2.2.1, t.2.2.2.1)
theorem tok_strip (p : Pc) (a b : Int) : (p.tok a).map strip = (p.tok b).map strip := by cases p <;> rfl
theorem bkL_strip (rm : List Int) : ∀ (l : List LTok) (i : Nat) (a : Int), (∀ t ∈ l, t.kind = 0 ∨ Told t) → (tkL (bkL rm l i) a).map strip = (l.filter fun t => decide (t.kind ≠ 0)).map strip
  | [], _, _, _ => rfl
  | t :: l, i, a, h => by
    have ih := fun b => bkL_strip rm l (i + 1) b fun t' ht => h t' (by simp [ht])
    rw [bkL, tkL_append, List.map_append, ih]
    unfold bkP
    have hrest : ∀ b, tkL (.ws 32 :: (if i % 3 = 1 then [.rem rm] else [])) b = [] := by
      intro b
      split <;> rfl
    rw [tkL_append, hrest, List.append_nil]
    by_cases hk : t.kind = 0
    · rw [if_pos hk, List.filter_cons_of_neg (by simp [hk])]
      rfl
    · rw [if_neg hk, List.filter_cons_of_pos (by simp [hk])]
      obtain ⟨h1, h2, -, -⟩ := pcT_is ((h t (by simp)).resolve_left hk)
      show ((pcT t).tok a ++ []).map strip ++ _ = _
      rw [List.append_nil, tok_strip _ a t.pos, h2]
      rfl
theorem rdP_eq {rm : List Int} {t : LTok} (h : (t.kind = 0 ∧ t.text = ByteArray.mk #[]) ∨ Told t) (i : Nat) :
    bytesOf (rdL (bkP rm t i)) = if i % 3 = 1 then ((((bytesOf (againL t) ++ ByteArray.mk #[32]) ++ ByteArray.mk #[47, 47]) ++ bytesOf rm) ++ ByteArray.mk #[10]) else bytesOf (againL t) ++ ByteArray.mk #[32] := by
  have e : bytesOf (rdL (if t.kind = 0 then [] else [pcT t])) = bytesOf (againL t) := by
    rcases h with ⟨h0, h1⟩ | h
    · rw [if_pos h0, againL_ne (by rw [h0]; decide), h1]; rfl
    · obtain ⟨h0, h1, _⟩ := again_eq h
      rw [if_neg h0, h1]
      simp [rdL]
  unfold bkP
  rw [rdL_append, bytesOf_append, e]
  by_cases h3 : i % 3 = 1
  · rw [if_pos h3, if_pos h3]
    have : rdL [.ws 32, .rem rm] = [32] ++ [47, 47] ++ rm ++ [10] := by simp [rdL, Pc.text]
    rw [this, bytesOf_append, bytesOf_append, bytesOf_append]
    simp only [ByteArray.append_assoc]
    rfl
  · rw [if_neg h3, if_neg h3]
    rfl
theorem text_isB {p : Pc} {nx : Option Int} (h : p.good nx) (hr : ∀ s, p = .rem s → ∀ x ∈ s, isB x) : ∀ x ∈ p.text, isB x := by
  intro x hx
  cases p with
  | ws c =>
    simp [Pc.text] at hx; subst hx
    have : isW x = true := h
    rw [isW_iff] at this
    unfold isB; omega
  | sg c =>
    simp [Pc.text] at hx; subst hx
    have h1 := h.1
    simp only [signs, List.mem_cons, List.not_mem_nil, or_false] at h1
    unfold isB; omega
  | dd => simp [Pc.text] at hx; subst hx; unfold isB; omega
  | wd s =>
    obtain ⟨⟨c, r, rfl, hc, hr'⟩, _⟩ := h
    have : isS x = true := by
      rcases List.mem_cons.1 hx with rfl | hx
      · exact isS_of_isL hc
      · exact hr' x hx
    unfold isS isL at this
    simp at this
    unfold isB; omega
  | nm j m =>
    rcases List.mem_append.1 (show x ∈ hdT j ++ digs m from hx) with hx | hx
    · have := h.1
      rcases (by omega : j = 0 ∨ j = 1 ∨ j = 2 ∨ j = 3 ∨ j = 4) with rfl | rfl | rfl | rfl | rfl <;> simp [hdT, hdS] at hx <;> (try rcases hx with rfl | rfl) <;> (try subst hx) <;> (unfold isB; omega)
    · have := (digs_props (m := m) (by have := h.2.1; omega)).1 x hx
      unfold isD at this; unfold isB; omega
  | st s =>
    have hx : x ∈ 34 :: (s.flatMap oneL ++ [34]) := hx
    rcases List.mem_cons.1 hx with rfl | hx
    · unfold isB; omega
    · rcases List.mem_append.1 hx with hx | hx
      · obtain ⟨c, hc, hx⟩ := List.mem_flatMap.1 hx
        have hcB := h.1 c hc
        unfold oneL at hx
        have hh : ∀ n : Int, 0 ≤ n → n < 16 → isB (hexL n) := hexL_isB
        repeat' split at hx
        all_goals simp only [List.mem_cons, List.not_mem_nil, or_false] at hx
        · rcases hx with rfl | rfl <;> (unfold isB; omega)
        · rcases hx with rfl | rfl <;> (unfold isB; omega)
        · rcases hx with rfl | rfl <;> (unfold isB; omega)
        · rcases hx with rfl | rfl <;> (unfold isB; omega)
        · subst hx; exact hcB
        · unfold isB at hcB
          rcases hx with rfl | rfl | rfl | rfl
          · unfold isB; omega
          · unfold isB; omega
          · exact hh _ (by omega) (by omega)
          · exact hh _ (by omega) (by omega)
      · simp at hx; subst hx; unfold isB; omega
  | rem s =>
    have hx : x ∈ 47 :: 47 :: (s ++ [10]) := hx
    simp only [List.mem_cons, List.mem_append, List.not_mem_nil, or_false] at hx
    rcases hx with rfl | rfl | hx | rfl
    · unfold isB; omega
    · unfold isB; omega
    · exact hr s rfl x hx
    · unfold isB; omega
theorem goodL_isB : ∀ (ps : List Pc) (rest : List Int), goodL ps rest → (∀ p ∈ ps, ∀ s, p = .rem s → ∀ x ∈ s, isB x) → ∀ x ∈ rdL ps, isB x
  | [], _, _, _, x, hx => by simp [rdL] at hx
  | p :: ps, rest, h, hr, x, hx => by
    rw [rdL_cons] at hx
    rcases List.mem_append.1 hx with hx | hx
    · exact text_isB h.1 (hr p (by simp)) x hx
    · exact goodL_isB ps rest h.2 (fun q hq => hr q (by simp [hq])) x hx
theorem bkL_rem {rm : List Int} : ∀ (l : List LTok) (i : Nat), (∀ t ∈ l, t.kind = 0 ∨ Told t) → ∀ p ∈ bkL rm l i, ∀ s, p = .rem s → s = rm
  | [], _, _, p, hp, _, _ => by simp [bkL] at hp
  | t :: l, i, h, p, hp, s, hs => by
    rcases List.mem_append.1 (show p ∈ bkP rm t i ++ bkL rm l (i + 1) from hp) with hp | hp
    · unfold bkP at hp
      rcases List.mem_append.1 hp with hp | hp
      · split at hp
        · cases hp
        · rename_i hk
          simp at hp
          subst hp
          exact absurd hs ((pcT_is ((h t (by simp)).resolve_left hk)).2.2.2 s)
      · rcases List.mem_cons.1 hp with rfl | hp
        · cases hs
        · split at hp
          · simp at hp; subst hp; cases hs; rfl
          · cases hp
    · exact bkL_rem l (i + 1) (fun t' ht => h t' (by simp [ht])) p hp s hs
end Go.Aw
namespace Go.Proofs.Ye.LexBack
open Go Go.Aw Go.Proofs Go.RowKit
theorem again_s (t : LTok) (ht : t.text.size ≤ 1000000000000) (k : ByteArray → Prop) (h : k (bytesOf (againL t))) : N17.f t.1 t.2.1 t.2.2.1 t.2.2.2.1 t.2.2.2.2 k := by
  rw [N17.f_def]
  unfold N17.f0 N17.c
  unfold againL at h
  by_cases h3 : t.kind = 3
  · rw [if_pos h3] at h
    have : (t.1 == 3) = true := beq_iff_eq.2 h3
    rw [this, br_true]
    exact putr_s_q t.2.1 ht k h
  · rw [if_neg h3, bytesOf_ofBytes] at h
    have : (t.1 == 3) = false := beq_false_of_ne h3
    rw [this, br_false]
    exact h
theorem getT {l : List LTok} {i : Nat} (h : i < l.length) : l.take (i + 1) = l.take i ++ [l.getD i (0, (ByteArray.empty, (0, (0, 0))))] := by
  rw [List.take_succ_eq_append_getElem h]
  simp [List.getD, List.getElem?_eq_getElem h]
theorem pure : Pure := by
  intro s hs r hrr
  have hR : (70000 : Nat) ≤ reachBytes := by decide
  rw [N6.f_def]
  unfold N6.f0 N6.c N6.j2000002' N6.j2000002 N6.j3' N6.j3
  dsimp only
  have W : N13.f (fun y => y = true) := lworks_s _ rfl
  refine br_of (fun h1 => ?_) (fun h1 => br_of (fun h2 => W) (fun h2 => ?_))
  · rw [br_true]; exact W
  have h1 := of_decide_eq_false h1
  have h2 := of_decide_eq_false h2
  unfold N6.l4'
  refine loopS_of (fun x : Int => ∃ i : Nat, x = i ∧ i ≤ r.size ∧ ∀ j, j < i → (ofBytes r).getD j 0 ≠ 10) (fun x => ((r.size : Int) - x).toNat) ?_ ⟨0, rfl, by omega, fun j hj => by omega⟩
  rintro again x ⟨i, rfl, hi, hno⟩ hag
  unfold N6.l4 N6.j8' N6.j8
  dsimp only
  refine br_of (fun hlt => ?_) (fun hge => ?_)
  · have hlt : i < r.size := by simpa using hlt
    refine ⟨⟨by omega, by omega, by omega⟩, ?_⟩
    rw [byteAt_eq]
    refine br_of (fun he => W) (fun hne => ?_)
    have hne : (ofBytes r).getD i 0 ≠ 10 := by simpa using hne
    rw [wrap_id (by omega) (by omega)]
    refine hag _ ⟨i + 1, by omega, by omega, fun j hj => ?_⟩ (by omega)
    rcases Nat.lt_or_ge j i with hh | hh
    · exact hno j hh
    · rw [show j = i by omega]; exact hne
  have hir : i = r.size := by
    have := of_decide_eq_false hge
    omega
  subst hir
  have hrm : ∀ x ∈ ofBytes r, x ≠ 10 := by
    intro x hx
    obtain ⟨j, hj, rfl⟩ := List.getElem_of_mem hx
    have := hno j (by rw [ofBytes_length] at hj; exact hj)
    simpa [List.getD, List.getElem?_eq_getElem hj] using this
  have hrb := ofBytes_isB r
  have hrs : r = bytesOf (ofBytes r) := (bytesOf_ofBytes r).symm
  have hrl : (ofBytes r).length = r.size := ofBytes_length r
  refine all_s s hs _ ?_
  rw [err_nil]
  by_cases hc : ¬ (lexAll (ofBytes s)).2.1 = 0
  · rw [show (!decide ((lexAll (ofBytes s)).2.1 = 0)) = true by simp [hc], br_true, lexAll_bad hc]
    show br true _ _
    exact W
  have hc : (lexAll (ofBytes s)).2.1 = 0 := Decidable.byContradiction hc
  rw [show (!decide ((lexAll (ofBytes s)).2.1 = 0)) = false by simp [hc], br_false]
  obtain ⟨ts, pE, hT, htold⟩ := lexAll_told (ofBytes_isB s) hc
  have hTl := lexAll_len (ofBytes s)
  rw [ofBytes_length] at hTl
  generalize (lexAll (ofBytes s)).1 = T at *
  have hTk : ∀ t ∈ T, (t.kind = 0 ∧ t.text = ByteArray.mk #[]) ∨ Go.Aw.Told t := by
    intro t ht
    rw [hT] at ht
    rcases List.mem_append.1 ht with ht | ht
    · exact .inr (htold t ht)
    · simp at ht; subst ht; exact .inl ⟨rfl, rfl⟩
  have hTk2 : ∀ t ∈ T, t.kind = 0 ∨ Go.Aw.Told t := fun t ht => (hTk t ht).imp And.left id
  have hTlen : T.length ≤ 1001 := by omega
  generalize hrl2 : ofBytes r = rm at *
  unfold N6.l13'
  refine loopS_of (fun p : ByteArray × Int => ∃ i : Nat, i ≤ T.length ∧ p = (bytesOf (rdL (bkL rm (T.take i) 0)), (i : Int)) ∧ (rdL (bkL rm (T.take i) 0)).length ≤ 400 * i) (fun p => ((T.length : Int) - p.2).toNat) ?_ ⟨0, by omega, rfl, by simp [bkL, rdL]⟩
  rintro again _ ⟨i, hi, rfl, hsz⟩ hag
  unfold N6.l13 N6.j14' N6.j14
  dsimp only
  refine br_of (fun hlt => ?_) (fun hge => ?_)
  · have hlt : i < T.length := by simpa using hlt
    refine ⟨⟨by omega, by omega, by omega⟩, ?_⟩
    rw [Int.toNat_natCast]
    have hmem : T.getD i (0, (ByteArray.empty, (0, (0, 0)))) ∈ T := by
      simp [List.getD, List.getElem?_eq_getElem hlt]
    have htk := hTk _ hmem
    have e5 := getT hlt
    generalize T.getD i (0, (ByteArray.empty, (0, (0, 0)))) = t at *
    have hP := rdP_eq (rm := rm) htk i
    have hal : (againL t).length ≤ 300 ∧ t.text.size ≤ 1000000000000 := by
      rcases htk with ⟨h0, h1⟩ | h
      · rw [againL_ne (by rw [h0]; decide), h1]; decide
      · obtain ⟨_, g1, g2⟩ := again_eq h
        have g3 := congrArg ByteArray.size g1
        rw [bytesOf_size, bytesOf_size] at g3
        refine ⟨by omega, ?_⟩
        unfold againL at g3
        split at g3
        · have : (qputL (ofBytes t.text)).length ≥ (ofBytes t.text).length := by
            have := flat_ge (ofBytes t.text)
            unfold qputL; simp only [List.length_cons, List.length_append]; omega
          rw [ofBytes_length] at this; omega
        · rw [ofBytes_length] at g3; omega
    refine again_s t hal.2 _ ?_
    have e1 : (ByteArray.mk #[32]).size = 1 := rfl
    have e2 : (ByteArray.mk #[47, 47]).size = 2 := rfl
    have e3 : (ByteArray.mk #[10]).size = 1 := rfl
    have hnext : bkL rm (T.take (i + 1)) 0 = bkL rm (T.take i) 0 ++ bkP rm t i := by
      rw [e5, bkL_append, List.length_take, Nat.min_eq_left (by omega), Nat.zero_add]
      show _ ++ (bkP rm t i ++ []) = _
      rw [List.append_nil]
    have hsz2 : (rdL (bkP rm t i)).length ≤ 400 := by
      have := congrArg ByteArray.size hP
      rw [bytesOf_size] at this
      rw [this]
      split
      · simp only [size_append, bytesOf_size, e1, e2, e3]; omega
      · simp only [size_append, bytesOf_size, e1]; omega
    have hmod : ((Int.tmod (i : Int) 3) == 1) = decide (i % 3 = 1) := by
      rw [Int.tmod_eq_emod_of_nonneg (by omega)]
      by_cases h : i % 3 = 1
      · rw [show decide (i % 3 = 1) = true by simpa using h, show (i : Int) % 3 = 1 by omega]; rfl
      · rw [show decide (i % 3 = 1) = false by simpa using h]
        exact beq_false_of_ne (by omega)
    have go : ∀ y : ByteArray, y = bytesOf (rdL (bkL rm (T.take i) 0)) ++ bytesOf (rdL (bkP rm t i)) → again (y, IntKind.i64.wrap ((i : Int) + 1)) := by
      intro y hy
      rw [wrap_id (by omega) (by omega)]
      refine hag _ ⟨i + 1, by omega, ?_, ?_⟩ (by dsimp only; omega)
      · rw [hy, ← bytesOf_append, ← rdL_append, ← hnext]; rfl
      · rw [hnext, rdL_append, List.length_append]; omega
    refine ⟨by simp only [bytesOf_size]; omega, by simp only [size_append, bytesOf_size, e1]; omega, by decide, ?_⟩
    rw [hmod]
    refine br_of (fun hm => ?_) (fun hm => ?_)
    · have hm : i % 3 = 1 := by simpa using hm
      refine ⟨by simp only [size_append, bytesOf_size, e1, e2]; omega, by simp only [size_append, bytesOf_size, e1, e2]; omega, by simp only [size_append, bytesOf_size, e1, e2, e3]; omega, go _ ?_⟩
      rw [hP, if_pos hm, hrs]
      simp only [ByteArray.append_assoc]
    · have hm : ¬ i % 3 = 1 := by simpa using hm
      refine go _ ?_
      rw [hP, if_neg hm]
      simp only [ByteArray.append_assoc]
  have hiT : i = T.length := by
    have := of_decide_eq_false hge
    omega
  subst hiT
  rw [List.take_length] at *
  unfold N6.j18' N6.j18
  dsimp only
  have hgood : goodL (bkL rm T 0) [] := bkL_good hrm T 0 [] hTk2
  have hBB : ∀ x ∈ rdL (bkL rm T 0), isB x := goodL_isB _ _ hgood fun p hp s' hs' => by
    rw [bkL_rem T 0 hTk2 p hp s' hs']
    exact hrb
  have hstr := bkL_strip rm T 0 0 hTk2
  generalize bkL rm T 0 = ps at *
  refine br_of (fun hbig => W) (fun hbig => ?_)
  have hbig : (rdL ps).length ≤ 65536 := by
    have := of_decide_eq_false hbig
    rw [bytesOf_size] at this; omega
  refine all_s _ (by rw [bytesOf_size]; omega) _ ?_
  rw [ofBytes_bytesOf hBB, lexAll_pcs ps hgood hbig]
  unfold N6.j2000022' N6.j2000022 N6.j23' N6.j23
  dsimp only
  generalize hM : tkL ps 0 ++ [(0, ByteArray.mk #[], 0, 0, ((rdL ps).length : Int))] = M at *
  have hMT : M.map strip = T.map strip := by
    rw [← hM, hT, List.map_append, hstr, hT]
    rw [List.filter_append, List.map_append, List.map_append]
    have : ts.filter (fun t : LTok => decide (t.kind ≠ 0)) = ts := by
      rw [List.filter_eq_self]
      intro t ht
      simpa using (again_eq (htold t ht)).1
    rw [this]
    have e9 : [((0, ByteArray.mk #[], 0, 0, pE) : LTok)].filter (fun t : LTok => decide (t.kind ≠ 0)) = [] := rfl
    rw [e9]
    simp [strip]
  have hlen : M.length = T.length := by have := congrArg List.length hMT; simpa using this
  have hnil : (newE 0 0).isNil = true := rfl
  rw [hnil]
  show br false _ _
  rw [br_false, show ((M.length : Int) != (T.length : Int)) = false by simp [hlen], br_false]
  unfold N6.l24'
  refine loopS_of (fun x : Int => ∃ i : Nat, x = i ∧ i ≤ T.length) (fun x => ((T.length : Int) - x).toNat) ?_ ⟨0, rfl, by omega⟩
  rintro again2 x ⟨i, rfl, hi⟩ hag2
  unfold N6.l24 N6.j30' N6.j30
  dsimp only
  refine br_of (fun hlt => ?_) (fun hge => W)
  have hlt : i < T.length := by simpa using hlt
  refine ⟨⟨by omega, by omega, by omega⟩, ⟨by omega, by omega, by omega⟩, ?_⟩
  rw [Int.toNat_natCast]
  have heq : strip (T.getD i (0, (ByteArray.empty, (0, (0, 0))))) = strip (M.getD i (0, (ByteArray.empty, (0, (0, 0))))) := by
    have := congrArg (fun l => l[i]?) hMT
    simp only [List.getElem?_map, List.getElem?_eq_getElem hlt, List.getElem?_eq_getElem (show i < M.length by omega), Option.map_some, Option.some.injEq] at this
    simp only [List.getD, List.getElem?_eq_getElem hlt, List.getElem?_eq_getElem (show i < M.length by omega), Option.getD_some]
    exact this.symm
  generalize T.getD i (0, (ByteArray.empty, (0, (0, 0)))) = a at *
  generalize M.getD i (0, (ByteArray.empty, (0, (0, 0)))) = b at *
  obtain ⟨a0, a1, a2, a3, a4⟩ := a
  obtain ⟨b0, b1, b2, b3, b4⟩ := b
  unfold strip at heq
  simp only [Prod.mk.injEq] at heq
  obtain ⟨rfl, rfl, rfl, rfl⟩ := heq
  dsimp only
  rw [beq_self_eq_true, beqS_self, beq_self_eq_true, beq_self_eq_true]
  show br false _ _
  rw [br_false, wrap_id (by omega) (by omega)]
  exact hag2 _ ⟨i + 1, by omega, by omega⟩ (by omega)
theorem proved : Go.Proofs.YtidclggijmbffaaDoor.Rows.LexBackCardSaid := holds pure
end Go.Proofs.Ye.LexBack

namespace Go.Proofs.YtidclggijmbffaaDoor
/-- The statement. -/
theorem lexBackCard_holds : Rows.LexBackCardSaid := Go.Proofs.Ye.LexBack.proved
#print axioms lexBackCard_holds
end Go.Proofs.YtidclggijmbffaaDoor
