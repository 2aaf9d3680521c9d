/- LinesMarks: the lines that mark a place. -/
import Derived.Test.YtbfggnlonemmiaaLiMa0
import Derived.Lib.IndexLaws
import Derived.Lib.DecodeN
import Derived.Test.YtbfggnlonemmiaaRows
import Derived.Test.YtbfggnlonemmiaaT1
import Derived.WalkKit
import Derived.ProofKit
import Derived.OpenShut
import Derived.ShutString
import Derived.ChangeOld
import Derived.Below
import Derived.SizedLaws
import Derived.Deep.CondSized
namespace Go.Proofs.Yu
open Go Go.Aw Go.Proofs
set_option linter.unusedVariables false
set_option linter.unusedSimpArgs false
set_option maxRecDepth 100000
/-! dyehouse/lines.Mark -/
namespace N57
noncomputable def cfg : Cfg := { P := Try.prog, ty := tys, E := tab [(52, N52.ent), (62, N62.ent), (75, N75.ent), (64, N64.ent), (54, N54.ent), (67, N67.ent)], atSeq := tab [(2000016, ⟨[(7, .keep), (8, .keep), (37, .keep), (38, .keep), (50, .keep)]⟩), (19, ⟨[(7, .keep)]⟩), (18, ⟨[(7, .keep), (8, .keep), (37, .keep), (38, .keep)]⟩), (17, ⟨[(7, .keep), (8, .keep), (37, .keep), (38, .keep)]⟩)], atLoop := tab [(13, ⟨[(7, .keep), (8, .keep), (37, .keep), (38, .keep)]⟩)], outs := [], eqT := tab [], bT := tab [(81, 5)] }
noncomputable def body : Code := bodyOf Try.f57
def l13 (j2000016 : ByteArray → Int → Int → Bool → ByteArray → Prop) (j19 : ByteArray → Prop) (x8 : ByteArray) (x37 : Int) (x38 : Int) (b0 : ByteArray) (k : ByteArray → Prop) : Prop :=
  (br (decide (x38 < x37)) (br (decide (x38 < ((((x8).size : Nat) : Int)))) ((inB 0 x38 ((((x8).size : Nat) : Int) - 1)) ∧ (j2000016 x8 x37 x38 ((byteAt x8 x38) == (9 : Int)) b0)) (j2000016 x8 x37 x38 false b0)) (j19 b0))
def j2000016 (j18 : ByteArray → Int → Int → ByteArray → Prop) (j17 : ByteArray → Int → Int → ByteArray → Prop) (x8 : ByteArray) (x37 : Int) (x38 : Int) (x50 : Bool) (b0 : ByteArray) (k : ByteArray → Prop) : Prop :=
  (br x50 (wb (9 : Int) b0 (fun (z_10 : ByteArray) => (j18 x8 x37 x38 z_10))) (j17 x8 x37 x38 b0))
def j19 (b0 : ByteArray) (k : ByteArray → Prop) : Prop :=
  (wb (94 : Int) b0 (fun (z_11 : ByteArray) => (wb (10 : Int) z_11 (fun (z_12 : ByteArray) => (bs z_12 (fun (y_13 : ByteArray) => (k y_13)))))))
def j18 (ag13 : Int → ByteArray → Prop) (x8 : ByteArray) (x37 : Int) (x38 : Int) (b0 : ByteArray) (k : ByteArray → Prop) : Prop :=
  (ag13 (IntKind.i64.wrap (x38 + (1 : Int))) b0)
def j17 (j18 : ByteArray → Int → Int → ByteArray → Prop) (x8 : ByteArray) (x37 : Int) (x38 : Int) (b0 : ByteArray) (k : ByteArray → Prop) : Prop :=
  (wb (32 : Int) b0 (fun (z_14 : ByteArray) => (j18 x8 x37 x38 z_14)))
def c (l13 : ByteArray → Int → Int → ByteArray → Prop) (x0 : ByteArray) (x1 : Int) (k : ByteArray → Prop) : Prop :=
  (N52.f x0 x1 (fun (y0_0 : Int) (y1_0 : Int) => (br (y0_0 == (0 : Int)) (k (ByteArray.mk #[])) (N62.f y0_0 (fun (y0_1 : ByteArray) => (ws y0_1 ByteArray.empty (fun (y_2 : Int) (z_2 : ByteArray) => (wb (58 : Int) z_2 (fun (z_3 : ByteArray) => (N62.f y1_0 (fun (y0_4 : ByteArray) => (ws y0_4 z_3 (fun (y_5 : Int) (z_5 : ByteArray) => (wb (10 : Int) z_5 (fun (z_6 : ByteArray) => (N54.f x0 y0_0 (fun (y0_7 : ByteArray) (y1_7 : Bool) => (ws y0_7 z_6 (fun (y_8 : Int) (z_8 : ByteArray) => (wb (10 : Int) z_8 (fun (z_9 : ByteArray) => (l13 y0_7 (IntKind.i64.wrap (y1_0 - (1 : Int))) (0 : Int) z_9))))))))))))))))))))))
def j19' (b0 : ByteArray) (k : ByteArray → Prop) : Prop := j19 b0 k
def j18' (ag13 : Int → ByteArray → Prop) (x8 : ByteArray) (x37 : Int) (x38 : Int) (b0 : ByteArray) (k : ByteArray → Prop) : Prop := j18 ag13 x8 x37 x38 b0 k
def j17' (ag13 : Int → ByteArray → Prop) (x8 : ByteArray) (x37 : Int) (x38 : Int) (b0 : ByteArray) (k : ByteArray → Prop) : Prop := j17 (fun x8 x37 x38 b0 => j18' ag13 x8 x37 x38 b0 k) x8 x37 x38 b0 k
def j2000016' (ag13 : Int → ByteArray → Prop) (x8 : ByteArray) (x37 : Int) (x38 : Int) (x50 : Bool) (b0 : ByteArray) (k : ByteArray → Prop) : Prop := j2000016 (fun x8 x37 x38 b0 => j18' ag13 x8 x37 x38 b0 k) (fun x8 x37 x38 b0 => j17' ag13 x8 x37 x38 b0 k) x8 x37 x38 x50 b0 k
def l13' (x8 : ByteArray) (x37 : Int) (x38 : Int) (b0 : ByteArray) (k : ByteArray → Prop) : Prop := ∃ n, loopS (fun (ag : (Int × ByteArray) → Prop) (s : Int × ByteArray) => l13 (fun x8 x37 x38 x50 b0 => j2000016' (fun x38 b0 => ag (x38, b0)) x8 x37 x38 x50 b0 k) (fun b0 => j19' b0 k) x8 x37 s.1 s.2 k) n (x38, b0)
def f0 (x0 : ByteArray) (x1 : Int) (k : ByteArray → Prop) : Prop := c (fun x8 x37 x38 b0 => l13' x8 x37 x38 b0 k) x0 x1 k
theorem f_ex : ∃ g : ByteArray → Int → (ByteArray → Prop) → Prop, g = f0 := ⟨_, rfl⟩
noncomputable def f : ByteArray → Int → (ByteArray → Prop) → Prop := Classical.choose f_ex
theorem f_def : f = f0 := Classical.choose_spec f_ex
def mL13 (x8 : ByteArray) (x37 : Int) (x38 : Int) (b0 : ByteArray) : St := { tmps := mkT 57 0 [(7, (.ptr 0 0)), (8, (.v (.string x8))), (37, (.v (.int IntKind.i64 x37))), (38, (.v (.int IntKind.i64 x38)))], hp := [(.bld 81 5 b0)], m := 0 }
def m2000016 (x8 : ByteArray) (x37 : Int) (x38 : Int) (x50 : Bool) (b0 : ByteArray) : St := { tmps := mkT 57 0 [(7, (.ptr 0 0)), (8, (.v (.string x8))), (37, (.v (.int IntKind.i64 x37))), (38, (.v (.int IntKind.i64 x38))), (50, (.v (.bool x50)))], hp := [(.bld 81 5 b0)], m := 0 }
def m19 (b0 : ByteArray) : St := { tmps := mkT 57 0 [(7, (.ptr 0 0))], hp := [(.bld 81 5 b0)], m := 0 }
def m18 (x8 : ByteArray) (x37 : Int) (x38 : Int) (b0 : ByteArray) : St := { tmps := mkT 57 0 [(7, (.ptr 0 0)), (8, (.v (.string x8))), (37, (.v (.int IntKind.i64 x37))), (38, (.v (.int IntKind.i64 x38)))], hp := [(.bld 81 5 b0)], m := 0 }
def m17 (x8 : ByteArray) (x37 : Int) (x38 : Int) (b0 : ByteArray) : St := { tmps := mkT 57 0 [(7, (.ptr 0 0)), (8, (.v (.string x8))), (37, (.v (.int IntKind.i64 x37))), (38, (.v (.int IntKind.i64 x38)))], hp := [(.bld 81 5 b0)], m := 0 }
noncomputable def YL13 (k kp : D → List Blk → Prop) : (St → Prop) → St → Prop := loopB cfg (sub [1, 1, 1, 1, 1, 1, 1, 1, 1, 1, 1, 0, 1, 0, 0] body) (contK cfg (pick none' []) [1, 1, 1, 1, 1, 1, 1, 1, 1, 1, 1, 0, 1, 0] body (topK cfg Try.f57 k kp))
noncomputable def XL13 (k kp : D → List Blk → Prop) : St → Prop := fun st => ∃ n, loopN (YL13 k kp) n st
noncomputable def X2000016 (k kp : D → List Blk → Prop) (ag13 : St → Prop) : St → Prop := atP cfg (pick none' [(13, ag13)]) [1, 1, 1, 1, 1, 1, 1, 1, 1, 1, 1, 0, 1, 0, 0, 1, 1, 0, 0, 1, 0, 1] body (topK cfg Try.f57 k kp)
noncomputable def X19 (k kp : D → List Blk → Prop) : St → Prop := atP cfg (pick none' []) [1, 1, 1, 1, 1, 1, 1, 1, 1, 1, 1, 1] body (topK cfg Try.f57 k kp)
noncomputable def X18 (k kp : D → List Blk → Prop) (ag13 : St → Prop) : St → Prop := atP cfg (pick none' [(13, ag13)]) [1, 1, 1, 1, 1, 1, 1, 1, 1, 1, 1, 0, 1, 0, 0, 1, 1, 1] body (topK cfg Try.f57 k kp)
noncomputable def X17 (k kp : D → List Blk → Prop) (ag13 : St → Prop) : St → Prop := atP cfg (pick none' [(13, ag13)]) [1, 1, 1, 1, 1, 1, 1, 1, 1, 1, 1, 0, 1, 0, 0, 1, 1, 0, 0, 1, 1] body (topK cfg Try.f57 k kp)
noncomputable def JJ_13 (k kp : D → List Blk → Prop) (ag13 : St → Prop) : Nat → St → Prop := pick none' [(2000016, X2000016 k kp ag13), (19, X19 k kp), (18, X18 k kp ag13), (17, X17 k kp ag13)]
noncomputable def LL_13 (k kp : D → List Blk → Prop) (ag13 : St → Prop) : Nat → St → Prop := pick none' [(13, XL13 k kp)]
noncomputable def JJ (k kp : D → List Blk → Prop) : Nat → St → Prop := pick none' [(19, X19 k kp)]
noncomputable def LL (k kp : D → List Blk → Prop) : Nat → St → Prop := pick none' [(13, XL13 k kp)]
theorem j19_c (k kp : D → List Blk → Prop) (J L : Nat → St → Prop) (b0 : ByteArray) : runC cfg 19 J L (pick none' []) [1, 1, 1, 1, 1, 1, 1, 1, 1, 1, 1, 1] body (topK cfg Try.f57 k kp) (m19 b0) = j19 b0 (fun y0 => k (.v (.string y0)) []) := by kernel_rfl
theorem j19_ag (k kp : D → List Blk → Prop) : agPL cfg 19 (JJ k kp) (LL k kp) [1, 1, 1, 1, 1, 1, 1, 1, 1, 1, 1, 1] body = agPR cfg 19 (pick none' []) [1, 1, 1, 1, 1, 1, 1, 1, 1, 1, 1, 1] body (topK cfg Try.f57 k kp) := by kernel_rfl
theorem j19_raw (k kp : D → List Blk → Prop) (b0 : ByteArray) : X19 k kp (m19 b0) = j19 b0 (fun y0 => k (.v (.string y0)) []) :=
  Eq.mp (by kernel_rfl) ((atP_run (j19_ag k kp) (m19 b0)).trans (j19_c k kp (JJ k kp) (LL k kp) b0))
theorem j19_eq (k kp : D → List Blk → Prop) (b0 : ByteArray) : X19 k kp (m19 b0) = j19' b0 (fun y0 => k (.v (.string y0)) []) := by
  rw [j19_raw]; rfl
theorem j18_c (k kp : D → List Blk → Prop) (J L : Nat → St → Prop) (ag13 : St → Prop) (x8 : ByteArray) (x37 : Int) (x38 : Int) (b0 : ByteArray) : runC cfg 18 J L (pick none' [(13, ag13)]) [1, 1, 1, 1, 1, 1, 1, 1, 1, 1, 1, 0, 1, 0, 0, 1, 1, 1] body (topK cfg Try.f57 k kp) (m18 x8 x37 x38 b0) = j18 (fun x38 b0 => ag13 (mL13 x8 x37 x38 b0)) x8 x37 x38 b0 (fun y0 => k (.v (.string y0)) []) := by kernel_rfl
theorem j18_ag (k kp : D → List Blk → Prop) (ag13 : St → Prop) : agPL cfg 18 (JJ_13 k kp ag13) (LL_13 k kp ag13) [1, 1, 1, 1, 1, 1, 1, 1, 1, 1, 1, 0, 1, 0, 0, 1, 1, 1] body = agPR cfg 18 (pick none' [(13, ag13)]) [1, 1, 1, 1, 1, 1, 1, 1, 1, 1, 1, 0, 1, 0, 0, 1, 1, 1] body (topK cfg Try.f57 k kp) := by kernel_rfl
theorem j18_raw (k kp : D → List Blk → Prop) (ag13 : St → Prop) (x8 : ByteArray) (x37 : Int) (x38 : Int) (b0 : ByteArray) : X18 k kp ag13 (m18 x8 x37 x38 b0) = j18 (fun x38 b0 => ag13 (mL13 x8 x37 x38 b0)) x8 x37 x38 b0 (fun y0 => k (.v (.string y0)) []) :=
  Eq.mp (by kernel_rfl) ((atP_run (j18_ag k kp ag13) (m18 x8 x37 x38 b0)).trans (j18_c k kp (JJ_13 k kp ag13) (LL_13 k kp ag13) ag13 x8 x37 x38 b0))
theorem j18_eq (k kp : D → List Blk → Prop) (ag13 : St → Prop) (x8 : ByteArray) (x37 : Int) (x38 : Int) (b0 : ByteArray) : X18 k kp ag13 (m18 x8 x37 x38 b0) = j18' (fun x38 b0 => ag13 (mL13 x8 x37 x38 b0)) x8 x37 x38 b0 (fun y0 => k (.v (.string y0)) []) := by
  rw [j18_raw]; rfl
theorem j17_c (k kp : D → List Blk → Prop) (J L : Nat → St → Prop) (ag13 : St → Prop) (x8 : ByteArray) (x37 : Int) (x38 : Int) (b0 : ByteArray) : runC cfg 17 J L (pick none' [(13, ag13)]) [1, 1, 1, 1, 1, 1, 1, 1, 1, 1, 1, 0, 1, 0, 0, 1, 1, 0, 0, 1, 1] body (topK cfg Try.f57 k kp) (m17 x8 x37 x38 b0) = j17 (fun x8 x37 x38 b0 => J 18 (m18 x8 x37 x38 b0)) x8 x37 x38 b0 (fun y0 => k (.v (.string y0)) []) := by kernel_rfl
theorem j17_ag (k kp : D → List Blk → Prop) (ag13 : St → Prop) : agPL cfg 17 (JJ_13 k kp ag13) (LL_13 k kp ag13) [1, 1, 1, 1, 1, 1, 1, 1, 1, 1, 1, 0, 1, 0, 0, 1, 1, 0, 0, 1, 1] body = agPR cfg 17 (pick none' [(13, ag13)]) [1, 1, 1, 1, 1, 1, 1, 1, 1, 1, 1, 0, 1, 0, 0, 1, 1, 0, 0, 1, 1] body (topK cfg Try.f57 k kp) := by kernel_rfl
theorem j17_raw (k kp : D → List Blk → Prop) (ag13 : St → Prop) (x8 : ByteArray) (x37 : Int) (x38 : Int) (b0 : ByteArray) : X17 k kp ag13 (m17 x8 x37 x38 b0) = j17 (fun x8 x37 x38 b0 => X18 k kp ag13 (m18 x8 x37 x38 b0)) x8 x37 x38 b0 (fun y0 => k (.v (.string y0)) []) :=
  Eq.mp (by kernel_rfl) ((atP_run (j17_ag k kp ag13) (m17 x8 x37 x38 b0)).trans (j17_c k kp (JJ_13 k kp ag13) (LL_13 k kp ag13) ag13 x8 x37 x38 b0))
theorem j17_eq (k kp : D → List Blk → Prop) (ag13 : St → Prop) (x8 : ByteArray) (x37 : Int) (x38 : Int) (b0 : ByteArray) : X17 k kp ag13 (m17 x8 x37 x38 b0) = j17' (fun x38 b0 => ag13 (mL13 x8 x37 x38 b0)) x8 x37 x38 b0 (fun y0 => k (.v (.string y0)) []) := by
  rw [j17_raw]; simp only [j18_eq]; first | done | rfl
theorem j2000016_c (k kp : D → List Blk → Prop) (J L : Nat → St → Prop) (ag13 : St → Prop) (x8 : ByteArray) (x37 : Int) (x38 : Int) (x50 : Bool) (b0 : ByteArray) : runC cfg 2000016 J L (pick none' [(13, ag13)]) [1, 1, 1, 1, 1, 1, 1, 1, 1, 1, 1, 0, 1, 0, 0, 1, 1, 0, 0, 1, 0, 1] body (topK cfg Try.f57 k kp) (m2000016 x8 x37 x38 x50 b0) = j2000016 (fun x8 x37 x38 b0 => J 18 (m18 x8 x37 x38 b0)) (fun x8 x37 x38 b0 => J 17 (m17 x8 x37 x38 b0)) x8 x37 x38 x50 b0 (fun y0 => k (.v (.string y0)) []) := by kernel_rfl
theorem j2000016_ag (k kp : D → List Blk → Prop) (ag13 : St → Prop) : agPL cfg 2000016 (JJ_13 k kp ag13) (LL_13 k kp ag13) [1, 1, 1, 1, 1, 1, 1, 1, 1, 1, 1, 0, 1, 0, 0, 1, 1, 0, 0, 1, 0, 1] body = agPR cfg 2000016 (pick none' [(13, ag13)]) [1, 1, 1, 1, 1, 1, 1, 1, 1, 1, 1, 0, 1, 0, 0, 1, 1, 0, 0, 1, 0, 1] body (topK cfg Try.f57 k kp) := by kernel_rfl
theorem j2000016_raw (k kp : D → List Blk → Prop) (ag13 : St → Prop) (x8 : ByteArray) (x37 : Int) (x38 : Int) (x50 : Bool) (b0 : ByteArray) : X2000016 k kp ag13 (m2000016 x8 x37 x38 x50 b0) = j2000016 (fun x8 x37 x38 b0 => X18 k kp ag13 (m18 x8 x37 x38 b0)) (fun x8 x37 x38 b0 => X17 k kp ag13 (m17 x8 x37 x38 b0)) x8 x37 x38 x50 b0 (fun y0 => k (.v (.string y0)) []) :=
  Eq.mp (by kernel_rfl) ((atP_run (j2000016_ag k kp ag13) (m2000016 x8 x37 x38 x50 b0)).trans (j2000016_c k kp (JJ_13 k kp ag13) (LL_13 k kp ag13) ag13 x8 x37 x38 x50 b0))
theorem j2000016_eq (k kp : D → List Blk → Prop) (ag13 : St → Prop) (x8 : ByteArray) (x37 : Int) (x38 : Int) (x50 : Bool) (b0 : ByteArray) : X2000016 k kp ag13 (m2000016 x8 x37 x38 x50 b0) = j2000016' (fun x38 b0 => ag13 (mL13 x8 x37 x38 b0)) x8 x37 x38 x50 b0 (fun y0 => k (.v (.string y0)) []) := by
  rw [j2000016_raw]; simp only [j18_eq, j17_eq]; first | done | rfl
theorem l13_c (k kp : D → List Blk → Prop) (J L : Nat → St → Prop) (ag13 : St → Prop) (x8 : ByteArray) (x37 : Int) (x38 : Int) (b0 : ByteArray) : runC cfg 1000001 J L (pick none' [(13, ag13)]) [1, 1, 1, 1, 1, 1, 1, 1, 1, 1, 1, 0, 1, 0, 0] body (topK cfg Try.f57 k kp) (mL13 x8 x37 x38 b0) = l13 (fun x8 x37 x38 x50 b0 => J 2000016 (m2000016 x8 x37 x38 x50 b0)) (fun b0 => J 19 (m19 b0)) x8 x37 x38 b0 (fun y0 => k (.v (.string y0)) []) := by kernel_rfl
theorem l13_ag (k kp : D → List Blk → Prop) (ag13 : St → Prop) : agPL cfg 1000001 (JJ_13 k kp ag13) (LL_13 k kp ag13) [1, 1, 1, 1, 1, 1, 1, 1, 1, 1, 1, 0, 1, 0, 0] body = agPR cfg 1000001 (pick none' [(13, ag13)]) [1, 1, 1, 1, 1, 1, 1, 1, 1, 1, 1, 0, 1, 0, 0] body (topK cfg Try.f57 k kp) := by kernel_rfl
theorem l13_raw (k kp : D → List Blk → Prop) (ag13 : St → Prop) (x8 : ByteArray) (x37 : Int) (x38 : Int) (b0 : ByteArray) : YL13 k kp ag13 (mL13 x8 x37 x38 b0) = l13 (fun x8 x37 x38 x50 b0 => X2000016 k kp ag13 (m2000016 x8 x37 x38 x50 b0)) (fun b0 => X19 k kp (m19 b0)) x8 x37 x38 b0 (fun y0 => k (.v (.string y0)) []) :=
  Eq.mp (by kernel_rfl) ((atP_run (l13_ag k kp ag13) (mL13 x8 x37 x38 b0)).trans (l13_c k kp (JJ_13 k kp ag13) (LL_13 k kp ag13) ag13 x8 x37 x38 b0))
theorem l13_eq (k kp : D → List Blk → Prop) (x8 : ByteArray) (x37 : Int) (x38 : Int) (b0 : ByteArray) : XL13 k kp (mL13 x8 x37 x38 b0) = l13' x8 x37 x38 b0 (fun y0 => k (.v (.string y0)) []) :=
  loop_eq (mk := fun (s : Int × ByteArray) => mL13 x8 x37 s.1 s.2) (fun again s => by rw [l13_raw k kp again x8 x37 s.1 s.2]; simp only [j2000016_eq, j19_eq]; first | done | rfl) (x38, b0)
theorem c_c (k kp : D → List Blk → Prop) (J L : Nat → St → Prop) (x0 : ByteArray) (x1 : Int) : runC cfg 1000001 J L none'' [] body (topK cfg Try.f57 k kp) (st0 Try.f57 [(.v (.string x0)), (.v (.int IntKind.i64 x1))] []) = c (fun x8 x37 x38 b0 => L 13 (mL13 x8 x37 x38 b0)) x0 x1 (fun y0 => k (.v (.string y0)) []) := by kernel_rfl
theorem c_ag (k kp : D → List Blk → Prop) : agPL cfg 1000001 (JJ k kp) (LL k kp) [] body = agPR cfg 1000001 none'' [] body (topK cfg Try.f57 k kp) := by kernel_rfl
theorem body_is : Try.f57.body = some body := by kernel_rfl
theorem c_raw (k kp : D → List Blk → Prop) (x0 : ByteArray) (x1 : Int) : funW cfg Try.f57 [(.v (.string x0)), (.v (.int IntKind.i64 x1))] [] k kp = c (fun x8 x37 x38 b0 => XL13 k kp (mL13 x8 x37 x38 b0)) x0 x1 (fun y0 => k (.v (.string y0)) []) :=
  Eq.mp (by kernel_rfl) ((funW_run (AG := none'') body_is (c_ag k kp) [(.v (.string x0)), (.v (.int IntKind.i64 x1))] []).trans (c_c k kp (JJ k kp) (LL k kp) x0 x1))
theorem f_eq (k kp : D → List Blk → Prop) (x0 : ByteArray) (x1 : Int) : funW cfg Try.f57 [(.v (.string x0)), (.v (.int IntKind.i64 x1))] [] k kp = f x0 x1 (fun y0 => k (.v (.string y0)) []) := by
  rw [f_def, c_raw]; simp only [l13_eq]; first | done | rfl
noncomputable def ent0 : Entry := fun args blks k _ => match args, blks with
  | [d0, d1], [] => aStr d0 fun x0 => aInt IntKind.i64 d1 fun x1 => f x0 x1 (fun y0 => k (.v (.string y0)) [])
  | _, _ => False
noncomputable def ent : Entry := fun args blks k kp => ent0 (convB [.no, .no] args) blks k kp
theorem ok : EntOk Try.prog 0 0 57 ent := by
  refine EntOk.convB (EntOk.of (funW_ok (cfg := cfg) (tyOk_of rfl rfl tyL_ok) (eqOk_of (P := Try.prog) rfl rfl (by kernel_rfl)) mixed_ok (tab_ok ?_) Try.func57 (by rfl) (by rfl)) ?_) _
  · intro p hp
    simp only [List.mem_cons, List.not_mem_nil, or_false] at hp
    rcases hp with rfl | rfl | rfl | rfl | rfl | rfl
    · exact N52.ok
    · exact N62.ok
    · exact N75.ok
    · exact N64.ok
    · exact N54.ok
    · exact N67.ok
  · intro args blks k kp h k' kp'
    match args, blks, h with
    | [d0, d1], [], h =>
    dsimp only [ent0] at h
    have h9 := aStr_elim h; clear h; obtain ⟨x0, rfl, h⟩ := h9
    have h9 := aInt_elim h; clear h; obtain ⟨x1, rfl, h⟩ := h9
    exact (f_eq k' kp' x0 x1).symm
end N57
end Go.Proofs.Yu
namespace Go.Proofs.Yu
open Go Go.Aw Go.Proofs
set_option linter.unusedVariables false
set_option linter.unusedSimpArgs false
set_option maxRecDepth 100000
/-! dyehouse/lines.At -/
namespace N59
noncomputable def cfg : Cfg := { P := Try.prog, ty := tys, E := tab [(54, N54.ent), (55, N55.ent)], atSeq := tab [(2000003, ⟨[(0, .keep), (1, .keep), (2, .keep), (28, .keep)]⟩), (4, ⟨[(0, .keep), (1, .keep), (2, .keep)]⟩)], atLoop := tab [], outs := [], eqT := tab [], bT := tab [] }
noncomputable def body : Code := bodyOf Try.f59
def j2000003 (j4 : ByteArray → Int → Int → Prop) (x0 : ByteArray) (x1 : Int) (x2 : Int) (x28 : Bool) (k : Int → Bool → Prop) : Prop :=
  (br x28 (k (0 : Int) false) (j4 x0 x1 x2))
def j4 (x0 : ByteArray) (x1 : Int) (x2 : Int) (k : Int → Bool → Prop) : Prop :=
  (N55.f x0 (fun (z0_1 : (List Int)) => ((inB 0 (IntKind.i64.wrap (x1 - (1 : Int))) ((((z0_1).length : Nat) : Int) - 1)) ∧ (k (IntKind.i64.wrap ((IntKind.i64.wrap ((z0_1.getD (Int.toNat (IntKind.i64.wrap (x1 - (1 : Int)))) (0)) + x2)) - (1 : Int))) true))))
def c (j2000003 : ByteArray → Int → Int → Bool → Prop) (x0 : ByteArray) (x1 : Int) (x2 : Int) (k : Int → Bool → Prop) : Prop :=
  (N54.f x0 x1 (fun (y0_0 : ByteArray) (y1_0 : Bool) => (br (!y1_0) (j2000003 x0 x1 x2 true) (br (decide (x2 < (1 : Int))) (j2000003 x0 x1 x2 true) (j2000003 x0 x1 x2 (decide (x2 > (IntKind.i64.wrap (((((y0_0).size : Nat) : Int)) + (1 : Int))))))))))
def j4' (x0 : ByteArray) (x1 : Int) (x2 : Int) (k : Int → Bool → Prop) : Prop := j4 x0 x1 x2 k
def j2000003' (x0 : ByteArray) (x1 : Int) (x2 : Int) (x28 : Bool) (k : Int → Bool → Prop) : Prop := j2000003 (fun x0 x1 x2 => j4' x0 x1 x2 k) x0 x1 x2 x28 k
def f0 (x0 : ByteArray) (x1 : Int) (x2 : Int) (k : Int → Bool → Prop) : Prop := c (fun x0 x1 x2 x28 => j2000003' x0 x1 x2 x28 k) x0 x1 x2 k
theorem f_ex : ∃ g : ByteArray → Int → Int → (Int → Bool → Prop) → Prop, g = f0 := ⟨_, rfl⟩
noncomputable def f : ByteArray → Int → Int → (Int → Bool → Prop) → Prop := Classical.choose f_ex
theorem f_def : f = f0 := Classical.choose_spec f_ex
def m2000003 (x0 : ByteArray) (x1 : Int) (x2 : Int) (x28 : Bool) : St := { tmps := mkT 38 0 [(0, (.v (.string x0))), (1, (.v (.int IntKind.i64 x1))), (2, (.v (.int IntKind.i64 x2))), (28, (.v (.bool x28)))], hp := [], m := 0 }
def m4 (x0 : ByteArray) (x1 : Int) (x2 : Int) : St := { tmps := mkT 38 0 [(0, (.v (.string x0))), (1, (.v (.int IntKind.i64 x1))), (2, (.v (.int IntKind.i64 x2)))], hp := [], m := 0 }
noncomputable def X2000003 (k kp : D → List Blk → Prop) : St → Prop := atP cfg (pick none' []) [1, 1, 0, 1] body (topK cfg Try.f59 k kp)
noncomputable def X4 (k kp : D → List Blk → Prop) : St → Prop := atP cfg (pick none' []) [1, 1, 1] body (topK cfg Try.f59 k kp)
noncomputable def JJ (k kp : D → List Blk → Prop) : Nat → St → Prop := pick none' [(2000003, X2000003 k kp), (4, X4 k kp)]
noncomputable def LL (k kp : D → List Blk → Prop) : Nat → St → Prop := pick none' []
theorem j4_c (k kp : D → List Blk → Prop) (J L : Nat → St → Prop) (x0 : ByteArray) (x1 : Int) (x2 : Int) : runC cfg 4 J L (pick none' []) [1, 1, 1] body (topK cfg Try.f59 k kp) (m4 x0 x1 x2) = j4 x0 x1 x2 (fun y0 y1 => k (.tup [(.v (.int IntKind.i64 y0)), (.v (.bool y1))]) []) := by kernel_rfl
theorem j4_ag (k kp : D → List Blk → Prop) : agPL cfg 4 (JJ k kp) (LL k kp) [1, 1, 1] body = agPR cfg 4 (pick none' []) [1, 1, 1] body (topK cfg Try.f59 k kp) := by kernel_rfl
theorem j4_raw (k kp : D → List Blk → Prop) (x0 : ByteArray) (x1 : Int) (x2 : Int) : X4 k kp (m4 x0 x1 x2) = j4 x0 x1 x2 (fun y0 y1 => k (.tup [(.v (.int IntKind.i64 y0)), (.v (.bool y1))]) []) :=
  Eq.mp (by kernel_rfl) ((atP_run (j4_ag k kp) (m4 x0 x1 x2)).trans (j4_c k kp (JJ k kp) (LL k kp) x0 x1 x2))
theorem j4_eq (k kp : D → List Blk → Prop) (x0 : ByteArray) (x1 : Int) (x2 : Int) : X4 k kp (m4 x0 x1 x2) = j4' x0 x1 x2 (fun y0 y1 => k (.tup [(.v (.int IntKind.i64 y0)), (.v (.bool y1))]) []) := by
  rw [j4_raw]; rfl
theorem j2000003_c (k kp : D → List Blk → Prop) (J L : Nat → St → Prop) (x0 : ByteArray) (x1 : Int) (x2 : Int) (x28 : Bool) : runC cfg 2000003 J L (pick none' []) [1, 1, 0, 1] body (topK cfg Try.f59 k kp) (m2000003 x0 x1 x2 x28) = j2000003 (fun x0 x1 x2 => J 4 (m4 x0 x1 x2)) x0 x1 x2 x28 (fun y0 y1 => k (.tup [(.v (.int IntKind.i64 y0)), (.v (.bool y1))]) []) := by kernel_rfl
theorem j2000003_ag (k kp : D → List Blk → Prop) : agPL cfg 2000003 (JJ k kp) (LL k kp) [1, 1, 0, 1] body = agPR cfg 2000003 (pick none' []) [1, 1, 0, 1] body (topK cfg Try.f59 k kp) := by kernel_rfl
theorem j2000003_raw (k kp : D → List Blk → Prop) (x0 : ByteArray) (x1 : Int) (x2 : Int) (x28 : Bool) : X2000003 k kp (m2000003 x0 x1 x2 x28) = j2000003 (fun x0 x1 x2 => X4 k kp (m4 x0 x1 x2)) x0 x1 x2 x28 (fun y0 y1 => k (.tup [(.v (.int IntKind.i64 y0)), (.v (.bool y1))]) []) :=
  Eq.mp (by kernel_rfl) ((atP_run (j2000003_ag k kp) (m2000003 x0 x1 x2 x28)).trans (j2000003_c k kp (JJ k kp) (LL k kp) x0 x1 x2 x28))
theorem j2000003_eq (k kp : D → List Blk → Prop) (x0 : ByteArray) (x1 : Int) (x2 : Int) (x28 : Bool) : X2000003 k kp (m2000003 x0 x1 x2 x28) = j2000003' x0 x1 x2 x28 (fun y0 y1 => k (.tup [(.v (.int IntKind.i64 y0)), (.v (.bool y1))]) []) := by
  rw [j2000003_raw]; simp only [j4_eq]; first | done | rfl
theorem c_c (k kp : D → List Blk → Prop) (J L : Nat → St → Prop) (x0 : ByteArray) (x1 : Int) (x2 : Int) : runC cfg 1000001 J L none'' [] body (topK cfg Try.f59 k kp) (st0 Try.f59 [(.v (.string x0)), (.v (.int IntKind.i64 x1)), (.v (.int IntKind.i64 x2))] []) = c (fun x0 x1 x2 x28 => J 2000003 (m2000003 x0 x1 x2 x28)) x0 x1 x2 (fun y0 y1 => k (.tup [(.v (.int IntKind.i64 y0)), (.v (.bool y1))]) []) := by kernel_rfl
theorem c_ag (k kp : D → List Blk → Prop) : agPL cfg 1000001 (JJ k kp) (LL k kp) [] body = agPR cfg 1000001 none'' [] body (topK cfg Try.f59 k kp) := by kernel_rfl
theorem body_is : Try.f59.body = some body := by kernel_rfl
theorem c_raw (k kp : D → List Blk → Prop) (x0 : ByteArray) (x1 : Int) (x2 : Int) : funW cfg Try.f59 [(.v (.string x0)), (.v (.int IntKind.i64 x1)), (.v (.int IntKind.i64 x2))] [] k kp = c (fun x0 x1 x2 x28 => X2000003 k kp (m2000003 x0 x1 x2 x28)) x0 x1 x2 (fun y0 y1 => k (.tup [(.v (.int IntKind.i64 y0)), (.v (.bool y1))]) []) :=
  Eq.mp (by kernel_rfl) ((funW_run (AG := none'') body_is (c_ag k kp) [(.v (.string x0)), (.v (.int IntKind.i64 x1)), (.v (.int IntKind.i64 x2))] []).trans (c_c k kp (JJ k kp) (LL k kp) x0 x1 x2))
theorem f_eq (k kp : D → List Blk → Prop) (x0 : ByteArray) (x1 : Int) (x2 : Int) : funW cfg Try.f59 [(.v (.string x0)), (.v (.int IntKind.i64 x1)), (.v (.int IntKind.i64 x2))] [] k kp = f x0 x1 x2 (fun y0 y1 => k (.tup [(.v (.int IntKind.i64 y0)), (.v (.bool y1))]) []) := by
  rw [f_def, c_raw]; simp only [j2000003_eq]; first | done | rfl
noncomputable def ent0 : Entry := fun args blks k _ => match args, blks with
  | [d0, d1, d2], [] => aStr d0 fun x0 => aInt IntKind.i64 d1 fun x1 => aInt IntKind.i64 d2 fun x2 => f x0 x1 x2 (fun y0 y1 => k (.tup [(.v (.int IntKind.i64 y0)), (.v (.bool y1))]) [])
  | _, _ => False
noncomputable def ent : Entry := fun args blks k kp => ent0 (convB [.no, .no, .no] args) blks k kp
theorem ok : EntOk Try.prog 0 0 59 ent := by
  refine EntOk.convB (EntOk.of (funW_ok (cfg := cfg) (tyOk_of rfl rfl tyL_ok) (eqOk_of (P := Try.prog) rfl rfl (by kernel_rfl)) mixed_ok (tab_ok ?_) Try.func59 (by rfl) (by rfl)) ?_) _
  · intro p hp
    simp only [List.mem_cons, List.not_mem_nil, or_false] at hp
    rcases hp with rfl | rfl
    · exact N54.ok
    · exact N55.ok
  · intro args blks k kp h k' kp'
    match args, blks, h with
    | [d0, d1, d2], [], h =>
    dsimp only [ent0] at h
    have h9 := aStr_elim h; clear h; obtain ⟨x0, rfl, h⟩ := h9
    have h9 := aInt_elim h; clear h; obtain ⟨x1, rfl, h⟩ := h9
    have h9 := aInt_elim h; clear h; obtain ⟨x2, rfl, h⟩ := h9
    exact (f_eq k' kp' x0 x1 x2).symm
end N59
end Go.Proofs.Yu
namespace Go.Proofs.Yu
open Go Go.Aw Go.Proofs
set_option linter.unusedVariables false
set_option linter.unusedSimpArgs false
set_option maxRecDepth 100000
/-! dyehouse/dyehouselaw06.works -/
namespace N50
noncomputable def cfg : Cfg := { P := Try.prog, ty := tys, E := tab [(52, N52.ent), (59, N59.ent), (54, N54.ent), (56, N56.ent), (57, N57.ent), (55, N55.ent)], atSeq := tab [], atLoop := tab [], outs := [], eqT := tab [], bT := tab [] }
noncomputable def body : Code := bodyOf Try.f50
def c (k : Bool → Prop) : Prop :=
  (N52.f (ByteArray.mk #[97, 98, 10, 99, 100]) (4 : Int) (fun (y0_0 : Int) (y1_0 : Int) => (N59.f (ByteArray.mk #[97, 98, 10, 99, 100]) (2 : Int) (2 : Int) (fun (y0_1 : Int) (y1_1 : Bool) => (N54.f (ByteArray.mk #[97, 98, 10, 99, 100]) (1 : Int) (fun (y0_2 : ByteArray) (y1_2 : Bool) => (br (y0_0 == (2 : Int)) (br (y1_0 == (2 : Int)) (br (y0_1 == (4 : Int)) (br y1_1 (br (beqS y0_2 (ByteArray.mk #[97, 98])) (br y1_2 (N56.f (ByteArray.mk #[]) (fun (y0_3 : Int) => (br (y0_3 == (1 : Int)) (N57.f (ByteArray.mk #[97, 98, 10, 99, 100]) (4 : Int) (fun (y0_4 : ByteArray) => (br (beqS y0_4 (ByteArray.mk #[50, 58, 50, 10, 99, 100, 10, 32, 94, 10])) (N55.f (ByteArray.mk #[97, 10]) (fun (z0_5 : (List Int)) => (k (((((z0_5).length : Nat) : Int)) == (2 : Int))))) (k false)))) (k false)))) (k false)) (k false)) (k false)) (k false)) (k false)) (k false))))))))
def f0 (k : Bool → Prop) : Prop := c k
theorem f_ex : ∃ g : (Bool → Prop) → Prop, g = f0 := ⟨_, rfl⟩
noncomputable def f : (Bool → Prop) → Prop := Classical.choose f_ex
theorem f_def : f = f0 := Classical.choose_spec f_ex
noncomputable def JJ (k kp : D → List Blk → Prop) : Nat → St → Prop := pick none' []
noncomputable def LL (k kp : D → List Blk → Prop) : Nat → St → Prop := pick none' []
theorem c_c (k kp : D → List Blk → Prop) (J L : Nat → St → Prop) : runC cfg 1000001 J L none'' [] body (topK cfg Try.f50 k kp) (st0 Try.f50 [] []) = c (fun y0 => k (.v (.bool y0)) []) := by kernel_rfl
theorem c_ag (k kp : D → List Blk → Prop) : agPL cfg 1000001 (JJ k kp) (LL k kp) [] body = agPR cfg 1000001 none'' [] body (topK cfg Try.f50 k kp) := by kernel_rfl
theorem body_is : Try.f50.body = some body := by kernel_rfl
theorem c_raw (k kp : D → List Blk → Prop) : funW cfg Try.f50 [] [] k kp = c (fun y0 => k (.v (.bool y0)) []) :=
  Eq.mp (by kernel_rfl) ((funW_run (AG := none'') body_is (c_ag k kp) [] []).trans (c_c k kp (JJ k kp) (LL k kp)))
theorem f_eq (k kp : D → List Blk → Prop) : funW cfg Try.f50 [] [] k kp = f (fun y0 => k (.v (.bool y0)) []) := by
  rw [f_def, c_raw]; rfl
noncomputable def ent0 : Entry := fun args blks k _ => match args, blks with
  | [], [] => f (fun y0 => k (.v (.bool y0)) [])
  | _, _ => False
noncomputable def ent : Entry := fun args blks k kp => ent0 (convB [] args) blks k kp
theorem ok : EntOk Try.prog 0 0 50 ent := by
  refine EntOk.convB (EntOk.of (funW_ok (cfg := cfg) (tyOk_of rfl rfl tyL_ok) (eqOk_of (P := Try.prog) rfl rfl (by kernel_rfl)) mixed_ok (tab_ok ?_) Try.func50 (by rfl) (by rfl)) ?_) _
  · intro p hp
    simp only [List.mem_cons, List.not_mem_nil, or_false] at hp
    rcases hp with rfl | rfl | rfl | rfl | rfl | rfl
    · exact N52.ok
    · exact N59.ok
    · exact N54.ok
    · exact N56.ok
    · exact N57.ok
    · exact N55.ok
  · intro args blks k kp h k' kp'
    match args, blks, h with
    | [], [], h =>
    dsimp only [ent0] at h
    exact (f_eq k' kp').symm
end N50
end Go.Proofs.Yu
namespace Go.Proofs.Yu
open Go Go.Aw Go.Proofs
set_option linter.unusedVariables false
set_option linter.unusedSimpArgs false
set_option maxRecDepth 100000
/-! dyehouse/dyehouseref06.All -/
namespace N51
noncomputable def cfg : Cfg := { P := Try.prog, ty := tys, E := tab [], atSeq := tab [(4, ⟨[(0, .keep), (3, .keep), (4, .keep)]⟩), (8, ⟨[(3, .keep)]⟩)], atLoop := tab [(3, ⟨[(0, .keep), (3, .keep), (4, .keep)]⟩)], outs := [], eqT := tab [], bT := tab [] }
noncomputable def body : Code := bodyOf Try.f51
def l3 (j4 : ByteArray → Int → (List ByteArray) → Prop) (j8 : (List ByteArray) → Prop) (x0 : ByteArray) (x4 : Int) (b0 : (List ByteArray)) (k : (List ByteArray) → Prop) : Prop :=
  (br (decide (x4 < ((((x0).size : Nat) : Int)))) ((inB 0 x4 ((((x0).size : Nat) : Int) - 1)) ∧ (br ((byteAt x0 x4) == (10 : Int)) ((room ((b0).length + (([(ByteArray.mk #[])] : List ByteArray)).length) 16) ∧ (j4 x0 x4 (b0 ++ ([(ByteArray.mk #[])] : List ByteArray)))) ((inB 0 (IntKind.i64.wrap (((((b0).length : Nat) : Int)) - (1 : Int))) ((((b0).length : Nat) : Int) - 1)) ∧ ((inB x4 (IntKind.i64.wrap (x4 + (1 : Int))) (((x0).size : Nat) : Int)) ∧ ((((b0.getD (Int.toNat (IntKind.i64.wrap (((((b0).length : Nat) : Int)) - (1 : Int)))) (ByteArray.empty))).size + ((ByteArray.extract x0 (Int.toNat x4) (Int.toNat (IntKind.i64.wrap (x4 + (1 : Int)))))).size ≤ 9223372036854775807) ∧ ((inB 0 (IntKind.i64.wrap (((((b0).length : Nat) : Int)) - (1 : Int))) ((((b0).length : Nat) : Int) - 1)) ∧ (j4 x0 x4 (b0.set (Int.toNat (IntKind.i64.wrap (((((b0).length : Nat) : Int)) - (1 : Int)))) ((b0.getD (Int.toNat (IntKind.i64.wrap (((((b0).length : Nat) : Int)) - (1 : Int)))) (ByteArray.empty)) ++ (ByteArray.extract x0 (Int.toNat x4) (Int.toNat (IntKind.i64.wrap (x4 + (1 : Int)))))))))))))) (j8 b0))
def j4 (ag3 : Int → (List ByteArray) → Prop) (x0 : ByteArray) (x4 : Int) (b0 : (List ByteArray)) (k : (List ByteArray) → Prop) : Prop :=
  (ag3 (IntKind.i64.wrap (x4 + (1 : Int))) b0)
def j8 (b0 : (List ByteArray)) (k : (List ByteArray) → Prop) : Prop :=
  (k b0)
def c (l3 : ByteArray → Int → (List ByteArray) → Prop) (x0 : ByteArray) (k : (List ByteArray) → Prop) : Prop :=
  (l3 x0 (0 : Int) ([(ByteArray.mk #[])] : List ByteArray))
def j4' (ag3 : Int → (List ByteArray) → Prop) (x0 : ByteArray) (x4 : Int) (b0 : (List ByteArray)) (k : (List ByteArray) → Prop) : Prop := j4 ag3 x0 x4 b0 k
def j8' (b0 : (List ByteArray)) (k : (List ByteArray) → Prop) : Prop := j8 b0 k
def l3' (x0 : ByteArray) (x4 : Int) (b0 : (List ByteArray)) (k : (List ByteArray) → Prop) : Prop := ∃ n, loopS (fun (ag : (Int × (List ByteArray)) → Prop) (s : Int × (List ByteArray)) => l3 (fun x0 x4 b0 => j4' (fun x4 b0 => ag (x4, b0)) x0 x4 b0 k) (fun b0 => j8' b0 k) x0 s.1 s.2 k) n (x4, b0)
def f0 (x0 : ByteArray) (k : (List ByteArray) → Prop) : Prop := c (fun x0 x4 b0 => l3' x0 x4 b0 k) x0 k
theorem f_ex : ∃ g : ByteArray → ((List ByteArray) → Prop) → Prop, g = f0 := ⟨_, rfl⟩
noncomputable def f : ByteArray → ((List ByteArray) → Prop) → Prop := Classical.choose f_ex
theorem f_def : f = f0 := Classical.choose_spec f_ex
def mL3 (x0 : ByteArray) (x4 : Int) (b0 : (List ByteArray)) : St := { tmps := mkT 37 0 [(0, (.v (.string x0))), (3, (.sl 0 0)), (4, (.v (.int IntKind.i64 x4)))], hp := [(.lst 9 Ty.str b0 0 false)], m := 0 }
def m4 (x0 : ByteArray) (x4 : Int) (b0 : (List ByteArray)) : St := { tmps := mkT 37 0 [(0, (.v (.string x0))), (3, (.sl 0 0)), (4, (.v (.int IntKind.i64 x4)))], hp := [(.lst 9 Ty.str b0 0 false)], m := 0 }
def m8 (b0 : (List ByteArray)) : St := { tmps := mkT 37 0 [(3, (.sl 0 0))], hp := [(.lst 9 Ty.str b0 0 false)], m := 0 }
noncomputable def YL3 (k kp : D → List Blk → Prop) : (St → Prop) → St → Prop := loopB cfg (sub [1, 1, 0, 1, 0, 0] body) (contK cfg (pick none' []) [1, 1, 0, 1, 0] body (topK cfg Try.f51 k kp))
noncomputable def XL3 (k kp : D → List Blk → Prop) : St → Prop := fun st => ∃ n, loopN (YL3 k kp) n st
noncomputable def X4 (k kp : D → List Blk → Prop) (ag3 : St → Prop) : St → Prop := atP cfg (pick none' [(3, ag3)]) [1, 1, 0, 1, 0, 0, 1, 1] body (topK cfg Try.f51 k kp)
noncomputable def X8 (k kp : D → List Blk → Prop) : St → Prop := atP cfg (pick none' []) [1, 1, 1] body (topK cfg Try.f51 k kp)
noncomputable def JJ_3 (k kp : D → List Blk → Prop) (ag3 : St → Prop) : Nat → St → Prop := pick none' [(4, X4 k kp ag3), (8, X8 k kp)]
noncomputable def LL_3 (k kp : D → List Blk → Prop) (ag3 : St → Prop) : Nat → St → Prop := pick none' [(3, XL3 k kp)]
noncomputable def JJ (k kp : D → List Blk → Prop) : Nat → St → Prop := pick none' [(8, X8 k kp)]
noncomputable def LL (k kp : D → List Blk → Prop) : Nat → St → Prop := pick none' [(3, XL3 k kp)]
theorem j4_c (k kp : D → List Blk → Prop) (J L : Nat → St → Prop) (ag3 : St → Prop) (x0 : ByteArray) (x4 : Int) (b0 : (List ByteArray)) : runC cfg 4 J L (pick none' [(3, ag3)]) [1, 1, 0, 1, 0, 0, 1, 1] body (topK cfg Try.f51 k kp) (m4 x0 x4 b0) = j4 (fun x4 b0 => ag3 (mL3 x0 x4 b0)) x0 x4 b0 (fun z0 => k (.sl 0 0) [(.lst 9 Ty.str z0 0 false)]) := by kernel_rfl
theorem j4_ag (k kp : D → List Blk → Prop) (ag3 : St → Prop) : agPL cfg 4 (JJ_3 k kp ag3) (LL_3 k kp ag3) [1, 1, 0, 1, 0, 0, 1, 1] body = agPR cfg 4 (pick none' [(3, ag3)]) [1, 1, 0, 1, 0, 0, 1, 1] body (topK cfg Try.f51 k kp) := by kernel_rfl
theorem j4_raw (k kp : D → List Blk → Prop) (ag3 : St → Prop) (x0 : ByteArray) (x4 : Int) (b0 : (List ByteArray)) : X4 k kp ag3 (m4 x0 x4 b0) = j4 (fun x4 b0 => ag3 (mL3 x0 x4 b0)) x0 x4 b0 (fun z0 => k (.sl 0 0) [(.lst 9 Ty.str z0 0 false)]) :=
  Eq.mp (by kernel_rfl) ((atP_run (j4_ag k kp ag3) (m4 x0 x4 b0)).trans (j4_c k kp (JJ_3 k kp ag3) (LL_3 k kp ag3) ag3 x0 x4 b0))
theorem j4_eq (k kp : D → List Blk → Prop) (ag3 : St → Prop) (x0 : ByteArray) (x4 : Int) (b0 : (List ByteArray)) : X4 k kp ag3 (m4 x0 x4 b0) = j4' (fun x4 b0 => ag3 (mL3 x0 x4 b0)) x0 x4 b0 (fun z0 => k (.sl 0 0) [(.lst 9 Ty.str z0 0 false)]) := by
  rw [j4_raw]; rfl
theorem j8_c (k kp : D → List Blk → Prop) (J L : Nat → St → Prop) (b0 : (List ByteArray)) : runC cfg 8 J L (pick none' []) [1, 1, 1] body (topK cfg Try.f51 k kp) (m8 b0) = j8 b0 (fun z0 => k (.sl 0 0) [(.lst 9 Ty.str z0 0 false)]) := by kernel_rfl
theorem j8_ag (k kp : D → List Blk → Prop) : agPL cfg 8 (JJ k kp) (LL k kp) [1, 1, 1] body = agPR cfg 8 (pick none' []) [1, 1, 1] body (topK cfg Try.f51 k kp) := by kernel_rfl
theorem j8_raw (k kp : D → List Blk → Prop) (b0 : (List ByteArray)) : X8 k kp (m8 b0) = j8 b0 (fun z0 => k (.sl 0 0) [(.lst 9 Ty.str z0 0 false)]) :=
  Eq.mp (by kernel_rfl) ((atP_run (j8_ag k kp) (m8 b0)).trans (j8_c k kp (JJ k kp) (LL k kp) b0))
theorem j8_eq (k kp : D → List Blk → Prop) (b0 : (List ByteArray)) : X8 k kp (m8 b0) = j8' b0 (fun z0 => k (.sl 0 0) [(.lst 9 Ty.str z0 0 false)]) := by
  rw [j8_raw]; rfl
theorem l3_c (k kp : D → List Blk → Prop) (J L : Nat → St → Prop) (ag3 : St → Prop) (x0 : ByteArray) (x4 : Int) (b0 : (List ByteArray)) : runC cfg 1000001 J L (pick none' [(3, ag3)]) [1, 1, 0, 1, 0, 0] body (topK cfg Try.f51 k kp) (mL3 x0 x4 b0) = l3 (fun x0 x4 b0 => J 4 (m4 x0 x4 b0)) (fun b0 => J 8 (m8 b0)) x0 x4 b0 (fun z0 => k (.sl 0 0) [(.lst 9 Ty.str z0 0 false)]) := by kernel_rfl
theorem l3_ag (k kp : D → List Blk → Prop) (ag3 : St → Prop) : agPL cfg 1000001 (JJ_3 k kp ag3) (LL_3 k kp ag3) [1, 1, 0, 1, 0, 0] body = agPR cfg 1000001 (pick none' [(3, ag3)]) [1, 1, 0, 1, 0, 0] body (topK cfg Try.f51 k kp) := by kernel_rfl
theorem l3_raw (k kp : D → List Blk → Prop) (ag3 : St → Prop) (x0 : ByteArray) (x4 : Int) (b0 : (List ByteArray)) : YL3 k kp ag3 (mL3 x0 x4 b0) = l3 (fun x0 x4 b0 => X4 k kp ag3 (m4 x0 x4 b0)) (fun b0 => X8 k kp (m8 b0)) x0 x4 b0 (fun z0 => k (.sl 0 0) [(.lst 9 Ty.str z0 0 false)]) :=
  Eq.mp (by kernel_rfl) ((atP_run (l3_ag k kp ag3) (mL3 x0 x4 b0)).trans (l3_c k kp (JJ_3 k kp ag3) (LL_3 k kp ag3) ag3 x0 x4 b0))
theorem l3_eq (k kp : D → List Blk → Prop) (x0 : ByteArray) (x4 : Int) (b0 : (List ByteArray)) : XL3 k kp (mL3 x0 x4 b0) = l3' x0 x4 b0 (fun z0 => k (.sl 0 0) [(.lst 9 Ty.str z0 0 false)]) :=
  loop_eq (mk := fun (s : Int × (List ByteArray)) => mL3 x0 s.1 s.2) (fun again s => by rw [l3_raw k kp again x0 s.1 s.2]; simp only [j4_eq, j8_eq]; first | done | rfl) (x4, b0)
theorem c_c (k kp : D → List Blk → Prop) (J L : Nat → St → Prop) (x0 : ByteArray) : runC cfg 1000001 J L none'' [] body (topK cfg Try.f51 k kp) (st0 Try.f51 [(.v (.string x0))] []) = c (fun x0 x4 b0 => L 3 (mL3 x0 x4 b0)) x0 (fun z0 => k (.sl 0 0) [(.lst 9 Ty.str z0 0 false)]) := by kernel_rfl
theorem c_ag (k kp : D → List Blk → Prop) : agPL cfg 1000001 (JJ k kp) (LL k kp) [] body = agPR cfg 1000001 none'' [] body (topK cfg Try.f51 k kp) := by kernel_rfl
theorem body_is : Try.f51.body = some body := by kernel_rfl
theorem c_raw (k kp : D → List Blk → Prop) (x0 : ByteArray) : funW cfg Try.f51 [(.v (.string x0))] [] k kp = c (fun x0 x4 b0 => XL3 k kp (mL3 x0 x4 b0)) x0 (fun z0 => k (.sl 0 0) [(.lst 9 Ty.str z0 0 false)]) :=
  Eq.mp (by kernel_rfl) ((funW_run (AG := none'') body_is (c_ag k kp) [(.v (.string x0))] []).trans (c_c k kp (JJ k kp) (LL k kp) x0))
theorem f_eq (k kp : D → List Blk → Prop) (x0 : ByteArray) : funW cfg Try.f51 [(.v (.string x0))] [] k kp = f x0 (fun z0 => k (.sl 0 0) [(.lst 9 Ty.str z0 0 false)]) := by
  rw [f_def, c_raw]; simp only [l3_eq]; first | done | rfl
noncomputable def ent0 : Entry := fun args blks k _ => match args, blks with
  | [d0], [] => aStr d0 fun x0 => f x0 (fun z0 => k (.sl 0 0) [(.lst 9 Ty.str z0 0 false)])
  | _, _ => False
noncomputable def ent : Entry := fun args blks k kp => ent0 (convB [.no] args) blks k kp
theorem ok : EntOk Try.prog 0 0 51 ent := by
  refine EntOk.convB (EntOk.of (funW_ok (cfg := cfg) (tyOk_of rfl rfl tyL_ok) (eqOk_of (P := Try.prog) rfl rfl (by kernel_rfl)) mixed_ok (tab_ok ?_) Try.func51 (by rfl) (by rfl)) ?_) _
  · intro p hp
    cases hp
  · intro args blks k kp h k' kp'
    match args, blks, h with
    | [d0], [], h =>
    dsimp only [ent0] at h
    have h9 := aStr_elim h; clear h; obtain ⟨x0, rfl, h⟩ := h9
    exact (f_eq k' kp' x0).symm
end N51
end Go.Proofs.Yu
namespace Go.Proofs.Yu
open Go Go.Aw Go.Proofs
set_option linter.unusedVariables false
set_option linter.unusedSimpArgs false
set_option maxRecDepth 100000
/-! dyehouse/dyehouseref06.Spot -/
namespace N53
noncomputable def cfg : Cfg := { P := Try.prog, ty := tys, E := tab [(51, N51.ent)], atSeq := tab [(2000002, ⟨[(0, .keep), (1, .keep), (14, .keep)]⟩), (3, ⟨[(0, .keep), (1, .keep)]⟩)], atLoop := tab [], outs := [], eqT := tab [], bT := tab [] }
noncomputable def body : Code := bodyOf Try.f53
def j2000002 (j3 : ByteArray → Int → Prop) (x0 : ByteArray) (x1 : Int) (x14 : Bool) (k : Int → Int → Prop) : Prop :=
  (br x14 (k (0 : Int) (0 : Int)) (j3 x0 x1))
def j3 (x0 : ByteArray) (x1 : Int) (k : Int → Int → Prop) : Prop :=
  ((inB 0 x1 (((x0).size : Nat) : Int)) ∧ (N51.f (ByteArray.extract x0 (Int.toNat 0) (Int.toNat x1)) (fun (z0_0 : (List ByteArray)) => ((inB 0 (IntKind.i64.wrap (((((z0_0).length : Nat) : Int)) - (1 : Int))) ((((z0_0).length : Nat) : Int) - 1)) ∧ (k ((((z0_0).length : Nat) : Int)) (IntKind.i64.wrap ((((((z0_0.getD (Int.toNat (IntKind.i64.wrap (((((z0_0).length : Nat) : Int)) - (1 : Int)))) (ByteArray.empty))).size : Nat) : Int)) + (1 : Int))))))))
def c (j2000002 : ByteArray → Int → Bool → Prop) (x0 : ByteArray) (x1 : Int) (k : Int → Int → Prop) : Prop :=
  (br (decide (x1 < (0 : Int))) (j2000002 x0 x1 true) (j2000002 x0 x1 (decide (x1 > ((((x0).size : Nat) : Int))))))
def j3' (x0 : ByteArray) (x1 : Int) (k : Int → Int → Prop) : Prop := j3 x0 x1 k
def j2000002' (x0 : ByteArray) (x1 : Int) (x14 : Bool) (k : Int → Int → Prop) : Prop := j2000002 (fun x0 x1 => j3' x0 x1 k) x0 x1 x14 k
def f0 (x0 : ByteArray) (x1 : Int) (k : Int → Int → Prop) : Prop := c (fun x0 x1 x14 => j2000002' x0 x1 x14 k) x0 x1 k
theorem f_ex : ∃ g : ByteArray → Int → (Int → Int → Prop) → Prop, g = f0 := ⟨_, rfl⟩
noncomputable def f : ByteArray → Int → (Int → Int → Prop) → Prop := Classical.choose f_ex
theorem f_def : f = f0 := Classical.choose_spec f_ex
def m2000002 (x0 : ByteArray) (x1 : Int) (x14 : Bool) : St := { tmps := mkT 29 0 [(0, (.v (.string x0))), (1, (.v (.int IntKind.i64 x1))), (14, (.v (.bool x14)))], hp := [], m := 0 }
def m3 (x0 : ByteArray) (x1 : Int) : St := { tmps := mkT 29 0 [(0, (.v (.string x0))), (1, (.v (.int IntKind.i64 x1)))], hp := [], m := 0 }
noncomputable def X2000002 (k kp : D → List Blk → Prop) : St → Prop := atP cfg (pick none' []) [1, 0, 1] body (topK cfg Try.f53 k kp)
noncomputable def X3 (k kp : D → List Blk → Prop) : St → Prop := atP cfg (pick none' []) [1, 1] body (topK cfg Try.f53 k kp)
noncomputable def JJ (k kp : D → List Blk → Prop) : Nat → St → Prop := pick none' [(2000002, X2000002 k kp), (3, X3 k kp)]
noncomputable def LL (k kp : D → List Blk → Prop) : Nat → St → Prop := pick none' []
theorem j3_c (k kp : D → List Blk → Prop) (J L : Nat → St → Prop) (x0 : ByteArray) (x1 : Int) : runC cfg 3 J L (pick none' []) [1, 1] body (topK cfg Try.f53 k kp) (m3 x0 x1) = j3 x0 x1 (fun y0 y1 => k (.tup [(.v (.int IntKind.i64 y0)), (.v (.int IntKind.i64 y1))]) []) := by kernel_rfl
theorem j3_ag (k kp : D → List Blk → Prop) : agPL cfg 3 (JJ k kp) (LL k kp) [1, 1] body = agPR cfg 3 (pick none' []) [1, 1] body (topK cfg Try.f53 k kp) := by kernel_rfl
theorem j3_raw (k kp : D → List Blk → Prop) (x0 : ByteArray) (x1 : Int) : X3 k kp (m3 x0 x1) = j3 x0 x1 (fun y0 y1 => k (.tup [(.v (.int IntKind.i64 y0)), (.v (.int IntKind.i64 y1))]) []) :=
  Eq.mp (by kernel_rfl) ((atP_run (j3_ag k kp) (m3 x0 x1)).trans (j3_c k kp (JJ k kp) (LL k kp) x0 x1))
theorem j3_eq (k kp : D → List Blk → Prop) (x0 : ByteArray) (x1 : Int) : X3 k kp (m3 x0 x1) = j3' x0 x1 (fun y0 y1 => k (.tup [(.v (.int IntKind.i64 y0)), (.v (.int IntKind.i64 y1))]) []) := by
  rw [j3_raw]; rfl
theorem j2000002_c (k kp : D → List Blk → Prop) (J L : Nat → St → Prop) (x0 : ByteArray) (x1 : Int) (x14 : Bool) : runC cfg 2000002 J L (pick none' []) [1, 0, 1] body (topK cfg Try.f53 k kp) (m2000002 x0 x1 x14) = j2000002 (fun x0 x1 => J 3 (m3 x0 x1)) x0 x1 x14 (fun y0 y1 => k (.tup [(.v (.int IntKind.i64 y0)), (.v (.int IntKind.i64 y1))]) []) := by kernel_rfl
theorem j2000002_ag (k kp : D → List Blk → Prop) : agPL cfg 2000002 (JJ k kp) (LL k kp) [1, 0, 1] body = agPR cfg 2000002 (pick none' []) [1, 0, 1] body (topK cfg Try.f53 k kp) := by kernel_rfl
theorem j2000002_raw (k kp : D → List Blk → Prop) (x0 : ByteArray) (x1 : Int) (x14 : Bool) : X2000002 k kp (m2000002 x0 x1 x14) = j2000002 (fun x0 x1 => X3 k kp (m3 x0 x1)) x0 x1 x14 (fun y0 y1 => k (.tup [(.v (.int IntKind.i64 y0)), (.v (.int IntKind.i64 y1))]) []) :=
  Eq.mp (by kernel_rfl) ((atP_run (j2000002_ag k kp) (m2000002 x0 x1 x14)).trans (j2000002_c k kp (JJ k kp) (LL k kp) x0 x1 x14))
theorem j2000002_eq (k kp : D → List Blk → Prop) (x0 : ByteArray) (x1 : Int) (x14 : Bool) : X2000002 k kp (m2000002 x0 x1 x14) = j2000002' x0 x1 x14 (fun y0 y1 => k (.tup [(.v (.int IntKind.i64 y0)), (.v (.int IntKind.i64 y1))]) []) := by
  rw [j2000002_raw]; simp only [j3_eq]; first | done | rfl
theorem c_c (k kp : D → List Blk → Prop) (J L : Nat → St → Prop) (x0 : ByteArray) (x1 : Int) : runC cfg 1000001 J L none'' [] body (topK cfg Try.f53 k kp) (st0 Try.f53 [(.v (.string x0)), (.v (.int IntKind.i64 x1))] []) = c (fun x0 x1 x14 => J 2000002 (m2000002 x0 x1 x14)) x0 x1 (fun y0 y1 => k (.tup [(.v (.int IntKind.i64 y0)), (.v (.int IntKind.i64 y1))]) []) := by kernel_rfl
theorem c_ag (k kp : D → List Blk → Prop) : agPL cfg 1000001 (JJ k kp) (LL k kp) [] body = agPR cfg 1000001 none'' [] body (topK cfg Try.f53 k kp) := by kernel_rfl
theorem body_is : Try.f53.body = some body := by kernel_rfl
theorem c_raw (k kp : D → List Blk → Prop) (x0 : ByteArray) (x1 : Int) : funW cfg Try.f53 [(.v (.string x0)), (.v (.int IntKind.i64 x1))] [] k kp = c (fun x0 x1 x14 => X2000002 k kp (m2000002 x0 x1 x14)) x0 x1 (fun y0 y1 => k (.tup [(.v (.int IntKind.i64 y0)), (.v (.int IntKind.i64 y1))]) []) :=
  Eq.mp (by kernel_rfl) ((funW_run (AG := none'') body_is (c_ag k kp) [(.v (.string x0)), (.v (.int IntKind.i64 x1))] []).trans (c_c k kp (JJ k kp) (LL k kp) x0 x1))
theorem f_eq (k kp : D → List Blk → Prop) (x0 : ByteArray) (x1 : Int) : funW cfg Try.f53 [(.v (.string x0)), (.v (.int IntKind.i64 x1))] [] k kp = f x0 x1 (fun y0 y1 => k (.tup [(.v (.int IntKind.i64 y0)), (.v (.int IntKind.i64 y1))]) []) := by
  rw [f_def, c_raw]; simp only [j2000002_eq]; first | done | rfl
noncomputable def ent0 : Entry := fun args blks k _ => match args, blks with
  | [d0, d1], [] => aStr d0 fun x0 => aInt IntKind.i64 d1 fun x1 => f x0 x1 (fun y0 y1 => k (.tup [(.v (.int IntKind.i64 y0)), (.v (.int IntKind.i64 y1))]) [])
  | _, _ => False
noncomputable def ent : Entry := fun args blks k kp => ent0 (convB [.no, .no] args) blks k kp
theorem ok : EntOk Try.prog 0 0 53 ent := by
  refine EntOk.convB (EntOk.of (funW_ok (cfg := cfg) (tyOk_of rfl rfl tyL_ok) (eqOk_of (P := Try.prog) rfl rfl (by kernel_rfl)) mixed_ok (tab_ok ?_) Try.func53 (by rfl) (by rfl)) ?_) _
  · intro p hp
    simp only [List.mem_cons, List.not_mem_nil, or_false] at hp
    rcases hp with rfl
    · exact N51.ok
  · intro args blks k kp h k' kp'
    match args, blks, h with
    | [d0, d1], [], h =>
    dsimp only [ent0] at h
    have h9 := aStr_elim h; clear h; obtain ⟨x0, rfl, h⟩ := h9
    have h9 := aInt_elim h; clear h; obtain ⟨x1, rfl, h⟩ := h9
    exact (f_eq k' kp' x0 x1).symm
end N53
end Go.Proofs.Yu
namespace Go.Proofs.Yu
open Go Go.Aw Go.Proofs
set_option linter.unusedVariables false
set_option linter.unusedSimpArgs false
set_option maxRecDepth 100000
/-! dyehouse/dyehouseref06.Mark -/
namespace N58
noncomputable def cfg : Cfg := { P := Try.prog, ty := tys, E := tab [(53, N53.ent), (51, N51.ent), (63, N63.ent)], atSeq := tab [(8, ⟨[(6, .keep), (7, .keep), (8, .keep), (9, .keep)]⟩), (12, ⟨[(8, .keep)]⟩)], atLoop := tab [(7, ⟨[(6, .keep), (7, .keep), (8, .keep), (9, .keep)]⟩)], outs := [], eqT := tab [], bT := tab [] }
noncomputable def body : Code := bodyOf Try.f58
def l7 (j8 : Int → ByteArray → ByteArray → Int → Prop) (j12 : ByteArray → Prop) (x6 : Int) (x7 : ByteArray) (x8 : ByteArray) (x9 : Int) (k : ByteArray → Prop) : Prop :=
  (br (decide (x9 < (IntKind.i64.wrap (x6 - (1 : Int))))) ((inB 0 x9 ((((x7).size : Nat) : Int) - 1)) ∧ (br ((byteAt x7 x9) == (9 : Int)) (((x8).size + ((ByteArray.mk #[9])).size ≤ 9223372036854775807) ∧ (j8 x6 x7 (x8 ++ (ByteArray.mk #[9])) x9)) (((x8).size + ((ByteArray.mk #[32])).size ≤ 9223372036854775807) ∧ (j8 x6 x7 (x8 ++ (ByteArray.mk #[32])) x9)))) (j12 x8))
def j8 (ag7 : ByteArray → Int → Prop) (x6 : Int) (x7 : ByteArray) (x8 : ByteArray) (x9 : Int) (k : ByteArray → Prop) : Prop :=
  (ag7 x8 (IntKind.i64.wrap (x9 + (1 : Int))))
def j12 (x8 : ByteArray) (k : ByteArray → Prop) : Prop :=
  (((x8).size + ((ByteArray.mk #[94, 10])).size ≤ 9223372036854775807) ∧ (k (x8 ++ (ByteArray.mk #[94, 10]))))
def c (l7 : Int → ByteArray → ByteArray → Int → Prop) (x0 : ByteArray) (x1 : Int) (k : ByteArray → Prop) : Prop :=
  (N53.f x0 x1 (fun (y0_0 : Int) (y1_0 : Int) => (br (y0_0 == (0 : Int)) (k (ByteArray.mk #[])) (N51.f x0 (fun (z0_1 : (List ByteArray)) => ((inB 0 (IntKind.i64.wrap (y0_0 - (1 : Int))) ((((z0_1).length : Nat) : Int) - 1)) ∧ (N63.f y0_0 (fun (y0_2 : ByteArray) => (((y0_2).size + ((ByteArray.mk #[58])).size ≤ 9223372036854775807) ∧ (N63.f y1_0 (fun (y0_3 : ByteArray) => ((((y0_2 ++ (ByteArray.mk #[58]))).size + (y0_3).size ≤ 9223372036854775807) ∧ (((((y0_2 ++ (ByteArray.mk #[58])) ++ y0_3)).size + ((ByteArray.mk #[10])).size ≤ 9223372036854775807) ∧ ((((((y0_2 ++ (ByteArray.mk #[58])) ++ y0_3) ++ (ByteArray.mk #[10]))).size + ((z0_1.getD (Int.toNat (IntKind.i64.wrap (y0_0 - (1 : Int)))) (ByteArray.empty))).size ≤ 9223372036854775807) ∧ (((((((y0_2 ++ (ByteArray.mk #[58])) ++ y0_3) ++ (ByteArray.mk #[10])) ++ (z0_1.getD (Int.toNat (IntKind.i64.wrap (y0_0 - (1 : Int)))) (ByteArray.empty)))).size + ((ByteArray.mk #[10])).size ≤ 9223372036854775807) ∧ (l7 y1_0 (z0_1.getD (Int.toNat (IntKind.i64.wrap (y0_0 - (1 : Int)))) (ByteArray.empty)) (((((y0_2 ++ (ByteArray.mk #[58])) ++ y0_3) ++ (ByteArray.mk #[10])) ++ (z0_1.getD (Int.toNat (IntKind.i64.wrap (y0_0 - (1 : Int)))) (ByteArray.empty))) ++ (ByteArray.mk #[10])) (0 : Int)))))))))))))))))
def j8' (ag7 : ByteArray → Int → Prop) (x6 : Int) (x7 : ByteArray) (x8 : ByteArray) (x9 : Int) (k : ByteArray → Prop) : Prop := j8 ag7 x6 x7 x8 x9 k
def j12' (x8 : ByteArray) (k : ByteArray → Prop) : Prop := j12 x8 k
def l7' (x6 : Int) (x7 : ByteArray) (x8 : ByteArray) (x9 : Int) (k : ByteArray → Prop) : Prop := ∃ n, loopS (fun (ag : (ByteArray × Int) → Prop) (s : ByteArray × Int) => l7 (fun x6 x7 x8 x9 => j8' (fun x8 x9 => ag (x8, x9)) x6 x7 x8 x9 k) (fun x8 => j12' x8 k) x6 x7 s.1 s.2 k) n (x8, x9)
def f0 (x0 : ByteArray) (x1 : Int) (k : ByteArray → Prop) : Prop := c (fun x6 x7 x8 x9 => l7' x6 x7 x8 x9 k) x0 x1 k
theorem f_ex : ∃ g : ByteArray → Int → (ByteArray → Prop) → Prop, g = f0 := ⟨_, rfl⟩
noncomputable def f : ByteArray → Int → (ByteArray → Prop) → Prop := Classical.choose f_ex
theorem f_def : f = f0 := Classical.choose_spec f_ex
def mL7 (x6 : Int) (x7 : ByteArray) (x8 : ByteArray) (x9 : Int) : St := { tmps := mkT 50 0 [(6, (.v (.int IntKind.i64 x6))), (7, (.v (.string x7))), (8, (.v (.string x8))), (9, (.v (.int IntKind.i64 x9)))], hp := [], m := 0 }
def m8 (x6 : Int) (x7 : ByteArray) (x8 : ByteArray) (x9 : Int) : St := { tmps := mkT 50 0 [(6, (.v (.int IntKind.i64 x6))), (7, (.v (.string x7))), (8, (.v (.string x8))), (9, (.v (.int IntKind.i64 x9)))], hp := [], m := 0 }
def m12 (x8 : ByteArray) : St := { tmps := mkT 50 0 [(8, (.v (.string x8)))], hp := [], m := 0 }
noncomputable def YL7 (k kp : D → List Blk → Prop) : (St → Prop) → St → Prop := loopB cfg (sub [1, 1, 1, 1, 1, 0, 1, 0, 0] body) (contK cfg (pick none' []) [1, 1, 1, 1, 1, 0, 1, 0] body (topK cfg Try.f58 k kp))
noncomputable def XL7 (k kp : D → List Blk → Prop) : St → Prop := fun st => ∃ n, loopN (YL7 k kp) n st
noncomputable def X8 (k kp : D → List Blk → Prop) (ag7 : St → Prop) : St → Prop := atP cfg (pick none' [(7, ag7)]) [1, 1, 1, 1, 1, 0, 1, 0, 0, 1, 1] body (topK cfg Try.f58 k kp)
noncomputable def X12 (k kp : D → List Blk → Prop) : St → Prop := atP cfg (pick none' []) [1, 1, 1, 1, 1, 1] body (topK cfg Try.f58 k kp)
noncomputable def JJ_7 (k kp : D → List Blk → Prop) (ag7 : St → Prop) : Nat → St → Prop := pick none' [(8, X8 k kp ag7), (12, X12 k kp)]
noncomputable def LL_7 (k kp : D → List Blk → Prop) (ag7 : St → Prop) : Nat → St → Prop := pick none' [(7, XL7 k kp)]
noncomputable def JJ (k kp : D → List Blk → Prop) : Nat → St → Prop := pick none' [(12, X12 k kp)]
noncomputable def LL (k kp : D → List Blk → Prop) : Nat → St → Prop := pick none' [(7, XL7 k kp)]
theorem j8_c (k kp : D → List Blk → Prop) (J L : Nat → St → Prop) (ag7 : St → Prop) (x6 : Int) (x7 : ByteArray) (x8 : ByteArray) (x9 : Int) : runC cfg 8 J L (pick none' [(7, ag7)]) [1, 1, 1, 1, 1, 0, 1, 0, 0, 1, 1] body (topK cfg Try.f58 k kp) (m8 x6 x7 x8 x9) = j8 (fun x8 x9 => ag7 (mL7 x6 x7 x8 x9)) x6 x7 x8 x9 (fun y0 => k (.v (.string y0)) []) := by kernel_rfl
theorem j8_ag (k kp : D → List Blk → Prop) (ag7 : St → Prop) : agPL cfg 8 (JJ_7 k kp ag7) (LL_7 k kp ag7) [1, 1, 1, 1, 1, 0, 1, 0, 0, 1, 1] body = agPR cfg 8 (pick none' [(7, ag7)]) [1, 1, 1, 1, 1, 0, 1, 0, 0, 1, 1] body (topK cfg Try.f58 k kp) := by kernel_rfl
theorem j8_raw (k kp : D → List Blk → Prop) (ag7 : St → Prop) (x6 : Int) (x7 : ByteArray) (x8 : ByteArray) (x9 : Int) : X8 k kp ag7 (m8 x6 x7 x8 x9) = j8 (fun x8 x9 => ag7 (mL7 x6 x7 x8 x9)) x6 x7 x8 x9 (fun y0 => k (.v (.string y0)) []) :=
  Eq.mp (by kernel_rfl) ((atP_run (j8_ag k kp ag7) (m8 x6 x7 x8 x9)).trans (j8_c k kp (JJ_7 k kp ag7) (LL_7 k kp ag7) ag7 x6 x7 x8 x9))
theorem j8_eq (k kp : D → List Blk → Prop) (ag7 : St → Prop) (x6 : Int) (x7 : ByteArray) (x8 : ByteArray) (x9 : Int) : X8 k kp ag7 (m8 x6 x7 x8 x9) = j8' (fun x8 x9 => ag7 (mL7 x6 x7 x8 x9)) x6 x7 x8 x9 (fun y0 => k (.v (.string y0)) []) := by
  rw [j8_raw]; rfl
theorem j12_c (k kp : D → List Blk → Prop) (J L : Nat → St → Prop) (x8 : ByteArray) : runC cfg 12 J L (pick none' []) [1, 1, 1, 1, 1, 1] body (topK cfg Try.f58 k kp) (m12 x8) = j12 x8 (fun y0 => k (.v (.string y0)) []) := by kernel_rfl
theorem j12_ag (k kp : D → List Blk → Prop) : agPL cfg 12 (JJ k kp) (LL k kp) [1, 1, 1, 1, 1, 1] body = agPR cfg 12 (pick none' []) [1, 1, 1, 1, 1, 1] body (topK cfg Try.f58 k kp) := by kernel_rfl
theorem j12_raw (k kp : D → List Blk → Prop) (x8 : ByteArray) : X12 k kp (m12 x8) = j12 x8 (fun y0 => k (.v (.string y0)) []) :=
  Eq.mp (by kernel_rfl) ((atP_run (j12_ag k kp) (m12 x8)).trans (j12_c k kp (JJ k kp) (LL k kp) x8))
theorem j12_eq (k kp : D → List Blk → Prop) (x8 : ByteArray) : X12 k kp (m12 x8) = j12' x8 (fun y0 => k (.v (.string y0)) []) := by
  rw [j12_raw]; rfl
theorem l7_c (k kp : D → List Blk → Prop) (J L : Nat → St → Prop) (ag7 : St → Prop) (x6 : Int) (x7 : ByteArray) (x8 : ByteArray) (x9 : Int) : runC cfg 1000001 J L (pick none' [(7, ag7)]) [1, 1, 1, 1, 1, 0, 1, 0, 0] body (topK cfg Try.f58 k kp) (mL7 x6 x7 x8 x9) = l7 (fun x6 x7 x8 x9 => J 8 (m8 x6 x7 x8 x9)) (fun x8 => J 12 (m12 x8)) x6 x7 x8 x9 (fun y0 => k (.v (.string y0)) []) := by kernel_rfl
theorem l7_ag (k kp : D → List Blk → Prop) (ag7 : St → Prop) : agPL cfg 1000001 (JJ_7 k kp ag7) (LL_7 k kp ag7) [1, 1, 1, 1, 1, 0, 1, 0, 0] body = agPR cfg 1000001 (pick none' [(7, ag7)]) [1, 1, 1, 1, 1, 0, 1, 0, 0] body (topK cfg Try.f58 k kp) := by kernel_rfl
theorem l7_raw (k kp : D → List Blk → Prop) (ag7 : St → Prop) (x6 : Int) (x7 : ByteArray) (x8 : ByteArray) (x9 : Int) : YL7 k kp ag7 (mL7 x6 x7 x8 x9) = l7 (fun x6 x7 x8 x9 => X8 k kp ag7 (m8 x6 x7 x8 x9)) (fun x8 => X12 k kp (m12 x8)) x6 x7 x8 x9 (fun y0 => k (.v (.string y0)) []) :=
  Eq.mp (by kernel_rfl) ((atP_run (l7_ag k kp ag7) (mL7 x6 x7 x8 x9)).trans (l7_c k kp (JJ_7 k kp ag7) (LL_7 k kp ag7) ag7 x6 x7 x8 x9))
theorem l7_eq (k kp : D → List Blk → Prop) (x6 : Int) (x7 : ByteArray) (x8 : ByteArray) (x9 : Int) : XL7 k kp (mL7 x6 x7 x8 x9) = l7' x6 x7 x8 x9 (fun y0 => k (.v (.string y0)) []) :=
  loop_eq (mk := fun (s : ByteArray × Int) => mL7 x6 x7 s.1 s.2) (fun again s => by rw [l7_raw k kp again x6 x7 s.1 s.2]; simp only [j8_eq, j12_eq]; first | done | rfl) (x8, x9)
theorem c_c (k kp : D → List Blk → Prop) (J L : Nat → St → Prop) (x0 : ByteArray) (x1 : Int) : runC cfg 1000001 J L none'' [] body (topK cfg Try.f58 k kp) (st0 Try.f58 [(.v (.string x0)), (.v (.int IntKind.i64 x1))] []) = c (fun x6 x7 x8 x9 => L 7 (mL7 x6 x7 x8 x9)) x0 x1 (fun y0 => k (.v (.string y0)) []) := by kernel_rfl
theorem c_ag (k kp : D → List Blk → Prop) : agPL cfg 1000001 (JJ k kp) (LL k kp) [] body = agPR cfg 1000001 none'' [] body (topK cfg Try.f58 k kp) := by kernel_rfl
theorem body_is : Try.f58.body = some body := by kernel_rfl
theorem c_raw (k kp : D → List Blk → Prop) (x0 : ByteArray) (x1 : Int) : funW cfg Try.f58 [(.v (.string x0)), (.v (.int IntKind.i64 x1))] [] k kp = c (fun x6 x7 x8 x9 => XL7 k kp (mL7 x6 x7 x8 x9)) x0 x1 (fun y0 => k (.v (.string y0)) []) :=
  Eq.mp (by kernel_rfl) ((funW_run (AG := none'') body_is (c_ag k kp) [(.v (.string x0)), (.v (.int IntKind.i64 x1))] []).trans (c_c k kp (JJ k kp) (LL k kp) x0 x1))
theorem f_eq (k kp : D → List Blk → Prop) (x0 : ByteArray) (x1 : Int) : funW cfg Try.f58 [(.v (.string x0)), (.v (.int IntKind.i64 x1))] [] k kp = f x0 x1 (fun y0 => k (.v (.string y0)) []) := by
  rw [f_def, c_raw]; simp only [l7_eq]; first | done | rfl
noncomputable def ent0 : Entry := fun args blks k _ => match args, blks with
  | [d0, d1], [] => aStr d0 fun x0 => aInt IntKind.i64 d1 fun x1 => f x0 x1 (fun y0 => k (.v (.string y0)) [])
  | _, _ => False
noncomputable def ent : Entry := fun args blks k kp => ent0 (convB [.no, .no] args) blks k kp
theorem ok : EntOk Try.prog 0 0 58 ent := by
  refine EntOk.convB (EntOk.of (funW_ok (cfg := cfg) (tyOk_of rfl rfl tyL_ok) (eqOk_of (P := Try.prog) rfl rfl (by kernel_rfl)) mixed_ok (tab_ok ?_) Try.func58 (by rfl) (by rfl)) ?_) _
  · intro p hp
    simp only [List.mem_cons, List.not_mem_nil, or_false] at hp
    rcases hp with rfl | rfl | rfl
    · exact N53.ok
    · exact N51.ok
    · exact N63.ok
  · intro args blks k kp h k' kp'
    match args, blks, h with
    | [d0, d1], [], h =>
    dsimp only [ent0] at h
    have h9 := aStr_elim h; clear h; obtain ⟨x0, rfl, h⟩ := h9
    have h9 := aInt_elim h; clear h; obtain ⟨x1, rfl, h⟩ := h9
    exact (f_eq k' kp' x0 x1).symm
end N58
end Go.Proofs.Yu
namespace Go.Proofs.Yu
open Go Go.Aw Go.Proofs
set_option linter.unusedVariables false
set_option linter.unusedSimpArgs false
set_option maxRecDepth 100000
/-! dyehouse/dyehouselaw06.LinesTells -/
namespace N12
noncomputable def cfg : Cfg := { P := Try.prog, ty := tys, E := tab [(50, N50.ent), (51, N51.ent), (52, N52.ent), (53, N53.ent), (54, N54.ent), (55, N55.ent), (56, N56.ent), (57, N57.ent), (58, N58.ent)], atSeq := tab [(8, ⟨[(0, .keep), (1, .keep), (2, .keep), (7, .keep), (8, .keep), (9, .keep), (10, .keep), (11, .keep), (12, .keep), (13, .keep), (14, .keep), (15, .keep)]⟩), (10, ⟨[(0, .keep), (1, .keep), (7, .keep), (8, .keep), (9, .keep), (10, .keep), (11, .keep), (12, .keep), (13, .keep), (14, .keep), (15, .keep)]⟩), (20, ⟨[(0, .keep), (1, .keep), (7, .keep), (8, .keep), (9, .keep), (10, .keep), (11, .keep), (12, .keep), (13, .keep), (14, .keep), (15, .keep)]⟩)], atLoop := tab [(15, ⟨[(0, .keep), (1, .keep), (7, .keep), (8, .keep), (9, .keep), (10, .keep), (11, .keep), (12, .keep), (13, .keep), (14, .keep), (15, .keep), (16, .keep), (17, .keep), (18, .keep)]⟩)], outs := [], eqT := tab [], bT := tab [] }
noncomputable def body : Code := bodyOf Try.f12
def j8 (j10 : ByteArray → Int → Int → Int → Int → Int → ByteArray → Bool → ByteArray → Bool → (List ByteArray) → Prop) (x0 : ByteArray) (x1 : Int) (x2 : Int) (x8 : Int) (x9 : Int) (x10 : Int) (x11 : Int) (x12 : ByteArray) (x13 : Bool) (x14 : ByteArray) (x15 : Bool) (b0 : (List ByteArray)) (k : Bool → Prop) : Prop :=
  (br x15 ((inB 0 (IntKind.i64.wrap (x2 - (1 : Int))) ((((b0).length : Nat) : Int) - 1)) ∧ (j10 x0 x1 x8 x9 x10 x11 x12 x13 (b0.getD (Int.toNat (IntKind.i64.wrap (x2 - (1 : Int)))) (ByteArray.empty)) x15 b0)) (j10 x0 x1 x8 x9 x10 x11 x12 x13 x14 x15 b0))
def j10 (l15 : ByteArray → Int → Int → Int → Int → Int → ByteArray → Bool → ByteArray → Bool → Int → Int → (List ByteArray) → (List Int) → Prop) (x0 : ByteArray) (x1 : Int) (x8 : Int) (x9 : Int) (x10 : Int) (x11 : Int) (x12 : ByteArray) (x13 : Bool) (x14 : ByteArray) (x15 : Bool) (b0 : (List ByteArray)) (k : Bool → Prop) : Prop :=
  (N55.f x0 (fun (z0_5 : (List Int)) => (br (((((z0_5).length : Nat) : Int)) != ((((b0).length : Nat) : Int))) (k false) (l15 x0 x1 x8 x9 x10 x11 x12 x13 x14 x15 (0 : Int) (0 : Int) b0 z0_5))))
def l15 (j20 : ByteArray → Int → Int → Int → Int → Int → ByteArray → Bool → ByteArray → Bool → (List ByteArray) → Prop) (ag15 : Int → Int → (List ByteArray) → (List Int) → Prop) (x0 : ByteArray) (x1 : Int) (x8 : Int) (x9 : Int) (x10 : Int) (x11 : Int) (x12 : ByteArray) (x13 : Bool) (x14 : ByteArray) (x15 : Bool) (x17 : Int) (x18 : Int) (b0 : (List ByteArray)) (b1 : (List Int)) (k : Bool → Prop) : Prop :=
  (br (decide (x18 < ((((b0).length : Nat) : Int)))) ((inB 0 x18 ((((b1).length : Nat) : Int) - 1)) ∧ (br ((b1.getD (Int.toNat x18) (0)) != x17) (k false) ((inB 0 x18 ((((b0).length : Nat) : Int) - 1)) ∧ (ag15 (IntKind.i64.wrap ((IntKind.i64.wrap (x17 + (((((b0.getD (Int.toNat x18) (ByteArray.empty))).size : Nat) : Int)))) + (1 : Int))) (IntKind.i64.wrap (x18 + (1 : Int))) b0 b1)))) (j20 x0 x1 x8 x9 x10 x11 x12 x13 x14 x15 b0))
def j20 (x0 : ByteArray) (x1 : Int) (x8 : Int) (x9 : Int) (x10 : Int) (x11 : Int) (x12 : ByteArray) (x13 : Bool) (x14 : ByteArray) (x15 : Bool) (b0 : (List ByteArray)) (k : Bool → Prop) : Prop :=
  (N56.f x0 (fun (y0_6 : Int) => (br (y0_6 == ((((b0).length : Nat) : Int))) (br (x8 == x10) (br (x9 == x11) (br (beqS x12 x14) (br (x13 == x15) (N57.f x0 x1 (fun (y0_7 : ByteArray) => (N58.f x0 x1 (fun (y0_8 : ByteArray) => (br (beqS y0_7 y0_8) (N50.f (fun (y0_9 : Bool) => (k y0_9))) (k false)))))) (k false)) (k false)) (k false)) (k false)) (k false))))
def c (j8 : ByteArray → Int → Int → Int → Int → Int → Int → ByteArray → Bool → ByteArray → Bool → (List ByteArray) → Prop) (x0 : ByteArray) (x1 : Int) (x2 : Int) (k : Bool → Prop) : Prop :=
  (br (decide (((((x0).size : Nat) : Int)) > (400 : Int))) (N50.f (fun (y0_0 : Bool) => (k y0_0))) (N51.f x0 (fun (z0_1 : (List ByteArray)) => (N52.f x0 x1 (fun (y0_2 : Int) (y1_2 : Int) => (N53.f x0 x1 (fun (y0_3 : Int) (y1_3 : Int) => (N54.f x0 x2 (fun (y0_4 : ByteArray) (y1_4 : Bool) => (br (decide (x2 ≥ (1 : Int))) (j8 x0 x1 x2 y0_2 y1_2 y0_3 y1_3 y0_4 y1_4 (ByteArray.mk #[]) (decide (x2 ≤ ((((z0_1).length : Nat) : Int)))) z0_1) (j8 x0 x1 x2 y0_2 y1_2 y0_3 y1_3 y0_4 y1_4 (ByteArray.mk #[]) false z0_1)))))))))))
def j20' (x0 : ByteArray) (x1 : Int) (x8 : Int) (x9 : Int) (x10 : Int) (x11 : Int) (x12 : ByteArray) (x13 : Bool) (x14 : ByteArray) (x15 : Bool) (b0 : (List ByteArray)) (k : Bool → Prop) : Prop := j20 x0 x1 x8 x9 x10 x11 x12 x13 x14 x15 b0 k
def l15' (x0 : ByteArray) (x1 : Int) (x8 : Int) (x9 : Int) (x10 : Int) (x11 : Int) (x12 : ByteArray) (x13 : Bool) (x14 : ByteArray) (x15 : Bool) (x17 : Int) (x18 : Int) (b0 : (List ByteArray)) (b1 : (List Int)) (k : Bool → Prop) : Prop := ∃ n, loopS (fun (ag : (Int × Int × (List ByteArray) × (List Int)) → Prop) (s : Int × Int × (List ByteArray) × (List Int)) => l15 (fun x0 x1 x8 x9 x10 x11 x12 x13 x14 x15 b0 => j20' x0 x1 x8 x9 x10 x11 x12 x13 x14 x15 b0 k) (fun x17 x18 b0 b1 => ag (x17, x18, b0, b1)) x0 x1 x8 x9 x10 x11 x12 x13 x14 x15 s.1 s.2.1 s.2.2.1 s.2.2.2 k) n (x17, x18, b0, b1)
def j10' (x0 : ByteArray) (x1 : Int) (x8 : Int) (x9 : Int) (x10 : Int) (x11 : Int) (x12 : ByteArray) (x13 : Bool) (x14 : ByteArray) (x15 : Bool) (b0 : (List ByteArray)) (k : Bool → Prop) : Prop := j10 (fun x0 x1 x8 x9 x10 x11 x12 x13 x14 x15 x17 x18 b0 b1 => l15' x0 x1 x8 x9 x10 x11 x12 x13 x14 x15 x17 x18 b0 b1 k) x0 x1 x8 x9 x10 x11 x12 x13 x14 x15 b0 k
def j8' (x0 : ByteArray) (x1 : Int) (x2 : Int) (x8 : Int) (x9 : Int) (x10 : Int) (x11 : Int) (x12 : ByteArray) (x13 : Bool) (x14 : ByteArray) (x15 : Bool) (b0 : (List ByteArray)) (k : Bool → Prop) : Prop := j8 (fun x0 x1 x8 x9 x10 x11 x12 x13 x14 x15 b0 => j10' x0 x1 x8 x9 x10 x11 x12 x13 x14 x15 b0 k) x0 x1 x2 x8 x9 x10 x11 x12 x13 x14 x15 b0 k
def f0 (x0 : ByteArray) (x1 : Int) (x2 : Int) (k : Bool → Prop) : Prop := c (fun x0 x1 x2 x8 x9 x10 x11 x12 x13 x14 x15 b0 => j8' x0 x1 x2 x8 x9 x10 x11 x12 x13 x14 x15 b0 k) x0 x1 x2 k
theorem f_ex : ∃ g : ByteArray → Int → Int → (Bool → Prop) → Prop, g = f0 := ⟨_, rfl⟩
noncomputable def f : ByteArray → Int → Int → (Bool → Prop) → Prop := Classical.choose f_ex
theorem f_def : f = f0 := Classical.choose_spec f_ex
def m8 (x0 : ByteArray) (x1 : Int) (x2 : Int) (x8 : Int) (x9 : Int) (x10 : Int) (x11 : Int) (x12 : ByteArray) (x13 : Bool) (x14 : ByteArray) (x15 : Bool) (b0 : (List ByteArray)) : St := { tmps := mkT 121 0 [(0, (.v (.string x0))), (1, (.v (.int IntKind.i64 x1))), (2, (.v (.int IntKind.i64 x2))), (7, (.sl 0 0)), (8, (.v (.int IntKind.i64 x8))), (9, (.v (.int IntKind.i64 x9))), (10, (.v (.int IntKind.i64 x10))), (11, (.v (.int IntKind.i64 x11))), (12, (.v (.string x12))), (13, (.v (.bool x13))), (14, (.v (.string x14))), (15, (.v (.bool x15)))], hp := [(.lst 9 Ty.str b0 0 false)], m := 0 }
def m10 (x0 : ByteArray) (x1 : Int) (x8 : Int) (x9 : Int) (x10 : Int) (x11 : Int) (x12 : ByteArray) (x13 : Bool) (x14 : ByteArray) (x15 : Bool) (b0 : (List ByteArray)) : St := { tmps := mkT 121 0 [(0, (.v (.string x0))), (1, (.v (.int IntKind.i64 x1))), (7, (.sl 0 0)), (8, (.v (.int IntKind.i64 x8))), (9, (.v (.int IntKind.i64 x9))), (10, (.v (.int IntKind.i64 x10))), (11, (.v (.int IntKind.i64 x11))), (12, (.v (.string x12))), (13, (.v (.bool x13))), (14, (.v (.string x14))), (15, (.v (.bool x15)))], hp := [(.lst 9 Ty.str b0 0 false)], m := 0 }
def mL15 (x0 : ByteArray) (x1 : Int) (x8 : Int) (x9 : Int) (x10 : Int) (x11 : Int) (x12 : ByteArray) (x13 : Bool) (x14 : ByteArray) (x15 : Bool) (x17 : Int) (x18 : Int) (b0 : (List ByteArray)) (b1 : (List Int)) : St := { tmps := mkT 121 0 [(0, (.v (.string x0))), (1, (.v (.int IntKind.i64 x1))), (7, (.sl 0 0)), (8, (.v (.int IntKind.i64 x8))), (9, (.v (.int IntKind.i64 x9))), (10, (.v (.int IntKind.i64 x10))), (11, (.v (.int IntKind.i64 x11))), (12, (.v (.string x12))), (13, (.v (.bool x13))), (14, (.v (.string x14))), (15, (.v (.bool x15))), (16, (.sl 1 0)), (17, (.v (.int IntKind.i64 x17))), (18, (.v (.int IntKind.i64 x18)))], hp := [(.lst 9 Ty.str b0 0 false), (.lst 3 (Ty.int IntKind.i64) b1 0 false)], m := 0 }
def m20 (x0 : ByteArray) (x1 : Int) (x8 : Int) (x9 : Int) (x10 : Int) (x11 : Int) (x12 : ByteArray) (x13 : Bool) (x14 : ByteArray) (x15 : Bool) (b0 : (List ByteArray)) : St := { tmps := mkT 121 0 [(0, (.v (.string x0))), (1, (.v (.int IntKind.i64 x1))), (7, (.sl 0 0)), (8, (.v (.int IntKind.i64 x8))), (9, (.v (.int IntKind.i64 x9))), (10, (.v (.int IntKind.i64 x10))), (11, (.v (.int IntKind.i64 x11))), (12, (.v (.string x12))), (13, (.v (.bool x13))), (14, (.v (.string x14))), (15, (.v (.bool x15)))], hp := [(.lst 9 Ty.str b0 0 false)], m := 0 }
noncomputable def X8 (k kp : D → List Blk → Prop) : St → Prop := atP cfg (pick none' []) [1, 1, 1, 1, 1, 1, 1] body (topK cfg Try.f12 k kp)
noncomputable def X10 (k kp : D → List Blk → Prop) : St → Prop := atP cfg (pick none' []) [1, 1, 1, 1, 1, 1, 1, 1] body (topK cfg Try.f12 k kp)
noncomputable def YL15 (k kp : D → List Blk → Prop) : (St → Prop) → St → Prop := loopB cfg (sub [1, 1, 1, 1, 1, 1, 1, 1, 1, 1, 1, 0, 1, 0, 0] body) (contK cfg (pick none' []) [1, 1, 1, 1, 1, 1, 1, 1, 1, 1, 1, 0, 1, 0] body (topK cfg Try.f12 k kp))
noncomputable def XL15 (k kp : D → List Blk → Prop) : St → Prop := fun st => ∃ n, loopN (YL15 k kp) n st
noncomputable def X20 (k kp : D → List Blk → Prop) : St → Prop := atP cfg (pick none' []) [1, 1, 1, 1, 1, 1, 1, 1, 1, 1, 1, 1] body (topK cfg Try.f12 k kp)
noncomputable def JJ (k kp : D → List Blk → Prop) : Nat → St → Prop := pick none' [(8, X8 k kp), (10, X10 k kp), (20, X20 k kp)]
noncomputable def LL (k kp : D → List Blk → Prop) : Nat → St → Prop := pick none' [(15, XL15 k kp)]
noncomputable def JJ_15 (k kp : D → List Blk → Prop) (ag15 : St → Prop) : Nat → St → Prop := pick none' [(8, X8 k kp), (10, X10 k kp), (20, X20 k kp)]
noncomputable def LL_15 (k kp : D → List Blk → Prop) (ag15 : St → Prop) : Nat → St → Prop := pick none' [(15, XL15 k kp)]
theorem j20_c (k kp : D → List Blk → Prop) (J L : Nat → St → Prop) (x0 : ByteArray) (x1 : Int) (x8 : Int) (x9 : Int) (x10 : Int) (x11 : Int) (x12 : ByteArray) (x13 : Bool) (x14 : ByteArray) (x15 : Bool) (b0 : (List ByteArray)) : runC cfg 20 J L (pick none' []) [1, 1, 1, 1, 1, 1, 1, 1, 1, 1, 1, 1] body (topK cfg Try.f12 k kp) (m20 x0 x1 x8 x9 x10 x11 x12 x13 x14 x15 b0) = j20 x0 x1 x8 x9 x10 x11 x12 x13 x14 x15 b0 (fun y0 => k (.v (.bool y0)) []) := by kernel_rfl
theorem j20_ag (k kp : D → List Blk → Prop) : agPL cfg 20 (JJ k kp) (LL k kp) [1, 1, 1, 1, 1, 1, 1, 1, 1, 1, 1, 1] body = agPR cfg 20 (pick none' []) [1, 1, 1, 1, 1, 1, 1, 1, 1, 1, 1, 1] body (topK cfg Try.f12 k kp) := by kernel_rfl
theorem j20_raw (k kp : D → List Blk → Prop) (x0 : ByteArray) (x1 : Int) (x8 : Int) (x9 : Int) (x10 : Int) (x11 : Int) (x12 : ByteArray) (x13 : Bool) (x14 : ByteArray) (x15 : Bool) (b0 : (List ByteArray)) : X20 k kp (m20 x0 x1 x8 x9 x10 x11 x12 x13 x14 x15 b0) = j20 x0 x1 x8 x9 x10 x11 x12 x13 x14 x15 b0 (fun y0 => k (.v (.bool y0)) []) :=
  Eq.mp (by kernel_rfl) ((atP_run (j20_ag k kp) (m20 x0 x1 x8 x9 x10 x11 x12 x13 x14 x15 b0)).trans (j20_c k kp (JJ k kp) (LL k kp) x0 x1 x8 x9 x10 x11 x12 x13 x14 x15 b0))
theorem j20_eq (k kp : D → List Blk → Prop) (x0 : ByteArray) (x1 : Int) (x8 : Int) (x9 : Int) (x10 : Int) (x11 : Int) (x12 : ByteArray) (x13 : Bool) (x14 : ByteArray) (x15 : Bool) (b0 : (List ByteArray)) : X20 k kp (m20 x0 x1 x8 x9 x10 x11 x12 x13 x14 x15 b0) = j20' x0 x1 x8 x9 x10 x11 x12 x13 x14 x15 b0 (fun y0 => k (.v (.bool y0)) []) := by
  rw [j20_raw]; rfl
theorem l15_c (k kp : D → List Blk → Prop) (J L : Nat → St → Prop) (ag15 : St → Prop) (x0 : ByteArray) (x1 : Int) (x8 : Int) (x9 : Int) (x10 : Int) (x11 : Int) (x12 : ByteArray) (x13 : Bool) (x14 : ByteArray) (x15 : Bool) (x17 : Int) (x18 : Int) (b0 : (List ByteArray)) (b1 : (List Int)) : runC cfg 1000001 J L (pick none' [(15, ag15)]) [1, 1, 1, 1, 1, 1, 1, 1, 1, 1, 1, 0, 1, 0, 0] body (topK cfg Try.f12 k kp) (mL15 x0 x1 x8 x9 x10 x11 x12 x13 x14 x15 x17 x18 b0 b1) = l15 (fun x0 x1 x8 x9 x10 x11 x12 x13 x14 x15 b0 => J 20 (m20 x0 x1 x8 x9 x10 x11 x12 x13 x14 x15 b0)) (fun x17 x18 b0 b1 => ag15 (mL15 x0 x1 x8 x9 x10 x11 x12 x13 x14 x15 x17 x18 b0 b1)) x0 x1 x8 x9 x10 x11 x12 x13 x14 x15 x17 x18 b0 b1 (fun y0 => k (.v (.bool y0)) []) := by kernel_rfl
theorem l15_ag (k kp : D → List Blk → Prop) (ag15 : St → Prop) : agPL cfg 1000001 (JJ_15 k kp ag15) (LL_15 k kp ag15) [1, 1, 1, 1, 1, 1, 1, 1, 1, 1, 1, 0, 1, 0, 0] body = agPR cfg 1000001 (pick none' [(15, ag15)]) [1, 1, 1, 1, 1, 1, 1, 1, 1, 1, 1, 0, 1, 0, 0] body (topK cfg Try.f12 k kp) := by kernel_rfl
theorem l15_raw (k kp : D → List Blk → Prop) (ag15 : St → Prop) (x0 : ByteArray) (x1 : Int) (x8 : Int) (x9 : Int) (x10 : Int) (x11 : Int) (x12 : ByteArray) (x13 : Bool) (x14 : ByteArray) (x15 : Bool) (x17 : Int) (x18 : Int) (b0 : (List ByteArray)) (b1 : (List Int)) : YL15 k kp ag15 (mL15 x0 x1 x8 x9 x10 x11 x12 x13 x14 x15 x17 x18 b0 b1) = l15 (fun x0 x1 x8 x9 x10 x11 x12 x13 x14 x15 b0 => X20 k kp (m20 x0 x1 x8 x9 x10 x11 x12 x13 x14 x15 b0)) (fun x17 x18 b0 b1 => ag15 (mL15 x0 x1 x8 x9 x10 x11 x12 x13 x14 x15 x17 x18 b0 b1)) x0 x1 x8 x9 x10 x11 x12 x13 x14 x15 x17 x18 b0 b1 (fun y0 => k (.v (.bool y0)) []) :=
  Eq.mp (by kernel_rfl) ((atP_run (l15_ag k kp ag15) (mL15 x0 x1 x8 x9 x10 x11 x12 x13 x14 x15 x17 x18 b0 b1)).trans (l15_c k kp (JJ_15 k kp ag15) (LL_15 k kp ag15) ag15 x0 x1 x8 x9 x10 x11 x12 x13 x14 x15 x17 x18 b0 b1))
theorem l15_eq (k kp : D → List Blk → Prop) (x0 : ByteArray) (x1 : Int) (x8 : Int) (x9 : Int) (x10 : Int) (x11 : Int) (x12 : ByteArray) (x13 : Bool) (x14 : ByteArray) (x15 : Bool) (x17 : Int) (x18 : Int) (b0 : (List ByteArray)) (b1 : (List Int)) : XL15 k kp (mL15 x0 x1 x8 x9 x10 x11 x12 x13 x14 x15 x17 x18 b0 b1) = l15' x0 x1 x8 x9 x10 x11 x12 x13 x14 x15 x17 x18 b0 b1 (fun y0 => k (.v (.bool y0)) []) :=
  loop_eq (mk := fun (s : Int × Int × (List ByteArray) × (List Int)) => mL15 x0 x1 x8 x9 x10 x11 x12 x13 x14 x15 s.1 s.2.1 s.2.2.1 s.2.2.2) (fun again s => by rw [l15_raw k kp again x0 x1 x8 x9 x10 x11 x12 x13 x14 x15 s.1 s.2.1 s.2.2.1 s.2.2.2]; simp only [j20_eq]; first | done | rfl) (x17, x18, b0, b1)
theorem j10_c (k kp : D → List Blk → Prop) (J L : Nat → St → Prop) (x0 : ByteArray) (x1 : Int) (x8 : Int) (x9 : Int) (x10 : Int) (x11 : Int) (x12 : ByteArray) (x13 : Bool) (x14 : ByteArray) (x15 : Bool) (b0 : (List ByteArray)) : runC cfg 10 J L (pick none' []) [1, 1, 1, 1, 1, 1, 1, 1] body (topK cfg Try.f12 k kp) (m10 x0 x1 x8 x9 x10 x11 x12 x13 x14 x15 b0) = j10 (fun x0 x1 x8 x9 x10 x11 x12 x13 x14 x15 x17 x18 b0 b1 => L 15 (mL15 x0 x1 x8 x9 x10 x11 x12 x13 x14 x15 x17 x18 b0 b1)) x0 x1 x8 x9 x10 x11 x12 x13 x14 x15 b0 (fun y0 => k (.v (.bool y0)) []) := by kernel_rfl
theorem j10_ag (k kp : D → List Blk → Prop) : agPL cfg 10 (JJ k kp) (LL k kp) [1, 1, 1, 1, 1, 1, 1, 1] body = agPR cfg 10 (pick none' []) [1, 1, 1, 1, 1, 1, 1, 1] body (topK cfg Try.f12 k kp) := by kernel_rfl
theorem j10_raw (k kp : D → List Blk → Prop) (x0 : ByteArray) (x1 : Int) (x8 : Int) (x9 : Int) (x10 : Int) (x11 : Int) (x12 : ByteArray) (x13 : Bool) (x14 : ByteArray) (x15 : Bool) (b0 : (List ByteArray)) : X10 k kp (m10 x0 x1 x8 x9 x10 x11 x12 x13 x14 x15 b0) = j10 (fun x0 x1 x8 x9 x10 x11 x12 x13 x14 x15 x17 x18 b0 b1 => XL15 k kp (mL15 x0 x1 x8 x9 x10 x11 x12 x13 x14 x15 x17 x18 b0 b1)) x0 x1 x8 x9 x10 x11 x12 x13 x14 x15 b0 (fun y0 => k (.v (.bool y0)) []) :=
  Eq.mp (by kernel_rfl) ((atP_run (j10_ag k kp) (m10 x0 x1 x8 x9 x10 x11 x12 x13 x14 x15 b0)).trans (j10_c k kp (JJ k kp) (LL k kp) x0 x1 x8 x9 x10 x11 x12 x13 x14 x15 b0))
theorem j10_eq (k kp : D → List Blk → Prop) (x0 : ByteArray) (x1 : Int) (x8 : Int) (x9 : Int) (x10 : Int) (x11 : Int) (x12 : ByteArray) (x13 : Bool) (x14 : ByteArray) (x15 : Bool) (b0 : (List ByteArray)) : X10 k kp (m10 x0 x1 x8 x9 x10 x11 x12 x13 x14 x15 b0) = j10' x0 x1 x8 x9 x10 x11 x12 x13 x14 x15 b0 (fun y0 => k (.v (.bool y0)) []) := by
  rw [j10_raw]; simp only [l15_eq]; first | done | rfl
theorem j8_c (k kp : D → List Blk → Prop) (J L : Nat → St → Prop) (x0 : ByteArray) (x1 : Int) (x2 : Int) (x8 : Int) (x9 : Int) (x10 : Int) (x11 : Int) (x12 : ByteArray) (x13 : Bool) (x14 : ByteArray) (x15 : Bool) (b0 : (List ByteArray)) : runC cfg 8 J L (pick none' []) [1, 1, 1, 1, 1, 1, 1] body (topK cfg Try.f12 k kp) (m8 x0 x1 x2 x8 x9 x10 x11 x12 x13 x14 x15 b0) = j8 (fun x0 x1 x8 x9 x10 x11 x12 x13 x14 x15 b0 => J 10 (m10 x0 x1 x8 x9 x10 x11 x12 x13 x14 x15 b0)) x0 x1 x2 x8 x9 x10 x11 x12 x13 x14 x15 b0 (fun y0 => k (.v (.bool y0)) []) := by kernel_rfl
theorem j8_ag (k kp : D → List Blk → Prop) : agPL cfg 8 (JJ k kp) (LL k kp) [1, 1, 1, 1, 1, 1, 1] body = agPR cfg 8 (pick none' []) [1, 1, 1, 1, 1, 1, 1] body (topK cfg Try.f12 k kp) := by kernel_rfl
theorem j8_raw (k kp : D → List Blk → Prop) (x0 : ByteArray) (x1 : Int) (x2 : Int) (x8 : Int) (x9 : Int) (x10 : Int) (x11 : Int) (x12 : ByteArray) (x13 : Bool) (x14 : ByteArray) (x15 : Bool) (b0 : (List ByteArray)) : X8 k kp (m8 x0 x1 x2 x8 x9 x10 x11 x12 x13 x14 x15 b0) = j8 (fun x0 x1 x8 x9 x10 x11 x12 x13 x14 x15 b0 => X10 k kp (m10 x0 x1 x8 x9 x10 x11 x12 x13 x14 x15 b0)) x0 x1 x2 x8 x9 x10 x11 x12 x13 x14 x15 b0 (fun y0 => k (.v (.bool y0)) []) :=
  Eq.mp (by kernel_rfl) ((atP_run (j8_ag k kp) (m8 x0 x1 x2 x8 x9 x10 x11 x12 x13 x14 x15 b0)).trans (j8_c k kp (JJ k kp) (LL k kp) x0 x1 x2 x8 x9 x10 x11 x12 x13 x14 x15 b0))
theorem j8_eq (k kp : D → List Blk → Prop) (x0 : ByteArray) (x1 : Int) (x2 : Int) (x8 : Int) (x9 : Int) (x10 : Int) (x11 : Int) (x12 : ByteArray) (x13 : Bool) (x14 : ByteArray) (x15 : Bool) (b0 : (List ByteArray)) : X8 k kp (m8 x0 x1 x2 x8 x9 x10 x11 x12 x13 x14 x15 b0) = j8' x0 x1 x2 x8 x9 x10 x11 x12 x13 x14 x15 b0 (fun y0 => k (.v (.bool y0)) []) := by
  rw [j8_raw]; simp only [j10_eq]; first | done | rfl
theorem c_c (k kp : D → List Blk → Prop) (J L : Nat → St → Prop) (x0 : ByteArray) (x1 : Int) (x2 : Int) : runC cfg 1000001 J L none'' [] body (topK cfg Try.f12 k kp) (st0 Try.f12 [(.v (.string x0)), (.v (.int IntKind.i64 x1)), (.v (.int IntKind.i64 x2))] []) = c (fun x0 x1 x2 x8 x9 x10 x11 x12 x13 x14 x15 b0 => J 8 (m8 x0 x1 x2 x8 x9 x10 x11 x12 x13 x14 x15 b0)) x0 x1 x2 (fun y0 => k (.v (.bool y0)) []) := by kernel_rfl
theorem c_ag (k kp : D → List Blk → Prop) : agPL cfg 1000001 (JJ k kp) (LL k kp) [] body = agPR cfg 1000001 none'' [] body (topK cfg Try.f12 k kp) := by kernel_rfl
theorem body_is : Try.f12.body = some body := by kernel_rfl
theorem c_raw (k kp : D → List Blk → Prop) (x0 : ByteArray) (x1 : Int) (x2 : Int) : funW cfg Try.f12 [(.v (.string x0)), (.v (.int IntKind.i64 x1)), (.v (.int IntKind.i64 x2))] [] k kp = c (fun x0 x1 x2 x8 x9 x10 x11 x12 x13 x14 x15 b0 => X8 k kp (m8 x0 x1 x2 x8 x9 x10 x11 x12 x13 x14 x15 b0)) x0 x1 x2 (fun y0 => k (.v (.bool y0)) []) :=
  Eq.mp (by kernel_rfl) ((funW_run (AG := none'') body_is (c_ag k kp) [(.v (.string x0)), (.v (.int IntKind.i64 x1)), (.v (.int IntKind.i64 x2))] []).trans (c_c k kp (JJ k kp) (LL k kp) x0 x1 x2))
theorem f_eq (k kp : D → List Blk → Prop) (x0 : ByteArray) (x1 : Int) (x2 : Int) : funW cfg Try.f12 [(.v (.string x0)), (.v (.int IntKind.i64 x1)), (.v (.int IntKind.i64 x2))] [] k kp = f x0 x1 x2 (fun y0 => k (.v (.bool y0)) []) := by
  rw [f_def, c_raw]; simp only [j8_eq]; first | done | rfl
noncomputable def ent0 : Entry := fun args blks k _ => match args, blks with
  | [d0, d1, d2], [] => aStr d0 fun x0 => aInt IntKind.i64 d1 fun x1 => aInt IntKind.i64 d2 fun x2 => f x0 x1 x2 (fun y0 => k (.v (.bool y0)) [])
  | _, _ => False
noncomputable def ent : Entry := fun args blks k kp => ent0 (convB [.no, .no, .no] args) blks k kp
theorem ok : EntOk Try.prog 0 0 12 ent := by
  refine EntOk.convB (EntOk.of (funW_ok (cfg := cfg) (tyOk_of rfl rfl tyL_ok) (eqOk_of (P := Try.prog) rfl rfl (by kernel_rfl)) mixed_ok (tab_ok ?_) Try.func12 (by rfl) (by rfl)) ?_) _
  · intro p hp
    simp only [List.mem_cons, List.not_mem_nil, or_false] at hp
    rcases hp with rfl | rfl | rfl | rfl | rfl | rfl | rfl | rfl | rfl
    · exact N50.ok
    · exact N51.ok
    · exact N52.ok
    · exact N53.ok
    · exact N54.ok
    · exact N55.ok
    · exact N56.ok
    · exact N57.ok
    · exact N58.ok
  · intro args blks k kp h k' kp'
    match args, blks, h with
    | [d0, d1, d2], [], h =>
    dsimp only [ent0] at h
    have h9 := aStr_elim h; clear h; obtain ⟨x0, rfl, h⟩ := h9
    have h9 := aInt_elim h; clear h; obtain ⟨x1, rfl, h⟩ := h9
    have h9 := aInt_elim h; clear h; obtain ⟨x2, rfl, h⟩ := h9
    exact (f_eq k' kp' x0 x1 x2).symm
end N12
end Go.Proofs.Yu
namespace Go.Proofs.Yu
open Go Go.Aw Go.Proofs
set_option linter.unusedVariables false
set_option linter.unusedSimpArgs false
set_option maxRecDepth 100000
/-! dyehouse/dyehouselaw06.LinesBack -/
namespace N13
noncomputable def cfg : Cfg := { P := Try.prog, ty := tys, E := tab [(50, N50.ent), (52, N52.ent), (59, N59.ent)], atSeq := tab [(2000010, ⟨[(0, .keep), (1, .keep), (2, .keep), (7, .keep), (8, .keep), (9, .keep), (10, .keep), (44, .keep)]⟩), (13, ⟨[(0, .keep), (1, .keep), (2, .keep), (7, .keep)]⟩), (11, ⟨[(0, .keep), (1, .keep), (2, .keep), (7, .keep), (8, .keep), (9, .keep), (10, .keep)]⟩), (2000012, ⟨[(0, .keep), (1, .keep), (2, .keep), (7, .keep), (8, .keep), (52, .keep)]⟩), (6, ⟨[(0, .keep), (1, .keep), (2, .keep), (7, .keep), (8, .keep)]⟩)], atLoop := tab [(5, ⟨[(0, .keep), (1, .keep), (2, .keep), (7, .keep), (8, .keep)]⟩)], outs := [], eqT := tab [], bT := tab [] }
noncomputable def body : Code := bodyOf Try.f13
def l5 (j2000010 : ByteArray → Int → Int → Int → Int → Int → Int → Bool → Prop) (j13 : ByteArray → Int → Int → Int → Prop) (x0 : ByteArray) (x1 : Int) (x2 : Int) (x7 : Int) (x8 : Int) (k : Bool → Prop) : Prop :=
  (br (decide (x8 ≤ ((((x0).size : Nat) : Int)))) (N52.f x0 x8 (fun (y0_1 : Int) (y1_1 : Int) => (N59.f x0 y0_1 y1_1 (fun (y0_2 : Int) (y1_2 : Bool) => (br (!y1_2) (j2000010 x0 x1 x2 x7 x8 y0_1 y1_1 true) (j2000010 x0 x1 x2 x7 x8 y0_1 y1_1 (y0_2 != x8))))))) (j13 x0 x1 x2 x7))
def j2000010 (j11 : ByteArray → Int → Int → Int → Int → Int → Int → Prop) (x0 : ByteArray) (x1 : Int) (x2 : Int) (x7 : Int) (x8 : Int) (x9 : Int) (x10 : Int) (x44 : Bool) (k : Bool → Prop) : Prop :=
  (br x44 (k false) (j11 x0 x1 x2 x7 x8 x9 x10))
def j13 (x0 : ByteArray) (x1 : Int) (x2 : Int) (x7 : Int) (k : Bool → Prop) : Prop :=
  (N59.f x0 x1 x2 (fun (y0_3 : Int) (y1_3 : Bool) => (br (y1_3 == (decide (x7 ≥ (0 : Int)))) (br (!y1_3) (br (y0_3 == (0 : Int)) (N50.f (fun (y0_4 : Bool) => (k y0_4))) (br (y0_3 == x7) (N50.f (fun (y0_5 : Bool) => (k y0_5))) (k false))) (br (y0_3 == x7) (N50.f (fun (y0_6 : Bool) => (k y0_6))) (k false))) (k false))))
def j11 (j2000012 : ByteArray → Int → Int → Int → Int → Bool → Prop) (x0 : ByteArray) (x1 : Int) (x2 : Int) (x7 : Int) (x8 : Int) (x9 : Int) (x10 : Int) (k : Bool → Prop) : Prop :=
  (br (x9 == x1) (j2000012 x0 x1 x2 x7 x8 (x10 == x2)) (j2000012 x0 x1 x2 x7 x8 false))
def j2000012 (j6 : ByteArray → Int → Int → Int → Int → Prop) (x0 : ByteArray) (x1 : Int) (x2 : Int) (x7 : Int) (x8 : Int) (x52 : Bool) (k : Bool → Prop) : Prop :=
  (br x52 (j6 x0 x1 x2 x8 x8) (j6 x0 x1 x2 x7 x8))
def j6 (ag5 : Int → Int → Prop) (x0 : ByteArray) (x1 : Int) (x2 : Int) (x7 : Int) (x8 : Int) (k : Bool → Prop) : Prop :=
  (ag5 x7 (IntKind.i64.wrap (x8 + (1 : Int))))
def c (l5 : ByteArray → Int → Int → Int → Int → Prop) (x0 : ByteArray) (x1 : Int) (x2 : Int) (k : Bool → Prop) : Prop :=
  (br (decide (((((x0).size : Nat) : Int)) > (200 : Int))) (N50.f (fun (y0_0 : Bool) => (k y0_0))) (l5 x0 x1 x2 (-1 : Int) (0 : Int)))
def j13' (x0 : ByteArray) (x1 : Int) (x2 : Int) (x7 : Int) (k : Bool → Prop) : Prop := j13 x0 x1 x2 x7 k
def j6' (ag5 : Int → Int → Prop) (x0 : ByteArray) (x1 : Int) (x2 : Int) (x7 : Int) (x8 : Int) (k : Bool → Prop) : Prop := j6 ag5 x0 x1 x2 x7 x8 k
def j2000012' (ag5 : Int → Int → Prop) (x0 : ByteArray) (x1 : Int) (x2 : Int) (x7 : Int) (x8 : Int) (x52 : Bool) (k : Bool → Prop) : Prop := j2000012 (fun x0 x1 x2 x7 x8 => j6' ag5 x0 x1 x2 x7 x8 k) x0 x1 x2 x7 x8 x52 k
def j11' (ag5 : Int → Int → Prop) (x0 : ByteArray) (x1 : Int) (x2 : Int) (x7 : Int) (x8 : Int) (x9 : Int) (x10 : Int) (k : Bool → Prop) : Prop := j11 (fun x0 x1 x2 x7 x8 x52 => j2000012' ag5 x0 x1 x2 x7 x8 x52 k) x0 x1 x2 x7 x8 x9 x10 k
def j2000010' (ag5 : Int → Int → Prop) (x0 : ByteArray) (x1 : Int) (x2 : Int) (x7 : Int) (x8 : Int) (x9 : Int) (x10 : Int) (x44 : Bool) (k : Bool → Prop) : Prop := j2000010 (fun x0 x1 x2 x7 x8 x9 x10 => j11' ag5 x0 x1 x2 x7 x8 x9 x10 k) x0 x1 x2 x7 x8 x9 x10 x44 k
def l5' (x0 : ByteArray) (x1 : Int) (x2 : Int) (x7 : Int) (x8 : Int) (k : Bool → Prop) : Prop := ∃ n, loopS (fun (ag : (Int × Int) → Prop) (s : Int × Int) => l5 (fun x0 x1 x2 x7 x8 x9 x10 x44 => j2000010' (fun x7 x8 => ag (x7, x8)) x0 x1 x2 x7 x8 x9 x10 x44 k) (fun x0 x1 x2 x7 => j13' x0 x1 x2 x7 k) x0 x1 x2 s.1 s.2 k) n (x7, x8)
def f0 (x0 : ByteArray) (x1 : Int) (x2 : Int) (k : Bool → Prop) : Prop := c (fun x0 x1 x2 x7 x8 => l5' x0 x1 x2 x7 x8 k) x0 x1 x2 k
theorem f_ex : ∃ g : ByteArray → Int → Int → (Bool → Prop) → Prop, g = f0 := ⟨_, rfl⟩
noncomputable def f : ByteArray → Int → Int → (Bool → Prop) → Prop := Classical.choose f_ex
theorem f_def : f = f0 := Classical.choose_spec f_ex
def mL5 (x0 : ByteArray) (x1 : Int) (x2 : Int) (x7 : Int) (x8 : Int) : St := { tmps := mkT 81 0 [(0, (.v (.string x0))), (1, (.v (.int IntKind.i64 x1))), (2, (.v (.int IntKind.i64 x2))), (7, (.v (.int IntKind.i64 x7))), (8, (.v (.int IntKind.i64 x8)))], hp := [], m := 0 }
def m2000010 (x0 : ByteArray) (x1 : Int) (x2 : Int) (x7 : Int) (x8 : Int) (x9 : Int) (x10 : Int) (x44 : Bool) : St := { tmps := mkT 81 0 [(0, (.v (.string x0))), (1, (.v (.int IntKind.i64 x1))), (2, (.v (.int IntKind.i64 x2))), (7, (.v (.int IntKind.i64 x7))), (8, (.v (.int IntKind.i64 x8))), (9, (.v (.int IntKind.i64 x9))), (10, (.v (.int IntKind.i64 x10))), (44, (.v (.bool x44)))], hp := [], m := 0 }
def m13 (x0 : ByteArray) (x1 : Int) (x2 : Int) (x7 : Int) : St := { tmps := mkT 81 0 [(0, (.v (.string x0))), (1, (.v (.int IntKind.i64 x1))), (2, (.v (.int IntKind.i64 x2))), (7, (.v (.int IntKind.i64 x7)))], hp := [], m := 0 }
def m11 (x0 : ByteArray) (x1 : Int) (x2 : Int) (x7 : Int) (x8 : Int) (x9 : Int) (x10 : Int) : St := { tmps := mkT 81 0 [(0, (.v (.string x0))), (1, (.v (.int IntKind.i64 x1))), (2, (.v (.int IntKind.i64 x2))), (7, (.v (.int IntKind.i64 x7))), (8, (.v (.int IntKind.i64 x8))), (9, (.v (.int IntKind.i64 x9))), (10, (.v (.int IntKind.i64 x10)))], hp := [], m := 0 }
def m2000012 (x0 : ByteArray) (x1 : Int) (x2 : Int) (x7 : Int) (x8 : Int) (x52 : Bool) : St := { tmps := mkT 81 0 [(0, (.v (.string x0))), (1, (.v (.int IntKind.i64 x1))), (2, (.v (.int IntKind.i64 x2))), (7, (.v (.int IntKind.i64 x7))), (8, (.v (.int IntKind.i64 x8))), (52, (.v (.bool x52)))], hp := [], m := 0 }
def m6 (x0 : ByteArray) (x1 : Int) (x2 : Int) (x7 : Int) (x8 : Int) : St := { tmps := mkT 81 0 [(0, (.v (.string x0))), (1, (.v (.int IntKind.i64 x1))), (2, (.v (.int IntKind.i64 x2))), (7, (.v (.int IntKind.i64 x7))), (8, (.v (.int IntKind.i64 x8)))], hp := [], m := 0 }
noncomputable def YL5 (k kp : D → List Blk → Prop) : (St → Prop) → St → Prop := loopB cfg (sub [1, 1, 1, 0, 1, 0, 0] body) (contK cfg (pick none' []) [1, 1, 1, 0, 1, 0] body (topK cfg Try.f13 k kp))
noncomputable def XL5 (k kp : D → List Blk → Prop) : St → Prop := fun st => ∃ n, loopN (YL5 k kp) n st
noncomputable def X2000010 (k kp : D → List Blk → Prop) (ag5 : St → Prop) : St → Prop := atP cfg (pick none' [(5, ag5)]) [1, 1, 1, 0, 1, 0, 0, 1, 0, 0, 1, 1, 0, 1] body (topK cfg Try.f13 k kp)
noncomputable def X13 (k kp : D → List Blk → Prop) : St → Prop := atP cfg (pick none' []) [1, 1, 1, 1] body (topK cfg Try.f13 k kp)
noncomputable def X11 (k kp : D → List Blk → Prop) (ag5 : St → Prop) : St → Prop := atP cfg (pick none' [(5, ag5)]) [1, 1, 1, 0, 1, 0, 0, 1, 0, 0, 1, 1, 1] body (topK cfg Try.f13 k kp)
noncomputable def X2000012 (k kp : D → List Blk → Prop) (ag5 : St → Prop) : St → Prop := atP cfg (pick none' [(5, ag5)]) [1, 1, 1, 0, 1, 0, 0, 1, 0, 0, 1, 1, 1, 1] body (topK cfg Try.f13 k kp)
noncomputable def X6 (k kp : D → List Blk → Prop) (ag5 : St → Prop) : St → Prop := atP cfg (pick none' [(5, ag5)]) [1, 1, 1, 0, 1, 0, 0, 1, 1] body (topK cfg Try.f13 k kp)
noncomputable def JJ_5 (k kp : D → List Blk → Prop) (ag5 : St → Prop) : Nat → St → Prop := pick none' [(2000010, X2000010 k kp ag5), (13, X13 k kp), (11, X11 k kp ag5), (2000012, X2000012 k kp ag5), (6, X6 k kp ag5)]
noncomputable def LL_5 (k kp : D → List Blk → Prop) (ag5 : St → Prop) : Nat → St → Prop := pick none' [(5, XL5 k kp)]
noncomputable def JJ (k kp : D → List Blk → Prop) : Nat → St → Prop := pick none' [(13, X13 k kp)]
noncomputable def LL (k kp : D → List Blk → Prop) : Nat → St → Prop := pick none' [(5, XL5 k kp)]
theorem j13_c (k kp : D → List Blk → Prop) (J L : Nat → St → Prop) (x0 : ByteArray) (x1 : Int) (x2 : Int) (x7 : Int) : runC cfg 13 J L (pick none' []) [1, 1, 1, 1] body (topK cfg Try.f13 k kp) (m13 x0 x1 x2 x7) = j13 x0 x1 x2 x7 (fun y0 => k (.v (.bool y0)) []) := by kernel_rfl
theorem j13_ag (k kp : D → List Blk → Prop) : agPL cfg 13 (JJ k kp) (LL k kp) [1, 1, 1, 1] body = agPR cfg 13 (pick none' []) [1, 1, 1, 1] body (topK cfg Try.f13 k kp) := by kernel_rfl
theorem j13_raw (k kp : D → List Blk → Prop) (x0 : ByteArray) (x1 : Int) (x2 : Int) (x7 : Int) : X13 k kp (m13 x0 x1 x2 x7) = j13 x0 x1 x2 x7 (fun y0 => k (.v (.bool y0)) []) :=
  Eq.mp (by kernel_rfl) ((atP_run (j13_ag k kp) (m13 x0 x1 x2 x7)).trans (j13_c k kp (JJ k kp) (LL k kp) x0 x1 x2 x7))
theorem j13_eq (k kp : D → List Blk → Prop) (x0 : ByteArray) (x1 : Int) (x2 : Int) (x7 : Int) : X13 k kp (m13 x0 x1 x2 x7) = j13' x0 x1 x2 x7 (fun y0 => k (.v (.bool y0)) []) := by
  rw [j13_raw]; rfl
theorem j6_c (k kp : D → List Blk → Prop) (J L : Nat → St → Prop) (ag5 : St → Prop) (x0 : ByteArray) (x1 : Int) (x2 : Int) (x7 : Int) (x8 : Int) : runC cfg 6 J L (pick none' [(5, ag5)]) [1, 1, 1, 0, 1, 0, 0, 1, 1] body (topK cfg Try.f13 k kp) (m6 x0 x1 x2 x7 x8) = j6 (fun x7 x8 => ag5 (mL5 x0 x1 x2 x7 x8)) x0 x1 x2 x7 x8 (fun y0 => k (.v (.bool y0)) []) := by kernel_rfl
theorem j6_ag (k kp : D → List Blk → Prop) (ag5 : St → Prop) : agPL cfg 6 (JJ_5 k kp ag5) (LL_5 k kp ag5) [1, 1, 1, 0, 1, 0, 0, 1, 1] body = agPR cfg 6 (pick none' [(5, ag5)]) [1, 1, 1, 0, 1, 0, 0, 1, 1] body (topK cfg Try.f13 k kp) := by kernel_rfl
theorem j6_raw (k kp : D → List Blk → Prop) (ag5 : St → Prop) (x0 : ByteArray) (x1 : Int) (x2 : Int) (x7 : Int) (x8 : Int) : X6 k kp ag5 (m6 x0 x1 x2 x7 x8) = j6 (fun x7 x8 => ag5 (mL5 x0 x1 x2 x7 x8)) x0 x1 x2 x7 x8 (fun y0 => k (.v (.bool y0)) []) :=
  Eq.mp (by kernel_rfl) ((atP_run (j6_ag k kp ag5) (m6 x0 x1 x2 x7 x8)).trans (j6_c k kp (JJ_5 k kp ag5) (LL_5 k kp ag5) ag5 x0 x1 x2 x7 x8))
theorem j6_eq (k kp : D → List Blk → Prop) (ag5 : St → Prop) (x0 : ByteArray) (x1 : Int) (x2 : Int) (x7 : Int) (x8 : Int) : X6 k kp ag5 (m6 x0 x1 x2 x7 x8) = j6' (fun x7 x8 => ag5 (mL5 x0 x1 x2 x7 x8)) x0 x1 x2 x7 x8 (fun y0 => k (.v (.bool y0)) []) := by
  rw [j6_raw]; rfl
theorem j2000012_c (k kp : D → List Blk → Prop) (J L : Nat → St → Prop) (ag5 : St → Prop) (x0 : ByteArray) (x1 : Int) (x2 : Int) (x7 : Int) (x8 : Int) (x52 : Bool) : runC cfg 2000012 J L (pick none' [(5, ag5)]) [1, 1, 1, 0, 1, 0, 0, 1, 0, 0, 1, 1, 1, 1] body (topK cfg Try.f13 k kp) (m2000012 x0 x1 x2 x7 x8 x52) = j2000012 (fun x0 x1 x2 x7 x8 => J 6 (m6 x0 x1 x2 x7 x8)) x0 x1 x2 x7 x8 x52 (fun y0 => k (.v (.bool y0)) []) := by kernel_rfl
theorem j2000012_ag (k kp : D → List Blk → Prop) (ag5 : St → Prop) : agPL cfg 2000012 (JJ_5 k kp ag5) (LL_5 k kp ag5) [1, 1, 1, 0, 1, 0, 0, 1, 0, 0, 1, 1, 1, 1] body = agPR cfg 2000012 (pick none' [(5, ag5)]) [1, 1, 1, 0, 1, 0, 0, 1, 0, 0, 1, 1, 1, 1] body (topK cfg Try.f13 k kp) := by kernel_rfl
theorem j2000012_raw (k kp : D → List Blk → Prop) (ag5 : St → Prop) (x0 : ByteArray) (x1 : Int) (x2 : Int) (x7 : Int) (x8 : Int) (x52 : Bool) : X2000012 k kp ag5 (m2000012 x0 x1 x2 x7 x8 x52) = j2000012 (fun x0 x1 x2 x7 x8 => X6 k kp ag5 (m6 x0 x1 x2 x7 x8)) x0 x1 x2 x7 x8 x52 (fun y0 => k (.v (.bool y0)) []) :=
  Eq.mp (by kernel_rfl) ((atP_run (j2000012_ag k kp ag5) (m2000012 x0 x1 x2 x7 x8 x52)).trans (j2000012_c k kp (JJ_5 k kp ag5) (LL_5 k kp ag5) ag5 x0 x1 x2 x7 x8 x52))
theorem j2000012_eq (k kp : D → List Blk → Prop) (ag5 : St → Prop) (x0 : ByteArray) (x1 : Int) (x2 : Int) (x7 : Int) (x8 : Int) (x52 : Bool) : X2000012 k kp ag5 (m2000012 x0 x1 x2 x7 x8 x52) = j2000012' (fun x7 x8 => ag5 (mL5 x0 x1 x2 x7 x8)) x0 x1 x2 x7 x8 x52 (fun y0 => k (.v (.bool y0)) []) := by
  rw [j2000012_raw]; simp only [j6_eq]; first | done | rfl
theorem j11_c (k kp : D → List Blk → Prop) (J L : Nat → St → Prop) (ag5 : St → Prop) (x0 : ByteArray) (x1 : Int) (x2 : Int) (x7 : Int) (x8 : Int) (x9 : Int) (x10 : Int) : runC cfg 11 J L (pick none' [(5, ag5)]) [1, 1, 1, 0, 1, 0, 0, 1, 0, 0, 1, 1, 1] body (topK cfg Try.f13 k kp) (m11 x0 x1 x2 x7 x8 x9 x10) = j11 (fun x0 x1 x2 x7 x8 x52 => J 2000012 (m2000012 x0 x1 x2 x7 x8 x52)) x0 x1 x2 x7 x8 x9 x10 (fun y0 => k (.v (.bool y0)) []) := by kernel_rfl
theorem j11_ag (k kp : D → List Blk → Prop) (ag5 : St → Prop) : agPL cfg 11 (JJ_5 k kp ag5) (LL_5 k kp ag5) [1, 1, 1, 0, 1, 0, 0, 1, 0, 0, 1, 1, 1] body = agPR cfg 11 (pick none' [(5, ag5)]) [1, 1, 1, 0, 1, 0, 0, 1, 0, 0, 1, 1, 1] body (topK cfg Try.f13 k kp) := by kernel_rfl
theorem j11_raw (k kp : D → List Blk → Prop) (ag5 : St → Prop) (x0 : ByteArray) (x1 : Int) (x2 : Int) (x7 : Int) (x8 : Int) (x9 : Int) (x10 : Int) : X11 k kp ag5 (m11 x0 x1 x2 x7 x8 x9 x10) = j11 (fun x0 x1 x2 x7 x8 x52 => X2000012 k kp ag5 (m2000012 x0 x1 x2 x7 x8 x52)) x0 x1 x2 x7 x8 x9 x10 (fun y0 => k (.v (.bool y0)) []) :=
  Eq.mp (by kernel_rfl) ((atP_run (j11_ag k kp ag5) (m11 x0 x1 x2 x7 x8 x9 x10)).trans (j11_c k kp (JJ_5 k kp ag5) (LL_5 k kp ag5) ag5 x0 x1 x2 x7 x8 x9 x10))
theorem j11_eq (k kp : D → List Blk → Prop) (ag5 : St → Prop) (x0 : ByteArray) (x1 : Int) (x2 : Int) (x7 : Int) (x8 : Int) (x9 : Int) (x10 : Int) : X11 k kp ag5 (m11 x0 x1 x2 x7 x8 x9 x10) = j11' (fun x7 x8 => ag5 (mL5 x0 x1 x2 x7 x8)) x0 x1 x2 x7 x8 x9 x10 (fun y0 => k (.v (.bool y0)) []) := by
  rw [j11_raw]; simp only [j2000012_eq]; first | done | rfl
theorem j2000010_c (k kp : D → List Blk → Prop) (J L : Nat → St → Prop) (ag5 : St → Prop) (x0 : ByteArray) (x1 : Int) (x2 : Int) (x7 : Int) (x8 : Int) (x9 : Int) (x10 : Int) (x44 : Bool) : runC cfg 2000010 J L (pick none' [(5, ag5)]) [1, 1, 1, 0, 1, 0, 0, 1, 0, 0, 1, 1, 0, 1] body (topK cfg Try.f13 k kp) (m2000010 x0 x1 x2 x7 x8 x9 x10 x44) = j2000010 (fun x0 x1 x2 x7 x8 x9 x10 => J 11 (m11 x0 x1 x2 x7 x8 x9 x10)) x0 x1 x2 x7 x8 x9 x10 x44 (fun y0 => k (.v (.bool y0)) []) := by kernel_rfl
theorem j2000010_ag (k kp : D → List Blk → Prop) (ag5 : St → Prop) : agPL cfg 2000010 (JJ_5 k kp ag5) (LL_5 k kp ag5) [1, 1, 1, 0, 1, 0, 0, 1, 0, 0, 1, 1, 0, 1] body = agPR cfg 2000010 (pick none' [(5, ag5)]) [1, 1, 1, 0, 1, 0, 0, 1, 0, 0, 1, 1, 0, 1] body (topK cfg Try.f13 k kp) := by kernel_rfl
theorem j2000010_raw (k kp : D → List Blk → Prop) (ag5 : St → Prop) (x0 : ByteArray) (x1 : Int) (x2 : Int) (x7 : Int) (x8 : Int) (x9 : Int) (x10 : Int) (x44 : Bool) : X2000010 k kp ag5 (m2000010 x0 x1 x2 x7 x8 x9 x10 x44) = j2000010 (fun x0 x1 x2 x7 x8 x9 x10 => X11 k kp ag5 (m11 x0 x1 x2 x7 x8 x9 x10)) x0 x1 x2 x7 x8 x9 x10 x44 (fun y0 => k (.v (.bool y0)) []) :=
  Eq.mp (by kernel_rfl) ((atP_run (j2000010_ag k kp ag5) (m2000010 x0 x1 x2 x7 x8 x9 x10 x44)).trans (j2000010_c k kp (JJ_5 k kp ag5) (LL_5 k kp ag5) ag5 x0 x1 x2 x7 x8 x9 x10 x44))
theorem j2000010_eq (k kp : D → List Blk → Prop) (ag5 : St → Prop) (x0 : ByteArray) (x1 : Int) (x2 : Int) (x7 : Int) (x8 : Int) (x9 : Int) (x10 : Int) (x44 : Bool) : X2000010 k kp ag5 (m2000010 x0 x1 x2 x7 x8 x9 x10 x44) = j2000010' (fun x7 x8 => ag5 (mL5 x0 x1 x2 x7 x8)) x0 x1 x2 x7 x8 x9 x10 x44 (fun y0 => k (.v (.bool y0)) []) := by
  rw [j2000010_raw]; simp only [j11_eq]; first | done | rfl
theorem l5_c (k kp : D → List Blk → Prop) (J L : Nat → St → Prop) (ag5 : St → Prop) (x0 : ByteArray) (x1 : Int) (x2 : Int) (x7 : Int) (x8 : Int) : runC cfg 1000001 J L (pick none' [(5, ag5)]) [1, 1, 1, 0, 1, 0, 0] body (topK cfg Try.f13 k kp) (mL5 x0 x1 x2 x7 x8) = l5 (fun x0 x1 x2 x7 x8 x9 x10 x44 => J 2000010 (m2000010 x0 x1 x2 x7 x8 x9 x10 x44)) (fun x0 x1 x2 x7 => J 13 (m13 x0 x1 x2 x7)) x0 x1 x2 x7 x8 (fun y0 => k (.v (.bool y0)) []) := by kernel_rfl
theorem l5_ag (k kp : D → List Blk → Prop) (ag5 : St → Prop) : agPL cfg 1000001 (JJ_5 k kp ag5) (LL_5 k kp ag5) [1, 1, 1, 0, 1, 0, 0] body = agPR cfg 1000001 (pick none' [(5, ag5)]) [1, 1, 1, 0, 1, 0, 0] body (topK cfg Try.f13 k kp) := by kernel_rfl
theorem l5_raw (k kp : D → List Blk → Prop) (ag5 : St → Prop) (x0 : ByteArray) (x1 : Int) (x2 : Int) (x7 : Int) (x8 : Int) : YL5 k kp ag5 (mL5 x0 x1 x2 x7 x8) = l5 (fun x0 x1 x2 x7 x8 x9 x10 x44 => X2000010 k kp ag5 (m2000010 x0 x1 x2 x7 x8 x9 x10 x44)) (fun x0 x1 x2 x7 => X13 k kp (m13 x0 x1 x2 x7)) x0 x1 x2 x7 x8 (fun y0 => k (.v (.bool y0)) []) :=
  Eq.mp (by kernel_rfl) ((atP_run (l5_ag k kp ag5) (mL5 x0 x1 x2 x7 x8)).trans (l5_c k kp (JJ_5 k kp ag5) (LL_5 k kp ag5) ag5 x0 x1 x2 x7 x8))
theorem l5_eq (k kp : D → List Blk → Prop) (x0 : ByteArray) (x1 : Int) (x2 : Int) (x7 : Int) (x8 : Int) : XL5 k kp (mL5 x0 x1 x2 x7 x8) = l5' x0 x1 x2 x7 x8 (fun y0 => k (.v (.bool y0)) []) :=
  loop_eq (mk := fun (s : Int × Int) => mL5 x0 x1 x2 s.1 s.2) (fun again s => by rw [l5_raw k kp again x0 x1 x2 s.1 s.2]; simp only [j2000010_eq, j13_eq]; first | done | rfl) (x7, x8)
theorem c_c (k kp : D → List Blk → Prop) (J L : Nat → St → Prop) (x0 : ByteArray) (x1 : Int) (x2 : Int) : runC cfg 1000001 J L none'' [] body (topK cfg Try.f13 k kp) (st0 Try.f13 [(.v (.string x0)), (.v (.int IntKind.i64 x1)), (.v (.int IntKind.i64 x2))] []) = c (fun x0 x1 x2 x7 x8 => L 5 (mL5 x0 x1 x2 x7 x8)) x0 x1 x2 (fun y0 => k (.v (.bool y0)) []) := by kernel_rfl
theorem c_ag (k kp : D → List Blk → Prop) : agPL cfg 1000001 (JJ k kp) (LL k kp) [] body = agPR cfg 1000001 none'' [] body (topK cfg Try.f13 k kp) := by kernel_rfl
theorem body_is : Try.f13.body = some body := by kernel_rfl
theorem c_raw (k kp : D → List Blk → Prop) (x0 : ByteArray) (x1 : Int) (x2 : Int) : funW cfg Try.f13 [(.v (.string x0)), (.v (.int IntKind.i64 x1)), (.v (.int IntKind.i64 x2))] [] k kp = c (fun x0 x1 x2 x7 x8 => XL5 k kp (mL5 x0 x1 x2 x7 x8)) x0 x1 x2 (fun y0 => k (.v (.bool y0)) []) :=
  Eq.mp (by kernel_rfl) ((funW_run (AG := none'') body_is (c_ag k kp) [(.v (.string x0)), (.v (.int IntKind.i64 x1)), (.v (.int IntKind.i64 x2))] []).trans (c_c k kp (JJ k kp) (LL k kp) x0 x1 x2))
theorem f_eq (k kp : D → List Blk → Prop) (x0 : ByteArray) (x1 : Int) (x2 : Int) : funW cfg Try.f13 [(.v (.string x0)), (.v (.int IntKind.i64 x1)), (.v (.int IntKind.i64 x2))] [] k kp = f x0 x1 x2 (fun y0 => k (.v (.bool y0)) []) := by
  rw [f_def, c_raw]; simp only [l5_eq]; first | done | rfl
noncomputable def ent0 : Entry := fun args blks k _ => match args, blks with
  | [d0, d1, d2], [] => aStr d0 fun x0 => aInt IntKind.i64 d1 fun x1 => aInt IntKind.i64 d2 fun x2 => f x0 x1 x2 (fun y0 => k (.v (.bool y0)) [])
  | _, _ => False
noncomputable def ent : Entry := fun args blks k kp => ent0 (convB [.no, .no, .no] args) blks k kp
theorem ok : EntOk Try.prog 0 0 13 ent := by
  refine EntOk.convB (EntOk.of (funW_ok (cfg := cfg) (tyOk_of rfl rfl tyL_ok) (eqOk_of (P := Try.prog) rfl rfl (by kernel_rfl)) mixed_ok (tab_ok ?_) Try.func13 (by rfl) (by rfl)) ?_) _
  · intro p hp
    simp only [List.mem_cons, List.not_mem_nil, or_false] at hp
    rcases hp with rfl | rfl | rfl
    · exact N50.ok
    · exact N52.ok
    · exact N59.ok
  · intro args blks k kp h k' kp'
    match args, blks, h with
    | [d0, d1, d2], [], h =>
    dsimp only [ent0] at h
    have h9 := aStr_elim h; clear h; obtain ⟨x0, rfl, h⟩ := h9
    have h9 := aInt_elim h; clear h; obtain ⟨x1, rfl, h⟩ := h9
    have h9 := aInt_elim h; clear h; obtain ⟨x2, rfl, h⟩ := h9
    exact (f_eq k' kp' x0 x1 x2).symm
end N13
end Go.Proofs.Yu
namespace Go.Proofs.Yu
open Go Go.Aw Go.Proofs
set_option linter.unusedVariables false
set_option linter.unusedSimpArgs false
set_option maxRecDepth 100000
/-! dyehouse/dyehouselaw06.LinesMarks -/
namespace N14
noncomputable def cfg : Cfg := { P := Try.prog, ty := tys, E := tab [(50, N50.ent), (57, N57.ent), (52, N52.ent), (51, N51.ent)], atSeq := tab [(2000006, ⟨[(5, .keep), (7, .keep), (30, .keep)]⟩), (7, ⟨[(5, .keep), (7, .keep)]⟩), (2000009, ⟨[(7, .keep), (8, .keep), (58, .keep)]⟩), (10, ⟨[(7, .keep), (8, .keep)]⟩), (2000014, ⟨[(7, .keep), (8, .keep), (9, .keep), (93, .keep)]⟩), (15, ⟨[(7, .keep), (8, .keep)]⟩), (12, ⟨[(7, .keep), (8, .keep), (9, .keep)]⟩)], atLoop := tab [(11, ⟨[(7, .keep), (8, .keep), (9, .keep)]⟩)], outs := [], eqT := tab [], bT := tab [] }
noncomputable def body : Code := bodyOf Try.f14
def j2000006 (j7 : ByteArray → Int → Prop) (x5 : ByteArray) (x7 : Int) (x30 : Bool) (k : Bool → Prop) : Prop :=
  (br x30 (br (beqS x5 (ByteArray.mk #[])) (br (x7 == (0 : Int)) (N50.f (fun (y0_3 : Bool) => (k y0_3))) (k false)) (k false)) (j7 x5 x7))
def j7 (j2000009 : Int → Bool → (List ByteArray) → Prop) (x5 : ByteArray) (x7 : Int) (k : Bool → Prop) : Prop :=
  (N51.f x5 (fun (z0_4 : (List ByteArray)) => (br (((((z0_4).length : Nat) : Int)) != (4 : Int)) (j2000009 x7 true z0_4) ((inB 0 (3 : Int) ((((z0_4).length : Nat) : Int) - 1)) ∧ (br (!(beqS (z0_4.getD (Int.toNat (3 : Int)) (ByteArray.empty)) (ByteArray.mk #[]))) (j2000009 x7 true z0_4) ((inB 0 (2 : Int) ((((z0_4).length : Nat) : Int) - 1)) ∧ (j2000009 x7 ((((((z0_4.getD (Int.toNat (2 : Int)) (ByteArray.empty))).size : Nat) : Int)) != x7) z0_4)))))))
def j2000009 (j10 : Int → (List ByteArray) → Prop) (x7 : Int) (x58 : Bool) (b0 : (List ByteArray)) (k : Bool → Prop) : Prop :=
  (br x58 (k false) (j10 x7 b0))
def j10 (l11 : Int → Int → (List ByteArray) → Prop) (x7 : Int) (b0 : (List ByteArray)) (k : Bool → Prop) : Prop :=
  (l11 x7 (0 : Int) b0)
def l11 (j2000014 : Int → Int → Bool → (List ByteArray) → Prop) (j15 : Int → (List ByteArray) → Prop) (x7 : Int) (x9 : Int) (b0 : (List ByteArray)) (k : Bool → Prop) : Prop :=
  (br (decide (x9 < (IntKind.i64.wrap (x7 - (1 : Int))))) ((inB 0 (2 : Int) ((((b0).length : Nat) : Int) - 1)) ∧ ((inB 0 x9 (((((b0.getD (Int.toNat (2 : Int)) (ByteArray.empty))).size : Nat) : Int) - 1)) ∧ (br ((byteAt (b0.getD (Int.toNat (2 : Int)) (ByteArray.empty)) x9) != (32 : Int)) ((inB 0 (2 : Int) ((((b0).length : Nat) : Int) - 1)) ∧ ((inB 0 x9 (((((b0.getD (Int.toNat (2 : Int)) (ByteArray.empty))).size : Nat) : Int) - 1)) ∧ (br ((byteAt (b0.getD (Int.toNat (2 : Int)) (ByteArray.empty)) x9) != (9 : Int)) (j2000014 x7 x9 true b0) ((inB 0 (2 : Int) ((((b0).length : Nat) : Int) - 1)) ∧ ((inB 0 x9 (((((b0.getD (Int.toNat (2 : Int)) (ByteArray.empty))).size : Nat) : Int) - 1)) ∧ ((inB 0 (1 : Int) ((((b0).length : Nat) : Int) - 1)) ∧ ((inB 0 x9 (((((b0.getD (Int.toNat (1 : Int)) (ByteArray.empty))).size : Nat) : Int) - 1)) ∧ (j2000014 x7 x9 (!(((byteAt (b0.getD (Int.toNat (2 : Int)) (ByteArray.empty)) x9) == (9 : Int)) == ((byteAt (b0.getD (Int.toNat (1 : Int)) (ByteArray.empty)) x9) == (9 : Int)))) b0)))))))) ((inB 0 (2 : Int) ((((b0).length : Nat) : Int) - 1)) ∧ ((inB 0 x9 (((((b0.getD (Int.toNat (2 : Int)) (ByteArray.empty))).size : Nat) : Int) - 1)) ∧ ((inB 0 (1 : Int) ((((b0).length : Nat) : Int) - 1)) ∧ ((inB 0 x9 (((((b0.getD (Int.toNat (1 : Int)) (ByteArray.empty))).size : Nat) : Int) - 1)) ∧ (j2000014 x7 x9 (!(((byteAt (b0.getD (Int.toNat (2 : Int)) (ByteArray.empty)) x9) == (9 : Int)) == ((byteAt (b0.getD (Int.toNat (1 : Int)) (ByteArray.empty)) x9) == (9 : Int)))) b0)))))))) (j15 x7 b0))
def j2000014 (j12 : Int → Int → (List ByteArray) → Prop) (x7 : Int) (x9 : Int) (x93 : Bool) (b0 : (List ByteArray)) (k : Bool → Prop) : Prop :=
  (br x93 (k false) (j12 x7 x9 b0))
def j15 (x7 : Int) (b0 : (List ByteArray)) (k : Bool → Prop) : Prop :=
  ((inB 0 (2 : Int) ((((b0).length : Nat) : Int) - 1)) ∧ ((inB (IntKind.i64.wrap (x7 - (1 : Int))) ((((b0.getD (Int.toNat (2 : Int)) (ByteArray.empty))).size : Nat) : Int) ((((b0.getD (Int.toNat (2 : Int)) (ByteArray.empty))).size : Nat) : Int)) ∧ (br (beqS (ByteArray.extract (b0.getD (Int.toNat (2 : Int)) (ByteArray.empty)) (Int.toNat (IntKind.i64.wrap (x7 - (1 : Int)))) (Int.toNat ((((b0.getD (Int.toNat (2 : Int)) (ByteArray.empty))).size : Nat) : Int))) (ByteArray.mk #[94])) (N50.f (fun (y0_5 : Bool) => (k y0_5))) (k false))))
def j12 (ag11 : Int → (List ByteArray) → Prop) (x7 : Int) (x9 : Int) (b0 : (List ByteArray)) (k : Bool → Prop) : Prop :=
  (ag11 (IntKind.i64.wrap (x9 + (1 : Int))) b0)
def c (j2000006 : ByteArray → Int → Bool → Prop) (x0 : ByteArray) (x1 : Int) (k : Bool → Prop) : Prop :=
  (br (decide (((((x0).size : Nat) : Int)) > (300 : Int))) (N50.f (fun (y0_0 : Bool) => (k y0_0))) (N57.f x0 x1 (fun (y0_1 : ByteArray) => (N52.f x0 x1 (fun (y0_2 : Int) (y1_2 : Int) => (br (decide (x1 < (0 : Int))) (j2000006 y0_1 y1_2 true) (j2000006 y0_1 y1_2 (decide (x1 > ((((x0).size : Nat) : Int)))))))))))
def j15' (x7 : Int) (b0 : (List ByteArray)) (k : Bool → Prop) : Prop := j15 x7 b0 k
def j12' (ag11 : Int → (List ByteArray) → Prop) (x7 : Int) (x9 : Int) (b0 : (List ByteArray)) (k : Bool → Prop) : Prop := j12 ag11 x7 x9 b0 k
def j2000014' (ag11 : Int → (List ByteArray) → Prop) (x7 : Int) (x9 : Int) (x93 : Bool) (b0 : (List ByteArray)) (k : Bool → Prop) : Prop := j2000014 (fun x7 x9 b0 => j12' ag11 x7 x9 b0 k) x7 x9 x93 b0 k
def l11' (x7 : Int) (x9 : Int) (b0 : (List ByteArray)) (k : Bool → Prop) : Prop := ∃ n, loopS (fun (ag : (Int × (List ByteArray)) → Prop) (s : Int × (List ByteArray)) => l11 (fun x7 x9 x93 b0 => j2000014' (fun x9 b0 => ag (x9, b0)) x7 x9 x93 b0 k) (fun x7 b0 => j15' x7 b0 k) x7 s.1 s.2 k) n (x9, b0)
def j10' (x7 : Int) (b0 : (List ByteArray)) (k : Bool → Prop) : Prop := j10 (fun x7 x9 b0 => l11' x7 x9 b0 k) x7 b0 k
def j2000009' (x7 : Int) (x58 : Bool) (b0 : (List ByteArray)) (k : Bool → Prop) : Prop := j2000009 (fun x7 b0 => j10' x7 b0 k) x7 x58 b0 k
def j7' (x5 : ByteArray) (x7 : Int) (k : Bool → Prop) : Prop := j7 (fun x7 x58 b0 => j2000009' x7 x58 b0 k) x5 x7 k
def j2000006' (x5 : ByteArray) (x7 : Int) (x30 : Bool) (k : Bool → Prop) : Prop := j2000006 (fun x5 x7 => j7' x5 x7 k) x5 x7 x30 k
def f0 (x0 : ByteArray) (x1 : Int) (k : Bool → Prop) : Prop := c (fun x5 x7 x30 => j2000006' x5 x7 x30 k) x0 x1 k
theorem f_ex : ∃ g : ByteArray → Int → (Bool → Prop) → Prop, g = f0 := ⟨_, rfl⟩
noncomputable def f : ByteArray → Int → (Bool → Prop) → Prop := Classical.choose f_ex
theorem f_def : f = f0 := Classical.choose_spec f_ex
def m2000006 (x5 : ByteArray) (x7 : Int) (x30 : Bool) : St := { tmps := mkT 104 0 [(5, (.v (.string x5))), (7, (.v (.int IntKind.i64 x7))), (30, (.v (.bool x30)))], hp := [], m := 0 }
def m7 (x5 : ByteArray) (x7 : Int) : St := { tmps := mkT 104 0 [(5, (.v (.string x5))), (7, (.v (.int IntKind.i64 x7)))], hp := [], m := 0 }
def m2000009 (x7 : Int) (x58 : Bool) (b0 : (List ByteArray)) : St := { tmps := mkT 104 0 [(7, (.v (.int IntKind.i64 x7))), (8, (.sl 0 0)), (58, (.v (.bool x58)))], hp := [(.lst 9 Ty.str b0 0 false)], m := 0 }
def m10 (x7 : Int) (b0 : (List ByteArray)) : St := { tmps := mkT 104 0 [(7, (.v (.int IntKind.i64 x7))), (8, (.sl 0 0))], hp := [(.lst 9 Ty.str b0 0 false)], m := 0 }
def mL11 (x7 : Int) (x9 : Int) (b0 : (List ByteArray)) : St := { tmps := mkT 104 0 [(7, (.v (.int IntKind.i64 x7))), (8, (.sl 0 0)), (9, (.v (.int IntKind.i64 x9)))], hp := [(.lst 9 Ty.str b0 0 false)], m := 0 }
def m2000014 (x7 : Int) (x9 : Int) (x93 : Bool) (b0 : (List ByteArray)) : St := { tmps := mkT 104 0 [(7, (.v (.int IntKind.i64 x7))), (8, (.sl 0 0)), (9, (.v (.int IntKind.i64 x9))), (93, (.v (.bool x93)))], hp := [(.lst 9 Ty.str b0 0 false)], m := 0 }
def m15 (x7 : Int) (b0 : (List ByteArray)) : St := { tmps := mkT 104 0 [(7, (.v (.int IntKind.i64 x7))), (8, (.sl 0 0))], hp := [(.lst 9 Ty.str b0 0 false)], m := 0 }
def m12 (x7 : Int) (x9 : Int) (b0 : (List ByteArray)) : St := { tmps := mkT 104 0 [(7, (.v (.int IntKind.i64 x7))), (8, (.sl 0 0)), (9, (.v (.int IntKind.i64 x9)))], hp := [(.lst 9 Ty.str b0 0 false)], m := 0 }
noncomputable def X2000006 (k kp : D → List Blk → Prop) : St → Prop := atP cfg (pick none' []) [1, 1, 1, 1, 0, 1] body (topK cfg Try.f14 k kp)
noncomputable def X7 (k kp : D → List Blk → Prop) : St → Prop := atP cfg (pick none' []) [1, 1, 1, 1, 1] body (topK cfg Try.f14 k kp)
noncomputable def X2000009 (k kp : D → List Blk → Prop) : St → Prop := atP cfg (pick none' []) [1, 1, 1, 1, 1, 1, 0, 1] body (topK cfg Try.f14 k kp)
noncomputable def X10 (k kp : D → List Blk → Prop) : St → Prop := atP cfg (pick none' []) [1, 1, 1, 1, 1, 1, 1] body (topK cfg Try.f14 k kp)
noncomputable def YL11 (k kp : D → List Blk → Prop) : (St → Prop) → St → Prop := loopB cfg (sub [1, 1, 1, 1, 1, 1, 1, 0, 1, 0, 0] body) (contK cfg (pick none' []) [1, 1, 1, 1, 1, 1, 1, 0, 1, 0] body (topK cfg Try.f14 k kp))
noncomputable def XL11 (k kp : D → List Blk → Prop) : St → Prop := fun st => ∃ n, loopN (YL11 k kp) n st
noncomputable def X2000014 (k kp : D → List Blk → Prop) (ag11 : St → Prop) : St → Prop := atP cfg (pick none' [(11, ag11)]) [1, 1, 1, 1, 1, 1, 1, 0, 1, 0, 0, 1, 0, 0, 1] body (topK cfg Try.f14 k kp)
noncomputable def X15 (k kp : D → List Blk → Prop) : St → Prop := atP cfg (pick none' []) [1, 1, 1, 1, 1, 1, 1, 1] body (topK cfg Try.f14 k kp)
noncomputable def X12 (k kp : D → List Blk → Prop) (ag11 : St → Prop) : St → Prop := atP cfg (pick none' [(11, ag11)]) [1, 1, 1, 1, 1, 1, 1, 0, 1, 0, 0, 1, 1] body (topK cfg Try.f14 k kp)
noncomputable def JJ (k kp : D → List Blk → Prop) : Nat → St → Prop := pick none' [(2000006, X2000006 k kp), (7, X7 k kp), (2000009, X2000009 k kp), (10, X10 k kp), (15, X15 k kp)]
noncomputable def LL (k kp : D → List Blk → Prop) : Nat → St → Prop := pick none' [(11, XL11 k kp)]
noncomputable def JJ_11 (k kp : D → List Blk → Prop) (ag11 : St → Prop) : Nat → St → Prop := pick none' [(2000006, X2000006 k kp), (7, X7 k kp), (2000009, X2000009 k kp), (10, X10 k kp), (2000014, X2000014 k kp ag11), (15, X15 k kp), (12, X12 k kp ag11)]
noncomputable def LL_11 (k kp : D → List Blk → Prop) (ag11 : St → Prop) : Nat → St → Prop := pick none' [(11, XL11 k kp)]
theorem j15_c (k kp : D → List Blk → Prop) (J L : Nat → St → Prop) (x7 : Int) (b0 : (List ByteArray)) : runC cfg 15 J L (pick none' []) [1, 1, 1, 1, 1, 1, 1, 1] body (topK cfg Try.f14 k kp) (m15 x7 b0) = j15 x7 b0 (fun y0 => k (.v (.bool y0)) []) := by kernel_rfl
theorem j15_ag (k kp : D → List Blk → Prop) : agPL cfg 15 (JJ k kp) (LL k kp) [1, 1, 1, 1, 1, 1, 1, 1] body = agPR cfg 15 (pick none' []) [1, 1, 1, 1, 1, 1, 1, 1] body (topK cfg Try.f14 k kp) := by kernel_rfl
theorem j15_raw (k kp : D → List Blk → Prop) (x7 : Int) (b0 : (List ByteArray)) : X15 k kp (m15 x7 b0) = j15 x7 b0 (fun y0 => k (.v (.bool y0)) []) :=
  Eq.mp (by kernel_rfl) ((atP_run (j15_ag k kp) (m15 x7 b0)).trans (j15_c k kp (JJ k kp) (LL k kp) x7 b0))
theorem j15_eq (k kp : D → List Blk → Prop) (x7 : Int) (b0 : (List ByteArray)) : X15 k kp (m15 x7 b0) = j15' x7 b0 (fun y0 => k (.v (.bool y0)) []) := by
  rw [j15_raw]; rfl
theorem j12_c (k kp : D → List Blk → Prop) (J L : Nat → St → Prop) (ag11 : St → Prop) (x7 : Int) (x9 : Int) (b0 : (List ByteArray)) : runC cfg 12 J L (pick none' [(11, ag11)]) [1, 1, 1, 1, 1, 1, 1, 0, 1, 0, 0, 1, 1] body (topK cfg Try.f14 k kp) (m12 x7 x9 b0) = j12 (fun x9 b0 => ag11 (mL11 x7 x9 b0)) x7 x9 b0 (fun y0 => k (.v (.bool y0)) []) := by kernel_rfl
theorem j12_ag (k kp : D → List Blk → Prop) (ag11 : St → Prop) : agPL cfg 12 (JJ_11 k kp ag11) (LL_11 k kp ag11) [1, 1, 1, 1, 1, 1, 1, 0, 1, 0, 0, 1, 1] body = agPR cfg 12 (pick none' [(11, ag11)]) [1, 1, 1, 1, 1, 1, 1, 0, 1, 0, 0, 1, 1] body (topK cfg Try.f14 k kp) := by kernel_rfl
theorem j12_raw (k kp : D → List Blk → Prop) (ag11 : St → Prop) (x7 : Int) (x9 : Int) (b0 : (List ByteArray)) : X12 k kp ag11 (m12 x7 x9 b0) = j12 (fun x9 b0 => ag11 (mL11 x7 x9 b0)) x7 x9 b0 (fun y0 => k (.v (.bool y0)) []) :=
  Eq.mp (by kernel_rfl) ((atP_run (j12_ag k kp ag11) (m12 x7 x9 b0)).trans (j12_c k kp (JJ_11 k kp ag11) (LL_11 k kp ag11) ag11 x7 x9 b0))
theorem j12_eq (k kp : D → List Blk → Prop) (ag11 : St → Prop) (x7 : Int) (x9 : Int) (b0 : (List ByteArray)) : X12 k kp ag11 (m12 x7 x9 b0) = j12' (fun x9 b0 => ag11 (mL11 x7 x9 b0)) x7 x9 b0 (fun y0 => k (.v (.bool y0)) []) := by
  rw [j12_raw]; rfl
theorem j2000014_c (k kp : D → List Blk → Prop) (J L : Nat → St → Prop) (ag11 : St → Prop) (x7 : Int) (x9 : Int) (x93 : Bool) (b0 : (List ByteArray)) : runC cfg 2000014 J L (pick none' [(11, ag11)]) [1, 1, 1, 1, 1, 1, 1, 0, 1, 0, 0, 1, 0, 0, 1] body (topK cfg Try.f14 k kp) (m2000014 x7 x9 x93 b0) = j2000014 (fun x7 x9 b0 => J 12 (m12 x7 x9 b0)) x7 x9 x93 b0 (fun y0 => k (.v (.bool y0)) []) := by kernel_rfl
theorem j2000014_ag (k kp : D → List Blk → Prop) (ag11 : St → Prop) : agPL cfg 2000014 (JJ_11 k kp ag11) (LL_11 k kp ag11) [1, 1, 1, 1, 1, 1, 1, 0, 1, 0, 0, 1, 0, 0, 1] body = agPR cfg 2000014 (pick none' [(11, ag11)]) [1, 1, 1, 1, 1, 1, 1, 0, 1, 0, 0, 1, 0, 0, 1] body (topK cfg Try.f14 k kp) := by kernel_rfl
theorem j2000014_raw (k kp : D → List Blk → Prop) (ag11 : St → Prop) (x7 : Int) (x9 : Int) (x93 : Bool) (b0 : (List ByteArray)) : X2000014 k kp ag11 (m2000014 x7 x9 x93 b0) = j2000014 (fun x7 x9 b0 => X12 k kp ag11 (m12 x7 x9 b0)) x7 x9 x93 b0 (fun y0 => k (.v (.bool y0)) []) :=
  Eq.mp (by kernel_rfl) ((atP_run (j2000014_ag k kp ag11) (m2000014 x7 x9 x93 b0)).trans (j2000014_c k kp (JJ_11 k kp ag11) (LL_11 k kp ag11) ag11 x7 x9 x93 b0))
theorem j2000014_eq (k kp : D → List Blk → Prop) (ag11 : St → Prop) (x7 : Int) (x9 : Int) (x93 : Bool) (b0 : (List ByteArray)) : X2000014 k kp ag11 (m2000014 x7 x9 x93 b0) = j2000014' (fun x9 b0 => ag11 (mL11 x7 x9 b0)) x7 x9 x93 b0 (fun y0 => k (.v (.bool y0)) []) := by
  rw [j2000014_raw]; simp only [j12_eq]; first | done | rfl
theorem l11_c (k kp : D → List Blk → Prop) (J L : Nat → St → Prop) (ag11 : St → Prop) (x7 : Int) (x9 : Int) (b0 : (List ByteArray)) : runC cfg 1000001 J L (pick none' [(11, ag11)]) [1, 1, 1, 1, 1, 1, 1, 0, 1, 0, 0] body (topK cfg Try.f14 k kp) (mL11 x7 x9 b0) = l11 (fun x7 x9 x93 b0 => J 2000014 (m2000014 x7 x9 x93 b0)) (fun x7 b0 => J 15 (m15 x7 b0)) x7 x9 b0 (fun y0 => k (.v (.bool y0)) []) := by kernel_rfl
theorem l11_ag (k kp : D → List Blk → Prop) (ag11 : St → Prop) : agPL cfg 1000001 (JJ_11 k kp ag11) (LL_11 k kp ag11) [1, 1, 1, 1, 1, 1, 1, 0, 1, 0, 0] body = agPR cfg 1000001 (pick none' [(11, ag11)]) [1, 1, 1, 1, 1, 1, 1, 0, 1, 0, 0] body (topK cfg Try.f14 k kp) := by kernel_rfl
theorem l11_raw (k kp : D → List Blk → Prop) (ag11 : St → Prop) (x7 : Int) (x9 : Int) (b0 : (List ByteArray)) : YL11 k kp ag11 (mL11 x7 x9 b0) = l11 (fun x7 x9 x93 b0 => X2000014 k kp ag11 (m2000014 x7 x9 x93 b0)) (fun x7 b0 => X15 k kp (m15 x7 b0)) x7 x9 b0 (fun y0 => k (.v (.bool y0)) []) :=
  Eq.mp (by kernel_rfl) ((atP_run (l11_ag k kp ag11) (mL11 x7 x9 b0)).trans (l11_c k kp (JJ_11 k kp ag11) (LL_11 k kp ag11) ag11 x7 x9 b0))
theorem l11_eq (k kp : D → List Blk → Prop) (x7 : Int) (x9 : Int) (b0 : (List ByteArray)) : XL11 k kp (mL11 x7 x9 b0) = l11' x7 x9 b0 (fun y0 => k (.v (.bool y0)) []) :=
  loop_eq (mk := fun (s : Int × (List ByteArray)) => mL11 x7 s.1 s.2) (fun again s => by rw [l11_raw k kp again x7 s.1 s.2]; simp only [j2000014_eq, j15_eq]; first | done | rfl) (x9, b0)
theorem j10_c (k kp : D → List Blk → Prop) (J L : Nat → St → Prop) (x7 : Int) (b0 : (List ByteArray)) : runC cfg 10 J L (pick none' []) [1, 1, 1, 1, 1, 1, 1] body (topK cfg Try.f14 k kp) (m10 x7 b0) = j10 (fun x7 x9 b0 => L 11 (mL11 x7 x9 b0)) x7 b0 (fun y0 => k (.v (.bool y0)) []) := by kernel_rfl
theorem j10_ag (k kp : D → List Blk → Prop) : agPL cfg 10 (JJ k kp) (LL k kp) [1, 1, 1, 1, 1, 1, 1] body = agPR cfg 10 (pick none' []) [1, 1, 1, 1, 1, 1, 1] body (topK cfg Try.f14 k kp) := by kernel_rfl
theorem j10_raw (k kp : D → List Blk → Prop) (x7 : Int) (b0 : (List ByteArray)) : X10 k kp (m10 x7 b0) = j10 (fun x7 x9 b0 => XL11 k kp (mL11 x7 x9 b0)) x7 b0 (fun y0 => k (.v (.bool y0)) []) :=
  Eq.mp (by kernel_rfl) ((atP_run (j10_ag k kp) (m10 x7 b0)).trans (j10_c k kp (JJ k kp) (LL k kp) x7 b0))
theorem j10_eq (k kp : D → List Blk → Prop) (x7 : Int) (b0 : (List ByteArray)) : X10 k kp (m10 x7 b0) = j10' x7 b0 (fun y0 => k (.v (.bool y0)) []) := by
  rw [j10_raw]; simp only [l11_eq]; first | done | rfl
theorem j2000009_c (k kp : D → List Blk → Prop) (J L : Nat → St → Prop) (x7 : Int) (x58 : Bool) (b0 : (List ByteArray)) : runC cfg 2000009 J L (pick none' []) [1, 1, 1, 1, 1, 1, 0, 1] body (topK cfg Try.f14 k kp) (m2000009 x7 x58 b0) = j2000009 (fun x7 b0 => J 10 (m10 x7 b0)) x7 x58 b0 (fun y0 => k (.v (.bool y0)) []) := by kernel_rfl
theorem j2000009_ag (k kp : D → List Blk → Prop) : agPL cfg 2000009 (JJ k kp) (LL k kp) [1, 1, 1, 1, 1, 1, 0, 1] body = agPR cfg 2000009 (pick none' []) [1, 1, 1, 1, 1, 1, 0, 1] body (topK cfg Try.f14 k kp) := by kernel_rfl
theorem j2000009_raw (k kp : D → List Blk → Prop) (x7 : Int) (x58 : Bool) (b0 : (List ByteArray)) : X2000009 k kp (m2000009 x7 x58 b0) = j2000009 (fun x7 b0 => X10 k kp (m10 x7 b0)) x7 x58 b0 (fun y0 => k (.v (.bool y0)) []) :=
  Eq.mp (by kernel_rfl) ((atP_run (j2000009_ag k kp) (m2000009 x7 x58 b0)).trans (j2000009_c k kp (JJ k kp) (LL k kp) x7 x58 b0))
theorem j2000009_eq (k kp : D → List Blk → Prop) (x7 : Int) (x58 : Bool) (b0 : (List ByteArray)) : X2000009 k kp (m2000009 x7 x58 b0) = j2000009' x7 x58 b0 (fun y0 => k (.v (.bool y0)) []) := by
  rw [j2000009_raw]; simp only [j10_eq]; first | done | rfl
theorem j7_c (k kp : D → List Blk → Prop) (J L : Nat → St → Prop) (x5 : ByteArray) (x7 : Int) : runC cfg 7 J L (pick none' []) [1, 1, 1, 1, 1] body (topK cfg Try.f14 k kp) (m7 x5 x7) = j7 (fun x7 x58 b0 => J 2000009 (m2000009 x7 x58 b0)) x5 x7 (fun y0 => k (.v (.bool y0)) []) := by kernel_rfl
theorem j7_ag (k kp : D → List Blk → Prop) : agPL cfg 7 (JJ k kp) (LL k kp) [1, 1, 1, 1, 1] body = agPR cfg 7 (pick none' []) [1, 1, 1, 1, 1] body (topK cfg Try.f14 k kp) := by kernel_rfl
theorem j7_raw (k kp : D → List Blk → Prop) (x5 : ByteArray) (x7 : Int) : X7 k kp (m7 x5 x7) = j7 (fun x7 x58 b0 => X2000009 k kp (m2000009 x7 x58 b0)) x5 x7 (fun y0 => k (.v (.bool y0)) []) :=
  Eq.mp (by kernel_rfl) ((atP_run (j7_ag k kp) (m7 x5 x7)).trans (j7_c k kp (JJ k kp) (LL k kp) x5 x7))
theorem j7_eq (k kp : D → List Blk → Prop) (x5 : ByteArray) (x7 : Int) : X7 k kp (m7 x5 x7) = j7' x5 x7 (fun y0 => k (.v (.bool y0)) []) := by
  rw [j7_raw]; simp only [j2000009_eq]; first | done | rfl
theorem j2000006_c (k kp : D → List Blk → Prop) (J L : Nat → St → Prop) (x5 : ByteArray) (x7 : Int) (x30 : Bool) : runC cfg 2000006 J L (pick none' []) [1, 1, 1, 1, 0, 1] body (topK cfg Try.f14 k kp) (m2000006 x5 x7 x30) = j2000006 (fun x5 x7 => J 7 (m7 x5 x7)) x5 x7 x30 (fun y0 => k (.v (.bool y0)) []) := by kernel_rfl
theorem j2000006_ag (k kp : D → List Blk → Prop) : agPL cfg 2000006 (JJ k kp) (LL k kp) [1, 1, 1, 1, 0, 1] body = agPR cfg 2000006 (pick none' []) [1, 1, 1, 1, 0, 1] body (topK cfg Try.f14 k kp) := by kernel_rfl
theorem j2000006_raw (k kp : D → List Blk → Prop) (x5 : ByteArray) (x7 : Int) (x30 : Bool) : X2000006 k kp (m2000006 x5 x7 x30) = j2000006 (fun x5 x7 => X7 k kp (m7 x5 x7)) x5 x7 x30 (fun y0 => k (.v (.bool y0)) []) :=
  Eq.mp (by kernel_rfl) ((atP_run (j2000006_ag k kp) (m2000006 x5 x7 x30)).trans (j2000006_c k kp (JJ k kp) (LL k kp) x5 x7 x30))
theorem j2000006_eq (k kp : D → List Blk → Prop) (x5 : ByteArray) (x7 : Int) (x30 : Bool) : X2000006 k kp (m2000006 x5 x7 x30) = j2000006' x5 x7 x30 (fun y0 => k (.v (.bool y0)) []) := by
  rw [j2000006_raw]; simp only [j7_eq]; first | done | rfl
theorem c_c (k kp : D → List Blk → Prop) (J L : Nat → St → Prop) (x0 : ByteArray) (x1 : Int) : runC cfg 1000001 J L none'' [] body (topK cfg Try.f14 k kp) (st0 Try.f14 [(.v (.string x0)), (.v (.int IntKind.i64 x1))] []) = c (fun x5 x7 x30 => J 2000006 (m2000006 x5 x7 x30)) x0 x1 (fun y0 => k (.v (.bool y0)) []) := by kernel_rfl
theorem c_ag (k kp : D → List Blk → Prop) : agPL cfg 1000001 (JJ k kp) (LL k kp) [] body = agPR cfg 1000001 none'' [] body (topK cfg Try.f14 k kp) := by kernel_rfl
theorem body_is : Try.f14.body = some body := by kernel_rfl
theorem c_raw (k kp : D → List Blk → Prop) (x0 : ByteArray) (x1 : Int) : funW cfg Try.f14 [(.v (.string x0)), (.v (.int IntKind.i64 x1))] [] k kp = c (fun x5 x7 x30 => X2000006 k kp (m2000006 x5 x7 x30)) x0 x1 (fun y0 => k (.v (.bool y0)) []) :=
  Eq.mp (by kernel_rfl) ((funW_run (AG := none'') body_is (c_ag k kp) [(.v (.string x0)), (.v (.int IntKind.i64 x1))] []).trans (c_c k kp (JJ k kp) (LL k kp) x0 x1))
theorem f_eq (k kp : D → List Blk → Prop) (x0 : ByteArray) (x1 : Int) : funW cfg Try.f14 [(.v (.string x0)), (.v (.int IntKind.i64 x1))] [] k kp = f x0 x1 (fun y0 => k (.v (.bool y0)) []) := by
  rw [f_def, c_raw]; simp only [j2000006_eq]; first | done | rfl
noncomputable def ent0 : Entry := fun args blks k _ => match args, blks with
  | [d0, d1], [] => aStr d0 fun x0 => aInt IntKind.i64 d1 fun x1 => f x0 x1 (fun y0 => k (.v (.bool y0)) [])
  | _, _ => False
noncomputable def ent : Entry := fun args blks k kp => ent0 (convB [.no, .no] args) blks k kp
theorem ok : EntOk Try.prog 0 0 14 ent := by
  refine EntOk.convB (EntOk.of (funW_ok (cfg := cfg) (tyOk_of rfl rfl tyL_ok) (eqOk_of (P := Try.prog) rfl rfl (by kernel_rfl)) mixed_ok (tab_ok ?_) Try.func14 (by rfl) (by rfl)) ?_) _
  · intro p hp
    simp only [List.mem_cons, List.not_mem_nil, or_false] at hp
    rcases hp with rfl | rfl | rfl | rfl
    · exact N50.ok
    · exact N57.ok
    · exact N52.ok
    · exact N51.ok
  · intro args blks k kp h k' kp'
    match args, blks, h with
    | [d0, d1], [], h =>
    dsimp only [ent0] at h
    have h9 := aStr_elim h; clear h; obtain ⟨x0, rfl, h⟩ := h9
    have h9 := aInt_elim h; clear h; obtain ⟨x1, rfl, h⟩ := h9
    exact (f_eq k' kp' x0 x1).symm
end N14
end Go.Proofs.Yu
namespace Go.Proofs.Yu
open Go Go.Aw Go.Proofs Go.RowKit
set_option linter.unusedVariables false
set_option linter.unusedSimpArgs false

/-! ### The lines of a text -/
def pieces : List Int → List (List Int)
  | [] => [[]]
  | c :: r => if c = 10 then [] :: pieces r else (c :: (pieces r).headD []) :: (pieces r).tail
/-- How many bytes some lines take. -/
def ofs : List (List Int) → Nat
  | [] => 0
  | p :: ps => p.length + 1 + ofs ps
def noNL (l : List Int) : Prop := ∀ x ∈ l, x ≠ 10

theorem ofs_append : ∀ a b : List (List Int), ofs (a ++ b) = ofs a + ofs b
  | [], b => by simp [ofs]
  | p :: a, b => by rw [List.cons_append, ofs, ofs, ofs_append a b]; omega

theorem pieces_ne (l : List Int) : ∃ p ps, pieces l = p :: ps := by
  cases l with
  | nil => exact ⟨_, _, rfl⟩
  | cons c r => rw [pieces]; split <;> exact ⟨_, _, rfl⟩

theorem pieces_split : ∀ a : List Int, ∃ (i : List (List Int)) (l : List Int), pieces a = i ++ [l] ∧ a.length = ofs i + l.length ∧ noNL l ∧ (∀ p ∈ i, noNL p) ∧
    ∀ b : List Int, pieces (a ++ b) = i ++ (l ++ (pieces b).headD []) :: (pieces b).tail
  | [] => ⟨[], [], rfl, rfl, (fun x hx => by cases hx), (fun x hx => by cases hx), fun b => by
      obtain ⟨p, ps, h⟩ := pieces_ne b
      rw [List.nil_append, h]; rfl⟩
  | c :: r => by
    obtain ⟨i, l, h1, h2, h3, h4, h5⟩ := pieces_split r
    by_cases hc : c = 10
    · refine ⟨[] :: i, l, by rw [pieces, if_pos hc, h1]; rfl, by rw [List.length_cons, h2, ofs]; simp; omega, h3, ?_, fun b => by rw [List.cons_append, pieces, if_pos hc, h5]; rfl⟩
      intro p hp
      rcases List.mem_cons.1 hp with rfl | hp
      · intro x hx; cases hx
      · exact h4 p hp
    · cases i with
      | nil =>
        refine ⟨[], c :: l, by rw [pieces, if_neg hc, h1]; rfl, by rw [List.length_cons, h2, ofs]; simp, ?_, (fun x hx => by cases hx), fun b => by rw [List.cons_append, pieces, if_neg hc, h5]; rfl⟩
        intro x hx
        rcases List.mem_cons.1 hx with rfl | hx
        · exact hc
        · exact h3 x hx
      | cons p i =>
        refine ⟨(c :: p) :: i, l, by rw [pieces, if_neg hc, h1]; rfl, by rw [List.length_cons, h2, ofs, ofs, List.length_cons]; omega, h3, ?_, fun b => by rw [List.cons_append, pieces, if_neg hc, h5]; rfl⟩
        intro q hq
        rcases List.mem_cons.1 hq with rfl | hq
        · intro x hx
          rcases List.mem_cons.1 hx with rfl | hx
          · exact hc
          · exact h4 p (List.mem_cons_self ..) x hx
        · exact h4 q (List.mem_cons_of_mem _ hq)

def lastP (a : List Int) : List Int := (pieces a).getLastD []
def lineN (a : List Int) : Nat := (pieces a).length
theorem getLastD_snoc {α : Type} (i : List α) (l d : α) : (i ++ [l]).getLastD d = l := by
  rw [List.getLastD_eq_getLast?, List.getLast?_concat]; rfl

theorem pieces_noNL : ∀ {a : List Int}, noNL a → pieces a = [a]
  | [], _ => rfl
  | c :: r, h => by
    rw [pieces, if_neg (h c (List.mem_cons_self ..)), pieces_noNL (fun x hx => h x (List.mem_cons_of_mem _ hx))]; rfl
theorem pieces_nl (a : List Int) : pieces (a ++ [10]) = pieces a ++ [[]] := by
  obtain ⟨i, l, h1, _, _, _, h5⟩ := pieces_split a
  rw [h5, h1]; simp [pieces]
theorem pieces_seg (a seg : List Int) (h : noNL seg) : ∃ i l, pieces a = i ++ [l] ∧ pieces (a ++ seg) = i ++ [l ++ seg] := by
  obtain ⟨i, l, h1, _, _, _, h5⟩ := pieces_split a
  refine ⟨i, l, h1, ?_⟩
  rw [h5, pieces_noNL h]; rfl
theorem pieces_cut {p r : List Int} (h : noNL p) : pieces (p ++ 10 :: r) = p :: pieces r := by
  obtain ⟨i, l, h1, _, _, _, h5⟩ := pieces_split p
  rw [pieces_noNL h] at h1
  have hi : i = [] := by
    cases i with
    | nil => rfl
    | cons x i => have := congrArg List.length h1; simp at this
  subst hi
  simp only [List.nil_append, List.cons.injEq, and_true] at h1
  rw [h5, ← h1, pieces, if_pos rfl]
  simp
theorem pieces_len_le (a : List Int) : (pieces a).length ≤ a.length + 1 := by
  obtain ⟨i, l, h1, h2, _⟩ := pieces_split a
  have h : ∀ i : List (List Int), i.length ≤ ofs i := by
    intro i
    induction i with
    | nil => exact Nat.le_refl _
    | cons p i ih => rw [ofs, List.length_cons]; omega
  have := h i
  rw [h1, List.length_append, List.length_singleton]; omega
theorem pieces_pos (a : List Int) : 1 ≤ (pieces a).length := by
  obtain ⟨p, ps, h⟩ := pieces_ne a
  rw [h, List.length_cons]; omega
theorem lastP_le (a : List Int) : (lastP a).length ≤ a.length := by
  obtain ⟨i, l, h1, h2, _⟩ := pieces_split a
  rw [lastP, h1, getLastD_snoc]; omega

/-! ### Where the lines begin -/
def startsL (a : List Int) : List Int := (List.range (pieces a).length).map fun i => (ofs ((pieces a).take i) : Int)
theorem ofs_pieces (a : List Int) : ofs (pieces a) = a.length + 1 := by
  obtain ⟨i, l, h1, h2, _⟩ := pieces_split a
  rw [h1, ofs_append, h2]; simp [ofs]; omega
theorem starts_nl (a : List Int) : startsL (a ++ [10]) = startsL a ++ [((a.length : Int) + 1)] := by
  unfold startsL
  rw [pieces_nl, List.length_append, List.length_singleton, List.range_succ, List.map_append]
  congr 1
  · refine List.map_congr_left fun i hi => ?_
    have hi := List.mem_range.1 hi
    rw [List.take_append_of_le_length (by omega)]
  · rw [List.map_singleton, List.take_append_of_le_length (Nat.le_refl _), List.take_length, ofs_pieces]
    simp
theorem starts_seg (a seg : List Int) (h : noNL seg) : startsL (a ++ seg) = startsL a := by
  obtain ⟨i, l, h1, h2⟩ := pieces_seg a seg h
  unfold startsL
  rw [h1, h2]
  simp only [List.length_append, List.length_singleton]
  refine List.map_congr_left fun j hj => ?_
  have hj := List.mem_range.1 hj
  rw [List.take_append_of_le_length (by omega), List.take_append_of_le_length (by omega)]

/-! ### Cutting -/
theorem cut_cases : ∀ t : List Int, noNL t ∨ ∃ p r, t = p ++ 10 :: r ∧ noNL p
  | [] => .inl (fun x hx => by cases hx)
  | c :: t => by
    by_cases hc : c = 10
    · exact .inr ⟨[], t, by rw [hc]; rfl, fun x hx => by cases hx⟩
    · have hcons : ∀ l : List Int, noNL l → noNL (c :: l) := by
        intro l hl x hx
        rcases List.mem_cons.1 hx with rfl | hx
        · exact hc
        · exact hl x hx
      rcases cut_cases t with h | ⟨p, r, h1, h2⟩
      · exact .inl (hcons t h)
      · exact .inr ⟨c :: p, r, by rw [h1]; rfl, hcons p h2⟩
theorem bytes_at (t : List Int) (h : ∀ x ∈ t, isB x) (k : Nat) : (bytesOf t).data.toList[k]? = some 10 ↔ t[k]? = some 10 := by
  have e : ofBytes (bytesOf t) = t := ofBytes_bytesOf h
  have e2 : t[k]? = ((bytesOf t).data.toList[k]?).map (fun b => (b.toNat : Int)) := by
    conv => lhs; rw [← e]
    unfold ofBytes
    rw [List.getElem?_map]
  rw [e2]
  cases (bytesOf t).data.toList[k]? with
  | none => simp
  | some b =>
    simp only [Option.some.injEq, Option.map_some]
    constructor
    · rintro rfl; rfl
    · intro h
      have : b.toNat = 10 := by omega
      exact UInt8.toNat_inj.1 this
theorem index_s (t : List Int) (h : ∀ x ∈ t, isB x) : (noNL t → Lib.indexByte (bytesOf t).data.toList 10 = -1) ∧ ∀ p r, t = p ++ 10 :: r → noNL p → Lib.indexByte (bytesOf t).data.toList 10 = (p.length : Int) := by
  have ge := Lib.indexByte_ge (bytesOf t).data.toList 10
  constructor
  · intro hn
    by_cases h0 : Lib.indexByte (bytesOf t).data.toList 10 = -1
    · exact h0
    · obtain ⟨o, ho⟩ : ∃ o : Nat, Lib.indexByte (bytesOf t).data.toList 10 = o := ⟨(Lib.indexByte (bytesOf t).data.toList 10).toNat, by omega⟩
      have := (bytes_at t h o).1 (Lib.indexByte_some ho).1
      exact absurd rfl (hn 10 (List.mem_of_getElem? this))
  · intro p r ht hp
    have hat : t[p.length]? = some 10 := by rw [ht]; simp
    by_cases h0 : Lib.indexByte (bytesOf t).data.toList 10 = -1
    · exact absurd ((bytes_at t h _).2 hat) (Lib.indexByte_none h0 _)
    · obtain ⟨o, ho⟩ : ∃ o : Nat, Lib.indexByte (bytesOf t).data.toList 10 = o := ⟨(Lib.indexByte (bytesOf t).data.toList 10).toNat, by omega⟩
      have h1 := (bytes_at t h o).1 (Lib.indexByte_some ho).1
      have h2 := (Lib.indexByte_some ho).2 p.length
      rw [ho]
      by_cases hlt : p.length < o
      · exact absurd ((bytes_at t h _).2 hat) (h2 hlt)
      · by_cases hlt2 : o < p.length
        · rw [ht, List.getElem?_append_left hlt2] at h1
          exact absurd rfl (hp 10 (List.mem_of_getElem? h1))
        · omega

theorem extract_bytes {t : List Int} (h : ∀ x ∈ t, isB x) (i j : Nat) : (bytesOf t).extract i j = bytesOf ((t.take j).drop i) := by
  refine eq_of_ofBytes ?_
  rw [ofBytes_extract, ofBytes_bytesOf h, ofBytes_bytesOf (fun x hx => h x (List.mem_of_mem_take (List.mem_of_mem_drop hx)))]

theorem cut_s (t : List Int) (h : ∀ x ∈ t, isB x) (hs : t.length < 2 ^ 60) (k : ByteArray → ByteArray → Bool → Prop) (h1 : noNL t → k (bytesOf t) (ByteArray.mk #[]) false) (h2 : ∀ p r, t = p ++ 10 :: r → noNL p → k (bytesOf p) (bytesOf r) true) : N82.f (bytesOf t) (ByteArray.mk #[10]) k := by
  rw [N82.f_def]
  unfold N82.f0 N82.c
  rw [N92.f_def]
  unfold N92.f0 N92.c
  rw [ix_def]
  unfold ix0
  refine ⟨rfl, ?_⟩
  rw [show (ByteArray.mk #[10]).data.getD 0 0 = 10 from rfl]
  simp only [br_dec]
  rcases cut_cases t with hn | ⟨p, r, ht, hp⟩
  · rw [if_neg (by rw [(index_s t h).1 hn]; decide)]
    exact h1 hn
  · rw [(index_s t h).2 p r ht hp, if_pos (by omega)]
    have hl : t.length = p.length + 1 + r.length := by rw [ht]; simp; omega
    rw [bytesOf_size, show (ByteArray.mk #[10]).size = 1 from rfl, wrap_id (by omega) (by omega)]
    refine ⟨⟨by omega, by omega, by omega⟩, ⟨by omega, by omega, by omega⟩, ?_⟩
    rw [extract_bytes h, extract_bytes h]
    have e1 : (t.take (Int.toNat (p.length : Int))).drop (Int.toNat 0) = p := by
      rw [Int.toNat_natCast, ht]; simp
    have e2 : (t.take (Int.toNat (t.length : Int))).drop (Int.toNat ((p.length : Int) + (1 : Nat))) = r := by
      rw [Int.toNat_natCast, List.take_length, show Int.toNat ((p.length : Int) + (1 : Nat)) = p.length + 1 by omega, ht]
      rw [show p ++ 10 :: r = (p ++ [10]) ++ r by simp, List.drop_append_of_le_length (by simp), List.drop_of_length_le (by simp)]
      rfl
    rw [e1, e2]
    exact h2 p r ht hp
end Go.Proofs.Yu
namespace Go.Proofs.Yu
open Go Go.Aw Go.Proofs Go.RowKit
set_option linter.unusedVariables false
set_option linter.unusedSimpArgs false

theorem take_snoc {t : List Int} {i : Nat} (h : i < t.length) : t.take (i + 1) = t.take i ++ [t.getD i 0] := by
  rw [List.take_succ_eq_append_getElem h]
  simp [List.getD, List.getElem?_eq_getElem h]
theorem snoc_getD {α : Type} (i : List α) (l d : α) : (i ++ [l]).getD i.length d = l := by simp [List.getD]
theorem snoc_set {α : Type} (i : List α) (l y : α) : (i ++ [l]).set i.length y = i ++ [y] := by simp [List.set_append]
theorem isB_getD {t : List Int} (h : ∀ x ∈ t, isB x) {i : Nat} (hi : i < t.length) : isB (t.getD i 0) := by
  rw [List.getD, List.getElem?_eq_getElem hi]; exact h _ (List.getElem_mem hi)
theorem isB_take {t : List Int} (h : ∀ x ∈ t, isB x) (i : Nat) : ∀ x ∈ t.take i, isB x := fun x hx => h x (List.mem_of_mem_take hx)
theorem one_slice {t : List Int} {i : Nat} (h : i < t.length) : (t.take (i + 1)).drop i = [t.getD i 0] := by
  rw [take_snoc h, List.drop_append_of_le_length (by simp; omega), List.drop_of_length_le (by simp; omega)]
  rfl

theorem all_s (t : List Int) (h : ∀ x ∈ t, isB x) (hs : t.length < 1000000000000) (k : List ByteArray → Prop) (hk : k ((pieces t).map bytesOf)) : N51.f (bytesOf t) k := by
  rw [N51.f_def]
  unfold N51.f0 N51.c N51.l3'
  refine loopS_of (fun s : Int × List ByteArray => ∃ i : Nat, s.1 = i ∧ i ≤ t.length ∧ s.2 = (pieces (t.take i)).map bytesOf) (fun s => t.length - s.1.toNat) ?_ ⟨0, rfl, Nat.zero_le _, rfl⟩
  rintro again ⟨a, b⟩ ⟨i, e1, hi, e2⟩ hag
  simp only at e1 e2
  subst e1; subst e2
  unfold N51.l3 N51.j4' N51.j4 N51.j8' N51.j8
  dsimp only
  rw [bytesOf_size]
  refine br_of (fun hlt => ?_) (fun hge => ?_)
  · have hlt : i < t.length := by simp at hlt; omega
    refine ⟨⟨by omega, by omega, by omega⟩, ?_⟩
    rw [byteAt_bytes h]
    have hpl := pieces_len_le (t.take i)
    have hpp := pieces_pos (t.take i)
    have htl : (t.take i).length = i := by simp; omega
    simp only [br_beq, List.length_map]
    rw [wrap_id (n := ((i : Int) + 1)) (by omega) (by omega)]
    split
    · rename_i he
      refine ⟨?_, ?_⟩
      · unfold room; simp only [List.length_singleton]; omega
      · refine hag _ ⟨i + 1, by simp, by omega, ?_⟩ (by simp only; omega)
        rw [take_snoc hlt, he, pieces_nl, List.map_append]; rfl
    · rename_i he
      obtain ⟨ii, l, p1, p2⟩ := pieces_seg (t.take i) [t.getD i 0] (by intro x hx; rw [List.mem_singleton.1 hx]; exact he)
      have hll := lastP_le (t.take i)
      rw [lastP, p1, getLastD_snoc] at hll
      rw [wrap_id (n := (((pieces (t.take i)).length : Int) - 1)) (by omega) (by omega), p1]
      rw [show Int.toNat (((ii ++ [l]).length : Int) - 1) = (ii.map bytesOf).length by simp]
      rw [List.map_append, List.map_singleton, snoc_getD, snoc_set, extract_bytes h]
      rw [show (((ii ++ [l]).length : Nat) : Int) = (ii.length : Int) + 1 by simp]
      rw [show Int.toNat ((i : Int) + 1) = i + 1 by omega, show Int.toNat (i : Int) = i by omega, one_slice hlt]
      refine ⟨⟨by omega, by omega, by omega⟩, ⟨by omega, by omega, by omega⟩, ?_, ⟨by omega, by omega, by omega⟩, ?_⟩
      · rw [bytesOf_size, bytesOf_size]; simp only [List.length_singleton]; omega
      · refine hag _ ⟨i + 1, by simp, by omega, ?_⟩ (by simp only; omega)
        rw [take_snoc hlt, p2, ← bytesOf_append, List.map_append]; rfl
  · have hge : i = t.length := by simp at hge; omega
    subst hge
    rw [List.take_length]
    exact hk

/-! ### Line and column of a place -/
def spotP (t : List Int) (n : Int) : Int × Int := if 0 ≤ n ∧ n ≤ t.length then ((lineN (t.take n.toNat) : Int), ((lastP (t.take n.toNat)).length : Int) + 1) else (0, 0)

theorem lineN_nl (a : List Int) : lineN (a ++ [10]) = lineN a + 1 := by unfold lineN; rw [pieces_nl]; simp
theorem lastP_nl (a : List Int) : lastP (a ++ [10]) = [] := by unfold lastP; rw [pieces_nl, getLastD_snoc]
theorem lineN_seg (a s : List Int) (h : noNL s) : lineN (a ++ s) = lineN a := by
  obtain ⟨i, l, h1, h2⟩ := pieces_seg a s h
  unfold lineN; rw [h1, h2]; simp
theorem lastP_seg (a s : List Int) (h : noNL s) : lastP (a ++ s) = lastP a ++ s := by
  obtain ⟨i, l, h1, h2⟩ := pieces_seg a s h
  unfold lastP; rw [h1, h2, getLastD_snoc, getLastD_snoc]

theorem spot_s (t : List Int) (h : ∀ x ∈ t, isB x) (hs : t.length < 1000000000000) (n : Int) (k : Int → Int → Prop) (hk : k (spotP t n).1 (spotP t n).2) : N52.f (bytesOf t) n k := by
  rw [N52.f_def]
  unfold N52.f0 N52.c N52.j2000002' N52.j2000002 N52.j3' N52.j3 N52.l5'
  unfold spotP at hk
  simp only [br_dec, br_true, bytesOf_size]
  split
  · rename_i h0
    rw [if_neg (by omega)] at hk; exact hk
  split
  · rename_i h0 h1
    rw [if_neg (by omega)] at hk; exact hk
  rename_i h0 h1
  rw [if_pos (by omega)] at hk
  obtain ⟨m, rfl⟩ : ∃ m : Nat, n = m := ⟨n.toNat, by omega⟩
  rw [Int.toNat_natCast] at hk
  refine loopS_of (fun s : Int × Int × Int => ∃ i : Nat, s.2.2 = i ∧ i ≤ m ∧ s.1 = (lineN (t.take i) : Int) ∧ s.2.1 = (i : Int) - (lastP (t.take i)).length) (fun s => m - s.2.2.toNat) ?_ ⟨0, rfl, Nat.zero_le _, rfl, rfl⟩
  rintro again ⟨a, b, c⟩ ⟨i, e1, hi, e2, e3⟩ hag
  simp only at e1 e2 e3
  subst e1; subst e2; subst e3
  unfold N52.l5 N52.j9' N52.j9 N52.j10' N52.j10
  dsimp only
  rw [bytesOf_size]
  have hll := lastP_le (t.take i)
  have hpl := pieces_len_le (t.take i)
  have htl : (t.take i).length = i := by simp; omega
  refine br_of (fun hlt => ?_) (fun hge => ?_)
  · have hlt : i < m := by simp at hlt; omega
    have hl : i < t.length := by omega
    refine ⟨⟨by omega, by omega, by omega⟩, ?_⟩
    rw [byteAt_bytes h]
    simp only [br_beq]
    rw [wrap_id (n := ((i : Int) + 1)) (by omega) (by omega)]
    unfold lineN at *
    split
    · rename_i he
      rw [wrap_id (by omega) (by omega)]
      refine hag _ ⟨i + 1, by simp, by omega, ?_, ?_⟩ (by simp only; omega)
      · rw [take_snoc hl, he]; have := lineN_nl (t.take i); unfold lineN at this; simp only; omega
      · rw [take_snoc hl, he, lastP_nl]; simp
    · rename_i he
      have hn : noNL [t.getD i 0] := by intro x hx; rw [List.mem_singleton.1 hx]; exact he
      refine hag _ ⟨i + 1, by simp, by omega, ?_, ?_⟩ (by simp only; omega)
      · rw [take_snoc hl]; have := lineN_seg (t.take i) _ hn; unfold lineN at this; simp only; omega
      · rw [take_snoc hl, lastP_seg _ _ hn, List.length_append, List.length_singleton]; simp only; omega
  · have hge : i = m := by simp at hge; omega
    subst hge
    rw [show (i : Int) - ((i : Int) - ((lastP (t.take i)).length : Int)) = ((lastP (t.take i)).length : Int) by omega]
    rw [wrap_id (n := ((lastP (t.take i)).length : Int)) (by omega) (by omega), wrap_id (by omega) (by omega)]
    exact hk

theorem spotr_s (t : List Int) (h : ∀ x ∈ t, isB x) (hs : t.length < 1000000000000) (n : Int) (k : Int → Int → Prop) (hk : k (spotP t n).1 (spotP t n).2) : N53.f (bytesOf t) n k := by
  rw [N53.f_def]
  unfold N53.f0 N53.c N53.j2000002' N53.j2000002 N53.j3' N53.j3
  unfold spotP at hk
  simp only [br_dec, br_true, bytesOf_size]
  split
  · rename_i h0
    rw [if_neg (by omega)] at hk; exact hk
  split
  · rename_i h0 h1
    rw [if_neg (by omega)] at hk; exact hk
  rename_i h0 h1
  rw [if_pos (by omega)] at hk
  obtain ⟨m, rfl⟩ : ∃ m : Nat, n = m := ⟨n.toNat, by omega⟩
  rw [Int.toNat_natCast] at hk ⊢
  refine ⟨⟨by omega, by omega, by omega⟩, ?_⟩
  rw [extract_bytes h, show Int.toNat 0 = 0 from rfl, List.drop_zero]
  have htl : (t.take m).length = m := by simp; omega
  refine all_s _ (isB_take h m) (by omega) _ ?_
  have hpl := pieces_len_le (t.take m)
  have hpp := pieces_pos (t.take m)
  have hll := lastP_le (t.take m)
  rw [List.length_map]
  obtain ⟨ii, l, p1, p2⟩ := pieces_seg (t.take m) [] (by intro x hx; cases hx)
  unfold lineN lastP at hk
  unfold lastP at hll
  rw [p1] at hk hpl hpp hll ⊢
  rw [getLastD_snoc] at hk hll
  rw [wrap_id (by omega) (by omega)]
  rw [show Int.toNat (((ii ++ [l]).length : Int) - 1) = (ii.map bytesOf).length by simp]
  rw [List.map_append, List.map_singleton, snoc_getD, bytesOf_size]
  rw [wrap_id (by omega) (by omega)]
  exact ⟨⟨by omega, by omega, by omega⟩, hk⟩
end Go.Proofs.Yu
namespace Go.Proofs.Yu
open Go Go.Aw Go.Proofs Go.RowKit
set_option linter.unusedVariables false
set_option linter.unusedSimpArgs false

/-! ### A line -/
def lineP (t : List Int) (n : Int) : List Int × Bool := if 1 ≤ n ∧ n ≤ lineN t then ((pieces t).getD (n - 1).toNat [], true) else ([], false)

theorem pieces_drop {t r : List Int} {i : Nat} (hi : i < (pieces t).length) (h : pieces r = (pieces t).drop i) :
    (noNL r → (pieces t).length = i + 1 ∧ (pieces t).getD i [] = r) ∧ ∀ p r', r = p ++ 10 :: r' → noNL p → i + 1 < (pieces t).length ∧ (pieces t).getD i [] = p ∧ pieces r' = (pieces t).drop (i + 1) := by
  have hg : ∀ x xs, (pieces t).drop i = x :: xs → (pieces t).getD i [] = x ∧ xs = (pieces t).drop (i + 1) := by
    intro x xs e
    rw [List.drop_eq_getElem_cons hi, List.cons.injEq] at e
    refine ⟨?_, e.2.symm⟩
    rw [List.getD, List.getElem?_eq_getElem hi]; exact e.1
  constructor
  · intro hn
    rw [pieces_noNL hn] at h
    have := congrArg List.length h
    rw [List.length_drop] at this
    simp only [List.length_singleton] at this
    exact ⟨by omega, (hg _ _ h.symm).1⟩
  · intro p r' hr hp
    rw [hr, pieces_cut hp] at h
    have := congrArg List.length h
    have hp := pieces_pos r'
    rw [List.length_drop, List.length_cons] at this
    exact ⟨by omega, (hg _ _ h.symm).1, (hg _ _ h.symm).2⟩

theorem line_s (t : List Int) (h : ∀ x ∈ t, isB x) (hs : t.length < 1000000000000) (n : Int) (hn : in64 n) (k : ByteArray → Bool → Prop) (hk : k (bytesOf (lineP t n).1) (lineP t n).2) : N54.f (bytesOf t) n k := by
  rw [N54.f_def]
  unfold N54.f0 N54.c N54.l4'
  unfold lineP lineN at hk
  unfold in64 at hn
  simp only [br_dec]
  split
  · rename_i h0
    rw [if_neg (by omega)] at hk; exact hk
  rename_i h0
  obtain ⟨m, rfl⟩ : ∃ m : Nat, n = (m : Int) + 1 := ⟨(n - 1).toNat, by omega⟩
  rw [show (m : Int) + 1 - 1 = m by omega, wrap_id (by omega) (by omega)]
  rw [show ((m : Int) + 1 - 1).toNat = m by omega] at hk
  have hpl := pieces_len_le t
  refine loopS_of (fun s : ByteArray × Int => ∃ (i : Nat) (r : List Int), s.2 = i ∧ i ≤ m ∧ i < (pieces t).length ∧ s.1 = bytesOf r ∧ (∀ x ∈ r, isB x) ∧ r.length ≤ t.length ∧ pieces r = (pieces t).drop i) (fun s => (pieces t).length - s.2.toNat) ?_ ⟨0, t, rfl, Nat.zero_le _, pieces_pos t, rfl, h, Nat.le_refl _, rfl⟩
  rintro again ⟨a, b⟩ ⟨i, r, e1, hi, hi2, e2, hB, hrl, hr⟩ hag
  simp only at e1 e2
  subst e1; subst e2
  unfold N54.l4 N54.j10' N54.j10
  dsimp only
  obtain ⟨g1, g2⟩ := pieces_drop hi2 hr
  refine br_of (fun hlt => ?_) (fun hge => ?_)
  · have hlt : i < m := by simp at hlt; omega
    refine cut_s r hB (by omega) _ (fun hnn => ?_) (fun p r' hr' hp => ?_)
    · simp only [Bool.not_false, br_true]
      rw [if_neg (by have := (g1 hnn).1; omega)] at hk
      exact hk
    · simp only [Bool.not_true, br_false]
      obtain ⟨q1, q2, q3⟩ := g2 p r' hr' hp
      rw [wrap_id (by omega) (by omega)]
      refine hag _ ⟨i + 1, r', by simp, by omega, q1, rfl, ?_, ?_, q3⟩ (by simp only; omega)
      · intro x hx; exact hB x (by rw [hr']; exact List.mem_append_right _ (List.mem_cons_of_mem _ hx))
      · rw [hr'] at hrl; simp only [List.length_append, List.length_cons] at hrl; omega
  · have hge : i = m := by simp at hge; omega
    subst hge
    rw [if_pos (by omega)] at hk
    refine cut_s r hB (by omega) _ (fun hnn => ?_) (fun p r' hr' hp => ?_)
    · rw [(g1 hnn).2] at hk; exact hk
    · rw [(g2 p r' hr' hp).2.1] at hk; exact hk

/-! ### Where lines begin -/
theorem decode_step (s : ByteArray) (p : Nat) (hp : p < s.size) : 1 ≤ (Utf8.decode s p).2 ∧ (((ofBytes s).getD p 0 = 10 ∧ (Utf8.decode s p).1 = 10 ∧ (Utf8.decode s p).2 = 1) ∨
    ((Utf8.decode s p).1 ≠ 10 ∧ p + (Utf8.decode s p).2 ≤ s.size ∧ ∀ j, p ≤ j → j < p + (Utf8.decode s p).2 → (ofBytes s).getD j 0 ≠ 10)) := by
  have hat : ∀ j, j < s.size → (ofBytes s).getD j 0 = ((s.get! j).toNat : Int) := by
    intro j hj
    rw [← byteAt_eq s j]
    unfold byteAt
    rw [Int.toNat_natCast]
    obtain ⟨d⟩ := s
    have hj : j < d.size := hj
    show ((d.getD j 0).toNat : Int) = ((d[j]!).toNat : Int)
    rw [getElem!_pos d j hj, Array.getD, dif_pos hj]
    rfl
  rw [Lib.decode_at]
  have h0 := hat p hp
  generalize e0 : (s.get! p).toNat = b0 at *
  have h1 : p + 1 < s.size → (ofBytes s).getD (p + 1) 0 = ((s.get! (p + 1)).toNat : Int) := hat _
  have h2 : p + 2 < s.size → (ofBytes s).getD (p + 2) 0 = ((s.get! (p + 2)).toNat : Int) := hat _
  have h3 : p + 3 < s.size → (ofBytes s).getD (p + 3) 0 = ((s.get! (p + 3)).toNat : Int) := hat _
  generalize (s.get! (p + 1)).toNat = b1 at *
  generalize (s.get! (p + 2)).toNat = b2 at *
  generalize (s.get! (p + 3)).toNat = b3 at *
  have one : ∀ j, p ≤ j → j < p + 1 → j = p := fun j h1 h2 => by omega
  unfold Lib.decodeN
  by_cases hb : b0 < 128
  · rw [if_pos hb]
    by_cases h10 : b0 = 10
    · exact ⟨Nat.le_refl _, .inl ⟨by rw [h0, h10]; rfl, h10, rfl⟩⟩
    · refine ⟨Nat.le_refl _, .inr ⟨h10, by simp only; omega, fun j j1 j2 => ?_⟩⟩
      rw [one j j1 j2, h0]; omega
  rw [if_neg hb]
  have alone : 1 ≤ ((65533, 1) : Nat × Nat).2 ∧ (((ofBytes s).getD p 0 = 10 ∧ ((65533, 1) : Nat × Nat).1 = 10 ∧ ((65533, 1) : Nat × Nat).2 = 1) ∨ (((65533, 1) : Nat × Nat).1 ≠ 10 ∧ p + ((65533, 1) : Nat × Nat).2 ≤ s.size ∧ ∀ j, p ≤ j → j < p + ((65533, 1) : Nat × Nat).2 → (ofBytes s).getD j 0 ≠ 10)) := by
    refine ⟨Nat.le_refl _, .inr ⟨by decide, by simp only; omega, fun j j1 j2 => ?_⟩⟩
    rw [one j j1 j2, h0]; omega
  split
  · rename_i hc
    split
    · refine ⟨by simp only; omega, .inr ⟨by simp only; omega, by simp only; omega, fun j j1 j2 => ?_⟩⟩
      simp only at j2
      have : j = p ∨ j = p + 1 := by omega
      rcases this with rfl | rfl
      · rw [h0]; omega
      · rw [h1 (by omega)]; omega
    · exact alone
  split
  · rename_i hc
    split
    · refine ⟨by simp only; omega, .inr ⟨by simp only; omega, by simp only; omega, fun j j1 j2 => ?_⟩⟩
      simp only at j2
      have : j = p ∨ j = p + 1 ∨ j = p + 2 := by omega
      rcases this with rfl | rfl | rfl
      · rw [h0]; omega
      · rw [h1 (by omega)]; omega
      · rw [h2 (by omega)]; omega
    · exact alone
  split
  · rename_i hc
    split
    · refine ⟨by simp only; omega, .inr ⟨by simp only; omega, by simp only; omega, fun j j1 j2 => ?_⟩⟩
      simp only at j2
      have : j = p ∨ j = p + 1 ∨ j = p + 2 ∨ j = p + 3 := by omega
      rcases this with rfl | rfl | rfl | rfl
      · rw [h0]; omega
      · rw [h1 (by omega)]; omega
      · rw [h2 (by omega)]; omega
      · rw [h3 (by omega)]; omega
    · exact alone
  · exact alone

theorem startsL_length (t : List Int) : (startsL t).length = (pieces t).length := by unfold startsL; simp

theorem starts_s (t : List Int) (h : ∀ x ∈ t, isB x) (hs : t.length < 1000000000000) (k : List Int → Prop) (hk : k (startsL t)) : N55.f (bytesOf t) k := by
  rw [N55.f_def]
  unfold N55.f0 N55.c N55.l3'
  refine loopS_of (fun s : ByteArray × Nat × List Int => s.1 = bytesOf t ∧ s.2.1 ≤ t.length ∧ s.2.2 = startsL (t.take s.2.1)) (fun s => t.length - s.2.1) ?_ ⟨rfl, Nat.zero_le _, rfl⟩
  rintro again ⟨a, p, b⟩ ⟨e1, hp, e2⟩ hag
  simp only at e1 e2 hp
  subst e1; subst e2
  unfold N55.l3 N55.j7' N55.j7
  dsimp only
  rw [bytesOf_size]
  refine br_of (fun hlt => ?_) (fun hge => ?_)
  · have hlt : p < t.length := by simpa using hlt
    obtain ⟨d1, d2⟩ := decode_step (bytesOf t) p (by rw [bytesOf_size]; exact hlt)
    rw [ofBytes_bytesOf h, bytesOf_size] at d2
    generalize Utf8.decode (bytesOf t) p = d at *
    simp only [br_beq]
    rcases d2 with ⟨c1, c2, c3⟩ | ⟨c1, c2, c3⟩
    · rw [if_pos (by omega)]
      have htl : (t.take p).length = p := by simp; omega
      have hpl := pieces_len_le (t.take p)
      refine ⟨?_, ?_⟩
      · unfold room
        rw [startsL_length]
        simp only [List.length_singleton]; omega
      · refine hag _ ⟨rfl, by simp only; omega, ?_⟩ (by simp only; omega)
        simp only
        rw [c3, take_snoc hlt, c1, starts_nl, wrap_id (by omega) (by omega), htl]
    · rw [if_neg (by omega)]
      refine hag _ ⟨rfl, by simp only; omega, ?_⟩ (by simp only; omega)
      simp only
      have e : t.take (p + d.2) = t.take p ++ (t.take (p + d.2)).drop p := by
        conv => lhs; rw [← List.take_append_drop p (t.take (p + d.2))]
        rw [List.take_take, Nat.min_eq_left (by omega)]
      rw [e, starts_seg]
      intro x hx
      obtain ⟨j, hj⟩ := List.mem_iff_getElem?.1 hx
      rw [List.getElem?_drop, List.getElem?_take] at hj
      split at hj
      · rename_i hlt2
        have := c3 (p + j) (by omega) hlt2
        rw [List.getD, hj] at this
        exact this
      · cases hj
  · have hge : p = t.length := by simp at hge; omega
    subst hge
    rw [List.take_length]
    exact hk

/-! ### How many lines -/
theorem count_list : ∀ l : List UInt8, l.count 10 + 1 = (pieces (l.map fun b => (b.toNat : Int))).length
  | [] => rfl
  | c :: l => by
    have ih := count_list l
    rw [List.map_cons, pieces]
    by_cases hc : c = 10
    · subst hc
      rw [if_pos (show (((10 : UInt8).toNat : Nat) : Int) = 10 from rfl), List.length_cons, ← ih, List.count_cons_self]
    · have : ¬ ((c.toNat : Int) = 10) := by
        intro q
        have h9 : c.toNat = 10 := by omega
        exact hc (UInt8.toNat_inj.1 (h9.trans rfl))
      rw [if_neg this, List.length_cons, List.length_tail, ← ih, List.count_cons_of_ne (fun q => hc q)]
      omega
theorem count_pieces (t : List Int) (h : ∀ x ∈ t, isB x) : Lib.countByte (bytesOf t).data.toList 10 + 1 = (pieces t).length := by
  have e : ofBytes (bytesOf t) = t := ofBytes_bytesOf h
  have := count_list (bytesOf t).data.toList
  unfold ofBytes at e
  rw [e] at this
  exact this
theorem count_s (t : List Int) (h : ∀ x ∈ t, isB x) (hs : t.length < 1000000000000) (k : Int → Prop) (hk : k (lineN t : Int)) : N56.f (bytesOf t) k := by
  rw [N56.f_def]
  unfold N56.f0 N56.c
  rw [ct_def]
  unfold ct0
  refine ⟨rfl, ?_⟩
  rw [show (ByteArray.mk #[10]).data.getD 0 0 = 10 from rfl]
  have h1 := count_pieces t h
  have h2 := pieces_len_le t
  dsimp only
  rw [wrap_id (by omega) (by omega)]
  unfold lineN at hk
  rw [← h1] at hk
  exact hk
end Go.Proofs.Yu
namespace Go.Proofs.Yu
open Go Go.Aw Go.Proofs Go.RowKit
set_option linter.unusedVariables false
set_option linter.unusedSimpArgs false

/-! ### The place of a line and a column -/
def atP (t : List Int) (l c : Int) : Int × Bool :=
  if 1 ≤ l ∧ l ≤ lineN t ∧ 1 ≤ c ∧ c ≤ ((pieces t).getD (l - 1).toNat []).length + 1 then ((ofs ((pieces t).take (l - 1).toNat) : Int) + c - 1, true) else (0, false)

theorem piece_le (t : List Int) (i : Nat) (hi : i < (pieces t).length) : ofs ((pieces t).take i) + ((pieces t).getD i []).length ≤ t.length := by
  have h1 := ofs_pieces t
  have h2 : ofs ((pieces t).take i) + ofs ((pieces t).drop i) = t.length + 1 := by rw [← ofs_append, List.take_append_drop, h1]
  rw [List.drop_eq_getElem_cons hi, ofs] at h2
  rw [List.getD, List.getElem?_eq_getElem hi]
  show _ + ((pieces t)[i]).length ≤ _
  omega

theorem startsL_getD (t : List Int) (i : Nat) (hi : i < (pieces t).length) : (startsL t).getD i 0 = ofs ((pieces t).take i) := by
  unfold startsL
  rw [List.getD, List.getElem?_map, List.getElem?_range hi]; rfl

theorem at_s (t : List Int) (h : ∀ x ∈ t, isB x) (hs : t.length < 1000000000000) (l c : Int) (hl : in64 l) (hc : in64 c) (k : Int → Bool → Prop) (hk : k (atP t l c).1 (atP t l c).2) : N59.f (bytesOf t) l c k := by
  rw [N59.f_def]
  unfold N59.f0 N59.c N59.j2000003' N59.j2000003 N59.j4' N59.j4
  refine line_s t h hs l hl _ ?_
  unfold atP at hk
  unfold lineP lineN at *
  have hpl := pieces_len_le t
  by_cases h0 : 1 ≤ l ∧ l ≤ ((pieces t).length : Int)
  · rw [if_pos h0]
    have hle := piece_le t (l - 1).toNat (by omega)
    simp only [Bool.not_true, br_false, br_true, br_dec, bytesOf_size]
    rw [wrap_id (n := ((((pieces t).getD (l - 1).toNat []).length : Int) + 1)) (by omega) (by omega)]
    split
    · rw [if_neg (by omega)] at hk; exact hk
    split
    · rw [if_neg (by omega)] at hk; exact hk
    rw [if_pos (by omega)] at hk
    refine starts_s t h hs _ ?_
    rw [startsL_length]
    rw [wrap_id (n := l - 1) (by omega) (by omega), startsL_getD _ _ (by omega)]
    rw [wrap_id (n := ((ofs ((pieces t).take (l - 1).toNat) : Int) + c)) (by omega) (by omega), wrap_id (by omega) (by omega)]
    exact ⟨⟨by omega, by omega, by omega⟩, hk⟩
  · rw [if_neg h0]
    simp only [Bool.not_false, br_true]
    rw [if_neg (by omega)] at hk
    exact hk

/-! ### The mark below a place -/
def padL (line : List Int) (n : Nat) : List Int := (List.range n).map fun j => if line.getD j 0 = 9 then 9 else 32
def spotLine (t : List Int) (n : Nat) : List Int := (pieces t).getD (lineN (t.take n) - 1) []
def markL (t : List Int) (n : Int) : List Int := if 0 ≤ n ∧ n ≤ t.length then
  putL (lineN (t.take n.toNat)) ++ [58] ++ putL ((lastP (t.take n.toNat)).length + 1) ++ [10] ++ spotLine t n.toNat ++ [10] ++ padL (spotLine t n.toNat) (lastP (t.take n.toNat)).length ++ [94, 10] else []

theorem split_at (t : List Int) (n : Nat) (hn : n ≤ t.length) : lineN (t.take n) ≤ lineN t ∧ 1 ≤ lineN (t.take n) ∧ (pieces t).take (lineN (t.take n) - 1) = (pieces (t.take n)).dropLast ∧ ofs ((pieces t).take (lineN (t.take n) - 1)) + (lastP (t.take n)).length = n ∧ ∃ w, spotLine t n = lastP (t.take n) ++ w := by
  obtain ⟨i, l, h1, h2, h3, h4, h5⟩ := pieces_split (t.take n)
  have h6 := h5 (t.drop n)
  rw [List.take_append_drop] at h6
  have htl : (t.take n).length = n := by simp; omega
  have hln : lineN (t.take n) = i.length + 1 := by unfold lineN; rw [h1]; simp
  have hlp : lastP (t.take n) = l := by unfold lastP; rw [h1, getLastD_snoc]
  unfold spotLine
  rw [hln, hlp]
  refine ⟨?_, by omega, ?_, ?_, (pieces (t.drop n)).headD [], ?_⟩
  · unfold lineN; rw [h6]; simp
  · rw [h6, h1, Nat.add_sub_cancel, List.take_left', List.dropLast_concat]; rfl
  · rw [h6, Nat.add_sub_cancel, List.take_left' rfl]; omega
  · rw [h6, Nat.add_sub_cancel]; simp [List.getD]

theorem padL_snoc (line : List Int) (n : Nat) : padL line (n + 1) = padL line n ++ [if line.getD n 0 = 9 then 9 else 32] := by
  unfold padL; rw [List.range_succ, List.map_append]; rfl
theorem padL_length (line : List Int) (n : Nat) : (padL line n).length = n := by unfold padL; simp

theorem piece_isB (t : List Int) (h : ∀ x ∈ t, isB x) : ∀ p ∈ pieces t, ∀ x ∈ p, isB x := by
  induction t with
  | nil => intro p hp x hx; rw [pieces, List.mem_singleton] at hp; subst hp; cases hx
  | cons c r ih =>
    have ih := ih (fun x hx => h x (List.mem_cons_of_mem _ hx))
    intro p hp x hx
    rw [pieces] at hp
    obtain ⟨q, qs, e⟩ := pieces_ne r
    rw [e] at ih hp
    split at hp
    · rcases List.mem_cons.1 hp with rfl | hp
      · cases hx
      · exact ih p hp x hx
    · rcases List.mem_cons.1 hp with rfl | hp
      · rcases List.mem_cons.1 hx with rfl | hx
        · exact h _ (List.mem_cons_self ..)
        · exact ih q (List.mem_cons_self ..) x hx
      · exact ih p (List.mem_cons_of_mem _ hp) x hx
theorem getD_memP {α : Type} {l : List α} {d : α} {i : Nat} (h : i < l.length) : l.getD i d ∈ l := by
  rw [List.getD, List.getElem?_eq_getElem h]; exact List.getElem_mem h
theorem getD_map_bytes {l : List (List Int)} {i : Nat} (h : i < l.length) (d : ByteArray) : (l.map bytesOf).getD i d = bytesOf (l.getD i []) := by
  rw [List.getD, List.getElem?_map, List.getElem?_eq_getElem h, List.getD, List.getElem?_eq_getElem h]; rfl

theorem mark_s (t : List Int) (h : ∀ x ∈ t, isB x) (hs : t.length < 1000000000000) (n : Int) (k : ByteArray → Prop) (hk : k (bytesOf (markL t n))) : N57.f (bytesOf t) n k := by
  rw [N57.f_def]
  unfold N57.f0 N57.c N57.l13'
  refine spot_s t h hs n _ ?_
  unfold spotP
  unfold markL at hk
  by_cases h0 : 0 ≤ n ∧ n ≤ (t.length : Int)
  · rw [if_pos h0] at hk
    rw [if_pos h0]
    obtain ⟨m, rfl⟩ : ∃ m : Nat, n = m := ⟨n.toNat, by omega⟩
    rw [Int.toNat_natCast] at hk ⊢
    obtain ⟨s1, s2, s3, s4, w, s5⟩ := split_at t m (by omega)
    have hpl := pieces_len_le t
    have hln : lineN t = (pieces t).length := rfl
    have hi : lineN (t.take m) - 1 < (pieces t).length := by omega
    have hle := piece_le t _ hi
    have hlB : ∀ x ∈ spotLine t m, isB x := piece_isB t h _ (getD_memP hi)
    have hline : lineP t (lineN (t.take m)) = (spotLine t m, true) := by
      unfold lineP
      rw [if_pos (by omega), show ((lineN (t.take m) : Int) - 1).toNat = lineN (t.take m) - 1 by omega]; rfl
    have hsl : (spotLine t m).length ≤ t.length := by unfold spotLine; omega
    generalize spotLine t m = line at *
    generalize (lastP (t.take m)).length = C at *
    generalize lineN (t.take m) = L at *
    dsimp only
    have p1 := putL_len (L : Int)
    have p2 := putL_len ((C : Int) + 1)
    simp only [br_beq]
    rw [if_neg (by omega)]
    refine put_s _ ⟨by omega, by omega⟩ _ ?_
    rw [show ByteArray.empty = bytesOf [] from rfl]
    refine ws_s (by simp only [List.length_nil]; omega) (wb_s ⟨by decide, by decide⟩ (by simp only [List.length_append, List.length_nil]; omega) ?_)
    refine put_s _ ⟨by omega, by omega⟩ _ ?_
    refine ws_s (by simp only [List.length_append, List.length_nil, List.length_singleton]; omega) (wb_s ⟨by decide, by decide⟩ (by simp only [List.length_append, List.length_nil, List.length_singleton]; omega) ?_)
    refine line_s t h hs _ ⟨by omega, by omega⟩ _ ?_
    rw [hline]
    refine ws_s (by simp only [List.length_append, List.length_nil, List.length_singleton]; omega) (wb_s ⟨by decide, by decide⟩ (by simp only [List.length_append, List.length_nil, List.length_singleton]; omega) ?_)
    rw [show (C : Int) + 1 - 1 = C by omega, wrap_id (n := (C : Int)) (by omega) (by omega)]
    generalize hpre : [] ++ putL (L : Int) ++ [58] ++ putL ((C : Int) + 1) ++ [10] ++ line ++ [10] = pre
    have hprel : pre.length ≤ t.length + 50 := by rw [← hpre]; simp only [List.length_append, List.length_nil, List.length_singleton]; omega
    refine loopS_of (fun s : Int × ByteArray => ∃ i : Nat, s.1 = i ∧ i ≤ C ∧ s.2 = bytesOf (pre ++ padL line i)) (fun s => C - s.1.toNat) ?_ ⟨0, rfl, Nat.zero_le _, by simp [padL]⟩
    rintro again ⟨a, b⟩ ⟨i, e1, hi, e2⟩ hag
    simp only at e1 e2
    subst e1; subst e2
    unfold N57.l13 N57.j2000016' N57.j2000016 N57.j19' N57.j19 N57.j17' N57.j17 N57.j18' N57.j18
    dsimp only
    have hpd := padL_length line i
    refine br_of (fun hlt => ?_) (fun hge => ?_)
    · have hlt : i < C := by simp at hlt; omega
      rw [bytesOf_size, byteAt_bytes hlB]
      have hw : IntKind.i64.wrap ((i : Int) + 1) = (i : Int) + 1 := wrap_id (by omega) (by omega)
      simp only [hw]
      have fin : ∀ b : Bool, (b = true ↔ line.getD i 0 = 9) → br b (wb 9 (bytesOf (pre ++ padL line i)) fun z => again ((i : Int) + 1, z)) (wb 32 (bytesOf (pre ++ padL line i)) fun z => again ((i : Int) + 1, z)) := by
        intro b hb
        refine br_of (fun h => ?_) (fun h => ?_)
        · refine wb_s ⟨by decide, by decide⟩ (by rw [List.length_append]; omega) (hag _ ⟨i + 1, by simp, by omega, ?_⟩ (by simp only; omega))
          rw [padL_snoc, if_pos (hb.1 h), List.append_assoc]
        · refine wb_s ⟨by decide, by decide⟩ (by rw [List.length_append]; omega) (hag _ ⟨i + 1, by simp, by omega, ?_⟩ (by simp only; omega))
          rw [padL_snoc, if_neg (fun q => by rw [hb.2 q] at h; cases h), List.append_assoc]
      refine br_of (fun h1 => ⟨?_, fin _ (by simp)⟩) (fun h1 => fin _ ?_)
      · have h1 : i < line.length := by simp at h1; omega
        exact ⟨by omega, by omega, by omega⟩
      · have h1 : line.length ≤ i := by simp at h1; omega
        rw [List.getD, List.getElem?_eq_none h1]
        simp
    · have hge : i = C := by simp at hge; omega
      subst hge
      refine wb_s ⟨by decide, by decide⟩ (by rw [List.length_append]; omega) (wb_s ⟨by decide, by decide⟩ (by simp only [List.length_append, List.length_singleton]; omega) (bs_s ?_))
      have e : pre ++ padL line i ++ [94] ++ [10] = putL (L : Int) ++ [58] ++ putL ((i : Int) + 1) ++ [10] ++ line ++ [10] ++ padL line i ++ [94, 10] := by
        rw [← hpre]; simp
      rw [e]; exact hk
  · rw [if_neg h0] at hk
    rw [if_neg h0]
    exact hk

theorem markr_s (t : List Int) (h : ∀ x ∈ t, isB x) (hs : t.length < 1000000000000) (n : Int) (k : ByteArray → Prop) (hk : k (bytesOf (markL t n))) : N58.f (bytesOf t) n k := by
  rw [N58.f_def]
  unfold N58.f0 N58.c N58.l7'
  refine spotr_s t h hs n _ ?_
  unfold spotP
  unfold markL at hk
  by_cases h0 : 0 ≤ n ∧ n ≤ (t.length : Int)
  · rw [if_pos h0] at hk
    rw [if_pos h0]
    obtain ⟨m, rfl⟩ : ∃ m : Nat, n = m := ⟨n.toNat, by omega⟩
    rw [Int.toNat_natCast] at hk ⊢
    obtain ⟨s1, s2, s3, s4, w, s5⟩ := split_at t m (by omega)
    have hpl := pieces_len_le t
    have hln : lineN t = (pieces t).length := rfl
    have hi : lineN (t.take m) - 1 < (pieces t).length := by omega
    have hle := piece_le t _ hi
    have hlB : ∀ x ∈ spotLine t m, isB x := piece_isB t h _ (getD_memP hi)
    have hsl : (spotLine t m).length ≤ t.length := by unfold spotLine; omega
    have hCl : (lastP (t.take m)).length ≤ (spotLine t m).length := by rw [s5, List.length_append]; omega
    have hdef : (pieces t).getD (lineN (t.take m) - 1) [] = spotLine t m := rfl
    dsimp only
    simp only [br_beq]
    rw [if_neg (by omega)]
    refine all_s t h hs _ ?_
    rw [List.length_map, wrap_id (n := ((lineN (t.take m) : Int) - 1)) (by omega) (by omega), show ((lineN (t.take m) : Int) - 1).toNat = lineN (t.take m) - 1 by omega, getD_map_bytes hi, hdef]
    generalize spotLine t m = line at *
    generalize (lastP (t.take m)).length = C at *
    generalize lineN (t.take m) = L at *
    have p1 := putL_len (L : Int)
    have p2 := putL_len ((C : Int) + 1)
    refine ⟨⟨by omega, by omega, by omega⟩, putr_s _ ⟨by omega, by omega⟩ _ ?_⟩
    rw [show ByteArray.mk #[58] = bytesOf [58] from rfl, show ByteArray.mk #[10] = bytesOf [10] from rfl, bytesOf_size, bytesOf_size]
    refine ⟨by simp only [List.length_singleton]; omega, putr_s _ ⟨by omega, by omega⟩ _ ?_⟩
    simp only [← bytesOf_append, bytesOf_size]
    refine ⟨by simp only [List.length_append, List.length_singleton]; omega, by simp only [List.length_append, List.length_singleton]; omega, by simp only [List.length_append, List.length_singleton]; omega, by simp only [List.length_append, List.length_singleton]; omega, ?_⟩
    generalize hpre : putL (L : Int) ++ [58] ++ putL ((C : Int) + 1) ++ [10] ++ line ++ [10] = pre
    have hprel : pre.length ≤ t.length + 50 := by rw [← hpre]; simp only [List.length_append, List.length_nil, List.length_singleton]; omega
    refine loopS_of (fun s : ByteArray × Int => ∃ i : Nat, s.2 = i ∧ i ≤ C ∧ s.1 = bytesOf (pre ++ padL line i)) (fun s => C - s.2.toNat) ?_ ⟨0, rfl, Nat.zero_le _, by simp [padL]⟩
    rintro again ⟨b, a⟩ ⟨i, e1, hi, e2⟩ hag
    simp only at e1 e2
    subst e1; subst e2
    unfold N58.l7 N58.j8' N58.j8 N58.j12' N58.j12
    dsimp only
    have hpd := padL_length line i
    rw [show (C : Int) + 1 - 1 = C by omega, wrap_id (n := (C : Int)) (by omega) (by omega)]
    refine br_of (fun hlt => ?_) (fun hge => ?_)
    · have hlt : i < C := by simp at hlt; omega
      rw [bytesOf_size, byteAt_bytes hlB]
      rw [wrap_id (n := ((i : Int) + 1)) (by omega) (by omega)]
      refine ⟨⟨by omega, by omega, by omega⟩, ?_⟩
      simp only [br_beq]
      split
      · rename_i h9
        rw [show ByteArray.mk #[9] = bytesOf [9] from rfl, ← bytesOf_append, bytesOf_size, bytesOf_size]
        refine ⟨by simp only [List.length_append, List.length_singleton]; omega, hag _ ⟨i + 1, by simp, by omega, ?_⟩ (by simp only; omega)⟩
        rw [padL_snoc, if_pos h9, List.append_assoc]
      · rename_i h9
        rw [show ByteArray.mk #[32] = bytesOf [32] from rfl, ← bytesOf_append, bytesOf_size, bytesOf_size]
        refine ⟨by simp only [List.length_append, List.length_singleton]; omega, hag _ ⟨i + 1, by simp, by omega, ?_⟩ (by simp only; omega)⟩
        rw [padL_snoc, if_neg h9, List.append_assoc]
    · have hge : i = C := by simp at hge; omega
      subst hge
      rw [show ByteArray.mk #[94, 10] = bytesOf [94, 10] from rfl, ← bytesOf_append, bytesOf_size, bytesOf_size]
      refine ⟨by simp only [List.length_append, List.length_cons, List.length_nil]; omega, ?_⟩
      have e : pre ++ padL line i ++ [94, 10] = putL (L : Int) ++ [58] ++ putL ((i : Int) + 1) ++ [10] ++ line ++ [10] ++ padL line i ++ [94, 10] := by
        rw [← hpre]
      rw [e]; exact hk
  · rw [if_neg h0] at hk
    rw [if_neg h0]
    exact hk
end Go.Proofs.Yu
namespace Go.Proofs.Yu
open Go Go.Aw Go.Proofs Go.RowKit
set_option linter.unusedVariables false
set_option linter.unusedSimpArgs false

theorem in64_lit {n : Int} (h : decide (-9223372036854775808 ≤ n ∧ n ≤ 9223372036854775807) = true) : in64 n := by
  have := of_decide_eq_true h
  exact this
theorem isB_lit {l : List Int} (h : l.all (fun x => decide (0 ≤ x ∧ x < 256)) = true) : ∀ x ∈ l, isB x := by
  intro x hx
  have := of_decide_eq_true (List.all_eq_true.1 h x hx)
  exact this

theorem works_l (k : Bool → Prop) (hk : k true) : N50.f k := by
  rw [N50.f_def]
  unfold N50.f0 N50.c
  rw [show ByteArray.mk #[97, 98, 10, 99, 100] = bytesOf [97, 98, 10, 99, 100] from rfl]
  have h5 : ∀ x ∈ [97, 98, 10, 99, 100], isB x := isB_lit (by decide)
  refine spot_s _ h5 (by decide) _ _ ?_
  rw [show spotP [97, 98, 10, 99, 100] 4 = (2, 2) by decide +kernel]
  refine at_s _ h5 (by decide) _ _ (in64_lit (by decide)) (in64_lit (by decide)) _ ?_
  rw [show atP [97, 98, 10, 99, 100] 2 2 = (4, true) by decide +kernel]
  refine line_s _ h5 (by decide) _ (in64_lit (by decide)) _ ?_
  rw [show lineP [97, 98, 10, 99, 100] 1 = ([97, 98], true) by decide +kernel]
  rw [show ByteArray.mk #[97, 98] = bytesOf [97, 98] from rfl, beqS_self]
  simp only [beq_self_eq_true, br_true]
  rw [show ByteArray.mk #[] = bytesOf [] from rfl]
  refine count_s [] (isB_lit (by decide)) (by decide) _ ?_
  rw [show ((lineN [] : Nat) : Int) = 1 from rfl]
  simp only [beq_self_eq_true, br_true]
  refine mark_s _ h5 (by decide) _ _ ?_
  rw [show bytesOf (markL [97, 98, 10, 99, 100] 4) = ByteArray.mk #[50, 58, 50, 10, 99, 100, 10, 32, 94, 10] by decide +kernel, beqS_self, br_true]
  rw [show ByteArray.mk #[97, 10] = bytesOf [97, 10] from rfl]
  refine starts_s [97, 10] (isB_lit (by decide)) (by decide) _ ?_
  rw [show startsL [97, 10] = [0, 2] by decide +kernel]
  exact hk

theorem text_of (s : ByteArray) : ∃ t, s = bytesOf t ∧ (∀ x ∈ t, isB x) := ⟨ofBytes s, (bytesOf_ofBytes s).symm, ofBytes_isB s⟩

/-! ### A place, its line and column, and back -/
theorem spot_at (t : List Int) (n : Nat) (hn : n ≤ t.length) : atP t (spotP t n).1 (spotP t n).2 = ((n : Int), true) := by
  obtain ⟨s1, s2, s3, s4, w, s5⟩ := split_at t n hn
  have hsp : spotP t n = ((lineN (t.take n) : Int), ((lastP (t.take n)).length : Int) + 1) := by
    unfold spotP
    rw [if_pos (by omega), Int.toNat_natCast]
  rw [hsp]
  unfold atP
  dsimp only
  rw [show ((lineN (t.take n) : Int) - 1).toNat = lineN (t.take n) - 1 by omega]
  have hdef : (pieces t).getD (lineN (t.take n) - 1) [] = spotLine t n := rfl
  have hCl : (lastP (t.take n)).length ≤ (spotLine t n).length := by rw [s5, List.length_append]; omega
  rw [hdef, if_pos (by omega), Prod.mk.injEq]
  exact ⟨by omega, rfl⟩

theorem take_ofs (t : List Int) (i j : Nat) (hi : i < (pieces t).length) (hj : j ≤ ((pieces t).getD i []).length) :
    ofs ((pieces t).take i) + j ≤ t.length ∧ lineN (t.take (ofs ((pieces t).take i) + j)) = i + 1 ∧ (lastP (t.take (ofs ((pieces t).take i) + j))).length = j := by
  have hle := piece_le t i hi
  have hn : ofs ((pieces t).take i) + j ≤ t.length := by omega
  refine ⟨hn, ?_⟩
  obtain ⟨s1, s2, s3, s4, w, s5⟩ := split_at t _ hn
  generalize hN : ofs ((pieces t).take i) + j = N at *
  generalize hL : lineN (t.take N) = L at *
  generalize hC : (lastP (t.take N)).length = C at *
  unfold lineN at s1
  have hCl : C ≤ ((pieces t).getD (L - 1) []).length := by
    have : (pieces t).getD (L - 1) [] = lastP (t.take N) ++ w := by rw [← s5, ← hL]; rfl
    rw [this, List.length_append]; omega
  have mono : ∀ (a b : Nat), a < b → b ≤ (pieces t).length → ofs ((pieces t).take a) + ((pieces t).getD a []).length + 1 ≤ ofs ((pieces t).take b) := by
    intro a b hab hb
    have e : (pieces t).take b = (pieces t).take a ++ (((pieces t).take b).drop a) := by
      conv => lhs; rw [← List.take_append_drop a ((pieces t).take b)]
      rw [List.take_take, Nat.min_eq_left (by omega)]
    rw [e, ofs_append, List.drop_eq_getElem_cons (by rw [List.length_take]; omega), ofs, List.getElem_take]
    rw [List.getD, List.getElem?_eq_getElem (by omega)]
    show _ + ((pieces t)[a]).length + 1 ≤ _
    omega
  have hLi : L - 1 = i := by
    by_cases h1 : L - 1 < i
    · have := mono (L - 1) i h1 (by omega); omega
    · by_cases h2 : i < L - 1
      · have := mono i (L - 1) h2 (by omega); omega
      · omega
  rw [hLi] at s4
  omega

theorem at_spot (t : List Int) (l c : Int) (h : (atP t l c).2 = true) : ∃ n : Nat, (atP t l c).1 = n ∧ n ≤ t.length ∧ spotP t n = (l, c) := by
  unfold atP at h ⊢
  split at h
  · rename_i h0
    obtain ⟨q1, q2, q3, q4⟩ := h0
    rw [if_pos ⟨q1, q2, q3, q4⟩]
    unfold lineN at q2
    obtain ⟨a1, a2, a3⟩ := take_ofs t (l - 1).toNat (c - 1).toNat (by omega) (by omega)
    refine ⟨ofs ((pieces t).take (l - 1).toNat) + (c - 1).toNat, by dsimp only; omega, a1, ?_⟩
    unfold spotP
    rw [if_pos (by omega), Int.toNat_natCast, a2, a3, Prod.mk.injEq]
    exact ⟨by omega, by omega⟩
  · cases h
theorem at_zero (t : List Int) (l c : Int) (h : (atP t l c).2 = false) : (atP t l c).1 = 0 := by
  unfold atP at h ⊢
  split at h
  · cases h
  · rename_i h0; rw [if_neg h0]
theorem spot_in (t : List Int) (n : Nat) (hn : n ≤ t.length) (hs : t.length < 1000000000000) : in64 (spotP t n).1 ∧ in64 (spotP t n).2 := by
  unfold spotP in64
  rw [if_pos (by omega), Int.toNat_natCast]
  have h1 := pieces_len_le (t.take n)
  have h2 := lastP_le (t.take n)
  have htl : (t.take n).length = n := by simp; omega
  unfold lineN
  dsimp only
  omega
end Go.Proofs.Yu
namespace Go.Proofs.Yu.LinesMarks
open Go Go.Aw Go.Proofs Go.Proofs.Ytbfggnlonemmiaa Go.ChangeShapes Go.WideShapes Go.ChangeAt Go.RowKit
set_option linter.unusedVariables false
set_option linter.unusedSimpArgs false
set_option maxRecDepth 100000
/-! 14 dyehouse/dyehouselaw06.LinesMarks -/
def Pure : Prop := ∀ (x0 : ByteArray) (w0 : x0.size ≤ reachBytes) (x1 : Int) (w1 : (Lit.int IntKind.i64 x1).wf = true), N14.f x0 x1 (fun y0 => y0 = true)
theorem own : ownKnob Try.prog.godebug = none := by kernel_rfl
theorem laid : laidOutB Try.prog = true := by kernel_rfl
theorem lifted (pure : Pure) (os : Os) (started : os.Started) (H : Type) (enc : TypeId × Value → H) :
    ReturnsInHanded {} Try.checked os 14 .any (Rows.linesMarksSpec.pre6 enc Try.prog Try.f14 Rows.linesMarksRow.domain false) (Rows.linesMarksSpec.post enc Try.prog Try.f14 false true false false) := by
  refine returnsInHanded_of_change_sized (C := Try.checked) own started (by kernel_rfl) Try.func14
    (ChangeSpec.witness6 (enc := enc) (C := Try.checked) false ⟨#[], #[.string ⟨#[]⟩, .int IntKind.i64 0], []⟩ 14 (by kernel_rfl) (by kernel_rfl) (by kernel_rfl) (by kernel_rfl)) ?_
  intro W base args ds gs before hval0 hW hcnd hsz0 _
  have hsz : (DataW.weightsEach Try.prog (Try.f14.params.toList ++ Rows.linesMarksSpec.plain.varTypes Try.prog) (ds ++ gs)).all (· ≤ reachBytes) = true := hsz0
  have hval : ∀ (j : Nat) t v, Try.f14.params[j]? = some t → args[j]? = some v → Value.okWide Try.prog W .any base t v := hval0
  have hW' := hW
  have hlt := hW.lt
  obtain ⟨p, q, hA0, hV, rfl, hfz, hnd⟩ := hW
  have hA : DataW.TrodAll enc Try.prog W 0 (fun _ => true) true Try.f14.params.toList args.toList ds p := hA0
  have hAk := hA
  rw [Try.params14] at hA hval hsz
  obtain ⟨v0, vs0, d0, ds0, p0, q0, hargs, rfl, rfl, h0, r0⟩ := trodAll_cons hA
  obtain ⟨v1, vs1, d1, ds1, p1, q1, rfl, rfl, rfl, h1, r1⟩ := trodAll_cons r0
  obtain ⟨rfl, rfl, rfl⟩ := trodAll_nil r1
  obtain rfl : args = #[v0, v1] := by cases args; simp_all
  obtain ⟨rfl, rfl⟩ := trodVars_none hV
  obtain ⟨x0, k0, w0, q0⟩ := arg_str (tf := 0) (tw := 0) (by kernel_rfl) (hval 0 9 v0 rfl rfl) h0 (fun m hm => of_decide_eq_true (List.all_eq_true.1 hsz m (DataW.weights_mem_each (j := 0) rfl rfl m hm)))
  obtain ⟨x1, k1, w1⟩ := arg_int (tf := 0) (tw := 0) (n := 1) (k := IntKind.i64) (by kernel_rfl) (hval 1 3 v1 rfl rfl) h1
  refine (law_of N14.ok (W := W) (us := [v0, v1]) (ds := [.v (.string x0), .v (.int IntKind.i64 x1)]) ⟨_, _, rfl, k0, ⟨_, _, rfl, k1, by simp only [RepL]⟩⟩ (show N14.ent _ _ _ _ from pure x0 w0 x1 w1)).mono fun e W' ⟨he, bel⟩ => ?_
  subst he
  exact ⟨_, rfl, _, _, _, [], _, [], hW', trodAll_mk1 (shut_bool (by kernel_rfl) _), trodAll_below laid bel (by kernel_rfl) hAk (fun x hx => hlt x (by simpa using hx)), rfl, bel.frame _, fun h => by cases h⟩
theorem over (pure : Pure) : Rows.linesMarksRow.holds Try.pinned (OpenSpec.ofChange Rows.linesMarksSpec) :=
  OpenClaim.holds_of_wide 14 Try.f14 rfl rfl rfl rfl rfl rfl rfl ⟨rfl, rfl, rfl, rfl, rfl⟩ rfl rfl rfl rfl rfl (by kernel_rfl) Try.func14 (by kernel_rfl)
    (of_decide_eq_true (by kernel_rfl)) (by unfold Func.isWrapper; first | (rw [if_pos (by decide +kernel)]; kernel_rfl) | (rw [if_neg (by decide +kernel)]; exact ⟨rfl, rfl⟩))
    (fun os started H enc _ => lifted pure os started H enc)
theorem holds (pure : Pure) : Rows.LinesMarksSaid := over pure
end Go.Proofs.Yu.LinesMarks
namespace Go.Proofs.Yu.LinesMarks
open Go Go.Aw Go.Proofs Go.RowKit
set_option linter.unusedVariables false
set_option linter.unusedSimpArgs false

theorem padL_noNL (line : List Int) (n : Nat) : noNL (padL line n) := by
  intro x hx
  unfold padL at hx
  obtain ⟨j, _, rfl⟩ := List.mem_map.1 hx
  split <;> decide
theorem putL_noNL (n : Int) : noNL (putL n) := by
  intro x hx
  rcases putL_ch n x hx with rfl | hd
  · decide
  · have := hd.1; omega
theorem noNL_append {a b : List Int} (ha : noNL a) (hb : noNL b) : noNL (a ++ b) := fun x hx => (List.mem_append.1 hx).elim (ha x) (hb x)
theorem noNL_one {c : Int} (h : c ≠ 10) : noNL [c] := fun x hx => by rw [List.mem_singleton.1 hx]; exact h
theorem pieces_noNLs (t : List Int) : ∀ p ∈ pieces t, noNL p := by
  obtain ⟨i, l, h1, _, h3, h4, _⟩ := pieces_split t
  intro p hp
  rw [h1] at hp
  rcases List.mem_append.1 hp with hp | hp
  · exact h4 p hp
  · rw [List.mem_singleton.1 hp]; exact h3
theorem padL_getD (line : List Int) (n j : Nat) (hj : j < n) : (padL line n).getD j 0 = if line.getD j 0 = 9 then 9 else 32 := by
  unfold padL
  rw [List.getD, List.getElem?_map, List.getElem?_range hj]; rfl
theorem padL_isB (line : List Int) (n : Nat) : ∀ x ∈ padL line n, isB x := by
  intro x hx
  unfold padL at hx
  obtain ⟨j, _, rfl⟩ := List.mem_map.1 hx
  split
  · exact ⟨by decide, by decide⟩
  · exact ⟨by decide, by decide⟩

theorem pure : Pure := by
  intro x0 w0 n w1
  obtain ⟨t, rfl, h⟩ := text_of x0
  have hw : N50.f (fun y => y = true) := works_l _ rfl
  rw [N14.f_def]
  unfold N14.f0 N14.c
  rw [bytesOf_size]
  refine br_of (fun _ => hw) (fun hsz => ?_)
  have hs : t.length < 300000000000 := by simp at hsz; omega
  refine mark_s t h (by omega) n _ (spot_s t h (by omega) n _ ?_)
  unfold N14.j2000006' N14.j2000006 N14.j7' N14.j7 N14.j2000009' N14.j2000009 N14.j10' N14.j10
  unfold markL spotP
  simp only [br_dec, br_true]
  by_cases h0 : 0 ≤ n ∧ n ≤ (t.length : Int)
  · rw [if_neg (by omega)]
    simp only [if_pos h0]
    obtain ⟨m, rfl⟩ : ∃ m : Nat, n = m := ⟨n.toNat, by omega⟩
    rw [if_neg (by omega)]
    rw [Int.toNat_natCast]
    obtain ⟨s1, s2, s3, s4, w, s5⟩ := split_at t m (by omega)
    have hpl := pieces_len_le t
    have hln : lineN t = (pieces t).length := rfl
    have hi : lineN (t.take m) - 1 < (pieces t).length := by omega
    have hle := piece_le t _ hi
    have hlB : ∀ x ∈ spotLine t m, isB x := piece_isB t h _ (getD_memP hi)
    have hlN : noNL (spotLine t m) := pieces_noNLs t _ (getD_memP hi)
    have hsl : (spotLine t m).length ≤ t.length := by unfold spotLine; omega
    have hCl : (lastP (t.take m)).length ≤ (spotLine t m).length := by rw [s5, List.length_append]; omega
    clear s5 s4 s3 hle
    generalize spotLine t m = line at *
    generalize (lastP (t.take m)).length = C at *
    generalize lineN (t.take m) = L at *
    have p1 := putL_len (L : Int)
    have p2 := putL_len ((C : Int) + 1)
    have hpad := padL_length line C
    have e : putL (L : Int) ++ [58] ++ putL ((C : Int) + 1) ++ [10] ++ line ++ [10] ++ padL line C ++ [94, 10] = (putL (L : Int) ++ [58] ++ putL ((C : Int) + 1)) ++ 10 :: (line ++ 10 :: ((padL line C ++ [94]) ++ 10 :: [])) := by simp
    have hps : pieces (putL (L : Int) ++ [58] ++ putL ((C : Int) + 1) ++ [10] ++ line ++ [10] ++ padL line C ++ [94, 10]) = [putL (L : Int) ++ [58] ++ putL ((C : Int) + 1), line, padL line C ++ [94], []] := by
      rw [e, pieces_cut (noNL_append (noNL_append (putL_noNL _) (noNL_one (by decide))) (putL_noNL _)), pieces_cut hlN, pieces_cut (noNL_append (padL_noNL _ _) (noNL_one (by decide)))]; rfl
    have hBm : ∀ x ∈ putL (L : Int) ++ [58] ++ putL ((C : Int) + 1) ++ [10] ++ line ++ [10] ++ padL line C ++ [94, 10], isB x := by
      have hap : ∀ a b : List Int, (∀ x ∈ a, isB x) → (∀ x ∈ b, isB x) → ∀ x ∈ a ++ b, isB x := fun a b ha hb x hx => (List.mem_append.1 hx).elim (ha x) (hb x)
      exact hap _ _ (hap _ _ (hap _ _ (hap _ _ (hap _ _ (hap _ _ (hap _ _ (putL_isB _) (isB_lit (by decide))) (putL_isB _)) (isB_lit (by decide))) hlB) (isB_lit (by decide))) (padL_isB _ _)) (isB_lit (by decide))
    refine all_s _ hBm (by simp only [List.length_append, List.length_cons, List.length_nil]; omega) _ ?_
    rw [hps]
    generalize hq0 : putL (L : Int) ++ [58] ++ putL ((C : Int) + 1) = q0
    simp only [List.map_cons, List.map_nil, List.length_cons, List.length_nil]
    simp only [show Int.toNat 3 = 3 from rfl, show Int.toNat 2 = 2 from rfl, show Int.toNat 1 = 1 from rfl, List.getD_cons_succ, List.getD_cons_zero]
    have hBp : ∀ x ∈ padL line C ++ [94], isB x := fun x hx => (List.mem_append.1 hx).elim (padL_isB _ _ x) (isB_lit (by decide) x)
    rw [show ByteArray.mk #[] = bytesOf [] from rfl, beqS_self]
    simp only [bytesOf_size, List.length_append, List.length_singleton, hpad]
    simp only [br_bne, Bool.not_true, br_false]
    rw [if_pos (by decide)]
    refine ⟨⟨by decide, by decide, by decide⟩, ⟨by decide, by decide, by decide⟩, ?_⟩
    rw [if_pos (by omega)]
    unfold N14.l11'
    refine loopS_of (fun s : Int × List ByteArray => ∃ i : Nat, s.1 = i ∧ i ≤ C ∧ s.2 = [bytesOf q0, bytesOf line, bytesOf (padL line C ++ [94]), bytesOf []]) (fun s => C - s.1.toNat) ?_ ⟨0, rfl, Nat.zero_le _, rfl⟩
    rintro again ⟨a, b⟩ ⟨i, e1, hi, e2⟩ hag
    simp only at e1 e2
    subst e1; subst e2
    unfold N14.l11 N14.j2000014' N14.j2000014 N14.j15' N14.j15 N14.j12' N14.j12
    dsimp only
    simp only [List.length_cons, List.length_nil, show Int.toNat 2 = 2 from rfl, show Int.toNat 1 = 1 from rfl, List.getD_cons_succ, List.getD_cons_zero, bytesOf_size, List.length_append, hpad, byteAt_bytes hBp, byteAt_bytes hlB]
    rw [show (C : Int) + 1 - 1 = C by omega, wrap_id (n := (C : Int)) (by omega) (by omega), wrap_id (n := (i : Int) + 1) (by omega) (by omega)]
    have d2 : inB 0 (2 : Int) (((0 + 1 + 1 + 1 + 1 : Nat) : Int) - 1) := ⟨by decide, by decide, by decide⟩
    have d1 : inB 0 (1 : Int) (((0 + 1 + 1 + 1 + 1 : Nat) : Int) - 1) := ⟨by decide, by decide, by decide⟩
    refine br_of (fun hlt => ?_) (fun hge => ?_)
    · have hlt : i < C := by simp at hlt; omega
      have hg : (padL line C ++ [94]).getD i 0 = if line.getD i 0 = 9 then 9 else 32 := by
        rw [List.getD, List.getElem?_append_left (by omega), ← List.getD, padL_getD line C i hlt]
      have b1 : inB 0 (i : Int) (((C + (0 + 1) : Nat) : Int) - 1) := ⟨by omega, by omega, by omega⟩
      have b2 : inB 0 (i : Int) ((line.length : Int) - 1) := ⟨by omega, by omega, by omega⟩
      have ag := hag (((i : Int) + 1), [bytesOf q0, bytesOf line, bytesOf (padL line C ++ [94]), bytesOf []]) ⟨i + 1, by simp, by omega, rfl⟩ (by simp only; omega)
      rw [hg]
      by_cases h9 : line.getD i 0 = 9
      · rw [if_pos h9, h9]
        simp only [show ((9 : Int) != 32) = true from rfl, show ((9 : Int) != 9) = false from rfl, br_true, br_false, beq_self_eq_true, Bool.not_true]
        exact ⟨d2, b1, d2, b1, d2, b1, d1, b2, ag⟩
      · rw [if_neg h9]
        have h9' : (line.getD i 0 == 9) = false := by simpa using h9
        rw [h9']
        simp only [show ((32 : Int) != 32) = false from rfl, show ((32 : Int) == 9) = false from rfl, br_false, beq_self_eq_true, Bool.not_true]
        exact ⟨d2, b1, d2, b1, d1, b2, ag⟩
    · have hge : i = C := by simp at hge; omega
      subst hge
      refine ⟨d2, ⟨by omega, by omega, by omega⟩, ?_⟩
      rw [extract_bytes hBp]
      have hx : (List.take (Int.toNat ((i + (0 + 1) : Nat) : Int)) (padL line i ++ [94])).drop (Int.toNat (i : Int)) = [94] := by
        rw [Int.toNat_natCast, Int.toNat_natCast, List.take_of_length_le (by simp [hpad]), List.drop_append_of_le_length (by omega), List.drop_of_length_le (by omega)]; rfl
      rw [hx, show ByteArray.mk #[94] = bytesOf [94] from rfl, beqS_self, br_true]
      exact hw
  · simp only [if_neg h0]
    split
    · rw [show ByteArray.mk #[] = bytesOf [] from rfl, beqS_self]
      simp only [br_true, beq_self_eq_true]
      exact hw
    · rw [if_pos (by omega)]
      rw [show ByteArray.mk #[] = bytesOf [] from rfl, beqS_self]
      simp only [br_true, beq_self_eq_true]
      exact hw

theorem proved : Go.Proofs.Ytbfggnlonemmiaa.Rows.LinesMarksSaid := holds pure
end Go.Proofs.Yu.LinesMarks
namespace Go.Proofs.Ytbfggnlonemmiaa
/-- The statement. -/
theorem linesMarks_holds : Rows.LinesMarksSaid := Go.Proofs.Yu.LinesMarks.proved
#print axioms linesMarks_holds
end Go.Proofs.Ytbfggnlonemmiaa
