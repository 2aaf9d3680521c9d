/- Functions of the program as plain functions, each with the proof that the code comes to them. -/
import Derived.Test.YtidclggijmbffaaDoorLexN0
namespace Go.Proofs.Ye
open Go Go.Aw Go.Proofs
set_option linter.unusedVariables false
set_option linter.unusedSimpArgs false
set_option maxRecDepth 100000
/-! dyehouse/quote.Scan -/
namespace N38
noncomputable def cfg : Cfg := { P := Tryd.prog, tf := 49, tw := 0, ty := tys, E := tab [(59, N59.ent)], atSeq := tab [(2000002, ⟨[(0, .keep), (1, .keep), (24, .keep)]⟩), (3, ⟨[(0, .keep), (1, .keep)]⟩), (2000006, ⟨[(0, .keep), (7, .keep), (8, .keep), (27, .keep)]⟩), (14, ⟨[(0, .keep), (7, .keep), (8, .keep)]⟩)], atLoop := tab [(5, ⟨[(0, .keep), (7, .own 5 (Ty.int IntKind.u8)), (8, .keep)]⟩)], outs := [], eqT := tab [], bT := tab [] }
noncomputable def body : Code := bodyOf Tryd.f38
def j2000002 (j3 : ByteArray → Int → Prop) (x0 : ByteArray) (x1 : Int) (x24 : Bool) (k : ByteArray → Int → Int → Prop) : Prop :=
  (br x24 (k (ByteArray.mk #[]) (0 : Int) (1 : Int)) (j3 x0 x1))
def j3 (l5 : ByteArray → Int → (List Int) → Prop) (x0 : ByteArray) (x1 : Int) (k : ByteArray → Int → Int → Prop) : Prop :=
  (l5 x0 (IntKind.i64.wrap (x1 + (1 : Int))) ([] : List Int))
def l5 (j2000006 : ByteArray → Int → Bool → (List Int) → Prop) (x0 : ByteArray) (x8 : Int) (b0 : (List Int)) (k : ByteArray → Int → Int → Prop) : Prop :=
  (br (x8 == ((((x0).size : Nat) : Int))) (j2000006 x0 x8 true b0) ((inB 0 x8 ((((x0).size : Nat) : Int) - 1)) ∧ (j2000006 x0 x8 ((byteAt x0 x8) == (10 : Int)) b0)))
def j2000006 (j14 : ByteArray → Int → (List Int) → Prop) (ag5 : Int → (List Int) → Prop) (x0 : ByteArray) (x8 : Int) (x27 : Bool) (b0 : (List Int)) (k : ByteArray → Int → Int → Prop) : Prop :=
  (br x27 (k (ByteArray.mk #[]) x8 (11 : Int)) ((inB 0 x8 ((((x0).size : Nat) : Int) - 1)) ∧ (br ((byteAt x0 x8) == (34 : Int)) (k (bytesOf b0) (IntKind.i64.wrap (x8 + (1 : Int))) (0 : Int)) (br (((((b0).length : Nat) : Int)) == (64 : Int)) (k (ByteArray.mk #[]) x8 (3 : Int)) ((inB 0 x8 ((((x0).size : Nat) : Int) - 1)) ∧ (br ((byteAt x0 x8) != (92 : Int)) ((inB 0 x8 ((((x0).size : Nat) : Int) - 1)) ∧ ((room ((b0).length + (([(byteAt x0 x8)] : List Int)).length) 1) ∧ (ag5 (IntKind.i64.wrap (x8 + (1 : Int))) (b0 ++ ([(byteAt x0 x8)] : List Int))))) (j14 x0 x8 b0)))))))
def j14 (ag5 : Int → (List Int) → Prop) (x0 : ByteArray) (x8 : Int) (b0 : (List Int)) (k : ByteArray → Int → Int → Prop) : Prop :=
  ((inB (IntKind.i64.wrap (x8 + (1 : Int))) (((x0).size : Nat) : Int) (((x0).size : Nat) : Int)) ∧ (N59.f (ByteArray.extract x0 (Int.toNat (IntKind.i64.wrap (x8 + (1 : Int)))) (Int.toNat (((x0).size : Nat) : Int))) (fun (y0_0 : Int) (y1_0 : Int) => (br (y1_0 == (0 : Int)) (k (ByteArray.mk #[]) x8 (11 : Int)) ((room ((b0).length + (([y0_0] : List Int)).length) 1) ∧ (ag5 (IntKind.i64.wrap (x8 + (IntKind.i64.wrap ((1 : Int) + y1_0)))) (b0 ++ ([y0_0] : List Int))))))))
def c (j2000002 : ByteArray → Int → Bool → Prop) (x0 : ByteArray) (x1 : Int) (k : ByteArray → Int → Int → Prop) : Prop :=
  (br (decide (x1 < (0 : Int))) (j2000002 x0 x1 true) (br (decide (x1 ≥ ((((x0).size : Nat) : Int)))) (j2000002 x0 x1 true) ((inB 0 x1 ((((x0).size : Nat) : Int) - 1)) ∧ (j2000002 x0 x1 ((byteAt x0 x1) != (34 : Int))))))
def j14' (ag5 : Int → (List Int) → Prop) (x0 : ByteArray) (x8 : Int) (b0 : (List Int)) (k : ByteArray → Int → Int → Prop) : Prop := j14 ag5 x0 x8 b0 k
def j2000006' (ag5 : Int → (List Int) → Prop) (x0 : ByteArray) (x8 : Int) (x27 : Bool) (b0 : (List Int)) (k : ByteArray → Int → Int → Prop) : Prop := j2000006 (fun x0 x8 b0 => j14' ag5 x0 x8 b0 k) ag5 x0 x8 x27 b0 k
def l5' (x0 : ByteArray) (x8 : Int) (b0 : (List Int)) (k : ByteArray → Int → Int → Prop) : Prop := ∃ n, loopS (fun (ag : (Int × (List Int)) → Prop) (s : Int × (List Int)) => l5 (fun x0 x8 x27 b0 => j2000006' (fun x8 b0 => ag (x8, b0)) x0 x8 x27 b0 k) x0 s.1 s.2 k) n (x8, b0)
def j3' (x0 : ByteArray) (x1 : Int) (k : ByteArray → Int → Int → Prop) : Prop := j3 (fun x0 x8 b0 => l5' x0 x8 b0 k) x0 x1 k
def j2000002' (x0 : ByteArray) (x1 : Int) (x24 : Bool) (k : ByteArray → Int → Int → Prop) : Prop := j2000002 (fun x0 x1 => j3' x0 x1 k) x0 x1 x24 k
def f0 (x0 : ByteArray) (x1 : Int) (k : ByteArray → Int → Int → Prop) : Prop := c (fun x0 x1 x24 => j2000002' x0 x1 x24 k) x0 x1 k
theorem f_ex : ∃ g : ByteArray → Int → (ByteArray → Int → Int → Prop) → Prop, g = f0 := ⟨_, rfl⟩
noncomputable def f : ByteArray → Int → (ByteArray → Int → Int → Prop) → Prop := Classical.choose f_ex
theorem f_def : f = f0 := Classical.choose_spec f_ex
def m2000002 (x0 : ByteArray) (x1 : Int) (x24 : Bool) : St := { tmps := mkT 85 0 [(0, (.v (.string x0))), (1, (.v (.int IntKind.i64 x1))), (24, (.v (.bool x24)))], hp := [], m := 0 }
def m3 (x0 : ByteArray) (x1 : Int) : St := { tmps := mkT 85 0 [(0, (.v (.string x0))), (1, (.v (.int IntKind.i64 x1)))], hp := [], m := 0 }
def mL5 (x0 : ByteArray) (x8 : Int) (b0 : (List Int)) : St := { tmps := mkT 85 0 [(0, (.v (.string x0))), (7, (.sl 0 0)), (8, (.v (.int IntKind.i64 x8)))], hp := [(.lst 5 (Ty.int IntKind.u8) b0 0 false)], m := 0 }
def m2000006 (x0 : ByteArray) (x8 : Int) (x27 : Bool) (b0 : (List Int)) : St := { tmps := mkT 85 0 [(0, (.v (.string x0))), (7, (.sl 0 0)), (8, (.v (.int IntKind.i64 x8))), (27, (.v (.bool x27)))], hp := [(.lst 5 (Ty.int IntKind.u8) b0 0 false)], m := 0 }
def m14 (x0 : ByteArray) (x8 : Int) (b0 : (List Int)) : St := { tmps := mkT 85 0 [(0, (.v (.string x0))), (7, (.sl 0 0)), (8, (.v (.int IntKind.i64 x8)))], hp := [(.lst 5 (Ty.int IntKind.u8) b0 0 false)], m := 0 }
noncomputable def X2000002 (k kp : D → List Blk → Prop) : St → Prop := atP cfg (pick none' []) [1, 0, 1] body (topK cfg Tryd.f38 k kp)
noncomputable def X3 (k kp : D → List Blk → Prop) : St → Prop := atP cfg (pick none' []) [1, 1] body (topK cfg Tryd.f38 k kp)
noncomputable def YL5 (k kp : D → List Blk → Prop) : (St → Prop) → St → Prop := loopB cfg (sub [1, 1, 1, 1, 0, 0] body) (contK cfg (pick none' []) [1, 1, 1, 1, 0] body (topK cfg Tryd.f38 k kp))
noncomputable def XL5 (k kp : D → List Blk → Prop) : St → Prop := fun st => ∃ n, loopN (YL5 k kp) n st
noncomputable def X2000006 (k kp : D → List Blk → Prop) (ag5 : St → Prop) : St → Prop := atP cfg (pick none' [(5, ag5)]) [1, 1, 1, 1, 0, 0, 0, 0, 0, 1] body (topK cfg Tryd.f38 k kp)
noncomputable def X14 (k kp : D → List Blk → Prop) (ag5 : St → Prop) : St → Prop := atP cfg (pick none' [(5, ag5)]) [1, 1, 1, 1, 0, 0, 0, 1] body (topK cfg Tryd.f38 k kp)
noncomputable def JJ (k kp : D → List Blk → Prop) : Nat → St → Prop := pick none' [(2000002, X2000002 k kp), (3, X3 k kp)]
noncomputable def LL (k kp : D → List Blk → Prop) : Nat → St → Prop := pick none' [(5, XL5 k kp)]
noncomputable def JJ_5 (k kp : D → List Blk → Prop) (ag5 : St → Prop) : Nat → St → Prop := pick none' [(2000002, X2000002 k kp), (3, X3 k kp), (2000006, X2000006 k kp ag5), (14, X14 k kp ag5)]
noncomputable def LL_5 (k kp : D → List Blk → Prop) (ag5 : St → Prop) : Nat → St → Prop := pick none' [(5, XL5 k kp)]
theorem j14_c (k kp : D → List Blk → Prop) (J L : Nat → St → Prop) (ag5 : St → Prop) (x0 : ByteArray) (x8 : Int) (b0 : (List Int)) : runC cfg 14 J L (pick none' [(5, ag5)]) [1, 1, 1, 1, 0, 0, 0, 1] body (topK cfg Tryd.f38 k kp) (m14 x0 x8 b0) = j14 (fun x8 b0 => ag5 (mL5 x0 x8 b0)) x0 x8 b0 (fun y0 y1 y2 => k (.tup [(.v (.string y0)), (.v (.int IntKind.i64 y1)), (.v (.int IntKind.i64 y2))]) []) := by kernel_rfl
theorem j14_ag (k kp : D → List Blk → Prop) (ag5 : St → Prop) : agPL cfg 14 (JJ_5 k kp ag5) (LL_5 k kp ag5) [1, 1, 1, 1, 0, 0, 0, 1] body = agPR cfg 14 (pick none' [(5, ag5)]) [1, 1, 1, 1, 0, 0, 0, 1] body (topK cfg Tryd.f38 k kp) := by kernel_rfl
theorem j14_raw (k kp : D → List Blk → Prop) (ag5 : St → Prop) (x0 : ByteArray) (x8 : Int) (b0 : (List Int)) : X14 k kp ag5 (m14 x0 x8 b0) = j14 (fun x8 b0 => ag5 (mL5 x0 x8 b0)) x0 x8 b0 (fun y0 y1 y2 => k (.tup [(.v (.string y0)), (.v (.int IntKind.i64 y1)), (.v (.int IntKind.i64 y2))]) []) :=
  Eq.mp (by kernel_rfl) ((atP_run (j14_ag k kp ag5) (m14 x0 x8 b0)).trans (j14_c k kp (JJ_5 k kp ag5) (LL_5 k kp ag5) ag5 x0 x8 b0))
theorem j14_eq (k kp : D → List Blk → Prop) (ag5 : St → Prop) (x0 : ByteArray) (x8 : Int) (b0 : (List Int)) : X14 k kp ag5 (m14 x0 x8 b0) = j14' (fun x8 b0 => ag5 (mL5 x0 x8 b0)) x0 x8 b0 (fun y0 y1 y2 => k (.tup [(.v (.string y0)), (.v (.int IntKind.i64 y1)), (.v (.int IntKind.i64 y2))]) []) := by
  rw [j14_raw]; rfl
theorem j2000006_c (k kp : D → List Blk → Prop) (J L : Nat → St → Prop) (ag5 : St → Prop) (x0 : ByteArray) (x8 : Int) (x27 : Bool) (b0 : (List Int)) : runC cfg 2000006 J L (pick none' [(5, ag5)]) [1, 1, 1, 1, 0, 0, 0, 0, 0, 1] body (topK cfg Tryd.f38 k kp) (m2000006 x0 x8 x27 b0) = j2000006 (fun x0 x8 b0 => J 14 (m14 x0 x8 b0)) (fun x8 b0 => ag5 (mL5 x0 x8 b0)) x0 x8 x27 b0 (fun y0 y1 y2 => k (.tup [(.v (.string y0)), (.v (.int IntKind.i64 y1)), (.v (.int IntKind.i64 y2))]) []) := by kernel_rfl
theorem j2000006_ag (k kp : D → List Blk → Prop) (ag5 : St → Prop) : agPL cfg 2000006 (JJ_5 k kp ag5) (LL_5 k kp ag5) [1, 1, 1, 1, 0, 0, 0, 0, 0, 1] body = agPR cfg 2000006 (pick none' [(5, ag5)]) [1, 1, 1, 1, 0, 0, 0, 0, 0, 1] body (topK cfg Tryd.f38 k kp) := by kernel_rfl
theorem j2000006_raw (k kp : D → List Blk → Prop) (ag5 : St → Prop) (x0 : ByteArray) (x8 : Int) (x27 : Bool) (b0 : (List Int)) : X2000006 k kp ag5 (m2000006 x0 x8 x27 b0) = j2000006 (fun x0 x8 b0 => X14 k kp ag5 (m14 x0 x8 b0)) (fun x8 b0 => ag5 (mL5 x0 x8 b0)) x0 x8 x27 b0 (fun y0 y1 y2 => k (.tup [(.v (.string y0)), (.v (.int IntKind.i64 y1)), (.v (.int IntKind.i64 y2))]) []) :=
  Eq.mp (by kernel_rfl) ((atP_run (j2000006_ag k kp ag5) (m2000006 x0 x8 x27 b0)).trans (j2000006_c k kp (JJ_5 k kp ag5) (LL_5 k kp ag5) ag5 x0 x8 x27 b0))
theorem j2000006_eq (k kp : D → List Blk → Prop) (ag5 : St → Prop) (x0 : ByteArray) (x8 : Int) (x27 : Bool) (b0 : (List Int)) : X2000006 k kp ag5 (m2000006 x0 x8 x27 b0) = j2000006' (fun x8 b0 => ag5 (mL5 x0 x8 b0)) x0 x8 x27 b0 (fun y0 y1 y2 => k (.tup [(.v (.string y0)), (.v (.int IntKind.i64 y1)), (.v (.int IntKind.i64 y2))]) []) := by
  rw [j2000006_raw]; simp only [j14_eq]; first | done | rfl
theorem l5_c (k kp : D → List Blk → Prop) (J L : Nat → St → Prop) (ag5 : St → Prop) (x0 : ByteArray) (x8 : Int) (b0 : (List Int)) : runC cfg 1000001 J L (pick none' [(5, ag5)]) [1, 1, 1, 1, 0, 0] body (topK cfg Tryd.f38 k kp) (mL5 x0 x8 b0) = l5 (fun x0 x8 x27 b0 => J 2000006 (m2000006 x0 x8 x27 b0)) x0 x8 b0 (fun y0 y1 y2 => k (.tup [(.v (.string y0)), (.v (.int IntKind.i64 y1)), (.v (.int IntKind.i64 y2))]) []) := by kernel_rfl
theorem l5_ag (k kp : D → List Blk → Prop) (ag5 : St → Prop) : agPL cfg 1000001 (JJ_5 k kp ag5) (LL_5 k kp ag5) [1, 1, 1, 1, 0, 0] body = agPR cfg 1000001 (pick none' [(5, ag5)]) [1, 1, 1, 1, 0, 0] body (topK cfg Tryd.f38 k kp) := by kernel_rfl
theorem l5_raw (k kp : D → List Blk → Prop) (ag5 : St → Prop) (x0 : ByteArray) (x8 : Int) (b0 : (List Int)) : YL5 k kp ag5 (mL5 x0 x8 b0) = l5 (fun x0 x8 x27 b0 => X2000006 k kp ag5 (m2000006 x0 x8 x27 b0)) x0 x8 b0 (fun y0 y1 y2 => k (.tup [(.v (.string y0)), (.v (.int IntKind.i64 y1)), (.v (.int IntKind.i64 y2))]) []) :=
  Eq.mp (by kernel_rfl) ((atP_run (l5_ag k kp ag5) (mL5 x0 x8 b0)).trans (l5_c k kp (JJ_5 k kp ag5) (LL_5 k kp ag5) ag5 x0 x8 b0))
theorem l5_eq (k kp : D → List Blk → Prop) (x0 : ByteArray) (x8 : Int) (b0 : (List Int)) : XL5 k kp (mL5 x0 x8 b0) = l5' x0 x8 b0 (fun y0 y1 y2 => k (.tup [(.v (.string y0)), (.v (.int IntKind.i64 y1)), (.v (.int IntKind.i64 y2))]) []) :=
  loop_eq (mk := fun (s : Int × (List Int)) => mL5 x0 s.1 s.2) (fun again s => by rw [l5_raw k kp again x0 s.1 s.2]; simp only [j2000006_eq]; first | done | rfl) (x8, b0)
theorem j3_c (k kp : D → List Blk → Prop) (J L : Nat → St → Prop) (x0 : ByteArray) (x1 : Int) : runC cfg 3 J L (pick none' []) [1, 1] body (topK cfg Tryd.f38 k kp) (m3 x0 x1) = j3 (fun x0 x8 b0 => L 5 (mL5 x0 x8 b0)) x0 x1 (fun y0 y1 y2 => k (.tup [(.v (.string y0)), (.v (.int IntKind.i64 y1)), (.v (.int IntKind.i64 y2))]) []) := by kernel_rfl
theorem j3_ag (k kp : D → List Blk → Prop) : agPL cfg 3 (JJ k kp) (LL k kp) [1, 1] body = agPR cfg 3 (pick none' []) [1, 1] body (topK cfg Tryd.f38 k kp) := by kernel_rfl
theorem j3_raw (k kp : D → List Blk → Prop) (x0 : ByteArray) (x1 : Int) : X3 k kp (m3 x0 x1) = j3 (fun x0 x8 b0 => XL5 k kp (mL5 x0 x8 b0)) x0 x1 (fun y0 y1 y2 => k (.tup [(.v (.string y0)), (.v (.int IntKind.i64 y1)), (.v (.int IntKind.i64 y2))]) []) :=
  Eq.mp (by kernel_rfl) ((atP_run (j3_ag k kp) (m3 x0 x1)).trans (j3_c k kp (JJ k kp) (LL k kp) x0 x1))
theorem j3_eq (k kp : D → List Blk → Prop) (x0 : ByteArray) (x1 : Int) : X3 k kp (m3 x0 x1) = j3' x0 x1 (fun y0 y1 y2 => k (.tup [(.v (.string y0)), (.v (.int IntKind.i64 y1)), (.v (.int IntKind.i64 y2))]) []) := by
  rw [j3_raw]; simp only [l5_eq]; first | done | rfl
theorem j2000002_c (k kp : D → List Blk → Prop) (J L : Nat → St → Prop) (x0 : ByteArray) (x1 : Int) (x24 : Bool) : runC cfg 2000002 J L (pick none' []) [1, 0, 1] body (topK cfg Tryd.f38 k kp) (m2000002 x0 x1 x24) = j2000002 (fun x0 x1 => J 3 (m3 x0 x1)) x0 x1 x24 (fun y0 y1 y2 => k (.tup [(.v (.string y0)), (.v (.int IntKind.i64 y1)), (.v (.int IntKind.i64 y2))]) []) := by kernel_rfl
theorem j2000002_ag (k kp : D → List Blk → Prop) : agPL cfg 2000002 (JJ k kp) (LL k kp) [1, 0, 1] body = agPR cfg 2000002 (pick none' []) [1, 0, 1] body (topK cfg Tryd.f38 k kp) := by kernel_rfl
theorem j2000002_raw (k kp : D → List Blk → Prop) (x0 : ByteArray) (x1 : Int) (x24 : Bool) : X2000002 k kp (m2000002 x0 x1 x24) = j2000002 (fun x0 x1 => X3 k kp (m3 x0 x1)) x0 x1 x24 (fun y0 y1 y2 => k (.tup [(.v (.string y0)), (.v (.int IntKind.i64 y1)), (.v (.int IntKind.i64 y2))]) []) :=
  Eq.mp (by kernel_rfl) ((atP_run (j2000002_ag k kp) (m2000002 x0 x1 x24)).trans (j2000002_c k kp (JJ k kp) (LL k kp) x0 x1 x24))
theorem j2000002_eq (k kp : D → List Blk → Prop) (x0 : ByteArray) (x1 : Int) (x24 : Bool) : X2000002 k kp (m2000002 x0 x1 x24) = j2000002' x0 x1 x24 (fun y0 y1 y2 => k (.tup [(.v (.string y0)), (.v (.int IntKind.i64 y1)), (.v (.int IntKind.i64 y2))]) []) := by
  rw [j2000002_raw]; simp only [j3_eq]; first | done | rfl
theorem c_c (k kp : D → List Blk → Prop) (J L : Nat → St → Prop) (x0 : ByteArray) (x1 : Int) : runC cfg 1000001 J L none'' [] body (topK cfg Tryd.f38 k kp) (st0 Tryd.f38 [(.v (.string x0)), (.v (.int IntKind.i64 x1))] []) = c (fun x0 x1 x24 => J 2000002 (m2000002 x0 x1 x24)) x0 x1 (fun y0 y1 y2 => k (.tup [(.v (.string y0)), (.v (.int IntKind.i64 y1)), (.v (.int IntKind.i64 y2))]) []) := by kernel_rfl
theorem c_ag (k kp : D → List Blk → Prop) : agPL cfg 1000001 (JJ k kp) (LL k kp) [] body = agPR cfg 1000001 none'' [] body (topK cfg Tryd.f38 k kp) := by kernel_rfl
theorem body_is : Tryd.f38.body = some body := by kernel_rfl
theorem c_raw (k kp : D → List Blk → Prop) (x0 : ByteArray) (x1 : Int) : funW cfg Tryd.f38 [(.v (.string x0)), (.v (.int IntKind.i64 x1))] [] k kp = c (fun x0 x1 x24 => X2000002 k kp (m2000002 x0 x1 x24)) x0 x1 (fun y0 y1 y2 => k (.tup [(.v (.string y0)), (.v (.int IntKind.i64 y1)), (.v (.int IntKind.i64 y2))]) []) :=
  Eq.mp (by kernel_rfl) ((funW_run (AG := none'') body_is (c_ag k kp) [(.v (.string x0)), (.v (.int IntKind.i64 x1))] []).trans (c_c k kp (JJ k kp) (LL k kp) x0 x1))
theorem f_eq (k kp : D → List Blk → Prop) (x0 : ByteArray) (x1 : Int) : funW cfg Tryd.f38 [(.v (.string x0)), (.v (.int IntKind.i64 x1))] [] k kp = f x0 x1 (fun y0 y1 y2 => k (.tup [(.v (.string y0)), (.v (.int IntKind.i64 y1)), (.v (.int IntKind.i64 y2))]) []) := by
  rw [f_def, c_raw]; simp only [j2000002_eq]; first | done | rfl
noncomputable def ent0 : Entry := fun args blks k _ => match args, blks with
  | [d0, d1], [] => aStr d0 fun x0 => aInt IntKind.i64 d1 fun x1 => f x0 x1 (fun y0 y1 y2 => k (.tup [(.v (.string y0)), (.v (.int IntKind.i64 y1)), (.v (.int IntKind.i64 y2))]) [])
  | _, _ => False
noncomputable def ent : Entry := fun args blks k kp => ent0 (convB [.no, .no] args) blks k kp
theorem ok : EntOk Tryd.prog 49 0 38 ent := by
  refine EntOk.convB (EntOk.of (funW_ok (cfg := cfg) (tyOk_of rfl rfl tyL_ok) (eqOk_of (P := Tryd.prog) rfl rfl (by kernel_rfl)) mixed_ok (tab_ok ?_) Tryd.func38 (by rfl) (by rfl)) ?_) _
  · intro p hp
    simp only [List.mem_cons, List.not_mem_nil, or_false] at hp
    rcases hp with rfl
    · exact N59.ok
  · intro args blks k kp h k' kp'
    match args, blks, h with
    | [d0, d1], [], h =>
    dsimp only [ent0] at h
    have h9 := aStr_elim h; clear h; obtain ⟨x0, rfl, h⟩ := h9
    have h9 := aInt_elim h; clear h; obtain ⟨x1, rfl, h⟩ := h9
    exact (f_eq k' kp' x0 x1).symm
end N38
end Go.Proofs.Ye
namespace Go.Proofs.Ye
open Go Go.Aw Go.Proofs Go.RowKit
set_option linter.unusedVariables false
set_option linter.unusedSimpArgs false

theorem meant_s (c : Int) (k : Int → Bool → Prop) (h : match meantL c with | some v => k v true | none => k 0 false) : N71.f c k := by
  rw [N71.f_def]
  unfold N71.f0 N71.c N71.j2000008' N71.j2000008 N71.j9' N71.j9
  unfold meantL at h
  simp only [br_beq]
  repeat' split
  all_goals simp_all

theorem nibble_s (c : Int) (hc : isB c) (k : Int → Bool → Prop) (h : match nibL c with | some v => k v true | none => k 0 false) : N72.f c k := by
  rw [N72.f_def]
  unfold N72.f0 N72.c N72.j2000002' N72.j2000002 N72.j2000004' N72.j2000004 N72.j2000006' N72.j2000006 N72.j7' N72.j7
  unfold isB at hc
  simp only [br_dec, br_false]
  by_cases h1 : 48 ≤ c ∧ c ≤ 57
  · unfold nibL at h
    rw [if_pos h1] at h
    rw [if_pos h1.1, if_pos h1.2, show IntKind.u8.wrap (c - 48) = c - 48 by rw [wu8_eq]; omega]
    exact h
  · by_cases h2 : 97 ≤ c ∧ c ≤ 102
    · unfold nibL at h
      rw [if_neg h1, if_pos h2] at h
      have e : IntKind.u8.wrap (IntKind.u8.wrap (c - 97) + 10) = c - 87 := by rw [wu8_eq, wu8_eq]; omega
      rw [if_pos (by omega), if_neg (by omega), if_pos (by omega), if_pos (by omega), e]
      exact h
    · by_cases h3 : 65 ≤ c ∧ c ≤ 70
      · unfold nibL at h
        rw [if_neg h1, if_neg h2, if_pos h3] at h
        have e : IntKind.u8.wrap (IntKind.u8.wrap (c - 65) + 10) = c - 55 := by rw [wu8_eq, wu8_eq]; omega
        rw [if_pos (by omega), if_neg (by omega), if_neg (by omega), if_pos (by omega), if_pos (by omega), e]
        exact h
      · unfold nibL at h
        rw [if_neg h1, if_neg h2, if_neg h3] at h
        repeat' split
        all_goals first | exact h | omega

theorem escape_s (r : List Int) (hr : ∀ x ∈ r, isB x) (k : Int → Int → Prop) (h : match escL r with | some (v, n) => k v n | none => k 0 0) : N59.f (bytesOf r) k := by
  rw [N59.f_def]
  unfold N59.f0 N59.c N59.j2000007' N59.j2000007 N59.j8' N59.j8
  rw [bytesOf_nil]
  simp only [br_dec, bytesOf_size]
  cases r with
  | nil => exact h
  | cons c r =>
    rw [if_neg (by simp)]
    have b0 : byteAt (bytesOf (c :: r)) 0 = c := byteAt_bytes hr 0
    refine ⟨⟨by omega, by omega, by simp⟩, ?_⟩
    rw [b0]
    refine meant_s c _ ?_
    unfold escL at h
    dsimp only at h
    split
    · rename_i v hv
      rw [hv] at h
      exact h
    · rename_i hv
      rw [hv] at h
      simp only [br_false, br_bne]
      refine ⟨⟨by omega, by omega, by simp⟩, ?_⟩
      dsimp only at h
      split
      · rename_i hc
        rw [if_pos hc] at h
        match r, hr, h with
        | [], hr, h => exact h
        | [a], hr, h => exact h
        | a :: b :: r, hr, h =>
          rw [if_neg (by simp; omega)]
          have b1 : byteAt (bytesOf (c :: a :: b :: r)) 1 = a := byteAt_bytes hr 1
          have b2 : byteAt (bytesOf (c :: a :: b :: r)) 2 = b := byteAt_bytes hr 2
          rw [b1, b2]
          refine ⟨⟨by omega, by omega, by simp; omega⟩, nibble_s a (hr a (by simp)) _ ?_⟩
          unfold hexEsc at h
          dsimp only at h
          unfold N59.j2000011' N59.j2000011 N59.j12' N59.j12
          cases ha : nibL a with
          | none =>
            rw [ha] at h
            dsimp only at h ⊢
            refine ⟨⟨by omega, by omega, by simp; omega⟩, nibble_s b (hr b (by simp)) _ ?_⟩
            cases hb : nibL b <;> exact h
          | some hi =>
            rw [ha] at h
            dsimp only at h ⊢
            refine ⟨⟨by omega, by omega, by simp; omega⟩, nibble_s b (hr b (by simp)) _ ?_⟩
            cases hb : nibL b with
            | none => rw [hb] at h; exact h
            | some lo =>
              rw [hb] at h
              show (0 : Int) ≤ 4 ∧ _
              rw [or4 hi lo (nib_lt ha) (nib_lt hb)]
              exact ⟨by decide, h⟩
      · rename_i hc
        rw [if_neg hc] at h
        exact h

theorem qscan_s (x : ByteArray) (hx : x.size ≤ 1000000000000) (at_ : Int) (k : ByteArray → Int → Int → Prop)
    (h1 : noQuote (ofBytes x) at_ → k (bytesOf []) 0 1)
    (h2 : ∀ t e c, ¬ noQuote (ofBytes x) at_ → scanL 64 ((ofBytes x).length + 1) ((ofBytes x).drop (at_.toNat + 1)) (at_ + 1) [] = (t, e, c) → k (bytesOf t) e c) : N38.f x at_ k := by
  rw [N38.f_def]
  unfold N38.f0 N38.c N38.j2000002' N38.j2000002 N38.j3' N38.j3
  have hn := ofBytes_length x
  have hB := ofBytes_isB x
  unfold noQuote at h1 h2
  rw [show ByteArray.mk #[] = bytesOf [] from rfl]
  have go : ¬ noQuote (ofBytes x) at_ → N38.l5' x (IntKind.i64.wrap (at_ + 1)) [] k := by
    intro hq
    have hq' := hq
    unfold noQuote at hq'
    obtain ⟨a, rfl⟩ : ∃ a : Nat, at_ = a := ⟨at_.toNat, by omega⟩
    have ha : a < (ofBytes x).length := by omega
    rw [wrap_id (by omega) (by omega)]
    simp only [Int.toNat_natCast] at h2 hq'
    generalize hR : scanL 64 ((ofBytes x).length + 1) ((ofBytes x).drop (a + 1)) ((a : Int) + 1) [] = R at h2
    unfold N38.l5'
    refine loopS_of (fun s : Int × List Int => ∃ i f : Nat, s.1 = i ∧ i ≤ (ofBytes x).length ∧ s.2.length ≤ 64 ∧ (ofBytes x).length - i < f ∧ scanL 64 f ((ofBytes x).drop i) i s.2 = R) (fun s => (ofBytes x).length - s.1.toNat) ?_
      ⟨a + 1, (ofBytes x).length + 1, by simp, by omega, by simp, by omega, by rw [← hR]; rfl⟩
    rintro again ⟨p, b⟩ ⟨i, f, e1, hi, hb, hf, e2⟩ hag
    simp only at e1 hb e2 hag
    subst e1
    unfold N38.l5 N38.j2000006' N38.j2000006
    dsimp only
    obtain ⟨f, rfl⟩ : ∃ g, f = g + 1 := ⟨f - 1, by omega⟩
    have fin : ∀ t e c, (t, e, c) = R → k (bytesOf t) e c := fun t e c he => h2 t e c (by simpa [noQuote] using hq) he.symm
    refine br_of (fun hend => ?_) (fun hne => ?_)
    · have hend : i = (ofBytes x).length := by simp at hend; omega
      rw [List.drop_of_length_le (by omega)] at e2
      exact fin [] i 11 e2
    · have hlt : i < (ofBytes x).length := by simp at hne; omega
      rw [byteAt_eq]
      rw [drop_get (d := 0) hlt] at e2
      have hc := getD_isB x i
      generalize (ofBytes x).getD i 0 = c at *
      have inb : inB 0 (i : Int) (((x.size : Nat) : Int) - 1) := ⟨by omega, by omega, by omega⟩
      refine ⟨inb, ?_⟩
      unfold scanL at e2
      dsimp only at e2
      simp only [br_beq, br_bne]
      split
      · rename_i h10; rw [if_pos h10] at e2; exact fin _ _ _ e2
      · rename_i h10; rw [if_neg h10] at e2
        refine ⟨inb, ?_⟩
        split
        · rename_i h34; rw [if_pos h34] at e2
          rw [wrap_id (by omega) (by omega)]
          exact fin _ _ _ e2
        · rename_i h34; rw [if_neg h34] at e2
          split
          · rename_i h64; rw [if_pos (by omega)] at e2; exact fin _ _ _ e2
          · rename_i h64; rw [if_neg (by omega)] at e2
            refine ⟨inb, ?_⟩
            split
            · rename_i h92; rw [if_neg (by simpa using h92)] at e2
              unfold N38.j14' N38.j14
              have ee : ByteArray.extract x (Int.toNat (IntKind.i64.wrap ((i : Int) + 1))) (Int.toNat ((x.size : Nat) : Int)) = bytesOf ((ofBytes x).drop (i + 1)) := by
                rw [wrap_id (by omega) (by omega)]
                apply eq_of_ofBytes
                rw [ofBytes_extract, ofBytes_bytesOf (fun y hy => hB y (List.mem_of_mem_drop hy)), Int.toNat_natCast, List.take_of_length_le (by omega), show ((i : Int) + 1).toNat = i + 1 by omega]
              rw [ee]
              refine ⟨⟨by rw [wrap_id (by omega) (by omega)]; omega, by rw [wrap_id (by omega) (by omega)]; omega, by omega⟩, escape_s _ (fun y hy => hB y (List.mem_of_mem_drop hy)) _ ?_⟩
              cases hesc : escL ((ofBytes x).drop (i + 1)) with
              | none => rw [hesc] at e2; exact fin _ _ _ e2
              | some r =>
                obtain ⟨v, n⟩ := r
                rw [hesc] at e2
                obtain ⟨hn1, hn2⟩ := esc_pos hesc
                rw [List.length_drop] at hn2
                dsimp only at e2 ⊢
                simp only [br_beq]
                rw [if_neg (by omega)]
                refine ⟨by unfold room; simp; omega, ?_⟩
                rw [wrap_id (by omega) (by omega : (1 : Int) + n ≤ _), wrap_id (by omega) (by omega)]
                refine hag _ ⟨i + 1 + n, f, by simp; omega, by omega, by simp; omega, by omega, ?_⟩ (by simp only; omega)
                rw [List.drop_drop] at e2
                rw [← e2]
                simp
            · rename_i h92; rw [if_pos (by simpa using h92)] at e2
              refine ⟨inb, by unfold room; simp; omega, ?_⟩
              rw [wrap_id (by omega) (by omega)]
              refine hag _ ⟨i + 1, f, by simp, by omega, by simp; omega, by omega, ?_⟩ (by simp only; omega)
              rw [← e2]
              simp
  simp only [br_dec, br_bne]
  split
  · rename_i ha; exact h1 (.inl ha)
  · rename_i ha
    split
    · rename_i hb; exact h1 (.inr (.inl (by omega)))
    · rename_i hb
      obtain ⟨a, rfl⟩ : ∃ a : Nat, at_ = a := ⟨at_.toNat, by omega⟩
      rw [byteAt_eq]
      refine ⟨⟨by omega, by omega, by omega⟩, ?_⟩
      split
      · rename_i hc
        refine go ?_
        unfold noQuote
        simp only [Int.toNat_natCast]
        rintro (h | h | h)
        · omega
        · omega
        · exact h hc
      · rename_i hc
        exact h1 (.inr (.inr (by simpa using hc)))

theorem one_s (c : Int) (hc : isB c) (k : ByteArray → Prop) (h : k (bytesOf (oneL c))) : N51.f c k := by
  rw [N51.f_def]
  unfold N51.f0 N51.c N51.j2000011' N51.j2000011 N51.j12' N51.j12
  unfold oneL at h
  have hc' := hc
  unfold isB at hc'
  have last : k (bytesOf [92, 120, hexL (c / 16), hexL (c % 16)]) → N51.j12 c k := by
    intro h
    unfold N51.j12
    have e1 : IntKind.u8.wrap (Int.tdiv c 16) = c / 16 := by rw [Int.tdiv_eq_ediv_of_nonneg hc'.1, wu8_eq]; omega
    have e2 : Int.tmod c 16 = c % 16 := Int.tmod_eq_emod_of_nonneg hc'.1
    have e3 : IntKind.u8.wrap (c / 16 + 1) = c / 16 + 1 := by rw [wu8_eq]; omega
    have e4 : IntKind.u8.wrap (c % 16 + 1) = c % 16 + 1 := by rw [wu8_eq]; omega
    rw [e1, e2, e3, e4, hexes_ext _ (by omega) (by omega), hexes_ext _ (by omega) (by omega), show ByteArray.mk #[92, 120] = bytesOf [92, 120] from rfl, ← bytesOf_append, ← bytesOf_append]
    refine ⟨by decide, by decide, ⟨by omega, by omega, by show c / 16 + 1 ≤ 16; omega⟩, by rw [bytesOf_size, bytesOf_size]; simp, by decide, by decide, ⟨by omega, by omega, by show c % 16 + 1 ≤ 16; omega⟩, by rw [bytesOf_size, bytesOf_size]; simp, h⟩
  simp only [br_beq]
  split
  · rename_i e; rw [if_pos e] at h; exact h
  · rename_i h1; rw [if_neg h1] at h
    split
    · rename_i e; rw [if_pos e] at h; exact h
    · rename_i h2; rw [if_neg h2] at h
      split
      · rename_i e; rw [if_pos e] at h; exact h
      · rename_i h3; rw [if_neg h3] at h
        split
        · rename_i e; rw [if_pos e] at h; exact h
        · rename_i h4; rw [if_neg h4] at h
          simp only [br_dec, br_false]
          split
          · rename_i h5
            split
            · rename_i h6; rw [if_pos ⟨h5, h6⟩] at h; exact h
            · rename_i h6; rw [if_neg (fun e => h6 e.2)] at h; exact last h
          · rename_i h5; rw [if_neg (fun e => h5 e.1)] at h; exact last h

theorem putr_s_q (x : ByteArray) (hx : x.size ≤ 1000000000000) (k : ByteArray → Prop) (h : k (bytesOf (qputL (ofBytes x)))) : N28.f x k := by
  rw [N28.f_def]
  unfold N28.f0 N28.c
  have hn := ofBytes_length x
  rw [show ByteArray.mk #[34] = bytesOf [34] from rfl]
  unfold N28.l3'
  refine loopS_of (fun s : ByteArray × Int => ∃ i : Nat, s.2 = i ∧ i ≤ (ofBytes x).length ∧ s.1 = bytesOf (34 :: ((ofBytes x).take i).flatMap oneL)) (fun s => (ofBytes x).length - s.2.toNat) ?_ ⟨0, rfl, Nat.zero_le _, rfl⟩
  rintro again ⟨b, a⟩ ⟨i, e1, hi, e2⟩ hag
  simp only at e1 e2
  subst e1; subst e2
  unfold N28.l3 N28.j6' N28.j6
  dsimp only
  have hfl := flat_len ((ofBytes x).take i)
  have hln : ((ofBytes x).take i).length ≤ i := by simp; omega
  refine br_of (fun hlt => ?_) (fun hge => ?_)
  · have hlt : i < (ofBytes x).length := by simp at hlt; omega
    rw [byteAt_eq]
    have h4 := oneL_len ((ofBytes x).getD i 0)
    refine ⟨⟨by omega, by omega, by omega⟩, one_s _ (getD_isB x i) _ ⟨?_, ?_⟩⟩
    · rw [bytesOf_size, bytesOf_size]; simp only [List.length_cons, List.length_append, List.length_nil]; omega
    · rw [wrap_id (by omega) (by omega), ← bytesOf_append]
      refine hag _ ⟨i + 1, by simp, by omega, ?_⟩ (by simp only; omega)
      rw [take_flat hlt]; rfl
  · have hge : i = (ofBytes x).length := by simp at hge; omega
    subst hge
    rw [List.take_length] at *
    rw [show ByteArray.mk #[34] = bytesOf [34] from rfl, ← bytesOf_append]
    refine ⟨?_, h⟩
    rw [bytesOf_size, bytesOf_size]; simp only [List.length_cons, List.length_append, List.length_nil]; omega
end Go.Proofs.Ye
namespace Go.Proofs.Ye
open Go Go.Aw Go.Proofs
set_option linter.unusedVariables false
set_option linter.unusedSimpArgs false
set_option maxRecDepth 100000
/-! strings.IndexByte -/
namespace N36
noncomputable def cfg : Cfg := { P := Tryd.prog, tf := 49, tw := 0, ty := tys, E := tab [(57, N57.ent)], atSeq := tab [], atLoop := tab [], outs := [], eqT := tab [], bT := tab [] }
noncomputable def body : Code := bodyOf Tryd.f36
def c (x0 : ByteArray) (x1 : Int) (k : Int → Prop) : Prop :=
  (k (indexB x0 x1))
def f0 (x0 : ByteArray) (x1 : Int) (k : Int → Prop) : Prop := c x0 x1 k
theorem f_ex : ∃ g : ByteArray → Int → (Int → Prop) → Prop, g = f0 := ⟨_, rfl⟩
noncomputable def f : ByteArray → Int → (Int → Prop) → Prop := Classical.choose f_ex
theorem f_def : f = f0 := Classical.choose_spec f_ex
noncomputable def JJ (k kp : D → List Blk → Prop) : Nat → St → Prop := pick none' []
noncomputable def LL (k kp : D → List Blk → Prop) : Nat → St → Prop := pick none' []
theorem c_c (k kp : D → List Blk → Prop) (J L : Nat → St → Prop) (x0 : ByteArray) (x1 : Int) : runC cfg 1000001 J L none'' [] body (topK cfg Tryd.f36 k kp) (st0 Tryd.f36 [(.v (.string x0)), (.v (.int IntKind.u8 x1))] []) = c x0 x1 (fun y0 => k (.v (.int IntKind.i64 y0)) []) := by kernel_rfl
theorem c_ag (k kp : D → List Blk → Prop) : agPL cfg 1000001 (JJ k kp) (LL k kp) [] body = agPR cfg 1000001 none'' [] body (topK cfg Tryd.f36 k kp) := by kernel_rfl
theorem body_is : Tryd.f36.body = some body := by kernel_rfl
theorem c_raw (k kp : D → List Blk → Prop) (x0 : ByteArray) (x1 : Int) : funW cfg Tryd.f36 [(.v (.string x0)), (.v (.int IntKind.u8 x1))] [] k kp = c x0 x1 (fun y0 => k (.v (.int IntKind.i64 y0)) []) :=
  Eq.mp (by kernel_rfl) ((funW_run (AG := none'') body_is (c_ag k kp) [(.v (.string x0)), (.v (.int IntKind.u8 x1))] []).trans (c_c k kp (JJ k kp) (LL k kp) x0 x1))
theorem f_eq (k kp : D → List Blk → Prop) (x0 : ByteArray) (x1 : Int) : funW cfg Tryd.f36 [(.v (.string x0)), (.v (.int IntKind.u8 x1))] [] k kp = f x0 x1 (fun y0 => k (.v (.int IntKind.i64 y0)) []) := by
  rw [f_def, c_raw]; rfl
noncomputable def ent0 : Entry := fun args blks k _ => match args, blks with
  | [d0, d1], [] => aStr d0 fun x0 => aInt IntKind.u8 d1 fun x1 => f x0 x1 (fun y0 => k (.v (.int IntKind.i64 y0)) [])
  | _, _ => False
noncomputable def ent : Entry := fun args blks k kp => ent0 (convB [.no, .no] args) blks k kp
theorem ok : EntOk Tryd.prog 49 0 36 ent := by
  refine EntOk.convB (EntOk.of (funW_ok (cfg := cfg) (tyOk_of rfl rfl tyL_ok) (eqOk_of (P := Tryd.prog) rfl rfl (by kernel_rfl)) mixed_ok (tab_ok ?_) Tryd.func36 (by rfl) (by rfl)) ?_) _
  · intro p hp
    simp only [List.mem_cons, List.not_mem_nil, or_false] at hp
    rcases hp with rfl
    · exact N57.ok
  · intro args blks k kp h k' kp'
    match args, blks, h with
    | [d0, d1], [], h =>
    dsimp only [ent0] at h
    have h9 := aStr_elim h; clear h; obtain ⟨x0, rfl, h⟩ := h9
    have h9 := aInt_elim h; clear h; obtain ⟨x1, rfl, h⟩ := h9
    exact (f_eq k' kp' x0 x1).symm
end N36
end Go.Proofs.Ye
namespace Go.Proofs.Ye
open Go Go.Aw Go.Proofs
set_option linter.unusedVariables false
set_option linter.unusedSimpArgs false
set_option maxRecDepth 100000
/-! internal/stringslite.HasPrefix -/
namespace N58
noncomputable def cfg : Cfg := { P := Tryd.prog, tf := 49, tw := 0, ty := tys, E := tab [], atSeq := tab [], atLoop := tab [], outs := [], eqT := tab [], bT := tab [] }
noncomputable def body : Code := bodyOf Tryd.f58
def c (x0 : ByteArray) (x1 : ByteArray) (k : Bool → Prop) : Prop :=
  (br (decide (((((x0).size : Nat) : Int)) ≥ ((((x1).size : Nat) : Int)))) ((inB 0 ((((x1).size : Nat) : Int)) (((x0).size : Nat) : Int)) ∧ (k (beqS (ByteArray.extract x0 (Int.toNat 0) (Int.toNat ((((x1).size : Nat) : Int)))) x1))) (k false))
def f0 (x0 : ByteArray) (x1 : ByteArray) (k : Bool → Prop) : Prop := c x0 x1 k
theorem f_ex : ∃ g : ByteArray → ByteArray → (Bool → Prop) → Prop, g = f0 := ⟨_, rfl⟩
noncomputable def f : ByteArray → ByteArray → (Bool → Prop) → Prop := Classical.choose f_ex
theorem f_def : f = f0 := Classical.choose_spec f_ex
noncomputable def JJ (k kp : D → List Blk → Prop) : Nat → St → Prop := pick none' []
noncomputable def LL (k kp : D → List Blk → Prop) : Nat → St → Prop := pick none' []
theorem c_c (k kp : D → List Blk → Prop) (J L : Nat → St → Prop) (x0 : ByteArray) (x1 : ByteArray) : runC cfg 1000001 J L none'' [] body (topK cfg Tryd.f58 k kp) (st0 Tryd.f58 [(.v (.string x0)), (.v (.string x1))] []) = c x0 x1 (fun y0 => k (.v (.bool y0)) []) := by kernel_rfl
theorem c_ag (k kp : D → List Blk → Prop) : agPL cfg 1000001 (JJ k kp) (LL k kp) [] body = agPR cfg 1000001 none'' [] body (topK cfg Tryd.f58 k kp) := by kernel_rfl
theorem body_is : Tryd.f58.body = some body := by kernel_rfl
theorem c_raw (k kp : D → List Blk → Prop) (x0 : ByteArray) (x1 : ByteArray) : funW cfg Tryd.f58 [(.v (.string x0)), (.v (.string x1))] [] k kp = c x0 x1 (fun y0 => k (.v (.bool y0)) []) :=
  Eq.mp (by kernel_rfl) ((funW_run (AG := none'') body_is (c_ag k kp) [(.v (.string x0)), (.v (.string x1))] []).trans (c_c k kp (JJ k kp) (LL k kp) x0 x1))
theorem f_eq (k kp : D → List Blk → Prop) (x0 : ByteArray) (x1 : ByteArray) : funW cfg Tryd.f58 [(.v (.string x0)), (.v (.string x1))] [] k kp = f x0 x1 (fun y0 => k (.v (.bool y0)) []) := by
  rw [f_def, c_raw]; rfl
noncomputable def ent0 : Entry := fun args blks k _ => match args, blks with
  | [d0, d1], [] => aStr d0 fun x0 => aStr d1 fun x1 => f x0 x1 (fun y0 => k (.v (.bool y0)) [])
  | _, _ => False
noncomputable def ent : Entry := fun args blks k kp => ent0 (convB [.no, .no] args) blks k kp
theorem ok : EntOk Tryd.prog 49 0 58 ent := by
  refine EntOk.convB (EntOk.of (funW_ok (cfg := cfg) (tyOk_of rfl rfl tyL_ok) (eqOk_of (P := Tryd.prog) rfl rfl (by kernel_rfl)) mixed_ok (tab_ok ?_) Tryd.func58 (by rfl) (by rfl)) ?_) _
  · intro p hp
    cases hp
  · intro args blks k kp h k' kp'
    match args, blks, h with
    | [d0, d1], [], h =>
    dsimp only [ent0] at h
    have h9 := aStr_elim h; clear h; obtain ⟨x0, rfl, h⟩ := h9
    have h9 := aStr_elim h; clear h; obtain ⟨x1, rfl, h⟩ := h9
    exact (f_eq k' kp' x0 x1).symm
end N58
end Go.Proofs.Ye
namespace Go.Proofs.Ye
open Go Go.Aw Go.Proofs
set_option linter.unusedVariables false
set_option linter.unusedSimpArgs false
set_option maxRecDepth 100000
/-! strings.HasPrefix -/
namespace N37
noncomputable def cfg : Cfg := { P := Tryd.prog, tf := 49, tw := 0, ty := tys, E := tab [(58, N58.ent)], atSeq := tab [], atLoop := tab [], outs := [], eqT := tab [], bT := tab [] }
noncomputable def body : Code := bodyOf Tryd.f37
def c (x0 : ByteArray) (x1 : ByteArray) (k : Bool → Prop) : Prop :=
  (N58.f x0 x1 (fun (y0_0 : Bool) => (k y0_0)))
def f0 (x0 : ByteArray) (x1 : ByteArray) (k : Bool → Prop) : Prop := c x0 x1 k
theorem f_ex : ∃ g : ByteArray → ByteArray → (Bool → Prop) → Prop, g = f0 := ⟨_, rfl⟩
noncomputable def f : ByteArray → ByteArray → (Bool → Prop) → Prop := Classical.choose f_ex
theorem f_def : f = f0 := Classical.choose_spec f_ex
noncomputable def JJ (k kp : D → List Blk → Prop) : Nat → St → Prop := pick none' []
noncomputable def LL (k kp : D → List Blk → Prop) : Nat → St → Prop := pick none' []
theorem c_c (k kp : D → List Blk → Prop) (J L : Nat → St → Prop) (x0 : ByteArray) (x1 : ByteArray) : runC cfg 1000001 J L none'' [] body (topK cfg Tryd.f37 k kp) (st0 Tryd.f37 [(.v (.string x0)), (.v (.string x1))] []) = c x0 x1 (fun y0 => k (.v (.bool y0)) []) := by kernel_rfl
theorem c_ag (k kp : D → List Blk → Prop) : agPL cfg 1000001 (JJ k kp) (LL k kp) [] body = agPR cfg 1000001 none'' [] body (topK cfg Tryd.f37 k kp) := by kernel_rfl
theorem body_is : Tryd.f37.body = some body := by kernel_rfl
theorem c_raw (k kp : D → List Blk → Prop) (x0 : ByteArray) (x1 : ByteArray) : funW cfg Tryd.f37 [(.v (.string x0)), (.v (.string x1))] [] k kp = c x0 x1 (fun y0 => k (.v (.bool y0)) []) :=
  Eq.mp (by kernel_rfl) ((funW_run (AG := none'') body_is (c_ag k kp) [(.v (.string x0)), (.v (.string x1))] []).trans (c_c k kp (JJ k kp) (LL k kp) x0 x1))
theorem f_eq (k kp : D → List Blk → Prop) (x0 : ByteArray) (x1 : ByteArray) : funW cfg Tryd.f37 [(.v (.string x0)), (.v (.string x1))] [] k kp = f x0 x1 (fun y0 => k (.v (.bool y0)) []) := by
  rw [f_def, c_raw]; rfl
noncomputable def ent0 : Entry := fun args blks k _ => match args, blks with
  | [d0, d1], [] => aStr d0 fun x0 => aStr d1 fun x1 => f x0 x1 (fun y0 => k (.v (.bool y0)) [])
  | _, _ => False
noncomputable def ent : Entry := fun args blks k kp => ent0 (convB [.no, .no] args) blks k kp
theorem ok : EntOk Tryd.prog 49 0 37 ent := by
  refine EntOk.convB (EntOk.of (funW_ok (cfg := cfg) (tyOk_of rfl rfl tyL_ok) (eqOk_of (P := Tryd.prog) rfl rfl (by kernel_rfl)) mixed_ok (tab_ok ?_) Tryd.func37 (by rfl) (by rfl)) ?_) _
  · intro p hp
    simp only [List.mem_cons, List.not_mem_nil, or_false] at hp
    rcases hp with rfl
    · exact N58.ok
  · intro args blks k kp h k' kp'
    match args, blks, h with
    | [d0, d1], [], h =>
    dsimp only [ent0] at h
    have h9 := aStr_elim h; clear h; obtain ⟨x0, rfl, h⟩ := h9
    have h9 := aStr_elim h; clear h; obtain ⟨x1, rfl, h⟩ := h9
    exact (f_eq k' kp' x0 x1).symm
end N37
end Go.Proofs.Ye
namespace Go.Proofs.Ye
open Go Go.Aw Go.Proofs
set_option linter.unusedVariables false
set_option linter.unusedSimpArgs false
set_option maxRecDepth 100000
/-! (*dyehouse/lex.reader).skip -/
namespace N23
noncomputable def cfg : Cfg := { P := Tryd.prog, tf := 49, tw := 0, ty := tys, E := tab [(36, N36.ent), (37, N37.ent)], atSeq := tab [(8, ⟨[(0, .keep), (3, .keep)]⟩)], atLoop := tab [(0, ⟨[(0, .keep)]⟩)], outs := [], eqT := tab [], bT := tab [] }
noncomputable def body : Code := bodyOf Tryd.f23
def l0 (j8 : Int → ByteArray → Int → Prop) (ag0 : ByteArray → Int → Prop) (b0_0 : ByteArray) (b0_1 : Int) (k : ByteArray → Int → Prop) : Prop :=
  (br (decide (b0_1 < ((((b0_0).size : Nat) : Int)))) ((inB b0_1 (((b0_0).size : Nat) : Int) (((b0_0).size : Nat) : Int)) ∧ ((inB 0 (0 : Int) (((((ByteArray.extract b0_0 (Int.toNat b0_1) (Int.toNat (((b0_0).size : Nat) : Int)))).size : Nat) : Int) - 1)) ∧ (N36.f (ByteArray.mk #[32, 9, 13, 10]) (byteAt (ByteArray.extract b0_0 (Int.toNat b0_1) (Int.toNat (((b0_0).size : Nat) : Int))) (0 : Int)) (fun (y0_0 : Int) => (br (decide (y0_0 ≥ (0 : Int))) (ag0 b0_0 (IntKind.i64.wrap (b0_1 + (1 : Int)))) (N37.f (ByteArray.extract b0_0 (Int.toNat b0_1) (Int.toNat (((b0_0).size : Nat) : Int))) (ByteArray.mk #[47, 47]) (fun (y0_1 : Bool) => (br y0_1 (N36.f (ByteArray.extract b0_0 (Int.toNat b0_1) (Int.toNat (((b0_0).size : Nat) : Int))) (10 : Int) (fun (y0_2 : Int) => (br (decide (y0_2 < (0 : Int))) (j8 (((((ByteArray.extract b0_0 (Int.toNat b0_1) (Int.toNat (((b0_0).size : Nat) : Int)))).size : Nat) : Int)) b0_0 b0_1) (j8 y0_2 b0_0 b0_1)))) (k b0_0 b0_1))))))))) (k b0_0 b0_1))
def j8 (ag0 : ByteArray → Int → Prop) (x3 : Int) (b0_0 : ByteArray) (b0_1 : Int) (k : ByteArray → Int → Prop) : Prop :=
  (ag0 b0_0 (IntKind.i64.wrap (b0_1 + x3)))
def c (l0 : ByteArray → Int → Prop) (b0_0 : ByteArray) (b0_1 : Int) (k : ByteArray → Int → Prop) : Prop :=
  (l0 b0_0 b0_1)
def j8' (ag0 : ByteArray → Int → Prop) (x3 : Int) (b0_0 : ByteArray) (b0_1 : Int) (k : ByteArray → Int → Prop) : Prop := j8 ag0 x3 b0_0 b0_1 k
def l0' (b0_0 : ByteArray) (b0_1 : Int) (k : ByteArray → Int → Prop) : Prop := ∃ n, loopS (fun (ag : (ByteArray × Int) → Prop) (s : ByteArray × Int) => l0 (fun x3 b0_0 b0_1 => j8' (fun b0_0 b0_1 => ag (b0_0, b0_1)) x3 b0_0 b0_1 k) (fun b0_0 b0_1 => ag (b0_0, b0_1)) s.1 s.2 k) n (b0_0, b0_1)
def f0 (b0_0 : ByteArray) (b0_1 : Int) (k : ByteArray → Int → Prop) : Prop := c (fun b0_0 b0_1 => l0' b0_0 b0_1 k) b0_0 b0_1 k
theorem f_ex : ∃ g : ByteArray → Int → (ByteArray → Int → Prop) → Prop, g = f0 := ⟨_, rfl⟩
noncomputable def f : ByteArray → Int → (ByteArray → Int → Prop) → Prop := Classical.choose f_ex
theorem f_def : f = f0 := Classical.choose_spec f_ex
def mL0 (b0_0 : ByteArray) (b0_1 : Int) : St := { tmps := mkT 52 0 [(0, (.ptr 0 0))], hp := [(.box 57 [(.v (.string b0_0)), (.v (.int IntKind.i64 b0_1))])], m := 1 }
def m8 (x3 : Int) (b0_0 : ByteArray) (b0_1 : Int) : St := { tmps := mkT 52 0 [(0, (.ptr 0 0)), (3, (.v (.int IntKind.i64 x3)))], hp := [(.box 57 [(.v (.string b0_0)), (.v (.int IntKind.i64 b0_1))])], m := 1 }
noncomputable def YL0 (k kp : D → List Blk → Prop) : (St → Prop) → St → Prop := loopB cfg (sub [0, 0] body) (contK cfg (pick none' []) [0] body (topK cfg Tryd.f23 k kp))
noncomputable def XL0 (k kp : D → List Blk → Prop) : St → Prop := fun st => ∃ n, loopN (YL0 k kp) n st
noncomputable def X8 (k kp : D → List Blk → Prop) (ag0 : St → Prop) : St → Prop := atP cfg (pick none' [(0, ag0)]) [0, 0, 1, 0, 1, 0, 1, 1, 1, 0, 1, 1] body (topK cfg Tryd.f23 k kp)
noncomputable def JJ_0 (k kp : D → List Blk → Prop) (ag0 : St → Prop) : Nat → St → Prop := pick none' [(8, X8 k kp ag0)]
noncomputable def LL_0 (k kp : D → List Blk → Prop) (ag0 : St → Prop) : Nat → St → Prop := pick none' [(0, XL0 k kp)]
noncomputable def JJ (k kp : D → List Blk → Prop) : Nat → St → Prop := pick none' []
noncomputable def LL (k kp : D → List Blk → Prop) : Nat → St → Prop := pick none' [(0, XL0 k kp)]
theorem j8_c (k kp : D → List Blk → Prop) (J L : Nat → St → Prop) (ag0 : St → Prop) (x3 : Int) (b0_0 : ByteArray) (b0_1 : Int) : runC cfg 8 J L (pick none' [(0, ag0)]) [0, 0, 1, 0, 1, 0, 1, 1, 1, 0, 1, 1] body (topK cfg Tryd.f23 k kp) (m8 x3 b0_0 b0_1) = j8 (fun b0_0 b0_1 => ag0 (mL0 b0_0 b0_1)) x3 b0_0 b0_1 (fun z0_0 z0_1 => k (.tup []) [(.box 57 [(.v (.string z0_0)), (.v (.int IntKind.i64 z0_1))])]) := by kernel_rfl
theorem j8_ag (k kp : D → List Blk → Prop) (ag0 : St → Prop) : agPL cfg 8 (JJ_0 k kp ag0) (LL_0 k kp ag0) [0, 0, 1, 0, 1, 0, 1, 1, 1, 0, 1, 1] body = agPR cfg 8 (pick none' [(0, ag0)]) [0, 0, 1, 0, 1, 0, 1, 1, 1, 0, 1, 1] body (topK cfg Tryd.f23 k kp) := by kernel_rfl
theorem j8_raw (k kp : D → List Blk → Prop) (ag0 : St → Prop) (x3 : Int) (b0_0 : ByteArray) (b0_1 : Int) : X8 k kp ag0 (m8 x3 b0_0 b0_1) = j8 (fun b0_0 b0_1 => ag0 (mL0 b0_0 b0_1)) x3 b0_0 b0_1 (fun z0_0 z0_1 => k (.tup []) [(.box 57 [(.v (.string z0_0)), (.v (.int IntKind.i64 z0_1))])]) :=
  Eq.mp (by kernel_rfl) ((atP_run (j8_ag k kp ag0) (m8 x3 b0_0 b0_1)).trans (j8_c k kp (JJ_0 k kp ag0) (LL_0 k kp ag0) ag0 x3 b0_0 b0_1))
theorem j8_eq (k kp : D → List Blk → Prop) (ag0 : St → Prop) (x3 : Int) (b0_0 : ByteArray) (b0_1 : Int) : X8 k kp ag0 (m8 x3 b0_0 b0_1) = j8' (fun b0_0 b0_1 => ag0 (mL0 b0_0 b0_1)) x3 b0_0 b0_1 (fun z0_0 z0_1 => k (.tup []) [(.box 57 [(.v (.string z0_0)), (.v (.int IntKind.i64 z0_1))])]) := by
  rw [j8_raw]; rfl
theorem l0_c (k kp : D → List Blk → Prop) (J L : Nat → St → Prop) (ag0 : St → Prop) (b0_0 : ByteArray) (b0_1 : Int) : runC cfg 1000001 J L (pick none' [(0, ag0)]) [0, 0] body (topK cfg Tryd.f23 k kp) (mL0 b0_0 b0_1) = l0 (fun x3 b0_0 b0_1 => J 8 (m8 x3 b0_0 b0_1)) (fun b0_0 b0_1 => ag0 (mL0 b0_0 b0_1)) b0_0 b0_1 (fun z0_0 z0_1 => k (.tup []) [(.box 57 [(.v (.string z0_0)), (.v (.int IntKind.i64 z0_1))])]) := by kernel_rfl
theorem l0_ag (k kp : D → List Blk → Prop) (ag0 : St → Prop) : agPL cfg 1000001 (JJ_0 k kp ag0) (LL_0 k kp ag0) [0, 0] body = agPR cfg 1000001 (pick none' [(0, ag0)]) [0, 0] body (topK cfg Tryd.f23 k kp) := by kernel_rfl
theorem l0_raw (k kp : D → List Blk → Prop) (ag0 : St → Prop) (b0_0 : ByteArray) (b0_1 : Int) : YL0 k kp ag0 (mL0 b0_0 b0_1) = l0 (fun x3 b0_0 b0_1 => X8 k kp ag0 (m8 x3 b0_0 b0_1)) (fun b0_0 b0_1 => ag0 (mL0 b0_0 b0_1)) b0_0 b0_1 (fun z0_0 z0_1 => k (.tup []) [(.box 57 [(.v (.string z0_0)), (.v (.int IntKind.i64 z0_1))])]) :=
  Eq.mp (by kernel_rfl) ((atP_run (l0_ag k kp ag0) (mL0 b0_0 b0_1)).trans (l0_c k kp (JJ_0 k kp ag0) (LL_0 k kp ag0) ag0 b0_0 b0_1))
theorem l0_eq (k kp : D → List Blk → Prop) (b0_0 : ByteArray) (b0_1 : Int) : XL0 k kp (mL0 b0_0 b0_1) = l0' b0_0 b0_1 (fun z0_0 z0_1 => k (.tup []) [(.box 57 [(.v (.string z0_0)), (.v (.int IntKind.i64 z0_1))])]) :=
  loop_eq (mk := fun (s : ByteArray × Int) => mL0 s.1 s.2) (fun again s => by rw [l0_raw k kp again s.1 s.2]; simp only [j8_eq]; first | done | rfl) (b0_0, b0_1)
theorem c_c (k kp : D → List Blk → Prop) (J L : Nat → St → Prop) (b0_0 : ByteArray) (b0_1 : Int) : runC cfg 1000001 J L none'' [] body (topK cfg Tryd.f23 k kp) (st0 Tryd.f23 [(.ptr 0 0)] [(.box 57 [(.v (.string b0_0)), (.v (.int IntKind.i64 b0_1))])]) = c (fun b0_0 b0_1 => L 0 (mL0 b0_0 b0_1)) b0_0 b0_1 (fun z0_0 z0_1 => k (.tup []) [(.box 57 [(.v (.string z0_0)), (.v (.int IntKind.i64 z0_1))])]) := by kernel_rfl
theorem c_ag (k kp : D → List Blk → Prop) : agPL cfg 1000001 (JJ k kp) (LL k kp) [] body = agPR cfg 1000001 none'' [] body (topK cfg Tryd.f23 k kp) := by kernel_rfl
theorem body_is : Tryd.f23.body = some body := by kernel_rfl
theorem c_raw (k kp : D → List Blk → Prop) (b0_0 : ByteArray) (b0_1 : Int) : funW cfg Tryd.f23 [(.ptr 0 0)] [(.box 57 [(.v (.string b0_0)), (.v (.int IntKind.i64 b0_1))])] k kp = c (fun b0_0 b0_1 => XL0 k kp (mL0 b0_0 b0_1)) b0_0 b0_1 (fun z0_0 z0_1 => k (.tup []) [(.box 57 [(.v (.string z0_0)), (.v (.int IntKind.i64 z0_1))])]) :=
  Eq.mp (by kernel_rfl) ((funW_run (AG := none'') body_is (c_ag k kp) [(.ptr 0 0)] [(.box 57 [(.v (.string b0_0)), (.v (.int IntKind.i64 b0_1))])]).trans (c_c k kp (JJ k kp) (LL k kp) b0_0 b0_1))
theorem f_eq (k kp : D → List Blk → Prop) (b0_0 : ByteArray) (b0_1 : Int) : funW cfg Tryd.f23 [(.ptr 0 0)] [(.box 57 [(.v (.string b0_0)), (.v (.int IntKind.i64 b0_1))])] k kp = f b0_0 b0_1 (fun z0_0 z0_1 => k (.tup []) [(.box 57 [(.v (.string z0_0)), (.v (.int IntKind.i64 z0_1))])]) := by
  rw [f_def, c_raw]; simp only [l0_eq]; first | done | rfl
noncomputable def ent0 : Entry := fun args blks k _ => match args, blks with
  | [d0], [e0] => aPtr 0 0 d0 (aBox 57 e0 fun l => aCons l fun e0_0 l => aCons l fun e0_1 l => aNil l (aStr e0_0 fun b0_0 => aInt IntKind.i64 e0_1 fun b0_1 => f b0_0 b0_1 (fun z0_0 z0_1 => k (.tup []) [(.box 57 [(.v (.string z0_0)), (.v (.int IntKind.i64 z0_1))])])))
  | _, _ => False
noncomputable def ent : Entry := fun args blks k kp => ent0 (convB [.no] args) blks k kp
theorem ok : EntOk Tryd.prog 49 0 23 ent := by
  refine EntOk.convB (EntOk.of (funW_ok (cfg := cfg) (tyOk_of rfl rfl tyL_ok) (eqOk_of (P := Tryd.prog) rfl rfl (by kernel_rfl)) mixed_ok (tab_ok ?_) Tryd.func23 (by rfl) (by rfl)) ?_) _
  · intro p hp
    simp only [List.mem_cons, List.not_mem_nil, or_false] at hp
    rcases hp with rfl | rfl
    · exact N36.ok
    · exact N37.ok
  · intro args blks k kp h k' kp'
    match args, blks, h with
    | [d0], [e0], h =>
    dsimp only [ent0] at h
    have h9 := aPtr_elim h; clear h; obtain ⟨rfl, h⟩ := h9
    have h9 := aBox_elim h; clear h; obtain ⟨_, rfl, h⟩ := h9
    have h9 := aCons_elim h; clear h; obtain ⟨e0_0, _, rfl, h⟩ := h9
    have h9 := aCons_elim h; clear h; obtain ⟨e0_1, _, rfl, h⟩ := h9
    have h9 := aNil_elim h; clear h; obtain ⟨rfl, h⟩ := h9
    have h9 := aStr_elim h; clear h; obtain ⟨b0_0, rfl, h⟩ := h9
    have h9 := aInt_elim h; clear h; obtain ⟨b0_1, rfl, h⟩ := h9
    exact (f_eq k' kp' b0_0 b0_1).symm
end N23
end Go.Proofs.Ye
namespace Go.Proofs.Ye
open Go Go.Aw Go.Proofs
set_option linter.unusedVariables false
set_option linter.unusedSimpArgs false
set_option maxRecDepth 100000
/-! (*dyehouse/lex.reader).quoted -/
namespace N24
noncomputable def cfg : Cfg := { P := Tryd.prog, tf := 49, tw := 0, ty := tys, E := tab [(38, N38.ent)], atSeq := tab [], atLoop := tab [], outs := [], eqT := tab [], bT := tab [] }
noncomputable def body : Code := bodyOf Tryd.f24
def c (b0_0 : ByteArray) (b0_1 : Int) (k : Int → ByteArray → Int → Int → Int → Int → Int → ByteArray → Int → Prop) : Prop :=
  (N38.f b0_0 b0_1 (fun (y0_0 : ByteArray) (y1_0 : Int) (y2_0 : Int) => (k (3 : Int) y0_0 (0 : Int) (0 : Int) b0_1 y1_0 y2_0 b0_0 b0_1)))
def f0 (b0_0 : ByteArray) (b0_1 : Int) (k : Int → ByteArray → Int → Int → Int → Int → Int → ByteArray → Int → Prop) : Prop := c b0_0 b0_1 k
theorem f_ex : ∃ g : ByteArray → Int → (Int → ByteArray → Int → Int → Int → Int → Int → ByteArray → Int → Prop) → Prop, g = f0 := ⟨_, rfl⟩
noncomputable def f : ByteArray → Int → (Int → ByteArray → Int → Int → Int → Int → Int → ByteArray → Int → Prop) → Prop := Classical.choose f_ex
theorem f_def : f = f0 := Classical.choose_spec f_ex
noncomputable def JJ (k kp : D → List Blk → Prop) : Nat → St → Prop := pick none' []
noncomputable def LL (k kp : D → List Blk → Prop) : Nat → St → Prop := pick none' []
theorem c_c (k kp : D → List Blk → Prop) (J L : Nat → St → Prop) (b0_0 : ByteArray) (b0_1 : Int) : runC cfg 1000001 J L none'' [] body (topK cfg Tryd.f24 k kp) (st0 Tryd.f24 [(.ptr 0 0)] [(.box 57 [(.v (.string b0_0)), (.v (.int IntKind.i64 b0_1))])]) = c b0_0 b0_1 (fun y0_0 y0_1 y0_2 y0_3 y0_4 y1 y2 z0_0 z0_1 => k (.tup [(.agg [(.v (.int IntKind.i64 y0_0)), (.v (.string y0_1)), (.v (.int IntKind.i64 y0_2)), (.v (.int IntKind.i64 y0_3)), (.v (.int IntKind.i64 y0_4))]), (.v (.int IntKind.i64 y1)), (.v (.int IntKind.i64 y2))]) [(.box 57 [(.v (.string z0_0)), (.v (.int IntKind.i64 z0_1))])]) := by kernel_rfl
theorem c_ag (k kp : D → List Blk → Prop) : agPL cfg 1000001 (JJ k kp) (LL k kp) [] body = agPR cfg 1000001 none'' [] body (topK cfg Tryd.f24 k kp) := by kernel_rfl
theorem body_is : Tryd.f24.body = some body := by kernel_rfl
theorem c_raw (k kp : D → List Blk → Prop) (b0_0 : ByteArray) (b0_1 : Int) : funW cfg Tryd.f24 [(.ptr 0 0)] [(.box 57 [(.v (.string b0_0)), (.v (.int IntKind.i64 b0_1))])] k kp = c b0_0 b0_1 (fun y0_0 y0_1 y0_2 y0_3 y0_4 y1 y2 z0_0 z0_1 => k (.tup [(.agg [(.v (.int IntKind.i64 y0_0)), (.v (.string y0_1)), (.v (.int IntKind.i64 y0_2)), (.v (.int IntKind.i64 y0_3)), (.v (.int IntKind.i64 y0_4))]), (.v (.int IntKind.i64 y1)), (.v (.int IntKind.i64 y2))]) [(.box 57 [(.v (.string z0_0)), (.v (.int IntKind.i64 z0_1))])]) :=
  Eq.mp (by kernel_rfl) ((funW_run (AG := none'') body_is (c_ag k kp) [(.ptr 0 0)] [(.box 57 [(.v (.string b0_0)), (.v (.int IntKind.i64 b0_1))])]).trans (c_c k kp (JJ k kp) (LL k kp) b0_0 b0_1))
theorem f_eq (k kp : D → List Blk → Prop) (b0_0 : ByteArray) (b0_1 : Int) : funW cfg Tryd.f24 [(.ptr 0 0)] [(.box 57 [(.v (.string b0_0)), (.v (.int IntKind.i64 b0_1))])] k kp = f b0_0 b0_1 (fun y0_0 y0_1 y0_2 y0_3 y0_4 y1 y2 z0_0 z0_1 => k (.tup [(.agg [(.v (.int IntKind.i64 y0_0)), (.v (.string y0_1)), (.v (.int IntKind.i64 y0_2)), (.v (.int IntKind.i64 y0_3)), (.v (.int IntKind.i64 y0_4))]), (.v (.int IntKind.i64 y1)), (.v (.int IntKind.i64 y2))]) [(.box 57 [(.v (.string z0_0)), (.v (.int IntKind.i64 z0_1))])]) := by
  rw [f_def, c_raw]; rfl
noncomputable def ent0 : Entry := fun args blks k _ => match args, blks with
  | [d0], [e0] => aPtr 0 0 d0 (aBox 57 e0 fun l => aCons l fun e0_0 l => aCons l fun e0_1 l => aNil l (aStr e0_0 fun b0_0 => aInt IntKind.i64 e0_1 fun b0_1 => f b0_0 b0_1 (fun y0_0 y0_1 y0_2 y0_3 y0_4 y1 y2 z0_0 z0_1 => k (.tup [(.agg [(.v (.int IntKind.i64 y0_0)), (.v (.string y0_1)), (.v (.int IntKind.i64 y0_2)), (.v (.int IntKind.i64 y0_3)), (.v (.int IntKind.i64 y0_4))]), (.v (.int IntKind.i64 y1)), (.v (.int IntKind.i64 y2))]) [(.box 57 [(.v (.string z0_0)), (.v (.int IntKind.i64 z0_1))])])))
  | _, _ => False
noncomputable def ent : Entry := fun args blks k kp => ent0 (convB [.no] args) blks k kp
theorem ok : EntOk Tryd.prog 49 0 24 ent := by
  refine EntOk.convB (EntOk.of (funW_ok (cfg := cfg) (tyOk_of rfl rfl tyL_ok) (eqOk_of (P := Tryd.prog) rfl rfl (by kernel_rfl)) mixed_ok (tab_ok ?_) Tryd.func24 (by rfl) (by rfl)) ?_) _
  · intro p hp
    simp only [List.mem_cons, List.not_mem_nil, or_false] at hp
    rcases hp with rfl
    · exact N38.ok
  · intro args blks k kp h k' kp'
    match args, blks, h with
    | [d0], [e0], h =>
    dsimp only [ent0] at h
    have h9 := aPtr_elim h; clear h; obtain ⟨rfl, h⟩ := h9
    have h9 := aBox_elim h; clear h; obtain ⟨_, rfl, h⟩ := h9
    have h9 := aCons_elim h; clear h; obtain ⟨e0_0, _, rfl, h⟩ := h9
    have h9 := aCons_elim h; clear h; obtain ⟨e0_1, _, rfl, h⟩ := h9
    have h9 := aNil_elim h; clear h; obtain ⟨rfl, h⟩ := h9
    have h9 := aStr_elim h; clear h; obtain ⟨b0_0, rfl, h⟩ := h9
    have h9 := aInt_elim h; clear h; obtain ⟨b0_1, rfl, h⟩ := h9
    exact (f_eq k' kp' b0_0 b0_1).symm
end N24
end Go.Proofs.Ye
namespace Go.Proofs.Ye
open Go Go.Aw Go.Proofs
set_option linter.unusedVariables false
set_option linter.unusedSimpArgs false
set_option maxRecDepth 100000
/-! dyehouse/lex.isDigit -/
namespace N39
noncomputable def cfg : Cfg := { P := Tryd.prog, tf := 49, tw := 0, ty := tys, E := tab [], atSeq := tab [], atLoop := tab [], outs := [], eqT := tab [], bT := tab [] }
noncomputable def body : Code := bodyOf Tryd.f39
def c (x0 : Int) (k : Bool → Prop) : Prop :=
  (br (decide (x0 ≥ (48 : Int))) (k (decide (x0 ≤ (57 : Int)))) (k false))
def f0 (x0 : Int) (k : Bool → Prop) : Prop := c x0 k
theorem f_ex : ∃ g : Int → (Bool → Prop) → Prop, g = f0 := ⟨_, rfl⟩
noncomputable def f : Int → (Bool → Prop) → Prop := Classical.choose f_ex
theorem f_def : f = f0 := Classical.choose_spec f_ex
noncomputable def JJ (k kp : D → List Blk → Prop) : Nat → St → Prop := pick none' []
noncomputable def LL (k kp : D → List Blk → Prop) : Nat → St → Prop := pick none' []
theorem c_c (k kp : D → List Blk → Prop) (J L : Nat → St → Prop) (x0 : Int) : runC cfg 1000001 J L none'' [] body (topK cfg Tryd.f39 k kp) (st0 Tryd.f39 [(.v (.int IntKind.u8 x0))] []) = c x0 (fun y0 => k (.v (.bool y0)) []) := by kernel_rfl
theorem c_ag (k kp : D → List Blk → Prop) : agPL cfg 1000001 (JJ k kp) (LL k kp) [] body = agPR cfg 1000001 none'' [] body (topK cfg Tryd.f39 k kp) := by kernel_rfl
theorem body_is : Tryd.f39.body = some body := by kernel_rfl
theorem c_raw (k kp : D → List Blk → Prop) (x0 : Int) : funW cfg Tryd.f39 [(.v (.int IntKind.u8 x0))] [] k kp = c x0 (fun y0 => k (.v (.bool y0)) []) :=
  Eq.mp (by kernel_rfl) ((funW_run (AG := none'') body_is (c_ag k kp) [(.v (.int IntKind.u8 x0))] []).trans (c_c k kp (JJ k kp) (LL k kp) x0))
theorem f_eq (k kp : D → List Blk → Prop) (x0 : Int) : funW cfg Tryd.f39 [(.v (.int IntKind.u8 x0))] [] k kp = f x0 (fun y0 => k (.v (.bool y0)) []) := by
  rw [f_def, c_raw]; rfl
noncomputable def ent0 : Entry := fun args blks k _ => match args, blks with
  | [d0], [] => aInt IntKind.u8 d0 fun x0 => f x0 (fun y0 => k (.v (.bool y0)) [])
  | _, _ => False
noncomputable def ent : Entry := fun args blks k kp => ent0 (convB [.no] args) blks k kp
theorem ok : EntOk Tryd.prog 49 0 39 ent := by
  refine EntOk.convB (EntOk.of (funW_ok (cfg := cfg) (tyOk_of rfl rfl tyL_ok) (eqOk_of (P := Tryd.prog) rfl rfl (by kernel_rfl)) mixed_ok (tab_ok ?_) Tryd.func39 (by rfl) (by rfl)) ?_) _
  · intro p hp
    cases hp
  · intro args blks k kp h k' kp'
    match args, blks, h with
    | [d0], [], h =>
    dsimp only [ent0] at h
    have h9 := aInt_elim h; clear h; obtain ⟨x0, rfl, h⟩ := h9
    exact (f_eq k' kp' x0).symm
end N39
end Go.Proofs.Ye
namespace Go.Proofs.Ye
open Go Go.Aw Go.Proofs
set_option linter.unusedVariables false
set_option linter.unusedSimpArgs false
set_option maxRecDepth 100000
/-! (*dyehouse/lex.reader).peek -/
namespace N64
noncomputable def cfg : Cfg := { P := Tryd.prog, tf := 49, tw := 0, ty := tys, E := tab [], atSeq := tab [], atLoop := tab [], outs := [], eqT := tab [], bT := tab [] }
noncomputable def body : Code := bodyOf Tryd.f64
def c (x1 : Int) (b0_0 : ByteArray) (b0_1 : Int) (k : Int → ByteArray → Int → Prop) : Prop :=
  (br (decide ((IntKind.i64.wrap (b0_1 + x1)) < ((((b0_0).size : Nat) : Int)))) ((inB 0 (IntKind.i64.wrap (b0_1 + x1)) ((((b0_0).size : Nat) : Int) - 1)) ∧ (k (byteAt b0_0 (IntKind.i64.wrap (b0_1 + x1))) b0_0 b0_1)) (k (0 : Int) b0_0 b0_1))
def f0 (x1 : Int) (b0_0 : ByteArray) (b0_1 : Int) (k : Int → ByteArray → Int → Prop) : Prop := c x1 b0_0 b0_1 k
theorem f_ex : ∃ g : Int → ByteArray → Int → (Int → ByteArray → Int → Prop) → Prop, g = f0 := ⟨_, rfl⟩
noncomputable def f : Int → ByteArray → Int → (Int → ByteArray → Int → Prop) → Prop := Classical.choose f_ex
theorem f_def : f = f0 := Classical.choose_spec f_ex
noncomputable def JJ (k kp : D → List Blk → Prop) : Nat → St → Prop := pick none' []
noncomputable def LL (k kp : D → List Blk → Prop) : Nat → St → Prop := pick none' []
theorem c_c (k kp : D → List Blk → Prop) (J L : Nat → St → Prop) (x1 : Int) (b0_0 : ByteArray) (b0_1 : Int) : runC cfg 1000001 J L none'' [] body (topK cfg Tryd.f64 k kp) (st0 Tryd.f64 [(.ptr 0 0), (.v (.int IntKind.i64 x1))] [(.box 57 [(.v (.string b0_0)), (.v (.int IntKind.i64 b0_1))])]) = c x1 b0_0 b0_1 (fun y0 z0_0 z0_1 => k (.v (.int IntKind.u8 y0)) [(.box 57 [(.v (.string z0_0)), (.v (.int IntKind.i64 z0_1))])]) := by kernel_rfl
theorem c_ag (k kp : D → List Blk → Prop) : agPL cfg 1000001 (JJ k kp) (LL k kp) [] body = agPR cfg 1000001 none'' [] body (topK cfg Tryd.f64 k kp) := by kernel_rfl
theorem body_is : Tryd.f64.body = some body := by kernel_rfl
theorem c_raw (k kp : D → List Blk → Prop) (x1 : Int) (b0_0 : ByteArray) (b0_1 : Int) : funW cfg Tryd.f64 [(.ptr 0 0), (.v (.int IntKind.i64 x1))] [(.box 57 [(.v (.string b0_0)), (.v (.int IntKind.i64 b0_1))])] k kp = c x1 b0_0 b0_1 (fun y0 z0_0 z0_1 => k (.v (.int IntKind.u8 y0)) [(.box 57 [(.v (.string z0_0)), (.v (.int IntKind.i64 z0_1))])]) :=
  Eq.mp (by kernel_rfl) ((funW_run (AG := none'') body_is (c_ag k kp) [(.ptr 0 0), (.v (.int IntKind.i64 x1))] [(.box 57 [(.v (.string b0_0)), (.v (.int IntKind.i64 b0_1))])]).trans (c_c k kp (JJ k kp) (LL k kp) x1 b0_0 b0_1))
theorem f_eq (k kp : D → List Blk → Prop) (x1 : Int) (b0_0 : ByteArray) (b0_1 : Int) : funW cfg Tryd.f64 [(.ptr 0 0), (.v (.int IntKind.i64 x1))] [(.box 57 [(.v (.string b0_0)), (.v (.int IntKind.i64 b0_1))])] k kp = f x1 b0_0 b0_1 (fun y0 z0_0 z0_1 => k (.v (.int IntKind.u8 y0)) [(.box 57 [(.v (.string z0_0)), (.v (.int IntKind.i64 z0_1))])]) := by
  rw [f_def, c_raw]; rfl
noncomputable def ent0 : Entry := fun args blks k _ => match args, blks with
  | [d0, d1], [e0] => aPtr 0 0 d0 (aInt IntKind.i64 d1 fun x1 => aBox 57 e0 fun l => aCons l fun e0_0 l => aCons l fun e0_1 l => aNil l (aStr e0_0 fun b0_0 => aInt IntKind.i64 e0_1 fun b0_1 => f x1 b0_0 b0_1 (fun y0 z0_0 z0_1 => k (.v (.int IntKind.u8 y0)) [(.box 57 [(.v (.string z0_0)), (.v (.int IntKind.i64 z0_1))])])))
  | _, _ => False
noncomputable def ent : Entry := fun args blks k kp => ent0 (convB [.no, .no] args) blks k kp
theorem ok : EntOk Tryd.prog 49 0 64 ent := by
  refine EntOk.convB (EntOk.of (funW_ok (cfg := cfg) (tyOk_of rfl rfl tyL_ok) (eqOk_of (P := Tryd.prog) rfl rfl (by kernel_rfl)) mixed_ok (tab_ok ?_) Tryd.func64 (by rfl) (by rfl)) ?_) _
  · intro p hp
    cases hp
  · intro args blks k kp h k' kp'
    match args, blks, h with
    | [d0, d1], [e0], h =>
    dsimp only [ent0] at h
    have h9 := aPtr_elim h; clear h; obtain ⟨rfl, h⟩ := h9
    have h9 := aInt_elim h; clear h; obtain ⟨x1, rfl, h⟩ := h9
    have h9 := aBox_elim h; clear h; obtain ⟨_, rfl, h⟩ := h9
    have h9 := aCons_elim h; clear h; obtain ⟨e0_0, _, rfl, h⟩ := h9
    have h9 := aCons_elim h; clear h; obtain ⟨e0_1, _, rfl, h⟩ := h9
    have h9 := aNil_elim h; clear h; obtain ⟨rfl, h⟩ := h9
    have h9 := aStr_elim h; clear h; obtain ⟨b0_0, rfl, h⟩ := h9
    have h9 := aInt_elim h; clear h; obtain ⟨b0_1, rfl, h⟩ := h9
    exact (f_eq k' kp' x1 b0_0 b0_1).symm
end N64
end Go.Proofs.Ye
namespace Go.Proofs.Ye
open Go Go.Aw Go.Proofs
set_option linter.unusedVariables false
set_option linter.unusedSimpArgs false
set_option maxRecDepth 100000
/-! (*dyehouse/lex.reader).digits -/
namespace N60
noncomputable def cfg : Cfg := { P := Tryd.prog, tf := 49, tw := 0, ty := tys, E := tab [(64, N64.ent), (39, N39.ent), (73, N73.ent)], atSeq := tab [(2000008, ⟨[(0, .keep), (1, .keep), (8, .keep), (9, .keep), (10, .keep), (12, .keep), (63, .keep)]⟩), (9, ⟨[(0, .keep), (1, .keep), (8, .keep), (9, .keep), (10, .keep)]⟩)], atLoop := tab [], outs := [], eqT := tab [], bT := tab [] }
noncomputable def body : Code := bodyOf Tryd.f60
def j2000008 (j9 : Int → Int → Int → Int → ByteArray → Int → Prop) (x1 : Int) (x8 : Int) (x9 : Int) (x10 : Int) (x12 : Int) (x63 : Bool) (b0_0 : ByteArray) (b0_1 : Int) (k : Int → Int → Int → ByteArray → Int → Prop) : Prop :=
  (br x63 (k (0 : Int) x12 (0 : Int) b0_0 b0_1) (j9 x1 x8 x9 x10 b0_0 b0_1))
def j9 (x1 : Int) (x8 : Int) (x9 : Int) (x10 : Int) (b0_0 : ByteArray) (b0_1 : Int) (k : Int → Int → Int → ByteArray → Int → Prop) : Prop :=
  (k (IntKind.i64.wrap (0 - x8)) (IntKind.i64.wrap ((IntKind.i64.wrap ((IntKind.i64.wrap (b0_1 + x1)) + x9)) - (1 : Int))) x10 b0_0 b0_1)
def c (j2000008 : Int → Int → Int → Int → Int → Bool → ByteArray → Int → Prop) (j9 : Int → Int → Int → Int → ByteArray → Int → Prop) (x1 : Int) (b0_0 : ByteArray) (b0_1 : Int) (k : Int → Int → Int → ByteArray → Int → Prop) : Prop :=
  (N64.f x1 b0_0 b0_1 (fun (y0_0 : Int) (z0_0_0 : ByteArray) (z0_1_0 : Int) => (N39.f y0_0 (fun (y0_1 : Bool) => (br (!y0_1) (k (0 : Int) (0 : Int) (12 : Int) z0_0_0 z0_1_0) ((inB (IntKind.i64.wrap (z0_1_0 + x1)) (((z0_0_0).size : Nat) : Int) (((z0_0_0).size : Nat) : Int)) ∧ ((inB 0 (mmv false (((((ByteArray.extract z0_0_0 (Int.toNat (IntKind.i64.wrap (z0_1_0 + x1))) (Int.toNat (((z0_0_0).size : Nat) : Int)))).size : Nat) : Int)) (24 : Int)) ((((ByteArray.extract z0_0_0 (Int.toNat (IntKind.i64.wrap (z0_1_0 + x1))) (Int.toNat (((z0_0_0).size : Nat) : Int)))).size : Nat) : Int)) ∧ ((((ByteArray.mk #[45])).size + ((ByteArray.extract (ByteArray.extract z0_0_0 (Int.toNat (IntKind.i64.wrap (z0_1_0 + x1))) (Int.toNat (((z0_0_0).size : Nat) : Int))) (Int.toNat 0) (Int.toNat (mmv false (((((ByteArray.extract z0_0_0 (Int.toNat (IntKind.i64.wrap (z0_1_0 + x1))) (Int.toNat (((z0_0_0).size : Nat) : Int)))).size : Nat) : Int)) (24 : Int))))).size ≤ 9223372036854775807) ∧ (N73.f ((ByteArray.mk #[45]) ++ (ByteArray.extract (ByteArray.extract z0_0_0 (Int.toNat (IntKind.i64.wrap (z0_1_0 + x1))) (Int.toNat (((z0_0_0).size : Nat) : Int))) (Int.toNat 0) (Int.toNat (mmv false (((((ByteArray.extract z0_0_0 (Int.toNat (IntKind.i64.wrap (z0_1_0 + x1))) (Int.toNat (((z0_0_0).size : Nat) : Int)))).size : Nat) : Int)) (24 : Int))))) (0 : Int) (fun (y0_2 : Int) (y1_2 : Int) (y2_2 : Int) => (br (y0_2 == (0 : Int)) (N73.f z0_0_0 (IntKind.i64.wrap (z0_1_0 + x1)) (fun (y0_3 : Int) (y1_3 : Int) (y2_3 : Int) => (br (y2_3 == (0 : Int)) (j2000008 x1 y0_2 y1_2 y2_2 y1_3 (y0_3 == (0 : Int)) z0_0_0 z0_1_0) (j2000008 x1 y0_2 y1_2 y2_2 y1_3 false z0_0_0 z0_1_0)))) (j9 x1 y0_2 y1_2 y2_2 z0_0_0 z0_1_0))))))))))))
def j9' (x1 : Int) (x8 : Int) (x9 : Int) (x10 : Int) (b0_0 : ByteArray) (b0_1 : Int) (k : Int → Int → Int → ByteArray → Int → Prop) : Prop := j9 x1 x8 x9 x10 b0_0 b0_1 k
def j2000008' (x1 : Int) (x8 : Int) (x9 : Int) (x10 : Int) (x12 : Int) (x63 : Bool) (b0_0 : ByteArray) (b0_1 : Int) (k : Int → Int → Int → ByteArray → Int → Prop) : Prop := j2000008 (fun x1 x8 x9 x10 b0_0 b0_1 => j9' x1 x8 x9 x10 b0_0 b0_1 k) x1 x8 x9 x10 x12 x63 b0_0 b0_1 k
def f0 (x1 : Int) (b0_0 : ByteArray) (b0_1 : Int) (k : Int → Int → Int → ByteArray → Int → Prop) : Prop := c (fun x1 x8 x9 x10 x12 x63 b0_0 b0_1 => j2000008' x1 x8 x9 x10 x12 x63 b0_0 b0_1 k) (fun x1 x8 x9 x10 b0_0 b0_1 => j9' x1 x8 x9 x10 b0_0 b0_1 k) x1 b0_0 b0_1 k
theorem f_ex : ∃ g : Int → ByteArray → Int → (Int → Int → Int → ByteArray → Int → Prop) → Prop, g = f0 := ⟨_, rfl⟩
noncomputable def f : Int → ByteArray → Int → (Int → Int → Int → ByteArray → Int → Prop) → Prop := Classical.choose f_ex
theorem f_def : f = f0 := Classical.choose_spec f_ex
def m2000008 (x1 : Int) (x8 : Int) (x9 : Int) (x10 : Int) (x12 : Int) (x63 : Bool) (b0_0 : ByteArray) (b0_1 : Int) : St := { tmps := mkT 77 0 [(0, (.ptr 0 0)), (1, (.v (.int IntKind.i64 x1))), (8, (.v (.int IntKind.i64 x8))), (9, (.v (.int IntKind.i64 x9))), (10, (.v (.int IntKind.i64 x10))), (12, (.v (.int IntKind.i64 x12))), (63, (.v (.bool x63)))], hp := [(.box 57 [(.v (.string b0_0)), (.v (.int IntKind.i64 b0_1))])], m := 1 }
def m9 (x1 : Int) (x8 : Int) (x9 : Int) (x10 : Int) (b0_0 : ByteArray) (b0_1 : Int) : St := { tmps := mkT 77 0 [(0, (.ptr 0 0)), (1, (.v (.int IntKind.i64 x1))), (8, (.v (.int IntKind.i64 x8))), (9, (.v (.int IntKind.i64 x9))), (10, (.v (.int IntKind.i64 x10)))], hp := [(.box 57 [(.v (.string b0_0)), (.v (.int IntKind.i64 b0_1))])], m := 1 }
noncomputable def X2000008 (k kp : D → List Blk → Prop) : St → Prop := atP cfg (pick none' []) [1, 1, 1, 1, 0, 1, 0, 1, 1] body (topK cfg Tryd.f60 k kp)
noncomputable def X9 (k kp : D → List Blk → Prop) : St → Prop := atP cfg (pick none' []) [1, 1, 1, 1, 1] body (topK cfg Tryd.f60 k kp)
noncomputable def JJ (k kp : D → List Blk → Prop) : Nat → St → Prop := pick none' [(2000008, X2000008 k kp), (9, X9 k kp)]
noncomputable def LL (k kp : D → List Blk → Prop) : Nat → St → Prop := pick none' []
theorem j9_c (k kp : D → List Blk → Prop) (J L : Nat → St → Prop) (x1 : Int) (x8 : Int) (x9 : Int) (x10 : Int) (b0_0 : ByteArray) (b0_1 : Int) : runC cfg 9 J L (pick none' []) [1, 1, 1, 1, 1] body (topK cfg Tryd.f60 k kp) (m9 x1 x8 x9 x10 b0_0 b0_1) = j9 x1 x8 x9 x10 b0_0 b0_1 (fun y0 y1 y2 z0_0 z0_1 => k (.tup [(.v (.int IntKind.i64 y0)), (.v (.int IntKind.i64 y1)), (.v (.int IntKind.i64 y2))]) [(.box 57 [(.v (.string z0_0)), (.v (.int IntKind.i64 z0_1))])]) := by kernel_rfl
theorem j9_ag (k kp : D → List Blk → Prop) : agPL cfg 9 (JJ k kp) (LL k kp) [1, 1, 1, 1, 1] body = agPR cfg 9 (pick none' []) [1, 1, 1, 1, 1] body (topK cfg Tryd.f60 k kp) := by kernel_rfl
theorem j9_raw (k kp : D → List Blk → Prop) (x1 : Int) (x8 : Int) (x9 : Int) (x10 : Int) (b0_0 : ByteArray) (b0_1 : Int) : X9 k kp (m9 x1 x8 x9 x10 b0_0 b0_1) = j9 x1 x8 x9 x10 b0_0 b0_1 (fun y0 y1 y2 z0_0 z0_1 => k (.tup [(.v (.int IntKind.i64 y0)), (.v (.int IntKind.i64 y1)), (.v (.int IntKind.i64 y2))]) [(.box 57 [(.v (.string z0_0)), (.v (.int IntKind.i64 z0_1))])]) :=
  Eq.mp (by kernel_rfl) ((atP_run (j9_ag k kp) (m9 x1 x8 x9 x10 b0_0 b0_1)).trans (j9_c k kp (JJ k kp) (LL k kp) x1 x8 x9 x10 b0_0 b0_1))
theorem j9_eq (k kp : D → List Blk → Prop) (x1 : Int) (x8 : Int) (x9 : Int) (x10 : Int) (b0_0 : ByteArray) (b0_1 : Int) : X9 k kp (m9 x1 x8 x9 x10 b0_0 b0_1) = j9' x1 x8 x9 x10 b0_0 b0_1 (fun y0 y1 y2 z0_0 z0_1 => k (.tup [(.v (.int IntKind.i64 y0)), (.v (.int IntKind.i64 y1)), (.v (.int IntKind.i64 y2))]) [(.box 57 [(.v (.string z0_0)), (.v (.int IntKind.i64 z0_1))])]) := by
  rw [j9_raw]; rfl
theorem j2000008_c (k kp : D → List Blk → Prop) (J L : Nat → St → Prop) (x1 : Int) (x8 : Int) (x9 : Int) (x10 : Int) (x12 : Int) (x63 : Bool) (b0_0 : ByteArray) (b0_1 : Int) : runC cfg 2000008 J L (pick none' []) [1, 1, 1, 1, 0, 1, 0, 1, 1] body (topK cfg Tryd.f60 k kp) (m2000008 x1 x8 x9 x10 x12 x63 b0_0 b0_1) = j2000008 (fun x1 x8 x9 x10 b0_0 b0_1 => J 9 (m9 x1 x8 x9 x10 b0_0 b0_1)) x1 x8 x9 x10 x12 x63 b0_0 b0_1 (fun y0 y1 y2 z0_0 z0_1 => k (.tup [(.v (.int IntKind.i64 y0)), (.v (.int IntKind.i64 y1)), (.v (.int IntKind.i64 y2))]) [(.box 57 [(.v (.string z0_0)), (.v (.int IntKind.i64 z0_1))])]) := by kernel_rfl
theorem j2000008_ag (k kp : D → List Blk → Prop) : agPL cfg 2000008 (JJ k kp) (LL k kp) [1, 1, 1, 1, 0, 1, 0, 1, 1] body = agPR cfg 2000008 (pick none' []) [1, 1, 1, 1, 0, 1, 0, 1, 1] body (topK cfg Tryd.f60 k kp) := by kernel_rfl
theorem j2000008_raw (k kp : D → List Blk → Prop) (x1 : Int) (x8 : Int) (x9 : Int) (x10 : Int) (x12 : Int) (x63 : Bool) (b0_0 : ByteArray) (b0_1 : Int) : X2000008 k kp (m2000008 x1 x8 x9 x10 x12 x63 b0_0 b0_1) = j2000008 (fun x1 x8 x9 x10 b0_0 b0_1 => X9 k kp (m9 x1 x8 x9 x10 b0_0 b0_1)) x1 x8 x9 x10 x12 x63 b0_0 b0_1 (fun y0 y1 y2 z0_0 z0_1 => k (.tup [(.v (.int IntKind.i64 y0)), (.v (.int IntKind.i64 y1)), (.v (.int IntKind.i64 y2))]) [(.box 57 [(.v (.string z0_0)), (.v (.int IntKind.i64 z0_1))])]) :=
  Eq.mp (by kernel_rfl) ((atP_run (j2000008_ag k kp) (m2000008 x1 x8 x9 x10 x12 x63 b0_0 b0_1)).trans (j2000008_c k kp (JJ k kp) (LL k kp) x1 x8 x9 x10 x12 x63 b0_0 b0_1))
theorem j2000008_eq (k kp : D → List Blk → Prop) (x1 : Int) (x8 : Int) (x9 : Int) (x10 : Int) (x12 : Int) (x63 : Bool) (b0_0 : ByteArray) (b0_1 : Int) : X2000008 k kp (m2000008 x1 x8 x9 x10 x12 x63 b0_0 b0_1) = j2000008' x1 x8 x9 x10 x12 x63 b0_0 b0_1 (fun y0 y1 y2 z0_0 z0_1 => k (.tup [(.v (.int IntKind.i64 y0)), (.v (.int IntKind.i64 y1)), (.v (.int IntKind.i64 y2))]) [(.box 57 [(.v (.string z0_0)), (.v (.int IntKind.i64 z0_1))])]) := by
  rw [j2000008_raw]; simp only [j9_eq]; first | done | rfl
theorem c_c (k kp : D → List Blk → Prop) (J L : Nat → St → Prop) (x1 : Int) (b0_0 : ByteArray) (b0_1 : Int) : runC cfg 1000001 J L none'' [] body (topK cfg Tryd.f60 k kp) (st0 Tryd.f60 [(.ptr 0 0), (.v (.int IntKind.i64 x1))] [(.box 57 [(.v (.string b0_0)), (.v (.int IntKind.i64 b0_1))])]) = c (fun x1 x8 x9 x10 x12 x63 b0_0 b0_1 => J 2000008 (m2000008 x1 x8 x9 x10 x12 x63 b0_0 b0_1)) (fun x1 x8 x9 x10 b0_0 b0_1 => J 9 (m9 x1 x8 x9 x10 b0_0 b0_1)) x1 b0_0 b0_1 (fun y0 y1 y2 z0_0 z0_1 => k (.tup [(.v (.int IntKind.i64 y0)), (.v (.int IntKind.i64 y1)), (.v (.int IntKind.i64 y2))]) [(.box 57 [(.v (.string z0_0)), (.v (.int IntKind.i64 z0_1))])]) := by kernel_rfl
theorem c_ag (k kp : D → List Blk → Prop) : agPL cfg 1000001 (JJ k kp) (LL k kp) [] body = agPR cfg 1000001 none'' [] body (topK cfg Tryd.f60 k kp) := by kernel_rfl
theorem body_is : Tryd.f60.body = some body := by kernel_rfl
theorem c_raw (k kp : D → List Blk → Prop) (x1 : Int) (b0_0 : ByteArray) (b0_1 : Int) : funW cfg Tryd.f60 [(.ptr 0 0), (.v (.int IntKind.i64 x1))] [(.box 57 [(.v (.string b0_0)), (.v (.int IntKind.i64 b0_1))])] k kp = c (fun x1 x8 x9 x10 x12 x63 b0_0 b0_1 => X2000008 k kp (m2000008 x1 x8 x9 x10 x12 x63 b0_0 b0_1)) (fun x1 x8 x9 x10 b0_0 b0_1 => X9 k kp (m9 x1 x8 x9 x10 b0_0 b0_1)) x1 b0_0 b0_1 (fun y0 y1 y2 z0_0 z0_1 => k (.tup [(.v (.int IntKind.i64 y0)), (.v (.int IntKind.i64 y1)), (.v (.int IntKind.i64 y2))]) [(.box 57 [(.v (.string z0_0)), (.v (.int IntKind.i64 z0_1))])]) :=
  Eq.mp (by kernel_rfl) ((funW_run (AG := none'') body_is (c_ag k kp) [(.ptr 0 0), (.v (.int IntKind.i64 x1))] [(.box 57 [(.v (.string b0_0)), (.v (.int IntKind.i64 b0_1))])]).trans (c_c k kp (JJ k kp) (LL k kp) x1 b0_0 b0_1))
theorem f_eq (k kp : D → List Blk → Prop) (x1 : Int) (b0_0 : ByteArray) (b0_1 : Int) : funW cfg Tryd.f60 [(.ptr 0 0), (.v (.int IntKind.i64 x1))] [(.box 57 [(.v (.string b0_0)), (.v (.int IntKind.i64 b0_1))])] k kp = f x1 b0_0 b0_1 (fun y0 y1 y2 z0_0 z0_1 => k (.tup [(.v (.int IntKind.i64 y0)), (.v (.int IntKind.i64 y1)), (.v (.int IntKind.i64 y2))]) [(.box 57 [(.v (.string z0_0)), (.v (.int IntKind.i64 z0_1))])]) := by
  rw [f_def, c_raw]; simp only [j2000008_eq, j9_eq]; first | done | rfl
noncomputable def ent0 : Entry := fun args blks k _ => match args, blks with
  | [d0, d1], [e0] => aPtr 0 0 d0 (aInt IntKind.i64 d1 fun x1 => aBox 57 e0 fun l => aCons l fun e0_0 l => aCons l fun e0_1 l => aNil l (aStr e0_0 fun b0_0 => aInt IntKind.i64 e0_1 fun b0_1 => f x1 b0_0 b0_1 (fun y0 y1 y2 z0_0 z0_1 => k (.tup [(.v (.int IntKind.i64 y0)), (.v (.int IntKind.i64 y1)), (.v (.int IntKind.i64 y2))]) [(.box 57 [(.v (.string z0_0)), (.v (.int IntKind.i64 z0_1))])])))
  | _, _ => False
noncomputable def ent : Entry := fun args blks k kp => ent0 (convB [.no, .no] args) blks k kp
theorem ok : EntOk Tryd.prog 49 0 60 ent := by
  refine EntOk.convB (EntOk.of (funW_ok (cfg := cfg) (tyOk_of rfl rfl tyL_ok) (eqOk_of (P := Tryd.prog) rfl rfl (by kernel_rfl)) mixed_ok (tab_ok ?_) Tryd.func60 (by rfl) (by rfl)) ?_) _
  · intro p hp
    simp only [List.mem_cons, List.not_mem_nil, or_false] at hp
    rcases hp with rfl | rfl | rfl
    · exact N64.ok
    · exact N39.ok
    · exact N73.ok
  · intro args blks k kp h k' kp'
    match args, blks, h with
    | [d0, d1], [e0], h =>
    dsimp only [ent0] at h
    have h9 := aPtr_elim h; clear h; obtain ⟨rfl, h⟩ := h9
    have h9 := aInt_elim h; clear h; obtain ⟨x1, rfl, h⟩ := h9
    have h9 := aBox_elim h; clear h; obtain ⟨_, rfl, h⟩ := h9
    have h9 := aCons_elim h; clear h; obtain ⟨e0_0, _, rfl, h⟩ := h9
    have h9 := aCons_elim h; clear h; obtain ⟨e0_1, _, rfl, h⟩ := h9
    have h9 := aNil_elim h; clear h; obtain ⟨rfl, h⟩ := h9
    have h9 := aStr_elim h; clear h; obtain ⟨b0_0, rfl, h⟩ := h9
    have h9 := aInt_elim h; clear h; obtain ⟨b0_1, rfl, h⟩ := h9
    exact (f_eq k' kp' x1 b0_0 b0_1).symm
end N60
end Go.Proofs.Ye
namespace Go.Proofs.Ye
open Go Go.Aw Go.Proofs
set_option linter.unusedVariables false
set_option linter.unusedSimpArgs false
set_option maxRecDepth 100000
/-! (*dyehouse/lex.reader).take -/
namespace N61
noncomputable def cfg : Cfg := { P := Tryd.prog, tf := 49, tw := 0, ty := tys, E := tab [], atSeq := tab [(4, ⟨[(4, .keep), (6, .keep)]⟩)], atLoop := tab [], outs := [], eqT := tab [], bT := tab [] }
noncomputable def body : Code := bodyOf Tryd.f61
def j4 (b0_0 : ByteArray) (b0_1 : Int) (b1_0 : Int) (b1_1 : ByteArray) (b1_2 : Int) (b1_3 : Int) (b1_4 : Int) (b2_0 : Int) (b2_1 : ByteArray) (b2_2 : Int) (b2_3 : Int) (b2_4 : Int) (k : Int → ByteArray → Int → Int → Int → ByteArray → Int → Prop) : Prop :=
  (k b1_0 b1_1 b1_2 b1_3 b1_4 b0_0 b0_1)
def c (j4 : ByteArray → Int → Int → ByteArray → Int → Int → Int → Int → ByteArray → Int → Int → Int → Prop) (x1_0 : Int) (x1_1 : ByteArray) (x1_2 : Int) (x1_3 : Int) (x1_4 : Int) (x2 : Int) (b0_0 : ByteArray) (b0_1 : Int) (k : Int → ByteArray → Int → Int → Int → ByteArray → Int → Prop) : Prop :=
  (br (decide (x2 > b0_1)) ((inB b0_1 x2 (((b0_0).size : Nat) : Int)) ∧ (j4 b0_0 b0_1 x1_0 (ByteArray.extract b0_0 (Int.toNat b0_1) (Int.toNat x2)) x1_2 x1_3 b0_1 (0 : Int) (ByteArray.mk #[]) (0 : Int) (0 : Int) (0 : Int))) (j4 b0_0 b0_1 x1_0 x1_1 x1_2 x1_3 b0_1 (0 : Int) (ByteArray.mk #[]) (0 : Int) (0 : Int) (0 : Int)))
def j4' (b0_0 : ByteArray) (b0_1 : Int) (b1_0 : Int) (b1_1 : ByteArray) (b1_2 : Int) (b1_3 : Int) (b1_4 : Int) (b2_0 : Int) (b2_1 : ByteArray) (b2_2 : Int) (b2_3 : Int) (b2_4 : Int) (k : Int → ByteArray → Int → Int → Int → ByteArray → Int → Prop) : Prop := j4 b0_0 b0_1 b1_0 b1_1 b1_2 b1_3 b1_4 b2_0 b2_1 b2_2 b2_3 b2_4 k
def f0 (x1_0 : Int) (x1_1 : ByteArray) (x1_2 : Int) (x1_3 : Int) (x1_4 : Int) (x2 : Int) (b0_0 : ByteArray) (b0_1 : Int) (k : Int → ByteArray → Int → Int → Int → ByteArray → Int → Prop) : Prop := c (fun b0_0 b0_1 b1_0 b1_1 b1_2 b1_3 b1_4 b2_0 b2_1 b2_2 b2_3 b2_4 => j4' b0_0 b0_1 b1_0 b1_1 b1_2 b1_3 b1_4 b2_0 b2_1 b2_2 b2_3 b2_4 k) x1_0 x1_1 x1_2 x1_3 x1_4 x2 b0_0 b0_1 k
theorem f_ex : ∃ g : Int → ByteArray → Int → Int → Int → Int → ByteArray → Int → (Int → ByteArray → Int → Int → Int → ByteArray → Int → Prop) → Prop, g = f0 := ⟨_, rfl⟩
noncomputable def f : Int → ByteArray → Int → Int → Int → Int → ByteArray → Int → (Int → ByteArray → Int → Int → Int → ByteArray → Int → Prop) → Prop := Classical.choose f_ex
theorem f_def : f = f0 := Classical.choose_spec f_ex
def m4 (b0_0 : ByteArray) (b0_1 : Int) (b1_0 : Int) (b1_1 : ByteArray) (b1_2 : Int) (b1_3 : Int) (b1_4 : Int) (b2_0 : Int) (b2_1 : ByteArray) (b2_2 : Int) (b2_3 : Int) (b2_4 : Int) : St := { tmps := mkT 30 0 [(4, (.ptr 1 0)), (6, (.ptr 2 0))], hp := [(.box 57 [(.v (.string b0_0)), (.v (.int IntKind.i64 b0_1))]), (.box 42 [(.v (.int IntKind.i64 b1_0)), (.v (.string b1_1)), (.v (.int IntKind.i64 b1_2)), (.v (.int IntKind.i64 b1_3)), (.v (.int IntKind.i64 b1_4))]), (.box 42 [(.v (.int IntKind.i64 b2_0)), (.v (.string b2_1)), (.v (.int IntKind.i64 b2_2)), (.v (.int IntKind.i64 b2_3)), (.v (.int IntKind.i64 b2_4))])], m := 1 }
noncomputable def X4 (k kp : D → List Blk → Prop) : St → Prop := atP cfg (pick none' []) [1, 1, 1] body (topK cfg Tryd.f61 k kp)
noncomputable def JJ (k kp : D → List Blk → Prop) : Nat → St → Prop := pick none' [(4, X4 k kp)]
noncomputable def LL (k kp : D → List Blk → Prop) : Nat → St → Prop := pick none' []
theorem j4_c (k kp : D → List Blk → Prop) (J L : Nat → St → Prop) (b0_0 : ByteArray) (b0_1 : Int) (b1_0 : Int) (b1_1 : ByteArray) (b1_2 : Int) (b1_3 : Int) (b1_4 : Int) (b2_0 : Int) (b2_1 : ByteArray) (b2_2 : Int) (b2_3 : Int) (b2_4 : Int) : runC cfg 4 J L (pick none' []) [1, 1, 1] body (topK cfg Tryd.f61 k kp) (m4 b0_0 b0_1 b1_0 b1_1 b1_2 b1_3 b1_4 b2_0 b2_1 b2_2 b2_3 b2_4) = j4 b0_0 b0_1 b1_0 b1_1 b1_2 b1_3 b1_4 b2_0 b2_1 b2_2 b2_3 b2_4 (fun y0_0 y0_1 y0_2 y0_3 y0_4 z0_0 z0_1 => k (.agg [(.v (.int IntKind.i64 y0_0)), (.v (.string y0_1)), (.v (.int IntKind.i64 y0_2)), (.v (.int IntKind.i64 y0_3)), (.v (.int IntKind.i64 y0_4))]) [(.box 57 [(.v (.string z0_0)), (.v (.int IntKind.i64 z0_1))])]) := by kernel_rfl
theorem j4_ag (k kp : D → List Blk → Prop) : agPL cfg 4 (JJ k kp) (LL k kp) [1, 1, 1] body = agPR cfg 4 (pick none' []) [1, 1, 1] body (topK cfg Tryd.f61 k kp) := by kernel_rfl
theorem j4_raw (k kp : D → List Blk → Prop) (b0_0 : ByteArray) (b0_1 : Int) (b1_0 : Int) (b1_1 : ByteArray) (b1_2 : Int) (b1_3 : Int) (b1_4 : Int) (b2_0 : Int) (b2_1 : ByteArray) (b2_2 : Int) (b2_3 : Int) (b2_4 : Int) : X4 k kp (m4 b0_0 b0_1 b1_0 b1_1 b1_2 b1_3 b1_4 b2_0 b2_1 b2_2 b2_3 b2_4) = j4 b0_0 b0_1 b1_0 b1_1 b1_2 b1_3 b1_4 b2_0 b2_1 b2_2 b2_3 b2_4 (fun y0_0 y0_1 y0_2 y0_3 y0_4 z0_0 z0_1 => k (.agg [(.v (.int IntKind.i64 y0_0)), (.v (.string y0_1)), (.v (.int IntKind.i64 y0_2)), (.v (.int IntKind.i64 y0_3)), (.v (.int IntKind.i64 y0_4))]) [(.box 57 [(.v (.string z0_0)), (.v (.int IntKind.i64 z0_1))])]) :=
  Eq.mp (by kernel_rfl) ((atP_run (j4_ag k kp) (m4 b0_0 b0_1 b1_0 b1_1 b1_2 b1_3 b1_4 b2_0 b2_1 b2_2 b2_3 b2_4)).trans (j4_c k kp (JJ k kp) (LL k kp) b0_0 b0_1 b1_0 b1_1 b1_2 b1_3 b1_4 b2_0 b2_1 b2_2 b2_3 b2_4))
theorem j4_eq (k kp : D → List Blk → Prop) (b0_0 : ByteArray) (b0_1 : Int) (b1_0 : Int) (b1_1 : ByteArray) (b1_2 : Int) (b1_3 : Int) (b1_4 : Int) (b2_0 : Int) (b2_1 : ByteArray) (b2_2 : Int) (b2_3 : Int) (b2_4 : Int) : X4 k kp (m4 b0_0 b0_1 b1_0 b1_1 b1_2 b1_3 b1_4 b2_0 b2_1 b2_2 b2_3 b2_4) = j4' b0_0 b0_1 b1_0 b1_1 b1_2 b1_3 b1_4 b2_0 b2_1 b2_2 b2_3 b2_4 (fun y0_0 y0_1 y0_2 y0_3 y0_4 z0_0 z0_1 => k (.agg [(.v (.int IntKind.i64 y0_0)), (.v (.string y0_1)), (.v (.int IntKind.i64 y0_2)), (.v (.int IntKind.i64 y0_3)), (.v (.int IntKind.i64 y0_4))]) [(.box 57 [(.v (.string z0_0)), (.v (.int IntKind.i64 z0_1))])]) := by
  rw [j4_raw]; rfl
theorem c_c (k kp : D → List Blk → Prop) (J L : Nat → St → Prop) (x1_0 : Int) (x1_1 : ByteArray) (x1_2 : Int) (x1_3 : Int) (x1_4 : Int) (x2 : Int) (b0_0 : ByteArray) (b0_1 : Int) : runC cfg 1000001 J L none'' [] body (topK cfg Tryd.f61 k kp) (st0 Tryd.f61 [(.ptr 0 0), (.agg [(.v (.int IntKind.i64 x1_0)), (.v (.string x1_1)), (.v (.int IntKind.i64 x1_2)), (.v (.int IntKind.i64 x1_3)), (.v (.int IntKind.i64 x1_4))]), (.v (.int IntKind.i64 x2))] [(.box 57 [(.v (.string b0_0)), (.v (.int IntKind.i64 b0_1))])]) = c (fun b0_0 b0_1 b1_0 b1_1 b1_2 b1_3 b1_4 b2_0 b2_1 b2_2 b2_3 b2_4 => J 4 (m4 b0_0 b0_1 b1_0 b1_1 b1_2 b1_3 b1_4 b2_0 b2_1 b2_2 b2_3 b2_4)) x1_0 x1_1 x1_2 x1_3 x1_4 x2 b0_0 b0_1 (fun y0_0 y0_1 y0_2 y0_3 y0_4 z0_0 z0_1 => k (.agg [(.v (.int IntKind.i64 y0_0)), (.v (.string y0_1)), (.v (.int IntKind.i64 y0_2)), (.v (.int IntKind.i64 y0_3)), (.v (.int IntKind.i64 y0_4))]) [(.box 57 [(.v (.string z0_0)), (.v (.int IntKind.i64 z0_1))])]) := by kernel_rfl
theorem c_ag (k kp : D → List Blk → Prop) : agPL cfg 1000001 (JJ k kp) (LL k kp) [] body = agPR cfg 1000001 none'' [] body (topK cfg Tryd.f61 k kp) := by kernel_rfl
theorem body_is : Tryd.f61.body = some body := by kernel_rfl
theorem c_raw (k kp : D → List Blk → Prop) (x1_0 : Int) (x1_1 : ByteArray) (x1_2 : Int) (x1_3 : Int) (x1_4 : Int) (x2 : Int) (b0_0 : ByteArray) (b0_1 : Int) : funW cfg Tryd.f61 [(.ptr 0 0), (.agg [(.v (.int IntKind.i64 x1_0)), (.v (.string x1_1)), (.v (.int IntKind.i64 x1_2)), (.v (.int IntKind.i64 x1_3)), (.v (.int IntKind.i64 x1_4))]), (.v (.int IntKind.i64 x2))] [(.box 57 [(.v (.string b0_0)), (.v (.int IntKind.i64 b0_1))])] k kp = c (fun b0_0 b0_1 b1_0 b1_1 b1_2 b1_3 b1_4 b2_0 b2_1 b2_2 b2_3 b2_4 => X4 k kp (m4 b0_0 b0_1 b1_0 b1_1 b1_2 b1_3 b1_4 b2_0 b2_1 b2_2 b2_3 b2_4)) x1_0 x1_1 x1_2 x1_3 x1_4 x2 b0_0 b0_1 (fun y0_0 y0_1 y0_2 y0_3 y0_4 z0_0 z0_1 => k (.agg [(.v (.int IntKind.i64 y0_0)), (.v (.string y0_1)), (.v (.int IntKind.i64 y0_2)), (.v (.int IntKind.i64 y0_3)), (.v (.int IntKind.i64 y0_4))]) [(.box 57 [(.v (.string z0_0)), (.v (.int IntKind.i64 z0_1))])]) :=
  Eq.mp (by kernel_rfl) ((funW_run (AG := none'') body_is (c_ag k kp) [(.ptr 0 0), (.agg [(.v (.int IntKind.i64 x1_0)), (.v (.string x1_1)), (.v (.int IntKind.i64 x1_2)), (.v (.int IntKind.i64 x1_3)), (.v (.int IntKind.i64 x1_4))]), (.v (.int IntKind.i64 x2))] [(.box 57 [(.v (.string b0_0)), (.v (.int IntKind.i64 b0_1))])]).trans (c_c k kp (JJ k kp) (LL k kp) x1_0 x1_1 x1_2 x1_3 x1_4 x2 b0_0 b0_1))
theorem f_eq (k kp : D → List Blk → Prop) (x1_0 : Int) (x1_1 : ByteArray) (x1_2 : Int) (x1_3 : Int) (x1_4 : Int) (x2 : Int) (b0_0 : ByteArray) (b0_1 : Int) : funW cfg Tryd.f61 [(.ptr 0 0), (.agg [(.v (.int IntKind.i64 x1_0)), (.v (.string x1_1)), (.v (.int IntKind.i64 x1_2)), (.v (.int IntKind.i64 x1_3)), (.v (.int IntKind.i64 x1_4))]), (.v (.int IntKind.i64 x2))] [(.box 57 [(.v (.string b0_0)), (.v (.int IntKind.i64 b0_1))])] k kp = f x1_0 x1_1 x1_2 x1_3 x1_4 x2 b0_0 b0_1 (fun y0_0 y0_1 y0_2 y0_3 y0_4 z0_0 z0_1 => k (.agg [(.v (.int IntKind.i64 y0_0)), (.v (.string y0_1)), (.v (.int IntKind.i64 y0_2)), (.v (.int IntKind.i64 y0_3)), (.v (.int IntKind.i64 y0_4))]) [(.box 57 [(.v (.string z0_0)), (.v (.int IntKind.i64 z0_1))])]) := by
  rw [f_def, c_raw]; simp only [j4_eq]; first | done | rfl
noncomputable def ent0 : Entry := fun args blks k _ => match args, blks with
  | [d0, d1, d2], [e0] => aPtr 0 0 d0 (aAgg 5 d1 fun l => aCons l fun d1_0 l => aCons l fun d1_1 l => aCons l fun d1_2 l => aCons l fun d1_3 l => aCons l fun d1_4 l => aNil l (aInt IntKind.i64 d1_0 fun x1_0 => aStr d1_1 fun x1_1 => aInt IntKind.i64 d1_2 fun x1_2 => aInt IntKind.i64 d1_3 fun x1_3 => aInt IntKind.i64 d1_4 fun x1_4 => aInt IntKind.i64 d2 fun x2 => aBox 57 e0 fun l => aCons l fun e0_0 l => aCons l fun e0_1 l => aNil l (aStr e0_0 fun b0_0 => aInt IntKind.i64 e0_1 fun b0_1 => f x1_0 x1_1 x1_2 x1_3 x1_4 x2 b0_0 b0_1 (fun y0_0 y0_1 y0_2 y0_3 y0_4 z0_0 z0_1 => k (.agg [(.v (.int IntKind.i64 y0_0)), (.v (.string y0_1)), (.v (.int IntKind.i64 y0_2)), (.v (.int IntKind.i64 y0_3)), (.v (.int IntKind.i64 y0_4))]) [(.box 57 [(.v (.string z0_0)), (.v (.int IntKind.i64 z0_1))])]))))
  | _, _ => False
noncomputable def ent : Entry := fun args blks k kp => ent0 (convB [.no, .no, .no] args) blks k kp
theorem ok : EntOk Tryd.prog 49 0 61 ent := by
  refine EntOk.convB (EntOk.of (funW_ok (cfg := cfg) (tyOk_of rfl rfl tyL_ok) (eqOk_of (P := Tryd.prog) rfl rfl (by kernel_rfl)) mixed_ok (tab_ok ?_) Tryd.func61 (by rfl) (by rfl)) ?_) _
  · intro p hp
    cases hp
  · intro args blks k kp h k' kp'
    match args, blks, h with
    | [d0, d1, d2], [e0], h =>
    dsimp only [ent0] at h
    have h9 := aPtr_elim h; clear h; obtain ⟨rfl, h⟩ := h9
    have h9 := aAgg_elim h; clear h; obtain ⟨_, rfl, h⟩ := h9
    have h9 := aCons_elim h; clear h; obtain ⟨d1_0, _, rfl, h⟩ := h9
    have h9 := aCons_elim h; clear h; obtain ⟨d1_1, _, rfl, h⟩ := h9
    have h9 := aCons_elim h; clear h; obtain ⟨d1_2, _, rfl, h⟩ := h9
    have h9 := aCons_elim h; clear h; obtain ⟨d1_3, _, rfl, h⟩ := h9
    have h9 := aCons_elim h; clear h; obtain ⟨d1_4, _, rfl, h⟩ := h9
    have h9 := aNil_elim h; clear h; obtain ⟨rfl, h⟩ := h9
    have h9 := aInt_elim h; clear h; obtain ⟨x1_0, rfl, h⟩ := h9
    have h9 := aStr_elim h; clear h; obtain ⟨x1_1, rfl, h⟩ := h9
    have h9 := aInt_elim h; clear h; obtain ⟨x1_2, rfl, h⟩ := h9
    have h9 := aInt_elim h; clear h; obtain ⟨x1_3, rfl, h⟩ := h9
    have h9 := aInt_elim h; clear h; obtain ⟨x1_4, rfl, h⟩ := h9
    have h9 := aInt_elim h; clear h; obtain ⟨x2, rfl, h⟩ := h9
    have h9 := aBox_elim h; clear h; obtain ⟨_, rfl, h⟩ := h9
    have h9 := aCons_elim h; clear h; obtain ⟨e0_0, _, rfl, h⟩ := h9
    have h9 := aCons_elim h; clear h; obtain ⟨e0_1, _, rfl, h⟩ := h9
    have h9 := aNil_elim h; clear h; obtain ⟨rfl, h⟩ := h9
    have h9 := aStr_elim h; clear h; obtain ⟨b0_0, rfl, h⟩ := h9
    have h9 := aInt_elim h; clear h; obtain ⟨b0_1, rfl, h⟩ := h9
    exact (f_eq k' kp' x1_0 x1_1 x1_2 x1_3 x1_4 x2 b0_0 b0_1).symm
end N61
end Go.Proofs.Ye
namespace Go.Proofs.Ye
open Go Go.Aw Go.Proofs
set_option linter.unusedVariables false
set_option linter.unusedSimpArgs false
set_option maxRecDepth 100000
/-! (*dyehouse/lex.reader).number -/
namespace N40
noncomputable def cfg : Cfg := { P := Tryd.prog, tf := 49, tw := 0, ty := tys, E := tab [(60, N60.ent), (61, N61.ent)], atSeq := tab [], atLoop := tab [], outs := [], eqT := tab [], bT := tab [] }
noncomputable def body : Code := bodyOf Tryd.f40
def c (b0_0 : ByteArray) (b0_1 : Int) (k : Int → ByteArray → Int → Int → Int → Int → ByteArray → Int → Prop) : Prop :=
  (N60.f (0 : Int) b0_0 b0_1 (fun (y0_0 : Int) (y1_0 : Int) (y2_0 : Int) (z0_0_0 : ByteArray) (z0_1_0 : Int) => (N61.f (2 : Int) (ByteArray.mk #[]) y0_0 (0 : Int) (0 : Int) y1_0 z0_0_0 z0_1_0 (fun (y0_0_1 : Int) (y0_1_1 : ByteArray) (y0_2_1 : Int) (y0_3_1 : Int) (y0_4_1 : Int) (z0_0_1 : ByteArray) (z0_1_1 : Int) => (k y0_0_1 y0_1_1 y0_2_1 y0_3_1 y0_4_1 y2_0 z0_0_1 z0_1_1)))))
def f0 (b0_0 : ByteArray) (b0_1 : Int) (k : Int → ByteArray → Int → Int → Int → Int → ByteArray → Int → Prop) : Prop := c b0_0 b0_1 k
theorem f_ex : ∃ g : ByteArray → Int → (Int → ByteArray → Int → Int → Int → Int → ByteArray → Int → Prop) → Prop, g = f0 := ⟨_, rfl⟩
noncomputable def f : ByteArray → Int → (Int → ByteArray → Int → Int → Int → Int → ByteArray → Int → Prop) → Prop := Classical.choose f_ex
theorem f_def : f = f0 := Classical.choose_spec f_ex
noncomputable def JJ (k kp : D → List Blk → Prop) : Nat → St → Prop := pick none' []
noncomputable def LL (k kp : D → List Blk → Prop) : Nat → St → Prop := pick none' []
theorem c_c (k kp : D → List Blk → Prop) (J L : Nat → St → Prop) (b0_0 : ByteArray) (b0_1 : Int) : runC cfg 1000001 J L none'' [] body (topK cfg Tryd.f40 k kp) (st0 Tryd.f40 [(.ptr 0 0)] [(.box 57 [(.v (.string b0_0)), (.v (.int IntKind.i64 b0_1))])]) = c b0_0 b0_1 (fun y0_0 y0_1 y0_2 y0_3 y0_4 y1 z0_0 z0_1 => k (.tup [(.agg [(.v (.int IntKind.i64 y0_0)), (.v (.string y0_1)), (.v (.int IntKind.i64 y0_2)), (.v (.int IntKind.i64 y0_3)), (.v (.int IntKind.i64 y0_4))]), (.v (.int IntKind.i64 y1))]) [(.box 57 [(.v (.string z0_0)), (.v (.int IntKind.i64 z0_1))])]) := by kernel_rfl
theorem c_ag (k kp : D → List Blk → Prop) : agPL cfg 1000001 (JJ k kp) (LL k kp) [] body = agPR cfg 1000001 none'' [] body (topK cfg Tryd.f40 k kp) := by kernel_rfl
theorem body_is : Tryd.f40.body = some body := by kernel_rfl
theorem c_raw (k kp : D → List Blk → Prop) (b0_0 : ByteArray) (b0_1 : Int) : funW cfg Tryd.f40 [(.ptr 0 0)] [(.box 57 [(.v (.string b0_0)), (.v (.int IntKind.i64 b0_1))])] k kp = c b0_0 b0_1 (fun y0_0 y0_1 y0_2 y0_3 y0_4 y1 z0_0 z0_1 => k (.tup [(.agg [(.v (.int IntKind.i64 y0_0)), (.v (.string y0_1)), (.v (.int IntKind.i64 y0_2)), (.v (.int IntKind.i64 y0_3)), (.v (.int IntKind.i64 y0_4))]), (.v (.int IntKind.i64 y1))]) [(.box 57 [(.v (.string z0_0)), (.v (.int IntKind.i64 z0_1))])]) :=
  Eq.mp (by kernel_rfl) ((funW_run (AG := none'') body_is (c_ag k kp) [(.ptr 0 0)] [(.box 57 [(.v (.string b0_0)), (.v (.int IntKind.i64 b0_1))])]).trans (c_c k kp (JJ k kp) (LL k kp) b0_0 b0_1))
theorem f_eq (k kp : D → List Blk → Prop) (b0_0 : ByteArray) (b0_1 : Int) : funW cfg Tryd.f40 [(.ptr 0 0)] [(.box 57 [(.v (.string b0_0)), (.v (.int IntKind.i64 b0_1))])] k kp = f b0_0 b0_1 (fun y0_0 y0_1 y0_2 y0_3 y0_4 y1 z0_0 z0_1 => k (.tup [(.agg [(.v (.int IntKind.i64 y0_0)), (.v (.string y0_1)), (.v (.int IntKind.i64 y0_2)), (.v (.int IntKind.i64 y0_3)), (.v (.int IntKind.i64 y0_4))]), (.v (.int IntKind.i64 y1))]) [(.box 57 [(.v (.string z0_0)), (.v (.int IntKind.i64 z0_1))])]) := by
  rw [f_def, c_raw]; rfl
noncomputable def ent0 : Entry := fun args blks k _ => match args, blks with
  | [d0], [e0] => aPtr 0 0 d0 (aBox 57 e0 fun l => aCons l fun e0_0 l => aCons l fun e0_1 l => aNil l (aStr e0_0 fun b0_0 => aInt IntKind.i64 e0_1 fun b0_1 => f b0_0 b0_1 (fun y0_0 y0_1 y0_2 y0_3 y0_4 y1 z0_0 z0_1 => k (.tup [(.agg [(.v (.int IntKind.i64 y0_0)), (.v (.string y0_1)), (.v (.int IntKind.i64 y0_2)), (.v (.int IntKind.i64 y0_3)), (.v (.int IntKind.i64 y0_4))]), (.v (.int IntKind.i64 y1))]) [(.box 57 [(.v (.string z0_0)), (.v (.int IntKind.i64 z0_1))])])))
  | _, _ => False
noncomputable def ent : Entry := fun args blks k kp => ent0 (convB [.no] args) blks k kp
theorem ok : EntOk Tryd.prog 49 0 40 ent := by
  refine EntOk.convB (EntOk.of (funW_ok (cfg := cfg) (tyOk_of rfl rfl tyL_ok) (eqOk_of (P := Tryd.prog) rfl rfl (by kernel_rfl)) mixed_ok (tab_ok ?_) Tryd.func40 (by rfl) (by rfl)) ?_) _
  · intro p hp
    simp only [List.mem_cons, List.not_mem_nil, or_false] at hp
    rcases hp with rfl | rfl
    · exact N60.ok
    · exact N61.ok
  · intro args blks k kp h k' kp'
    match args, blks, h with
    | [d0], [e0], h =>
    dsimp only [ent0] at h
    have h9 := aPtr_elim h; clear h; obtain ⟨rfl, h⟩ := h9
    have h9 := aBox_elim h; clear h; obtain ⟨_, rfl, h⟩ := h9
    have h9 := aCons_elim h; clear h; obtain ⟨e0_0, _, rfl, h⟩ := h9
    have h9 := aCons_elim h; clear h; obtain ⟨e0_1, _, rfl, h⟩ := h9
    have h9 := aNil_elim h; clear h; obtain ⟨rfl, h⟩ := h9
    have h9 := aStr_elim h; clear h; obtain ⟨b0_0, rfl, h⟩ := h9
    have h9 := aInt_elim h; clear h; obtain ⟨b0_1, rfl, h⟩ := h9
    exact (f_eq k' kp' b0_0 b0_1).symm
end N40
end Go.Proofs.Ye
namespace Go.Proofs.Ye
open Go Go.Aw Go.Proofs
set_option linter.unusedVariables false
set_option linter.unusedSimpArgs false
set_option maxRecDepth 100000
/-! (*dyehouse/lex.reader).word -/
namespace N42
noncomputable def cfg : Cfg := { P := Tryd.prog, tf := 49, tw := 0, ty := tys, E := tab [(62, N62.ent), (61, N61.ent)], atSeq := tab [], atLoop := tab [], outs := [], eqT := tab [], bT := tab [], lt := [5, 6, 7, 8, 9, 11, 12, 13], pd := [(4, 42)] }
noncomputable def body : Code := bodyOf Tryd.f42
def c (b0_0 : ByteArray) (b0_1 : Int) (k : Int → ByteArray → Int → Int → Int → Int → ByteArray → Int → Prop) : Prop :=
  (N62.f b0_0 b0_1 (fun (y0_0 : Int) => (N61.f (1 : Int) (ByteArray.mk #[]) (0 : Int) (0 : Int) (0 : Int) y0_0 b0_0 b0_1 (fun (y0_0_1 : Int) (y0_1_1 : ByteArray) (y0_2_1 : Int) (y0_3_1 : Int) (y0_4_1 : Int) (z0_0_1 : ByteArray) (z0_1_1 : Int) => (br (decide (((((y0_1_1).size : Nat) : Int)) > (24 : Int))) (k y0_0_1 y0_1_1 y0_2_1 y0_3_1 y0_4_1 (3 : Int) z0_0_1 z0_1_1) (k y0_0_1 y0_1_1 y0_2_1 y0_3_1 y0_4_1 (0 : Int) z0_0_1 z0_1_1))))))
def f0 (b0_0 : ByteArray) (b0_1 : Int) (k : Int → ByteArray → Int → Int → Int → Int → ByteArray → Int → Prop) : Prop := c b0_0 b0_1 k
theorem f_ex : ∃ g : ByteArray → Int → (Int → ByteArray → Int → Int → Int → Int → ByteArray → Int → Prop) → Prop, g = f0 := ⟨_, rfl⟩
noncomputable def f : ByteArray → Int → (Int → ByteArray → Int → Int → Int → Int → ByteArray → Int → Prop) → Prop := Classical.choose f_ex
theorem f_def : f = f0 := Classical.choose_spec f_ex
noncomputable def JJ (k kp : D → List Blk → Prop) : Nat → St → Prop := pick none' []
noncomputable def LL (k kp : D → List Blk → Prop) : Nat → St → Prop := pick none' []
theorem c_c (k kp : D → List Blk → Prop) (J L : Nat → St → Prop) (b0_0 : ByteArray) (b0_1 : Int) : runC cfg 1000001 J L none'' [] body (topK cfg Tryd.f42 k kp) (st0 Tryd.f42 [(.ptr 0 0)] [(.box 57 [(.v (.string b0_0)), (.v (.int IntKind.i64 b0_1))])]) = c b0_0 b0_1 (fun y0_0 y0_1 y0_2 y0_3 y0_4 y1 z0_0 z0_1 => k (.tup [(.agg [(.v (.int IntKind.i64 y0_0)), (.v (.string y0_1)), (.v (.int IntKind.i64 y0_2)), (.v (.int IntKind.i64 y0_3)), (.v (.int IntKind.i64 y0_4))]), (.v (.int IntKind.i64 y1))]) [(.box 57 [(.v (.string z0_0)), (.v (.int IntKind.i64 z0_1))])]) := by kernel_rfl
theorem c_ag (k kp : D → List Blk → Prop) : agPL cfg 1000001 (JJ k kp) (LL k kp) [] body = agPR cfg 1000001 none'' [] body (topK cfg Tryd.f42 k kp) := by kernel_rfl
theorem body_is : Tryd.f42.body = some body := by kernel_rfl
theorem c_raw (k kp : D → List Blk → Prop) (b0_0 : ByteArray) (b0_1 : Int) : funW cfg Tryd.f42 [(.ptr 0 0)] [(.box 57 [(.v (.string b0_0)), (.v (.int IntKind.i64 b0_1))])] k kp = c b0_0 b0_1 (fun y0_0 y0_1 y0_2 y0_3 y0_4 y1 z0_0 z0_1 => k (.tup [(.agg [(.v (.int IntKind.i64 y0_0)), (.v (.string y0_1)), (.v (.int IntKind.i64 y0_2)), (.v (.int IntKind.i64 y0_3)), (.v (.int IntKind.i64 y0_4))]), (.v (.int IntKind.i64 y1))]) [(.box 57 [(.v (.string z0_0)), (.v (.int IntKind.i64 z0_1))])]) :=
  Eq.mp (by kernel_rfl) ((funW_run (AG := none'') body_is (c_ag k kp) [(.ptr 0 0)] [(.box 57 [(.v (.string b0_0)), (.v (.int IntKind.i64 b0_1))])]).trans (c_c k kp (JJ k kp) (LL k kp) b0_0 b0_1))
theorem f_eq (k kp : D → List Blk → Prop) (b0_0 : ByteArray) (b0_1 : Int) : funW cfg Tryd.f42 [(.ptr 0 0)] [(.box 57 [(.v (.string b0_0)), (.v (.int IntKind.i64 b0_1))])] k kp = f b0_0 b0_1 (fun y0_0 y0_1 y0_2 y0_3 y0_4 y1 z0_0 z0_1 => k (.tup [(.agg [(.v (.int IntKind.i64 y0_0)), (.v (.string y0_1)), (.v (.int IntKind.i64 y0_2)), (.v (.int IntKind.i64 y0_3)), (.v (.int IntKind.i64 y0_4))]), (.v (.int IntKind.i64 y1))]) [(.box 57 [(.v (.string z0_0)), (.v (.int IntKind.i64 z0_1))])]) := by
  rw [f_def, c_raw]; rfl
noncomputable def ent0 : Entry := fun args blks k _ => match args, blks with
  | [d0], [e0] => aPtr 0 0 d0 (aBox 57 e0 fun l => aCons l fun e0_0 l => aCons l fun e0_1 l => aNil l (aStr e0_0 fun b0_0 => aInt IntKind.i64 e0_1 fun b0_1 => f b0_0 b0_1 (fun y0_0 y0_1 y0_2 y0_3 y0_4 y1 z0_0 z0_1 => k (.tup [(.agg [(.v (.int IntKind.i64 y0_0)), (.v (.string y0_1)), (.v (.int IntKind.i64 y0_2)), (.v (.int IntKind.i64 y0_3)), (.v (.int IntKind.i64 y0_4))]), (.v (.int IntKind.i64 y1))]) [(.box 57 [(.v (.string z0_0)), (.v (.int IntKind.i64 z0_1))])])))
  | _, _ => False
noncomputable def ent : Entry := fun args blks k kp => ent0 (convB [.no] args) blks k kp
theorem ok : EntOk Tryd.prog 49 0 42 ent := by
  refine EntOk.convB (EntOk.of (funW_ok (cfg := cfg) (tyOk_of rfl rfl tyL_ok) (eqOk_of (P := Tryd.prog) rfl rfl (by kernel_rfl)) mixed_ok (tab_ok ?_) Tryd.func42 (by rfl) (by rfl)) ?_) _
  · intro p hp
    simp only [List.mem_cons, List.not_mem_nil, or_false] at hp
    rcases hp with rfl | rfl
    · exact N62.ok
    · exact N61.ok
  · intro args blks k kp h k' kp'
    match args, blks, h with
    | [d0], [e0], h =>
    dsimp only [ent0] at h
    have h9 := aPtr_elim h; clear h; obtain ⟨rfl, h⟩ := h9
    have h9 := aBox_elim h; clear h; obtain ⟨_, rfl, h⟩ := h9
    have h9 := aCons_elim h; clear h; obtain ⟨e0_0, _, rfl, h⟩ := h9
    have h9 := aCons_elim h; clear h; obtain ⟨e0_1, _, rfl, h⟩ := h9
    have h9 := aNil_elim h; clear h; obtain ⟨rfl, h⟩ := h9
    have h9 := aStr_elim h; clear h; obtain ⟨b0_0, rfl, h⟩ := h9
    have h9 := aInt_elim h; clear h; obtain ⟨b0_1, rfl, h⟩ := h9
    exact (f_eq k' kp' b0_0 b0_1).symm
end N42
end Go.Proofs.Ye
namespace Go.Proofs.Ye
open Go Go.Aw Go.Proofs
set_option linter.unusedVariables false
set_option linter.unusedSimpArgs false
set_option maxRecDepth 100000
/-! (*dyehouse/lex.reader).id -/
namespace N63
noncomputable def cfg : Cfg := { P := Tryd.prog, tf := 49, tw := 0, ty := tys, E := tab [(60, N60.ent), (61, N61.ent)], atSeq := tab [(2000003, ⟨[(0, .keep), (1, .keep), (3, .keep), (8, .keep), (10, .keep), (11, .keep), (12, .keep), (29, .keep)]⟩), (4, ⟨[(0, .keep), (1, .keep), (3, .keep), (8, .keep), (10, .keep), (11, .keep), (12, .keep)]⟩)], atLoop := tab [], outs := [], eqT := tab [], bT := tab [] }
noncomputable def body : Code := bodyOf Tryd.f63
def j2000003 (j4 : Int → Int → Int → Int → Int → ByteArray → Int → Int → ByteArray → Int → Int → Int → Prop) (x1 : Int) (x3 : Int) (x10 : Int) (x11 : Int) (x12 : Int) (x29 : Bool) (b0_0 : ByteArray) (b0_1 : Int) (b1_0 : Int) (b1_1 : ByteArray) (b1_2 : Int) (b1_3 : Int) (b1_4 : Int) (k : Int → ByteArray → Int → Int → Int → Int → ByteArray → Int → Prop) : Prop :=
  (br x29 (j4 x1 x3 x10 x11 (2 : Int) b0_0 b0_1 b1_0 b1_1 b1_2 b1_3 b1_4) (j4 x1 x3 x10 x11 x12 b0_0 b0_1 b1_0 b1_1 b1_2 b1_3 b1_4))
def j4 (x1 : Int) (x3 : Int) (x10 : Int) (x11 : Int) (x12 : Int) (b0_0 : ByteArray) (b0_1 : Int) (b1_0 : Int) (b1_1 : ByteArray) (b1_2 : Int) (b1_3 : Int) (b1_4 : Int) (k : Int → ByteArray → Int → Int → Int → Int → ByteArray → Int → Prop) : Prop :=
  (N61.f x1 (ByteArray.mk #[]) x10 x3 (0 : Int) x11 b0_0 b0_1 (fun (y0_0_1 : Int) (y0_1_1 : ByteArray) (y0_2_1 : Int) (y0_3_1 : Int) (y0_4_1 : Int) (z0_0_1 : ByteArray) (z0_1_1 : Int) => (k y0_0_1 y0_1_1 y0_2_1 y0_3_1 y0_4_1 x12 z0_0_1 z0_1_1)))
def c (j2000003 : Int → Int → Int → Int → Int → Bool → ByteArray → Int → Int → ByteArray → Int → Int → Int → Prop) (x1 : Int) (x2 : Int) (x3 : Int) (b0_0 : ByteArray) (b0_1 : Int) (k : Int → ByteArray → Int → Int → Int → Int → ByteArray → Int → Prop) : Prop :=
  (N60.f x2 b0_0 b0_1 (fun (y0_0 : Int) (y1_0 : Int) (y2_0 : Int) (z0_0_0 : ByteArray) (z0_1_0 : Int) => (br (y2_0 == (0 : Int)) (br (decide (y0_0 < (0 : Int))) (j2000003 x1 x3 y0_0 y1_0 y2_0 true z0_0_0 z0_1_0 (0 : Int) (ByteArray.mk #[]) (0 : Int) (0 : Int) (0 : Int)) (j2000003 x1 x3 y0_0 y1_0 y2_0 (decide (y0_0 > (2147483647 : Int))) z0_0_0 z0_1_0 (0 : Int) (ByteArray.mk #[]) (0 : Int) (0 : Int) (0 : Int))) (j2000003 x1 x3 y0_0 y1_0 y2_0 false z0_0_0 z0_1_0 (0 : Int) (ByteArray.mk #[]) (0 : Int) (0 : Int) (0 : Int)))))
def j4' (x1 : Int) (x3 : Int) (x10 : Int) (x11 : Int) (x12 : Int) (b0_0 : ByteArray) (b0_1 : Int) (b1_0 : Int) (b1_1 : ByteArray) (b1_2 : Int) (b1_3 : Int) (b1_4 : Int) (k : Int → ByteArray → Int → Int → Int → Int → ByteArray → Int → Prop) : Prop := j4 x1 x3 x10 x11 x12 b0_0 b0_1 b1_0 b1_1 b1_2 b1_3 b1_4 k
def j2000003' (x1 : Int) (x3 : Int) (x10 : Int) (x11 : Int) (x12 : Int) (x29 : Bool) (b0_0 : ByteArray) (b0_1 : Int) (b1_0 : Int) (b1_1 : ByteArray) (b1_2 : Int) (b1_3 : Int) (b1_4 : Int) (k : Int → ByteArray → Int → Int → Int → Int → ByteArray → Int → Prop) : Prop := j2000003 (fun x1 x3 x10 x11 x12 b0_0 b0_1 b1_0 b1_1 b1_2 b1_3 b1_4 => j4' x1 x3 x10 x11 x12 b0_0 b0_1 b1_0 b1_1 b1_2 b1_3 b1_4 k) x1 x3 x10 x11 x12 x29 b0_0 b0_1 b1_0 b1_1 b1_2 b1_3 b1_4 k
def f0 (x1 : Int) (x2 : Int) (x3 : Int) (b0_0 : ByteArray) (b0_1 : Int) (k : Int → ByteArray → Int → Int → Int → Int → ByteArray → Int → Prop) : Prop := c (fun x1 x3 x10 x11 x12 x29 b0_0 b0_1 b1_0 b1_1 b1_2 b1_3 b1_4 => j2000003' x1 x3 x10 x11 x12 x29 b0_0 b0_1 b1_0 b1_1 b1_2 b1_3 b1_4 k) x1 x2 x3 b0_0 b0_1 k
theorem f_ex : ∃ g : Int → Int → Int → ByteArray → Int → (Int → ByteArray → Int → Int → Int → Int → ByteArray → Int → Prop) → Prop, g = f0 := ⟨_, rfl⟩
noncomputable def f : Int → Int → Int → ByteArray → Int → (Int → ByteArray → Int → Int → Int → Int → ByteArray → Int → Prop) → Prop := Classical.choose f_ex
theorem f_def : f = f0 := Classical.choose_spec f_ex
def m2000003 (x1 : Int) (x3 : Int) (x10 : Int) (x11 : Int) (x12 : Int) (x29 : Bool) (b0_0 : ByteArray) (b0_1 : Int) (b1_0 : Int) (b1_1 : ByteArray) (b1_2 : Int) (b1_3 : Int) (b1_4 : Int) : St := { tmps := mkT 38 0 [(0, (.ptr 0 0)), (1, (.v (.int IntKind.i64 x1))), (3, (.v (.int IntKind.i64 x3))), (8, (.ptr 1 0)), (10, (.v (.int IntKind.i64 x10))), (11, (.v (.int IntKind.i64 x11))), (12, (.v (.int IntKind.i64 x12))), (29, (.v (.bool x29)))], hp := [(.box 57 [(.v (.string b0_0)), (.v (.int IntKind.i64 b0_1))]), (.box 42 [(.v (.int IntKind.i64 b1_0)), (.v (.string b1_1)), (.v (.int IntKind.i64 b1_2)), (.v (.int IntKind.i64 b1_3)), (.v (.int IntKind.i64 b1_4))])], m := 1 }
def m4 (x1 : Int) (x3 : Int) (x10 : Int) (x11 : Int) (x12 : Int) (b0_0 : ByteArray) (b0_1 : Int) (b1_0 : Int) (b1_1 : ByteArray) (b1_2 : Int) (b1_3 : Int) (b1_4 : Int) : St := { tmps := mkT 38 0 [(0, (.ptr 0 0)), (1, (.v (.int IntKind.i64 x1))), (3, (.v (.int IntKind.i64 x3))), (8, (.ptr 1 0)), (10, (.v (.int IntKind.i64 x10))), (11, (.v (.int IntKind.i64 x11))), (12, (.v (.int IntKind.i64 x12)))], hp := [(.box 57 [(.v (.string b0_0)), (.v (.int IntKind.i64 b0_1))]), (.box 42 [(.v (.int IntKind.i64 b1_0)), (.v (.string b1_1)), (.v (.int IntKind.i64 b1_2)), (.v (.int IntKind.i64 b1_3)), (.v (.int IntKind.i64 b1_4))])], m := 1 }
noncomputable def X2000003 (k kp : D → List Blk → Prop) : St → Prop := atP cfg (pick none' []) [1, 1, 0, 1] body (topK cfg Tryd.f63 k kp)
noncomputable def X4 (k kp : D → List Blk → Prop) : St → Prop := atP cfg (pick none' []) [1, 1, 1] body (topK cfg Tryd.f63 k kp)
noncomputable def JJ (k kp : D → List Blk → Prop) : Nat → St → Prop := pick none' [(2000003, X2000003 k kp), (4, X4 k kp)]
noncomputable def LL (k kp : D → List Blk → Prop) : Nat → St → Prop := pick none' []
theorem j4_c (k kp : D → List Blk → Prop) (J L : Nat → St → Prop) (x1 : Int) (x3 : Int) (x10 : Int) (x11 : Int) (x12 : Int) (b0_0 : ByteArray) (b0_1 : Int) (b1_0 : Int) (b1_1 : ByteArray) (b1_2 : Int) (b1_3 : Int) (b1_4 : Int) : runC cfg 4 J L (pick none' []) [1, 1, 1] body (topK cfg Tryd.f63 k kp) (m4 x1 x3 x10 x11 x12 b0_0 b0_1 b1_0 b1_1 b1_2 b1_3 b1_4) = j4 x1 x3 x10 x11 x12 b0_0 b0_1 b1_0 b1_1 b1_2 b1_3 b1_4 (fun y0_0 y0_1 y0_2 y0_3 y0_4 y1 z0_0 z0_1 => k (.tup [(.agg [(.v (.int IntKind.i64 y0_0)), (.v (.string y0_1)), (.v (.int IntKind.i64 y0_2)), (.v (.int IntKind.i64 y0_3)), (.v (.int IntKind.i64 y0_4))]), (.v (.int IntKind.i64 y1))]) [(.box 57 [(.v (.string z0_0)), (.v (.int IntKind.i64 z0_1))])]) := by kernel_rfl
theorem j4_ag (k kp : D → List Blk → Prop) : agPL cfg 4 (JJ k kp) (LL k kp) [1, 1, 1] body = agPR cfg 4 (pick none' []) [1, 1, 1] body (topK cfg Tryd.f63 k kp) := by kernel_rfl
theorem j4_raw (k kp : D → List Blk → Prop) (x1 : Int) (x3 : Int) (x10 : Int) (x11 : Int) (x12 : Int) (b0_0 : ByteArray) (b0_1 : Int) (b1_0 : Int) (b1_1 : ByteArray) (b1_2 : Int) (b1_3 : Int) (b1_4 : Int) : X4 k kp (m4 x1 x3 x10 x11 x12 b0_0 b0_1 b1_0 b1_1 b1_2 b1_3 b1_4) = j4 x1 x3 x10 x11 x12 b0_0 b0_1 b1_0 b1_1 b1_2 b1_3 b1_4 (fun y0_0 y0_1 y0_2 y0_3 y0_4 y1 z0_0 z0_1 => k (.tup [(.agg [(.v (.int IntKind.i64 y0_0)), (.v (.string y0_1)), (.v (.int IntKind.i64 y0_2)), (.v (.int IntKind.i64 y0_3)), (.v (.int IntKind.i64 y0_4))]), (.v (.int IntKind.i64 y1))]) [(.box 57 [(.v (.string z0_0)), (.v (.int IntKind.i64 z0_1))])]) :=
  Eq.mp (by kernel_rfl) ((atP_run (j4_ag k kp) (m4 x1 x3 x10 x11 x12 b0_0 b0_1 b1_0 b1_1 b1_2 b1_3 b1_4)).trans (j4_c k kp (JJ k kp) (LL k kp) x1 x3 x10 x11 x12 b0_0 b0_1 b1_0 b1_1 b1_2 b1_3 b1_4))
theorem j4_eq (k kp : D → List Blk → Prop) (x1 : Int) (x3 : Int) (x10 : Int) (x11 : Int) (x12 : Int) (b0_0 : ByteArray) (b0_1 : Int) (b1_0 : Int) (b1_1 : ByteArray) (b1_2 : Int) (b1_3 : Int) (b1_4 : Int) : X4 k kp (m4 x1 x3 x10 x11 x12 b0_0 b0_1 b1_0 b1_1 b1_2 b1_3 b1_4) = j4' x1 x3 x10 x11 x12 b0_0 b0_1 b1_0 b1_1 b1_2 b1_3 b1_4 (fun y0_0 y0_1 y0_2 y0_3 y0_4 y1 z0_0 z0_1 => k (.tup [(.agg [(.v (.int IntKind.i64 y0_0)), (.v (.string y0_1)), (.v (.int IntKind.i64 y0_2)), (.v (.int IntKind.i64 y0_3)), (.v (.int IntKind.i64 y0_4))]), (.v (.int IntKind.i64 y1))]) [(.box 57 [(.v (.string z0_0)), (.v (.int IntKind.i64 z0_1))])]) := by
  rw [j4_raw]; rfl
theorem j2000003_c (k kp : D → List Blk → Prop) (J L : Nat → St → Prop) (x1 : Int) (x3 : Int) (x10 : Int) (x11 : Int) (x12 : Int) (x29 : Bool) (b0_0 : ByteArray) (b0_1 : Int) (b1_0 : Int) (b1_1 : ByteArray) (b1_2 : Int) (b1_3 : Int) (b1_4 : Int) : runC cfg 2000003 J L (pick none' []) [1, 1, 0, 1] body (topK cfg Tryd.f63 k kp) (m2000003 x1 x3 x10 x11 x12 x29 b0_0 b0_1 b1_0 b1_1 b1_2 b1_3 b1_4) = j2000003 (fun x1 x3 x10 x11 x12 b0_0 b0_1 b1_0 b1_1 b1_2 b1_3 b1_4 => J 4 (m4 x1 x3 x10 x11 x12 b0_0 b0_1 b1_0 b1_1 b1_2 b1_3 b1_4)) x1 x3 x10 x11 x12 x29 b0_0 b0_1 b1_0 b1_1 b1_2 b1_3 b1_4 (fun y0_0 y0_1 y0_2 y0_3 y0_4 y1 z0_0 z0_1 => k (.tup [(.agg [(.v (.int IntKind.i64 y0_0)), (.v (.string y0_1)), (.v (.int IntKind.i64 y0_2)), (.v (.int IntKind.i64 y0_3)), (.v (.int IntKind.i64 y0_4))]), (.v (.int IntKind.i64 y1))]) [(.box 57 [(.v (.string z0_0)), (.v (.int IntKind.i64 z0_1))])]) := by kernel_rfl
theorem j2000003_ag (k kp : D → List Blk → Prop) : agPL cfg 2000003 (JJ k kp) (LL k kp) [1, 1, 0, 1] body = agPR cfg 2000003 (pick none' []) [1, 1, 0, 1] body (topK cfg Tryd.f63 k kp) := by kernel_rfl
theorem j2000003_raw (k kp : D → List Blk → Prop) (x1 : Int) (x3 : Int) (x10 : Int) (x11 : Int) (x12 : Int) (x29 : Bool) (b0_0 : ByteArray) (b0_1 : Int) (b1_0 : Int) (b1_1 : ByteArray) (b1_2 : Int) (b1_3 : Int) (b1_4 : Int) : X2000003 k kp (m2000003 x1 x3 x10 x11 x12 x29 b0_0 b0_1 b1_0 b1_1 b1_2 b1_3 b1_4) = j2000003 (fun x1 x3 x10 x11 x12 b0_0 b0_1 b1_0 b1_1 b1_2 b1_3 b1_4 => X4 k kp (m4 x1 x3 x10 x11 x12 b0_0 b0_1 b1_0 b1_1 b1_2 b1_3 b1_4)) x1 x3 x10 x11 x12 x29 b0_0 b0_1 b1_0 b1_1 b1_2 b1_3 b1_4 (fun y0_0 y0_1 y0_2 y0_3 y0_4 y1 z0_0 z0_1 => k (.tup [(.agg [(.v (.int IntKind.i64 y0_0)), (.v (.string y0_1)), (.v (.int IntKind.i64 y0_2)), (.v (.int IntKind.i64 y0_3)), (.v (.int IntKind.i64 y0_4))]), (.v (.int IntKind.i64 y1))]) [(.box 57 [(.v (.string z0_0)), (.v (.int IntKind.i64 z0_1))])]) :=
  Eq.mp (by kernel_rfl) ((atP_run (j2000003_ag k kp) (m2000003 x1 x3 x10 x11 x12 x29 b0_0 b0_1 b1_0 b1_1 b1_2 b1_3 b1_4)).trans (j2000003_c k kp (JJ k kp) (LL k kp) x1 x3 x10 x11 x12 x29 b0_0 b0_1 b1_0 b1_1 b1_2 b1_3 b1_4))
theorem j2000003_eq (k kp : D → List Blk → Prop) (x1 : Int) (x3 : Int) (x10 : Int) (x11 : Int) (x12 : Int) (x29 : Bool) (b0_0 : ByteArray) (b0_1 : Int) (b1_0 : Int) (b1_1 : ByteArray) (b1_2 : Int) (b1_3 : Int) (b1_4 : Int) : X2000003 k kp (m2000003 x1 x3 x10 x11 x12 x29 b0_0 b0_1 b1_0 b1_1 b1_2 b1_3 b1_4) = j2000003' x1 x3 x10 x11 x12 x29 b0_0 b0_1 b1_0 b1_1 b1_2 b1_3 b1_4 (fun y0_0 y0_1 y0_2 y0_3 y0_4 y1 z0_0 z0_1 => k (.tup [(.agg [(.v (.int IntKind.i64 y0_0)), (.v (.string y0_1)), (.v (.int IntKind.i64 y0_2)), (.v (.int IntKind.i64 y0_3)), (.v (.int IntKind.i64 y0_4))]), (.v (.int IntKind.i64 y1))]) [(.box 57 [(.v (.string z0_0)), (.v (.int IntKind.i64 z0_1))])]) := by
  rw [j2000003_raw]; simp only [j4_eq]; first | done | rfl
theorem c_c (k kp : D → List Blk → Prop) (J L : Nat → St → Prop) (x1 : Int) (x2 : Int) (x3 : Int) (b0_0 : ByteArray) (b0_1 : Int) : runC cfg 1000001 J L none'' [] body (topK cfg Tryd.f63 k kp) (st0 Tryd.f63 [(.ptr 0 0), (.v (.int IntKind.i64 x1)), (.v (.int IntKind.i64 x2)), (.v (.int IntKind.i64 x3))] [(.box 57 [(.v (.string b0_0)), (.v (.int IntKind.i64 b0_1))])]) = c (fun x1 x3 x10 x11 x12 x29 b0_0 b0_1 b1_0 b1_1 b1_2 b1_3 b1_4 => J 2000003 (m2000003 x1 x3 x10 x11 x12 x29 b0_0 b0_1 b1_0 b1_1 b1_2 b1_3 b1_4)) x1 x2 x3 b0_0 b0_1 (fun y0_0 y0_1 y0_2 y0_3 y0_4 y1 z0_0 z0_1 => k (.tup [(.agg [(.v (.int IntKind.i64 y0_0)), (.v (.string y0_1)), (.v (.int IntKind.i64 y0_2)), (.v (.int IntKind.i64 y0_3)), (.v (.int IntKind.i64 y0_4))]), (.v (.int IntKind.i64 y1))]) [(.box 57 [(.v (.string z0_0)), (.v (.int IntKind.i64 z0_1))])]) := by kernel_rfl
theorem c_ag (k kp : D → List Blk → Prop) : agPL cfg 1000001 (JJ k kp) (LL k kp) [] body = agPR cfg 1000001 none'' [] body (topK cfg Tryd.f63 k kp) := by kernel_rfl
theorem body_is : Tryd.f63.body = some body := by kernel_rfl
theorem c_raw (k kp : D → List Blk → Prop) (x1 : Int) (x2 : Int) (x3 : Int) (b0_0 : ByteArray) (b0_1 : Int) : funW cfg Tryd.f63 [(.ptr 0 0), (.v (.int IntKind.i64 x1)), (.v (.int IntKind.i64 x2)), (.v (.int IntKind.i64 x3))] [(.box 57 [(.v (.string b0_0)), (.v (.int IntKind.i64 b0_1))])] k kp = c (fun x1 x3 x10 x11 x12 x29 b0_0 b0_1 b1_0 b1_1 b1_2 b1_3 b1_4 => X2000003 k kp (m2000003 x1 x3 x10 x11 x12 x29 b0_0 b0_1 b1_0 b1_1 b1_2 b1_3 b1_4)) x1 x2 x3 b0_0 b0_1 (fun y0_0 y0_1 y0_2 y0_3 y0_4 y1 z0_0 z0_1 => k (.tup [(.agg [(.v (.int IntKind.i64 y0_0)), (.v (.string y0_1)), (.v (.int IntKind.i64 y0_2)), (.v (.int IntKind.i64 y0_3)), (.v (.int IntKind.i64 y0_4))]), (.v (.int IntKind.i64 y1))]) [(.box 57 [(.v (.string z0_0)), (.v (.int IntKind.i64 z0_1))])]) :=
  Eq.mp (by kernel_rfl) ((funW_run (AG := none'') body_is (c_ag k kp) [(.ptr 0 0), (.v (.int IntKind.i64 x1)), (.v (.int IntKind.i64 x2)), (.v (.int IntKind.i64 x3))] [(.box 57 [(.v (.string b0_0)), (.v (.int IntKind.i64 b0_1))])]).trans (c_c k kp (JJ k kp) (LL k kp) x1 x2 x3 b0_0 b0_1))
theorem f_eq (k kp : D → List Blk → Prop) (x1 : Int) (x2 : Int) (x3 : Int) (b0_0 : ByteArray) (b0_1 : Int) : funW cfg Tryd.f63 [(.ptr 0 0), (.v (.int IntKind.i64 x1)), (.v (.int IntKind.i64 x2)), (.v (.int IntKind.i64 x3))] [(.box 57 [(.v (.string b0_0)), (.v (.int IntKind.i64 b0_1))])] k kp = f x1 x2 x3 b0_0 b0_1 (fun y0_0 y0_1 y0_2 y0_3 y0_4 y1 z0_0 z0_1 => k (.tup [(.agg [(.v (.int IntKind.i64 y0_0)), (.v (.string y0_1)), (.v (.int IntKind.i64 y0_2)), (.v (.int IntKind.i64 y0_3)), (.v (.int IntKind.i64 y0_4))]), (.v (.int IntKind.i64 y1))]) [(.box 57 [(.v (.string z0_0)), (.v (.int IntKind.i64 z0_1))])]) := by
  rw [f_def, c_raw]; simp only [j2000003_eq]; first | done | rfl
noncomputable def ent0 : Entry := fun args blks k _ => match args, blks with
  | [d0, d1, d2, d3], [e0] => aPtr 0 0 d0 (aInt IntKind.i64 d1 fun x1 => aInt IntKind.i64 d2 fun x2 => aInt IntKind.i64 d3 fun x3 => aBox 57 e0 fun l => aCons l fun e0_0 l => aCons l fun e0_1 l => aNil l (aStr e0_0 fun b0_0 => aInt IntKind.i64 e0_1 fun b0_1 => f x1 x2 x3 b0_0 b0_1 (fun y0_0 y0_1 y0_2 y0_3 y0_4 y1 z0_0 z0_1 => k (.tup [(.agg [(.v (.int IntKind.i64 y0_0)), (.v (.string y0_1)), (.v (.int IntKind.i64 y0_2)), (.v (.int IntKind.i64 y0_3)), (.v (.int IntKind.i64 y0_4))]), (.v (.int IntKind.i64 y1))]) [(.box 57 [(.v (.string z0_0)), (.v (.int IntKind.i64 z0_1))])])))
  | _, _ => False
noncomputable def ent : Entry := fun args blks k kp => ent0 (convB [.no, .no, .no, .no] args) blks k kp
theorem ok : EntOk Tryd.prog 49 0 63 ent := by
  refine EntOk.convB (EntOk.of (funW_ok (cfg := cfg) (tyOk_of rfl rfl tyL_ok) (eqOk_of (P := Tryd.prog) rfl rfl (by kernel_rfl)) mixed_ok (tab_ok ?_) Tryd.func63 (by rfl) (by rfl)) ?_) _
  · intro p hp
    simp only [List.mem_cons, List.not_mem_nil, or_false] at hp
    rcases hp with rfl | rfl
    · exact N60.ok
    · exact N61.ok
  · intro args blks k kp h k' kp'
    match args, blks, h with
    | [d0, d1, d2, d3], [e0], h =>
    dsimp only [ent0] at h
    have h9 := aPtr_elim h; clear h; obtain ⟨rfl, h⟩ := h9
    have h9 := aInt_elim h; clear h; obtain ⟨x1, rfl, h⟩ := h9
    have h9 := aInt_elim h; clear h; obtain ⟨x2, rfl, h⟩ := h9
    have h9 := aInt_elim h; clear h; obtain ⟨x3, rfl, h⟩ := h9
    have h9 := aBox_elim h; clear h; obtain ⟨_, rfl, h⟩ := h9
    have h9 := aCons_elim h; clear h; obtain ⟨e0_0, _, rfl, h⟩ := h9
    have h9 := aCons_elim h; clear h; obtain ⟨e0_1, _, rfl, h⟩ := h9
    have h9 := aNil_elim h; clear h; obtain ⟨rfl, h⟩ := h9
    have h9 := aStr_elim h; clear h; obtain ⟨b0_0, rfl, h⟩ := h9
    have h9 := aInt_elim h; clear h; obtain ⟨b0_1, rfl, h⟩ := h9
    exact (f_eq k' kp' x1 x2 x3 b0_0 b0_1).symm
end N63
end Go.Proofs.Ye
namespace Go.Proofs.Ye
open Go Go.Aw Go.Proofs
set_option linter.unusedVariables false
set_option linter.unusedSimpArgs false
set_option maxRecDepth 100000
/-! (*dyehouse/lex.reader).vreg -/
namespace N43
noncomputable def cfg : Cfg := { P := Tryd.prog, tf := 49, tw := 0, ty := tys, E := tab [(63, N63.ent)], atSeq := tab [], atLoop := tab [], outs := [], eqT := tab [], bT := tab [] }
noncomputable def body : Code := bodyOf Tryd.f43
def c (b0_0 : ByteArray) (b0_1 : Int) (k : Int → ByteArray → Int → Int → Int → Int → ByteArray → Int → Prop) : Prop :=
  (N63.f (4 : Int) (1 : Int) (0 : Int) b0_0 b0_1 (fun (y0_0_0 : Int) (y0_1_0 : ByteArray) (y0_2_0 : Int) (y0_3_0 : Int) (y0_4_0 : Int) (y1_0 : Int) (z0_0_0 : ByteArray) (z0_1_0 : Int) => (k y0_0_0 y0_1_0 y0_2_0 y0_3_0 y0_4_0 y1_0 z0_0_0 z0_1_0)))
def f0 (b0_0 : ByteArray) (b0_1 : Int) (k : Int → ByteArray → Int → Int → Int → Int → ByteArray → Int → Prop) : Prop := c b0_0 b0_1 k
theorem f_ex : ∃ g : ByteArray → Int → (Int → ByteArray → Int → Int → Int → Int → ByteArray → Int → Prop) → Prop, g = f0 := ⟨_, rfl⟩
noncomputable def f : ByteArray → Int → (Int → ByteArray → Int → Int → Int → Int → ByteArray → Int → Prop) → Prop := Classical.choose f_ex
theorem f_def : f = f0 := Classical.choose_spec f_ex
noncomputable def JJ (k kp : D → List Blk → Prop) : Nat → St → Prop := pick none' []
noncomputable def LL (k kp : D → List Blk → Prop) : Nat → St → Prop := pick none' []
theorem c_c (k kp : D → List Blk → Prop) (J L : Nat → St → Prop) (b0_0 : ByteArray) (b0_1 : Int) : runC cfg 1000001 J L none'' [] body (topK cfg Tryd.f43 k kp) (st0 Tryd.f43 [(.ptr 0 0)] [(.box 57 [(.v (.string b0_0)), (.v (.int IntKind.i64 b0_1))])]) = c b0_0 b0_1 (fun y0_0 y0_1 y0_2 y0_3 y0_4 y1 z0_0 z0_1 => k (.tup [(.agg [(.v (.int IntKind.i64 y0_0)), (.v (.string y0_1)), (.v (.int IntKind.i64 y0_2)), (.v (.int IntKind.i64 y0_3)), (.v (.int IntKind.i64 y0_4))]), (.v (.int IntKind.i64 y1))]) [(.box 57 [(.v (.string z0_0)), (.v (.int IntKind.i64 z0_1))])]) := by kernel_rfl
theorem c_ag (k kp : D → List Blk → Prop) : agPL cfg 1000001 (JJ k kp) (LL k kp) [] body = agPR cfg 1000001 none'' [] body (topK cfg Tryd.f43 k kp) := by kernel_rfl
theorem body_is : Tryd.f43.body = some body := by kernel_rfl
theorem c_raw (k kp : D → List Blk → Prop) (b0_0 : ByteArray) (b0_1 : Int) : funW cfg Tryd.f43 [(.ptr 0 0)] [(.box 57 [(.v (.string b0_0)), (.v (.int IntKind.i64 b0_1))])] k kp = c b0_0 b0_1 (fun y0_0 y0_1 y0_2 y0_3 y0_4 y1 z0_0 z0_1 => k (.tup [(.agg [(.v (.int IntKind.i64 y0_0)), (.v (.string y0_1)), (.v (.int IntKind.i64 y0_2)), (.v (.int IntKind.i64 y0_3)), (.v (.int IntKind.i64 y0_4))]), (.v (.int IntKind.i64 y1))]) [(.box 57 [(.v (.string z0_0)), (.v (.int IntKind.i64 z0_1))])]) :=
  Eq.mp (by kernel_rfl) ((funW_run (AG := none'') body_is (c_ag k kp) [(.ptr 0 0)] [(.box 57 [(.v (.string b0_0)), (.v (.int IntKind.i64 b0_1))])]).trans (c_c k kp (JJ k kp) (LL k kp) b0_0 b0_1))
theorem f_eq (k kp : D → List Blk → Prop) (b0_0 : ByteArray) (b0_1 : Int) : funW cfg Tryd.f43 [(.ptr 0 0)] [(.box 57 [(.v (.string b0_0)), (.v (.int IntKind.i64 b0_1))])] k kp = f b0_0 b0_1 (fun y0_0 y0_1 y0_2 y0_3 y0_4 y1 z0_0 z0_1 => k (.tup [(.agg [(.v (.int IntKind.i64 y0_0)), (.v (.string y0_1)), (.v (.int IntKind.i64 y0_2)), (.v (.int IntKind.i64 y0_3)), (.v (.int IntKind.i64 y0_4))]), (.v (.int IntKind.i64 y1))]) [(.box 57 [(.v (.string z0_0)), (.v (.int IntKind.i64 z0_1))])]) := by
  rw [f_def, c_raw]; rfl
noncomputable def ent0 : Entry := fun args blks k _ => match args, blks with
  | [d0], [e0] => aPtr 0 0 d0 (aBox 57 e0 fun l => aCons l fun e0_0 l => aCons l fun e0_1 l => aNil l (aStr e0_0 fun b0_0 => aInt IntKind.i64 e0_1 fun b0_1 => f b0_0 b0_1 (fun y0_0 y0_1 y0_2 y0_3 y0_4 y1 z0_0 z0_1 => k (.tup [(.agg [(.v (.int IntKind.i64 y0_0)), (.v (.string y0_1)), (.v (.int IntKind.i64 y0_2)), (.v (.int IntKind.i64 y0_3)), (.v (.int IntKind.i64 y0_4))]), (.v (.int IntKind.i64 y1))]) [(.box 57 [(.v (.string z0_0)), (.v (.int IntKind.i64 z0_1))])])))
  | _, _ => False
noncomputable def ent : Entry := fun args blks k kp => ent0 (convB [.no] args) blks k kp
theorem ok : EntOk Tryd.prog 49 0 43 ent := by
  refine EntOk.convB (EntOk.of (funW_ok (cfg := cfg) (tyOk_of rfl rfl tyL_ok) (eqOk_of (P := Tryd.prog) rfl rfl (by kernel_rfl)) mixed_ok (tab_ok ?_) Tryd.func43 (by rfl) (by rfl)) ?_) _
  · intro p hp
    simp only [List.mem_cons, List.not_mem_nil, or_false] at hp
    rcases hp with rfl
    · exact N63.ok
  · intro args blks k kp h k' kp'
    match args, blks, h with
    | [d0], [e0], h =>
    dsimp only [ent0] at h
    have h9 := aPtr_elim h; clear h; obtain ⟨rfl, h⟩ := h9
    have h9 := aBox_elim h; clear h; obtain ⟨_, rfl, h⟩ := h9
    have h9 := aCons_elim h; clear h; obtain ⟨e0_0, _, rfl, h⟩ := h9
    have h9 := aCons_elim h; clear h; obtain ⟨e0_1, _, rfl, h⟩ := h9
    have h9 := aNil_elim h; clear h; obtain ⟨rfl, h⟩ := h9
    have h9 := aStr_elim h; clear h; obtain ⟨b0_0, rfl, h⟩ := h9
    have h9 := aInt_elim h; clear h; obtain ⟨b0_1, rfl, h⟩ := h9
    exact (f_eq k' kp' b0_0 b0_1).symm
end N43
end Go.Proofs.Ye
namespace Go.Proofs.Ye
open Go Go.Aw Go.Proofs
set_option linter.unusedVariables false
set_option linter.unusedSimpArgs false
set_option maxRecDepth 100000
/-! (*dyehouse/lex.reader).preg -/
namespace N44
noncomputable def cfg : Cfg := { P := Tryd.prog, tf := 49, tw := 0, ty := tys, E := tab [(64, N64.ent), (63, N63.ent)], atSeq := tab [], atLoop := tab [], outs := [], eqT := tab [], bT := tab [] }
noncomputable def body : Code := bodyOf Tryd.f44
def c (b0_0 : ByteArray) (b0_1 : Int) (k : Int → ByteArray → Int → Int → Int → Int → ByteArray → Int → Prop) : Prop :=
  (N64.f (1 : Int) b0_0 b0_1 (fun (y0_0 : Int) (z0_0_0 : ByteArray) (z0_1_0 : Int) => (br (y0_0 == (103 : Int)) (N63.f (5 : Int) (2 : Int) (0 : Int) z0_0_0 z0_1_0 (fun (y0_0_1 : Int) (y0_1_1 : ByteArray) (y0_2_1 : Int) (y0_3_1 : Int) (y0_4_1 : Int) (y1_1 : Int) (z0_0_1 : ByteArray) (z0_1_1 : Int) => (k y0_0_1 y0_1_1 y0_2_1 y0_3_1 y0_4_1 y1_1 z0_0_1 z0_1_1))) (br (y0_0 == (120 : Int)) (N63.f (5 : Int) (2 : Int) (1 : Int) z0_0_0 z0_1_0 (fun (y0_0_2 : Int) (y0_1_2 : ByteArray) (y0_2_2 : Int) (y0_3_2 : Int) (y0_4_2 : Int) (y1_2 : Int) (z0_0_2 : ByteArray) (z0_1_2 : Int) => (k y0_0_2 y0_1_2 y0_2_2 y0_3_2 y0_4_2 y1_2 z0_0_2 z0_1_2))) (k (0 : Int) (ByteArray.mk #[]) (0 : Int) (0 : Int) (0 : Int) (12 : Int) z0_0_0 z0_1_0)))))
def f0 (b0_0 : ByteArray) (b0_1 : Int) (k : Int → ByteArray → Int → Int → Int → Int → ByteArray → Int → Prop) : Prop := c b0_0 b0_1 k
theorem f_ex : ∃ g : ByteArray → Int → (Int → ByteArray → Int → Int → Int → Int → ByteArray → Int → Prop) → Prop, g = f0 := ⟨_, rfl⟩
noncomputable def f : ByteArray → Int → (Int → ByteArray → Int → Int → Int → Int → ByteArray → Int → Prop) → Prop := Classical.choose f_ex
theorem f_def : f = f0 := Classical.choose_spec f_ex
noncomputable def JJ (k kp : D → List Blk → Prop) : Nat → St → Prop := pick none' []
noncomputable def LL (k kp : D → List Blk → Prop) : Nat → St → Prop := pick none' []
theorem c_c (k kp : D → List Blk → Prop) (J L : Nat → St → Prop) (b0_0 : ByteArray) (b0_1 : Int) : runC cfg 1000001 J L none'' [] body (topK cfg Tryd.f44 k kp) (st0 Tryd.f44 [(.ptr 0 0)] [(.box 57 [(.v (.string b0_0)), (.v (.int IntKind.i64 b0_1))])]) = c b0_0 b0_1 (fun y0_0 y0_1 y0_2 y0_3 y0_4 y1 z0_0 z0_1 => k (.tup [(.agg [(.v (.int IntKind.i64 y0_0)), (.v (.string y0_1)), (.v (.int IntKind.i64 y0_2)), (.v (.int IntKind.i64 y0_3)), (.v (.int IntKind.i64 y0_4))]), (.v (.int IntKind.i64 y1))]) [(.box 57 [(.v (.string z0_0)), (.v (.int IntKind.i64 z0_1))])]) := by kernel_rfl
theorem c_ag (k kp : D → List Blk → Prop) : agPL cfg 1000001 (JJ k kp) (LL k kp) [] body = agPR cfg 1000001 none'' [] body (topK cfg Tryd.f44 k kp) := by kernel_rfl
theorem body_is : Tryd.f44.body = some body := by kernel_rfl
theorem c_raw (k kp : D → List Blk → Prop) (b0_0 : ByteArray) (b0_1 : Int) : funW cfg Tryd.f44 [(.ptr 0 0)] [(.box 57 [(.v (.string b0_0)), (.v (.int IntKind.i64 b0_1))])] k kp = c b0_0 b0_1 (fun y0_0 y0_1 y0_2 y0_3 y0_4 y1 z0_0 z0_1 => k (.tup [(.agg [(.v (.int IntKind.i64 y0_0)), (.v (.string y0_1)), (.v (.int IntKind.i64 y0_2)), (.v (.int IntKind.i64 y0_3)), (.v (.int IntKind.i64 y0_4))]), (.v (.int IntKind.i64 y1))]) [(.box 57 [(.v (.string z0_0)), (.v (.int IntKind.i64 z0_1))])]) :=
  Eq.mp (by kernel_rfl) ((funW_run (AG := none'') body_is (c_ag k kp) [(.ptr 0 0)] [(.box 57 [(.v (.string b0_0)), (.v (.int IntKind.i64 b0_1))])]).trans (c_c k kp (JJ k kp) (LL k kp) b0_0 b0_1))
theorem f_eq (k kp : D → List Blk → Prop) (b0_0 : ByteArray) (b0_1 : Int) : funW cfg Tryd.f44 [(.ptr 0 0)] [(.box 57 [(.v (.string b0_0)), (.v (.int IntKind.i64 b0_1))])] k kp = f b0_0 b0_1 (fun y0_0 y0_1 y0_2 y0_3 y0_4 y1 z0_0 z0_1 => k (.tup [(.agg [(.v (.int IntKind.i64 y0_0)), (.v (.string y0_1)), (.v (.int IntKind.i64 y0_2)), (.v (.int IntKind.i64 y0_3)), (.v (.int IntKind.i64 y0_4))]), (.v (.int IntKind.i64 y1))]) [(.box 57 [(.v (.string z0_0)), (.v (.int IntKind.i64 z0_1))])]) := by
  rw [f_def, c_raw]; rfl
noncomputable def ent0 : Entry := fun args blks k _ => match args, blks with
  | [d0], [e0] => aPtr 0 0 d0 (aBox 57 e0 fun l => aCons l fun e0_0 l => aCons l fun e0_1 l => aNil l (aStr e0_0 fun b0_0 => aInt IntKind.i64 e0_1 fun b0_1 => f b0_0 b0_1 (fun y0_0 y0_1 y0_2 y0_3 y0_4 y1 z0_0 z0_1 => k (.tup [(.agg [(.v (.int IntKind.i64 y0_0)), (.v (.string y0_1)), (.v (.int IntKind.i64 y0_2)), (.v (.int IntKind.i64 y0_3)), (.v (.int IntKind.i64 y0_4))]), (.v (.int IntKind.i64 y1))]) [(.box 57 [(.v (.string z0_0)), (.v (.int IntKind.i64 z0_1))])])))
  | _, _ => False
noncomputable def ent : Entry := fun args blks k kp => ent0 (convB [.no] args) blks k kp
theorem ok : EntOk Tryd.prog 49 0 44 ent := by
  refine EntOk.convB (EntOk.of (funW_ok (cfg := cfg) (tyOk_of rfl rfl tyL_ok) (eqOk_of (P := Tryd.prog) rfl rfl (by kernel_rfl)) mixed_ok (tab_ok ?_) Tryd.func44 (by rfl) (by rfl)) ?_) _
  · intro p hp
    simp only [List.mem_cons, List.not_mem_nil, or_false] at hp
    rcases hp with rfl | rfl
    · exact N64.ok
    · exact N63.ok
  · intro args blks k kp h k' kp'
    match args, blks, h with
    | [d0], [e0], h =>
    dsimp only [ent0] at h
    have h9 := aPtr_elim h; clear h; obtain ⟨rfl, h⟩ := h9
    have h9 := aBox_elim h; clear h; obtain ⟨_, rfl, h⟩ := h9
    have h9 := aCons_elim h; clear h; obtain ⟨e0_0, _, rfl, h⟩ := h9
    have h9 := aCons_elim h; clear h; obtain ⟨e0_1, _, rfl, h⟩ := h9
    have h9 := aNil_elim h; clear h; obtain ⟨rfl, h⟩ := h9
    have h9 := aStr_elim h; clear h; obtain ⟨b0_0, rfl, h⟩ := h9
    have h9 := aInt_elim h; clear h; obtain ⟨b0_1, rfl, h⟩ := h9
    exact (f_eq k' kp' b0_0 b0_1).symm
end N44
end Go.Proofs.Ye
namespace Go.Proofs.Ye
open Go Go.Aw Go.Proofs
set_option linter.unusedVariables false
set_option linter.unusedSimpArgs false
set_option maxRecDepth 100000
/-! (*dyehouse/lex.reader).slot -/
namespace N45
noncomputable def cfg : Cfg := { P := Tryd.prog, tf := 49, tw := 0, ty := tys, E := tab [(63, N63.ent)], atSeq := tab [], atLoop := tab [], outs := [], eqT := tab [], bT := tab [] }
noncomputable def body : Code := bodyOf Tryd.f45
def c (b0_0 : ByteArray) (b0_1 : Int) (k : Int → ByteArray → Int → Int → Int → Int → ByteArray → Int → Prop) : Prop :=
  (N63.f (6 : Int) (1 : Int) (0 : Int) b0_0 b0_1 (fun (y0_0_0 : Int) (y0_1_0 : ByteArray) (y0_2_0 : Int) (y0_3_0 : Int) (y0_4_0 : Int) (y1_0 : Int) (z0_0_0 : ByteArray) (z0_1_0 : Int) => (k y0_0_0 y0_1_0 y0_2_0 y0_3_0 y0_4_0 y1_0 z0_0_0 z0_1_0)))
def f0 (b0_0 : ByteArray) (b0_1 : Int) (k : Int → ByteArray → Int → Int → Int → Int → ByteArray → Int → Prop) : Prop := c b0_0 b0_1 k
theorem f_ex : ∃ g : ByteArray → Int → (Int → ByteArray → Int → Int → Int → Int → ByteArray → Int → Prop) → Prop, g = f0 := ⟨_, rfl⟩
noncomputable def f : ByteArray → Int → (Int → ByteArray → Int → Int → Int → Int → ByteArray → Int → Prop) → Prop := Classical.choose f_ex
theorem f_def : f = f0 := Classical.choose_spec f_ex
noncomputable def JJ (k kp : D → List Blk → Prop) : Nat → St → Prop := pick none' []
noncomputable def LL (k kp : D → List Blk → Prop) : Nat → St → Prop := pick none' []
theorem c_c (k kp : D → List Blk → Prop) (J L : Nat → St → Prop) (b0_0 : ByteArray) (b0_1 : Int) : runC cfg 1000001 J L none'' [] body (topK cfg Tryd.f45 k kp) (st0 Tryd.f45 [(.ptr 0 0)] [(.box 57 [(.v (.string b0_0)), (.v (.int IntKind.i64 b0_1))])]) = c b0_0 b0_1 (fun y0_0 y0_1 y0_2 y0_3 y0_4 y1 z0_0 z0_1 => k (.tup [(.agg [(.v (.int IntKind.i64 y0_0)), (.v (.string y0_1)), (.v (.int IntKind.i64 y0_2)), (.v (.int IntKind.i64 y0_3)), (.v (.int IntKind.i64 y0_4))]), (.v (.int IntKind.i64 y1))]) [(.box 57 [(.v (.string z0_0)), (.v (.int IntKind.i64 z0_1))])]) := by kernel_rfl
theorem c_ag (k kp : D → List Blk → Prop) : agPL cfg 1000001 (JJ k kp) (LL k kp) [] body = agPR cfg 1000001 none'' [] body (topK cfg Tryd.f45 k kp) := by kernel_rfl
theorem body_is : Tryd.f45.body = some body := by kernel_rfl
theorem c_raw (k kp : D → List Blk → Prop) (b0_0 : ByteArray) (b0_1 : Int) : funW cfg Tryd.f45 [(.ptr 0 0)] [(.box 57 [(.v (.string b0_0)), (.v (.int IntKind.i64 b0_1))])] k kp = c b0_0 b0_1 (fun y0_0 y0_1 y0_2 y0_3 y0_4 y1 z0_0 z0_1 => k (.tup [(.agg [(.v (.int IntKind.i64 y0_0)), (.v (.string y0_1)), (.v (.int IntKind.i64 y0_2)), (.v (.int IntKind.i64 y0_3)), (.v (.int IntKind.i64 y0_4))]), (.v (.int IntKind.i64 y1))]) [(.box 57 [(.v (.string z0_0)), (.v (.int IntKind.i64 z0_1))])]) :=
  Eq.mp (by kernel_rfl) ((funW_run (AG := none'') body_is (c_ag k kp) [(.ptr 0 0)] [(.box 57 [(.v (.string b0_0)), (.v (.int IntKind.i64 b0_1))])]).trans (c_c k kp (JJ k kp) (LL k kp) b0_0 b0_1))
theorem f_eq (k kp : D → List Blk → Prop) (b0_0 : ByteArray) (b0_1 : Int) : funW cfg Tryd.f45 [(.ptr 0 0)] [(.box 57 [(.v (.string b0_0)), (.v (.int IntKind.i64 b0_1))])] k kp = f b0_0 b0_1 (fun y0_0 y0_1 y0_2 y0_3 y0_4 y1 z0_0 z0_1 => k (.tup [(.agg [(.v (.int IntKind.i64 y0_0)), (.v (.string y0_1)), (.v (.int IntKind.i64 y0_2)), (.v (.int IntKind.i64 y0_3)), (.v (.int IntKind.i64 y0_4))]), (.v (.int IntKind.i64 y1))]) [(.box 57 [(.v (.string z0_0)), (.v (.int IntKind.i64 z0_1))])]) := by
  rw [f_def, c_raw]; rfl
noncomputable def ent0 : Entry := fun args blks k _ => match args, blks with
  | [d0], [e0] => aPtr 0 0 d0 (aBox 57 e0 fun l => aCons l fun e0_0 l => aCons l fun e0_1 l => aNil l (aStr e0_0 fun b0_0 => aInt IntKind.i64 e0_1 fun b0_1 => f b0_0 b0_1 (fun y0_0 y0_1 y0_2 y0_3 y0_4 y1 z0_0 z0_1 => k (.tup [(.agg [(.v (.int IntKind.i64 y0_0)), (.v (.string y0_1)), (.v (.int IntKind.i64 y0_2)), (.v (.int IntKind.i64 y0_3)), (.v (.int IntKind.i64 y0_4))]), (.v (.int IntKind.i64 y1))]) [(.box 57 [(.v (.string z0_0)), (.v (.int IntKind.i64 z0_1))])])))
  | _, _ => False
noncomputable def ent : Entry := fun args blks k kp => ent0 (convB [.no] args) blks k kp
theorem ok : EntOk Tryd.prog 49 0 45 ent := by
  refine EntOk.convB (EntOk.of (funW_ok (cfg := cfg) (tyOk_of rfl rfl tyL_ok) (eqOk_of (P := Tryd.prog) rfl rfl (by kernel_rfl)) mixed_ok (tab_ok ?_) Tryd.func45 (by rfl) (by rfl)) ?_) _
  · intro p hp
    simp only [List.mem_cons, List.not_mem_nil, or_false] at hp
    rcases hp with rfl
    · exact N63.ok
  · intro args blks k kp h k' kp'
    match args, blks, h with
    | [d0], [e0], h =>
    dsimp only [ent0] at h
    have h9 := aPtr_elim h; clear h; obtain ⟨rfl, h⟩ := h9
    have h9 := aBox_elim h; clear h; obtain ⟨_, rfl, h⟩ := h9
    have h9 := aCons_elim h; clear h; obtain ⟨e0_0, _, rfl, h⟩ := h9
    have h9 := aCons_elim h; clear h; obtain ⟨e0_1, _, rfl, h⟩ := h9
    have h9 := aNil_elim h; clear h; obtain ⟨rfl, h⟩ := h9
    have h9 := aStr_elim h; clear h; obtain ⟨b0_0, rfl, h⟩ := h9
    have h9 := aInt_elim h; clear h; obtain ⟨b0_1, rfl, h⟩ := h9
    exact (f_eq k' kp' b0_0 b0_1).symm
end N45
end Go.Proofs.Ye
namespace Go.Proofs.Ye
open Go Go.Aw Go.Proofs
set_option linter.unusedVariables false
set_option linter.unusedSimpArgs false
set_option maxRecDepth 100000
/-! (*dyehouse/lex.reader).sign -/
namespace N46
noncomputable def cfg : Cfg := { P := Tryd.prog, tf := 49, tw := 0, ty := tys, E := tab [(64, N64.ent), (61, N61.ent)], atSeq := tab [(2000003, ⟨[(0, .keep), (2, .keep), (4, .keep), (17, .keep)]⟩), (4, ⟨[(0, .keep), (2, .keep), (4, .keep)]⟩)], atLoop := tab [], outs := [], eqT := tab [], bT := tab [] }
noncomputable def body : Code := bodyOf Tryd.f46
def j2000003 (j4 : Int → ByteArray → Int → Int → ByteArray → Int → Int → Int → Prop) (x4 : Int) (x17 : Bool) (b0_0 : ByteArray) (b0_1 : Int) (b1_0 : Int) (b1_1 : ByteArray) (b1_2 : Int) (b1_3 : Int) (b1_4 : Int) (k : Int → ByteArray → Int → Int → Int → Int → ByteArray → Int → Prop) : Prop :=
  (br x17 (j4 (IntKind.i64.wrap (x4 + (1 : Int))) b0_0 b0_1 b1_0 b1_1 b1_2 b1_3 b1_4) (j4 x4 b0_0 b0_1 b1_0 b1_1 b1_2 b1_3 b1_4))
def j4 (x4 : Int) (b0_0 : ByteArray) (b0_1 : Int) (b1_0 : Int) (b1_1 : ByteArray) (b1_2 : Int) (b1_3 : Int) (b1_4 : Int) (k : Int → ByteArray → Int → Int → Int → Int → ByteArray → Int → Prop) : Prop :=
  (N61.f (7 : Int) (ByteArray.mk #[]) (0 : Int) (0 : Int) (0 : Int) x4 b0_0 b0_1 (fun (y0_0_2 : Int) (y0_1_2 : ByteArray) (y0_2_2 : Int) (y0_3_2 : Int) (y0_4_2 : Int) (z0_0_2 : ByteArray) (z0_1_2 : Int) => (k y0_0_2 y0_1_2 y0_2_2 y0_3_2 y0_4_2 (0 : Int) z0_0_2 z0_1_2)))
def c (j2000003 : Int → Bool → ByteArray → Int → Int → ByteArray → Int → Int → Int → Prop) (b0_0 : ByteArray) (b0_1 : Int) (k : Int → ByteArray → Int → Int → Int → Int → ByteArray → Int → Prop) : Prop :=
  (N64.f (0 : Int) b0_0 b0_1 (fun (y0_0 : Int) (z0_0_0 : ByteArray) (z0_1_0 : Int) => (br (y0_0 == (46 : Int)) (N64.f (1 : Int) z0_0_0 z0_1_0 (fun (y0_1 : Int) (z0_0_1 : ByteArray) (z0_1_1 : Int) => (j2000003 (IntKind.i64.wrap (b0_1 + (1 : Int))) (y0_1 == (46 : Int)) z0_0_1 z0_1_1 (0 : Int) (ByteArray.mk #[]) (0 : Int) (0 : Int) (0 : Int)))) (j2000003 (IntKind.i64.wrap (b0_1 + (1 : Int))) false z0_0_0 z0_1_0 (0 : Int) (ByteArray.mk #[]) (0 : Int) (0 : Int) (0 : Int)))))
def j4' (x4 : Int) (b0_0 : ByteArray) (b0_1 : Int) (b1_0 : Int) (b1_1 : ByteArray) (b1_2 : Int) (b1_3 : Int) (b1_4 : Int) (k : Int → ByteArray → Int → Int → Int → Int → ByteArray → Int → Prop) : Prop := j4 x4 b0_0 b0_1 b1_0 b1_1 b1_2 b1_3 b1_4 k
def j2000003' (x4 : Int) (x17 : Bool) (b0_0 : ByteArray) (b0_1 : Int) (b1_0 : Int) (b1_1 : ByteArray) (b1_2 : Int) (b1_3 : Int) (b1_4 : Int) (k : Int → ByteArray → Int → Int → Int → Int → ByteArray → Int → Prop) : Prop := j2000003 (fun x4 b0_0 b0_1 b1_0 b1_1 b1_2 b1_3 b1_4 => j4' x4 b0_0 b0_1 b1_0 b1_1 b1_2 b1_3 b1_4 k) x4 x17 b0_0 b0_1 b1_0 b1_1 b1_2 b1_3 b1_4 k
def f0 (b0_0 : ByteArray) (b0_1 : Int) (k : Int → ByteArray → Int → Int → Int → Int → ByteArray → Int → Prop) : Prop := c (fun x4 x17 b0_0 b0_1 b1_0 b1_1 b1_2 b1_3 b1_4 => j2000003' x4 x17 b0_0 b0_1 b1_0 b1_1 b1_2 b1_3 b1_4 k) b0_0 b0_1 k
theorem f_ex : ∃ g : ByteArray → Int → (Int → ByteArray → Int → Int → Int → Int → ByteArray → Int → Prop) → Prop, g = f0 := ⟨_, rfl⟩
noncomputable def f : ByteArray → Int → (Int → ByteArray → Int → Int → Int → Int → ByteArray → Int → Prop) → Prop := Classical.choose f_ex
theorem f_def : f = f0 := Classical.choose_spec f_ex
def m2000003 (x4 : Int) (x17 : Bool) (b0_0 : ByteArray) (b0_1 : Int) (b1_0 : Int) (b1_1 : ByteArray) (b1_2 : Int) (b1_3 : Int) (b1_4 : Int) : St := { tmps := mkT 24 0 [(0, (.ptr 0 0)), (2, (.ptr 1 0)), (4, (.v (.int IntKind.i64 x4))), (17, (.v (.bool x17)))], hp := [(.box 57 [(.v (.string b0_0)), (.v (.int IntKind.i64 b0_1))]), (.box 42 [(.v (.int IntKind.i64 b1_0)), (.v (.string b1_1)), (.v (.int IntKind.i64 b1_2)), (.v (.int IntKind.i64 b1_3)), (.v (.int IntKind.i64 b1_4))])], m := 1 }
def m4 (x4 : Int) (b0_0 : ByteArray) (b0_1 : Int) (b1_0 : Int) (b1_1 : ByteArray) (b1_2 : Int) (b1_3 : Int) (b1_4 : Int) : St := { tmps := mkT 24 0 [(0, (.ptr 0 0)), (2, (.ptr 1 0)), (4, (.v (.int IntKind.i64 x4)))], hp := [(.box 57 [(.v (.string b0_0)), (.v (.int IntKind.i64 b0_1))]), (.box 42 [(.v (.int IntKind.i64 b1_0)), (.v (.string b1_1)), (.v (.int IntKind.i64 b1_2)), (.v (.int IntKind.i64 b1_3)), (.v (.int IntKind.i64 b1_4))])], m := 1 }
noncomputable def X2000003 (k kp : D → List Blk → Prop) : St → Prop := atP cfg (pick none' []) [1, 1, 0, 1] body (topK cfg Tryd.f46 k kp)
noncomputable def X4 (k kp : D → List Blk → Prop) : St → Prop := atP cfg (pick none' []) [1, 1, 1] body (topK cfg Tryd.f46 k kp)
noncomputable def JJ (k kp : D → List Blk → Prop) : Nat → St → Prop := pick none' [(2000003, X2000003 k kp), (4, X4 k kp)]
noncomputable def LL (k kp : D → List Blk → Prop) : Nat → St → Prop := pick none' []
theorem j4_c (k kp : D → List Blk → Prop) (J L : Nat → St → Prop) (x4 : Int) (b0_0 : ByteArray) (b0_1 : Int) (b1_0 : Int) (b1_1 : ByteArray) (b1_2 : Int) (b1_3 : Int) (b1_4 : Int) : runC cfg 4 J L (pick none' []) [1, 1, 1] body (topK cfg Tryd.f46 k kp) (m4 x4 b0_0 b0_1 b1_0 b1_1 b1_2 b1_3 b1_4) = j4 x4 b0_0 b0_1 b1_0 b1_1 b1_2 b1_3 b1_4 (fun y0_0 y0_1 y0_2 y0_3 y0_4 y1 z0_0 z0_1 => k (.tup [(.agg [(.v (.int IntKind.i64 y0_0)), (.v (.string y0_1)), (.v (.int IntKind.i64 y0_2)), (.v (.int IntKind.i64 y0_3)), (.v (.int IntKind.i64 y0_4))]), (.v (.int IntKind.i64 y1))]) [(.box 57 [(.v (.string z0_0)), (.v (.int IntKind.i64 z0_1))])]) := by kernel_rfl
theorem j4_ag (k kp : D → List Blk → Prop) : agPL cfg 4 (JJ k kp) (LL k kp) [1, 1, 1] body = agPR cfg 4 (pick none' []) [1, 1, 1] body (topK cfg Tryd.f46 k kp) := by kernel_rfl
theorem j4_raw (k kp : D → List Blk → Prop) (x4 : Int) (b0_0 : ByteArray) (b0_1 : Int) (b1_0 : Int) (b1_1 : ByteArray) (b1_2 : Int) (b1_3 : Int) (b1_4 : Int) : X4 k kp (m4 x4 b0_0 b0_1 b1_0 b1_1 b1_2 b1_3 b1_4) = j4 x4 b0_0 b0_1 b1_0 b1_1 b1_2 b1_3 b1_4 (fun y0_0 y0_1 y0_2 y0_3 y0_4 y1 z0_0 z0_1 => k (.tup [(.agg [(.v (.int IntKind.i64 y0_0)), (.v (.string y0_1)), (.v (.int IntKind.i64 y0_2)), (.v (.int IntKind.i64 y0_3)), (.v (.int IntKind.i64 y0_4))]), (.v (.int IntKind.i64 y1))]) [(.box 57 [(.v (.string z0_0)), (.v (.int IntKind.i64 z0_1))])]) :=
  Eq.mp (by kernel_rfl) ((atP_run (j4_ag k kp) (m4 x4 b0_0 b0_1 b1_0 b1_1 b1_2 b1_3 b1_4)).trans (j4_c k kp (JJ k kp) (LL k kp) x4 b0_0 b0_1 b1_0 b1_1 b1_2 b1_3 b1_4))
theorem j4_eq (k kp : D → List Blk → Prop) (x4 : Int) (b0_0 : ByteArray) (b0_1 : Int) (b1_0 : Int) (b1_1 : ByteArray) (b1_2 : Int) (b1_3 : Int) (b1_4 : Int) : X4 k kp (m4 x4 b0_0 b0_1 b1_0 b1_1 b1_2 b1_3 b1_4) = j4' x4 b0_0 b0_1 b1_0 b1_1 b1_2 b1_3 b1_4 (fun y0_0 y0_1 y0_2 y0_3 y0_4 y1 z0_0 z0_1 => k (.tup [(.agg [(.v (.int IntKind.i64 y0_0)), (.v (.string y0_1)), (.v (.int IntKind.i64 y0_2)), (.v (.int IntKind.i64 y0_3)), (.v (.int IntKind.i64 y0_4))]), (.v (.int IntKind.i64 y1))]) [(.box 57 [(.v (.string z0_0)), (.v (.int IntKind.i64 z0_1))])]) := by
  rw [j4_raw]; rfl
theorem j2000003_c (k kp : D → List Blk → Prop) (J L : Nat → St → Prop) (x4 : Int) (x17 : Bool) (b0_0 : ByteArray) (b0_1 : Int) (b1_0 : Int) (b1_1 : ByteArray) (b1_2 : Int) (b1_3 : Int) (b1_4 : Int) : runC cfg 2000003 J L (pick none' []) [1, 1, 0, 1] body (topK cfg Tryd.f46 k kp) (m2000003 x4 x17 b0_0 b0_1 b1_0 b1_1 b1_2 b1_3 b1_4) = j2000003 (fun x4 b0_0 b0_1 b1_0 b1_1 b1_2 b1_3 b1_4 => J 4 (m4 x4 b0_0 b0_1 b1_0 b1_1 b1_2 b1_3 b1_4)) x4 x17 b0_0 b0_1 b1_0 b1_1 b1_2 b1_3 b1_4 (fun y0_0 y0_1 y0_2 y0_3 y0_4 y1 z0_0 z0_1 => k (.tup [(.agg [(.v (.int IntKind.i64 y0_0)), (.v (.string y0_1)), (.v (.int IntKind.i64 y0_2)), (.v (.int IntKind.i64 y0_3)), (.v (.int IntKind.i64 y0_4))]), (.v (.int IntKind.i64 y1))]) [(.box 57 [(.v (.string z0_0)), (.v (.int IntKind.i64 z0_1))])]) := by kernel_rfl
theorem j2000003_ag (k kp : D → List Blk → Prop) : agPL cfg 2000003 (JJ k kp) (LL k kp) [1, 1, 0, 1] body = agPR cfg 2000003 (pick none' []) [1, 1, 0, 1] body (topK cfg Tryd.f46 k kp) := by kernel_rfl
theorem j2000003_raw (k kp : D → List Blk → Prop) (x4 : Int) (x17 : Bool) (b0_0 : ByteArray) (b0_1 : Int) (b1_0 : Int) (b1_1 : ByteArray) (b1_2 : Int) (b1_3 : Int) (b1_4 : Int) : X2000003 k kp (m2000003 x4 x17 b0_0 b0_1 b1_0 b1_1 b1_2 b1_3 b1_4) = j2000003 (fun x4 b0_0 b0_1 b1_0 b1_1 b1_2 b1_3 b1_4 => X4 k kp (m4 x4 b0_0 b0_1 b1_0 b1_1 b1_2 b1_3 b1_4)) x4 x17 b0_0 b0_1 b1_0 b1_1 b1_2 b1_3 b1_4 (fun y0_0 y0_1 y0_2 y0_3 y0_4 y1 z0_0 z0_1 => k (.tup [(.agg [(.v (.int IntKind.i64 y0_0)), (.v (.string y0_1)), (.v (.int IntKind.i64 y0_2)), (.v (.int IntKind.i64 y0_3)), (.v (.int IntKind.i64 y0_4))]), (.v (.int IntKind.i64 y1))]) [(.box 57 [(.v (.string z0_0)), (.v (.int IntKind.i64 z0_1))])]) :=
  Eq.mp (by kernel_rfl) ((atP_run (j2000003_ag k kp) (m2000003 x4 x17 b0_0 b0_1 b1_0 b1_1 b1_2 b1_3 b1_4)).trans (j2000003_c k kp (JJ k kp) (LL k kp) x4 x17 b0_0 b0_1 b1_0 b1_1 b1_2 b1_3 b1_4))
theorem j2000003_eq (k kp : D → List Blk → Prop) (x4 : Int) (x17 : Bool) (b0_0 : ByteArray) (b0_1 : Int) (b1_0 : Int) (b1_1 : ByteArray) (b1_2 : Int) (b1_3 : Int) (b1_4 : Int) : X2000003 k kp (m2000003 x4 x17 b0_0 b0_1 b1_0 b1_1 b1_2 b1_3 b1_4) = j2000003' x4 x17 b0_0 b0_1 b1_0 b1_1 b1_2 b1_3 b1_4 (fun y0_0 y0_1 y0_2 y0_3 y0_4 y1 z0_0 z0_1 => k (.tup [(.agg [(.v (.int IntKind.i64 y0_0)), (.v (.string y0_1)), (.v (.int IntKind.i64 y0_2)), (.v (.int IntKind.i64 y0_3)), (.v (.int IntKind.i64 y0_4))]), (.v (.int IntKind.i64 y1))]) [(.box 57 [(.v (.string z0_0)), (.v (.int IntKind.i64 z0_1))])]) := by
  rw [j2000003_raw]; simp only [j4_eq]; first | done | rfl
theorem c_c (k kp : D → List Blk → Prop) (J L : Nat → St → Prop) (b0_0 : ByteArray) (b0_1 : Int) : runC cfg 1000001 J L none'' [] body (topK cfg Tryd.f46 k kp) (st0 Tryd.f46 [(.ptr 0 0)] [(.box 57 [(.v (.string b0_0)), (.v (.int IntKind.i64 b0_1))])]) = c (fun x4 x17 b0_0 b0_1 b1_0 b1_1 b1_2 b1_3 b1_4 => J 2000003 (m2000003 x4 x17 b0_0 b0_1 b1_0 b1_1 b1_2 b1_3 b1_4)) b0_0 b0_1 (fun y0_0 y0_1 y0_2 y0_3 y0_4 y1 z0_0 z0_1 => k (.tup [(.agg [(.v (.int IntKind.i64 y0_0)), (.v (.string y0_1)), (.v (.int IntKind.i64 y0_2)), (.v (.int IntKind.i64 y0_3)), (.v (.int IntKind.i64 y0_4))]), (.v (.int IntKind.i64 y1))]) [(.box 57 [(.v (.string z0_0)), (.v (.int IntKind.i64 z0_1))])]) := by kernel_rfl
theorem c_ag (k kp : D → List Blk → Prop) : agPL cfg 1000001 (JJ k kp) (LL k kp) [] body = agPR cfg 1000001 none'' [] body (topK cfg Tryd.f46 k kp) := by kernel_rfl
theorem body_is : Tryd.f46.body = some body := by kernel_rfl
theorem c_raw (k kp : D → List Blk → Prop) (b0_0 : ByteArray) (b0_1 : Int) : funW cfg Tryd.f46 [(.ptr 0 0)] [(.box 57 [(.v (.string b0_0)), (.v (.int IntKind.i64 b0_1))])] k kp = c (fun x4 x17 b0_0 b0_1 b1_0 b1_1 b1_2 b1_3 b1_4 => X2000003 k kp (m2000003 x4 x17 b0_0 b0_1 b1_0 b1_1 b1_2 b1_3 b1_4)) b0_0 b0_1 (fun y0_0 y0_1 y0_2 y0_3 y0_4 y1 z0_0 z0_1 => k (.tup [(.agg [(.v (.int IntKind.i64 y0_0)), (.v (.string y0_1)), (.v (.int IntKind.i64 y0_2)), (.v (.int IntKind.i64 y0_3)), (.v (.int IntKind.i64 y0_4))]), (.v (.int IntKind.i64 y1))]) [(.box 57 [(.v (.string z0_0)), (.v (.int IntKind.i64 z0_1))])]) :=
  Eq.mp (by kernel_rfl) ((funW_run (AG := none'') body_is (c_ag k kp) [(.ptr 0 0)] [(.box 57 [(.v (.string b0_0)), (.v (.int IntKind.i64 b0_1))])]).trans (c_c k kp (JJ k kp) (LL k kp) b0_0 b0_1))
theorem f_eq (k kp : D → List Blk → Prop) (b0_0 : ByteArray) (b0_1 : Int) : funW cfg Tryd.f46 [(.ptr 0 0)] [(.box 57 [(.v (.string b0_0)), (.v (.int IntKind.i64 b0_1))])] k kp = f b0_0 b0_1 (fun y0_0 y0_1 y0_2 y0_3 y0_4 y1 z0_0 z0_1 => k (.tup [(.agg [(.v (.int IntKind.i64 y0_0)), (.v (.string y0_1)), (.v (.int IntKind.i64 y0_2)), (.v (.int IntKind.i64 y0_3)), (.v (.int IntKind.i64 y0_4))]), (.v (.int IntKind.i64 y1))]) [(.box 57 [(.v (.string z0_0)), (.v (.int IntKind.i64 z0_1))])]) := by
  rw [f_def, c_raw]; simp only [j2000003_eq]; first | done | rfl
noncomputable def ent0 : Entry := fun args blks k _ => match args, blks with
  | [d0], [e0] => aPtr 0 0 d0 (aBox 57 e0 fun l => aCons l fun e0_0 l => aCons l fun e0_1 l => aNil l (aStr e0_0 fun b0_0 => aInt IntKind.i64 e0_1 fun b0_1 => f b0_0 b0_1 (fun y0_0 y0_1 y0_2 y0_3 y0_4 y1 z0_0 z0_1 => k (.tup [(.agg [(.v (.int IntKind.i64 y0_0)), (.v (.string y0_1)), (.v (.int IntKind.i64 y0_2)), (.v (.int IntKind.i64 y0_3)), (.v (.int IntKind.i64 y0_4))]), (.v (.int IntKind.i64 y1))]) [(.box 57 [(.v (.string z0_0)), (.v (.int IntKind.i64 z0_1))])])))
  | _, _ => False
noncomputable def ent : Entry := fun args blks k kp => ent0 (convB [.no] args) blks k kp
theorem ok : EntOk Tryd.prog 49 0 46 ent := by
  refine EntOk.convB (EntOk.of (funW_ok (cfg := cfg) (tyOk_of rfl rfl tyL_ok) (eqOk_of (P := Tryd.prog) rfl rfl (by kernel_rfl)) mixed_ok (tab_ok ?_) Tryd.func46 (by rfl) (by rfl)) ?_) _
  · intro p hp
    simp only [List.mem_cons, List.not_mem_nil, or_false] at hp
    rcases hp with rfl | rfl
    · exact N64.ok
    · exact N61.ok
  · intro args blks k kp h k' kp'
    match args, blks, h with
    | [d0], [e0], h =>
    dsimp only [ent0] at h
    have h9 := aPtr_elim h; clear h; obtain ⟨rfl, h⟩ := h9
    have h9 := aBox_elim h; clear h; obtain ⟨_, rfl, h⟩ := h9
    have h9 := aCons_elim h; clear h; obtain ⟨e0_0, _, rfl, h⟩ := h9
    have h9 := aCons_elim h; clear h; obtain ⟨e0_1, _, rfl, h⟩ := h9
    have h9 := aNil_elim h; clear h; obtain ⟨rfl, h⟩ := h9
    have h9 := aStr_elim h; clear h; obtain ⟨b0_0, rfl, h⟩ := h9
    have h9 := aInt_elim h; clear h; obtain ⟨b0_1, rfl, h⟩ := h9
    exact (f_eq k' kp' b0_0 b0_1).symm
end N46
end Go.Proofs.Ye
namespace Go.Proofs.Ye
open Go Go.Aw Go.Proofs Go.RowKit
set_option linter.unusedVariables false
set_option linter.unusedSimpArgs false

theorem isDig_s (c : Int) (k : Bool → Prop) (h : k (decide (isD c))) : N39.f c k := by
  rw [N39.f_def]
  unfold N39.f0 N39.c
  unfold isD at h
  simp only [br_dec]
  split
  · rename_i h1
    have : decide (c ≤ 57) = decide (48 ≤ c ∧ c ≤ 57) := by rw [Bool.eq_iff_iff]; simp; omega
    rw [this]; exact h
  · rename_i h1
    have : false = decide (48 ≤ c ∧ c ≤ 57) := by rw [eq_comm]; simp; omega
    rw [this]; exact h
theorem indexB_s (s : ByteArray) (c : Int) (k : Int → Prop) (h : k (indexB s c)) : N36.f s c k := by
  rw [N36.f_def]
  unfold N36.f0 N36.c
  exact h
theorem prefix2_s (s : ByteArray) (k : Bool → Prop) (h : k (decide (1 < s.size ∧ (ofBytes s).getD 0 0 = 47 ∧ (ofBytes s).getD 1 0 = 47))) : N37.f s (ByteArray.mk #[47, 47]) k := by
  rw [N37.f_def]
  unfold N37.f0 N37.c
  rw [N58.f_def]
  unfold N58.f0 N58.c
  have hl := ofBytes_length s
  have e2 : (ByteArray.mk #[47, 47]).size = 2 := rfl
  rw [e2]
  simp only [br_dec]
  split
  · rename_i h1
    refine ⟨⟨by omega, by omega, by omega⟩, ?_⟩
    have : beqS (s.extract (Int.toNat 0) (Int.toNat ((2 : Nat) : Int))) (ByteArray.mk #[47, 47]) = decide (1 < s.size ∧ (ofBytes s).getD 0 0 = 47 ∧ (ofBytes s).getD 1 0 = 47) := by
      rw [Bool.eq_iff_iff, beqS_iff, decide_eq_true_eq]
      have ex : ofBytes (s.extract 0 2) = (ofBytes s).take 2 := by rw [ofBytes_extract]; simp
      match hL : ofBytes s, hl with
      | [], hl => simp at hl; omega
      | [a], hl => simp at hl; omega
      | a :: b :: r, hl =>
        simp only [List.getD_cons_zero, List.getD_cons_succ]
        constructor
        · intro h2
          have h3 : ofBytes (s.extract 0 2) = [47, 47] := by rw [show s.extract 0 2 = ByteArray.mk #[47, 47] from h2]; rfl
          rw [ex, hL] at h3
          simp at h3
          exact ⟨by simp at hl; omega, h3⟩
        · rintro ⟨_, rfl, rfl⟩
          refine eq_of_ofBytes ?_
          show ofBytes (s.extract 0 2) = _
          rw [ex, hL]; rfl
    rw [this]; exact h
  · rename_i h1
    have : false = decide (1 < s.size ∧ (ofBytes s).getD 0 0 = 47 ∧ (ofBytes s).getD 1 0 = 47) := by rw [eq_comm]; simp; omega
    rw [this]; exact h

theorem rest_eq (s : ByteArray) (p : Nat) (hp : p ≤ s.size) : ByteArray.extract s (Int.toNat (p : Int)) (Int.toNat ((s.size : Nat) : Int)) = bytesOf ((ofBytes s).drop p) := by
  apply eq_of_ofBytes
  rw [ofBytes_extract, ofBytes_bytesOf (fun y hy => ofBytes_isB s y (List.mem_of_mem_drop hy)), Int.toNat_natCast, Int.toNat_natCast, List.take_of_length_le (by rw [ofBytes_length]; exact Nat.le_refl _)]
theorem part_eq (s : ByteArray) (p n : Nat) : ByteArray.extract s (Int.toNat (p : Int)) (Int.toNat ((p + n : Nat) : Int)) = bytesOf (((ofBytes s).drop p).take n) := by
  apply eq_of_ofBytes
  rw [ofBytes_extract, ofBytes_bytesOf (fun y hy => ofBytes_isB s y (List.mem_of_mem_drop (List.mem_of_mem_take hy))), Int.toNat_natCast, Int.toNat_natCast, List.drop_take]
  congr 1; omega

theorem peek_s (s : ByteArray) (hs : s.size ≤ reachBytes) (p n : Nat) (hp : p ≤ s.size) (hn : n ≤ 2) (k : Int → ByteArray → Int → Prop) (h : k ((ofBytes s).getD (p + n) 0) s p) : N64.f (n : Int) s (p : Int) k := by
  have hr : reachBytes < 2 ^ 47 := reachBytes_lt
  have hl := ofBytes_length s
  rw [N64.f_def]
  unfold N64.f0 N64.c
  have ew : IntKind.i64.wrap ((p : Int) + (n : Int)) = ((p + n : Nat) : Int) := by rw [wrap_id (by omega) (by omega)]; omega
  rw [ew]
  simp only [br_dec]
  split
  · rename_i h1
    refine ⟨⟨by omega, by omega, by omega⟩, ?_⟩
    rw [byteAt_eq]; exact h
  · rename_i h1
    have : (ofBytes s).getD (p + n) 0 = 0 := by simp [List.getD, List.getElem?_eq_none (show (ofBytes s).length ≤ p + n by omega)]
    rw [this] at h; exact h

theorem digits_s' (s : ByteArray) (hs : s.size ≤ reachBytes) (p a : Nat) (hp : p < s.size) (ha : a ≤ 2) (k : Int → Int → Int → ByteArray → Int → Prop)
    (h1 : digC ((ofBytes s).drop (p + a)) ≠ 0 → ∀ e : Int, e ≤ s.size → k 0 e (digC ((ofBytes s).drop (p + a))) s p)
    (h2 : digC ((ofBytes s).drop (p + a)) = 0 → k (w64 (val (((ofBytes s).drop (p + a)).take (run ((ofBytes s).drop (p + a)))))) ((p + a + run ((ofBytes s).drop (p + a)) : Nat) : Int) 0 s p) : N60.f (a : Int) s (p : Int) k := by
  have hr : reachBytes < 2 ^ 47 := reachBytes_lt
  have hl := ofBytes_length s
  rw [N60.f_def]
  unfold N60.f0 N60.c N60.j2000008' N60.j2000008 N60.j9' N60.j9
  refine peek_s s hs p a (by omega) ha _ (isDig_s _ _ ?_)
  have hgd : ((ofBytes s).drop (p + a)).getD 0 0 = (ofBytes s).getD (p + a) 0 := by simp [List.getD, List.getElem?_drop]
  rw [← hgd]
  have hlr : ((ofBytes s).drop (p + a)).length = s.size - (p + a) := by rw [List.length_drop, hl]
  have hB : ∀ y ∈ (ofBytes s).drop (p + a), isB y := fun y hy => ofBytes_isB s y (List.mem_of_mem_drop hy)
  simp only [br_not, br_dec]
  split
  case isFalse hd =>
    have : digC ((ofBytes s).drop (p + a)) = 12 := by
      unfold digC
      refine if_pos (.inl ?_)
      cases hc : (ofBytes s).drop (p + a) with
      | nil => rfl
      | cons c r => rw [hc] at hd; simp at hd; simp [run, hd]
    rw [this] at h1
    exact h1 (by decide) 0 (by omega)
  case isTrue hd =>
    have hpos : p + a < s.size := by
      rcases Nat.lt_or_ge (p + a) s.size with hh | hh
      · exact hh
      · rw [List.drop_of_length_le (by omega)] at hd; simp [isD] at hd
    have hrun : 1 ≤ run ((ofBytes s).drop (p + a)) := by
      cases hc : (ofBytes s).drop (p + a) with
      | nil => rw [hc] at hlr; simp at hlr; omega
      | cons c r => rw [hc] at hd; simp at hd; simp [run, hd]
    have hrl := run_le ((ofBytes s).drop (p + a))
    have ew : IntKind.i64.wrap ((p : Int) + (a : Int)) = ((p + a : Nat) : Int) := by rw [wrap_id (by omega) (by omega)]; omega
    rw [ew, rest_eq s (p + a) (by omega), bytesOf_size]
    have hmin : mmv false (((((ofBytes s).drop (p + a)).length : Nat) : Int)) 24 = ((min ((ofBytes s).drop (p + a)).length 24 : Nat) : Int) := by
      unfold mmv; dsimp only; split <;> omega
    rw [hmin]
    have hex : ByteArray.extract (bytesOf ((ofBytes s).drop (p + a))) (Int.toNat 0) (Int.toNat ((min ((ofBytes s).drop (p + a)).length 24 : Nat) : Int)) = bytesOf (((ofBytes s).drop (p + a)).take 24) := by
      apply eq_of_ofBytes
      rw [ofBytes_extract, ofBytes_bytesOf hB, ofBytes_bytesOf (fun y hy => hB y (List.mem_of_mem_take hy)), Int.toNat_natCast]
      simp [List.take_take]
      exact Nat.min_comm _ _
    rw [hex]
    refine ⟨⟨by omega, by omega, by omega⟩, ⟨by omega, by omega, by omega⟩, ?_, ?_⟩
    · rw [bytesOf_size, List.length_take]
      show (1 : Nat) + _ ≤ _
      omega
    have hap : ByteArray.mk #[45] ++ bytesOf (((ofBytes s).drop (p + a)).take 24) = bytesOf (45 :: ((ofBytes s).drop (p + a)).take 24) := by
      rw [show ByteArray.mk #[45] = bytesOf [45] from rfl, ← bytesOf_append]; rfl
    rw [hap]
    have hB2 : ∀ y ∈ 45 :: ((ofBytes s).drop (p + a)).take 24, isB y := by
      intro y hy
      rcases List.mem_cons.1 hy with rfl | hy
      · exact ⟨by decide, by decide⟩
      · exact hB y (List.mem_of_mem_take hy)
    have hr2 : 30 ≤ reachBytes := by decide
    refine dscan_s _ (by rw [bytesOf_size]; simp; omega) _ _ ?_
    rw [ofBytes_bytesOf hB2, scan_minus]
    have hz2 : ¬ 1 < run ((ofBytes s).drop (p + a)) → ((ofBytes s).drop (p + a)).getD 0 0 = 48 → val (((ofBytes s).drop (p + a)).take (run ((ofBytes s).drop (p + a)))) = 0 := by
      intro g1 g2
      rw [show run ((ofBytes s).drop (p + a)) = 1 by omega]
      cases hc : (ofBytes s).drop (p + a) with
      | nil => rfl
      | cons x r =>
        rw [hc] at g2
        simp only [List.getD_cons_zero] at g2
        subst g2
        rfl
    have hz := val_zero (r := (ofBytes s).drop (p + a)) (by omega)
    have hs2 : scanI (ofBytes s) ((p + a : Nat) : Int) = if ((ofBytes s).drop (p + a)).getD 0 0 = 48 ∧ 1 < run ((ofBytes s).drop (p + a)) then (0, 0, 12) else if val (((ofBytes s).drop (p + a)).take (run ((ofBytes s).drop (p + a)))) ≥ 2 ^ 63 then (0, 0, 2) else ((val (((ofBytes s).drop (p + a)).take (run ((ofBytes s).drop (p + a)))) : Int), ((p + a + run ((ofBytes s).drop (p + a)) : Nat) : Int), 0) := by
      unfold scanI
      rw [if_neg (by rw [hl]; omega)]
      dsimp only
      have hm : (decide ((((p + a : Nat) : Int)).toNat < (ofBytes s).length) && ((ofBytes s).getD (((p + a : Nat) : Int)).toNat 0 == 45)) = false := by
        rw [Int.toNat_natCast, ← hgd]
        have : (((ofBytes s).drop (p + a)).getD 0 0 == 45) = false := by
          unfold isD at hd
          rw [beq_eq_false_iff_ne]; omega
        rw [this]; simp
      rw [hm]
      simp only [Int.toNat_natCast, Bool.toNat_false, Nat.add_zero, Bool.false_eq_true, if_false, and_true, or_false]
      rw [hgd]
      by_cases c1 : (ofBytes s).getD (p + a) 0 = 48 ∧ 1 < run ((ofBytes s).drop (p + a))
      · rw [if_pos (.inr c1), if_pos c1]
      · rw [if_neg (by rintro (h | h); omega; exact c1 h), if_neg c1]
        by_cases c2 : val (((ofBytes s).drop (p + a)).take (run ((ofBytes s).drop (p + a)))) ≥ 2 ^ 63
        · rw [if_pos (by omega), if_pos c2]
        · rw [if_neg (by omega), if_neg c2]
    unfold digC at h1 h2
    have hscan := dscan_s s hs ((p + a : Nat) : Int)
    rw [hs2] at hscan
    have hnd : ¬ run ((ofBytes s).drop (p + a)) = 0 := by omega
    generalize hv : val (((ofBytes s).drop (p + a)).take (run ((ofBytes s).drop (p + a)))) = v at *
    generalize run ((ofBytes s).drop (p + a)) = d at *
    generalize ((ofBytes s).drop (p + a)).getD 0 0 = c at *
    have err : ∀ e : Int, e ≤ s.size → IntKind.i64.wrap (IntKind.i64.wrap (((p + a : Nat) : Int) + 0) - 1) ≤ (s.size : Int) := by
      intro e he
      rw [wrap_id (n := ((p + a : Nat) : Int) + 0) (by omega) (by omega), wrap_id (by omega) (by omega)]
      omega
    by_cases c48 : c = 48
    · rw [if_pos (.inr c48)]
      dsimp only
      rw [br_beq, if_pos rfl]
      refine hscan _ ?_
      by_cases cd : 1 < d
      · rw [if_pos ⟨c48, cd⟩]
        dsimp only
        rw [br_beq, if_neg (by decide)]
        rw [if_pos (.inr ⟨c48, cd⟩)] at h1
        exact h1 (by decide) _ (err 0 (by omega))
      · rw [if_neg (by omega)]
        have hv0 : v = 0 := hz2 cd c48
        subst hv0
        rw [if_neg (by decide)]
        dsimp only
        rw [br_beq, if_pos rfl]
        rw [if_neg (by omega), if_neg (by decide)] at h2
        exact h2 rfl
    · rw [if_neg (by omega)]
      by_cases cv : v > 2 ^ 63
      · rw [if_pos cv]
        dsimp only
        rw [br_beq, if_pos rfl]
        refine hscan _ ?_
        rw [if_neg (by omega), if_pos (by omega)]
        dsimp only
        rw [br_beq, if_neg (by decide)]
        rw [if_neg (by omega), if_pos cv] at h1
        exact h1 (by decide) _ (err 0 (by omega))
      · rw [if_neg cv]
        dsimp only
        have hv1 : v ≠ 0 := fun h => c48 (hz h)
        rw [br_beq, if_neg (by omega)]
        rw [if_neg (by omega), if_neg cv] at h2
        have e1 : IntKind.i64.wrap (0 - -(v : Int)) = w64 v := by congr 1; omega
        have e2 : IntKind.i64.wrap (IntKind.i64.wrap (((p + a : Nat) : Int) + ((1 + d : Nat) : Int)) - 1) = ((p + a + d : Nat) : Int) := by
          rw [wrap_id (n := ((p + a : Nat) : Int) + ((1 + d : Nat) : Int)) (by omega) (by omega), wrap_id (by omega) (by omega)]
          omega
        rw [e1, e2]
        exact h2 rfl

/-- What a reader hands on. -/
def Rd (s : ByteArray) (p : Nat) (g : Got) (k : Int → ByteArray → Int → Int → Int → Int → ByteArray → Int → Prop) : Prop :=
  (g.code ≠ 0 → ∀ a b c d e, k a b c d e g.code s p) ∧ (g.code = 0 → k g.kind (bytesOf g.text) g.num g.cls p 0 s p)

theorem take_s (s : ByteArray) (p : Nat) (x0 : Int) (x1 : ByteArray) (x2 x3 x4 : Int) (e : Int) (he : e ≤ s.size) (k : Int → ByteArray → Int → Int → Int → ByteArray → Int → Prop)
    (h : k x0 (if e > p then bytesOf (((ofBytes s).drop p).take (e.toNat - p)) else x1) x2 x3 p s p) : N61.f x0 x1 x2 x3 x4 e s (p : Int) k := by
  rw [N61.f_def]
  unfold N61.f0 N61.c N61.j4' N61.j4
  simp only [br_dec]
  split
  · rename_i h1
    rw [if_pos h1] at h
    refine ⟨⟨by omega, by omega, by omega⟩, ?_⟩
    have := part_eq s p (e.toNat - p)
    rw [show (((p + (e.toNat - p) : Nat) : Int)) = e by omega] at this
    rw [this]; exact h
  · rename_i h1
    rw [if_neg h1] at h
    exact h

theorem id_s (s : ByteArray) (hs : s.size ≤ reachBytes) (p a : Nat) (hp : p < s.size) (ha : a ≤ 2) (ha0 : 0 < a) (kind cls : Int) (k : Int → ByteArray → Int → Int → Int → Int → ByteArray → Int → Prop)
    (h : Rd s p (numS kind a cls ((ofBytes s).drop p)) k) : N63.f kind (a : Int) cls s (p : Int) k := by
  have hr : reachBytes < 2 ^ 47 := reachBytes_lt
  have hl := ofBytes_length s
  rw [N63.f_def]
  unfold N63.f0 N63.c N63.j2000003' N63.j2000003 N63.j4' N63.j4
  unfold Rd at h
  rw [numS_eq, List.drop_drop] at h
  obtain ⟨ha1, ha2⟩ := h
  have hrl := run_le ((ofBytes s).drop (p + a))
  rw [List.length_drop, hl] at hrl
  have bad : ∀ (n e c : Int), e ≤ s.size → (∀ t0 t1 t2 t3 t4, k t0 t1 t2 t3 t4 c s p) → N61.f kind (ByteArray.mk #[]) n cls 0 e s (p : Int) (fun y0 y1 y2 y3 y4 z0 z1 => k y0 y1 y2 y3 y4 c z0 z1) := by
    intro n e c he hk
    exact take_s s p _ _ _ _ _ e he _ (hk _ _ _ _ _)
  refine digits_s' s hs p a hp ha _ ?_ ?_
  · intro hd e he
    rw [if_pos hd] at ha1
    simp only [Got.bad] at ha1
    rw [br_beq, if_neg hd]
    simp only [br_false]
    exact bad _ _ _ he (ha1 hd)
  · intro hd
    rw [if_neg (by simpa using hd)] at ha1 ha2
    have hv : val (((ofBytes s).drop (p + a)).take (run ((ofBytes s).drop (p + a)))) ≤ 2 ^ 63 := by
      unfold digC at hd
      split at hd
      · cases hd
      · split at hd
        · cases hd
        · omega
    have hd0 : 1 ≤ run ((ofBytes s).drop (p + a)) := by
      unfold digC at hd
      split at hd
      · cases hd
      · omega
    have hpa : p + a + run ((ofBytes s).drop (p + a)) ≤ s.size := by
      rcases Nat.lt_or_ge (p + a) s.size with hh | hh
      · omega
      · rw [List.drop_of_length_le (by omega)] at hd0; simp [run] at hd0
    generalize val (((ofBytes s).drop (p + a)).take (run ((ofBytes s).drop (p + a)))) = v at *
    generalize run ((ofBytes s).drop (p + a)) = d at *
    rw [br_beq, if_pos rfl]
    have good : ¬ v > 2 ^ 31 - 1 → N61.f kind (ByteArray.mk #[]) (w64 v) cls 0 ((p + a + d : Nat) : Int) s (p : Int) (fun y0 y1 y2 y3 y4 z0 z1 => k y0 y1 y2 y3 y4 0 z0 z1) := by
      intro hv2
      rw [if_neg (fun hh => hv2 hh.2)] at ha2
      refine take_s s p _ _ _ _ _ _ (by omega) _ ?_
      rw [if_pos (by omega), show ((p + a + d : Nat) : Int).toNat - p = a + d by omega]
      exact ha2 rfl
    have wrong : v > 2 ^ 31 - 1 → N61.f kind (ByteArray.mk #[]) (w64 v) cls 0 ((p + a + d : Nat) : Int) s (p : Int) (fun y0 y1 y2 y3 y4 z0 z1 => k y0 y1 y2 y3 y4 2 z0 z1) := by
      intro hv2
      rw [if_pos ⟨ha0, hv2⟩] at ha1
      simp only [Got.bad] at ha1
      exact bad _ _ _ (by omega) (ha1 (by decide))
    by_cases hv63 : v = 2 ^ 63
    · have e1 : w64 (v : Int) < 0 := by rw [hv63]; decide
      rw [br_dec, if_pos e1]
      simp only [br_true]
      exact wrong (by omega)
    · have e1 : w64 (v : Int) = v := w64_id ⟨by omega, by omega⟩
      rw [e1] at good wrong ⊢
      rw [br_dec, if_neg (by omega)]
      refine br_of (fun hh => wrong ?_) (fun hh => good ?_)
      · have := of_decide_eq_true hh; omega
      · have := of_decide_eq_false hh; omega

theorem number_s (s : ByteArray) (hs : s.size ≤ reachBytes) (p : Nat) (hp : p < s.size) (k : Int → ByteArray → Int → Int → Int → Int → ByteArray → Int → Prop)
    (h : Rd s p (numS 2 0 0 ((ofBytes s).drop p)) k) : N40.f s (p : Int) k := by
  have hr : reachBytes < 2 ^ 47 := reachBytes_lt
  have hl := ofBytes_length s
  rw [N40.f_def]
  unfold N40.f0 N40.c
  unfold Rd at h
  rw [numS_eq, List.drop_drop] at h
  obtain ⟨ha1, ha2⟩ := h
  have hrl := run_le ((ofBytes s).drop (p + 0))
  rw [List.length_drop, hl] at hrl
  refine digits_s' s hs p 0 hp (by omega) _ ?_ ?_
  · intro hd e he
    rw [if_pos hd] at ha1
    simp only [Got.bad] at ha1
    exact take_s s p _ _ _ _ _ e he _ (ha1 hd _ _ _ _ _)
  · intro hd
    rw [if_neg (by simpa using hd), if_neg (fun hh => absurd hh.1 (by decide))] at ha2
    have hd0 : 1 ≤ run ((ofBytes s).drop (p + 0)) := by
      unfold digC at hd
      split at hd
      · cases hd
      · omega
    refine take_s s p _ _ _ _ _ _ (by omega) _ ?_
    rw [if_pos (by omega), show ((p + 0 + run ((ofBytes s).drop (p + 0)) : Nat) : Int).toNat - p = 0 + run ((ofBytes s).drop (p + 0)) by omega]
    exact ha2 rfl
theorem vreg_s (s : ByteArray) (hs : s.size ≤ reachBytes) (p : Nat) (hp : p < s.size) (k : Int → ByteArray → Int → Int → Int → Int → ByteArray → Int → Prop)
    (h : Rd s p (numS 4 1 0 ((ofBytes s).drop p)) k) : N43.f s (p : Int) k := by
  rw [N43.f_def]
  unfold N43.f0 N43.c
  exact id_s s hs p 1 hp (by omega) (by omega) _ _ _ h
theorem slot_s (s : ByteArray) (hs : s.size ≤ reachBytes) (p : Nat) (hp : p < s.size) (k : Int → ByteArray → Int → Int → Int → Int → ByteArray → Int → Prop)
    (h : Rd s p (numS 6 1 0 ((ofBytes s).drop p)) k) : N45.f s (p : Int) k := by
  rw [N45.f_def]
  unfold N45.f0 N45.c
  exact id_s s hs p 1 hp (by omega) (by omega) _ _ _ h
theorem preg_s (s : ByteArray) (hs : s.size ≤ reachBytes) (p : Nat) (hp : p < s.size) (k : Int → ByteArray → Int → Int → Int → Int → ByteArray → Int → Prop)
    (h : Rd s p (if (ofBytes s).getD (p + 1) 0 = 103 then numS 5 2 0 ((ofBytes s).drop p) else if (ofBytes s).getD (p + 1) 0 = 120 then numS 5 2 1 ((ofBytes s).drop p) else .bad 12 0) k) : N44.f s (p : Int) k := by
  rw [N44.f_def]
  unfold N44.f0 N44.c
  refine peek_s s hs p 1 (by omega) (by omega) _ ?_
  simp only [br_beq]
  split
  · rename_i h1
    rw [if_pos h1] at h
    exact id_s s hs p 2 hp (by omega) (by omega) _ _ _ h
  · rename_i h1
    rw [if_neg h1] at h
    split
    · rename_i h2
      rw [if_pos h2] at h
      exact id_s s hs p 2 hp (by omega) (by omega) _ _ _ h
    · rename_i h2
      rw [if_neg h2] at h
      exact h.1 (by decide) _ _ _ _ _
theorem word_s (s : ByteArray) (hs : s.size ≤ reachBytes) (p : Nat) (hp : p < s.size) (hL : isL ((ofBytes s).getD p 0) = true) (k : Int → ByteArray → Int → Int → Int → Int → ByteArray → Int → Prop)
    (h : Rd s p (if runS ((ofBytes s).drop p) > 24 then .bad 3 0 else ⟨1, ((ofBytes s).drop p).take (runS ((ofBytes s).drop p)), 0, 0, runS ((ofBytes s).drop p), 0, 0⟩) k) : N42.f s (p : Int) k := by
  have hr : reachBytes < 2 ^ 47 := reachBytes_lt
  have hl := ofBytes_length s
  rw [N42.f_def]
  unfold N42.f0 N42.c
  refine nscan_s s hs _ _ ?_
  have e : scanN (ofBytes s) (p : Int) = ((p + runS ((ofBytes s).drop p) : Nat) : Int) := by
    unfold scanN
    rw [if_neg (by rw [Int.toNat_natCast, hL, hl]; simp; omega), Int.toNat_natCast]
  have hrl := runS_le ((ofBytes s).drop p)
  have h1 : 1 ≤ runS ((ofBytes s).drop p) := by
    rw [drop_get (d := 0) (by omega)]
    exact runS_pos hL
  rw [List.length_drop, hl] at hrl
  rw [e]
  refine take_s s p _ _ _ _ _ _ (by omega) _ ?_
  rw [if_pos (by omega), show ((p + runS ((ofBytes s).drop p) : Nat) : Int).toNat - p = runS ((ofBytes s).drop p) by omega]
  have esz : (bytesOf (((ofBytes s).drop p).take (runS ((ofBytes s).drop p)))).size = runS ((ofBytes s).drop p) := by
    rw [bytesOf_size, List.length_take, List.length_drop, hl]; omega
  rw [esz]
  simp only [br_dec]
  split
  · rename_i h2
    rw [if_pos (by omega)] at h
    exact h.1 (by decide) _ _ _ _ _
  · rename_i h2
    rw [if_neg (by omega)] at h
    exact h.2 rfl
theorem sign_s' (s : ByteArray) (hs : s.size ≤ reachBytes) (p : Nat) (hp : p < s.size) (k : Int → ByteArray → Int → Int → Int → Int → ByteArray → Int → Prop)
    (h : Rd s p (if (ofBytes s).getD p 0 = 46 ∧ (ofBytes s).getD (p + 1) 0 = 46 then ⟨7, [46, 46], 0, 0, 2, 0, 0⟩ else ⟨7, [(ofBytes s).getD p 0], 0, 0, 1, 0, 0⟩) k) : N46.f s (p : Int) k := by
  have hr : reachBytes < 2 ^ 47 := reachBytes_lt
  have hl := ofBytes_length s
  rw [N46.f_def]
  unfold N46.f0 N46.c N46.j2000003' N46.j2000003 N46.j4' N46.j4
  refine peek_s s hs p 0 (by omega) (by omega) _ ?_
  rw [Nat.add_zero]
  have ew : IntKind.i64.wrap ((p : Int) + 1) = ((p + 1 : Nat) : Int) := by rw [wrap_id (by omega) (by omega)]; omega
  have ew2 : IntKind.i64.wrap (((p + 1 : Nat) : Int) + 1) = ((p + 2 : Nat) : Int) := by rw [wrap_id (by omega) (by omega)]; omega
  rw [ew]
  dsimp only
  rw [ew2]
  have one : ¬ ((ofBytes s).getD p 0 = 46 ∧ (ofBytes s).getD (p + 1) 0 = 46) → N61.f 7 (ByteArray.mk #[]) 0 0 0 ((p + 1 : Nat) : Int) s (p : Int) (fun y0 y1 y2 y3 y4 z0 z1 => k y0 y1 y2 y3 y4 0 z0 z1) := by
    intro hn
    rw [if_neg hn] at h
    refine take_s s p _ _ _ _ _ _ (by omega) _ ?_
    rw [if_pos (by omega), show ((p + 1 : Nat) : Int).toNat - p = 1 by omega, drop_get (d := 0) (by omega : p < (ofBytes s).length)]
    exact h.2 rfl
  simp only [br_beq]
  split
  · rename_i h1
    refine peek_s s hs p 1 (by omega) (by omega) _ ?_
    split
    · rename_i h2
      rw [if_pos ⟨h1, h2⟩] at h
      have hp1 : p + 1 < s.size := by
        rcases Nat.lt_or_ge (p + 1) s.size with hh | hh
        · exact hh
        · rw [show (ofBytes s).getD (p + 1) 0 = 0 by simp [List.getD, List.getElem?_eq_none (show (ofBytes s).length ≤ p + 1 by omega)]] at h2
          cases h2
      refine take_s s p _ _ _ _ _ _ (by omega) _ ?_
      rw [if_pos (by omega), show ((p + 2 : Nat) : Int).toNat - p = 2 by omega, drop_get (d := 0) (by omega : p < (ofBytes s).length), drop_get (d := 0) (by omega : p + 1 < (ofBytes s).length), h1, h2]
      exact h.2 rfl
    · rename_i h2
      exact one (fun hh => h2 hh.2)
  · rename_i h1
    simp only [br_false]
    exact one (fun hh => h1 hh.1)
end Go.Proofs.Ye
namespace Go.Proofs.Ye
open Go Go.Aw Go.Proofs
set_option linter.unusedVariables false
set_option linter.unusedSimpArgs false
set_option maxRecDepth 100000
/-! (*dyehouse/lex.reader).kind -/
namespace N25
noncomputable def cfg : Cfg := { P := Tryd.prog, tf := 49, tw := 0, ty := tys, E := tab [(39, N39.ent), (41, N41.ent), (36, N36.ent)], atSeq := tab [], atLoop := tab [], outs := [], eqT := tab [], bT := tab [] }
noncomputable def body : Code := bodyOf Tryd.f25
def c (x1 : Int) (b0_0 : ByteArray) (b0_1 : Int) (k : ByteArray → Int → Prop) (k1 : ByteArray → Int → Prop) (k2 : ByteArray → Int → Prop) (k3 : ByteArray → Int → Prop) (k4 : ByteArray → Int → Prop) (k5 : ByteArray → Int → Prop) (k6 : ByteArray → Int → Prop) : Prop :=
  (N39.f x1 (fun (y0_0 : Bool) => (br y0_0 (k b0_0 b0_1) (N41.f x1 (fun (y0_1 : Bool) => (br y0_1 (k1 b0_0 b0_1) (br (x1 == (37 : Int)) (k2 b0_0 b0_1) (br (x1 == (36 : Int)) (k3 b0_0 b0_1) (br (x1 == (35 : Int)) (k4 b0_0 b0_1) (N36.f (ByteArray.mk #[123, 125, 40, 41, 91, 93, 44, 58, 59, 61, 43, 45, 42, 46]) x1 (fun (y0_2 : Int) => (br (decide (y0_2 ≥ (0 : Int))) (k5 b0_0 b0_1) (k6 b0_0 b0_1)))))))))))))
def f0 (x1 : Int) (b0_0 : ByteArray) (b0_1 : Int) (k : ByteArray → Int → Prop) (k1 : ByteArray → Int → Prop) (k2 : ByteArray → Int → Prop) (k3 : ByteArray → Int → Prop) (k4 : ByteArray → Int → Prop) (k5 : ByteArray → Int → Prop) (k6 : ByteArray → Int → Prop) : Prop := c x1 b0_0 b0_1 k k1 k2 k3 k4 k5 k6
theorem f_ex : ∃ g : Int → ByteArray → Int → (ByteArray → Int → Prop) → (ByteArray → Int → Prop) → (ByteArray → Int → Prop) → (ByteArray → Int → Prop) → (ByteArray → Int → Prop) → (ByteArray → Int → Prop) → (ByteArray → Int → Prop) → Prop, g = f0 := ⟨_, rfl⟩
noncomputable def f : Int → ByteArray → Int → (ByteArray → Int → Prop) → (ByteArray → Int → Prop) → (ByteArray → Int → Prop) → (ByteArray → Int → Prop) → (ByteArray → Int → Prop) → (ByteArray → Int → Prop) → (ByteArray → Int → Prop) → Prop := Classical.choose f_ex
theorem f_def : f = f0 := Classical.choose_spec f_ex
noncomputable def JJ (k kp : D → List Blk → Prop) : Nat → St → Prop := pick none' []
noncomputable def LL (k kp : D → List Blk → Prop) : Nat → St → Prop := pick none' []
theorem c_c (k kp : D → List Blk → Prop) (J L : Nat → St → Prop) (x1 : Int) (b0_0 : ByteArray) (b0_1 : Int) : runC cfg 1000001 J L none'' [] body (topK cfg Tryd.f25 k kp) (st0 Tryd.f25 [(.ptr 0 0), (.v (.int IntKind.u8 x1))] [(.box 57 [(.v (.string b0_0)), (.v (.int IntKind.i64 b0_1))])]) = c x1 b0_0 b0_1 (fun z0_0 z0_1 => k (.clo 40 [(.ptr 0 0)] []) [(.box 57 [(.v (.string z0_0)), (.v (.int IntKind.i64 z0_1))])]) (fun z0_0 z0_1 => k (.clo 42 [(.ptr 0 0)] []) [(.box 57 [(.v (.string z0_0)), (.v (.int IntKind.i64 z0_1))])]) (fun z0_0 z0_1 => k (.clo 43 [(.ptr 0 0)] []) [(.box 57 [(.v (.string z0_0)), (.v (.int IntKind.i64 z0_1))])]) (fun z0_0 z0_1 => k (.clo 44 [(.ptr 0 0)] []) [(.box 57 [(.v (.string z0_0)), (.v (.int IntKind.i64 z0_1))])]) (fun z0_0 z0_1 => k (.clo 45 [(.ptr 0 0)] []) [(.box 57 [(.v (.string z0_0)), (.v (.int IntKind.i64 z0_1))])]) (fun z0_0 z0_1 => k (.clo 46 [(.ptr 0 0)] []) [(.box 57 [(.v (.string z0_0)), (.v (.int IntKind.i64 z0_1))])]) (fun z0_0 z0_1 => k (.v Value.nilFunc) [(.box 57 [(.v (.string z0_0)), (.v (.int IntKind.i64 z0_1))])]) := by kernel_rfl
theorem c_ag (k kp : D → List Blk → Prop) : agPL cfg 1000001 (JJ k kp) (LL k kp) [] body = agPR cfg 1000001 none'' [] body (topK cfg Tryd.f25 k kp) := by kernel_rfl
theorem body_is : Tryd.f25.body = some body := by kernel_rfl
theorem c_raw (k kp : D → List Blk → Prop) (x1 : Int) (b0_0 : ByteArray) (b0_1 : Int) : funW cfg Tryd.f25 [(.ptr 0 0), (.v (.int IntKind.u8 x1))] [(.box 57 [(.v (.string b0_0)), (.v (.int IntKind.i64 b0_1))])] k kp = c x1 b0_0 b0_1 (fun z0_0 z0_1 => k (.clo 40 [(.ptr 0 0)] []) [(.box 57 [(.v (.string z0_0)), (.v (.int IntKind.i64 z0_1))])]) (fun z0_0 z0_1 => k (.clo 42 [(.ptr 0 0)] []) [(.box 57 [(.v (.string z0_0)), (.v (.int IntKind.i64 z0_1))])]) (fun z0_0 z0_1 => k (.clo 43 [(.ptr 0 0)] []) [(.box 57 [(.v (.string z0_0)), (.v (.int IntKind.i64 z0_1))])]) (fun z0_0 z0_1 => k (.clo 44 [(.ptr 0 0)] []) [(.box 57 [(.v (.string z0_0)), (.v (.int IntKind.i64 z0_1))])]) (fun z0_0 z0_1 => k (.clo 45 [(.ptr 0 0)] []) [(.box 57 [(.v (.string z0_0)), (.v (.int IntKind.i64 z0_1))])]) (fun z0_0 z0_1 => k (.clo 46 [(.ptr 0 0)] []) [(.box 57 [(.v (.string z0_0)), (.v (.int IntKind.i64 z0_1))])]) (fun z0_0 z0_1 => k (.v Value.nilFunc) [(.box 57 [(.v (.string z0_0)), (.v (.int IntKind.i64 z0_1))])]) :=
  Eq.mp (by kernel_rfl) ((funW_run (AG := none'') body_is (c_ag k kp) [(.ptr 0 0), (.v (.int IntKind.u8 x1))] [(.box 57 [(.v (.string b0_0)), (.v (.int IntKind.i64 b0_1))])]).trans (c_c k kp (JJ k kp) (LL k kp) x1 b0_0 b0_1))
theorem f_eq (k kp : D → List Blk → Prop) (x1 : Int) (b0_0 : ByteArray) (b0_1 : Int) : funW cfg Tryd.f25 [(.ptr 0 0), (.v (.int IntKind.u8 x1))] [(.box 57 [(.v (.string b0_0)), (.v (.int IntKind.i64 b0_1))])] k kp = f x1 b0_0 b0_1 (fun z0_0 z0_1 => k (.clo 40 [(.ptr 0 0)] []) [(.box 57 [(.v (.string z0_0)), (.v (.int IntKind.i64 z0_1))])]) (fun z0_0 z0_1 => k (.clo 42 [(.ptr 0 0)] []) [(.box 57 [(.v (.string z0_0)), (.v (.int IntKind.i64 z0_1))])]) (fun z0_0 z0_1 => k (.clo 43 [(.ptr 0 0)] []) [(.box 57 [(.v (.string z0_0)), (.v (.int IntKind.i64 z0_1))])]) (fun z0_0 z0_1 => k (.clo 44 [(.ptr 0 0)] []) [(.box 57 [(.v (.string z0_0)), (.v (.int IntKind.i64 z0_1))])]) (fun z0_0 z0_1 => k (.clo 45 [(.ptr 0 0)] []) [(.box 57 [(.v (.string z0_0)), (.v (.int IntKind.i64 z0_1))])]) (fun z0_0 z0_1 => k (.clo 46 [(.ptr 0 0)] []) [(.box 57 [(.v (.string z0_0)), (.v (.int IntKind.i64 z0_1))])]) (fun z0_0 z0_1 => k (.v Value.nilFunc) [(.box 57 [(.v (.string z0_0)), (.v (.int IntKind.i64 z0_1))])]) := by
  rw [f_def, c_raw]; rfl
noncomputable def ent0 : Entry := fun args blks k _ => match args, blks with
  | [d0, d1], [e0] => aPtr 0 0 d0 (aInt IntKind.u8 d1 fun x1 => aBox 57 e0 fun l => aCons l fun e0_0 l => aCons l fun e0_1 l => aNil l (aStr e0_0 fun b0_0 => aInt IntKind.i64 e0_1 fun b0_1 => f x1 b0_0 b0_1 (fun z0_0 z0_1 => k (.clo 40 [(.ptr 0 0)] []) [(.box 57 [(.v (.string z0_0)), (.v (.int IntKind.i64 z0_1))])]) (fun z0_0 z0_1 => k (.clo 42 [(.ptr 0 0)] []) [(.box 57 [(.v (.string z0_0)), (.v (.int IntKind.i64 z0_1))])]) (fun z0_0 z0_1 => k (.clo 43 [(.ptr 0 0)] []) [(.box 57 [(.v (.string z0_0)), (.v (.int IntKind.i64 z0_1))])]) (fun z0_0 z0_1 => k (.clo 44 [(.ptr 0 0)] []) [(.box 57 [(.v (.string z0_0)), (.v (.int IntKind.i64 z0_1))])]) (fun z0_0 z0_1 => k (.clo 45 [(.ptr 0 0)] []) [(.box 57 [(.v (.string z0_0)), (.v (.int IntKind.i64 z0_1))])]) (fun z0_0 z0_1 => k (.clo 46 [(.ptr 0 0)] []) [(.box 57 [(.v (.string z0_0)), (.v (.int IntKind.i64 z0_1))])]) (fun z0_0 z0_1 => k (.v Value.nilFunc) [(.box 57 [(.v (.string z0_0)), (.v (.int IntKind.i64 z0_1))])])))
  | _, _ => False
noncomputable def ent : Entry := fun args blks k kp => ent0 (convB [.no, .no] args) blks k kp
theorem ok : EntOk Tryd.prog 49 0 25 ent := by
  refine EntOk.convB (EntOk.of (funW_ok (cfg := cfg) (tyOk_of rfl rfl tyL_ok) (eqOk_of (P := Tryd.prog) rfl rfl (by kernel_rfl)) mixed_ok (tab_ok ?_) Tryd.func25 (by rfl) (by rfl)) ?_) _
  · intro p hp
    simp only [List.mem_cons, List.not_mem_nil, or_false] at hp
    rcases hp with rfl | rfl | rfl
    · exact N39.ok
    · exact N41.ok
    · exact N36.ok
  · intro args blks k kp h k' kp'
    match args, blks, h with
    | [d0, d1], [e0], h =>
    dsimp only [ent0] at h
    have h9 := aPtr_elim h; clear h; obtain ⟨rfl, h⟩ := h9
    have h9 := aInt_elim h; clear h; obtain ⟨x1, rfl, h⟩ := h9
    have h9 := aBox_elim h; clear h; obtain ⟨_, rfl, h⟩ := h9
    have h9 := aCons_elim h; clear h; obtain ⟨e0_0, _, rfl, h⟩ := h9
    have h9 := aCons_elim h; clear h; obtain ⟨e0_1, _, rfl, h⟩ := h9
    have h9 := aNil_elim h; clear h; obtain ⟨rfl, h⟩ := h9
    have h9 := aStr_elim h; clear h; obtain ⟨b0_0, rfl, h⟩ := h9
    have h9 := aInt_elim h; clear h; obtain ⟨b0_1, rfl, h⟩ := h9
    exact (f_eq k' kp' x1 b0_0 b0_1).symm
end N25
end Go.Proofs.Ye
namespace Go.Proofs.Ye
open Go Go.Aw Go.Proofs
set_option linter.unusedVariables false
set_option linter.unusedSimpArgs false
set_option maxRecDepth 100000
/-! dyehouse/lex.All -/
namespace N14
noncomputable def cfg : Cfg := { P := Tryd.prog, tf := 49, tw := 0, ty := tys, E := tab [(22, N22.ent), (23, N23.ent), (24, N24.ent), (25, N25.ent), (40, N40.ent), (42, N42.ent), (43, N43.ent), (44, N44.ent), (45, N45.ent), (46, N46.ent)], atSeq := tab [(21, ⟨[(4, .keep), (5, .keep)]⟩)], atLoop := tab [(5, ⟨[(0, .keep), (4, .keep), (5, .own 42 (Ty.pair (Ty.int IntKind.i64) (Ty.pair Ty.str (Ty.pair (Ty.int IntKind.i64) (Ty.pair (Ty.int IntKind.i64) (Ty.int IntKind.i64))))))]⟩)], outs := [.own 42 (Ty.pair (Ty.int IntKind.i64) (Ty.pair Ty.str (Ty.pair (Ty.int IntKind.i64) (Ty.pair (Ty.int IntKind.i64) (Ty.int IntKind.i64))))), .keep], eqT := tab [], bT := tab [] }
noncomputable def body : Code := bodyOf Tryd.f14
def l5 (j21 : ByteArray → Int → (List (Int × (ByteArray × (Int × (Int × Int))))) → Prop) (ag5 : ByteArray → Int → (List (Int × (ByteArray × (Int × (Int × Int))))) → Prop) (x0 : ByteArray) (b0_0 : ByteArray) (b0_1 : Int) (b1 : (List (Int × (ByteArray × (Int × (Int × Int)))))) (k : Err → (List (Int × (ByteArray × (Int × (Int × Int))))) → Prop) : Prop :=
  (N23.f b0_0 b0_1 (fun (z0_0_0 : ByteArray) (z0_1_0 : Int) => (br (z0_1_0 == ((((x0).size : Nat) : Int))) (j21 z0_0_0 z0_1_0 b1) ((inB 0 z0_1_0 ((((x0).size : Nat) : Int) - 1)) ∧ (br ((byteAt x0 z0_1_0) == (34 : Int)) (N24.f z0_0_0 z0_1_0 (fun (y0_0_1 : Int) (y0_1_1 : ByteArray) (y0_2_1 : Int) (y0_3_1 : Int) (y0_4_1 : Int) (y1_1 : Int) (y2_1 : Int) (z0_0_1 : ByteArray) (z0_1_1 : Int) => (br (y2_1 != (0 : Int)) (k (newE y2_1 y1_1) ([] : List (Int × (ByteArray × (Int × (Int × Int)))))) ((room ((b1).length + (([(y0_0_1, (y0_1_1, (y0_2_1, (y0_3_1, y0_4_1))))] : List (Int × (ByteArray × (Int × (Int × Int)))))).length) 48) ∧ (ag5 z0_0_1 y1_1 (b1 ++ ([(y0_0_1, (y0_1_1, (y0_2_1, (y0_3_1, y0_4_1))))] : List (Int × (ByteArray × (Int × (Int × Int))))))))))) ((inB 0 z0_1_0 ((((x0).size : Nat) : Int) - 1)) ∧ (N25.f (byteAt x0 z0_1_0) z0_0_0 z0_1_0 (fun (z0_0_2 : ByteArray) (z0_1_2 : Int) => (N40.f z0_0_2 z0_1_2 (fun (y0_0_3 : Int) (y0_1_3 : ByteArray) (y0_2_3 : Int) (y0_3_3 : Int) (y0_4_3 : Int) (y1_3 : Int) (z0_0_3 : ByteArray) (z0_1_3 : Int) => (br (y1_3 != (0 : Int)) (k (newE y1_3 z0_1_3) ([] : List (Int × (ByteArray × (Int × (Int × Int)))))) ((room ((b1).length + (([(y0_0_3, (y0_1_3, (y0_2_3, (y0_3_3, y0_4_3))))] : List (Int × (ByteArray × (Int × (Int × Int)))))).length) 48) ∧ (ag5 z0_0_3 (IntKind.i64.wrap (z0_1_3 + ((((y0_1_3).size : Nat) : Int)))) (b1 ++ ([(y0_0_3, (y0_1_3, (y0_2_3, (y0_3_3, y0_4_3))))] : List (Int × (ByteArray × (Int × (Int × Int)))))))))))) (fun (z0_0_4 : ByteArray) (z0_1_4 : Int) => (N42.f z0_0_4 z0_1_4 (fun (y0_0_5 : Int) (y0_1_5 : ByteArray) (y0_2_5 : Int) (y0_3_5 : Int) (y0_4_5 : Int) (y1_5 : Int) (z0_0_5 : ByteArray) (z0_1_5 : Int) => (br (y1_5 != (0 : Int)) (k (newE y1_5 z0_1_5) ([] : List (Int × (ByteArray × (Int × (Int × Int)))))) ((room ((b1).length + (([(y0_0_5, (y0_1_5, (y0_2_5, (y0_3_5, y0_4_5))))] : List (Int × (ByteArray × (Int × (Int × Int)))))).length) 48) ∧ (ag5 z0_0_5 (IntKind.i64.wrap (z0_1_5 + ((((y0_1_5).size : Nat) : Int)))) (b1 ++ ([(y0_0_5, (y0_1_5, (y0_2_5, (y0_3_5, y0_4_5))))] : List (Int × (ByteArray × (Int × (Int × Int)))))))))))) (fun (z0_0_6 : ByteArray) (z0_1_6 : Int) => (N43.f z0_0_6 z0_1_6 (fun (y0_0_7 : Int) (y0_1_7 : ByteArray) (y0_2_7 : Int) (y0_3_7 : Int) (y0_4_7 : Int) (y1_7 : Int) (z0_0_7 : ByteArray) (z0_1_7 : Int) => (br (y1_7 != (0 : Int)) (k (newE y1_7 z0_1_7) ([] : List (Int × (ByteArray × (Int × (Int × Int)))))) ((room ((b1).length + (([(y0_0_7, (y0_1_7, (y0_2_7, (y0_3_7, y0_4_7))))] : List (Int × (ByteArray × (Int × (Int × Int)))))).length) 48) ∧ (ag5 z0_0_7 (IntKind.i64.wrap (z0_1_7 + ((((y0_1_7).size : Nat) : Int)))) (b1 ++ ([(y0_0_7, (y0_1_7, (y0_2_7, (y0_3_7, y0_4_7))))] : List (Int × (ByteArray × (Int × (Int × Int)))))))))))) (fun (z0_0_8 : ByteArray) (z0_1_8 : Int) => (N44.f z0_0_8 z0_1_8 (fun (y0_0_9 : Int) (y0_1_9 : ByteArray) (y0_2_9 : Int) (y0_3_9 : Int) (y0_4_9 : Int) (y1_9 : Int) (z0_0_9 : ByteArray) (z0_1_9 : Int) => (br (y1_9 != (0 : Int)) (k (newE y1_9 z0_1_9) ([] : List (Int × (ByteArray × (Int × (Int × Int)))))) ((room ((b1).length + (([(y0_0_9, (y0_1_9, (y0_2_9, (y0_3_9, y0_4_9))))] : List (Int × (ByteArray × (Int × (Int × Int)))))).length) 48) ∧ (ag5 z0_0_9 (IntKind.i64.wrap (z0_1_9 + ((((y0_1_9).size : Nat) : Int)))) (b1 ++ ([(y0_0_9, (y0_1_9, (y0_2_9, (y0_3_9, y0_4_9))))] : List (Int × (ByteArray × (Int × (Int × Int)))))))))))) (fun (z0_0_10 : ByteArray) (z0_1_10 : Int) => (N45.f z0_0_10 z0_1_10 (fun (y0_0_11 : Int) (y0_1_11 : ByteArray) (y0_2_11 : Int) (y0_3_11 : Int) (y0_4_11 : Int) (y1_11 : Int) (z0_0_11 : ByteArray) (z0_1_11 : Int) => (br (y1_11 != (0 : Int)) (k (newE y1_11 z0_1_11) ([] : List (Int × (ByteArray × (Int × (Int × Int)))))) ((room ((b1).length + (([(y0_0_11, (y0_1_11, (y0_2_11, (y0_3_11, y0_4_11))))] : List (Int × (ByteArray × (Int × (Int × Int)))))).length) 48) ∧ (ag5 z0_0_11 (IntKind.i64.wrap (z0_1_11 + ((((y0_1_11).size : Nat) : Int)))) (b1 ++ ([(y0_0_11, (y0_1_11, (y0_2_11, (y0_3_11, y0_4_11))))] : List (Int × (ByteArray × (Int × (Int × Int)))))))))))) (fun (z0_0_12 : ByteArray) (z0_1_12 : Int) => (N46.f z0_0_12 z0_1_12 (fun (y0_0_13 : Int) (y0_1_13 : ByteArray) (y0_2_13 : Int) (y0_3_13 : Int) (y0_4_13 : Int) (y1_13 : Int) (z0_0_13 : ByteArray) (z0_1_13 : Int) => (br (y1_13 != (0 : Int)) (k (newE y1_13 z0_1_13) ([] : List (Int × (ByteArray × (Int × (Int × Int)))))) ((room ((b1).length + (([(y0_0_13, (y0_1_13, (y0_2_13, (y0_3_13, y0_4_13))))] : List (Int × (ByteArray × (Int × (Int × Int)))))).length) 48) ∧ (ag5 z0_0_13 (IntKind.i64.wrap (z0_1_13 + ((((y0_1_13).size : Nat) : Int)))) (b1 ++ ([(y0_0_13, (y0_1_13, (y0_2_13, (y0_3_13, y0_4_13))))] : List (Int × (ByteArray × (Int × (Int × Int)))))))))))) (fun (z0_0_14 : ByteArray) (z0_1_14 : Int) => (k (newE (10 : Int) z0_1_14) ([] : List (Int × (ByteArray × (Int × (Int × Int))))))))))))))
def j21 (b0_0 : ByteArray) (b0_1 : Int) (b1 : (List (Int × (ByteArray × (Int × (Int × Int)))))) (k : Err → (List (Int × (ByteArray × (Int × (Int × Int))))) → Prop) : Prop :=
  ((room ((b1).length + (([((0 : Int), ((ByteArray.mk #[]), ((0 : Int), ((0 : Int), b0_1))))] : List (Int × (ByteArray × (Int × (Int × Int)))))).length) 48) ∧ (k Err.nil (b1 ++ ([((0 : Int), ((ByteArray.mk #[]), ((0 : Int), ((0 : Int), b0_1))))] : List (Int × (ByteArray × (Int × (Int × Int))))))))
def c (l5 : ByteArray → ByteArray → Int → (List (Int × (ByteArray × (Int × (Int × Int))))) → Prop) (x0 : ByteArray) (k : Err → (List (Int × (ByteArray × (Int × (Int × Int))))) → Prop) : Prop :=
  (br (decide (((((x0).size : Nat) : Int)) > (65536 : Int))) (k (newE (3 : Int) (0 : Int)) ([] : List (Int × (ByteArray × (Int × (Int × Int)))))) (l5 x0 x0 (0 : Int) ([] : List (Int × (ByteArray × (Int × (Int × Int)))))))
def j21' (b0_0 : ByteArray) (b0_1 : Int) (b1 : (List (Int × (ByteArray × (Int × (Int × Int)))))) (k : Err → (List (Int × (ByteArray × (Int × (Int × Int))))) → Prop) : Prop := j21 b0_0 b0_1 b1 k
def l5' (x0 : ByteArray) (b0_0 : ByteArray) (b0_1 : Int) (b1 : (List (Int × (ByteArray × (Int × (Int × Int)))))) (k : Err → (List (Int × (ByteArray × (Int × (Int × Int))))) → Prop) : Prop := ∃ n, loopS (fun (ag : (ByteArray × Int × (List (Int × (ByteArray × (Int × (Int × Int)))))) → Prop) (s : ByteArray × Int × (List (Int × (ByteArray × (Int × (Int × Int)))))) => l5 (fun b0_0 b0_1 b1 => j21' b0_0 b0_1 b1 k) (fun b0_0 b0_1 b1 => ag (b0_0, b0_1, b1)) x0 s.1 s.2.1 s.2.2 k) n (b0_0, b0_1, b1)
def f0 (x0 : ByteArray) (k : Err → (List (Int × (ByteArray × (Int × (Int × Int))))) → Prop) : Prop := c (fun x0 b0_0 b0_1 b1 => l5' x0 b0_0 b0_1 b1 k) x0 k
theorem f_ex : ∃ g : ByteArray → (Err → (List (Int × (ByteArray × (Int × (Int × Int))))) → Prop) → Prop, g = f0 := ⟨_, rfl⟩
noncomputable def f : ByteArray → (Err → (List (Int × (ByteArray × (Int × (Int × Int))))) → Prop) → Prop := Classical.choose f_ex
theorem f_def : f = f0 := Classical.choose_spec f_ex
def mL5 (x0 : ByteArray) (b0_0 : ByteArray) (b0_1 : Int) (b1 : (List (Int × (ByteArray × (Int × (Int × Int)))))) : St := { tmps := mkT 106 0 [(0, (.v (.string x0))), (4, (.ptr 0 0)), (5, (.sl 1 0))], hp := [(.box 57 [(.v (.string b0_0)), (.v (.int IntKind.i64 b0_1))]), (.lst 42 (Ty.pair (Ty.int IntKind.i64) (Ty.pair Ty.str (Ty.pair (Ty.int IntKind.i64) (Ty.pair (Ty.int IntKind.i64) (Ty.int IntKind.i64))))) b1 0 false)], m := 0 }
def m21 (b0_0 : ByteArray) (b0_1 : Int) (b1 : (List (Int × (ByteArray × (Int × (Int × Int)))))) : St := { tmps := mkT 106 0 [(4, (.ptr 0 0)), (5, (.sl 1 0))], hp := [(.box 57 [(.v (.string b0_0)), (.v (.int IntKind.i64 b0_1))]), (.lst 42 (Ty.pair (Ty.int IntKind.i64) (Ty.pair Ty.str (Ty.pair (Ty.int IntKind.i64) (Ty.pair (Ty.int IntKind.i64) (Ty.int IntKind.i64))))) b1 0 false)], m := 0 }
noncomputable def YL5 (k kp : D → List Blk → Prop) : (St → Prop) → St → Prop := loopB cfg (sub [1, 0, 1, 1, 1, 1, 0, 0, 0] body) (contK cfg (pick none' []) [1, 0, 1, 1, 1, 1, 0, 0] body (topK cfg Tryd.f14 k kp))
noncomputable def XL5 (k kp : D → List Blk → Prop) : St → Prop := fun st => ∃ n, loopN (YL5 k kp) n st
noncomputable def X21 (k kp : D → List Blk → Prop) : St → Prop := atP cfg (pick none' []) [1, 0, 1, 1, 1, 1, 1] body (topK cfg Tryd.f14 k kp)
noncomputable def JJ_5 (k kp : D → List Blk → Prop) (ag5 : St → Prop) : Nat → St → Prop := pick none' [(21, X21 k kp)]
noncomputable def LL_5 (k kp : D → List Blk → Prop) (ag5 : St → Prop) : Nat → St → Prop := pick none' [(5, XL5 k kp)]
noncomputable def JJ (k kp : D → List Blk → Prop) : Nat → St → Prop := pick none' [(21, X21 k kp)]
noncomputable def LL (k kp : D → List Blk → Prop) : Nat → St → Prop := pick none' [(5, XL5 k kp)]
theorem j21_c (k kp : D → List Blk → Prop) (J L : Nat → St → Prop) (b0_0 : ByteArray) (b0_1 : Int) (b1 : (List (Int × (ByteArray × (Int × (Int × Int)))))) : runC cfg 21 J L (pick none' []) [1, 0, 1, 1, 1, 1, 1] body (topK cfg Tryd.f14 k kp) (m21 b0_0 b0_1 b1) = j21 b0_0 b0_1 b1 (fun y1 z0 => k (.tup [(.sl 0 0), (.er y1)]) [(.lst 42 (Ty.pair (Ty.int IntKind.i64) (Ty.pair Ty.str (Ty.pair (Ty.int IntKind.i64) (Ty.pair (Ty.int IntKind.i64) (Ty.int IntKind.i64))))) z0 0 false)]) := by kernel_rfl
theorem j21_ag (k kp : D → List Blk → Prop) : agPL cfg 21 (JJ k kp) (LL k kp) [1, 0, 1, 1, 1, 1, 1] body = agPR cfg 21 (pick none' []) [1, 0, 1, 1, 1, 1, 1] body (topK cfg Tryd.f14 k kp) := by kernel_rfl
theorem j21_raw (k kp : D → List Blk → Prop) (b0_0 : ByteArray) (b0_1 : Int) (b1 : (List (Int × (ByteArray × (Int × (Int × Int)))))) : X21 k kp (m21 b0_0 b0_1 b1) = j21 b0_0 b0_1 b1 (fun y1 z0 => k (.tup [(.sl 0 0), (.er y1)]) [(.lst 42 (Ty.pair (Ty.int IntKind.i64) (Ty.pair Ty.str (Ty.pair (Ty.int IntKind.i64) (Ty.pair (Ty.int IntKind.i64) (Ty.int IntKind.i64))))) z0 0 false)]) :=
  Eq.mp (by kernel_rfl) ((atP_run (j21_ag k kp) (m21 b0_0 b0_1 b1)).trans (j21_c k kp (JJ k kp) (LL k kp) b0_0 b0_1 b1))
theorem j21_eq (k kp : D → List Blk → Prop) (b0_0 : ByteArray) (b0_1 : Int) (b1 : (List (Int × (ByteArray × (Int × (Int × Int)))))) : X21 k kp (m21 b0_0 b0_1 b1) = j21' b0_0 b0_1 b1 (fun y1 z0 => k (.tup [(.sl 0 0), (.er y1)]) [(.lst 42 (Ty.pair (Ty.int IntKind.i64) (Ty.pair Ty.str (Ty.pair (Ty.int IntKind.i64) (Ty.pair (Ty.int IntKind.i64) (Ty.int IntKind.i64))))) z0 0 false)]) := by
  rw [j21_raw]; rfl
theorem l5_c (k kp : D → List Blk → Prop) (J L : Nat → St → Prop) (ag5 : St → Prop) (x0 : ByteArray) (b0_0 : ByteArray) (b0_1 : Int) (b1 : (List (Int × (ByteArray × (Int × (Int × Int)))))) : runC cfg 1000001 J L (pick none' [(5, ag5)]) [1, 0, 1, 1, 1, 1, 0, 0, 0] body (topK cfg Tryd.f14 k kp) (mL5 x0 b0_0 b0_1 b1) = l5 (fun b0_0 b0_1 b1 => J 21 (m21 b0_0 b0_1 b1)) (fun b0_0 b0_1 b1 => ag5 (mL5 x0 b0_0 b0_1 b1)) x0 b0_0 b0_1 b1 (fun y1 z0 => k (.tup [(.sl 0 0), (.er y1)]) [(.lst 42 (Ty.pair (Ty.int IntKind.i64) (Ty.pair Ty.str (Ty.pair (Ty.int IntKind.i64) (Ty.pair (Ty.int IntKind.i64) (Ty.int IntKind.i64))))) z0 0 false)]) := by kernel_rfl
theorem l5_ag (k kp : D → List Blk → Prop) (ag5 : St → Prop) : agPL cfg 1000001 (JJ_5 k kp ag5) (LL_5 k kp ag5) [1, 0, 1, 1, 1, 1, 0, 0, 0] body = agPR cfg 1000001 (pick none' [(5, ag5)]) [1, 0, 1, 1, 1, 1, 0, 0, 0] body (topK cfg Tryd.f14 k kp) := by kernel_rfl
theorem l5_raw (k kp : D → List Blk → Prop) (ag5 : St → Prop) (x0 : ByteArray) (b0_0 : ByteArray) (b0_1 : Int) (b1 : (List (Int × (ByteArray × (Int × (Int × Int)))))) : YL5 k kp ag5 (mL5 x0 b0_0 b0_1 b1) = l5 (fun b0_0 b0_1 b1 => X21 k kp (m21 b0_0 b0_1 b1)) (fun b0_0 b0_1 b1 => ag5 (mL5 x0 b0_0 b0_1 b1)) x0 b0_0 b0_1 b1 (fun y1 z0 => k (.tup [(.sl 0 0), (.er y1)]) [(.lst 42 (Ty.pair (Ty.int IntKind.i64) (Ty.pair Ty.str (Ty.pair (Ty.int IntKind.i64) (Ty.pair (Ty.int IntKind.i64) (Ty.int IntKind.i64))))) z0 0 false)]) :=
  Eq.mp (by kernel_rfl) ((atP_run (l5_ag k kp ag5) (mL5 x0 b0_0 b0_1 b1)).trans (l5_c k kp (JJ_5 k kp ag5) (LL_5 k kp ag5) ag5 x0 b0_0 b0_1 b1))
theorem l5_eq (k kp : D → List Blk → Prop) (x0 : ByteArray) (b0_0 : ByteArray) (b0_1 : Int) (b1 : (List (Int × (ByteArray × (Int × (Int × Int)))))) : XL5 k kp (mL5 x0 b0_0 b0_1 b1) = l5' x0 b0_0 b0_1 b1 (fun y1 z0 => k (.tup [(.sl 0 0), (.er y1)]) [(.lst 42 (Ty.pair (Ty.int IntKind.i64) (Ty.pair Ty.str (Ty.pair (Ty.int IntKind.i64) (Ty.pair (Ty.int IntKind.i64) (Ty.int IntKind.i64))))) z0 0 false)]) :=
  loop_eq (mk := fun (s : ByteArray × Int × (List (Int × (ByteArray × (Int × (Int × Int)))))) => mL5 x0 s.1 s.2.1 s.2.2) (fun again s => by rw [l5_raw k kp again x0 s.1 s.2.1 s.2.2]; simp only [j21_eq]; first | done | rfl) (b0_0, b0_1, b1)
theorem c_c (k kp : D → List Blk → Prop) (J L : Nat → St → Prop) (x0 : ByteArray) : runC cfg 1000001 J L none'' [] body (topK cfg Tryd.f14 k kp) (st0 Tryd.f14 [(.v (.string x0))] []) = c (fun x0 b0_0 b0_1 b1 => L 5 (mL5 x0 b0_0 b0_1 b1)) x0 (fun y1 z0 => k (.tup [(.sl 0 0), (.er y1)]) [(.lst 42 (Ty.pair (Ty.int IntKind.i64) (Ty.pair Ty.str (Ty.pair (Ty.int IntKind.i64) (Ty.pair (Ty.int IntKind.i64) (Ty.int IntKind.i64))))) z0 0 false)]) := by kernel_rfl
theorem c_ag (k kp : D → List Blk → Prop) : agPL cfg 1000001 (JJ k kp) (LL k kp) [] body = agPR cfg 1000001 none'' [] body (topK cfg Tryd.f14 k kp) := by kernel_rfl
theorem body_is : Tryd.f14.body = some body := by kernel_rfl
theorem c_raw (k kp : D → List Blk → Prop) (x0 : ByteArray) : funW cfg Tryd.f14 [(.v (.string x0))] [] k kp = c (fun x0 b0_0 b0_1 b1 => XL5 k kp (mL5 x0 b0_0 b0_1 b1)) x0 (fun y1 z0 => k (.tup [(.sl 0 0), (.er y1)]) [(.lst 42 (Ty.pair (Ty.int IntKind.i64) (Ty.pair Ty.str (Ty.pair (Ty.int IntKind.i64) (Ty.pair (Ty.int IntKind.i64) (Ty.int IntKind.i64))))) z0 0 false)]) :=
  Eq.mp (by kernel_rfl) ((funW_run (AG := none'') body_is (c_ag k kp) [(.v (.string x0))] []).trans (c_c k kp (JJ k kp) (LL k kp) x0))
theorem f_eq (k kp : D → List Blk → Prop) (x0 : ByteArray) : funW cfg Tryd.f14 [(.v (.string x0))] [] k kp = f x0 (fun y1 z0 => k (.tup [(.sl 0 0), (.er y1)]) [(.lst 42 (Ty.pair (Ty.int IntKind.i64) (Ty.pair Ty.str (Ty.pair (Ty.int IntKind.i64) (Ty.pair (Ty.int IntKind.i64) (Ty.int IntKind.i64))))) z0 0 false)]) := by
  rw [f_def, c_raw]; simp only [l5_eq]; first | done | rfl
noncomputable def ent0 : Entry := fun args blks k _ => match args, blks with
  | [d0], [] => aStr d0 fun x0 => f x0 (fun y1 z0 => k (.tup [(.sl 0 0), (.er y1)]) [(.lst 42 (Ty.pair (Ty.int IntKind.i64) (Ty.pair Ty.str (Ty.pair (Ty.int IntKind.i64) (Ty.pair (Ty.int IntKind.i64) (Ty.int IntKind.i64))))) z0 0 false)])
  | _, _ => False
noncomputable def ent : Entry := fun args blks k kp => ent0 (convB [.no] args) blks k kp
theorem ok : EntOk Tryd.prog 49 0 14 ent := by
  refine EntOk.convB (EntOk.of (funW_ok (cfg := cfg) (tyOk_of rfl rfl tyL_ok) (eqOk_of (P := Tryd.prog) rfl rfl (by kernel_rfl)) mixed_ok (tab_ok ?_) Tryd.func14 (by rfl) (by rfl)) ?_) _
  · intro p hp
    simp only [List.mem_cons, List.not_mem_nil, or_false] at hp
    rcases hp with rfl | rfl | rfl | rfl | rfl | rfl | rfl | rfl | rfl | rfl
    · exact N22.ok
    · exact N23.ok
    · exact N24.ok
    · exact N25.ok
    · exact N40.ok
    · exact N42.ok
    · exact N43.ok
    · exact N44.ok
    · exact N45.ok
    · exact N46.ok
  · intro args blks k kp h k' kp'
    match args, blks, h with
    | [d0], [], h =>
    dsimp only [ent0] at h
    have h9 := aStr_elim h; clear h; obtain ⟨x0, rfl, h⟩ := h9
    exact (f_eq k' kp' x0).symm
end N14
end Go.Proofs.Ye
namespace Go.Proofs.Ye
open Go Go.Aw Go.Proofs Go.RowKit
set_option linter.unusedVariables false
set_option linter.unusedSimpArgs false

/-- Blanks and remarks are passed. -/
theorem skip_s (s : ByteArray) (hs : s.size ≤ reachBytes) (p : Nat) (hp : p ≤ s.size) (k : ByteArray → Int → Prop)
    (h : ∀ q : Nat, p ≤ q → q ≤ s.size → stopAt ((ofBytes s).drop q) → (∀ out, lexW ((ofBytes s).drop p) p out = lexW ((ofBytes s).drop q) q out) → k s q) : N23.f s (p : Int) k := by
  have hr : reachBytes < 2 ^ 47 := reachBytes_lt
  have hl := ofBytes_length s
  rw [N23.f_def]
  unfold N23.f0 N23.c N23.l0'
  refine loopS_of (fun st : ByteArray × Int => ∃ q : Nat, st.1 = s ∧ st.2 = q ∧ p ≤ q ∧ q ≤ s.size ∧ ∀ out, lexW ((ofBytes s).drop p) p out = lexW ((ofBytes s).drop q) q out) (fun st => s.size - st.2.toNat) ?_ ⟨p, rfl, rfl, Nat.le_refl _, hp, fun _ => rfl⟩
  rintro again ⟨s', x⟩ ⟨q, rfl, rfl, hpq, hq, he⟩ hag
  simp only at hag hr hl hs h ⊢
  unfold N23.l0 N23.j8' N23.j8
  dsimp only
  refine br_of (fun hlt => ?_) (fun hge => ?_)
  · have hlt : q < s'.size := by simp at hlt; omega
    rw [rest_eq s' q hq]
    have hB : ∀ y ∈ (ofBytes s').drop q, isB y := fun y hy => ofBytes_isB s' y (List.mem_of_mem_drop hy)
    have hdl : ((ofBytes s').drop q).length = s'.size - q := by rw [List.length_drop, hl]
    rw [bytesOf_size, show byteAt (bytesOf ((ofBytes s').drop q)) 0 = ((ofBytes s').drop q).getD 0 0 from byteAt_bytes hB 0, show (((ofBytes s').drop q).getD 0 0) = (ofBytes s').getD q 0 by simp [List.getD, List.getElem?_drop]]
    refine ⟨⟨by omega, by omega, by omega⟩, ⟨by omega, by omega, by omega⟩, indexB_s _ _ _ ?_⟩
    have hc := getD_isB s' q
    have hdr := drop_get (d := (0 : Int)) (by omega : q < (ofBytes s').length)
    rw [br_dec]
    by_cases hW : isW ((ofBytes s').getD q 0) = true
    · rw [if_pos ((indexB_blank hc).2 hW), wrap_id (by omega) (by omega)]
      refine hag _ ⟨q + 1, rfl, by simp, by omega, by omega, fun out => ?_⟩ (by simp only; omega)
      rw [he, hdr, lexW_blank _ _ hW]
      simp
    · rw [if_neg (fun hh => hW ((indexB_blank hc).1 hh))]
      refine prefix2_s _ _ ?_
      rw [bytesOf_size, ofBytes_bytesOf hB]
      refine br_of (fun hrem => ?_) (fun hno => ?_)
      · have hrem := of_decide_eq_true hrem
        refine indexB_s _ _ _ ?_
        rw [indexB_eq _ (by exact ⟨by decide, by decide⟩), ofBytes_bytesOf hB, idxI_line]
        have hln := lineN_le ((ofBytes s').drop q)
        have hd2 : ((ofBytes s').drop q).head? = some 47 ∧ (((ofBytes s').drop q).drop 1).head? = some 47 := by
          match hc2 : (ofBytes s').drop q, hrem with
          | [], hrem => simp at hrem
          | [a], hrem => simp at hrem
          | a :: b :: r, hrem => simp at hrem; simp [hrem]
        have hl1 : 1 ≤ lineN ((ofBytes s').drop q) := by
          rw [hdr] at hd2 ⊢
          unfold lineN
          have h47 : (ofBytes s').getD q 0 = 47 := Option.some.inj hd2.1
          rw [if_neg (by rw [h47]; decide)]; omega
        have go : ∀ n : Int, n = lineN ((ofBytes s').drop q) → again (s', IntKind.i64.wrap ((q : Int) + n)) := by
          rintro n rfl
          rw [wrap_id (by omega) (by omega)]
          refine hag _ ⟨q + lineN ((ofBytes s').drop q), rfl, by simp, by omega, by omega, fun out => ?_⟩ (by simp only; omega)
          rw [he, ← List.drop_drop]
          obtain ⟨r, hr2, hr3⟩ : ∃ r, (ofBytes s').drop q = 47 :: r ∧ r.head? = some 47 := by
            rw [hdr] at hd2 ⊢
            simp only [List.head?_cons, Option.some.injEq, List.drop_succ_cons, List.drop_zero] at hd2
            exact ⟨_, by rw [hd2.1], hd2.2⟩
          rw [hr2, lexW_remark _ _ hr3]
          simp
        rw [br_dec]
        by_cases hnl : lineN ((ofBytes s').drop q) < ((ofBytes s').drop q).length
        · rw [if_pos hnl, if_neg (by omega)]
          exact go _ rfl
        · rw [if_neg hnl, if_pos (by decide)]
          exact go _ (by omega)
      · have hno := of_decide_eq_false hno
        refine h q hpq hq ?_ he
        rw [hdr]
        refine ⟨by simpa using hW, ?_⟩
        rintro ⟨h47, hh⟩
        refine hno ⟨?_, ?_, ?_⟩
        · rw [hdl]
          rcases Nat.lt_or_ge 1 (s'.size - q) with g | g
          · exact g
          · rw [List.drop_of_length_le (by omega)] at hh; simp at hh
        · rw [hdr]; simpa using h47
        · rw [hdr]
          simp only [List.getD_cons_succ]
          cases hc3 : (ofBytes s').drop (q + 1) with
          | nil => rw [hc3] at hh; simp at hh
          | cons a r => rw [hc3] at hh; simpa using hh
  · have hge : ¬ q < s'.size := by simp at hge; omega
    refine h q hpq hq ?_ he
    rw [List.drop_of_length_le (by omega)]
    trivial

theorem quoted_s (s : ByteArray) (hx : s.size ≤ 1000000000000) (p : Nat) (k : Int → ByteArray → Int → Int → Int → Int → Int → ByteArray → Int → Prop)
    (hp : p < s.size) (hq : (ofBytes s).getD p 0 = 34)
    (h : ∀ t e c, scanL 64 ((ofBytes s).length + 1) ((ofBytes s).drop (p + 1)) (p + 1) [] = (t, e, c) → k 3 (bytesOf t) 0 0 p e c s p) : N24.f s (p : Int) k := by
  have hl := ofBytes_length s
  rw [N24.f_def]
  unfold N24.f0 N24.c
  refine qscan_s s hx _ _ (fun hn => ?_) (fun t e c _ he => h t e c (by simpa using he))
  exfalso
  unfold noQuote at hn
  rw [Int.toNat_natCast] at hn
  rcases hn with hn | hn | hn
  · omega
  · omega
  · exact hn hq

/-- How far on: the places count from where one begins. -/
theorem scanL_off (M : Nat) : ∀ (f : Nat) (r : List Int) (i d : Int) (out t : List Int) (e c : Int), scanL M f r i out = (t, e, c) → scanL M f r (i + d) out = (t, e + d, c)
  | 0, r, i, d, out, t, e, c, h => by unfold scanL at *; cases h; rfl
  | f + 1, r, i, d, out, t, e, c, h => by
    unfold scanL at h ⊢
    split at h
    · cases h; rfl
    · split
      · rename_i h1; rw [if_pos h1] at h; cases h; rfl
      · rename_i h1; rw [if_neg h1] at h
        split
        · rename_i h2; rw [if_pos h2] at h; cases h; congr 1; congr 1; omega
        · rename_i h2; rw [if_neg h2] at h
          split
          · rename_i h3; rw [if_pos h3] at h; cases h; rfl
          · rename_i h3; rw [if_neg h3] at h
            split
            · rename_i h4; rw [if_pos h4] at h
              have := scanL_off M f _ _ d _ t e c h
              rw [show i + 1 + d = i + d + 1 by omega] at this
              exact this
            · rename_i h4; rw [if_neg h4] at h
              split
              · rename_i h5; rw [h5] at h; cases h; rfl
              · rename_i v n h5; rw [h5] at h
                have := scanL_off M f _ _ d _ t e c h
                rw [show i + 1 + (n : Int) + d = i + d + 1 + n by omega] at this
                exact this
theorem scanL_fuel (M : Nat) : ∀ (f g : Nat) (r : List Int) (i : Int) (out : List Int), r.length < f → r.length < g → scanL M f r i out = scanL M g r i out
  | 0, _, _, _, _, h, _ => by omega
  | _, 0, _, _, _, _, h => by omega
  | f + 1, g + 1, r, i, out, h1, h2 => by
    unfold scanL
    cases r with
    | nil => rfl
    | cons c r =>
      simp only [List.length_cons] at h1 h2
      dsimp only
      rw [scanL_fuel M f g r (i + 1) (out ++ [c]) (by omega) (by omega)]
      cases hesc : escL r with
      | none => rfl
      | some vn =>
        obtain ⟨v, n⟩ := vn
        dsimp only
        have := esc_pos hesc
        rw [scanL_fuel M f g (r.drop n) (i + 1 + n) (out ++ [v]) (by simp [List.length_drop]; omega) (by simp [List.length_drop]; omega)]

theorem tokS_quote (L : List Int) (p : Nat) (hp : p < L.length) (hq : L.getD p 0 = 34) {t : List Int} {e c : Int} (h : scanL 64 (L.length + 1) (L.drop (p + 1)) (p + 1) [] = (t, e, c)) :
    tokS (L.drop p) = if c = 0 then ⟨3, t, 0, 0, (e - p).toNat, 0, 0⟩ else .bad c (e - p) := by
  rw [drop_get (d := 0) hp, hq, tokS_34]
  have h2 := scanL_off 64 _ _ _ (-(p : Int)) _ _ _ _ h
  rw [scanL_fuel 64 (L.length + 1) ((L.drop (p + 1)).length + 1) _ _ _ (by rw [List.length_drop]; omega) (by omega), show (p : Int) + 1 + -(p : Int) = 1 by omega] at h2
  rw [h2]
  rfl

theorem all_s (s : ByteArray) (hs : s.size ≤ reachBytes) (k : Err → List LTok → Prop) (h : k (newE (lexAll (ofBytes s)).2.1 (lexAll (ofBytes s)).2.2) (lexAll (ofBytes s)).1) : N14.f s k := by
  have hr : reachBytes < 2 ^ 47 := reachBytes_lt
  have hl := ofBytes_length s
  rw [N14.f_def]
  unfold N14.f0 N14.c
  rw [lexAll_eq, hl] at h
  rw [br_dec]
  split
  · rename_i h1
    rw [if_pos (by omega)] at h
    exact h
  · rename_i h1
    rw [if_neg (by omega)] at h
    have h64 : s.size ≤ 65536 := by omega
    generalize hR : lexW (ofBytes s) 0 [] = R at h
    unfold N14.l5'
    refine loopS_of (fun st : ByteArray × Int × List LTok => ∃ q : Nat, st.1 = s ∧ st.2.1 = q ∧ q ≤ s.size ∧ st.2.2.length ≤ q ∧ lexW ((ofBytes s).drop q) q st.2.2 = R) (fun st => s.size - st.2.1.toNat) ?_ ⟨0, rfl, rfl, Nat.zero_le _, Nat.zero_le _, by rw [← hR]; rfl⟩
    rintro again ⟨s', x, out⟩ ⟨q0, rfl, rfl, hq0, ho, he⟩ hag
    simp only at hag ho he hr hl hs h h64 hq0 ⊢
    unfold N14.l5 N14.j21' N14.j21
    dsimp only
    refine skip_s s' hs q0 hq0 _ ?_
    intro q hqq hq hst hsk
    have he : lexW ((ofBytes s').drop q) q out = R := by rw [← he, hsk]
    have ho : out.length ≤ q := by omega
    rw [br_beq]
    split
    · rename_i hend
      have hend : q = s'.size := by omega
      refine ⟨by unfold room; simp; omega, ?_⟩
      rw [List.drop_of_length_le (by omega), lexW_nil] at he
      rw [← he] at h
      exact h
    · rename_i hend
      have hlt : q < s'.size := by omega
      have hdr := drop_get (d := (0 : Int)) (by omega : q < (ofBytes s').length)
      refine ⟨⟨by omega, by omega, by omega⟩, ?_⟩
      rw [byteAt_eq]
      rw [hdr] at hst he
      rw [lexW_tok _ _ hst, ← hdr] at he
      have hc := getD_isB s' q
      rw [br_beq]
      -- behind any reader
      have rd : ∀ g : Got, tokS ((ofBytes s').drop q) = g → g.off = 0 → (g.code = 0 → g.text.length = g.len) → Rd s' q g (fun (y0 : Int) (y1 : ByteArray) (y2 y3 y4 y5 : Int) (z0 : ByteArray) (z1 : Int) => (br (y5 != (0 : Int)) (k (newE y5 z1) ([] : List LTok)) ((room (out.length + (([(y0, (y1, (y2, (y3, y4))))] : List LTok)).length) 48) ∧ (again (z0, (w64 (z1 + ((((y1).size : Nat) : Int)))), (out ++ ([(y0, (y1, (y2, (y3, y4))))] : List LTok))))))) := by
        intro g hg hoff hlen
        rw [hg] at he
        constructor
        · intro hc0 a b c d e
          rw [if_pos hc0, hoff] at he
          rw [br_bne, if_neg hc0]
          rw [← show (([] : List LTok), g.code, (q : Int)) = R by rw [← he]; simp] at h
          exact h
        · intro hc0
          rw [if_neg (by simpa using hc0)] at he
          have htl := tokS_len (l := (ofBytes s').drop q) (by rw [hg]; exact hc0)
          rw [hg, List.length_drop] at htl
          rw [br_bne, if_pos rfl]
          refine ⟨by unfold room; simp; omega, ?_⟩
          have e1 : (bytesOf g.text).size = g.len := by rw [bytesOf_size]; exact hlen hc0
          rw [e1, w64_id ⟨by omega, by omega⟩]
          refine hag _ ⟨q + g.len, rfl, by simp, by omega, by simp; omega, ?_⟩ (by simp only; omega)
          rw [← he, List.drop_drop]
          simp
      have num : ∀ kind cls a, (numS kind a cls ((ofBytes s').drop q)).off = 0 ∧ ((numS kind a cls ((ofBytes s').drop q)).code = 0 → (numS kind a cls ((ofBytes s').drop q)).text.length = (numS kind a cls ((ofBytes s').drop q)).len) := by
        intro kind cls a
        have hrl := run_le (((ofBytes s').drop q).drop a)
        rw [List.length_drop] at hrl
        unfold numS
        dsimp only
        split
        · exact ⟨rfl, fun hh => absurd hh (by simp [Got.bad])⟩
        · rename_i hn
          split
          · exact ⟨rfl, fun hh => absurd hh (by simp [Got.bad])⟩
          · refine ⟨rfl, fun _ => ?_⟩
            dsimp only
            rw [List.length_take]
            omega
      split
      · rename_i h34
        refine quoted_s s' (by omega) q _ hlt h34 ?_
        intro t e c hsc
        have ht := tokS_quote (ofBytes s') q (by omega) h34 hsc
        rw [ht] at he
        rw [br_bne]
        split
        · rename_i hc0
          subst hc0
          simp only [if_true, ne_eq, not_true, if_false] at he
          have htl := tokS_len (l := (ofBytes s').drop q) (by rw [ht]; rfl)
          rw [ht, List.length_drop] at htl
          simp only [if_true] at htl
          refine ⟨by unfold room; simp; omega, ?_⟩
          refine hag _ ⟨q + (e - q).toNat, rfl, by simp only; omega, by omega, by simp; omega, ?_⟩ (by simp only; omega)
          rw [← he, List.drop_drop]
          simp
        · rename_i hc0
          rw [if_neg hc0] at he
          rw [if_pos (show (Got.bad c (e - q)).code ≠ 0 from hc0)] at he
          simp only [Got.bad] at he
          rw [show (q : Int) + (e - q) = e by omega] at he
          rw [← he] at h
          exact h
      · rename_i h34
        refine ⟨⟨by omega, by omega, by omega⟩, ?_⟩
        rw [N25.f_def]
        unfold N25.f0 N25.c
        refine isDig_s _ _ ?_
        generalize hcc : (ofBytes s').getD q 0 = c at *
        have hh1 : ((ofBytes s').drop (q + 1)).head? = some ((ofBytes s').getD (q + 1) 0) ∨ (ofBytes s').drop (q + 1) = [] := by
          rcases Nat.lt_or_ge (q + 1) (ofBytes s').length with g | g
          · left; rw [drop_get (d := 0) g]; rfl
          · right; exact List.drop_of_length_le g
        have hnil : (ofBytes s').drop (q + 1) = [] → (ofBytes s').getD (q + 1) 0 = 0 := by
          intro g
          have : (ofBytes s').length ≤ q + 1 := by
            have := congrArg List.length g
            rw [List.length_drop] at this; simp at this; omega
          simp [List.getD, List.getElem?_eq_none this]
        rw [br_dec]
        split
        · rename_i hD
          have e1 : tokS ((ofBytes s').drop q) = numS 2 0 0 ((ofBytes s').drop q) := by rw [hdr, tokS_D _ hD]
          exact number_s s' hs q hlt _ (rd _ e1 (num _ _ _).1 (num _ _ _).2)
        · rename_i hD
          refine (letter_s _ _).2 ?_
          refine br_of (fun hL => ?_) (fun hL => ?_)
          · have e1 : tokS ((ofBytes s').drop q) = if runS ((ofBytes s').drop q) > 24 then .bad 3 0 else ⟨1, ((ofBytes s').drop q).take (runS ((ofBytes s').drop q)), 0, 0, runS ((ofBytes s').drop q), 0, 0⟩ := by
              rw [hdr, tokS_L _ hL]
            refine word_s s' hs q hlt (by rw [hcc]; exact hL) _ (rd _ e1 ?_ ?_)
            · split <;> rfl
            · split
              · intro hh; exact absurd hh (by simp [Got.bad])
              · intro _
                have := runS_le ((ofBytes s').drop q)
                dsimp only
                rw [List.length_take]; omega
          · rw [br_beq]
            split
            · rename_i h37
              have e1 : tokS ((ofBytes s').drop q) = numS 4 1 0 ((ofBytes s').drop q) := by rw [hdr, h37, tokS_37]
              exact vreg_s s' hs q hlt _ (rd _ e1 (num _ _ _).1 (num _ _ _).2)
            · rename_i h37
              rw [br_beq]
              split
              · rename_i h36
                have e1 : tokS ((ofBytes s').drop q) = if (ofBytes s').getD (q + 1) 0 = 103 then numS 5 2 0 ((ofBytes s').drop q) else if (ofBytes s').getD (q + 1) 0 = 120 then numS 5 2 1 ((ofBytes s').drop q) else .bad 12 0 := by
                  rw [hdr, h36, tokS_36]
                  rcases hh1 with g | g
                  · rw [g]; simp only [Option.some.injEq]
                  · rw [hnil g, g]; simp
                refine preg_s s' hs q hlt _ (rd _ e1 ?_ ?_)
                · split
                  · exact (num _ _ _).1
                  · split
                    · exact (num _ _ _).1
                    · rfl
                · split
                  · exact (num _ _ _).2
                  · split
                    · exact (num _ _ _).2
                    · intro hh; exact absurd hh (by simp [Got.bad])
              · rename_i h36
                rw [br_beq]
                split
                · rename_i h35
                  have e1 : tokS ((ofBytes s').drop q) = numS 6 1 0 ((ofBytes s').drop q) := by rw [hdr, h35, tokS_35]
                  exact slot_s s' hs q hlt _ (rd _ e1 (num _ _ _).1 (num _ _ _).2)
                · rename_i h35
                  refine indexB_s _ _ _ ?_
                  rw [br_dec]
                  split
                  · rename_i hS
                    have hS := (indexB_signs hc).1 hS
                    have e1 : tokS ((ofBytes s').drop q) = if c = 46 ∧ (ofBytes s').getD (q + 1) 0 = 46 then ⟨7, [46, 46], 0, 0, 2, 0, 0⟩ else ⟨7, [c], 0, 0, 1, 0, 0⟩ := by
                      rw [hdr, tokS_S _ hS]
                      rcases hh1 with g | g
                      · rw [g]; simp only [Option.some.injEq]
                      · rw [hnil g, g]; simp
                    refine sign_s' s' hs q hlt _ ?_
                    rw [hcc]
                    refine rd _ e1 ?_ ?_
                    · split <;> rfl
                    · split <;> (intro _; rfl)
                  · rename_i hS
                    have hS := fun hh => hS ((indexB_signs hc).2 hh)
                    rw [hdr, tokS_no _ h34 hL h37 h35 h36 hD hS] at he
                    simp [Got.bad] at he
                    rw [← he] at h
                    exact h
end Go.Proofs.Ye
namespace Go.Proofs.Ye
open Go Go.Aw Go.Proofs
set_option linter.unusedVariables false
set_option linter.unusedSimpArgs false
set_option maxRecDepth 100000
/-! dyehouse/dyehouseref03.hex -/
namespace N47
noncomputable def cfg : Cfg := { P := Tryd.prog, tf := 49, tw := 0, ty := tys, E := tab [], atSeq := tab [(2000003, ⟨[(0, .keep), (3, .keep), (10, .keep)]⟩), (4, ⟨[(0, .keep), (3, .keep)]⟩), (9, ⟨[]⟩)], atLoop := tab [(5, ⟨[(0, .keep), (3, .keep), (4, .keep)]⟩)], outs := [], eqT := tab [], bT := tab [] }
noncomputable def body : Code := bodyOf Tryd.f47
def j2000003 (j4 : Int → ByteArray → Prop) (x0 : Int) (x3 : ByteArray) (x10 : Bool) (k : Int → Prop) : Prop :=
  (br x10 (j4 (IntKind.u8.wrap (x0 + (32 : Int))) x3) (j4 x0 x3))
def j4 (l5 : Int → ByteArray → Int → Prop) (x0 : Int) (x3 : ByteArray) (k : Int → Prop) : Prop :=
  (l5 x0 x3 (0 : Int))
def l5 (j9 : Prop) (ag5 : Int → Prop) (x0 : Int) (x3 : ByteArray) (x4 : Int) (k : Int → Prop) : Prop :=
  (br (decide (x4 < (16 : Int))) ((inB 0 x4 ((((x3).size : Nat) : Int) - 1)) ∧ (br ((byteAt x3 x4) == x0) (k x4) (ag5 (IntKind.i64.wrap (x4 + (1 : Int)))))) (j9))
def j9 (k : Int → Prop) : Prop :=
  (k (99 : Int))
def c (j2000003 : Int → ByteArray → Bool → Prop) (x0 : Int) (k : Int → Prop) : Prop :=
  (br (decide (x0 ≥ (65 : Int))) (j2000003 x0 (ByteArray.mk #[48, 49, 50, 51, 52, 53, 54, 55, 56, 57, 97, 98, 99, 100, 101, 102]) (decide (x0 ≤ (70 : Int)))) (j2000003 x0 (ByteArray.mk #[48, 49, 50, 51, 52, 53, 54, 55, 56, 57, 97, 98, 99, 100, 101, 102]) false))
def j9' (k : Int → Prop) : Prop := j9 k
def l5' (x0 : Int) (x3 : ByteArray) (x4 : Int) (k : Int → Prop) : Prop := ∃ n, loopS (fun (ag : (Int) → Prop) (s : Int) => l5 (j9' k) (fun x4 => ag (x4)) x0 x3 s k) n (x4)
def j4' (x0 : Int) (x3 : ByteArray) (k : Int → Prop) : Prop := j4 (fun x0 x3 x4 => l5' x0 x3 x4 k) x0 x3 k
def j2000003' (x0 : Int) (x3 : ByteArray) (x10 : Bool) (k : Int → Prop) : Prop := j2000003 (fun x0 x3 => j4' x0 x3 k) x0 x3 x10 k
def f0 (x0 : Int) (k : Int → Prop) : Prop := c (fun x0 x3 x10 => j2000003' x0 x3 x10 k) x0 k
theorem f_ex : ∃ g : Int → (Int → Prop) → Prop, g = f0 := ⟨_, rfl⟩
noncomputable def f : Int → (Int → Prop) → Prop := Classical.choose f_ex
theorem f_def : f = f0 := Classical.choose_spec f_ex
def m2000003 (x0 : Int) (x3 : ByteArray) (x10 : Bool) : St := { tmps := mkT 23 0 [(0, (.v (.int IntKind.u8 x0))), (3, (.v (.string x3))), (10, (.v (.bool x10)))], hp := [], m := 0 }
def m4 (x0 : Int) (x3 : ByteArray) : St := { tmps := mkT 23 0 [(0, (.v (.int IntKind.u8 x0))), (3, (.v (.string x3)))], hp := [], m := 0 }
def mL5 (x0 : Int) (x3 : ByteArray) (x4 : Int) : St := { tmps := mkT 23 0 [(0, (.v (.int IntKind.u8 x0))), (3, (.v (.string x3))), (4, (.v (.int IntKind.i64 x4)))], hp := [], m := 0 }
def m9 : St := { tmps := mkT 23 0 [], hp := [], m := 0 }
noncomputable def X2000003 (k kp : D → List Blk → Prop) : St → Prop := atP cfg (pick none' []) [1, 1, 0, 1] body (topK cfg Tryd.f47 k kp)
noncomputable def X4 (k kp : D → List Blk → Prop) : St → Prop := atP cfg (pick none' []) [1, 1, 1] body (topK cfg Tryd.f47 k kp)
noncomputable def YL5 (k kp : D → List Blk → Prop) : (St → Prop) → St → Prop := loopB cfg (sub [1, 1, 1, 0, 1, 0, 0] body) (contK cfg (pick none' []) [1, 1, 1, 0, 1, 0] body (topK cfg Tryd.f47 k kp))
noncomputable def XL5 (k kp : D → List Blk → Prop) : St → Prop := fun st => ∃ n, loopN (YL5 k kp) n st
noncomputable def X9 (k kp : D → List Blk → Prop) : St → Prop := atP cfg (pick none' []) [1, 1, 1, 1] body (topK cfg Tryd.f47 k kp)
noncomputable def JJ (k kp : D → List Blk → Prop) : Nat → St → Prop := pick none' [(2000003, X2000003 k kp), (4, X4 k kp), (9, X9 k kp)]
noncomputable def LL (k kp : D → List Blk → Prop) : Nat → St → Prop := pick none' [(5, XL5 k kp)]
noncomputable def JJ_5 (k kp : D → List Blk → Prop) (ag5 : St → Prop) : Nat → St → Prop := pick none' [(2000003, X2000003 k kp), (4, X4 k kp), (9, X9 k kp)]
noncomputable def LL_5 (k kp : D → List Blk → Prop) (ag5 : St → Prop) : Nat → St → Prop := pick none' [(5, XL5 k kp)]
theorem j9_c (k kp : D → List Blk → Prop) (J L : Nat → St → Prop) : runC cfg 9 J L (pick none' []) [1, 1, 1, 1] body (topK cfg Tryd.f47 k kp) (m9) = j9 (fun y0 => k (.v (.int IntKind.i64 y0)) []) := by kernel_rfl
theorem j9_ag (k kp : D → List Blk → Prop) : agPL cfg 9 (JJ k kp) (LL k kp) [1, 1, 1, 1] body = agPR cfg 9 (pick none' []) [1, 1, 1, 1] body (topK cfg Tryd.f47 k kp) := by kernel_rfl
theorem j9_raw (k kp : D → List Blk → Prop) : X9 k kp (m9) = j9 (fun y0 => k (.v (.int IntKind.i64 y0)) []) :=
  Eq.mp (by kernel_rfl) ((atP_run (j9_ag k kp) (m9)).trans (j9_c k kp (JJ k kp) (LL k kp)))
theorem j9_eq (k kp : D → List Blk → Prop) : X9 k kp (m9) = j9' (fun y0 => k (.v (.int IntKind.i64 y0)) []) := by
  rw [j9_raw]; rfl
theorem l5_c (k kp : D → List Blk → Prop) (J L : Nat → St → Prop) (ag5 : St → Prop) (x0 : Int) (x3 : ByteArray) (x4 : Int) : runC cfg 1000001 J L (pick none' [(5, ag5)]) [1, 1, 1, 0, 1, 0, 0] body (topK cfg Tryd.f47 k kp) (mL5 x0 x3 x4) = l5 (J 9 (m9)) (fun x4 => ag5 (mL5 x0 x3 x4)) x0 x3 x4 (fun y0 => k (.v (.int IntKind.i64 y0)) []) := by kernel_rfl
theorem l5_ag (k kp : D → List Blk → Prop) (ag5 : St → Prop) : agPL cfg 1000001 (JJ_5 k kp ag5) (LL_5 k kp ag5) [1, 1, 1, 0, 1, 0, 0] body = agPR cfg 1000001 (pick none' [(5, ag5)]) [1, 1, 1, 0, 1, 0, 0] body (topK cfg Tryd.f47 k kp) := by kernel_rfl
theorem l5_raw (k kp : D → List Blk → Prop) (ag5 : St → Prop) (x0 : Int) (x3 : ByteArray) (x4 : Int) : YL5 k kp ag5 (mL5 x0 x3 x4) = l5 (X9 k kp (m9)) (fun x4 => ag5 (mL5 x0 x3 x4)) x0 x3 x4 (fun y0 => k (.v (.int IntKind.i64 y0)) []) :=
  Eq.mp (by kernel_rfl) ((atP_run (l5_ag k kp ag5) (mL5 x0 x3 x4)).trans (l5_c k kp (JJ_5 k kp ag5) (LL_5 k kp ag5) ag5 x0 x3 x4))
theorem l5_eq (k kp : D → List Blk → Prop) (x0 : Int) (x3 : ByteArray) (x4 : Int) : XL5 k kp (mL5 x0 x3 x4) = l5' x0 x3 x4 (fun y0 => k (.v (.int IntKind.i64 y0)) []) :=
  loop_eq (mk := fun (s : Int) => mL5 x0 x3 s) (fun again s => by rw [l5_raw k kp again x0 x3 s]; simp only [j9_eq]; first | done | rfl) (x4)
theorem j4_c (k kp : D → List Blk → Prop) (J L : Nat → St → Prop) (x0 : Int) (x3 : ByteArray) : runC cfg 4 J L (pick none' []) [1, 1, 1] body (topK cfg Tryd.f47 k kp) (m4 x0 x3) = j4 (fun x0 x3 x4 => L 5 (mL5 x0 x3 x4)) x0 x3 (fun y0 => k (.v (.int IntKind.i64 y0)) []) := by kernel_rfl
theorem j4_ag (k kp : D → List Blk → Prop) : agPL cfg 4 (JJ k kp) (LL k kp) [1, 1, 1] body = agPR cfg 4 (pick none' []) [1, 1, 1] body (topK cfg Tryd.f47 k kp) := by kernel_rfl
theorem j4_raw (k kp : D → List Blk → Prop) (x0 : Int) (x3 : ByteArray) : X4 k kp (m4 x0 x3) = j4 (fun x0 x3 x4 => XL5 k kp (mL5 x0 x3 x4)) x0 x3 (fun y0 => k (.v (.int IntKind.i64 y0)) []) :=
  Eq.mp (by kernel_rfl) ((atP_run (j4_ag k kp) (m4 x0 x3)).trans (j4_c k kp (JJ k kp) (LL k kp) x0 x3))
theorem j4_eq (k kp : D → List Blk → Prop) (x0 : Int) (x3 : ByteArray) : X4 k kp (m4 x0 x3) = j4' x0 x3 (fun y0 => k (.v (.int IntKind.i64 y0)) []) := by
  rw [j4_raw]; simp only [l5_eq]; first | done | rfl
theorem j2000003_c (k kp : D → List Blk → Prop) (J L : Nat → St → Prop) (x0 : Int) (x3 : ByteArray) (x10 : Bool) : runC cfg 2000003 J L (pick none' []) [1, 1, 0, 1] body (topK cfg Tryd.f47 k kp) (m2000003 x0 x3 x10) = j2000003 (fun x0 x3 => J 4 (m4 x0 x3)) x0 x3 x10 (fun y0 => k (.v (.int IntKind.i64 y0)) []) := by kernel_rfl
theorem j2000003_ag (k kp : D → List Blk → Prop) : agPL cfg 2000003 (JJ k kp) (LL k kp) [1, 1, 0, 1] body = agPR cfg 2000003 (pick none' []) [1, 1, 0, 1] body (topK cfg Tryd.f47 k kp) := by kernel_rfl
theorem j2000003_raw (k kp : D → List Blk → Prop) (x0 : Int) (x3 : ByteArray) (x10 : Bool) : X2000003 k kp (m2000003 x0 x3 x10) = j2000003 (fun x0 x3 => X4 k kp (m4 x0 x3)) x0 x3 x10 (fun y0 => k (.v (.int IntKind.i64 y0)) []) :=
  Eq.mp (by kernel_rfl) ((atP_run (j2000003_ag k kp) (m2000003 x0 x3 x10)).trans (j2000003_c k kp (JJ k kp) (LL k kp) x0 x3 x10))
theorem j2000003_eq (k kp : D → List Blk → Prop) (x0 : Int) (x3 : ByteArray) (x10 : Bool) : X2000003 k kp (m2000003 x0 x3 x10) = j2000003' x0 x3 x10 (fun y0 => k (.v (.int IntKind.i64 y0)) []) := by
  rw [j2000003_raw]; simp only [j4_eq]; first | done | rfl
theorem c_c (k kp : D → List Blk → Prop) (J L : Nat → St → Prop) (x0 : Int) : runC cfg 1000001 J L none'' [] body (topK cfg Tryd.f47 k kp) (st0 Tryd.f47 [(.v (.int IntKind.u8 x0))] []) = c (fun x0 x3 x10 => J 2000003 (m2000003 x0 x3 x10)) x0 (fun y0 => k (.v (.int IntKind.i64 y0)) []) := by kernel_rfl
theorem c_ag (k kp : D → List Blk → Prop) : agPL cfg 1000001 (JJ k kp) (LL k kp) [] body = agPR cfg 1000001 none'' [] body (topK cfg Tryd.f47 k kp) := by kernel_rfl
theorem body_is : Tryd.f47.body = some body := by kernel_rfl
theorem c_raw (k kp : D → List Blk → Prop) (x0 : Int) : funW cfg Tryd.f47 [(.v (.int IntKind.u8 x0))] [] k kp = c (fun x0 x3 x10 => X2000003 k kp (m2000003 x0 x3 x10)) x0 (fun y0 => k (.v (.int IntKind.i64 y0)) []) :=
  Eq.mp (by kernel_rfl) ((funW_run (AG := none'') body_is (c_ag k kp) [(.v (.int IntKind.u8 x0))] []).trans (c_c k kp (JJ k kp) (LL k kp) x0))
theorem f_eq (k kp : D → List Blk → Prop) (x0 : Int) : funW cfg Tryd.f47 [(.v (.int IntKind.u8 x0))] [] k kp = f x0 (fun y0 => k (.v (.int IntKind.i64 y0)) []) := by
  rw [f_def, c_raw]; simp only [j2000003_eq]; first | done | rfl
noncomputable def ent0 : Entry := fun args blks k _ => match args, blks with
  | [d0], [] => aInt IntKind.u8 d0 fun x0 => f x0 (fun y0 => k (.v (.int IntKind.i64 y0)) [])
  | _, _ => False
noncomputable def ent : Entry := fun args blks k kp => ent0 (convB [.no] args) blks k kp
theorem ok : EntOk Tryd.prog 49 0 47 ent := by
  refine EntOk.convB (EntOk.of (funW_ok (cfg := cfg) (tyOk_of rfl rfl tyL_ok) (eqOk_of (P := Tryd.prog) rfl rfl (by kernel_rfl)) mixed_ok (tab_ok ?_) Tryd.func47 (by rfl) (by rfl)) ?_) _
  · intro p hp
    cases hp
  · intro args blks k kp h k' kp'
    match args, blks, h with
    | [d0], [], h =>
    dsimp only [ent0] at h
    have h9 := aInt_elim h; clear h; obtain ⟨x0, rfl, h⟩ := h9
    exact (f_eq k' kp' x0).symm
end N47
end Go.Proofs.Ye
