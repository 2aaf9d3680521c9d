/- Functions of the program as plain functions, each with the proof that the code comes to them. -/
import Derived.Test.YtidclggijmbffaaDoorLexN0
import Derived.Test.YtidclggijmbffaaDoorLexN1
namespace Go.Proofs.Ye
open Go Go.Aw Go.Proofs
set_option linter.unusedVariables false
set_option linter.unusedSimpArgs false
set_option maxRecDepth 100000
set_option maxHeartbeats 4000000
/-! dyehouse/dyehouseref03.Scan -/
namespace N26
noncomputable def cfg : Cfg := { P := Tryd.prog, tf := 49, tw := 0, ty := tys, E := tab [(47, N47.ent)], atSeq := tab [(2000002, ⟨[(0, .keep), (1, .keep), (26, .keep)]⟩), (3, ⟨[(0, .keep), (1, .keep)]⟩), (6, ⟨[(0, .keep), (7, .keep), (8, .keep)]⟩), (25, ⟨[(0, .keep), (7, .keep), (8, .keep)]⟩), (19, ⟨[(0, .keep), (7, .keep), (8, .keep), (9, .keep), (10, .keep), (11, .keep)]⟩), (21, ⟨[(0, .keep), (7, .keep), (8, .keep), (9, .keep), (10, .keep)]⟩), (2000026, ⟨[(7, .keep), (8, .keep), (121, .keep)]⟩), (16, ⟨[(0, .keep), (7, .keep), (8, .keep), (9, .keep), (10, .keep), (11, .keep), (12, .keep)]⟩), (2000020, ⟨[(0, .keep), (7, .keep), (8, .keep), (9, .keep), (10, .keep), (11, .keep), (91, .keep)]⟩), (27, ⟨[(7, .keep), (8, .keep)]⟩)], atLoop := tab [(5, ⟨[(0, .keep), (7, .keep), (8, .keep)]⟩), (15, ⟨[(0, .keep), (7, .keep), (8, .keep), (9, .keep), (10, .keep), (11, .keep), (12, .keep)]⟩)], outs := [], eqT := tab [], bT := tab [] }
noncomputable def body : Code := bodyOf Tryd.f26
def j2000002 (j3 : ByteArray → Int → Prop) (x0 : ByteArray) (x1 : Int) (x26 : Bool) (k : ByteArray → Int → Int → Prop) : Prop :=
  (br x26 (k (ByteArray.mk #[]) (0 : Int) (1 : Int)) (j3 x0 x1))
def j3 (l5 : ByteArray → ByteArray → Int → Prop) (x0 : ByteArray) (x1 : Int) (k : ByteArray → Int → Int → Prop) : Prop :=
  (l5 x0 (ByteArray.mk #[]) (IntKind.i64.wrap (x1 + (1 : Int))))
def l5 (j6 : ByteArray → ByteArray → Int → Prop) (j25 : ByteArray → ByteArray → Int → Prop) (x0 : ByteArray) (x7 : ByteArray) (x8 : Int) (k : ByteArray → Int → Int → Prop) : Prop :=
  (br (decide (x8 < ((((x0).size : Nat) : Int)))) ((inB 0 x8 ((((x0).size : Nat) : Int) - 1)) ∧ (br ((byteAt x0 x8) != (34 : Int)) ((inB 0 x8 ((((x0).size : Nat) : Int) - 1)) ∧ (br ((byteAt x0 x8) != (10 : Int)) (j6 x0 x7 x8) (j25 x0 x7 x8))) (j25 x0 x7 x8))) (j25 x0 x7 x8))
def j6 (l15 : ByteArray → ByteArray → Int → Int → Int → ByteArray → Int → Prop) (j19 : ByteArray → ByteArray → Int → Int → Int → ByteArray → Prop) (j21 : ByteArray → ByteArray → Int → Int → Int → Prop) (x0 : ByteArray) (x7 : ByteArray) (x8 : Int) (k : ByteArray → Int → Int → Prop) : Prop :=
  (br (((((x7).size : Nat) : Int)) == (64 : Int)) (k (ByteArray.mk #[]) x8 (3 : Int)) ((inB 0 x8 ((((x0).size : Nat) : Int) - 1)) ∧ (br ((byteAt x0 x8) == (92 : Int)) ((inB (IntKind.i64.wrap (x8 + (1 : Int))) (((x0).size : Nat) : Int) (((x0).size : Nat) : Int)) ∧ (br (decide ((((((ByteArray.extract x0 (Int.toNat (IntKind.i64.wrap (x8 + (1 : Int)))) (Int.toNat (((x0).size : Nat) : Int)))).size : Nat) : Int)) > (0 : Int))) (l15 x0 x7 x8 (0 : Int) (byteAt x0 x8) (ByteArray.extract x0 (Int.toNat (IntKind.i64.wrap (x8 + (1 : Int)))) (Int.toNat (((x0).size : Nat) : Int))) (0 : Int)) (j19 x0 x7 x8 (0 : Int) (byteAt x0 x8) (ByteArray.extract x0 (Int.toNat (IntKind.i64.wrap (x8 + (1 : Int)))) (Int.toNat (((x0).size : Nat) : Int)))))) (j21 x0 x7 x8 (1 : Int) (byteAt x0 x8)))))
def j25 (j2000026 : ByteArray → Int → Bool → Prop) (x0 : ByteArray) (x7 : ByteArray) (x8 : Int) (k : ByteArray → Int → Int → Prop) : Prop :=
  (br (x8 == ((((x0).size : Nat) : Int))) (j2000026 x7 x8 true) ((inB 0 x8 ((((x0).size : Nat) : Int) - 1)) ∧ (j2000026 x7 x8 ((byteAt x0 x8) == (10 : Int)))))
def l15 (j16 : ByteArray → ByteArray → Int → Int → Int → ByteArray → Int → Prop) (j19 : ByteArray → ByteArray → Int → Int → Int → ByteArray → Prop) (x0 : ByteArray) (x7 : ByteArray) (x8 : Int) (x9 : Int) (x10 : Int) (x11 : ByteArray) (x12 : Int) (k : ByteArray → Int → Int → Prop) : Prop :=
  (br (decide (x12 < (4 : Int))) ((inB 0 (0 : Int) ((((x11).size : Nat) : Int) - 1)) ∧ ((inB 0 x12 (((((ByteArray.mk #[110, 116, 34, 92])).size : Nat) : Int) - 1)) ∧ (br ((byteAt x11 (0 : Int)) == (byteAt (ByteArray.mk #[110, 116, 34, 92]) x12)) ((inB 0 x12 (((((ByteArray.mk #[10, 9, 34, 92])).size : Nat) : Int) - 1)) ∧ (j16 x0 x7 x8 (2 : Int) (byteAt (ByteArray.mk #[10, 9, 34, 92]) x12) x11 x12)) (j16 x0 x7 x8 x9 x10 x11 x12)))) (j19 x0 x7 x8 x9 x10 x11))
def j19 (j2000020 : ByteArray → ByteArray → Int → Int → Int → ByteArray → Bool → Prop) (x0 : ByteArray) (x7 : ByteArray) (x8 : Int) (x9 : Int) (x10 : Int) (x11 : ByteArray) (k : ByteArray → Int → Int → Prop) : Prop :=
  (br (decide (((((x11).size : Nat) : Int)) > (2 : Int))) ((inB 0 (0 : Int) ((((x11).size : Nat) : Int) - 1)) ∧ (br ((byteAt x11 (0 : Int)) == (120 : Int)) ((inB 0 (1 : Int) ((((x11).size : Nat) : Int) - 1)) ∧ (N47.f (byteAt x11 (1 : Int)) (fun (y0_0 : Int) => (br (decide (y0_0 < (16 : Int))) ((inB 0 (2 : Int) ((((x11).size : Nat) : Int) - 1)) ∧ (N47.f (byteAt x11 (2 : Int)) (fun (y0_1 : Int) => (j2000020 x0 x7 x8 x9 x10 x11 (decide (y0_1 < (16 : Int))))))) (j2000020 x0 x7 x8 x9 x10 x11 false))))) (j2000020 x0 x7 x8 x9 x10 x11 false))) (j2000020 x0 x7 x8 x9 x10 x11 false))
def j21 (ag5 : ByteArray → Int → Prop) (x0 : ByteArray) (x7 : ByteArray) (x8 : Int) (x9 : Int) (x10 : Int) (k : ByteArray → Int → Int → Prop) : Prop :=
  (br (x9 == (0 : Int)) (k (ByteArray.mk #[]) x8 (11 : Int)) (((x7).size + ((bytesOf ([x10] : List Int))).size ≤ 9223372036854775807) ∧ (ag5 (x7 ++ (bytesOf ([x10] : List Int))) (IntKind.i64.wrap (x8 + x9)))))
def j2000026 (j27 : ByteArray → Int → Prop) (x7 : ByteArray) (x8 : Int) (x121 : Bool) (k : ByteArray → Int → Int → Prop) : Prop :=
  (br x121 (k (ByteArray.mk #[]) x8 (11 : Int)) (j27 x7 x8))
def j16 (ag15 : Int → Int → Int → Prop) (x0 : ByteArray) (x7 : ByteArray) (x8 : Int) (x9 : Int) (x10 : Int) (x11 : ByteArray) (x12 : Int) (k : ByteArray → Int → Int → Prop) : Prop :=
  (ag15 x9 x10 (IntKind.i64.wrap (x12 + (1 : Int))))
def j2000020 (j21 : ByteArray → ByteArray → Int → Int → Int → Prop) (x0 : ByteArray) (x7 : ByteArray) (x8 : Int) (x9 : Int) (x10 : Int) (x11 : ByteArray) (x91 : Bool) (k : ByteArray → Int → Int → Prop) : Prop :=
  (br x91 ((inB 0 (1 : Int) ((((x11).size : Nat) : Int) - 1)) ∧ (N47.f (byteAt x11 (1 : Int)) (fun (y0_2 : Int) => ((inB 0 (2 : Int) ((((x11).size : Nat) : Int) - 1)) ∧ (N47.f (byteAt x11 (2 : Int)) (fun (y0_3 : Int) => (j21 x0 x7 x8 (4 : Int) (IntKind.u8.wrap (IntKind.i64.wrap ((IntKind.i64.wrap ((16 : Int) * y0_2)) + y0_3)))))))))) (j21 x0 x7 x8 x9 x10))
def j27 (x7 : ByteArray) (x8 : Int) (k : ByteArray → Int → Int → Prop) : Prop :=
  (k x7 (IntKind.i64.wrap (x8 + (1 : Int))) (0 : Int))
def c (j2000002 : ByteArray → Int → Bool → Prop) (x0 : ByteArray) (x1 : Int) (k : ByteArray → Int → Int → Prop) : Prop :=
  (br (decide (x1 < (0 : Int))) (j2000002 x0 x1 true) (br (decide (x1 ≥ ((((x0).size : Nat) : Int)))) (j2000002 x0 x1 true) ((inB 0 x1 ((((x0).size : Nat) : Int) - 1)) ∧ (j2000002 x0 x1 ((byteAt x0 x1) != (34 : Int))))))
def j21' (ag5 : ByteArray → Int → Prop) (x0 : ByteArray) (x7 : ByteArray) (x8 : Int) (x9 : Int) (x10 : Int) (k : ByteArray → Int → Int → Prop) : Prop := j21 ag5 x0 x7 x8 x9 x10 k
def j16' (ag15 : Int → Int → Int → Prop) (x0 : ByteArray) (x7 : ByteArray) (x8 : Int) (x9 : Int) (x10 : Int) (x11 : ByteArray) (x12 : Int) (k : ByteArray → Int → Int → Prop) : Prop := j16 ag15 x0 x7 x8 x9 x10 x11 x12 k
def j2000020' (ag5 : ByteArray → Int → Prop) (x0 : ByteArray) (x7 : ByteArray) (x8 : Int) (x9 : Int) (x10 : Int) (x11 : ByteArray) (x91 : Bool) (k : ByteArray → Int → Int → Prop) : Prop := j2000020 (fun x0 x7 x8 x9 x10 => j21' ag5 x0 x7 x8 x9 x10 k) x0 x7 x8 x9 x10 x11 x91 k
def j27' (x7 : ByteArray) (x8 : Int) (k : ByteArray → Int → Int → Prop) : Prop := j27 x7 x8 k
def j19' (ag5 : ByteArray → Int → Prop) (x0 : ByteArray) (x7 : ByteArray) (x8 : Int) (x9 : Int) (x10 : Int) (x11 : ByteArray) (k : ByteArray → Int → Int → Prop) : Prop := j19 (fun x0 x7 x8 x9 x10 x11 x91 => j2000020' ag5 x0 x7 x8 x9 x10 x11 x91 k) x0 x7 x8 x9 x10 x11 k
def j2000026' (x7 : ByteArray) (x8 : Int) (x121 : Bool) (k : ByteArray → Int → Int → Prop) : Prop := j2000026 (fun x7 x8 => j27' x7 x8 k) x7 x8 x121 k
def j25' (x0 : ByteArray) (x7 : ByteArray) (x8 : Int) (k : ByteArray → Int → Int → Prop) : Prop := j25 (fun x7 x8 x121 => j2000026' x7 x8 x121 k) x0 x7 x8 k
def l15' (ag5 : ByteArray → Int → Prop) (x0 : ByteArray) (x7 : ByteArray) (x8 : Int) (x9 : Int) (x10 : Int) (x11 : ByteArray) (x12 : Int) (k : ByteArray → Int → Int → Prop) : Prop := ∃ n, loopS (fun (ag : (Int × Int × Int) → Prop) (s : Int × Int × Int) => l15 (fun x0 x7 x8 x9 x10 x11 x12 => j16' (fun x9 x10 x12 => ag (x9, x10, x12)) x0 x7 x8 x9 x10 x11 x12 k) (fun x0 x7 x8 x9 x10 x11 => j19' ag5 x0 x7 x8 x9 x10 x11 k) x0 x7 x8 s.1 s.2.1 x11 s.2.2 k) n (x9, x10, x12)
def j6' (ag5 : ByteArray → Int → Prop) (x0 : ByteArray) (x7 : ByteArray) (x8 : Int) (k : ByteArray → Int → Int → Prop) : Prop := j6 (fun x0 x7 x8 x9 x10 x11 x12 => l15' ag5 x0 x7 x8 x9 x10 x11 x12 k) (fun x0 x7 x8 x9 x10 x11 => j19' ag5 x0 x7 x8 x9 x10 x11 k) (fun x0 x7 x8 x9 x10 => j21' ag5 x0 x7 x8 x9 x10 k) x0 x7 x8 k
def l5' (x0 : ByteArray) (x7 : ByteArray) (x8 : Int) (k : ByteArray → Int → Int → Prop) : Prop := ∃ n, loopS (fun (ag : (ByteArray × Int) → Prop) (s : ByteArray × Int) => l5 (fun x0 x7 x8 => j6' (fun x7 x8 => ag (x7, x8)) x0 x7 x8 k) (fun x0 x7 x8 => j25' x0 x7 x8 k) x0 s.1 s.2 k) n (x7, x8)
def j3' (x0 : ByteArray) (x1 : Int) (k : ByteArray → Int → Int → Prop) : Prop := j3 (fun x0 x7 x8 => l5' x0 x7 x8 k) x0 x1 k
def j2000002' (x0 : ByteArray) (x1 : Int) (x26 : Bool) (k : ByteArray → Int → Int → Prop) : Prop := j2000002 (fun x0 x1 => j3' x0 x1 k) x0 x1 x26 k
def f0 (x0 : ByteArray) (x1 : Int) (k : ByteArray → Int → Int → Prop) : Prop := c (fun x0 x1 x26 => j2000002' x0 x1 x26 k) x0 x1 k
theorem f_ex : ∃ g : ByteArray → Int → (ByteArray → Int → Int → Prop) → Prop, g = f0 := ⟨_, rfl⟩
noncomputable def f : ByteArray → Int → (ByteArray → Int → Int → Prop) → Prop := Classical.choose f_ex
theorem f_def : f = f0 := Classical.choose_spec f_ex
def m2000002 (x0 : ByteArray) (x1 : Int) (x26 : Bool) : St := { tmps := mkT 126 0 [(0, (.v (.string x0))), (1, (.v (.int IntKind.i64 x1))), (26, (.v (.bool x26)))], hp := [], m := 0 }
def m3 (x0 : ByteArray) (x1 : Int) : St := { tmps := mkT 126 0 [(0, (.v (.string x0))), (1, (.v (.int IntKind.i64 x1)))], hp := [], m := 0 }
def mL5 (x0 : ByteArray) (x7 : ByteArray) (x8 : Int) : St := { tmps := mkT 126 0 [(0, (.v (.string x0))), (7, (.v (.string x7))), (8, (.v (.int IntKind.i64 x8)))], hp := [], m := 0 }
def m6 (x0 : ByteArray) (x7 : ByteArray) (x8 : Int) : St := { tmps := mkT 126 0 [(0, (.v (.string x0))), (7, (.v (.string x7))), (8, (.v (.int IntKind.i64 x8)))], hp := [], m := 0 }
def m25 (x0 : ByteArray) (x7 : ByteArray) (x8 : Int) : St := { tmps := mkT 126 0 [(0, (.v (.string x0))), (7, (.v (.string x7))), (8, (.v (.int IntKind.i64 x8)))], hp := [], m := 0 }
def mL15 (x0 : ByteArray) (x7 : ByteArray) (x8 : Int) (x9 : Int) (x10 : Int) (x11 : ByteArray) (x12 : Int) : St := { tmps := mkT 126 0 [(0, (.v (.string x0))), (7, (.v (.string x7))), (8, (.v (.int IntKind.i64 x8))), (9, (.v (.int IntKind.i64 x9))), (10, (.v (.int IntKind.u8 x10))), (11, (.v (.string x11))), (12, (.v (.int IntKind.i64 x12)))], hp := [], m := 0 }
def m19 (x0 : ByteArray) (x7 : ByteArray) (x8 : Int) (x9 : Int) (x10 : Int) (x11 : ByteArray) : St := { tmps := mkT 126 0 [(0, (.v (.string x0))), (7, (.v (.string x7))), (8, (.v (.int IntKind.i64 x8))), (9, (.v (.int IntKind.i64 x9))), (10, (.v (.int IntKind.u8 x10))), (11, (.v (.string x11)))], hp := [], m := 0 }
def m21 (x0 : ByteArray) (x7 : ByteArray) (x8 : Int) (x9 : Int) (x10 : Int) : St := { tmps := mkT 126 0 [(0, (.v (.string x0))), (7, (.v (.string x7))), (8, (.v (.int IntKind.i64 x8))), (9, (.v (.int IntKind.i64 x9))), (10, (.v (.int IntKind.u8 x10)))], hp := [], m := 0 }
def m2000026 (x7 : ByteArray) (x8 : Int) (x121 : Bool) : St := { tmps := mkT 126 0 [(7, (.v (.string x7))), (8, (.v (.int IntKind.i64 x8))), (121, (.v (.bool x121)))], hp := [], m := 0 }
def m16 (x0 : ByteArray) (x7 : ByteArray) (x8 : Int) (x9 : Int) (x10 : Int) (x11 : ByteArray) (x12 : Int) : St := { tmps := mkT 126 0 [(0, (.v (.string x0))), (7, (.v (.string x7))), (8, (.v (.int IntKind.i64 x8))), (9, (.v (.int IntKind.i64 x9))), (10, (.v (.int IntKind.u8 x10))), (11, (.v (.string x11))), (12, (.v (.int IntKind.i64 x12)))], hp := [], m := 0 }
def m2000020 (x0 : ByteArray) (x7 : ByteArray) (x8 : Int) (x9 : Int) (x10 : Int) (x11 : ByteArray) (x91 : Bool) : St := { tmps := mkT 126 0 [(0, (.v (.string x0))), (7, (.v (.string x7))), (8, (.v (.int IntKind.i64 x8))), (9, (.v (.int IntKind.i64 x9))), (10, (.v (.int IntKind.u8 x10))), (11, (.v (.string x11))), (91, (.v (.bool x91)))], hp := [], m := 0 }
def m27 (x7 : ByteArray) (x8 : Int) : St := { tmps := mkT 126 0 [(7, (.v (.string x7))), (8, (.v (.int IntKind.i64 x8)))], hp := [], m := 0 }
noncomputable def X2000002 (k kp : D → List Blk → Prop) : St → Prop := atP cfg (pick none' []) [1, 0, 1] body (topK cfg Tryd.f26 k kp)
noncomputable def X3 (k kp : D → List Blk → Prop) : St → Prop := atP cfg (pick none' []) [1, 1] body (topK cfg Tryd.f26 k kp)
noncomputable def YL5 (k kp : D → List Blk → Prop) : (St → Prop) → St → Prop := loopB cfg (sub [1, 1, 1, 1, 0, 0, 0] body) (contK cfg (pick none' []) [1, 1, 1, 1, 0, 0] body (topK cfg Tryd.f26 k kp))
noncomputable def XL5 (k kp : D → List Blk → Prop) : St → Prop := fun st => ∃ n, loopN (YL5 k kp) n st
noncomputable def X6 (k kp : D → List Blk → Prop) (ag5 : St → Prop) : St → Prop := atP cfg (pick none' [(5, ag5)]) [1, 1, 1, 1, 0, 0, 0, 1] body (topK cfg Tryd.f26 k kp)
noncomputable def X25 (k kp : D → List Blk → Prop) : St → Prop := atP cfg (pick none' []) [1, 1, 1, 1, 1] body (topK cfg Tryd.f26 k kp)
noncomputable def YL15 (k kp : D → List Blk → Prop) (ag5 : St → Prop) : (St → Prop) → St → Prop := loopB cfg (sub [1, 1, 1, 1, 0, 0, 0, 1, 0, 1, 1, 1, 0, 1, 0, 1, 1, 0, 1, 0, 1, 0, 0] body) (contK cfg (pick none' [(5, ag5)]) [1, 1, 1, 1, 0, 0, 0, 1, 0, 1, 1, 1, 0, 1, 0, 1, 1, 0, 1, 0, 1, 0] body (topK cfg Tryd.f26 k kp))
noncomputable def XL15 (k kp : D → List Blk → Prop) (ag5 : St → Prop) : St → Prop := fun st => ∃ n, loopN (YL15 k kp ag5) n st
noncomputable def X19 (k kp : D → List Blk → Prop) (ag5 : St → Prop) : St → Prop := atP cfg (pick none' [(5, ag5)]) [1, 1, 1, 1, 0, 0, 0, 1, 0, 1, 1, 1, 0, 1, 0, 1, 1, 1] body (topK cfg Tryd.f26 k kp)
noncomputable def X21 (k kp : D → List Blk → Prop) (ag5 : St → Prop) : St → Prop := atP cfg (pick none' [(5, ag5)]) [1, 1, 1, 1, 0, 0, 0, 1, 0, 1, 1, 1, 1] body (topK cfg Tryd.f26 k kp)
noncomputable def X2000026 (k kp : D → List Blk → Prop) : St → Prop := atP cfg (pick none' []) [1, 1, 1, 1, 1, 0, 1] body (topK cfg Tryd.f26 k kp)
noncomputable def X16 (k kp : D → List Blk → Prop) (ag5 : St → Prop) (ag15 : St → Prop) : St → Prop := atP cfg (pick none' [(5, ag5), (15, ag15)]) [1, 1, 1, 1, 0, 0, 0, 1, 0, 1, 1, 1, 0, 1, 0, 1, 1, 0, 1, 0, 1, 0, 0, 1, 1] body (topK cfg Tryd.f26 k kp)
noncomputable def X2000020 (k kp : D → List Blk → Prop) (ag5 : St → Prop) : St → Prop := atP cfg (pick none' [(5, ag5)]) [1, 1, 1, 1, 0, 0, 0, 1, 0, 1, 1, 1, 0, 1, 0, 1, 1, 1, 1] body (topK cfg Tryd.f26 k kp)
noncomputable def X27 (k kp : D → List Blk → Prop) : St → Prop := atP cfg (pick none' []) [1, 1, 1, 1, 1, 1] body (topK cfg Tryd.f26 k kp)
noncomputable def JJ (k kp : D → List Blk → Prop) : Nat → St → Prop := pick none' [(2000002, X2000002 k kp), (3, X3 k kp), (25, X25 k kp), (2000026, X2000026 k kp), (27, X27 k kp)]
noncomputable def LL (k kp : D → List Blk → Prop) : Nat → St → Prop := pick none' [(5, XL5 k kp)]
noncomputable def JJ_5 (k kp : D → List Blk → Prop) (ag5 : St → Prop) : Nat → St → Prop := pick none' [(2000002, X2000002 k kp), (3, X3 k kp), (6, X6 k kp ag5), (25, X25 k kp), (19, X19 k kp ag5), (21, X21 k kp ag5), (2000026, X2000026 k kp), (2000020, X2000020 k kp ag5), (27, X27 k kp)]
noncomputable def LL_5 (k kp : D → List Blk → Prop) (ag5 : St → Prop) : Nat → St → Prop := pick none' [(5, XL5 k kp), (15, XL15 k kp ag5)]
noncomputable def JJ_5_15 (k kp : D → List Blk → Prop) (ag5 : St → Prop) (ag15 : St → Prop) : Nat → St → Prop := pick none' [(2000002, X2000002 k kp), (3, X3 k kp), (6, X6 k kp ag5), (25, X25 k kp), (19, X19 k kp ag5), (21, X21 k kp ag5), (2000026, X2000026 k kp), (16, X16 k kp ag5 ag15), (2000020, X2000020 k kp ag5), (27, X27 k kp)]
noncomputable def LL_5_15 (k kp : D → List Blk → Prop) (ag5 : St → Prop) (ag15 : St → Prop) : Nat → St → Prop := pick none' [(5, XL5 k kp), (15, XL15 k kp ag5)]
theorem j21_c (k kp : D → List Blk → Prop) (J L : Nat → St → Prop) (ag5 : St → Prop) (x0 : ByteArray) (x7 : ByteArray) (x8 : Int) (x9 : Int) (x10 : Int) : runC cfg 21 J L (pick none' [(5, ag5)]) [1, 1, 1, 1, 0, 0, 0, 1, 0, 1, 1, 1, 1] body (topK cfg Tryd.f26 k kp) (m21 x0 x7 x8 x9 x10) = j21 (fun x7 x8 => ag5 (mL5 x0 x7 x8)) x0 x7 x8 x9 x10 (fun y0 y1 y2 => k (.tup [(.v (.string y0)), (.v (.int IntKind.i64 y1)), (.v (.int IntKind.i64 y2))]) []) := by kernel_rfl
theorem j21_ag (k kp : D → List Blk → Prop) (ag5 : St → Prop) : agPL cfg 21 (JJ_5 k kp ag5) (LL_5 k kp ag5) [1, 1, 1, 1, 0, 0, 0, 1, 0, 1, 1, 1, 1] body = agPR cfg 21 (pick none' [(5, ag5)]) [1, 1, 1, 1, 0, 0, 0, 1, 0, 1, 1, 1, 1] body (topK cfg Tryd.f26 k kp) := by kernel_rfl
theorem j21_raw (k kp : D → List Blk → Prop) (ag5 : St → Prop) (x0 : ByteArray) (x7 : ByteArray) (x8 : Int) (x9 : Int) (x10 : Int) : X21 k kp ag5 (m21 x0 x7 x8 x9 x10) = j21 (fun x7 x8 => ag5 (mL5 x0 x7 x8)) x0 x7 x8 x9 x10 (fun y0 y1 y2 => k (.tup [(.v (.string y0)), (.v (.int IntKind.i64 y1)), (.v (.int IntKind.i64 y2))]) []) :=
  Eq.mp (by kernel_rfl) ((atP_run (j21_ag k kp ag5) (m21 x0 x7 x8 x9 x10)).trans (j21_c k kp (JJ_5 k kp ag5) (LL_5 k kp ag5) ag5 x0 x7 x8 x9 x10))
theorem j21_eq (k kp : D → List Blk → Prop) (ag5 : St → Prop) (x0 : ByteArray) (x7 : ByteArray) (x8 : Int) (x9 : Int) (x10 : Int) : X21 k kp ag5 (m21 x0 x7 x8 x9 x10) = j21' (fun x7 x8 => ag5 (mL5 x0 x7 x8)) x0 x7 x8 x9 x10 (fun y0 y1 y2 => k (.tup [(.v (.string y0)), (.v (.int IntKind.i64 y1)), (.v (.int IntKind.i64 y2))]) []) := by
  rw [j21_raw]; rfl
theorem j16_c (k kp : D → List Blk → Prop) (J L : Nat → St → Prop) (ag5 : St → Prop) (ag15 : St → Prop) (x0 : ByteArray) (x7 : ByteArray) (x8 : Int) (x9 : Int) (x10 : Int) (x11 : ByteArray) (x12 : Int) : runC cfg 16 J L (pick none' [(5, ag5), (15, ag15)]) [1, 1, 1, 1, 0, 0, 0, 1, 0, 1, 1, 1, 0, 1, 0, 1, 1, 0, 1, 0, 1, 0, 0, 1, 1] body (topK cfg Tryd.f26 k kp) (m16 x0 x7 x8 x9 x10 x11 x12) = j16 (fun x9 x10 x12 => ag15 (mL15 x0 x7 x8 x9 x10 x11 x12)) x0 x7 x8 x9 x10 x11 x12 (fun y0 y1 y2 => k (.tup [(.v (.string y0)), (.v (.int IntKind.i64 y1)), (.v (.int IntKind.i64 y2))]) []) := by kernel_rfl
theorem j16_ag (k kp : D → List Blk → Prop) (ag5 : St → Prop) (ag15 : St → Prop) : agPL cfg 16 (JJ_5_15 k kp ag5 ag15) (LL_5_15 k kp ag5 ag15) [1, 1, 1, 1, 0, 0, 0, 1, 0, 1, 1, 1, 0, 1, 0, 1, 1, 0, 1, 0, 1, 0, 0, 1, 1] body = agPR cfg 16 (pick none' [(5, ag5), (15, ag15)]) [1, 1, 1, 1, 0, 0, 0, 1, 0, 1, 1, 1, 0, 1, 0, 1, 1, 0, 1, 0, 1, 0, 0, 1, 1] body (topK cfg Tryd.f26 k kp) := by kernel_rfl
theorem j16_raw (k kp : D → List Blk → Prop) (ag5 : St → Prop) (ag15 : St → Prop) (x0 : ByteArray) (x7 : ByteArray) (x8 : Int) (x9 : Int) (x10 : Int) (x11 : ByteArray) (x12 : Int) : X16 k kp ag5 ag15 (m16 x0 x7 x8 x9 x10 x11 x12) = j16 (fun x9 x10 x12 => ag15 (mL15 x0 x7 x8 x9 x10 x11 x12)) x0 x7 x8 x9 x10 x11 x12 (fun y0 y1 y2 => k (.tup [(.v (.string y0)), (.v (.int IntKind.i64 y1)), (.v (.int IntKind.i64 y2))]) []) :=
  Eq.mp (by kernel_rfl) ((atP_run (j16_ag k kp ag5 ag15) (m16 x0 x7 x8 x9 x10 x11 x12)).trans (j16_c k kp (JJ_5_15 k kp ag5 ag15) (LL_5_15 k kp ag5 ag15) ag5 ag15 x0 x7 x8 x9 x10 x11 x12))
theorem j16_eq (k kp : D → List Blk → Prop) (ag5 : St → Prop) (ag15 : St → Prop) (x0 : ByteArray) (x7 : ByteArray) (x8 : Int) (x9 : Int) (x10 : Int) (x11 : ByteArray) (x12 : Int) : X16 k kp ag5 ag15 (m16 x0 x7 x8 x9 x10 x11 x12) = j16' (fun x9 x10 x12 => ag15 (mL15 x0 x7 x8 x9 x10 x11 x12)) x0 x7 x8 x9 x10 x11 x12 (fun y0 y1 y2 => k (.tup [(.v (.string y0)), (.v (.int IntKind.i64 y1)), (.v (.int IntKind.i64 y2))]) []) := by
  rw [j16_raw]; rfl
theorem j2000020_c (k kp : D → List Blk → Prop) (J L : Nat → St → Prop) (ag5 : St → Prop) (x0 : ByteArray) (x7 : ByteArray) (x8 : Int) (x9 : Int) (x10 : Int) (x11 : ByteArray) (x91 : Bool) : runC cfg 2000020 J L (pick none' [(5, ag5)]) [1, 1, 1, 1, 0, 0, 0, 1, 0, 1, 1, 1, 0, 1, 0, 1, 1, 1, 1] body (topK cfg Tryd.f26 k kp) (m2000020 x0 x7 x8 x9 x10 x11 x91) = j2000020 (fun x0 x7 x8 x9 x10 => J 21 (m21 x0 x7 x8 x9 x10)) x0 x7 x8 x9 x10 x11 x91 (fun y0 y1 y2 => k (.tup [(.v (.string y0)), (.v (.int IntKind.i64 y1)), (.v (.int IntKind.i64 y2))]) []) := by kernel_rfl
theorem j2000020_ag (k kp : D → List Blk → Prop) (ag5 : St → Prop) : agPL cfg 2000020 (JJ_5 k kp ag5) (LL_5 k kp ag5) [1, 1, 1, 1, 0, 0, 0, 1, 0, 1, 1, 1, 0, 1, 0, 1, 1, 1, 1] body = agPR cfg 2000020 (pick none' [(5, ag5)]) [1, 1, 1, 1, 0, 0, 0, 1, 0, 1, 1, 1, 0, 1, 0, 1, 1, 1, 1] body (topK cfg Tryd.f26 k kp) := by kernel_rfl
theorem j2000020_raw (k kp : D → List Blk → Prop) (ag5 : St → Prop) (x0 : ByteArray) (x7 : ByteArray) (x8 : Int) (x9 : Int) (x10 : Int) (x11 : ByteArray) (x91 : Bool) : X2000020 k kp ag5 (m2000020 x0 x7 x8 x9 x10 x11 x91) = j2000020 (fun x0 x7 x8 x9 x10 => X21 k kp ag5 (m21 x0 x7 x8 x9 x10)) x0 x7 x8 x9 x10 x11 x91 (fun y0 y1 y2 => k (.tup [(.v (.string y0)), (.v (.int IntKind.i64 y1)), (.v (.int IntKind.i64 y2))]) []) :=
  Eq.mp (by kernel_rfl) ((atP_run (j2000020_ag k kp ag5) (m2000020 x0 x7 x8 x9 x10 x11 x91)).trans (j2000020_c k kp (JJ_5 k kp ag5) (LL_5 k kp ag5) ag5 x0 x7 x8 x9 x10 x11 x91))
theorem j2000020_eq (k kp : D → List Blk → Prop) (ag5 : St → Prop) (x0 : ByteArray) (x7 : ByteArray) (x8 : Int) (x9 : Int) (x10 : Int) (x11 : ByteArray) (x91 : Bool) : X2000020 k kp ag5 (m2000020 x0 x7 x8 x9 x10 x11 x91) = j2000020' (fun x7 x8 => ag5 (mL5 x0 x7 x8)) x0 x7 x8 x9 x10 x11 x91 (fun y0 y1 y2 => k (.tup [(.v (.string y0)), (.v (.int IntKind.i64 y1)), (.v (.int IntKind.i64 y2))]) []) := by
  rw [j2000020_raw]; simp only [j21_eq]; first | done | rfl
theorem j27_c (k kp : D → List Blk → Prop) (J L : Nat → St → Prop) (x7 : ByteArray) (x8 : Int) : runC cfg 27 J L (pick none' []) [1, 1, 1, 1, 1, 1] body (topK cfg Tryd.f26 k kp) (m27 x7 x8) = j27 x7 x8 (fun y0 y1 y2 => k (.tup [(.v (.string y0)), (.v (.int IntKind.i64 y1)), (.v (.int IntKind.i64 y2))]) []) := by kernel_rfl
theorem j27_ag (k kp : D → List Blk → Prop) : agPL cfg 27 (JJ k kp) (LL k kp) [1, 1, 1, 1, 1, 1] body = agPR cfg 27 (pick none' []) [1, 1, 1, 1, 1, 1] body (topK cfg Tryd.f26 k kp) := by kernel_rfl
theorem j27_raw (k kp : D → List Blk → Prop) (x7 : ByteArray) (x8 : Int) : X27 k kp (m27 x7 x8) = j27 x7 x8 (fun y0 y1 y2 => k (.tup [(.v (.string y0)), (.v (.int IntKind.i64 y1)), (.v (.int IntKind.i64 y2))]) []) :=
  Eq.mp (by kernel_rfl) ((atP_run (j27_ag k kp) (m27 x7 x8)).trans (j27_c k kp (JJ k kp) (LL k kp) x7 x8))
theorem j27_eq (k kp : D → List Blk → Prop) (x7 : ByteArray) (x8 : Int) : X27 k kp (m27 x7 x8) = j27' x7 x8 (fun y0 y1 y2 => k (.tup [(.v (.string y0)), (.v (.int IntKind.i64 y1)), (.v (.int IntKind.i64 y2))]) []) := by
  rw [j27_raw]; rfl
theorem j19_c (k kp : D → List Blk → Prop) (J L : Nat → St → Prop) (ag5 : St → Prop) (x0 : ByteArray) (x7 : ByteArray) (x8 : Int) (x9 : Int) (x10 : Int) (x11 : ByteArray) : runC cfg 19 J L (pick none' [(5, ag5)]) [1, 1, 1, 1, 0, 0, 0, 1, 0, 1, 1, 1, 0, 1, 0, 1, 1, 1] body (topK cfg Tryd.f26 k kp) (m19 x0 x7 x8 x9 x10 x11) = j19 (fun x0 x7 x8 x9 x10 x11 x91 => J 2000020 (m2000020 x0 x7 x8 x9 x10 x11 x91)) x0 x7 x8 x9 x10 x11 (fun y0 y1 y2 => k (.tup [(.v (.string y0)), (.v (.int IntKind.i64 y1)), (.v (.int IntKind.i64 y2))]) []) := by kernel_rfl
theorem j19_ag (k kp : D → List Blk → Prop) (ag5 : St → Prop) : agPL cfg 19 (JJ_5 k kp ag5) (LL_5 k kp ag5) [1, 1, 1, 1, 0, 0, 0, 1, 0, 1, 1, 1, 0, 1, 0, 1, 1, 1] body = agPR cfg 19 (pick none' [(5, ag5)]) [1, 1, 1, 1, 0, 0, 0, 1, 0, 1, 1, 1, 0, 1, 0, 1, 1, 1] body (topK cfg Tryd.f26 k kp) := by kernel_rfl
theorem j19_raw (k kp : D → List Blk → Prop) (ag5 : St → Prop) (x0 : ByteArray) (x7 : ByteArray) (x8 : Int) (x9 : Int) (x10 : Int) (x11 : ByteArray) : X19 k kp ag5 (m19 x0 x7 x8 x9 x10 x11) = j19 (fun x0 x7 x8 x9 x10 x11 x91 => X2000020 k kp ag5 (m2000020 x0 x7 x8 x9 x10 x11 x91)) x0 x7 x8 x9 x10 x11 (fun y0 y1 y2 => k (.tup [(.v (.string y0)), (.v (.int IntKind.i64 y1)), (.v (.int IntKind.i64 y2))]) []) :=
  Eq.mp (by kernel_rfl) ((atP_run (j19_ag k kp ag5) (m19 x0 x7 x8 x9 x10 x11)).trans (j19_c k kp (JJ_5 k kp ag5) (LL_5 k kp ag5) ag5 x0 x7 x8 x9 x10 x11))
theorem j19_eq (k kp : D → List Blk → Prop) (ag5 : St → Prop) (x0 : ByteArray) (x7 : ByteArray) (x8 : Int) (x9 : Int) (x10 : Int) (x11 : ByteArray) : X19 k kp ag5 (m19 x0 x7 x8 x9 x10 x11) = j19' (fun x7 x8 => ag5 (mL5 x0 x7 x8)) x0 x7 x8 x9 x10 x11 (fun y0 y1 y2 => k (.tup [(.v (.string y0)), (.v (.int IntKind.i64 y1)), (.v (.int IntKind.i64 y2))]) []) := by
  rw [j19_raw]; simp only [j2000020_eq]; first | done | rfl
theorem j2000026_c (k kp : D → List Blk → Prop) (J L : Nat → St → Prop) (x7 : ByteArray) (x8 : Int) (x121 : Bool) : runC cfg 2000026 J L (pick none' []) [1, 1, 1, 1, 1, 0, 1] body (topK cfg Tryd.f26 k kp) (m2000026 x7 x8 x121) = j2000026 (fun x7 x8 => J 27 (m27 x7 x8)) x7 x8 x121 (fun y0 y1 y2 => k (.tup [(.v (.string y0)), (.v (.int IntKind.i64 y1)), (.v (.int IntKind.i64 y2))]) []) := by kernel_rfl
theorem j2000026_ag (k kp : D → List Blk → Prop) : agPL cfg 2000026 (JJ k kp) (LL k kp) [1, 1, 1, 1, 1, 0, 1] body = agPR cfg 2000026 (pick none' []) [1, 1, 1, 1, 1, 0, 1] body (topK cfg Tryd.f26 k kp) := by kernel_rfl
theorem j2000026_raw (k kp : D → List Blk → Prop) (x7 : ByteArray) (x8 : Int) (x121 : Bool) : X2000026 k kp (m2000026 x7 x8 x121) = j2000026 (fun x7 x8 => X27 k kp (m27 x7 x8)) x7 x8 x121 (fun y0 y1 y2 => k (.tup [(.v (.string y0)), (.v (.int IntKind.i64 y1)), (.v (.int IntKind.i64 y2))]) []) :=
  Eq.mp (by kernel_rfl) ((atP_run (j2000026_ag k kp) (m2000026 x7 x8 x121)).trans (j2000026_c k kp (JJ k kp) (LL k kp) x7 x8 x121))
theorem j2000026_eq (k kp : D → List Blk → Prop) (x7 : ByteArray) (x8 : Int) (x121 : Bool) : X2000026 k kp (m2000026 x7 x8 x121) = j2000026' x7 x8 x121 (fun y0 y1 y2 => k (.tup [(.v (.string y0)), (.v (.int IntKind.i64 y1)), (.v (.int IntKind.i64 y2))]) []) := by
  rw [j2000026_raw]; simp only [j27_eq]; first | done | rfl
theorem j25_c (k kp : D → List Blk → Prop) (J L : Nat → St → Prop) (x0 : ByteArray) (x7 : ByteArray) (x8 : Int) : runC cfg 25 J L (pick none' []) [1, 1, 1, 1, 1] body (topK cfg Tryd.f26 k kp) (m25 x0 x7 x8) = j25 (fun x7 x8 x121 => J 2000026 (m2000026 x7 x8 x121)) x0 x7 x8 (fun y0 y1 y2 => k (.tup [(.v (.string y0)), (.v (.int IntKind.i64 y1)), (.v (.int IntKind.i64 y2))]) []) := by kernel_rfl
theorem j25_ag (k kp : D → List Blk → Prop) : agPL cfg 25 (JJ k kp) (LL k kp) [1, 1, 1, 1, 1] body = agPR cfg 25 (pick none' []) [1, 1, 1, 1, 1] body (topK cfg Tryd.f26 k kp) := by kernel_rfl
theorem j25_raw (k kp : D → List Blk → Prop) (x0 : ByteArray) (x7 : ByteArray) (x8 : Int) : X25 k kp (m25 x0 x7 x8) = j25 (fun x7 x8 x121 => X2000026 k kp (m2000026 x7 x8 x121)) x0 x7 x8 (fun y0 y1 y2 => k (.tup [(.v (.string y0)), (.v (.int IntKind.i64 y1)), (.v (.int IntKind.i64 y2))]) []) :=
  Eq.mp (by kernel_rfl) ((atP_run (j25_ag k kp) (m25 x0 x7 x8)).trans (j25_c k kp (JJ k kp) (LL k kp) x0 x7 x8))
theorem j25_eq (k kp : D → List Blk → Prop) (x0 : ByteArray) (x7 : ByteArray) (x8 : Int) : X25 k kp (m25 x0 x7 x8) = j25' x0 x7 x8 (fun y0 y1 y2 => k (.tup [(.v (.string y0)), (.v (.int IntKind.i64 y1)), (.v (.int IntKind.i64 y2))]) []) := by
  rw [j25_raw]; simp only [j2000026_eq]; first | done | rfl
theorem l15_c (k kp : D → List Blk → Prop) (J L : Nat → St → Prop) (ag5 : St → Prop) (ag15 : St → Prop) (x0 : ByteArray) (x7 : ByteArray) (x8 : Int) (x9 : Int) (x10 : Int) (x11 : ByteArray) (x12 : Int) : runC cfg 1000001 J L (pick none' [(5, ag5), (15, ag15)]) [1, 1, 1, 1, 0, 0, 0, 1, 0, 1, 1, 1, 0, 1, 0, 1, 1, 0, 1, 0, 1, 0, 0] body (topK cfg Tryd.f26 k kp) (mL15 x0 x7 x8 x9 x10 x11 x12) = l15 (fun x0 x7 x8 x9 x10 x11 x12 => J 16 (m16 x0 x7 x8 x9 x10 x11 x12)) (fun x0 x7 x8 x9 x10 x11 => J 19 (m19 x0 x7 x8 x9 x10 x11)) x0 x7 x8 x9 x10 x11 x12 (fun y0 y1 y2 => k (.tup [(.v (.string y0)), (.v (.int IntKind.i64 y1)), (.v (.int IntKind.i64 y2))]) []) := by kernel_rfl
theorem l15_ag (k kp : D → List Blk → Prop) (ag5 : St → Prop) (ag15 : St → Prop) : agPL cfg 1000001 (JJ_5_15 k kp ag5 ag15) (LL_5_15 k kp ag5 ag15) [1, 1, 1, 1, 0, 0, 0, 1, 0, 1, 1, 1, 0, 1, 0, 1, 1, 0, 1, 0, 1, 0, 0] body = agPR cfg 1000001 (pick none' [(5, ag5), (15, ag15)]) [1, 1, 1, 1, 0, 0, 0, 1, 0, 1, 1, 1, 0, 1, 0, 1, 1, 0, 1, 0, 1, 0, 0] body (topK cfg Tryd.f26 k kp) := by kernel_rfl
theorem l15_raw (k kp : D → List Blk → Prop) (ag5 : St → Prop) (ag15 : St → Prop) (x0 : ByteArray) (x7 : ByteArray) (x8 : Int) (x9 : Int) (x10 : Int) (x11 : ByteArray) (x12 : Int) : YL15 k kp ag5 ag15 (mL15 x0 x7 x8 x9 x10 x11 x12) = l15 (fun x0 x7 x8 x9 x10 x11 x12 => X16 k kp ag5 ag15 (m16 x0 x7 x8 x9 x10 x11 x12)) (fun x0 x7 x8 x9 x10 x11 => X19 k kp ag5 (m19 x0 x7 x8 x9 x10 x11)) x0 x7 x8 x9 x10 x11 x12 (fun y0 y1 y2 => k (.tup [(.v (.string y0)), (.v (.int IntKind.i64 y1)), (.v (.int IntKind.i64 y2))]) []) :=
  Eq.mp (by kernel_rfl) ((atP_run (l15_ag k kp ag5 ag15) (mL15 x0 x7 x8 x9 x10 x11 x12)).trans (l15_c k kp (JJ_5_15 k kp ag5 ag15) (LL_5_15 k kp ag5 ag15) ag5 ag15 x0 x7 x8 x9 x10 x11 x12))
theorem l15_eq (k kp : D → List Blk → Prop) (ag5 : St → Prop) (x0 : ByteArray) (x7 : ByteArray) (x8 : Int) (x9 : Int) (x10 : Int) (x11 : ByteArray) (x12 : Int) : XL15 k kp ag5 (mL15 x0 x7 x8 x9 x10 x11 x12) = l15' (fun x7 x8 => ag5 (mL5 x0 x7 x8)) x0 x7 x8 x9 x10 x11 x12 (fun y0 y1 y2 => k (.tup [(.v (.string y0)), (.v (.int IntKind.i64 y1)), (.v (.int IntKind.i64 y2))]) []) :=
  loop_eq (mk := fun (s : Int × Int × Int) => mL15 x0 x7 x8 s.1 s.2.1 x11 s.2.2) (fun again s => by rw [l15_raw k kp ag5 again x0 x7 x8 s.1 s.2.1 x11 s.2.2]; simp only [j16_eq, j19_eq]; first | done | rfl) (x9, x10, x12)
theorem j6_c (k kp : D → List Blk → Prop) (J L : Nat → St → Prop) (ag5 : St → Prop) (x0 : ByteArray) (x7 : ByteArray) (x8 : Int) : runC cfg 6 J L (pick none' [(5, ag5)]) [1, 1, 1, 1, 0, 0, 0, 1] body (topK cfg Tryd.f26 k kp) (m6 x0 x7 x8) = j6 (fun x0 x7 x8 x9 x10 x11 x12 => L 15 (mL15 x0 x7 x8 x9 x10 x11 x12)) (fun x0 x7 x8 x9 x10 x11 => J 19 (m19 x0 x7 x8 x9 x10 x11)) (fun x0 x7 x8 x9 x10 => J 21 (m21 x0 x7 x8 x9 x10)) x0 x7 x8 (fun y0 y1 y2 => k (.tup [(.v (.string y0)), (.v (.int IntKind.i64 y1)), (.v (.int IntKind.i64 y2))]) []) := by kernel_rfl
theorem j6_ag (k kp : D → List Blk → Prop) (ag5 : St → Prop) : agPL cfg 6 (JJ_5 k kp ag5) (LL_5 k kp ag5) [1, 1, 1, 1, 0, 0, 0, 1] body = agPR cfg 6 (pick none' [(5, ag5)]) [1, 1, 1, 1, 0, 0, 0, 1] body (topK cfg Tryd.f26 k kp) := by kernel_rfl
theorem j6_raw (k kp : D → List Blk → Prop) (ag5 : St → Prop) (x0 : ByteArray) (x7 : ByteArray) (x8 : Int) : X6 k kp ag5 (m6 x0 x7 x8) = j6 (fun x0 x7 x8 x9 x10 x11 x12 => XL15 k kp ag5 (mL15 x0 x7 x8 x9 x10 x11 x12)) (fun x0 x7 x8 x9 x10 x11 => X19 k kp ag5 (m19 x0 x7 x8 x9 x10 x11)) (fun x0 x7 x8 x9 x10 => X21 k kp ag5 (m21 x0 x7 x8 x9 x10)) x0 x7 x8 (fun y0 y1 y2 => k (.tup [(.v (.string y0)), (.v (.int IntKind.i64 y1)), (.v (.int IntKind.i64 y2))]) []) :=
  Eq.mp (by kernel_rfl) ((atP_run (j6_ag k kp ag5) (m6 x0 x7 x8)).trans (j6_c k kp (JJ_5 k kp ag5) (LL_5 k kp ag5) ag5 x0 x7 x8))
theorem j6_eq (k kp : D → List Blk → Prop) (ag5 : St → Prop) (x0 : ByteArray) (x7 : ByteArray) (x8 : Int) : X6 k kp ag5 (m6 x0 x7 x8) = j6' (fun x7 x8 => ag5 (mL5 x0 x7 x8)) x0 x7 x8 (fun y0 y1 y2 => k (.tup [(.v (.string y0)), (.v (.int IntKind.i64 y1)), (.v (.int IntKind.i64 y2))]) []) := by
  rw [j6_raw]; simp only [l15_eq, j19_eq, j21_eq]; first | done | rfl
theorem l5_c (k kp : D → List Blk → Prop) (J L : Nat → St → Prop) (ag5 : St → Prop) (x0 : ByteArray) (x7 : ByteArray) (x8 : Int) : runC cfg 1000001 J L (pick none' [(5, ag5)]) [1, 1, 1, 1, 0, 0, 0] body (topK cfg Tryd.f26 k kp) (mL5 x0 x7 x8) = l5 (fun x0 x7 x8 => J 6 (m6 x0 x7 x8)) (fun x0 x7 x8 => J 25 (m25 x0 x7 x8)) x0 x7 x8 (fun y0 y1 y2 => k (.tup [(.v (.string y0)), (.v (.int IntKind.i64 y1)), (.v (.int IntKind.i64 y2))]) []) := by kernel_rfl
theorem l5_ag (k kp : D → List Blk → Prop) (ag5 : St → Prop) : agPL cfg 1000001 (JJ_5 k kp ag5) (LL_5 k kp ag5) [1, 1, 1, 1, 0, 0, 0] body = agPR cfg 1000001 (pick none' [(5, ag5)]) [1, 1, 1, 1, 0, 0, 0] body (topK cfg Tryd.f26 k kp) := by kernel_rfl
theorem l5_raw (k kp : D → List Blk → Prop) (ag5 : St → Prop) (x0 : ByteArray) (x7 : ByteArray) (x8 : Int) : YL5 k kp ag5 (mL5 x0 x7 x8) = l5 (fun x0 x7 x8 => X6 k kp ag5 (m6 x0 x7 x8)) (fun x0 x7 x8 => X25 k kp (m25 x0 x7 x8)) x0 x7 x8 (fun y0 y1 y2 => k (.tup [(.v (.string y0)), (.v (.int IntKind.i64 y1)), (.v (.int IntKind.i64 y2))]) []) :=
  Eq.mp (by kernel_rfl) ((atP_run (l5_ag k kp ag5) (mL5 x0 x7 x8)).trans (l5_c k kp (JJ_5 k kp ag5) (LL_5 k kp ag5) ag5 x0 x7 x8))
theorem l5_eq (k kp : D → List Blk → Prop) (x0 : ByteArray) (x7 : ByteArray) (x8 : Int) : XL5 k kp (mL5 x0 x7 x8) = l5' x0 x7 x8 (fun y0 y1 y2 => k (.tup [(.v (.string y0)), (.v (.int IntKind.i64 y1)), (.v (.int IntKind.i64 y2))]) []) :=
  loop_eq (mk := fun (s : ByteArray × Int) => mL5 x0 s.1 s.2) (fun again s => by rw [l5_raw k kp again x0 s.1 s.2]; simp only [j6_eq, j25_eq]; first | done | rfl) (x7, x8)
theorem j3_c (k kp : D → List Blk → Prop) (J L : Nat → St → Prop) (x0 : ByteArray) (x1 : Int) : runC cfg 3 J L (pick none' []) [1, 1] body (topK cfg Tryd.f26 k kp) (m3 x0 x1) = j3 (fun x0 x7 x8 => L 5 (mL5 x0 x7 x8)) x0 x1 (fun y0 y1 y2 => k (.tup [(.v (.string y0)), (.v (.int IntKind.i64 y1)), (.v (.int IntKind.i64 y2))]) []) := by kernel_rfl
theorem j3_ag (k kp : D → List Blk → Prop) : agPL cfg 3 (JJ k kp) (LL k kp) [1, 1] body = agPR cfg 3 (pick none' []) [1, 1] body (topK cfg Tryd.f26 k kp) := by kernel_rfl
theorem j3_raw (k kp : D → List Blk → Prop) (x0 : ByteArray) (x1 : Int) : X3 k kp (m3 x0 x1) = j3 (fun x0 x7 x8 => XL5 k kp (mL5 x0 x7 x8)) x0 x1 (fun y0 y1 y2 => k (.tup [(.v (.string y0)), (.v (.int IntKind.i64 y1)), (.v (.int IntKind.i64 y2))]) []) :=
  Eq.mp (by kernel_rfl) ((atP_run (j3_ag k kp) (m3 x0 x1)).trans (j3_c k kp (JJ k kp) (LL k kp) x0 x1))
theorem j3_eq (k kp : D → List Blk → Prop) (x0 : ByteArray) (x1 : Int) : X3 k kp (m3 x0 x1) = j3' x0 x1 (fun y0 y1 y2 => k (.tup [(.v (.string y0)), (.v (.int IntKind.i64 y1)), (.v (.int IntKind.i64 y2))]) []) := by
  rw [j3_raw]; simp only [l5_eq]; first | done | rfl
theorem j2000002_c (k kp : D → List Blk → Prop) (J L : Nat → St → Prop) (x0 : ByteArray) (x1 : Int) (x26 : Bool) : runC cfg 2000002 J L (pick none' []) [1, 0, 1] body (topK cfg Tryd.f26 k kp) (m2000002 x0 x1 x26) = j2000002 (fun x0 x1 => J 3 (m3 x0 x1)) x0 x1 x26 (fun y0 y1 y2 => k (.tup [(.v (.string y0)), (.v (.int IntKind.i64 y1)), (.v (.int IntKind.i64 y2))]) []) := by kernel_rfl
theorem j2000002_ag (k kp : D → List Blk → Prop) : agPL cfg 2000002 (JJ k kp) (LL k kp) [1, 0, 1] body = agPR cfg 2000002 (pick none' []) [1, 0, 1] body (topK cfg Tryd.f26 k kp) := by kernel_rfl
theorem j2000002_raw (k kp : D → List Blk → Prop) (x0 : ByteArray) (x1 : Int) (x26 : Bool) : X2000002 k kp (m2000002 x0 x1 x26) = j2000002 (fun x0 x1 => X3 k kp (m3 x0 x1)) x0 x1 x26 (fun y0 y1 y2 => k (.tup [(.v (.string y0)), (.v (.int IntKind.i64 y1)), (.v (.int IntKind.i64 y2))]) []) :=
  Eq.mp (by kernel_rfl) ((atP_run (j2000002_ag k kp) (m2000002 x0 x1 x26)).trans (j2000002_c k kp (JJ k kp) (LL k kp) x0 x1 x26))
theorem j2000002_eq (k kp : D → List Blk → Prop) (x0 : ByteArray) (x1 : Int) (x26 : Bool) : X2000002 k kp (m2000002 x0 x1 x26) = j2000002' x0 x1 x26 (fun y0 y1 y2 => k (.tup [(.v (.string y0)), (.v (.int IntKind.i64 y1)), (.v (.int IntKind.i64 y2))]) []) := by
  rw [j2000002_raw]; simp only [j3_eq]; first | done | rfl
theorem c_c (k kp : D → List Blk → Prop) (J L : Nat → St → Prop) (x0 : ByteArray) (x1 : Int) : runC cfg 1000001 J L none'' [] body (topK cfg Tryd.f26 k kp) (st0 Tryd.f26 [(.v (.string x0)), (.v (.int IntKind.i64 x1))] []) = c (fun x0 x1 x26 => J 2000002 (m2000002 x0 x1 x26)) x0 x1 (fun y0 y1 y2 => k (.tup [(.v (.string y0)), (.v (.int IntKind.i64 y1)), (.v (.int IntKind.i64 y2))]) []) := by kernel_rfl
theorem c_ag (k kp : D → List Blk → Prop) : agPL cfg 1000001 (JJ k kp) (LL k kp) [] body = agPR cfg 1000001 none'' [] body (topK cfg Tryd.f26 k kp) := by kernel_rfl
theorem body_is : Tryd.f26.body = some body := by kernel_rfl
theorem c_raw (k kp : D → List Blk → Prop) (x0 : ByteArray) (x1 : Int) : funW cfg Tryd.f26 [(.v (.string x0)), (.v (.int IntKind.i64 x1))] [] k kp = c (fun x0 x1 x26 => X2000002 k kp (m2000002 x0 x1 x26)) x0 x1 (fun y0 y1 y2 => k (.tup [(.v (.string y0)), (.v (.int IntKind.i64 y1)), (.v (.int IntKind.i64 y2))]) []) :=
  Eq.mp (by kernel_rfl) ((funW_run (AG := none'') body_is (c_ag k kp) [(.v (.string x0)), (.v (.int IntKind.i64 x1))] []).trans (c_c k kp (JJ k kp) (LL k kp) x0 x1))
theorem f_eq (k kp : D → List Blk → Prop) (x0 : ByteArray) (x1 : Int) : funW cfg Tryd.f26 [(.v (.string x0)), (.v (.int IntKind.i64 x1))] [] k kp = f x0 x1 (fun y0 y1 y2 => k (.tup [(.v (.string y0)), (.v (.int IntKind.i64 y1)), (.v (.int IntKind.i64 y2))]) []) := by
  rw [f_def, c_raw]; simp only [j2000002_eq]; first | done | rfl
noncomputable def ent0 : Entry := fun args blks k _ => match args, blks with
  | [d0, d1], [] => aStr d0 fun x0 => aInt IntKind.i64 d1 fun x1 => f x0 x1 (fun y0 y1 y2 => k (.tup [(.v (.string y0)), (.v (.int IntKind.i64 y1)), (.v (.int IntKind.i64 y2))]) [])
  | _, _ => False
noncomputable def ent : Entry := fun args blks k kp => ent0 (convB [.no, .no] args) blks k kp
theorem ok : EntOk Tryd.prog 49 0 26 ent := by
  refine EntOk.convB (EntOk.of (funW_ok (cfg := cfg) (tyOk_of rfl rfl tyL_ok) (eqOk_of (P := Tryd.prog) rfl rfl (by kernel_rfl)) mixed_ok (tab_ok ?_) Tryd.func26 (by rfl) (by rfl)) ?_) _
  · intro p hp
    simp only [List.mem_cons, List.not_mem_nil, or_false] at hp
    rcases hp with rfl
    · exact N47.ok
  · intro args blks k kp h k' kp'
    match args, blks, h with
    | [d0, d1], [], h =>
    dsimp only [ent0] at h
    have h9 := aStr_elim h; clear h; obtain ⟨x0, rfl, h⟩ := h9
    have h9 := aInt_elim h; clear h; obtain ⟨x1, rfl, h⟩ := h9
    exact (f_eq k' kp' x0 x1).symm
end N26
end Go.Proofs.Ye
namespace Go.Proofs.Ye
open Go Go.Aw Go.Proofs Go.RowKit
set_option linter.unusedVariables false
set_option linter.unusedSimpArgs false

/-! ### dyehouseref03.Scan reads what quote.Scan reads -/
theorem hexr_s (c : Int) (hc : isB c) (k : Int → Prop) (h : k (match nibL c with | some v => v | none => 99)) : N47.f c k := by
  obtain ⟨c0, c1⟩ := hc
  rw [N47.f_def]
  unfold N47.f0 N47.c N47.j2000003' N47.j2000003
  have go : ∀ d : Int, (∀ i : Int, 0 ≤ i → i < 16 → (hexL i = d ↔ nibL c = some i)) → N47.j4' d (ByteArray.mk #[48, 49, 50, 51, 52, 53, 54, 55, 56, 57, 97, 98, 99, 100, 101, 102]) k := by
    intro d hd
    unfold N47.j4' N47.j4 N47.l5'
    refine loopS_of (fun x : Int => ∃ j : Nat, x = j ∧ j ≤ 16 ∧ ∀ i : Nat, i < j → hexL (i : Int) ≠ d) (fun x => (16 - x).toNat) ?_ ⟨0, rfl, by omega, fun i hi => by omega⟩
    rintro again x ⟨j, rfl, hj, hno⟩ hag
    unfold N47.l5 N47.j9' N47.j9
    dsimp only
    refine br_of (fun hlt => ?_) (fun hge => ?_)
    · have hlt : j < 16 := by simp at hlt; omega
      refine ⟨⟨by omega, by omega, by show (j : Int) ≤ 16 - 1; omega⟩, ?_⟩
      rw [hexes_get _ (by omega) (by omega), wrap_id (by omega) (by omega)]
      refine br_of (fun he => ?_) (fun hne => ?_)
      · have he : hexL (j : Int) = d := by simpa using he
        rw [(hd j (by omega) (by omega)).1 he] at h
        exact h
      · have hne : hexL (j : Int) ≠ d := by simpa using hne
        refine hag _ ⟨j + 1, by omega, by omega, fun i hi => ?_⟩ (by omega)
        rcases Nat.lt_or_ge i j with hh | hh
        · exact hno i hh
        · rw [show i = j by omega]; exact hne
    · have hge : j = 16 := by simp at hge; omega
      subst hge
      cases hn : nibL c with
      | none => rw [hn] at h; exact h
      | some v =>
        exfalso
        have hv := nib_lt hn
        obtain ⟨i, rfl⟩ : ∃ i : Nat, v = i := ⟨v.toNat, by omega⟩
        exact hno i (by omega) ((hd i hv.1 hv.2).2 hn)
  have plain : ¬ (65 ≤ c ∧ c ≤ 70) → ∀ i : Int, 0 ≤ i → i < 16 → (hexL i = c ↔ nibL c = some i) := by
    intro hn i h0 h1
    unfold hexL nibL
    constructor
    · intro e
      split at e
      · rw [if_pos (by omega)]; congr 1; omega
      · rw [if_neg (by omega), if_pos (by omega)]; congr 1; omega
    · intro e
      split at e
      · cases e; split <;> omega
      · split at e
        · cases e; split <;> omega
        · cases e
  refine br_of (fun h1 => ?_) (fun h1 => ?_)
  · have h1 := of_decide_eq_true h1
    refine br_of (fun h2 => ?_) (fun h2 => ?_)
    · have h2 := of_decide_eq_true h2
      rw [show IntKind.u8.wrap (c + 32) = c + 32 by rw [wu8_eq]; omega]
      refine go _ ?_
      intro i h3 h4
      have e1 : nibL c = some (c - 55) := by unfold nibL; rw [if_neg (by omega), if_neg (by omega), if_pos (by omega)]
      rw [e1]
      unfold hexL
      constructor
      · intro e
        split at e
        · omega
        · congr 1; omega
      · intro e
        cases e
        split <;> omega
    · have h2 := of_decide_eq_false h2
      exact go _ (plain (by omega))
  · have h1 := of_decide_eq_false h1
    exact go _ (plain (by omega))

def tabE (a c : Int) (i : Nat) : Int × Int := if 1 ≤ i ∧ a = 110 then (2, 10) else if 2 ≤ i ∧ a = 116 then (2, 9) else if 3 ≤ i ∧ a = 34 then (2, 34) else if 4 ≤ i ∧ a = 92 then (2, 92) else (0, c)

set_option maxHeartbeats 4000000 in
theorem scan3_s (x : ByteArray) (hx : x.size ≤ 1000000000000) (at_ : Int) (k : ByteArray → Int → Int → Prop)
    (h1 : noQuote (ofBytes x) at_ → k (bytesOf []) 0 1)
    (h2 : ∀ t e c, ¬ noQuote (ofBytes x) at_ → scanL 64 ((ofBytes x).length + 1) ((ofBytes x).drop (at_.toNat + 1)) (at_ + 1) [] = (t, e, c) → k (bytesOf t) e c) : N26.f x at_ k := by
  rw [N26.f_def]
  unfold N26.f0 N26.c N26.j2000002' N26.j2000002 N26.j3' N26.j3
  have hn := ofBytes_length x
  have hB := ofBytes_isB x
  unfold noQuote at h1 h2
  rw [show ByteArray.mk #[] = bytesOf [] from rfl]
  have go : ¬ noQuote (ofBytes x) at_ → N26.l5' x (bytesOf []) (IntKind.i64.wrap (at_ + 1)) k := by
    intro hq
    have hq' := hq
    unfold noQuote at hq'
    obtain ⟨a, rfl⟩ : ∃ a : Nat, at_ = a := ⟨at_.toNat, by omega⟩
    have ha : a < (ofBytes x).length := by omega
    rw [wrap_id (by omega) (by omega)]
    simp only [Int.toNat_natCast] at h2 hq'
    generalize hR : scanL 64 ((ofBytes x).length + 1) ((ofBytes x).drop (a + 1)) ((a : Int) + 1) [] = R at h2
    unfold N26.l5'
    refine loopS_of (fun s : ByteArray × Int => ∃ (i f : Nat) (b : List Int), s.2 = i ∧ s.1 = bytesOf b ∧ i ≤ (ofBytes x).length ∧ b.length ≤ 64 ∧ (ofBytes x).length - i < f ∧ scanL 64 f ((ofBytes x).drop i) i b = R) (fun s => (ofBytes x).length - s.2.toNat) ?_
      ⟨a + 1, (ofBytes x).length + 1, [], by simp, rfl, by omega, by simp, by omega, by rw [← hR]; rfl⟩
    rintro again ⟨bb, p⟩ ⟨i, f, b, e1, e0, hi, hb, hf, e2⟩ hag
    simp only at e1 e0 hb e2 hag
    subst e1
    subst e0
    unfold N26.l5
    dsimp only
    obtain ⟨f, rfl⟩ : ∃ g, f = g + 1 := ⟨f - 1, by omega⟩
    have fin : ∀ t e c, (t, e, c) = R → k (bytesOf t) e c := fun t e c he => h2 t e c (by simpa [noQuote] using hq) he.symm
    have stop : ((ofBytes x).length ≤ i ∨ (ofBytes x).getD i 0 = 34 ∨ (ofBytes x).getD i 0 = 10) → N26.j25' x (bytesOf b) (i : Int) k := by
      intro hs
      unfold N26.j25' N26.j25 N26.j2000026' N26.j2000026 N26.j27' N26.j27
      dsimp only
      by_cases hend : i = (ofBytes x).length
      · have : ((i : Int) == (((x).size : Nat) : Int)) = true := by simp; omega
        rw [this]
        simp only [br_true]
        rw [List.drop_of_length_le (by omega)] at e2
        exact fin [] i 11 e2
      · have : ((i : Int) == (((x).size : Nat) : Int)) = false := by simp; omega
        rw [this]
        simp only [br_false]
        refine ⟨⟨by omega, by omega, by omega⟩, ?_⟩
        rw [byteAt_eq]
        rw [drop_get (d := 0) (show i < (ofBytes x).length by omega)] at e2
        generalize (ofBytes x).getD i 0 = c at *
        unfold scanL at e2
        dsimp only at e2
        rw [br_beq]
        split
        · rename_i h10; rw [if_pos h10] at e2; exact fin _ _ _ e2
        · rename_i h10; rw [if_neg h10, if_pos (by omega)] at e2
          rw [wrap_id (by omega) (by omega)]
          exact fin _ _ _ e2
    refine br_of (fun hlt => ?_) (fun hge => ?_)
    · have hlt : i < (ofBytes x).length := by simp at hlt; omega
      have inb : inB 0 (i : Int) (((x.size : Nat) : Int) - 1) := ⟨by omega, by omega, by omega⟩
      refine ⟨inb, ?_⟩
      rw [byteAt_eq, br_bne]
      split
      case isTrue h34 => exact stop (.inr (.inl h34))
      case isFalse h34 =>
        refine ⟨inb, ?_⟩
        rw [br_bne]
        split
        case isTrue h10 => exact stop (.inr (.inr h10))
        case isFalse h10 =>
          rw [drop_get (d := 0) hlt] at e2
          have hc := getD_isB x i
          unfold N26.j6' N26.j6
          dsimp only
          rw [byteAt_eq]
          generalize (ofBytes x).getD i 0 = c at *
          unfold scanL at e2
          dsimp only at e2
          rw [if_neg h10, if_neg h34] at e2
          rw [bytesOf_size, br_beq]
          split
          case isTrue h64 => rw [if_pos (by omega)] at e2; exact fin _ _ _ e2
          case isFalse h64 =>
            rw [if_neg (by omega)] at e2
            refine ⟨inb, ?_⟩
            -- what is put to the text, and how far one goes
            have put : ∀ (v : Int) (n : Nat), 1 ≤ n → i + n ≤ (ofBytes x).length → scanL 64 f ((ofBytes x).drop (i + n)) ((i : Int) + n) (b ++ [v]) = R → N26.j21' (fun b i => again (b, i)) x (bytesOf b) (i : Int) (n : Int) v k := by
              intro v n hn1 hn2 he
              unfold N26.j21' N26.j21
              dsimp only
              rw [br_beq, if_neg (by omega)]
              refine ⟨by rw [bytesOf_size, bytesOf_size]; simp; omega, ?_⟩
              rw [← bytesOf_append, wrap_id (by omega) (by omega)]
              refine hag _ ⟨i + n, f, b ++ [v], by simp, rfl, hn2, by simp; omega, by omega, ?_⟩ (by simp only; omega)
              rw [← he]
              simp
            have none_ : R = ([], (i : Int), 11) → ∀ v, N26.j21' (fun b i => again (b, i)) x (bytesOf b) (i : Int) 0 v k := by
              intro he v
              unfold N26.j21' N26.j21
              dsimp only
              rw [br_beq, if_pos rfl]
              exact fin _ _ _ he.symm
            rw [br_beq]
            split
            case isFalse h92 =>
              rw [if_pos h92] at e2
              refine put c 1 (by omega) (by omega) ?_
              rw [← e2]
              simp
            case isTrue h92 =>
              rw [if_neg (by simpa using h92)] at e2
              have ee : ByteArray.extract x (Int.toNat (IntKind.i64.wrap ((i : Int) + 1))) (Int.toNat ((x.size : Nat) : Int)) = bytesOf ((ofBytes x).drop (i + 1)) := by
                rw [wrap_id (by omega) (by omega)]
                apply eq_of_ofBytes
                rw [ofBytes_extract, ofBytes_bytesOf (fun y hy => hB y (List.mem_of_mem_drop hy)), Int.toNat_natCast, List.take_of_length_le (by omega), show ((i : Int) + 1).toNat = i + 1 by omega]
              rw [ee]
              refine ⟨⟨by rw [wrap_id (by omega) (by omega)]; omega, by rw [wrap_id (by omega) (by omega)]; omega, by omega⟩, ?_⟩
              have hrB : ∀ y ∈ (ofBytes x).drop (i + 1), isB y := fun y hy => hB y (List.mem_of_mem_drop hy)
              have hrl : ((ofBytes x).drop (i + 1)).length = (ofBytes x).length - (i + 1) := List.length_drop
              have hdd : ∀ n : Nat, ((ofBytes x).drop (i + 1)).drop n = (ofBytes x).drop (i + (1 + n)) := fun n => by rw [List.drop_drop]; congr 1; omega
              generalize (ofBytes x).drop (i + 1) = r at *
              -- behind the letters
              have tail : ∀ m v : Int, (m, v) = (match meantL (r.getD 0 0) with | some v => if r = [] then (0, 92) else (2, v) | none => (0, 92)) → N26.j19' (fun b i => again (b, i)) x (bytesOf b) (i : Int) m v (bytesOf r) k := by
                intro m v hmv
                unfold N26.j19' N26.j19 N26.j2000020' N26.j2000020
                dsimp only
                have b0 : byteAt (bytesOf r) (0 : Int) = r.getD 0 0 := byteAt_bytes hrB 0
                have b1 : byteAt (bytesOf r) (1 : Int) = r.getD 1 0 := byteAt_bytes hrB 1
                have b2 : byteAt (bytesOf r) (2 : Int) = r.getD 2 0 := byteAt_bytes hrB 2
                rw [bytesOf_size, b0, b1, b2]
                -- no number of two digits
                have other : (r.length ≤ 2 ∨ r.getD 0 0 ≠ 120 ∨ nibL (r.getD 1 0) = none ∨ nibL (r.getD 2 0) = none) → N26.j21' (fun b i => again (b, i)) x (bytesOf b) (i : Int) m v k := by
                  intro ho
                  cases r with
                  | nil =>
                    have : (m, v) = (0, 92) := by rw [hmv]; decide
                    cases this
                    exact none_ e2.symm _
                  | cons a r =>
                    simp only [List.getD_cons_zero] at hmv ho
                    unfold escL at e2
                    dsimp only at e2
                    cases hm : meantL a with
                    | some u =>
                      rw [hm] at hmv e2
                      simp at hmv
                      obtain ⟨rfl, rfl⟩ := hmv
                      simp only [List.length_cons] at hrl
                      refine put v 2 (by omega) (by omega) ?_
                      rw [← e2]
                      dsimp only
                      rw [hdd 1]
                      simp [Int.add_assoc]
                    | none =>
                      rw [hm] at hmv e2
                      cases hmv
                      dsimp only at e2
                      refine none_ ?_ _
                      rw [← e2]
                      by_cases h120 : a = 120
                      · rw [if_pos h120]
                        have : hexEsc r = none := by
                          unfold hexEsc
                          split
                          · rename_i p q _
                            simp at ho
                            rcases ho with ho | ho | ho
                            · exact absurd h120 ho
                            · rw [ho]
                            · rw [ho]; cases nibL p <;> rfl
                          · rfl
                        rw [this]
                      · rw [if_neg h120]
                refine br_of (fun g3 => ?_) (fun g3 => ?_)
                · have g3 : 2 < r.length := by simp at g3; omega
                  refine ⟨⟨by omega, by omega, by omega⟩, ?_⟩
                  rw [br_beq]
                  split
                  case isFalse g4 => exact other (.inr (.inl g4))
                  case isTrue g4 =>
                    have gB : ∀ j : Nat, isB (r.getD j 0) := by
                      intro j
                      rcases Nat.lt_or_ge j r.length with hh | hh
                      · rw [show r.getD j 0 = r[j] by simp [List.getD, List.getElem?_eq_getElem hh]]
                        exact hrB _ (List.getElem_mem hh)
                      · rw [show r.getD j 0 = 0 by simp [List.getD, List.getElem?_eq_none hh]]
                        exact ⟨by decide, by decide⟩
                    refine ⟨⟨by omega, by omega, by omega⟩, hexr_s _ (gB 1) _ ?_⟩
                    cases n1 : nibL (r.getD 1 0) with
                    | none => exact other (.inr (.inr (.inl n1)))
                    | some u =>
                      have hu := nib_lt n1
                      dsimp only
                      rw [br_dec, if_pos (by omega)]
                      refine ⟨⟨by omega, by omega, by omega⟩, hexr_s _ (gB 2) _ ?_⟩
                      cases n2 : nibL (r.getD 2 0) with
                      | none => exact other (.inr (.inr (.inr n2)))
                      | some w =>
                        have hw := nib_lt n2
                        dsimp only
                        rw [br_dec, if_pos (by omega)]
                        refine ⟨⟨by omega, by omega, by omega⟩, hexr_s _ (gB 1) _ ⟨⟨by omega, by omega, by omega⟩, hexr_s _ (gB 2) _ ?_⟩⟩
                        rw [n1, n2]
                        dsimp only
                        rw [wrap_id (n := 16 * u) (by omega) (by omega), wrap_id (by omega) (by omega), show IntKind.u8.wrap (16 * u + w) = 16 * u + w by rw [wu8_eq]; omega]
                        refine put _ 4 (by omega) (by omega) ?_
                        rw [← e2]
                        obtain ⟨a, p, q, s, rfl⟩ : ∃ a p q s, r = a :: p :: q :: s := by
                          match r, g3 with
                          | a :: p :: q :: s, _ => exact ⟨a, p, q, s, rfl⟩
                        simp at g4 n1 n2
                        subst g4
                        have : escL (120 :: p :: q :: s) = some (16 * u + w, 3) := by
                          unfold escL
                          dsimp only
                          rw [show meantL 120 = none by decide]
                          dsimp only
                          rw [if_pos rfl]
                          unfold hexEsc
                          dsimp only
                          rw [n1, n2]
                        rw [this]
                        dsimp only
                        rw [hdd 3]
                        simp [Int.add_assoc]
                · exact other (.inl (by have := of_decide_eq_false g3; omega))
              rw [bytesOf_size]
              refine br_of (fun hpos => ?_) (fun hpos => ?_)
              · have hpos : 0 < r.length := by simp at hpos; omega
                have hne : r ≠ [] := by intro h; rw [h] at hpos; simp at hpos
                unfold N26.l15'
                refine loopS_of (fun s : Int × Int × Int => ∃ j : Nat, s.2.2 = j ∧ j ≤ 4 ∧ (s.1, s.2.1) = tabE (r.getD 0 0) 92 j) (fun s => (4 - s.2.2).toNat) ?_ ⟨0, rfl, by omega, by rw [h92]; rfl⟩
                rintro again2 ⟨m, v, y⟩ ⟨j, ey, hj, emv⟩ hag2
                simp only at ey emv hag2
                subst ey
                unfold N26.l15 N26.j16' N26.j16
                dsimp only
                have b0 : byteAt (bytesOf r) (0 : Int) = r.getD 0 0 := byteAt_bytes hrB 0
                refine br_of (fun hlt => ?_) (fun hge => ?_)
                · have hlt : j < 4 := by simp at hlt; omega
                  rw [b0, bytesOf_size, wrap_id (by omega) (by omega)]
                  refine ⟨⟨by omega, by omega, by omega⟩, ⟨by omega, by omega, by show (j : Int) ≤ 4 - 1; omega⟩, ?_⟩
                  generalize r.getD 0 0 = a at *
                  rw [br_beq]
                  have step : ∀ m' v', (m', v') = tabE a 92 (j + 1) → again2 (m', v', (j : Int) + 1) := fun m' v' he => hag2 _ ⟨j + 1, by simp, by omega, he⟩ (by simp only; omega)
                  have t1 : byteAt (ByteArray.mk #[110, 116, 34, 92]) (j : Int) = [110, 116, 34, 92].getD j 0 := by
                    rcases (by omega : j = 0 ∨ j = 1 ∨ j = 2 ∨ j = 3) with rfl | rfl | rfl | rfl <;> rfl
                  have t2 : byteAt (ByteArray.mk #[10, 9, 34, 92]) (j : Int) = [10, 9, 34, 92].getD j 0 := by
                    rcases (by omega : j = 0 ∨ j = 1 ∨ j = 2 ∨ j = 3) with rfl | rfl | rfl | rfl <;> rfl
                  rw [t1, t2]
                  split
                  case isTrue hh =>
                    refine ⟨⟨by omega, by omega, by show (j : Int) ≤ 4 - 1; omega⟩, step _ _ ?_⟩
                    rcases (by omega : j = 0 ∨ j = 1 ∨ j = 2 ∨ j = 3) with rfl | rfl | rfl | rfl <;> (simp at hh; subst hh; rfl)
                  case isFalse hh =>
                    refine step _ _ (emv.trans ?_)
                    rcases (by omega : j = 0 ∨ j = 1 ∨ j = 2 ∨ j = 3) with rfl | rfl | rfl | rfl <;> (simp at hh; simp [tabE, hh])
                · have hge : j = 4 := by simp at hge; omega
                  subst hge
                  refine tail m v (emv.trans ?_)
                  generalize r.getD 0 0 = a at *
                  unfold tabE meantL
                  by_cases a1 : a = 110
                  · simp [a1, hne]
                  · by_cases a2 : a = 116
                    · simp [a2, hne]
                    · by_cases a3 : a = 34
                      · simp [a3, hne]
                      · by_cases a4 : a = 92
                        · simp [a4, hne]
                        · simp [a1, a2, a3, a4]
              · have hpos : r = [] := by
                  have := of_decide_eq_false hpos
                  exact List.length_eq_zero_iff.1 (by omega)
                refine tail _ _ ?_
                rw [hpos, h92]
                decide
    · exact stop (.inl (by simp at hge; omega))
  simp only [br_dec, br_bne]
  split
  · rename_i ha; exact h1 (.inl ha)
  · rename_i ha
    split
    · rename_i hb; exact h1 (.inr (.inl (by omega)))
    · rename_i hb
      obtain ⟨a, rfl⟩ : ∃ a : Nat, at_ = a := ⟨at_.toNat, by omega⟩
      rw [byteAt_eq]
      refine ⟨⟨by omega, by omega, by omega⟩, ?_⟩
      split
      case isFalse hc => exact h1 (.inr (.inr (by simpa using hc)))
      case isTrue hc =>
        refine go ?_
        unfold noQuote
        simp only [Int.toNat_natCast]
        rintro (h | h | h)
        · omega
        · omega
        · exact h hc
end Go.Proofs.Ye
namespace Go.Proofs.Ye
open Go Go.Aw Go.Proofs
set_option linter.unusedVariables false
set_option linter.unusedSimpArgs false
set_option maxRecDepth 100000
/-! dyehouse/dyehouseref09.digits -/
namespace N49
noncomputable def cfg : Cfg := { P := Tryd.prog, tf := 49, tw := 0, ty := tys, E := tab [], atSeq := tab [(3, ⟨[(0, .keep), (1, .keep), (5, .keep)]⟩), (4, ⟨[(5, .keep)]⟩)], atLoop := tab [(2, ⟨[(0, .keep), (1, .keep), (5, .keep)]⟩)], outs := [], eqT := tab [], bT := tab [] }
noncomputable def body : Code := bodyOf Tryd.f49
def l2 (j3 : ByteArray → Int → Int → Prop) (j4 : Int → Prop) (x0 : ByteArray) (x1 : Int) (x5 : Int) (k : Int → Prop) : Prop :=
  (br (decide ((IntKind.i64.wrap (x1 + x5)) < ((((x0).size : Nat) : Int)))) ((inB 0 (IntKind.i64.wrap (x1 + x5)) ((((x0).size : Nat) : Int) - 1)) ∧ (br (decide ((byteAt x0 (IntKind.i64.wrap (x1 + x5))) ≥ (48 : Int))) ((inB 0 (IntKind.i64.wrap (x1 + x5)) ((((x0).size : Nat) : Int) - 1)) ∧ (br (decide ((byteAt x0 (IntKind.i64.wrap (x1 + x5))) ≤ (57 : Int))) (j3 x0 x1 x5) (j4 x5))) (j4 x5))) (j4 x5))
def j3 (ag2 : Int → Prop) (x0 : ByteArray) (x1 : Int) (x5 : Int) (k : Int → Prop) : Prop :=
  (ag2 (IntKind.i64.wrap (x5 + (1 : Int))))
def j4 (x5 : Int) (k : Int → Prop) : Prop :=
  (k x5)
def c (l2 : ByteArray → Int → Int → Prop) (x0 : ByteArray) (x1 : Int) (k : Int → Prop) : Prop :=
  (l2 x0 x1 (0 : Int))
def j3' (ag2 : Int → Prop) (x0 : ByteArray) (x1 : Int) (x5 : Int) (k : Int → Prop) : Prop := j3 ag2 x0 x1 x5 k
def j4' (x5 : Int) (k : Int → Prop) : Prop := j4 x5 k
def l2' (x0 : ByteArray) (x1 : Int) (x5 : Int) (k : Int → Prop) : Prop := ∃ n, loopS (fun (ag : (Int) → Prop) (s : Int) => l2 (fun x0 x1 x5 => j3' (fun x5 => ag (x5)) x0 x1 x5 k) (fun x5 => j4' x5 k) x0 x1 s k) n (x5)
def f0 (x0 : ByteArray) (x1 : Int) (k : Int → Prop) : Prop := c (fun x0 x1 x5 => l2' x0 x1 x5 k) x0 x1 k
theorem f_ex : ∃ g : ByteArray → Int → (Int → Prop) → Prop, g = f0 := ⟨_, rfl⟩
noncomputable def f : ByteArray → Int → (Int → Prop) → Prop := Classical.choose f_ex
theorem f_def : f = f0 := Classical.choose_spec f_ex
def mL2 (x0 : ByteArray) (x1 : Int) (x5 : Int) : St := { tmps := mkT 31 0 [(0, (.v (.string x0))), (1, (.v (.int IntKind.i64 x1))), (5, (.v (.int IntKind.i64 x5)))], hp := [], m := 0 }
def m3 (x0 : ByteArray) (x1 : Int) (x5 : Int) : St := { tmps := mkT 31 0 [(0, (.v (.string x0))), (1, (.v (.int IntKind.i64 x1))), (5, (.v (.int IntKind.i64 x5)))], hp := [], m := 0 }
def m4 (x5 : Int) : St := { tmps := mkT 31 0 [(5, (.v (.int IntKind.i64 x5)))], hp := [], m := 0 }
noncomputable def YL2 (k kp : D → List Blk → Prop) : (St → Prop) → St → Prop := loopB cfg (sub [1, 1, 0, 0, 0] body) (contK cfg (pick none' []) [1, 1, 0, 0] body (topK cfg Tryd.f49 k kp))
noncomputable def XL2 (k kp : D → List Blk → Prop) : St → Prop := fun st => ∃ n, loopN (YL2 k kp) n st
noncomputable def X3 (k kp : D → List Blk → Prop) (ag2 : St → Prop) : St → Prop := atP cfg (pick none' [(2, ag2)]) [1, 1, 0, 0, 0, 1] body (topK cfg Tryd.f49 k kp)
noncomputable def X4 (k kp : D → List Blk → Prop) : St → Prop := atP cfg (pick none' []) [1, 1, 1] body (topK cfg Tryd.f49 k kp)
noncomputable def JJ_2 (k kp : D → List Blk → Prop) (ag2 : St → Prop) : Nat → St → Prop := pick none' [(3, X3 k kp ag2), (4, X4 k kp)]
noncomputable def LL_2 (k kp : D → List Blk → Prop) (ag2 : St → Prop) : Nat → St → Prop := pick none' [(2, XL2 k kp)]
noncomputable def JJ (k kp : D → List Blk → Prop) : Nat → St → Prop := pick none' [(4, X4 k kp)]
noncomputable def LL (k kp : D → List Blk → Prop) : Nat → St → Prop := pick none' [(2, XL2 k kp)]
theorem j3_c (k kp : D → List Blk → Prop) (J L : Nat → St → Prop) (ag2 : St → Prop) (x0 : ByteArray) (x1 : Int) (x5 : Int) : runC cfg 3 J L (pick none' [(2, ag2)]) [1, 1, 0, 0, 0, 1] body (topK cfg Tryd.f49 k kp) (m3 x0 x1 x5) = j3 (fun x5 => ag2 (mL2 x0 x1 x5)) x0 x1 x5 (fun y0 => k (.v (.int IntKind.i64 y0)) []) := by kernel_rfl
theorem j3_ag (k kp : D → List Blk → Prop) (ag2 : St → Prop) : agPL cfg 3 (JJ_2 k kp ag2) (LL_2 k kp ag2) [1, 1, 0, 0, 0, 1] body = agPR cfg 3 (pick none' [(2, ag2)]) [1, 1, 0, 0, 0, 1] body (topK cfg Tryd.f49 k kp) := by kernel_rfl
theorem j3_raw (k kp : D → List Blk → Prop) (ag2 : St → Prop) (x0 : ByteArray) (x1 : Int) (x5 : Int) : X3 k kp ag2 (m3 x0 x1 x5) = j3 (fun x5 => ag2 (mL2 x0 x1 x5)) x0 x1 x5 (fun y0 => k (.v (.int IntKind.i64 y0)) []) :=
  Eq.mp (by kernel_rfl) ((atP_run (j3_ag k kp ag2) (m3 x0 x1 x5)).trans (j3_c k kp (JJ_2 k kp ag2) (LL_2 k kp ag2) ag2 x0 x1 x5))
theorem j3_eq (k kp : D → List Blk → Prop) (ag2 : St → Prop) (x0 : ByteArray) (x1 : Int) (x5 : Int) : X3 k kp ag2 (m3 x0 x1 x5) = j3' (fun x5 => ag2 (mL2 x0 x1 x5)) x0 x1 x5 (fun y0 => k (.v (.int IntKind.i64 y0)) []) := by
  rw [j3_raw]; rfl
theorem j4_c (k kp : D → List Blk → Prop) (J L : Nat → St → Prop) (x5 : Int) : runC cfg 4 J L (pick none' []) [1, 1, 1] body (topK cfg Tryd.f49 k kp) (m4 x5) = j4 x5 (fun y0 => k (.v (.int IntKind.i64 y0)) []) := by kernel_rfl
theorem j4_ag (k kp : D → List Blk → Prop) : agPL cfg 4 (JJ k kp) (LL k kp) [1, 1, 1] body = agPR cfg 4 (pick none' []) [1, 1, 1] body (topK cfg Tryd.f49 k kp) := by kernel_rfl
theorem j4_raw (k kp : D → List Blk → Prop) (x5 : Int) : X4 k kp (m4 x5) = j4 x5 (fun y0 => k (.v (.int IntKind.i64 y0)) []) :=
  Eq.mp (by kernel_rfl) ((atP_run (j4_ag k kp) (m4 x5)).trans (j4_c k kp (JJ k kp) (LL k kp) x5))
theorem j4_eq (k kp : D → List Blk → Prop) (x5 : Int) : X4 k kp (m4 x5) = j4' x5 (fun y0 => k (.v (.int IntKind.i64 y0)) []) := by
  rw [j4_raw]; rfl
theorem l2_c (k kp : D → List Blk → Prop) (J L : Nat → St → Prop) (ag2 : St → Prop) (x0 : ByteArray) (x1 : Int) (x5 : Int) : runC cfg 1000001 J L (pick none' [(2, ag2)]) [1, 1, 0, 0, 0] body (topK cfg Tryd.f49 k kp) (mL2 x0 x1 x5) = l2 (fun x0 x1 x5 => J 3 (m3 x0 x1 x5)) (fun x5 => J 4 (m4 x5)) x0 x1 x5 (fun y0 => k (.v (.int IntKind.i64 y0)) []) := by kernel_rfl
theorem l2_ag (k kp : D → List Blk → Prop) (ag2 : St → Prop) : agPL cfg 1000001 (JJ_2 k kp ag2) (LL_2 k kp ag2) [1, 1, 0, 0, 0] body = agPR cfg 1000001 (pick none' [(2, ag2)]) [1, 1, 0, 0, 0] body (topK cfg Tryd.f49 k kp) := by kernel_rfl
theorem l2_raw (k kp : D → List Blk → Prop) (ag2 : St → Prop) (x0 : ByteArray) (x1 : Int) (x5 : Int) : YL2 k kp ag2 (mL2 x0 x1 x5) = l2 (fun x0 x1 x5 => X3 k kp ag2 (m3 x0 x1 x5)) (fun x5 => X4 k kp (m4 x5)) x0 x1 x5 (fun y0 => k (.v (.int IntKind.i64 y0)) []) :=
  Eq.mp (by kernel_rfl) ((atP_run (l2_ag k kp ag2) (mL2 x0 x1 x5)).trans (l2_c k kp (JJ_2 k kp ag2) (LL_2 k kp ag2) ag2 x0 x1 x5))
theorem l2_eq (k kp : D → List Blk → Prop) (x0 : ByteArray) (x1 : Int) (x5 : Int) : XL2 k kp (mL2 x0 x1 x5) = l2' x0 x1 x5 (fun y0 => k (.v (.int IntKind.i64 y0)) []) :=
  loop_eq (mk := fun (s : Int) => mL2 x0 x1 s) (fun again s => by rw [l2_raw k kp again x0 x1 s]; simp only [j3_eq, j4_eq]; first | done | rfl) (x5)
theorem c_c (k kp : D → List Blk → Prop) (J L : Nat → St → Prop) (x0 : ByteArray) (x1 : Int) : runC cfg 1000001 J L none'' [] body (topK cfg Tryd.f49 k kp) (st0 Tryd.f49 [(.v (.string x0)), (.v (.int IntKind.i64 x1))] []) = c (fun x0 x1 x5 => L 2 (mL2 x0 x1 x5)) x0 x1 (fun y0 => k (.v (.int IntKind.i64 y0)) []) := by kernel_rfl
theorem c_ag (k kp : D → List Blk → Prop) : agPL cfg 1000001 (JJ k kp) (LL k kp) [] body = agPR cfg 1000001 none'' [] body (topK cfg Tryd.f49 k kp) := by kernel_rfl
theorem body_is : Tryd.f49.body = some body := by kernel_rfl
theorem c_raw (k kp : D → List Blk → Prop) (x0 : ByteArray) (x1 : Int) : funW cfg Tryd.f49 [(.v (.string x0)), (.v (.int IntKind.i64 x1))] [] k kp = c (fun x0 x1 x5 => XL2 k kp (mL2 x0 x1 x5)) x0 x1 (fun y0 => k (.v (.int IntKind.i64 y0)) []) :=
  Eq.mp (by kernel_rfl) ((funW_run (AG := none'') body_is (c_ag k kp) [(.v (.string x0)), (.v (.int IntKind.i64 x1))] []).trans (c_c k kp (JJ k kp) (LL k kp) x0 x1))
theorem f_eq (k kp : D → List Blk → Prop) (x0 : ByteArray) (x1 : Int) : funW cfg Tryd.f49 [(.v (.string x0)), (.v (.int IntKind.i64 x1))] [] k kp = f x0 x1 (fun y0 => k (.v (.int IntKind.i64 y0)) []) := by
  rw [f_def, c_raw]; simp only [l2_eq]; first | done | rfl
noncomputable def ent0 : Entry := fun args blks k _ => match args, blks with
  | [d0, d1], [] => aStr d0 fun x0 => aInt IntKind.i64 d1 fun x1 => f x0 x1 (fun y0 => k (.v (.int IntKind.i64 y0)) [])
  | _, _ => False
noncomputable def ent : Entry := fun args blks k kp => ent0 (convB [.no, .no] args) blks k kp
theorem ok : EntOk Tryd.prog 49 0 49 ent := by
  refine EntOk.convB (EntOk.of (funW_ok (cfg := cfg) (tyOk_of rfl rfl tyL_ok) (eqOk_of (P := Tryd.prog) rfl rfl (by kernel_rfl)) mixed_ok (tab_ok ?_) Tryd.func49 (by rfl) (by rfl)) ?_) _
  · intro p hp
    cases hp
  · intro args blks k kp h k' kp'
    match args, blks, h with
    | [d0, d1], [], h =>
    dsimp only [ent0] at h
    have h9 := aStr_elim h; clear h; obtain ⟨x0, rfl, h⟩ := h9
    have h9 := aInt_elim h; clear h; obtain ⟨x1, rfl, h⟩ := h9
    exact (f_eq k' kp' x0 x1).symm
end N49
end Go.Proofs.Ye
namespace Go.Proofs.Ye
open Go Go.Aw Go.Proofs
set_option linter.unusedVariables false
set_option linter.unusedSimpArgs false
set_option maxRecDepth 100000
/-! dyehouse/dyehouseref09.value -/
namespace N50
noncomputable def cfg : Cfg := { P := Tryd.prog, tf := 49, tw := 0, ty := tys, E := tab [], atSeq := tab [(2000002, ⟨[(0, .keep), (18, .keep)]⟩), (3, ⟨[(0, .keep)]⟩), (11, ⟨[(4, .keep)]⟩)], atLoop := tab [(5, ⟨[(0, .keep), (4, .keep), (5, .keep)]⟩)], outs := [], eqT := tab [], bT := tab [] }
noncomputable def body : Code := bodyOf Tryd.f50
def j2000002 (j3 : ByteArray → Prop) (x0 : ByteArray) (x18 : Bool) (k : Int → Int → Prop) : Prop :=
  (br x18 (k (0 : Int) (12 : Int)) (j3 x0))
def j3 (l5 : ByteArray → Int → Int → Prop) (x0 : ByteArray) (k : Int → Int → Prop) : Prop :=
  (l5 x0 (0 : Int) (0 : Int))
def l5 (j11 : Int → Prop) (ag5 : Int → Int → Prop) (x0 : ByteArray) (x4 : Int) (x5 : Int) (k : Int → Int → Prop) : Prop :=
  (br (decide (x5 < ((((x0).size : Nat) : Int)))) ((inB 0 x5 ((((x0).size : Nat) : Int) - 1)) ∧ (((10 : Int) ≠ 0) ∧ (br (decide (x4 > (IntKind.u64.wrap (Int.tdiv (IntKind.u64.wrap ((9223372036854775808 : Int) - (IntKind.u64.wrap (IntKind.u8.wrap ((byteAt x0 x5) - (48 : Int)))))) (10 : Int))))) (k (0 : Int) (2 : Int)) (ag5 (IntKind.u64.wrap ((IntKind.u64.wrap ((10 : Int) * x4)) + (IntKind.u64.wrap (IntKind.u8.wrap ((byteAt x0 x5) - (48 : Int)))))) (IntKind.i64.wrap (x5 + (1 : Int))))))) (j11 x4))
def j11 (x4 : Int) (k : Int → Int → Prop) : Prop :=
  (k x4 (0 : Int))
def c (j2000002 : ByteArray → Bool → Prop) (x0 : ByteArray) (k : Int → Int → Prop) : Prop :=
  (br (beqS x0 (ByteArray.mk #[])) (j2000002 x0 true) ((inB 0 (0 : Int) ((((x0).size : Nat) : Int) - 1)) ∧ (br ((byteAt x0 (0 : Int)) == (48 : Int)) (j2000002 x0 (decide (((((x0).size : Nat) : Int)) > (1 : Int)))) (j2000002 x0 false))))
def j11' (x4 : Int) (k : Int → Int → Prop) : Prop := j11 x4 k
def l5' (x0 : ByteArray) (x4 : Int) (x5 : Int) (k : Int → Int → Prop) : Prop := ∃ n, loopS (fun (ag : (Int × Int) → Prop) (s : Int × Int) => l5 (fun x4 => j11' x4 k) (fun x4 x5 => ag (x4, x5)) x0 s.1 s.2 k) n (x4, x5)
def j3' (x0 : ByteArray) (k : Int → Int → Prop) : Prop := j3 (fun x0 x4 x5 => l5' x0 x4 x5 k) x0 k
def j2000002' (x0 : ByteArray) (x18 : Bool) (k : Int → Int → Prop) : Prop := j2000002 (fun x0 => j3' x0 k) x0 x18 k
def f0 (x0 : ByteArray) (k : Int → Int → Prop) : Prop := c (fun x0 x18 => j2000002' x0 x18 k) x0 k
theorem f_ex : ∃ g : ByteArray → (Int → Int → Prop) → Prop, g = f0 := ⟨_, rfl⟩
noncomputable def f : ByteArray → (Int → Int → Prop) → Prop := Classical.choose f_ex
theorem f_def : f = f0 := Classical.choose_spec f_ex
def m2000002 (x0 : ByteArray) (x18 : Bool) : St := { tmps := mkT 40 0 [(0, (.v (.string x0))), (18, (.v (.bool x18)))], hp := [], m := 0 }
def m3 (x0 : ByteArray) : St := { tmps := mkT 40 0 [(0, (.v (.string x0)))], hp := [], m := 0 }
def mL5 (x0 : ByteArray) (x4 : Int) (x5 : Int) : St := { tmps := mkT 40 0 [(0, (.v (.string x0))), (4, (.v (.int IntKind.u64 x4))), (5, (.v (.int IntKind.i64 x5)))], hp := [], m := 0 }
def m11 (x4 : Int) : St := { tmps := mkT 40 0 [(4, (.v (.int IntKind.u64 x4)))], hp := [], m := 0 }
noncomputable def X2000002 (k kp : D → List Blk → Prop) : St → Prop := atP cfg (pick none' []) [1, 0, 1] body (topK cfg Tryd.f50 k kp)
noncomputable def X3 (k kp : D → List Blk → Prop) : St → Prop := atP cfg (pick none' []) [1, 1] body (topK cfg Tryd.f50 k kp)
noncomputable def YL5 (k kp : D → List Blk → Prop) : (St → Prop) → St → Prop := loopB cfg (sub [1, 1, 1, 0, 1, 0, 0] body) (contK cfg (pick none' []) [1, 1, 1, 0, 1, 0] body (topK cfg Tryd.f50 k kp))
noncomputable def XL5 (k kp : D → List Blk → Prop) : St → Prop := fun st => ∃ n, loopN (YL5 k kp) n st
noncomputable def X11 (k kp : D → List Blk → Prop) : St → Prop := atP cfg (pick none' []) [1, 1, 1, 1] body (topK cfg Tryd.f50 k kp)
noncomputable def JJ (k kp : D → List Blk → Prop) : Nat → St → Prop := pick none' [(2000002, X2000002 k kp), (3, X3 k kp), (11, X11 k kp)]
noncomputable def LL (k kp : D → List Blk → Prop) : Nat → St → Prop := pick none' [(5, XL5 k kp)]
noncomputable def JJ_5 (k kp : D → List Blk → Prop) (ag5 : St → Prop) : Nat → St → Prop := pick none' [(2000002, X2000002 k kp), (3, X3 k kp), (11, X11 k kp)]
noncomputable def LL_5 (k kp : D → List Blk → Prop) (ag5 : St → Prop) : Nat → St → Prop := pick none' [(5, XL5 k kp)]
theorem j11_c (k kp : D → List Blk → Prop) (J L : Nat → St → Prop) (x4 : Int) : runC cfg 11 J L (pick none' []) [1, 1, 1, 1] body (topK cfg Tryd.f50 k kp) (m11 x4) = j11 x4 (fun y0 y1 => k (.tup [(.v (.int IntKind.u64 y0)), (.v (.int IntKind.i64 y1))]) []) := by kernel_rfl
theorem j11_ag (k kp : D → List Blk → Prop) : agPL cfg 11 (JJ k kp) (LL k kp) [1, 1, 1, 1] body = agPR cfg 11 (pick none' []) [1, 1, 1, 1] body (topK cfg Tryd.f50 k kp) := by kernel_rfl
theorem j11_raw (k kp : D → List Blk → Prop) (x4 : Int) : X11 k kp (m11 x4) = j11 x4 (fun y0 y1 => k (.tup [(.v (.int IntKind.u64 y0)), (.v (.int IntKind.i64 y1))]) []) :=
  Eq.mp (by kernel_rfl) ((atP_run (j11_ag k kp) (m11 x4)).trans (j11_c k kp (JJ k kp) (LL k kp) x4))
theorem j11_eq (k kp : D → List Blk → Prop) (x4 : Int) : X11 k kp (m11 x4) = j11' x4 (fun y0 y1 => k (.tup [(.v (.int IntKind.u64 y0)), (.v (.int IntKind.i64 y1))]) []) := by
  rw [j11_raw]; rfl
theorem l5_c (k kp : D → List Blk → Prop) (J L : Nat → St → Prop) (ag5 : St → Prop) (x0 : ByteArray) (x4 : Int) (x5 : Int) : runC cfg 1000001 J L (pick none' [(5, ag5)]) [1, 1, 1, 0, 1, 0, 0] body (topK cfg Tryd.f50 k kp) (mL5 x0 x4 x5) = l5 (fun x4 => J 11 (m11 x4)) (fun x4 x5 => ag5 (mL5 x0 x4 x5)) x0 x4 x5 (fun y0 y1 => k (.tup [(.v (.int IntKind.u64 y0)), (.v (.int IntKind.i64 y1))]) []) := by kernel_rfl
theorem l5_ag (k kp : D → List Blk → Prop) (ag5 : St → Prop) : agPL cfg 1000001 (JJ_5 k kp ag5) (LL_5 k kp ag5) [1, 1, 1, 0, 1, 0, 0] body = agPR cfg 1000001 (pick none' [(5, ag5)]) [1, 1, 1, 0, 1, 0, 0] body (topK cfg Tryd.f50 k kp) := by kernel_rfl
theorem l5_raw (k kp : D → List Blk → Prop) (ag5 : St → Prop) (x0 : ByteArray) (x4 : Int) (x5 : Int) : YL5 k kp ag5 (mL5 x0 x4 x5) = l5 (fun x4 => X11 k kp (m11 x4)) (fun x4 x5 => ag5 (mL5 x0 x4 x5)) x0 x4 x5 (fun y0 y1 => k (.tup [(.v (.int IntKind.u64 y0)), (.v (.int IntKind.i64 y1))]) []) :=
  Eq.mp (by kernel_rfl) ((atP_run (l5_ag k kp ag5) (mL5 x0 x4 x5)).trans (l5_c k kp (JJ_5 k kp ag5) (LL_5 k kp ag5) ag5 x0 x4 x5))
theorem l5_eq (k kp : D → List Blk → Prop) (x0 : ByteArray) (x4 : Int) (x5 : Int) : XL5 k kp (mL5 x0 x4 x5) = l5' x0 x4 x5 (fun y0 y1 => k (.tup [(.v (.int IntKind.u64 y0)), (.v (.int IntKind.i64 y1))]) []) :=
  loop_eq (mk := fun (s : Int × Int) => mL5 x0 s.1 s.2) (fun again s => by rw [l5_raw k kp again x0 s.1 s.2]; simp only [j11_eq]; first | done | rfl) (x4, x5)
theorem j3_c (k kp : D → List Blk → Prop) (J L : Nat → St → Prop) (x0 : ByteArray) : runC cfg 3 J L (pick none' []) [1, 1] body (topK cfg Tryd.f50 k kp) (m3 x0) = j3 (fun x0 x4 x5 => L 5 (mL5 x0 x4 x5)) x0 (fun y0 y1 => k (.tup [(.v (.int IntKind.u64 y0)), (.v (.int IntKind.i64 y1))]) []) := by kernel_rfl
theorem j3_ag (k kp : D → List Blk → Prop) : agPL cfg 3 (JJ k kp) (LL k kp) [1, 1] body = agPR cfg 3 (pick none' []) [1, 1] body (topK cfg Tryd.f50 k kp) := by kernel_rfl
theorem j3_raw (k kp : D → List Blk → Prop) (x0 : ByteArray) : X3 k kp (m3 x0) = j3 (fun x0 x4 x5 => XL5 k kp (mL5 x0 x4 x5)) x0 (fun y0 y1 => k (.tup [(.v (.int IntKind.u64 y0)), (.v (.int IntKind.i64 y1))]) []) :=
  Eq.mp (by kernel_rfl) ((atP_run (j3_ag k kp) (m3 x0)).trans (j3_c k kp (JJ k kp) (LL k kp) x0))
theorem j3_eq (k kp : D → List Blk → Prop) (x0 : ByteArray) : X3 k kp (m3 x0) = j3' x0 (fun y0 y1 => k (.tup [(.v (.int IntKind.u64 y0)), (.v (.int IntKind.i64 y1))]) []) := by
  rw [j3_raw]; simp only [l5_eq]; first | done | rfl
theorem j2000002_c (k kp : D → List Blk → Prop) (J L : Nat → St → Prop) (x0 : ByteArray) (x18 : Bool) : runC cfg 2000002 J L (pick none' []) [1, 0, 1] body (topK cfg Tryd.f50 k kp) (m2000002 x0 x18) = j2000002 (fun x0 => J 3 (m3 x0)) x0 x18 (fun y0 y1 => k (.tup [(.v (.int IntKind.u64 y0)), (.v (.int IntKind.i64 y1))]) []) := by kernel_rfl
theorem j2000002_ag (k kp : D → List Blk → Prop) : agPL cfg 2000002 (JJ k kp) (LL k kp) [1, 0, 1] body = agPR cfg 2000002 (pick none' []) [1, 0, 1] body (topK cfg Tryd.f50 k kp) := by kernel_rfl
theorem j2000002_raw (k kp : D → List Blk → Prop) (x0 : ByteArray) (x18 : Bool) : X2000002 k kp (m2000002 x0 x18) = j2000002 (fun x0 => X3 k kp (m3 x0)) x0 x18 (fun y0 y1 => k (.tup [(.v (.int IntKind.u64 y0)), (.v (.int IntKind.i64 y1))]) []) :=
  Eq.mp (by kernel_rfl) ((atP_run (j2000002_ag k kp) (m2000002 x0 x18)).trans (j2000002_c k kp (JJ k kp) (LL k kp) x0 x18))
theorem j2000002_eq (k kp : D → List Blk → Prop) (x0 : ByteArray) (x18 : Bool) : X2000002 k kp (m2000002 x0 x18) = j2000002' x0 x18 (fun y0 y1 => k (.tup [(.v (.int IntKind.u64 y0)), (.v (.int IntKind.i64 y1))]) []) := by
  rw [j2000002_raw]; simp only [j3_eq]; first | done | rfl
theorem c_c (k kp : D → List Blk → Prop) (J L : Nat → St → Prop) (x0 : ByteArray) : runC cfg 1000001 J L none'' [] body (topK cfg Tryd.f50 k kp) (st0 Tryd.f50 [(.v (.string x0))] []) = c (fun x0 x18 => J 2000002 (m2000002 x0 x18)) x0 (fun y0 y1 => k (.tup [(.v (.int IntKind.u64 y0)), (.v (.int IntKind.i64 y1))]) []) := by kernel_rfl
theorem c_ag (k kp : D → List Blk → Prop) : agPL cfg 1000001 (JJ k kp) (LL k kp) [] body = agPR cfg 1000001 none'' [] body (topK cfg Tryd.f50 k kp) := by kernel_rfl
theorem body_is : Tryd.f50.body = some body := by kernel_rfl
theorem c_raw (k kp : D → List Blk → Prop) (x0 : ByteArray) : funW cfg Tryd.f50 [(.v (.string x0))] [] k kp = c (fun x0 x18 => X2000002 k kp (m2000002 x0 x18)) x0 (fun y0 y1 => k (.tup [(.v (.int IntKind.u64 y0)), (.v (.int IntKind.i64 y1))]) []) :=
  Eq.mp (by kernel_rfl) ((funW_run (AG := none'') body_is (c_ag k kp) [(.v (.string x0))] []).trans (c_c k kp (JJ k kp) (LL k kp) x0))
theorem f_eq (k kp : D → List Blk → Prop) (x0 : ByteArray) : funW cfg Tryd.f50 [(.v (.string x0))] [] k kp = f x0 (fun y0 y1 => k (.tup [(.v (.int IntKind.u64 y0)), (.v (.int IntKind.i64 y1))]) []) := by
  rw [f_def, c_raw]; simp only [j2000002_eq]; first | done | rfl
noncomputable def ent0 : Entry := fun args blks k _ => match args, blks with
  | [d0], [] => aStr d0 fun x0 => f x0 (fun y0 y1 => k (.tup [(.v (.int IntKind.u64 y0)), (.v (.int IntKind.i64 y1))]) [])
  | _, _ => False
noncomputable def ent : Entry := fun args blks k kp => ent0 (convB [.no] args) blks k kp
theorem ok : EntOk Tryd.prog 49 0 50 ent := by
  refine EntOk.convB (EntOk.of (funW_ok (cfg := cfg) (tyOk_of rfl rfl tyL_ok) (eqOk_of (P := Tryd.prog) rfl rfl (by kernel_rfl)) mixed_ok (tab_ok ?_) Tryd.func50 (by rfl) (by rfl)) ?_) _
  · intro p hp
    cases hp
  · intro args blks k kp h k' kp'
    match args, blks, h with
    | [d0], [], h =>
    dsimp only [ent0] at h
    have h9 := aStr_elim h; clear h; obtain ⟨x0, rfl, h⟩ := h9
    exact (f_eq k' kp' x0).symm
end N50
end Go.Proofs.Ye
namespace Go.Proofs.Ye
open Go Go.Aw Go.Proofs
set_option linter.unusedVariables false
set_option linter.unusedSimpArgs false
set_option maxRecDepth 100000
/-! dyehouse/dyehouseref09.one -/
namespace N27
noncomputable def cfg : Cfg := { P := Tryd.prog, tf := 49, tw := 0, ty := tys, E := tab [(48, N48.ent), (49, N49.ent), (50, N50.ent)], atSeq := tab [(21, ⟨[(0, .keep), (1, .keep), (4, .keep), (7, .keep), (8, .keep), (10, .keep)]⟩), (2000018, ⟨[(0, .keep), (1, .keep), (4, .keep), (7, .keep), (8, .keep), (10, .keep), (70, .keep)]⟩), (2000022, ⟨[(0, .keep), (1, .keep), (4, .keep), (7, .keep), (8, .keep), (10, .keep), (87, .keep)]⟩), (19, ⟨[(0, .keep), (1, .keep), (4, .keep), (7, .keep), (8, .keep), (10, .keep)]⟩), (2000025, ⟨[(0, .keep), (1, .keep), (4, .keep), (8, .keep), (10, .keep), (11, .keep), (12, .keep), (13, .keep), (116, .keep)]⟩), (30, ⟨[(0, .keep), (1, .keep), (4, .keep), (7, .keep), (8, .keep)]⟩), (26, ⟨[(0, .keep), (1, .keep), (4, .keep), (8, .keep), (10, .keep), (11, .keep), (12, .keep), (13, .keep)]⟩), (28, ⟨[(0, .keep), (1, .keep), (4, .keep), (8, .keep), (11, .keep), (12, .keep), (13, .keep)]⟩), (2000036, ⟨[(0, .keep), (1, .keep), (4, .keep), (8, .keep), (15, .keep), (156, .keep)]⟩), (39, ⟨[(4, .keep), (8, .keep)]⟩), (37, ⟨[(0, .keep), (1, .keep), (4, .keep), (8, .keep), (15, .keep)]⟩)], atLoop := tab [(31, ⟨[(0, .keep), (1, .keep), (4, .keep), (7, .keep), (8, .keep), (14, .keep)]⟩)], outs := [], eqT := tab [], bT := tab [], lt := [27, 28, 29, 30, 31, 32, 120, 121, 122, 123, 124, 125, 126, 127, 128, 129, 157, 158, 159, 160, 161, 162, 163, 164], pd := [] }
noncomputable def body : Code := bodyOf Tryd.f27
def j21 (j2000022 : ByteArray → Int → Int → Int → Bool → Int → ByteArray → Int → Int → Int → Int → ByteArray → Int → Int → Int → Prop) (x0 : ByteArray) (x1 : Int) (x7 : Int) (x10 : Int) (b0_0 : Int) (b0_1 : ByteArray) (b0_2 : Int) (b0_3 : Int) (b0_4 : Int) (b1_0 : Int) (b1_1 : ByteArray) (b1_2 : Int) (b1_3 : Int) (b1_4 : Int) (k : Int → ByteArray → Int → Int → Int → Int → Int → Prop) : Prop :=
  (br (decide (x10 > (0 : Int))) (j2000022 x0 x1 x7 x10 true b0_0 b0_1 b0_2 b0_3 b0_4 b1_0 b1_1 b1_2 b1_3 b1_4) (br (decide (x7 ≥ (48 : Int))) (j2000022 x0 x1 x7 x10 (decide (x7 ≤ (57 : Int))) b0_0 b0_1 b0_2 b0_3 b0_4 b1_0 b1_1 b1_2 b1_3 b1_4) (j2000022 x0 x1 x7 x10 false b0_0 b0_1 b0_2 b0_3 b0_4 b1_0 b1_1 b1_2 b1_3 b1_4)))
def j2000018 (j19 : ByteArray → Int → Int → Int → Int → ByteArray → Int → Int → Int → Int → ByteArray → Int → Int → Int → Prop) (x0 : ByteArray) (x1 : Int) (x7 : Int) (x10 : Int) (x70 : Bool) (b0_0 : Int) (b0_1 : ByteArray) (b0_2 : Int) (b0_3 : Int) (b0_4 : Int) (b1_0 : Int) (b1_1 : ByteArray) (b1_2 : Int) (b1_3 : Int) (b1_4 : Int) (k : Int → ByteArray → Int → Int → Int → Int → Int → Prop) : Prop :=
  (br x70 (k b1_0 b1_1 b1_2 b1_3 b1_4 (0 : Int) (12 : Int)) (j19 x0 x1 x7 x10 b0_0 b0_1 b0_2 b0_3 b0_4 b1_0 b1_1 b1_2 b1_3 b1_4))
def j2000022 (j2000025 : ByteArray → Int → Int → Int → Int → Int → Bool → Int → ByteArray → Int → Int → Int → Int → ByteArray → Int → Int → Int → Prop) (j30 : ByteArray → Int → Int → Int → ByteArray → Int → Int → Int → Int → ByteArray → Int → Int → Int → Prop) (x0 : ByteArray) (x1 : Int) (x7 : Int) (x10 : Int) (x87 : Bool) (b0_0 : Int) (b0_1 : ByteArray) (b0_2 : Int) (b0_3 : Int) (b0_4 : Int) (b1_0 : Int) (b1_1 : ByteArray) (b1_2 : Int) (b1_3 : Int) (b1_4 : Int) (k : Int → ByteArray → Int → Int → Int → Int → Int → Prop) : Prop :=
  (br x87 (N49.f x0 (IntKind.i64.wrap (x1 + x10)) (fun (y0_1 : Int) => ((inB (IntKind.i64.wrap (x1 + x10)) (IntKind.i64.wrap (x1 + (IntKind.i64.wrap (x10 + y0_1)))) (((x0).size : Nat) : Int)) ∧ (N50.f (ByteArray.extract x0 (Int.toNat (IntKind.i64.wrap (x1 + x10))) (Int.toNat (IntKind.i64.wrap (x1 + (IntKind.i64.wrap (x10 + y0_1)))))) (fun (y0_2 : Int) (y1_2 : Int) => (br (y1_2 == (0 : Int)) (br (decide (x10 > (0 : Int))) (j2000025 x0 x1 x10 (IntKind.i64.wrap (x10 + y0_1)) y0_2 y1_2 (decide (y0_2 > (2147483647 : Int))) b0_0 b0_1 b0_2 b0_3 b0_4 b1_0 b1_1 b1_2 b1_3 b1_4) (j2000025 x0 x1 x10 (IntKind.i64.wrap (x10 + y0_1)) y0_2 y1_2 false b0_0 b0_1 b0_2 b0_3 b0_4 b1_0 b1_1 b1_2 b1_3 b1_4)) (j2000025 x0 x1 x10 (IntKind.i64.wrap (x10 + y0_1)) y0_2 y1_2 false b0_0 b0_1 b0_2 b0_3 b0_4 b1_0 b1_1 b1_2 b1_3 b1_4))))))) (j30 x0 x1 x7 b0_0 b0_1 b0_2 b0_3 b0_4 b1_0 b1_1 b1_2 b1_3 b1_4))
def j19 (j21 : ByteArray → Int → Int → Int → Int → ByteArray → Int → Int → Int → Int → ByteArray → Int → Int → Int → Prop) (x0 : ByteArray) (x1 : Int) (x7 : Int) (x10 : Int) (b0_0 : Int) (b0_1 : ByteArray) (b0_2 : Int) (b0_3 : Int) (b0_4 : Int) (b1_0 : Int) (b1_1 : ByteArray) (b1_2 : Int) (b1_3 : Int) (b1_4 : Int) (k : Int → ByteArray → Int → Int → Int → Int → Int → Prop) : Prop :=
  ((inB 0 (IntKind.i64.wrap (x1 + (1 : Int))) ((((x0).size : Nat) : Int) - 1)) ∧ (br ((byteAt x0 (IntKind.i64.wrap (x1 + (1 : Int)))) == (120 : Int)) (j21 x0 x1 x7 x10 b0_0 b0_1 b0_2 b0_3 b0_4 b1_0 b1_1 b1_2 (1 : Int) b1_4) (j21 x0 x1 x7 x10 b0_0 b0_1 b0_2 b0_3 b0_4 b1_0 b1_1 b1_2 b1_3 b1_4)))
def j2000025 (j26 : ByteArray → Int → Int → Int → Int → Int → Int → ByteArray → Int → Int → Int → Int → ByteArray → Int → Int → Int → Prop) (x0 : ByteArray) (x1 : Int) (x10 : Int) (x11 : Int) (x12 : Int) (x13 : Int) (x116 : Bool) (b0_0 : Int) (b0_1 : ByteArray) (b0_2 : Int) (b0_3 : Int) (b0_4 : Int) (b1_0 : Int) (b1_1 : ByteArray) (b1_2 : Int) (b1_3 : Int) (b1_4 : Int) (k : Int → ByteArray → Int → Int → Int → Int → Int → Prop) : Prop :=
  (br x116 (j26 x0 x1 x10 x11 x12 (2 : Int) b0_0 b0_1 b0_2 b0_3 b0_4 b1_0 b1_1 b1_2 b1_3 b1_4) (j26 x0 x1 x10 x11 x12 x13 b0_0 b0_1 b0_2 b0_3 b0_4 b1_0 b1_1 b1_2 b1_3 b1_4))
def j30 (l31 : ByteArray → Int → Int → Int → Int → ByteArray → Int → Int → Int → Int → ByteArray → Int → Int → Int → Prop) (x0 : ByteArray) (x1 : Int) (x7 : Int) (b0_0 : Int) (b0_1 : ByteArray) (b0_2 : Int) (b0_3 : Int) (b0_4 : Int) (b1_0 : Int) (b1_1 : ByteArray) (b1_2 : Int) (b1_3 : Int) (b1_4 : Int) (k : Int → ByteArray → Int → Int → Int → Int → Int → Prop) : Prop :=
  (l31 x0 x1 x7 (0 : Int) b0_0 b0_1 b0_2 b0_3 b0_4 b1_0 b1_1 b1_2 b1_3 b1_4)
def j26 (j28 : ByteArray → Int → Int → Int → Int → Int → ByteArray → Int → Int → Int → Int → ByteArray → Int → Int → Int → Prop) (x0 : ByteArray) (x1 : Int) (x10 : Int) (x11 : Int) (x12 : Int) (x13 : Int) (b0_0 : Int) (b0_1 : ByteArray) (b0_2 : Int) (b0_3 : Int) (b0_4 : Int) (b1_0 : Int) (b1_1 : ByteArray) (b1_2 : Int) (b1_3 : Int) (b1_4 : Int) (k : Int → ByteArray → Int → Int → Int → Int → Int → Prop) : Prop :=
  (br (x10 == (0 : Int)) (j28 x0 x1 x11 x12 x13 b0_0 b0_1 b0_2 b0_3 b0_4 (2 : Int) b1_1 b1_2 b1_3 b1_4) (j28 x0 x1 x11 x12 x13 b0_0 b0_1 b0_2 b0_3 b0_4 b1_0 b1_1 b1_2 b1_3 b1_4))
def l31 (j2000036 : ByteArray → Int → Int → Bool → Int → ByteArray → Int → Int → Int → Int → ByteArray → Int → Int → Int → Prop) (j39 : Int → ByteArray → Int → Int → Int → Int → ByteArray → Int → Int → Int → Prop) (ag31 : Int → Int → ByteArray → Int → Int → Int → Int → ByteArray → Int → Int → Int → Prop) (x0 : ByteArray) (x1 : Int) (x7 : Int) (x14 : Int) (b0_0 : Int) (b0_1 : ByteArray) (b0_2 : Int) (b0_3 : Int) (b0_4 : Int) (b1_0 : Int) (b1_1 : ByteArray) (b1_2 : Int) (b1_3 : Int) (b1_4 : Int) (k : Int → ByteArray → Int → Int → Int → Int → Int → Prop) : Prop :=
  (br (decide (x14 < (14 : Int))) ((inB 0 x14 (((((ByteArray.mk #[123, 125, 40, 41, 91, 93, 44, 58, 59, 61, 43, 45, 42, 46])).size : Nat) : Int) - 1)) ∧ (br ((byteAt (ByteArray.mk #[123, 125, 40, 41, 91, 93, 44, 58, 59, 61, 43, 45, 42, 46]) x14) == x7) (br (x7 == (46 : Int)) (br (decide ((IntKind.i64.wrap (x1 + (1 : Int))) < ((((x0).size : Nat) : Int)))) ((inB 0 (IntKind.i64.wrap (x1 + (1 : Int))) ((((x0).size : Nat) : Int) - 1)) ∧ (j2000036 x0 x1 (1 : Int) ((byteAt x0 (IntKind.i64.wrap (x1 + (1 : Int)))) == (46 : Int)) b0_0 b0_1 b0_2 b0_3 b0_4 b1_0 b1_1 b1_2 b1_3 b1_4)) (j2000036 x0 x1 (1 : Int) false b0_0 b0_1 b0_2 b0_3 b0_4 b1_0 b1_1 b1_2 b1_3 b1_4)) (j2000036 x0 x1 (1 : Int) false b0_0 b0_1 b0_2 b0_3 b0_4 b1_0 b1_1 b1_2 b1_3 b1_4)) (ag31 (IntKind.i64.wrap (x14 + (1 : Int))) b0_0 b0_1 b0_2 b0_3 b0_4 b1_0 b1_1 b1_2 b1_3 b1_4))) (j39 b0_0 b0_1 b0_2 b0_3 b0_4 b1_0 b1_1 b1_2 b1_3 b1_4))
def j28 (x0 : ByteArray) (x1 : Int) (x11 : Int) (x12 : Int) (x13 : Int) (b0_0 : Int) (b0_1 : ByteArray) (b0_2 : Int) (b0_3 : Int) (b0_4 : Int) (b1_0 : Int) (b1_1 : ByteArray) (b1_2 : Int) (b1_3 : Int) (b1_4 : Int) (k : Int → ByteArray → Int → Int → Int → Int → Int → Prop) : Prop :=
  ((inB x1 (IntKind.i64.wrap (x1 + x11)) (((x0).size : Nat) : Int)) ∧ (k b1_0 (ByteArray.extract x0 (Int.toNat x1) (Int.toNat (IntKind.i64.wrap (x1 + x11)))) (IntKind.i64.wrap x12) b1_3 b1_4 x11 x13))
def j2000036 (j37 : ByteArray → Int → Int → Int → ByteArray → Int → Int → Int → Int → ByteArray → Int → Int → Int → Prop) (x0 : ByteArray) (x1 : Int) (x15 : Int) (x156 : Bool) (b0_0 : Int) (b0_1 : ByteArray) (b0_2 : Int) (b0_3 : Int) (b0_4 : Int) (b1_0 : Int) (b1_1 : ByteArray) (b1_2 : Int) (b1_3 : Int) (b1_4 : Int) (k : Int → ByteArray → Int → Int → Int → Int → Int → Prop) : Prop :=
  (br x156 (j37 x0 x1 (2 : Int) b0_0 b0_1 b0_2 b0_3 b0_4 b1_0 b1_1 b1_2 b1_3 b1_4) (j37 x0 x1 x15 b0_0 b0_1 b0_2 b0_3 b0_4 b1_0 b1_1 b1_2 b1_3 b1_4))
def j39 (b0_0 : Int) (b0_1 : ByteArray) (b0_2 : Int) (b0_3 : Int) (b0_4 : Int) (b1_0 : Int) (b1_1 : ByteArray) (b1_2 : Int) (b1_3 : Int) (b1_4 : Int) (k : Int → ByteArray → Int → Int → Int → Int → Int → Prop) : Prop :=
  (k b1_0 b1_1 b1_2 b1_3 b1_4 (0 : Int) (10 : Int))
def j37 (x0 : ByteArray) (x1 : Int) (x15 : Int) (b0_0 : Int) (b0_1 : ByteArray) (b0_2 : Int) (b0_3 : Int) (b0_4 : Int) (b1_0 : Int) (b1_1 : ByteArray) (b1_2 : Int) (b1_3 : Int) (b1_4 : Int) (k : Int → ByteArray → Int → Int → Int → Int → Int → Prop) : Prop :=
  ((inB x1 (IntKind.i64.wrap (x1 + x15)) (((x0).size : Nat) : Int)) ∧ (k (7 : Int) (ByteArray.extract x0 (Int.toNat x1) (Int.toNat (IntKind.i64.wrap (x1 + x15)))) b1_2 b1_3 b1_4 x15 (0 : Int)))
def c (j21 : ByteArray → Int → Int → Int → Int → ByteArray → Int → Int → Int → Int → ByteArray → Int → Int → Int → Prop) (j2000018 : ByteArray → Int → Int → Int → Bool → Int → ByteArray → Int → Int → Int → Int → ByteArray → Int → Int → Int → Prop) (x0 : ByteArray) (x1 : Int) (k : Int → ByteArray → Int → Int → Int → Int → Int → Prop) : Prop :=
  ((inB 0 x1 ((((x0).size : Nat) : Int) - 1)) ∧ (N48.f x0 x1 (fun (y0_0 : Int) => (br (decide (y0_0 > x1)) ((inB x1 y0_0 (((x0).size : Nat) : Int)) ∧ (br (decide ((IntKind.i64.wrap (y0_0 - x1)) > (24 : Int))) (k (1 : Int) (ByteArray.extract x0 (Int.toNat x1) (Int.toNat y0_0)) (0 : Int) (0 : Int) x1 (0 : Int) (3 : Int)) (k (1 : Int) (ByteArray.extract x0 (Int.toNat x1) (Int.toNat y0_0)) (0 : Int) (0 : Int) x1 (IntKind.i64.wrap (y0_0 - x1)) (0 : Int)))) (br ((byteAt x0 x1) == (37 : Int)) (j21 x0 x1 (byteAt x0 x1) (1 : Int) (0 : Int) (ByteArray.mk #[]) (0 : Int) (0 : Int) (0 : Int) (4 : Int) (ByteArray.mk #[]) (0 : Int) (0 : Int) x1) (br ((byteAt x0 x1) == (35 : Int)) (j21 x0 x1 (byteAt x0 x1) (1 : Int) (0 : Int) (ByteArray.mk #[]) (0 : Int) (0 : Int) (0 : Int) (6 : Int) (ByteArray.mk #[]) (0 : Int) (0 : Int) x1) (br ((byteAt x0 x1) == (36 : Int)) (br ((IntKind.i64.wrap (x1 + (1 : Int))) == ((((x0).size : Nat) : Int))) (j2000018 x0 x1 (byteAt x0 x1) (2 : Int) true (0 : Int) (ByteArray.mk #[]) (0 : Int) (0 : Int) (0 : Int) (5 : Int) (ByteArray.mk #[]) (0 : Int) (0 : Int) x1) ((inB 0 (IntKind.i64.wrap (x1 + (1 : Int))) ((((x0).size : Nat) : Int) - 1)) ∧ (br ((byteAt x0 (IntKind.i64.wrap (x1 + (1 : Int)))) != (103 : Int)) ((inB 0 (IntKind.i64.wrap (x1 + (1 : Int))) ((((x0).size : Nat) : Int) - 1)) ∧ (j2000018 x0 x1 (byteAt x0 x1) (2 : Int) ((byteAt x0 (IntKind.i64.wrap (x1 + (1 : Int)))) != (120 : Int)) (0 : Int) (ByteArray.mk #[]) (0 : Int) (0 : Int) (0 : Int) (5 : Int) (ByteArray.mk #[]) (0 : Int) (0 : Int) x1)) (j2000018 x0 x1 (byteAt x0 x1) (2 : Int) false (0 : Int) (ByteArray.mk #[]) (0 : Int) (0 : Int) (0 : Int) (5 : Int) (ByteArray.mk #[]) (0 : Int) (0 : Int) x1)))) (j21 x0 x1 (byteAt x0 x1) (0 : Int) (0 : Int) (ByteArray.mk #[]) (0 : Int) (0 : Int) (0 : Int) (0 : Int) (ByteArray.mk #[]) (0 : Int) (0 : Int) x1))))))))
def j28' (x0 : ByteArray) (x1 : Int) (x11 : Int) (x12 : Int) (x13 : Int) (b0_0 : Int) (b0_1 : ByteArray) (b0_2 : Int) (b0_3 : Int) (b0_4 : Int) (b1_0 : Int) (b1_1 : ByteArray) (b1_2 : Int) (b1_3 : Int) (b1_4 : Int) (k : Int → ByteArray → Int → Int → Int → Int → Int → Prop) : Prop := j28 x0 x1 x11 x12 x13 b0_0 b0_1 b0_2 b0_3 b0_4 b1_0 b1_1 b1_2 b1_3 b1_4 k
def j39' (b0_0 : Int) (b0_1 : ByteArray) (b0_2 : Int) (b0_3 : Int) (b0_4 : Int) (b1_0 : Int) (b1_1 : ByteArray) (b1_2 : Int) (b1_3 : Int) (b1_4 : Int) (k : Int → ByteArray → Int → Int → Int → Int → Int → Prop) : Prop := j39 b0_0 b0_1 b0_2 b0_3 b0_4 b1_0 b1_1 b1_2 b1_3 b1_4 k
def j37' (x0 : ByteArray) (x1 : Int) (x15 : Int) (b0_0 : Int) (b0_1 : ByteArray) (b0_2 : Int) (b0_3 : Int) (b0_4 : Int) (b1_0 : Int) (b1_1 : ByteArray) (b1_2 : Int) (b1_3 : Int) (b1_4 : Int) (k : Int → ByteArray → Int → Int → Int → Int → Int → Prop) : Prop := j37 x0 x1 x15 b0_0 b0_1 b0_2 b0_3 b0_4 b1_0 b1_1 b1_2 b1_3 b1_4 k
def j26' (x0 : ByteArray) (x1 : Int) (x10 : Int) (x11 : Int) (x12 : Int) (x13 : Int) (b0_0 : Int) (b0_1 : ByteArray) (b0_2 : Int) (b0_3 : Int) (b0_4 : Int) (b1_0 : Int) (b1_1 : ByteArray) (b1_2 : Int) (b1_3 : Int) (b1_4 : Int) (k : Int → ByteArray → Int → Int → Int → Int → Int → Prop) : Prop := j26 (fun x0 x1 x11 x12 x13 b0_0 b0_1 b0_2 b0_3 b0_4 b1_0 b1_1 b1_2 b1_3 b1_4 => j28' x0 x1 x11 x12 x13 b0_0 b0_1 b0_2 b0_3 b0_4 b1_0 b1_1 b1_2 b1_3 b1_4 k) x0 x1 x10 x11 x12 x13 b0_0 b0_1 b0_2 b0_3 b0_4 b1_0 b1_1 b1_2 b1_3 b1_4 k
def j2000036' (x0 : ByteArray) (x1 : Int) (x15 : Int) (x156 : Bool) (b0_0 : Int) (b0_1 : ByteArray) (b0_2 : Int) (b0_3 : Int) (b0_4 : Int) (b1_0 : Int) (b1_1 : ByteArray) (b1_2 : Int) (b1_3 : Int) (b1_4 : Int) (k : Int → ByteArray → Int → Int → Int → Int → Int → Prop) : Prop := j2000036 (fun x0 x1 x15 b0_0 b0_1 b0_2 b0_3 b0_4 b1_0 b1_1 b1_2 b1_3 b1_4 => j37' x0 x1 x15 b0_0 b0_1 b0_2 b0_3 b0_4 b1_0 b1_1 b1_2 b1_3 b1_4 k) x0 x1 x15 x156 b0_0 b0_1 b0_2 b0_3 b0_4 b1_0 b1_1 b1_2 b1_3 b1_4 k
def j2000025' (x0 : ByteArray) (x1 : Int) (x10 : Int) (x11 : Int) (x12 : Int) (x13 : Int) (x116 : Bool) (b0_0 : Int) (b0_1 : ByteArray) (b0_2 : Int) (b0_3 : Int) (b0_4 : Int) (b1_0 : Int) (b1_1 : ByteArray) (b1_2 : Int) (b1_3 : Int) (b1_4 : Int) (k : Int → ByteArray → Int → Int → Int → Int → Int → Prop) : Prop := j2000025 (fun x0 x1 x10 x11 x12 x13 b0_0 b0_1 b0_2 b0_3 b0_4 b1_0 b1_1 b1_2 b1_3 b1_4 => j26' x0 x1 x10 x11 x12 x13 b0_0 b0_1 b0_2 b0_3 b0_4 b1_0 b1_1 b1_2 b1_3 b1_4 k) x0 x1 x10 x11 x12 x13 x116 b0_0 b0_1 b0_2 b0_3 b0_4 b1_0 b1_1 b1_2 b1_3 b1_4 k
def l31' (x0 : ByteArray) (x1 : Int) (x7 : Int) (x14 : Int) (b0_0 : Int) (b0_1 : ByteArray) (b0_2 : Int) (b0_3 : Int) (b0_4 : Int) (b1_0 : Int) (b1_1 : ByteArray) (b1_2 : Int) (b1_3 : Int) (b1_4 : Int) (k : Int → ByteArray → Int → Int → Int → Int → Int → Prop) : Prop := ∃ n, loopS (fun (ag : (Int × Int × ByteArray × Int × Int × Int × Int × ByteArray × Int × Int × Int) → Prop) (s : Int × Int × ByteArray × Int × Int × Int × Int × ByteArray × Int × Int × Int) => l31 (fun x0 x1 x15 x156 b0_0 b0_1 b0_2 b0_3 b0_4 b1_0 b1_1 b1_2 b1_3 b1_4 => j2000036' x0 x1 x15 x156 b0_0 b0_1 b0_2 b0_3 b0_4 b1_0 b1_1 b1_2 b1_3 b1_4 k) (fun b0_0 b0_1 b0_2 b0_3 b0_4 b1_0 b1_1 b1_2 b1_3 b1_4 => j39' b0_0 b0_1 b0_2 b0_3 b0_4 b1_0 b1_1 b1_2 b1_3 b1_4 k) (fun x14 b0_0 b0_1 b0_2 b0_3 b0_4 b1_0 b1_1 b1_2 b1_3 b1_4 => ag (x14, b0_0, b0_1, b0_2, b0_3, b0_4, b1_0, b1_1, b1_2, b1_3, b1_4)) x0 x1 x7 s.1 s.2.1 s.2.2.1 s.2.2.2.1 s.2.2.2.2.1 s.2.2.2.2.2.1 s.2.2.2.2.2.2.1 s.2.2.2.2.2.2.2.1 s.2.2.2.2.2.2.2.2.1 s.2.2.2.2.2.2.2.2.2.1 s.2.2.2.2.2.2.2.2.2.2 k) n (x14, b0_0, b0_1, b0_2, b0_3, b0_4, b1_0, b1_1, b1_2, b1_3, b1_4)
def j30' (x0 : ByteArray) (x1 : Int) (x7 : Int) (b0_0 : Int) (b0_1 : ByteArray) (b0_2 : Int) (b0_3 : Int) (b0_4 : Int) (b1_0 : Int) (b1_1 : ByteArray) (b1_2 : Int) (b1_3 : Int) (b1_4 : Int) (k : Int → ByteArray → Int → Int → Int → Int → Int → Prop) : Prop := j30 (fun x0 x1 x7 x14 b0_0 b0_1 b0_2 b0_3 b0_4 b1_0 b1_1 b1_2 b1_3 b1_4 => l31' x0 x1 x7 x14 b0_0 b0_1 b0_2 b0_3 b0_4 b1_0 b1_1 b1_2 b1_3 b1_4 k) x0 x1 x7 b0_0 b0_1 b0_2 b0_3 b0_4 b1_0 b1_1 b1_2 b1_3 b1_4 k
def j2000022' (x0 : ByteArray) (x1 : Int) (x7 : Int) (x10 : Int) (x87 : Bool) (b0_0 : Int) (b0_1 : ByteArray) (b0_2 : Int) (b0_3 : Int) (b0_4 : Int) (b1_0 : Int) (b1_1 : ByteArray) (b1_2 : Int) (b1_3 : Int) (b1_4 : Int) (k : Int → ByteArray → Int → Int → Int → Int → Int → Prop) : Prop := j2000022 (fun x0 x1 x10 x11 x12 x13 x116 b0_0 b0_1 b0_2 b0_3 b0_4 b1_0 b1_1 b1_2 b1_3 b1_4 => j2000025' x0 x1 x10 x11 x12 x13 x116 b0_0 b0_1 b0_2 b0_3 b0_4 b1_0 b1_1 b1_2 b1_3 b1_4 k) (fun x0 x1 x7 b0_0 b0_1 b0_2 b0_3 b0_4 b1_0 b1_1 b1_2 b1_3 b1_4 => j30' x0 x1 x7 b0_0 b0_1 b0_2 b0_3 b0_4 b1_0 b1_1 b1_2 b1_3 b1_4 k) x0 x1 x7 x10 x87 b0_0 b0_1 b0_2 b0_3 b0_4 b1_0 b1_1 b1_2 b1_3 b1_4 k
def j21' (x0 : ByteArray) (x1 : Int) (x7 : Int) (x10 : Int) (b0_0 : Int) (b0_1 : ByteArray) (b0_2 : Int) (b0_3 : Int) (b0_4 : Int) (b1_0 : Int) (b1_1 : ByteArray) (b1_2 : Int) (b1_3 : Int) (b1_4 : Int) (k : Int → ByteArray → Int → Int → Int → Int → Int → Prop) : Prop := j21 (fun x0 x1 x7 x10 x87 b0_0 b0_1 b0_2 b0_3 b0_4 b1_0 b1_1 b1_2 b1_3 b1_4 => j2000022' x0 x1 x7 x10 x87 b0_0 b0_1 b0_2 b0_3 b0_4 b1_0 b1_1 b1_2 b1_3 b1_4 k) x0 x1 x7 x10 b0_0 b0_1 b0_2 b0_3 b0_4 b1_0 b1_1 b1_2 b1_3 b1_4 k
def j19' (x0 : ByteArray) (x1 : Int) (x7 : Int) (x10 : Int) (b0_0 : Int) (b0_1 : ByteArray) (b0_2 : Int) (b0_3 : Int) (b0_4 : Int) (b1_0 : Int) (b1_1 : ByteArray) (b1_2 : Int) (b1_3 : Int) (b1_4 : Int) (k : Int → ByteArray → Int → Int → Int → Int → Int → Prop) : Prop := j19 (fun x0 x1 x7 x10 b0_0 b0_1 b0_2 b0_3 b0_4 b1_0 b1_1 b1_2 b1_3 b1_4 => j21' x0 x1 x7 x10 b0_0 b0_1 b0_2 b0_3 b0_4 b1_0 b1_1 b1_2 b1_3 b1_4 k) x0 x1 x7 x10 b0_0 b0_1 b0_2 b0_3 b0_4 b1_0 b1_1 b1_2 b1_3 b1_4 k
def j2000018' (x0 : ByteArray) (x1 : Int) (x7 : Int) (x10 : Int) (x70 : Bool) (b0_0 : Int) (b0_1 : ByteArray) (b0_2 : Int) (b0_3 : Int) (b0_4 : Int) (b1_0 : Int) (b1_1 : ByteArray) (b1_2 : Int) (b1_3 : Int) (b1_4 : Int) (k : Int → ByteArray → Int → Int → Int → Int → Int → Prop) : Prop := j2000018 (fun x0 x1 x7 x10 b0_0 b0_1 b0_2 b0_3 b0_4 b1_0 b1_1 b1_2 b1_3 b1_4 => j19' x0 x1 x7 x10 b0_0 b0_1 b0_2 b0_3 b0_4 b1_0 b1_1 b1_2 b1_3 b1_4 k) x0 x1 x7 x10 x70 b0_0 b0_1 b0_2 b0_3 b0_4 b1_0 b1_1 b1_2 b1_3 b1_4 k
def f0 (x0 : ByteArray) (x1 : Int) (k : Int → ByteArray → Int → Int → Int → Int → Int → Prop) : Prop := c (fun x0 x1 x7 x10 b0_0 b0_1 b0_2 b0_3 b0_4 b1_0 b1_1 b1_2 b1_3 b1_4 => j21' x0 x1 x7 x10 b0_0 b0_1 b0_2 b0_3 b0_4 b1_0 b1_1 b1_2 b1_3 b1_4 k) (fun x0 x1 x7 x10 x70 b0_0 b0_1 b0_2 b0_3 b0_4 b1_0 b1_1 b1_2 b1_3 b1_4 => j2000018' x0 x1 x7 x10 x70 b0_0 b0_1 b0_2 b0_3 b0_4 b1_0 b1_1 b1_2 b1_3 b1_4 k) x0 x1 k
theorem f_ex : ∃ g : ByteArray → Int → (Int → ByteArray → Int → Int → Int → Int → Int → Prop) → Prop, g = f0 := ⟨_, rfl⟩
noncomputable def f : ByteArray → Int → (Int → ByteArray → Int → Int → Int → Int → Int → Prop) → Prop := Classical.choose f_ex
theorem f_def : f = f0 := Classical.choose_spec f_ex
def m21 (x0 : ByteArray) (x1 : Int) (x7 : Int) (x10 : Int) (b0_0 : Int) (b0_1 : ByteArray) (b0_2 : Int) (b0_3 : Int) (b0_4 : Int) (b1_0 : Int) (b1_1 : ByteArray) (b1_2 : Int) (b1_3 : Int) (b1_4 : Int) : St := { tmps := mkT 168 0 [(0, (.v (.string x0))), (1, (.v (.int IntKind.i64 x1))), (4, (.ptr 0 0)), (7, (.v (.int IntKind.u8 x7))), (8, (.ptr 1 0)), (10, (.v (.int IntKind.i64 x10)))], hp := [(.box 42 [(.v (.int IntKind.i64 b0_0)), (.v (.string b0_1)), (.v (.int IntKind.i64 b0_2)), (.v (.int IntKind.i64 b0_3)), (.v (.int IntKind.i64 b0_4))]), (.box 42 [(.v (.int IntKind.i64 b1_0)), (.v (.string b1_1)), (.v (.int IntKind.i64 b1_2)), (.v (.int IntKind.i64 b1_3)), (.v (.int IntKind.i64 b1_4))])], m := 0 }
def m2000018 (x0 : ByteArray) (x1 : Int) (x7 : Int) (x10 : Int) (x70 : Bool) (b0_0 : Int) (b0_1 : ByteArray) (b0_2 : Int) (b0_3 : Int) (b0_4 : Int) (b1_0 : Int) (b1_1 : ByteArray) (b1_2 : Int) (b1_3 : Int) (b1_4 : Int) : St := { tmps := mkT 168 0 [(0, (.v (.string x0))), (1, (.v (.int IntKind.i64 x1))), (4, (.ptr 0 0)), (7, (.v (.int IntKind.u8 x7))), (8, (.ptr 1 0)), (10, (.v (.int IntKind.i64 x10))), (70, (.v (.bool x70)))], hp := [(.box 42 [(.v (.int IntKind.i64 b0_0)), (.v (.string b0_1)), (.v (.int IntKind.i64 b0_2)), (.v (.int IntKind.i64 b0_3)), (.v (.int IntKind.i64 b0_4))]), (.box 42 [(.v (.int IntKind.i64 b1_0)), (.v (.string b1_1)), (.v (.int IntKind.i64 b1_2)), (.v (.int IntKind.i64 b1_3)), (.v (.int IntKind.i64 b1_4))])], m := 0 }
def m2000022 (x0 : ByteArray) (x1 : Int) (x7 : Int) (x10 : Int) (x87 : Bool) (b0_0 : Int) (b0_1 : ByteArray) (b0_2 : Int) (b0_3 : Int) (b0_4 : Int) (b1_0 : Int) (b1_1 : ByteArray) (b1_2 : Int) (b1_3 : Int) (b1_4 : Int) : St := { tmps := mkT 168 0 [(0, (.v (.string x0))), (1, (.v (.int IntKind.i64 x1))), (4, (.ptr 0 0)), (7, (.v (.int IntKind.u8 x7))), (8, (.ptr 1 0)), (10, (.v (.int IntKind.i64 x10))), (87, (.v (.bool x87)))], hp := [(.box 42 [(.v (.int IntKind.i64 b0_0)), (.v (.string b0_1)), (.v (.int IntKind.i64 b0_2)), (.v (.int IntKind.i64 b0_3)), (.v (.int IntKind.i64 b0_4))]), (.box 42 [(.v (.int IntKind.i64 b1_0)), (.v (.string b1_1)), (.v (.int IntKind.i64 b1_2)), (.v (.int IntKind.i64 b1_3)), (.v (.int IntKind.i64 b1_4))])], m := 0 }
def m19 (x0 : ByteArray) (x1 : Int) (x7 : Int) (x10 : Int) (b0_0 : Int) (b0_1 : ByteArray) (b0_2 : Int) (b0_3 : Int) (b0_4 : Int) (b1_0 : Int) (b1_1 : ByteArray) (b1_2 : Int) (b1_3 : Int) (b1_4 : Int) : St := { tmps := mkT 168 0 [(0, (.v (.string x0))), (1, (.v (.int IntKind.i64 x1))), (4, (.ptr 0 0)), (7, (.v (.int IntKind.u8 x7))), (8, (.ptr 1 0)), (10, (.v (.int IntKind.i64 x10)))], hp := [(.box 42 [(.v (.int IntKind.i64 b0_0)), (.v (.string b0_1)), (.v (.int IntKind.i64 b0_2)), (.v (.int IntKind.i64 b0_3)), (.v (.int IntKind.i64 b0_4))]), (.box 42 [(.v (.int IntKind.i64 b1_0)), (.v (.string b1_1)), (.v (.int IntKind.i64 b1_2)), (.v (.int IntKind.i64 b1_3)), (.v (.int IntKind.i64 b1_4))])], m := 0 }
def m2000025 (x0 : ByteArray) (x1 : Int) (x10 : Int) (x11 : Int) (x12 : Int) (x13 : Int) (x116 : Bool) (b0_0 : Int) (b0_1 : ByteArray) (b0_2 : Int) (b0_3 : Int) (b0_4 : Int) (b1_0 : Int) (b1_1 : ByteArray) (b1_2 : Int) (b1_3 : Int) (b1_4 : Int) : St := { tmps := mkT 168 0 [(0, (.v (.string x0))), (1, (.v (.int IntKind.i64 x1))), (4, (.ptr 0 0)), (8, (.ptr 1 0)), (10, (.v (.int IntKind.i64 x10))), (11, (.v (.int IntKind.i64 x11))), (12, (.v (.int IntKind.u64 x12))), (13, (.v (.int IntKind.i64 x13))), (116, (.v (.bool x116)))], hp := [(.box 42 [(.v (.int IntKind.i64 b0_0)), (.v (.string b0_1)), (.v (.int IntKind.i64 b0_2)), (.v (.int IntKind.i64 b0_3)), (.v (.int IntKind.i64 b0_4))]), (.box 42 [(.v (.int IntKind.i64 b1_0)), (.v (.string b1_1)), (.v (.int IntKind.i64 b1_2)), (.v (.int IntKind.i64 b1_3)), (.v (.int IntKind.i64 b1_4))])], m := 0 }
def m30 (x0 : ByteArray) (x1 : Int) (x7 : Int) (b0_0 : Int) (b0_1 : ByteArray) (b0_2 : Int) (b0_3 : Int) (b0_4 : Int) (b1_0 : Int) (b1_1 : ByteArray) (b1_2 : Int) (b1_3 : Int) (b1_4 : Int) : St := { tmps := mkT 168 0 [(0, (.v (.string x0))), (1, (.v (.int IntKind.i64 x1))), (4, (.ptr 0 0)), (7, (.v (.int IntKind.u8 x7))), (8, (.ptr 1 0))], hp := [(.box 42 [(.v (.int IntKind.i64 b0_0)), (.v (.string b0_1)), (.v (.int IntKind.i64 b0_2)), (.v (.int IntKind.i64 b0_3)), (.v (.int IntKind.i64 b0_4))]), (.box 42 [(.v (.int IntKind.i64 b1_0)), (.v (.string b1_1)), (.v (.int IntKind.i64 b1_2)), (.v (.int IntKind.i64 b1_3)), (.v (.int IntKind.i64 b1_4))])], m := 0 }
def m26 (x0 : ByteArray) (x1 : Int) (x10 : Int) (x11 : Int) (x12 : Int) (x13 : Int) (b0_0 : Int) (b0_1 : ByteArray) (b0_2 : Int) (b0_3 : Int) (b0_4 : Int) (b1_0 : Int) (b1_1 : ByteArray) (b1_2 : Int) (b1_3 : Int) (b1_4 : Int) : St := { tmps := mkT 168 0 [(0, (.v (.string x0))), (1, (.v (.int IntKind.i64 x1))), (4, (.ptr 0 0)), (8, (.ptr 1 0)), (10, (.v (.int IntKind.i64 x10))), (11, (.v (.int IntKind.i64 x11))), (12, (.v (.int IntKind.u64 x12))), (13, (.v (.int IntKind.i64 x13)))], hp := [(.box 42 [(.v (.int IntKind.i64 b0_0)), (.v (.string b0_1)), (.v (.int IntKind.i64 b0_2)), (.v (.int IntKind.i64 b0_3)), (.v (.int IntKind.i64 b0_4))]), (.box 42 [(.v (.int IntKind.i64 b1_0)), (.v (.string b1_1)), (.v (.int IntKind.i64 b1_2)), (.v (.int IntKind.i64 b1_3)), (.v (.int IntKind.i64 b1_4))])], m := 0 }
def mL31 (x0 : ByteArray) (x1 : Int) (x7 : Int) (x14 : Int) (b0_0 : Int) (b0_1 : ByteArray) (b0_2 : Int) (b0_3 : Int) (b0_4 : Int) (b1_0 : Int) (b1_1 : ByteArray) (b1_2 : Int) (b1_3 : Int) (b1_4 : Int) : St := { tmps := mkT 168 0 [(0, (.v (.string x0))), (1, (.v (.int IntKind.i64 x1))), (4, (.ptr 0 0)), (7, (.v (.int IntKind.u8 x7))), (8, (.ptr 1 0)), (14, (.v (.int IntKind.i64 x14)))], hp := [(.box 42 [(.v (.int IntKind.i64 b0_0)), (.v (.string b0_1)), (.v (.int IntKind.i64 b0_2)), (.v (.int IntKind.i64 b0_3)), (.v (.int IntKind.i64 b0_4))]), (.box 42 [(.v (.int IntKind.i64 b1_0)), (.v (.string b1_1)), (.v (.int IntKind.i64 b1_2)), (.v (.int IntKind.i64 b1_3)), (.v (.int IntKind.i64 b1_4))])], m := 0 }
def m28 (x0 : ByteArray) (x1 : Int) (x11 : Int) (x12 : Int) (x13 : Int) (b0_0 : Int) (b0_1 : ByteArray) (b0_2 : Int) (b0_3 : Int) (b0_4 : Int) (b1_0 : Int) (b1_1 : ByteArray) (b1_2 : Int) (b1_3 : Int) (b1_4 : Int) : St := { tmps := mkT 168 0 [(0, (.v (.string x0))), (1, (.v (.int IntKind.i64 x1))), (4, (.ptr 0 0)), (8, (.ptr 1 0)), (11, (.v (.int IntKind.i64 x11))), (12, (.v (.int IntKind.u64 x12))), (13, (.v (.int IntKind.i64 x13)))], hp := [(.box 42 [(.v (.int IntKind.i64 b0_0)), (.v (.string b0_1)), (.v (.int IntKind.i64 b0_2)), (.v (.int IntKind.i64 b0_3)), (.v (.int IntKind.i64 b0_4))]), (.box 42 [(.v (.int IntKind.i64 b1_0)), (.v (.string b1_1)), (.v (.int IntKind.i64 b1_2)), (.v (.int IntKind.i64 b1_3)), (.v (.int IntKind.i64 b1_4))])], m := 0 }
def m2000036 (x0 : ByteArray) (x1 : Int) (x15 : Int) (x156 : Bool) (b0_0 : Int) (b0_1 : ByteArray) (b0_2 : Int) (b0_3 : Int) (b0_4 : Int) (b1_0 : Int) (b1_1 : ByteArray) (b1_2 : Int) (b1_3 : Int) (b1_4 : Int) : St := { tmps := mkT 168 0 [(0, (.v (.string x0))), (1, (.v (.int IntKind.i64 x1))), (4, (.ptr 0 0)), (8, (.ptr 1 0)), (15, (.v (.int IntKind.i64 x15))), (156, (.v (.bool x156)))], hp := [(.box 42 [(.v (.int IntKind.i64 b0_0)), (.v (.string b0_1)), (.v (.int IntKind.i64 b0_2)), (.v (.int IntKind.i64 b0_3)), (.v (.int IntKind.i64 b0_4))]), (.box 42 [(.v (.int IntKind.i64 b1_0)), (.v (.string b1_1)), (.v (.int IntKind.i64 b1_2)), (.v (.int IntKind.i64 b1_3)), (.v (.int IntKind.i64 b1_4))])], m := 0 }
def m39 (b0_0 : Int) (b0_1 : ByteArray) (b0_2 : Int) (b0_3 : Int) (b0_4 : Int) (b1_0 : Int) (b1_1 : ByteArray) (b1_2 : Int) (b1_3 : Int) (b1_4 : Int) : St := { tmps := mkT 168 0 [(4, (.ptr 0 0)), (8, (.ptr 1 0))], hp := [(.box 42 [(.v (.int IntKind.i64 b0_0)), (.v (.string b0_1)), (.v (.int IntKind.i64 b0_2)), (.v (.int IntKind.i64 b0_3)), (.v (.int IntKind.i64 b0_4))]), (.box 42 [(.v (.int IntKind.i64 b1_0)), (.v (.string b1_1)), (.v (.int IntKind.i64 b1_2)), (.v (.int IntKind.i64 b1_3)), (.v (.int IntKind.i64 b1_4))])], m := 0 }
def m37 (x0 : ByteArray) (x1 : Int) (x15 : Int) (b0_0 : Int) (b0_1 : ByteArray) (b0_2 : Int) (b0_3 : Int) (b0_4 : Int) (b1_0 : Int) (b1_1 : ByteArray) (b1_2 : Int) (b1_3 : Int) (b1_4 : Int) : St := { tmps := mkT 168 0 [(0, (.v (.string x0))), (1, (.v (.int IntKind.i64 x1))), (4, (.ptr 0 0)), (8, (.ptr 1 0)), (15, (.v (.int IntKind.i64 x15)))], hp := [(.box 42 [(.v (.int IntKind.i64 b0_0)), (.v (.string b0_1)), (.v (.int IntKind.i64 b0_2)), (.v (.int IntKind.i64 b0_3)), (.v (.int IntKind.i64 b0_4))]), (.box 42 [(.v (.int IntKind.i64 b1_0)), (.v (.string b1_1)), (.v (.int IntKind.i64 b1_2)), (.v (.int IntKind.i64 b1_3)), (.v (.int IntKind.i64 b1_4))])], m := 0 }
noncomputable def X21 (k kp : D → List Blk → Prop) : St → Prop := atP cfg (pick none' []) [1, 1, 1, 1, 1, 1] body (topK cfg Tryd.f27 k kp)
noncomputable def X2000018 (k kp : D → List Blk → Prop) : St → Prop := atP cfg (pick none' []) [1, 1, 1, 1, 1, 0, 1, 0, 1, 1, 1, 1, 1, 0, 1, 0, 1] body (topK cfg Tryd.f27 k kp)
noncomputable def X2000022 (k kp : D → List Blk → Prop) : St → Prop := atP cfg (pick none' []) [1, 1, 1, 1, 1, 1, 0, 1] body (topK cfg Tryd.f27 k kp)
noncomputable def X19 (k kp : D → List Blk → Prop) : St → Prop := atP cfg (pick none' []) [1, 1, 1, 1, 1, 0, 1, 0, 1, 1, 1, 1, 1, 0, 1, 1] body (topK cfg Tryd.f27 k kp)
noncomputable def X2000025 (k kp : D → List Blk → Prop) : St → Prop := atP cfg (pick none' []) [1, 1, 1, 1, 1, 1, 0, 1, 0, 1, 1, 0, 1] body (topK cfg Tryd.f27 k kp)
noncomputable def X30 (k kp : D → List Blk → Prop) : St → Prop := atP cfg (pick none' []) [1, 1, 1, 1, 1, 1, 1] body (topK cfg Tryd.f27 k kp)
noncomputable def X26 (k kp : D → List Blk → Prop) : St → Prop := atP cfg (pick none' []) [1, 1, 1, 1, 1, 1, 0, 1, 0, 1, 1, 1] body (topK cfg Tryd.f27 k kp)
noncomputable def YL31 (k kp : D → List Blk → Prop) : (St → Prop) → St → Prop := loopB cfg (sub [1, 1, 1, 1, 1, 1, 1, 0, 1, 0, 0] body) (contK cfg (pick none' []) [1, 1, 1, 1, 1, 1, 1, 0, 1, 0] body (topK cfg Tryd.f27 k kp))
noncomputable def XL31 (k kp : D → List Blk → Prop) : St → Prop := fun st => ∃ n, loopN (YL31 k kp) n st
noncomputable def X28 (k kp : D → List Blk → Prop) : St → Prop := atP cfg (pick none' []) [1, 1, 1, 1, 1, 1, 0, 1, 0, 1, 1, 1, 1] body (topK cfg Tryd.f27 k kp)
noncomputable def X2000036 (k kp : D → List Blk → Prop) (ag31 : St → Prop) : St → Prop := atP cfg (pick none' [(31, ag31)]) [1, 1, 1, 1, 1, 1, 1, 0, 1, 0, 0, 1, 0, 0, 1, 0, 1, 0, 1] body (topK cfg Tryd.f27 k kp)
noncomputable def X39 (k kp : D → List Blk → Prop) : St → Prop := atP cfg (pick none' []) [1, 1, 1, 1, 1, 1, 1, 1] body (topK cfg Tryd.f27 k kp)
noncomputable def X37 (k kp : D → List Blk → Prop) (ag31 : St → Prop) : St → Prop := atP cfg (pick none' [(31, ag31)]) [1, 1, 1, 1, 1, 1, 1, 0, 1, 0, 0, 1, 0, 0, 1, 0, 1, 1] body (topK cfg Tryd.f27 k kp)
noncomputable def JJ (k kp : D → List Blk → Prop) : Nat → St → Prop := pick none' [(21, X21 k kp), (2000018, X2000018 k kp), (2000022, X2000022 k kp), (19, X19 k kp), (2000025, X2000025 k kp), (30, X30 k kp), (26, X26 k kp), (28, X28 k kp), (39, X39 k kp)]
noncomputable def LL (k kp : D → List Blk → Prop) : Nat → St → Prop := pick none' [(31, XL31 k kp)]
noncomputable def JJ_31 (k kp : D → List Blk → Prop) (ag31 : St → Prop) : Nat → St → Prop := pick none' [(21, X21 k kp), (2000018, X2000018 k kp), (2000022, X2000022 k kp), (19, X19 k kp), (2000025, X2000025 k kp), (30, X30 k kp), (26, X26 k kp), (28, X28 k kp), (2000036, X2000036 k kp ag31), (39, X39 k kp), (37, X37 k kp ag31)]
noncomputable def LL_31 (k kp : D → List Blk → Prop) (ag31 : St → Prop) : Nat → St → Prop := pick none' [(31, XL31 k kp)]
theorem j28_c (k kp : D → List Blk → Prop) (J L : Nat → St → Prop) (x0 : ByteArray) (x1 : Int) (x11 : Int) (x12 : Int) (x13 : Int) (b0_0 : Int) (b0_1 : ByteArray) (b0_2 : Int) (b0_3 : Int) (b0_4 : Int) (b1_0 : Int) (b1_1 : ByteArray) (b1_2 : Int) (b1_3 : Int) (b1_4 : Int) : runC cfg 28 J L (pick none' []) [1, 1, 1, 1, 1, 1, 0, 1, 0, 1, 1, 1, 1] body (topK cfg Tryd.f27 k kp) (m28 x0 x1 x11 x12 x13 b0_0 b0_1 b0_2 b0_3 b0_4 b1_0 b1_1 b1_2 b1_3 b1_4) = j28 x0 x1 x11 x12 x13 b0_0 b0_1 b0_2 b0_3 b0_4 b1_0 b1_1 b1_2 b1_3 b1_4 (fun y0_0 y0_1 y0_2 y0_3 y0_4 y1 y2 => k (.tup [(.agg [(.v (.int IntKind.i64 y0_0)), (.v (.string y0_1)), (.v (.int IntKind.i64 y0_2)), (.v (.int IntKind.i64 y0_3)), (.v (.int IntKind.i64 y0_4))]), (.v (.int IntKind.i64 y1)), (.v (.int IntKind.i64 y2))]) []) := by kernel_rfl
theorem j28_ag (k kp : D → List Blk → Prop) : agPL cfg 28 (JJ k kp) (LL k kp) [1, 1, 1, 1, 1, 1, 0, 1, 0, 1, 1, 1, 1] body = agPR cfg 28 (pick none' []) [1, 1, 1, 1, 1, 1, 0, 1, 0, 1, 1, 1, 1] body (topK cfg Tryd.f27 k kp) := by kernel_rfl
theorem j28_raw (k kp : D → List Blk → Prop) (x0 : ByteArray) (x1 : Int) (x11 : Int) (x12 : Int) (x13 : Int) (b0_0 : Int) (b0_1 : ByteArray) (b0_2 : Int) (b0_3 : Int) (b0_4 : Int) (b1_0 : Int) (b1_1 : ByteArray) (b1_2 : Int) (b1_3 : Int) (b1_4 : Int) : X28 k kp (m28 x0 x1 x11 x12 x13 b0_0 b0_1 b0_2 b0_3 b0_4 b1_0 b1_1 b1_2 b1_3 b1_4) = j28 x0 x1 x11 x12 x13 b0_0 b0_1 b0_2 b0_3 b0_4 b1_0 b1_1 b1_2 b1_3 b1_4 (fun y0_0 y0_1 y0_2 y0_3 y0_4 y1 y2 => k (.tup [(.agg [(.v (.int IntKind.i64 y0_0)), (.v (.string y0_1)), (.v (.int IntKind.i64 y0_2)), (.v (.int IntKind.i64 y0_3)), (.v (.int IntKind.i64 y0_4))]), (.v (.int IntKind.i64 y1)), (.v (.int IntKind.i64 y2))]) []) :=
  Eq.mp (by kernel_rfl) ((atP_run (j28_ag k kp) (m28 x0 x1 x11 x12 x13 b0_0 b0_1 b0_2 b0_3 b0_4 b1_0 b1_1 b1_2 b1_3 b1_4)).trans (j28_c k kp (JJ k kp) (LL k kp) x0 x1 x11 x12 x13 b0_0 b0_1 b0_2 b0_3 b0_4 b1_0 b1_1 b1_2 b1_3 b1_4))
theorem j28_eq (k kp : D → List Blk → Prop) (x0 : ByteArray) (x1 : Int) (x11 : Int) (x12 : Int) (x13 : Int) (b0_0 : Int) (b0_1 : ByteArray) (b0_2 : Int) (b0_3 : Int) (b0_4 : Int) (b1_0 : Int) (b1_1 : ByteArray) (b1_2 : Int) (b1_3 : Int) (b1_4 : Int) : X28 k kp (m28 x0 x1 x11 x12 x13 b0_0 b0_1 b0_2 b0_3 b0_4 b1_0 b1_1 b1_2 b1_3 b1_4) = j28' x0 x1 x11 x12 x13 b0_0 b0_1 b0_2 b0_3 b0_4 b1_0 b1_1 b1_2 b1_3 b1_4 (fun y0_0 y0_1 y0_2 y0_3 y0_4 y1 y2 => k (.tup [(.agg [(.v (.int IntKind.i64 y0_0)), (.v (.string y0_1)), (.v (.int IntKind.i64 y0_2)), (.v (.int IntKind.i64 y0_3)), (.v (.int IntKind.i64 y0_4))]), (.v (.int IntKind.i64 y1)), (.v (.int IntKind.i64 y2))]) []) := by
  rw [j28_raw]; rfl
theorem j39_c (k kp : D → List Blk → Prop) (J L : Nat → St → Prop) (b0_0 : Int) (b0_1 : ByteArray) (b0_2 : Int) (b0_3 : Int) (b0_4 : Int) (b1_0 : Int) (b1_1 : ByteArray) (b1_2 : Int) (b1_3 : Int) (b1_4 : Int) : runC cfg 39 J L (pick none' []) [1, 1, 1, 1, 1, 1, 1, 1] body (topK cfg Tryd.f27 k kp) (m39 b0_0 b0_1 b0_2 b0_3 b0_4 b1_0 b1_1 b1_2 b1_3 b1_4) = j39 b0_0 b0_1 b0_2 b0_3 b0_4 b1_0 b1_1 b1_2 b1_3 b1_4 (fun y0_0 y0_1 y0_2 y0_3 y0_4 y1 y2 => k (.tup [(.agg [(.v (.int IntKind.i64 y0_0)), (.v (.string y0_1)), (.v (.int IntKind.i64 y0_2)), (.v (.int IntKind.i64 y0_3)), (.v (.int IntKind.i64 y0_4))]), (.v (.int IntKind.i64 y1)), (.v (.int IntKind.i64 y2))]) []) := by kernel_rfl
theorem j39_ag (k kp : D → List Blk → Prop) : agPL cfg 39 (JJ k kp) (LL k kp) [1, 1, 1, 1, 1, 1, 1, 1] body = agPR cfg 39 (pick none' []) [1, 1, 1, 1, 1, 1, 1, 1] body (topK cfg Tryd.f27 k kp) := by kernel_rfl
theorem j39_raw (k kp : D → List Blk → Prop) (b0_0 : Int) (b0_1 : ByteArray) (b0_2 : Int) (b0_3 : Int) (b0_4 : Int) (b1_0 : Int) (b1_1 : ByteArray) (b1_2 : Int) (b1_3 : Int) (b1_4 : Int) : X39 k kp (m39 b0_0 b0_1 b0_2 b0_3 b0_4 b1_0 b1_1 b1_2 b1_3 b1_4) = j39 b0_0 b0_1 b0_2 b0_3 b0_4 b1_0 b1_1 b1_2 b1_3 b1_4 (fun y0_0 y0_1 y0_2 y0_3 y0_4 y1 y2 => k (.tup [(.agg [(.v (.int IntKind.i64 y0_0)), (.v (.string y0_1)), (.v (.int IntKind.i64 y0_2)), (.v (.int IntKind.i64 y0_3)), (.v (.int IntKind.i64 y0_4))]), (.v (.int IntKind.i64 y1)), (.v (.int IntKind.i64 y2))]) []) :=
  Eq.mp (by kernel_rfl) ((atP_run (j39_ag k kp) (m39 b0_0 b0_1 b0_2 b0_3 b0_4 b1_0 b1_1 b1_2 b1_3 b1_4)).trans (j39_c k kp (JJ k kp) (LL k kp) b0_0 b0_1 b0_2 b0_3 b0_4 b1_0 b1_1 b1_2 b1_3 b1_4))
theorem j39_eq (k kp : D → List Blk → Prop) (b0_0 : Int) (b0_1 : ByteArray) (b0_2 : Int) (b0_3 : Int) (b0_4 : Int) (b1_0 : Int) (b1_1 : ByteArray) (b1_2 : Int) (b1_3 : Int) (b1_4 : Int) : X39 k kp (m39 b0_0 b0_1 b0_2 b0_3 b0_4 b1_0 b1_1 b1_2 b1_3 b1_4) = j39' b0_0 b0_1 b0_2 b0_3 b0_4 b1_0 b1_1 b1_2 b1_3 b1_4 (fun y0_0 y0_1 y0_2 y0_3 y0_4 y1 y2 => k (.tup [(.agg [(.v (.int IntKind.i64 y0_0)), (.v (.string y0_1)), (.v (.int IntKind.i64 y0_2)), (.v (.int IntKind.i64 y0_3)), (.v (.int IntKind.i64 y0_4))]), (.v (.int IntKind.i64 y1)), (.v (.int IntKind.i64 y2))]) []) := by
  rw [j39_raw]; rfl
theorem j37_c (k kp : D → List Blk → Prop) (J L : Nat → St → Prop) (ag31 : St → Prop) (x0 : ByteArray) (x1 : Int) (x15 : Int) (b0_0 : Int) (b0_1 : ByteArray) (b0_2 : Int) (b0_3 : Int) (b0_4 : Int) (b1_0 : Int) (b1_1 : ByteArray) (b1_2 : Int) (b1_3 : Int) (b1_4 : Int) : runC cfg 37 J L (pick none' [(31, ag31)]) [1, 1, 1, 1, 1, 1, 1, 0, 1, 0, 0, 1, 0, 0, 1, 0, 1, 1] body (topK cfg Tryd.f27 k kp) (m37 x0 x1 x15 b0_0 b0_1 b0_2 b0_3 b0_4 b1_0 b1_1 b1_2 b1_3 b1_4) = j37 x0 x1 x15 b0_0 b0_1 b0_2 b0_3 b0_4 b1_0 b1_1 b1_2 b1_3 b1_4 (fun y0_0 y0_1 y0_2 y0_3 y0_4 y1 y2 => k (.tup [(.agg [(.v (.int IntKind.i64 y0_0)), (.v (.string y0_1)), (.v (.int IntKind.i64 y0_2)), (.v (.int IntKind.i64 y0_3)), (.v (.int IntKind.i64 y0_4))]), (.v (.int IntKind.i64 y1)), (.v (.int IntKind.i64 y2))]) []) := by kernel_rfl
theorem j37_ag (k kp : D → List Blk → Prop) (ag31 : St → Prop) : agPL cfg 37 (JJ_31 k kp ag31) (LL_31 k kp ag31) [1, 1, 1, 1, 1, 1, 1, 0, 1, 0, 0, 1, 0, 0, 1, 0, 1, 1] body = agPR cfg 37 (pick none' [(31, ag31)]) [1, 1, 1, 1, 1, 1, 1, 0, 1, 0, 0, 1, 0, 0, 1, 0, 1, 1] body (topK cfg Tryd.f27 k kp) := by kernel_rfl
theorem j37_raw (k kp : D → List Blk → Prop) (ag31 : St → Prop) (x0 : ByteArray) (x1 : Int) (x15 : Int) (b0_0 : Int) (b0_1 : ByteArray) (b0_2 : Int) (b0_3 : Int) (b0_4 : Int) (b1_0 : Int) (b1_1 : ByteArray) (b1_2 : Int) (b1_3 : Int) (b1_4 : Int) : X37 k kp ag31 (m37 x0 x1 x15 b0_0 b0_1 b0_2 b0_3 b0_4 b1_0 b1_1 b1_2 b1_3 b1_4) = j37 x0 x1 x15 b0_0 b0_1 b0_2 b0_3 b0_4 b1_0 b1_1 b1_2 b1_3 b1_4 (fun y0_0 y0_1 y0_2 y0_3 y0_4 y1 y2 => k (.tup [(.agg [(.v (.int IntKind.i64 y0_0)), (.v (.string y0_1)), (.v (.int IntKind.i64 y0_2)), (.v (.int IntKind.i64 y0_3)), (.v (.int IntKind.i64 y0_4))]), (.v (.int IntKind.i64 y1)), (.v (.int IntKind.i64 y2))]) []) :=
  Eq.mp (by kernel_rfl) ((atP_run (j37_ag k kp ag31) (m37 x0 x1 x15 b0_0 b0_1 b0_2 b0_3 b0_4 b1_0 b1_1 b1_2 b1_3 b1_4)).trans (j37_c k kp (JJ_31 k kp ag31) (LL_31 k kp ag31) ag31 x0 x1 x15 b0_0 b0_1 b0_2 b0_3 b0_4 b1_0 b1_1 b1_2 b1_3 b1_4))
theorem j37_eq (k kp : D → List Blk → Prop) (ag31 : St → Prop) (x0 : ByteArray) (x1 : Int) (x15 : Int) (b0_0 : Int) (b0_1 : ByteArray) (b0_2 : Int) (b0_3 : Int) (b0_4 : Int) (b1_0 : Int) (b1_1 : ByteArray) (b1_2 : Int) (b1_3 : Int) (b1_4 : Int) : X37 k kp ag31 (m37 x0 x1 x15 b0_0 b0_1 b0_2 b0_3 b0_4 b1_0 b1_1 b1_2 b1_3 b1_4) = j37' x0 x1 x15 b0_0 b0_1 b0_2 b0_3 b0_4 b1_0 b1_1 b1_2 b1_3 b1_4 (fun y0_0 y0_1 y0_2 y0_3 y0_4 y1 y2 => k (.tup [(.agg [(.v (.int IntKind.i64 y0_0)), (.v (.string y0_1)), (.v (.int IntKind.i64 y0_2)), (.v (.int IntKind.i64 y0_3)), (.v (.int IntKind.i64 y0_4))]), (.v (.int IntKind.i64 y1)), (.v (.int IntKind.i64 y2))]) []) := by
  rw [j37_raw]; rfl
theorem j26_c (k kp : D → List Blk → Prop) (J L : Nat → St → Prop) (x0 : ByteArray) (x1 : Int) (x10 : Int) (x11 : Int) (x12 : Int) (x13 : Int) (b0_0 : Int) (b0_1 : ByteArray) (b0_2 : Int) (b0_3 : Int) (b0_4 : Int) (b1_0 : Int) (b1_1 : ByteArray) (b1_2 : Int) (b1_3 : Int) (b1_4 : Int) : runC cfg 26 J L (pick none' []) [1, 1, 1, 1, 1, 1, 0, 1, 0, 1, 1, 1] body (topK cfg Tryd.f27 k kp) (m26 x0 x1 x10 x11 x12 x13 b0_0 b0_1 b0_2 b0_3 b0_4 b1_0 b1_1 b1_2 b1_3 b1_4) = j26 (fun x0 x1 x11 x12 x13 b0_0 b0_1 b0_2 b0_3 b0_4 b1_0 b1_1 b1_2 b1_3 b1_4 => J 28 (m28 x0 x1 x11 x12 x13 b0_0 b0_1 b0_2 b0_3 b0_4 b1_0 b1_1 b1_2 b1_3 b1_4)) x0 x1 x10 x11 x12 x13 b0_0 b0_1 b0_2 b0_3 b0_4 b1_0 b1_1 b1_2 b1_3 b1_4 (fun y0_0 y0_1 y0_2 y0_3 y0_4 y1 y2 => k (.tup [(.agg [(.v (.int IntKind.i64 y0_0)), (.v (.string y0_1)), (.v (.int IntKind.i64 y0_2)), (.v (.int IntKind.i64 y0_3)), (.v (.int IntKind.i64 y0_4))]), (.v (.int IntKind.i64 y1)), (.v (.int IntKind.i64 y2))]) []) := by kernel_rfl
theorem j26_ag (k kp : D → List Blk → Prop) : agPL cfg 26 (JJ k kp) (LL k kp) [1, 1, 1, 1, 1, 1, 0, 1, 0, 1, 1, 1] body = agPR cfg 26 (pick none' []) [1, 1, 1, 1, 1, 1, 0, 1, 0, 1, 1, 1] body (topK cfg Tryd.f27 k kp) := by kernel_rfl
theorem j26_raw (k kp : D → List Blk → Prop) (x0 : ByteArray) (x1 : Int) (x10 : Int) (x11 : Int) (x12 : Int) (x13 : Int) (b0_0 : Int) (b0_1 : ByteArray) (b0_2 : Int) (b0_3 : Int) (b0_4 : Int) (b1_0 : Int) (b1_1 : ByteArray) (b1_2 : Int) (b1_3 : Int) (b1_4 : Int) : X26 k kp (m26 x0 x1 x10 x11 x12 x13 b0_0 b0_1 b0_2 b0_3 b0_4 b1_0 b1_1 b1_2 b1_3 b1_4) = j26 (fun x0 x1 x11 x12 x13 b0_0 b0_1 b0_2 b0_3 b0_4 b1_0 b1_1 b1_2 b1_3 b1_4 => X28 k kp (m28 x0 x1 x11 x12 x13 b0_0 b0_1 b0_2 b0_3 b0_4 b1_0 b1_1 b1_2 b1_3 b1_4)) x0 x1 x10 x11 x12 x13 b0_0 b0_1 b0_2 b0_3 b0_4 b1_0 b1_1 b1_2 b1_3 b1_4 (fun y0_0 y0_1 y0_2 y0_3 y0_4 y1 y2 => k (.tup [(.agg [(.v (.int IntKind.i64 y0_0)), (.v (.string y0_1)), (.v (.int IntKind.i64 y0_2)), (.v (.int IntKind.i64 y0_3)), (.v (.int IntKind.i64 y0_4))]), (.v (.int IntKind.i64 y1)), (.v (.int IntKind.i64 y2))]) []) :=
  Eq.mp (by kernel_rfl) ((atP_run (j26_ag k kp) (m26 x0 x1 x10 x11 x12 x13 b0_0 b0_1 b0_2 b0_3 b0_4 b1_0 b1_1 b1_2 b1_3 b1_4)).trans (j26_c k kp (JJ k kp) (LL k kp) x0 x1 x10 x11 x12 x13 b0_0 b0_1 b0_2 b0_3 b0_4 b1_0 b1_1 b1_2 b1_3 b1_4))
theorem j26_eq (k kp : D → List Blk → Prop) (x0 : ByteArray) (x1 : Int) (x10 : Int) (x11 : Int) (x12 : Int) (x13 : Int) (b0_0 : Int) (b0_1 : ByteArray) (b0_2 : Int) (b0_3 : Int) (b0_4 : Int) (b1_0 : Int) (b1_1 : ByteArray) (b1_2 : Int) (b1_3 : Int) (b1_4 : Int) : X26 k kp (m26 x0 x1 x10 x11 x12 x13 b0_0 b0_1 b0_2 b0_3 b0_4 b1_0 b1_1 b1_2 b1_3 b1_4) = j26' x0 x1 x10 x11 x12 x13 b0_0 b0_1 b0_2 b0_3 b0_4 b1_0 b1_1 b1_2 b1_3 b1_4 (fun y0_0 y0_1 y0_2 y0_3 y0_4 y1 y2 => k (.tup [(.agg [(.v (.int IntKind.i64 y0_0)), (.v (.string y0_1)), (.v (.int IntKind.i64 y0_2)), (.v (.int IntKind.i64 y0_3)), (.v (.int IntKind.i64 y0_4))]), (.v (.int IntKind.i64 y1)), (.v (.int IntKind.i64 y2))]) []) := by
  rw [j26_raw]; simp only [j28_eq]; first | done | rfl
theorem j2000036_c (k kp : D → List Blk → Prop) (J L : Nat → St → Prop) (ag31 : St → Prop) (x0 : ByteArray) (x1 : Int) (x15 : Int) (x156 : Bool) (b0_0 : Int) (b0_1 : ByteArray) (b0_2 : Int) (b0_3 : Int) (b0_4 : Int) (b1_0 : Int) (b1_1 : ByteArray) (b1_2 : Int) (b1_3 : Int) (b1_4 : Int) : runC cfg 2000036 J L (pick none' [(31, ag31)]) [1, 1, 1, 1, 1, 1, 1, 0, 1, 0, 0, 1, 0, 0, 1, 0, 1, 0, 1] body (topK cfg Tryd.f27 k kp) (m2000036 x0 x1 x15 x156 b0_0 b0_1 b0_2 b0_3 b0_4 b1_0 b1_1 b1_2 b1_3 b1_4) = j2000036 (fun x0 x1 x15 b0_0 b0_1 b0_2 b0_3 b0_4 b1_0 b1_1 b1_2 b1_3 b1_4 => J 37 (m37 x0 x1 x15 b0_0 b0_1 b0_2 b0_3 b0_4 b1_0 b1_1 b1_2 b1_3 b1_4)) x0 x1 x15 x156 b0_0 b0_1 b0_2 b0_3 b0_4 b1_0 b1_1 b1_2 b1_3 b1_4 (fun y0_0 y0_1 y0_2 y0_3 y0_4 y1 y2 => k (.tup [(.agg [(.v (.int IntKind.i64 y0_0)), (.v (.string y0_1)), (.v (.int IntKind.i64 y0_2)), (.v (.int IntKind.i64 y0_3)), (.v (.int IntKind.i64 y0_4))]), (.v (.int IntKind.i64 y1)), (.v (.int IntKind.i64 y2))]) []) := by kernel_rfl
theorem j2000036_ag (k kp : D → List Blk → Prop) (ag31 : St → Prop) : agPL cfg 2000036 (JJ_31 k kp ag31) (LL_31 k kp ag31) [1, 1, 1, 1, 1, 1, 1, 0, 1, 0, 0, 1, 0, 0, 1, 0, 1, 0, 1] body = agPR cfg 2000036 (pick none' [(31, ag31)]) [1, 1, 1, 1, 1, 1, 1, 0, 1, 0, 0, 1, 0, 0, 1, 0, 1, 0, 1] body (topK cfg Tryd.f27 k kp) := by kernel_rfl
theorem j2000036_raw (k kp : D → List Blk → Prop) (ag31 : St → Prop) (x0 : ByteArray) (x1 : Int) (x15 : Int) (x156 : Bool) (b0_0 : Int) (b0_1 : ByteArray) (b0_2 : Int) (b0_3 : Int) (b0_4 : Int) (b1_0 : Int) (b1_1 : ByteArray) (b1_2 : Int) (b1_3 : Int) (b1_4 : Int) : X2000036 k kp ag31 (m2000036 x0 x1 x15 x156 b0_0 b0_1 b0_2 b0_3 b0_4 b1_0 b1_1 b1_2 b1_3 b1_4) = j2000036 (fun x0 x1 x15 b0_0 b0_1 b0_2 b0_3 b0_4 b1_0 b1_1 b1_2 b1_3 b1_4 => X37 k kp ag31 (m37 x0 x1 x15 b0_0 b0_1 b0_2 b0_3 b0_4 b1_0 b1_1 b1_2 b1_3 b1_4)) x0 x1 x15 x156 b0_0 b0_1 b0_2 b0_3 b0_4 b1_0 b1_1 b1_2 b1_3 b1_4 (fun y0_0 y0_1 y0_2 y0_3 y0_4 y1 y2 => k (.tup [(.agg [(.v (.int IntKind.i64 y0_0)), (.v (.string y0_1)), (.v (.int IntKind.i64 y0_2)), (.v (.int IntKind.i64 y0_3)), (.v (.int IntKind.i64 y0_4))]), (.v (.int IntKind.i64 y1)), (.v (.int IntKind.i64 y2))]) []) :=
  Eq.mp (by kernel_rfl) ((atP_run (j2000036_ag k kp ag31) (m2000036 x0 x1 x15 x156 b0_0 b0_1 b0_2 b0_3 b0_4 b1_0 b1_1 b1_2 b1_3 b1_4)).trans (j2000036_c k kp (JJ_31 k kp ag31) (LL_31 k kp ag31) ag31 x0 x1 x15 x156 b0_0 b0_1 b0_2 b0_3 b0_4 b1_0 b1_1 b1_2 b1_3 b1_4))
theorem j2000036_eq (k kp : D → List Blk → Prop) (ag31 : St → Prop) (x0 : ByteArray) (x1 : Int) (x15 : Int) (x156 : Bool) (b0_0 : Int) (b0_1 : ByteArray) (b0_2 : Int) (b0_3 : Int) (b0_4 : Int) (b1_0 : Int) (b1_1 : ByteArray) (b1_2 : Int) (b1_3 : Int) (b1_4 : Int) : X2000036 k kp ag31 (m2000036 x0 x1 x15 x156 b0_0 b0_1 b0_2 b0_3 b0_4 b1_0 b1_1 b1_2 b1_3 b1_4) = j2000036' x0 x1 x15 x156 b0_0 b0_1 b0_2 b0_3 b0_4 b1_0 b1_1 b1_2 b1_3 b1_4 (fun y0_0 y0_1 y0_2 y0_3 y0_4 y1 y2 => k (.tup [(.agg [(.v (.int IntKind.i64 y0_0)), (.v (.string y0_1)), (.v (.int IntKind.i64 y0_2)), (.v (.int IntKind.i64 y0_3)), (.v (.int IntKind.i64 y0_4))]), (.v (.int IntKind.i64 y1)), (.v (.int IntKind.i64 y2))]) []) := by
  rw [j2000036_raw]; simp only [j37_eq]; first | done | rfl
theorem j2000025_c (k kp : D → List Blk → Prop) (J L : Nat → St → Prop) (x0 : ByteArray) (x1 : Int) (x10 : Int) (x11 : Int) (x12 : Int) (x13 : Int) (x116 : Bool) (b0_0 : Int) (b0_1 : ByteArray) (b0_2 : Int) (b0_3 : Int) (b0_4 : Int) (b1_0 : Int) (b1_1 : ByteArray) (b1_2 : Int) (b1_3 : Int) (b1_4 : Int) : runC cfg 2000025 J L (pick none' []) [1, 1, 1, 1, 1, 1, 0, 1, 0, 1, 1, 0, 1] body (topK cfg Tryd.f27 k kp) (m2000025 x0 x1 x10 x11 x12 x13 x116 b0_0 b0_1 b0_2 b0_3 b0_4 b1_0 b1_1 b1_2 b1_3 b1_4) = j2000025 (fun x0 x1 x10 x11 x12 x13 b0_0 b0_1 b0_2 b0_3 b0_4 b1_0 b1_1 b1_2 b1_3 b1_4 => J 26 (m26 x0 x1 x10 x11 x12 x13 b0_0 b0_1 b0_2 b0_3 b0_4 b1_0 b1_1 b1_2 b1_3 b1_4)) x0 x1 x10 x11 x12 x13 x116 b0_0 b0_1 b0_2 b0_3 b0_4 b1_0 b1_1 b1_2 b1_3 b1_4 (fun y0_0 y0_1 y0_2 y0_3 y0_4 y1 y2 => k (.tup [(.agg [(.v (.int IntKind.i64 y0_0)), (.v (.string y0_1)), (.v (.int IntKind.i64 y0_2)), (.v (.int IntKind.i64 y0_3)), (.v (.int IntKind.i64 y0_4))]), (.v (.int IntKind.i64 y1)), (.v (.int IntKind.i64 y2))]) []) := by kernel_rfl
theorem j2000025_ag (k kp : D → List Blk → Prop) : agPL cfg 2000025 (JJ k kp) (LL k kp) [1, 1, 1, 1, 1, 1, 0, 1, 0, 1, 1, 0, 1] body = agPR cfg 2000025 (pick none' []) [1, 1, 1, 1, 1, 1, 0, 1, 0, 1, 1, 0, 1] body (topK cfg Tryd.f27 k kp) := by kernel_rfl
theorem j2000025_raw (k kp : D → List Blk → Prop) (x0 : ByteArray) (x1 : Int) (x10 : Int) (x11 : Int) (x12 : Int) (x13 : Int) (x116 : Bool) (b0_0 : Int) (b0_1 : ByteArray) (b0_2 : Int) (b0_3 : Int) (b0_4 : Int) (b1_0 : Int) (b1_1 : ByteArray) (b1_2 : Int) (b1_3 : Int) (b1_4 : Int) : X2000025 k kp (m2000025 x0 x1 x10 x11 x12 x13 x116 b0_0 b0_1 b0_2 b0_3 b0_4 b1_0 b1_1 b1_2 b1_3 b1_4) = j2000025 (fun x0 x1 x10 x11 x12 x13 b0_0 b0_1 b0_2 b0_3 b0_4 b1_0 b1_1 b1_2 b1_3 b1_4 => X26 k kp (m26 x0 x1 x10 x11 x12 x13 b0_0 b0_1 b0_2 b0_3 b0_4 b1_0 b1_1 b1_2 b1_3 b1_4)) x0 x1 x10 x11 x12 x13 x116 b0_0 b0_1 b0_2 b0_3 b0_4 b1_0 b1_1 b1_2 b1_3 b1_4 (fun y0_0 y0_1 y0_2 y0_3 y0_4 y1 y2 => k (.tup [(.agg [(.v (.int IntKind.i64 y0_0)), (.v (.string y0_1)), (.v (.int IntKind.i64 y0_2)), (.v (.int IntKind.i64 y0_3)), (.v (.int IntKind.i64 y0_4))]), (.v (.int IntKind.i64 y1)), (.v (.int IntKind.i64 y2))]) []) :=
  Eq.mp (by kernel_rfl) ((atP_run (j2000025_ag k kp) (m2000025 x0 x1 x10 x11 x12 x13 x116 b0_0 b0_1 b0_2 b0_3 b0_4 b1_0 b1_1 b1_2 b1_3 b1_4)).trans (j2000025_c k kp (JJ k kp) (LL k kp) x0 x1 x10 x11 x12 x13 x116 b0_0 b0_1 b0_2 b0_3 b0_4 b1_0 b1_1 b1_2 b1_3 b1_4))
theorem j2000025_eq (k kp : D → List Blk → Prop) (x0 : ByteArray) (x1 : Int) (x10 : Int) (x11 : Int) (x12 : Int) (x13 : Int) (x116 : Bool) (b0_0 : Int) (b0_1 : ByteArray) (b0_2 : Int) (b0_3 : Int) (b0_4 : Int) (b1_0 : Int) (b1_1 : ByteArray) (b1_2 : Int) (b1_3 : Int) (b1_4 : Int) : X2000025 k kp (m2000025 x0 x1 x10 x11 x12 x13 x116 b0_0 b0_1 b0_2 b0_3 b0_4 b1_0 b1_1 b1_2 b1_3 b1_4) = j2000025' x0 x1 x10 x11 x12 x13 x116 b0_0 b0_1 b0_2 b0_3 b0_4 b1_0 b1_1 b1_2 b1_3 b1_4 (fun y0_0 y0_1 y0_2 y0_3 y0_4 y1 y2 => k (.tup [(.agg [(.v (.int IntKind.i64 y0_0)), (.v (.string y0_1)), (.v (.int IntKind.i64 y0_2)), (.v (.int IntKind.i64 y0_3)), (.v (.int IntKind.i64 y0_4))]), (.v (.int IntKind.i64 y1)), (.v (.int IntKind.i64 y2))]) []) := by
  rw [j2000025_raw]; simp only [j26_eq]; first | done | rfl
theorem l31_c (k kp : D → List Blk → Prop) (J L : Nat → St → Prop) (ag31 : St → Prop) (x0 : ByteArray) (x1 : Int) (x7 : Int) (x14 : Int) (b0_0 : Int) (b0_1 : ByteArray) (b0_2 : Int) (b0_3 : Int) (b0_4 : Int) (b1_0 : Int) (b1_1 : ByteArray) (b1_2 : Int) (b1_3 : Int) (b1_4 : Int) : runC cfg 1000001 J L (pick none' [(31, ag31)]) [1, 1, 1, 1, 1, 1, 1, 0, 1, 0, 0] body (topK cfg Tryd.f27 k kp) (mL31 x0 x1 x7 x14 b0_0 b0_1 b0_2 b0_3 b0_4 b1_0 b1_1 b1_2 b1_3 b1_4) = l31 (fun x0 x1 x15 x156 b0_0 b0_1 b0_2 b0_3 b0_4 b1_0 b1_1 b1_2 b1_3 b1_4 => J 2000036 (m2000036 x0 x1 x15 x156 b0_0 b0_1 b0_2 b0_3 b0_4 b1_0 b1_1 b1_2 b1_3 b1_4)) (fun b0_0 b0_1 b0_2 b0_3 b0_4 b1_0 b1_1 b1_2 b1_3 b1_4 => J 39 (m39 b0_0 b0_1 b0_2 b0_3 b0_4 b1_0 b1_1 b1_2 b1_3 b1_4)) (fun x14 b0_0 b0_1 b0_2 b0_3 b0_4 b1_0 b1_1 b1_2 b1_3 b1_4 => ag31 (mL31 x0 x1 x7 x14 b0_0 b0_1 b0_2 b0_3 b0_4 b1_0 b1_1 b1_2 b1_3 b1_4)) x0 x1 x7 x14 b0_0 b0_1 b0_2 b0_3 b0_4 b1_0 b1_1 b1_2 b1_3 b1_4 (fun y0_0 y0_1 y0_2 y0_3 y0_4 y1 y2 => k (.tup [(.agg [(.v (.int IntKind.i64 y0_0)), (.v (.string y0_1)), (.v (.int IntKind.i64 y0_2)), (.v (.int IntKind.i64 y0_3)), (.v (.int IntKind.i64 y0_4))]), (.v (.int IntKind.i64 y1)), (.v (.int IntKind.i64 y2))]) []) := by kernel_rfl
theorem l31_ag (k kp : D → List Blk → Prop) (ag31 : St → Prop) : agPL cfg 1000001 (JJ_31 k kp ag31) (LL_31 k kp ag31) [1, 1, 1, 1, 1, 1, 1, 0, 1, 0, 0] body = agPR cfg 1000001 (pick none' [(31, ag31)]) [1, 1, 1, 1, 1, 1, 1, 0, 1, 0, 0] body (topK cfg Tryd.f27 k kp) := by kernel_rfl
theorem l31_raw (k kp : D → List Blk → Prop) (ag31 : St → Prop) (x0 : ByteArray) (x1 : Int) (x7 : Int) (x14 : Int) (b0_0 : Int) (b0_1 : ByteArray) (b0_2 : Int) (b0_3 : Int) (b0_4 : Int) (b1_0 : Int) (b1_1 : ByteArray) (b1_2 : Int) (b1_3 : Int) (b1_4 : Int) : YL31 k kp ag31 (mL31 x0 x1 x7 x14 b0_0 b0_1 b0_2 b0_3 b0_4 b1_0 b1_1 b1_2 b1_3 b1_4) = l31 (fun x0 x1 x15 x156 b0_0 b0_1 b0_2 b0_3 b0_4 b1_0 b1_1 b1_2 b1_3 b1_4 => X2000036 k kp ag31 (m2000036 x0 x1 x15 x156 b0_0 b0_1 b0_2 b0_3 b0_4 b1_0 b1_1 b1_2 b1_3 b1_4)) (fun b0_0 b0_1 b0_2 b0_3 b0_4 b1_0 b1_1 b1_2 b1_3 b1_4 => X39 k kp (m39 b0_0 b0_1 b0_2 b0_3 b0_4 b1_0 b1_1 b1_2 b1_3 b1_4)) (fun x14 b0_0 b0_1 b0_2 b0_3 b0_4 b1_0 b1_1 b1_2 b1_3 b1_4 => ag31 (mL31 x0 x1 x7 x14 b0_0 b0_1 b0_2 b0_3 b0_4 b1_0 b1_1 b1_2 b1_3 b1_4)) x0 x1 x7 x14 b0_0 b0_1 b0_2 b0_3 b0_4 b1_0 b1_1 b1_2 b1_3 b1_4 (fun y0_0 y0_1 y0_2 y0_3 y0_4 y1 y2 => k (.tup [(.agg [(.v (.int IntKind.i64 y0_0)), (.v (.string y0_1)), (.v (.int IntKind.i64 y0_2)), (.v (.int IntKind.i64 y0_3)), (.v (.int IntKind.i64 y0_4))]), (.v (.int IntKind.i64 y1)), (.v (.int IntKind.i64 y2))]) []) :=
  Eq.mp (by kernel_rfl) ((atP_run (l31_ag k kp ag31) (mL31 x0 x1 x7 x14 b0_0 b0_1 b0_2 b0_3 b0_4 b1_0 b1_1 b1_2 b1_3 b1_4)).trans (l31_c k kp (JJ_31 k kp ag31) (LL_31 k kp ag31) ag31 x0 x1 x7 x14 b0_0 b0_1 b0_2 b0_3 b0_4 b1_0 b1_1 b1_2 b1_3 b1_4))
theorem l31_eq (k kp : D → List Blk → Prop) (x0 : ByteArray) (x1 : Int) (x7 : Int) (x14 : Int) (b0_0 : Int) (b0_1 : ByteArray) (b0_2 : Int) (b0_3 : Int) (b0_4 : Int) (b1_0 : Int) (b1_1 : ByteArray) (b1_2 : Int) (b1_3 : Int) (b1_4 : Int) : XL31 k kp (mL31 x0 x1 x7 x14 b0_0 b0_1 b0_2 b0_3 b0_4 b1_0 b1_1 b1_2 b1_3 b1_4) = l31' x0 x1 x7 x14 b0_0 b0_1 b0_2 b0_3 b0_4 b1_0 b1_1 b1_2 b1_3 b1_4 (fun y0_0 y0_1 y0_2 y0_3 y0_4 y1 y2 => k (.tup [(.agg [(.v (.int IntKind.i64 y0_0)), (.v (.string y0_1)), (.v (.int IntKind.i64 y0_2)), (.v (.int IntKind.i64 y0_3)), (.v (.int IntKind.i64 y0_4))]), (.v (.int IntKind.i64 y1)), (.v (.int IntKind.i64 y2))]) []) :=
  loop_eq (mk := fun (s : Int × Int × ByteArray × Int × Int × Int × Int × ByteArray × Int × Int × Int) => mL31 x0 x1 x7 s.1 s.2.1 s.2.2.1 s.2.2.2.1 s.2.2.2.2.1 s.2.2.2.2.2.1 s.2.2.2.2.2.2.1 s.2.2.2.2.2.2.2.1 s.2.2.2.2.2.2.2.2.1 s.2.2.2.2.2.2.2.2.2.1 s.2.2.2.2.2.2.2.2.2.2) (fun again s => by rw [l31_raw k kp again x0 x1 x7 s.1 s.2.1 s.2.2.1 s.2.2.2.1 s.2.2.2.2.1 s.2.2.2.2.2.1 s.2.2.2.2.2.2.1 s.2.2.2.2.2.2.2.1 s.2.2.2.2.2.2.2.2.1 s.2.2.2.2.2.2.2.2.2.1 s.2.2.2.2.2.2.2.2.2.2]; simp only [j2000036_eq, j39_eq]; first | done | rfl) (x14, b0_0, b0_1, b0_2, b0_3, b0_4, b1_0, b1_1, b1_2, b1_3, b1_4)
theorem j30_c (k kp : D → List Blk → Prop) (J L : Nat → St → Prop) (x0 : ByteArray) (x1 : Int) (x7 : Int) (b0_0 : Int) (b0_1 : ByteArray) (b0_2 : Int) (b0_3 : Int) (b0_4 : Int) (b1_0 : Int) (b1_1 : ByteArray) (b1_2 : Int) (b1_3 : Int) (b1_4 : Int) : runC cfg 30 J L (pick none' []) [1, 1, 1, 1, 1, 1, 1] body (topK cfg Tryd.f27 k kp) (m30 x0 x1 x7 b0_0 b0_1 b0_2 b0_3 b0_4 b1_0 b1_1 b1_2 b1_3 b1_4) = j30 (fun x0 x1 x7 x14 b0_0 b0_1 b0_2 b0_3 b0_4 b1_0 b1_1 b1_2 b1_3 b1_4 => L 31 (mL31 x0 x1 x7 x14 b0_0 b0_1 b0_2 b0_3 b0_4 b1_0 b1_1 b1_2 b1_3 b1_4)) x0 x1 x7 b0_0 b0_1 b0_2 b0_3 b0_4 b1_0 b1_1 b1_2 b1_3 b1_4 (fun y0_0 y0_1 y0_2 y0_3 y0_4 y1 y2 => k (.tup [(.agg [(.v (.int IntKind.i64 y0_0)), (.v (.string y0_1)), (.v (.int IntKind.i64 y0_2)), (.v (.int IntKind.i64 y0_3)), (.v (.int IntKind.i64 y0_4))]), (.v (.int IntKind.i64 y1)), (.v (.int IntKind.i64 y2))]) []) := by kernel_rfl
theorem j30_ag (k kp : D → List Blk → Prop) : agPL cfg 30 (JJ k kp) (LL k kp) [1, 1, 1, 1, 1, 1, 1] body = agPR cfg 30 (pick none' []) [1, 1, 1, 1, 1, 1, 1] body (topK cfg Tryd.f27 k kp) := by kernel_rfl
theorem j30_raw (k kp : D → List Blk → Prop) (x0 : ByteArray) (x1 : Int) (x7 : Int) (b0_0 : Int) (b0_1 : ByteArray) (b0_2 : Int) (b0_3 : Int) (b0_4 : Int) (b1_0 : Int) (b1_1 : ByteArray) (b1_2 : Int) (b1_3 : Int) (b1_4 : Int) : X30 k kp (m30 x0 x1 x7 b0_0 b0_1 b0_2 b0_3 b0_4 b1_0 b1_1 b1_2 b1_3 b1_4) = j30 (fun x0 x1 x7 x14 b0_0 b0_1 b0_2 b0_3 b0_4 b1_0 b1_1 b1_2 b1_3 b1_4 => XL31 k kp (mL31 x0 x1 x7 x14 b0_0 b0_1 b0_2 b0_3 b0_4 b1_0 b1_1 b1_2 b1_3 b1_4)) x0 x1 x7 b0_0 b0_1 b0_2 b0_3 b0_4 b1_0 b1_1 b1_2 b1_3 b1_4 (fun y0_0 y0_1 y0_2 y0_3 y0_4 y1 y2 => k (.tup [(.agg [(.v (.int IntKind.i64 y0_0)), (.v (.string y0_1)), (.v (.int IntKind.i64 y0_2)), (.v (.int IntKind.i64 y0_3)), (.v (.int IntKind.i64 y0_4))]), (.v (.int IntKind.i64 y1)), (.v (.int IntKind.i64 y2))]) []) :=
  Eq.mp (by kernel_rfl) ((atP_run (j30_ag k kp) (m30 x0 x1 x7 b0_0 b0_1 b0_2 b0_3 b0_4 b1_0 b1_1 b1_2 b1_3 b1_4)).trans (j30_c k kp (JJ k kp) (LL k kp) x0 x1 x7 b0_0 b0_1 b0_2 b0_3 b0_4 b1_0 b1_1 b1_2 b1_3 b1_4))
theorem j30_eq (k kp : D → List Blk → Prop) (x0 : ByteArray) (x1 : Int) (x7 : Int) (b0_0 : Int) (b0_1 : ByteArray) (b0_2 : Int) (b0_3 : Int) (b0_4 : Int) (b1_0 : Int) (b1_1 : ByteArray) (b1_2 : Int) (b1_3 : Int) (b1_4 : Int) : X30 k kp (m30 x0 x1 x7 b0_0 b0_1 b0_2 b0_3 b0_4 b1_0 b1_1 b1_2 b1_3 b1_4) = j30' x0 x1 x7 b0_0 b0_1 b0_2 b0_3 b0_4 b1_0 b1_1 b1_2 b1_3 b1_4 (fun y0_0 y0_1 y0_2 y0_3 y0_4 y1 y2 => k (.tup [(.agg [(.v (.int IntKind.i64 y0_0)), (.v (.string y0_1)), (.v (.int IntKind.i64 y0_2)), (.v (.int IntKind.i64 y0_3)), (.v (.int IntKind.i64 y0_4))]), (.v (.int IntKind.i64 y1)), (.v (.int IntKind.i64 y2))]) []) := by
  rw [j30_raw]; simp only [l31_eq]; first | done | rfl
theorem j2000022_c (k kp : D → List Blk → Prop) (J L : Nat → St → Prop) (x0 : ByteArray) (x1 : Int) (x7 : Int) (x10 : Int) (x87 : Bool) (b0_0 : Int) (b0_1 : ByteArray) (b0_2 : Int) (b0_3 : Int) (b0_4 : Int) (b1_0 : Int) (b1_1 : ByteArray) (b1_2 : Int) (b1_3 : Int) (b1_4 : Int) : runC cfg 2000022 J L (pick none' []) [1, 1, 1, 1, 1, 1, 0, 1] body (topK cfg Tryd.f27 k kp) (m2000022 x0 x1 x7 x10 x87 b0_0 b0_1 b0_2 b0_3 b0_4 b1_0 b1_1 b1_2 b1_3 b1_4) = j2000022 (fun x0 x1 x10 x11 x12 x13 x116 b0_0 b0_1 b0_2 b0_3 b0_4 b1_0 b1_1 b1_2 b1_3 b1_4 => J 2000025 (m2000025 x0 x1 x10 x11 x12 x13 x116 b0_0 b0_1 b0_2 b0_3 b0_4 b1_0 b1_1 b1_2 b1_3 b1_4)) (fun x0 x1 x7 b0_0 b0_1 b0_2 b0_3 b0_4 b1_0 b1_1 b1_2 b1_3 b1_4 => J 30 (m30 x0 x1 x7 b0_0 b0_1 b0_2 b0_3 b0_4 b1_0 b1_1 b1_2 b1_3 b1_4)) x0 x1 x7 x10 x87 b0_0 b0_1 b0_2 b0_3 b0_4 b1_0 b1_1 b1_2 b1_3 b1_4 (fun y0_0 y0_1 y0_2 y0_3 y0_4 y1 y2 => k (.tup [(.agg [(.v (.int IntKind.i64 y0_0)), (.v (.string y0_1)), (.v (.int IntKind.i64 y0_2)), (.v (.int IntKind.i64 y0_3)), (.v (.int IntKind.i64 y0_4))]), (.v (.int IntKind.i64 y1)), (.v (.int IntKind.i64 y2))]) []) := by kernel_rfl
theorem j2000022_ag (k kp : D → List Blk → Prop) : agPL cfg 2000022 (JJ k kp) (LL k kp) [1, 1, 1, 1, 1, 1, 0, 1] body = agPR cfg 2000022 (pick none' []) [1, 1, 1, 1, 1, 1, 0, 1] body (topK cfg Tryd.f27 k kp) := by kernel_rfl
theorem j2000022_raw (k kp : D → List Blk → Prop) (x0 : ByteArray) (x1 : Int) (x7 : Int) (x10 : Int) (x87 : Bool) (b0_0 : Int) (b0_1 : ByteArray) (b0_2 : Int) (b0_3 : Int) (b0_4 : Int) (b1_0 : Int) (b1_1 : ByteArray) (b1_2 : Int) (b1_3 : Int) (b1_4 : Int) : X2000022 k kp (m2000022 x0 x1 x7 x10 x87 b0_0 b0_1 b0_2 b0_3 b0_4 b1_0 b1_1 b1_2 b1_3 b1_4) = j2000022 (fun x0 x1 x10 x11 x12 x13 x116 b0_0 b0_1 b0_2 b0_3 b0_4 b1_0 b1_1 b1_2 b1_3 b1_4 => X2000025 k kp (m2000025 x0 x1 x10 x11 x12 x13 x116 b0_0 b0_1 b0_2 b0_3 b0_4 b1_0 b1_1 b1_2 b1_3 b1_4)) (fun x0 x1 x7 b0_0 b0_1 b0_2 b0_3 b0_4 b1_0 b1_1 b1_2 b1_3 b1_4 => X30 k kp (m30 x0 x1 x7 b0_0 b0_1 b0_2 b0_3 b0_4 b1_0 b1_1 b1_2 b1_3 b1_4)) x0 x1 x7 x10 x87 b0_0 b0_1 b0_2 b0_3 b0_4 b1_0 b1_1 b1_2 b1_3 b1_4 (fun y0_0 y0_1 y0_2 y0_3 y0_4 y1 y2 => k (.tup [(.agg [(.v (.int IntKind.i64 y0_0)), (.v (.string y0_1)), (.v (.int IntKind.i64 y0_2)), (.v (.int IntKind.i64 y0_3)), (.v (.int IntKind.i64 y0_4))]), (.v (.int IntKind.i64 y1)), (.v (.int IntKind.i64 y2))]) []) :=
  Eq.mp (by kernel_rfl) ((atP_run (j2000022_ag k kp) (m2000022 x0 x1 x7 x10 x87 b0_0 b0_1 b0_2 b0_3 b0_4 b1_0 b1_1 b1_2 b1_3 b1_4)).trans (j2000022_c k kp (JJ k kp) (LL k kp) x0 x1 x7 x10 x87 b0_0 b0_1 b0_2 b0_3 b0_4 b1_0 b1_1 b1_2 b1_3 b1_4))
theorem j2000022_eq (k kp : D → List Blk → Prop) (x0 : ByteArray) (x1 : Int) (x7 : Int) (x10 : Int) (x87 : Bool) (b0_0 : Int) (b0_1 : ByteArray) (b0_2 : Int) (b0_3 : Int) (b0_4 : Int) (b1_0 : Int) (b1_1 : ByteArray) (b1_2 : Int) (b1_3 : Int) (b1_4 : Int) : X2000022 k kp (m2000022 x0 x1 x7 x10 x87 b0_0 b0_1 b0_2 b0_3 b0_4 b1_0 b1_1 b1_2 b1_3 b1_4) = j2000022' x0 x1 x7 x10 x87 b0_0 b0_1 b0_2 b0_3 b0_4 b1_0 b1_1 b1_2 b1_3 b1_4 (fun y0_0 y0_1 y0_2 y0_3 y0_4 y1 y2 => k (.tup [(.agg [(.v (.int IntKind.i64 y0_0)), (.v (.string y0_1)), (.v (.int IntKind.i64 y0_2)), (.v (.int IntKind.i64 y0_3)), (.v (.int IntKind.i64 y0_4))]), (.v (.int IntKind.i64 y1)), (.v (.int IntKind.i64 y2))]) []) := by
  rw [j2000022_raw]; simp only [j2000025_eq, j30_eq]; first | done | rfl
theorem j21_c (k kp : D → List Blk → Prop) (J L : Nat → St → Prop) (x0 : ByteArray) (x1 : Int) (x7 : Int) (x10 : Int) (b0_0 : Int) (b0_1 : ByteArray) (b0_2 : Int) (b0_3 : Int) (b0_4 : Int) (b1_0 : Int) (b1_1 : ByteArray) (b1_2 : Int) (b1_3 : Int) (b1_4 : Int) : runC cfg 21 J L (pick none' []) [1, 1, 1, 1, 1, 1] body (topK cfg Tryd.f27 k kp) (m21 x0 x1 x7 x10 b0_0 b0_1 b0_2 b0_3 b0_4 b1_0 b1_1 b1_2 b1_3 b1_4) = j21 (fun x0 x1 x7 x10 x87 b0_0 b0_1 b0_2 b0_3 b0_4 b1_0 b1_1 b1_2 b1_3 b1_4 => J 2000022 (m2000022 x0 x1 x7 x10 x87 b0_0 b0_1 b0_2 b0_3 b0_4 b1_0 b1_1 b1_2 b1_3 b1_4)) x0 x1 x7 x10 b0_0 b0_1 b0_2 b0_3 b0_4 b1_0 b1_1 b1_2 b1_3 b1_4 (fun y0_0 y0_1 y0_2 y0_3 y0_4 y1 y2 => k (.tup [(.agg [(.v (.int IntKind.i64 y0_0)), (.v (.string y0_1)), (.v (.int IntKind.i64 y0_2)), (.v (.int IntKind.i64 y0_3)), (.v (.int IntKind.i64 y0_4))]), (.v (.int IntKind.i64 y1)), (.v (.int IntKind.i64 y2))]) []) := by kernel_rfl
theorem j21_ag (k kp : D → List Blk → Prop) : agPL cfg 21 (JJ k kp) (LL k kp) [1, 1, 1, 1, 1, 1] body = agPR cfg 21 (pick none' []) [1, 1, 1, 1, 1, 1] body (topK cfg Tryd.f27 k kp) := by kernel_rfl
theorem j21_raw (k kp : D → List Blk → Prop) (x0 : ByteArray) (x1 : Int) (x7 : Int) (x10 : Int) (b0_0 : Int) (b0_1 : ByteArray) (b0_2 : Int) (b0_3 : Int) (b0_4 : Int) (b1_0 : Int) (b1_1 : ByteArray) (b1_2 : Int) (b1_3 : Int) (b1_4 : Int) : X21 k kp (m21 x0 x1 x7 x10 b0_0 b0_1 b0_2 b0_3 b0_4 b1_0 b1_1 b1_2 b1_3 b1_4) = j21 (fun x0 x1 x7 x10 x87 b0_0 b0_1 b0_2 b0_3 b0_4 b1_0 b1_1 b1_2 b1_3 b1_4 => X2000022 k kp (m2000022 x0 x1 x7 x10 x87 b0_0 b0_1 b0_2 b0_3 b0_4 b1_0 b1_1 b1_2 b1_3 b1_4)) x0 x1 x7 x10 b0_0 b0_1 b0_2 b0_3 b0_4 b1_0 b1_1 b1_2 b1_3 b1_4 (fun y0_0 y0_1 y0_2 y0_3 y0_4 y1 y2 => k (.tup [(.agg [(.v (.int IntKind.i64 y0_0)), (.v (.string y0_1)), (.v (.int IntKind.i64 y0_2)), (.v (.int IntKind.i64 y0_3)), (.v (.int IntKind.i64 y0_4))]), (.v (.int IntKind.i64 y1)), (.v (.int IntKind.i64 y2))]) []) :=
  Eq.mp (by kernel_rfl) ((atP_run (j21_ag k kp) (m21 x0 x1 x7 x10 b0_0 b0_1 b0_2 b0_3 b0_4 b1_0 b1_1 b1_2 b1_3 b1_4)).trans (j21_c k kp (JJ k kp) (LL k kp) x0 x1 x7 x10 b0_0 b0_1 b0_2 b0_3 b0_4 b1_0 b1_1 b1_2 b1_3 b1_4))
theorem j21_eq (k kp : D → List Blk → Prop) (x0 : ByteArray) (x1 : Int) (x7 : Int) (x10 : Int) (b0_0 : Int) (b0_1 : ByteArray) (b0_2 : Int) (b0_3 : Int) (b0_4 : Int) (b1_0 : Int) (b1_1 : ByteArray) (b1_2 : Int) (b1_3 : Int) (b1_4 : Int) : X21 k kp (m21 x0 x1 x7 x10 b0_0 b0_1 b0_2 b0_3 b0_4 b1_0 b1_1 b1_2 b1_3 b1_4) = j21' x0 x1 x7 x10 b0_0 b0_1 b0_2 b0_3 b0_4 b1_0 b1_1 b1_2 b1_3 b1_4 (fun y0_0 y0_1 y0_2 y0_3 y0_4 y1 y2 => k (.tup [(.agg [(.v (.int IntKind.i64 y0_0)), (.v (.string y0_1)), (.v (.int IntKind.i64 y0_2)), (.v (.int IntKind.i64 y0_3)), (.v (.int IntKind.i64 y0_4))]), (.v (.int IntKind.i64 y1)), (.v (.int IntKind.i64 y2))]) []) := by
  rw [j21_raw]; simp only [j2000022_eq]; first | done | rfl
theorem j19_c (k kp : D → List Blk → Prop) (J L : Nat → St → Prop) (x0 : ByteArray) (x1 : Int) (x7 : Int) (x10 : Int) (b0_0 : Int) (b0_1 : ByteArray) (b0_2 : Int) (b0_3 : Int) (b0_4 : Int) (b1_0 : Int) (b1_1 : ByteArray) (b1_2 : Int) (b1_3 : Int) (b1_4 : Int) : runC cfg 19 J L (pick none' []) [1, 1, 1, 1, 1, 0, 1, 0, 1, 1, 1, 1, 1, 0, 1, 1] body (topK cfg Tryd.f27 k kp) (m19 x0 x1 x7 x10 b0_0 b0_1 b0_2 b0_3 b0_4 b1_0 b1_1 b1_2 b1_3 b1_4) = j19 (fun x0 x1 x7 x10 b0_0 b0_1 b0_2 b0_3 b0_4 b1_0 b1_1 b1_2 b1_3 b1_4 => J 21 (m21 x0 x1 x7 x10 b0_0 b0_1 b0_2 b0_3 b0_4 b1_0 b1_1 b1_2 b1_3 b1_4)) x0 x1 x7 x10 b0_0 b0_1 b0_2 b0_3 b0_4 b1_0 b1_1 b1_2 b1_3 b1_4 (fun y0_0 y0_1 y0_2 y0_3 y0_4 y1 y2 => k (.tup [(.agg [(.v (.int IntKind.i64 y0_0)), (.v (.string y0_1)), (.v (.int IntKind.i64 y0_2)), (.v (.int IntKind.i64 y0_3)), (.v (.int IntKind.i64 y0_4))]), (.v (.int IntKind.i64 y1)), (.v (.int IntKind.i64 y2))]) []) := by kernel_rfl
theorem j19_ag (k kp : D → List Blk → Prop) : agPL cfg 19 (JJ k kp) (LL k kp) [1, 1, 1, 1, 1, 0, 1, 0, 1, 1, 1, 1, 1, 0, 1, 1] body = agPR cfg 19 (pick none' []) [1, 1, 1, 1, 1, 0, 1, 0, 1, 1, 1, 1, 1, 0, 1, 1] body (topK cfg Tryd.f27 k kp) := by kernel_rfl
theorem j19_raw (k kp : D → List Blk → Prop) (x0 : ByteArray) (x1 : Int) (x7 : Int) (x10 : Int) (b0_0 : Int) (b0_1 : ByteArray) (b0_2 : Int) (b0_3 : Int) (b0_4 : Int) (b1_0 : Int) (b1_1 : ByteArray) (b1_2 : Int) (b1_3 : Int) (b1_4 : Int) : X19 k kp (m19 x0 x1 x7 x10 b0_0 b0_1 b0_2 b0_3 b0_4 b1_0 b1_1 b1_2 b1_3 b1_4) = j19 (fun x0 x1 x7 x10 b0_0 b0_1 b0_2 b0_3 b0_4 b1_0 b1_1 b1_2 b1_3 b1_4 => X21 k kp (m21 x0 x1 x7 x10 b0_0 b0_1 b0_2 b0_3 b0_4 b1_0 b1_1 b1_2 b1_3 b1_4)) x0 x1 x7 x10 b0_0 b0_1 b0_2 b0_3 b0_4 b1_0 b1_1 b1_2 b1_3 b1_4 (fun y0_0 y0_1 y0_2 y0_3 y0_4 y1 y2 => k (.tup [(.agg [(.v (.int IntKind.i64 y0_0)), (.v (.string y0_1)), (.v (.int IntKind.i64 y0_2)), (.v (.int IntKind.i64 y0_3)), (.v (.int IntKind.i64 y0_4))]), (.v (.int IntKind.i64 y1)), (.v (.int IntKind.i64 y2))]) []) :=
  Eq.mp (by kernel_rfl) ((atP_run (j19_ag k kp) (m19 x0 x1 x7 x10 b0_0 b0_1 b0_2 b0_3 b0_4 b1_0 b1_1 b1_2 b1_3 b1_4)).trans (j19_c k kp (JJ k kp) (LL k kp) x0 x1 x7 x10 b0_0 b0_1 b0_2 b0_3 b0_4 b1_0 b1_1 b1_2 b1_3 b1_4))
theorem j19_eq (k kp : D → List Blk → Prop) (x0 : ByteArray) (x1 : Int) (x7 : Int) (x10 : Int) (b0_0 : Int) (b0_1 : ByteArray) (b0_2 : Int) (b0_3 : Int) (b0_4 : Int) (b1_0 : Int) (b1_1 : ByteArray) (b1_2 : Int) (b1_3 : Int) (b1_4 : Int) : X19 k kp (m19 x0 x1 x7 x10 b0_0 b0_1 b0_2 b0_3 b0_4 b1_0 b1_1 b1_2 b1_3 b1_4) = j19' x0 x1 x7 x10 b0_0 b0_1 b0_2 b0_3 b0_4 b1_0 b1_1 b1_2 b1_3 b1_4 (fun y0_0 y0_1 y0_2 y0_3 y0_4 y1 y2 => k (.tup [(.agg [(.v (.int IntKind.i64 y0_0)), (.v (.string y0_1)), (.v (.int IntKind.i64 y0_2)), (.v (.int IntKind.i64 y0_3)), (.v (.int IntKind.i64 y0_4))]), (.v (.int IntKind.i64 y1)), (.v (.int IntKind.i64 y2))]) []) := by
  rw [j19_raw]; simp only [j21_eq]; first | done | rfl
theorem j2000018_c (k kp : D → List Blk → Prop) (J L : Nat → St → Prop) (x0 : ByteArray) (x1 : Int) (x7 : Int) (x10 : Int) (x70 : Bool) (b0_0 : Int) (b0_1 : ByteArray) (b0_2 : Int) (b0_3 : Int) (b0_4 : Int) (b1_0 : Int) (b1_1 : ByteArray) (b1_2 : Int) (b1_3 : Int) (b1_4 : Int) : runC cfg 2000018 J L (pick none' []) [1, 1, 1, 1, 1, 0, 1, 0, 1, 1, 1, 1, 1, 0, 1, 0, 1] body (topK cfg Tryd.f27 k kp) (m2000018 x0 x1 x7 x10 x70 b0_0 b0_1 b0_2 b0_3 b0_4 b1_0 b1_1 b1_2 b1_3 b1_4) = j2000018 (fun x0 x1 x7 x10 b0_0 b0_1 b0_2 b0_3 b0_4 b1_0 b1_1 b1_2 b1_3 b1_4 => J 19 (m19 x0 x1 x7 x10 b0_0 b0_1 b0_2 b0_3 b0_4 b1_0 b1_1 b1_2 b1_3 b1_4)) x0 x1 x7 x10 x70 b0_0 b0_1 b0_2 b0_3 b0_4 b1_0 b1_1 b1_2 b1_3 b1_4 (fun y0_0 y0_1 y0_2 y0_3 y0_4 y1 y2 => k (.tup [(.agg [(.v (.int IntKind.i64 y0_0)), (.v (.string y0_1)), (.v (.int IntKind.i64 y0_2)), (.v (.int IntKind.i64 y0_3)), (.v (.int IntKind.i64 y0_4))]), (.v (.int IntKind.i64 y1)), (.v (.int IntKind.i64 y2))]) []) := by kernel_rfl
theorem j2000018_ag (k kp : D → List Blk → Prop) : agPL cfg 2000018 (JJ k kp) (LL k kp) [1, 1, 1, 1, 1, 0, 1, 0, 1, 1, 1, 1, 1, 0, 1, 0, 1] body = agPR cfg 2000018 (pick none' []) [1, 1, 1, 1, 1, 0, 1, 0, 1, 1, 1, 1, 1, 0, 1, 0, 1] body (topK cfg Tryd.f27 k kp) := by kernel_rfl
theorem j2000018_raw (k kp : D → List Blk → Prop) (x0 : ByteArray) (x1 : Int) (x7 : Int) (x10 : Int) (x70 : Bool) (b0_0 : Int) (b0_1 : ByteArray) (b0_2 : Int) (b0_3 : Int) (b0_4 : Int) (b1_0 : Int) (b1_1 : ByteArray) (b1_2 : Int) (b1_3 : Int) (b1_4 : Int) : X2000018 k kp (m2000018 x0 x1 x7 x10 x70 b0_0 b0_1 b0_2 b0_3 b0_4 b1_0 b1_1 b1_2 b1_3 b1_4) = j2000018 (fun x0 x1 x7 x10 b0_0 b0_1 b0_2 b0_3 b0_4 b1_0 b1_1 b1_2 b1_3 b1_4 => X19 k kp (m19 x0 x1 x7 x10 b0_0 b0_1 b0_2 b0_3 b0_4 b1_0 b1_1 b1_2 b1_3 b1_4)) x0 x1 x7 x10 x70 b0_0 b0_1 b0_2 b0_3 b0_4 b1_0 b1_1 b1_2 b1_3 b1_4 (fun y0_0 y0_1 y0_2 y0_3 y0_4 y1 y2 => k (.tup [(.agg [(.v (.int IntKind.i64 y0_0)), (.v (.string y0_1)), (.v (.int IntKind.i64 y0_2)), (.v (.int IntKind.i64 y0_3)), (.v (.int IntKind.i64 y0_4))]), (.v (.int IntKind.i64 y1)), (.v (.int IntKind.i64 y2))]) []) :=
  Eq.mp (by kernel_rfl) ((atP_run (j2000018_ag k kp) (m2000018 x0 x1 x7 x10 x70 b0_0 b0_1 b0_2 b0_3 b0_4 b1_0 b1_1 b1_2 b1_3 b1_4)).trans (j2000018_c k kp (JJ k kp) (LL k kp) x0 x1 x7 x10 x70 b0_0 b0_1 b0_2 b0_3 b0_4 b1_0 b1_1 b1_2 b1_3 b1_4))
theorem j2000018_eq (k kp : D → List Blk → Prop) (x0 : ByteArray) (x1 : Int) (x7 : Int) (x10 : Int) (x70 : Bool) (b0_0 : Int) (b0_1 : ByteArray) (b0_2 : Int) (b0_3 : Int) (b0_4 : Int) (b1_0 : Int) (b1_1 : ByteArray) (b1_2 : Int) (b1_3 : Int) (b1_4 : Int) : X2000018 k kp (m2000018 x0 x1 x7 x10 x70 b0_0 b0_1 b0_2 b0_3 b0_4 b1_0 b1_1 b1_2 b1_3 b1_4) = j2000018' x0 x1 x7 x10 x70 b0_0 b0_1 b0_2 b0_3 b0_4 b1_0 b1_1 b1_2 b1_3 b1_4 (fun y0_0 y0_1 y0_2 y0_3 y0_4 y1 y2 => k (.tup [(.agg [(.v (.int IntKind.i64 y0_0)), (.v (.string y0_1)), (.v (.int IntKind.i64 y0_2)), (.v (.int IntKind.i64 y0_3)), (.v (.int IntKind.i64 y0_4))]), (.v (.int IntKind.i64 y1)), (.v (.int IntKind.i64 y2))]) []) := by
  rw [j2000018_raw]; simp only [j19_eq]; first | done | rfl
theorem c_c (k kp : D → List Blk → Prop) (J L : Nat → St → Prop) (x0 : ByteArray) (x1 : Int) : runC cfg 1000001 J L none'' [] body (topK cfg Tryd.f27 k kp) (st0 Tryd.f27 [(.v (.string x0)), (.v (.int IntKind.i64 x1))] []) = c (fun x0 x1 x7 x10 b0_0 b0_1 b0_2 b0_3 b0_4 b1_0 b1_1 b1_2 b1_3 b1_4 => J 21 (m21 x0 x1 x7 x10 b0_0 b0_1 b0_2 b0_3 b0_4 b1_0 b1_1 b1_2 b1_3 b1_4)) (fun x0 x1 x7 x10 x70 b0_0 b0_1 b0_2 b0_3 b0_4 b1_0 b1_1 b1_2 b1_3 b1_4 => J 2000018 (m2000018 x0 x1 x7 x10 x70 b0_0 b0_1 b0_2 b0_3 b0_4 b1_0 b1_1 b1_2 b1_3 b1_4)) x0 x1 (fun y0_0 y0_1 y0_2 y0_3 y0_4 y1 y2 => k (.tup [(.agg [(.v (.int IntKind.i64 y0_0)), (.v (.string y0_1)), (.v (.int IntKind.i64 y0_2)), (.v (.int IntKind.i64 y0_3)), (.v (.int IntKind.i64 y0_4))]), (.v (.int IntKind.i64 y1)), (.v (.int IntKind.i64 y2))]) []) := by kernel_rfl
theorem c_ag (k kp : D → List Blk → Prop) : agPL cfg 1000001 (JJ k kp) (LL k kp) [] body = agPR cfg 1000001 none'' [] body (topK cfg Tryd.f27 k kp) := by kernel_rfl
theorem body_is : Tryd.f27.body = some body := by kernel_rfl
theorem c_raw (k kp : D → List Blk → Prop) (x0 : ByteArray) (x1 : Int) : funW cfg Tryd.f27 [(.v (.string x0)), (.v (.int IntKind.i64 x1))] [] k kp = c (fun x0 x1 x7 x10 b0_0 b0_1 b0_2 b0_3 b0_4 b1_0 b1_1 b1_2 b1_3 b1_4 => X21 k kp (m21 x0 x1 x7 x10 b0_0 b0_1 b0_2 b0_3 b0_4 b1_0 b1_1 b1_2 b1_3 b1_4)) (fun x0 x1 x7 x10 x70 b0_0 b0_1 b0_2 b0_3 b0_4 b1_0 b1_1 b1_2 b1_3 b1_4 => X2000018 k kp (m2000018 x0 x1 x7 x10 x70 b0_0 b0_1 b0_2 b0_3 b0_4 b1_0 b1_1 b1_2 b1_3 b1_4)) x0 x1 (fun y0_0 y0_1 y0_2 y0_3 y0_4 y1 y2 => k (.tup [(.agg [(.v (.int IntKind.i64 y0_0)), (.v (.string y0_1)), (.v (.int IntKind.i64 y0_2)), (.v (.int IntKind.i64 y0_3)), (.v (.int IntKind.i64 y0_4))]), (.v (.int IntKind.i64 y1)), (.v (.int IntKind.i64 y2))]) []) :=
  Eq.mp (by kernel_rfl) ((funW_run (AG := none'') body_is (c_ag k kp) [(.v (.string x0)), (.v (.int IntKind.i64 x1))] []).trans (c_c k kp (JJ k kp) (LL k kp) x0 x1))
theorem f_eq (k kp : D → List Blk → Prop) (x0 : ByteArray) (x1 : Int) : funW cfg Tryd.f27 [(.v (.string x0)), (.v (.int IntKind.i64 x1))] [] k kp = f x0 x1 (fun y0_0 y0_1 y0_2 y0_3 y0_4 y1 y2 => k (.tup [(.agg [(.v (.int IntKind.i64 y0_0)), (.v (.string y0_1)), (.v (.int IntKind.i64 y0_2)), (.v (.int IntKind.i64 y0_3)), (.v (.int IntKind.i64 y0_4))]), (.v (.int IntKind.i64 y1)), (.v (.int IntKind.i64 y2))]) []) := by
  rw [f_def, c_raw]; simp only [j21_eq, j2000018_eq]; first | done | rfl
noncomputable def ent0 : Entry := fun args blks k _ => match args, blks with
  | [d0, d1], [] => aStr d0 fun x0 => aInt IntKind.i64 d1 fun x1 => f x0 x1 (fun y0_0 y0_1 y0_2 y0_3 y0_4 y1 y2 => k (.tup [(.agg [(.v (.int IntKind.i64 y0_0)), (.v (.string y0_1)), (.v (.int IntKind.i64 y0_2)), (.v (.int IntKind.i64 y0_3)), (.v (.int IntKind.i64 y0_4))]), (.v (.int IntKind.i64 y1)), (.v (.int IntKind.i64 y2))]) [])
  | _, _ => False
noncomputable def ent : Entry := fun args blks k kp => ent0 (convB [.no, .no] args) blks k kp
theorem ok : EntOk Tryd.prog 49 0 27 ent := by
  refine EntOk.convB (EntOk.of (funW_ok (cfg := cfg) (tyOk_of rfl rfl tyL_ok) (eqOk_of (P := Tryd.prog) rfl rfl (by kernel_rfl)) mixed_ok (tab_ok ?_) Tryd.func27 (by rfl) (by rfl)) ?_) _
  · intro p hp
    simp only [List.mem_cons, List.not_mem_nil, or_false] at hp
    rcases hp with rfl | rfl | rfl
    · exact N48.ok
    · exact N49.ok
    · exact N50.ok
  · intro args blks k kp h k' kp'
    match args, blks, h with
    | [d0, d1], [], h =>
    dsimp only [ent0] at h
    have h9 := aStr_elim h; clear h; obtain ⟨x0, rfl, h⟩ := h9
    have h9 := aInt_elim h; clear h; obtain ⟨x1, rfl, h⟩ := h9
    exact (f_eq k' kp' x0 x1).symm
end N27
end Go.Proofs.Ye
namespace Go.Proofs.Ye
open Go Go.Aw Go.Proofs
set_option linter.unusedVariables false
set_option linter.unusedSimpArgs false
set_option maxRecDepth 100000
/-! dyehouse/dyehouseref09.All -/
namespace N15
noncomputable def cfg : Cfg := { P := Tryd.prog, tf := 49, tw := 0, ty := tys, E := tab [(26, N26.ent), (27, N27.ent)], atSeq := tab [(2000008, ⟨[(0, .keep), (5, .keep), (6, .keep), (7, .keep), (37, .keep)]⟩), (23, ⟨[(0, .keep), (5, .keep)]⟩), (9, ⟨[(0, .keep), (5, .keep), (6, .keep), (7, .keep)]⟩), (2000010, ⟨[(0, .keep), (5, .keep), (6, .keep), (7, .keep), (55, .keep)]⟩), (12, ⟨[(0, .keep), (5, .keep), (6, .keep), (7, .keep)]⟩), (11, ⟨[(0, .keep), (5, .keep), (6, .keep)]⟩)], atLoop := tab [(5, ⟨[(0, .keep), (5, .own 42 (Ty.pair (Ty.int IntKind.i64) (Ty.pair Ty.str (Ty.pair (Ty.int IntKind.i64) (Ty.pair (Ty.int IntKind.i64) (Ty.int IntKind.i64)))))), (6, .keep)]⟩), (10, ⟨[(0, .keep), (5, .keep), (6, .keep)]⟩)], outs := [.own 42 (Ty.pair (Ty.int IntKind.i64) (Ty.pair Ty.str (Ty.pair (Ty.int IntKind.i64) (Ty.pair (Ty.int IntKind.i64) (Ty.int IntKind.i64))))), .keep, .keep], eqT := tab [], bT := tab [] }
noncomputable def body : Code := bodyOf Tryd.f15
def l5 (j2000008 : ByteArray → Int → Int → Bool → (List (Int × (ByteArray × (Int × (Int × Int))))) → Prop) (j23 : ByteArray → (List (Int × (ByteArray × (Int × (Int × Int))))) → Prop) (x0 : ByteArray) (x6 : Int) (b0 : (List (Int × (ByteArray × (Int × (Int × Int)))))) (k : Int → Int → (List (Int × (ByteArray × (Int × (Int × Int))))) → Prop) : Prop :=
  (br (decide (x6 < ((((x0).size : Nat) : Int)))) ((inB 0 x6 ((((x0).size : Nat) : Int) - 1)) ∧ (br ((byteAt x0 x6) == (32 : Int)) (j2000008 x0 x6 (byteAt x0 x6) true b0) (br ((byteAt x0 x6) == (9 : Int)) (j2000008 x0 x6 (byteAt x0 x6) true b0) (br ((byteAt x0 x6) == (13 : Int)) (j2000008 x0 x6 (byteAt x0 x6) true b0) (j2000008 x0 x6 (byteAt x0 x6) ((byteAt x0 x6) == (10 : Int)) b0))))) (j23 x0 b0))
def j2000008 (j9 : ByteArray → Int → Int → (List (Int × (ByteArray × (Int × (Int × Int))))) → Prop) (ag5 : Int → (List (Int × (ByteArray × (Int × (Int × Int))))) → Prop) (x0 : ByteArray) (x6 : Int) (x7 : Int) (x37 : Bool) (b0 : (List (Int × (ByteArray × (Int × (Int × Int)))))) (k : Int → Int → (List (Int × (ByteArray × (Int × (Int × Int))))) → Prop) : Prop :=
  (br x37 (ag5 (IntKind.i64.wrap (x6 + (1 : Int))) b0) (j9 x0 x6 x7 b0))
def j23 (x0 : ByteArray) (b0 : (List (Int × (ByteArray × (Int × (Int × Int)))))) (k : Int → Int → (List (Int × (ByteArray × (Int × (Int × Int))))) → Prop) : Prop :=
  ((room ((b0).length + (([((0 : Int), ((ByteArray.mk #[]), ((0 : Int), ((0 : Int), ((((x0).size : Nat) : Int))))))] : List (Int × (ByteArray × (Int × (Int × Int)))))).length) 48) ∧ (k (0 : Int) (0 : Int) (b0 ++ ([((0 : Int), ((ByteArray.mk #[]), ((0 : Int), ((0 : Int), ((((x0).size : Nat) : Int))))))] : List (Int × (ByteArray × (Int × (Int × Int))))))))
def j9 (j2000010 : ByteArray → Int → Int → Bool → (List (Int × (ByteArray × (Int × (Int × Int))))) → Prop) (x0 : ByteArray) (x6 : Int) (x7 : Int) (b0 : (List (Int × (ByteArray × (Int × (Int × Int)))))) (k : Int → Int → (List (Int × (ByteArray × (Int × (Int × Int))))) → Prop) : Prop :=
  (br (x7 == (47 : Int)) (br (decide ((IntKind.i64.wrap (x6 + (1 : Int))) < ((((x0).size : Nat) : Int)))) ((inB 0 (IntKind.i64.wrap (x6 + (1 : Int))) ((((x0).size : Nat) : Int) - 1)) ∧ (j2000010 x0 x6 x7 ((byteAt x0 (IntKind.i64.wrap (x6 + (1 : Int)))) == (47 : Int)) b0)) (j2000010 x0 x6 x7 false b0)) (j2000010 x0 x6 x7 false b0))
def j2000010 (l10 : ByteArray → Int → (List (Int × (ByteArray × (Int × (Int × Int))))) → Prop) (j12 : ByteArray → Int → Int → (List (Int × (ByteArray × (Int × (Int × Int))))) → Prop) (x0 : ByteArray) (x6 : Int) (x7 : Int) (x55 : Bool) (b0 : (List (Int × (ByteArray × (Int × (Int × Int)))))) (k : Int → Int → (List (Int × (ByteArray × (Int × (Int × Int))))) → Prop) : Prop :=
  (br x55 (l10 x0 x6 b0) (j12 x0 x6 x7 b0))
def l10 (j11 : ByteArray → Int → (List (Int × (ByteArray × (Int × (Int × Int))))) → Prop) (ag5 : Int → (List (Int × (ByteArray × (Int × (Int × Int))))) → Prop) (x0 : ByteArray) (x6 : Int) (b0 : (List (Int × (ByteArray × (Int × (Int × Int)))))) (k : Int → Int → (List (Int × (ByteArray × (Int × (Int × Int))))) → Prop) : Prop :=
  (br (decide (x6 < ((((x0).size : Nat) : Int)))) ((inB 0 x6 ((((x0).size : Nat) : Int) - 1)) ∧ (br ((byteAt x0 x6) != (10 : Int)) (j11 x0 x6 b0) (ag5 x6 b0))) (ag5 x6 b0))
def j12 (ag5 : Int → (List (Int × (ByteArray × (Int × (Int × Int))))) → Prop) (x0 : ByteArray) (x6 : Int) (x7 : Int) (b0 : (List (Int × (ByteArray × (Int × (Int × Int)))))) (k : Int → Int → (List (Int × (ByteArray × (Int × (Int × Int))))) → Prop) : Prop :=
  (br (x7 == (34 : Int)) (N26.f x0 x6 (fun (y0_0 : ByteArray) (y1_0 : Int) (y2_0 : Int) => (br (y2_0 != (0 : Int)) (k y2_0 y1_0 ([] : List (Int × (ByteArray × (Int × (Int × Int)))))) ((room ((b0).length + (([((3 : Int), (y0_0, ((0 : Int), ((0 : Int), x6))))] : List (Int × (ByteArray × (Int × (Int × Int)))))).length) 48) ∧ (ag5 y1_0 (b0 ++ ([((3 : Int), (y0_0, ((0 : Int), ((0 : Int), x6))))] : List (Int × (ByteArray × (Int × (Int × Int))))))))))) (N27.f x0 x6 (fun (y0_0_1 : Int) (y0_1_1 : ByteArray) (y0_2_1 : Int) (y0_3_1 : Int) (y0_4_1 : Int) (y1_1 : Int) (y2_1 : Int) => (br (y2_1 != (0 : Int)) (k y2_1 x6 ([] : List (Int × (ByteArray × (Int × (Int × Int)))))) ((room ((b0).length + (([(y0_0_1, (y0_1_1, (y0_2_1, (y0_3_1, y0_4_1))))] : List (Int × (ByteArray × (Int × (Int × Int)))))).length) 48) ∧ (ag5 (IntKind.i64.wrap (x6 + y1_1)) (b0 ++ ([(y0_0_1, (y0_1_1, (y0_2_1, (y0_3_1, y0_4_1))))] : List (Int × (ByteArray × (Int × (Int × Int))))))))))))
def j11 (ag10 : Int → (List (Int × (ByteArray × (Int × (Int × Int))))) → Prop) (x0 : ByteArray) (x6 : Int) (b0 : (List (Int × (ByteArray × (Int × (Int × Int)))))) (k : Int → Int → (List (Int × (ByteArray × (Int × (Int × Int))))) → Prop) : Prop :=
  (ag10 (IntKind.i64.wrap (x6 + (1 : Int))) b0)
def c (l5 : ByteArray → Int → (List (Int × (ByteArray × (Int × (Int × Int))))) → Prop) (x0 : ByteArray) (k : Int → Int → (List (Int × (ByteArray × (Int × (Int × Int))))) → Prop) : Prop :=
  (br (decide (((((x0).size : Nat) : Int)) > (65536 : Int))) (k (3 : Int) (0 : Int) ([] : List (Int × (ByteArray × (Int × (Int × Int)))))) (l5 x0 (0 : Int) ([] : List (Int × (ByteArray × (Int × (Int × Int)))))))
def j23' (x0 : ByteArray) (b0 : (List (Int × (ByteArray × (Int × (Int × Int)))))) (k : Int → Int → (List (Int × (ByteArray × (Int × (Int × Int))))) → Prop) : Prop := j23 x0 b0 k
def j12' (ag5 : Int → (List (Int × (ByteArray × (Int × (Int × Int))))) → Prop) (x0 : ByteArray) (x6 : Int) (x7 : Int) (b0 : (List (Int × (ByteArray × (Int × (Int × Int)))))) (k : Int → Int → (List (Int × (ByteArray × (Int × (Int × Int))))) → Prop) : Prop := j12 ag5 x0 x6 x7 b0 k
def j11' (ag10 : Int → (List (Int × (ByteArray × (Int × (Int × Int))))) → Prop) (x0 : ByteArray) (x6 : Int) (b0 : (List (Int × (ByteArray × (Int × (Int × Int)))))) (k : Int → Int → (List (Int × (ByteArray × (Int × (Int × Int))))) → Prop) : Prop := j11 ag10 x0 x6 b0 k
def l10' (ag5 : Int → (List (Int × (ByteArray × (Int × (Int × Int))))) → Prop) (x0 : ByteArray) (x6 : Int) (b0 : (List (Int × (ByteArray × (Int × (Int × Int)))))) (k : Int → Int → (List (Int × (ByteArray × (Int × (Int × Int))))) → Prop) : Prop := ∃ n, loopS (fun (ag : (Int × (List (Int × (ByteArray × (Int × (Int × Int)))))) → Prop) (s : Int × (List (Int × (ByteArray × (Int × (Int × Int)))))) => l10 (fun x0 x6 b0 => j11' (fun x6 b0 => ag (x6, b0)) x0 x6 b0 k) ag5 x0 s.1 s.2 k) n (x6, b0)
def j2000010' (ag5 : Int → (List (Int × (ByteArray × (Int × (Int × Int))))) → Prop) (x0 : ByteArray) (x6 : Int) (x7 : Int) (x55 : Bool) (b0 : (List (Int × (ByteArray × (Int × (Int × Int)))))) (k : Int → Int → (List (Int × (ByteArray × (Int × (Int × Int))))) → Prop) : Prop := j2000010 (fun x0 x6 b0 => l10' ag5 x0 x6 b0 k) (fun x0 x6 x7 b0 => j12' ag5 x0 x6 x7 b0 k) x0 x6 x7 x55 b0 k
def j9' (ag5 : Int → (List (Int × (ByteArray × (Int × (Int × Int))))) → Prop) (x0 : ByteArray) (x6 : Int) (x7 : Int) (b0 : (List (Int × (ByteArray × (Int × (Int × Int)))))) (k : Int → Int → (List (Int × (ByteArray × (Int × (Int × Int))))) → Prop) : Prop := j9 (fun x0 x6 x7 x55 b0 => j2000010' ag5 x0 x6 x7 x55 b0 k) x0 x6 x7 b0 k
def j2000008' (ag5 : Int → (List (Int × (ByteArray × (Int × (Int × Int))))) → Prop) (x0 : ByteArray) (x6 : Int) (x7 : Int) (x37 : Bool) (b0 : (List (Int × (ByteArray × (Int × (Int × Int)))))) (k : Int → Int → (List (Int × (ByteArray × (Int × (Int × Int))))) → Prop) : Prop := j2000008 (fun x0 x6 x7 b0 => j9' ag5 x0 x6 x7 b0 k) ag5 x0 x6 x7 x37 b0 k
def l5' (x0 : ByteArray) (x6 : Int) (b0 : (List (Int × (ByteArray × (Int × (Int × Int)))))) (k : Int → Int → (List (Int × (ByteArray × (Int × (Int × Int))))) → Prop) : Prop := ∃ n, loopS (fun (ag : (Int × (List (Int × (ByteArray × (Int × (Int × Int)))))) → Prop) (s : Int × (List (Int × (ByteArray × (Int × (Int × Int)))))) => l5 (fun x0 x6 x7 x37 b0 => j2000008' (fun x6 b0 => ag (x6, b0)) x0 x6 x7 x37 b0 k) (fun x0 b0 => j23' x0 b0 k) x0 s.1 s.2 k) n (x6, b0)
def f0 (x0 : ByteArray) (k : Int → Int → (List (Int × (ByteArray × (Int × (Int × Int))))) → Prop) : Prop := c (fun x0 x6 b0 => l5' x0 x6 b0 k) x0 k
theorem f_ex : ∃ g : ByteArray → (Int → Int → (List (Int × (ByteArray × (Int × (Int × Int))))) → Prop) → Prop, g = f0 := ⟨_, rfl⟩
noncomputable def f : ByteArray → (Int → Int → (List (Int × (ByteArray × (Int × (Int × Int))))) → Prop) → Prop := Classical.choose f_ex
theorem f_def : f = f0 := Classical.choose_spec f_ex
def mL5 (x0 : ByteArray) (x6 : Int) (b0 : (List (Int × (ByteArray × (Int × (Int × Int)))))) : St := { tmps := mkT 112 0 [(0, (.v (.string x0))), (5, (.sl 0 0)), (6, (.v (.int IntKind.i64 x6)))], hp := [(.lst 42 (Ty.pair (Ty.int IntKind.i64) (Ty.pair Ty.str (Ty.pair (Ty.int IntKind.i64) (Ty.pair (Ty.int IntKind.i64) (Ty.int IntKind.i64))))) b0 0 false)], m := 0 }
def m2000008 (x0 : ByteArray) (x6 : Int) (x7 : Int) (x37 : Bool) (b0 : (List (Int × (ByteArray × (Int × (Int × Int)))))) : St := { tmps := mkT 112 0 [(0, (.v (.string x0))), (5, (.sl 0 0)), (6, (.v (.int IntKind.i64 x6))), (7, (.v (.int IntKind.u8 x7))), (37, (.v (.bool x37)))], hp := [(.lst 42 (Ty.pair (Ty.int IntKind.i64) (Ty.pair Ty.str (Ty.pair (Ty.int IntKind.i64) (Ty.pair (Ty.int IntKind.i64) (Ty.int IntKind.i64))))) b0 0 false)], m := 0 }
def m23 (x0 : ByteArray) (b0 : (List (Int × (ByteArray × (Int × (Int × Int)))))) : St := { tmps := mkT 112 0 [(0, (.v (.string x0))), (5, (.sl 0 0))], hp := [(.lst 42 (Ty.pair (Ty.int IntKind.i64) (Ty.pair Ty.str (Ty.pair (Ty.int IntKind.i64) (Ty.pair (Ty.int IntKind.i64) (Ty.int IntKind.i64))))) b0 0 false)], m := 0 }
def m9 (x0 : ByteArray) (x6 : Int) (x7 : Int) (b0 : (List (Int × (ByteArray × (Int × (Int × Int)))))) : St := { tmps := mkT 112 0 [(0, (.v (.string x0))), (5, (.sl 0 0)), (6, (.v (.int IntKind.i64 x6))), (7, (.v (.int IntKind.u8 x7)))], hp := [(.lst 42 (Ty.pair (Ty.int IntKind.i64) (Ty.pair Ty.str (Ty.pair (Ty.int IntKind.i64) (Ty.pair (Ty.int IntKind.i64) (Ty.int IntKind.i64))))) b0 0 false)], m := 0 }
def m2000010 (x0 : ByteArray) (x6 : Int) (x7 : Int) (x55 : Bool) (b0 : (List (Int × (ByteArray × (Int × (Int × Int)))))) : St := { tmps := mkT 112 0 [(0, (.v (.string x0))), (5, (.sl 0 0)), (6, (.v (.int IntKind.i64 x6))), (7, (.v (.int IntKind.u8 x7))), (55, (.v (.bool x55)))], hp := [(.lst 42 (Ty.pair (Ty.int IntKind.i64) (Ty.pair Ty.str (Ty.pair (Ty.int IntKind.i64) (Ty.pair (Ty.int IntKind.i64) (Ty.int IntKind.i64))))) b0 0 false)], m := 0 }
def mL10 (x0 : ByteArray) (x6 : Int) (b0 : (List (Int × (ByteArray × (Int × (Int × Int)))))) : St := { tmps := mkT 112 0 [(0, (.v (.string x0))), (5, (.sl 0 0)), (6, (.v (.int IntKind.i64 x6)))], hp := [(.lst 42 (Ty.pair (Ty.int IntKind.i64) (Ty.pair Ty.str (Ty.pair (Ty.int IntKind.i64) (Ty.pair (Ty.int IntKind.i64) (Ty.int IntKind.i64))))) b0 0 false)], m := 0 }
def m12 (x0 : ByteArray) (x6 : Int) (x7 : Int) (b0 : (List (Int × (ByteArray × (Int × (Int × Int)))))) : St := { tmps := mkT 112 0 [(0, (.v (.string x0))), (5, (.sl 0 0)), (6, (.v (.int IntKind.i64 x6))), (7, (.v (.int IntKind.u8 x7)))], hp := [(.lst 42 (Ty.pair (Ty.int IntKind.i64) (Ty.pair Ty.str (Ty.pair (Ty.int IntKind.i64) (Ty.pair (Ty.int IntKind.i64) (Ty.int IntKind.i64))))) b0 0 false)], m := 0 }
def m11 (x0 : ByteArray) (x6 : Int) (b0 : (List (Int × (ByteArray × (Int × (Int × Int)))))) : St := { tmps := mkT 112 0 [(0, (.v (.string x0))), (5, (.sl 0 0)), (6, (.v (.int IntKind.i64 x6)))], hp := [(.lst 42 (Ty.pair (Ty.int IntKind.i64) (Ty.pair Ty.str (Ty.pair (Ty.int IntKind.i64) (Ty.pair (Ty.int IntKind.i64) (Ty.int IntKind.i64))))) b0 0 false)], m := 0 }
noncomputable def YL5 (k kp : D → List Blk → Prop) : (St → Prop) → St → Prop := loopB cfg (sub [1, 1, 1, 1, 0, 0, 0] body) (contK cfg (pick none' []) [1, 1, 1, 1, 0, 0] body (topK cfg Tryd.f15 k kp))
noncomputable def XL5 (k kp : D → List Blk → Prop) : St → Prop := fun st => ∃ n, loopN (YL5 k kp) n st
noncomputable def X2000008 (k kp : D → List Blk → Prop) (ag5 : St → Prop) : St → Prop := atP cfg (pick none' [(5, ag5)]) [1, 1, 1, 1, 0, 0, 0, 1, 0, 1, 0, 1] body (topK cfg Tryd.f15 k kp)
noncomputable def X23 (k kp : D → List Blk → Prop) : St → Prop := atP cfg (pick none' []) [1, 1, 1, 1, 1] body (topK cfg Tryd.f15 k kp)
noncomputable def X9 (k kp : D → List Blk → Prop) (ag5 : St → Prop) : St → Prop := atP cfg (pick none' [(5, ag5)]) [1, 1, 1, 1, 0, 0, 0, 1, 0, 1, 1] body (topK cfg Tryd.f15 k kp)
noncomputable def X2000010 (k kp : D → List Blk → Prop) (ag5 : St → Prop) : St → Prop := atP cfg (pick none' [(5, ag5)]) [1, 1, 1, 1, 0, 0, 0, 1, 0, 1, 1, 0, 1] body (topK cfg Tryd.f15 k kp)
noncomputable def YL10 (k kp : D → List Blk → Prop) (ag5 : St → Prop) : (St → Prop) → St → Prop := loopB cfg (sub [1, 1, 1, 1, 0, 0, 0, 1, 0, 1, 1, 0, 1, 0, 0, 0, 0] body) (contK cfg (pick none' [(5, ag5)]) [1, 1, 1, 1, 0, 0, 0, 1, 0, 1, 1, 0, 1, 0, 0, 0] body (topK cfg Tryd.f15 k kp))
noncomputable def XL10 (k kp : D → List Blk → Prop) (ag5 : St → Prop) : St → Prop := fun st => ∃ n, loopN (YL10 k kp ag5) n st
noncomputable def X12 (k kp : D → List Blk → Prop) (ag5 : St → Prop) : St → Prop := atP cfg (pick none' [(5, ag5)]) [1, 1, 1, 1, 0, 0, 0, 1, 0, 1, 1, 1] body (topK cfg Tryd.f15 k kp)
noncomputable def X11 (k kp : D → List Blk → Prop) (ag5 : St → Prop) (ag10 : St → Prop) : St → Prop := atP cfg (pick none' [(5, ag5), (10, ag10)]) [1, 1, 1, 1, 0, 0, 0, 1, 0, 1, 1, 0, 1, 0, 0, 0, 0, 1] body (topK cfg Tryd.f15 k kp)
noncomputable def JJ_5 (k kp : D → List Blk → Prop) (ag5 : St → Prop) : Nat → St → Prop := pick none' [(2000008, X2000008 k kp ag5), (23, X23 k kp), (9, X9 k kp ag5), (2000010, X2000010 k kp ag5), (12, X12 k kp ag5)]
noncomputable def LL_5 (k kp : D → List Blk → Prop) (ag5 : St → Prop) : Nat → St → Prop := pick none' [(5, XL5 k kp), (10, XL10 k kp ag5)]
noncomputable def JJ (k kp : D → List Blk → Prop) : Nat → St → Prop := pick none' [(23, X23 k kp)]
noncomputable def LL (k kp : D → List Blk → Prop) : Nat → St → Prop := pick none' [(5, XL5 k kp)]
noncomputable def JJ_5_10 (k kp : D → List Blk → Prop) (ag5 : St → Prop) (ag10 : St → Prop) : Nat → St → Prop := pick none' [(2000008, X2000008 k kp ag5), (23, X23 k kp), (9, X9 k kp ag5), (2000010, X2000010 k kp ag5), (12, X12 k kp ag5), (11, X11 k kp ag5 ag10)]
noncomputable def LL_5_10 (k kp : D → List Blk → Prop) (ag5 : St → Prop) (ag10 : St → Prop) : Nat → St → Prop := pick none' [(5, XL5 k kp), (10, XL10 k kp ag5)]
theorem j23_c (k kp : D → List Blk → Prop) (J L : Nat → St → Prop) (x0 : ByteArray) (b0 : (List (Int × (ByteArray × (Int × (Int × Int)))))) : runC cfg 23 J L (pick none' []) [1, 1, 1, 1, 1] body (topK cfg Tryd.f15 k kp) (m23 x0 b0) = j23 x0 b0 (fun y1 y2 z0 => k (.tup [(.sl 0 0), (.v (.int IntKind.i64 y1)), (.v (.int IntKind.i64 y2))]) [(.lst 42 (Ty.pair (Ty.int IntKind.i64) (Ty.pair Ty.str (Ty.pair (Ty.int IntKind.i64) (Ty.pair (Ty.int IntKind.i64) (Ty.int IntKind.i64))))) z0 0 false)]) := by kernel_rfl
theorem j23_ag (k kp : D → List Blk → Prop) : agPL cfg 23 (JJ k kp) (LL k kp) [1, 1, 1, 1, 1] body = agPR cfg 23 (pick none' []) [1, 1, 1, 1, 1] body (topK cfg Tryd.f15 k kp) := by kernel_rfl
theorem j23_raw (k kp : D → List Blk → Prop) (x0 : ByteArray) (b0 : (List (Int × (ByteArray × (Int × (Int × Int)))))) : X23 k kp (m23 x0 b0) = j23 x0 b0 (fun y1 y2 z0 => k (.tup [(.sl 0 0), (.v (.int IntKind.i64 y1)), (.v (.int IntKind.i64 y2))]) [(.lst 42 (Ty.pair (Ty.int IntKind.i64) (Ty.pair Ty.str (Ty.pair (Ty.int IntKind.i64) (Ty.pair (Ty.int IntKind.i64) (Ty.int IntKind.i64))))) z0 0 false)]) :=
  Eq.mp (by kernel_rfl) ((atP_run (j23_ag k kp) (m23 x0 b0)).trans (j23_c k kp (JJ k kp) (LL k kp) x0 b0))
theorem j23_eq (k kp : D → List Blk → Prop) (x0 : ByteArray) (b0 : (List (Int × (ByteArray × (Int × (Int × Int)))))) : X23 k kp (m23 x0 b0) = j23' x0 b0 (fun y1 y2 z0 => k (.tup [(.sl 0 0), (.v (.int IntKind.i64 y1)), (.v (.int IntKind.i64 y2))]) [(.lst 42 (Ty.pair (Ty.int IntKind.i64) (Ty.pair Ty.str (Ty.pair (Ty.int IntKind.i64) (Ty.pair (Ty.int IntKind.i64) (Ty.int IntKind.i64))))) z0 0 false)]) := by
  rw [j23_raw]; rfl
theorem j12_c (k kp : D → List Blk → Prop) (J L : Nat → St → Prop) (ag5 : St → Prop) (x0 : ByteArray) (x6 : Int) (x7 : Int) (b0 : (List (Int × (ByteArray × (Int × (Int × Int)))))) : runC cfg 12 J L (pick none' [(5, ag5)]) [1, 1, 1, 1, 0, 0, 0, 1, 0, 1, 1, 1] body (topK cfg Tryd.f15 k kp) (m12 x0 x6 x7 b0) = j12 (fun x6 b0 => ag5 (mL5 x0 x6 b0)) x0 x6 x7 b0 (fun y1 y2 z0 => k (.tup [(.sl 0 0), (.v (.int IntKind.i64 y1)), (.v (.int IntKind.i64 y2))]) [(.lst 42 (Ty.pair (Ty.int IntKind.i64) (Ty.pair Ty.str (Ty.pair (Ty.int IntKind.i64) (Ty.pair (Ty.int IntKind.i64) (Ty.int IntKind.i64))))) z0 0 false)]) := by kernel_rfl
theorem j12_ag (k kp : D → List Blk → Prop) (ag5 : St → Prop) : agPL cfg 12 (JJ_5 k kp ag5) (LL_5 k kp ag5) [1, 1, 1, 1, 0, 0, 0, 1, 0, 1, 1, 1] body = agPR cfg 12 (pick none' [(5, ag5)]) [1, 1, 1, 1, 0, 0, 0, 1, 0, 1, 1, 1] body (topK cfg Tryd.f15 k kp) := by kernel_rfl
theorem j12_raw (k kp : D → List Blk → Prop) (ag5 : St → Prop) (x0 : ByteArray) (x6 : Int) (x7 : Int) (b0 : (List (Int × (ByteArray × (Int × (Int × Int)))))) : X12 k kp ag5 (m12 x0 x6 x7 b0) = j12 (fun x6 b0 => ag5 (mL5 x0 x6 b0)) x0 x6 x7 b0 (fun y1 y2 z0 => k (.tup [(.sl 0 0), (.v (.int IntKind.i64 y1)), (.v (.int IntKind.i64 y2))]) [(.lst 42 (Ty.pair (Ty.int IntKind.i64) (Ty.pair Ty.str (Ty.pair (Ty.int IntKind.i64) (Ty.pair (Ty.int IntKind.i64) (Ty.int IntKind.i64))))) z0 0 false)]) :=
  Eq.mp (by kernel_rfl) ((atP_run (j12_ag k kp ag5) (m12 x0 x6 x7 b0)).trans (j12_c k kp (JJ_5 k kp ag5) (LL_5 k kp ag5) ag5 x0 x6 x7 b0))
theorem j12_eq (k kp : D → List Blk → Prop) (ag5 : St → Prop) (x0 : ByteArray) (x6 : Int) (x7 : Int) (b0 : (List (Int × (ByteArray × (Int × (Int × Int)))))) : X12 k kp ag5 (m12 x0 x6 x7 b0) = j12' (fun x6 b0 => ag5 (mL5 x0 x6 b0)) x0 x6 x7 b0 (fun y1 y2 z0 => k (.tup [(.sl 0 0), (.v (.int IntKind.i64 y1)), (.v (.int IntKind.i64 y2))]) [(.lst 42 (Ty.pair (Ty.int IntKind.i64) (Ty.pair Ty.str (Ty.pair (Ty.int IntKind.i64) (Ty.pair (Ty.int IntKind.i64) (Ty.int IntKind.i64))))) z0 0 false)]) := by
  rw [j12_raw]; rfl
theorem j11_c (k kp : D → List Blk → Prop) (J L : Nat → St → Prop) (ag5 : St → Prop) (ag10 : St → Prop) (x0 : ByteArray) (x6 : Int) (b0 : (List (Int × (ByteArray × (Int × (Int × Int)))))) : runC cfg 11 J L (pick none' [(5, ag5), (10, ag10)]) [1, 1, 1, 1, 0, 0, 0, 1, 0, 1, 1, 0, 1, 0, 0, 0, 0, 1] body (topK cfg Tryd.f15 k kp) (m11 x0 x6 b0) = j11 (fun x6 b0 => ag10 (mL10 x0 x6 b0)) x0 x6 b0 (fun y1 y2 z0 => k (.tup [(.sl 0 0), (.v (.int IntKind.i64 y1)), (.v (.int IntKind.i64 y2))]) [(.lst 42 (Ty.pair (Ty.int IntKind.i64) (Ty.pair Ty.str (Ty.pair (Ty.int IntKind.i64) (Ty.pair (Ty.int IntKind.i64) (Ty.int IntKind.i64))))) z0 0 false)]) := by kernel_rfl
theorem j11_ag (k kp : D → List Blk → Prop) (ag5 : St → Prop) (ag10 : St → Prop) : agPL cfg 11 (JJ_5_10 k kp ag5 ag10) (LL_5_10 k kp ag5 ag10) [1, 1, 1, 1, 0, 0, 0, 1, 0, 1, 1, 0, 1, 0, 0, 0, 0, 1] body = agPR cfg 11 (pick none' [(5, ag5), (10, ag10)]) [1, 1, 1, 1, 0, 0, 0, 1, 0, 1, 1, 0, 1, 0, 0, 0, 0, 1] body (topK cfg Tryd.f15 k kp) := by kernel_rfl
theorem j11_raw (k kp : D → List Blk → Prop) (ag5 : St → Prop) (ag10 : St → Prop) (x0 : ByteArray) (x6 : Int) (b0 : (List (Int × (ByteArray × (Int × (Int × Int)))))) : X11 k kp ag5 ag10 (m11 x0 x6 b0) = j11 (fun x6 b0 => ag10 (mL10 x0 x6 b0)) x0 x6 b0 (fun y1 y2 z0 => k (.tup [(.sl 0 0), (.v (.int IntKind.i64 y1)), (.v (.int IntKind.i64 y2))]) [(.lst 42 (Ty.pair (Ty.int IntKind.i64) (Ty.pair Ty.str (Ty.pair (Ty.int IntKind.i64) (Ty.pair (Ty.int IntKind.i64) (Ty.int IntKind.i64))))) z0 0 false)]) :=
  Eq.mp (by kernel_rfl) ((atP_run (j11_ag k kp ag5 ag10) (m11 x0 x6 b0)).trans (j11_c k kp (JJ_5_10 k kp ag5 ag10) (LL_5_10 k kp ag5 ag10) ag5 ag10 x0 x6 b0))
theorem j11_eq (k kp : D → List Blk → Prop) (ag5 : St → Prop) (ag10 : St → Prop) (x0 : ByteArray) (x6 : Int) (b0 : (List (Int × (ByteArray × (Int × (Int × Int)))))) : X11 k kp ag5 ag10 (m11 x0 x6 b0) = j11' (fun x6 b0 => ag10 (mL10 x0 x6 b0)) x0 x6 b0 (fun y1 y2 z0 => k (.tup [(.sl 0 0), (.v (.int IntKind.i64 y1)), (.v (.int IntKind.i64 y2))]) [(.lst 42 (Ty.pair (Ty.int IntKind.i64) (Ty.pair Ty.str (Ty.pair (Ty.int IntKind.i64) (Ty.pair (Ty.int IntKind.i64) (Ty.int IntKind.i64))))) z0 0 false)]) := by
  rw [j11_raw]; rfl
theorem l10_c (k kp : D → List Blk → Prop) (J L : Nat → St → Prop) (ag5 : St → Prop) (ag10 : St → Prop) (x0 : ByteArray) (x6 : Int) (b0 : (List (Int × (ByteArray × (Int × (Int × Int)))))) : runC cfg 1000001 J L (pick none' [(5, ag5), (10, ag10)]) [1, 1, 1, 1, 0, 0, 0, 1, 0, 1, 1, 0, 1, 0, 0, 0, 0] body (topK cfg Tryd.f15 k kp) (mL10 x0 x6 b0) = l10 (fun x0 x6 b0 => J 11 (m11 x0 x6 b0)) (fun x6 b0 => ag5 (mL5 x0 x6 b0)) x0 x6 b0 (fun y1 y2 z0 => k (.tup [(.sl 0 0), (.v (.int IntKind.i64 y1)), (.v (.int IntKind.i64 y2))]) [(.lst 42 (Ty.pair (Ty.int IntKind.i64) (Ty.pair Ty.str (Ty.pair (Ty.int IntKind.i64) (Ty.pair (Ty.int IntKind.i64) (Ty.int IntKind.i64))))) z0 0 false)]) := by kernel_rfl
theorem l10_ag (k kp : D → List Blk → Prop) (ag5 : St → Prop) (ag10 : St → Prop) : agPL cfg 1000001 (JJ_5_10 k kp ag5 ag10) (LL_5_10 k kp ag5 ag10) [1, 1, 1, 1, 0, 0, 0, 1, 0, 1, 1, 0, 1, 0, 0, 0, 0] body = agPR cfg 1000001 (pick none' [(5, ag5), (10, ag10)]) [1, 1, 1, 1, 0, 0, 0, 1, 0, 1, 1, 0, 1, 0, 0, 0, 0] body (topK cfg Tryd.f15 k kp) := by kernel_rfl
theorem l10_raw (k kp : D → List Blk → Prop) (ag5 : St → Prop) (ag10 : St → Prop) (x0 : ByteArray) (x6 : Int) (b0 : (List (Int × (ByteArray × (Int × (Int × Int)))))) : YL10 k kp ag5 ag10 (mL10 x0 x6 b0) = l10 (fun x0 x6 b0 => X11 k kp ag5 ag10 (m11 x0 x6 b0)) (fun x6 b0 => ag5 (mL5 x0 x6 b0)) x0 x6 b0 (fun y1 y2 z0 => k (.tup [(.sl 0 0), (.v (.int IntKind.i64 y1)), (.v (.int IntKind.i64 y2))]) [(.lst 42 (Ty.pair (Ty.int IntKind.i64) (Ty.pair Ty.str (Ty.pair (Ty.int IntKind.i64) (Ty.pair (Ty.int IntKind.i64) (Ty.int IntKind.i64))))) z0 0 false)]) :=
  Eq.mp (by kernel_rfl) ((atP_run (l10_ag k kp ag5 ag10) (mL10 x0 x6 b0)).trans (l10_c k kp (JJ_5_10 k kp ag5 ag10) (LL_5_10 k kp ag5 ag10) ag5 ag10 x0 x6 b0))
theorem l10_eq (k kp : D → List Blk → Prop) (ag5 : St → Prop) (x0 : ByteArray) (x6 : Int) (b0 : (List (Int × (ByteArray × (Int × (Int × Int)))))) : XL10 k kp ag5 (mL10 x0 x6 b0) = l10' (fun x6 b0 => ag5 (mL5 x0 x6 b0)) x0 x6 b0 (fun y1 y2 z0 => k (.tup [(.sl 0 0), (.v (.int IntKind.i64 y1)), (.v (.int IntKind.i64 y2))]) [(.lst 42 (Ty.pair (Ty.int IntKind.i64) (Ty.pair Ty.str (Ty.pair (Ty.int IntKind.i64) (Ty.pair (Ty.int IntKind.i64) (Ty.int IntKind.i64))))) z0 0 false)]) :=
  loop_eq (mk := fun (s : Int × (List (Int × (ByteArray × (Int × (Int × Int)))))) => mL10 x0 s.1 s.2) (fun again s => by rw [l10_raw k kp ag5 again x0 s.1 s.2]; simp only [j11_eq]; first | done | rfl) (x6, b0)
theorem j2000010_c (k kp : D → List Blk → Prop) (J L : Nat → St → Prop) (ag5 : St → Prop) (x0 : ByteArray) (x6 : Int) (x7 : Int) (x55 : Bool) (b0 : (List (Int × (ByteArray × (Int × (Int × Int)))))) : runC cfg 2000010 J L (pick none' [(5, ag5)]) [1, 1, 1, 1, 0, 0, 0, 1, 0, 1, 1, 0, 1] body (topK cfg Tryd.f15 k kp) (m2000010 x0 x6 x7 x55 b0) = j2000010 (fun x0 x6 b0 => L 10 (mL10 x0 x6 b0)) (fun x0 x6 x7 b0 => J 12 (m12 x0 x6 x7 b0)) x0 x6 x7 x55 b0 (fun y1 y2 z0 => k (.tup [(.sl 0 0), (.v (.int IntKind.i64 y1)), (.v (.int IntKind.i64 y2))]) [(.lst 42 (Ty.pair (Ty.int IntKind.i64) (Ty.pair Ty.str (Ty.pair (Ty.int IntKind.i64) (Ty.pair (Ty.int IntKind.i64) (Ty.int IntKind.i64))))) z0 0 false)]) := by kernel_rfl
theorem j2000010_ag (k kp : D → List Blk → Prop) (ag5 : St → Prop) : agPL cfg 2000010 (JJ_5 k kp ag5) (LL_5 k kp ag5) [1, 1, 1, 1, 0, 0, 0, 1, 0, 1, 1, 0, 1] body = agPR cfg 2000010 (pick none' [(5, ag5)]) [1, 1, 1, 1, 0, 0, 0, 1, 0, 1, 1, 0, 1] body (topK cfg Tryd.f15 k kp) := by kernel_rfl
theorem j2000010_raw (k kp : D → List Blk → Prop) (ag5 : St → Prop) (x0 : ByteArray) (x6 : Int) (x7 : Int) (x55 : Bool) (b0 : (List (Int × (ByteArray × (Int × (Int × Int)))))) : X2000010 k kp ag5 (m2000010 x0 x6 x7 x55 b0) = j2000010 (fun x0 x6 b0 => XL10 k kp ag5 (mL10 x0 x6 b0)) (fun x0 x6 x7 b0 => X12 k kp ag5 (m12 x0 x6 x7 b0)) x0 x6 x7 x55 b0 (fun y1 y2 z0 => k (.tup [(.sl 0 0), (.v (.int IntKind.i64 y1)), (.v (.int IntKind.i64 y2))]) [(.lst 42 (Ty.pair (Ty.int IntKind.i64) (Ty.pair Ty.str (Ty.pair (Ty.int IntKind.i64) (Ty.pair (Ty.int IntKind.i64) (Ty.int IntKind.i64))))) z0 0 false)]) :=
  Eq.mp (by kernel_rfl) ((atP_run (j2000010_ag k kp ag5) (m2000010 x0 x6 x7 x55 b0)).trans (j2000010_c k kp (JJ_5 k kp ag5) (LL_5 k kp ag5) ag5 x0 x6 x7 x55 b0))
theorem j2000010_eq (k kp : D → List Blk → Prop) (ag5 : St → Prop) (x0 : ByteArray) (x6 : Int) (x7 : Int) (x55 : Bool) (b0 : (List (Int × (ByteArray × (Int × (Int × Int)))))) : X2000010 k kp ag5 (m2000010 x0 x6 x7 x55 b0) = j2000010' (fun x6 b0 => ag5 (mL5 x0 x6 b0)) x0 x6 x7 x55 b0 (fun y1 y2 z0 => k (.tup [(.sl 0 0), (.v (.int IntKind.i64 y1)), (.v (.int IntKind.i64 y2))]) [(.lst 42 (Ty.pair (Ty.int IntKind.i64) (Ty.pair Ty.str (Ty.pair (Ty.int IntKind.i64) (Ty.pair (Ty.int IntKind.i64) (Ty.int IntKind.i64))))) z0 0 false)]) := by
  rw [j2000010_raw]; simp only [l10_eq, j12_eq]; first | done | rfl
theorem j9_c (k kp : D → List Blk → Prop) (J L : Nat → St → Prop) (ag5 : St → Prop) (x0 : ByteArray) (x6 : Int) (x7 : Int) (b0 : (List (Int × (ByteArray × (Int × (Int × Int)))))) : runC cfg 9 J L (pick none' [(5, ag5)]) [1, 1, 1, 1, 0, 0, 0, 1, 0, 1, 1] body (topK cfg Tryd.f15 k kp) (m9 x0 x6 x7 b0) = j9 (fun x0 x6 x7 x55 b0 => J 2000010 (m2000010 x0 x6 x7 x55 b0)) x0 x6 x7 b0 (fun y1 y2 z0 => k (.tup [(.sl 0 0), (.v (.int IntKind.i64 y1)), (.v (.int IntKind.i64 y2))]) [(.lst 42 (Ty.pair (Ty.int IntKind.i64) (Ty.pair Ty.str (Ty.pair (Ty.int IntKind.i64) (Ty.pair (Ty.int IntKind.i64) (Ty.int IntKind.i64))))) z0 0 false)]) := by kernel_rfl
theorem j9_ag (k kp : D → List Blk → Prop) (ag5 : St → Prop) : agPL cfg 9 (JJ_5 k kp ag5) (LL_5 k kp ag5) [1, 1, 1, 1, 0, 0, 0, 1, 0, 1, 1] body = agPR cfg 9 (pick none' [(5, ag5)]) [1, 1, 1, 1, 0, 0, 0, 1, 0, 1, 1] body (topK cfg Tryd.f15 k kp) := by kernel_rfl
theorem j9_raw (k kp : D → List Blk → Prop) (ag5 : St → Prop) (x0 : ByteArray) (x6 : Int) (x7 : Int) (b0 : (List (Int × (ByteArray × (Int × (Int × Int)))))) : X9 k kp ag5 (m9 x0 x6 x7 b0) = j9 (fun x0 x6 x7 x55 b0 => X2000010 k kp ag5 (m2000010 x0 x6 x7 x55 b0)) x0 x6 x7 b0 (fun y1 y2 z0 => k (.tup [(.sl 0 0), (.v (.int IntKind.i64 y1)), (.v (.int IntKind.i64 y2))]) [(.lst 42 (Ty.pair (Ty.int IntKind.i64) (Ty.pair Ty.str (Ty.pair (Ty.int IntKind.i64) (Ty.pair (Ty.int IntKind.i64) (Ty.int IntKind.i64))))) z0 0 false)]) :=
  Eq.mp (by kernel_rfl) ((atP_run (j9_ag k kp ag5) (m9 x0 x6 x7 b0)).trans (j9_c k kp (JJ_5 k kp ag5) (LL_5 k kp ag5) ag5 x0 x6 x7 b0))
theorem j9_eq (k kp : D → List Blk → Prop) (ag5 : St → Prop) (x0 : ByteArray) (x6 : Int) (x7 : Int) (b0 : (List (Int × (ByteArray × (Int × (Int × Int)))))) : X9 k kp ag5 (m9 x0 x6 x7 b0) = j9' (fun x6 b0 => ag5 (mL5 x0 x6 b0)) x0 x6 x7 b0 (fun y1 y2 z0 => k (.tup [(.sl 0 0), (.v (.int IntKind.i64 y1)), (.v (.int IntKind.i64 y2))]) [(.lst 42 (Ty.pair (Ty.int IntKind.i64) (Ty.pair Ty.str (Ty.pair (Ty.int IntKind.i64) (Ty.pair (Ty.int IntKind.i64) (Ty.int IntKind.i64))))) z0 0 false)]) := by
  rw [j9_raw]; simp only [j2000010_eq]; first | done | rfl
theorem j2000008_c (k kp : D → List Blk → Prop) (J L : Nat → St → Prop) (ag5 : St → Prop) (x0 : ByteArray) (x6 : Int) (x7 : Int) (x37 : Bool) (b0 : (List (Int × (ByteArray × (Int × (Int × Int)))))) : runC cfg 2000008 J L (pick none' [(5, ag5)]) [1, 1, 1, 1, 0, 0, 0, 1, 0, 1, 0, 1] body (topK cfg Tryd.f15 k kp) (m2000008 x0 x6 x7 x37 b0) = j2000008 (fun x0 x6 x7 b0 => J 9 (m9 x0 x6 x7 b0)) (fun x6 b0 => ag5 (mL5 x0 x6 b0)) x0 x6 x7 x37 b0 (fun y1 y2 z0 => k (.tup [(.sl 0 0), (.v (.int IntKind.i64 y1)), (.v (.int IntKind.i64 y2))]) [(.lst 42 (Ty.pair (Ty.int IntKind.i64) (Ty.pair Ty.str (Ty.pair (Ty.int IntKind.i64) (Ty.pair (Ty.int IntKind.i64) (Ty.int IntKind.i64))))) z0 0 false)]) := by kernel_rfl
theorem j2000008_ag (k kp : D → List Blk → Prop) (ag5 : St → Prop) : agPL cfg 2000008 (JJ_5 k kp ag5) (LL_5 k kp ag5) [1, 1, 1, 1, 0, 0, 0, 1, 0, 1, 0, 1] body = agPR cfg 2000008 (pick none' [(5, ag5)]) [1, 1, 1, 1, 0, 0, 0, 1, 0, 1, 0, 1] body (topK cfg Tryd.f15 k kp) := by kernel_rfl
theorem j2000008_raw (k kp : D → List Blk → Prop) (ag5 : St → Prop) (x0 : ByteArray) (x6 : Int) (x7 : Int) (x37 : Bool) (b0 : (List (Int × (ByteArray × (Int × (Int × Int)))))) : X2000008 k kp ag5 (m2000008 x0 x6 x7 x37 b0) = j2000008 (fun x0 x6 x7 b0 => X9 k kp ag5 (m9 x0 x6 x7 b0)) (fun x6 b0 => ag5 (mL5 x0 x6 b0)) x0 x6 x7 x37 b0 (fun y1 y2 z0 => k (.tup [(.sl 0 0), (.v (.int IntKind.i64 y1)), (.v (.int IntKind.i64 y2))]) [(.lst 42 (Ty.pair (Ty.int IntKind.i64) (Ty.pair Ty.str (Ty.pair (Ty.int IntKind.i64) (Ty.pair (Ty.int IntKind.i64) (Ty.int IntKind.i64))))) z0 0 false)]) :=
  Eq.mp (by kernel_rfl) ((atP_run (j2000008_ag k kp ag5) (m2000008 x0 x6 x7 x37 b0)).trans (j2000008_c k kp (JJ_5 k kp ag5) (LL_5 k kp ag5) ag5 x0 x6 x7 x37 b0))
theorem j2000008_eq (k kp : D → List Blk → Prop) (ag5 : St → Prop) (x0 : ByteArray) (x6 : Int) (x7 : Int) (x37 : Bool) (b0 : (List (Int × (ByteArray × (Int × (Int × Int)))))) : X2000008 k kp ag5 (m2000008 x0 x6 x7 x37 b0) = j2000008' (fun x6 b0 => ag5 (mL5 x0 x6 b0)) x0 x6 x7 x37 b0 (fun y1 y2 z0 => k (.tup [(.sl 0 0), (.v (.int IntKind.i64 y1)), (.v (.int IntKind.i64 y2))]) [(.lst 42 (Ty.pair (Ty.int IntKind.i64) (Ty.pair Ty.str (Ty.pair (Ty.int IntKind.i64) (Ty.pair (Ty.int IntKind.i64) (Ty.int IntKind.i64))))) z0 0 false)]) := by
  rw [j2000008_raw]; simp only [j9_eq]; first | done | rfl
theorem l5_c (k kp : D → List Blk → Prop) (J L : Nat → St → Prop) (ag5 : St → Prop) (x0 : ByteArray) (x6 : Int) (b0 : (List (Int × (ByteArray × (Int × (Int × Int)))))) : runC cfg 1000001 J L (pick none' [(5, ag5)]) [1, 1, 1, 1, 0, 0, 0] body (topK cfg Tryd.f15 k kp) (mL5 x0 x6 b0) = l5 (fun x0 x6 x7 x37 b0 => J 2000008 (m2000008 x0 x6 x7 x37 b0)) (fun x0 b0 => J 23 (m23 x0 b0)) x0 x6 b0 (fun y1 y2 z0 => k (.tup [(.sl 0 0), (.v (.int IntKind.i64 y1)), (.v (.int IntKind.i64 y2))]) [(.lst 42 (Ty.pair (Ty.int IntKind.i64) (Ty.pair Ty.str (Ty.pair (Ty.int IntKind.i64) (Ty.pair (Ty.int IntKind.i64) (Ty.int IntKind.i64))))) z0 0 false)]) := by kernel_rfl
theorem l5_ag (k kp : D → List Blk → Prop) (ag5 : St → Prop) : agPL cfg 1000001 (JJ_5 k kp ag5) (LL_5 k kp ag5) [1, 1, 1, 1, 0, 0, 0] body = agPR cfg 1000001 (pick none' [(5, ag5)]) [1, 1, 1, 1, 0, 0, 0] body (topK cfg Tryd.f15 k kp) := by kernel_rfl
theorem l5_raw (k kp : D → List Blk → Prop) (ag5 : St → Prop) (x0 : ByteArray) (x6 : Int) (b0 : (List (Int × (ByteArray × (Int × (Int × Int)))))) : YL5 k kp ag5 (mL5 x0 x6 b0) = l5 (fun x0 x6 x7 x37 b0 => X2000008 k kp ag5 (m2000008 x0 x6 x7 x37 b0)) (fun x0 b0 => X23 k kp (m23 x0 b0)) x0 x6 b0 (fun y1 y2 z0 => k (.tup [(.sl 0 0), (.v (.int IntKind.i64 y1)), (.v (.int IntKind.i64 y2))]) [(.lst 42 (Ty.pair (Ty.int IntKind.i64) (Ty.pair Ty.str (Ty.pair (Ty.int IntKind.i64) (Ty.pair (Ty.int IntKind.i64) (Ty.int IntKind.i64))))) z0 0 false)]) :=
  Eq.mp (by kernel_rfl) ((atP_run (l5_ag k kp ag5) (mL5 x0 x6 b0)).trans (l5_c k kp (JJ_5 k kp ag5) (LL_5 k kp ag5) ag5 x0 x6 b0))
theorem l5_eq (k kp : D → List Blk → Prop) (x0 : ByteArray) (x6 : Int) (b0 : (List (Int × (ByteArray × (Int × (Int × Int)))))) : XL5 k kp (mL5 x0 x6 b0) = l5' x0 x6 b0 (fun y1 y2 z0 => k (.tup [(.sl 0 0), (.v (.int IntKind.i64 y1)), (.v (.int IntKind.i64 y2))]) [(.lst 42 (Ty.pair (Ty.int IntKind.i64) (Ty.pair Ty.str (Ty.pair (Ty.int IntKind.i64) (Ty.pair (Ty.int IntKind.i64) (Ty.int IntKind.i64))))) z0 0 false)]) :=
  loop_eq (mk := fun (s : Int × (List (Int × (ByteArray × (Int × (Int × Int)))))) => mL5 x0 s.1 s.2) (fun again s => by rw [l5_raw k kp again x0 s.1 s.2]; simp only [j2000008_eq, j23_eq]; first | done | rfl) (x6, b0)
theorem c_c (k kp : D → List Blk → Prop) (J L : Nat → St → Prop) (x0 : ByteArray) : runC cfg 1000001 J L none'' [] body (topK cfg Tryd.f15 k kp) (st0 Tryd.f15 [(.v (.string x0))] []) = c (fun x0 x6 b0 => L 5 (mL5 x0 x6 b0)) x0 (fun y1 y2 z0 => k (.tup [(.sl 0 0), (.v (.int IntKind.i64 y1)), (.v (.int IntKind.i64 y2))]) [(.lst 42 (Ty.pair (Ty.int IntKind.i64) (Ty.pair Ty.str (Ty.pair (Ty.int IntKind.i64) (Ty.pair (Ty.int IntKind.i64) (Ty.int IntKind.i64))))) z0 0 false)]) := by kernel_rfl
theorem c_ag (k kp : D → List Blk → Prop) : agPL cfg 1000001 (JJ k kp) (LL k kp) [] body = agPR cfg 1000001 none'' [] body (topK cfg Tryd.f15 k kp) := by kernel_rfl
theorem body_is : Tryd.f15.body = some body := by kernel_rfl
theorem c_raw (k kp : D → List Blk → Prop) (x0 : ByteArray) : funW cfg Tryd.f15 [(.v (.string x0))] [] k kp = c (fun x0 x6 b0 => XL5 k kp (mL5 x0 x6 b0)) x0 (fun y1 y2 z0 => k (.tup [(.sl 0 0), (.v (.int IntKind.i64 y1)), (.v (.int IntKind.i64 y2))]) [(.lst 42 (Ty.pair (Ty.int IntKind.i64) (Ty.pair Ty.str (Ty.pair (Ty.int IntKind.i64) (Ty.pair (Ty.int IntKind.i64) (Ty.int IntKind.i64))))) z0 0 false)]) :=
  Eq.mp (by kernel_rfl) ((funW_run (AG := none'') body_is (c_ag k kp) [(.v (.string x0))] []).trans (c_c k kp (JJ k kp) (LL k kp) x0))
theorem f_eq (k kp : D → List Blk → Prop) (x0 : ByteArray) : funW cfg Tryd.f15 [(.v (.string x0))] [] k kp = f x0 (fun y1 y2 z0 => k (.tup [(.sl 0 0), (.v (.int IntKind.i64 y1)), (.v (.int IntKind.i64 y2))]) [(.lst 42 (Ty.pair (Ty.int IntKind.i64) (Ty.pair Ty.str (Ty.pair (Ty.int IntKind.i64) (Ty.pair (Ty.int IntKind.i64) (Ty.int IntKind.i64))))) z0 0 false)]) := by
  rw [f_def, c_raw]; simp only [l5_eq]; first | done | rfl
noncomputable def ent0 : Entry := fun args blks k _ => match args, blks with
  | [d0], [] => aStr d0 fun x0 => f x0 (fun y1 y2 z0 => k (.tup [(.sl 0 0), (.v (.int IntKind.i64 y1)), (.v (.int IntKind.i64 y2))]) [(.lst 42 (Ty.pair (Ty.int IntKind.i64) (Ty.pair Ty.str (Ty.pair (Ty.int IntKind.i64) (Ty.pair (Ty.int IntKind.i64) (Ty.int IntKind.i64))))) z0 0 false)])
  | _, _ => False
noncomputable def ent : Entry := fun args blks k kp => ent0 (convB [.no] args) blks k kp
theorem ok : EntOk Tryd.prog 49 0 15 ent := by
  refine EntOk.convB (EntOk.of (funW_ok (cfg := cfg) (tyOk_of rfl rfl tyL_ok) (eqOk_of (P := Tryd.prog) rfl rfl (by kernel_rfl)) mixed_ok (tab_ok ?_) Tryd.func15 (by rfl) (by rfl)) ?_) _
  · intro p hp
    simp only [List.mem_cons, List.not_mem_nil, or_false] at hp
    rcases hp with rfl | rfl
    · exact N26.ok
    · exact N27.ok
  · intro args blks k kp h k' kp'
    match args, blks, h with
    | [d0], [], h =>
    dsimp only [ent0] at h
    have h9 := aStr_elim h; clear h; obtain ⟨x0, rfl, h⟩ := h9
    exact (f_eq k' kp' x0).symm
end N15
end Go.Proofs.Ye
namespace Go.Proofs.Ye
open Go Go.Aw Go.Proofs
set_option linter.unusedVariables false
set_option linter.unusedSimpArgs false
set_option maxRecDepth 100000
/-! dyehouse/dyehouseref09.Same -/
namespace N16
noncomputable def cfg : Cfg := { P := Tryd.prog, tf := 49, tw := 0, ty := tys, E := tab [], atSeq := tab [(8, ⟨[]⟩)], atLoop := tab [(4, ⟨[(0, .keep), (1, .keep), (5, .keep)]⟩)], outs := [], eqT := tab [(42, [(Ty.int IntKind.i64), Ty.str, (Ty.int IntKind.i64), (Ty.int IntKind.i64), (Ty.int IntKind.i64)])], bT := tab [] }
noncomputable def body : Code := bodyOf Tryd.f16
def l4 (j8 : Prop) (ag4 : Int → Prop) (x0 : (List (Int × (ByteArray × (Int × (Int × Int)))))) (x1 : (List (Int × (ByteArray × (Int × (Int × Int)))))) (x5 : Int) (k : Bool → Prop) : Prop :=
  (br (decide (x5 < ((((x0).length : Nat) : Int)))) ((inB 0 x5 ((((x0).length : Nat) : Int) - 1)) ∧ ((inB 0 x5 ((((x1).length : Nat) : Int) - 1)) ∧ (br (!(((x0.getD (Int.toNat x5) ((0, (ByteArray.empty, (0, (0, 0)))))).1 == (x1.getD (Int.toNat x5) ((0, (ByteArray.empty, (0, (0, 0)))))).1) && (beqS (x0.getD (Int.toNat x5) ((0, (ByteArray.empty, (0, (0, 0)))))).2.1 (x1.getD (Int.toNat x5) ((0, (ByteArray.empty, (0, (0, 0)))))).2.1 && (((x0.getD (Int.toNat x5) ((0, (ByteArray.empty, (0, (0, 0)))))).2.2.1 == (x1.getD (Int.toNat x5) ((0, (ByteArray.empty, (0, (0, 0)))))).2.2.1) && (((x0.getD (Int.toNat x5) ((0, (ByteArray.empty, (0, (0, 0)))))).2.2.2.1 == (x1.getD (Int.toNat x5) ((0, (ByteArray.empty, (0, (0, 0)))))).2.2.2.1) && (((x0.getD (Int.toNat x5) ((0, (ByteArray.empty, (0, (0, 0)))))).2.2.2.2 == (x1.getD (Int.toNat x5) ((0, (ByteArray.empty, (0, (0, 0)))))).2.2.2.2) && true)))))) (k false) (ag4 (IntKind.i64.wrap (x5 + (1 : Int))))))) (j8))
def j8 (k : Bool → Prop) : Prop :=
  (k true)
def c (l4 : (List (Int × (ByteArray × (Int × (Int × Int))))) → (List (Int × (ByteArray × (Int × (Int × Int))))) → Int → Prop) (x0 : (List (Int × (ByteArray × (Int × (Int × Int)))))) (x1 : (List (Int × (ByteArray × (Int × (Int × Int)))))) (k : Bool → Prop) : Prop :=
  (br (((((x0).length : Nat) : Int)) != ((((x1).length : Nat) : Int))) (k false) (l4 x0 x1 (0 : Int)))
def j8' (k : Bool → Prop) : Prop := j8 k
def l4' (x0 : (List (Int × (ByteArray × (Int × (Int × Int)))))) (x1 : (List (Int × (ByteArray × (Int × (Int × Int)))))) (x5 : Int) (k : Bool → Prop) : Prop := ∃ n, loopS (fun (ag : (Int) → Prop) (s : Int) => l4 (j8' k) (fun x5 => ag (x5)) x0 x1 s k) n (x5)
def f0 (x0 : (List (Int × (ByteArray × (Int × (Int × Int)))))) (x1 : (List (Int × (ByteArray × (Int × (Int × Int)))))) (k : Bool → Prop) : Prop := c (fun x0 x1 x5 => l4' x0 x1 x5 k) x0 x1 k
theorem f_ex : ∃ g : (List (Int × (ByteArray × (Int × (Int × Int))))) → (List (Int × (ByteArray × (Int × (Int × Int))))) → (Bool → Prop) → Prop, g = f0 := ⟨_, rfl⟩
noncomputable def f : (List (Int × (ByteArray × (Int × (Int × Int))))) → (List (Int × (ByteArray × (Int × (Int × Int))))) → (Bool → Prop) → Prop := Classical.choose f_ex
theorem f_def : f = f0 := Classical.choose_spec f_ex
def mL4 (x0 : (List (Int × (ByteArray × (Int × (Int × Int)))))) (x1 : (List (Int × (ByteArray × (Int × (Int × Int)))))) (x5 : Int) : St := { tmps := mkT 26 0 [(0, (.fz (Ty.pair (Ty.int IntKind.i64) (Ty.pair Ty.str (Ty.pair (Ty.int IntKind.i64) (Ty.pair (Ty.int IntKind.i64) (Ty.int IntKind.i64))))) x0)), (1, (.fz (Ty.pair (Ty.int IntKind.i64) (Ty.pair Ty.str (Ty.pair (Ty.int IntKind.i64) (Ty.pair (Ty.int IntKind.i64) (Ty.int IntKind.i64))))) x1)), (5, (.v (.int IntKind.i64 x5)))], hp := [], m := 0 }
def m8 : St := { tmps := mkT 26 0 [], hp := [], m := 0 }
noncomputable def YL4 (k kp : D → List Blk → Prop) : (St → Prop) → St → Prop := loopB cfg (sub [1, 1, 0, 1, 0, 0] body) (contK cfg (pick none' []) [1, 1, 0, 1, 0] body (topK cfg Tryd.f16 k kp))
noncomputable def XL4 (k kp : D → List Blk → Prop) : St → Prop := fun st => ∃ n, loopN (YL4 k kp) n st
noncomputable def X8 (k kp : D → List Blk → Prop) : St → Prop := atP cfg (pick none' []) [1, 1, 1] body (topK cfg Tryd.f16 k kp)
noncomputable def JJ_4 (k kp : D → List Blk → Prop) (ag4 : St → Prop) : Nat → St → Prop := pick none' [(8, X8 k kp)]
noncomputable def LL_4 (k kp : D → List Blk → Prop) (ag4 : St → Prop) : Nat → St → Prop := pick none' [(4, XL4 k kp)]
noncomputable def JJ (k kp : D → List Blk → Prop) : Nat → St → Prop := pick none' [(8, X8 k kp)]
noncomputable def LL (k kp : D → List Blk → Prop) : Nat → St → Prop := pick none' [(4, XL4 k kp)]
theorem j8_c (k kp : D → List Blk → Prop) (J L : Nat → St → Prop) : runC cfg 8 J L (pick none' []) [1, 1, 1] body (topK cfg Tryd.f16 k kp) (m8) = j8 (fun y0 => k (.v (.bool y0)) []) := by kernel_rfl
theorem j8_ag (k kp : D → List Blk → Prop) : agPL cfg 8 (JJ k kp) (LL k kp) [1, 1, 1] body = agPR cfg 8 (pick none' []) [1, 1, 1] body (topK cfg Tryd.f16 k kp) := by kernel_rfl
theorem j8_raw (k kp : D → List Blk → Prop) : X8 k kp (m8) = j8 (fun y0 => k (.v (.bool y0)) []) :=
  Eq.mp (by kernel_rfl) ((atP_run (j8_ag k kp) (m8)).trans (j8_c k kp (JJ k kp) (LL k kp)))
theorem j8_eq (k kp : D → List Blk → Prop) : X8 k kp (m8) = j8' (fun y0 => k (.v (.bool y0)) []) := by
  rw [j8_raw]; rfl
theorem l4_c (k kp : D → List Blk → Prop) (J L : Nat → St → Prop) (ag4 : St → Prop) (x0 : (List (Int × (ByteArray × (Int × (Int × Int)))))) (x1 : (List (Int × (ByteArray × (Int × (Int × Int)))))) (x5 : Int) : runC cfg 1000001 J L (pick none' [(4, ag4)]) [1, 1, 0, 1, 0, 0] body (topK cfg Tryd.f16 k kp) (mL4 x0 x1 x5) = l4 (J 8 (m8)) (fun x5 => ag4 (mL4 x0 x1 x5)) x0 x1 x5 (fun y0 => k (.v (.bool y0)) []) := by kernel_rfl
theorem l4_ag (k kp : D → List Blk → Prop) (ag4 : St → Prop) : agPL cfg 1000001 (JJ_4 k kp ag4) (LL_4 k kp ag4) [1, 1, 0, 1, 0, 0] body = agPR cfg 1000001 (pick none' [(4, ag4)]) [1, 1, 0, 1, 0, 0] body (topK cfg Tryd.f16 k kp) := by kernel_rfl
theorem l4_raw (k kp : D → List Blk → Prop) (ag4 : St → Prop) (x0 : (List (Int × (ByteArray × (Int × (Int × Int)))))) (x1 : (List (Int × (ByteArray × (Int × (Int × Int)))))) (x5 : Int) : YL4 k kp ag4 (mL4 x0 x1 x5) = l4 (X8 k kp (m8)) (fun x5 => ag4 (mL4 x0 x1 x5)) x0 x1 x5 (fun y0 => k (.v (.bool y0)) []) :=
  Eq.mp (by kernel_rfl) ((atP_run (l4_ag k kp ag4) (mL4 x0 x1 x5)).trans (l4_c k kp (JJ_4 k kp ag4) (LL_4 k kp ag4) ag4 x0 x1 x5))
theorem l4_eq (k kp : D → List Blk → Prop) (x0 : (List (Int × (ByteArray × (Int × (Int × Int)))))) (x1 : (List (Int × (ByteArray × (Int × (Int × Int)))))) (x5 : Int) : XL4 k kp (mL4 x0 x1 x5) = l4' x0 x1 x5 (fun y0 => k (.v (.bool y0)) []) :=
  loop_eq (mk := fun (s : Int) => mL4 x0 x1 s) (fun again s => by rw [l4_raw k kp again x0 x1 s]; simp only [j8_eq]; first | done | rfl) (x5)
theorem c_c (k kp : D → List Blk → Prop) (J L : Nat → St → Prop) (x0 : (List (Int × (ByteArray × (Int × (Int × Int)))))) (x1 : (List (Int × (ByteArray × (Int × (Int × Int)))))) : runC cfg 1000001 J L none'' [] body (topK cfg Tryd.f16 k kp) (st0 Tryd.f16 [(.fz (Ty.pair (Ty.int IntKind.i64) (Ty.pair Ty.str (Ty.pair (Ty.int IntKind.i64) (Ty.pair (Ty.int IntKind.i64) (Ty.int IntKind.i64))))) x0), (.fz (Ty.pair (Ty.int IntKind.i64) (Ty.pair Ty.str (Ty.pair (Ty.int IntKind.i64) (Ty.pair (Ty.int IntKind.i64) (Ty.int IntKind.i64))))) x1)] []) = c (fun x0 x1 x5 => L 4 (mL4 x0 x1 x5)) x0 x1 (fun y0 => k (.v (.bool y0)) []) := by kernel_rfl
theorem c_ag (k kp : D → List Blk → Prop) : agPL cfg 1000001 (JJ k kp) (LL k kp) [] body = agPR cfg 1000001 none'' [] body (topK cfg Tryd.f16 k kp) := by kernel_rfl
theorem body_is : Tryd.f16.body = some body := by kernel_rfl
theorem c_raw (k kp : D → List Blk → Prop) (x0 : (List (Int × (ByteArray × (Int × (Int × Int)))))) (x1 : (List (Int × (ByteArray × (Int × (Int × Int)))))) : funW cfg Tryd.f16 [(.fz (Ty.pair (Ty.int IntKind.i64) (Ty.pair Ty.str (Ty.pair (Ty.int IntKind.i64) (Ty.pair (Ty.int IntKind.i64) (Ty.int IntKind.i64))))) x0), (.fz (Ty.pair (Ty.int IntKind.i64) (Ty.pair Ty.str (Ty.pair (Ty.int IntKind.i64) (Ty.pair (Ty.int IntKind.i64) (Ty.int IntKind.i64))))) x1)] [] k kp = c (fun x0 x1 x5 => XL4 k kp (mL4 x0 x1 x5)) x0 x1 (fun y0 => k (.v (.bool y0)) []) :=
  Eq.mp (by kernel_rfl) ((funW_run (AG := none'') body_is (c_ag k kp) [(.fz (Ty.pair (Ty.int IntKind.i64) (Ty.pair Ty.str (Ty.pair (Ty.int IntKind.i64) (Ty.pair (Ty.int IntKind.i64) (Ty.int IntKind.i64))))) x0), (.fz (Ty.pair (Ty.int IntKind.i64) (Ty.pair Ty.str (Ty.pair (Ty.int IntKind.i64) (Ty.pair (Ty.int IntKind.i64) (Ty.int IntKind.i64))))) x1)] []).trans (c_c k kp (JJ k kp) (LL k kp) x0 x1))
theorem f_eq (k kp : D → List Blk → Prop) (x0 : (List (Int × (ByteArray × (Int × (Int × Int)))))) (x1 : (List (Int × (ByteArray × (Int × (Int × Int)))))) : funW cfg Tryd.f16 [(.fz (Ty.pair (Ty.int IntKind.i64) (Ty.pair Ty.str (Ty.pair (Ty.int IntKind.i64) (Ty.pair (Ty.int IntKind.i64) (Ty.int IntKind.i64))))) x0), (.fz (Ty.pair (Ty.int IntKind.i64) (Ty.pair Ty.str (Ty.pair (Ty.int IntKind.i64) (Ty.pair (Ty.int IntKind.i64) (Ty.int IntKind.i64))))) x1)] [] k kp = f x0 x1 (fun y0 => k (.v (.bool y0)) []) := by
  rw [f_def, c_raw]; simp only [l4_eq]; first | done | rfl
noncomputable def ent0 : Entry := fun args blks k _ => match args, blks with
  | [d0, d1], [] => aFz (Ty.pair (Ty.int IntKind.i64) (Ty.pair Ty.str (Ty.pair (Ty.int IntKind.i64) (Ty.pair (Ty.int IntKind.i64) (Ty.int IntKind.i64))))) d0 fun x0 => aFz (Ty.pair (Ty.int IntKind.i64) (Ty.pair Ty.str (Ty.pair (Ty.int IntKind.i64) (Ty.pair (Ty.int IntKind.i64) (Ty.int IntKind.i64))))) d1 fun x1 => f x0 x1 (fun y0 => k (.v (.bool y0)) [])
  | _, _ => False
noncomputable def ent : Entry := fun args blks k kp => ent0 (convB [.one (Ty.pair (Ty.int IntKind.i64) (Ty.pair Ty.str (Ty.pair (Ty.int IntKind.i64) (Ty.pair (Ty.int IntKind.i64) (Ty.int IntKind.i64))))), .one (Ty.pair (Ty.int IntKind.i64) (Ty.pair Ty.str (Ty.pair (Ty.int IntKind.i64) (Ty.pair (Ty.int IntKind.i64) (Ty.int IntKind.i64)))))] args) blks k kp
theorem ok : EntOk Tryd.prog 49 0 16 ent := by
  refine EntOk.convB (EntOk.of (funW_ok (cfg := cfg) (tyOk_of rfl rfl tyL_ok) (eqOk_of (P := Tryd.prog) rfl rfl (by kernel_rfl)) mixed_ok (tab_ok ?_) Tryd.func16 (by rfl) (by rfl)) ?_) _
  · intro p hp
    cases hp
  · intro args blks k kp h k' kp'
    match args, blks, h with
    | [d0, d1], [], h =>
    dsimp only [ent0] at h
    have h9 := aFz_elim (t := (Ty.pair (Ty.int IntKind.i64) (Ty.pair Ty.str (Ty.pair (Ty.int IntKind.i64) (Ty.pair (Ty.int IntKind.i64) (Ty.int IntKind.i64)))))) h; clear h; obtain ⟨x0, rfl, h⟩ := h9
    have h9 := aFz_elim (t := (Ty.pair (Ty.int IntKind.i64) (Ty.pair Ty.str (Ty.pair (Ty.int IntKind.i64) (Ty.pair (Ty.int IntKind.i64) (Ty.int IntKind.i64)))))) h; clear h; obtain ⟨x1, rfl, h⟩ := h9
    exact (f_eq k' kp' x0 x1).symm
end N16
end Go.Proofs.Ye
namespace Go.Proofs.Ye
open Go Go.Aw Go.Proofs Go.RowKit
set_option linter.unusedVariables false
set_option linter.unusedSimpArgs false

theorem rdigits_s (s : ByteArray) (hs : s.size ≤ reachBytes) (p : Nat) (hp : p ≤ s.size) (k : Int → Prop) (h : k (run ((ofBytes s).drop p))) : N49.f s (p : Int) k := by
  have hr : reachBytes < 2 ^ 47 := reachBytes_lt
  have hl := ofBytes_length s
  rw [N49.f_def]
  unfold N49.f0 N49.c N49.l2'
  have hrl := run_le ((ofBytes s).drop p)
  rw [List.length_drop, hl] at hrl
  refine loopS_of (fun x : Int => ∃ j : Nat, x = j ∧ j ≤ run ((ofBytes s).drop p)) (fun x => (s.size - x).toNat) ?_ ⟨0, rfl, Nat.zero_le _⟩
  rintro again x ⟨j, rfl, hj⟩ hag
  unfold N49.l2 N49.j3' N49.j3 N49.j4' N49.j4
  dsimp only
  have ew : IntKind.i64.wrap ((p : Int) + (j : Int)) = ((p + j : Nat) : Int) := by rw [wrap_id (by omega) (by omega)]; omega
  rw [ew]
  have stop : (p + j < s.size → ¬ isD ((ofBytes s).getD (p + j) 0)) → k (j : Int) := by
    intro hn
    have : j = run ((ofBytes s).drop p) := by
      rcases Nat.lt_or_ge j (run ((ofBytes s).drop p)) with hh | hh
      · exact absurd (runIn hh) (hn (by omega))
      · omega
    rw [this]; exact h
  refine br_of (fun hlt => ?_) (fun hge => stop (fun hh => by have := of_decide_eq_false hge; omega))
  have hlt := of_decide_eq_true hlt
  have inb : inB 0 ((p + j : Nat) : Int) (((s.size : Nat) : Int) - 1) := ⟨by omega, by omega, by omega⟩
  refine ⟨inb, ?_⟩
  rw [byteAt_eq]
  refine br_of (fun h4 => ⟨inb, br_of (fun h5 => ?_) (fun h5 => stop (fun _ => ?_))⟩) (fun h4 => stop (fun _ => ?_))
  · have h4 := of_decide_eq_true h4
    have h5 := of_decide_eq_true h5
    rw [wrap_id (by omega) (by omega)]
    refine hag _ ⟨j + 1, by omega, ?_⟩ (by omega)
    rcases Nat.lt_or_ge j (run ((ofBytes s).drop p)) with hh | hh
    · omega
    · exact absurd ⟨h4, h5⟩ (run_step (by omega) (by omega))
  · have h5 := of_decide_eq_false h5
    unfold isD; omega
  · have h4 := of_decide_eq_false h4
    unfold isD; omega

theorem rvalue_s (s : ByteArray) (hs : s.size ≤ reachBytes) (hd : ∀ x ∈ ofBytes s, isD x) (k : Int → Int → Prop)
    (h : if s.size = 0 ∨ ((ofBytes s).getD 0 0 = 48 ∧ 1 < s.size) then k 0 12 else if val (ofBytes s) > 2 ^ 63 then k 0 2 else k (val (ofBytes s)) 0) : N50.f s k := by
  have hr : reachBytes < 2 ^ 47 := reachBytes_lt
  have hl := ofBytes_length s
  rw [N50.f_def]
  unfold N50.f0 N50.c N50.j2000002' N50.j2000002 N50.j3' N50.j3
  have go : ¬ (s.size = 0 ∨ ((ofBytes s).getD 0 0 = 48 ∧ 1 < s.size)) → N50.l5' s 0 0 k := by
    intro hn
    rw [if_neg hn] at h
    unfold N50.l5'
    refine loopS_of (fun x : Int × Int => ∃ i : Nat, x.2 = i ∧ i ≤ s.size ∧ x.1 = (val ((ofBytes s).take i) : Int) ∧ val ((ofBytes s).take i) ≤ 2 ^ 63) (fun x => (s.size - x.2).toNat) ?_ ⟨0, rfl, Nat.zero_le _, rfl, by show val [] ≤ _; decide⟩
    rintro again ⟨x, j⟩ ⟨i, rfl, hi, rfl, hv⟩ hag
    simp only at hag hv ⊢
    unfold N50.l5 N50.j11' N50.j11
    dsimp only
    refine br_of (fun hlt => ?_) (fun hge => ?_)
    · have hlt : i < s.size := by simp at hlt; omega
      have hD : isD ((ofBytes s).getD i 0) := by
        have hi2 : i < (ofBytes s).length := by omega
        simp only [List.getD, List.getElem?_eq_getElem hi2, Option.getD_some]
        exact hd _ (List.getElem_mem hi2)
      have hv2 := val_take_succ (by omega : i < (ofBytes s).length)
      have hv3 := val_take (ofBytes s) (i + 1)
      rw [byteAt_eq]
      refine ⟨⟨by omega, by omega, by omega⟩, by decide, ?_⟩
      obtain ⟨d1, d2⟩ := hD
      generalize (ofBytes s).getD i 0 = c at *
      generalize hV : val ((ofBytes s).take i) = V at *
      have e0 : IntKind.u64.wrap (IntKind.u8.wrap (c - 48)) = c - 48 := by rw [wu8_eq, wu64_eq]; omega
      rw [e0]
      have e1 : IntKind.u64.wrap (Int.tdiv (IntKind.u64.wrap (9223372036854775808 - (c - 48))) 10) = (9223372036854775808 - (c - 48)) / 10 := by
        rw [wu64_eq (9223372036854775808 - (c - 48)), Int.emod_eq_of_lt (by omega) (by omega), tdiv10, if_neg (by omega), wu64_eq]
        omega
      rw [e1]
      refine br_of (fun hov => ?_) (fun hov => ?_)
      · have hov := of_decide_eq_true hov
        rw [if_pos (by omega)] at h
        exact h
      · have hov := of_decide_eq_false hov
        have e2 : IntKind.u64.wrap (IntKind.u64.wrap (10 * (V : Int)) + (c - 48)) = ((10 * V + (c - 48).toNat : Nat) : Int) := by
          rw [wu64_eq (10 * (V : Int)), wu64_eq]
          omega
        have e3 : IntKind.i64.wrap ((i : Int) + 1) = ((i + 1 : Nat) : Int) := by rw [wrap_id (by omega) (by omega)]; omega
        rw [e2, e3]
        exact hag _ ⟨i + 1, rfl, by omega, by rw [hv2], by rw [hv2]; omega⟩ (by simp; omega)
    · have hge : i = s.size := by simp at hge; omega
      subst hge
      rw [List.take_of_length_le (by omega)] at hv ⊢
      rw [if_neg (by omega)] at h
      exact h
  have e0 : beqS s (ByteArray.mk #[]) = decide (s.size = 0) := by
    have := bytesOf_nil (ofBytes s)
    rw [bytesOf_ofBytes] at this
    rw [this, Bool.eq_iff_iff, decide_eq_true_eq, decide_eq_true_eq, ← hl]
    exact List.length_eq_zero_iff.symm
  rw [e0, br_dec]
  split
  · rename_i h0
    rw [if_pos (.inl h0)] at h
    exact h
  · rename_i h0
    refine ⟨⟨by omega, by omega, by omega⟩, ?_⟩
    rw [show byteAt s 0 = (ofBytes s).getD 0 0 from byteAt_eq s 0, br_beq]
    split
    · rename_i h48
      refine br_of (fun h1 => ?_) (fun h1 => ?_)
      · have h1 := of_decide_eq_true h1
        rw [if_pos (.inr ⟨h48, by omega⟩)] at h
        exact h
      · have h1 := of_decide_eq_false h1
        exact go (by rintro (g | ⟨_, g⟩) <;> omega)
    · rename_i h48
      simp only [br_false]
      exact go (by rintro (g | ⟨g, _⟩); omega; exact h48 g)

/-- What the chapter's reader hands on. -/
def RdR (p : Nat) (g : Got) (k : Int → ByteArray → Int → Int → Int → Int → Int → Prop) : Prop :=
  (g.code ≠ 0 → ∀ a b c d e n, k a b c d e n g.code) ∧ (g.code = 0 → k g.kind (bytesOf g.text) g.num g.cls p g.len 0)

set_option maxHeartbeats 2000000 in
theorem one_r (s : ByteArray) (hs : s.size ≤ reachBytes) (p : Nat) (hp : p < s.size) (h34 : (ofBytes s).getD p 0 ≠ 34) (k : Int → ByteArray → Int → Int → Int → Int → Int → Prop)
    (h : RdR p (tokS ((ofBytes s).drop p)) k) : N27.f s (p : Int) k := by
  have hr : reachBytes < 2 ^ 47 := reachBytes_lt
  have hl := ofBytes_length s
  have hdr := drop_get (d := (0 : Int)) (by omega : p < (ofBytes s).length)
  have hcB := getD_isB s p
  rw [N27.f_def]
  unfold N27.f0 N27.c
  refine ⟨⟨by omega, by omega, by omega⟩, nscanr_s s hs _ _ ?_⟩
  rw [byteAt_eq]
  have ew1 : IntKind.i64.wrap ((p : Int) + 1) = ((p + 1 : Nat) : Int) := by rw [wrap_id (by omega) (by omega)]; omega
  rw [ew1]
  -- a number
  have num : ∀ (a : Nat) (kind cls : Int), a ≤ 2 → p + a ≤ s.size → (a = 0 → isD ((ofBytes s).getD p 0)) → RdR p (numS (if a = 0 then 2 else kind) a cls ((ofBytes s).drop p)) k → N27.j21' s (p : Int) ((ofBytes s).getD p 0) (a : Int) 0 (ByteArray.mk #[]) 0 0 0 kind (ByteArray.mk #[]) 0 cls p k := by
    intro a kind cls ha hpa ha0 hk
    unfold N27.j21' N27.j21 N27.j2000022' N27.j2000022
    unfold RdR at hk
    rw [numS_eq, List.drop_drop] at hk
    have hrl := run_le ((ofBytes s).drop (p + a))
    rw [List.length_drop, hl] at hrl
    have hB : ∀ y ∈ ((ofBytes s).drop (p + a)).take (run ((ofBytes s).drop (p + a))), isB y := fun y hy => ofBytes_isB s y (List.mem_of_mem_drop (List.mem_of_mem_take hy))
    have ewa : IntKind.i64.wrap ((p : Int) + (a : Int)) = ((p + a : Nat) : Int) := by rw [wrap_id (by omega) (by omega)]; omega
    have body : N49.f s (IntKind.i64.wrap ((p : Int) + (a : Int))) (fun (y0_1 : Int) => ((inB (w64 ((p : Int) + (a : Int))) (w64 ((p : Int) + (w64 ((a : Int) + y0_1)))) (((s).size : Nat) : Int)) ∧ (N50.f (ByteArray.extract s (Int.toNat (w64 ((p : Int) + (a : Int)))) (Int.toNat (w64 ((p : Int) + (w64 ((a : Int) + y0_1)))))) (fun (y0_2 : Int) (y1_2 : Int) => (br (y1_2 == (0 : Int)) (br (decide ((a : Int) > (0 : Int))) (N27.j2000025' s p a (w64 ((a : Int) + y0_1)) y0_2 y1_2 (decide (y0_2 > (2147483647 : Int))) 0 (ByteArray.mk #[]) 0 0 0 kind (ByteArray.mk #[]) 0 cls p k) (N27.j2000025' s p a (w64 ((a : Int) + y0_1)) y0_2 y1_2 false 0 (ByteArray.mk #[]) 0 0 0 kind (ByteArray.mk #[]) 0 cls p k)) (N27.j2000025' s p a (w64 ((a : Int) + y0_1)) y0_2 y1_2 false 0 (ByteArray.mk #[]) 0 0 0 kind (ByteArray.mk #[]) 0 cls p k)))))) := by
      show N49.f s (IntKind.i64.wrap ((p : Int) + (a : Int))) _
      rw [ewa]
      refine rdigits_s s hs (p + a) hpa _ ?_
      have e2 : w64 ((a : Int) + (run ((ofBytes s).drop (p + a)) : Int)) = ((a + run ((ofBytes s).drop (p + a)) : Nat) : Int) := by rw [w64_id ⟨by omega, by omega⟩]; omega
      have e3 : w64 ((p : Int) + ((a + run ((ofBytes s).drop (p + a)) : Nat) : Int)) = ((p + a + run ((ofBytes s).drop (p + a)) : Nat) : Int) := by rw [w64_id ⟨by omega, by omega⟩]; omega
      rw [show w64 ((p : Int) + (a : Int)) = ((p + a : Nat) : Int) from ewa, e2, e3, part_eq]
      refine ⟨⟨by omega, by omega, by omega⟩, ?_⟩
      have esz : (bytesOf (((ofBytes s).drop (p + a)).take (run ((ofBytes s).drop (p + a))))).size = run ((ofBytes s).drop (p + a)) := by
        rw [bytesOf_size, List.length_take, List.length_drop, hl]; omega
      refine rvalue_s _ (by rw [esz]; omega) (by rw [ofBytes_bytesOf hB]; exact run_isD _) _ ?_
      rw [esz, ofBytes_bytesOf hB]
      have eg : run ((ofBytes s).drop (p + a)) ≠ 0 → (((ofBytes s).drop (p + a)).take (run ((ofBytes s).drop (p + a)))).getD 0 0 = ((ofBytes s).drop (p + a)).getD 0 0 := by
        intro hne
        cases hc : run ((ofBytes s).drop (p + a)) with
        | zero => exact absurd hc hne
        | succ n => cases (ofBytes s).drop (p + a) <;> rfl
      have fin : ∀ (v c : Int), (∀ b0 b1 b2 b3 b4 b5, ((c ≠ 0 → k b0 b1 b2 b3 b4 b5 c) ∧ (c = 0 → k (if a = 0 then 2 else kind) (bytesOf (((ofBytes s).drop p).take (a + run ((ofBytes s).drop (p + a))))) (w64 v) cls p ((a + run ((ofBytes s).drop (p + a)) : Nat) : Int) 0))) → N27.j26' s p a ((a + run ((ofBytes s).drop (p + a)) : Nat) : Int) v c 0 (ByteArray.mk #[]) 0 0 0 kind (ByteArray.mk #[]) 0 cls p k := by
        intro v c hh
        unfold N27.j26' N27.j26 N27.j28' N27.j28
        have e4 : IntKind.i64.wrap ((p : Int) + ((a + run ((ofBytes s).drop (p + a)) : Nat) : Int)) = ((p + (a + run ((ofBytes s).drop (p + a))) : Nat) : Int) := by rw [wrap_id (by omega) (by omega)]; omega
        dsimp only
        rw [e4, part_eq]
        rw [br_beq]
        split
        · rename_i h0
          refine ⟨⟨by omega, by omega, by omega⟩, ?_⟩
          by_cases hc : c = 0
          · subst hc
            have := (hh 0 (ByteArray.mk #[]) 0 0 0 0).2 rfl
            rw [if_pos (by omega)] at this
            exact this
          · exact (hh _ _ _ _ _ _).1 hc
        · rename_i h0
          refine ⟨⟨by omega, by omega, by omega⟩, ?_⟩
          by_cases hc : c = 0
          · subst hc
            have := (hh 0 (ByteArray.mk #[]) 0 0 0 0).2 rfl
            rw [if_neg (by omega)] at this
            exact this
          · exact (hh _ _ _ _ _ _).1 hc
      obtain ⟨k1, k2⟩ := hk
      have bad : ∀ (c v : Int), c ≠ 0 → (∀ b0 b1 b2 b3 b4 b5, k b0 b1 b2 b3 b4 b5 c) → N27.j2000025' s p a ((a + run ((ofBytes s).drop (p + a)) : Nat) : Int) v c false 0 (ByteArray.mk #[]) 0 0 0 kind (ByteArray.mk #[]) 0 cls p k := by
        intro c v hc hk
        unfold N27.j2000025' N27.j2000025
        simp only [br_false]
        exact fin v c (fun _ _ _ _ _ _ => ⟨fun _ => hk _ _ _ _ _ _, fun h => absurd h hc⟩)
      by_cases d1 : run ((ofBytes s).drop (p + a)) = 0 ∨ (((ofBytes s).drop (p + a)).getD 0 0 = 48 ∧ 1 < run ((ofBytes s).drop (p + a)))
      · have hd : digC ((ofBytes s).drop (p + a)) = 12 := by unfold digC; exact if_pos d1
        rw [hd, if_pos (by decide)] at k1
        simp only [Got.bad] at k1
        have c1 : run ((ofBytes s).drop (p + a)) = 0 ∨ (((ofBytes s).drop (p + a)).take (run ((ofBytes s).drop (p + a)))).getD 0 0 = 48 ∧ 1 < run ((ofBytes s).drop (p + a)) := by
          rcases d1 with d1 | ⟨d1, d2⟩
          · exact .inl d1
          · exact .inr ⟨by rw [eg (by omega)]; exact d1, d2⟩
        rw [if_pos c1, br_beq, if_neg (by decide)]
        exact bad 12 0 (by decide) (k1 (by decide))
      · have c1 : ¬ (run ((ofBytes s).drop (p + a)) = 0 ∨ (((ofBytes s).drop (p + a)).take (run ((ofBytes s).drop (p + a)))).getD 0 0 = 48 ∧ 1 < run ((ofBytes s).drop (p + a))) := by
          rintro (g | ⟨g1, g2⟩)
          · exact d1 (.inl g)
          · exact d1 (.inr ⟨by rw [← eg (by omega)]; exact g1, g2⟩)
        rw [if_neg c1]
        by_cases d2 : val (((ofBytes s).drop (p + a)).take (run ((ofBytes s).drop (p + a)))) > 2 ^ 63
        · have hd : digC ((ofBytes s).drop (p + a)) = 2 := by unfold digC; rw [if_neg d1, if_pos d2]
          rw [hd, if_pos (by decide)] at k1
          simp only [Got.bad] at k1
          rw [if_pos d2, br_beq, if_neg (by decide)]
          exact bad 2 0 (by decide) (k1 (by decide))
        · have hd : digC ((ofBytes s).drop (p + a)) = 0 := by unfold digC; rw [if_neg d1, if_neg d2]
          rw [hd, if_neg (by decide)] at k1 k2
          rw [if_neg d2, br_beq, if_pos rfl]
          generalize hV : val (((ofBytes s).drop (p + a)).take (run ((ofBytes s).drop (p + a)))) = V at *
          have good : ¬ (0 < a ∧ V > 2 ^ 31 - 1) → N27.j2000025' s p a ((a + run ((ofBytes s).drop (p + a)) : Nat) : Int) V 0 false 0 (ByteArray.mk #[]) 0 0 0 kind (ByteArray.mk #[]) 0 cls p k := by
            intro hn
            rw [if_neg hn] at k2
            unfold N27.j2000025' N27.j2000025
            simp only [br_false]
            exact fin _ _ (fun _ _ _ _ _ _ => ⟨fun h => absurd rfl h, fun _ => k2 rfl⟩)
          rw [br_dec]
          split
          · rename_i ha1
            by_cases hV2 : V > 2 ^ 31 - 1
            · rw [if_pos ⟨by omega, hV2⟩] at k1
              have : decide ((V : Int) > 2147483647) = true := by simp; omega
              rw [this]
              unfold N27.j2000025' N27.j2000025
              simp only [br_true]
              exact fin _ _ (fun _ _ _ _ _ _ => ⟨fun _ => k1 (by decide) _ _ _ _ _ _, fun h => absurd h (by decide)⟩)
            · have : decide ((V : Int) > 2147483647) = false := by simp; omega
              rw [this]
              exact good (fun hh => hV2 hh.2)
          · rename_i ha1
            exact good (fun hh => ha1 (by omega))
    rw [br_dec]
    split
    · exact body
    · rename_i ha1
      have ha' : a = 0 := by omega
      have hD := ha0 ha'
      rw [br_dec, if_pos (by exact hD.1), show decide ((ofBytes s).getD p 0 ≤ 57) = true by simpa using hD.2]
      exact body
  have scanF : isL ((ofBytes s).getD p 0) = false → scanN (ofBytes s) (p : Int) = (p : Int) := by
    intro hh
    unfold scanN
    rw [if_pos (.inr (.inr (by rw [Int.toNat_natCast]; exact hh)))]
  have noL : ∀ c : Int, (c = 37 ∨ c = 35 ∨ c = 36 ∨ isD c ∨ c ∈ signs) → isL c = false := by
    intro c hh
    rw [← Bool.not_eq_true, isL_iff]
    simp only [signs, List.mem_cons, List.not_mem_nil, or_false] at hh
    unfold isD at hh
    omega
  have hh1 : ((ofBytes s).drop (p + 1)).head? = some ((ofBytes s).getD (p + 1) 0) ∨ (ofBytes s).drop (p + 1) = [] := by
    rcases Nat.lt_or_ge (p + 1) (ofBytes s).length with g | g
    · left; rw [drop_get (d := 0) g]; rfl
    · right; exact List.drop_of_length_le g
  have hend : (ofBytes s).drop (p + 1) = [] ↔ p + 1 = s.size := by
    rw [List.drop_eq_nil_iff]; omega
  have sgn : (ofBytes s).getD p 0 ∈ signs ∨ (ofBytes s).getD p 0 ∉ signs → ∀ b0 b1 b2 b3 b4, ¬ isD ((ofBytes s).getD p 0) → RdR p (if (ofBytes s).getD p 0 ∈ signs then (if (ofBytes s).getD p 0 = 46 ∧ (ofBytes s).getD (p + 1) 0 = 46 then ⟨7, [46, 46], 0, 0, 2, 0, 0⟩ else ⟨7, [(ofBytes s).getD p 0], 0, 0, 1, 0, 0⟩) else .bad 10 0) k →
      N27.j21' s (p : Int) ((ofBytes s).getD p 0) 0 b0 b1 b2 b3 b4 0 (ByteArray.mk #[]) 0 0 p k := by
    intro _ b0 b1 b2 b3 b4 hD hk
    unfold N27.j21' N27.j21 N27.j2000022' N27.j2000022
    have fall : N27.j30' s (p : Int) ((ofBytes s).getD p 0) b0 b1 b2 b3 b4 0 (ByteArray.mk #[]) 0 0 p k := by
      unfold N27.j30' N27.j30 N27.l31'
      unfold RdR at hk
      refine loopS_of (fun st : (Int × Int × ByteArray × Int × Int × Int × Int × ByteArray × Int × Int × Int) => ∃ j : Nat, st.1 = j ∧ j ≤ 14 ∧ st.2.2.2.2.2.2 = (0, ByteArray.mk #[], 0, 0, (p : Int)) ∧ ∀ i, i < j → signs.getD i 0 ≠ (ofBytes s).getD p 0) (fun st => (14 - st.1).toNat) ?_ ⟨0, rfl, by omega, rfl, fun i hi => by omega⟩
      rintro again ⟨x, y0, y1, y2, y3, y4, z0, z1, z2, z3, z4⟩ ⟨j, ej, hj, ez, hno⟩ hag
      simp only [Prod.mk.injEq] at ej ez hag ⊢
      obtain ⟨rfl, rfl, rfl, rfl, rfl⟩ := ez
      subst ej
      unfold N27.l31 N27.j2000036' N27.j2000036 N27.j39' N27.j39 N27.j37' N27.j37
      dsimp only
      have sz : (((ByteArray.mk #[123, 125, 40, 41, 91, 93, 44, 58, 59, 61, 43, 45, 42, 46]).size : Nat) : Int) = 14 := rfl
      rw [sz]
      refine br_of (fun hlt => ?_) (fun hge => ?_)
      · have hlt := of_decide_eq_true hlt
        refine ⟨⟨by omega, by omega, by omega⟩, ?_⟩
        rw [byteAt_eq, show ofBytes (ByteArray.mk #[123, 125, 40, 41, 91, 93, 44, 58, 59, 61, 43, 45, 42, 46]) = signs from rfl, br_beq]
        split
        · rename_i he
          have hm : (ofBytes s).getD p 0 ∈ signs := by
            rw [← he]
            have hj2 : j < signs.length := by show j < 14; omega
            simp only [List.getD, List.getElem?_eq_getElem hj2, Option.getD_some]
            exact List.getElem_mem hj2
          rw [if_pos hm] at hk
          have ew2 : IntKind.i64.wrap ((p : Int) + 2) = ((p + 2 : Nat) : Int) := by rw [wrap_id (by omega) (by omega)]; omega
          rw [ew1]
          have p1 := part_eq s p 1
          have p2 := part_eq s p 2
          rw [drop_get (d := 0) (by omega : p < (ofBytes s).length)] at p1 p2
          have one : ¬ ((ofBytes s).getD p 0 = 46 ∧ (ofBytes s).getD (p + 1) 0 = 46) → inB (p : Int) ((p + 1 : Nat) : Int) (((s).size : Nat) : Int) ∧ k 7 (ByteArray.extract s (Int.toNat (p : Int)) (Int.toNat ((p + 1 : Nat) : Int))) 0 0 p 1 0 := by
            intro hn
            rw [if_neg hn] at hk
            refine ⟨⟨by omega, by omega, by omega⟩, ?_⟩
            rw [p1]
            exact hk.2 rfl
          rw [br_beq]
          split
          · rename_i h46
            rw [br_dec]
            split
            · rename_i hlt2
              refine ⟨⟨by omega, by omega, by omega⟩, ?_⟩
              rw [byteAt_eq]
              refine br_of (fun h2 => ?_) (fun h2 => ?_)
              · have h2 : (ofBytes s).getD (p + 1) 0 = 46 := by simpa using h2
                rw [if_pos ⟨h46, h2⟩] at hk
                rw [ew2]
                refine ⟨⟨by omega, by omega, by omega⟩, ?_⟩
                rw [p2, drop_get (d := 0) (by omega : p + 1 < (ofBytes s).length), h46, h2]
                exact hk.2 rfl
              · have h2 : (ofBytes s).getD (p + 1) 0 ≠ 46 := by simpa using h2
                exact one (fun hh => h2 hh.2)
            · rename_i hlt2
              simp only [br_false]
              refine one (fun hh => ?_)
              rw [show (ofBytes s).getD (p + 1) 0 = 0 by simp [List.getD, List.getElem?_eq_none (show (ofBytes s).length ≤ p + 1 by omega)]] at hh
              exact absurd hh.2 (by decide)
          · rename_i h46
            simp only [br_false]
            exact one (fun hh => h46 hh.1)
        · rename_i he
          rw [wrap_id (by omega) (by omega)]
          refine hag _ ⟨j + 1, by simp, by omega, rfl, fun i hi => ?_⟩ (by simp only; omega)
          rcases Nat.lt_or_ge i j with hh | hh
          · exact hno i hh
          · rw [show i = j by omega]; exact he
      · have hge := of_decide_eq_false hge
        have hm : (ofBytes s).getD p 0 ∉ signs := by
          intro hm
          obtain ⟨i, hi, he⟩ := List.getElem_of_mem hm
          refine hno i (by have : signs.length = 14 := rfl; omega) ?_
          simp only [List.getD, List.getElem?_eq_getElem hi, Option.getD_some]
          exact he
        rw [if_neg hm] at hk
        exact hk.1 (by decide) _ _ _ _ _ _
    rw [br_dec, if_neg (by decide), br_dec]
    split
    · rename_i h48
      have : decide ((ofBytes s).getD p 0 ≤ 57) = false := decide_eq_false (by unfold isD at hD; omega)
      rw [this]
      exact fall
    · exact fall
  rcases tokS_cases ((ofBytes s).getD p 0) with hc | hL | hc | hc | hc | hD | hS | ⟨g1, g2, g3, g4, g5, g6, g7⟩
  · exact absurd hc h34
  · have e : scanN (ofBytes s) (p : Int) = ((p + runS ((ofBytes s).drop p) : Nat) : Int) := by
      unfold scanN
      rw [if_neg (by rw [Int.toNat_natCast, hL, hl]; simp; omega), Int.toNat_natCast]
    have hrl := runS_le ((ofBytes s).drop p)
    have h1 : 1 ≤ runS ((ofBytes s).drop p) := by
      rw [hdr]
      exact runS_pos hL
    rw [List.length_drop, hl] at hrl
    have ht : tokS ((ofBytes s).drop p) = if runS ((ofBytes s).drop p) > 24 then .bad 3 0 else ⟨1, ((ofBytes s).drop p).take (runS ((ofBytes s).drop p)), 0, 0, runS ((ofBytes s).drop p), 0, 0⟩ := by
      rw [hdr, tokS_L _ hL]
    unfold RdR at h
    rw [ht] at h
    rw [e, br_dec, if_pos (by omega), part_eq]
    have e2 : IntKind.i64.wrap (((p + runS ((ofBytes s).drop p) : Nat) : Int) - p) = (runS ((ofBytes s).drop p) : Int) := by rw [wrap_id (by omega) (by omega)]; omega
    rw [e2, br_dec]
    refine ⟨⟨by omega, by omega, by omega⟩, ?_⟩
    split
    · rename_i h2
      rw [if_pos (by omega)] at h
      exact h.1 (by decide) _ _ _ _ _ _
    · rename_i h2
      rw [if_neg (by omega)] at h
      exact h.2 rfl
  · rw [scanF (by rw [hc]; decide), br_dec, if_neg (by omega), br_beq, if_pos hc]
    refine num 1 4 0 (by omega) (by omega) (fun h => by omega) ?_
    rw [if_neg (by decide)]
    rw [hdr, hc, tokS_37, ← hc, ← hdr] at h
    exact h
  · rw [scanF (by rw [hc]; decide), br_dec, if_neg (by omega), br_beq, if_neg (by omega), br_beq, if_pos hc]
    refine num 1 6 0 (by omega) (by omega) (fun h => by omega) ?_
    rw [if_neg (by decide)]
    rw [hdr, hc, tokS_35, ← hc, ← hdr] at h
    exact h
  · rw [scanF (by rw [hc]; decide), br_dec, if_neg (by omega), br_beq, if_neg (by omega), br_beq, if_neg (by omega), br_beq, if_pos hc]
    unfold N27.j2000018' N27.j2000018 N27.j19' N27.j19
    have ht : tokS ((ofBytes s).drop p) = if ((ofBytes s).drop (p + 1)).head? = some 103 then numS 5 2 0 ((ofBytes s).drop p) else if ((ofBytes s).drop (p + 1)).head? = some 120 then numS 5 2 1 ((ofBytes s).drop p) else .bad 12 0 := by
      rw [hdr, hc, tokS_36]
    rw [ht] at h
    rw [br_beq]
    split
    · rename_i he
      rw [hend.2 (by omega)] at h
      simp only [List.head?_nil, reduceCtorEq, if_false] at h
      simp only [br_true]
      exact h.1 (by decide) _ _ _ _ _ _
    · rename_i he
      have hlt : p + 1 < s.size := by omega
      have hh : ((ofBytes s).drop (p + 1)).head? = some ((ofBytes s).getD (p + 1) 0) := by rw [drop_get (d := 0) (by omega : p + 1 < (ofBytes s).length)]; rfl
      rw [hh] at h
      simp only [Option.some.injEq] at h
      dsimp only
      simp only [ew1]
      have inb : inB 0 ((p + 1 : Nat) : Int) (((s.size : Nat) : Int) - 1) := ⟨by omega, by omega, by omega⟩
      refine ⟨inb, ?_⟩
      rw [byteAt_eq, br_bne]
      split
      · rename_i h103
        rw [if_pos h103] at h
        simp only [br_false]
        refine ⟨inb, ?_⟩
        rw [br_beq, if_neg (by omega)]
        refine num 2 5 0 (by omega) (by omega) (fun h => by omega) ?_
        rw [if_neg (by decide)]
        exact h
      · rename_i h103
        rw [if_neg h103] at h
        refine ⟨inb, ?_⟩
        rw [br_bne]
        split
        · rename_i h120
          rw [if_pos h120] at h
          refine ⟨inb, ?_⟩
          rw [br_beq, if_pos h120]
          refine num 2 5 1 (by omega) (by omega) (fun h => by omega) ?_
          rw [if_neg (by decide)]
          exact h
        · rename_i h120
          rw [if_neg h120] at h
          exact h.1 (by decide) _ _ _ _ _ _
  · have hD' := hD
    unfold isD at hD'
    rw [scanF (noL _ (.inr (.inr (.inr (.inl hD))))), br_dec, if_neg (by omega), br_beq, if_neg (by omega), br_beq, if_neg (by omega), br_beq, if_neg (by omega)]
    refine num 0 0 0 (by omega) (by omega) (fun _ => hD) ?_
    rw [if_pos rfl]
    rw [hdr, tokS_D _ hD, ← hdr] at h
    exact h
  · have hS' := hS
    simp only [signs, List.mem_cons, List.not_mem_nil, or_false] at hS'
    rw [scanF (noL _ (.inr (.inr (.inr (.inr hS))))), br_dec, if_neg (by omega), br_beq, if_neg (by omega), br_beq, if_neg (by omega), br_beq, if_neg (by omega)]
    refine sgn (.inl hS) _ _ _ _ _ (by unfold isD; omega) ?_
    rw [if_pos hS]
    rw [hdr, tokS_S _ hS] at h
    rcases hh1 with g | g
    · rw [g] at h; simp only [Option.some.injEq] at h; exact h
    · rw [g] at h
      rw [show (ofBytes s).getD (p + 1) 0 = 0 by simp [List.getD, List.getElem?_eq_none (show (ofBytes s).length ≤ p + 1 by have := hend.1 g; omega)]]
      simpa using h
  · rw [scanF g2, br_dec, if_neg (by omega), br_beq, if_neg g3, br_beq, if_neg g4, br_beq, if_neg g5]
    refine sgn (.inr g7) _ _ _ _ _ g6 ?_
    rw [if_neg g7]
    rw [hdr, tokS_no _ g1 g2 g3 g4 g5 g6 g7] at h
    exact h
end Go.Proofs.Ye
namespace Go.Proofs.Ye
open Go Go.Aw Go.Proofs Go.RowKit
set_option linter.unusedVariables false
set_option linter.unusedSimpArgs false

set_option maxHeartbeats 1000000 in
theorem allr_s (s : ByteArray) (hs : s.size ≤ reachBytes) (k : Int → Int → List LTok → Prop) (h : k (lexAll (ofBytes s)).2.1 (lexAll (ofBytes s)).2.2 (lexAll (ofBytes s)).1) : N15.f s k := by
  have hr : reachBytes < 2 ^ 47 := reachBytes_lt
  have hl := ofBytes_length s
  rw [N15.f_def]
  unfold N15.f0 N15.c
  rw [lexAll_eq, hl] at h
  rw [br_dec]
  split
  · rename_i h1
    rw [if_pos (by omega)] at h
    exact h
  · rename_i h1
    rw [if_neg (by omega)] at h
    have h64 : s.size ≤ 65536 := by omega
    generalize hR : lexW (ofBytes s) 0 [] = R at h
    unfold N15.l5'
    refine loopS_of (fun st : Int × List LTok => ∃ q : Nat, st.1 = q ∧ q ≤ s.size ∧ st.2.length ≤ q ∧ lexW ((ofBytes s).drop q) q st.2 = R) (fun st => s.size - st.1.toNat) ?_ ⟨0, rfl, Nat.zero_le _, Nat.zero_le _, by rw [← hR]; rfl⟩
    rintro again ⟨x, out⟩ ⟨q, rfl, hq, ho, he⟩ hag
    simp only at hag ho he ⊢
    unfold N15.l5 N15.j23' N15.j23
    dsimp only
    refine br_of (fun hlt => ?_) (fun hge => ?_)
    rotate_left
    · have hge := of_decide_eq_false hge
      refine ⟨by unfold room; simp; omega, ?_⟩
      rw [List.drop_of_length_le (by omega), lexW_nil] at he
      rw [← he, show (q : Int) = (s.size : Int) by omega] at h
      exact h
    have hlt : q < s.size := by have := of_decide_eq_true hlt; omega
    have hdr := drop_get (d := (0 : Int)) (by omega : q < (ofBytes s).length)
    have inb : inB 0 (q : Int) (((s.size : Nat) : Int) - 1) := ⟨by omega, by omega, by omega⟩
    refine ⟨inb, ?_⟩
    rw [byteAt_eq]
    have ew1 : IntKind.i64.wrap ((q : Int) + 1) = ((q + 1 : Nat) : Int) := by rw [wrap_id (by omega) (by omega)]; omega
    unfold N15.j2000008' N15.j2000008
    dsimp only
    have blank : isW ((ofBytes s).getD q 0) = true → again (IntKind.i64.wrap ((q : Int) + 1), out) := by
      intro hW
      rw [ew1]
      refine hag _ ⟨q + 1, rfl, by omega, by simp only; omega, ?_⟩ (by simp only; omega)
      rw [← he, hdr, lexW_blank _ _ hW]
      simp
    simp only [br_true, br_beq]
    have rest : isW ((ofBytes s).getD q 0) = false → N15.j9' (fun x6 b0 => again (x6, b0)) s (q : Int) ((ofBytes s).getD q 0) out k := by
      intro hW
      unfold N15.j9' N15.j9 N15.j2000010' N15.j2000010
      dsimp only
      have rem : (ofBytes s).getD q 0 = 47 → ((ofBytes s).drop (q + 1)).head? = some 47 → N15.l10' (fun x6 b0 => again (x6, b0)) s (q : Int) out k := by
        intro h47 hh
        have hln := lineN_le ((ofBytes s).drop q)
        rw [List.length_drop, hl] at hln
        have hl1 : 1 ≤ lineN ((ofBytes s).drop q) := by
          rw [hdr]
          unfold lineN
          rw [if_neg (by omega)]; omega
        have he2 : lexW ((ofBytes s).drop (q + lineN ((ofBytes s).drop q))) ((q + lineN ((ofBytes s).drop q) : Nat) : Int) out = R := by
          rw [← he, ← List.drop_drop]
          rw [hdr, h47, lexW_remark _ _ hh]
          simp
        unfold N15.l10'
        refine loopS_of (fun st : Int × List LTok => ∃ j : Nat, st.1 = ((q + j : Nat) : Int) ∧ j ≤ lineN ((ofBytes s).drop q) ∧ st.2 = out) (fun st => s.size - st.1.toNat) ?_ ⟨0, rfl, Nat.zero_le _, rfl⟩
        rintro again2 ⟨x, out2⟩ ⟨j, rfl, hj, eo⟩ hag2
        simp only at hag2 eo ⊢
        subst eo
        unfold N15.l10 N15.j11' N15.j11
        dsimp only
        have fin : j = lineN ((ofBytes s).drop q) → again (((q + j : Nat) : Int), out2) := by
          intro ej
          subst ej
          clear hag2
          generalize lineN ((ofBytes s).drop q) = n at *
          exact hag _ ⟨q + n, rfl, by omega, by simp only; omega, he2⟩ (by simp only; omega)
        have gd : ((ofBytes s).drop q).getD j 0 = (ofBytes s).getD (q + j) 0 := by simp [List.getD, List.getElem?_drop]
        refine br_of (fun hlt2 => ?_) (fun hge2 => ?_)
        · have hlt2 := of_decide_eq_true hlt2
          refine ⟨⟨by omega, by omega, by omega⟩, ?_⟩
          rw [byteAt_eq, br_bne]
          split
          · rename_i h10
            refine fin ?_
            rcases Nat.lt_or_ge j (lineN ((ofBytes s).drop q)) with g | g
            · exact absurd (gd.trans h10) (lineN_in g)
            · omega
          · rename_i h10
            rw [wrap_id (by omega) (by omega)]
            refine hag2 _ ⟨j + 1, by simp only; omega, ?_, rfl⟩ (by simp only; omega)
            rcases Nat.lt_or_ge j (lineN ((ofBytes s).drop q)) with g | g
            · omega
            · have ej : lineN ((ofBytes s).drop q) = j := by omega
              have := lineN_end (l := (ofBytes s).drop q) (by rw [List.length_drop]; omega)
              rw [ej, gd] at this
              exact absurd this h10
        · have hge2 := of_decide_eq_false hge2
          exact fin (by omega)
      have tok : ¬ ((ofBytes s).getD q 0 = 47 ∧ ((ofBytes s).drop (q + 1)).head? = some 47) → N15.j12' (fun x6 b0 => again (x6, b0)) s (q : Int) ((ofBytes s).getD q 0) out k := by
        intro hn
        have hst : stopAt ((ofBytes s).getD q 0 :: (ofBytes s).drop (q + 1)) := ⟨hW, hn⟩
        rw [hdr, lexW_tok _ _ hst, ← hdr] at he
        unfold N15.j12' N15.j12
        dsimp only
        rw [br_beq]
        split
        · rename_i h34
          refine scan3_s s (by omega) _ _ (fun hn => ?_) (fun t e c _ hsc => ?_)
          · exfalso
            unfold noQuote at hn
            rw [Int.toNat_natCast] at hn
            rcases hn with hn | hn | hn
            · omega
            · omega
            · exact hn h34
          · rw [Int.toNat_natCast] at hsc
            have ht := tokS_quote (ofBytes s) q (by omega) h34 hsc
            rw [ht] at he
            rw [br_bne]
            split
            · rename_i hc0
              subst hc0
              simp only [if_true, ne_eq, not_true, if_false] at he
              have htl := tokS_len (l := (ofBytes s).drop q) (by rw [ht]; rfl)
              rw [ht, List.length_drop] at htl
              simp only [if_true] at htl
              refine ⟨by unfold room; simp; omega, ?_⟩
              refine hag _ ⟨q + (e - q).toNat, by simp only; omega, by omega, by simp; omega, ?_⟩ (by simp only; omega)
              rw [← he, List.drop_drop]
              simp
            · rename_i hc0
              rw [if_neg hc0] at he
              rw [if_pos (show (Got.bad c (e - q)).code ≠ 0 from hc0)] at he
              simp only [Got.bad] at he
              rw [show (q : Int) + (e - q) = e by omega] at he
              rw [← he] at h
              exact h
        · rename_i h34
          refine one_r s hs q hlt h34 _ ⟨fun hc0 a b c d e n => ?_, fun hc0 => ?_⟩
          · dsimp only
            rw [br_bne, if_neg hc0]
            rw [if_pos hc0] at he
            have hoff : (tokS ((ofBytes s).drop q)).off = 0 := by rw [hdr]; exact tokS_off h34
            rw [hoff, Int.add_zero] at he
            rw [← he] at h
            exact h
          · dsimp only
            rw [br_bne, if_pos rfl]
            rw [if_neg (by simpa using hc0)] at he
            have htl := tokS_len (l := (ofBytes s).drop q) hc0
            rw [List.length_drop] at htl
            refine ⟨by unfold room; simp; omega, ?_⟩
            rw [wrap_id (by omega) (by omega)]
            refine hag _ ⟨q + (tokS ((ofBytes s).drop q)).len, by simp, by omega, by simp; omega, ?_⟩ (by simp only; omega)
            rw [← he, List.drop_drop]
            simp
      rw [br_beq]
      split
      · rename_i h47
        rw [ew1, br_dec]
        split
        · rename_i hlt2
          refine ⟨⟨by omega, by omega, by omega⟩, ?_⟩
          rw [byteAt_eq]
          have hh : ((ofBytes s).drop (q + 1)).head? = some ((ofBytes s).getD (q + 1) 0) := by rw [drop_get (d := 0) (by omega : q + 1 < (ofBytes s).length)]; rfl
          refine br_of (fun h2 => ?_) (fun h2 => ?_)
          · have h2 : (ofBytes s).getD (q + 1) 0 = 47 := by simpa using h2
            exact rem h47 (by rw [hh, h2])
          · have h2 : (ofBytes s).getD (q + 1) 0 ≠ 47 := by simpa using h2
            refine tok (fun g => h2 ?_)
            have := g.2
            rw [hh] at this
            exact Option.some.inj this
        · rename_i hlt2
          simp only [br_false]
          refine tok (fun g => ?_)
          have := g.2
          rw [List.drop_of_length_le (by omega)] at this
          simp at this
      · rename_i h47
        simp only [br_false]
        exact tok (fun g => h47 g.1)
    have w := @isW_iff ((ofBytes s).getD q 0)
    split
    · rename_i g; exact blank (w.2 (by omega))
    · split
      · rename_i g; exact blank (w.2 (by omega))
      · split
        · rename_i g; exact blank (w.2 (by omega))
        · split
          · rename_i g; exact blank (w.2 (by omega))
          · refine rest ?_
            rw [← Bool.not_eq_true, w]
            omega
end Go.Proofs.Ye
namespace Go.Proofs.Ye
open Go Go.Aw Go.Proofs
set_option linter.unusedVariables false
set_option linter.unusedSimpArgs false
set_option maxRecDepth 100000
/-! dyehouse/lex.Is -/
namespace N21
noncomputable def cfg : Cfg := { P := Tryd.prog, tf := 49, tw := 0, ty := tys, E := tab [], atSeq := tab [], atLoop := tab [], outs := [], eqT := tab [], bT := tab [], fzB := [2] }
noncomputable def body : Code := bodyOf Tryd.f21
def c (x0_0 : Int) (x0_1 : ByteArray) (x0_2 : Int) (x0_3 : Int) (x0_4 : Int) (x1 : ByteArray) (k : Bool → Prop) : Prop :=
  (br (x0_0 == (1 : Int)) (k (beqS x0_1 x1)) (br (x0_0 == (7 : Int)) (k (beqS x0_1 x1)) (k false)))
def f0 (x0_0 : Int) (x0_1 : ByteArray) (x0_2 : Int) (x0_3 : Int) (x0_4 : Int) (x1 : ByteArray) (k : Bool → Prop) : Prop := c x0_0 x0_1 x0_2 x0_3 x0_4 x1 k
theorem f_ex : ∃ g : Int → ByteArray → Int → Int → Int → ByteArray → (Bool → Prop) → Prop, g = f0 := ⟨_, rfl⟩
noncomputable def f : Int → ByteArray → Int → Int → Int → ByteArray → (Bool → Prop) → Prop := Classical.choose f_ex
theorem f_def : f = f0 := Classical.choose_spec f_ex
noncomputable def JJ (k kp : D → List Blk → Prop) : Nat → St → Prop := pick none' []
noncomputable def LL (k kp : D → List Blk → Prop) : Nat → St → Prop := pick none' []
theorem c_c (k kp : D → List Blk → Prop) (J L : Nat → St → Prop) (x0_0 : Int) (x0_1 : ByteArray) (x0_2 : Int) (x0_3 : Int) (x0_4 : Int) (x1 : ByteArray) : runC cfg 1000001 J L none'' [] body (topK cfg Tryd.f21 k kp) (st0 Tryd.f21 [(.agg [(.v (.int IntKind.i64 x0_0)), (.v (.string x0_1)), (.v (.int IntKind.i64 x0_2)), (.v (.int IntKind.i64 x0_3)), (.v (.int IntKind.i64 x0_4))]), (.v (.string x1))] []) = c x0_0 x0_1 x0_2 x0_3 x0_4 x1 (fun y0 => k (.v (.bool y0)) []) := by kernel_rfl
theorem c_ag (k kp : D → List Blk → Prop) : agPL cfg 1000001 (JJ k kp) (LL k kp) [] body = agPR cfg 1000001 none'' [] body (topK cfg Tryd.f21 k kp) := by kernel_rfl
theorem body_is : Tryd.f21.body = some body := by kernel_rfl
theorem c_raw (k kp : D → List Blk → Prop) (x0_0 : Int) (x0_1 : ByteArray) (x0_2 : Int) (x0_3 : Int) (x0_4 : Int) (x1 : ByteArray) : funW cfg Tryd.f21 [(.agg [(.v (.int IntKind.i64 x0_0)), (.v (.string x0_1)), (.v (.int IntKind.i64 x0_2)), (.v (.int IntKind.i64 x0_3)), (.v (.int IntKind.i64 x0_4))]), (.v (.string x1))] [] k kp = c x0_0 x0_1 x0_2 x0_3 x0_4 x1 (fun y0 => k (.v (.bool y0)) []) :=
  Eq.mp (by kernel_rfl) ((funW_run (AG := none'') body_is (c_ag k kp) [(.agg [(.v (.int IntKind.i64 x0_0)), (.v (.string x0_1)), (.v (.int IntKind.i64 x0_2)), (.v (.int IntKind.i64 x0_3)), (.v (.int IntKind.i64 x0_4))]), (.v (.string x1))] []).trans (c_c k kp (JJ k kp) (LL k kp) x0_0 x0_1 x0_2 x0_3 x0_4 x1))
theorem f_eq (k kp : D → List Blk → Prop) (x0_0 : Int) (x0_1 : ByteArray) (x0_2 : Int) (x0_3 : Int) (x0_4 : Int) (x1 : ByteArray) : funW cfg Tryd.f21 [(.agg [(.v (.int IntKind.i64 x0_0)), (.v (.string x0_1)), (.v (.int IntKind.i64 x0_2)), (.v (.int IntKind.i64 x0_3)), (.v (.int IntKind.i64 x0_4))]), (.v (.string x1))] [] k kp = f x0_0 x0_1 x0_2 x0_3 x0_4 x1 (fun y0 => k (.v (.bool y0)) []) := by
  rw [f_def, c_raw]; rfl
noncomputable def ent0 : Entry := fun args blks k _ => match args, blks with
  | [d0, d1], [] => aAgg 5 d0 fun l => aCons l fun d0_0 l => aCons l fun d0_1 l => aCons l fun d0_2 l => aCons l fun d0_3 l => aCons l fun d0_4 l => aNil l (aInt IntKind.i64 d0_0 fun x0_0 => aStr d0_1 fun x0_1 => aInt IntKind.i64 d0_2 fun x0_2 => aInt IntKind.i64 d0_3 fun x0_3 => aInt IntKind.i64 d0_4 fun x0_4 => aStr d1 fun x1 => f x0_0 x0_1 x0_2 x0_3 x0_4 x1 (fun y0 => k (.v (.bool y0)) []))
  | _, _ => False
noncomputable def ent : Entry := fun args blks k kp => ent0 (convB [.no, .no] args) blks k kp
theorem ok : EntOk Tryd.prog 49 0 21 ent := by
  refine EntOk.convB (EntOk.of (funW_ok (cfg := cfg) (tyOk_of rfl rfl tyL_ok) (eqOk_of (P := Tryd.prog) rfl rfl (by kernel_rfl)) mixed_ok (tab_ok ?_) Tryd.func21 (by rfl) (by rfl)) ?_) _
  · intro p hp
    cases hp
  · intro args blks k kp h k' kp'
    match args, blks, h with
    | [d0, d1], [], h =>
    dsimp only [ent0] at h
    have h9 := aAgg_elim h; clear h; obtain ⟨_, rfl, h⟩ := h9
    have h9 := aCons_elim h; clear h; obtain ⟨d0_0, _, rfl, h⟩ := h9
    have h9 := aCons_elim h; clear h; obtain ⟨d0_1, _, rfl, h⟩ := h9
    have h9 := aCons_elim h; clear h; obtain ⟨d0_2, _, rfl, h⟩ := h9
    have h9 := aCons_elim h; clear h; obtain ⟨d0_3, _, rfl, h⟩ := h9
    have h9 := aCons_elim h; clear h; obtain ⟨d0_4, _, rfl, h⟩ := h9
    have h9 := aNil_elim h; clear h; obtain ⟨rfl, h⟩ := h9
    have h9 := aInt_elim h; clear h; obtain ⟨x0_0, rfl, h⟩ := h9
    have h9 := aStr_elim h; clear h; obtain ⟨x0_1, rfl, h⟩ := h9
    have h9 := aInt_elim h; clear h; obtain ⟨x0_2, rfl, h⟩ := h9
    have h9 := aInt_elim h; clear h; obtain ⟨x0_3, rfl, h⟩ := h9
    have h9 := aInt_elim h; clear h; obtain ⟨x0_4, rfl, h⟩ := h9
    have h9 := aStr_elim h; clear h; obtain ⟨x1, rfl, h⟩ := h9
    exact (f_eq k' kp' x0_0 x0_1 x0_2 x0_3 x0_4 x1).symm
end N21
end Go.Proofs.Ye
