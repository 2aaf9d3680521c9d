/- Functions of the program as plain functions, each with the proof that the code comes to them. -/
import Derived.Test.YtidclggijmbffaaDoorLeB0
import Derived.Test.YtidclggijmbffaaDoorLeB1
set_option linter.unusedVariables false
set_option linter.unusedSimpArgs false
namespace Go.Proofs.Ye
open Go Go.Aw Go.Proofs
set_option maxRecDepth 100000
set_option maxHeartbeats 4000000
namespace N27
noncomputable def cfg : Cfg := { P := Tryd.prog, tf := 49, tw := 0, ty := tys, E := tab [(48, N48.ent), (49, N49.ent), (50, N50.ent)], atSeq := tab [(21, ⟨[(0, .keep), (1, .keep), (4, .keep), (7, .keep), (8, .keep), (10, .keep)]⟩), (2000018, ⟨[(0, .keep), (1, .keep), (4, .keep), (7, .keep), (8, .keep), (10, .keep), (70, .keep)]⟩), (2000022, ⟨[(0, .keep), (1, .keep), (4, .keep), (7, .keep), (8, .keep), (10, .keep), (87, .keep)]⟩), (19, ⟨[(0, .keep), (1, .keep), (4, .keep), (7, .keep), (8, .keep), (10, .keep)]⟩), (2000025, ⟨[(0, .keep), (1, .keep), (4, .keep), (8, .keep), (10, .keep), (11, .keep), (12, .keep), (13, .keep), (116, .keep)]⟩), (30, ⟨[(0, .keep), (1, .keep), (4, .keep), (7, .keep), (8, .keep)]⟩), (26, ⟨[(0, .keep), (1, .keep), (4, .keep), (8, .keep), (10, .keep), (11, .keep), (12, .keep), (13, .keep)]⟩), (28, ⟨[(0, .keep), (1, .keep), (4, .keep), (8, .keep), (11, .keep), (12, .keep), (13, .keep)]⟩), (2000036, ⟨[(0, .keep), (1, .keep), (4, .keep), (8, .keep), (15, .keep), (156, .keep)]⟩), (39, ⟨[(4, .keep), (8, .keep)]⟩), (37, ⟨[(0, .keep), (1, .keep), (4, .keep), (8, .keep), (15, .keep)]⟩)], atLoop := tab [(31, ⟨[(0, .keep), (1, .keep), (4, .keep), (7, .keep), (8, .keep), (14, .keep)]⟩)], outs := [], eqT := tab [], bT := tab [], lt := [27, 28, 29, 30, 31, 32, 120, 121, 122, 123, 124, 125, 126, 127, 128, 129, 157, 158, 159, 160, 161, 162, 163, 164], pd := [] }
noncomputable def body : Code := bodyOf Tryd.f27
def j21 (j2000022 : BA → Int → Int → Int → Bool → Int → BA → Int → Int → Int → Int → BA → Int → Int → Int → Prop) (x0 : BA) (x1 x7 : Int) (x10 b0_0 : Int) (b0_1 : BA) (b0_2 b0_3 : Int) (b0_4 b1_0 : Int) (b1_1 : BA) (b1_2 b1_3 b1_4 : Int) (k : Int → BA → Int → Int → Int → Int → Int → Prop) : Prop :=
  (br (decide (x10 > (0 : Int))) (j2000022 x0 x1 x7 x10 true b0_0 b0_1 b0_2 b0_3 b0_4 b1_0 b1_1 b1_2 b1_3 b1_4) (br (decide (x7 ≥ (48 : Int))) (j2000022 x0 x1 x7 x10 (decide (x7 ≤ (57 : Int))) b0_0 b0_1 b0_2 b0_3 b0_4 b1_0 b1_1 b1_2 b1_3 b1_4) (j2000022 x0 x1 x7 x10 false b0_0 b0_1 b0_2 b0_3 b0_4 b1_0 b1_1 b1_2 b1_3 b1_4)))
def j2000018 (j19 : BA → Int → Int → Int → Int → BA → Int → Int → Int → Int → BA → Int → Int → Int → Prop) (x0 : BA) (x1 x7 x10 : Int) (x70 : Bool) (b0_0 : Int) (b0_1 : BA) (b0_2 b0_3 : Int) (b0_4 b1_0 : Int) (b1_1 : BA) (b1_2 b1_3 b1_4 : Int) (k : Int → BA → Int → Int → Int → Int → Int → Prop) : Prop :=
  (br x70 (k b1_0 b1_1 b1_2 b1_3 b1_4 (0 : Int) (12 : Int)) (j19 x0 x1 x7 x10 b0_0 b0_1 b0_2 b0_3 b0_4 b1_0 b1_1 b1_2 b1_3 b1_4))
def j2000022 (j2000025 : BA → Int → Int → Int → Int → Int → Bool → Int → BA → Int → Int → Int → Int → BA → Int → Int → Int → Prop) (j30 : BA → Int → Int → Int → BA → Int → Int → Int → Int → BA → Int → Int → Int → Prop) (x0 : BA) (x1 x7 x10 : Int) (x87 : Bool) (b0_0 : Int) (b0_1 : BA) (b0_2 b0_3 : Int) (b0_4 b1_0 : Int) (b1_1 : BA) (b1_2 b1_3 b1_4 : Int) (k : Int → BA → Int → Int → Int → Int → Int → Prop) : Prop :=
  (br x87 (N49.f x0 (IntKind.i64.wrap (x1 + x10)) (fun (y0_1 : Int) => ((inB (IntKind.i64.wrap (x1 + x10)) (IntKind.i64.wrap (x1 + (IntKind.i64.wrap (x10 + y0_1)))) (((x0).size : Nat) : Int)) ∧ (N50.f (ByteArray.extract x0 (Int.toNat (IntKind.i64.wrap (x1 + x10))) (Int.toNat (IntKind.i64.wrap (x1 + (IntKind.i64.wrap (x10 + y0_1)))))) (fun (y0_2 : Int) (y1_2 : Int) => (br (y1_2 == (0 : Int)) (br (decide (x10 > (0 : Int))) (j2000025 x0 x1 x10 (IntKind.i64.wrap (x10 + y0_1)) y0_2 y1_2 (decide (y0_2 > (2147483647 : Int))) b0_0 b0_1 b0_2 b0_3 b0_4 b1_0 b1_1 b1_2 b1_3 b1_4) (j2000025 x0 x1 x10 (IntKind.i64.wrap (x10 + y0_1)) y0_2 y1_2 false b0_0 b0_1 b0_2 b0_3 b0_4 b1_0 b1_1 b1_2 b1_3 b1_4)) (j2000025 x0 x1 x10 (IntKind.i64.wrap (x10 + y0_1)) y0_2 y1_2 false b0_0 b0_1 b0_2 b0_3 b0_4 b1_0 b1_1 b1_2 b1_3 b1_4))))))) (j30 x0 x1 x7 b0_0 b0_1 b0_2 b0_3 b0_4 b1_0 b1_1 b1_2 b1_3 b1_4))
def j19 (j21 : BA → Int → Int → Int → Int → BA → Int → Int → Int → Int → BA → Int → Int → Int → Prop) (x0 : BA) (x1 x7 : Int) (x10 b0_0 : Int) (b0_1 : BA) (b0_2 b0_3 : Int) (b0_4 b1_0 : Int) (b1_1 : BA) (b1_2 b1_3 b1_4 : Int) (k : Int → BA → Int → Int → Int → Int → Int → Prop) : Prop :=
  ((inB 0 (IntKind.i64.wrap (x1 + (1 : Int))) ((((x0).size : Nat) : Int) - 1)) ∧ (br ((byteAt x0 (IntKind.i64.wrap (x1 + (1 : Int)))) == (120 : Int)) (j21 x0 x1 x7 x10 b0_0 b0_1 b0_2 b0_3 b0_4 b1_0 b1_1 b1_2 (1 : Int) b1_4) (j21 x0 x1 x7 x10 b0_0 b0_1 b0_2 b0_3 b0_4 b1_0 b1_1 b1_2 b1_3 b1_4)))
def j2000025 (j26 : BA → Int → Int → Int → Int → Int → Int → BA → Int → Int → Int → Int → BA → Int → Int → Int → Prop) (x0 : BA) (x1 x10 : Int) (x11 x12 x13 : Int) (x116 : Bool) (b0_0 : Int) (b0_1 : BA) (b0_2 b0_3 : Int) (b0_4 b1_0 : Int) (b1_1 : BA) (b1_2 b1_3 b1_4 : Int) (k : Int → BA → Int → Int → Int → Int → Int → Prop) : Prop :=
  (br x116 (j26 x0 x1 x10 x11 x12 (2 : Int) b0_0 b0_1 b0_2 b0_3 b0_4 b1_0 b1_1 b1_2 b1_3 b1_4) (j26 x0 x1 x10 x11 x12 x13 b0_0 b0_1 b0_2 b0_3 b0_4 b1_0 b1_1 b1_2 b1_3 b1_4))
def j30 (l31 : BA → Int → Int → Int → Int → BA → Int → Int → Int → Int → BA → Int → Int → Int → Prop) (x0 : BA) (x1 x7 b0_0 : Int) (b0_1 : BA) (b0_2 b0_3 : Int) (b0_4 b1_0 : Int) (b1_1 : BA) (b1_2 b1_3 b1_4 : Int) (k : Int → BA → Int → Int → Int → Int → Int → Prop) : Prop :=
  (l31 x0 x1 x7 (0 : Int) b0_0 b0_1 b0_2 b0_3 b0_4 b1_0 b1_1 b1_2 b1_3 b1_4)
def j26 (j28 : BA → Int → Int → Int → Int → Int → BA → Int → Int → Int → Int → BA → Int → Int → Int → Prop) (x0 : BA) (x1 x10 : Int) (x11 x12 : Int) (x13 b0_0 : Int) (b0_1 : BA) (b0_2 b0_3 : Int) (b0_4 b1_0 : Int) (b1_1 : BA) (b1_2 b1_3 b1_4 : Int) (k : Int → BA → Int → Int → Int → Int → Int → Prop) : Prop :=
  (br (x10 == (0 : Int)) (j28 x0 x1 x11 x12 x13 b0_0 b0_1 b0_2 b0_3 b0_4 (2 : Int) b1_1 b1_2 b1_3 b1_4) (j28 x0 x1 x11 x12 x13 b0_0 b0_1 b0_2 b0_3 b0_4 b1_0 b1_1 b1_2 b1_3 b1_4))
def l31 (j2000036 : BA → Int → Int → Bool → Int → BA → Int → Int → Int → Int → BA → Int → Int → Int → Prop) (j39 : Int → BA → Int → Int → Int → Int → BA → Int → Int → Int → Prop) (ag31 : Int → Int → BA → Int → Int → Int → Int → BA → Int → Int → Int → Prop) (x0 : BA) (x1 x7 : Int) (x14 b0_0 : Int) (b0_1 : BA) (b0_2 b0_3 : Int) (b0_4 b1_0 : Int) (b1_1 : BA) (b1_2 b1_3 b1_4 : Int) (k : Int → BA → Int → Int → Int → Int → Int → Prop) : Prop :=
  (br (decide (x14 < (14 : Int))) ((inB 0 x14 (((((ByteArray.mk #[123, 125, 40, 41, 91, 93, 44, 58, 59, 61, 43, 45, 42, 46])).size : Nat) : Int) - 1)) ∧ (br ((byteAt (ByteArray.mk #[123, 125, 40, 41, 91, 93, 44, 58, 59, 61, 43, 45, 42, 46]) x14) == x7) (br (x7 == (46 : Int)) (br (decide ((IntKind.i64.wrap (x1 + (1 : Int))) < ((((x0).size : Nat) : Int)))) ((inB 0 (IntKind.i64.wrap (x1 + (1 : Int))) ((((x0).size : Nat) : Int) - 1)) ∧ (j2000036 x0 x1 (1 : Int) ((byteAt x0 (IntKind.i64.wrap (x1 + (1 : Int)))) == (46 : Int)) b0_0 b0_1 b0_2 b0_3 b0_4 b1_0 b1_1 b1_2 b1_3 b1_4)) (j2000036 x0 x1 (1 : Int) false b0_0 b0_1 b0_2 b0_3 b0_4 b1_0 b1_1 b1_2 b1_3 b1_4)) (j2000036 x0 x1 (1 : Int) false b0_0 b0_1 b0_2 b0_3 b0_4 b1_0 b1_1 b1_2 b1_3 b1_4)) (ag31 (IntKind.i64.wrap (x14 + (1 : Int))) b0_0 b0_1 b0_2 b0_3 b0_4 b1_0 b1_1 b1_2 b1_3 b1_4))) (j39 b0_0 b0_1 b0_2 b0_3 b0_4 b1_0 b1_1 b1_2 b1_3 b1_4))
def j28 (x0 : BA) (x1 x11 : Int) (x12 x13 b0_0 : Int) (b0_1 : BA) (b0_2 b0_3 : Int) (b0_4 b1_0 : Int) (b1_1 : BA) (b1_2 b1_3 b1_4 : Int) (k : Int → BA → Int → Int → Int → Int → Int → Prop) : Prop :=
  ((inB x1 (IntKind.i64.wrap (x1 + x11)) (((x0).size : Nat) : Int)) ∧ (k b1_0 (ByteArray.extract x0 (Int.toNat x1) (Int.toNat (IntKind.i64.wrap (x1 + x11)))) (IntKind.i64.wrap x12) b1_3 b1_4 x11 x13))
def j2000036 (j37 : BA → Int → Int → Int → BA → Int → Int → Int → Int → BA → Int → Int → Int → Prop) (x0 : BA) (x1 x15 : Int) (x156 : Bool) (b0_0 : Int) (b0_1 : BA) (b0_2 b0_3 : Int) (b0_4 b1_0 : Int) (b1_1 : BA) (b1_2 b1_3 b1_4 : Int) (k : Int → BA → Int → Int → Int → Int → Int → Prop) : Prop :=
  (br x156 (j37 x0 x1 (2 : Int) b0_0 b0_1 b0_2 b0_3 b0_4 b1_0 b1_1 b1_2 b1_3 b1_4) (j37 x0 x1 x15 b0_0 b0_1 b0_2 b0_3 b0_4 b1_0 b1_1 b1_2 b1_3 b1_4))
def j39 (b0_0 : Int) (b0_1 : BA) (b0_2 b0_3 : Int) (b0_4 b1_0 : Int) (b1_1 : BA) (b1_2 b1_3 b1_4 : Int) (k : Int → BA → Int → Int → Int → Int → Int → Prop) : Prop :=
  (k b1_0 b1_1 b1_2 b1_3 b1_4 (0 : Int) (10 : Int))
def j37 (x0 : BA) (x1 x15 b0_0 : Int) (b0_1 : BA) (b0_2 b0_3 : Int) (b0_4 b1_0 : Int) (b1_1 : BA) (b1_2 b1_3 b1_4 : Int) (k : Int → BA → Int → Int → Int → Int → Int → Prop) : Prop :=
  ((inB x1 (IntKind.i64.wrap (x1 + x15)) (((x0).size : Nat) : Int)) ∧ (k (7 : Int) (ByteArray.extract x0 (Int.toNat x1) (Int.toNat (IntKind.i64.wrap (x1 + x15)))) b1_2 b1_3 b1_4 x15 (0 : Int)))
def c (j21 : BA → Int → Int → Int → Int → BA → Int → Int → Int → Int → BA → Int → Int → Int → Prop) (j2000018 : BA → Int → Int → Int → Bool → Int → BA → Int → Int → Int → Int → BA → Int → Int → Int → Prop) (x0 : BA) (x1 : Int) (k : Int → BA → Int → Int → Int → Int → Int → Prop) : Prop :=
  ((inB 0 x1 ((((x0).size : Nat) : Int) - 1)) ∧ (N48.f x0 x1 (fun (y0_0 : Int) => (br (decide (y0_0 > x1)) ((inB x1 y0_0 (((x0).size : Nat) : Int)) ∧ (br (decide ((IntKind.i64.wrap (y0_0 - x1)) > (24 : Int))) (k (1 : Int) (ByteArray.extract x0 (Int.toNat x1) (Int.toNat y0_0)) (0 : Int) (0 : Int) x1 (0 : Int) (3 : Int)) (k (1 : Int) (ByteArray.extract x0 (Int.toNat x1) (Int.toNat y0_0)) (0 : Int) (0 : Int) x1 (IntKind.i64.wrap (y0_0 - x1)) (0 : Int)))) (br ((byteAt x0 x1) == (37 : Int)) (j21 x0 x1 (byteAt x0 x1) (1 : Int) (0 : Int) (ByteArray.mk #[]) (0 : Int) (0 : Int) (0 : Int) (4 : Int) (ByteArray.mk #[]) (0 : Int) (0 : Int) x1) (br ((byteAt x0 x1) == (35 : Int)) (j21 x0 x1 (byteAt x0 x1) (1 : Int) (0 : Int) (ByteArray.mk #[]) (0 : Int) (0 : Int) (0 : Int) (6 : Int) (ByteArray.mk #[]) (0 : Int) (0 : Int) x1) (br ((byteAt x0 x1) == (36 : Int)) (br ((IntKind.i64.wrap (x1 + (1 : Int))) == ((((x0).size : Nat) : Int))) (j2000018 x0 x1 (byteAt x0 x1) (2 : Int) true (0 : Int) (ByteArray.mk #[]) (0 : Int) (0 : Int) (0 : Int) (5 : Int) (ByteArray.mk #[]) (0 : Int) (0 : Int) x1) ((inB 0 (IntKind.i64.wrap (x1 + (1 : Int))) ((((x0).size : Nat) : Int) - 1)) ∧ (br ((byteAt x0 (IntKind.i64.wrap (x1 + (1 : Int)))) != (103 : Int)) ((inB 0 (IntKind.i64.wrap (x1 + (1 : Int))) ((((x0).size : Nat) : Int) - 1)) ∧ (j2000018 x0 x1 (byteAt x0 x1) (2 : Int) ((byteAt x0 (IntKind.i64.wrap (x1 + (1 : Int)))) != (120 : Int)) (0 : Int) (ByteArray.mk #[]) (0 : Int) (0 : Int) (0 : Int) (5 : Int) (ByteArray.mk #[]) (0 : Int) (0 : Int) x1)) (j2000018 x0 x1 (byteAt x0 x1) (2 : Int) false (0 : Int) (ByteArray.mk #[]) (0 : Int) (0 : Int) (0 : Int) (5 : Int) (ByteArray.mk #[]) (0 : Int) (0 : Int) x1)))) (j21 x0 x1 (byteAt x0 x1) (0 : Int) (0 : Int) (ByteArray.mk #[]) (0 : Int) (0 : Int) (0 : Int) (0 : Int) (ByteArray.mk #[]) (0 : Int) (0 : Int) x1))))))))
def j28' (x0 : BA) (x1 x11 : Int) (x12 x13 b0_0 : Int) (b0_1 : BA) (b0_2 b0_3 : Int) (b0_4 b1_0 : Int) (b1_1 : BA) (b1_2 b1_3 b1_4 : Int) (k : Int → BA → Int → Int → Int → Int → Int → Prop) : Prop := j28 x0 x1 x11 x12 x13 b0_0 b0_1 b0_2 b0_3 b0_4 b1_0 b1_1 b1_2 b1_3 b1_4 k
def j39' (b0_0 : Int) (b0_1 : BA) (b0_2 b0_3 : Int) (b0_4 b1_0 : Int) (b1_1 : BA) (b1_2 b1_3 b1_4 : Int) (k : Int → BA → Int → Int → Int → Int → Int → Prop) : Prop := j39 b0_0 b0_1 b0_2 b0_3 b0_4 b1_0 b1_1 b1_2 b1_3 b1_4 k
def j37' (x0 : BA) (x1 x15 b0_0 : Int) (b0_1 : BA) (b0_2 b0_3 : Int) (b0_4 b1_0 : Int) (b1_1 : BA) (b1_2 b1_3 b1_4 : Int) (k : Int → BA → Int → Int → Int → Int → Int → Prop) : Prop := j37 x0 x1 x15 b0_0 b0_1 b0_2 b0_3 b0_4 b1_0 b1_1 b1_2 b1_3 b1_4 k
def j26' (x0 : BA) (x1 x10 : Int) (x11 x12 : Int) (x13 b0_0 : Int) (b0_1 : BA) (b0_2 b0_3 : Int) (b0_4 b1_0 : Int) (b1_1 : BA) (b1_2 b1_3 b1_4 : Int) (k : Int → BA → Int → Int → Int → Int → Int → Prop) : Prop := j26 (fun x0 x1 x11 x12 x13 b0_0 b0_1 b0_2 b0_3 b0_4 b1_0 b1_1 b1_2 b1_3 b1_4 => j28' x0 x1 x11 x12 x13 b0_0 b0_1 b0_2 b0_3 b0_4 b1_0 b1_1 b1_2 b1_3 b1_4 k) x0 x1 x10 x11 x12 x13 b0_0 b0_1 b0_2 b0_3 b0_4 b1_0 b1_1 b1_2 b1_3 b1_4 k
def j2000036' (x0 : BA) (x1 x15 : Int) (x156 : Bool) (b0_0 : Int) (b0_1 : BA) (b0_2 b0_3 : Int) (b0_4 b1_0 : Int) (b1_1 : BA) (b1_2 b1_3 b1_4 : Int) (k : Int → BA → Int → Int → Int → Int → Int → Prop) : Prop := j2000036 (fun x0 x1 x15 b0_0 b0_1 b0_2 b0_3 b0_4 b1_0 b1_1 b1_2 b1_3 b1_4 => j37' x0 x1 x15 b0_0 b0_1 b0_2 b0_3 b0_4 b1_0 b1_1 b1_2 b1_3 b1_4 k) x0 x1 x15 x156 b0_0 b0_1 b0_2 b0_3 b0_4 b1_0 b1_1 b1_2 b1_3 b1_4 k
def j2000025' (x0 : BA) (x1 x10 : Int) (x11 x12 x13 : Int) (x116 : Bool) (b0_0 : Int) (b0_1 : BA) (b0_2 b0_3 : Int) (b0_4 b1_0 : Int) (b1_1 : BA) (b1_2 b1_3 b1_4 : Int) (k : Int → BA → Int → Int → Int → Int → Int → Prop) : Prop := j2000025 (fun x0 x1 x10 x11 x12 x13 b0_0 b0_1 b0_2 b0_3 b0_4 b1_0 b1_1 b1_2 b1_3 b1_4 => j26' x0 x1 x10 x11 x12 x13 b0_0 b0_1 b0_2 b0_3 b0_4 b1_0 b1_1 b1_2 b1_3 b1_4 k) x0 x1 x10 x11 x12 x13 x116 b0_0 b0_1 b0_2 b0_3 b0_4 b1_0 b1_1 b1_2 b1_3 b1_4 k
def l31' (x0 : BA) (x1 x7 : Int) (x14 b0_0 : Int) (b0_1 : BA) (b0_2 b0_3 : Int) (b0_4 b1_0 : Int) (b1_1 : BA) (b1_2 b1_3 b1_4 : Int) (k : Int → BA → Int → Int → Int → Int → Int → Prop) : Prop := ∃ n, loopS (fun (ag : (Int × Int × BA × Int × Int × Int × Int × BA × Int × Int × Int) → Prop) (s : Int × Int × BA × Int × Int × Int × Int × BA × Int × Int × Int) => l31 (fun x0 x1 x15 x156 b0_0 b0_1 b0_2 b0_3 b0_4 b1_0 b1_1 b1_2 b1_3 b1_4 => j2000036' x0 x1 x15 x156 b0_0 b0_1 b0_2 b0_3 b0_4 b1_0 b1_1 b1_2 b1_3 b1_4 k) (fun b0_0 b0_1 b0_2 b0_3 b0_4 b1_0 b1_1 b1_2 b1_3 b1_4 => j39' b0_0 b0_1 b0_2 b0_3 b0_4 b1_0 b1_1 b1_2 b1_3 b1_4 k) (fun x14 b0_0 b0_1 b0_2 b0_3 b0_4 b1_0 b1_1 b1_2 b1_3 b1_4 => ag (x14, b0_0, b0_1, b0_2, b0_3, b0_4, b1_0, b1_1, b1_2, b1_3, b1_4)) x0 x1 x7 s.1 s.2.1 s.2.2.1 s.2.2.2.1 s.2.2.2.2.1 s.2.2.2.2.2.1 s.2.2.2.2.2.2.1 s.2.2.2.2.2.2.2.1 s.2.2.2.2.2.2.2.2.1 s.2.2.2.2.2.2.2.2.2.1 s.2.2.2.2.2.2.2.2.2.2 k) n (x14, b0_0, b0_1, b0_2, b0_3, b0_4, b1_0, b1_1, b1_2, b1_3, b1_4)
def j30' (x0 : BA) (x1 x7 b0_0 : Int) (b0_1 : BA) (b0_2 b0_3 : Int) (b0_4 b1_0 : Int) (b1_1 : BA) (b1_2 b1_3 b1_4 : Int) (k : Int → BA → Int → Int → Int → Int → Int → Prop) : Prop := j30 (fun x0 x1 x7 x14 b0_0 b0_1 b0_2 b0_3 b0_4 b1_0 b1_1 b1_2 b1_3 b1_4 => l31' x0 x1 x7 x14 b0_0 b0_1 b0_2 b0_3 b0_4 b1_0 b1_1 b1_2 b1_3 b1_4 k) x0 x1 x7 b0_0 b0_1 b0_2 b0_3 b0_4 b1_0 b1_1 b1_2 b1_3 b1_4 k
def j2000022' (x0 : BA) (x1 x7 x10 : Int) (x87 : Bool) (b0_0 : Int) (b0_1 : BA) (b0_2 b0_3 : Int) (b0_4 b1_0 : Int) (b1_1 : BA) (b1_2 b1_3 b1_4 : Int) (k : Int → BA → Int → Int → Int → Int → Int → Prop) : Prop := j2000022 (fun x0 x1 x10 x11 x12 x13 x116 b0_0 b0_1 b0_2 b0_3 b0_4 b1_0 b1_1 b1_2 b1_3 b1_4 => j2000025' x0 x1 x10 x11 x12 x13 x116 b0_0 b0_1 b0_2 b0_3 b0_4 b1_0 b1_1 b1_2 b1_3 b1_4 k) (fun x0 x1 x7 b0_0 b0_1 b0_2 b0_3 b0_4 b1_0 b1_1 b1_2 b1_3 b1_4 => j30' x0 x1 x7 b0_0 b0_1 b0_2 b0_3 b0_4 b1_0 b1_1 b1_2 b1_3 b1_4 k) x0 x1 x7 x10 x87 b0_0 b0_1 b0_2 b0_3 b0_4 b1_0 b1_1 b1_2 b1_3 b1_4 k
def j21' (x0 : BA) (x1 x7 : Int) (x10 b0_0 : Int) (b0_1 : BA) (b0_2 b0_3 : Int) (b0_4 b1_0 : Int) (b1_1 : BA) (b1_2 b1_3 b1_4 : Int) (k : Int → BA → Int → Int → Int → Int → Int → Prop) : Prop := j21 (fun x0 x1 x7 x10 x87 b0_0 b0_1 b0_2 b0_3 b0_4 b1_0 b1_1 b1_2 b1_3 b1_4 => j2000022' x0 x1 x7 x10 x87 b0_0 b0_1 b0_2 b0_3 b0_4 b1_0 b1_1 b1_2 b1_3 b1_4 k) x0 x1 x7 x10 b0_0 b0_1 b0_2 b0_3 b0_4 b1_0 b1_1 b1_2 b1_3 b1_4 k
def j19' (x0 : BA) (x1 x7 : Int) (x10 b0_0 : Int) (b0_1 : BA) (b0_2 b0_3 : Int) (b0_4 b1_0 : Int) (b1_1 : BA) (b1_2 b1_3 b1_4 : Int) (k : Int → BA → Int → Int → Int → Int → Int → Prop) : Prop := j19 (fun x0 x1 x7 x10 b0_0 b0_1 b0_2 b0_3 b0_4 b1_0 b1_1 b1_2 b1_3 b1_4 => j21' x0 x1 x7 x10 b0_0 b0_1 b0_2 b0_3 b0_4 b1_0 b1_1 b1_2 b1_3 b1_4 k) x0 x1 x7 x10 b0_0 b0_1 b0_2 b0_3 b0_4 b1_0 b1_1 b1_2 b1_3 b1_4 k
def j2000018' (x0 : BA) (x1 x7 x10 : Int) (x70 : Bool) (b0_0 : Int) (b0_1 : BA) (b0_2 b0_3 : Int) (b0_4 b1_0 : Int) (b1_1 : BA) (b1_2 b1_3 b1_4 : Int) (k : Int → BA → Int → Int → Int → Int → Int → Prop) : Prop := j2000018 (fun x0 x1 x7 x10 b0_0 b0_1 b0_2 b0_3 b0_4 b1_0 b1_1 b1_2 b1_3 b1_4 => j19' x0 x1 x7 x10 b0_0 b0_1 b0_2 b0_3 b0_4 b1_0 b1_1 b1_2 b1_3 b1_4 k) x0 x1 x7 x10 x70 b0_0 b0_1 b0_2 b0_3 b0_4 b1_0 b1_1 b1_2 b1_3 b1_4 k
def f0 (x0 : BA) (x1 : Int) (k : Int → BA → Int → Int → Int → Int → Int → Prop) : Prop := c (fun x0 x1 x7 x10 b0_0 b0_1 b0_2 b0_3 b0_4 b1_0 b1_1 b1_2 b1_3 b1_4 => j21' x0 x1 x7 x10 b0_0 b0_1 b0_2 b0_3 b0_4 b1_0 b1_1 b1_2 b1_3 b1_4 k) (fun x0 x1 x7 x10 x70 b0_0 b0_1 b0_2 b0_3 b0_4 b1_0 b1_1 b1_2 b1_3 b1_4 => j2000018' x0 x1 x7 x10 x70 b0_0 b0_1 b0_2 b0_3 b0_4 b1_0 b1_1 b1_2 b1_3 b1_4 k) x0 x1 k
theorem f_ex : ∃ g, g = f0 := ⟨_, rfl⟩
noncomputable def f := Classical.choose f_ex
theorem f_def : f = f0 := Classical.choose_spec f_ex
def m21 (x0 : BA) (x1 x7 : Int) (x10 b0_0 : Int) (b0_1 : BA) (b0_2 b0_3 : Int) (b0_4 b1_0 : Int) (b1_1 : BA) (b1_2 b1_3 b1_4 : Int) : St := { tmps := mkT 168 0 [(0, (.v (.string x0))), (1, (.v (.int .i64 x1))), (4, (.ptr 0 0)), (7, (.v (.int IntKind.u8 x7))), (8, (.ptr 1 0)), (10, (.v (.int .i64 x10)))], hp := [(.box 42 [(.v (.int .i64 b0_0)), (.v (.string b0_1)), (.v (.int .i64 b0_2)), (.v (.int .i64 b0_3)), (.v (.int .i64 b0_4))]), (.box 42 [(.v (.int .i64 b1_0)), (.v (.string b1_1)), (.v (.int .i64 b1_2)), (.v (.int .i64 b1_3)), (.v (.int .i64 b1_4))])], m := 0 }
def m2000018 (x0 : BA) (x1 x7 x10 : Int) (x70 : Bool) (b0_0 : Int) (b0_1 : BA) (b0_2 b0_3 : Int) (b0_4 b1_0 : Int) (b1_1 : BA) (b1_2 b1_3 b1_4 : Int) : St := { tmps := mkT 168 0 [(0, (.v (.string x0))), (1, (.v (.int .i64 x1))), (4, (.ptr 0 0)), (7, (.v (.int IntKind.u8 x7))), (8, (.ptr 1 0)), (10, (.v (.int .i64 x10))), (70, (.v (.bool x70)))], hp := [(.box 42 [(.v (.int .i64 b0_0)), (.v (.string b0_1)), (.v (.int .i64 b0_2)), (.v (.int .i64 b0_3)), (.v (.int .i64 b0_4))]), (.box 42 [(.v (.int .i64 b1_0)), (.v (.string b1_1)), (.v (.int .i64 b1_2)), (.v (.int .i64 b1_3)), (.v (.int .i64 b1_4))])], m := 0 }
def m2000022 (x0 : BA) (x1 x7 x10 : Int) (x87 : Bool) (b0_0 : Int) (b0_1 : BA) (b0_2 b0_3 : Int) (b0_4 b1_0 : Int) (b1_1 : BA) (b1_2 b1_3 b1_4 : Int) : St := { tmps := mkT 168 0 [(0, (.v (.string x0))), (1, (.v (.int .i64 x1))), (4, (.ptr 0 0)), (7, (.v (.int IntKind.u8 x7))), (8, (.ptr 1 0)), (10, (.v (.int .i64 x10))), (87, (.v (.bool x87)))], hp := [(.box 42 [(.v (.int .i64 b0_0)), (.v (.string b0_1)), (.v (.int .i64 b0_2)), (.v (.int .i64 b0_3)), (.v (.int .i64 b0_4))]), (.box 42 [(.v (.int .i64 b1_0)), (.v (.string b1_1)), (.v (.int .i64 b1_2)), (.v (.int .i64 b1_3)), (.v (.int .i64 b1_4))])], m := 0 }
def m19 (x0 : BA) (x1 x7 : Int) (x10 b0_0 : Int) (b0_1 : BA) (b0_2 b0_3 : Int) (b0_4 b1_0 : Int) (b1_1 : BA) (b1_2 b1_3 b1_4 : Int) : St := { tmps := mkT 168 0 [(0, (.v (.string x0))), (1, (.v (.int .i64 x1))), (4, (.ptr 0 0)), (7, (.v (.int IntKind.u8 x7))), (8, (.ptr 1 0)), (10, (.v (.int .i64 x10)))], hp := [(.box 42 [(.v (.int .i64 b0_0)), (.v (.string b0_1)), (.v (.int .i64 b0_2)), (.v (.int .i64 b0_3)), (.v (.int .i64 b0_4))]), (.box 42 [(.v (.int .i64 b1_0)), (.v (.string b1_1)), (.v (.int .i64 b1_2)), (.v (.int .i64 b1_3)), (.v (.int .i64 b1_4))])], m := 0 }
def m2000025 (x0 : BA) (x1 x10 : Int) (x11 x12 x13 : Int) (x116 : Bool) (b0_0 : Int) (b0_1 : BA) (b0_2 b0_3 : Int) (b0_4 b1_0 : Int) (b1_1 : BA) (b1_2 b1_3 b1_4 : Int) : St := { tmps := mkT 168 0 [(0, (.v (.string x0))), (1, (.v (.int .i64 x1))), (4, (.ptr 0 0)), (8, (.ptr 1 0)), (10, (.v (.int .i64 x10))), (11, (.v (.int .i64 x11))), (12, (.v (.int IntKind.u64 x12))), (13, (.v (.int .i64 x13))), (116, (.v (.bool x116)))], hp := [(.box 42 [(.v (.int .i64 b0_0)), (.v (.string b0_1)), (.v (.int .i64 b0_2)), (.v (.int .i64 b0_3)), (.v (.int .i64 b0_4))]), (.box 42 [(.v (.int .i64 b1_0)), (.v (.string b1_1)), (.v (.int .i64 b1_2)), (.v (.int .i64 b1_3)), (.v (.int .i64 b1_4))])], m := 0 }
def m30 (x0 : BA) (x1 x7 b0_0 : Int) (b0_1 : BA) (b0_2 b0_3 : Int) (b0_4 b1_0 : Int) (b1_1 : BA) (b1_2 b1_3 b1_4 : Int) : St := { tmps := mkT 168 0 [(0, (.v (.string x0))), (1, (.v (.int .i64 x1))), (4, (.ptr 0 0)), (7, (.v (.int IntKind.u8 x7))), (8, (.ptr 1 0))], hp := [(.box 42 [(.v (.int .i64 b0_0)), (.v (.string b0_1)), (.v (.int .i64 b0_2)), (.v (.int .i64 b0_3)), (.v (.int .i64 b0_4))]), (.box 42 [(.v (.int .i64 b1_0)), (.v (.string b1_1)), (.v (.int .i64 b1_2)), (.v (.int .i64 b1_3)), (.v (.int .i64 b1_4))])], m := 0 }
def m26 (x0 : BA) (x1 x10 : Int) (x11 x12 : Int) (x13 b0_0 : Int) (b0_1 : BA) (b0_2 b0_3 : Int) (b0_4 b1_0 : Int) (b1_1 : BA) (b1_2 b1_3 b1_4 : Int) : St := { tmps := mkT 168 0 [(0, (.v (.string x0))), (1, (.v (.int .i64 x1))), (4, (.ptr 0 0)), (8, (.ptr 1 0)), (10, (.v (.int .i64 x10))), (11, (.v (.int .i64 x11))), (12, (.v (.int IntKind.u64 x12))), (13, (.v (.int .i64 x13)))], hp := [(.box 42 [(.v (.int .i64 b0_0)), (.v (.string b0_1)), (.v (.int .i64 b0_2)), (.v (.int .i64 b0_3)), (.v (.int .i64 b0_4))]), (.box 42 [(.v (.int .i64 b1_0)), (.v (.string b1_1)), (.v (.int .i64 b1_2)), (.v (.int .i64 b1_3)), (.v (.int .i64 b1_4))])], m := 0 }
def mL31 (x0 : BA) (x1 x7 : Int) (x14 b0_0 : Int) (b0_1 : BA) (b0_2 b0_3 : Int) (b0_4 b1_0 : Int) (b1_1 : BA) (b1_2 b1_3 b1_4 : Int) : St := { tmps := mkT 168 0 [(0, (.v (.string x0))), (1, (.v (.int .i64 x1))), (4, (.ptr 0 0)), (7, (.v (.int IntKind.u8 x7))), (8, (.ptr 1 0)), (14, (.v (.int .i64 x14)))], hp := [(.box 42 [(.v (.int .i64 b0_0)), (.v (.string b0_1)), (.v (.int .i64 b0_2)), (.v (.int .i64 b0_3)), (.v (.int .i64 b0_4))]), (.box 42 [(.v (.int .i64 b1_0)), (.v (.string b1_1)), (.v (.int .i64 b1_2)), (.v (.int .i64 b1_3)), (.v (.int .i64 b1_4))])], m := 0 }
def m28 (x0 : BA) (x1 x11 : Int) (x12 x13 b0_0 : Int) (b0_1 : BA) (b0_2 b0_3 : Int) (b0_4 b1_0 : Int) (b1_1 : BA) (b1_2 b1_3 b1_4 : Int) : St := { tmps := mkT 168 0 [(0, (.v (.string x0))), (1, (.v (.int .i64 x1))), (4, (.ptr 0 0)), (8, (.ptr 1 0)), (11, (.v (.int .i64 x11))), (12, (.v (.int IntKind.u64 x12))), (13, (.v (.int .i64 x13)))], hp := [(.box 42 [(.v (.int .i64 b0_0)), (.v (.string b0_1)), (.v (.int .i64 b0_2)), (.v (.int .i64 b0_3)), (.v (.int .i64 b0_4))]), (.box 42 [(.v (.int .i64 b1_0)), (.v (.string b1_1)), (.v (.int .i64 b1_2)), (.v (.int .i64 b1_3)), (.v (.int .i64 b1_4))])], m := 0 }
def m2000036 (x0 : BA) (x1 x15 : Int) (x156 : Bool) (b0_0 : Int) (b0_1 : BA) (b0_2 b0_3 : Int) (b0_4 b1_0 : Int) (b1_1 : BA) (b1_2 b1_3 b1_4 : Int) : St := { tmps := mkT 168 0 [(0, (.v (.string x0))), (1, (.v (.int .i64 x1))), (4, (.ptr 0 0)), (8, (.ptr 1 0)), (15, (.v (.int .i64 x15))), (156, (.v (.bool x156)))], hp := [(.box 42 [(.v (.int .i64 b0_0)), (.v (.string b0_1)), (.v (.int .i64 b0_2)), (.v (.int .i64 b0_3)), (.v (.int .i64 b0_4))]), (.box 42 [(.v (.int .i64 b1_0)), (.v (.string b1_1)), (.v (.int .i64 b1_2)), (.v (.int .i64 b1_3)), (.v (.int .i64 b1_4))])], m := 0 }
def m39 (b0_0 : Int) (b0_1 : BA) (b0_2 b0_3 : Int) (b0_4 b1_0 : Int) (b1_1 : BA) (b1_2 b1_3 b1_4 : Int) : St := { tmps := mkT 168 0 [(4, (.ptr 0 0)), (8, (.ptr 1 0))], hp := [(.box 42 [(.v (.int .i64 b0_0)), (.v (.string b0_1)), (.v (.int .i64 b0_2)), (.v (.int .i64 b0_3)), (.v (.int .i64 b0_4))]), (.box 42 [(.v (.int .i64 b1_0)), (.v (.string b1_1)), (.v (.int .i64 b1_2)), (.v (.int .i64 b1_3)), (.v (.int .i64 b1_4))])], m := 0 }
def m37 (x0 : BA) (x1 x15 b0_0 : Int) (b0_1 : BA) (b0_2 b0_3 : Int) (b0_4 b1_0 : Int) (b1_1 : BA) (b1_2 b1_3 b1_4 : Int) : St := { tmps := mkT 168 0 [(0, (.v (.string x0))), (1, (.v (.int .i64 x1))), (4, (.ptr 0 0)), (8, (.ptr 1 0)), (15, (.v (.int .i64 x15)))], hp := [(.box 42 [(.v (.int .i64 b0_0)), (.v (.string b0_1)), (.v (.int .i64 b0_2)), (.v (.int .i64 b0_3)), (.v (.int .i64 b0_4))]), (.box 42 [(.v (.int .i64 b1_0)), (.v (.string b1_1)), (.v (.int .i64 b1_2)), (.v (.int .i64 b1_3)), (.v (.int .i64 b1_4))])], m := 0 }
noncomputable def X21 (k kp : KT) : St → Prop := atP cfg (pick none' []) [1, 1, 1, 1, 1, 1] body (topK cfg Tryd.f27 k kp)
noncomputable def X2000018 (k kp : KT) : St → Prop := atP cfg (pick none' []) [1, 1, 1, 1, 1, 0, 1, 0, 1, 1, 1, 1, 1, 0, 1, 0, 1] body (topK cfg Tryd.f27 k kp)
noncomputable def X2000022 (k kp : KT) : St → Prop := atP cfg (pick none' []) [1, 1, 1, 1, 1, 1, 0, 1] body (topK cfg Tryd.f27 k kp)
noncomputable def X19 (k kp : KT) : St → Prop := atP cfg (pick none' []) [1, 1, 1, 1, 1, 0, 1, 0, 1, 1, 1, 1, 1, 0, 1, 1] body (topK cfg Tryd.f27 k kp)
noncomputable def X2000025 (k kp : KT) : St → Prop := atP cfg (pick none' []) [1, 1, 1, 1, 1, 1, 0, 1, 0, 1, 1, 0, 1] body (topK cfg Tryd.f27 k kp)
noncomputable def X30 (k kp : KT) : St → Prop := atP cfg (pick none' []) [1, 1, 1, 1, 1, 1, 1] body (topK cfg Tryd.f27 k kp)
noncomputable def X26 (k kp : KT) : St → Prop := atP cfg (pick none' []) [1, 1, 1, 1, 1, 1, 0, 1, 0, 1, 1, 1] body (topK cfg Tryd.f27 k kp)
noncomputable def YL31 (k kp : KT) : (St → Prop) → St → Prop := loopB cfg (sub [1, 1, 1, 1, 1, 1, 1, 0, 1, 0, 0] body) (contK cfg (pick none' []) [1, 1, 1, 1, 1, 1, 1, 0, 1, 0] body (topK cfg Tryd.f27 k kp))
noncomputable def XL31 (k kp : KT) : St → Prop := fun st => ∃ n, loopN (YL31 k kp) n st
noncomputable def X28 (k kp : KT) : St → Prop := atP cfg (pick none' []) [1, 1, 1, 1, 1, 1, 0, 1, 0, 1, 1, 1, 1] body (topK cfg Tryd.f27 k kp)
noncomputable def X2000036 (k kp : KT) (ag31 : St → Prop) : St → Prop := atP cfg (pick none' [(31, ag31)]) [1, 1, 1, 1, 1, 1, 1, 0, 1, 0, 0, 1, 0, 0, 1, 0, 1, 0, 1] body (topK cfg Tryd.f27 k kp)
noncomputable def X39 (k kp : KT) : St → Prop := atP cfg (pick none' []) [1, 1, 1, 1, 1, 1, 1, 1] body (topK cfg Tryd.f27 k kp)
noncomputable def X37 (k kp : KT) (ag31 : St → Prop) : St → Prop := atP cfg (pick none' [(31, ag31)]) [1, 1, 1, 1, 1, 1, 1, 0, 1, 0, 0, 1, 0, 0, 1, 0, 1, 1] body (topK cfg Tryd.f27 k kp)
noncomputable def JJ (k kp : KT) : Nat → St → Prop := pick none' [(21, X21 k kp), (2000018, X2000018 k kp), (2000022, X2000022 k kp), (19, X19 k kp), (2000025, X2000025 k kp), (30, X30 k kp), (26, X26 k kp), (28, X28 k kp), (39, X39 k kp)]
noncomputable def LL (k kp : KT) : Nat → St → Prop := pick none' [(31, XL31 k kp)]
noncomputable def JJ_31 (k kp : KT) (ag31 : St → Prop) : Nat → St → Prop := pick none' [(21, X21 k kp), (2000018, X2000018 k kp), (2000022, X2000022 k kp), (19, X19 k kp), (2000025, X2000025 k kp), (30, X30 k kp), (26, X26 k kp), (28, X28 k kp), (2000036, X2000036 k kp ag31), (39, X39 k kp), (37, X37 k kp ag31)]
noncomputable def LL_31 (k kp : KT) (ag31 : St → Prop) : Nat → St → Prop := pick none' [(31, XL31 k kp)]
theorem j28_c (k kp : KT) (J L : Nat → St → Prop) (x0 : BA) (x1 x11 : Int) (x12 x13 b0_0 : Int) (b0_1 : BA) (b0_2 b0_3 : Int) (b0_4 b1_0 : Int) (b1_1 : BA) (b1_2 b1_3 b1_4 : Int) : runC cfg 28 J L (pick none' []) [1, 1, 1, 1, 1, 1, 0, 1, 0, 1, 1, 1, 1] body (topK cfg Tryd.f27 k kp) (m28 x0 x1 x11 x12 x13 b0_0 b0_1 b0_2 b0_3 b0_4 b1_0 b1_1 b1_2 b1_3 b1_4) = j28 x0 x1 x11 x12 x13 b0_0 b0_1 b0_2 b0_3 b0_4 b1_0 b1_1 b1_2 b1_3 b1_4 (fun y0_0 y0_1 y0_2 y0_3 y0_4 y1 y2 => k (.tup [(.agg [(.v (.int .i64 y0_0)), (.v (.string y0_1)), (.v (.int .i64 y0_2)), (.v (.int .i64 y0_3)), (.v (.int .i64 y0_4))]), (.v (.int .i64 y1)), (.v (.int .i64 y2))]) []) := by kernel_rfl
theorem j28_ag (k kp : KT) : agPL cfg 28 (JJ k kp) (LL k kp) [1, 1, 1, 1, 1, 1, 0, 1, 0, 1, 1, 1, 1] body = agPR cfg 28 (pick none' []) [1, 1, 1, 1, 1, 1, 0, 1, 0, 1, 1, 1, 1] body (topK cfg Tryd.f27 k kp) := by kernel_rfl
theorem j28_raw (k kp : KT) (x0 : BA) (x1 x11 : Int) (x12 x13 b0_0 : Int) (b0_1 : BA) (b0_2 b0_3 : Int) (b0_4 b1_0 : Int) (b1_1 : BA) (b1_2 b1_3 b1_4 : Int) : X28 k kp (m28 x0 x1 x11 x12 x13 b0_0 b0_1 b0_2 b0_3 b0_4 b1_0 b1_1 b1_2 b1_3 b1_4) = j28 x0 x1 x11 x12 x13 b0_0 b0_1 b0_2 b0_3 b0_4 b1_0 b1_1 b1_2 b1_3 b1_4 (fun y0_0 y0_1 y0_2 y0_3 y0_4 y1 y2 => k (.tup [(.agg [(.v (.int .i64 y0_0)), (.v (.string y0_1)), (.v (.int .i64 y0_2)), (.v (.int .i64 y0_3)), (.v (.int .i64 y0_4))]), (.v (.int .i64 y1)), (.v (.int .i64 y2))]) []) :=
  Eq.mp (by kernel_rfl) ((atP_run (j28_ag k kp) (m28 x0 x1 x11 x12 x13 b0_0 b0_1 b0_2 b0_3 b0_4 b1_0 b1_1 b1_2 b1_3 b1_4)).trans (j28_c k kp (JJ k kp) (LL k kp) x0 x1 x11 x12 x13 b0_0 b0_1 b0_2 b0_3 b0_4 b1_0 b1_1 b1_2 b1_3 b1_4))
theorem j28_eq (k kp : KT) (x0 : BA) (x1 x11 : Int) (x12 x13 b0_0 : Int) (b0_1 : BA) (b0_2 b0_3 : Int) (b0_4 b1_0 : Int) (b1_1 : BA) (b1_2 b1_3 b1_4 : Int) : X28 k kp (m28 x0 x1 x11 x12 x13 b0_0 b0_1 b0_2 b0_3 b0_4 b1_0 b1_1 b1_2 b1_3 b1_4) = j28' x0 x1 x11 x12 x13 b0_0 b0_1 b0_2 b0_3 b0_4 b1_0 b1_1 b1_2 b1_3 b1_4 (fun y0_0 y0_1 y0_2 y0_3 y0_4 y1 y2 => k (.tup [(.agg [(.v (.int .i64 y0_0)), (.v (.string y0_1)), (.v (.int .i64 y0_2)), (.v (.int .i64 y0_3)), (.v (.int .i64 y0_4))]), (.v (.int .i64 y1)), (.v (.int .i64 y2))]) []) := by
  rw [j28_raw]; rfl
theorem j39_c (k kp : KT) (J L : Nat → St → Prop) (b0_0 : Int) (b0_1 : BA) (b0_2 b0_3 : Int) (b0_4 b1_0 : Int) (b1_1 : BA) (b1_2 b1_3 b1_4 : Int) : runC cfg 39 J L (pick none' []) [1, 1, 1, 1, 1, 1, 1, 1] body (topK cfg Tryd.f27 k kp) (m39 b0_0 b0_1 b0_2 b0_3 b0_4 b1_0 b1_1 b1_2 b1_3 b1_4) = j39 b0_0 b0_1 b0_2 b0_3 b0_4 b1_0 b1_1 b1_2 b1_3 b1_4 (fun y0_0 y0_1 y0_2 y0_3 y0_4 y1 y2 => k (.tup [(.agg [(.v (.int .i64 y0_0)), (.v (.string y0_1)), (.v (.int .i64 y0_2)), (.v (.int .i64 y0_3)), (.v (.int .i64 y0_4))]), (.v (.int .i64 y1)), (.v (.int .i64 y2))]) []) := by kernel_rfl
theorem j39_ag (k kp : KT) : agPL cfg 39 (JJ k kp) (LL k kp) [1, 1, 1, 1, 1, 1, 1, 1] body = agPR cfg 39 (pick none' []) [1, 1, 1, 1, 1, 1, 1, 1] body (topK cfg Tryd.f27 k kp) := by kernel_rfl
theorem j39_raw (k kp : KT) (b0_0 : Int) (b0_1 : BA) (b0_2 b0_3 : Int) (b0_4 b1_0 : Int) (b1_1 : BA) (b1_2 b1_3 b1_4 : Int) : X39 k kp (m39 b0_0 b0_1 b0_2 b0_3 b0_4 b1_0 b1_1 b1_2 b1_3 b1_4) = j39 b0_0 b0_1 b0_2 b0_3 b0_4 b1_0 b1_1 b1_2 b1_3 b1_4 (fun y0_0 y0_1 y0_2 y0_3 y0_4 y1 y2 => k (.tup [(.agg [(.v (.int .i64 y0_0)), (.v (.string y0_1)), (.v (.int .i64 y0_2)), (.v (.int .i64 y0_3)), (.v (.int .i64 y0_4))]), (.v (.int .i64 y1)), (.v (.int .i64 y2))]) []) :=
  Eq.mp (by kernel_rfl) ((atP_run (j39_ag k kp) (m39 b0_0 b0_1 b0_2 b0_3 b0_4 b1_0 b1_1 b1_2 b1_3 b1_4)).trans (j39_c k kp (JJ k kp) (LL k kp) b0_0 b0_1 b0_2 b0_3 b0_4 b1_0 b1_1 b1_2 b1_3 b1_4))
theorem j39_eq (k kp : KT) (b0_0 : Int) (b0_1 : BA) (b0_2 b0_3 : Int) (b0_4 b1_0 : Int) (b1_1 : BA) (b1_2 b1_3 b1_4 : Int) : X39 k kp (m39 b0_0 b0_1 b0_2 b0_3 b0_4 b1_0 b1_1 b1_2 b1_3 b1_4) = j39' b0_0 b0_1 b0_2 b0_3 b0_4 b1_0 b1_1 b1_2 b1_3 b1_4 (fun y0_0 y0_1 y0_2 y0_3 y0_4 y1 y2 => k (.tup [(.agg [(.v (.int .i64 y0_0)), (.v (.string y0_1)), (.v (.int .i64 y0_2)), (.v (.int .i64 y0_3)), (.v (.int .i64 y0_4))]), (.v (.int .i64 y1)), (.v (.int .i64 y2))]) []) := by
  rw [j39_raw]; rfl
theorem j37_c (k kp : KT) (J L : Nat → St → Prop) (ag31 : St → Prop) (x0 : BA) (x1 x15 b0_0 : Int) (b0_1 : BA) (b0_2 b0_3 : Int) (b0_4 b1_0 : Int) (b1_1 : BA) (b1_2 b1_3 b1_4 : Int) : runC cfg 37 J L (pick none' [(31, ag31)]) [1, 1, 1, 1, 1, 1, 1, 0, 1, 0, 0, 1, 0, 0, 1, 0, 1, 1] body (topK cfg Tryd.f27 k kp) (m37 x0 x1 x15 b0_0 b0_1 b0_2 b0_3 b0_4 b1_0 b1_1 b1_2 b1_3 b1_4) = j37 x0 x1 x15 b0_0 b0_1 b0_2 b0_3 b0_4 b1_0 b1_1 b1_2 b1_3 b1_4 (fun y0_0 y0_1 y0_2 y0_3 y0_4 y1 y2 => k (.tup [(.agg [(.v (.int .i64 y0_0)), (.v (.string y0_1)), (.v (.int .i64 y0_2)), (.v (.int .i64 y0_3)), (.v (.int .i64 y0_4))]), (.v (.int .i64 y1)), (.v (.int .i64 y2))]) []) := by kernel_rfl
theorem j37_ag (k kp : KT) (ag31 : St → Prop) : agPL cfg 37 (JJ_31 k kp ag31) (LL_31 k kp ag31) [1, 1, 1, 1, 1, 1, 1, 0, 1, 0, 0, 1, 0, 0, 1, 0, 1, 1] body = agPR cfg 37 (pick none' [(31, ag31)]) [1, 1, 1, 1, 1, 1, 1, 0, 1, 0, 0, 1, 0, 0, 1, 0, 1, 1] body (topK cfg Tryd.f27 k kp) := by kernel_rfl
theorem j37_raw (k kp : KT) (ag31 : St → Prop) (x0 : BA) (x1 x15 b0_0 : Int) (b0_1 : BA) (b0_2 b0_3 : Int) (b0_4 b1_0 : Int) (b1_1 : BA) (b1_2 b1_3 b1_4 : Int) : X37 k kp ag31 (m37 x0 x1 x15 b0_0 b0_1 b0_2 b0_3 b0_4 b1_0 b1_1 b1_2 b1_3 b1_4) = j37 x0 x1 x15 b0_0 b0_1 b0_2 b0_3 b0_4 b1_0 b1_1 b1_2 b1_3 b1_4 (fun y0_0 y0_1 y0_2 y0_3 y0_4 y1 y2 => k (.tup [(.agg [(.v (.int .i64 y0_0)), (.v (.string y0_1)), (.v (.int .i64 y0_2)), (.v (.int .i64 y0_3)), (.v (.int .i64 y0_4))]), (.v (.int .i64 y1)), (.v (.int .i64 y2))]) []) :=
  Eq.mp (by kernel_rfl) ((atP_run (j37_ag k kp ag31) (m37 x0 x1 x15 b0_0 b0_1 b0_2 b0_3 b0_4 b1_0 b1_1 b1_2 b1_3 b1_4)).trans (j37_c k kp (JJ_31 k kp ag31) (LL_31 k kp ag31) ag31 x0 x1 x15 b0_0 b0_1 b0_2 b0_3 b0_4 b1_0 b1_1 b1_2 b1_3 b1_4))
theorem j37_eq (k kp : KT) (ag31 : St → Prop) (x0 : BA) (x1 x15 b0_0 : Int) (b0_1 : BA) (b0_2 b0_3 : Int) (b0_4 b1_0 : Int) (b1_1 : BA) (b1_2 b1_3 b1_4 : Int) : X37 k kp ag31 (m37 x0 x1 x15 b0_0 b0_1 b0_2 b0_3 b0_4 b1_0 b1_1 b1_2 b1_3 b1_4) = j37' x0 x1 x15 b0_0 b0_1 b0_2 b0_3 b0_4 b1_0 b1_1 b1_2 b1_3 b1_4 (fun y0_0 y0_1 y0_2 y0_3 y0_4 y1 y2 => k (.tup [(.agg [(.v (.int .i64 y0_0)), (.v (.string y0_1)), (.v (.int .i64 y0_2)), (.v (.int .i64 y0_3)), (.v (.int .i64 y0_4))]), (.v (.int .i64 y1)), (.v (.int .i64 y2))]) []) := by
  rw [j37_raw]; rfl
theorem j26_c (k kp : KT) (J L : Nat → St → Prop) (x0 : BA) (x1 x10 : Int) (x11 x12 : Int) (x13 b0_0 : Int) (b0_1 : BA) (b0_2 b0_3 : Int) (b0_4 b1_0 : Int) (b1_1 : BA) (b1_2 b1_3 b1_4 : Int) : runC cfg 26 J L (pick none' []) [1, 1, 1, 1, 1, 1, 0, 1, 0, 1, 1, 1] body (topK cfg Tryd.f27 k kp) (m26 x0 x1 x10 x11 x12 x13 b0_0 b0_1 b0_2 b0_3 b0_4 b1_0 b1_1 b1_2 b1_3 b1_4) = j26 (fun x0 x1 x11 x12 x13 b0_0 b0_1 b0_2 b0_3 b0_4 b1_0 b1_1 b1_2 b1_3 b1_4 => J 28 (m28 x0 x1 x11 x12 x13 b0_0 b0_1 b0_2 b0_3 b0_4 b1_0 b1_1 b1_2 b1_3 b1_4)) x0 x1 x10 x11 x12 x13 b0_0 b0_1 b0_2 b0_3 b0_4 b1_0 b1_1 b1_2 b1_3 b1_4 (fun y0_0 y0_1 y0_2 y0_3 y0_4 y1 y2 => k (.tup [(.agg [(.v (.int .i64 y0_0)), (.v (.string y0_1)), (.v (.int .i64 y0_2)), (.v (.int .i64 y0_3)), (.v (.int .i64 y0_4))]), (.v (.int .i64 y1)), (.v (.int .i64 y2))]) []) := by kernel_rfl
theorem j26_ag (k kp : KT) : agPL cfg 26 (JJ k kp) (LL k kp) [1, 1, 1, 1, 1, 1, 0, 1, 0, 1, 1, 1] body = agPR cfg 26 (pick none' []) [1, 1, 1, 1, 1, 1, 0, 1, 0, 1, 1, 1] body (topK cfg Tryd.f27 k kp) := by kernel_rfl
theorem j26_raw (k kp : KT) (x0 : BA) (x1 x10 : Int) (x11 x12 : Int) (x13 b0_0 : Int) (b0_1 : BA) (b0_2 b0_3 : Int) (b0_4 b1_0 : Int) (b1_1 : BA) (b1_2 b1_3 b1_4 : Int) : X26 k kp (m26 x0 x1 x10 x11 x12 x13 b0_0 b0_1 b0_2 b0_3 b0_4 b1_0 b1_1 b1_2 b1_3 b1_4) = j26 (fun x0 x1 x11 x12 x13 b0_0 b0_1 b0_2 b0_3 b0_4 b1_0 b1_1 b1_2 b1_3 b1_4 => X28 k kp (m28 x0 x1 x11 x12 x13 b0_0 b0_1 b0_2 b0_3 b0_4 b1_0 b1_1 b1_2 b1_3 b1_4)) x0 x1 x10 x11 x12 x13 b0_0 b0_1 b0_2 b0_3 b0_4 b1_0 b1_1 b1_2 b1_3 b1_4 (fun y0_0 y0_1 y0_2 y0_3 y0_4 y1 y2 => k (.tup [(.agg [(.v (.int .i64 y0_0)), (.v (.string y0_1)), (.v (.int .i64 y0_2)), (.v (.int .i64 y0_3)), (.v (.int .i64 y0_4))]), (.v (.int .i64 y1)), (.v (.int .i64 y2))]) []) :=
  Eq.mp (by kernel_rfl) ((atP_run (j26_ag k kp) (m26 x0 x1 x10 x11 x12 x13 b0_0 b0_1 b0_2 b0_3 b0_4 b1_0 b1_1 b1_2 b1_3 b1_4)).trans (j26_c k kp (JJ k kp) (LL k kp) x0 x1 x10 x11 x12 x13 b0_0 b0_1 b0_2 b0_3 b0_4 b1_0 b1_1 b1_2 b1_3 b1_4))
theorem j26_eq (k kp : KT) (x0 : BA) (x1 x10 : Int) (x11 x12 : Int) (x13 b0_0 : Int) (b0_1 : BA) (b0_2 b0_3 : Int) (b0_4 b1_0 : Int) (b1_1 : BA) (b1_2 b1_3 b1_4 : Int) : X26 k kp (m26 x0 x1 x10 x11 x12 x13 b0_0 b0_1 b0_2 b0_3 b0_4 b1_0 b1_1 b1_2 b1_3 b1_4) = j26' x0 x1 x10 x11 x12 x13 b0_0 b0_1 b0_2 b0_3 b0_4 b1_0 b1_1 b1_2 b1_3 b1_4 (fun y0_0 y0_1 y0_2 y0_3 y0_4 y1 y2 => k (.tup [(.agg [(.v (.int .i64 y0_0)), (.v (.string y0_1)), (.v (.int .i64 y0_2)), (.v (.int .i64 y0_3)), (.v (.int .i64 y0_4))]), (.v (.int .i64 y1)), (.v (.int .i64 y2))]) []) := by
  rw [j26_raw]; simp only [j28_eq]; first | done | rfl
theorem j2000036_c (k kp : KT) (J L : Nat → St → Prop) (ag31 : St → Prop) (x0 : BA) (x1 x15 : Int) (x156 : Bool) (b0_0 : Int) (b0_1 : BA) (b0_2 b0_3 : Int) (b0_4 b1_0 : Int) (b1_1 : BA) (b1_2 b1_3 b1_4 : Int) : runC cfg 2000036 J L (pick none' [(31, ag31)]) [1, 1, 1, 1, 1, 1, 1, 0, 1, 0, 0, 1, 0, 0, 1, 0, 1, 0, 1] body (topK cfg Tryd.f27 k kp) (m2000036 x0 x1 x15 x156 b0_0 b0_1 b0_2 b0_3 b0_4 b1_0 b1_1 b1_2 b1_3 b1_4) = j2000036 (fun x0 x1 x15 b0_0 b0_1 b0_2 b0_3 b0_4 b1_0 b1_1 b1_2 b1_3 b1_4 => J 37 (m37 x0 x1 x15 b0_0 b0_1 b0_2 b0_3 b0_4 b1_0 b1_1 b1_2 b1_3 b1_4)) x0 x1 x15 x156 b0_0 b0_1 b0_2 b0_3 b0_4 b1_0 b1_1 b1_2 b1_3 b1_4 (fun y0_0 y0_1 y0_2 y0_3 y0_4 y1 y2 => k (.tup [(.agg [(.v (.int .i64 y0_0)), (.v (.string y0_1)), (.v (.int .i64 y0_2)), (.v (.int .i64 y0_3)), (.v (.int .i64 y0_4))]), (.v (.int .i64 y1)), (.v (.int .i64 y2))]) []) := by kernel_rfl
theorem j2000036_ag (k kp : KT) (ag31 : St → Prop) : agPL cfg 2000036 (JJ_31 k kp ag31) (LL_31 k kp ag31) [1, 1, 1, 1, 1, 1, 1, 0, 1, 0, 0, 1, 0, 0, 1, 0, 1, 0, 1] body = agPR cfg 2000036 (pick none' [(31, ag31)]) [1, 1, 1, 1, 1, 1, 1, 0, 1, 0, 0, 1, 0, 0, 1, 0, 1, 0, 1] body (topK cfg Tryd.f27 k kp) := by kernel_rfl
theorem j2000036_raw (k kp : KT) (ag31 : St → Prop) (x0 : BA) (x1 x15 : Int) (x156 : Bool) (b0_0 : Int) (b0_1 : BA) (b0_2 b0_3 : Int) (b0_4 b1_0 : Int) (b1_1 : BA) (b1_2 b1_3 b1_4 : Int) : X2000036 k kp ag31 (m2000036 x0 x1 x15 x156 b0_0 b0_1 b0_2 b0_3 b0_4 b1_0 b1_1 b1_2 b1_3 b1_4) = j2000036 (fun x0 x1 x15 b0_0 b0_1 b0_2 b0_3 b0_4 b1_0 b1_1 b1_2 b1_3 b1_4 => X37 k kp ag31 (m37 x0 x1 x15 b0_0 b0_1 b0_2 b0_3 b0_4 b1_0 b1_1 b1_2 b1_3 b1_4)) x0 x1 x15 x156 b0_0 b0_1 b0_2 b0_3 b0_4 b1_0 b1_1 b1_2 b1_3 b1_4 (fun y0_0 y0_1 y0_2 y0_3 y0_4 y1 y2 => k (.tup [(.agg [(.v (.int .i64 y0_0)), (.v (.string y0_1)), (.v (.int .i64 y0_2)), (.v (.int .i64 y0_3)), (.v (.int .i64 y0_4))]), (.v (.int .i64 y1)), (.v (.int .i64 y2))]) []) :=
  Eq.mp (by kernel_rfl) ((atP_run (j2000036_ag k kp ag31) (m2000036 x0 x1 x15 x156 b0_0 b0_1 b0_2 b0_3 b0_4 b1_0 b1_1 b1_2 b1_3 b1_4)).trans (j2000036_c k kp (JJ_31 k kp ag31) (LL_31 k kp ag31) ag31 x0 x1 x15 x156 b0_0 b0_1 b0_2 b0_3 b0_4 b1_0 b1_1 b1_2 b1_3 b1_4))
theorem j2000036_eq (k kp : KT) (ag31 : St → Prop) (x0 : BA) (x1 x15 : Int) (x156 : Bool) (b0_0 : Int) (b0_1 : BA) (b0_2 b0_3 : Int) (b0_4 b1_0 : Int) (b1_1 : BA) (b1_2 b1_3 b1_4 : Int) : X2000036 k kp ag31 (m2000036 x0 x1 x15 x156 b0_0 b0_1 b0_2 b0_3 b0_4 b1_0 b1_1 b1_2 b1_3 b1_4) = j2000036' x0 x1 x15 x156 b0_0 b0_1 b0_2 b0_3 b0_4 b1_0 b1_1 b1_2 b1_3 b1_4 (fun y0_0 y0_1 y0_2 y0_3 y0_4 y1 y2 => k (.tup [(.agg [(.v (.int .i64 y0_0)), (.v (.string y0_1)), (.v (.int .i64 y0_2)), (.v (.int .i64 y0_3)), (.v (.int .i64 y0_4))]), (.v (.int .i64 y1)), (.v (.int .i64 y2))]) []) := by
  rw [j2000036_raw]; simp only [j37_eq]; first | done | rfl
theorem j2000025_c (k kp : KT) (J L : Nat → St → Prop) (x0 : BA) (x1 x10 : Int) (x11 x12 x13 : Int) (x116 : Bool) (b0_0 : Int) (b0_1 : BA) (b0_2 b0_3 : Int) (b0_4 b1_0 : Int) (b1_1 : BA) (b1_2 b1_3 b1_4 : Int) : runC cfg 2000025 J L (pick none' []) [1, 1, 1, 1, 1, 1, 0, 1, 0, 1, 1, 0, 1] body (topK cfg Tryd.f27 k kp) (m2000025 x0 x1 x10 x11 x12 x13 x116 b0_0 b0_1 b0_2 b0_3 b0_4 b1_0 b1_1 b1_2 b1_3 b1_4) = j2000025 (fun x0 x1 x10 x11 x12 x13 b0_0 b0_1 b0_2 b0_3 b0_4 b1_0 b1_1 b1_2 b1_3 b1_4 => J 26 (m26 x0 x1 x10 x11 x12 x13 b0_0 b0_1 b0_2 b0_3 b0_4 b1_0 b1_1 b1_2 b1_3 b1_4)) x0 x1 x10 x11 x12 x13 x116 b0_0 b0_1 b0_2 b0_3 b0_4 b1_0 b1_1 b1_2 b1_3 b1_4 (fun y0_0 y0_1 y0_2 y0_3 y0_4 y1 y2 => k (.tup [(.agg [(.v (.int .i64 y0_0)), (.v (.string y0_1)), (.v (.int .i64 y0_2)), (.v (.int .i64 y0_3)), (.v (.int .i64 y0_4))]), (.v (.int .i64 y1)), (.v (.int .i64 y2))]) []) := by kernel_rfl
theorem j2000025_ag (k kp : KT) : agPL cfg 2000025 (JJ k kp) (LL k kp) [1, 1, 1, 1, 1, 1, 0, 1, 0, 1, 1, 0, 1] body = agPR cfg 2000025 (pick none' []) [1, 1, 1, 1, 1, 1, 0, 1, 0, 1, 1, 0, 1] body (topK cfg Tryd.f27 k kp) := by kernel_rfl
theorem j2000025_raw (k kp : KT) (x0 : BA) (x1 x10 : Int) (x11 x12 x13 : Int) (x116 : Bool) (b0_0 : Int) (b0_1 : BA) (b0_2 b0_3 : Int) (b0_4 b1_0 : Int) (b1_1 : BA) (b1_2 b1_3 b1_4 : Int) : X2000025 k kp (m2000025 x0 x1 x10 x11 x12 x13 x116 b0_0 b0_1 b0_2 b0_3 b0_4 b1_0 b1_1 b1_2 b1_3 b1_4) = j2000025 (fun x0 x1 x10 x11 x12 x13 b0_0 b0_1 b0_2 b0_3 b0_4 b1_0 b1_1 b1_2 b1_3 b1_4 => X26 k kp (m26 x0 x1 x10 x11 x12 x13 b0_0 b0_1 b0_2 b0_3 b0_4 b1_0 b1_1 b1_2 b1_3 b1_4)) x0 x1 x10 x11 x12 x13 x116 b0_0 b0_1 b0_2 b0_3 b0_4 b1_0 b1_1 b1_2 b1_3 b1_4 (fun y0_0 y0_1 y0_2 y0_3 y0_4 y1 y2 => k (.tup [(.agg [(.v (.int .i64 y0_0)), (.v (.string y0_1)), (.v (.int .i64 y0_2)), (.v (.int .i64 y0_3)), (.v (.int .i64 y0_4))]), (.v (.int .i64 y1)), (.v (.int .i64 y2))]) []) :=
  Eq.mp (by kernel_rfl) ((atP_run (j2000025_ag k kp) (m2000025 x0 x1 x10 x11 x12 x13 x116 b0_0 b0_1 b0_2 b0_3 b0_4 b1_0 b1_1 b1_2 b1_3 b1_4)).trans (j2000025_c k kp (JJ k kp) (LL k kp) x0 x1 x10 x11 x12 x13 x116 b0_0 b0_1 b0_2 b0_3 b0_4 b1_0 b1_1 b1_2 b1_3 b1_4))
theorem j2000025_eq (k kp : KT) (x0 : BA) (x1 x10 : Int) (x11 x12 x13 : Int) (x116 : Bool) (b0_0 : Int) (b0_1 : BA) (b0_2 b0_3 : Int) (b0_4 b1_0 : Int) (b1_1 : BA) (b1_2 b1_3 b1_4 : Int) : X2000025 k kp (m2000025 x0 x1 x10 x11 x12 x13 x116 b0_0 b0_1 b0_2 b0_3 b0_4 b1_0 b1_1 b1_2 b1_3 b1_4) = j2000025' x0 x1 x10 x11 x12 x13 x116 b0_0 b0_1 b0_2 b0_3 b0_4 b1_0 b1_1 b1_2 b1_3 b1_4 (fun y0_0 y0_1 y0_2 y0_3 y0_4 y1 y2 => k (.tup [(.agg [(.v (.int .i64 y0_0)), (.v (.string y0_1)), (.v (.int .i64 y0_2)), (.v (.int .i64 y0_3)), (.v (.int .i64 y0_4))]), (.v (.int .i64 y1)), (.v (.int .i64 y2))]) []) := by
  rw [j2000025_raw]; simp only [j26_eq]; first | done | rfl
theorem l31_c (k kp : KT) (J L : Nat → St → Prop) (ag31 : St → Prop) (x0 : BA) (x1 x7 : Int) (x14 b0_0 : Int) (b0_1 : BA) (b0_2 b0_3 : Int) (b0_4 b1_0 : Int) (b1_1 : BA) (b1_2 b1_3 b1_4 : Int) : runC cfg 1000001 J L (pick none' [(31, ag31)]) [1, 1, 1, 1, 1, 1, 1, 0, 1, 0, 0] body (topK cfg Tryd.f27 k kp) (mL31 x0 x1 x7 x14 b0_0 b0_1 b0_2 b0_3 b0_4 b1_0 b1_1 b1_2 b1_3 b1_4) = l31 (fun x0 x1 x15 x156 b0_0 b0_1 b0_2 b0_3 b0_4 b1_0 b1_1 b1_2 b1_3 b1_4 => J 2000036 (m2000036 x0 x1 x15 x156 b0_0 b0_1 b0_2 b0_3 b0_4 b1_0 b1_1 b1_2 b1_3 b1_4)) (fun b0_0 b0_1 b0_2 b0_3 b0_4 b1_0 b1_1 b1_2 b1_3 b1_4 => J 39 (m39 b0_0 b0_1 b0_2 b0_3 b0_4 b1_0 b1_1 b1_2 b1_3 b1_4)) (fun x14 b0_0 b0_1 b0_2 b0_3 b0_4 b1_0 b1_1 b1_2 b1_3 b1_4 => ag31 (mL31 x0 x1 x7 x14 b0_0 b0_1 b0_2 b0_3 b0_4 b1_0 b1_1 b1_2 b1_3 b1_4)) x0 x1 x7 x14 b0_0 b0_1 b0_2 b0_3 b0_4 b1_0 b1_1 b1_2 b1_3 b1_4 (fun y0_0 y0_1 y0_2 y0_3 y0_4 y1 y2 => k (.tup [(.agg [(.v (.int .i64 y0_0)), (.v (.string y0_1)), (.v (.int .i64 y0_2)), (.v (.int .i64 y0_3)), (.v (.int .i64 y0_4))]), (.v (.int .i64 y1)), (.v (.int .i64 y2))]) []) := by kernel_rfl
theorem l31_ag (k kp : KT) (ag31 : St → Prop) : agPL cfg 1000001 (JJ_31 k kp ag31) (LL_31 k kp ag31) [1, 1, 1, 1, 1, 1, 1, 0, 1, 0, 0] body = agPR cfg 1000001 (pick none' [(31, ag31)]) [1, 1, 1, 1, 1, 1, 1, 0, 1, 0, 0] body (topK cfg Tryd.f27 k kp) := by kernel_rfl
theorem l31_raw (k kp : KT) (ag31 : St → Prop) (x0 : BA) (x1 x7 : Int) (x14 b0_0 : Int) (b0_1 : BA) (b0_2 b0_3 : Int) (b0_4 b1_0 : Int) (b1_1 : BA) (b1_2 b1_3 b1_4 : Int) : YL31 k kp ag31 (mL31 x0 x1 x7 x14 b0_0 b0_1 b0_2 b0_3 b0_4 b1_0 b1_1 b1_2 b1_3 b1_4) = l31 (fun x0 x1 x15 x156 b0_0 b0_1 b0_2 b0_3 b0_4 b1_0 b1_1 b1_2 b1_3 b1_4 => X2000036 k kp ag31 (m2000036 x0 x1 x15 x156 b0_0 b0_1 b0_2 b0_3 b0_4 b1_0 b1_1 b1_2 b1_3 b1_4)) (fun b0_0 b0_1 b0_2 b0_3 b0_4 b1_0 b1_1 b1_2 b1_3 b1_4 => X39 k kp (m39 b0_0 b0_1 b0_2 b0_3 b0_4 b1_0 b1_1 b1_2 b1_3 b1_4)) (fun x14 b0_0 b0_1 b0_2 b0_3 b0_4 b1_0 b1_1 b1_2 b1_3 b1_4 => ag31 (mL31 x0 x1 x7 x14 b0_0 b0_1 b0_2 b0_3 b0_4 b1_0 b1_1 b1_2 b1_3 b1_4)) x0 x1 x7 x14 b0_0 b0_1 b0_2 b0_3 b0_4 b1_0 b1_1 b1_2 b1_3 b1_4 (fun y0_0 y0_1 y0_2 y0_3 y0_4 y1 y2 => k (.tup [(.agg [(.v (.int .i64 y0_0)), (.v (.string y0_1)), (.v (.int .i64 y0_2)), (.v (.int .i64 y0_3)), (.v (.int .i64 y0_4))]), (.v (.int .i64 y1)), (.v (.int .i64 y2))]) []) :=
  Eq.mp (by kernel_rfl) ((atP_run (l31_ag k kp ag31) (mL31 x0 x1 x7 x14 b0_0 b0_1 b0_2 b0_3 b0_4 b1_0 b1_1 b1_2 b1_3 b1_4)).trans (l31_c k kp (JJ_31 k kp ag31) (LL_31 k kp ag31) ag31 x0 x1 x7 x14 b0_0 b0_1 b0_2 b0_3 b0_4 b1_0 b1_1 b1_2 b1_3 b1_4))
theorem l31_eq (k kp : KT) (x0 : BA) (x1 x7 : Int) (x14 b0_0 : Int) (b0_1 : BA) (b0_2 b0_3 : Int) (b0_4 b1_0 : Int) (b1_1 : BA) (b1_2 b1_3 b1_4 : Int) : XL31 k kp (mL31 x0 x1 x7 x14 b0_0 b0_1 b0_2 b0_3 b0_4 b1_0 b1_1 b1_2 b1_3 b1_4) = l31' x0 x1 x7 x14 b0_0 b0_1 b0_2 b0_3 b0_4 b1_0 b1_1 b1_2 b1_3 b1_4 (fun y0_0 y0_1 y0_2 y0_3 y0_4 y1 y2 => k (.tup [(.agg [(.v (.int .i64 y0_0)), (.v (.string y0_1)), (.v (.int .i64 y0_2)), (.v (.int .i64 y0_3)), (.v (.int .i64 y0_4))]), (.v (.int .i64 y1)), (.v (.int .i64 y2))]) []) :=
  loop_eq (mk := fun (s : Int × Int × BA × Int × Int × Int × Int × BA × Int × Int × Int) => mL31 x0 x1 x7 s.1 s.2.1 s.2.2.1 s.2.2.2.1 s.2.2.2.2.1 s.2.2.2.2.2.1 s.2.2.2.2.2.2.1 s.2.2.2.2.2.2.2.1 s.2.2.2.2.2.2.2.2.1 s.2.2.2.2.2.2.2.2.2.1 s.2.2.2.2.2.2.2.2.2.2) (fun again s => by rw [l31_raw k kp again x0 x1 x7 s.1 s.2.1 s.2.2.1 s.2.2.2.1 s.2.2.2.2.1 s.2.2.2.2.2.1 s.2.2.2.2.2.2.1 s.2.2.2.2.2.2.2.1 s.2.2.2.2.2.2.2.2.1 s.2.2.2.2.2.2.2.2.2.1 s.2.2.2.2.2.2.2.2.2.2]; simp only [j2000036_eq, j39_eq]; first | done | rfl) (x14, b0_0, b0_1, b0_2, b0_3, b0_4, b1_0, b1_1, b1_2, b1_3, b1_4)
theorem j30_c (k kp : KT) (J L : Nat → St → Prop) (x0 : BA) (x1 x7 b0_0 : Int) (b0_1 : BA) (b0_2 b0_3 : Int) (b0_4 b1_0 : Int) (b1_1 : BA) (b1_2 b1_3 b1_4 : Int) : runC cfg 30 J L (pick none' []) [1, 1, 1, 1, 1, 1, 1] body (topK cfg Tryd.f27 k kp) (m30 x0 x1 x7 b0_0 b0_1 b0_2 b0_3 b0_4 b1_0 b1_1 b1_2 b1_3 b1_4) = j30 (fun x0 x1 x7 x14 b0_0 b0_1 b0_2 b0_3 b0_4 b1_0 b1_1 b1_2 b1_3 b1_4 => L 31 (mL31 x0 x1 x7 x14 b0_0 b0_1 b0_2 b0_3 b0_4 b1_0 b1_1 b1_2 b1_3 b1_4)) x0 x1 x7 b0_0 b0_1 b0_2 b0_3 b0_4 b1_0 b1_1 b1_2 b1_3 b1_4 (fun y0_0 y0_1 y0_2 y0_3 y0_4 y1 y2 => k (.tup [(.agg [(.v (.int .i64 y0_0)), (.v (.string y0_1)), (.v (.int .i64 y0_2)), (.v (.int .i64 y0_3)), (.v (.int .i64 y0_4))]), (.v (.int .i64 y1)), (.v (.int .i64 y2))]) []) := by kernel_rfl
theorem j30_ag (k kp : KT) : agPL cfg 30 (JJ k kp) (LL k kp) [1, 1, 1, 1, 1, 1, 1] body = agPR cfg 30 (pick none' []) [1, 1, 1, 1, 1, 1, 1] body (topK cfg Tryd.f27 k kp) := by kernel_rfl
theorem j30_raw (k kp : KT) (x0 : BA) (x1 x7 b0_0 : Int) (b0_1 : BA) (b0_2 b0_3 : Int) (b0_4 b1_0 : Int) (b1_1 : BA) (b1_2 b1_3 b1_4 : Int) : X30 k kp (m30 x0 x1 x7 b0_0 b0_1 b0_2 b0_3 b0_4 b1_0 b1_1 b1_2 b1_3 b1_4) = j30 (fun x0 x1 x7 x14 b0_0 b0_1 b0_2 b0_3 b0_4 b1_0 b1_1 b1_2 b1_3 b1_4 => XL31 k kp (mL31 x0 x1 x7 x14 b0_0 b0_1 b0_2 b0_3 b0_4 b1_0 b1_1 b1_2 b1_3 b1_4)) x0 x1 x7 b0_0 b0_1 b0_2 b0_3 b0_4 b1_0 b1_1 b1_2 b1_3 b1_4 (fun y0_0 y0_1 y0_2 y0_3 y0_4 y1 y2 => k (.tup [(.agg [(.v (.int .i64 y0_0)), (.v (.string y0_1)), (.v (.int .i64 y0_2)), (.v (.int .i64 y0_3)), (.v (.int .i64 y0_4))]), (.v (.int .i64 y1)), (.v (.int .i64 y2))]) []) :=
  Eq.mp (by kernel_rfl) ((atP_run (j30_ag k kp) (m30 x0 x1 x7 b0_0 b0_1 b0_2 b0_3 b0_4 b1_0 b1_1 b1_2 b1_3 b1_4)).trans (j30_c k kp (JJ k kp) (LL k kp) x0 x1 x7 b0_0 b0_1 b0_2 b0_3 b0_4 b1_0 b1_1 b1_2 b1_3 b1_4))
theorem j30_eq (k kp : KT) (x0 : BA) (x1 x7 b0_0 : Int) (b0_1 : BA) (b0_2 b0_3 : Int) (b0_4 b1_0 : Int) (b1_1 : BA) (b1_2 b1_3 b1_4 : Int) : X30 k kp (m30 x0 x1 x7 b0_0 b0_1 b0_2 b0_3 b0_4 b1_0 b1_1 b1_2 b1_3 b1_4) = j30' x0 x1 x7 b0_0 b0_1 b0_2 b0_3 b0_4 b1_0 b1_1 b1_2 b1_3 b1_4 (fun y0_0 y0_1 y0_2 y0_3 y0_4 y1 y2 => k (.tup [(.agg [(.v (.int .i64 y0_0)), (.v (.string y0_1)), (.v (.int .i64 y0_2)), (.v (.int .i64 y0_3)), (.v (.int .i64 y0_4))]), (.v (.int .i64 y1)), (.v (.int .i64 y2))]) []) := by
  rw [j30_raw]; simp only [l31_eq]; first | done | rfl
theorem j2000022_c (k kp : KT) (J L : Nat → St → Prop) (x0 : BA) (x1 x7 x10 : Int) (x87 : Bool) (b0_0 : Int) (b0_1 : BA) (b0_2 b0_3 : Int) (b0_4 b1_0 : Int) (b1_1 : BA) (b1_2 b1_3 b1_4 : Int) : runC cfg 2000022 J L (pick none' []) [1, 1, 1, 1, 1, 1, 0, 1] body (topK cfg Tryd.f27 k kp) (m2000022 x0 x1 x7 x10 x87 b0_0 b0_1 b0_2 b0_3 b0_4 b1_0 b1_1 b1_2 b1_3 b1_4) = j2000022 (fun x0 x1 x10 x11 x12 x13 x116 b0_0 b0_1 b0_2 b0_3 b0_4 b1_0 b1_1 b1_2 b1_3 b1_4 => J 2000025 (m2000025 x0 x1 x10 x11 x12 x13 x116 b0_0 b0_1 b0_2 b0_3 b0_4 b1_0 b1_1 b1_2 b1_3 b1_4)) (fun x0 x1 x7 b0_0 b0_1 b0_2 b0_3 b0_4 b1_0 b1_1 b1_2 b1_3 b1_4 => J 30 (m30 x0 x1 x7 b0_0 b0_1 b0_2 b0_3 b0_4 b1_0 b1_1 b1_2 b1_3 b1_4)) x0 x1 x7 x10 x87 b0_0 b0_1 b0_2 b0_3 b0_4 b1_0 b1_1 b1_2 b1_3 b1_4 (fun y0_0 y0_1 y0_2 y0_3 y0_4 y1 y2 => k (.tup [(.agg [(.v (.int .i64 y0_0)), (.v (.string y0_1)), (.v (.int .i64 y0_2)), (.v (.int .i64 y0_3)), (.v (.int .i64 y0_4))]), (.v (.int .i64 y1)), (.v (.int .i64 y2))]) []) := by kernel_rfl
theorem j2000022_ag (k kp : KT) : agPL cfg 2000022 (JJ k kp) (LL k kp) [1, 1, 1, 1, 1, 1, 0, 1] body = agPR cfg 2000022 (pick none' []) [1, 1, 1, 1, 1, 1, 0, 1] body (topK cfg Tryd.f27 k kp) := by kernel_rfl
theorem j2000022_raw (k kp : KT) (x0 : BA) (x1 x7 x10 : Int) (x87 : Bool) (b0_0 : Int) (b0_1 : BA) (b0_2 b0_3 : Int) (b0_4 b1_0 : Int) (b1_1 : BA) (b1_2 b1_3 b1_4 : Int) : X2000022 k kp (m2000022 x0 x1 x7 x10 x87 b0_0 b0_1 b0_2 b0_3 b0_4 b1_0 b1_1 b1_2 b1_3 b1_4) = j2000022 (fun x0 x1 x10 x11 x12 x13 x116 b0_0 b0_1 b0_2 b0_3 b0_4 b1_0 b1_1 b1_2 b1_3 b1_4 => X2000025 k kp (m2000025 x0 x1 x10 x11 x12 x13 x116 b0_0 b0_1 b0_2 b0_3 b0_4 b1_0 b1_1 b1_2 b1_3 b1_4)) (fun x0 x1 x7 b0_0 b0_1 b0_2 b0_3 b0_4 b1_0 b1_1 b1_2 b1_3 b1_4 => X30 k kp (m30 x0 x1 x7 b0_0 b0_1 b0_2 b0_3 b0_4 b1_0 b1_1 b1_2 b1_3 b1_4)) x0 x1 x7 x10 x87 b0_0 b0_1 b0_2 b0_3 b0_4 b1_0 b1_1 b1_2 b1_3 b1_4 (fun y0_0 y0_1 y0_2 y0_3 y0_4 y1 y2 => k (.tup [(.agg [(.v (.int .i64 y0_0)), (.v (.string y0_1)), (.v (.int .i64 y0_2)), (.v (.int .i64 y0_3)), (.v (.int .i64 y0_4))]), (.v (.int .i64 y1)), (.v (.int .i64 y2))]) []) :=
  Eq.mp (by kernel_rfl) ((atP_run (j2000022_ag k kp) (m2000022 x0 x1 x7 x10 x87 b0_0 b0_1 b0_2 b0_3 b0_4 b1_0 b1_1 b1_2 b1_3 b1_4)).trans (j2000022_c k kp (JJ k kp) (LL k kp) x0 x1 x7 x10 x87 b0_0 b0_1 b0_2 b0_3 b0_4 b1_0 b1_1 b1_2 b1_3 b1_4))
theorem j2000022_eq (k kp : KT) (x0 : BA) (x1 x7 x10 : Int) (x87 : Bool) (b0_0 : Int) (b0_1 : BA) (b0_2 b0_3 : Int) (b0_4 b1_0 : Int) (b1_1 : BA) (b1_2 b1_3 b1_4 : Int) : X2000022 k kp (m2000022 x0 x1 x7 x10 x87 b0_0 b0_1 b0_2 b0_3 b0_4 b1_0 b1_1 b1_2 b1_3 b1_4) = j2000022' x0 x1 x7 x10 x87 b0_0 b0_1 b0_2 b0_3 b0_4 b1_0 b1_1 b1_2 b1_3 b1_4 (fun y0_0 y0_1 y0_2 y0_3 y0_4 y1 y2 => k (.tup [(.agg [(.v (.int .i64 y0_0)), (.v (.string y0_1)), (.v (.int .i64 y0_2)), (.v (.int .i64 y0_3)), (.v (.int .i64 y0_4))]), (.v (.int .i64 y1)), (.v (.int .i64 y2))]) []) := by
  rw [j2000022_raw]; simp only [j2000025_eq, j30_eq]; first | done | rfl
theorem j21_c (k kp : KT) (J L : Nat → St → Prop) (x0 : BA) (x1 x7 : Int) (x10 b0_0 : Int) (b0_1 : BA) (b0_2 b0_3 : Int) (b0_4 b1_0 : Int) (b1_1 : BA) (b1_2 b1_3 b1_4 : Int) : runC cfg 21 J L (pick none' []) [1, 1, 1, 1, 1, 1] body (topK cfg Tryd.f27 k kp) (m21 x0 x1 x7 x10 b0_0 b0_1 b0_2 b0_3 b0_4 b1_0 b1_1 b1_2 b1_3 b1_4) = j21 (fun x0 x1 x7 x10 x87 b0_0 b0_1 b0_2 b0_3 b0_4 b1_0 b1_1 b1_2 b1_3 b1_4 => J 2000022 (m2000022 x0 x1 x7 x10 x87 b0_0 b0_1 b0_2 b0_3 b0_4 b1_0 b1_1 b1_2 b1_3 b1_4)) x0 x1 x7 x10 b0_0 b0_1 b0_2 b0_3 b0_4 b1_0 b1_1 b1_2 b1_3 b1_4 (fun y0_0 y0_1 y0_2 y0_3 y0_4 y1 y2 => k (.tup [(.agg [(.v (.int .i64 y0_0)), (.v (.string y0_1)), (.v (.int .i64 y0_2)), (.v (.int .i64 y0_3)), (.v (.int .i64 y0_4))]), (.v (.int .i64 y1)), (.v (.int .i64 y2))]) []) := by kernel_rfl
theorem j21_ag (k kp : KT) : agPL cfg 21 (JJ k kp) (LL k kp) [1, 1, 1, 1, 1, 1] body = agPR cfg 21 (pick none' []) [1, 1, 1, 1, 1, 1] body (topK cfg Tryd.f27 k kp) := by kernel_rfl
theorem j21_raw (k kp : KT) (x0 : BA) (x1 x7 : Int) (x10 b0_0 : Int) (b0_1 : BA) (b0_2 b0_3 : Int) (b0_4 b1_0 : Int) (b1_1 : BA) (b1_2 b1_3 b1_4 : Int) : X21 k kp (m21 x0 x1 x7 x10 b0_0 b0_1 b0_2 b0_3 b0_4 b1_0 b1_1 b1_2 b1_3 b1_4) = j21 (fun x0 x1 x7 x10 x87 b0_0 b0_1 b0_2 b0_3 b0_4 b1_0 b1_1 b1_2 b1_3 b1_4 => X2000022 k kp (m2000022 x0 x1 x7 x10 x87 b0_0 b0_1 b0_2 b0_3 b0_4 b1_0 b1_1 b1_2 b1_3 b1_4)) x0 x1 x7 x10 b0_0 b0_1 b0_2 b0_3 b0_4 b1_0 b1_1 b1_2 b1_3 b1_4 (fun y0_0 y0_1 y0_2 y0_3 y0_4 y1 y2 => k (.tup [(.agg [(.v (.int .i64 y0_0)), (.v (.string y0_1)), (.v (.int .i64 y0_2)), (.v (.int .i64 y0_3)), (.v (.int .i64 y0_4))]), (.v (.int .i64 y1)), (.v (.int .i64 y2))]) []) :=
  Eq.mp (by kernel_rfl) ((atP_run (j21_ag k kp) (m21 x0 x1 x7 x10 b0_0 b0_1 b0_2 b0_3 b0_4 b1_0 b1_1 b1_2 b1_3 b1_4)).trans (j21_c k kp (JJ k kp) (LL k kp) x0 x1 x7 x10 b0_0 b0_1 b0_2 b0_3 b0_4 b1_0 b1_1 b1_2 b1_3 b1_4))
theorem j21_eq (k kp : KT) (x0 : BA) (x1 x7 : Int) (x10 b0_0 : Int) (b0_1 : BA) (b0_2 b0_3 : Int) (b0_4 b1_0 : Int) (b1_1 : BA) (b1_2 b1_3 b1_4 : Int) : X21 k kp (m21 x0 x1 x7 x10 b0_0 b0_1 b0_2 b0_3 b0_4 b1_0 b1_1 b1_2 b1_3 b1_4) = j21' x0 x1 x7 x10 b0_0 b0_1 b0_2 b0_3 b0_4 b1_0 b1_1 b1_2 b1_3 b1_4 (fun y0_0 y0_1 y0_2 y0_3 y0_4 y1 y2 => k (.tup [(.agg [(.v (.int .i64 y0_0)), (.v (.string y0_1)), (.v (.int .i64 y0_2)), (.v (.int .i64 y0_3)), (.v (.int .i64 y0_4))]), (.v (.int .i64 y1)), (.v (.int .i64 y2))]) []) := by
  rw [j21_raw]; simp only [j2000022_eq]; first | done | rfl
theorem j19_c (k kp : KT) (J L : Nat → St → Prop) (x0 : BA) (x1 x7 : Int) (x10 b0_0 : Int) (b0_1 : BA) (b0_2 b0_3 : Int) (b0_4 b1_0 : Int) (b1_1 : BA) (b1_2 b1_3 b1_4 : Int) : runC cfg 19 J L (pick none' []) [1, 1, 1, 1, 1, 0, 1, 0, 1, 1, 1, 1, 1, 0, 1, 1] body (topK cfg Tryd.f27 k kp) (m19 x0 x1 x7 x10 b0_0 b0_1 b0_2 b0_3 b0_4 b1_0 b1_1 b1_2 b1_3 b1_4) = j19 (fun x0 x1 x7 x10 b0_0 b0_1 b0_2 b0_3 b0_4 b1_0 b1_1 b1_2 b1_3 b1_4 => J 21 (m21 x0 x1 x7 x10 b0_0 b0_1 b0_2 b0_3 b0_4 b1_0 b1_1 b1_2 b1_3 b1_4)) x0 x1 x7 x10 b0_0 b0_1 b0_2 b0_3 b0_4 b1_0 b1_1 b1_2 b1_3 b1_4 (fun y0_0 y0_1 y0_2 y0_3 y0_4 y1 y2 => k (.tup [(.agg [(.v (.int .i64 y0_0)), (.v (.string y0_1)), (.v (.int .i64 y0_2)), (.v (.int .i64 y0_3)), (.v (.int .i64 y0_4))]), (.v (.int .i64 y1)), (.v (.int .i64 y2))]) []) := by kernel_rfl
theorem j19_ag (k kp : KT) : agPL cfg 19 (JJ k kp) (LL k kp) [1, 1, 1, 1, 1, 0, 1, 0, 1, 1, 1, 1, 1, 0, 1, 1] body = agPR cfg 19 (pick none' []) [1, 1, 1, 1, 1, 0, 1, 0, 1, 1, 1, 1, 1, 0, 1, 1] body (topK cfg Tryd.f27 k kp) := by kernel_rfl
theorem j19_raw (k kp : KT) (x0 : BA) (x1 x7 : Int) (x10 b0_0 : Int) (b0_1 : BA) (b0_2 b0_3 : Int) (b0_4 b1_0 : Int) (b1_1 : BA) (b1_2 b1_3 b1_4 : Int) : X19 k kp (m19 x0 x1 x7 x10 b0_0 b0_1 b0_2 b0_3 b0_4 b1_0 b1_1 b1_2 b1_3 b1_4) = j19 (fun x0 x1 x7 x10 b0_0 b0_1 b0_2 b0_3 b0_4 b1_0 b1_1 b1_2 b1_3 b1_4 => X21 k kp (m21 x0 x1 x7 x10 b0_0 b0_1 b0_2 b0_3 b0_4 b1_0 b1_1 b1_2 b1_3 b1_4)) x0 x1 x7 x10 b0_0 b0_1 b0_2 b0_3 b0_4 b1_0 b1_1 b1_2 b1_3 b1_4 (fun y0_0 y0_1 y0_2 y0_3 y0_4 y1 y2 => k (.tup [(.agg [(.v (.int .i64 y0_0)), (.v (.string y0_1)), (.v (.int .i64 y0_2)), (.v (.int .i64 y0_3)), (.v (.int .i64 y0_4))]), (.v (.int .i64 y1)), (.v (.int .i64 y2))]) []) :=
  Eq.mp (by kernel_rfl) ((atP_run (j19_ag k kp) (m19 x0 x1 x7 x10 b0_0 b0_1 b0_2 b0_3 b0_4 b1_0 b1_1 b1_2 b1_3 b1_4)).trans (j19_c k kp (JJ k kp) (LL k kp) x0 x1 x7 x10 b0_0 b0_1 b0_2 b0_3 b0_4 b1_0 b1_1 b1_2 b1_3 b1_4))
theorem j19_eq (k kp : KT) (x0 : BA) (x1 x7 : Int) (x10 b0_0 : Int) (b0_1 : BA) (b0_2 b0_3 : Int) (b0_4 b1_0 : Int) (b1_1 : BA) (b1_2 b1_3 b1_4 : Int) : X19 k kp (m19 x0 x1 x7 x10 b0_0 b0_1 b0_2 b0_3 b0_4 b1_0 b1_1 b1_2 b1_3 b1_4) = j19' x0 x1 x7 x10 b0_0 b0_1 b0_2 b0_3 b0_4 b1_0 b1_1 b1_2 b1_3 b1_4 (fun y0_0 y0_1 y0_2 y0_3 y0_4 y1 y2 => k (.tup [(.agg [(.v (.int .i64 y0_0)), (.v (.string y0_1)), (.v (.int .i64 y0_2)), (.v (.int .i64 y0_3)), (.v (.int .i64 y0_4))]), (.v (.int .i64 y1)), (.v (.int .i64 y2))]) []) := by
  rw [j19_raw]; simp only [j21_eq]; first | done | rfl
theorem j2000018_c (k kp : KT) (J L : Nat → St → Prop) (x0 : BA) (x1 x7 x10 : Int) (x70 : Bool) (b0_0 : Int) (b0_1 : BA) (b0_2 b0_3 : Int) (b0_4 b1_0 : Int) (b1_1 : BA) (b1_2 b1_3 b1_4 : Int) : runC cfg 2000018 J L (pick none' []) [1, 1, 1, 1, 1, 0, 1, 0, 1, 1, 1, 1, 1, 0, 1, 0, 1] body (topK cfg Tryd.f27 k kp) (m2000018 x0 x1 x7 x10 x70 b0_0 b0_1 b0_2 b0_3 b0_4 b1_0 b1_1 b1_2 b1_3 b1_4) = j2000018 (fun x0 x1 x7 x10 b0_0 b0_1 b0_2 b0_3 b0_4 b1_0 b1_1 b1_2 b1_3 b1_4 => J 19 (m19 x0 x1 x7 x10 b0_0 b0_1 b0_2 b0_3 b0_4 b1_0 b1_1 b1_2 b1_3 b1_4)) x0 x1 x7 x10 x70 b0_0 b0_1 b0_2 b0_3 b0_4 b1_0 b1_1 b1_2 b1_3 b1_4 (fun y0_0 y0_1 y0_2 y0_3 y0_4 y1 y2 => k (.tup [(.agg [(.v (.int .i64 y0_0)), (.v (.string y0_1)), (.v (.int .i64 y0_2)), (.v (.int .i64 y0_3)), (.v (.int .i64 y0_4))]), (.v (.int .i64 y1)), (.v (.int .i64 y2))]) []) := by kernel_rfl
theorem j2000018_ag (k kp : KT) : agPL cfg 2000018 (JJ k kp) (LL k kp) [1, 1, 1, 1, 1, 0, 1, 0, 1, 1, 1, 1, 1, 0, 1, 0, 1] body = agPR cfg 2000018 (pick none' []) [1, 1, 1, 1, 1, 0, 1, 0, 1, 1, 1, 1, 1, 0, 1, 0, 1] body (topK cfg Tryd.f27 k kp) := by kernel_rfl
theorem j2000018_raw (k kp : KT) (x0 : BA) (x1 x7 x10 : Int) (x70 : Bool) (b0_0 : Int) (b0_1 : BA) (b0_2 b0_3 : Int) (b0_4 b1_0 : Int) (b1_1 : BA) (b1_2 b1_3 b1_4 : Int) : X2000018 k kp (m2000018 x0 x1 x7 x10 x70 b0_0 b0_1 b0_2 b0_3 b0_4 b1_0 b1_1 b1_2 b1_3 b1_4) = j2000018 (fun x0 x1 x7 x10 b0_0 b0_1 b0_2 b0_3 b0_4 b1_0 b1_1 b1_2 b1_3 b1_4 => X19 k kp (m19 x0 x1 x7 x10 b0_0 b0_1 b0_2 b0_3 b0_4 b1_0 b1_1 b1_2 b1_3 b1_4)) x0 x1 x7 x10 x70 b0_0 b0_1 b0_2 b0_3 b0_4 b1_0 b1_1 b1_2 b1_3 b1_4 (fun y0_0 y0_1 y0_2 y0_3 y0_4 y1 y2 => k (.tup [(.agg [(.v (.int .i64 y0_0)), (.v (.string y0_1)), (.v (.int .i64 y0_2)), (.v (.int .i64 y0_3)), (.v (.int .i64 y0_4))]), (.v (.int .i64 y1)), (.v (.int .i64 y2))]) []) :=
  Eq.mp (by kernel_rfl) ((atP_run (j2000018_ag k kp) (m2000018 x0 x1 x7 x10 x70 b0_0 b0_1 b0_2 b0_3 b0_4 b1_0 b1_1 b1_2 b1_3 b1_4)).trans (j2000018_c k kp (JJ k kp) (LL k kp) x0 x1 x7 x10 x70 b0_0 b0_1 b0_2 b0_3 b0_4 b1_0 b1_1 b1_2 b1_3 b1_4))
theorem j2000018_eq (k kp : KT) (x0 : BA) (x1 x7 x10 : Int) (x70 : Bool) (b0_0 : Int) (b0_1 : BA) (b0_2 b0_3 : Int) (b0_4 b1_0 : Int) (b1_1 : BA) (b1_2 b1_3 b1_4 : Int) : X2000018 k kp (m2000018 x0 x1 x7 x10 x70 b0_0 b0_1 b0_2 b0_3 b0_4 b1_0 b1_1 b1_2 b1_3 b1_4) = j2000018' x0 x1 x7 x10 x70 b0_0 b0_1 b0_2 b0_3 b0_4 b1_0 b1_1 b1_2 b1_3 b1_4 (fun y0_0 y0_1 y0_2 y0_3 y0_4 y1 y2 => k (.tup [(.agg [(.v (.int .i64 y0_0)), (.v (.string y0_1)), (.v (.int .i64 y0_2)), (.v (.int .i64 y0_3)), (.v (.int .i64 y0_4))]), (.v (.int .i64 y1)), (.v (.int .i64 y2))]) []) := by
  rw [j2000018_raw]; simp only [j19_eq]; first | done | rfl
theorem c_c (k kp : KT) (J L : Nat → St → Prop) (x0 : BA) (x1 : Int) : runC cfg 1000001 J L none'' [] body (topK cfg Tryd.f27 k kp) (st0 Tryd.f27 [(.v (.string x0)), (.v (.int .i64 x1))] []) = c (fun x0 x1 x7 x10 b0_0 b0_1 b0_2 b0_3 b0_4 b1_0 b1_1 b1_2 b1_3 b1_4 => J 21 (m21 x0 x1 x7 x10 b0_0 b0_1 b0_2 b0_3 b0_4 b1_0 b1_1 b1_2 b1_3 b1_4)) (fun x0 x1 x7 x10 x70 b0_0 b0_1 b0_2 b0_3 b0_4 b1_0 b1_1 b1_2 b1_3 b1_4 => J 2000018 (m2000018 x0 x1 x7 x10 x70 b0_0 b0_1 b0_2 b0_3 b0_4 b1_0 b1_1 b1_2 b1_3 b1_4)) x0 x1 (fun y0_0 y0_1 y0_2 y0_3 y0_4 y1 y2 => k (.tup [(.agg [(.v (.int .i64 y0_0)), (.v (.string y0_1)), (.v (.int .i64 y0_2)), (.v (.int .i64 y0_3)), (.v (.int .i64 y0_4))]), (.v (.int .i64 y1)), (.v (.int .i64 y2))]) []) := by kernel_rfl
theorem c_ag (k kp : KT) : agPL cfg 1000001 (JJ k kp) (LL k kp) [] body = agPR cfg 1000001 none'' [] body (topK cfg Tryd.f27 k kp) := by kernel_rfl
theorem body_is : Tryd.f27.body = some body := by kernel_rfl
theorem c_raw (k kp : KT) (x0 : BA) (x1 : Int) : funW cfg Tryd.f27 [(.v (.string x0)), (.v (.int .i64 x1))] [] k kp = c (fun x0 x1 x7 x10 b0_0 b0_1 b0_2 b0_3 b0_4 b1_0 b1_1 b1_2 b1_3 b1_4 => X21 k kp (m21 x0 x1 x7 x10 b0_0 b0_1 b0_2 b0_3 b0_4 b1_0 b1_1 b1_2 b1_3 b1_4)) (fun x0 x1 x7 x10 x70 b0_0 b0_1 b0_2 b0_3 b0_4 b1_0 b1_1 b1_2 b1_3 b1_4 => X2000018 k kp (m2000018 x0 x1 x7 x10 x70 b0_0 b0_1 b0_2 b0_3 b0_4 b1_0 b1_1 b1_2 b1_3 b1_4)) x0 x1 (fun y0_0 y0_1 y0_2 y0_3 y0_4 y1 y2 => k (.tup [(.agg [(.v (.int .i64 y0_0)), (.v (.string y0_1)), (.v (.int .i64 y0_2)), (.v (.int .i64 y0_3)), (.v (.int .i64 y0_4))]), (.v (.int .i64 y1)), (.v (.int .i64 y2))]) []) :=
  Eq.mp (by kernel_rfl) ((funW_run (AG := none'') body_is (c_ag k kp) [(.v (.string x0)), (.v (.int .i64 x1))] []).trans (c_c k kp (JJ k kp) (LL k kp) x0 x1))
theorem f_eq (k kp : KT) (x0 : BA) (x1 : Int) : funW cfg Tryd.f27 [(.v (.string x0)), (.v (.int .i64 x1))] [] k kp = f x0 x1 (fun y0_0 y0_1 y0_2 y0_3 y0_4 y1 y2 => k (.tup [(.agg [(.v (.int .i64 y0_0)), (.v (.string y0_1)), (.v (.int .i64 y0_2)), (.v (.int .i64 y0_3)), (.v (.int .i64 y0_4))]), (.v (.int .i64 y1)), (.v (.int .i64 y2))]) []) := by
  rw [f_def, c_raw]; simp only [j21_eq, j2000018_eq]; first | done | rfl
noncomputable def ent0 : Entry := fun args blks k _ => match args, blks with
  | [d0, d1], [] => aStr d0 fun x0 => aInt IntKind.i64 d1 fun x1 => f x0 x1 (fun y0_0 y0_1 y0_2 y0_3 y0_4 y1 y2 => k (.tup [(.agg [(.v (.int .i64 y0_0)), (.v (.string y0_1)), (.v (.int .i64 y0_2)), (.v (.int .i64 y0_3)), (.v (.int .i64 y0_4))]), (.v (.int .i64 y1)), (.v (.int .i64 y2))]) [])
  | _, _ => False
noncomputable def ent : Entry := fun args blks k kp => ent0 (convB [.no, .no] args) blks k kp
theorem ok : EntOk Tryd.prog 49 0 27 ent := by
  refine EntOk.convB (EntOk.of (funW_ok (cfg := cfg) (tyOk_of rfl rfl tyL_ok) (eqOk_of (P := Tryd.prog) rfl rfl (by kernel_rfl)) mixed_ok (tab_ok ?_) Tryd.func27 (by rfl) (by rfl)) ?_) _
  · intro p hp
    simp only [List.mem_cons, List.not_mem_nil, or_false] at hp
    rcases hp with rfl | rfl | rfl
    · exact N48.ok
    · exact N49.ok
    · exact N50.ok
  · intro args blks k kp h k' kp'
    match args, blks, h with
    | [d0, d1], [], h =>
    dsimp only [ent0] at h
    have h9 := aStr_elim h; clear h; obtain ⟨x0, rfl, h⟩ := h9
    have h9 := aInt_elim h; clear h; obtain ⟨x1, rfl, h⟩ := h9
    exact (f_eq k' kp' x0 x1).symm
end N27
end Go.Proofs.Ye

namespace Go.Proofs.Ye
open Go Go.Aw Go.Proofs
set_option maxRecDepth 100000
set_option maxHeartbeats 4000000
namespace N15
noncomputable def cfg : Cfg := { P := Tryd.prog, tf := 49, tw := 0, ty := tys, E := tab [(26, N26.ent), (27, N27.ent)], atSeq := tab [(2000008, ⟨[(0, .keep), (5, .keep), (6, .keep), (7, .keep), (37, .keep)]⟩), (23, ⟨[(0, .keep), (5, .keep)]⟩), (9, ⟨[(0, .keep), (5, .keep), (6, .keep), (7, .keep)]⟩), (2000010, ⟨[(0, .keep), (5, .keep), (6, .keep), (7, .keep), (55, .keep)]⟩), (12, ⟨[(0, .keep), (5, .keep), (6, .keep), (7, .keep)]⟩), (11, ⟨[(0, .keep), (5, .keep), (6, .keep)]⟩)], atLoop := tab [(5, ⟨[(0, .keep), (5, .own 42 Zy0), (6, .keep)]⟩), (10, ⟨[(0, .keep), (5, .keep), (6, .keep)]⟩)], outs := [.own 42 Zy0, .keep, .keep], eqT := tab [], bT := tab [] }
noncomputable def body : Code := bodyOf Tryd.f15
def l5 (j2000008 : BA → Int → Int → Bool → (List Zq0) → Prop) (j23 : BA → (List Zq0) → Prop) (x0 : BA) (x6 : Int) (b0 : (List Zq0)) (k : Int → Int → (List Zq0) → Prop) : Prop :=
  (br (decide (x6 < ((((x0).size : Nat) : Int)))) ((inB 0 x6 ((((x0).size : Nat) : Int) - 1)) ∧ (br ((byteAt x0 x6) == (32 : Int)) (j2000008 x0 x6 (byteAt x0 x6) true b0) (br ((byteAt x0 x6) == (9 : Int)) (j2000008 x0 x6 (byteAt x0 x6) true b0) (br ((byteAt x0 x6) == (13 : Int)) (j2000008 x0 x6 (byteAt x0 x6) true b0) (j2000008 x0 x6 (byteAt x0 x6) ((byteAt x0 x6) == (10 : Int)) b0))))) (j23 x0 b0))
def j2000008 (j9 : BA → Int → Int → (List Zq0) → Prop) (ag5 : Int → (List Zq0) → Prop) (x0 : BA) (x6 x7 : Int) (x37 : Bool) (b0 : (List Zq0)) (k : Int → Int → (List Zq0) → Prop) : Prop :=
  (br x37 (ag5 (IntKind.i64.wrap (x6 + (1 : Int))) b0) (j9 x0 x6 x7 b0))
def j23 (x0 : BA) (b0 : (List Zq0)) (k : Int → Int → (List Zq0) → Prop) : Prop :=
  ((room ((b0).length + (([((0 : Int), ((ByteArray.mk #[]), ((0 : Int), ((0 : Int), ((((x0).size : Nat) : Int))))))] : List Zq0)).length) 48) ∧ (k (0 : Int) (0 : Int) (b0 ++ ([((0 : Int), ((ByteArray.mk #[]), ((0 : Int), ((0 : Int), ((((x0).size : Nat) : Int))))))] : List Zq0))))
def j9 (j2000010 : BA → Int → Int → Bool → (List Zq0) → Prop) (x0 : BA) (x6 x7 : Int) (b0 : (List Zq0)) (k : Int → Int → (List Zq0) → Prop) : Prop :=
  (br (x7 == (47 : Int)) (br (decide ((IntKind.i64.wrap (x6 + (1 : Int))) < ((((x0).size : Nat) : Int)))) ((inB 0 (IntKind.i64.wrap (x6 + (1 : Int))) ((((x0).size : Nat) : Int) - 1)) ∧ (j2000010 x0 x6 x7 ((byteAt x0 (IntKind.i64.wrap (x6 + (1 : Int)))) == (47 : Int)) b0)) (j2000010 x0 x6 x7 false b0)) (j2000010 x0 x6 x7 false b0))
def j2000010 (l10 : BA → Int → (List Zq0) → Prop) (j12 : BA → Int → Int → (List Zq0) → Prop) (x0 : BA) (x6 x7 : Int) (x55 : Bool) (b0 : (List Zq0)) (k : Int → Int → (List Zq0) → Prop) : Prop :=
  (br x55 (l10 x0 x6 b0) (j12 x0 x6 x7 b0))
def l10 (j11 : BA → Int → (List Zq0) → Prop) (ag5 : Int → (List Zq0) → Prop) (x0 : BA) (x6 : Int) (b0 : (List Zq0)) (k : Int → Int → (List Zq0) → Prop) : Prop :=
  (br (decide (x6 < ((((x0).size : Nat) : Int)))) ((inB 0 x6 ((((x0).size : Nat) : Int) - 1)) ∧ (br ((byteAt x0 x6) != (10 : Int)) (j11 x0 x6 b0) (ag5 x6 b0))) (ag5 x6 b0))
def j12 (ag5 : Int → (List Zq0) → Prop) (x0 : BA) (x6 x7 : Int) (b0 : (List Zq0)) (k : Int → Int → (List Zq0) → Prop) : Prop :=
  (br (x7 == (34 : Int)) (N26.f x0 x6 (fun (y0_0 : BA) (y1_0 : Int) (y2_0 : Int) => (br (y2_0 != (0 : Int)) (k y2_0 y1_0 ([] : List Zq0)) ((room ((b0).length + (([((3 : Int), (y0_0, ((0 : Int), ((0 : Int), x6))))] : List Zq0)).length) 48) ∧ (ag5 y1_0 (b0 ++ ([((3 : Int), (y0_0, ((0 : Int), ((0 : Int), x6))))] : List Zq0))))))) (N27.f x0 x6 (fun (y0_0_1 : Int) (y0_1_1 : BA) (y0_2_1 y0_3_1 : Int) (y0_4_1 y1_1 : Int) (y2_1 : Int) => (br (y2_1 != (0 : Int)) (k y2_1 x6 ([] : List Zq0)) ((room ((b0).length + (([(y0_0_1, (y0_1_1, (y0_2_1, (y0_3_1, y0_4_1))))] : List Zq0)).length) 48) ∧ (ag5 (IntKind.i64.wrap (x6 + y1_1)) (b0 ++ ([(y0_0_1, (y0_1_1, (y0_2_1, (y0_3_1, y0_4_1))))] : List Zq0))))))))
def j11 (ag10 : Int → (List Zq0) → Prop) (x0 : BA) (x6 : Int) (b0 : (List Zq0)) (k : Int → Int → (List Zq0) → Prop) : Prop :=
  (ag10 (IntKind.i64.wrap (x6 + (1 : Int))) b0)
def c (l5 : BA → Int → (List Zq0) → Prop) (x0 : BA) (k : Int → Int → (List Zq0) → Prop) : Prop :=
  (br (decide (((((x0).size : Nat) : Int)) > (65536 : Int))) (k (3 : Int) (0 : Int) ([] : List Zq0)) (l5 x0 (0 : Int) ([] : List Zq0)))
def j23' (x0 : BA) (b0 : (List Zq0)) (k : Int → Int → (List Zq0) → Prop) : Prop := j23 x0 b0 k
def j12' (ag5 : Int → (List Zq0) → Prop) (x0 : BA) (x6 x7 : Int) (b0 : (List Zq0)) (k : Int → Int → (List Zq0) → Prop) : Prop := j12 ag5 x0 x6 x7 b0 k
def j11' (ag10 : Int → (List Zq0) → Prop) (x0 : BA) (x6 : Int) (b0 : (List Zq0)) (k : Int → Int → (List Zq0) → Prop) : Prop := j11 ag10 x0 x6 b0 k
def l10' (ag5 : Int → (List Zq0) → Prop) (x0 : BA) (x6 : Int) (b0 : (List Zq0)) (k : Int → Int → (List Zq0) → Prop) : Prop := ∃ n, loopS (fun (ag : (Int × (List Zq0)) → Prop) (s : Int × (List Zq0)) => l10 (fun x0 x6 b0 => j11' (fun x6 b0 => ag (x6, b0)) x0 x6 b0 k) ag5 x0 s.1 s.2 k) n (x6, b0)
def j2000010' (ag5 : Int → (List Zq0) → Prop) (x0 : BA) (x6 x7 : Int) (x55 : Bool) (b0 : (List Zq0)) (k : Int → Int → (List Zq0) → Prop) : Prop := j2000010 (fun x0 x6 b0 => l10' ag5 x0 x6 b0 k) (fun x0 x6 x7 b0 => j12' ag5 x0 x6 x7 b0 k) x0 x6 x7 x55 b0 k
def j9' (ag5 : Int → (List Zq0) → Prop) (x0 : BA) (x6 x7 : Int) (b0 : (List Zq0)) (k : Int → Int → (List Zq0) → Prop) : Prop := j9 (fun x0 x6 x7 x55 b0 => j2000010' ag5 x0 x6 x7 x55 b0 k) x0 x6 x7 b0 k
def j2000008' (ag5 : Int → (List Zq0) → Prop) (x0 : BA) (x6 x7 : Int) (x37 : Bool) (b0 : (List Zq0)) (k : Int → Int → (List Zq0) → Prop) : Prop := j2000008 (fun x0 x6 x7 b0 => j9' ag5 x0 x6 x7 b0 k) ag5 x0 x6 x7 x37 b0 k
def l5' (x0 : BA) (x6 : Int) (b0 : (List Zq0)) (k : Int → Int → (List Zq0) → Prop) : Prop := ∃ n, loopS (fun (ag : (Int × (List Zq0)) → Prop) (s : Int × (List Zq0)) => l5 (fun x0 x6 x7 x37 b0 => j2000008' (fun x6 b0 => ag (x6, b0)) x0 x6 x7 x37 b0 k) (fun x0 b0 => j23' x0 b0 k) x0 s.1 s.2 k) n (x6, b0)
def f0 (x0 : BA) (k : Int → Int → (List Zq0) → Prop) : Prop := c (fun x0 x6 b0 => l5' x0 x6 b0 k) x0 k
theorem f_ex : ∃ g, g = f0 := ⟨_, rfl⟩
noncomputable def f := Classical.choose f_ex
theorem f_def : f = f0 := Classical.choose_spec f_ex
def mL5 (x0 : BA) (x6 : Int) (b0 : (List Zq0)) : St := { tmps := mkT 112 0 [(0, (.v (.string x0))), (5, (.sl 0 0)), (6, (.v (.int .i64 x6)))], hp := [(.lst 42 Zy0 b0 0 false)], m := 0 }
def m2000008 (x0 : BA) (x6 x7 : Int) (x37 : Bool) (b0 : (List Zq0)) : St := { tmps := mkT 112 0 [(0, (.v (.string x0))), (5, (.sl 0 0)), (6, (.v (.int .i64 x6))), (7, (.v (.int IntKind.u8 x7))), (37, (.v (.bool x37)))], hp := [(.lst 42 Zy0 b0 0 false)], m := 0 }
def m23 (x0 : BA) (b0 : (List Zq0)) : St := { tmps := mkT 112 0 [(0, (.v (.string x0))), (5, (.sl 0 0))], hp := [(.lst 42 Zy0 b0 0 false)], m := 0 }
def m9 (x0 : BA) (x6 x7 : Int) (b0 : (List Zq0)) : St := { tmps := mkT 112 0 [(0, (.v (.string x0))), (5, (.sl 0 0)), (6, (.v (.int .i64 x6))), (7, (.v (.int IntKind.u8 x7)))], hp := [(.lst 42 Zy0 b0 0 false)], m := 0 }
def m2000010 (x0 : BA) (x6 x7 : Int) (x55 : Bool) (b0 : (List Zq0)) : St := { tmps := mkT 112 0 [(0, (.v (.string x0))), (5, (.sl 0 0)), (6, (.v (.int .i64 x6))), (7, (.v (.int IntKind.u8 x7))), (55, (.v (.bool x55)))], hp := [(.lst 42 Zy0 b0 0 false)], m := 0 }
def mL10 (x0 : BA) (x6 : Int) (b0 : (List Zq0)) : St := { tmps := mkT 112 0 [(0, (.v (.string x0))), (5, (.sl 0 0)), (6, (.v (.int .i64 x6)))], hp := [(.lst 42 Zy0 b0 0 false)], m := 0 }
def m12 (x0 : BA) (x6 x7 : Int) (b0 : (List Zq0)) : St := { tmps := mkT 112 0 [(0, (.v (.string x0))), (5, (.sl 0 0)), (6, (.v (.int .i64 x6))), (7, (.v (.int IntKind.u8 x7)))], hp := [(.lst 42 Zy0 b0 0 false)], m := 0 }
def m11 (x0 : BA) (x6 : Int) (b0 : (List Zq0)) : St := { tmps := mkT 112 0 [(0, (.v (.string x0))), (5, (.sl 0 0)), (6, (.v (.int .i64 x6)))], hp := [(.lst 42 Zy0 b0 0 false)], m := 0 }
noncomputable def YL5 (k kp : KT) : (St → Prop) → St → Prop := loopB cfg (sub [1, 1, 1, 1, 0, 0, 0] body) (contK cfg (pick none' []) [1, 1, 1, 1, 0, 0] body (topK cfg Tryd.f15 k kp))
noncomputable def XL5 (k kp : KT) : St → Prop := fun st => ∃ n, loopN (YL5 k kp) n st
noncomputable def X2000008 (k kp : KT) (ag5 : St → Prop) : St → Prop := atP cfg (pick none' [(5, ag5)]) [1, 1, 1, 1, 0, 0, 0, 1, 0, 1, 0, 1] body (topK cfg Tryd.f15 k kp)
noncomputable def X23 (k kp : KT) : St → Prop := atP cfg (pick none' []) [1, 1, 1, 1, 1] body (topK cfg Tryd.f15 k kp)
noncomputable def X9 (k kp : KT) (ag5 : St → Prop) : St → Prop := atP cfg (pick none' [(5, ag5)]) [1, 1, 1, 1, 0, 0, 0, 1, 0, 1, 1] body (topK cfg Tryd.f15 k kp)
noncomputable def X2000010 (k kp : KT) (ag5 : St → Prop) : St → Prop := atP cfg (pick none' [(5, ag5)]) [1, 1, 1, 1, 0, 0, 0, 1, 0, 1, 1, 0, 1] body (topK cfg Tryd.f15 k kp)
noncomputable def YL10 (k kp : KT) (ag5 : St → Prop) : (St → Prop) → St → Prop := loopB cfg (sub [1, 1, 1, 1, 0, 0, 0, 1, 0, 1, 1, 0, 1, 0, 0, 0, 0] body) (contK cfg (pick none' [(5, ag5)]) [1, 1, 1, 1, 0, 0, 0, 1, 0, 1, 1, 0, 1, 0, 0, 0] body (topK cfg Tryd.f15 k kp))
noncomputable def XL10 (k kp : KT) (ag5 : St → Prop) : St → Prop := fun st => ∃ n, loopN (YL10 k kp ag5) n st
noncomputable def X12 (k kp : KT) (ag5 : St → Prop) : St → Prop := atP cfg (pick none' [(5, ag5)]) [1, 1, 1, 1, 0, 0, 0, 1, 0, 1, 1, 1] body (topK cfg Tryd.f15 k kp)
noncomputable def X11 (k kp : KT) (ag5 : St → Prop) (ag10 : St → Prop) : St → Prop := atP cfg (pick none' [(5, ag5), (10, ag10)]) [1, 1, 1, 1, 0, 0, 0, 1, 0, 1, 1, 0, 1, 0, 0, 0, 0, 1] body (topK cfg Tryd.f15 k kp)
noncomputable def JJ_5 (k kp : KT) (ag5 : St → Prop) : Nat → St → Prop := pick none' [(2000008, X2000008 k kp ag5), (23, X23 k kp), (9, X9 k kp ag5), (2000010, X2000010 k kp ag5), (12, X12 k kp ag5)]
noncomputable def LL_5 (k kp : KT) (ag5 : St → Prop) : Nat → St → Prop := pick none' [(5, XL5 k kp), (10, XL10 k kp ag5)]
noncomputable def JJ (k kp : KT) : Nat → St → Prop := pick none' [(23, X23 k kp)]
noncomputable def LL (k kp : KT) : Nat → St → Prop := pick none' [(5, XL5 k kp)]
noncomputable def JJ_5_10 (k kp : KT) (ag5 : St → Prop) (ag10 : St → Prop) : Nat → St → Prop := pick none' [(2000008, X2000008 k kp ag5), (23, X23 k kp), (9, X9 k kp ag5), (2000010, X2000010 k kp ag5), (12, X12 k kp ag5), (11, X11 k kp ag5 ag10)]
noncomputable def LL_5_10 (k kp : KT) (ag5 : St → Prop) (ag10 : St → Prop) : Nat → St → Prop := pick none' [(5, XL5 k kp), (10, XL10 k kp ag5)]
theorem j23_c (k kp : KT) (J L : Nat → St → Prop) (x0 : BA) (b0 : (List Zq0)) : runC cfg 23 J L (pick none' []) [1, 1, 1, 1, 1] body (topK cfg Tryd.f15 k kp) (m23 x0 b0) = j23 x0 b0 (fun y1 y2 z0 => k (.tup [(.sl 0 0), (.v (.int .i64 y1)), (.v (.int .i64 y2))]) [(.lst 42 Zy0 z0 0 false)]) := by kernel_rfl
theorem j23_ag (k kp : KT) : agPL cfg 23 (JJ k kp) (LL k kp) [1, 1, 1, 1, 1] body = agPR cfg 23 (pick none' []) [1, 1, 1, 1, 1] body (topK cfg Tryd.f15 k kp) := by kernel_rfl
theorem j23_raw (k kp : KT) (x0 : BA) (b0 : (List Zq0)) : X23 k kp (m23 x0 b0) = j23 x0 b0 (fun y1 y2 z0 => k (.tup [(.sl 0 0), (.v (.int .i64 y1)), (.v (.int .i64 y2))]) [(.lst 42 Zy0 z0 0 false)]) :=
  Eq.mp (by kernel_rfl) ((atP_run (j23_ag k kp) (m23 x0 b0)).trans (j23_c k kp (JJ k kp) (LL k kp) x0 b0))
theorem j23_eq (k kp : KT) (x0 : BA) (b0 : (List Zq0)) : X23 k kp (m23 x0 b0) = j23' x0 b0 (fun y1 y2 z0 => k (.tup [(.sl 0 0), (.v (.int .i64 y1)), (.v (.int .i64 y2))]) [(.lst 42 Zy0 z0 0 false)]) := by
  rw [j23_raw]; rfl
theorem j12_c (k kp : KT) (J L : Nat → St → Prop) (ag5 : St → Prop) (x0 : BA) (x6 x7 : Int) (b0 : (List Zq0)) : runC cfg 12 J L (pick none' [(5, ag5)]) [1, 1, 1, 1, 0, 0, 0, 1, 0, 1, 1, 1] body (topK cfg Tryd.f15 k kp) (m12 x0 x6 x7 b0) = j12 (fun x6 b0 => ag5 (mL5 x0 x6 b0)) x0 x6 x7 b0 (fun y1 y2 z0 => k (.tup [(.sl 0 0), (.v (.int .i64 y1)), (.v (.int .i64 y2))]) [(.lst 42 Zy0 z0 0 false)]) := by kernel_rfl
theorem j12_ag (k kp : KT) (ag5 : St → Prop) : agPL cfg 12 (JJ_5 k kp ag5) (LL_5 k kp ag5) [1, 1, 1, 1, 0, 0, 0, 1, 0, 1, 1, 1] body = agPR cfg 12 (pick none' [(5, ag5)]) [1, 1, 1, 1, 0, 0, 0, 1, 0, 1, 1, 1] body (topK cfg Tryd.f15 k kp) := by kernel_rfl
theorem j12_raw (k kp : KT) (ag5 : St → Prop) (x0 : BA) (x6 x7 : Int) (b0 : (List Zq0)) : X12 k kp ag5 (m12 x0 x6 x7 b0) = j12 (fun x6 b0 => ag5 (mL5 x0 x6 b0)) x0 x6 x7 b0 (fun y1 y2 z0 => k (.tup [(.sl 0 0), (.v (.int .i64 y1)), (.v (.int .i64 y2))]) [(.lst 42 Zy0 z0 0 false)]) :=
  Eq.mp (by kernel_rfl) ((atP_run (j12_ag k kp ag5) (m12 x0 x6 x7 b0)).trans (j12_c k kp (JJ_5 k kp ag5) (LL_5 k kp ag5) ag5 x0 x6 x7 b0))
theorem j12_eq (k kp : KT) (ag5 : St → Prop) (x0 : BA) (x6 x7 : Int) (b0 : (List Zq0)) : X12 k kp ag5 (m12 x0 x6 x7 b0) = j12' (fun x6 b0 => ag5 (mL5 x0 x6 b0)) x0 x6 x7 b0 (fun y1 y2 z0 => k (.tup [(.sl 0 0), (.v (.int .i64 y1)), (.v (.int .i64 y2))]) [(.lst 42 Zy0 z0 0 false)]) := by
  rw [j12_raw]; rfl
theorem j11_c (k kp : KT) (J L : Nat → St → Prop) (ag5 : St → Prop) (ag10 : St → Prop) (x0 : BA) (x6 : Int) (b0 : (List Zq0)) : runC cfg 11 J L (pick none' [(5, ag5), (10, ag10)]) [1, 1, 1, 1, 0, 0, 0, 1, 0, 1, 1, 0, 1, 0, 0, 0, 0, 1] body (topK cfg Tryd.f15 k kp) (m11 x0 x6 b0) = j11 (fun x6 b0 => ag10 (mL10 x0 x6 b0)) x0 x6 b0 (fun y1 y2 z0 => k (.tup [(.sl 0 0), (.v (.int .i64 y1)), (.v (.int .i64 y2))]) [(.lst 42 Zy0 z0 0 false)]) := by kernel_rfl
theorem j11_ag (k kp : KT) (ag5 : St → Prop) (ag10 : St → Prop) : agPL cfg 11 (JJ_5_10 k kp ag5 ag10) (LL_5_10 k kp ag5 ag10) [1, 1, 1, 1, 0, 0, 0, 1, 0, 1, 1, 0, 1, 0, 0, 0, 0, 1] body = agPR cfg 11 (pick none' [(5, ag5), (10, ag10)]) [1, 1, 1, 1, 0, 0, 0, 1, 0, 1, 1, 0, 1, 0, 0, 0, 0, 1] body (topK cfg Tryd.f15 k kp) := by kernel_rfl
theorem j11_raw (k kp : KT) (ag5 : St → Prop) (ag10 : St → Prop) (x0 : BA) (x6 : Int) (b0 : (List Zq0)) : X11 k kp ag5 ag10 (m11 x0 x6 b0) = j11 (fun x6 b0 => ag10 (mL10 x0 x6 b0)) x0 x6 b0 (fun y1 y2 z0 => k (.tup [(.sl 0 0), (.v (.int .i64 y1)), (.v (.int .i64 y2))]) [(.lst 42 Zy0 z0 0 false)]) :=
  Eq.mp (by kernel_rfl) ((atP_run (j11_ag k kp ag5 ag10) (m11 x0 x6 b0)).trans (j11_c k kp (JJ_5_10 k kp ag5 ag10) (LL_5_10 k kp ag5 ag10) ag5 ag10 x0 x6 b0))
theorem j11_eq (k kp : KT) (ag5 : St → Prop) (ag10 : St → Prop) (x0 : BA) (x6 : Int) (b0 : (List Zq0)) : X11 k kp ag5 ag10 (m11 x0 x6 b0) = j11' (fun x6 b0 => ag10 (mL10 x0 x6 b0)) x0 x6 b0 (fun y1 y2 z0 => k (.tup [(.sl 0 0), (.v (.int .i64 y1)), (.v (.int .i64 y2))]) [(.lst 42 Zy0 z0 0 false)]) := by
  rw [j11_raw]; rfl
theorem l10_c (k kp : KT) (J L : Nat → St → Prop) (ag5 : St → Prop) (ag10 : St → Prop) (x0 : BA) (x6 : Int) (b0 : (List Zq0)) : runC cfg 1000001 J L (pick none' [(5, ag5), (10, ag10)]) [1, 1, 1, 1, 0, 0, 0, 1, 0, 1, 1, 0, 1, 0, 0, 0, 0] body (topK cfg Tryd.f15 k kp) (mL10 x0 x6 b0) = l10 (fun x0 x6 b0 => J 11 (m11 x0 x6 b0)) (fun x6 b0 => ag5 (mL5 x0 x6 b0)) x0 x6 b0 (fun y1 y2 z0 => k (.tup [(.sl 0 0), (.v (.int .i64 y1)), (.v (.int .i64 y2))]) [(.lst 42 Zy0 z0 0 false)]) := by kernel_rfl
theorem l10_ag (k kp : KT) (ag5 : St → Prop) (ag10 : St → Prop) : agPL cfg 1000001 (JJ_5_10 k kp ag5 ag10) (LL_5_10 k kp ag5 ag10) [1, 1, 1, 1, 0, 0, 0, 1, 0, 1, 1, 0, 1, 0, 0, 0, 0] body = agPR cfg 1000001 (pick none' [(5, ag5), (10, ag10)]) [1, 1, 1, 1, 0, 0, 0, 1, 0, 1, 1, 0, 1, 0, 0, 0, 0] body (topK cfg Tryd.f15 k kp) := by kernel_rfl
theorem l10_raw (k kp : KT) (ag5 : St → Prop) (ag10 : St → Prop) (x0 : BA) (x6 : Int) (b0 : (List Zq0)) : YL10 k kp ag5 ag10 (mL10 x0 x6 b0) = l10 (fun x0 x6 b0 => X11 k kp ag5 ag10 (m11 x0 x6 b0)) (fun x6 b0 => ag5 (mL5 x0 x6 b0)) x0 x6 b0 (fun y1 y2 z0 => k (.tup [(.sl 0 0), (.v (.int .i64 y1)), (.v (.int .i64 y2))]) [(.lst 42 Zy0 z0 0 false)]) :=
  Eq.mp (by kernel_rfl) ((atP_run (l10_ag k kp ag5 ag10) (mL10 x0 x6 b0)).trans (l10_c k kp (JJ_5_10 k kp ag5 ag10) (LL_5_10 k kp ag5 ag10) ag5 ag10 x0 x6 b0))
theorem l10_eq (k kp : KT) (ag5 : St → Prop) (x0 : BA) (x6 : Int) (b0 : (List Zq0)) : XL10 k kp ag5 (mL10 x0 x6 b0) = l10' (fun x6 b0 => ag5 (mL5 x0 x6 b0)) x0 x6 b0 (fun y1 y2 z0 => k (.tup [(.sl 0 0), (.v (.int .i64 y1)), (.v (.int .i64 y2))]) [(.lst 42 Zy0 z0 0 false)]) :=
  loop_eq (mk := fun (s : Int × (List Zq0)) => mL10 x0 s.1 s.2) (fun again s => by rw [l10_raw k kp ag5 again x0 s.1 s.2]; simp only [j11_eq]; first | done | rfl) (x6, b0)
theorem j2000010_c (k kp : KT) (J L : Nat → St → Prop) (ag5 : St → Prop) (x0 : BA) (x6 x7 : Int) (x55 : Bool) (b0 : (List Zq0)) : runC cfg 2000010 J L (pick none' [(5, ag5)]) [1, 1, 1, 1, 0, 0, 0, 1, 0, 1, 1, 0, 1] body (topK cfg Tryd.f15 k kp) (m2000010 x0 x6 x7 x55 b0) = j2000010 (fun x0 x6 b0 => L 10 (mL10 x0 x6 b0)) (fun x0 x6 x7 b0 => J 12 (m12 x0 x6 x7 b0)) x0 x6 x7 x55 b0 (fun y1 y2 z0 => k (.tup [(.sl 0 0), (.v (.int .i64 y1)), (.v (.int .i64 y2))]) [(.lst 42 Zy0 z0 0 false)]) := by kernel_rfl
theorem j2000010_ag (k kp : KT) (ag5 : St → Prop) : agPL cfg 2000010 (JJ_5 k kp ag5) (LL_5 k kp ag5) [1, 1, 1, 1, 0, 0, 0, 1, 0, 1, 1, 0, 1] body = agPR cfg 2000010 (pick none' [(5, ag5)]) [1, 1, 1, 1, 0, 0, 0, 1, 0, 1, 1, 0, 1] body (topK cfg Tryd.f15 k kp) := by kernel_rfl
theorem j2000010_raw (k kp : KT) (ag5 : St → Prop) (x0 : BA) (x6 x7 : Int) (x55 : Bool) (b0 : (List Zq0)) : X2000010 k kp ag5 (m2000010 x0 x6 x7 x55 b0) = j2000010 (fun x0 x6 b0 => XL10 k kp ag5 (mL10 x0 x6 b0)) (fun x0 x6 x7 b0 => X12 k kp ag5 (m12 x0 x6 x7 b0)) x0 x6 x7 x55 b0 (fun y1 y2 z0 => k (.tup [(.sl 0 0), (.v (.int .i64 y1)), (.v (.int .i64 y2))]) [(.lst 42 Zy0 z0 0 false)]) :=
  Eq.mp (by kernel_rfl) ((atP_run (j2000010_ag k kp ag5) (m2000010 x0 x6 x7 x55 b0)).trans (j2000010_c k kp (JJ_5 k kp ag5) (LL_5 k kp ag5) ag5 x0 x6 x7 x55 b0))
theorem j2000010_eq (k kp : KT) (ag5 : St → Prop) (x0 : BA) (x6 x7 : Int) (x55 : Bool) (b0 : (List Zq0)) : X2000010 k kp ag5 (m2000010 x0 x6 x7 x55 b0) = j2000010' (fun x6 b0 => ag5 (mL5 x0 x6 b0)) x0 x6 x7 x55 b0 (fun y1 y2 z0 => k (.tup [(.sl 0 0), (.v (.int .i64 y1)), (.v (.int .i64 y2))]) [(.lst 42 Zy0 z0 0 false)]) := by
  rw [j2000010_raw]; simp only [l10_eq, j12_eq]; first | done | rfl
theorem j9_c (k kp : KT) (J L : Nat → St → Prop) (ag5 : St → Prop) (x0 : BA) (x6 x7 : Int) (b0 : (List Zq0)) : runC cfg 9 J L (pick none' [(5, ag5)]) [1, 1, 1, 1, 0, 0, 0, 1, 0, 1, 1] body (topK cfg Tryd.f15 k kp) (m9 x0 x6 x7 b0) = j9 (fun x0 x6 x7 x55 b0 => J 2000010 (m2000010 x0 x6 x7 x55 b0)) x0 x6 x7 b0 (fun y1 y2 z0 => k (.tup [(.sl 0 0), (.v (.int .i64 y1)), (.v (.int .i64 y2))]) [(.lst 42 Zy0 z0 0 false)]) := by kernel_rfl
theorem j9_ag (k kp : KT) (ag5 : St → Prop) : agPL cfg 9 (JJ_5 k kp ag5) (LL_5 k kp ag5) [1, 1, 1, 1, 0, 0, 0, 1, 0, 1, 1] body = agPR cfg 9 (pick none' [(5, ag5)]) [1, 1, 1, 1, 0, 0, 0, 1, 0, 1, 1] body (topK cfg Tryd.f15 k kp) := by kernel_rfl
theorem j9_raw (k kp : KT) (ag5 : St → Prop) (x0 : BA) (x6 x7 : Int) (b0 : (List Zq0)) : X9 k kp ag5 (m9 x0 x6 x7 b0) = j9 (fun x0 x6 x7 x55 b0 => X2000010 k kp ag5 (m2000010 x0 x6 x7 x55 b0)) x0 x6 x7 b0 (fun y1 y2 z0 => k (.tup [(.sl 0 0), (.v (.int .i64 y1)), (.v (.int .i64 y2))]) [(.lst 42 Zy0 z0 0 false)]) :=
  Eq.mp (by kernel_rfl) ((atP_run (j9_ag k kp ag5) (m9 x0 x6 x7 b0)).trans (j9_c k kp (JJ_5 k kp ag5) (LL_5 k kp ag5) ag5 x0 x6 x7 b0))
theorem j9_eq (k kp : KT) (ag5 : St → Prop) (x0 : BA) (x6 x7 : Int) (b0 : (List Zq0)) : X9 k kp ag5 (m9 x0 x6 x7 b0) = j9' (fun x6 b0 => ag5 (mL5 x0 x6 b0)) x0 x6 x7 b0 (fun y1 y2 z0 => k (.tup [(.sl 0 0), (.v (.int .i64 y1)), (.v (.int .i64 y2))]) [(.lst 42 Zy0 z0 0 false)]) := by
  rw [j9_raw]; simp only [j2000010_eq]; first | done | rfl
theorem j2000008_c (k kp : KT) (J L : Nat → St → Prop) (ag5 : St → Prop) (x0 : BA) (x6 x7 : Int) (x37 : Bool) (b0 : (List Zq0)) : runC cfg 2000008 J L (pick none' [(5, ag5)]) [1, 1, 1, 1, 0, 0, 0, 1, 0, 1, 0, 1] body (topK cfg Tryd.f15 k kp) (m2000008 x0 x6 x7 x37 b0) = j2000008 (fun x0 x6 x7 b0 => J 9 (m9 x0 x6 x7 b0)) (fun x6 b0 => ag5 (mL5 x0 x6 b0)) x0 x6 x7 x37 b0 (fun y1 y2 z0 => k (.tup [(.sl 0 0), (.v (.int .i64 y1)), (.v (.int .i64 y2))]) [(.lst 42 Zy0 z0 0 false)]) := by kernel_rfl
theorem j2000008_ag (k kp : KT) (ag5 : St → Prop) : agPL cfg 2000008 (JJ_5 k kp ag5) (LL_5 k kp ag5) [1, 1, 1, 1, 0, 0, 0, 1, 0, 1, 0, 1] body = agPR cfg 2000008 (pick none' [(5, ag5)]) [1, 1, 1, 1, 0, 0, 0, 1, 0, 1, 0, 1] body (topK cfg Tryd.f15 k kp) := by kernel_rfl
theorem j2000008_raw (k kp : KT) (ag5 : St → Prop) (x0 : BA) (x6 x7 : Int) (x37 : Bool) (b0 : (List Zq0)) : X2000008 k kp ag5 (m2000008 x0 x6 x7 x37 b0) = j2000008 (fun x0 x6 x7 b0 => X9 k kp ag5 (m9 x0 x6 x7 b0)) (fun x6 b0 => ag5 (mL5 x0 x6 b0)) x0 x6 x7 x37 b0 (fun y1 y2 z0 => k (.tup [(.sl 0 0), (.v (.int .i64 y1)), (.v (.int .i64 y2))]) [(.lst 42 Zy0 z0 0 false)]) :=
  Eq.mp (by kernel_rfl) ((atP_run (j2000008_ag k kp ag5) (m2000008 x0 x6 x7 x37 b0)).trans (j2000008_c k kp (JJ_5 k kp ag5) (LL_5 k kp ag5) ag5 x0 x6 x7 x37 b0))
theorem j2000008_eq (k kp : KT) (ag5 : St → Prop) (x0 : BA) (x6 x7 : Int) (x37 : Bool) (b0 : (List Zq0)) : X2000008 k kp ag5 (m2000008 x0 x6 x7 x37 b0) = j2000008' (fun x6 b0 => ag5 (mL5 x0 x6 b0)) x0 x6 x7 x37 b0 (fun y1 y2 z0 => k (.tup [(.sl 0 0), (.v (.int .i64 y1)), (.v (.int .i64 y2))]) [(.lst 42 Zy0 z0 0 false)]) := by
  rw [j2000008_raw]; simp only [j9_eq]; first | done | rfl
theorem l5_c (k kp : KT) (J L : Nat → St → Prop) (ag5 : St → Prop) (x0 : BA) (x6 : Int) (b0 : (List Zq0)) : runC cfg 1000001 J L (pick none' [(5, ag5)]) [1, 1, 1, 1, 0, 0, 0] body (topK cfg Tryd.f15 k kp) (mL5 x0 x6 b0) = l5 (fun x0 x6 x7 x37 b0 => J 2000008 (m2000008 x0 x6 x7 x37 b0)) (fun x0 b0 => J 23 (m23 x0 b0)) x0 x6 b0 (fun y1 y2 z0 => k (.tup [(.sl 0 0), (.v (.int .i64 y1)), (.v (.int .i64 y2))]) [(.lst 42 Zy0 z0 0 false)]) := by kernel_rfl
theorem l5_ag (k kp : KT) (ag5 : St → Prop) : agPL cfg 1000001 (JJ_5 k kp ag5) (LL_5 k kp ag5) [1, 1, 1, 1, 0, 0, 0] body = agPR cfg 1000001 (pick none' [(5, ag5)]) [1, 1, 1, 1, 0, 0, 0] body (topK cfg Tryd.f15 k kp) := by kernel_rfl
theorem l5_raw (k kp : KT) (ag5 : St → Prop) (x0 : BA) (x6 : Int) (b0 : (List Zq0)) : YL5 k kp ag5 (mL5 x0 x6 b0) = l5 (fun x0 x6 x7 x37 b0 => X2000008 k kp ag5 (m2000008 x0 x6 x7 x37 b0)) (fun x0 b0 => X23 k kp (m23 x0 b0)) x0 x6 b0 (fun y1 y2 z0 => k (.tup [(.sl 0 0), (.v (.int .i64 y1)), (.v (.int .i64 y2))]) [(.lst 42 Zy0 z0 0 false)]) :=
  Eq.mp (by kernel_rfl) ((atP_run (l5_ag k kp ag5) (mL5 x0 x6 b0)).trans (l5_c k kp (JJ_5 k kp ag5) (LL_5 k kp ag5) ag5 x0 x6 b0))
theorem l5_eq (k kp : KT) (x0 : BA) (x6 : Int) (b0 : (List Zq0)) : XL5 k kp (mL5 x0 x6 b0) = l5' x0 x6 b0 (fun y1 y2 z0 => k (.tup [(.sl 0 0), (.v (.int .i64 y1)), (.v (.int .i64 y2))]) [(.lst 42 Zy0 z0 0 false)]) :=
  loop_eq (mk := fun (s : Int × (List Zq0)) => mL5 x0 s.1 s.2) (fun again s => by rw [l5_raw k kp again x0 s.1 s.2]; simp only [j2000008_eq, j23_eq]; first | done | rfl) (x6, b0)
theorem c_c (k kp : KT) (J L : Nat → St → Prop) (x0 : BA) : runC cfg 1000001 J L none'' [] body (topK cfg Tryd.f15 k kp) (st0 Tryd.f15 [(.v (.string x0))] []) = c (fun x0 x6 b0 => L 5 (mL5 x0 x6 b0)) x0 (fun y1 y2 z0 => k (.tup [(.sl 0 0), (.v (.int .i64 y1)), (.v (.int .i64 y2))]) [(.lst 42 Zy0 z0 0 false)]) := by kernel_rfl
theorem c_ag (k kp : KT) : agPL cfg 1000001 (JJ k kp) (LL k kp) [] body = agPR cfg 1000001 none'' [] body (topK cfg Tryd.f15 k kp) := by kernel_rfl
theorem body_is : Tryd.f15.body = some body := by kernel_rfl
theorem c_raw (k kp : KT) (x0 : BA) : funW cfg Tryd.f15 [(.v (.string x0))] [] k kp = c (fun x0 x6 b0 => XL5 k kp (mL5 x0 x6 b0)) x0 (fun y1 y2 z0 => k (.tup [(.sl 0 0), (.v (.int .i64 y1)), (.v (.int .i64 y2))]) [(.lst 42 Zy0 z0 0 false)]) :=
  Eq.mp (by kernel_rfl) ((funW_run (AG := none'') body_is (c_ag k kp) [(.v (.string x0))] []).trans (c_c k kp (JJ k kp) (LL k kp) x0))
theorem f_eq (k kp : KT) (x0 : BA) : funW cfg Tryd.f15 [(.v (.string x0))] [] k kp = f x0 (fun y1 y2 z0 => k (.tup [(.sl 0 0), (.v (.int .i64 y1)), (.v (.int .i64 y2))]) [(.lst 42 Zy0 z0 0 false)]) := by
  rw [f_def, c_raw]; simp only [l5_eq]; first | done | rfl
noncomputable def ent0 : Entry := fun args blks k _ => match args, blks with
  | [d0], [] => aStr d0 fun x0 => f x0 (fun y1 y2 z0 => k (.tup [(.sl 0 0), (.v (.int .i64 y1)), (.v (.int .i64 y2))]) [(.lst 42 Zy0 z0 0 false)])
  | _, _ => False
noncomputable def ent : Entry := fun args blks k kp => ent0 (convB [.no] args) blks k kp
theorem ok : EntOk Tryd.prog 49 0 15 ent := by
  refine EntOk.convB (EntOk.of (funW_ok (cfg := cfg) (tyOk_of rfl rfl tyL_ok) (eqOk_of (P := Tryd.prog) rfl rfl (by kernel_rfl)) mixed_ok (tab_ok ?_) Tryd.func15 (by rfl) (by rfl)) ?_) _
  · intro p hp
    simp only [List.mem_cons, List.not_mem_nil, or_false] at hp
    rcases hp with rfl | rfl
    · exact N26.ok
    · exact N27.ok
  · intro args blks k kp h k' kp'
    match args, blks, h with
    | [d0], [], h =>
    dsimp only [ent0] at h
    have h9 := aStr_elim h; clear h; obtain ⟨x0, rfl, h⟩ := h9
    exact (f_eq k' kp' x0).symm
end N15
end Go.Proofs.Ye

namespace Go.Proofs.Ye
open Go Go.Aw Go.Proofs
set_option maxRecDepth 100000
set_option maxHeartbeats 4000000
namespace N16
noncomputable def cfg : Cfg := { P := Tryd.prog, tf := 49, tw := 0, ty := tys, E := tab [], atSeq := tab [(8, ⟨[]⟩)], atLoop := tab [(4, ⟨[(0, .keep), (1, .keep), (5, .keep)]⟩)], outs := [], eqT := tab [(42, [(Ty.int IntKind.i64), Ty.str, (Ty.int IntKind.i64), (Ty.int IntKind.i64), (Ty.int IntKind.i64)])], bT := tab [] }
noncomputable def body : Code := bodyOf Tryd.f16
def l4 (j8 : Prop) (ag4 : Int → Prop) (x0 x1 : (List Zq0)) (x5 : Int) (k : Bool → Prop) : Prop :=
  (br (decide (x5 < ((((x0).length : Nat) : Int)))) ((inB 0 x5 ((((x0).length : Nat) : Int) - 1)) ∧ ((inB 0 x5 ((((x1).length : Nat) : Int) - 1)) ∧ (br (!(((x0.getD (Int.toNat x5) ((0, (ByteArray.empty, (0, (0, 0)))))).1 == (x1.getD (Int.toNat x5) ((0, (ByteArray.empty, (0, (0, 0)))))).1) && (beqS (x0.getD (Int.toNat x5) ((0, (ByteArray.empty, (0, (0, 0)))))).2.1 (x1.getD (Int.toNat x5) ((0, (ByteArray.empty, (0, (0, 0)))))).2.1 && (((x0.getD (Int.toNat x5) ((0, (ByteArray.empty, (0, (0, 0)))))).2.2.1 == (x1.getD (Int.toNat x5) ((0, (ByteArray.empty, (0, (0, 0)))))).2.2.1) && (((x0.getD (Int.toNat x5) ((0, (ByteArray.empty, (0, (0, 0)))))).2.2.2.1 == (x1.getD (Int.toNat x5) ((0, (ByteArray.empty, (0, (0, 0)))))).2.2.2.1) && (((x0.getD (Int.toNat x5) ((0, (ByteArray.empty, (0, (0, 0)))))).2.2.2.2 == (x1.getD (Int.toNat x5) ((0, (ByteArray.empty, (0, (0, 0)))))).2.2.2.2) && true)))))) (k false) (ag4 (IntKind.i64.wrap (x5 + (1 : Int))))))) (j8))
def j8 (k : Bool → Prop) : Prop :=
  (k true)
def c (l4 : (List Zq0) → (List Zq0) → Int → Prop) (x0 x1 : (List Zq0)) (k : Bool → Prop) : Prop :=
  (br (((((x0).length : Nat) : Int)) != ((((x1).length : Nat) : Int))) (k false) (l4 x0 x1 (0 : Int)))
def j8' (k : Bool → Prop) : Prop := j8 k
def l4' (x0 x1 : (List Zq0)) (x5 : Int) (k : Bool → Prop) : Prop := ∃ n, loopS (fun (ag : (Int) → Prop) (s : Int) => l4 (j8' k) (fun x5 => ag (x5)) x0 x1 s k) n (x5)
def f0 (x0 x1 : (List Zq0)) (k : Bool → Prop) : Prop := c (fun x0 x1 x5 => l4' x0 x1 x5 k) x0 x1 k
theorem f_ex : ∃ g, g = f0 := ⟨_, rfl⟩
noncomputable def f := Classical.choose f_ex
theorem f_def : f = f0 := Classical.choose_spec f_ex
def mL4 (x0 x1 : (List Zq0)) (x5 : Int) : St := { tmps := mkT 26 0 [(0, (.fz Zy0 x0)), (1, (.fz Zy0 x1)), (5, (.v (.int .i64 x5)))], hp := [], m := 0 }
def m8 : St := { tmps := mkT 26 0 [], hp := [], m := 0 }
noncomputable def YL4 (k kp : KT) : (St → Prop) → St → Prop := loopB cfg (sub [1, 1, 0, 1, 0, 0] body) (contK cfg (pick none' []) [1, 1, 0, 1, 0] body (topK cfg Tryd.f16 k kp))
noncomputable def XL4 (k kp : KT) : St → Prop := fun st => ∃ n, loopN (YL4 k kp) n st
noncomputable def X8 (k kp : KT) : St → Prop := atP cfg (pick none' []) [1, 1, 1] body (topK cfg Tryd.f16 k kp)
noncomputable def JJ_4 (k kp : KT) (ag4 : St → Prop) : Nat → St → Prop := pick none' [(8, X8 k kp)]
noncomputable def LL_4 (k kp : KT) (ag4 : St → Prop) : Nat → St → Prop := pick none' [(4, XL4 k kp)]
noncomputable def JJ (k kp : KT) : Nat → St → Prop := pick none' [(8, X8 k kp)]
noncomputable def LL (k kp : KT) : Nat → St → Prop := pick none' [(4, XL4 k kp)]
theorem j8_c (k kp : KT) (J L : Nat → St → Prop) : runC cfg 8 J L (pick none' []) [1, 1, 1] body (topK cfg Tryd.f16 k kp) (m8) = j8 (fun y0 => k (.v (.bool y0)) []) := by kernel_rfl
theorem j8_ag (k kp : KT) : agPL cfg 8 (JJ k kp) (LL k kp) [1, 1, 1] body = agPR cfg 8 (pick none' []) [1, 1, 1] body (topK cfg Tryd.f16 k kp) := by kernel_rfl
theorem j8_raw (k kp : KT) : X8 k kp (m8) = j8 (fun y0 => k (.v (.bool y0)) []) :=
  Eq.mp (by kernel_rfl) ((atP_run (j8_ag k kp) (m8)).trans (j8_c k kp (JJ k kp) (LL k kp)))
theorem j8_eq (k kp : KT) : X8 k kp (m8) = j8' (fun y0 => k (.v (.bool y0)) []) := by
  rw [j8_raw]; rfl
theorem l4_c (k kp : KT) (J L : Nat → St → Prop) (ag4 : St → Prop) (x0 x1 : (List Zq0)) (x5 : Int) : runC cfg 1000001 J L (pick none' [(4, ag4)]) [1, 1, 0, 1, 0, 0] body (topK cfg Tryd.f16 k kp) (mL4 x0 x1 x5) = l4 (J 8 (m8)) (fun x5 => ag4 (mL4 x0 x1 x5)) x0 x1 x5 (fun y0 => k (.v (.bool y0)) []) := by kernel_rfl
theorem l4_ag (k kp : KT) (ag4 : St → Prop) : agPL cfg 1000001 (JJ_4 k kp ag4) (LL_4 k kp ag4) [1, 1, 0, 1, 0, 0] body = agPR cfg 1000001 (pick none' [(4, ag4)]) [1, 1, 0, 1, 0, 0] body (topK cfg Tryd.f16 k kp) := by kernel_rfl
theorem l4_raw (k kp : KT) (ag4 : St → Prop) (x0 x1 : (List Zq0)) (x5 : Int) : YL4 k kp ag4 (mL4 x0 x1 x5) = l4 (X8 k kp (m8)) (fun x5 => ag4 (mL4 x0 x1 x5)) x0 x1 x5 (fun y0 => k (.v (.bool y0)) []) :=
  Eq.mp (by kernel_rfl) ((atP_run (l4_ag k kp ag4) (mL4 x0 x1 x5)).trans (l4_c k kp (JJ_4 k kp ag4) (LL_4 k kp ag4) ag4 x0 x1 x5))
theorem l4_eq (k kp : KT) (x0 x1 : (List Zq0)) (x5 : Int) : XL4 k kp (mL4 x0 x1 x5) = l4' x0 x1 x5 (fun y0 => k (.v (.bool y0)) []) :=
  loop_eq (mk := fun (s : Int) => mL4 x0 x1 s) (fun again s => by rw [l4_raw k kp again x0 x1 s]; simp only [j8_eq]; first | done | rfl) (x5)
theorem c_c (k kp : KT) (J L : Nat → St → Prop) (x0 x1 : (List Zq0)) : runC cfg 1000001 J L none'' [] body (topK cfg Tryd.f16 k kp) (st0 Tryd.f16 [(.fz Zy0 x0), (.fz Zy0 x1)] []) = c (fun x0 x1 x5 => L 4 (mL4 x0 x1 x5)) x0 x1 (fun y0 => k (.v (.bool y0)) []) := by kernel_rfl
theorem c_ag (k kp : KT) : agPL cfg 1000001 (JJ k kp) (LL k kp) [] body = agPR cfg 1000001 none'' [] body (topK cfg Tryd.f16 k kp) := by kernel_rfl
theorem body_is : Tryd.f16.body = some body := by kernel_rfl
theorem c_raw (k kp : KT) (x0 x1 : (List Zq0)) : funW cfg Tryd.f16 [(.fz Zy0 x0), (.fz Zy0 x1)] [] k kp = c (fun x0 x1 x5 => XL4 k kp (mL4 x0 x1 x5)) x0 x1 (fun y0 => k (.v (.bool y0)) []) :=
  Eq.mp (by kernel_rfl) ((funW_run (AG := none'') body_is (c_ag k kp) [(.fz Zy0 x0), (.fz Zy0 x1)] []).trans (c_c k kp (JJ k kp) (LL k kp) x0 x1))
theorem f_eq (k kp : KT) (x0 x1 : (List Zq0)) : funW cfg Tryd.f16 [(.fz Zy0 x0), (.fz Zy0 x1)] [] k kp = f x0 x1 (fun y0 => k (.v (.bool y0)) []) := by
  rw [f_def, c_raw]; simp only [l4_eq]; first | done | rfl
noncomputable def ent0 : Entry := fun args blks k _ => match args, blks with
  | [d0, d1], [] => aFz Zy0 d0 fun x0 => aFz Zy0 d1 fun x1 => f x0 x1 (fun y0 => k (.v (.bool y0)) [])
  | _, _ => False
noncomputable def ent : Entry := fun args blks k kp => ent0 (convB [.one Zy0, .one Zy0] args) blks k kp
theorem ok : EntOk Tryd.prog 49 0 16 ent := by
  refine EntOk.convB (EntOk.of (funW_ok (cfg := cfg) (tyOk_of rfl rfl tyL_ok) (eqOk_of (P := Tryd.prog) rfl rfl (by kernel_rfl)) mixed_ok (tab_ok ?_) Tryd.func16 (by rfl) (by rfl)) ?_) _
  · intro p hp
    cases hp
  · intro args blks k kp h k' kp'
    match args, blks, h with
    | [d0, d1], [], h =>
    dsimp only [ent0] at h
    have h9 := aFz_elim (t := Zy0) h; clear h; obtain ⟨x0, rfl, h⟩ := h9
    have h9 := aFz_elim (t := Zy0) h; clear h; obtain ⟨x1, rfl, h⟩ := h9
    exact (f_eq k' kp' x0 x1).symm
end N16
end Go.Proofs.Ye

namespace Go.Proofs.Ye
open Go Go.Aw Go.Proofs Go.RowKit
theorem rdigits_s (s : ByteArray) (hs : s.size ≤ reachBytes) (p : Nat) (hp : p ≤ s.size) (k : Int → Prop) (h : k (run ((ofBytes s).drop p))) : N49.f s (p : Int) k := by
  have hr : reachBytes < 2 ^ 47 := reachBytes_lt
  have hl := ofBytes_length s
  rw [N49.f_def]
  unfold N49.f0 N49.c N49.l2'
  have hrl := run_le ((ofBytes s).drop p)
  rw [List.length_drop, hl] at hrl
  refine loopS_of (fun x : Int => ∃ j : Nat, x = j ∧ j ≤ run ((ofBytes s).drop p)) (fun x => (s.size - x).toNat) ?_ ⟨0, rfl, Nat.zero_le _⟩
  rintro again x ⟨j, rfl, hj⟩ hag
  unfold N49.l2 N49.j3' N49.j3 N49.j4' N49.j4
  dsimp only
  have ew : IntKind.i64.wrap ((p : Int) + (j : Int)) = ((p + j : Nat) : Int) := by rw [wrap_id (by omega) (by omega)]; omega
  rw [ew]
  have stop : (p + j < s.size → ¬ isD ((ofBytes s).getD (p + j) 0)) → k (j : Int) := by
    intro hn
    have : j = run ((ofBytes s).drop p) := by
      rcases Nat.lt_or_ge j (run ((ofBytes s).drop p)) with hh | hh
      · exact absurd (runIn hh) (hn (by omega))
      · omega
    rw [this]; exact h
  refine br_of (fun hlt => ?_) (fun hge => stop (fun hh => by have := of_decide_eq_false hge; omega))
  have hlt := of_decide_eq_true hlt
  have inb : inB 0 ((p + j : Nat) : Int) (((s.size : Nat) : Int) - 1) := ⟨by omega, by omega, by omega⟩
  refine ⟨inb, ?_⟩
  rw [byteAt_eq]
  refine br_of (fun h4 => ⟨inb, br_of (fun h5 => ?_) (fun h5 => stop (fun _ => ?_))⟩) (fun h4 => stop (fun _ => ?_))
  · have h4 := of_decide_eq_true h4
    have h5 := of_decide_eq_true h5
    rw [wrap_id (by omega) (by omega)]
    refine hag _ ⟨j + 1, by omega, ?_⟩ (by omega)
    rcases Nat.lt_or_ge j (run ((ofBytes s).drop p)) with hh | hh
    · omega
    · exact absurd ⟨h4, h5⟩ (run_step (by omega) (by omega))
  · have h5 := of_decide_eq_false h5
    unfold isD; omega
  · have h4 := of_decide_eq_false h4
    unfold isD; omega
theorem rvalue_s (s : ByteArray) (hs : s.size ≤ reachBytes) (hd : ∀ x ∈ ofBytes s, isD x) (k : Int → Int → Prop)
    (h : if s.size = 0 ∨ ((ofBytes s).getD 0 0 = 48 ∧ 1 < s.size) then k 0 12 else if val (ofBytes s) > 2 ^ 63 then k 0 2 else k (val (ofBytes s)) 0) : N50.f s k := by
  have hr : reachBytes < 2 ^ 47 := reachBytes_lt
  have hl := ofBytes_length s
  rw [N50.f_def]
  unfold N50.f0 N50.c N50.j2000002' N50.j2000002 N50.j3' N50.j3
  have go : ¬ (s.size = 0 ∨ ((ofBytes s).getD 0 0 = 48 ∧ 1 < s.size)) → N50.l5' s 0 0 k := by
    intro hn
    rw [if_neg hn] at h
    unfold N50.l5'
    refine loopS_of (fun x : Int × Int => ∃ i : Nat, x.2 = i ∧ i ≤ s.size ∧ x.1 = (val ((ofBytes s).take i) : Int) ∧ val ((ofBytes s).take i) ≤ 2 ^ 63) (fun x => (s.size - x.2).toNat) ?_ ⟨0, rfl, Nat.zero_le _, rfl, by show val [] ≤ _; decide⟩
    rintro again ⟨x, j⟩ ⟨i, rfl, hi, rfl, hv⟩ hag
    simp only at hag hv ⊢
    unfold N50.l5 N50.j11' N50.j11
    dsimp only
    refine br_of (fun hlt => ?_) (fun hge => ?_)
    · have hlt : i < s.size := by simp at hlt; omega
      have hD : isD ((ofBytes s).getD i 0) := by
        have hi2 : i < (ofBytes s).length := by omega
        simp only [List.getD, List.getElem?_eq_getElem hi2, Option.getD_some]
        exact hd _ (List.getElem_mem hi2)
      have hv2 := val_take_succ (by omega : i < (ofBytes s).length)
      have hv3 := val_take (ofBytes s) (i + 1)
      rw [byteAt_eq]
      refine ⟨⟨by omega, by omega, by omega⟩, by decide, ?_⟩
      obtain ⟨d1, d2⟩ := hD
      generalize (ofBytes s).getD i 0 = c at *
      generalize hV : val ((ofBytes s).take i) = V at *
      have e0 : IntKind.u64.wrap (IntKind.u8.wrap (c - 48)) = c - 48 := by rw [wu8_eq, wu64_eq]; omega
      rw [e0]
      have e1 : IntKind.u64.wrap (Int.tdiv (IntKind.u64.wrap (9223372036854775808 - (c - 48))) 10) = (9223372036854775808 - (c - 48)) / 10 := by
        rw [wu64_eq (9223372036854775808 - (c - 48)), Int.emod_eq_of_lt (by omega) (by omega), tdiv10, if_neg (by omega), wu64_eq]
        omega
      rw [e1]
      refine br_of (fun hov => ?_) (fun hov => ?_)
      · have hov := of_decide_eq_true hov
        rw [if_pos (by omega)] at h
        exact h
      · have hov := of_decide_eq_false hov
        have e2 : IntKind.u64.wrap (IntKind.u64.wrap (10 * (V : Int)) + (c - 48)) = ((10 * V + (c - 48).toNat : Nat) : Int) := by
          rw [wu64_eq (10 * (V : Int)), wu64_eq]
          omega
        have e3 : IntKind.i64.wrap ((i : Int) + 1) = ((i + 1 : Nat) : Int) := by rw [wrap_id (by omega) (by omega)]; omega
        rw [e2, e3]
        exact hag _ ⟨i + 1, rfl, by omega, by rw [hv2], by rw [hv2]; omega⟩ (by simp; omega)
    · have hge : i = s.size := by simp at hge; omega
      subst hge
      rw [List.take_of_length_le (by omega)] at hv ⊢
      rw [if_neg (by omega)] at h
      exact h
  have e0 : beqS s (ByteArray.mk #[]) = decide (s.size = 0) := by
    have := bytesOf_nil (ofBytes s)
    rw [bytesOf_ofBytes] at this
    rw [this, Bool.eq_iff_iff, decide_eq_true_eq, decide_eq_true_eq, ← hl]
    exact List.length_eq_zero_iff.symm
  rw [e0, br_dec]
  split
  · rename_i h0
    rw [if_pos (.inl h0)] at h
    exact h
  · rename_i h0
    refine ⟨⟨by omega, by omega, by omega⟩, ?_⟩
    rw [show byteAt s 0 = (ofBytes s).getD 0 0 from byteAt_eq s 0, br_beq]
    split
    · rename_i h48
      refine br_of (fun h1 => ?_) (fun h1 => ?_)
      · have h1 := of_decide_eq_true h1
        rw [if_pos (.inr ⟨h48, by omega⟩)] at h
        exact h
      · have h1 := of_decide_eq_false h1
        exact go (by rintro (g | ⟨_, g⟩) <;> omega)
    · rename_i h48
      simp only [br_false]
      exact go (by rintro (g | ⟨g, _⟩); omega; exact h48 g)
def RdR (p : Nat) (g : Got) (k : Int → ByteArray → Int → Int → Int → Int → Int → Prop) : Prop :=
  (g.code ≠ 0 → ∀ a b c d e n, k a b c d e n g.code) ∧ (g.code = 0 → k g.kind (bytesOf g.text) g.num g.cls p g.len 0)
set_option maxHeartbeats 2000000 in
theorem one_r (s : ByteArray) (hs : s.size ≤ reachBytes) (p : Nat) (hp : p < s.size) (h34 : (ofBytes s).getD p 0 ≠ 34) (k : Int → ByteArray → Int → Int → Int → Int → Int → Prop)
    (h : RdR p (tokS ((ofBytes s).drop p)) k) : N27.f s (p : Int) k := by
  have hr : reachBytes < 2 ^ 47 := reachBytes_lt
  have hl := ofBytes_length s
  have hdr := drop_get (d := (0 : Int)) (by omega : p < (ofBytes s).length)
  have hcB := getD_isB s p
  rw [N27.f_def]
  unfold N27.f0 N27.c
  refine ⟨⟨by omega, by omega, by omega⟩, nscanr_s s hs _ _ ?_⟩
  rw [byteAt_eq]
  have ew1 : IntKind.i64.wrap ((p : Int) + 1) = ((p + 1 : Nat) : Int) := by rw [wrap_id (by omega) (by omega)]; omega
  rw [ew1]
  have num : ∀ (a : Nat) (kind cls : Int), a ≤ 2 → p + a ≤ s.size → (a = 0 → isD ((ofBytes s).getD p 0)) → RdR p (numS (if a = 0 then 2 else kind) a cls ((ofBytes s).drop p)) k → N27.j21' s (p : Int) ((ofBytes s).getD p 0) (a : Int) 0 (ByteArray.mk #[]) 0 0 0 kind (ByteArray.mk #[]) 0 cls p k := by
    intro a kind cls ha hpa ha0 hk
    unfold N27.j21' N27.j21 N27.j2000022' N27.j2000022
    unfold RdR at hk
    rw [numS_eq, List.drop_drop] at hk
    have hrl := run_le ((ofBytes s).drop (p + a))
    rw [List.length_drop, hl] at hrl
    have hB : ∀ y ∈ ((ofBytes s).drop (p + a)).take (run ((ofBytes s).drop (p + a))), isB y := fun y hy => ofBytes_isB s y (List.mem_of_mem_drop (List.mem_of_mem_take hy))
    have ewa : IntKind.i64.wrap ((p : Int) + (a : Int)) = ((p + a : Nat) : Int) := by rw [wrap_id (by omega) (by omega)]; omega
    have body : N49.f s (IntKind.i64.wrap ((p : Int) + (a : Int))) (fun (y0_1 : Int) => ((inB (w64 ((p : Int) + (a : Int))) (w64 ((p : Int) + (w64 ((a : Int) + y0_1)))) (((s).size : Nat) : Int)) ∧ (N50.f (ByteArray.extract s (Int.toNat (w64 ((p : Int) + (a : Int)))) (Int.toNat (w64 ((p : Int) + (w64 ((a : Int) + y0_1)))))) (fun (y0_2 : Int) (y1_2 : Int) => (br (y1_2 == (0 : Int)) (br (decide ((a : Int) > (0 : Int))) (N27.j2000025' s p a (w64 ((a : Int) + y0_1)) y0_2 y1_2 (decide (y0_2 > (2147483647 : Int))) 0 (ByteArray.mk #[]) 0 0 0 kind (ByteArray.mk #[]) 0 cls p k) (N27.j2000025' s p a (w64 ((a : Int) + y0_1)) y0_2 y1_2 false 0 (ByteArray.mk #[]) 0 0 0 kind (ByteArray.mk #[]) 0 cls p k)) (N27.j2000025' s p a (w64 ((a : Int) + y0_1)) y0_2 y1_2 false 0 (ByteArray.mk #[]) 0 0 0 kind (ByteArray.mk #[]) 0 cls p k)))))) := by
      show N49.f s (IntKind.i64.wrap ((p : Int) + (a : Int))) _
      rw [ewa]
      refine rdigits_s s hs (p + a) hpa _ ?_
      have e2 : w64 ((a : Int) + (run ((ofBytes s).drop (p + a)) : Int)) = ((a + run ((ofBytes s).drop (p + a)) : Nat) : Int) := by rw [w64_id ⟨by omega, by omega⟩]; omega
      have e3 : w64 ((p : Int) + ((a + run ((ofBytes s).drop (p + a)) : Nat) : Int)) = ((p + a + run ((ofBytes s).drop (p + a)) : Nat) : Int) := by rw [w64_id ⟨by omega, by omega⟩]; omega
      rw [show w64 ((p : Int) + (a : Int)) = ((p + a : Nat) : Int) from ewa, e2, e3, part_eq]
      refine ⟨⟨by omega, by omega, by omega⟩, ?_⟩
      have esz : (bytesOf (((ofBytes s).drop (p + a)).take (run ((ofBytes s).drop (p + a))))).size = run ((ofBytes s).drop (p + a)) := by
        rw [bytesOf_size, List.length_take, List.length_drop, hl]; omega
      refine rvalue_s _ (by rw [esz]; omega) (by rw [ofBytes_bytesOf hB]; exact run_isD _) _ ?_
      rw [esz, ofBytes_bytesOf hB]
      have eg : run ((ofBytes s).drop (p + a)) ≠ 0 → (((ofBytes s).drop (p + a)).take (run ((ofBytes s).drop (p + a)))).getD 0 0 = ((ofBytes s).drop (p + a)).getD 0 0 := by
        intro hne
        cases hc : run ((ofBytes s).drop (p + a)) with
        | zero => exact absurd hc hne
        | succ n => cases (ofBytes s).drop (p + a) <;> rfl
      have fin : ∀ (v c : Int), (∀ b0 b1 b2 b3 b4 b5, ((c ≠ 0 → k b0 b1 b2 b3 b4 b5 c) ∧ (c = 0 → k (if a = 0 then 2 else kind) (bytesOf (((ofBytes s).drop p).take (a + run ((ofBytes s).drop (p + a))))) (w64 v) cls p ((a + run ((ofBytes s).drop (p + a)) : Nat) : Int) 0))) → N27.j26' s p a ((a + run ((ofBytes s).drop (p + a)) : Nat) : Int) v c 0 (ByteArray.mk #[]) 0 0 0 kind (ByteArray.mk #[]) 0 cls p k := by
        intro v c hh
        unfold N27.j26' N27.j26 N27.j28' N27.j28
        have e4 : IntKind.i64.wrap ((p : Int) + ((a + run ((ofBytes s).drop (p + a)) : Nat) : Int)) = ((p + (a + run ((ofBytes s).drop (p + a))) : Nat) : Int) := by rw [wrap_id (by omega) (by omega)]; omega
        dsimp only
        rw [e4, part_eq]
        rw [br_beq]
        split
        · rename_i h0
          refine ⟨⟨by omega, by omega, by omega⟩, ?_⟩
          by_cases hc : c = 0
          · subst hc
            have := (hh 0 (ByteArray.mk #[]) 0 0 0 0).2 rfl
            rw [if_pos (by omega)] at this
            exact this
          · exact (hh _ _ _ _ _ _).1 hc
        · rename_i h0
          refine ⟨⟨by omega, by omega, by omega⟩, ?_⟩
          by_cases hc : c = 0
          · subst hc
            have := (hh 0 (ByteArray.mk #[]) 0 0 0 0).2 rfl
            rw [if_neg (by omega)] at this
            exact this
          · exact (hh _ _ _ _ _ _).1 hc
      obtain ⟨k1, k2⟩ := hk
      have bad : ∀ (c v : Int), c ≠ 0 → (∀ b0 b1 b2 b3 b4 b5, k b0 b1 b2 b3 b4 b5 c) → N27.j2000025' s p a ((a + run ((ofBytes s).drop (p + a)) : Nat) : Int) v c false 0 (ByteArray.mk #[]) 0 0 0 kind (ByteArray.mk #[]) 0 cls p k := by
        intro c v hc hk
        unfold N27.j2000025' N27.j2000025
        simp only [br_false]
        exact fin v c (fun _ _ _ _ _ _ => ⟨fun _ => hk _ _ _ _ _ _, fun h => absurd h hc⟩)
      by_cases d1 : run ((ofBytes s).drop (p + a)) = 0 ∨ (((ofBytes s).drop (p + a)).getD 0 0 = 48 ∧ 1 < run ((ofBytes s).drop (p + a)))
      · have hd : digC ((ofBytes s).drop (p + a)) = 12 := by unfold digC; exact if_pos d1
        rw [hd, if_pos (by decide)] at k1
        simp only [Got.bad] at k1
        have c1 : run ((ofBytes s).drop (p + a)) = 0 ∨ (((ofBytes s).drop (p + a)).take (run ((ofBytes s).drop (p + a)))).getD 0 0 = 48 ∧ 1 < run ((ofBytes s).drop (p + a)) := by
          rcases d1 with d1 | ⟨d1, d2⟩
          · exact .inl d1
          · exact .inr ⟨by rw [eg (by omega)]; exact d1, d2⟩
        rw [if_pos c1, br_beq, if_neg (by decide)]
        exact bad 12 0 (by decide) (k1 (by decide))
      · have c1 : ¬ (run ((ofBytes s).drop (p + a)) = 0 ∨ (((ofBytes s).drop (p + a)).take (run ((ofBytes s).drop (p + a)))).getD 0 0 = 48 ∧ 1 < run ((ofBytes s).drop (p + a))) := by
          rintro (g | ⟨g1, g2⟩)
          · exact d1 (.inl g)
          · exact d1 (.inr ⟨by rw [← eg (by omega)]; exact g1, g2⟩)
        rw [if_neg c1]
        by_cases d2 : val (((ofBytes s).drop (p + a)).take (run ((ofBytes s).drop (p + a)))) > 2 ^ 63
        · have hd : digC ((ofBytes s).drop (p + a)) = 2 := by unfold digC; rw [if_neg d1, if_pos d2]
          rw [hd, if_pos (by decide)] at k1
          simp only [Got.bad] at k1
          rw [if_pos d2, br_beq, if_neg (by decide)]
          exact bad 2 0 (by decide) (k1 (by decide))
        · have hd : digC ((ofBytes s).drop (p + a)) = 0 := by unfold digC; rw [if_neg d1, if_neg d2]
          rw [hd, if_neg (by decide)] at k1 k2
          rw [if_neg d2, br_beq, if_pos rfl]
          generalize hV : val (((ofBytes s).drop (p + a)).take (run ((ofBytes s).drop (p + a)))) = V at *
          have good : ¬ (0 < a ∧ V > 2 ^ 31 - 1) → N27.j2000025' s p a ((a + run ((ofBytes s).drop (p + a)) : Nat) : Int) V 0 false 0 (ByteArray.mk #[]) 0 0 0 kind (ByteArray.mk #[]) 0 cls p k := by
            intro hn
            rw [if_neg hn] at k2
            unfold N27.j2000025' N27.j2000025
            simp only [br_false]
            exact fin _ _ (fun _ _ _ _ _ _ => ⟨fun h => absurd rfl h, fun _ => k2 rfl⟩)
          rw [br_dec]
          split
          · rename_i ha1
            by_cases hV2 : V > 2 ^ 31 - 1
            · rw [if_pos ⟨by omega, hV2⟩] at k1
              have : decide ((V : Int) > 2147483647) = true := by simp; omega
              rw [this]
              unfold N27.j2000025' N27.j2000025
              simp only [br_true]
              exact fin _ _ (fun _ _ _ _ _ _ => ⟨fun _ => k1 (by decide) _ _ _ _ _ _, fun h => absurd h (by decide)⟩)
            · have : decide ((V : Int) > 2147483647) = false := by simp; omega
              rw [this]
              exact good (fun hh => hV2 hh.2)
          · rename_i ha1
            exact good (fun hh => ha1 (by omega))
    rw [br_dec]
    split
    · exact body
    · rename_i ha1
      have ha' : a = 0 := by omega
      have hD := ha0 ha'
      rw [br_dec, if_pos (by exact hD.1), show decide ((ofBytes s).getD p 0 ≤ 57) = true by simpa using hD.2]
      exact body
  have scanF : isL ((ofBytes s).getD p 0) = false → scanN (ofBytes s) (p : Int) = (p : Int) := by
    intro hh
    unfold scanN
    rw [if_pos (.inr (.inr (by rw [Int.toNat_natCast]; exact hh)))]
  have noL : ∀ c : Int, (c = 37 ∨ c = 35 ∨ c = 36 ∨ isD c ∨ c ∈ signs) → isL c = false := by
    intro c hh
    rw [← Bool.not_eq_true, isL_iff]
    simp only [signs, List.mem_cons, List.not_mem_nil, or_false] at hh
    unfold isD at hh
    omega
  have hh1 : ((ofBytes s).drop (p + 1)).head? = some ((ofBytes s).getD (p + 1) 0) ∨ (ofBytes s).drop (p + 1) = [] := by
    rcases Nat.lt_or_ge (p + 1) (ofBytes s).length with g | g
    · left; rw [drop_get (d := 0) g]; rfl
    · right; exact List.drop_of_length_le g
  have hend : (ofBytes s).drop (p + 1) = [] ↔ p + 1 = s.size := by
    rw [List.drop_eq_nil_iff]; omega
  have sgn : (ofBytes s).getD p 0 ∈ signs ∨ (ofBytes s).getD p 0 ∉ signs → ∀ b0 b1 b2 b3 b4, ¬ isD ((ofBytes s).getD p 0) → RdR p (if (ofBytes s).getD p 0 ∈ signs then (if (ofBytes s).getD p 0 = 46 ∧ (ofBytes s).getD (p + 1) 0 = 46 then ⟨7, [46, 46], 0, 0, 2, 0, 0⟩ else ⟨7, [(ofBytes s).getD p 0], 0, 0, 1, 0, 0⟩) else .bad 10 0) k →
      N27.j21' s (p : Int) ((ofBytes s).getD p 0) 0 b0 b1 b2 b3 b4 0 (ByteArray.mk #[]) 0 0 p k := by
    intro _ b0 b1 b2 b3 b4 hD hk
    unfold N27.j21' N27.j21 N27.j2000022' N27.j2000022
    have fall : N27.j30' s (p : Int) ((ofBytes s).getD p 0) b0 b1 b2 b3 b4 0 (ByteArray.mk #[]) 0 0 p k := by
      unfold N27.j30' N27.j30 N27.l31'
      unfold RdR at hk
      refine loopS_of (fun st : (Int × Int × ByteArray × Int × Int × Int × Int × ByteArray × Int × Int × Int) => ∃ j : Nat, st.1 = j ∧ j ≤ 14 ∧ st.2.2.2.2.2.2 = (0, ByteArray.mk #[], 0, 0, (p : Int)) ∧ ∀ i, i < j → signs.getD i 0 ≠ (ofBytes s).getD p 0) (fun st => (14 - st.1).toNat) ?_ ⟨0, rfl, by omega, rfl, fun i hi => by omega⟩
      rintro again ⟨x, y0, y1, y2, y3, y4, z0, z1, z2, z3, z4⟩ ⟨j, ej, hj, ez, hno⟩ hag
      simp only [Prod.mk.injEq] at ej ez hag ⊢
      obtain ⟨rfl, rfl, rfl, rfl, rfl⟩ := ez
      subst ej
      unfold N27.l31 N27.j2000036' N27.j2000036 N27.j39' N27.j39 N27.j37' N27.j37
      dsimp only
      have sz : (((ByteArray.mk #[123, 125, 40, 41, 91, 93, 44, 58, 59, 61, 43, 45, 42, 46]).size : Nat) : Int) = 14 := rfl
      rw [sz]
      refine br_of (fun hlt => ?_) (fun hge => ?_)
      · have hlt := of_decide_eq_true hlt
        refine ⟨⟨by omega, by omega, by omega⟩, ?_⟩
        rw [byteAt_eq, show ofBytes (ByteArray.mk #[123, 125, 40, 41, 91, 93, 44, 58, 59, 61, 43, 45, 42, 46]) = signs from rfl, br_beq]
        split
        · rename_i he
          have hm : (ofBytes s).getD p 0 ∈ signs := by
            rw [← he]
            have hj2 : j < signs.length := by show j < 14; omega
            simp only [List.getD, List.getElem?_eq_getElem hj2, Option.getD_some]
            exact List.getElem_mem hj2
          rw [if_pos hm] at hk
          have ew2 : IntKind.i64.wrap ((p : Int) + 2) = ((p + 2 : Nat) : Int) := by rw [wrap_id (by omega) (by omega)]; omega
          rw [ew1]
          have p1 := part_eq s p 1
          have p2 := part_eq s p 2
          rw [drop_get (d := 0) (by omega : p < (ofBytes s).length)] at p1 p2
          have one : ¬ ((ofBytes s).getD p 0 = 46 ∧ (ofBytes s).getD (p + 1) 0 = 46) → inB (p : Int) ((p + 1 : Nat) : Int) (((s).size : Nat) : Int) ∧ k 7 (ByteArray.extract s (Int.toNat (p : Int)) (Int.toNat ((p + 1 : Nat) : Int))) 0 0 p 1 0 := by
            intro hn
            rw [if_neg hn] at hk
            refine ⟨⟨by omega, by omega, by omega⟩, ?_⟩
            rw [p1]
            exact hk.2 rfl
          rw [br_beq]
          split
          · rename_i h46
            rw [br_dec]
            split
            · rename_i hlt2
              refine ⟨⟨by omega, by omega, by omega⟩, ?_⟩
              rw [byteAt_eq]
              refine br_of (fun h2 => ?_) (fun h2 => ?_)
              · have h2 : (ofBytes s).getD (p + 1) 0 = 46 := by simpa using h2
                rw [if_pos ⟨h46, h2⟩] at hk
                rw [ew2]
                refine ⟨⟨by omega, by omega, by omega⟩, ?_⟩
                rw [p2, drop_get (d := 0) (by omega : p + 1 < (ofBytes s).length), h46, h2]
                exact hk.2 rfl
              · have h2 : (ofBytes s).getD (p + 1) 0 ≠ 46 := by simpa using h2
                exact one (fun hh => h2 hh.2)
            · rename_i hlt2
              simp only [br_false]
              refine one (fun hh => ?_)
              rw [show (ofBytes s).getD (p + 1) 0 = 0 by simp [List.getD, List.getElem?_eq_none (show (ofBytes s).length ≤ p + 1 by omega)]] at hh
              exact absurd hh.2 (by decide)
          · rename_i h46
            simp only [br_false]
            exact one (fun hh => h46 hh.1)
        · rename_i he
          rw [wrap_id (by omega) (by omega)]
          refine hag _ ⟨j + 1, by simp, by omega, rfl, fun i hi => ?_⟩ (by simp only; omega)
          rcases Nat.lt_or_ge i j with hh | hh
          · exact hno i hh
          · rw [show i = j by omega]; exact he
      · have hge := of_decide_eq_false hge
        have hm : (ofBytes s).getD p 0 ∉ signs := by
          intro hm
          obtain ⟨i, hi, he⟩ := List.getElem_of_mem hm
          refine hno i (by have : signs.length = 14 := rfl; omega) ?_
          simp only [List.getD, List.getElem?_eq_getElem hi, Option.getD_some]
          exact he
        rw [if_neg hm] at hk
        exact hk.1 (by decide) _ _ _ _ _ _
    rw [br_dec, if_neg (by decide), br_dec]
    split
    · rename_i h48
      have : decide ((ofBytes s).getD p 0 ≤ 57) = false := decide_eq_false (by unfold isD at hD; omega)
      rw [this]
      exact fall
    · exact fall
  rcases tokS_cases ((ofBytes s).getD p 0) with hc | hL | hc | hc | hc | hD | hS | ⟨g1, g2, g3, g4, g5, g6, g7⟩
  · exact absurd hc h34
  · have e : scanN (ofBytes s) (p : Int) = ((p + runS ((ofBytes s).drop p) : Nat) : Int) := by
      unfold scanN
      rw [if_neg (by rw [Int.toNat_natCast, hL, hl]; simp; omega), Int.toNat_natCast]
    have hrl := runS_le ((ofBytes s).drop p)
    have h1 : 1 ≤ runS ((ofBytes s).drop p) := by
      rw [hdr]
      exact runS_pos hL
    rw [List.length_drop, hl] at hrl
    have ht : tokS ((ofBytes s).drop p) = if runS ((ofBytes s).drop p) > 24 then .bad 3 0 else ⟨1, ((ofBytes s).drop p).take (runS ((ofBytes s).drop p)), 0, 0, runS ((ofBytes s).drop p), 0, 0⟩ := by
      rw [hdr, tokS_L _ hL]
    unfold RdR at h
    rw [ht] at h
    rw [e, br_dec, if_pos (by omega), part_eq]
    have e2 : IntKind.i64.wrap (((p + runS ((ofBytes s).drop p) : Nat) : Int) - p) = (runS ((ofBytes s).drop p) : Int) := by rw [wrap_id (by omega) (by omega)]; omega
    rw [e2, br_dec]
    refine ⟨⟨by omega, by omega, by omega⟩, ?_⟩
    split
    · rename_i h2
      rw [if_pos (by omega)] at h
      exact h.1 (by decide) _ _ _ _ _ _
    · rename_i h2
      rw [if_neg (by omega)] at h
      exact h.2 rfl
  · rw [scanF (by rw [hc]; decide), br_dec, if_neg (by omega), br_beq, if_pos hc]
    refine num 1 4 0 (by omega) (by omega) (fun h => by omega) ?_
    rw [if_neg (by decide)]
    rw [hdr, hc, tokS_37, ← hc, ← hdr] at h
    exact h
  · rw [scanF (by rw [hc]; decide), br_dec, if_neg (by omega), br_beq, if_neg (by omega), br_beq, if_pos hc]
    refine num 1 6 0 (by omega) (by omega) (fun h => by omega) ?_
    rw [if_neg (by decide)]
    rw [hdr, hc, tokS_35, ← hc, ← hdr] at h
    exact h
  · rw [scanF (by rw [hc]; decide), br_dec, if_neg (by omega), br_beq, if_neg (by omega), br_beq, if_neg (by omega), br_beq, if_pos hc]
    unfold N27.j2000018' N27.j2000018 N27.j19' N27.j19
    have ht : tokS ((ofBytes s).drop p) = if ((ofBytes s).drop (p + 1)).head? = some 103 then numS 5 2 0 ((ofBytes s).drop p) else if ((ofBytes s).drop (p + 1)).head? = some 120 then numS 5 2 1 ((ofBytes s).drop p) else .bad 12 0 := by
      rw [hdr, hc, tokS_36]
    rw [ht] at h
    rw [br_beq]
    split
    · rename_i he
      rw [hend.2 (by omega)] at h
      simp only [List.head?_nil, reduceCtorEq, if_false] at h
      simp only [br_true]
      exact h.1 (by decide) _ _ _ _ _ _
    · rename_i he
      have hlt : p + 1 < s.size := by omega
      have hh : ((ofBytes s).drop (p + 1)).head? = some ((ofBytes s).getD (p + 1) 0) := by rw [drop_get (d := 0) (by omega : p + 1 < (ofBytes s).length)]; rfl
      rw [hh] at h
      simp only [Option.some.injEq] at h
      dsimp only
      simp only [ew1]
      have inb : inB 0 ((p + 1 : Nat) : Int) (((s.size : Nat) : Int) - 1) := ⟨by omega, by omega, by omega⟩
      refine ⟨inb, ?_⟩
      rw [byteAt_eq, br_bne]
      split
      · rename_i h103
        rw [if_pos h103] at h
        simp only [br_false]
        refine ⟨inb, ?_⟩
        rw [br_beq, if_neg (by omega)]
        refine num 2 5 0 (by omega) (by omega) (fun h => by omega) ?_
        rw [if_neg (by decide)]
        exact h
      · rename_i h103
        rw [if_neg h103] at h
        refine ⟨inb, ?_⟩
        rw [br_bne]
        split
        · rename_i h120
          rw [if_pos h120] at h
          refine ⟨inb, ?_⟩
          rw [br_beq, if_pos h120]
          refine num 2 5 1 (by omega) (by omega) (fun h => by omega) ?_
          rw [if_neg (by decide)]
          exact h
        · rename_i h120
          rw [if_neg h120] at h
          exact h.1 (by decide) _ _ _ _ _ _
  · have hD' := hD
    unfold isD at hD'
    rw [scanF (noL _ (.inr (.inr (.inr (.inl hD))))), br_dec, if_neg (by omega), br_beq, if_neg (by omega), br_beq, if_neg (by omega), br_beq, if_neg (by omega)]
    refine num 0 0 0 (by omega) (by omega) (fun _ => hD) ?_
    rw [if_pos rfl]
    rw [hdr, tokS_D _ hD, ← hdr] at h
    exact h
  · have hS' := hS
    simp only [signs, List.mem_cons, List.not_mem_nil, or_false] at hS'
    rw [scanF (noL _ (.inr (.inr (.inr (.inr hS))))), br_dec, if_neg (by omega), br_beq, if_neg (by omega), br_beq, if_neg (by omega), br_beq, if_neg (by omega)]
    refine sgn (.inl hS) _ _ _ _ _ (by unfold isD; omega) ?_
    rw [if_pos hS]
    rw [hdr, tokS_S _ hS] at h
    rcases hh1 with g | g
    · rw [g] at h; simp only [Option.some.injEq] at h; exact h
    · rw [g] at h
      rw [show (ofBytes s).getD (p + 1) 0 = 0 by simp [List.getD, List.getElem?_eq_none (show (ofBytes s).length ≤ p + 1 by have := hend.1 g; omega)]]
      simpa using h
  · rw [scanF g2, br_dec, if_neg (by omega), br_beq, if_neg g3, br_beq, if_neg g4, br_beq, if_neg g5]
    refine sgn (.inr g7) _ _ _ _ _ g6 ?_
    rw [if_neg g7]
    rw [hdr, tokS_no _ g1 g2 g3 g4 g5 g6 g7] at h
    exact h
end Go.Proofs.Ye

namespace Go.Proofs.Ye
open Go Go.Aw Go.Proofs Go.RowKit
set_option maxHeartbeats 1000000 in
theorem allr_s (s : ByteArray) (hs : s.size ≤ reachBytes) (k : Int → Int → List LTok → Prop) (h : k (lexAll (ofBytes s)).2.1 (lexAll (ofBytes s)).2.2 (lexAll (ofBytes s)).1) : N15.f s k := by
  have hr : reachBytes < 2 ^ 47 := reachBytes_lt
  have hl := ofBytes_length s
  rw [N15.f_def]
  unfold N15.f0 N15.c
  rw [lexAll_eq, hl] at h
  rw [br_dec]
  split
  · rename_i h1
    rw [if_pos (by omega)] at h
    exact h
  · rename_i h1
    rw [if_neg (by omega)] at h
    have h64 : s.size ≤ 65536 := by omega
    generalize hR : lexW (ofBytes s) 0 [] = R at h
    unfold N15.l5'
    refine loopS_of (fun st : Int × List LTok => ∃ q : Nat, st.1 = q ∧ q ≤ s.size ∧ st.2.length ≤ q ∧ lexW ((ofBytes s).drop q) q st.2 = R) (fun st => s.size - st.1.toNat) ?_ ⟨0, rfl, Nat.zero_le _, Nat.zero_le _, by rw [← hR]; rfl⟩
    rintro again ⟨x, out⟩ ⟨q, rfl, hq, ho, he⟩ hag
    simp only at hag ho he ⊢
    unfold N15.l5 N15.j23' N15.j23
    dsimp only
    refine br_of (fun hlt => ?_) (fun hge => ?_)
    rotate_left
    · have hge := of_decide_eq_false hge
      refine ⟨by unfold room; simp; omega, ?_⟩
      rw [List.drop_of_length_le (by omega), lexW_nil] at he
      rw [← he, show (q : Int) = (s.size : Int) by omega] at h
      exact h
    have hlt : q < s.size := by have := of_decide_eq_true hlt; omega
    have hdr := drop_get (d := (0 : Int)) (by omega : q < (ofBytes s).length)
    have inb : inB 0 (q : Int) (((s.size : Nat) : Int) - 1) := ⟨by omega, by omega, by omega⟩
    refine ⟨inb, ?_⟩
    rw [byteAt_eq]
    have ew1 : IntKind.i64.wrap ((q : Int) + 1) = ((q + 1 : Nat) : Int) := by rw [wrap_id (by omega) (by omega)]; omega
    unfold N15.j2000008' N15.j2000008
    dsimp only
    have blank : isW ((ofBytes s).getD q 0) = true → again (IntKind.i64.wrap ((q : Int) + 1), out) := by
      intro hW
      rw [ew1]
      refine hag _ ⟨q + 1, rfl, by omega, by simp only; omega, ?_⟩ (by simp only; omega)
      rw [← he, hdr, lexW_blank _ _ hW]
      simp
    simp only [br_true, br_beq]
    have rest : isW ((ofBytes s).getD q 0) = false → N15.j9' (fun x6 b0 => again (x6, b0)) s (q : Int) ((ofBytes s).getD q 0) out k := by
      intro hW
      unfold N15.j9' N15.j9 N15.j2000010' N15.j2000010
      dsimp only
      have rem : (ofBytes s).getD q 0 = 47 → ((ofBytes s).drop (q + 1)).head? = some 47 → N15.l10' (fun x6 b0 => again (x6, b0)) s (q : Int) out k := by
        intro h47 hh
        have hln := lineN_le ((ofBytes s).drop q)
        rw [List.length_drop, hl] at hln
        have hl1 : 1 ≤ lineN ((ofBytes s).drop q) := by
          rw [hdr]
          unfold lineN
          rw [if_neg (by omega)]; omega
        have he2 : lexW ((ofBytes s).drop (q + lineN ((ofBytes s).drop q))) ((q + lineN ((ofBytes s).drop q) : Nat) : Int) out = R := by
          rw [← he, ← List.drop_drop]
          rw [hdr, h47, lexW_remark _ _ hh]
          simp
        unfold N15.l10'
        refine loopS_of (fun st : Int × List LTok => ∃ j : Nat, st.1 = ((q + j : Nat) : Int) ∧ j ≤ lineN ((ofBytes s).drop q) ∧ st.2 = out) (fun st => s.size - st.1.toNat) ?_ ⟨0, rfl, Nat.zero_le _, rfl⟩
        rintro again2 ⟨x, out2⟩ ⟨j, rfl, hj, eo⟩ hag2
        simp only at hag2 eo ⊢
        subst eo
        unfold N15.l10 N15.j11' N15.j11
        dsimp only
        have fin : j = lineN ((ofBytes s).drop q) → again (((q + j : Nat) : Int), out2) := by
          intro ej
          subst ej
          clear hag2
          generalize lineN ((ofBytes s).drop q) = n at *
          exact hag _ ⟨q + n, rfl, by omega, by simp only; omega, he2⟩ (by simp only; omega)
        have gd : ((ofBytes s).drop q).getD j 0 = (ofBytes s).getD (q + j) 0 := by simp [List.getD, List.getElem?_drop]
        refine br_of (fun hlt2 => ?_) (fun hge2 => ?_)
        · have hlt2 := of_decide_eq_true hlt2
          refine ⟨⟨by omega, by omega, by omega⟩, ?_⟩
          rw [byteAt_eq, br_bne]
          split
          · rename_i h10
            refine fin ?_
            rcases Nat.lt_or_ge j (lineN ((ofBytes s).drop q)) with g | g
            · exact absurd (gd.trans h10) (lineN_in g)
            · omega
          · rename_i h10
            rw [wrap_id (by omega) (by omega)]
            refine hag2 _ ⟨j + 1, by simp only; omega, ?_, rfl⟩ (by simp only; omega)
            rcases Nat.lt_or_ge j (lineN ((ofBytes s).drop q)) with g | g
            · omega
            · have ej : lineN ((ofBytes s).drop q) = j := by omega
              have := lineN_end (l := (ofBytes s).drop q) (by rw [List.length_drop]; omega)
              rw [ej, gd] at this
              exact absurd this h10
        · have hge2 := of_decide_eq_false hge2
          exact fin (by omega)
      have tok : ¬ ((ofBytes s).getD q 0 = 47 ∧ ((ofBytes s).drop (q + 1)).head? = some 47) → N15.j12' (fun x6 b0 => again (x6, b0)) s (q : Int) ((ofBytes s).getD q 0) out k := by
        intro hn
        have hst : stopAt ((ofBytes s).getD q 0 :: (ofBytes s).drop (q + 1)) := ⟨hW, hn⟩
        rw [hdr, lexW_tok _ _ hst, ← hdr] at he
        unfold N15.j12' N15.j12
        dsimp only
        rw [br_beq]
        split
        · rename_i h34
          refine scan3_s s (by omega) _ _ (fun hn => ?_) (fun t e c _ hsc => ?_)
          · exfalso
            unfold noQuote at hn
            rw [Int.toNat_natCast] at hn
            rcases hn with hn | hn | hn
            · omega
            · omega
            · exact hn h34
          · rw [Int.toNat_natCast] at hsc
            have ht := tokS_quote (ofBytes s) q (by omega) h34 hsc
            rw [ht] at he
            rw [br_bne]
            split
            · rename_i hc0
              subst hc0
              simp only [if_true, ne_eq, not_true, if_false] at he
              have htl := tokS_len (l := (ofBytes s).drop q) (by rw [ht]; rfl)
              rw [ht, List.length_drop] at htl
              simp only [if_true] at htl
              refine ⟨by unfold room; simp; omega, ?_⟩
              refine hag _ ⟨q + (e - q).toNat, by simp only; omega, by omega, by simp; omega, ?_⟩ (by simp only; omega)
              rw [← he, List.drop_drop]
              simp
            · rename_i hc0
              rw [if_neg hc0] at he
              rw [if_pos (show (Got.bad c (e - q)).code ≠ 0 from hc0)] at he
              simp only [Got.bad] at he
              rw [show (q : Int) + (e - q) = e by omega] at he
              rw [← he] at h
              exact h
        · rename_i h34
          refine one_r s hs q hlt h34 _ ⟨fun hc0 a b c d e n => ?_, fun hc0 => ?_⟩
          · dsimp only
            rw [br_bne, if_neg hc0]
            rw [if_pos hc0] at he
            have hoff : (tokS ((ofBytes s).drop q)).off = 0 := by rw [hdr]; exact tokS_off h34
            rw [hoff, Int.add_zero] at he
            rw [← he] at h
            exact h
          · dsimp only
            rw [br_bne, if_pos rfl]
            rw [if_neg (by simpa using hc0)] at he
            have htl := tokS_len (l := (ofBytes s).drop q) hc0
            rw [List.length_drop] at htl
            refine ⟨by unfold room; simp; omega, ?_⟩
            rw [wrap_id (by omega) (by omega)]
            refine hag _ ⟨q + (tokS ((ofBytes s).drop q)).len, by simp, by omega, by simp; omega, ?_⟩ (by simp only; omega)
            rw [← he, List.drop_drop]
            simp
      rw [br_beq]
      split
      · rename_i h47
        rw [ew1, br_dec]
        split
        · rename_i hlt2
          refine ⟨⟨by omega, by omega, by omega⟩, ?_⟩
          rw [byteAt_eq]
          have hh : ((ofBytes s).drop (q + 1)).head? = some ((ofBytes s).getD (q + 1) 0) := by rw [drop_get (d := 0) (by omega : q + 1 < (ofBytes s).length)]; rfl
          refine br_of (fun h2 => ?_) (fun h2 => ?_)
          · have h2 : (ofBytes s).getD (q + 1) 0 = 47 := by simpa using h2
            exact rem h47 (by rw [hh, h2])
          · have h2 : (ofBytes s).getD (q + 1) 0 ≠ 47 := by simpa using h2
            refine tok (fun g => h2 ?_)
            have := g.2
            rw [hh] at this
            exact Option.some.inj this
        · rename_i hlt2
          simp only [br_false]
          refine tok (fun g => ?_)
          have := g.2
          rw [List.drop_of_length_le (by omega)] at this
          simp at this
      · rename_i h47
        simp only [br_false]
        exact tok (fun g => h47 g.1)
    have w := @isW_iff ((ofBytes s).getD q 0)
    split
    · rename_i g; exact blank (w.2 (by omega))
    · split
      · rename_i g; exact blank (w.2 (by omega))
      · split
        · rename_i g; exact blank (w.2 (by omega))
        · split
          · rename_i g; exact blank (w.2 (by omega))
          · refine rest ?_
            rw [← Bool.not_eq_true, w]
            omega
end Go.Proofs.Ye

namespace Go.Proofs.Ye
open Go Go.Aw Go.Proofs
set_option maxRecDepth 100000
set_option maxHeartbeats 4000000
namespace N36
noncomputable def cfg : Cfg := { P := Tryd.prog, tf := 49, tw := 0, ty := tys, E := tab [(57, N57.ent)], atSeq := tab [], atLoop := tab [], outs := [], eqT := tab [], bT := tab [] }
noncomputable def body : Code := bodyOf Tryd.f36
def c (x0 : BA) (x1 : Int) (k : Int → Prop) : Prop :=
  (k (indexB x0 x1))
def f0 (x0 : BA) (x1 : Int) (k : Int → Prop) : Prop := c x0 x1 k
theorem f_ex : ∃ g, g = f0 := ⟨_, rfl⟩
noncomputable def f := Classical.choose f_ex
theorem f_def : f = f0 := Classical.choose_spec f_ex
noncomputable def JJ (k kp : KT) : Nat → St → Prop := pick none' []
noncomputable def LL (k kp : KT) : Nat → St → Prop := pick none' []
theorem c_c (k kp : KT) (J L : Nat → St → Prop) (x0 : BA) (x1 : Int) : runC cfg 1000001 J L none'' [] body (topK cfg Tryd.f36 k kp) (st0 Tryd.f36 [(.v (.string x0)), (.v (.int IntKind.u8 x1))] []) = c x0 x1 (fun y0 => k (.v (.int .i64 y0)) []) := by kernel_rfl
theorem c_ag (k kp : KT) : agPL cfg 1000001 (JJ k kp) (LL k kp) [] body = agPR cfg 1000001 none'' [] body (topK cfg Tryd.f36 k kp) := by kernel_rfl
theorem body_is : Tryd.f36.body = some body := by kernel_rfl
theorem c_raw (k kp : KT) (x0 : BA) (x1 : Int) : funW cfg Tryd.f36 [(.v (.string x0)), (.v (.int IntKind.u8 x1))] [] k kp = c x0 x1 (fun y0 => k (.v (.int .i64 y0)) []) :=
  Eq.mp (by kernel_rfl) ((funW_run (AG := none'') body_is (c_ag k kp) [(.v (.string x0)), (.v (.int IntKind.u8 x1))] []).trans (c_c k kp (JJ k kp) (LL k kp) x0 x1))
theorem f_eq (k kp : KT) (x0 : BA) (x1 : Int) : funW cfg Tryd.f36 [(.v (.string x0)), (.v (.int IntKind.u8 x1))] [] k kp = f x0 x1 (fun y0 => k (.v (.int .i64 y0)) []) := by
  rw [f_def, c_raw]; rfl
noncomputable def ent0 : Entry := fun args blks k _ => match args, blks with
  | [d0, d1], [] => aStr d0 fun x0 => aInt IntKind.u8 d1 fun x1 => f x0 x1 (fun y0 => k (.v (.int .i64 y0)) [])
  | _, _ => False
noncomputable def ent : Entry := fun args blks k kp => ent0 (convB [.no, .no] args) blks k kp
theorem ok : EntOk Tryd.prog 49 0 36 ent := by
  refine EntOk.convB (EntOk.of (funW_ok (cfg := cfg) (tyOk_of rfl rfl tyL_ok) (eqOk_of (P := Tryd.prog) rfl rfl (by kernel_rfl)) mixed_ok (tab_ok ?_) Tryd.func36 (by rfl) (by rfl)) ?_) _
  · intro p hp
    simp only [List.mem_cons, List.not_mem_nil, or_false] at hp
    rcases hp with rfl
    · exact N57.ok
  · intro args blks k kp h k' kp'
    match args, blks, h with
    | [d0, d1], [], h =>
    dsimp only [ent0] at h
    have h9 := aStr_elim h; clear h; obtain ⟨x0, rfl, h⟩ := h9
    have h9 := aInt_elim h; clear h; obtain ⟨x1, rfl, h⟩ := h9
    exact (f_eq k' kp' x0 x1).symm
end N36
end Go.Proofs.Ye

namespace Go.Proofs.Ye
open Go Go.Aw Go.Proofs
set_option maxRecDepth 100000
set_option maxHeartbeats 4000000
namespace N58
noncomputable def cfg : Cfg := { P := Tryd.prog, tf := 49, tw := 0, ty := tys, E := tab [], atSeq := tab [], atLoop := tab [], outs := [], eqT := tab [], bT := tab [] }
noncomputable def body : Code := bodyOf Tryd.f58
def c (x0 x1 : BA) (k : Bool → Prop) : Prop :=
  (br (decide (((((x0).size : Nat) : Int)) ≥ ((((x1).size : Nat) : Int)))) ((inB 0 ((((x1).size : Nat) : Int)) (((x0).size : Nat) : Int)) ∧ (k (beqS (ByteArray.extract x0 (Int.toNat 0) (Int.toNat ((((x1).size : Nat) : Int)))) x1))) (k false))
def f0 (x0 x1 : BA) (k : Bool → Prop) : Prop := c x0 x1 k
theorem f_ex : ∃ g, g = f0 := ⟨_, rfl⟩
noncomputable def f := Classical.choose f_ex
theorem f_def : f = f0 := Classical.choose_spec f_ex
noncomputable def JJ (k kp : KT) : Nat → St → Prop := pick none' []
noncomputable def LL (k kp : KT) : Nat → St → Prop := pick none' []
theorem c_c (k kp : KT) (J L : Nat → St → Prop) (x0 x1 : BA) : runC cfg 1000001 J L none'' [] body (topK cfg Tryd.f58 k kp) (st0 Tryd.f58 [(.v (.string x0)), (.v (.string x1))] []) = c x0 x1 (fun y0 => k (.v (.bool y0)) []) := by kernel_rfl
theorem c_ag (k kp : KT) : agPL cfg 1000001 (JJ k kp) (LL k kp) [] body = agPR cfg 1000001 none'' [] body (topK cfg Tryd.f58 k kp) := by kernel_rfl
theorem body_is : Tryd.f58.body = some body := by kernel_rfl
theorem c_raw (k kp : KT) (x0 x1 : BA) : funW cfg Tryd.f58 [(.v (.string x0)), (.v (.string x1))] [] k kp = c x0 x1 (fun y0 => k (.v (.bool y0)) []) :=
  Eq.mp (by kernel_rfl) ((funW_run (AG := none'') body_is (c_ag k kp) [(.v (.string x0)), (.v (.string x1))] []).trans (c_c k kp (JJ k kp) (LL k kp) x0 x1))
theorem f_eq (k kp : KT) (x0 x1 : BA) : funW cfg Tryd.f58 [(.v (.string x0)), (.v (.string x1))] [] k kp = f x0 x1 (fun y0 => k (.v (.bool y0)) []) := by
  rw [f_def, c_raw]; rfl
noncomputable def ent0 : Entry := fun args blks k _ => match args, blks with
  | [d0, d1], [] => aStr d0 fun x0 => aStr d1 fun x1 => f x0 x1 (fun y0 => k (.v (.bool y0)) [])
  | _, _ => False
noncomputable def ent : Entry := fun args blks k kp => ent0 (convB [.no, .no] args) blks k kp
theorem ok : EntOk Tryd.prog 49 0 58 ent := by
  refine EntOk.convB (EntOk.of (funW_ok (cfg := cfg) (tyOk_of rfl rfl tyL_ok) (eqOk_of (P := Tryd.prog) rfl rfl (by kernel_rfl)) mixed_ok (tab_ok ?_) Tryd.func58 (by rfl) (by rfl)) ?_) _
  · intro p hp
    cases hp
  · intro args blks k kp h k' kp'
    match args, blks, h with
    | [d0, d1], [], h =>
    dsimp only [ent0] at h
    have h9 := aStr_elim h; clear h; obtain ⟨x0, rfl, h⟩ := h9
    have h9 := aStr_elim h; clear h; obtain ⟨x1, rfl, h⟩ := h9
    exact (f_eq k' kp' x0 x1).symm
end N58
end Go.Proofs.Ye

namespace Go.Proofs.Ye
open Go Go.Aw Go.Proofs
set_option maxRecDepth 100000
set_option maxHeartbeats 4000000
namespace N37
noncomputable def cfg : Cfg := { P := Tryd.prog, tf := 49, tw := 0, ty := tys, E := tab [(58, N58.ent)], atSeq := tab [], atLoop := tab [], outs := [], eqT := tab [], bT := tab [] }
noncomputable def body : Code := bodyOf Tryd.f37
def c (x0 x1 : BA) (k : Bool → Prop) : Prop :=
  (N58.f x0 x1 (fun (y0_0 : Bool) => (k y0_0)))
def f0 (x0 x1 : BA) (k : Bool → Prop) : Prop := c x0 x1 k
theorem f_ex : ∃ g, g = f0 := ⟨_, rfl⟩
noncomputable def f := Classical.choose f_ex
theorem f_def : f = f0 := Classical.choose_spec f_ex
noncomputable def JJ (k kp : KT) : Nat → St → Prop := pick none' []
noncomputable def LL (k kp : KT) : Nat → St → Prop := pick none' []
theorem c_c (k kp : KT) (J L : Nat → St → Prop) (x0 x1 : BA) : runC cfg 1000001 J L none'' [] body (topK cfg Tryd.f37 k kp) (st0 Tryd.f37 [(.v (.string x0)), (.v (.string x1))] []) = c x0 x1 (fun y0 => k (.v (.bool y0)) []) := by kernel_rfl
theorem c_ag (k kp : KT) : agPL cfg 1000001 (JJ k kp) (LL k kp) [] body = agPR cfg 1000001 none'' [] body (topK cfg Tryd.f37 k kp) := by kernel_rfl
theorem body_is : Tryd.f37.body = some body := by kernel_rfl
theorem c_raw (k kp : KT) (x0 x1 : BA) : funW cfg Tryd.f37 [(.v (.string x0)), (.v (.string x1))] [] k kp = c x0 x1 (fun y0 => k (.v (.bool y0)) []) :=
  Eq.mp (by kernel_rfl) ((funW_run (AG := none'') body_is (c_ag k kp) [(.v (.string x0)), (.v (.string x1))] []).trans (c_c k kp (JJ k kp) (LL k kp) x0 x1))
theorem f_eq (k kp : KT) (x0 x1 : BA) : funW cfg Tryd.f37 [(.v (.string x0)), (.v (.string x1))] [] k kp = f x0 x1 (fun y0 => k (.v (.bool y0)) []) := by
  rw [f_def, c_raw]; rfl
noncomputable def ent0 : Entry := fun args blks k _ => match args, blks with
  | [d0, d1], [] => aStr d0 fun x0 => aStr d1 fun x1 => f x0 x1 (fun y0 => k (.v (.bool y0)) [])
  | _, _ => False
noncomputable def ent : Entry := fun args blks k kp => ent0 (convB [.no, .no] args) blks k kp
theorem ok : EntOk Tryd.prog 49 0 37 ent := by
  refine EntOk.convB (EntOk.of (funW_ok (cfg := cfg) (tyOk_of rfl rfl tyL_ok) (eqOk_of (P := Tryd.prog) rfl rfl (by kernel_rfl)) mixed_ok (tab_ok ?_) Tryd.func37 (by rfl) (by rfl)) ?_) _
  · intro p hp
    simp only [List.mem_cons, List.not_mem_nil, or_false] at hp
    rcases hp with rfl
    · exact N58.ok
  · intro args blks k kp h k' kp'
    match args, blks, h with
    | [d0, d1], [], h =>
    dsimp only [ent0] at h
    have h9 := aStr_elim h; clear h; obtain ⟨x0, rfl, h⟩ := h9
    have h9 := aStr_elim h; clear h; obtain ⟨x1, rfl, h⟩ := h9
    exact (f_eq k' kp' x0 x1).symm
end N37
end Go.Proofs.Ye

namespace Go.Proofs.Ye
open Go Go.Aw Go.Proofs
set_option maxRecDepth 100000
set_option maxHeartbeats 4000000
namespace N23
noncomputable def cfg : Cfg := { P := Tryd.prog, tf := 49, tw := 0, ty := tys, E := tab [(36, N36.ent), (37, N37.ent)], atSeq := tab [(8, ⟨[(0, .keep), (3, .keep)]⟩)], atLoop := tab [(0, ⟨[(0, .keep)]⟩)], outs := [], eqT := tab [], bT := tab [] }
noncomputable def body : Code := bodyOf Tryd.f23
def l0 (j8 : Int → BA → Int → Prop) (ag0 : BA → Int → Prop) (b0_0 : BA) (b0_1 : Int) (k : BA → Int → Prop) : Prop :=
  (br (decide (b0_1 < ((((b0_0).size : Nat) : Int)))) ((inB b0_1 (((b0_0).size : Nat) : Int) (((b0_0).size : Nat) : Int)) ∧ ((inB 0 (0 : Int) (((((ByteArray.extract b0_0 (Int.toNat b0_1) (Int.toNat (((b0_0).size : Nat) : Int)))).size : Nat) : Int) - 1)) ∧ (N36.f (ByteArray.mk #[32, 9, 13, 10]) (byteAt (ByteArray.extract b0_0 (Int.toNat b0_1) (Int.toNat (((b0_0).size : Nat) : Int))) (0 : Int)) (fun (y0_0 : Int) => (br (decide (y0_0 ≥ (0 : Int))) (ag0 b0_0 (IntKind.i64.wrap (b0_1 + (1 : Int)))) (N37.f (ByteArray.extract b0_0 (Int.toNat b0_1) (Int.toNat (((b0_0).size : Nat) : Int))) (ByteArray.mk #[47, 47]) (fun (y0_1 : Bool) => (br y0_1 (N36.f (ByteArray.extract b0_0 (Int.toNat b0_1) (Int.toNat (((b0_0).size : Nat) : Int))) (10 : Int) (fun (y0_2 : Int) => (br (decide (y0_2 < (0 : Int))) (j8 (((((ByteArray.extract b0_0 (Int.toNat b0_1) (Int.toNat (((b0_0).size : Nat) : Int)))).size : Nat) : Int)) b0_0 b0_1) (j8 y0_2 b0_0 b0_1)))) (k b0_0 b0_1))))))))) (k b0_0 b0_1))
def j8 (ag0 : BA → Int → Prop) (x3 : Int) (b0_0 : BA) (b0_1 : Int) (k : BA → Int → Prop) : Prop :=
  (ag0 b0_0 (IntKind.i64.wrap (b0_1 + x3)))
def c (l0 : BA → Int → Prop) (b0_0 : BA) (b0_1 : Int) (k : BA → Int → Prop) : Prop :=
  (l0 b0_0 b0_1)
def j8' (ag0 : BA → Int → Prop) (x3 : Int) (b0_0 : BA) (b0_1 : Int) (k : BA → Int → Prop) : Prop := j8 ag0 x3 b0_0 b0_1 k
def l0' (b0_0 : BA) (b0_1 : Int) (k : BA → Int → Prop) : Prop := ∃ n, loopS (fun (ag : (BA × Int) → Prop) (s : BA × Int) => l0 (fun x3 b0_0 b0_1 => j8' (fun b0_0 b0_1 => ag (b0_0, b0_1)) x3 b0_0 b0_1 k) (fun b0_0 b0_1 => ag (b0_0, b0_1)) s.1 s.2 k) n (b0_0, b0_1)
def f0 (b0_0 : BA) (b0_1 : Int) (k : BA → Int → Prop) : Prop := c (fun b0_0 b0_1 => l0' b0_0 b0_1 k) b0_0 b0_1 k
theorem f_ex : ∃ g, g = f0 := ⟨_, rfl⟩
noncomputable def f := Classical.choose f_ex
theorem f_def : f = f0 := Classical.choose_spec f_ex
def mL0 (b0_0 : BA) (b0_1 : Int) : St := { tmps := mkT 52 0 [(0, (.ptr 0 0))], hp := [(.box 57 [(.v (.string b0_0)), (.v (.int .i64 b0_1))])], m := 1 }
def m8 (x3 : Int) (b0_0 : BA) (b0_1 : Int) : St := { tmps := mkT 52 0 [(0, (.ptr 0 0)), (3, (.v (.int .i64 x3)))], hp := [(.box 57 [(.v (.string b0_0)), (.v (.int .i64 b0_1))])], m := 1 }
noncomputable def YL0 (k kp : KT) : (St → Prop) → St → Prop := loopB cfg (sub [0, 0] body) (contK cfg (pick none' []) [0] body (topK cfg Tryd.f23 k kp))
noncomputable def XL0 (k kp : KT) : St → Prop := fun st => ∃ n, loopN (YL0 k kp) n st
noncomputable def X8 (k kp : KT) (ag0 : St → Prop) : St → Prop := atP cfg (pick none' [(0, ag0)]) [0, 0, 1, 0, 1, 0, 1, 1, 1, 0, 1, 1] body (topK cfg Tryd.f23 k kp)
noncomputable def JJ_0 (k kp : KT) (ag0 : St → Prop) : Nat → St → Prop := pick none' [(8, X8 k kp ag0)]
noncomputable def LL_0 (k kp : KT) (ag0 : St → Prop) : Nat → St → Prop := pick none' [(0, XL0 k kp)]
noncomputable def JJ (k kp : KT) : Nat → St → Prop := pick none' []
noncomputable def LL (k kp : KT) : Nat → St → Prop := pick none' [(0, XL0 k kp)]
theorem j8_c (k kp : KT) (J L : Nat → St → Prop) (ag0 : St → Prop) (x3 : Int) (b0_0 : BA) (b0_1 : Int) : runC cfg 8 J L (pick none' [(0, ag0)]) [0, 0, 1, 0, 1, 0, 1, 1, 1, 0, 1, 1] body (topK cfg Tryd.f23 k kp) (m8 x3 b0_0 b0_1) = j8 (fun b0_0 b0_1 => ag0 (mL0 b0_0 b0_1)) x3 b0_0 b0_1 (fun z0_0 z0_1 => k (.tup []) [(.box 57 [(.v (.string z0_0)), (.v (.int .i64 z0_1))])]) := by kernel_rfl
theorem j8_ag (k kp : KT) (ag0 : St → Prop) : agPL cfg 8 (JJ_0 k kp ag0) (LL_0 k kp ag0) [0, 0, 1, 0, 1, 0, 1, 1, 1, 0, 1, 1] body = agPR cfg 8 (pick none' [(0, ag0)]) [0, 0, 1, 0, 1, 0, 1, 1, 1, 0, 1, 1] body (topK cfg Tryd.f23 k kp) := by kernel_rfl
theorem j8_raw (k kp : KT) (ag0 : St → Prop) (x3 : Int) (b0_0 : BA) (b0_1 : Int) : X8 k kp ag0 (m8 x3 b0_0 b0_1) = j8 (fun b0_0 b0_1 => ag0 (mL0 b0_0 b0_1)) x3 b0_0 b0_1 (fun z0_0 z0_1 => k (.tup []) [(.box 57 [(.v (.string z0_0)), (.v (.int .i64 z0_1))])]) :=
  Eq.mp (by kernel_rfl) ((atP_run (j8_ag k kp ag0) (m8 x3 b0_0 b0_1)).trans (j8_c k kp (JJ_0 k kp ag0) (LL_0 k kp ag0) ag0 x3 b0_0 b0_1))
theorem j8_eq (k kp : KT) (ag0 : St → Prop) (x3 : Int) (b0_0 : BA) (b0_1 : Int) : X8 k kp ag0 (m8 x3 b0_0 b0_1) = j8' (fun b0_0 b0_1 => ag0 (mL0 b0_0 b0_1)) x3 b0_0 b0_1 (fun z0_0 z0_1 => k (.tup []) [(.box 57 [(.v (.string z0_0)), (.v (.int .i64 z0_1))])]) := by
  rw [j8_raw]; rfl
theorem l0_c (k kp : KT) (J L : Nat → St → Prop) (ag0 : St → Prop) (b0_0 : BA) (b0_1 : Int) : runC cfg 1000001 J L (pick none' [(0, ag0)]) [0, 0] body (topK cfg Tryd.f23 k kp) (mL0 b0_0 b0_1) = l0 (fun x3 b0_0 b0_1 => J 8 (m8 x3 b0_0 b0_1)) (fun b0_0 b0_1 => ag0 (mL0 b0_0 b0_1)) b0_0 b0_1 (fun z0_0 z0_1 => k (.tup []) [(.box 57 [(.v (.string z0_0)), (.v (.int .i64 z0_1))])]) := by kernel_rfl
theorem l0_ag (k kp : KT) (ag0 : St → Prop) : agPL cfg 1000001 (JJ_0 k kp ag0) (LL_0 k kp ag0) [0, 0] body = agPR cfg 1000001 (pick none' [(0, ag0)]) [0, 0] body (topK cfg Tryd.f23 k kp) := by kernel_rfl
theorem l0_raw (k kp : KT) (ag0 : St → Prop) (b0_0 : BA) (b0_1 : Int) : YL0 k kp ag0 (mL0 b0_0 b0_1) = l0 (fun x3 b0_0 b0_1 => X8 k kp ag0 (m8 x3 b0_0 b0_1)) (fun b0_0 b0_1 => ag0 (mL0 b0_0 b0_1)) b0_0 b0_1 (fun z0_0 z0_1 => k (.tup []) [(.box 57 [(.v (.string z0_0)), (.v (.int .i64 z0_1))])]) :=
  Eq.mp (by kernel_rfl) ((atP_run (l0_ag k kp ag0) (mL0 b0_0 b0_1)).trans (l0_c k kp (JJ_0 k kp ag0) (LL_0 k kp ag0) ag0 b0_0 b0_1))
theorem l0_eq (k kp : KT) (b0_0 : BA) (b0_1 : Int) : XL0 k kp (mL0 b0_0 b0_1) = l0' b0_0 b0_1 (fun z0_0 z0_1 => k (.tup []) [(.box 57 [(.v (.string z0_0)), (.v (.int .i64 z0_1))])]) :=
  loop_eq (mk := fun (s : BA × Int) => mL0 s.1 s.2) (fun again s => by rw [l0_raw k kp again s.1 s.2]; simp only [j8_eq]; first | done | rfl) (b0_0, b0_1)
theorem c_c (k kp : KT) (J L : Nat → St → Prop) (b0_0 : BA) (b0_1 : Int) : runC cfg 1000001 J L none'' [] body (topK cfg Tryd.f23 k kp) (st0 Tryd.f23 [(.ptr 0 0)] [(.box 57 [(.v (.string b0_0)), (.v (.int .i64 b0_1))])]) = c (fun b0_0 b0_1 => L 0 (mL0 b0_0 b0_1)) b0_0 b0_1 (fun z0_0 z0_1 => k (.tup []) [(.box 57 [(.v (.string z0_0)), (.v (.int .i64 z0_1))])]) := by kernel_rfl
theorem c_ag (k kp : KT) : agPL cfg 1000001 (JJ k kp) (LL k kp) [] body = agPR cfg 1000001 none'' [] body (topK cfg Tryd.f23 k kp) := by kernel_rfl
theorem body_is : Tryd.f23.body = some body := by kernel_rfl
theorem c_raw (k kp : KT) (b0_0 : BA) (b0_1 : Int) : funW cfg Tryd.f23 [(.ptr 0 0)] [(.box 57 [(.v (.string b0_0)), (.v (.int .i64 b0_1))])] k kp = c (fun b0_0 b0_1 => XL0 k kp (mL0 b0_0 b0_1)) b0_0 b0_1 (fun z0_0 z0_1 => k (.tup []) [(.box 57 [(.v (.string z0_0)), (.v (.int .i64 z0_1))])]) :=
  Eq.mp (by kernel_rfl) ((funW_run (AG := none'') body_is (c_ag k kp) [(.ptr 0 0)] [(.box 57 [(.v (.string b0_0)), (.v (.int .i64 b0_1))])]).trans (c_c k kp (JJ k kp) (LL k kp) b0_0 b0_1))
theorem f_eq (k kp : KT) (b0_0 : BA) (b0_1 : Int) : funW cfg Tryd.f23 [(.ptr 0 0)] [(.box 57 [(.v (.string b0_0)), (.v (.int .i64 b0_1))])] k kp = f b0_0 b0_1 (fun z0_0 z0_1 => k (.tup []) [(.box 57 [(.v (.string z0_0)), (.v (.int .i64 z0_1))])]) := by
  rw [f_def, c_raw]; simp only [l0_eq]; first | done | rfl
noncomputable def ent0 : Entry := fun args blks k _ => match args, blks with
  | [d0], [e0] => aPtr 0 0 d0 (aBox 57 e0 fun l => aCons l fun e0_0 l => aCons l fun e0_1 l => aNil l (aStr e0_0 fun b0_0 => aInt IntKind.i64 e0_1 fun b0_1 => f b0_0 b0_1 (fun z0_0 z0_1 => k (.tup []) [(.box 57 [(.v (.string z0_0)), (.v (.int .i64 z0_1))])])))
  | _, _ => False
noncomputable def ent : Entry := fun args blks k kp => ent0 (convB [.no] args) blks k kp
theorem ok : EntOk Tryd.prog 49 0 23 ent := by
  refine EntOk.convB (EntOk.of (funW_ok (cfg := cfg) (tyOk_of rfl rfl tyL_ok) (eqOk_of (P := Tryd.prog) rfl rfl (by kernel_rfl)) mixed_ok (tab_ok ?_) Tryd.func23 (by rfl) (by rfl)) ?_) _
  · intro p hp
    simp only [List.mem_cons, List.not_mem_nil, or_false] at hp
    rcases hp with rfl | rfl
    · exact N36.ok
    · exact N37.ok
  · intro args blks k kp h k' kp'
    match args, blks, h with
    | [d0], [e0], h =>
    dsimp only [ent0] at h
    have h9 := aPtr_elim h; clear h; obtain ⟨rfl, h⟩ := h9
    have h9 := aBox_elim h; clear h; obtain ⟨_, rfl, h⟩ := h9
    have h9 := aCons_elim h; clear h; obtain ⟨e0_0, _, rfl, h⟩ := h9
    have h9 := aCons_elim h; clear h; obtain ⟨e0_1, _, rfl, h⟩ := h9
    have h9 := aNil_elim h; clear h; obtain ⟨rfl, h⟩ := h9
    have h9 := aStr_elim h; clear h; obtain ⟨b0_0, rfl, h⟩ := h9
    have h9 := aInt_elim h; clear h; obtain ⟨b0_1, rfl, h⟩ := h9
    exact (f_eq k' kp' b0_0 b0_1).symm
end N23
end Go.Proofs.Ye

namespace Go.Proofs.Ye
open Go Go.Aw Go.Proofs
set_option maxRecDepth 100000
set_option maxHeartbeats 4000000
namespace N24
noncomputable def cfg : Cfg := { P := Tryd.prog, tf := 49, tw := 0, ty := tys, E := tab [(38, N38.ent)], atSeq := tab [], atLoop := tab [], outs := [], eqT := tab [], bT := tab [] }
noncomputable def body : Code := bodyOf Tryd.f24
def c (b0_0 : BA) (b0_1 : Int) (k : Int → BA → Int → Int → Int → Int → Int → BA → Int → Prop) : Prop :=
  (N38.f b0_0 b0_1 (fun (y0_0 : BA) (y1_0 : Int) (y2_0 : Int) => (k (3 : Int) y0_0 (0 : Int) (0 : Int) b0_1 y1_0 y2_0 b0_0 b0_1)))
def f0 (b0_0 : BA) (b0_1 : Int) (k : Int → BA → Int → Int → Int → Int → Int → BA → Int → Prop) : Prop := c b0_0 b0_1 k
theorem f_ex : ∃ g, g = f0 := ⟨_, rfl⟩
noncomputable def f := Classical.choose f_ex
theorem f_def : f = f0 := Classical.choose_spec f_ex
noncomputable def JJ (k kp : KT) : Nat → St → Prop := pick none' []
noncomputable def LL (k kp : KT) : Nat → St → Prop := pick none' []
theorem c_c (k kp : KT) (J L : Nat → St → Prop) (b0_0 : BA) (b0_1 : Int) : runC cfg 1000001 J L none'' [] body (topK cfg Tryd.f24 k kp) (st0 Tryd.f24 [(.ptr 0 0)] [(.box 57 [(.v (.string b0_0)), (.v (.int .i64 b0_1))])]) = c b0_0 b0_1 (fun y0_0 y0_1 y0_2 y0_3 y0_4 y1 y2 z0_0 z0_1 => k (.tup [(.agg [(.v (.int .i64 y0_0)), (.v (.string y0_1)), (.v (.int .i64 y0_2)), (.v (.int .i64 y0_3)), (.v (.int .i64 y0_4))]), (.v (.int .i64 y1)), (.v (.int .i64 y2))]) [(.box 57 [(.v (.string z0_0)), (.v (.int .i64 z0_1))])]) := by kernel_rfl
theorem c_ag (k kp : KT) : agPL cfg 1000001 (JJ k kp) (LL k kp) [] body = agPR cfg 1000001 none'' [] body (topK cfg Tryd.f24 k kp) := by kernel_rfl
theorem body_is : Tryd.f24.body = some body := by kernel_rfl
theorem c_raw (k kp : KT) (b0_0 : BA) (b0_1 : Int) : funW cfg Tryd.f24 [(.ptr 0 0)] [(.box 57 [(.v (.string b0_0)), (.v (.int .i64 b0_1))])] k kp = c b0_0 b0_1 (fun y0_0 y0_1 y0_2 y0_3 y0_4 y1 y2 z0_0 z0_1 => k (.tup [(.agg [(.v (.int .i64 y0_0)), (.v (.string y0_1)), (.v (.int .i64 y0_2)), (.v (.int .i64 y0_3)), (.v (.int .i64 y0_4))]), (.v (.int .i64 y1)), (.v (.int .i64 y2))]) [(.box 57 [(.v (.string z0_0)), (.v (.int .i64 z0_1))])]) :=
  Eq.mp (by kernel_rfl) ((funW_run (AG := none'') body_is (c_ag k kp) [(.ptr 0 0)] [(.box 57 [(.v (.string b0_0)), (.v (.int .i64 b0_1))])]).trans (c_c k kp (JJ k kp) (LL k kp) b0_0 b0_1))
theorem f_eq (k kp : KT) (b0_0 : BA) (b0_1 : Int) : funW cfg Tryd.f24 [(.ptr 0 0)] [(.box 57 [(.v (.string b0_0)), (.v (.int .i64 b0_1))])] k kp = f b0_0 b0_1 (fun y0_0 y0_1 y0_2 y0_3 y0_4 y1 y2 z0_0 z0_1 => k (.tup [(.agg [(.v (.int .i64 y0_0)), (.v (.string y0_1)), (.v (.int .i64 y0_2)), (.v (.int .i64 y0_3)), (.v (.int .i64 y0_4))]), (.v (.int .i64 y1)), (.v (.int .i64 y2))]) [(.box 57 [(.v (.string z0_0)), (.v (.int .i64 z0_1))])]) := by
  rw [f_def, c_raw]; rfl
noncomputable def ent0 : Entry := fun args blks k _ => match args, blks with
  | [d0], [e0] => aPtr 0 0 d0 (aBox 57 e0 fun l => aCons l fun e0_0 l => aCons l fun e0_1 l => aNil l (aStr e0_0 fun b0_0 => aInt IntKind.i64 e0_1 fun b0_1 => f b0_0 b0_1 (fun y0_0 y0_1 y0_2 y0_3 y0_4 y1 y2 z0_0 z0_1 => k (.tup [(.agg [(.v (.int .i64 y0_0)), (.v (.string y0_1)), (.v (.int .i64 y0_2)), (.v (.int .i64 y0_3)), (.v (.int .i64 y0_4))]), (.v (.int .i64 y1)), (.v (.int .i64 y2))]) [(.box 57 [(.v (.string z0_0)), (.v (.int .i64 z0_1))])])))
  | _, _ => False
noncomputable def ent : Entry := fun args blks k kp => ent0 (convB [.no] args) blks k kp
theorem ok : EntOk Tryd.prog 49 0 24 ent := by
  refine EntOk.convB (EntOk.of (funW_ok (cfg := cfg) (tyOk_of rfl rfl tyL_ok) (eqOk_of (P := Tryd.prog) rfl rfl (by kernel_rfl)) mixed_ok (tab_ok ?_) Tryd.func24 (by rfl) (by rfl)) ?_) _
  · intro p hp
    simp only [List.mem_cons, List.not_mem_nil, or_false] at hp
    rcases hp with rfl
    · exact N38.ok
  · intro args blks k kp h k' kp'
    match args, blks, h with
    | [d0], [e0], h =>
    dsimp only [ent0] at h
    have h9 := aPtr_elim h; clear h; obtain ⟨rfl, h⟩ := h9
    have h9 := aBox_elim h; clear h; obtain ⟨_, rfl, h⟩ := h9
    have h9 := aCons_elim h; clear h; obtain ⟨e0_0, _, rfl, h⟩ := h9
    have h9 := aCons_elim h; clear h; obtain ⟨e0_1, _, rfl, h⟩ := h9
    have h9 := aNil_elim h; clear h; obtain ⟨rfl, h⟩ := h9
    have h9 := aStr_elim h; clear h; obtain ⟨b0_0, rfl, h⟩ := h9
    have h9 := aInt_elim h; clear h; obtain ⟨b0_1, rfl, h⟩ := h9
    exact (f_eq k' kp' b0_0 b0_1).symm
end N24
end Go.Proofs.Ye

namespace Go.Proofs.Ye
open Go Go.Aw Go.Proofs
set_option maxRecDepth 100000
set_option maxHeartbeats 4000000
namespace N39
noncomputable def cfg : Cfg := { P := Tryd.prog, tf := 49, tw := 0, ty := tys, E := tab [], atSeq := tab [], atLoop := tab [], outs := [], eqT := tab [], bT := tab [] }
noncomputable def body : Code := bodyOf Tryd.f39
def c (x0 : Int) (k : Bool → Prop) : Prop :=
  (br (decide (x0 ≥ (48 : Int))) (k (decide (x0 ≤ (57 : Int)))) (k false))
def f0 (x0 : Int) (k : Bool → Prop) : Prop := c x0 k
theorem f_ex : ∃ g, g = f0 := ⟨_, rfl⟩
noncomputable def f := Classical.choose f_ex
theorem f_def : f = f0 := Classical.choose_spec f_ex
noncomputable def JJ (k kp : KT) : Nat → St → Prop := pick none' []
noncomputable def LL (k kp : KT) : Nat → St → Prop := pick none' []
theorem c_c (k kp : KT) (J L : Nat → St → Prop) (x0 : Int) : runC cfg 1000001 J L none'' [] body (topK cfg Tryd.f39 k kp) (st0 Tryd.f39 [(.v (.int IntKind.u8 x0))] []) = c x0 (fun y0 => k (.v (.bool y0)) []) := by kernel_rfl
theorem c_ag (k kp : KT) : agPL cfg 1000001 (JJ k kp) (LL k kp) [] body = agPR cfg 1000001 none'' [] body (topK cfg Tryd.f39 k kp) := by kernel_rfl
theorem body_is : Tryd.f39.body = some body := by kernel_rfl
theorem c_raw (k kp : KT) (x0 : Int) : funW cfg Tryd.f39 [(.v (.int IntKind.u8 x0))] [] k kp = c x0 (fun y0 => k (.v (.bool y0)) []) :=
  Eq.mp (by kernel_rfl) ((funW_run (AG := none'') body_is (c_ag k kp) [(.v (.int IntKind.u8 x0))] []).trans (c_c k kp (JJ k kp) (LL k kp) x0))
theorem f_eq (k kp : KT) (x0 : Int) : funW cfg Tryd.f39 [(.v (.int IntKind.u8 x0))] [] k kp = f x0 (fun y0 => k (.v (.bool y0)) []) := by
  rw [f_def, c_raw]; rfl
noncomputable def ent0 : Entry := fun args blks k _ => match args, blks with
  | [d0], [] => aInt IntKind.u8 d0 fun x0 => f x0 (fun y0 => k (.v (.bool y0)) [])
  | _, _ => False
noncomputable def ent : Entry := fun args blks k kp => ent0 (convB [.no] args) blks k kp
theorem ok : EntOk Tryd.prog 49 0 39 ent := by
  refine EntOk.convB (EntOk.of (funW_ok (cfg := cfg) (tyOk_of rfl rfl tyL_ok) (eqOk_of (P := Tryd.prog) rfl rfl (by kernel_rfl)) mixed_ok (tab_ok ?_) Tryd.func39 (by rfl) (by rfl)) ?_) _
  · intro p hp
    cases hp
  · intro args blks k kp h k' kp'
    match args, blks, h with
    | [d0], [], h =>
    dsimp only [ent0] at h
    have h9 := aInt_elim h; clear h; obtain ⟨x0, rfl, h⟩ := h9
    exact (f_eq k' kp' x0).symm
end N39
end Go.Proofs.Ye

namespace Go.Proofs.Ye
open Go Go.Aw Go.Proofs
set_option maxRecDepth 100000
set_option maxHeartbeats 4000000
namespace N64
noncomputable def cfg : Cfg := { P := Tryd.prog, tf := 49, tw := 0, ty := tys, E := tab [], atSeq := tab [], atLoop := tab [], outs := [], eqT := tab [], bT := tab [] }
noncomputable def body : Code := bodyOf Tryd.f64
def c (x1 : Int) (b0_0 : BA) (b0_1 : Int) (k : Int → BA → Int → Prop) : Prop :=
  (br (decide ((IntKind.i64.wrap (b0_1 + x1)) < ((((b0_0).size : Nat) : Int)))) ((inB 0 (IntKind.i64.wrap (b0_1 + x1)) ((((b0_0).size : Nat) : Int) - 1)) ∧ (k (byteAt b0_0 (IntKind.i64.wrap (b0_1 + x1))) b0_0 b0_1)) (k (0 : Int) b0_0 b0_1))
def f0 (x1 : Int) (b0_0 : BA) (b0_1 : Int) (k : Int → BA → Int → Prop) : Prop := c x1 b0_0 b0_1 k
theorem f_ex : ∃ g, g = f0 := ⟨_, rfl⟩
noncomputable def f := Classical.choose f_ex
theorem f_def : f = f0 := Classical.choose_spec f_ex
noncomputable def JJ (k kp : KT) : Nat → St → Prop := pick none' []
noncomputable def LL (k kp : KT) : Nat → St → Prop := pick none' []
theorem c_c (k kp : KT) (J L : Nat → St → Prop) (x1 : Int) (b0_0 : BA) (b0_1 : Int) : runC cfg 1000001 J L none'' [] body (topK cfg Tryd.f64 k kp) (st0 Tryd.f64 [(.ptr 0 0), (.v (.int .i64 x1))] [(.box 57 [(.v (.string b0_0)), (.v (.int .i64 b0_1))])]) = c x1 b0_0 b0_1 (fun y0 z0_0 z0_1 => k (.v (.int IntKind.u8 y0)) [(.box 57 [(.v (.string z0_0)), (.v (.int .i64 z0_1))])]) := by kernel_rfl
theorem c_ag (k kp : KT) : agPL cfg 1000001 (JJ k kp) (LL k kp) [] body = agPR cfg 1000001 none'' [] body (topK cfg Tryd.f64 k kp) := by kernel_rfl
theorem body_is : Tryd.f64.body = some body := by kernel_rfl
theorem c_raw (k kp : KT) (x1 : Int) (b0_0 : BA) (b0_1 : Int) : funW cfg Tryd.f64 [(.ptr 0 0), (.v (.int .i64 x1))] [(.box 57 [(.v (.string b0_0)), (.v (.int .i64 b0_1))])] k kp = c x1 b0_0 b0_1 (fun y0 z0_0 z0_1 => k (.v (.int IntKind.u8 y0)) [(.box 57 [(.v (.string z0_0)), (.v (.int .i64 z0_1))])]) :=
  Eq.mp (by kernel_rfl) ((funW_run (AG := none'') body_is (c_ag k kp) [(.ptr 0 0), (.v (.int .i64 x1))] [(.box 57 [(.v (.string b0_0)), (.v (.int .i64 b0_1))])]).trans (c_c k kp (JJ k kp) (LL k kp) x1 b0_0 b0_1))
theorem f_eq (k kp : KT) (x1 : Int) (b0_0 : BA) (b0_1 : Int) : funW cfg Tryd.f64 [(.ptr 0 0), (.v (.int .i64 x1))] [(.box 57 [(.v (.string b0_0)), (.v (.int .i64 b0_1))])] k kp = f x1 b0_0 b0_1 (fun y0 z0_0 z0_1 => k (.v (.int IntKind.u8 y0)) [(.box 57 [(.v (.string z0_0)), (.v (.int .i64 z0_1))])]) := by
  rw [f_def, c_raw]; rfl
noncomputable def ent0 : Entry := fun args blks k _ => match args, blks with
  | [d0, d1], [e0] => aPtr 0 0 d0 (aInt IntKind.i64 d1 fun x1 => aBox 57 e0 fun l => aCons l fun e0_0 l => aCons l fun e0_1 l => aNil l (aStr e0_0 fun b0_0 => aInt IntKind.i64 e0_1 fun b0_1 => f x1 b0_0 b0_1 (fun y0 z0_0 z0_1 => k (.v (.int IntKind.u8 y0)) [(.box 57 [(.v (.string z0_0)), (.v (.int .i64 z0_1))])])))
  | _, _ => False
noncomputable def ent : Entry := fun args blks k kp => ent0 (convB [.no, .no] args) blks k kp
theorem ok : EntOk Tryd.prog 49 0 64 ent := by
  refine EntOk.convB (EntOk.of (funW_ok (cfg := cfg) (tyOk_of rfl rfl tyL_ok) (eqOk_of (P := Tryd.prog) rfl rfl (by kernel_rfl)) mixed_ok (tab_ok ?_) Tryd.func64 (by rfl) (by rfl)) ?_) _
  · intro p hp
    cases hp
  · intro args blks k kp h k' kp'
    match args, blks, h with
    | [d0, d1], [e0], h =>
    dsimp only [ent0] at h
    have h9 := aPtr_elim h; clear h; obtain ⟨rfl, h⟩ := h9
    have h9 := aInt_elim h; clear h; obtain ⟨x1, rfl, h⟩ := h9
    have h9 := aBox_elim h; clear h; obtain ⟨_, rfl, h⟩ := h9
    have h9 := aCons_elim h; clear h; obtain ⟨e0_0, _, rfl, h⟩ := h9
    have h9 := aCons_elim h; clear h; obtain ⟨e0_1, _, rfl, h⟩ := h9
    have h9 := aNil_elim h; clear h; obtain ⟨rfl, h⟩ := h9
    have h9 := aStr_elim h; clear h; obtain ⟨b0_0, rfl, h⟩ := h9
    have h9 := aInt_elim h; clear h; obtain ⟨b0_1, rfl, h⟩ := h9
    exact (f_eq k' kp' x1 b0_0 b0_1).symm
end N64
end Go.Proofs.Ye

namespace Go.Proofs.Ye
open Go Go.Aw Go.Proofs
set_option maxRecDepth 100000
set_option maxHeartbeats 4000000
namespace N60
noncomputable def cfg : Cfg := { P := Tryd.prog, tf := 49, tw := 0, ty := tys, E := tab [(64, N64.ent), (39, N39.ent), (73, N73.ent)], atSeq := tab [(2000008, ⟨[(0, .keep), (1, .keep), (8, .keep), (9, .keep), (10, .keep), (12, .keep), (63, .keep)]⟩), (9, ⟨[(0, .keep), (1, .keep), (8, .keep), (9, .keep), (10, .keep)]⟩)], atLoop := tab [], outs := [], eqT := tab [], bT := tab [] }
noncomputable def body : Code := bodyOf Tryd.f60
def j2000008 (j9 : Int → Int → Int → Int → BA → Int → Prop) (x1 x8 : Int) (x9 x10 x12 : Int) (x63 : Bool) (b0_0 : BA) (b0_1 : Int) (k : Int → Int → Int → BA → Int → Prop) : Prop :=
  (br x63 (k (0 : Int) x12 (0 : Int) b0_0 b0_1) (j9 x1 x8 x9 x10 b0_0 b0_1))
def j9 (x1 x8 : Int) (x9 x10 : Int) (b0_0 : BA) (b0_1 : Int) (k : Int → Int → Int → BA → Int → Prop) : Prop :=
  (k (IntKind.i64.wrap (0 - x8)) (IntKind.i64.wrap ((IntKind.i64.wrap ((IntKind.i64.wrap (b0_1 + x1)) + x9)) - (1 : Int))) x10 b0_0 b0_1)
def c (j2000008 : Int → Int → Int → Int → Int → Bool → BA → Int → Prop) (j9 : Int → Int → Int → Int → BA → Int → Prop) (x1 : Int) (b0_0 : BA) (b0_1 : Int) (k : Int → Int → Int → BA → Int → Prop) : Prop :=
  (N64.f x1 b0_0 b0_1 (fun (y0_0 : Int) (z0_0_0 : BA) (z0_1_0 : Int) => (N39.f y0_0 (fun (y0_1 : Bool) => (br (!y0_1) (k (0 : Int) (0 : Int) (12 : Int) z0_0_0 z0_1_0) ((inB (IntKind.i64.wrap (z0_1_0 + x1)) (((z0_0_0).size : Nat) : Int) (((z0_0_0).size : Nat) : Int)) ∧ ((inB 0 (mmv false (((((ByteArray.extract z0_0_0 (Int.toNat (IntKind.i64.wrap (z0_1_0 + x1))) (Int.toNat (((z0_0_0).size : Nat) : Int)))).size : Nat) : Int)) (24 : Int)) ((((ByteArray.extract z0_0_0 (Int.toNat (IntKind.i64.wrap (z0_1_0 + x1))) (Int.toNat (((z0_0_0).size : Nat) : Int)))).size : Nat) : Int)) ∧ ((((ByteArray.mk #[45])).size + ((ByteArray.extract (ByteArray.extract z0_0_0 (Int.toNat (IntKind.i64.wrap (z0_1_0 + x1))) (Int.toNat (((z0_0_0).size : Nat) : Int))) (Int.toNat 0) (Int.toNat (mmv false (((((ByteArray.extract z0_0_0 (Int.toNat (IntKind.i64.wrap (z0_1_0 + x1))) (Int.toNat (((z0_0_0).size : Nat) : Int)))).size : Nat) : Int)) (24 : Int))))).size ≤ 9223372036854775807) ∧ (N73.f ((ByteArray.mk #[45]) ++ (ByteArray.extract (ByteArray.extract z0_0_0 (Int.toNat (IntKind.i64.wrap (z0_1_0 + x1))) (Int.toNat (((z0_0_0).size : Nat) : Int))) (Int.toNat 0) (Int.toNat (mmv false (((((ByteArray.extract z0_0_0 (Int.toNat (IntKind.i64.wrap (z0_1_0 + x1))) (Int.toNat (((z0_0_0).size : Nat) : Int)))).size : Nat) : Int)) (24 : Int))))) (0 : Int) (fun (y0_2 y1_2 : Int) (y2_2 : Int) => (br (y0_2 == (0 : Int)) (N73.f z0_0_0 (IntKind.i64.wrap (z0_1_0 + x1)) (fun (y0_3 y1_3 : Int) (y2_3 : Int) => (br (y2_3 == (0 : Int)) (j2000008 x1 y0_2 y1_2 y2_2 y1_3 (y0_3 == (0 : Int)) z0_0_0 z0_1_0) (j2000008 x1 y0_2 y1_2 y2_2 y1_3 false z0_0_0 z0_1_0)))) (j9 x1 y0_2 y1_2 y2_2 z0_0_0 z0_1_0))))))))))))
def j9' (x1 x8 : Int) (x9 x10 : Int) (b0_0 : BA) (b0_1 : Int) (k : Int → Int → Int → BA → Int → Prop) : Prop := j9 x1 x8 x9 x10 b0_0 b0_1 k
def j2000008' (x1 x8 : Int) (x9 x10 x12 : Int) (x63 : Bool) (b0_0 : BA) (b0_1 : Int) (k : Int → Int → Int → BA → Int → Prop) : Prop := j2000008 (fun x1 x8 x9 x10 b0_0 b0_1 => j9' x1 x8 x9 x10 b0_0 b0_1 k) x1 x8 x9 x10 x12 x63 b0_0 b0_1 k
def f0 (x1 : Int) (b0_0 : BA) (b0_1 : Int) (k : Int → Int → Int → BA → Int → Prop) : Prop := c (fun x1 x8 x9 x10 x12 x63 b0_0 b0_1 => j2000008' x1 x8 x9 x10 x12 x63 b0_0 b0_1 k) (fun x1 x8 x9 x10 b0_0 b0_1 => j9' x1 x8 x9 x10 b0_0 b0_1 k) x1 b0_0 b0_1 k
theorem f_ex : ∃ g, g = f0 := ⟨_, rfl⟩
noncomputable def f := Classical.choose f_ex
theorem f_def : f = f0 := Classical.choose_spec f_ex
def m2000008 (x1 x8 : Int) (x9 x10 x12 : Int) (x63 : Bool) (b0_0 : BA) (b0_1 : Int) : St := { tmps := mkT 77 0 [(0, (.ptr 0 0)), (1, (.v (.int .i64 x1))), (8, (.v (.int .i64 x8))), (9, (.v (.int .i64 x9))), (10, (.v (.int .i64 x10))), (12, (.v (.int .i64 x12))), (63, (.v (.bool x63)))], hp := [(.box 57 [(.v (.string b0_0)), (.v (.int .i64 b0_1))])], m := 1 }
def m9 (x1 x8 : Int) (x9 x10 : Int) (b0_0 : BA) (b0_1 : Int) : St := { tmps := mkT 77 0 [(0, (.ptr 0 0)), (1, (.v (.int .i64 x1))), (8, (.v (.int .i64 x8))), (9, (.v (.int .i64 x9))), (10, (.v (.int .i64 x10)))], hp := [(.box 57 [(.v (.string b0_0)), (.v (.int .i64 b0_1))])], m := 1 }
noncomputable def X2000008 (k kp : KT) : St → Prop := atP cfg (pick none' []) [1, 1, 1, 1, 0, 1, 0, 1, 1] body (topK cfg Tryd.f60 k kp)
noncomputable def X9 (k kp : KT) : St → Prop := atP cfg (pick none' []) [1, 1, 1, 1, 1] body (topK cfg Tryd.f60 k kp)
noncomputable def JJ (k kp : KT) : Nat → St → Prop := pick none' [(2000008, X2000008 k kp), (9, X9 k kp)]
noncomputable def LL (k kp : KT) : Nat → St → Prop := pick none' []
theorem j9_c (k kp : KT) (J L : Nat → St → Prop) (x1 x8 : Int) (x9 x10 : Int) (b0_0 : BA) (b0_1 : Int) : runC cfg 9 J L (pick none' []) [1, 1, 1, 1, 1] body (topK cfg Tryd.f60 k kp) (m9 x1 x8 x9 x10 b0_0 b0_1) = j9 x1 x8 x9 x10 b0_0 b0_1 (fun y0 y1 y2 z0_0 z0_1 => k (.tup [(.v (.int .i64 y0)), (.v (.int .i64 y1)), (.v (.int .i64 y2))]) [(.box 57 [(.v (.string z0_0)), (.v (.int .i64 z0_1))])]) := by kernel_rfl
theorem j9_ag (k kp : KT) : agPL cfg 9 (JJ k kp) (LL k kp) [1, 1, 1, 1, 1] body = agPR cfg 9 (pick none' []) [1, 1, 1, 1, 1] body (topK cfg Tryd.f60 k kp) := by kernel_rfl
theorem j9_raw (k kp : KT) (x1 x8 : Int) (x9 x10 : Int) (b0_0 : BA) (b0_1 : Int) : X9 k kp (m9 x1 x8 x9 x10 b0_0 b0_1) = j9 x1 x8 x9 x10 b0_0 b0_1 (fun y0 y1 y2 z0_0 z0_1 => k (.tup [(.v (.int .i64 y0)), (.v (.int .i64 y1)), (.v (.int .i64 y2))]) [(.box 57 [(.v (.string z0_0)), (.v (.int .i64 z0_1))])]) :=
  Eq.mp (by kernel_rfl) ((atP_run (j9_ag k kp) (m9 x1 x8 x9 x10 b0_0 b0_1)).trans (j9_c k kp (JJ k kp) (LL k kp) x1 x8 x9 x10 b0_0 b0_1))
theorem j9_eq (k kp : KT) (x1 x8 : Int) (x9 x10 : Int) (b0_0 : BA) (b0_1 : Int) : X9 k kp (m9 x1 x8 x9 x10 b0_0 b0_1) = j9' x1 x8 x9 x10 b0_0 b0_1 (fun y0 y1 y2 z0_0 z0_1 => k (.tup [(.v (.int .i64 y0)), (.v (.int .i64 y1)), (.v (.int .i64 y2))]) [(.box 57 [(.v (.string z0_0)), (.v (.int .i64 z0_1))])]) := by
  rw [j9_raw]; rfl
theorem j2000008_c (k kp : KT) (J L : Nat → St → Prop) (x1 x8 : Int) (x9 x10 x12 : Int) (x63 : Bool) (b0_0 : BA) (b0_1 : Int) : runC cfg 2000008 J L (pick none' []) [1, 1, 1, 1, 0, 1, 0, 1, 1] body (topK cfg Tryd.f60 k kp) (m2000008 x1 x8 x9 x10 x12 x63 b0_0 b0_1) = j2000008 (fun x1 x8 x9 x10 b0_0 b0_1 => J 9 (m9 x1 x8 x9 x10 b0_0 b0_1)) x1 x8 x9 x10 x12 x63 b0_0 b0_1 (fun y0 y1 y2 z0_0 z0_1 => k (.tup [(.v (.int .i64 y0)), (.v (.int .i64 y1)), (.v (.int .i64 y2))]) [(.box 57 [(.v (.string z0_0)), (.v (.int .i64 z0_1))])]) := by kernel_rfl
theorem j2000008_ag (k kp : KT) : agPL cfg 2000008 (JJ k kp) (LL k kp) [1, 1, 1, 1, 0, 1, 0, 1, 1] body = agPR cfg 2000008 (pick none' []) [1, 1, 1, 1, 0, 1, 0, 1, 1] body (topK cfg Tryd.f60 k kp) := by kernel_rfl
theorem j2000008_raw (k kp : KT) (x1 x8 : Int) (x9 x10 x12 : Int) (x63 : Bool) (b0_0 : BA) (b0_1 : Int) : X2000008 k kp (m2000008 x1 x8 x9 x10 x12 x63 b0_0 b0_1) = j2000008 (fun x1 x8 x9 x10 b0_0 b0_1 => X9 k kp (m9 x1 x8 x9 x10 b0_0 b0_1)) x1 x8 x9 x10 x12 x63 b0_0 b0_1 (fun y0 y1 y2 z0_0 z0_1 => k (.tup [(.v (.int .i64 y0)), (.v (.int .i64 y1)), (.v (.int .i64 y2))]) [(.box 57 [(.v (.string z0_0)), (.v (.int .i64 z0_1))])]) :=
  Eq.mp (by kernel_rfl) ((atP_run (j2000008_ag k kp) (m2000008 x1 x8 x9 x10 x12 x63 b0_0 b0_1)).trans (j2000008_c k kp (JJ k kp) (LL k kp) x1 x8 x9 x10 x12 x63 b0_0 b0_1))
theorem j2000008_eq (k kp : KT) (x1 x8 : Int) (x9 x10 x12 : Int) (x63 : Bool) (b0_0 : BA) (b0_1 : Int) : X2000008 k kp (m2000008 x1 x8 x9 x10 x12 x63 b0_0 b0_1) = j2000008' x1 x8 x9 x10 x12 x63 b0_0 b0_1 (fun y0 y1 y2 z0_0 z0_1 => k (.tup [(.v (.int .i64 y0)), (.v (.int .i64 y1)), (.v (.int .i64 y2))]) [(.box 57 [(.v (.string z0_0)), (.v (.int .i64 z0_1))])]) := by
  rw [j2000008_raw]; simp only [j9_eq]; first | done | rfl
theorem c_c (k kp : KT) (J L : Nat → St → Prop) (x1 : Int) (b0_0 : BA) (b0_1 : Int) : runC cfg 1000001 J L none'' [] body (topK cfg Tryd.f60 k kp) (st0 Tryd.f60 [(.ptr 0 0), (.v (.int .i64 x1))] [(.box 57 [(.v (.string b0_0)), (.v (.int .i64 b0_1))])]) = c (fun x1 x8 x9 x10 x12 x63 b0_0 b0_1 => J 2000008 (m2000008 x1 x8 x9 x10 x12 x63 b0_0 b0_1)) (fun x1 x8 x9 x10 b0_0 b0_1 => J 9 (m9 x1 x8 x9 x10 b0_0 b0_1)) x1 b0_0 b0_1 (fun y0 y1 y2 z0_0 z0_1 => k (.tup [(.v (.int .i64 y0)), (.v (.int .i64 y1)), (.v (.int .i64 y2))]) [(.box 57 [(.v (.string z0_0)), (.v (.int .i64 z0_1))])]) := by kernel_rfl
theorem c_ag (k kp : KT) : agPL cfg 1000001 (JJ k kp) (LL k kp) [] body = agPR cfg 1000001 none'' [] body (topK cfg Tryd.f60 k kp) := by kernel_rfl
theorem body_is : Tryd.f60.body = some body := by kernel_rfl
theorem c_raw (k kp : KT) (x1 : Int) (b0_0 : BA) (b0_1 : Int) : funW cfg Tryd.f60 [(.ptr 0 0), (.v (.int .i64 x1))] [(.box 57 [(.v (.string b0_0)), (.v (.int .i64 b0_1))])] k kp = c (fun x1 x8 x9 x10 x12 x63 b0_0 b0_1 => X2000008 k kp (m2000008 x1 x8 x9 x10 x12 x63 b0_0 b0_1)) (fun x1 x8 x9 x10 b0_0 b0_1 => X9 k kp (m9 x1 x8 x9 x10 b0_0 b0_1)) x1 b0_0 b0_1 (fun y0 y1 y2 z0_0 z0_1 => k (.tup [(.v (.int .i64 y0)), (.v (.int .i64 y1)), (.v (.int .i64 y2))]) [(.box 57 [(.v (.string z0_0)), (.v (.int .i64 z0_1))])]) :=
  Eq.mp (by kernel_rfl) ((funW_run (AG := none'') body_is (c_ag k kp) [(.ptr 0 0), (.v (.int .i64 x1))] [(.box 57 [(.v (.string b0_0)), (.v (.int .i64 b0_1))])]).trans (c_c k kp (JJ k kp) (LL k kp) x1 b0_0 b0_1))
theorem f_eq (k kp : KT) (x1 : Int) (b0_0 : BA) (b0_1 : Int) : funW cfg Tryd.f60 [(.ptr 0 0), (.v (.int .i64 x1))] [(.box 57 [(.v (.string b0_0)), (.v (.int .i64 b0_1))])] k kp = f x1 b0_0 b0_1 (fun y0 y1 y2 z0_0 z0_1 => k (.tup [(.v (.int .i64 y0)), (.v (.int .i64 y1)), (.v (.int .i64 y2))]) [(.box 57 [(.v (.string z0_0)), (.v (.int .i64 z0_1))])]) := by
  rw [f_def, c_raw]; simp only [j2000008_eq, j9_eq]; first | done | rfl
noncomputable def ent0 : Entry := fun args blks k _ => match args, blks with
  | [d0, d1], [e0] => aPtr 0 0 d0 (aInt IntKind.i64 d1 fun x1 => aBox 57 e0 fun l => aCons l fun e0_0 l => aCons l fun e0_1 l => aNil l (aStr e0_0 fun b0_0 => aInt IntKind.i64 e0_1 fun b0_1 => f x1 b0_0 b0_1 (fun y0 y1 y2 z0_0 z0_1 => k (.tup [(.v (.int .i64 y0)), (.v (.int .i64 y1)), (.v (.int .i64 y2))]) [(.box 57 [(.v (.string z0_0)), (.v (.int .i64 z0_1))])])))
  | _, _ => False
noncomputable def ent : Entry := fun args blks k kp => ent0 (convB [.no, .no] args) blks k kp
theorem ok : EntOk Tryd.prog 49 0 60 ent := by
  refine EntOk.convB (EntOk.of (funW_ok (cfg := cfg) (tyOk_of rfl rfl tyL_ok) (eqOk_of (P := Tryd.prog) rfl rfl (by kernel_rfl)) mixed_ok (tab_ok ?_) Tryd.func60 (by rfl) (by rfl)) ?_) _
  · intro p hp
    simp only [List.mem_cons, List.not_mem_nil, or_false] at hp
    rcases hp with rfl | rfl | rfl
    · exact N64.ok
    · exact N39.ok
    · exact N73.ok
  · intro args blks k kp h k' kp'
    match args, blks, h with
    | [d0, d1], [e0], h =>
    dsimp only [ent0] at h
    have h9 := aPtr_elim h; clear h; obtain ⟨rfl, h⟩ := h9
    have h9 := aInt_elim h; clear h; obtain ⟨x1, rfl, h⟩ := h9
    have h9 := aBox_elim h; clear h; obtain ⟨_, rfl, h⟩ := h9
    have h9 := aCons_elim h; clear h; obtain ⟨e0_0, _, rfl, h⟩ := h9
    have h9 := aCons_elim h; clear h; obtain ⟨e0_1, _, rfl, h⟩ := h9
    have h9 := aNil_elim h; clear h; obtain ⟨rfl, h⟩ := h9
    have h9 := aStr_elim h; clear h; obtain ⟨b0_0, rfl, h⟩ := h9
    have h9 := aInt_elim h; clear h; obtain ⟨b0_1, rfl, h⟩ := h9
    exact (f_eq k' kp' x1 b0_0 b0_1).symm
end N60
end Go.Proofs.Ye

namespace Go.Proofs.Ye
open Go Go.Aw Go.Proofs
set_option maxRecDepth 100000
set_option maxHeartbeats 4000000
namespace N61
noncomputable def cfg : Cfg := { P := Tryd.prog, tf := 49, tw := 0, ty := tys, E := tab [], atSeq := tab [(4, ⟨[(4, .keep), (6, .keep)]⟩)], atLoop := tab [], outs := [], eqT := tab [], bT := tab [] }
noncomputable def body : Code := bodyOf Tryd.f61
def j4 (b0_0 : BA) (b0_1 b1_0 : Int) (b1_1 : BA) (b1_2 b1_3 : Int) (b1_4 b2_0 : Int) (b2_1 : BA) (b2_2 b2_3 b2_4 : Int) (k : Int → BA → Int → Int → Int → BA → Int → Prop) : Prop :=
  (k b1_0 b1_1 b1_2 b1_3 b1_4 b0_0 b0_1)
def c (j4 : BA → Int → Int → BA → Int → Int → Int → Int → BA → Int → Int → Int → Prop) (x1_0 : Int) (x1_1 : BA) (x1_2 x1_3 : Int) (x1_4 x2 : Int) (b0_0 : BA) (b0_1 : Int) (k : Int → BA → Int → Int → Int → BA → Int → Prop) : Prop :=
  (br (decide (x2 > b0_1)) ((inB b0_1 x2 (((b0_0).size : Nat) : Int)) ∧ (j4 b0_0 b0_1 x1_0 (ByteArray.extract b0_0 (Int.toNat b0_1) (Int.toNat x2)) x1_2 x1_3 b0_1 (0 : Int) (ByteArray.mk #[]) (0 : Int) (0 : Int) (0 : Int))) (j4 b0_0 b0_1 x1_0 x1_1 x1_2 x1_3 b0_1 (0 : Int) (ByteArray.mk #[]) (0 : Int) (0 : Int) (0 : Int)))
def j4' (b0_0 : BA) (b0_1 b1_0 : Int) (b1_1 : BA) (b1_2 b1_3 : Int) (b1_4 b2_0 : Int) (b2_1 : BA) (b2_2 b2_3 b2_4 : Int) (k : Int → BA → Int → Int → Int → BA → Int → Prop) : Prop := j4 b0_0 b0_1 b1_0 b1_1 b1_2 b1_3 b1_4 b2_0 b2_1 b2_2 b2_3 b2_4 k
def f0 (x1_0 : Int) (x1_1 : BA) (x1_2 x1_3 : Int) (x1_4 x2 : Int) (b0_0 : BA) (b0_1 : Int) (k : Int → BA → Int → Int → Int → BA → Int → Prop) : Prop := c (fun b0_0 b0_1 b1_0 b1_1 b1_2 b1_3 b1_4 b2_0 b2_1 b2_2 b2_3 b2_4 => j4' b0_0 b0_1 b1_0 b1_1 b1_2 b1_3 b1_4 b2_0 b2_1 b2_2 b2_3 b2_4 k) x1_0 x1_1 x1_2 x1_3 x1_4 x2 b0_0 b0_1 k
theorem f_ex : ∃ g, g = f0 := ⟨_, rfl⟩
noncomputable def f := Classical.choose f_ex
theorem f_def : f = f0 := Classical.choose_spec f_ex
def m4 (b0_0 : BA) (b0_1 b1_0 : Int) (b1_1 : BA) (b1_2 b1_3 : Int) (b1_4 b2_0 : Int) (b2_1 : BA) (b2_2 b2_3 b2_4 : Int) : St := { tmps := mkT 30 0 [(4, (.ptr 1 0)), (6, (.ptr 2 0))], hp := [(.box 57 [(.v (.string b0_0)), (.v (.int .i64 b0_1))]), (.box 42 [(.v (.int .i64 b1_0)), (.v (.string b1_1)), (.v (.int .i64 b1_2)), (.v (.int .i64 b1_3)), (.v (.int .i64 b1_4))]), (.box 42 [(.v (.int .i64 b2_0)), (.v (.string b2_1)), (.v (.int .i64 b2_2)), (.v (.int .i64 b2_3)), (.v (.int .i64 b2_4))])], m := 1 }
noncomputable def X4 (k kp : KT) : St → Prop := atP cfg (pick none' []) [1, 1, 1] body (topK cfg Tryd.f61 k kp)
noncomputable def JJ (k kp : KT) : Nat → St → Prop := pick none' [(4, X4 k kp)]
noncomputable def LL (k kp : KT) : Nat → St → Prop := pick none' []
theorem j4_c (k kp : KT) (J L : Nat → St → Prop) (b0_0 : BA) (b0_1 b1_0 : Int) (b1_1 : BA) (b1_2 b1_3 : Int) (b1_4 b2_0 : Int) (b2_1 : BA) (b2_2 b2_3 b2_4 : Int) : runC cfg 4 J L (pick none' []) [1, 1, 1] body (topK cfg Tryd.f61 k kp) (m4 b0_0 b0_1 b1_0 b1_1 b1_2 b1_3 b1_4 b2_0 b2_1 b2_2 b2_3 b2_4) = j4 b0_0 b0_1 b1_0 b1_1 b1_2 b1_3 b1_4 b2_0 b2_1 b2_2 b2_3 b2_4 (fun y0_0 y0_1 y0_2 y0_3 y0_4 z0_0 z0_1 => k (.agg [(.v (.int .i64 y0_0)), (.v (.string y0_1)), (.v (.int .i64 y0_2)), (.v (.int .i64 y0_3)), (.v (.int .i64 y0_4))]) [(.box 57 [(.v (.string z0_0)), (.v (.int .i64 z0_1))])]) := by kernel_rfl
theorem j4_ag (k kp : KT) : agPL cfg 4 (JJ k kp) (LL k kp) [1, 1, 1] body = agPR cfg 4 (pick none' []) [1, 1, 1] body (topK cfg Tryd.f61 k kp) := by kernel_rfl
theorem j4_raw (k kp : KT) (b0_0 : BA) (b0_1 b1_0 : Int) (b1_1 : BA) (b1_2 b1_3 : Int) (b1_4 b2_0 : Int) (b2_1 : BA) (b2_2 b2_3 b2_4 : Int) : X4 k kp (m4 b0_0 b0_1 b1_0 b1_1 b1_2 b1_3 b1_4 b2_0 b2_1 b2_2 b2_3 b2_4) = j4 b0_0 b0_1 b1_0 b1_1 b1_2 b1_3 b1_4 b2_0 b2_1 b2_2 b2_3 b2_4 (fun y0_0 y0_1 y0_2 y0_3 y0_4 z0_0 z0_1 => k (.agg [(.v (.int .i64 y0_0)), (.v (.string y0_1)), (.v (.int .i64 y0_2)), (.v (.int .i64 y0_3)), (.v (.int .i64 y0_4))]) [(.box 57 [(.v (.string z0_0)), (.v (.int .i64 z0_1))])]) :=
  Eq.mp (by kernel_rfl) ((atP_run (j4_ag k kp) (m4 b0_0 b0_1 b1_0 b1_1 b1_2 b1_3 b1_4 b2_0 b2_1 b2_2 b2_3 b2_4)).trans (j4_c k kp (JJ k kp) (LL k kp) b0_0 b0_1 b1_0 b1_1 b1_2 b1_3 b1_4 b2_0 b2_1 b2_2 b2_3 b2_4))
theorem j4_eq (k kp : KT) (b0_0 : BA) (b0_1 b1_0 : Int) (b1_1 : BA) (b1_2 b1_3 : Int) (b1_4 b2_0 : Int) (b2_1 : BA) (b2_2 b2_3 b2_4 : Int) : X4 k kp (m4 b0_0 b0_1 b1_0 b1_1 b1_2 b1_3 b1_4 b2_0 b2_1 b2_2 b2_3 b2_4) = j4' b0_0 b0_1 b1_0 b1_1 b1_2 b1_3 b1_4 b2_0 b2_1 b2_2 b2_3 b2_4 (fun y0_0 y0_1 y0_2 y0_3 y0_4 z0_0 z0_1 => k (.agg [(.v (.int .i64 y0_0)), (.v (.string y0_1)), (.v (.int .i64 y0_2)), (.v (.int .i64 y0_3)), (.v (.int .i64 y0_4))]) [(.box 57 [(.v (.string z0_0)), (.v (.int .i64 z0_1))])]) := by
  rw [j4_raw]; rfl
theorem c_c (k kp : KT) (J L : Nat → St → Prop) (x1_0 : Int) (x1_1 : BA) (x1_2 x1_3 : Int) (x1_4 x2 : Int) (b0_0 : BA) (b0_1 : Int) : runC cfg 1000001 J L none'' [] body (topK cfg Tryd.f61 k kp) (st0 Tryd.f61 [(.ptr 0 0), (.agg [(.v (.int .i64 x1_0)), (.v (.string x1_1)), (.v (.int .i64 x1_2)), (.v (.int .i64 x1_3)), (.v (.int .i64 x1_4))]), (.v (.int .i64 x2))] [(.box 57 [(.v (.string b0_0)), (.v (.int .i64 b0_1))])]) = c (fun b0_0 b0_1 b1_0 b1_1 b1_2 b1_3 b1_4 b2_0 b2_1 b2_2 b2_3 b2_4 => J 4 (m4 b0_0 b0_1 b1_0 b1_1 b1_2 b1_3 b1_4 b2_0 b2_1 b2_2 b2_3 b2_4)) x1_0 x1_1 x1_2 x1_3 x1_4 x2 b0_0 b0_1 (fun y0_0 y0_1 y0_2 y0_3 y0_4 z0_0 z0_1 => k (.agg [(.v (.int .i64 y0_0)), (.v (.string y0_1)), (.v (.int .i64 y0_2)), (.v (.int .i64 y0_3)), (.v (.int .i64 y0_4))]) [(.box 57 [(.v (.string z0_0)), (.v (.int .i64 z0_1))])]) := by kernel_rfl
theorem c_ag (k kp : KT) : agPL cfg 1000001 (JJ k kp) (LL k kp) [] body = agPR cfg 1000001 none'' [] body (topK cfg Tryd.f61 k kp) := by kernel_rfl
theorem body_is : Tryd.f61.body = some body := by kernel_rfl
theorem c_raw (k kp : KT) (x1_0 : Int) (x1_1 : BA) (x1_2 x1_3 : Int) (x1_4 x2 : Int) (b0_0 : BA) (b0_1 : Int) : funW cfg Tryd.f61 [(.ptr 0 0), (.agg [(.v (.int .i64 x1_0)), (.v (.string x1_1)), (.v (.int .i64 x1_2)), (.v (.int .i64 x1_3)), (.v (.int .i64 x1_4))]), (.v (.int .i64 x2))] [(.box 57 [(.v (.string b0_0)), (.v (.int .i64 b0_1))])] k kp = c (fun b0_0 b0_1 b1_0 b1_1 b1_2 b1_3 b1_4 b2_0 b2_1 b2_2 b2_3 b2_4 => X4 k kp (m4 b0_0 b0_1 b1_0 b1_1 b1_2 b1_3 b1_4 b2_0 b2_1 b2_2 b2_3 b2_4)) x1_0 x1_1 x1_2 x1_3 x1_4 x2 b0_0 b0_1 (fun y0_0 y0_1 y0_2 y0_3 y0_4 z0_0 z0_1 => k (.agg [(.v (.int .i64 y0_0)), (.v (.string y0_1)), (.v (.int .i64 y0_2)), (.v (.int .i64 y0_3)), (.v (.int .i64 y0_4))]) [(.box 57 [(.v (.string z0_0)), (.v (.int .i64 z0_1))])]) :=
  Eq.mp (by kernel_rfl) ((funW_run (AG := none'') body_is (c_ag k kp) [(.ptr 0 0), (.agg [(.v (.int .i64 x1_0)), (.v (.string x1_1)), (.v (.int .i64 x1_2)), (.v (.int .i64 x1_3)), (.v (.int .i64 x1_4))]), (.v (.int .i64 x2))] [(.box 57 [(.v (.string b0_0)), (.v (.int .i64 b0_1))])]).trans (c_c k kp (JJ k kp) (LL k kp) x1_0 x1_1 x1_2 x1_3 x1_4 x2 b0_0 b0_1))
theorem f_eq (k kp : KT) (x1_0 : Int) (x1_1 : BA) (x1_2 x1_3 : Int) (x1_4 x2 : Int) (b0_0 : BA) (b0_1 : Int) : funW cfg Tryd.f61 [(.ptr 0 0), (.agg [(.v (.int .i64 x1_0)), (.v (.string x1_1)), (.v (.int .i64 x1_2)), (.v (.int .i64 x1_3)), (.v (.int .i64 x1_4))]), (.v (.int .i64 x2))] [(.box 57 [(.v (.string b0_0)), (.v (.int .i64 b0_1))])] k kp = f x1_0 x1_1 x1_2 x1_3 x1_4 x2 b0_0 b0_1 (fun y0_0 y0_1 y0_2 y0_3 y0_4 z0_0 z0_1 => k (.agg [(.v (.int .i64 y0_0)), (.v (.string y0_1)), (.v (.int .i64 y0_2)), (.v (.int .i64 y0_3)), (.v (.int .i64 y0_4))]) [(.box 57 [(.v (.string z0_0)), (.v (.int .i64 z0_1))])]) := by
  rw [f_def, c_raw]; simp only [j4_eq]; first | done | rfl
noncomputable def ent0 : Entry := fun args blks k _ => match args, blks with
  | [d0, d1, d2], [e0] => aPtr 0 0 d0 (aAgg 5 d1 fun l => aCons l fun d1_0 l => aCons l fun d1_1 l => aCons l fun d1_2 l => aCons l fun d1_3 l => aCons l fun d1_4 l => aNil l (aInt IntKind.i64 d1_0 fun x1_0 => aStr d1_1 fun x1_1 => aInt IntKind.i64 d1_2 fun x1_2 => aInt IntKind.i64 d1_3 fun x1_3 => aInt IntKind.i64 d1_4 fun x1_4 => aInt IntKind.i64 d2 fun x2 => aBox 57 e0 fun l => aCons l fun e0_0 l => aCons l fun e0_1 l => aNil l (aStr e0_0 fun b0_0 => aInt IntKind.i64 e0_1 fun b0_1 => f x1_0 x1_1 x1_2 x1_3 x1_4 x2 b0_0 b0_1 (fun y0_0 y0_1 y0_2 y0_3 y0_4 z0_0 z0_1 => k (.agg [(.v (.int .i64 y0_0)), (.v (.string y0_1)), (.v (.int .i64 y0_2)), (.v (.int .i64 y0_3)), (.v (.int .i64 y0_4))]) [(.box 57 [(.v (.string z0_0)), (.v (.int .i64 z0_1))])]))))
  | _, _ => False
noncomputable def ent : Entry := fun args blks k kp => ent0 (convB [.no, .no, .no] args) blks k kp
theorem ok : EntOk Tryd.prog 49 0 61 ent := by
  refine EntOk.convB (EntOk.of (funW_ok (cfg := cfg) (tyOk_of rfl rfl tyL_ok) (eqOk_of (P := Tryd.prog) rfl rfl (by kernel_rfl)) mixed_ok (tab_ok ?_) Tryd.func61 (by rfl) (by rfl)) ?_) _
  · intro p hp
    cases hp
  · intro args blks k kp h k' kp'
    match args, blks, h with
    | [d0, d1, d2], [e0], h =>
    dsimp only [ent0] at h
    have h9 := aPtr_elim h; clear h; obtain ⟨rfl, h⟩ := h9
    have h9 := aAgg_elim h; clear h; obtain ⟨_, rfl, h⟩ := h9
    have h9 := aCons_elim h; clear h; obtain ⟨d1_0, _, rfl, h⟩ := h9
    have h9 := aCons_elim h; clear h; obtain ⟨d1_1, _, rfl, h⟩ := h9
    have h9 := aCons_elim h; clear h; obtain ⟨d1_2, _, rfl, h⟩ := h9
    have h9 := aCons_elim h; clear h; obtain ⟨d1_3, _, rfl, h⟩ := h9
    have h9 := aCons_elim h; clear h; obtain ⟨d1_4, _, rfl, h⟩ := h9
    have h9 := aNil_elim h; clear h; obtain ⟨rfl, h⟩ := h9
    have h9 := aInt_elim h; clear h; obtain ⟨x1_0, rfl, h⟩ := h9
    have h9 := aStr_elim h; clear h; obtain ⟨x1_1, rfl, h⟩ := h9
    have h9 := aInt_elim h; clear h; obtain ⟨x1_2, rfl, h⟩ := h9
    have h9 := aInt_elim h; clear h; obtain ⟨x1_3, rfl, h⟩ := h9
    have h9 := aInt_elim h; clear h; obtain ⟨x1_4, rfl, h⟩ := h9
    have h9 := aInt_elim h; clear h; obtain ⟨x2, rfl, h⟩ := h9
    have h9 := aBox_elim h; clear h; obtain ⟨_, rfl, h⟩ := h9
    have h9 := aCons_elim h; clear h; obtain ⟨e0_0, _, rfl, h⟩ := h9
    have h9 := aCons_elim h; clear h; obtain ⟨e0_1, _, rfl, h⟩ := h9
    have h9 := aNil_elim h; clear h; obtain ⟨rfl, h⟩ := h9
    have h9 := aStr_elim h; clear h; obtain ⟨b0_0, rfl, h⟩ := h9
    have h9 := aInt_elim h; clear h; obtain ⟨b0_1, rfl, h⟩ := h9
    exact (f_eq k' kp' x1_0 x1_1 x1_2 x1_3 x1_4 x2 b0_0 b0_1).symm
end N61
end Go.Proofs.Ye

namespace Go.Proofs.Ye
open Go Go.Aw Go.Proofs
set_option maxRecDepth 100000
set_option maxHeartbeats 4000000
namespace N40
noncomputable def cfg : Cfg := { P := Tryd.prog, tf := 49, tw := 0, ty := tys, E := tab [(60, N60.ent), (61, N61.ent)], atSeq := tab [], atLoop := tab [], outs := [], eqT := tab [], bT := tab [] }
noncomputable def body : Code := bodyOf Tryd.f40
def c (b0_0 : BA) (b0_1 : Int) (k : Int → BA → Int → Int → Int → Int → BA → Int → Prop) : Prop :=
  (N60.f (0 : Int) b0_0 b0_1 (fun (y0_0 y1_0 y2_0 : Int) (z0_0_0 : BA) (z0_1_0 : Int) => (N61.f (2 : Int) (ByteArray.mk #[]) y0_0 (0 : Int) (0 : Int) y1_0 z0_0_0 z0_1_0 (fun (y0_0_1 : Int) (y0_1_1 : BA) (y0_2_1 y0_3_1 y0_4_1 : Int) (z0_0_1 : BA) (z0_1_1 : Int) => (k y0_0_1 y0_1_1 y0_2_1 y0_3_1 y0_4_1 y2_0 z0_0_1 z0_1_1)))))
def f0 (b0_0 : BA) (b0_1 : Int) (k : Int → BA → Int → Int → Int → Int → BA → Int → Prop) : Prop := c b0_0 b0_1 k
theorem f_ex : ∃ g, g = f0 := ⟨_, rfl⟩
noncomputable def f := Classical.choose f_ex
theorem f_def : f = f0 := Classical.choose_spec f_ex
noncomputable def JJ (k kp : KT) : Nat → St → Prop := pick none' []
noncomputable def LL (k kp : KT) : Nat → St → Prop := pick none' []
theorem c_c (k kp : KT) (J L : Nat → St → Prop) (b0_0 : BA) (b0_1 : Int) : runC cfg 1000001 J L none'' [] body (topK cfg Tryd.f40 k kp) (st0 Tryd.f40 [(.ptr 0 0)] [(.box 57 [(.v (.string b0_0)), (.v (.int .i64 b0_1))])]) = c b0_0 b0_1 (fun y0_0 y0_1 y0_2 y0_3 y0_4 y1 z0_0 z0_1 => k (.tup [(.agg [(.v (.int .i64 y0_0)), (.v (.string y0_1)), (.v (.int .i64 y0_2)), (.v (.int .i64 y0_3)), (.v (.int .i64 y0_4))]), (.v (.int .i64 y1))]) [(.box 57 [(.v (.string z0_0)), (.v (.int .i64 z0_1))])]) := by kernel_rfl
theorem c_ag (k kp : KT) : agPL cfg 1000001 (JJ k kp) (LL k kp) [] body = agPR cfg 1000001 none'' [] body (topK cfg Tryd.f40 k kp) := by kernel_rfl
theorem body_is : Tryd.f40.body = some body := by kernel_rfl
theorem c_raw (k kp : KT) (b0_0 : BA) (b0_1 : Int) : funW cfg Tryd.f40 [(.ptr 0 0)] [(.box 57 [(.v (.string b0_0)), (.v (.int .i64 b0_1))])] k kp = c b0_0 b0_1 (fun y0_0 y0_1 y0_2 y0_3 y0_4 y1 z0_0 z0_1 => k (.tup [(.agg [(.v (.int .i64 y0_0)), (.v (.string y0_1)), (.v (.int .i64 y0_2)), (.v (.int .i64 y0_3)), (.v (.int .i64 y0_4))]), (.v (.int .i64 y1))]) [(.box 57 [(.v (.string z0_0)), (.v (.int .i64 z0_1))])]) :=
  Eq.mp (by kernel_rfl) ((funW_run (AG := none'') body_is (c_ag k kp) [(.ptr 0 0)] [(.box 57 [(.v (.string b0_0)), (.v (.int .i64 b0_1))])]).trans (c_c k kp (JJ k kp) (LL k kp) b0_0 b0_1))
theorem f_eq (k kp : KT) (b0_0 : BA) (b0_1 : Int) : funW cfg Tryd.f40 [(.ptr 0 0)] [(.box 57 [(.v (.string b0_0)), (.v (.int .i64 b0_1))])] k kp = f b0_0 b0_1 (fun y0_0 y0_1 y0_2 y0_3 y0_4 y1 z0_0 z0_1 => k (.tup [(.agg [(.v (.int .i64 y0_0)), (.v (.string y0_1)), (.v (.int .i64 y0_2)), (.v (.int .i64 y0_3)), (.v (.int .i64 y0_4))]), (.v (.int .i64 y1))]) [(.box 57 [(.v (.string z0_0)), (.v (.int .i64 z0_1))])]) := by
  rw [f_def, c_raw]; rfl
noncomputable def ent0 : Entry := fun args blks k _ => match args, blks with
  | [d0], [e0] => aPtr 0 0 d0 (aBox 57 e0 fun l => aCons l fun e0_0 l => aCons l fun e0_1 l => aNil l (aStr e0_0 fun b0_0 => aInt IntKind.i64 e0_1 fun b0_1 => f b0_0 b0_1 (fun y0_0 y0_1 y0_2 y0_3 y0_4 y1 z0_0 z0_1 => k (.tup [(.agg [(.v (.int .i64 y0_0)), (.v (.string y0_1)), (.v (.int .i64 y0_2)), (.v (.int .i64 y0_3)), (.v (.int .i64 y0_4))]), (.v (.int .i64 y1))]) [(.box 57 [(.v (.string z0_0)), (.v (.int .i64 z0_1))])])))
  | _, _ => False
noncomputable def ent : Entry := fun args blks k kp => ent0 (convB [.no] args) blks k kp
theorem ok : EntOk Tryd.prog 49 0 40 ent := by
  refine EntOk.convB (EntOk.of (funW_ok (cfg := cfg) (tyOk_of rfl rfl tyL_ok) (eqOk_of (P := Tryd.prog) rfl rfl (by kernel_rfl)) mixed_ok (tab_ok ?_) Tryd.func40 (by rfl) (by rfl)) ?_) _
  · intro p hp
    simp only [List.mem_cons, List.not_mem_nil, or_false] at hp
    rcases hp with rfl | rfl
    · exact N60.ok
    · exact N61.ok
  · intro args blks k kp h k' kp'
    match args, blks, h with
    | [d0], [e0], h =>
    dsimp only [ent0] at h
    have h9 := aPtr_elim h; clear h; obtain ⟨rfl, h⟩ := h9
    have h9 := aBox_elim h; clear h; obtain ⟨_, rfl, h⟩ := h9
    have h9 := aCons_elim h; clear h; obtain ⟨e0_0, _, rfl, h⟩ := h9
    have h9 := aCons_elim h; clear h; obtain ⟨e0_1, _, rfl, h⟩ := h9
    have h9 := aNil_elim h; clear h; obtain ⟨rfl, h⟩ := h9
    have h9 := aStr_elim h; clear h; obtain ⟨b0_0, rfl, h⟩ := h9
    have h9 := aInt_elim h; clear h; obtain ⟨b0_1, rfl, h⟩ := h9
    exact (f_eq k' kp' b0_0 b0_1).symm
end N40
end Go.Proofs.Ye

namespace Go.Proofs.Ye
open Go Go.Aw Go.Proofs
set_option maxRecDepth 100000
set_option maxHeartbeats 4000000
namespace N42
noncomputable def cfg : Cfg := { P := Tryd.prog, tf := 49, tw := 0, ty := tys, E := tab [(62, N62.ent), (61, N61.ent)], atSeq := tab [], atLoop := tab [], outs := [], eqT := tab [], bT := tab [], lt := [5, 6, 7, 8, 9, 11, 12, 13], pd := [(4, 42)] }
noncomputable def body : Code := bodyOf Tryd.f42
def c (b0_0 : BA) (b0_1 : Int) (k : Int → BA → Int → Int → Int → Int → BA → Int → Prop) : Prop :=
  (N62.f b0_0 b0_1 (fun (y0_0 : Int) => (N61.f (1 : Int) (ByteArray.mk #[]) (0 : Int) (0 : Int) (0 : Int) y0_0 b0_0 b0_1 (fun (y0_0_1 : Int) (y0_1_1 : BA) (y0_2_1 y0_3_1 y0_4_1 : Int) (z0_0_1 : BA) (z0_1_1 : Int) => (br (decide (((((y0_1_1).size : Nat) : Int)) > (24 : Int))) (k y0_0_1 y0_1_1 y0_2_1 y0_3_1 y0_4_1 (3 : Int) z0_0_1 z0_1_1) (k y0_0_1 y0_1_1 y0_2_1 y0_3_1 y0_4_1 (0 : Int) z0_0_1 z0_1_1))))))
def f0 (b0_0 : BA) (b0_1 : Int) (k : Int → BA → Int → Int → Int → Int → BA → Int → Prop) : Prop := c b0_0 b0_1 k
theorem f_ex : ∃ g, g = f0 := ⟨_, rfl⟩
noncomputable def f := Classical.choose f_ex
theorem f_def : f = f0 := Classical.choose_spec f_ex
noncomputable def JJ (k kp : KT) : Nat → St → Prop := pick none' []
noncomputable def LL (k kp : KT) : Nat → St → Prop := pick none' []
theorem c_c (k kp : KT) (J L : Nat → St → Prop) (b0_0 : BA) (b0_1 : Int) : runC cfg 1000001 J L none'' [] body (topK cfg Tryd.f42 k kp) (st0 Tryd.f42 [(.ptr 0 0)] [(.box 57 [(.v (.string b0_0)), (.v (.int .i64 b0_1))])]) = c b0_0 b0_1 (fun y0_0 y0_1 y0_2 y0_3 y0_4 y1 z0_0 z0_1 => k (.tup [(.agg [(.v (.int .i64 y0_0)), (.v (.string y0_1)), (.v (.int .i64 y0_2)), (.v (.int .i64 y0_3)), (.v (.int .i64 y0_4))]), (.v (.int .i64 y1))]) [(.box 57 [(.v (.string z0_0)), (.v (.int .i64 z0_1))])]) := by kernel_rfl
theorem c_ag (k kp : KT) : agPL cfg 1000001 (JJ k kp) (LL k kp) [] body = agPR cfg 1000001 none'' [] body (topK cfg Tryd.f42 k kp) := by kernel_rfl
theorem body_is : Tryd.f42.body = some body := by kernel_rfl
theorem c_raw (k kp : KT) (b0_0 : BA) (b0_1 : Int) : funW cfg Tryd.f42 [(.ptr 0 0)] [(.box 57 [(.v (.string b0_0)), (.v (.int .i64 b0_1))])] k kp = c b0_0 b0_1 (fun y0_0 y0_1 y0_2 y0_3 y0_4 y1 z0_0 z0_1 => k (.tup [(.agg [(.v (.int .i64 y0_0)), (.v (.string y0_1)), (.v (.int .i64 y0_2)), (.v (.int .i64 y0_3)), (.v (.int .i64 y0_4))]), (.v (.int .i64 y1))]) [(.box 57 [(.v (.string z0_0)), (.v (.int .i64 z0_1))])]) :=
  Eq.mp (by kernel_rfl) ((funW_run (AG := none'') body_is (c_ag k kp) [(.ptr 0 0)] [(.box 57 [(.v (.string b0_0)), (.v (.int .i64 b0_1))])]).trans (c_c k kp (JJ k kp) (LL k kp) b0_0 b0_1))
theorem f_eq (k kp : KT) (b0_0 : BA) (b0_1 : Int) : funW cfg Tryd.f42 [(.ptr 0 0)] [(.box 57 [(.v (.string b0_0)), (.v (.int .i64 b0_1))])] k kp = f b0_0 b0_1 (fun y0_0 y0_1 y0_2 y0_3 y0_4 y1 z0_0 z0_1 => k (.tup [(.agg [(.v (.int .i64 y0_0)), (.v (.string y0_1)), (.v (.int .i64 y0_2)), (.v (.int .i64 y0_3)), (.v (.int .i64 y0_4))]), (.v (.int .i64 y1))]) [(.box 57 [(.v (.string z0_0)), (.v (.int .i64 z0_1))])]) := by
  rw [f_def, c_raw]; rfl
noncomputable def ent0 : Entry := fun args blks k _ => match args, blks with
  | [d0], [e0] => aPtr 0 0 d0 (aBox 57 e0 fun l => aCons l fun e0_0 l => aCons l fun e0_1 l => aNil l (aStr e0_0 fun b0_0 => aInt IntKind.i64 e0_1 fun b0_1 => f b0_0 b0_1 (fun y0_0 y0_1 y0_2 y0_3 y0_4 y1 z0_0 z0_1 => k (.tup [(.agg [(.v (.int .i64 y0_0)), (.v (.string y0_1)), (.v (.int .i64 y0_2)), (.v (.int .i64 y0_3)), (.v (.int .i64 y0_4))]), (.v (.int .i64 y1))]) [(.box 57 [(.v (.string z0_0)), (.v (.int .i64 z0_1))])])))
  | _, _ => False
noncomputable def ent : Entry := fun args blks k kp => ent0 (convB [.no] args) blks k kp
theorem ok : EntOk Tryd.prog 49 0 42 ent := by
  refine EntOk.convB (EntOk.of (funW_ok (cfg := cfg) (tyOk_of rfl rfl tyL_ok) (eqOk_of (P := Tryd.prog) rfl rfl (by kernel_rfl)) mixed_ok (tab_ok ?_) Tryd.func42 (by rfl) (by rfl)) ?_) _
  · intro p hp
    simp only [List.mem_cons, List.not_mem_nil, or_false] at hp
    rcases hp with rfl | rfl
    · exact N62.ok
    · exact N61.ok
  · intro args blks k kp h k' kp'
    match args, blks, h with
    | [d0], [e0], h =>
    dsimp only [ent0] at h
    have h9 := aPtr_elim h; clear h; obtain ⟨rfl, h⟩ := h9
    have h9 := aBox_elim h; clear h; obtain ⟨_, rfl, h⟩ := h9
    have h9 := aCons_elim h; clear h; obtain ⟨e0_0, _, rfl, h⟩ := h9
    have h9 := aCons_elim h; clear h; obtain ⟨e0_1, _, rfl, h⟩ := h9
    have h9 := aNil_elim h; clear h; obtain ⟨rfl, h⟩ := h9
    have h9 := aStr_elim h; clear h; obtain ⟨b0_0, rfl, h⟩ := h9
    have h9 := aInt_elim h; clear h; obtain ⟨b0_1, rfl, h⟩ := h9
    exact (f_eq k' kp' b0_0 b0_1).symm
end N42
end Go.Proofs.Ye

