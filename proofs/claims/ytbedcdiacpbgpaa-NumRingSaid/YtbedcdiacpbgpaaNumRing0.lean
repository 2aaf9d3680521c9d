/- For all whole numbers a, b and c of 64 bits the law NumRing returns true: no further conditions. -/
import Derived.Test.YtbedcdiacpbgpaaT1
import Derived.OpenShut
import Derived.Test.YtbedcdiacpbgpaaProg
import Derived.Test.YtbedcdiacpbgpaaRows
import Derived.WalkKit
import Derived.ProofKit
import Derived.ShutString
import Derived.ChangeOld
import Derived.Below
import Derived.SizedLaws
namespace Go.Aw
open Go.RowKit
set_option linter.unusedVariables false

/-! ### Words for plain proofs -/
@[simp] theorem br_true (p q : Prop) : br true p q = p := rfl
@[simp] theorem br_false (p q : Prop) : br false p q = q := rfl
theorem br_of {b : Bool} {p q : Prop} (h1 : b = true → p) (h2 : b = false → q) : br b p q := by
  cases b
  · exact h2 rfl
  · exact h1 rfl
theorem br_iff {b : Bool} {p q : Prop} : br b p q ↔ (b = true → p) ∧ (b = false → q) := by cases b <;> simp
@[simp] theorem br_dec {c : Prop} [Decidable c] {p q : Prop} : br (decide c) p q = if c then p else q := by
  by_cases h : c <;> simp [h]
@[simp] theorem br_beq {α : Type} [BEq α] [LawfulBEq α] [DecidableEq α] {a b : α} {p q : Prop} : br (a == b) p q = if a = b then p else q := by
  by_cases h : a = b
  · simp [h]
  · rw [if_neg h, show (a == b) = false by simpa using h]; rfl
@[simp] theorem br_bne {α : Type} [BEq α] [LawfulBEq α] [DecidableEq α] {a b : α} {p q : Prop} : br (a != b) p q = if a = b then q else p := by
  by_cases h : a = b
  · simp [h]
  · rw [if_neg h, show (a != b) = true by simpa using h]; rfl
@[simp] theorem br_not {b : Bool} {p q : Prop} : br (!b) p q = br b q p := by cases b <;> rfl
theorem br_bif {α : Sort _} {b : Bool} {k : α → Prop} {x y : α} : br b (k x) (k y) = k (bif b then x else y) := by cases b <;> rfl

abbrev w64 (n : Int) : Int := IntKind.i64.wrap n
theorem w64_eq (n : Int) : w64 n = n.bmod (2 ^ 64) := by
  unfold w64 IntKind.wrap
  simp only [IntKind.bits, IntKind.signed]
  unfold Int.bmod
  simp
  split <;> split <;> omega
theorem wu64_eq (n : Int) : IntKind.u64.wrap n = n % 2 ^ 64 := by
  unfold IntKind.wrap
  simp [IntKind.bits, IntKind.signed]
theorem wu8_eq (n : Int) : IntKind.u8.wrap n = n % 256 := by
  unfold IntKind.wrap
  simp [IntKind.bits, IntKind.signed]
/-- A number fits into 64 bits. -/
def in64 (n : Int) : Prop := -9223372036854775808 ≤ n ∧ n ≤ 9223372036854775807
theorem wf64 {n : Int} (h : (Lit.int .i64 n).wf = true) : in64 n := by
  simp [Lit.wf, IntKind.min, IntKind.max, IntKind.signed, IntKind.bits] at h
  exact h
theorem w64_id {n : Int} (h : in64 n) : w64 n = n := by
  unfold in64 at h
  rw [w64_eq]
  apply Int.bmod_eq_of_le <;> omega
theorem wrap_id {n : Int} (h1 : -9223372036854775808 ≤ n) (h2 : n ≤ 9223372036854775807) : IntKind.i64.wrap n = n := w64_id ⟨h1, h2⟩
theorem w64_in (n : Int) : in64 (w64 n) := by
  unfold in64
  rw [w64_eq]
  have h1 := @Int.le_bmod n (2 ^ 64) (by decide)
  have h2 := @Int.bmod_lt n (2 ^ 64) (by decide)
  omega

theorem drop_get {α : Type} {l : List α} {i : Nat} {d : α} (h : i < l.length) : l.drop i = l.getD i d :: l.drop (i + 1) := by
  rw [List.drop_eq_getElem_cons h]; simp [List.getD, List.getElem?_eq_getElem h]
end Go.Aw
namespace Go.Proofs.Yt
open Go.Aw Go.Proofs
set_option linter.unusedVariables false
set_option linter.unusedSimpArgs false
set_option maxRecDepth 100000
def tyL : List (Nat × Ty) := [(5, (Ty.int IntKind.u8)), (4, Ty.bool), (3, (Ty.int IntKind.i64))]
def tys : Nat → Option Ty := tab tyL
theorem mixed_ok : Try.prog.follows .mixedOrders = true := by kernel_rfl
theorem tyL_ok : tyL.all (tyRight Try.prog) = true := by kernel_rfl
end Go.Proofs.Yt
namespace Go.Proofs.Yt
open Go Go.Aw Go.Proofs
set_option linter.unusedVariables false
set_option linter.unusedSimpArgs false
set_option maxRecDepth 100000
/-! dyehouse/num.divides -/
namespace N48
noncomputable def cfg : Cfg := { P := Try.prog, ty := tys, E := tab [], atSeq := tab [], atLoop := tab [], outs := [] }
noncomputable def body : Code := bodyOf Try.f48
def c (x0 : Int) (x1 : Int) (x2 : Int) (k : Int → Bool → Prop) : Prop :=
  (br (x2 == (0 : Int)) (k (0 : Int) false) (br (x0 == (10 : Int)) ((x2 ≠ 0) ∧ (k (IntKind.i64.wrap (Int.tdiv x1 x2)) true)) ((x2 ≠ 0) ∧ (k (Int.tmod x1 x2) true))))
def f0 (x0 : Int) (x1 : Int) (x2 : Int) (k : Int → Bool → Prop) : Prop := c x0 x1 x2 k
theorem f_ex : ∃ g : Int → Int → Int → (Int → Bool → Prop) → Prop, g = f0 := ⟨_, rfl⟩
noncomputable def f : Int → Int → Int → (Int → Bool → Prop) → Prop := Classical.choose f_ex
theorem f_def : f = f0 := Classical.choose_spec f_ex
noncomputable def JJ (k kp : D → List Blk → Prop) : Nat → St → Prop := pick none' []
noncomputable def LL (k kp : D → List Blk → Prop) : Nat → St → Prop := pick none' []
theorem c_c (k kp : D → List Blk → Prop) (J L : Nat → St → Prop) (x0 : Int) (x1 : Int) (x2 : Int) : runC cfg 1000001 J L none'' [] body (topK cfg Try.f48 k kp) (st0 Try.f48 [(.v (.int IntKind.i64 x0)), (.v (.int IntKind.i64 x1)), (.v (.int IntKind.i64 x2))] []) = c x0 x1 x2 (fun y0 y1 => k (.tup [(.v (.int IntKind.i64 y0)), (.v (.bool y1))]) []) := by kernel_rfl
theorem c_ag (k kp : D → List Blk → Prop) : agPL cfg 1000001 (JJ k kp) (LL k kp) [] body = agPR cfg 1000001 none'' [] body (topK cfg Try.f48 k kp) := by kernel_rfl
theorem body_is : Try.f48.body = some body := by kernel_rfl
theorem c_raw (k kp : D → List Blk → Prop) (x0 : Int) (x1 : Int) (x2 : Int) : funW cfg Try.f48 [(.v (.int IntKind.i64 x0)), (.v (.int IntKind.i64 x1)), (.v (.int IntKind.i64 x2))] [] k kp = c x0 x1 x2 (fun y0 y1 => k (.tup [(.v (.int IntKind.i64 y0)), (.v (.bool y1))]) []) :=
  Eq.mp (by kernel_rfl) ((funW_run (AG := none'') body_is (c_ag k kp) [(.v (.int IntKind.i64 x0)), (.v (.int IntKind.i64 x1)), (.v (.int IntKind.i64 x2))] []).trans (c_c k kp (JJ k kp) (LL k kp) x0 x1 x2))
theorem f_eq (k kp : D → List Blk → Prop) (x0 : Int) (x1 : Int) (x2 : Int) : funW cfg Try.f48 [(.v (.int IntKind.i64 x0)), (.v (.int IntKind.i64 x1)), (.v (.int IntKind.i64 x2))] [] k kp = f x0 x1 x2 (fun y0 y1 => k (.tup [(.v (.int IntKind.i64 y0)), (.v (.bool y1))]) []) := by
  rw [f_def, c_raw]; rfl
noncomputable def ent0 : Entry := fun args blks k _ => match args, blks with
  | [d0, d1, d2], [] => aInt IntKind.i64 d0 fun x0 => aInt IntKind.i64 d1 fun x1 => aInt IntKind.i64 d2 fun x2 => f x0 x1 x2 (fun y0 y1 => k (.tup [(.v (.int IntKind.i64 y0)), (.v (.bool y1))]) [])
  | _, _ => False
noncomputable def ent : Entry := fun args blks k kp => ent0 (convA [none, none, none] args) blks k kp
theorem ok : EntOk Try.prog 0 0 48 ent := by
  refine EntOk.conv (EntOk.of (funW_ok (cfg := cfg) (tyOk_of rfl rfl tyL_ok) (eqOk_none rfl) mixed_ok (tab_ok ?_) Try.func48 (by rfl) (by rfl)) ?_) _
  · intro p hp
    cases hp
  · intro args blks k kp h k' kp'
    match args, blks, h with
    | [d0, d1, d2], [], h =>
    dsimp only [ent0] at h
    have h9 := aInt_elim h; clear h; obtain ⟨x0, rfl, h⟩ := h9
    have h9 := aInt_elim h; clear h; obtain ⟨x1, rfl, h⟩ := h9
    have h9 := aInt_elim h; clear h; obtain ⟨x2, rfl, h⟩ := h9
    exact (f_eq k' kp' x0 x1 x2).symm
end N48
end Go.Proofs.Yt
namespace Go.Proofs.Yt
open Go Go.Aw Go.Proofs
set_option linter.unusedVariables false
set_option linter.unusedSimpArgs false
set_option maxRecDepth 100000
/-! dyehouse/num.Shift -/
namespace N32
noncomputable def cfg : Cfg := { P := Try.prog, ty := tys, E := tab [], atSeq := tab [], atLoop := tab [], outs := [] }
noncomputable def body : Code := bodyOf Try.f32
def c (x0 : Int) (k : Int → Prop) : Prop :=
  (((64 : Int) ≠ 0) ∧ (k (IntKind.i64.wrap (Int.tmod (IntKind.u64.wrap x0) (64 : Int)))))
def f0 (x0 : Int) (k : Int → Prop) : Prop := c x0 k
theorem f_ex : ∃ g : Int → (Int → Prop) → Prop, g = f0 := ⟨_, rfl⟩
noncomputable def f : Int → (Int → Prop) → Prop := Classical.choose f_ex
theorem f_def : f = f0 := Classical.choose_spec f_ex
noncomputable def JJ (k kp : D → List Blk → Prop) : Nat → St → Prop := pick none' []
noncomputable def LL (k kp : D → List Blk → Prop) : Nat → St → Prop := pick none' []
theorem c_c (k kp : D → List Blk → Prop) (J L : Nat → St → Prop) (x0 : Int) : runC cfg 1000001 J L none'' [] body (topK cfg Try.f32 k kp) (st0 Try.f32 [(.v (.int IntKind.i64 x0))] []) = c x0 (fun y0 => k (.v (.int IntKind.i64 y0)) []) := by kernel_rfl
theorem c_ag (k kp : D → List Blk → Prop) : agPL cfg 1000001 (JJ k kp) (LL k kp) [] body = agPR cfg 1000001 none'' [] body (topK cfg Try.f32 k kp) := by kernel_rfl
theorem body_is : Try.f32.body = some body := by kernel_rfl
theorem c_raw (k kp : D → List Blk → Prop) (x0 : Int) : funW cfg Try.f32 [(.v (.int IntKind.i64 x0))] [] k kp = c x0 (fun y0 => k (.v (.int IntKind.i64 y0)) []) :=
  Eq.mp (by kernel_rfl) ((funW_run (AG := none'') body_is (c_ag k kp) [(.v (.int IntKind.i64 x0))] []).trans (c_c k kp (JJ k kp) (LL k kp) x0))
theorem f_eq (k kp : D → List Blk → Prop) (x0 : Int) : funW cfg Try.f32 [(.v (.int IntKind.i64 x0))] [] k kp = f x0 (fun y0 => k (.v (.int IntKind.i64 y0)) []) := by
  rw [f_def, c_raw]; rfl
noncomputable def ent0 : Entry := fun args blks k _ => match args, blks with
  | [d0], [] => aInt IntKind.i64 d0 fun x0 => f x0 (fun y0 => k (.v (.int IntKind.i64 y0)) [])
  | _, _ => False
noncomputable def ent : Entry := fun args blks k kp => ent0 (convA [none] args) blks k kp
theorem ok : EntOk Try.prog 0 0 32 ent := by
  refine EntOk.conv (EntOk.of (funW_ok (cfg := cfg) (tyOk_of rfl rfl tyL_ok) (eqOk_none rfl) mixed_ok (tab_ok ?_) Try.func32 (by rfl) (by rfl)) ?_) _
  · intro p hp
    cases hp
  · intro args blks k kp h k' kp'
    match args, blks, h with
    | [d0], [], h =>
    dsimp only [ent0] at h
    have h9 := aInt_elim h; clear h; obtain ⟨x0, rfl, h⟩ := h9
    exact (f_eq k' kp' x0).symm
end N32
end Go.Proofs.Yt
namespace Go.Proofs.Yt
open Go Go.Aw Go.Proofs
set_option linter.unusedVariables false
set_option linter.unusedSimpArgs false
set_option maxRecDepth 100000
/-! dyehouse/num.shifts -/
namespace N49
noncomputable def cfg : Cfg := { P := Try.prog, ty := tys, E := tab [(32, N32.ent)], atSeq := tab [], atLoop := tab [], outs := [] }
noncomputable def body : Code := bodyOf Try.f49
def c (x0 : Int) (x1 : Int) (x2 : Int) (k : Int → Bool → Prop) : Prop :=
  (N32.f x2 (fun (y0_0 : Int) => (br (x0 == (7 : Int)) ((0 ≤ y0_0) ∧ (k (IntKind.i64.wrap (x1 * 2 ^ min (Int.toNat y0_0) 64)) true)) (br (x0 == (8 : Int)) ((0 ≤ y0_0) ∧ (k (IntKind.i64.wrap (Int.fdiv (IntKind.u64.wrap x1) (2 ^ min (Int.toNat y0_0) 64))) true)) (br (x0 == (9 : Int)) ((0 ≤ y0_0) ∧ (k (Int.fdiv x1 (2 ^ min (Int.toNat y0_0) 64)) true)) (k (0 : Int) false))))))
def f0 (x0 : Int) (x1 : Int) (x2 : Int) (k : Int → Bool → Prop) : Prop := c x0 x1 x2 k
theorem f_ex : ∃ g : Int → Int → Int → (Int → Bool → Prop) → Prop, g = f0 := ⟨_, rfl⟩
noncomputable def f : Int → Int → Int → (Int → Bool → Prop) → Prop := Classical.choose f_ex
theorem f_def : f = f0 := Classical.choose_spec f_ex
noncomputable def JJ (k kp : D → List Blk → Prop) : Nat → St → Prop := pick none' []
noncomputable def LL (k kp : D → List Blk → Prop) : Nat → St → Prop := pick none' []
theorem c_c (k kp : D → List Blk → Prop) (J L : Nat → St → Prop) (x0 : Int) (x1 : Int) (x2 : Int) : runC cfg 1000001 J L none'' [] body (topK cfg Try.f49 k kp) (st0 Try.f49 [(.v (.int IntKind.i64 x0)), (.v (.int IntKind.i64 x1)), (.v (.int IntKind.i64 x2))] []) = c x0 x1 x2 (fun y0 y1 => k (.tup [(.v (.int IntKind.i64 y0)), (.v (.bool y1))]) []) := by kernel_rfl
theorem c_ag (k kp : D → List Blk → Prop) : agPL cfg 1000001 (JJ k kp) (LL k kp) [] body = agPR cfg 1000001 none'' [] body (topK cfg Try.f49 k kp) := by kernel_rfl
theorem body_is : Try.f49.body = some body := by kernel_rfl
theorem c_raw (k kp : D → List Blk → Prop) (x0 : Int) (x1 : Int) (x2 : Int) : funW cfg Try.f49 [(.v (.int IntKind.i64 x0)), (.v (.int IntKind.i64 x1)), (.v (.int IntKind.i64 x2))] [] k kp = c x0 x1 x2 (fun y0 y1 => k (.tup [(.v (.int IntKind.i64 y0)), (.v (.bool y1))]) []) :=
  Eq.mp (by kernel_rfl) ((funW_run (AG := none'') body_is (c_ag k kp) [(.v (.int IntKind.i64 x0)), (.v (.int IntKind.i64 x1)), (.v (.int IntKind.i64 x2))] []).trans (c_c k kp (JJ k kp) (LL k kp) x0 x1 x2))
theorem f_eq (k kp : D → List Blk → Prop) (x0 : Int) (x1 : Int) (x2 : Int) : funW cfg Try.f49 [(.v (.int IntKind.i64 x0)), (.v (.int IntKind.i64 x1)), (.v (.int IntKind.i64 x2))] [] k kp = f x0 x1 x2 (fun y0 y1 => k (.tup [(.v (.int IntKind.i64 y0)), (.v (.bool y1))]) []) := by
  rw [f_def, c_raw]; rfl
noncomputable def ent0 : Entry := fun args blks k _ => match args, blks with
  | [d0, d1, d2], [] => aInt IntKind.i64 d0 fun x0 => aInt IntKind.i64 d1 fun x1 => aInt IntKind.i64 d2 fun x2 => f x0 x1 x2 (fun y0 y1 => k (.tup [(.v (.int IntKind.i64 y0)), (.v (.bool y1))]) [])
  | _, _ => False
noncomputable def ent : Entry := fun args blks k kp => ent0 (convA [none, none, none] args) blks k kp
theorem ok : EntOk Try.prog 0 0 49 ent := by
  refine EntOk.conv (EntOk.of (funW_ok (cfg := cfg) (tyOk_of rfl rfl tyL_ok) (eqOk_none rfl) mixed_ok (tab_ok ?_) Try.func49 (by rfl) (by rfl)) ?_) _
  · intro p hp
    simp only [List.mem_cons, List.not_mem_nil, or_false] at hp
    rcases hp with rfl
    · exact N32.ok
  · intro args blks k kp h k' kp'
    match args, blks, h with
    | [d0, d1, d2], [], h =>
    dsimp only [ent0] at h
    have h9 := aInt_elim h; clear h; obtain ⟨x0, rfl, h⟩ := h9
    have h9 := aInt_elim h; clear h; obtain ⟨x1, rfl, h⟩ := h9
    have h9 := aInt_elim h; clear h; obtain ⟨x2, rfl, h⟩ := h9
    exact (f_eq k' kp' x0 x1 x2).symm
end N49
end Go.Proofs.Yt
namespace Go.Proofs.Yt
open Go Go.Aw Go.Proofs
set_option linter.unusedVariables false
set_option linter.unusedSimpArgs false
set_option maxRecDepth 100000
/-! dyehouse/num.compares -/
namespace N50
noncomputable def cfg : Cfg := { P := Try.prog, ty := tys, E := tab [], atSeq := tab [(11, ⟨[(8, .keep)]⟩), (12, ⟨[]⟩)], atLoop := tab [], outs := [] }
noncomputable def body : Code := bodyOf Try.f50
def j11 (x8 : Bool) (k : Bool → Bool → Prop) : Prop :=
  (k x8 true)
def j12 (k : Bool → Bool → Prop) : Prop :=
  (k false false)
def c (j11 : Bool → Prop) (j12 : Prop) (x0 : Int) (x1 : Int) (x2 : Int) (k : Bool → Bool → Prop) : Prop :=
  (br (x0 == (12 : Int)) (k (x1 == x2) true) (br (x0 == (13 : Int)) (k (!(x1 == x2)) true) (br (x0 == (15 : Int)) (br (x1 == x2) (k true true) (j11 (decide (x1 < x2)))) (br (x0 == (14 : Int)) (j11 (decide (x1 < x2))) (j12)))))
def j11' (x8 : Bool) (k : Bool → Bool → Prop) : Prop := j11 x8 k
def j12' (k : Bool → Bool → Prop) : Prop := j12 k
def f0 (x0 : Int) (x1 : Int) (x2 : Int) (k : Bool → Bool → Prop) : Prop := c (fun x8 => j11' x8 k) (j12' k) x0 x1 x2 k
theorem f_ex : ∃ g : Int → Int → Int → (Bool → Bool → Prop) → Prop, g = f0 := ⟨_, rfl⟩
noncomputable def f : Int → Int → Int → (Bool → Bool → Prop) → Prop := Classical.choose f_ex
theorem f_def : f = f0 := Classical.choose_spec f_ex
def m11 (x8 : Bool) : St := { tmps := mkT 30 0 [(8, (.v (.bool x8)))], hp := [], m := 0 }
def m12 : St := { tmps := mkT 30 0 [], hp := [], m := 0 }
noncomputable def X11 (k kp : D → List Blk → Prop) : St → Prop := atP cfg (pick none' []) [1, 1, 0, 1, 0, 1] body (topK cfg Try.f50 k kp)
noncomputable def X12 (k kp : D → List Blk → Prop) : St → Prop := atP cfg (pick none' []) [1, 1, 1] body (topK cfg Try.f50 k kp)
noncomputable def JJ (k kp : D → List Blk → Prop) : Nat → St → Prop := pick none' [(11, X11 k kp), (12, X12 k kp)]
noncomputable def LL (k kp : D → List Blk → Prop) : Nat → St → Prop := pick none' []
theorem j11_c (k kp : D → List Blk → Prop) (J L : Nat → St → Prop) (x8 : Bool) : runC cfg 11 J L (pick none' []) [1, 1, 0, 1, 0, 1] body (topK cfg Try.f50 k kp) (m11 x8) = j11 x8 (fun y0 y1 => k (.tup [(.v (.bool y0)), (.v (.bool y1))]) []) := by kernel_rfl
theorem j11_ag (k kp : D → List Blk → Prop) : agPL cfg 11 (JJ k kp) (LL k kp) [1, 1, 0, 1, 0, 1] body = agPR cfg 11 (pick none' []) [1, 1, 0, 1, 0, 1] body (topK cfg Try.f50 k kp) := by kernel_rfl
theorem j11_raw (k kp : D → List Blk → Prop) (x8 : Bool) : X11 k kp (m11 x8) = j11 x8 (fun y0 y1 => k (.tup [(.v (.bool y0)), (.v (.bool y1))]) []) :=
  Eq.mp (by kernel_rfl) ((atP_run (j11_ag k kp) (m11 x8)).trans (j11_c k kp (JJ k kp) (LL k kp) x8))
theorem j11_eq (k kp : D → List Blk → Prop) (x8 : Bool) : X11 k kp (m11 x8) = j11' x8 (fun y0 y1 => k (.tup [(.v (.bool y0)), (.v (.bool y1))]) []) := by
  rw [j11_raw]; rfl
theorem j12_c (k kp : D → List Blk → Prop) (J L : Nat → St → Prop) : runC cfg 12 J L (pick none' []) [1, 1, 1] body (topK cfg Try.f50 k kp) (m12) = j12 (fun y0 y1 => k (.tup [(.v (.bool y0)), (.v (.bool y1))]) []) := by kernel_rfl
theorem j12_ag (k kp : D → List Blk → Prop) : agPL cfg 12 (JJ k kp) (LL k kp) [1, 1, 1] body = agPR cfg 12 (pick none' []) [1, 1, 1] body (topK cfg Try.f50 k kp) := by kernel_rfl
theorem j12_raw (k kp : D → List Blk → Prop) : X12 k kp (m12) = j12 (fun y0 y1 => k (.tup [(.v (.bool y0)), (.v (.bool y1))]) []) :=
  Eq.mp (by kernel_rfl) ((atP_run (j12_ag k kp) (m12)).trans (j12_c k kp (JJ k kp) (LL k kp)))
theorem j12_eq (k kp : D → List Blk → Prop) : X12 k kp (m12) = j12' (fun y0 y1 => k (.tup [(.v (.bool y0)), (.v (.bool y1))]) []) := by
  rw [j12_raw]; rfl
theorem c_c (k kp : D → List Blk → Prop) (J L : Nat → St → Prop) (x0 : Int) (x1 : Int) (x2 : Int) : runC cfg 1000001 J L none'' [] body (topK cfg Try.f50 k kp) (st0 Try.f50 [(.v (.int IntKind.i64 x0)), (.v (.int IntKind.i64 x1)), (.v (.int IntKind.i64 x2))] []) = c (fun x8 => J 11 (m11 x8)) (J 12 (m12)) x0 x1 x2 (fun y0 y1 => k (.tup [(.v (.bool y0)), (.v (.bool y1))]) []) := by kernel_rfl
theorem c_ag (k kp : D → List Blk → Prop) : agPL cfg 1000001 (JJ k kp) (LL k kp) [] body = agPR cfg 1000001 none'' [] body (topK cfg Try.f50 k kp) := by kernel_rfl
theorem body_is : Try.f50.body = some body := by kernel_rfl
theorem c_raw (k kp : D → List Blk → Prop) (x0 : Int) (x1 : Int) (x2 : Int) : funW cfg Try.f50 [(.v (.int IntKind.i64 x0)), (.v (.int IntKind.i64 x1)), (.v (.int IntKind.i64 x2))] [] k kp = c (fun x8 => X11 k kp (m11 x8)) (X12 k kp (m12)) x0 x1 x2 (fun y0 y1 => k (.tup [(.v (.bool y0)), (.v (.bool y1))]) []) :=
  Eq.mp (by kernel_rfl) ((funW_run (AG := none'') body_is (c_ag k kp) [(.v (.int IntKind.i64 x0)), (.v (.int IntKind.i64 x1)), (.v (.int IntKind.i64 x2))] []).trans (c_c k kp (JJ k kp) (LL k kp) x0 x1 x2))
theorem f_eq (k kp : D → List Blk → Prop) (x0 : Int) (x1 : Int) (x2 : Int) : funW cfg Try.f50 [(.v (.int IntKind.i64 x0)), (.v (.int IntKind.i64 x1)), (.v (.int IntKind.i64 x2))] [] k kp = f x0 x1 x2 (fun y0 y1 => k (.tup [(.v (.bool y0)), (.v (.bool y1))]) []) := by
  rw [f_def, c_raw]; simp only [j11_eq, j12_eq]; first | done | rfl
noncomputable def ent0 : Entry := fun args blks k _ => match args, blks with
  | [d0, d1, d2], [] => aInt IntKind.i64 d0 fun x0 => aInt IntKind.i64 d1 fun x1 => aInt IntKind.i64 d2 fun x2 => f x0 x1 x2 (fun y0 y1 => k (.tup [(.v (.bool y0)), (.v (.bool y1))]) [])
  | _, _ => False
noncomputable def ent : Entry := fun args blks k kp => ent0 (convA [none, none, none] args) blks k kp
theorem ok : EntOk Try.prog 0 0 50 ent := by
  refine EntOk.conv (EntOk.of (funW_ok (cfg := cfg) (tyOk_of rfl rfl tyL_ok) (eqOk_none rfl) mixed_ok (tab_ok ?_) Try.func50 (by rfl) (by rfl)) ?_) _
  · intro p hp
    cases hp
  · intro args blks k kp h k' kp'
    match args, blks, h with
    | [d0, d1, d2], [], h =>
    dsimp only [ent0] at h
    have h9 := aInt_elim h; clear h; obtain ⟨x0, rfl, h⟩ := h9
    have h9 := aInt_elim h; clear h; obtain ⟨x1, rfl, h⟩ := h9
    have h9 := aInt_elim h; clear h; obtain ⟨x2, rfl, h⟩ := h9
    exact (f_eq k' kp' x0 x1 x2).symm
end N50
end Go.Proofs.Yt
namespace Go.Proofs.Yt
open Go Go.Aw Go.Proofs
set_option linter.unusedVariables false
set_option linter.unusedSimpArgs false
set_option maxRecDepth 100000
/-! dyehouse/num.Flag -/
namespace N51
noncomputable def cfg : Cfg := { P := Try.prog, ty := tys, E := tab [], atSeq := tab [], atLoop := tab [], outs := [] }
noncomputable def body : Code := bodyOf Try.f51
def c (x0 : Bool) (k : Int → Prop) : Prop :=
  (br x0 (k (1 : Int)) (k (0 : Int)))
def f0 (x0 : Bool) (k : Int → Prop) : Prop := c x0 k
theorem f_ex : ∃ g : Bool → (Int → Prop) → Prop, g = f0 := ⟨_, rfl⟩
noncomputable def f : Bool → (Int → Prop) → Prop := Classical.choose f_ex
theorem f_def : f = f0 := Classical.choose_spec f_ex
noncomputable def JJ (k kp : D → List Blk → Prop) : Nat → St → Prop := pick none' []
noncomputable def LL (k kp : D → List Blk → Prop) : Nat → St → Prop := pick none' []
theorem c_c (k kp : D → List Blk → Prop) (J L : Nat → St → Prop) (x0 : Bool) : runC cfg 1000001 J L none'' [] body (topK cfg Try.f51 k kp) (st0 Try.f51 [(.v (.bool x0))] []) = c x0 (fun y0 => k (.v (.int IntKind.i64 y0)) []) := by kernel_rfl
theorem c_ag (k kp : D → List Blk → Prop) : agPL cfg 1000001 (JJ k kp) (LL k kp) [] body = agPR cfg 1000001 none'' [] body (topK cfg Try.f51 k kp) := by kernel_rfl
theorem body_is : Try.f51.body = some body := by kernel_rfl
theorem c_raw (k kp : D → List Blk → Prop) (x0 : Bool) : funW cfg Try.f51 [(.v (.bool x0))] [] k kp = c x0 (fun y0 => k (.v (.int IntKind.i64 y0)) []) :=
  Eq.mp (by kernel_rfl) ((funW_run (AG := none'') body_is (c_ag k kp) [(.v (.bool x0))] []).trans (c_c k kp (JJ k kp) (LL k kp) x0))
theorem f_eq (k kp : D → List Blk → Prop) (x0 : Bool) : funW cfg Try.f51 [(.v (.bool x0))] [] k kp = f x0 (fun y0 => k (.v (.int IntKind.i64 y0)) []) := by
  rw [f_def, c_raw]; rfl
noncomputable def ent0 : Entry := fun args blks k _ => match args, blks with
  | [d0], [] => aBool d0 fun x0 => f x0 (fun y0 => k (.v (.int IntKind.i64 y0)) [])
  | _, _ => False
noncomputable def ent : Entry := fun args blks k kp => ent0 (convA [none] args) blks k kp
theorem ok : EntOk Try.prog 0 0 51 ent := by
  refine EntOk.conv (EntOk.of (funW_ok (cfg := cfg) (tyOk_of rfl rfl tyL_ok) (eqOk_none rfl) mixed_ok (tab_ok ?_) Try.func51 (by rfl) (by rfl)) ?_) _
  · intro p hp
    cases hp
  · intro args blks k kp h k' kp'
    match args, blks, h with
    | [d0], [], h =>
    dsimp only [ent0] at h
    have h9 := aBool_elim h; clear h; obtain ⟨x0, rfl, h⟩ := h9
    exact (f_eq k' kp' x0).symm
end N51
end Go.Proofs.Yt
namespace Go.Proofs.Yt
open Go Go.Aw Go.Proofs
set_option linter.unusedVariables false
set_option linter.unusedSimpArgs false
set_option maxRecDepth 100000
/-! dyehouse/num.Do -/
namespace N25
noncomputable def cfg : Cfg := { P := Try.prog, ty := tys, E := tab [(48, N48.ent), (49, N49.ent), (50, N50.ent), (51, N51.ent)], atSeq := tab [(17, ⟨[(0, .keep), (1, .keep), (2, .keep)]⟩)], atLoop := tab [], outs := [] }
noncomputable def body : Code := bodyOf Try.f25
def j17 (x0 : Int) (x1 : Int) (x2 : Int) (k : Int → Bool → Prop) : Prop :=
  (N49.f x0 x1 x2 (fun (y0_2 : Int) (y1_2 : Bool) => (br y1_2 (k y0_2 true) (N50.f x0 x1 x2 (fun (y0_3 : Bool) (y1_3 : Bool) => (N51.f y0_3 (fun (y0_4 : Int) => (k y0_4 y1_3))))))))
def c (j17 : Int → Int → Int → Prop) (x0 : Int) (x1 : Int) (x2 : Int) (k : Int → Bool → Prop) : Prop :=
  (br (x0 == (1 : Int)) (k (IntKind.i64.wrap (x1 + x2)) true) (br (x0 == (2 : Int)) (k (IntKind.i64.wrap (x1 - x2)) true) (br (x0 == (3 : Int)) (k (IntKind.i64.wrap (x1 * x2)) true) (br (x0 == (4 : Int)) (k (andI IntKind.i64 x1 x2) true) (br (x0 == (5 : Int)) (k (orI IntKind.i64 x1 x2) true) (br (x0 == (6 : Int)) (k (xorI IntKind.i64 x1 x2) true) (br (x0 == (10 : Int)) (br (x0 == (10 : Int)) (N48.f x0 x1 x2 (fun (y0_0 : Int) (y1_0 : Bool) => (k y0_0 y1_0))) (j17 x0 x1 x2)) (br (x0 == (11 : Int)) (N48.f x0 x1 x2 (fun (y0_1 : Int) (y1_1 : Bool) => (k y0_1 y1_1))) (j17 x0 x1 x2)))))))))
def j17' (x0 : Int) (x1 : Int) (x2 : Int) (k : Int → Bool → Prop) : Prop := j17 x0 x1 x2 k
def f0 (x0 : Int) (x1 : Int) (x2 : Int) (k : Int → Bool → Prop) : Prop := c (fun x0 x1 x2 => j17' x0 x1 x2 k) x0 x1 x2 k
theorem f_ex : ∃ g : Int → Int → Int → (Int → Bool → Prop) → Prop, g = f0 := ⟨_, rfl⟩
noncomputable def f : Int → Int → Int → (Int → Bool → Prop) → Prop := Classical.choose f_ex
theorem f_def : f = f0 := Classical.choose_spec f_ex
def m17 (x0 : Int) (x1 : Int) (x2 : Int) : St := { tmps := mkT 71 0 [(0, (.v (.int IntKind.i64 x0))), (1, (.v (.int IntKind.i64 x1))), (2, (.v (.int IntKind.i64 x2)))], hp := [], m := 0 }
noncomputable def X17 (k kp : D → List Blk → Prop) : St → Prop := atP cfg (pick none' []) [1, 1] body (topK cfg Try.f25 k kp)
noncomputable def JJ (k kp : D → List Blk → Prop) : Nat → St → Prop := pick none' [(17, X17 k kp)]
noncomputable def LL (k kp : D → List Blk → Prop) : Nat → St → Prop := pick none' []
theorem j17_c (k kp : D → List Blk → Prop) (J L : Nat → St → Prop) (x0 : Int) (x1 : Int) (x2 : Int) : runC cfg 17 J L (pick none' []) [1, 1] body (topK cfg Try.f25 k kp) (m17 x0 x1 x2) = j17 x0 x1 x2 (fun y0 y1 => k (.tup [(.v (.int IntKind.i64 y0)), (.v (.bool y1))]) []) := by kernel_rfl
theorem j17_ag (k kp : D → List Blk → Prop) : agPL cfg 17 (JJ k kp) (LL k kp) [1, 1] body = agPR cfg 17 (pick none' []) [1, 1] body (topK cfg Try.f25 k kp) := by kernel_rfl
theorem j17_raw (k kp : D → List Blk → Prop) (x0 : Int) (x1 : Int) (x2 : Int) : X17 k kp (m17 x0 x1 x2) = j17 x0 x1 x2 (fun y0 y1 => k (.tup [(.v (.int IntKind.i64 y0)), (.v (.bool y1))]) []) :=
  Eq.mp (by kernel_rfl) ((atP_run (j17_ag k kp) (m17 x0 x1 x2)).trans (j17_c k kp (JJ k kp) (LL k kp) x0 x1 x2))
theorem j17_eq (k kp : D → List Blk → Prop) (x0 : Int) (x1 : Int) (x2 : Int) : X17 k kp (m17 x0 x1 x2) = j17' x0 x1 x2 (fun y0 y1 => k (.tup [(.v (.int IntKind.i64 y0)), (.v (.bool y1))]) []) := by
  rw [j17_raw]; rfl
theorem c_c (k kp : D → List Blk → Prop) (J L : Nat → St → Prop) (x0 : Int) (x1 : Int) (x2 : Int) : runC cfg 1000001 J L none'' [] body (topK cfg Try.f25 k kp) (st0 Try.f25 [(.v (.int IntKind.i64 x0)), (.v (.int IntKind.i64 x1)), (.v (.int IntKind.i64 x2))] []) = c (fun x0 x1 x2 => J 17 (m17 x0 x1 x2)) x0 x1 x2 (fun y0 y1 => k (.tup [(.v (.int IntKind.i64 y0)), (.v (.bool y1))]) []) := by kernel_rfl
theorem c_ag (k kp : D → List Blk → Prop) : agPL cfg 1000001 (JJ k kp) (LL k kp) [] body = agPR cfg 1000001 none'' [] body (topK cfg Try.f25 k kp) := by kernel_rfl
theorem body_is : Try.f25.body = some body := by kernel_rfl
theorem c_raw (k kp : D → List Blk → Prop) (x0 : Int) (x1 : Int) (x2 : Int) : funW cfg Try.f25 [(.v (.int IntKind.i64 x0)), (.v (.int IntKind.i64 x1)), (.v (.int IntKind.i64 x2))] [] k kp = c (fun x0 x1 x2 => X17 k kp (m17 x0 x1 x2)) x0 x1 x2 (fun y0 y1 => k (.tup [(.v (.int IntKind.i64 y0)), (.v (.bool y1))]) []) :=
  Eq.mp (by kernel_rfl) ((funW_run (AG := none'') body_is (c_ag k kp) [(.v (.int IntKind.i64 x0)), (.v (.int IntKind.i64 x1)), (.v (.int IntKind.i64 x2))] []).trans (c_c k kp (JJ k kp) (LL k kp) x0 x1 x2))
theorem f_eq (k kp : D → List Blk → Prop) (x0 : Int) (x1 : Int) (x2 : Int) : funW cfg Try.f25 [(.v (.int IntKind.i64 x0)), (.v (.int IntKind.i64 x1)), (.v (.int IntKind.i64 x2))] [] k kp = f x0 x1 x2 (fun y0 y1 => k (.tup [(.v (.int IntKind.i64 y0)), (.v (.bool y1))]) []) := by
  rw [f_def, c_raw]; simp only [j17_eq]; first | done | rfl
noncomputable def ent0 : Entry := fun args blks k _ => match args, blks with
  | [d0, d1, d2], [] => aInt IntKind.i64 d0 fun x0 => aInt IntKind.i64 d1 fun x1 => aInt IntKind.i64 d2 fun x2 => f x0 x1 x2 (fun y0 y1 => k (.tup [(.v (.int IntKind.i64 y0)), (.v (.bool y1))]) [])
  | _, _ => False
noncomputable def ent : Entry := fun args blks k kp => ent0 (convA [none, none, none] args) blks k kp
theorem ok : EntOk Try.prog 0 0 25 ent := by
  refine EntOk.conv (EntOk.of (funW_ok (cfg := cfg) (tyOk_of rfl rfl tyL_ok) (eqOk_none rfl) mixed_ok (tab_ok ?_) Try.func25 (by rfl) (by rfl)) ?_) _
  · intro p hp
    simp only [List.mem_cons, List.not_mem_nil, or_false] at hp
    rcases hp with rfl | rfl | rfl | rfl
    · exact N48.ok
    · exact N49.ok
    · exact N50.ok
    · exact N51.ok
  · intro args blks k kp h k' kp'
    match args, blks, h with
    | [d0, d1, d2], [], h =>
    dsimp only [ent0] at h
    have h9 := aInt_elim h; clear h; obtain ⟨x0, rfl, h⟩ := h9
    have h9 := aInt_elim h; clear h; obtain ⟨x1, rfl, h⟩ := h9
    have h9 := aInt_elim h; clear h; obtain ⟨x2, rfl, h⟩ := h9
    exact (f_eq k' kp' x0 x1 x2).symm
end N25
end Go.Proofs.Yt
namespace Go.Proofs.Yt
open Go Go.Aw Go.Proofs
set_option linter.unusedVariables false
set_option linter.unusedSimpArgs false
set_option maxRecDepth 100000
/-! dyehouse/num.Is -/
namespace N27
noncomputable def cfg : Cfg := { P := Try.prog, ty := tys, E := tab [], atSeq := tab [], atLoop := tab [], outs := [] }
noncomputable def body : Code := bodyOf Try.f27
def c (x0 : Int) (k : Bool → Prop) : Prop :=
  (br (decide (x0 ≥ (1 : Int))) (k (decide (x0 ≤ (15 : Int)))) (k false))
def f0 (x0 : Int) (k : Bool → Prop) : Prop := c x0 k
theorem f_ex : ∃ g : Int → (Bool → Prop) → Prop, g = f0 := ⟨_, rfl⟩
noncomputable def f : Int → (Bool → Prop) → Prop := Classical.choose f_ex
theorem f_def : f = f0 := Classical.choose_spec f_ex
noncomputable def JJ (k kp : D → List Blk → Prop) : Nat → St → Prop := pick none' []
noncomputable def LL (k kp : D → List Blk → Prop) : Nat → St → Prop := pick none' []
theorem c_c (k kp : D → List Blk → Prop) (J L : Nat → St → Prop) (x0 : Int) : runC cfg 1000001 J L none'' [] body (topK cfg Try.f27 k kp) (st0 Try.f27 [(.v (.int IntKind.i64 x0))] []) = c x0 (fun y0 => k (.v (.bool y0)) []) := by kernel_rfl
theorem c_ag (k kp : D → List Blk → Prop) : agPL cfg 1000001 (JJ k kp) (LL k kp) [] body = agPR cfg 1000001 none'' [] body (topK cfg Try.f27 k kp) := by kernel_rfl
theorem body_is : Try.f27.body = some body := by kernel_rfl
theorem c_raw (k kp : D → List Blk → Prop) (x0 : Int) : funW cfg Try.f27 [(.v (.int IntKind.i64 x0))] [] k kp = c x0 (fun y0 => k (.v (.bool y0)) []) :=
  Eq.mp (by kernel_rfl) ((funW_run (AG := none'') body_is (c_ag k kp) [(.v (.int IntKind.i64 x0))] []).trans (c_c k kp (JJ k kp) (LL k kp) x0))
theorem f_eq (k kp : D → List Blk → Prop) (x0 : Int) : funW cfg Try.f27 [(.v (.int IntKind.i64 x0))] [] k kp = f x0 (fun y0 => k (.v (.bool y0)) []) := by
  rw [f_def, c_raw]; rfl
noncomputable def ent0 : Entry := fun args blks k _ => match args, blks with
  | [d0], [] => aInt IntKind.i64 d0 fun x0 => f x0 (fun y0 => k (.v (.bool y0)) [])
  | _, _ => False
noncomputable def ent : Entry := fun args blks k kp => ent0 (convA [none] args) blks k kp
theorem ok : EntOk Try.prog 0 0 27 ent := by
  refine EntOk.conv (EntOk.of (funW_ok (cfg := cfg) (tyOk_of rfl rfl tyL_ok) (eqOk_none rfl) mixed_ok (tab_ok ?_) Try.func27 (by rfl) (by rfl)) ?_) _
  · intro p hp
    cases hp
  · intro args blks k kp h k' kp'
    match args, blks, h with
    | [d0], [], h =>
    dsimp only [ent0] at h
    have h9 := aInt_elim h; clear h; obtain ⟨x0, rfl, h⟩ := h9
    exact (f_eq k' kp' x0).symm
end N27
end Go.Proofs.Yt
namespace Go.Proofs.Yt
open Go Go.Aw Go.Proofs
set_option linter.unusedVariables false
set_option linter.unusedSimpArgs false
set_option maxRecDepth 100000
/-! dyehouse/num.Fold -/
namespace N31
noncomputable def cfg : Cfg := { P := Try.prog, ty := tys, E := tab [(25, N25.ent)], atSeq := tab [(11, ⟨[(0, .keep)]⟩)], atLoop := tab [(4, ⟨[(0, .keep), (2, .keep), (17, .keep), (18, .keep), (19, .keep)]⟩)], outs := [] }
noncomputable def body : Code := bodyOf Try.f31
def l4 (j11 : Int → Prop) (ag4 : Int → Int → Prop) (x0 : Int) (x2 : (List Int)) (x17 : (List Int)) (x18 : Int) (x19 : Int) (k : Int → Bool → Prop) : Prop :=
  (br (decide (x19 < x18)) ((inB 0 x19 ((((x17).length : Nat) : Int) - 1)) ∧ ((inB 0 x19 ((((x2).length : Nat) : Int) - 1)) ∧ (N25.f (x17.getD (Int.toNat x19) (0)) x0 (x2.getD (Int.toNat x19) (0)) (fun (y0_0 : Int) (y1_0 : Bool) => (br (!y1_0) (k (0 : Int) false) (ag4 y0_0 (IntKind.i64.wrap (x19 + (1 : Int))))))))) (j11 x0))
def j11 (x0 : Int) (k : Int → Bool → Prop) : Prop :=
  (k x0 true)
def c (l4 : Int → (List Int) → (List Int) → Int → Int → Prop) (x0 : Int) (x1 : (List Int)) (x2 : (List Int)) (k : Int → Bool → Prop) : Prop :=
  (br (((((x1).length : Nat) : Int)) != ((((x2).length : Nat) : Int))) (k (0 : Int) false) (l4 x0 x2 x1 ((((x1).length : Nat) : Int)) (0 : Int)))
def j11' (x0 : Int) (k : Int → Bool → Prop) : Prop := j11 x0 k
def l4' (x0 : Int) (x2 : (List Int)) (x17 : (List Int)) (x18 : Int) (x19 : Int) (k : Int → Bool → Prop) : Prop := ∃ n, loopS (fun (ag : (Int × Int) → Prop) (s : Int × Int) => l4 (fun x0 => j11' x0 k) (fun x0 x19 => ag (x0, x19)) s.1 x2 x17 x18 s.2 k) n (x0, x19)
def f0 (x0 : Int) (x1 : (List Int)) (x2 : (List Int)) (k : Int → Bool → Prop) : Prop := c (fun x0 x2 x17 x18 x19 => l4' x0 x2 x17 x18 x19 k) x0 x1 x2 k
theorem f_ex : ∃ g : Int → (List Int) → (List Int) → (Int → Bool → Prop) → Prop, g = f0 := ⟨_, rfl⟩
noncomputable def f : Int → (List Int) → (List Int) → (Int → Bool → Prop) → Prop := Classical.choose f_ex
theorem f_def : f = f0 := Classical.choose_spec f_ex
def mL4 (x0 : Int) (x2 : (List Int)) (x17 : (List Int)) (x18 : Int) (x19 : Int) : St := { tmps := mkT 39 0 [(0, (.v (.int IntKind.i64 x0))), (2, (.fz (Ty.int IntKind.i64) x2)), (17, (.fz (Ty.int IntKind.i64) x17)), (18, (.v (.int IntKind.i64 x18))), (19, (.v (.int IntKind.i64 x19)))], hp := [], m := 0 }
def m11 (x0 : Int) : St := { tmps := mkT 39 0 [(0, (.v (.int IntKind.i64 x0)))], hp := [], m := 0 }
noncomputable def YL4 (k kp : D → List Blk → Prop) : (St → Prop) → St → Prop := loopB cfg (sub [1, 1, 0, 1, 0, 0] body) (contK cfg (pick none' []) [1, 1, 0, 1, 0] body (topK cfg Try.f31 k kp))
noncomputable def XL4 (k kp : D → List Blk → Prop) : St → Prop := fun st => ∃ n, loopN (YL4 k kp) n st
noncomputable def X11 (k kp : D → List Blk → Prop) : St → Prop := atP cfg (pick none' []) [1, 1, 1] body (topK cfg Try.f31 k kp)
noncomputable def JJ_4 (k kp : D → List Blk → Prop) (ag4 : St → Prop) : Nat → St → Prop := pick none' [(11, X11 k kp)]
noncomputable def LL_4 (k kp : D → List Blk → Prop) (ag4 : St → Prop) : Nat → St → Prop := pick none' [(4, XL4 k kp)]
noncomputable def JJ (k kp : D → List Blk → Prop) : Nat → St → Prop := pick none' [(11, X11 k kp)]
noncomputable def LL (k kp : D → List Blk → Prop) : Nat → St → Prop := pick none' [(4, XL4 k kp)]
theorem j11_c (k kp : D → List Blk → Prop) (J L : Nat → St → Prop) (x0 : Int) : runC cfg 11 J L (pick none' []) [1, 1, 1] body (topK cfg Try.f31 k kp) (m11 x0) = j11 x0 (fun y0 y1 => k (.tup [(.v (.int IntKind.i64 y0)), (.v (.bool y1))]) []) := by kernel_rfl
theorem j11_ag (k kp : D → List Blk → Prop) : agPL cfg 11 (JJ k kp) (LL k kp) [1, 1, 1] body = agPR cfg 11 (pick none' []) [1, 1, 1] body (topK cfg Try.f31 k kp) := by kernel_rfl
theorem j11_raw (k kp : D → List Blk → Prop) (x0 : Int) : X11 k kp (m11 x0) = j11 x0 (fun y0 y1 => k (.tup [(.v (.int IntKind.i64 y0)), (.v (.bool y1))]) []) :=
  Eq.mp (by kernel_rfl) ((atP_run (j11_ag k kp) (m11 x0)).trans (j11_c k kp (JJ k kp) (LL k kp) x0))
theorem j11_eq (k kp : D → List Blk → Prop) (x0 : Int) : X11 k kp (m11 x0) = j11' x0 (fun y0 y1 => k (.tup [(.v (.int IntKind.i64 y0)), (.v (.bool y1))]) []) := by
  rw [j11_raw]; rfl
theorem l4_c (k kp : D → List Blk → Prop) (J L : Nat → St → Prop) (ag4 : St → Prop) (x0 : Int) (x2 : (List Int)) (x17 : (List Int)) (x18 : Int) (x19 : Int) : runC cfg 1000001 J L (pick none' [(4, ag4)]) [1, 1, 0, 1, 0, 0] body (topK cfg Try.f31 k kp) (mL4 x0 x2 x17 x18 x19) = l4 (fun x0 => J 11 (m11 x0)) (fun x0 x19 => ag4 (mL4 x0 x2 x17 x18 x19)) x0 x2 x17 x18 x19 (fun y0 y1 => k (.tup [(.v (.int IntKind.i64 y0)), (.v (.bool y1))]) []) := by kernel_rfl
theorem l4_ag (k kp : D → List Blk → Prop) (ag4 : St → Prop) : agPL cfg 1000001 (JJ_4 k kp ag4) (LL_4 k kp ag4) [1, 1, 0, 1, 0, 0] body = agPR cfg 1000001 (pick none' [(4, ag4)]) [1, 1, 0, 1, 0, 0] body (topK cfg Try.f31 k kp) := by kernel_rfl
theorem l4_raw (k kp : D → List Blk → Prop) (ag4 : St → Prop) (x0 : Int) (x2 : (List Int)) (x17 : (List Int)) (x18 : Int) (x19 : Int) : YL4 k kp ag4 (mL4 x0 x2 x17 x18 x19) = l4 (fun x0 => X11 k kp (m11 x0)) (fun x0 x19 => ag4 (mL4 x0 x2 x17 x18 x19)) x0 x2 x17 x18 x19 (fun y0 y1 => k (.tup [(.v (.int IntKind.i64 y0)), (.v (.bool y1))]) []) :=
  Eq.mp (by kernel_rfl) ((atP_run (l4_ag k kp ag4) (mL4 x0 x2 x17 x18 x19)).trans (l4_c k kp (JJ_4 k kp ag4) (LL_4 k kp ag4) ag4 x0 x2 x17 x18 x19))
theorem l4_eq (k kp : D → List Blk → Prop) (x0 : Int) (x2 : (List Int)) (x17 : (List Int)) (x18 : Int) (x19 : Int) : XL4 k kp (mL4 x0 x2 x17 x18 x19) = l4' x0 x2 x17 x18 x19 (fun y0 y1 => k (.tup [(.v (.int IntKind.i64 y0)), (.v (.bool y1))]) []) :=
  loop_eq (mk := fun (s : Int × Int) => mL4 s.1 x2 x17 x18 s.2) (fun again s => by rw [l4_raw k kp again s.1 x2 x17 x18 s.2]; simp only [j11_eq]; first | done | rfl) (x0, x19)
theorem c_c (k kp : D → List Blk → Prop) (J L : Nat → St → Prop) (x0 : Int) (x1 : (List Int)) (x2 : (List Int)) : runC cfg 1000001 J L none'' [] body (topK cfg Try.f31 k kp) (st0 Try.f31 [(.v (.int IntKind.i64 x0)), (.fz (Ty.int IntKind.i64) x1), (.fz (Ty.int IntKind.i64) x2)] []) = c (fun x0 x2 x17 x18 x19 => L 4 (mL4 x0 x2 x17 x18 x19)) x0 x1 x2 (fun y0 y1 => k (.tup [(.v (.int IntKind.i64 y0)), (.v (.bool y1))]) []) := by kernel_rfl
theorem c_ag (k kp : D → List Blk → Prop) : agPL cfg 1000001 (JJ k kp) (LL k kp) [] body = agPR cfg 1000001 none'' [] body (topK cfg Try.f31 k kp) := by kernel_rfl
theorem body_is : Try.f31.body = some body := by kernel_rfl
theorem c_raw (k kp : D → List Blk → Prop) (x0 : Int) (x1 : (List Int)) (x2 : (List Int)) : funW cfg Try.f31 [(.v (.int IntKind.i64 x0)), (.fz (Ty.int IntKind.i64) x1), (.fz (Ty.int IntKind.i64) x2)] [] k kp = c (fun x0 x2 x17 x18 x19 => XL4 k kp (mL4 x0 x2 x17 x18 x19)) x0 x1 x2 (fun y0 y1 => k (.tup [(.v (.int IntKind.i64 y0)), (.v (.bool y1))]) []) :=
  Eq.mp (by kernel_rfl) ((funW_run (AG := none'') body_is (c_ag k kp) [(.v (.int IntKind.i64 x0)), (.fz (Ty.int IntKind.i64) x1), (.fz (Ty.int IntKind.i64) x2)] []).trans (c_c k kp (JJ k kp) (LL k kp) x0 x1 x2))
theorem f_eq (k kp : D → List Blk → Prop) (x0 : Int) (x1 : (List Int)) (x2 : (List Int)) : funW cfg Try.f31 [(.v (.int IntKind.i64 x0)), (.fz (Ty.int IntKind.i64) x1), (.fz (Ty.int IntKind.i64) x2)] [] k kp = f x0 x1 x2 (fun y0 y1 => k (.tup [(.v (.int IntKind.i64 y0)), (.v (.bool y1))]) []) := by
  rw [f_def, c_raw]; simp only [l4_eq]; first | done | rfl
noncomputable def ent0 : Entry := fun args blks k _ => match args, blks with
  | [d0, d1, d2], [] => aInt IntKind.i64 d0 fun x0 => aFz (Ty.int IntKind.i64) d1 fun x1 => aFz (Ty.int IntKind.i64) d2 fun x2 => f x0 x1 x2 (fun y0 y1 => k (.tup [(.v (.int IntKind.i64 y0)), (.v (.bool y1))]) [])
  | _, _ => False
noncomputable def ent : Entry := fun args blks k kp => ent0 (convA [none, some (Ty.int IntKind.i64), some (Ty.int IntKind.i64)] args) blks k kp
theorem ok : EntOk Try.prog 0 0 31 ent := by
  refine EntOk.conv (EntOk.of (funW_ok (cfg := cfg) (tyOk_of rfl rfl tyL_ok) (eqOk_none rfl) mixed_ok (tab_ok ?_) Try.func31 (by rfl) (by rfl)) ?_) _
  · intro p hp
    simp only [List.mem_cons, List.not_mem_nil, or_false] at hp
    rcases hp with rfl
    · exact N25.ok
  · intro args blks k kp h k' kp'
    match args, blks, h with
    | [d0, d1, d2], [], h =>
    dsimp only [ent0] at h
    have h9 := aInt_elim h; clear h; obtain ⟨x0, rfl, h⟩ := h9
    have h9 := aFz_elim (t := (Ty.int IntKind.i64)) h; clear h; obtain ⟨x1, rfl, h⟩ := h9
    have h9 := aFz_elim (t := (Ty.int IntKind.i64)) h; clear h; obtain ⟨x2, rfl, h⟩ := h9
    exact (f_eq k' kp' x0 x1 x2).symm
end N31
end Go.Proofs.Yt
namespace Go.Proofs.Yt
open Go Go.Aw Go.Proofs
set_option linter.unusedVariables false
set_option linter.unusedSimpArgs false
set_option maxRecDepth 100000
/-! dyehouse/dyehouselaw01.works -/
namespace N28
noncomputable def cfg : Cfg := { P := Try.prog, ty := tys, E := tab [(25, N25.ent), (31, N31.ent), (51, N51.ent), (32, N32.ent), (27, N27.ent)], atSeq := tab [], atLoop := tab [], outs := [] }
noncomputable def body : Code := bodyOf Try.f28
def c (k : Bool → Prop) : Prop :=
  (N25.f (10 : Int) (-7 : Int) (2 : Int) (fun (y0_0 : Int) (y1_0 : Bool) => (N25.f (11 : Int) (5 : Int) (0 : Int) (fun (y0_1 : Int) (y1_1 : Bool) => (N31.f (2 : Int) ([(1 : Int), (3 : Int)] : List Int) ([(3 : Int), (4 : Int)] : List Int) (fun (y0_2 : Int) (y1_2 : Bool) => (br (y0_0 == (-3 : Int)) (br y1_0 (br (!y1_1) (br (y0_2 == (20 : Int)) (br y1_2 (N51.f true (fun (y0_3 : Int) => (br (y0_3 == (1 : Int)) (N32.f (-1 : Int) (fun (y0_4 : Int) => (br (y0_4 == (63 : Int)) (N27.f (15 : Int) (fun (y0_5 : Bool) => (br y0_5 (N27.f (16 : Int) (fun (y0_6 : Bool) => (k (!y0_6)))) (k false)))) (k false)))) (k false)))) (k false)) (k false)) (k false)) (k false)) (k false))))))))
def f0 (k : Bool → Prop) : Prop := c k
theorem f_ex : ∃ g : (Bool → Prop) → Prop, g = f0 := ⟨_, rfl⟩
noncomputable def f : (Bool → Prop) → Prop := Classical.choose f_ex
theorem f_def : f = f0 := Classical.choose_spec f_ex
noncomputable def JJ (k kp : D → List Blk → Prop) : Nat → St → Prop := pick none' []
noncomputable def LL (k kp : D → List Blk → Prop) : Nat → St → Prop := pick none' []
theorem c_c (k kp : D → List Blk → Prop) (J L : Nat → St → Prop) : runC cfg 1000001 J L none'' [] body (topK cfg Try.f28 k kp) (st0 Try.f28 [] []) = c (fun y0 => k (.v (.bool y0)) []) := by kernel_rfl
theorem c_ag (k kp : D → List Blk → Prop) : agPL cfg 1000001 (JJ k kp) (LL k kp) [] body = agPR cfg 1000001 none'' [] body (topK cfg Try.f28 k kp) := by kernel_rfl
theorem body_is : Try.f28.body = some body := by kernel_rfl
theorem c_raw (k kp : D → List Blk → Prop) : funW cfg Try.f28 [] [] k kp = c (fun y0 => k (.v (.bool y0)) []) :=
  Eq.mp (by kernel_rfl) ((funW_run (AG := none'') body_is (c_ag k kp) [] []).trans (c_c k kp (JJ k kp) (LL k kp)))
theorem f_eq (k kp : D → List Blk → Prop) : funW cfg Try.f28 [] [] k kp = f (fun y0 => k (.v (.bool y0)) []) := by
  rw [f_def, c_raw]; rfl
noncomputable def ent0 : Entry := fun args blks k _ => match args, blks with
  | [], [] => f (fun y0 => k (.v (.bool y0)) [])
  | _, _ => False
noncomputable def ent : Entry := fun args blks k kp => ent0 (convA [] args) blks k kp
theorem ok : EntOk Try.prog 0 0 28 ent := by
  refine EntOk.conv (EntOk.of (funW_ok (cfg := cfg) (tyOk_of rfl rfl tyL_ok) (eqOk_none rfl) mixed_ok (tab_ok ?_) Try.func28 (by rfl) (by rfl)) ?_) _
  · intro p hp
    simp only [List.mem_cons, List.not_mem_nil, or_false] at hp
    rcases hp with rfl | rfl | rfl | rfl | rfl
    · exact N25.ok
    · exact N31.ok
    · exact N51.ok
    · exact N32.ok
    · exact N27.ok
  · intro args blks k kp h k' kp'
    match args, blks, h with
    | [], [], h =>
    dsimp only [ent0] at h
    exact (f_eq k' kp').symm
end N28
end Go.Proofs.Yt
namespace Go.Proofs.Yt
open Go Go.Aw Go.Proofs
set_option linter.unusedVariables false
set_option linter.unusedSimpArgs false

/-- Shifts, by what 64 leaves. -/
def shI (b : Int) : Int := w64 (Int.tmod (IntKind.u64.wrap b) 64)
theorem shI_eq (b : Int) : shI b = b % 64 := by
  unfold shI
  rw [wu64_eq, Int.tmod_eq_emod_of_nonneg (by omega), w64_id ⟨by omega, by omega⟩]
  omega

def divI (op a b : Int) : Int × Bool := if b = 0 then (0, false) else if op = 10 then (w64 (a.tdiv b), true) else (a.tmod b, true)
def shiftsI (op a b : Int) : Int × Bool :=
  if op = 7 then (w64 (a * 2 ^ (b % 64).toNat), true) else if op = 8 then (w64 (Int.fdiv (IntKind.u64.wrap a) (2 ^ (b % 64).toNat)), true) else if op = 9 then (Int.fdiv a (2 ^ (b % 64).toNat), true) else (0, false)
def compI (op a b : Int) : Bool × Bool :=
  if op = 12 then (a == b, true) else if op = 13 then (!(a == b), true) else if op = 15 then (decide (a ≤ b), true) else if op = 14 then (decide (a < b), true) else (false, false)
def flagI (b : Bool) : Int := bif b then 1 else 0
def doI (op a b : Int) : Int × Bool :=
  if op = 1 then (w64 (a + b), true) else if op = 2 then (w64 (a - b), true) else if op = 3 then (w64 (a * b), true) else if op = 4 then (andI .i64 a b, true) else if op = 5 then (orI .i64 a b, true) else
  if op = 6 then (xorI .i64 a b, true) else if op = 10 ∨ op = 11 then divI op a b else
  if (shiftsI op a b).2 = true then shiftsI op a b else (flagI (compI op a b).1, (compI op a b).2)

theorem shift_s (b : Int) (k : Int → Prop) : N32.f b k ↔ k (b % 64) := by
  rw [N32.f_def]
  unfold N32.f0 N32.c
  have : IntKind.i64.wrap (Int.tmod (IntKind.u64.wrap b) (64 : Int)) = b % 64 := shI_eq b
  rw [this]
  simp

theorem flag_s (b : Bool) (k : Int → Prop) : N51.f b k ↔ k (flagI b) := by
  rw [N51.f_def]
  unfold N51.f0 N51.c flagI
  cases b <;> simp

theorem divides_s (op a b : Int) (k : Int → Bool → Prop) : N48.f op a b k ↔ k (divI op a b).1 (divI op a b).2 := by
  rw [N48.f_def]
  unfold N48.f0 N48.c divI
  by_cases h : b = 0
  · subst h; simp
  · by_cases h2 : op = 10
    · subst h2; simp [h]
    · simp [h, h2]

theorem shifts_s (op a b : Int) (k : Int → Bool → Prop) : N49.f op a b k ↔ k (shiftsI op a b).1 (shiftsI op a b).2 := by
  rw [N49.f_def]
  unfold N49.f0 N49.c
  rw [shift_s]
  have h0 : 0 ≤ b % 64 := by omega
  have h1 : min (b % 64).toNat 64 = (b % 64).toNat := by omega
  simp only [h0, h1, true_and]
  unfold shiftsI
  by_cases h7 : op = 7
  · subst h7; simp
  by_cases h8 : op = 8
  · subst h8; simp
  by_cases h9 : op = 9
  · subst h9; simp
  simp [h7, h8, h9]

theorem comps_s (op a b : Int) (k : Bool → Bool → Prop) : N50.f op a b k ↔ k (compI op a b).1 (compI op a b).2 := by
  rw [N50.f_def]
  unfold N50.f0 N50.c N50.j11' N50.j12' N50.j11 N50.j12 compI
  by_cases h12 : op = 12
  · subst h12; simp
  by_cases h13 : op = 13
  · subst h13; simp
  by_cases h15 : op = 15
  · subst h15
    by_cases hab : a = b
    · subst hab; simp
    · have : decide (a < b) = decide (a ≤ b) := by
        rw [Bool.eq_iff_iff]; simp; omega
      simp [hab, this]
  by_cases h14 : op = 14
  · subst h14; simp
  simp [h12, h13, h14, h15]

theorem do_s (op a b : Int) (k : Int → Bool → Prop) : N25.f op a b k ↔ k (doI op a b).1 (doI op a b).2 := by
  rw [N25.f_def]
  unfold N25.f0 N25.c N25.j17' N25.j17
  simp only [divides_s, shifts_s, comps_s, flag_s]
  unfold doI
  by_cases h : op = 1
  · subst h; simp
  by_cases h2 : op = 2
  · subst h2; simp
  by_cases h3 : op = 3
  · subst h3; simp
  by_cases h4 : op = 4
  · subst h4; simp
  by_cases h5 : op = 5
  · subst h5; simp
  by_cases h6 : op = 6
  · subst h6; simp
  by_cases h10 : op = 10
  · subst h10; simp
  by_cases h11 : op = 11
  · subst h11; simp
  simp only [br_beq, h, h2, h3, h4, h5, h6, h10, h11, if_false, or_self]
  cases hs : (shiftsI op a b).2 <;> simp [hs]

/-! ### Fold -/
def foldI (a : Int) : List Int → List Int → Int × Bool
  | op :: ops, b :: bs => if (doI op a b).2 = true then foldI (doI op a b).1 ops bs else (0, false)
  | _, _ => (a, true)

theorem fold_s (a : Int) (ops bs : List Int) (hl : ops.length < 2 ^ 62) (k : Int → Bool → Prop) (h : if ops.length = bs.length then k (foldI a ops bs).1 (foldI a ops bs).2 else k 0 false) : N31.f a ops bs k := by
  rw [N31.f_def]
  unfold N31.f0 N31.c
  by_cases e : ops.length = bs.length
  · rw [if_pos e] at h
    simp only [e, bne_self_eq_false, br_false]
    unfold N31.l4'
    refine loopS_of (fun s : Int × Int => 0 ≤ s.2 ∧ s.2 ≤ bs.length ∧ k (foldI s.1 (ops.drop s.2.toNat) (bs.drop s.2.toNat)).1 (foldI s.1 (ops.drop s.2.toNat) (bs.drop s.2.toNat)).2) (fun s => (bs.length - s.2).toNat) ?_ ⟨Int.le_refl _, by omega, by simpa using h⟩
    rintro again ⟨x, i⟩ ⟨h0, h1, hk⟩ hag
    simp only at h0 h1 hk hag
    unfold N31.l4 N31.j11' N31.j11
    refine br_of (fun hlt => ?_) (fun hge => ?_)
    · have hlt : i < bs.length := by simpa using hlt
      refine ⟨⟨by omega, by omega, by omega⟩, ⟨by omega, by omega, by omega⟩, ?_⟩
      rw [do_s]
      have ea : ops.drop i.toNat = ops.getD i.toNat 0 :: ops.drop (i.toNat + 1) := by
        rw [List.drop_eq_getElem_cons (by omega)]; simp [List.getD, List.getElem?_eq_getElem (show i.toNat < ops.length by omega)]
      have eb : bs.drop i.toNat = bs.getD i.toNat 0 :: bs.drop (i.toNat + 1) := by
        rw [List.drop_eq_getElem_cons (by omega)]; simp [List.getD, List.getElem?_eq_getElem (show i.toNat < bs.length by omega)]
      rw [ea, eb] at hk
      unfold foldI at hk
      cases hd : (doI (ops.getD i.toNat 0) x (bs.getD i.toNat 0)).2 with
      | false =>
        rw [if_neg (by rw [hd]; simp)] at hk
        exact hk
      | true =>
        simp only [hd, Bool.not_true, br_false]
        rw [if_pos hd] at hk
        have hw : IntKind.i64.wrap (i + 1) = i + 1 := w64_id ⟨by omega, by omega⟩
        rw [hw]
        refine hag _ ⟨by simp; omega, by simp; omega, ?_⟩ (by simp; omega)
        have : (i + 1).toNat = i.toNat + 1 := by omega
        simpa [this] using hk
    · have hge : ¬ i < bs.length := by simpa using hge
      have e1 : ops.drop i.toNat = [] := List.drop_eq_nil_of_le (by omega)
      rw [e1] at hk
      simpa [foldI] using hk
  · rw [if_neg e] at h
    have : ((((ops).length : Nat) : Int) != (((bs).length : Nat) : Int)) = true := by simp; omega
    rw [this]
    exact h

theorem is_s (op : Int) (k : Bool → Prop) : N27.f op k ↔ k (decide (1 ≤ op) && decide (op ≤ 15)) := by
  rw [N27.f_def]
  unfold N27.f0 N27.c
  by_cases h : 1 ≤ op
  · have : decide (op ≥ (1 : Int)) = true := by simpa using h
    simp [this, h]
  · have : decide (op ≥ (1 : Int)) = false := by simpa using h
    simp [this, h]

theorem works_s (k : Bool → Prop) (h : k true) : N28.f k := by
  rw [N28.f_def]
  unfold N28.f0 N28.c
  rw [do_s, do_s]
  refine fold_s _ _ _ (by decide) _ ?_
  rw [if_pos (by rfl)]
  simp only [flag_s, shift_s, is_s]
  have e1 : doI 10 (-7) 2 = (-3, true) := by decide +kernel
  have e2 : (doI 11 5 0).2 = false := by decide +kernel
  have e3 : foldI 2 [1, 3] [3, 4] = (20, true) := by decide +kernel
  rw [e1, e2, e3]
  exact h
end Go.Proofs.Yt
namespace Go.Proofs.Yt
open Go Go.Aw Go.Proofs
set_option linter.unusedVariables false
set_option linter.unusedSimpArgs false
set_option maxRecDepth 100000
/-! dyehouse/dyehouselaw01.NumRing$1 -/
namespace N29
noncomputable def cfg : Cfg := { P := Try.prog, ty := tys, E := tab [(25, N25.ent)], atSeq := tab [], atLoop := tab [], outs := [] }
noncomputable def body : Code := bodyOf Try.f29
def c (x0 : Int) (x1 : Int) (k : Int → Prop) : Prop :=
  (N25.f (1 : Int) x0 x1 (fun (y0_0 : Int) (y1_0 : Bool) => (k y0_0)))
def f0 (x0 : Int) (x1 : Int) (k : Int → Prop) : Prop := c x0 x1 k
theorem f_ex : ∃ g : Int → Int → (Int → Prop) → Prop, g = f0 := ⟨_, rfl⟩
noncomputable def f : Int → Int → (Int → Prop) → Prop := Classical.choose f_ex
theorem f_def : f = f0 := Classical.choose_spec f_ex
noncomputable def JJ (k kp : D → List Blk → Prop) : Nat → St → Prop := pick none' []
noncomputable def LL (k kp : D → List Blk → Prop) : Nat → St → Prop := pick none' []
theorem c_c (k kp : D → List Blk → Prop) (J L : Nat → St → Prop) (x0 : Int) (x1 : Int) : runC cfg 1000001 J L none'' [] body (topK cfg Try.f29 k kp) (st0 Try.f29 [(.v (.int IntKind.i64 x0)), (.v (.int IntKind.i64 x1))] []) = c x0 x1 (fun y0 => k (.v (.int IntKind.i64 y0)) []) := by kernel_rfl
theorem c_ag (k kp : D → List Blk → Prop) : agPL cfg 1000001 (JJ k kp) (LL k kp) [] body = agPR cfg 1000001 none'' [] body (topK cfg Try.f29 k kp) := by kernel_rfl
theorem body_is : Try.f29.body = some body := by kernel_rfl
theorem c_raw (k kp : D → List Blk → Prop) (x0 : Int) (x1 : Int) : funW cfg Try.f29 [(.v (.int IntKind.i64 x0)), (.v (.int IntKind.i64 x1))] [] k kp = c x0 x1 (fun y0 => k (.v (.int IntKind.i64 y0)) []) :=
  Eq.mp (by kernel_rfl) ((funW_run (AG := none'') body_is (c_ag k kp) [(.v (.int IntKind.i64 x0)), (.v (.int IntKind.i64 x1))] []).trans (c_c k kp (JJ k kp) (LL k kp) x0 x1))
theorem f_eq (k kp : D → List Blk → Prop) (x0 : Int) (x1 : Int) : funW cfg Try.f29 [(.v (.int IntKind.i64 x0)), (.v (.int IntKind.i64 x1))] [] k kp = f x0 x1 (fun y0 => k (.v (.int IntKind.i64 y0)) []) := by
  rw [f_def, c_raw]; rfl
noncomputable def ent0 : Entry := fun args blks k _ => match args, blks with
  | [d0, d1], [] => aInt IntKind.i64 d0 fun x0 => aInt IntKind.i64 d1 fun x1 => f x0 x1 (fun y0 => k (.v (.int IntKind.i64 y0)) [])
  | _, _ => False
noncomputable def ent : Entry := fun args blks k kp => ent0 (convA [none, none] args) blks k kp
theorem ok : EntOk Try.prog 0 0 29 ent := by
  refine EntOk.conv (EntOk.of (funW_ok (cfg := cfg) (tyOk_of rfl rfl tyL_ok) (eqOk_none rfl) mixed_ok (tab_ok ?_) Try.func29 (by rfl) (by rfl)) ?_) _
  · intro p hp
    simp only [List.mem_cons, List.not_mem_nil, or_false] at hp
    rcases hp with rfl
    · exact N25.ok
  · intro args blks k kp h k' kp'
    match args, blks, h with
    | [d0, d1], [], h =>
    dsimp only [ent0] at h
    have h9 := aInt_elim h; clear h; obtain ⟨x0, rfl, h⟩ := h9
    have h9 := aInt_elim h; clear h; obtain ⟨x1, rfl, h⟩ := h9
    exact (f_eq k' kp' x0 x1).symm
end N29
end Go.Proofs.Yt
namespace Go.Proofs.Yt
open Go Go.Aw Go.Proofs
set_option linter.unusedVariables false
set_option linter.unusedSimpArgs false
set_option maxRecDepth 100000
/-! dyehouse/dyehouselaw01.NumRing$2 -/
namespace N30
noncomputable def cfg : Cfg := { P := Try.prog, ty := tys, E := tab [(25, N25.ent)], atSeq := tab [], atLoop := tab [], outs := [] }
noncomputable def body : Code := bodyOf Try.f30
def c (x0 : Int) (x1 : Int) (k : Int → Prop) : Prop :=
  (N25.f (3 : Int) x0 x1 (fun (y0_0 : Int) (y1_0 : Bool) => (k y0_0)))
def f0 (x0 : Int) (x1 : Int) (k : Int → Prop) : Prop := c x0 x1 k
theorem f_ex : ∃ g : Int → Int → (Int → Prop) → Prop, g = f0 := ⟨_, rfl⟩
noncomputable def f : Int → Int → (Int → Prop) → Prop := Classical.choose f_ex
theorem f_def : f = f0 := Classical.choose_spec f_ex
noncomputable def JJ (k kp : D → List Blk → Prop) : Nat → St → Prop := pick none' []
noncomputable def LL (k kp : D → List Blk → Prop) : Nat → St → Prop := pick none' []
theorem c_c (k kp : D → List Blk → Prop) (J L : Nat → St → Prop) (x0 : Int) (x1 : Int) : runC cfg 1000001 J L none'' [] body (topK cfg Try.f30 k kp) (st0 Try.f30 [(.v (.int IntKind.i64 x0)), (.v (.int IntKind.i64 x1))] []) = c x0 x1 (fun y0 => k (.v (.int IntKind.i64 y0)) []) := by kernel_rfl
theorem c_ag (k kp : D → List Blk → Prop) : agPL cfg 1000001 (JJ k kp) (LL k kp) [] body = agPR cfg 1000001 none'' [] body (topK cfg Try.f30 k kp) := by kernel_rfl
theorem body_is : Try.f30.body = some body := by kernel_rfl
theorem c_raw (k kp : D → List Blk → Prop) (x0 : Int) (x1 : Int) : funW cfg Try.f30 [(.v (.int IntKind.i64 x0)), (.v (.int IntKind.i64 x1))] [] k kp = c x0 x1 (fun y0 => k (.v (.int IntKind.i64 y0)) []) :=
  Eq.mp (by kernel_rfl) ((funW_run (AG := none'') body_is (c_ag k kp) [(.v (.int IntKind.i64 x0)), (.v (.int IntKind.i64 x1))] []).trans (c_c k kp (JJ k kp) (LL k kp) x0 x1))
theorem f_eq (k kp : D → List Blk → Prop) (x0 : Int) (x1 : Int) : funW cfg Try.f30 [(.v (.int IntKind.i64 x0)), (.v (.int IntKind.i64 x1))] [] k kp = f x0 x1 (fun y0 => k (.v (.int IntKind.i64 y0)) []) := by
  rw [f_def, c_raw]; rfl
noncomputable def ent0 : Entry := fun args blks k _ => match args, blks with
  | [d0, d1], [] => aInt IntKind.i64 d0 fun x0 => aInt IntKind.i64 d1 fun x1 => f x0 x1 (fun y0 => k (.v (.int IntKind.i64 y0)) [])
  | _, _ => False
noncomputable def ent : Entry := fun args blks k kp => ent0 (convA [none, none] args) blks k kp
theorem ok : EntOk Try.prog 0 0 30 ent := by
  refine EntOk.conv (EntOk.of (funW_ok (cfg := cfg) (tyOk_of rfl rfl tyL_ok) (eqOk_none rfl) mixed_ok (tab_ok ?_) Try.func30 (by rfl) (by rfl)) ?_) _
  · intro p hp
    simp only [List.mem_cons, List.not_mem_nil, or_false] at hp
    rcases hp with rfl
    · exact N25.ok
  · intro args blks k kp h k' kp'
    match args, blks, h with
    | [d0, d1], [], h =>
    dsimp only [ent0] at h
    have h9 := aInt_elim h; clear h; obtain ⟨x0, rfl, h⟩ := h9
    have h9 := aInt_elim h; clear h; obtain ⟨x1, rfl, h⟩ := h9
    exact (f_eq k' kp' x0 x1).symm
end N30
end Go.Proofs.Yt
namespace Go.Proofs.Yt
open Go Go.Aw Go.Proofs
set_option linter.unusedVariables false
set_option linter.unusedSimpArgs false
set_option maxRecDepth 100000
/-! dyehouse/dyehouselaw01.NumRing -/
namespace N7
noncomputable def cfg : Cfg := { P := Try.prog, ty := tys, E := tab [(25, N25.ent), (29, N29.ent), (30, N30.ent), (28, N28.ent)], atSeq := tab [], atLoop := tab [], outs := [] }
noncomputable def body : Code := bodyOf Try.f7
def c (x0 : Int) (x1 : Int) (x2 : Int) (k : Bool → Prop) : Prop :=
  (N25.f (2 : Int) x0 x1 (fun (y0_0 : Int) (y1_0 : Bool) => (N25.f (1 : Int) y0_0 x1 (fun (y0_1 : Int) (y1_1 : Bool) => (N29.f x0 x1 (fun (y0_2 : Int) => (N29.f x1 x0 (fun (y0_3 : Int) => (br (y0_2 == y0_3) (N30.f x0 x1 (fun (y0_4 : Int) => (N30.f x1 x0 (fun (y0_5 : Int) => (br (y0_4 == y0_5) (N29.f x0 x1 (fun (y0_6 : Int) => (N29.f y0_6 x2 (fun (y0_7 : Int) => (N29.f x1 x2 (fun (y0_8 : Int) => (N29.f x0 y0_8 (fun (y0_9 : Int) => (br (y0_7 == y0_9) (N30.f x0 x1 (fun (y0_10 : Int) => (N30.f y0_10 x2 (fun (y0_11 : Int) => (N30.f x1 x2 (fun (y0_12 : Int) => (N30.f x0 y0_12 (fun (y0_13 : Int) => (br (y0_11 == y0_13) (N29.f x1 x2 (fun (y0_14 : Int) => (N30.f x0 y0_14 (fun (y0_15 : Int) => (N30.f x0 x1 (fun (y0_16 : Int) => (N30.f x0 x2 (fun (y0_17 : Int) => (N29.f y0_16 y0_17 (fun (y0_18 : Int) => (br (y0_15 == y0_18) (br (y0_1 == x0) (N28.f (fun (y0_19 : Bool) => (k y0_19))) (k false)) (k false)))))))))))) (k false)))))))))) (k false)))))))))) (k false)))))) (k false))))))))))
def f0 (x0 : Int) (x1 : Int) (x2 : Int) (k : Bool → Prop) : Prop := c x0 x1 x2 k
theorem f_ex : ∃ g : Int → Int → Int → (Bool → Prop) → Prop, g = f0 := ⟨_, rfl⟩
noncomputable def f : Int → Int → Int → (Bool → Prop) → Prop := Classical.choose f_ex
theorem f_def : f = f0 := Classical.choose_spec f_ex
noncomputable def JJ (k kp : D → List Blk → Prop) : Nat → St → Prop := pick none' []
noncomputable def LL (k kp : D → List Blk → Prop) : Nat → St → Prop := pick none' []
theorem c_c (k kp : D → List Blk → Prop) (J L : Nat → St → Prop) (x0 : Int) (x1 : Int) (x2 : Int) : runC cfg 1000001 J L none'' [] body (topK cfg Try.f7 k kp) (st0 Try.f7 [(.v (.int IntKind.i64 x0)), (.v (.int IntKind.i64 x1)), (.v (.int IntKind.i64 x2))] []) = c x0 x1 x2 (fun y0 => k (.v (.bool y0)) []) := by kernel_rfl
theorem c_ag (k kp : D → List Blk → Prop) : agPL cfg 1000001 (JJ k kp) (LL k kp) [] body = agPR cfg 1000001 none'' [] body (topK cfg Try.f7 k kp) := by kernel_rfl
theorem body_is : Try.f7.body = some body := by kernel_rfl
theorem c_raw (k kp : D → List Blk → Prop) (x0 : Int) (x1 : Int) (x2 : Int) : funW cfg Try.f7 [(.v (.int IntKind.i64 x0)), (.v (.int IntKind.i64 x1)), (.v (.int IntKind.i64 x2))] [] k kp = c x0 x1 x2 (fun y0 => k (.v (.bool y0)) []) :=
  Eq.mp (by kernel_rfl) ((funW_run (AG := none'') body_is (c_ag k kp) [(.v (.int IntKind.i64 x0)), (.v (.int IntKind.i64 x1)), (.v (.int IntKind.i64 x2))] []).trans (c_c k kp (JJ k kp) (LL k kp) x0 x1 x2))
theorem f_eq (k kp : D → List Blk → Prop) (x0 : Int) (x1 : Int) (x2 : Int) : funW cfg Try.f7 [(.v (.int IntKind.i64 x0)), (.v (.int IntKind.i64 x1)), (.v (.int IntKind.i64 x2))] [] k kp = f x0 x1 x2 (fun y0 => k (.v (.bool y0)) []) := by
  rw [f_def, c_raw]; rfl
noncomputable def ent0 : Entry := fun args blks k _ => match args, blks with
  | [d0, d1, d2], [] => aInt IntKind.i64 d0 fun x0 => aInt IntKind.i64 d1 fun x1 => aInt IntKind.i64 d2 fun x2 => f x0 x1 x2 (fun y0 => k (.v (.bool y0)) [])
  | _, _ => False
noncomputable def ent : Entry := fun args blks k kp => ent0 (convA [none, none, none] args) blks k kp
theorem ok : EntOk Try.prog 0 0 7 ent := by
  refine EntOk.conv (EntOk.of (funW_ok (cfg := cfg) (tyOk_of rfl rfl tyL_ok) (eqOk_none rfl) mixed_ok (tab_ok ?_) Try.func7 (by rfl) (by rfl)) ?_) _
  · intro p hp
    simp only [List.mem_cons, List.not_mem_nil, or_false] at hp
    rcases hp with rfl | rfl | rfl | rfl
    · exact N25.ok
    · exact N29.ok
    · exact N30.ok
    · exact N28.ok
  · intro args blks k kp h k' kp'
    match args, blks, h with
    | [d0, d1, d2], [], h =>
    dsimp only [ent0] at h
    have h9 := aInt_elim h; clear h; obtain ⟨x0, rfl, h⟩ := h9
    have h9 := aInt_elim h; clear h; obtain ⟨x1, rfl, h⟩ := h9
    have h9 := aInt_elim h; clear h; obtain ⟨x2, rfl, h⟩ := h9
    exact (f_eq k' kp' x0 x1 x2).symm
end N7
end Go.Proofs.Yt
namespace Go.Proofs.Yt.NumRing
open Go Go.Aw Go.Proofs Go.Proofs.Ytbedcdiacpbgpaa Go.ChangeShapes Go.WideShapes Go.ChangeAt Go.RowKit
set_option linter.unusedVariables false
set_option linter.unusedSimpArgs false
set_option maxRecDepth 100000
/-! 7 dyehouse/dyehouselaw01.NumRing -/
def Pure : Prop := ∀ (x0 : Int) (w0 : (Lit.int IntKind.i64 x0).wf = true) (x1 : Int) (w1 : (Lit.int IntKind.i64 x1).wf = true) (x2 : Int) (w2 : (Lit.int IntKind.i64 x2).wf = true), N7.f x0 x1 x2 (fun y0 => y0 = true)
theorem own : ownKnob Try.prog.godebug = none := by kernel_rfl
theorem laid : laidOutB Try.prog = true := by kernel_rfl
theorem lifted (pure : Pure) (os : Os) (started : os.Started) (H : Type) (enc : TypeId × Value → H) :
    ReturnsInHanded {} Try.checked os 7 .any (Rows.numRingSpec.pre6 enc Try.prog Try.f7 Rows.numRingRow.domain false) (Rows.numRingSpec.post enc Try.prog Try.f7 false true false false) := by
  refine returnsInHanded_of_change_sized (C := Try.checked) own started (by kernel_rfl) Try.func7
    (ChangeSpec.witness6 (enc := enc) (C := Try.checked) false ⟨#[], #[.int IntKind.i64 0, .int IntKind.i64 0, .int IntKind.i64 0], []⟩ 7 (by kernel_rfl) (by kernel_rfl) (by kernel_rfl) (by kernel_rfl)) ?_
  intro W base args ds gs before hval0 hW hcnd hsz0 _
  have hsz : (DataW.weightsEach Try.prog (Try.f7.params.toList ++ Rows.numRingSpec.plain.varTypes Try.prog) (ds ++ gs)).all (· ≤ reachBytes) = true := hsz0
  have hval : ∀ (j : Nat) t v, Try.f7.params[j]? = some t → args[j]? = some v → Value.okWide Try.prog W .any base t v := hval0
  have hW' := hW
  have hlt := hW.lt
  obtain ⟨p, q, hA0, hV, rfl, hfz, hnd⟩ := hW
  have hA : DataW.TrodAll enc Try.prog W 0 (fun _ => true) true Try.f7.params.toList args.toList ds p := hA0
  have hAk := hA
  rw [Try.params7] at hA hval hsz
  obtain ⟨v0, vs0, d0, ds0, p0, q0, hargs, rfl, rfl, h0, r0⟩ := trodAll_cons hA
  obtain ⟨v1, vs1, d1, ds1, p1, q1, rfl, rfl, rfl, h1, r1⟩ := trodAll_cons r0
  obtain ⟨v2, vs2, d2, ds2, p2, q2, rfl, rfl, rfl, h2, r2⟩ := trodAll_cons r1
  obtain ⟨rfl, rfl, rfl⟩ := trodAll_nil r2
  obtain rfl : args = #[v0, v1, v2] := by cases args; simp_all
  obtain ⟨rfl, rfl⟩ := trodVars_none hV
  obtain ⟨x0, k0, w0⟩ := arg_int (tf := 0) (tw := 0) (n := 1) (k := IntKind.i64) (by kernel_rfl) (hval 0 3 v0 rfl rfl) h0
  obtain ⟨x1, k1, w1⟩ := arg_int (tf := 0) (tw := 0) (n := 1) (k := IntKind.i64) (by kernel_rfl) (hval 1 3 v1 rfl rfl) h1
  obtain ⟨x2, k2, w2⟩ := arg_int (tf := 0) (tw := 0) (n := 1) (k := IntKind.i64) (by kernel_rfl) (hval 2 3 v2 rfl rfl) h2
  refine (law_of N7.ok (W := W) (us := [v0, v1, v2]) (ds := [.v (.int IntKind.i64 x0), .v (.int IntKind.i64 x1), .v (.int IntKind.i64 x2)]) ⟨_, _, rfl, k0, ⟨_, _, rfl, k1, ⟨_, _, rfl, k2, by simp only [RepL]⟩⟩⟩ (show N7.ent _ _ _ _ from pure x0 w0 x1 w1 x2 w2)).mono fun e W' ⟨he, bel⟩ => ?_
  subst he
  exact ⟨_, rfl, _, _, _, [], _, [], hW', trodAll_mk1 (shut_bool (by kernel_rfl) _), trodAll_below laid bel (by kernel_rfl) hAk (fun x hx => hlt x (by simpa using hx)), rfl, bel.frame _, fun h => by cases h⟩
theorem over (pure : Pure) : Rows.numRingRow.holds Try.pinned (OpenSpec.ofChange Rows.numRingSpec) :=
  OpenClaim.holds_of_wide 7 Try.f7 rfl rfl rfl rfl rfl rfl rfl ⟨rfl, rfl, rfl, rfl, rfl⟩ rfl rfl rfl rfl rfl (by kernel_rfl) Try.func7 (by kernel_rfl)
    (of_decide_eq_true (by kernel_rfl)) (by unfold Func.isWrapper; first | (rw [if_pos (by decide +kernel)]; kernel_rfl) | (rw [if_neg (by decide +kernel)]; exact ⟨rfl, rfl⟩))
    (fun os started H enc _ => lifted pure os started H enc)
theorem holds (pure : Pure) : Rows.NumRingSaid := over pure
end Go.Proofs.Yt.NumRing
namespace Go.Proofs.Yt.NumRing
open Go Go.Aw Go.Proofs Go.RowKit
set_option linter.unusedVariables false
set_option linter.unusedSimpArgs false

theorem add_s (a b : Int) (k : Int → Prop) : N29.f a b k ↔ k (w64 (a + b)) := by
  rw [N29.f_def]
  unfold N29.f0 N29.c
  simp only [do_s]
  exact Iff.rfl
theorem mul_s (a b : Int) (k : Int → Prop) : N30.f a b k ↔ k (w64 (a * b)) := by
  rw [N30.f_def]
  unfold N30.f0 N30.c
  simp only [do_s]
  exact Iff.rfl

theorem pure : Pure := by
  intro a wa b wb c wc
  have ha := wf64 wa
  have hw : N28.f (fun y => y = true) := works_s _ rfl
  rw [N7.f_def]
  unfold N7.f0 N7.c
  simp only [do_s, add_s, mul_s]
  have e1 : ∀ x y, (doI 1 x y).1 = w64 (x + y) := fun _ _ => rfl
  have e2 : ∀ x y, (doI 2 x y).1 = w64 (x - y) := fun _ _ => rfl
  have es : w64 (w64 (a - b) + b) = a := by
    simp only [w64_eq, Int.bmod_add_bmod]
    rw [Int.sub_add_cancel]
    exact (w64_eq a).symm.trans (w64_id ha)
  rw [e2, e1, es, Int.add_comm b a, Int.mul_comm b a]
  have h1 : w64 (w64 (a + b) + c) = w64 (a + w64 (b + c)) := by
    simp only [w64_eq, Int.bmod_add_bmod, Int.add_bmod_bmod, Int.add_assoc]
  have h2 : w64 (w64 (a * b) * c) = w64 (a * w64 (b * c)) := by
    simp only [w64_eq, Int.bmod_mul_bmod, Int.mul_bmod_bmod, Int.mul_assoc]
  have h3 : w64 (a * w64 (b + c)) = w64 (w64 (a * b) + w64 (a * c)) := by
    simp only [w64_eq, Int.bmod_add_bmod, Int.add_bmod_bmod, Int.mul_bmod_bmod, Int.mul_add]
  rw [h1, h2, h3]
  simp [hw]

theorem proved : Go.Proofs.Ytbedcdiacpbgpaa.Rows.NumRingSaid := holds pure
end Go.Proofs.Yt.NumRing
namespace Go.Proofs.Ytbedcdiacpbgpaa
/-- The statement. -/
theorem numRing_holds : Rows.NumRingSaid := Go.Proofs.Yt.NumRing.proved
#print axioms numRing_holds
end Go.Proofs.Ytbedcdiacpbgpaa
