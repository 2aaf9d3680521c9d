/- For every operation op and all whole numbers a and b of 64 bits the law NumDoes returns true: no further conditions. -/
import Derived.Test.YtbedcdiacpbgpaaT1
import Derived.OpenShut
import Derived.Test.YtbedcdiacpbgpaaProg
import Derived.Test.YtbedcdiacpbgpaaRows
import Derived.WalkKit
import Derived.ProofKit
import Derived.ShutString
import Derived.ChangeOld
import Derived.Below
import Derived.SizedLaws
namespace Go.Aw
open Go.RowKit
set_option linter.unusedVariables false

/-! ### Words for plain proofs -/
@[simp] theorem br_true (p q : Prop) : br true p q = p := rfl
@[simp] theorem br_false (p q : Prop) : br false p q = q := rfl
theorem br_of {b : Bool} {p q : Prop} (h1 : b = true → p) (h2 : b = false → q) : br b p q := by
  cases b
  · exact h2 rfl
  · exact h1 rfl
theorem br_iff {b : Bool} {p q : Prop} : br b p q ↔ (b = true → p) ∧ (b = false → q) := by cases b <;> simp
@[simp] theorem br_dec {c : Prop} [Decidable c] {p q : Prop} : br (decide c) p q = if c then p else q := by
  by_cases h : c <;> simp [h]
@[simp] theorem br_beq {α : Type} [BEq α] [LawfulBEq α] [DecidableEq α] {a b : α} {p q : Prop} : br (a == b) p q = if a = b then p else q := by
  by_cases h : a = b
  · simp [h]
  · rw [if_neg h, show (a == b) = false by simpa using h]; rfl
@[simp] theorem br_bne {α : Type} [BEq α] [LawfulBEq α] [DecidableEq α] {a b : α} {p q : Prop} : br (a != b) p q = if a = b then q else p := by
  by_cases h : a = b
  · simp [h]
  · rw [if_neg h, show (a != b) = true by simpa using h]; rfl
@[simp] theorem br_not {b : Bool} {p q : Prop} : br (!b) p q = br b q p := by cases b <;> rfl
theorem br_bif {α : Sort _} {b : Bool} {k : α → Prop} {x y : α} : br b (k x) (k y) = k (bif b then x else y) := by cases b <;> rfl

abbrev w64 (n : Int) : Int := IntKind.i64.wrap n
theorem w64_eq (n : Int) : w64 n = n.bmod (2 ^ 64) := by
  unfold w64 IntKind.wrap
  simp only [IntKind.bits, IntKind.signed]
  unfold Int.bmod
  simp
  split <;> split <;> omega
theorem wu64_eq (n : Int) : IntKind.u64.wrap n = n % 2 ^ 64 := by
  unfold IntKind.wrap
  simp [IntKind.bits, IntKind.signed]
theorem wu8_eq (n : Int) : IntKind.u8.wrap n = n % 256 := by
  unfold IntKind.wrap
  simp [IntKind.bits, IntKind.signed]
/-- A number fits into 64 bits. -/
def in64 (n : Int) : Prop := -9223372036854775808 ≤ n ∧ n ≤ 9223372036854775807
theorem wf64 {n : Int} (h : (Lit.int .i64 n).wf = true) : in64 n := by
  simp [Lit.wf, IntKind.min, IntKind.max, IntKind.signed, IntKind.bits] at h
  exact h
theorem w64_id {n : Int} (h : in64 n) : w64 n = n := by
  unfold in64 at h
  rw [w64_eq]
  apply Int.bmod_eq_of_le <;> omega
theorem wrap_id {n : Int} (h1 : -9223372036854775808 ≤ n) (h2 : n ≤ 9223372036854775807) : IntKind.i64.wrap n = n := w64_id ⟨h1, h2⟩
theorem w64_in (n : Int) : in64 (w64 n) := by
  unfold in64
  rw [w64_eq]
  have h1 := @Int.le_bmod n (2 ^ 64) (by decide)
  have h2 := @Int.bmod_lt n (2 ^ 64) (by decide)
  omega

theorem drop_get {α : Type} {l : List α} {i : Nat} {d : α} (h : i < l.length) : l.drop i = l.getD i d :: l.drop (i + 1) := by
  rw [List.drop_eq_getElem_cons h]; simp [List.getD, List.getElem?_eq_getElem h]
end Go.Aw
namespace Go.Aw
set_option linter.unusedVariables false

/-! ### A number's 64 bits, in a row -/
def bv (a : Int) : BitVec 64 := BitVec.ofInt 64 a
def bitsB (v : BitVec 64) : List Bool := (List.range 64).map v.getLsbD

theorem bv_toInt (a : Int) : (bv a).toInt = w64 a := by
  rw [w64_eq]
  show (BitVec.ofInt 64 a).toInt = _
  rw [BitVec.toInt_ofInt]
theorem bv_toNat (a : Int) : ((bv a).toNat : Int) = a % 2 ^ 64 := by
  unfold bv
  rw [BitVec.toNat_ofInt]
  have : 0 ≤ a % 2 ^ 64 := by omega
  omega
theorem bv_of_toInt (v : BitVec 64) : bv v.toInt = v := BitVec.ofInt_toInt
theorem toInt_w64 (v : BitVec 64) : w64 (v.toNat : Int) = v.toInt := by
  rw [w64_eq, BitVec.toInt_eq_toNat_bmod]
theorem bv_w64 (a : Int) : bv (w64 a) = bv a := by rw [← bv_toInt, bv_of_toInt]
theorem bitsB_len (v : BitVec 64) : (bitsB v).length = 64 := by simp [bitsB]
theorem bitsB_get (v : BitVec 64) {i : Nat} (h : i < 64) : (bitsB v).getD i false = v.getLsbD i := by
  simp [bitsB, List.getD, h]
theorem list_bits {l : List Bool} {v : BitVec 64} (hl : l.length = 64) (h : ∀ i, i < 64 → l.getD i false = v.getLsbD i) : l = bitsB v := by
  apply List.ext_getElem
  · rw [hl, bitsB_len]
  · intro i h1 h2
    have h3 : i < 64 := by omega
    have := h i h3
    rw [← bitsB_get v h3] at this
    simpa [List.getD, h1, h2] using this
theorem set_getD {α : Type} {l : List α} {i j : Nat} {x d : α} (h : i < l.length) : (l.set i x).getD j d = if j = i then x else l.getD j d := by
  by_cases e : j = i
  · subst e; simp [List.getD, h]
  · rw [if_neg e]; simp [List.getD, List.getElem?_set_ne (Ne.symm e)]

theorem rep_getD {α : Type} (n j : Nat) (x : α) : (List.replicate n x).getD j x = x := by
  unfold List.getD
  rw [List.getElem?_replicate]
  split <;> rfl

theorem bit_div (v : BitVec 64) (i : Nat) : v.toNat / 2 ^ i = 2 * (v.toNat / 2 ^ (i + 1)) + (v.getLsbD i).toNat := by
  rw [← BitVec.testBit_toNat, Nat.pow_succ, ← Nat.div_div_eq_div_mul, Nat.testBit_eq_decide_div_mod_eq]
  have := Nat.div_add_mod (v.toNat / 2 ^ i) 2
  rcases Nat.mod_two_eq_zero_or_one (v.toNat / 2 ^ i) with h | h <;> simp [h] <;> omega

theorem getLsb_sar (v : BitVec 64) (n i : Nat) (hi : i < 64) : (v.sshiftRight n).getLsbD i = if n + i < 64 then v.getLsbD (n + i) else v.getLsbD 63 := by
  rw [BitVec.getLsbD_sshiftRight]
  have : decide (64 ≤ i) = false := by simp; omega
  rw [this]
  simp [BitVec.msb_eq_getLsbD_last]

theorem less_step {A B : Nat} {i : Nat} (h : A / 2 ^ (i + 1) = B / 2 ^ (i + 1)) (ha : A.testBit i = false) (hb : B.testBit i = true) : A < B := by
  rw [Nat.testBit_eq_decide_div_mod_eq] at ha hb
  simp at ha hb
  rw [Nat.pow_succ, ← Nat.div_div_eq_div_mul, ← Nat.div_div_eq_div_mul] at h
  have h1 : A / 2 ^ i < B / 2 ^ i := by omega
  exact (Nat.lt_of_div_lt_div h1)
end Go.Aw
namespace Go.Proofs.Yt
open Go.Aw Go.Proofs
set_option linter.unusedVariables false
set_option linter.unusedSimpArgs false
set_option maxRecDepth 100000
def tyL : List (Nat × Ty) := [(5, (Ty.int IntKind.u8)), (9, Ty.str), (4, Ty.bool), (3, (Ty.int IntKind.i64))]
def tys : Nat → Option Ty := tab tyL
theorem mixed_ok : Try.prog.follows .mixedOrders = true := by kernel_rfl
theorem tyL_ok : tyL.all (tyRight Try.prog) = true := by kernel_rfl
end Go.Proofs.Yt
namespace Go.Proofs.Yt
open Go Go.Aw Go.Proofs
set_option linter.unusedVariables false
set_option linter.unusedSimpArgs false
set_option maxRecDepth 100000
/-! dyehouse/num.divides -/
namespace N48
noncomputable def cfg : Cfg := { P := Try.prog, ty := tys, E := tab [], atSeq := tab [], atLoop := tab [], outs := [] }
noncomputable def body : Code := bodyOf Try.f48
def c (x0 : Int) (x1 : Int) (x2 : Int) (k : Int → Bool → Prop) : Prop :=
  (br (x2 == (0 : Int)) (k (0 : Int) false) (br (x0 == (10 : Int)) ((x2 ≠ 0) ∧ (k (IntKind.i64.wrap (Int.tdiv x1 x2)) true)) ((x2 ≠ 0) ∧ (k (Int.tmod x1 x2) true))))
def f0 (x0 : Int) (x1 : Int) (x2 : Int) (k : Int → Bool → Prop) : Prop := c x0 x1 x2 k
theorem f_ex : ∃ g : Int → Int → Int → (Int → Bool → Prop) → Prop, g = f0 := ⟨_, rfl⟩
noncomputable def f : Int → Int → Int → (Int → Bool → Prop) → Prop := Classical.choose f_ex
theorem f_def : f = f0 := Classical.choose_spec f_ex
noncomputable def JJ (k kp : D → List Blk → Prop) : Nat → St → Prop := pick none' []
noncomputable def LL (k kp : D → List Blk → Prop) : Nat → St → Prop := pick none' []
theorem c_c (k kp : D → List Blk → Prop) (J L : Nat → St → Prop) (x0 : Int) (x1 : Int) (x2 : Int) : runC cfg 1000001 J L none'' [] body (topK cfg Try.f48 k kp) (st0 Try.f48 [(.v (.int IntKind.i64 x0)), (.v (.int IntKind.i64 x1)), (.v (.int IntKind.i64 x2))] []) = c x0 x1 x2 (fun y0 y1 => k (.tup [(.v (.int IntKind.i64 y0)), (.v (.bool y1))]) []) := by kernel_rfl
theorem c_ag (k kp : D → List Blk → Prop) : agPL cfg 1000001 (JJ k kp) (LL k kp) [] body = agPR cfg 1000001 none'' [] body (topK cfg Try.f48 k kp) := by kernel_rfl
theorem body_is : Try.f48.body = some body := by kernel_rfl
theorem c_raw (k kp : D → List Blk → Prop) (x0 : Int) (x1 : Int) (x2 : Int) : funW cfg Try.f48 [(.v (.int IntKind.i64 x0)), (.v (.int IntKind.i64 x1)), (.v (.int IntKind.i64 x2))] [] k kp = c x0 x1 x2 (fun y0 y1 => k (.tup [(.v (.int IntKind.i64 y0)), (.v (.bool y1))]) []) :=
  Eq.mp (by kernel_rfl) ((funW_run (AG := none'') body_is (c_ag k kp) [(.v (.int IntKind.i64 x0)), (.v (.int IntKind.i64 x1)), (.v (.int IntKind.i64 x2))] []).trans (c_c k kp (JJ k kp) (LL k kp) x0 x1 x2))
theorem f_eq (k kp : D → List Blk → Prop) (x0 : Int) (x1 : Int) (x2 : Int) : funW cfg Try.f48 [(.v (.int IntKind.i64 x0)), (.v (.int IntKind.i64 x1)), (.v (.int IntKind.i64 x2))] [] k kp = f x0 x1 x2 (fun y0 y1 => k (.tup [(.v (.int IntKind.i64 y0)), (.v (.bool y1))]) []) := by
  rw [f_def, c_raw]; rfl
noncomputable def ent0 : Entry := fun args blks k _ => match args, blks with
  | [d0, d1, d2], [] => aInt IntKind.i64 d0 fun x0 => aInt IntKind.i64 d1 fun x1 => aInt IntKind.i64 d2 fun x2 => f x0 x1 x2 (fun y0 y1 => k (.tup [(.v (.int IntKind.i64 y0)), (.v (.bool y1))]) [])
  | _, _ => False
noncomputable def ent : Entry := fun args blks k kp => ent0 (convA [none, none, none] args) blks k kp
theorem ok : EntOk Try.prog 0 0 48 ent := by
  refine EntOk.conv (EntOk.of (funW_ok (cfg := cfg) (tyOk_of rfl rfl tyL_ok) (eqOk_none rfl) mixed_ok (tab_ok ?_) Try.func48 (by rfl) (by rfl)) ?_) _
  · intro p hp
    cases hp
  · intro args blks k kp h k' kp'
    match args, blks, h with
    | [d0, d1, d2], [], h =>
    dsimp only [ent0] at h
    have h9 := aInt_elim h; clear h; obtain ⟨x0, rfl, h⟩ := h9
    have h9 := aInt_elim h; clear h; obtain ⟨x1, rfl, h⟩ := h9
    have h9 := aInt_elim h; clear h; obtain ⟨x2, rfl, h⟩ := h9
    exact (f_eq k' kp' x0 x1 x2).symm
end N48
end Go.Proofs.Yt
namespace Go.Proofs.Yt
open Go Go.Aw Go.Proofs
set_option linter.unusedVariables false
set_option linter.unusedSimpArgs false
set_option maxRecDepth 100000
/-! dyehouse/num.Shift -/
namespace N32
noncomputable def cfg : Cfg := { P := Try.prog, ty := tys, E := tab [], atSeq := tab [], atLoop := tab [], outs := [] }
noncomputable def body : Code := bodyOf Try.f32
def c (x0 : Int) (k : Int → Prop) : Prop :=
  (((64 : Int) ≠ 0) ∧ (k (IntKind.i64.wrap (Int.tmod (IntKind.u64.wrap x0) (64 : Int)))))
def f0 (x0 : Int) (k : Int → Prop) : Prop := c x0 k
theorem f_ex : ∃ g : Int → (Int → Prop) → Prop, g = f0 := ⟨_, rfl⟩
noncomputable def f : Int → (Int → Prop) → Prop := Classical.choose f_ex
theorem f_def : f = f0 := Classical.choose_spec f_ex
noncomputable def JJ (k kp : D → List Blk → Prop) : Nat → St → Prop := pick none' []
noncomputable def LL (k kp : D → List Blk → Prop) : Nat → St → Prop := pick none' []
theorem c_c (k kp : D → List Blk → Prop) (J L : Nat → St → Prop) (x0 : Int) : runC cfg 1000001 J L none'' [] body (topK cfg Try.f32 k kp) (st0 Try.f32 [(.v (.int IntKind.i64 x0))] []) = c x0 (fun y0 => k (.v (.int IntKind.i64 y0)) []) := by kernel_rfl
theorem c_ag (k kp : D → List Blk → Prop) : agPL cfg 1000001 (JJ k kp) (LL k kp) [] body = agPR cfg 1000001 none'' [] body (topK cfg Try.f32 k kp) := by kernel_rfl
theorem body_is : Try.f32.body = some body := by kernel_rfl
theorem c_raw (k kp : D → List Blk → Prop) (x0 : Int) : funW cfg Try.f32 [(.v (.int IntKind.i64 x0))] [] k kp = c x0 (fun y0 => k (.v (.int IntKind.i64 y0)) []) :=
  Eq.mp (by kernel_rfl) ((funW_run (AG := none'') body_is (c_ag k kp) [(.v (.int IntKind.i64 x0))] []).trans (c_c k kp (JJ k kp) (LL k kp) x0))
theorem f_eq (k kp : D → List Blk → Prop) (x0 : Int) : funW cfg Try.f32 [(.v (.int IntKind.i64 x0))] [] k kp = f x0 (fun y0 => k (.v (.int IntKind.i64 y0)) []) := by
  rw [f_def, c_raw]; rfl
noncomputable def ent0 : Entry := fun args blks k _ => match args, blks with
  | [d0], [] => aInt IntKind.i64 d0 fun x0 => f x0 (fun y0 => k (.v (.int IntKind.i64 y0)) [])
  | _, _ => False
noncomputable def ent : Entry := fun args blks k kp => ent0 (convA [none] args) blks k kp
theorem ok : EntOk Try.prog 0 0 32 ent := by
  refine EntOk.conv (EntOk.of (funW_ok (cfg := cfg) (tyOk_of rfl rfl tyL_ok) (eqOk_none rfl) mixed_ok (tab_ok ?_) Try.func32 (by rfl) (by rfl)) ?_) _
  · intro p hp
    cases hp
  · intro args blks k kp h k' kp'
    match args, blks, h with
    | [d0], [], h =>
    dsimp only [ent0] at h
    have h9 := aInt_elim h; clear h; obtain ⟨x0, rfl, h⟩ := h9
    exact (f_eq k' kp' x0).symm
end N32
end Go.Proofs.Yt
namespace Go.Proofs.Yt
open Go Go.Aw Go.Proofs
set_option linter.unusedVariables false
set_option linter.unusedSimpArgs false
set_option maxRecDepth 100000
/-! dyehouse/num.shifts -/
namespace N49
noncomputable def cfg : Cfg := { P := Try.prog, ty := tys, E := tab [(32, N32.ent)], atSeq := tab [], atLoop := tab [], outs := [] }
noncomputable def body : Code := bodyOf Try.f49
def c (x0 : Int) (x1 : Int) (x2 : Int) (k : Int → Bool → Prop) : Prop :=
  (N32.f x2 (fun (y0_0 : Int) => (br (x0 == (7 : Int)) ((0 ≤ y0_0) ∧ (k (IntKind.i64.wrap (x1 * 2 ^ min (Int.toNat y0_0) 64)) true)) (br (x0 == (8 : Int)) ((0 ≤ y0_0) ∧ (k (IntKind.i64.wrap (Int.fdiv (IntKind.u64.wrap x1) (2 ^ min (Int.toNat y0_0) 64))) true)) (br (x0 == (9 : Int)) ((0 ≤ y0_0) ∧ (k (Int.fdiv x1 (2 ^ min (Int.toNat y0_0) 64)) true)) (k (0 : Int) false))))))
def f0 (x0 : Int) (x1 : Int) (x2 : Int) (k : Int → Bool → Prop) : Prop := c x0 x1 x2 k
theorem f_ex : ∃ g : Int → Int → Int → (Int → Bool → Prop) → Prop, g = f0 := ⟨_, rfl⟩
noncomputable def f : Int → Int → Int → (Int → Bool → Prop) → Prop := Classical.choose f_ex
theorem f_def : f = f0 := Classical.choose_spec f_ex
noncomputable def JJ (k kp : D → List Blk → Prop) : Nat → St → Prop := pick none' []
noncomputable def LL (k kp : D → List Blk → Prop) : Nat → St → Prop := pick none' []
theorem c_c (k kp : D → List Blk → Prop) (J L : Nat → St → Prop) (x0 : Int) (x1 : Int) (x2 : Int) : runC cfg 1000001 J L none'' [] body (topK cfg Try.f49 k kp) (st0 Try.f49 [(.v (.int IntKind.i64 x0)), (.v (.int IntKind.i64 x1)), (.v (.int IntKind.i64 x2))] []) = c x0 x1 x2 (fun y0 y1 => k (.tup [(.v (.int IntKind.i64 y0)), (.v (.bool y1))]) []) := by kernel_rfl
theorem c_ag (k kp : D → List Blk → Prop) : agPL cfg 1000001 (JJ k kp) (LL k kp) [] body = agPR cfg 1000001 none'' [] body (topK cfg Try.f49 k kp) := by kernel_rfl
theorem body_is : Try.f49.body = some body := by kernel_rfl
theorem c_raw (k kp : D → List Blk → Prop) (x0 : Int) (x1 : Int) (x2 : Int) : funW cfg Try.f49 [(.v (.int IntKind.i64 x0)), (.v (.int IntKind.i64 x1)), (.v (.int IntKind.i64 x2))] [] k kp = c x0 x1 x2 (fun y0 y1 => k (.tup [(.v (.int IntKind.i64 y0)), (.v (.bool y1))]) []) :=
  Eq.mp (by kernel_rfl) ((funW_run (AG := none'') body_is (c_ag k kp) [(.v (.int IntKind.i64 x0)), (.v (.int IntKind.i64 x1)), (.v (.int IntKind.i64 x2))] []).trans (c_c k kp (JJ k kp) (LL k kp) x0 x1 x2))
theorem f_eq (k kp : D → List Blk → Prop) (x0 : Int) (x1 : Int) (x2 : Int) : funW cfg Try.f49 [(.v (.int IntKind.i64 x0)), (.v (.int IntKind.i64 x1)), (.v (.int IntKind.i64 x2))] [] k kp = f x0 x1 x2 (fun y0 y1 => k (.tup [(.v (.int IntKind.i64 y0)), (.v (.bool y1))]) []) := by
  rw [f_def, c_raw]; rfl
noncomputable def ent0 : Entry := fun args blks k _ => match args, blks with
  | [d0, d1, d2], [] => aInt IntKind.i64 d0 fun x0 => aInt IntKind.i64 d1 fun x1 => aInt IntKind.i64 d2 fun x2 => f x0 x1 x2 (fun y0 y1 => k (.tup [(.v (.int IntKind.i64 y0)), (.v (.bool y1))]) [])
  | _, _ => False
noncomputable def ent : Entry := fun args blks k kp => ent0 (convA [none, none, none] args) blks k kp
theorem ok : EntOk Try.prog 0 0 49 ent := by
  refine EntOk.conv (EntOk.of (funW_ok (cfg := cfg) (tyOk_of rfl rfl tyL_ok) (eqOk_none rfl) mixed_ok (tab_ok ?_) Try.func49 (by rfl) (by rfl)) ?_) _
  · intro p hp
    simp only [List.mem_cons, List.not_mem_nil, or_false] at hp
    rcases hp with rfl
    · exact N32.ok
  · intro args blks k kp h k' kp'
    match args, blks, h with
    | [d0, d1, d2], [], h =>
    dsimp only [ent0] at h
    have h9 := aInt_elim h; clear h; obtain ⟨x0, rfl, h⟩ := h9
    have h9 := aInt_elim h; clear h; obtain ⟨x1, rfl, h⟩ := h9
    have h9 := aInt_elim h; clear h; obtain ⟨x2, rfl, h⟩ := h9
    exact (f_eq k' kp' x0 x1 x2).symm
end N49
end Go.Proofs.Yt
namespace Go.Proofs.Yt
open Go Go.Aw Go.Proofs
set_option linter.unusedVariables false
set_option linter.unusedSimpArgs false
set_option maxRecDepth 100000
/-! dyehouse/num.compares -/
namespace N50
noncomputable def cfg : Cfg := { P := Try.prog, ty := tys, E := tab [], atSeq := tab [(11, ⟨[(8, .keep)]⟩), (12, ⟨[]⟩)], atLoop := tab [], outs := [] }
noncomputable def body : Code := bodyOf Try.f50
def j11 (x8 : Bool) (k : Bool → Bool → Prop) : Prop :=
  (k x8 true)
def j12 (k : Bool → Bool → Prop) : Prop :=
  (k false false)
def c (j11 : Bool → Prop) (j12 : Prop) (x0 : Int) (x1 : Int) (x2 : Int) (k : Bool → Bool → Prop) : Prop :=
  (br (x0 == (12 : Int)) (k (x1 == x2) true) (br (x0 == (13 : Int)) (k (!(x1 == x2)) true) (br (x0 == (15 : Int)) (br (x1 == x2) (k true true) (j11 (decide (x1 < x2)))) (br (x0 == (14 : Int)) (j11 (decide (x1 < x2))) (j12)))))
def j11' (x8 : Bool) (k : Bool → Bool → Prop) : Prop := j11 x8 k
def j12' (k : Bool → Bool → Prop) : Prop := j12 k
def f0 (x0 : Int) (x1 : Int) (x2 : Int) (k : Bool → Bool → Prop) : Prop := c (fun x8 => j11' x8 k) (j12' k) x0 x1 x2 k
theorem f_ex : ∃ g : Int → Int → Int → (Bool → Bool → Prop) → Prop, g = f0 := ⟨_, rfl⟩
noncomputable def f : Int → Int → Int → (Bool → Bool → Prop) → Prop := Classical.choose f_ex
theorem f_def : f = f0 := Classical.choose_spec f_ex
def m11 (x8 : Bool) : St := { tmps := mkT 30 0 [(8, (.v (.bool x8)))], hp := [], m := 0 }
def m12 : St := { tmps := mkT 30 0 [], hp := [], m := 0 }
noncomputable def X11 (k kp : D → List Blk → Prop) : St → Prop := atP cfg (pick none' []) [1, 1, 0, 1, 0, 1] body (topK cfg Try.f50 k kp)
noncomputable def X12 (k kp : D → List Blk → Prop) : St → Prop := atP cfg (pick none' []) [1, 1, 1] body (topK cfg Try.f50 k kp)
noncomputable def JJ (k kp : D → List Blk → Prop) : Nat → St → Prop := pick none' [(11, X11 k kp), (12, X12 k kp)]
noncomputable def LL (k kp : D → List Blk → Prop) : Nat → St → Prop := pick none' []
theorem j11_c (k kp : D → List Blk → Prop) (J L : Nat → St → Prop) (x8 : Bool) : runC cfg 11 J L (pick none' []) [1, 1, 0, 1, 0, 1] body (topK cfg Try.f50 k kp) (m11 x8) = j11 x8 (fun y0 y1 => k (.tup [(.v (.bool y0)), (.v (.bool y1))]) []) := by kernel_rfl
theorem j11_ag (k kp : D → List Blk → Prop) : agPL cfg 11 (JJ k kp) (LL k kp) [1, 1, 0, 1, 0, 1] body = agPR cfg 11 (pick none' []) [1, 1, 0, 1, 0, 1] body (topK cfg Try.f50 k kp) := by kernel_rfl
theorem j11_raw (k kp : D → List Blk → Prop) (x8 : Bool) : X11 k kp (m11 x8) = j11 x8 (fun y0 y1 => k (.tup [(.v (.bool y0)), (.v (.bool y1))]) []) :=
  Eq.mp (by kernel_rfl) ((atP_run (j11_ag k kp) (m11 x8)).trans (j11_c k kp (JJ k kp) (LL k kp) x8))
theorem j11_eq (k kp : D → List Blk → Prop) (x8 : Bool) : X11 k kp (m11 x8) = j11' x8 (fun y0 y1 => k (.tup [(.v (.bool y0)), (.v (.bool y1))]) []) := by
  rw [j11_raw]; rfl
theorem j12_c (k kp : D → List Blk → Prop) (J L : Nat → St → Prop) : runC cfg 12 J L (pick none' []) [1, 1, 1] body (topK cfg Try.f50 k kp) (m12) = j12 (fun y0 y1 => k (.tup [(.v (.bool y0)), (.v (.bool y1))]) []) := by kernel_rfl
theorem j12_ag (k kp : D → List Blk → Prop) : agPL cfg 12 (JJ k kp) (LL k kp) [1, 1, 1] body = agPR cfg 12 (pick none' []) [1, 1, 1] body (topK cfg Try.f50 k kp) := by kernel_rfl
theorem j12_raw (k kp : D → List Blk → Prop) : X12 k kp (m12) = j12 (fun y0 y1 => k (.tup [(.v (.bool y0)), (.v (.bool y1))]) []) :=
  Eq.mp (by kernel_rfl) ((atP_run (j12_ag k kp) (m12)).trans (j12_c k kp (JJ k kp) (LL k kp)))
theorem j12_eq (k kp : D → List Blk → Prop) : X12 k kp (m12) = j12' (fun y0 y1 => k (.tup [(.v (.bool y0)), (.v (.bool y1))]) []) := by
  rw [j12_raw]; rfl
theorem c_c (k kp : D → List Blk → Prop) (J L : Nat → St → Prop) (x0 : Int) (x1 : Int) (x2 : Int) : runC cfg 1000001 J L none'' [] body (topK cfg Try.f50 k kp) (st0 Try.f50 [(.v (.int IntKind.i64 x0)), (.v (.int IntKind.i64 x1)), (.v (.int IntKind.i64 x2))] []) = c (fun x8 => J 11 (m11 x8)) (J 12 (m12)) x0 x1 x2 (fun y0 y1 => k (.tup [(.v (.bool y0)), (.v (.bool y1))]) []) := by kernel_rfl
theorem c_ag (k kp : D → List Blk → Prop) : agPL cfg 1000001 (JJ k kp) (LL k kp) [] body = agPR cfg 1000001 none'' [] body (topK cfg Try.f50 k kp) := by kernel_rfl
theorem body_is : Try.f50.body = some body := by kernel_rfl
theorem c_raw (k kp : D → List Blk → Prop) (x0 : Int) (x1 : Int) (x2 : Int) : funW cfg Try.f50 [(.v (.int IntKind.i64 x0)), (.v (.int IntKind.i64 x1)), (.v (.int IntKind.i64 x2))] [] k kp = c (fun x8 => X11 k kp (m11 x8)) (X12 k kp (m12)) x0 x1 x2 (fun y0 y1 => k (.tup [(.v (.bool y0)), (.v (.bool y1))]) []) :=
  Eq.mp (by kernel_rfl) ((funW_run (AG := none'') body_is (c_ag k kp) [(.v (.int IntKind.i64 x0)), (.v (.int IntKind.i64 x1)), (.v (.int IntKind.i64 x2))] []).trans (c_c k kp (JJ k kp) (LL k kp) x0 x1 x2))
theorem f_eq (k kp : D → List Blk → Prop) (x0 : Int) (x1 : Int) (x2 : Int) : funW cfg Try.f50 [(.v (.int IntKind.i64 x0)), (.v (.int IntKind.i64 x1)), (.v (.int IntKind.i64 x2))] [] k kp = f x0 x1 x2 (fun y0 y1 => k (.tup [(.v (.bool y0)), (.v (.bool y1))]) []) := by
  rw [f_def, c_raw]; simp only [j11_eq, j12_eq]; first | done | rfl
noncomputable def ent0 : Entry := fun args blks k _ => match args, blks with
  | [d0, d1, d2], [] => aInt IntKind.i64 d0 fun x0 => aInt IntKind.i64 d1 fun x1 => aInt IntKind.i64 d2 fun x2 => f x0 x1 x2 (fun y0 y1 => k (.tup [(.v (.bool y0)), (.v (.bool y1))]) [])
  | _, _ => False
noncomputable def ent : Entry := fun args blks k kp => ent0 (convA [none, none, none] args) blks k kp
theorem ok : EntOk Try.prog 0 0 50 ent := by
  refine EntOk.conv (EntOk.of (funW_ok (cfg := cfg) (tyOk_of rfl rfl tyL_ok) (eqOk_none rfl) mixed_ok (tab_ok ?_) Try.func50 (by rfl) (by rfl)) ?_) _
  · intro p hp
    cases hp
  · intro args blks k kp h k' kp'
    match args, blks, h with
    | [d0, d1, d2], [], h =>
    dsimp only [ent0] at h
    have h9 := aInt_elim h; clear h; obtain ⟨x0, rfl, h⟩ := h9
    have h9 := aInt_elim h; clear h; obtain ⟨x1, rfl, h⟩ := h9
    have h9 := aInt_elim h; clear h; obtain ⟨x2, rfl, h⟩ := h9
    exact (f_eq k' kp' x0 x1 x2).symm
end N50
end Go.Proofs.Yt
namespace Go.Proofs.Yt
open Go Go.Aw Go.Proofs
set_option linter.unusedVariables false
set_option linter.unusedSimpArgs false
set_option maxRecDepth 100000
/-! dyehouse/num.Flag -/
namespace N51
noncomputable def cfg : Cfg := { P := Try.prog, ty := tys, E := tab [], atSeq := tab [], atLoop := tab [], outs := [] }
noncomputable def body : Code := bodyOf Try.f51
def c (x0 : Bool) (k : Int → Prop) : Prop :=
  (br x0 (k (1 : Int)) (k (0 : Int)))
def f0 (x0 : Bool) (k : Int → Prop) : Prop := c x0 k
theorem f_ex : ∃ g : Bool → (Int → Prop) → Prop, g = f0 := ⟨_, rfl⟩
noncomputable def f : Bool → (Int → Prop) → Prop := Classical.choose f_ex
theorem f_def : f = f0 := Classical.choose_spec f_ex
noncomputable def JJ (k kp : D → List Blk → Prop) : Nat → St → Prop := pick none' []
noncomputable def LL (k kp : D → List Blk → Prop) : Nat → St → Prop := pick none' []
theorem c_c (k kp : D → List Blk → Prop) (J L : Nat → St → Prop) (x0 : Bool) : runC cfg 1000001 J L none'' [] body (topK cfg Try.f51 k kp) (st0 Try.f51 [(.v (.bool x0))] []) = c x0 (fun y0 => k (.v (.int IntKind.i64 y0)) []) := by kernel_rfl
theorem c_ag (k kp : D → List Blk → Prop) : agPL cfg 1000001 (JJ k kp) (LL k kp) [] body = agPR cfg 1000001 none'' [] body (topK cfg Try.f51 k kp) := by kernel_rfl
theorem body_is : Try.f51.body = some body := by kernel_rfl
theorem c_raw (k kp : D → List Blk → Prop) (x0 : Bool) : funW cfg Try.f51 [(.v (.bool x0))] [] k kp = c x0 (fun y0 => k (.v (.int IntKind.i64 y0)) []) :=
  Eq.mp (by kernel_rfl) ((funW_run (AG := none'') body_is (c_ag k kp) [(.v (.bool x0))] []).trans (c_c k kp (JJ k kp) (LL k kp) x0))
theorem f_eq (k kp : D → List Blk → Prop) (x0 : Bool) : funW cfg Try.f51 [(.v (.bool x0))] [] k kp = f x0 (fun y0 => k (.v (.int IntKind.i64 y0)) []) := by
  rw [f_def, c_raw]; rfl
noncomputable def ent0 : Entry := fun args blks k _ => match args, blks with
  | [d0], [] => aBool d0 fun x0 => f x0 (fun y0 => k (.v (.int IntKind.i64 y0)) [])
  | _, _ => False
noncomputable def ent : Entry := fun args blks k kp => ent0 (convA [none] args) blks k kp
theorem ok : EntOk Try.prog 0 0 51 ent := by
  refine EntOk.conv (EntOk.of (funW_ok (cfg := cfg) (tyOk_of rfl rfl tyL_ok) (eqOk_none rfl) mixed_ok (tab_ok ?_) Try.func51 (by rfl) (by rfl)) ?_) _
  · intro p hp
    cases hp
  · intro args blks k kp h k' kp'
    match args, blks, h with
    | [d0], [], h =>
    dsimp only [ent0] at h
    have h9 := aBool_elim h; clear h; obtain ⟨x0, rfl, h⟩ := h9
    exact (f_eq k' kp' x0).symm
end N51
end Go.Proofs.Yt
namespace Go.Proofs.Yt
open Go Go.Aw Go.Proofs
set_option linter.unusedVariables false
set_option linter.unusedSimpArgs false
set_option maxRecDepth 100000
/-! dyehouse/num.Do -/
namespace N25
noncomputable def cfg : Cfg := { P := Try.prog, ty := tys, E := tab [(48, N48.ent), (49, N49.ent), (50, N50.ent), (51, N51.ent)], atSeq := tab [(2000016, ⟨[(0, .keep), (1, .keep), (2, .keep), (43, .keep)]⟩), (17, ⟨[(0, .keep), (1, .keep), (2, .keep)]⟩)], atLoop := tab [], outs := [] }
noncomputable def body : Code := bodyOf Try.f25
def j2000016 (j17 : Int → Int → Int → Prop) (x0 : Int) (x1 : Int) (x2 : Int) (x43 : Bool) (k : Int → Bool → Prop) : Prop :=
  (br x43 (N48.f x0 x1 x2 (fun (y0_0 : Int) (y1_0 : Bool) => (k y0_0 y1_0))) (j17 x0 x1 x2))
def j17 (x0 : Int) (x1 : Int) (x2 : Int) (k : Int → Bool → Prop) : Prop :=
  (N49.f x0 x1 x2 (fun (y0_1 : Int) (y1_1 : Bool) => (br y1_1 (k y0_1 true) (N50.f x0 x1 x2 (fun (y0_2 : Bool) (y1_2 : Bool) => (N51.f y0_2 (fun (y0_3 : Int) => (k y0_3 y1_2))))))))
def c (j2000016 : Int → Int → Int → Bool → Prop) (x0 : Int) (x1 : Int) (x2 : Int) (k : Int → Bool → Prop) : Prop :=
  (br (x0 == (1 : Int)) (k (IntKind.i64.wrap (x1 + x2)) true) (br (x0 == (2 : Int)) (k (IntKind.i64.wrap (x1 - x2)) true) (br (x0 == (3 : Int)) (k (IntKind.i64.wrap (x1 * x2)) true) (br (x0 == (4 : Int)) (k (andI IntKind.i64 x1 x2) true) (br (x0 == (5 : Int)) (k (orI IntKind.i64 x1 x2) true) (br (x0 == (6 : Int)) (k (xorI IntKind.i64 x1 x2) true) (br (x0 == (10 : Int)) (j2000016 x0 x1 x2 (x0 == (10 : Int))) (j2000016 x0 x1 x2 (x0 == (11 : Int))))))))))
def j17' (x0 : Int) (x1 : Int) (x2 : Int) (k : Int → Bool → Prop) : Prop := j17 x0 x1 x2 k
def j2000016' (x0 : Int) (x1 : Int) (x2 : Int) (x43 : Bool) (k : Int → Bool → Prop) : Prop := j2000016 (fun x0 x1 x2 => j17' x0 x1 x2 k) x0 x1 x2 x43 k
def f0 (x0 : Int) (x1 : Int) (x2 : Int) (k : Int → Bool → Prop) : Prop := c (fun x0 x1 x2 x43 => j2000016' x0 x1 x2 x43 k) x0 x1 x2 k
theorem f_ex : ∃ g : Int → Int → Int → (Int → Bool → Prop) → Prop, g = f0 := ⟨_, rfl⟩
noncomputable def f : Int → Int → Int → (Int → Bool → Prop) → Prop := Classical.choose f_ex
theorem f_def : f = f0 := Classical.choose_spec f_ex
def m2000016 (x0 : Int) (x1 : Int) (x2 : Int) (x43 : Bool) : St := { tmps := mkT 71 0 [(0, (.v (.int IntKind.i64 x0))), (1, (.v (.int IntKind.i64 x1))), (2, (.v (.int IntKind.i64 x2))), (43, (.v (.bool x43)))], hp := [], m := 0 }
def m17 (x0 : Int) (x1 : Int) (x2 : Int) : St := { tmps := mkT 71 0 [(0, (.v (.int IntKind.i64 x0))), (1, (.v (.int IntKind.i64 x1))), (2, (.v (.int IntKind.i64 x2)))], hp := [], m := 0 }
noncomputable def X2000016 (k kp : D → List Blk → Prop) : St → Prop := atP cfg (pick none' []) [1, 0, 1, 0, 1, 1, 1, 1, 1, 1, 1, 1, 1, 1, 1, 1, 1] body (topK cfg Try.f25 k kp)
noncomputable def X17 (k kp : D → List Blk → Prop) : St → Prop := atP cfg (pick none' []) [1, 1] body (topK cfg Try.f25 k kp)
noncomputable def JJ (k kp : D → List Blk → Prop) : Nat → St → Prop := pick none' [(2000016, X2000016 k kp), (17, X17 k kp)]
noncomputable def LL (k kp : D → List Blk → Prop) : Nat → St → Prop := pick none' []
theorem j17_c (k kp : D → List Blk → Prop) (J L : Nat → St → Prop) (x0 : Int) (x1 : Int) (x2 : Int) : runC cfg 17 J L (pick none' []) [1, 1] body (topK cfg Try.f25 k kp) (m17 x0 x1 x2) = j17 x0 x1 x2 (fun y0 y1 => k (.tup [(.v (.int IntKind.i64 y0)), (.v (.bool y1))]) []) := by kernel_rfl
theorem j17_ag (k kp : D → List Blk → Prop) : agPL cfg 17 (JJ k kp) (LL k kp) [1, 1] body = agPR cfg 17 (pick none' []) [1, 1] body (topK cfg Try.f25 k kp) := by kernel_rfl
theorem j17_raw (k kp : D → List Blk → Prop) (x0 : Int) (x1 : Int) (x2 : Int) : X17 k kp (m17 x0 x1 x2) = j17 x0 x1 x2 (fun y0 y1 => k (.tup [(.v (.int IntKind.i64 y0)), (.v (.bool y1))]) []) :=
  Eq.mp (by kernel_rfl) ((atP_run (j17_ag k kp) (m17 x0 x1 x2)).trans (j17_c k kp (JJ k kp) (LL k kp) x0 x1 x2))
theorem j17_eq (k kp : D → List Blk → Prop) (x0 : Int) (x1 : Int) (x2 : Int) : X17 k kp (m17 x0 x1 x2) = j17' x0 x1 x2 (fun y0 y1 => k (.tup [(.v (.int IntKind.i64 y0)), (.v (.bool y1))]) []) := by
  rw [j17_raw]; rfl
theorem j2000016_c (k kp : D → List Blk → Prop) (J L : Nat → St → Prop) (x0 : Int) (x1 : Int) (x2 : Int) (x43 : Bool) : runC cfg 2000016 J L (pick none' []) [1, 0, 1, 0, 1, 1, 1, 1, 1, 1, 1, 1, 1, 1, 1, 1, 1] body (topK cfg Try.f25 k kp) (m2000016 x0 x1 x2 x43) = j2000016 (fun x0 x1 x2 => J 17 (m17 x0 x1 x2)) x0 x1 x2 x43 (fun y0 y1 => k (.tup [(.v (.int IntKind.i64 y0)), (.v (.bool y1))]) []) := by kernel_rfl
theorem j2000016_ag (k kp : D → List Blk → Prop) : agPL cfg 2000016 (JJ k kp) (LL k kp) [1, 0, 1, 0, 1, 1, 1, 1, 1, 1, 1, 1, 1, 1, 1, 1, 1] body = agPR cfg 2000016 (pick none' []) [1, 0, 1, 0, 1, 1, 1, 1, 1, 1, 1, 1, 1, 1, 1, 1, 1] body (topK cfg Try.f25 k kp) := by kernel_rfl
theorem j2000016_raw (k kp : D → List Blk → Prop) (x0 : Int) (x1 : Int) (x2 : Int) (x43 : Bool) : X2000016 k kp (m2000016 x0 x1 x2 x43) = j2000016 (fun x0 x1 x2 => X17 k kp (m17 x0 x1 x2)) x0 x1 x2 x43 (fun y0 y1 => k (.tup [(.v (.int IntKind.i64 y0)), (.v (.bool y1))]) []) :=
  Eq.mp (by kernel_rfl) ((atP_run (j2000016_ag k kp) (m2000016 x0 x1 x2 x43)).trans (j2000016_c k kp (JJ k kp) (LL k kp) x0 x1 x2 x43))
theorem j2000016_eq (k kp : D → List Blk → Prop) (x0 : Int) (x1 : Int) (x2 : Int) (x43 : Bool) : X2000016 k kp (m2000016 x0 x1 x2 x43) = j2000016' x0 x1 x2 x43 (fun y0 y1 => k (.tup [(.v (.int IntKind.i64 y0)), (.v (.bool y1))]) []) := by
  rw [j2000016_raw]; simp only [j17_eq]; first | done | rfl
theorem c_c (k kp : D → List Blk → Prop) (J L : Nat → St → Prop) (x0 : Int) (x1 : Int) (x2 : Int) : runC cfg 1000001 J L none'' [] body (topK cfg Try.f25 k kp) (st0 Try.f25 [(.v (.int IntKind.i64 x0)), (.v (.int IntKind.i64 x1)), (.v (.int IntKind.i64 x2))] []) = c (fun x0 x1 x2 x43 => J 2000016 (m2000016 x0 x1 x2 x43)) x0 x1 x2 (fun y0 y1 => k (.tup [(.v (.int IntKind.i64 y0)), (.v (.bool y1))]) []) := by kernel_rfl
theorem c_ag (k kp : D → List Blk → Prop) : agPL cfg 1000001 (JJ k kp) (LL k kp) [] body = agPR cfg 1000001 none'' [] body (topK cfg Try.f25 k kp) := by kernel_rfl
theorem body_is : Try.f25.body = some body := by kernel_rfl
theorem c_raw (k kp : D → List Blk → Prop) (x0 : Int) (x1 : Int) (x2 : Int) : funW cfg Try.f25 [(.v (.int IntKind.i64 x0)), (.v (.int IntKind.i64 x1)), (.v (.int IntKind.i64 x2))] [] k kp = c (fun x0 x1 x2 x43 => X2000016 k kp (m2000016 x0 x1 x2 x43)) x0 x1 x2 (fun y0 y1 => k (.tup [(.v (.int IntKind.i64 y0)), (.v (.bool y1))]) []) :=
  Eq.mp (by kernel_rfl) ((funW_run (AG := none'') body_is (c_ag k kp) [(.v (.int IntKind.i64 x0)), (.v (.int IntKind.i64 x1)), (.v (.int IntKind.i64 x2))] []).trans (c_c k kp (JJ k kp) (LL k kp) x0 x1 x2))
theorem f_eq (k kp : D → List Blk → Prop) (x0 : Int) (x1 : Int) (x2 : Int) : funW cfg Try.f25 [(.v (.int IntKind.i64 x0)), (.v (.int IntKind.i64 x1)), (.v (.int IntKind.i64 x2))] [] k kp = f x0 x1 x2 (fun y0 y1 => k (.tup [(.v (.int IntKind.i64 y0)), (.v (.bool y1))]) []) := by
  rw [f_def, c_raw]; simp only [j2000016_eq]; first | done | rfl
noncomputable def ent0 : Entry := fun args blks k _ => match args, blks with
  | [d0, d1, d2], [] => aInt IntKind.i64 d0 fun x0 => aInt IntKind.i64 d1 fun x1 => aInt IntKind.i64 d2 fun x2 => f x0 x1 x2 (fun y0 y1 => k (.tup [(.v (.int IntKind.i64 y0)), (.v (.bool y1))]) [])
  | _, _ => False
noncomputable def ent : Entry := fun args blks k kp => ent0 (convA [none, none, none] args) blks k kp
theorem ok : EntOk Try.prog 0 0 25 ent := by
  refine EntOk.conv (EntOk.of (funW_ok (cfg := cfg) (tyOk_of rfl rfl tyL_ok) (eqOk_none rfl) mixed_ok (tab_ok ?_) Try.func25 (by rfl) (by rfl)) ?_) _
  · intro p hp
    simp only [List.mem_cons, List.not_mem_nil, or_false] at hp
    rcases hp with rfl | rfl | rfl | rfl
    · exact N48.ok
    · exact N49.ok
    · exact N50.ok
    · exact N51.ok
  · intro args blks k kp h k' kp'
    match args, blks, h with
    | [d0, d1, d2], [], h =>
    dsimp only [ent0] at h
    have h9 := aInt_elim h; clear h; obtain ⟨x0, rfl, h⟩ := h9
    have h9 := aInt_elim h; clear h; obtain ⟨x1, rfl, h⟩ := h9
    have h9 := aInt_elim h; clear h; obtain ⟨x2, rfl, h⟩ := h9
    exact (f_eq k' kp' x0 x1 x2).symm
end N25
end Go.Proofs.Yt
namespace Go.Proofs.Yt
open Go Go.Aw Go.Proofs
set_option linter.unusedVariables false
set_option linter.unusedSimpArgs false
set_option maxRecDepth 100000
/-! dyehouse/num.Is -/
namespace N27
noncomputable def cfg : Cfg := { P := Try.prog, ty := tys, E := tab [], atSeq := tab [], atLoop := tab [], outs := [] }
noncomputable def body : Code := bodyOf Try.f27
def c (x0 : Int) (k : Bool → Prop) : Prop :=
  (br (decide (x0 ≥ (1 : Int))) (k (decide (x0 ≤ (15 : Int)))) (k false))
def f0 (x0 : Int) (k : Bool → Prop) : Prop := c x0 k
theorem f_ex : ∃ g : Int → (Bool → Prop) → Prop, g = f0 := ⟨_, rfl⟩
noncomputable def f : Int → (Bool → Prop) → Prop := Classical.choose f_ex
theorem f_def : f = f0 := Classical.choose_spec f_ex
noncomputable def JJ (k kp : D → List Blk → Prop) : Nat → St → Prop := pick none' []
noncomputable def LL (k kp : D → List Blk → Prop) : Nat → St → Prop := pick none' []
theorem c_c (k kp : D → List Blk → Prop) (J L : Nat → St → Prop) (x0 : Int) : runC cfg 1000001 J L none'' [] body (topK cfg Try.f27 k kp) (st0 Try.f27 [(.v (.int IntKind.i64 x0))] []) = c x0 (fun y0 => k (.v (.bool y0)) []) := by kernel_rfl
theorem c_ag (k kp : D → List Blk → Prop) : agPL cfg 1000001 (JJ k kp) (LL k kp) [] body = agPR cfg 1000001 none'' [] body (topK cfg Try.f27 k kp) := by kernel_rfl
theorem body_is : Try.f27.body = some body := by kernel_rfl
theorem c_raw (k kp : D → List Blk → Prop) (x0 : Int) : funW cfg Try.f27 [(.v (.int IntKind.i64 x0))] [] k kp = c x0 (fun y0 => k (.v (.bool y0)) []) :=
  Eq.mp (by kernel_rfl) ((funW_run (AG := none'') body_is (c_ag k kp) [(.v (.int IntKind.i64 x0))] []).trans (c_c k kp (JJ k kp) (LL k kp) x0))
theorem f_eq (k kp : D → List Blk → Prop) (x0 : Int) : funW cfg Try.f27 [(.v (.int IntKind.i64 x0))] [] k kp = f x0 (fun y0 => k (.v (.bool y0)) []) := by
  rw [f_def, c_raw]; rfl
noncomputable def ent0 : Entry := fun args blks k _ => match args, blks with
  | [d0], [] => aInt IntKind.i64 d0 fun x0 => f x0 (fun y0 => k (.v (.bool y0)) [])
  | _, _ => False
noncomputable def ent : Entry := fun args blks k kp => ent0 (convA [none] args) blks k kp
theorem ok : EntOk Try.prog 0 0 27 ent := by
  refine EntOk.conv (EntOk.of (funW_ok (cfg := cfg) (tyOk_of rfl rfl tyL_ok) (eqOk_none rfl) mixed_ok (tab_ok ?_) Try.func27 (by rfl) (by rfl)) ?_) _
  · intro p hp
    cases hp
  · intro args blks k kp h k' kp'
    match args, blks, h with
    | [d0], [], h =>
    dsimp only [ent0] at h
    have h9 := aInt_elim h; clear h; obtain ⟨x0, rfl, h⟩ := h9
    exact (f_eq k' kp' x0).symm
end N27
end Go.Proofs.Yt
namespace Go.Proofs.Yt
open Go Go.Aw Go.Proofs
set_option linter.unusedVariables false
set_option linter.unusedSimpArgs false
set_option maxRecDepth 100000
/-! dyehouse/num.Fold -/
namespace N31
noncomputable def cfg : Cfg := { P := Try.prog, ty := tys, E := tab [(25, N25.ent)], atSeq := tab [(11, ⟨[(0, .keep)]⟩)], atLoop := tab [(4, ⟨[(0, .keep), (2, .keep), (17, .keep), (18, .keep), (19, .keep)]⟩)], outs := [] }
noncomputable def body : Code := bodyOf Try.f31
def l4 (j11 : Int → Prop) (ag4 : Int → Int → Prop) (x0 : Int) (x2 : (List Int)) (x17 : (List Int)) (x18 : Int) (x19 : Int) (k : Int → Bool → Prop) : Prop :=
  (br (decide (x19 < x18)) ((inB 0 x19 ((((x17).length : Nat) : Int) - 1)) ∧ ((inB 0 x19 ((((x2).length : Nat) : Int) - 1)) ∧ (N25.f (x17.getD (Int.toNat x19) (0)) x0 (x2.getD (Int.toNat x19) (0)) (fun (y0_0 : Int) (y1_0 : Bool) => (br (!y1_0) (k (0 : Int) false) (ag4 y0_0 (IntKind.i64.wrap (x19 + (1 : Int))))))))) (j11 x0))
def j11 (x0 : Int) (k : Int → Bool → Prop) : Prop :=
  (k x0 true)
def c (l4 : Int → (List Int) → (List Int) → Int → Int → Prop) (x0 : Int) (x1 : (List Int)) (x2 : (List Int)) (k : Int → Bool → Prop) : Prop :=
  (br (((((x1).length : Nat) : Int)) != ((((x2).length : Nat) : Int))) (k (0 : Int) false) (l4 x0 x2 x1 ((((x1).length : Nat) : Int)) (0 : Int)))
def j11' (x0 : Int) (k : Int → Bool → Prop) : Prop := j11 x0 k
def l4' (x0 : Int) (x2 : (List Int)) (x17 : (List Int)) (x18 : Int) (x19 : Int) (k : Int → Bool → Prop) : Prop := ∃ n, loopS (fun (ag : (Int × Int) → Prop) (s : Int × Int) => l4 (fun x0 => j11' x0 k) (fun x0 x19 => ag (x0, x19)) s.1 x2 x17 x18 s.2 k) n (x0, x19)
def f0 (x0 : Int) (x1 : (List Int)) (x2 : (List Int)) (k : Int → Bool → Prop) : Prop := c (fun x0 x2 x17 x18 x19 => l4' x0 x2 x17 x18 x19 k) x0 x1 x2 k
theorem f_ex : ∃ g : Int → (List Int) → (List Int) → (Int → Bool → Prop) → Prop, g = f0 := ⟨_, rfl⟩
noncomputable def f : Int → (List Int) → (List Int) → (Int → Bool → Prop) → Prop := Classical.choose f_ex
theorem f_def : f = f0 := Classical.choose_spec f_ex
def mL4 (x0 : Int) (x2 : (List Int)) (x17 : (List Int)) (x18 : Int) (x19 : Int) : St := { tmps := mkT 39 0 [(0, (.v (.int IntKind.i64 x0))), (2, (.fz (Ty.int IntKind.i64) x2)), (17, (.fz (Ty.int IntKind.i64) x17)), (18, (.v (.int IntKind.i64 x18))), (19, (.v (.int IntKind.i64 x19)))], hp := [], m := 0 }
def m11 (x0 : Int) : St := { tmps := mkT 39 0 [(0, (.v (.int IntKind.i64 x0)))], hp := [], m := 0 }
noncomputable def YL4 (k kp : D → List Blk → Prop) : (St → Prop) → St → Prop := loopB cfg (sub [1, 1, 0, 1, 0, 0] body) (contK cfg (pick none' []) [1, 1, 0, 1, 0] body (topK cfg Try.f31 k kp))
noncomputable def XL4 (k kp : D → List Blk → Prop) : St → Prop := fun st => ∃ n, loopN (YL4 k kp) n st
noncomputable def X11 (k kp : D → List Blk → Prop) : St → Prop := atP cfg (pick none' []) [1, 1, 1] body (topK cfg Try.f31 k kp)
noncomputable def JJ_4 (k kp : D → List Blk → Prop) (ag4 : St → Prop) : Nat → St → Prop := pick none' [(11, X11 k kp)]
noncomputable def LL_4 (k kp : D → List Blk → Prop) (ag4 : St → Prop) : Nat → St → Prop := pick none' [(4, XL4 k kp)]
noncomputable def JJ (k kp : D → List Blk → Prop) : Nat → St → Prop := pick none' [(11, X11 k kp)]
noncomputable def LL (k kp : D → List Blk → Prop) : Nat → St → Prop := pick none' [(4, XL4 k kp)]
theorem j11_c (k kp : D → List Blk → Prop) (J L : Nat → St → Prop) (x0 : Int) : runC cfg 11 J L (pick none' []) [1, 1, 1] body (topK cfg Try.f31 k kp) (m11 x0) = j11 x0 (fun y0 y1 => k (.tup [(.v (.int IntKind.i64 y0)), (.v (.bool y1))]) []) := by kernel_rfl
theorem j11_ag (k kp : D → List Blk → Prop) : agPL cfg 11 (JJ k kp) (LL k kp) [1, 1, 1] body = agPR cfg 11 (pick none' []) [1, 1, 1] body (topK cfg Try.f31 k kp) := by kernel_rfl
theorem j11_raw (k kp : D → List Blk → Prop) (x0 : Int) : X11 k kp (m11 x0) = j11 x0 (fun y0 y1 => k (.tup [(.v (.int IntKind.i64 y0)), (.v (.bool y1))]) []) :=
  Eq.mp (by kernel_rfl) ((atP_run (j11_ag k kp) (m11 x0)).trans (j11_c k kp (JJ k kp) (LL k kp) x0))
theorem j11_eq (k kp : D → List Blk → Prop) (x0 : Int) : X11 k kp (m11 x0) = j11' x0 (fun y0 y1 => k (.tup [(.v (.int IntKind.i64 y0)), (.v (.bool y1))]) []) := by
  rw [j11_raw]; rfl
theorem l4_c (k kp : D → List Blk → Prop) (J L : Nat → St → Prop) (ag4 : St → Prop) (x0 : Int) (x2 : (List Int)) (x17 : (List Int)) (x18 : Int) (x19 : Int) : runC cfg 1000001 J L (pick none' [(4, ag4)]) [1, 1, 0, 1, 0, 0] body (topK cfg Try.f31 k kp) (mL4 x0 x2 x17 x18 x19) = l4 (fun x0 => J 11 (m11 x0)) (fun x0 x19 => ag4 (mL4 x0 x2 x17 x18 x19)) x0 x2 x17 x18 x19 (fun y0 y1 => k (.tup [(.v (.int IntKind.i64 y0)), (.v (.bool y1))]) []) := by kernel_rfl
theorem l4_ag (k kp : D → List Blk → Prop) (ag4 : St → Prop) : agPL cfg 1000001 (JJ_4 k kp ag4) (LL_4 k kp ag4) [1, 1, 0, 1, 0, 0] body = agPR cfg 1000001 (pick none' [(4, ag4)]) [1, 1, 0, 1, 0, 0] body (topK cfg Try.f31 k kp) := by kernel_rfl
theorem l4_raw (k kp : D → List Blk → Prop) (ag4 : St → Prop) (x0 : Int) (x2 : (List Int)) (x17 : (List Int)) (x18 : Int) (x19 : Int) : YL4 k kp ag4 (mL4 x0 x2 x17 x18 x19) = l4 (fun x0 => X11 k kp (m11 x0)) (fun x0 x19 => ag4 (mL4 x0 x2 x17 x18 x19)) x0 x2 x17 x18 x19 (fun y0 y1 => k (.tup [(.v (.int IntKind.i64 y0)), (.v (.bool y1))]) []) :=
  Eq.mp (by kernel_rfl) ((atP_run (l4_ag k kp ag4) (mL4 x0 x2 x17 x18 x19)).trans (l4_c k kp (JJ_4 k kp ag4) (LL_4 k kp ag4) ag4 x0 x2 x17 x18 x19))
theorem l4_eq (k kp : D → List Blk → Prop) (x0 : Int) (x2 : (List Int)) (x17 : (List Int)) (x18 : Int) (x19 : Int) : XL4 k kp (mL4 x0 x2 x17 x18 x19) = l4' x0 x2 x17 x18 x19 (fun y0 y1 => k (.tup [(.v (.int IntKind.i64 y0)), (.v (.bool y1))]) []) :=
  loop_eq (mk := fun (s : Int × Int) => mL4 s.1 x2 x17 x18 s.2) (fun again s => by rw [l4_raw k kp again s.1 x2 x17 x18 s.2]; simp only [j11_eq]; first | done | rfl) (x0, x19)
theorem c_c (k kp : D → List Blk → Prop) (J L : Nat → St → Prop) (x0 : Int) (x1 : (List Int)) (x2 : (List Int)) : runC cfg 1000001 J L none'' [] body (topK cfg Try.f31 k kp) (st0 Try.f31 [(.v (.int IntKind.i64 x0)), (.fz (Ty.int IntKind.i64) x1), (.fz (Ty.int IntKind.i64) x2)] []) = c (fun x0 x2 x17 x18 x19 => L 4 (mL4 x0 x2 x17 x18 x19)) x0 x1 x2 (fun y0 y1 => k (.tup [(.v (.int IntKind.i64 y0)), (.v (.bool y1))]) []) := by kernel_rfl
theorem c_ag (k kp : D → List Blk → Prop) : agPL cfg 1000001 (JJ k kp) (LL k kp) [] body = agPR cfg 1000001 none'' [] body (topK cfg Try.f31 k kp) := by kernel_rfl
theorem body_is : Try.f31.body = some body := by kernel_rfl
theorem c_raw (k kp : D → List Blk → Prop) (x0 : Int) (x1 : (List Int)) (x2 : (List Int)) : funW cfg Try.f31 [(.v (.int IntKind.i64 x0)), (.fz (Ty.int IntKind.i64) x1), (.fz (Ty.int IntKind.i64) x2)] [] k kp = c (fun x0 x2 x17 x18 x19 => XL4 k kp (mL4 x0 x2 x17 x18 x19)) x0 x1 x2 (fun y0 y1 => k (.tup [(.v (.int IntKind.i64 y0)), (.v (.bool y1))]) []) :=
  Eq.mp (by kernel_rfl) ((funW_run (AG := none'') body_is (c_ag k kp) [(.v (.int IntKind.i64 x0)), (.fz (Ty.int IntKind.i64) x1), (.fz (Ty.int IntKind.i64) x2)] []).trans (c_c k kp (JJ k kp) (LL k kp) x0 x1 x2))
theorem f_eq (k kp : D → List Blk → Prop) (x0 : Int) (x1 : (List Int)) (x2 : (List Int)) : funW cfg Try.f31 [(.v (.int IntKind.i64 x0)), (.fz (Ty.int IntKind.i64) x1), (.fz (Ty.int IntKind.i64) x2)] [] k kp = f x0 x1 x2 (fun y0 y1 => k (.tup [(.v (.int IntKind.i64 y0)), (.v (.bool y1))]) []) := by
  rw [f_def, c_raw]; simp only [l4_eq]; first | done | rfl
noncomputable def ent0 : Entry := fun args blks k _ => match args, blks with
  | [d0, d1, d2], [] => aInt IntKind.i64 d0 fun x0 => aFz (Ty.int IntKind.i64) d1 fun x1 => aFz (Ty.int IntKind.i64) d2 fun x2 => f x0 x1 x2 (fun y0 y1 => k (.tup [(.v (.int IntKind.i64 y0)), (.v (.bool y1))]) [])
  | _, _ => False
noncomputable def ent : Entry := fun args blks k kp => ent0 (convA [none, some (Ty.int IntKind.i64), some (Ty.int IntKind.i64)] args) blks k kp
theorem ok : EntOk Try.prog 0 0 31 ent := by
  refine EntOk.conv (EntOk.of (funW_ok (cfg := cfg) (tyOk_of rfl rfl tyL_ok) (eqOk_none rfl) mixed_ok (tab_ok ?_) Try.func31 (by rfl) (by rfl)) ?_) _
  · intro p hp
    simp only [List.mem_cons, List.not_mem_nil, or_false] at hp
    rcases hp with rfl
    · exact N25.ok
  · intro args blks k kp h k' kp'
    match args, blks, h with
    | [d0, d1, d2], [], h =>
    dsimp only [ent0] at h
    have h9 := aInt_elim h; clear h; obtain ⟨x0, rfl, h⟩ := h9
    have h9 := aFz_elim (t := (Ty.int IntKind.i64)) h; clear h; obtain ⟨x1, rfl, h⟩ := h9
    have h9 := aFz_elim (t := (Ty.int IntKind.i64)) h; clear h; obtain ⟨x2, rfl, h⟩ := h9
    exact (f_eq k' kp' x0 x1 x2).symm
end N31
end Go.Proofs.Yt
namespace Go.Proofs.Yt
open Go Go.Aw Go.Proofs
set_option linter.unusedVariables false
set_option linter.unusedSimpArgs false
set_option maxRecDepth 100000
/-! dyehouse/dyehouselaw01.works -/
namespace N28
noncomputable def cfg : Cfg := { P := Try.prog, ty := tys, E := tab [(25, N25.ent), (31, N31.ent), (51, N51.ent), (32, N32.ent), (27, N27.ent)], atSeq := tab [], atLoop := tab [], outs := [] }
noncomputable def body : Code := bodyOf Try.f28
def c (k : Bool → Prop) : Prop :=
  (N25.f (10 : Int) (-7 : Int) (2 : Int) (fun (y0_0 : Int) (y1_0 : Bool) => (N25.f (11 : Int) (5 : Int) (0 : Int) (fun (y0_1 : Int) (y1_1 : Bool) => (N31.f (2 : Int) ([(1 : Int), (3 : Int)] : List Int) ([(3 : Int), (4 : Int)] : List Int) (fun (y0_2 : Int) (y1_2 : Bool) => (br (y0_0 == (-3 : Int)) (br y1_0 (br (!y1_1) (br (y0_2 == (20 : Int)) (br y1_2 (N51.f true (fun (y0_3 : Int) => (br (y0_3 == (1 : Int)) (N32.f (-1 : Int) (fun (y0_4 : Int) => (br (y0_4 == (63 : Int)) (N27.f (15 : Int) (fun (y0_5 : Bool) => (br y0_5 (N27.f (16 : Int) (fun (y0_6 : Bool) => (k (!y0_6)))) (k false)))) (k false)))) (k false)))) (k false)) (k false)) (k false)) (k false)) (k false))))))))
def f0 (k : Bool → Prop) : Prop := c k
theorem f_ex : ∃ g : (Bool → Prop) → Prop, g = f0 := ⟨_, rfl⟩
noncomputable def f : (Bool → Prop) → Prop := Classical.choose f_ex
theorem f_def : f = f0 := Classical.choose_spec f_ex
noncomputable def JJ (k kp : D → List Blk → Prop) : Nat → St → Prop := pick none' []
noncomputable def LL (k kp : D → List Blk → Prop) : Nat → St → Prop := pick none' []
theorem c_c (k kp : D → List Blk → Prop) (J L : Nat → St → Prop) : runC cfg 1000001 J L none'' [] body (topK cfg Try.f28 k kp) (st0 Try.f28 [] []) = c (fun y0 => k (.v (.bool y0)) []) := by kernel_rfl
theorem c_ag (k kp : D → List Blk → Prop) : agPL cfg 1000001 (JJ k kp) (LL k kp) [] body = agPR cfg 1000001 none'' [] body (topK cfg Try.f28 k kp) := by kernel_rfl
theorem body_is : Try.f28.body = some body := by kernel_rfl
theorem c_raw (k kp : D → List Blk → Prop) : funW cfg Try.f28 [] [] k kp = c (fun y0 => k (.v (.bool y0)) []) :=
  Eq.mp (by kernel_rfl) ((funW_run (AG := none'') body_is (c_ag k kp) [] []).trans (c_c k kp (JJ k kp) (LL k kp)))
theorem f_eq (k kp : D → List Blk → Prop) : funW cfg Try.f28 [] [] k kp = f (fun y0 => k (.v (.bool y0)) []) := by
  rw [f_def, c_raw]; rfl
noncomputable def ent0 : Entry := fun args blks k _ => match args, blks with
  | [], [] => f (fun y0 => k (.v (.bool y0)) [])
  | _, _ => False
noncomputable def ent : Entry := fun args blks k kp => ent0 (convA [] args) blks k kp
theorem ok : EntOk Try.prog 0 0 28 ent := by
  refine EntOk.conv (EntOk.of (funW_ok (cfg := cfg) (tyOk_of rfl rfl tyL_ok) (eqOk_none rfl) mixed_ok (tab_ok ?_) Try.func28 (by rfl) (by rfl)) ?_) _
  · intro p hp
    simp only [List.mem_cons, List.not_mem_nil, or_false] at hp
    rcases hp with rfl | rfl | rfl | rfl | rfl
    · exact N25.ok
    · exact N31.ok
    · exact N51.ok
    · exact N32.ok
    · exact N27.ok
  · intro args blks k kp h k' kp'
    match args, blks, h with
    | [], [], h =>
    dsimp only [ent0] at h
    exact (f_eq k' kp').symm
end N28
end Go.Proofs.Yt
namespace Go.Proofs.Yt
open Go Go.Aw Go.Proofs
set_option linter.unusedVariables false
set_option linter.unusedSimpArgs false

/-- Shifts, by what 64 leaves. -/
def shI (b : Int) : Int := w64 (Int.tmod (IntKind.u64.wrap b) 64)
theorem shI_eq (b : Int) : shI b = b % 64 := by
  unfold shI
  rw [wu64_eq, Int.tmod_eq_emod_of_nonneg (by omega), w64_id ⟨by omega, by omega⟩]
  omega

def divI (op a b : Int) : Int × Bool := if b = 0 then (0, false) else if op = 10 then (w64 (a.tdiv b), true) else (a.tmod b, true)
def shiftsI (op a b : Int) : Int × Bool :=
  if op = 7 then (w64 (a * 2 ^ (b % 64).toNat), true) else if op = 8 then (w64 (Int.fdiv (IntKind.u64.wrap a) (2 ^ (b % 64).toNat)), true) else if op = 9 then (Int.fdiv a (2 ^ (b % 64).toNat), true) else (0, false)
def compI (op a b : Int) : Bool × Bool :=
  if op = 12 then (a == b, true) else if op = 13 then (!(a == b), true) else if op = 15 then (decide (a ≤ b), true) else if op = 14 then (decide (a < b), true) else (false, false)
def flagI (b : Bool) : Int := bif b then 1 else 0
def doI (op a b : Int) : Int × Bool :=
  if op = 1 then (w64 (a + b), true) else if op = 2 then (w64 (a - b), true) else if op = 3 then (w64 (a * b), true) else if op = 4 then (andI .i64 a b, true) else if op = 5 then (orI .i64 a b, true) else
  if op = 6 then (xorI .i64 a b, true) else if op = 10 ∨ op = 11 then divI op a b else
  if (shiftsI op a b).2 = true then shiftsI op a b else (flagI (compI op a b).1, (compI op a b).2)

theorem shift_s (b : Int) (k : Int → Prop) : N32.f b k ↔ k (b % 64) := by
  rw [N32.f_def]
  unfold N32.f0 N32.c
  have : IntKind.i64.wrap (Int.tmod (IntKind.u64.wrap b) (64 : Int)) = b % 64 := shI_eq b
  rw [this]
  simp

theorem flag_s (b : Bool) (k : Int → Prop) : N51.f b k ↔ k (flagI b) := by
  rw [N51.f_def]
  unfold N51.f0 N51.c flagI
  cases b <;> simp

theorem divides_s (op a b : Int) (k : Int → Bool → Prop) : N48.f op a b k ↔ k (divI op a b).1 (divI op a b).2 := by
  rw [N48.f_def]
  unfold N48.f0 N48.c divI
  by_cases h : b = 0
  · subst h; simp
  · by_cases h2 : op = 10
    · subst h2; simp [h]
    · simp [h, h2]

theorem shifts_s (op a b : Int) (k : Int → Bool → Prop) : N49.f op a b k ↔ k (shiftsI op a b).1 (shiftsI op a b).2 := by
  rw [N49.f_def]
  unfold N49.f0 N49.c
  rw [shift_s]
  have h0 : 0 ≤ b % 64 := by omega
  have h1 : min (b % 64).toNat 64 = (b % 64).toNat := by omega
  simp only [h0, h1, true_and]
  unfold shiftsI
  by_cases h7 : op = 7
  · subst h7; simp
  by_cases h8 : op = 8
  · subst h8; simp
  by_cases h9 : op = 9
  · subst h9; simp
  simp [h7, h8, h9]

theorem comps_s (op a b : Int) (k : Bool → Bool → Prop) : N50.f op a b k ↔ k (compI op a b).1 (compI op a b).2 := by
  rw [N50.f_def]
  unfold N50.f0 N50.c N50.j11' N50.j12' N50.j11 N50.j12 compI
  by_cases h12 : op = 12
  · subst h12; simp
  by_cases h13 : op = 13
  · subst h13; simp
  by_cases h15 : op = 15
  · subst h15
    by_cases hab : a = b
    · subst hab; simp
    · have : decide (a < b) = decide (a ≤ b) := by
        rw [Bool.eq_iff_iff]; simp; omega
      simp [hab, this]
  by_cases h14 : op = 14
  · subst h14; simp
  simp [h12, h13, h14, h15]

theorem do_s (op a b : Int) (k : Int → Bool → Prop) : N25.f op a b k ↔ k (doI op a b).1 (doI op a b).2 := by
  rw [N25.f_def]
  unfold N25.f0 N25.c N25.j2000016' N25.j2000016 N25.j17' N25.j17
  simp only [divides_s, shifts_s, comps_s, flag_s]
  unfold doI
  by_cases h : op = 1
  · subst h; simp
  by_cases h2 : op = 2
  · subst h2; simp
  by_cases h3 : op = 3
  · subst h3; simp
  by_cases h4 : op = 4
  · subst h4; simp
  by_cases h5 : op = 5
  · subst h5; simp
  by_cases h6 : op = 6
  · subst h6; simp
  by_cases h10 : op = 10
  · subst h10; simp
  by_cases h11 : op = 11
  · subst h11; simp
  simp only [br_beq, h, h2, h3, h4, h5, h6, h10, h11, if_false, or_self]
  cases hs : (shiftsI op a b).2 <;> simp [hs]

/-! ### Fold -/
def foldI (a : Int) : List Int → List Int → Int × Bool
  | op :: ops, b :: bs => if (doI op a b).2 = true then foldI (doI op a b).1 ops bs else (0, false)
  | _, _ => (a, true)

theorem fold_s (a : Int) (ops bs : List Int) (hl : ops.length < 2 ^ 62) (k : Int → Bool → Prop) (h : if ops.length = bs.length then k (foldI a ops bs).1 (foldI a ops bs).2 else k 0 false) : N31.f a ops bs k := by
  rw [N31.f_def]
  unfold N31.f0 N31.c
  by_cases e : ops.length = bs.length
  · rw [if_pos e] at h
    simp only [e, bne_self_eq_false, br_false]
    unfold N31.l4'
    refine loopS_of (fun s : Int × Int => 0 ≤ s.2 ∧ s.2 ≤ bs.length ∧ k (foldI s.1 (ops.drop s.2.toNat) (bs.drop s.2.toNat)).1 (foldI s.1 (ops.drop s.2.toNat) (bs.drop s.2.toNat)).2) (fun s => (bs.length - s.2).toNat) ?_ ⟨Int.le_refl _, by omega, by simpa using h⟩
    rintro again ⟨x, i⟩ ⟨h0, h1, hk⟩ hag
    simp only at h0 h1 hk hag
    unfold N31.l4 N31.j11' N31.j11
    refine br_of (fun hlt => ?_) (fun hge => ?_)
    · have hlt : i < bs.length := by simpa using hlt
      refine ⟨⟨by omega, by omega, by omega⟩, ⟨by omega, by omega, by omega⟩, ?_⟩
      rw [do_s]
      have ea : ops.drop i.toNat = ops.getD i.toNat 0 :: ops.drop (i.toNat + 1) := by
        rw [List.drop_eq_getElem_cons (by omega)]; simp [List.getD, List.getElem?_eq_getElem (show i.toNat < ops.length by omega)]
      have eb : bs.drop i.toNat = bs.getD i.toNat 0 :: bs.drop (i.toNat + 1) := by
        rw [List.drop_eq_getElem_cons (by omega)]; simp [List.getD, List.getElem?_eq_getElem (show i.toNat < bs.length by omega)]
      rw [ea, eb] at hk
      unfold foldI at hk
      cases hd : (doI (ops.getD i.toNat 0) x (bs.getD i.toNat 0)).2 with
      | false =>
        rw [if_neg (by rw [hd]; simp)] at hk
        exact hk
      | true =>
        simp only [hd, Bool.not_true, br_false]
        rw [if_pos hd] at hk
        have hw : IntKind.i64.wrap (i + 1) = i + 1 := w64_id ⟨by omega, by omega⟩
        rw [hw]
        refine hag _ ⟨by simp; omega, by simp; omega, ?_⟩ (by simp; omega)
        have : (i + 1).toNat = i.toNat + 1 := by omega
        simpa [this] using hk
    · have hge : ¬ i < bs.length := by simpa using hge
      have e1 : ops.drop i.toNat = [] := List.drop_eq_nil_of_le (by omega)
      rw [e1] at hk
      simpa [foldI] using hk
  · rw [if_neg e] at h
    have : ((((ops).length : Nat) : Int) != (((bs).length : Nat) : Int)) = true := by simp; omega
    rw [this]
    exact h

theorem is_s (op : Int) (k : Bool → Prop) : N27.f op k ↔ k (decide (1 ≤ op) && decide (op ≤ 15)) := by
  rw [N27.f_def]
  unfold N27.f0 N27.c
  by_cases h : 1 ≤ op
  · have : decide (op ≥ (1 : Int)) = true := by simpa using h
    simp [this, h]
  · have : decide (op ≥ (1 : Int)) = false := by simpa using h
    simp [this, h]

theorem works_s (k : Bool → Prop) (h : k true) : N28.f k := by
  rw [N28.f_def]
  unfold N28.f0 N28.c
  rw [do_s, do_s]
  refine fold_s _ _ _ (by decide) _ ?_
  rw [if_pos (by rfl)]
  simp only [flag_s, shift_s, is_s]
  have e1 : doI 10 (-7) 2 = (-3, true) := by decide +kernel
  have e2 : (doI 11 5 0).2 = false := by decide +kernel
  have e3 : foldI 2 [1, 3] [3, 4] = (20, true) := by decide +kernel
  rw [e1, e2, e3]
  exact h
end Go.Proofs.Yt
namespace Go.Proofs.Yt
open Go Go.Aw Go.Proofs
set_option linter.unusedVariables false
set_option linter.unusedSimpArgs false
set_option maxRecDepth 100000
/-! dyehouse/dyehouseref01.bits -/
namespace N64
noncomputable def cfg : Cfg := { P := Try.prog, ty := tys, E := tab [], atSeq := tab [(8, ⟨[(2, .keep), (3, .keep)]⟩)], atLoop := tab [(4, ⟨[(2, .keep), (3, .keep), (4, .keep), (5, .keep)]⟩)], outs := [] }
noncomputable def body : Code := bodyOf Try.f64
def l4 (j8 : (List Bool) → (List Bool) → Prop) (ag4 : Int → Int → (List Bool) → (List Bool) → Prop) (x4 : Int) (x5 : Int) (b0 : (List Bool)) (b1 : (List Bool)) (k : (List Bool) → Prop) : Prop :=
  (br (decide (x5 < (64 : Int))) (((2 : Int) ≠ 0) ∧ ((inB 0 x5 (((64 : Nat) : Int) - 1)) ∧ (((2 : Int) ≠ 0) ∧ (ag4 (IntKind.u64.wrap (Int.tdiv x4 (2 : Int))) (IntKind.i64.wrap (x5 + (1 : Int))) b0 (b1.set (Int.toNat x5) ((Int.tmod x4 (2 : Int)) == (1 : Int))))))) (j8 b0 b1))
def j8 (b0 : (List Bool)) (b1 : (List Bool)) (k : (List Bool) → Prop) : Prop :=
  (k b1)
def c (l4 : Int → Int → (List Bool) → (List Bool) → Prop) (x0 : Int) (k : (List Bool) → Prop) : Prop :=
  (l4 (IntKind.u64.wrap x0) (0 : Int) (List.replicate 64 (false)) (List.replicate 64 (false)))
def j8' (b0 : (List Bool)) (b1 : (List Bool)) (k : (List Bool) → Prop) : Prop := j8 b0 b1 k
def l4' (x4 : Int) (x5 : Int) (b0 : (List Bool)) (b1 : (List Bool)) (k : (List Bool) → Prop) : Prop := ∃ n, loopS (fun (ag : (Int × Int × (List Bool) × (List Bool)) → Prop) (s : Int × Int × (List Bool) × (List Bool)) => l4 (fun b0 b1 => j8' b0 b1 k) (fun x4 x5 b0 b1 => ag (x4, x5, b0, b1)) s.1 s.2.1 s.2.2.1 s.2.2.2 k) n (x4, x5, b0, b1)
def f0 (x0 : Int) (k : (List Bool) → Prop) : Prop := c (fun x4 x5 b0 b1 => l4' x4 x5 b0 b1 k) x0 k
theorem f_ex : ∃ g : Int → ((List Bool) → Prop) → Prop, g = f0 := ⟨_, rfl⟩
noncomputable def f : Int → ((List Bool) → Prop) → Prop := Classical.choose f_ex
theorem f_def : f = f0 := Classical.choose_spec f_ex
def mL4 (x4 : Int) (x5 : Int) (b0 : (List Bool)) (b1 : (List Bool)) : St := { tmps := mkT 20 0 [(2, (.ptr 0 0)), (3, (.ptr 1 0)), (4, (.v (.int IntKind.u64 x4))), (5, (.v (.int IntKind.i64 x5)))], hp := [(.arr 70 64 Ty.bool b0 false), (.arr 70 64 Ty.bool b1 false)], m := 0 }
def m8 (b0 : (List Bool)) (b1 : (List Bool)) : St := { tmps := mkT 20 0 [(2, (.ptr 0 0)), (3, (.ptr 1 0))], hp := [(.arr 70 64 Ty.bool b0 false), (.arr 70 64 Ty.bool b1 false)], m := 0 }
noncomputable def YL4 (k kp : D → List Blk → Prop) : (St → Prop) → St → Prop := loopB cfg (sub [1, 1, 1, 0, 1, 0, 0] body) (contK cfg (pick none' []) [1, 1, 1, 0, 1, 0] body (topK cfg Try.f64 k kp))
noncomputable def XL4 (k kp : D → List Blk → Prop) : St → Prop := fun st => ∃ n, loopN (YL4 k kp) n st
noncomputable def X8 (k kp : D → List Blk → Prop) : St → Prop := atP cfg (pick none' []) [1, 1, 1, 1] body (topK cfg Try.f64 k kp)
noncomputable def JJ_4 (k kp : D → List Blk → Prop) (ag4 : St → Prop) : Nat → St → Prop := pick none' [(8, X8 k kp)]
noncomputable def LL_4 (k kp : D → List Blk → Prop) (ag4 : St → Prop) : Nat → St → Prop := pick none' [(4, XL4 k kp)]
noncomputable def JJ (k kp : D → List Blk → Prop) : Nat → St → Prop := pick none' [(8, X8 k kp)]
noncomputable def LL (k kp : D → List Blk → Prop) : Nat → St → Prop := pick none' [(4, XL4 k kp)]
theorem j8_c (k kp : D → List Blk → Prop) (J L : Nat → St → Prop) (b0 : (List Bool)) (b1 : (List Bool)) : runC cfg 8 J L (pick none' []) [1, 1, 1, 1] body (topK cfg Try.f64 k kp) (m8 b0 b1) = j8 b0 b1 (fun y0 => k (.av Ty.bool 64 y0) []) := by kernel_rfl
theorem j8_ag (k kp : D → List Blk → Prop) : agPL cfg 8 (JJ k kp) (LL k kp) [1, 1, 1, 1] body = agPR cfg 8 (pick none' []) [1, 1, 1, 1] body (topK cfg Try.f64 k kp) := by kernel_rfl
theorem j8_raw (k kp : D → List Blk → Prop) (b0 : (List Bool)) (b1 : (List Bool)) : X8 k kp (m8 b0 b1) = j8 b0 b1 (fun y0 => k (.av Ty.bool 64 y0) []) :=
  Eq.mp (by kernel_rfl) ((atP_run (j8_ag k kp) (m8 b0 b1)).trans (j8_c k kp (JJ k kp) (LL k kp) b0 b1))
theorem j8_eq (k kp : D → List Blk → Prop) (b0 : (List Bool)) (b1 : (List Bool)) : X8 k kp (m8 b0 b1) = j8' b0 b1 (fun y0 => k (.av Ty.bool 64 y0) []) := by
  rw [j8_raw]; rfl
theorem l4_c (k kp : D → List Blk → Prop) (J L : Nat → St → Prop) (ag4 : St → Prop) (x4 : Int) (x5 : Int) (b0 : (List Bool)) (b1 : (List Bool)) : runC cfg 1000001 J L (pick none' [(4, ag4)]) [1, 1, 1, 0, 1, 0, 0] body (topK cfg Try.f64 k kp) (mL4 x4 x5 b0 b1) = l4 (fun b0 b1 => J 8 (m8 b0 b1)) (fun x4 x5 b0 b1 => ag4 (mL4 x4 x5 b0 b1)) x4 x5 b0 b1 (fun y0 => k (.av Ty.bool 64 y0) []) := by kernel_rfl
theorem l4_ag (k kp : D → List Blk → Prop) (ag4 : St → Prop) : agPL cfg 1000001 (JJ_4 k kp ag4) (LL_4 k kp ag4) [1, 1, 1, 0, 1, 0, 0] body = agPR cfg 1000001 (pick none' [(4, ag4)]) [1, 1, 1, 0, 1, 0, 0] body (topK cfg Try.f64 k kp) := by kernel_rfl
theorem l4_raw (k kp : D → List Blk → Prop) (ag4 : St → Prop) (x4 : Int) (x5 : Int) (b0 : (List Bool)) (b1 : (List Bool)) : YL4 k kp ag4 (mL4 x4 x5 b0 b1) = l4 (fun b0 b1 => X8 k kp (m8 b0 b1)) (fun x4 x5 b0 b1 => ag4 (mL4 x4 x5 b0 b1)) x4 x5 b0 b1 (fun y0 => k (.av Ty.bool 64 y0) []) :=
  Eq.mp (by kernel_rfl) ((atP_run (l4_ag k kp ag4) (mL4 x4 x5 b0 b1)).trans (l4_c k kp (JJ_4 k kp ag4) (LL_4 k kp ag4) ag4 x4 x5 b0 b1))
theorem l4_eq (k kp : D → List Blk → Prop) (x4 : Int) (x5 : Int) (b0 : (List Bool)) (b1 : (List Bool)) : XL4 k kp (mL4 x4 x5 b0 b1) = l4' x4 x5 b0 b1 (fun y0 => k (.av Ty.bool 64 y0) []) :=
  loop_eq (mk := fun (s : Int × Int × (List Bool) × (List Bool)) => mL4 s.1 s.2.1 s.2.2.1 s.2.2.2) (fun again s => by rw [l4_raw k kp again s.1 s.2.1 s.2.2.1 s.2.2.2]; simp only [j8_eq]; first | done | rfl) (x4, x5, b0, b1)
theorem c_c (k kp : D → List Blk → Prop) (J L : Nat → St → Prop) (x0 : Int) : runC cfg 1000001 J L none'' [] body (topK cfg Try.f64 k kp) (st0 Try.f64 [(.v (.int IntKind.i64 x0))] []) = c (fun x4 x5 b0 b1 => L 4 (mL4 x4 x5 b0 b1)) x0 (fun y0 => k (.av Ty.bool 64 y0) []) := by kernel_rfl
theorem c_ag (k kp : D → List Blk → Prop) : agPL cfg 1000001 (JJ k kp) (LL k kp) [] body = agPR cfg 1000001 none'' [] body (topK cfg Try.f64 k kp) := by kernel_rfl
theorem body_is : Try.f64.body = some body := by kernel_rfl
theorem c_raw (k kp : D → List Blk → Prop) (x0 : Int) : funW cfg Try.f64 [(.v (.int IntKind.i64 x0))] [] k kp = c (fun x4 x5 b0 b1 => XL4 k kp (mL4 x4 x5 b0 b1)) x0 (fun y0 => k (.av Ty.bool 64 y0) []) :=
  Eq.mp (by kernel_rfl) ((funW_run (AG := none'') body_is (c_ag k kp) [(.v (.int IntKind.i64 x0))] []).trans (c_c k kp (JJ k kp) (LL k kp) x0))
theorem f_eq (k kp : D → List Blk → Prop) (x0 : Int) : funW cfg Try.f64 [(.v (.int IntKind.i64 x0))] [] k kp = f x0 (fun y0 => k (.av Ty.bool 64 y0) []) := by
  rw [f_def, c_raw]; simp only [l4_eq]; first | done | rfl
noncomputable def ent0 : Entry := fun args blks k _ => match args, blks with
  | [d0], [] => aInt IntKind.i64 d0 fun x0 => f x0 (fun y0 => k (.av Ty.bool 64 y0) [])
  | _, _ => False
noncomputable def ent : Entry := fun args blks k kp => ent0 (convA [none] args) blks k kp
theorem ok : EntOk Try.prog 0 0 64 ent := by
  refine EntOk.conv (EntOk.of (funW_ok (cfg := cfg) (tyOk_of rfl rfl tyL_ok) (eqOk_none rfl) mixed_ok (tab_ok ?_) Try.func64 (by rfl) (by rfl)) ?_) _
  · intro p hp
    cases hp
  · intro args blks k kp h k' kp'
    match args, blks, h with
    | [d0], [], h =>
    dsimp only [ent0] at h
    have h9 := aInt_elim h; clear h; obtain ⟨x0, rfl, h⟩ := h9
    exact (f_eq k' kp' x0).symm
end N64
end Go.Proofs.Yt
namespace Go.Proofs.Yt
open Go Go.Aw Go.Proofs
set_option linter.unusedVariables false
set_option linter.unusedSimpArgs false
set_option maxRecDepth 100000
/-! dyehouse/dyehouseref01.number -/
namespace N65
noncomputable def cfg : Cfg := { P := Try.prog, ty := tys, E := tab [], atSeq := tab [(4, ⟨[(1, .keep), (3, .keep), (4, .keep)]⟩), (8, ⟨[(3, .keep)]⟩)], atLoop := tab [(3, ⟨[(1, .keep), (3, .keep), (4, .keep)]⟩)], outs := [] }
noncomputable def body : Code := bodyOf Try.f65
def l3 (j4 : Int → Int → (List Bool) → Prop) (j8 : Int → Prop) (x3 : Int) (x4 : Int) (b0 : (List Bool)) (k : Int → Prop) : Prop :=
  (br (decide (x4 ≥ (0 : Int))) ((inB 0 x4 (((64 : Nat) : Int) - 1)) ∧ (br (b0.getD (Int.toNat x4) (false)) (j4 (IntKind.u64.wrap ((IntKind.u64.wrap ((2 : Int) * x3)) + (1 : Int))) x4 b0) (j4 (IntKind.u64.wrap ((2 : Int) * x3)) x4 b0))) (j8 x3))
def j4 (ag3 : Int → Int → (List Bool) → Prop) (x3 : Int) (x4 : Int) (b0 : (List Bool)) (k : Int → Prop) : Prop :=
  (ag3 x3 (IntKind.i64.wrap (x4 - (1 : Int))) b0)
def j8 (x3 : Int) (k : Int → Prop) : Prop :=
  (k (IntKind.i64.wrap x3))
def c (l3 : Int → Int → (List Bool) → Prop) (x0 : (List Bool)) (k : Int → Prop) : Prop :=
  (l3 (0 : Int) (63 : Int) x0)
def j4' (ag3 : Int → Int → (List Bool) → Prop) (x3 : Int) (x4 : Int) (b0 : (List Bool)) (k : Int → Prop) : Prop := j4 ag3 x3 x4 b0 k
def j8' (x3 : Int) (k : Int → Prop) : Prop := j8 x3 k
def l3' (x3 : Int) (x4 : Int) (b0 : (List Bool)) (k : Int → Prop) : Prop := ∃ n, loopS (fun (ag : (Int × Int × (List Bool)) → Prop) (s : Int × Int × (List Bool)) => l3 (fun x3 x4 b0 => j4' (fun x3 x4 b0 => ag (x3, x4, b0)) x3 x4 b0 k) (fun x3 => j8' x3 k) s.1 s.2.1 s.2.2 k) n (x3, x4, b0)
def f0 (x0 : (List Bool)) (k : Int → Prop) : Prop := c (fun x3 x4 b0 => l3' x3 x4 b0 k) x0 k
theorem f_ex : ∃ g : (List Bool) → (Int → Prop) → Prop, g = f0 := ⟨_, rfl⟩
noncomputable def f : (List Bool) → (Int → Prop) → Prop := Classical.choose f_ex
theorem f_def : f = f0 := Classical.choose_spec f_ex
def mL3 (x3 : Int) (x4 : Int) (b0 : (List Bool)) : St := { tmps := mkT 18 0 [(1, (.ptr 0 0)), (3, (.v (.int IntKind.u64 x3))), (4, (.v (.int IntKind.i64 x4)))], hp := [(.arr 70 64 Ty.bool b0 false)], m := 0 }
def m4 (x3 : Int) (x4 : Int) (b0 : (List Bool)) : St := { tmps := mkT 18 0 [(1, (.ptr 0 0)), (3, (.v (.int IntKind.u64 x3))), (4, (.v (.int IntKind.i64 x4)))], hp := [(.arr 70 64 Ty.bool b0 false)], m := 0 }
def m8 (x3 : Int) : St := { tmps := mkT 18 0 [(3, (.v (.int IntKind.u64 x3)))], hp := [], m := 0 }
noncomputable def YL3 (k kp : D → List Blk → Prop) : (St → Prop) → St → Prop := loopB cfg (sub [1, 1, 0, 1, 0, 0] body) (contK cfg (pick none' []) [1, 1, 0, 1, 0] body (topK cfg Try.f65 k kp))
noncomputable def XL3 (k kp : D → List Blk → Prop) : St → Prop := fun st => ∃ n, loopN (YL3 k kp) n st
noncomputable def X4 (k kp : D → List Blk → Prop) (ag3 : St → Prop) : St → Prop := atP cfg (pick none' [(3, ag3)]) [1, 1, 0, 1, 0, 0, 1, 1] body (topK cfg Try.f65 k kp)
noncomputable def X8 (k kp : D → List Blk → Prop) : St → Prop := atP cfg (pick none' []) [1, 1, 1] body (topK cfg Try.f65 k kp)
noncomputable def JJ_3 (k kp : D → List Blk → Prop) (ag3 : St → Prop) : Nat → St → Prop := pick none' [(4, X4 k kp ag3), (8, X8 k kp)]
noncomputable def LL_3 (k kp : D → List Blk → Prop) (ag3 : St → Prop) : Nat → St → Prop := pick none' [(3, XL3 k kp)]
noncomputable def JJ (k kp : D → List Blk → Prop) : Nat → St → Prop := pick none' [(8, X8 k kp)]
noncomputable def LL (k kp : D → List Blk → Prop) : Nat → St → Prop := pick none' [(3, XL3 k kp)]
theorem j4_c (k kp : D → List Blk → Prop) (J L : Nat → St → Prop) (ag3 : St → Prop) (x3 : Int) (x4 : Int) (b0 : (List Bool)) : runC cfg 4 J L (pick none' [(3, ag3)]) [1, 1, 0, 1, 0, 0, 1, 1] body (topK cfg Try.f65 k kp) (m4 x3 x4 b0) = j4 (fun x3 x4 b0 => ag3 (mL3 x3 x4 b0)) x3 x4 b0 (fun y0 => k (.v (.int IntKind.i64 y0)) []) := by kernel_rfl
theorem j4_ag (k kp : D → List Blk → Prop) (ag3 : St → Prop) : agPL cfg 4 (JJ_3 k kp ag3) (LL_3 k kp ag3) [1, 1, 0, 1, 0, 0, 1, 1] body = agPR cfg 4 (pick none' [(3, ag3)]) [1, 1, 0, 1, 0, 0, 1, 1] body (topK cfg Try.f65 k kp) := by kernel_rfl
theorem j4_raw (k kp : D → List Blk → Prop) (ag3 : St → Prop) (x3 : Int) (x4 : Int) (b0 : (List Bool)) : X4 k kp ag3 (m4 x3 x4 b0) = j4 (fun x3 x4 b0 => ag3 (mL3 x3 x4 b0)) x3 x4 b0 (fun y0 => k (.v (.int IntKind.i64 y0)) []) :=
  Eq.mp (by kernel_rfl) ((atP_run (j4_ag k kp ag3) (m4 x3 x4 b0)).trans (j4_c k kp (JJ_3 k kp ag3) (LL_3 k kp ag3) ag3 x3 x4 b0))
theorem j4_eq (k kp : D → List Blk → Prop) (ag3 : St → Prop) (x3 : Int) (x4 : Int) (b0 : (List Bool)) : X4 k kp ag3 (m4 x3 x4 b0) = j4' (fun x3 x4 b0 => ag3 (mL3 x3 x4 b0)) x3 x4 b0 (fun y0 => k (.v (.int IntKind.i64 y0)) []) := by
  rw [j4_raw]; rfl
theorem j8_c (k kp : D → List Blk → Prop) (J L : Nat → St → Prop) (x3 : Int) : runC cfg 8 J L (pick none' []) [1, 1, 1] body (topK cfg Try.f65 k kp) (m8 x3) = j8 x3 (fun y0 => k (.v (.int IntKind.i64 y0)) []) := by kernel_rfl
theorem j8_ag (k kp : D → List Blk → Prop) : agPL cfg 8 (JJ k kp) (LL k kp) [1, 1, 1] body = agPR cfg 8 (pick none' []) [1, 1, 1] body (topK cfg Try.f65 k kp) := by kernel_rfl
theorem j8_raw (k kp : D → List Blk → Prop) (x3 : Int) : X8 k kp (m8 x3) = j8 x3 (fun y0 => k (.v (.int IntKind.i64 y0)) []) :=
  Eq.mp (by kernel_rfl) ((atP_run (j8_ag k kp) (m8 x3)).trans (j8_c k kp (JJ k kp) (LL k kp) x3))
theorem j8_eq (k kp : D → List Blk → Prop) (x3 : Int) : X8 k kp (m8 x3) = j8' x3 (fun y0 => k (.v (.int IntKind.i64 y0)) []) := by
  rw [j8_raw]; rfl
theorem l3_c (k kp : D → List Blk → Prop) (J L : Nat → St → Prop) (ag3 : St → Prop) (x3 : Int) (x4 : Int) (b0 : (List Bool)) : runC cfg 1000001 J L (pick none' [(3, ag3)]) [1, 1, 0, 1, 0, 0] body (topK cfg Try.f65 k kp) (mL3 x3 x4 b0) = l3 (fun x3 x4 b0 => J 4 (m4 x3 x4 b0)) (fun x3 => J 8 (m8 x3)) x3 x4 b0 (fun y0 => k (.v (.int IntKind.i64 y0)) []) := by kernel_rfl
theorem l3_ag (k kp : D → List Blk → Prop) (ag3 : St → Prop) : agPL cfg 1000001 (JJ_3 k kp ag3) (LL_3 k kp ag3) [1, 1, 0, 1, 0, 0] body = agPR cfg 1000001 (pick none' [(3, ag3)]) [1, 1, 0, 1, 0, 0] body (topK cfg Try.f65 k kp) := by kernel_rfl
theorem l3_raw (k kp : D → List Blk → Prop) (ag3 : St → Prop) (x3 : Int) (x4 : Int) (b0 : (List Bool)) : YL3 k kp ag3 (mL3 x3 x4 b0) = l3 (fun x3 x4 b0 => X4 k kp ag3 (m4 x3 x4 b0)) (fun x3 => X8 k kp (m8 x3)) x3 x4 b0 (fun y0 => k (.v (.int IntKind.i64 y0)) []) :=
  Eq.mp (by kernel_rfl) ((atP_run (l3_ag k kp ag3) (mL3 x3 x4 b0)).trans (l3_c k kp (JJ_3 k kp ag3) (LL_3 k kp ag3) ag3 x3 x4 b0))
theorem l3_eq (k kp : D → List Blk → Prop) (x3 : Int) (x4 : Int) (b0 : (List Bool)) : XL3 k kp (mL3 x3 x4 b0) = l3' x3 x4 b0 (fun y0 => k (.v (.int IntKind.i64 y0)) []) :=
  loop_eq (mk := fun (s : Int × Int × (List Bool)) => mL3 s.1 s.2.1 s.2.2) (fun again s => by rw [l3_raw k kp again s.1 s.2.1 s.2.2]; simp only [j4_eq, j8_eq]; first | done | rfl) (x3, x4, b0)
theorem c_c (k kp : D → List Blk → Prop) (J L : Nat → St → Prop) (x0 : (List Bool)) : runC cfg 1000001 J L none'' [] body (topK cfg Try.f65 k kp) (st0 Try.f65 [(.av Ty.bool 64 x0)] []) = c (fun x3 x4 b0 => L 3 (mL3 x3 x4 b0)) x0 (fun y0 => k (.v (.int IntKind.i64 y0)) []) := by kernel_rfl
theorem c_ag (k kp : D → List Blk → Prop) : agPL cfg 1000001 (JJ k kp) (LL k kp) [] body = agPR cfg 1000001 none'' [] body (topK cfg Try.f65 k kp) := by kernel_rfl
theorem body_is : Try.f65.body = some body := by kernel_rfl
theorem c_raw (k kp : D → List Blk → Prop) (x0 : (List Bool)) : funW cfg Try.f65 [(.av Ty.bool 64 x0)] [] k kp = c (fun x3 x4 b0 => XL3 k kp (mL3 x3 x4 b0)) x0 (fun y0 => k (.v (.int IntKind.i64 y0)) []) :=
  Eq.mp (by kernel_rfl) ((funW_run (AG := none'') body_is (c_ag k kp) [(.av Ty.bool 64 x0)] []).trans (c_c k kp (JJ k kp) (LL k kp) x0))
theorem f_eq (k kp : D → List Blk → Prop) (x0 : (List Bool)) : funW cfg Try.f65 [(.av Ty.bool 64 x0)] [] k kp = f x0 (fun y0 => k (.v (.int IntKind.i64 y0)) []) := by
  rw [f_def, c_raw]; simp only [l3_eq]; first | done | rfl
noncomputable def ent0 : Entry := fun args blks k _ => match args, blks with
  | [d0], [] => aAv Ty.bool 64 d0 fun x0 => f x0 (fun y0 => k (.v (.int IntKind.i64 y0)) [])
  | _, _ => False
noncomputable def ent : Entry := fun args blks k kp => ent0 (convA [none] args) blks k kp
theorem ok : EntOk Try.prog 0 0 65 ent := by
  refine EntOk.conv (EntOk.of (funW_ok (cfg := cfg) (tyOk_of rfl rfl tyL_ok) (eqOk_none rfl) mixed_ok (tab_ok ?_) Try.func65 (by rfl) (by rfl)) ?_) _
  · intro p hp
    cases hp
  · intro args blks k kp h k' kp'
    match args, blks, h with
    | [d0], [], h =>
    dsimp only [ent0] at h
    have h9 := aAv_elim (t := Ty.bool) (n := 64) h; clear h; obtain ⟨x0, rfl, h⟩ := h9
    exact (f_eq k' kp' x0).symm
end N65
end Go.Proofs.Yt
namespace Go.Proofs.Yt
open Go Go.Aw Go.Proofs
set_option linter.unusedVariables false
set_option linter.unusedSimpArgs false
set_option maxRecDepth 100000
/-! dyehouse/dyehouseref01.Add -/
namespace N52
noncomputable def cfg : Cfg := { P := Try.prog, ty := tys, E := tab [(64, N64.ent), (65, N65.ent)], atSeq := tab [(10, ⟨[(5, .keep), (6, .keep), (7, .keep), (8, .keep), (9, .keep), (10, .keep)]⟩), (16, ⟨[(7, .keep)]⟩), (12, ⟨[(5, .keep), (6, .keep), (7, .keep), (8, .keep), (9, .keep), (10, .keep)]⟩), (14, ⟨[(5, .keep), (6, .keep), (7, .keep), (9, .keep), (10, .keep)]⟩), (6, ⟨[(5, .keep), (6, .keep), (7, .keep), (8, .keep), (9, .keep)]⟩)], atLoop := tab [(5, ⟨[(5, .keep), (6, .keep), (7, .keep), (8, .keep), (9, .keep)]⟩)], outs := [] }
noncomputable def body : Code := bodyOf Try.f52
def l5 (j10 : Bool → Int → Int → (List Bool) → (List Bool) → (List Bool) → Prop) (j16 : (List Bool) → Prop) (x8 : Bool) (x9 : Int) (b0 : (List Bool)) (b1 : (List Bool)) (b2 : (List Bool)) (k : Int → Prop) : Prop :=
  (br (decide (x9 < (64 : Int))) ((inB 0 x9 (((64 : Nat) : Int) - 1)) ∧ (br (b0.getD (Int.toNat x9) (false)) (j10 x8 x9 (IntKind.i64.wrap ((0 : Int) + (1 : Int))) b0 b1 b2) (j10 x8 x9 (0 : Int) b0 b1 b2))) (j16 b2))
def j10 (j12 : Bool → Int → Int → (List Bool) → (List Bool) → (List Bool) → Prop) (x8 : Bool) (x9 : Int) (x10 : Int) (b0 : (List Bool)) (b1 : (List Bool)) (b2 : (List Bool)) (k : Int → Prop) : Prop :=
  ((inB 0 x9 (((64 : Nat) : Int) - 1)) ∧ (br (b1.getD (Int.toNat x9) (false)) (j12 x8 x9 (IntKind.i64.wrap (x10 + (1 : Int))) b0 b1 b2) (j12 x8 x9 x10 b0 b1 b2)))
def j16 (b0 : (List Bool)) (k : Int → Prop) : Prop :=
  (N65.f b0 (fun (y0_2 : Int) => (k y0_2)))
def j12 (j14 : Int → Int → (List Bool) → (List Bool) → (List Bool) → Prop) (x8 : Bool) (x9 : Int) (x10 : Int) (b0 : (List Bool)) (b1 : (List Bool)) (b2 : (List Bool)) (k : Int → Prop) : Prop :=
  (br x8 (j14 x9 (IntKind.i64.wrap (x10 + (1 : Int))) b0 b1 b2) (j14 x9 x10 b0 b1 b2))
def j14 (j6 : Bool → Int → (List Bool) → (List Bool) → (List Bool) → Prop) (x9 : Int) (x10 : Int) (b0 : (List Bool)) (b1 : (List Bool)) (b2 : (List Bool)) (k : Int → Prop) : Prop :=
  (((2 : Int) ≠ 0) ∧ ((inB 0 x9 (((64 : Nat) : Int) - 1)) ∧ (j6 (decide (x10 > (1 : Int))) x9 b0 b1 (b2.set (Int.toNat x9) ((Int.tmod x10 (2 : Int)) == (1 : Int))))))
def j6 (ag5 : Bool → Int → (List Bool) → (List Bool) → (List Bool) → Prop) (x8 : Bool) (x9 : Int) (b0 : (List Bool)) (b1 : (List Bool)) (b2 : (List Bool)) (k : Int → Prop) : Prop :=
  (ag5 x8 (IntKind.i64.wrap (x9 + (1 : Int))) b0 b1 b2)
def c (l5 : Bool → Int → (List Bool) → (List Bool) → (List Bool) → Prop) (x0 : Int) (x1 : Int) (k : Int → Prop) : Prop :=
  (N64.f x0 (fun (y0_0 : (List Bool)) => (N64.f x1 (fun (y0_1 : (List Bool)) => (l5 false (0 : Int) y0_0 y0_1 (List.replicate 64 (false)))))))
def j16' (b0 : (List Bool)) (k : Int → Prop) : Prop := j16 b0 k
def j6' (ag5 : Bool → Int → (List Bool) → (List Bool) → (List Bool) → Prop) (x8 : Bool) (x9 : Int) (b0 : (List Bool)) (b1 : (List Bool)) (b2 : (List Bool)) (k : Int → Prop) : Prop := j6 ag5 x8 x9 b0 b1 b2 k
def j14' (ag5 : Bool → Int → (List Bool) → (List Bool) → (List Bool) → Prop) (x9 : Int) (x10 : Int) (b0 : (List Bool)) (b1 : (List Bool)) (b2 : (List Bool)) (k : Int → Prop) : Prop := j14 (fun x8 x9 b0 b1 b2 => j6' ag5 x8 x9 b0 b1 b2 k) x9 x10 b0 b1 b2 k
def j12' (ag5 : Bool → Int → (List Bool) → (List Bool) → (List Bool) → Prop) (x8 : Bool) (x9 : Int) (x10 : Int) (b0 : (List Bool)) (b1 : (List Bool)) (b2 : (List Bool)) (k : Int → Prop) : Prop := j12 (fun x9 x10 b0 b1 b2 => j14' ag5 x9 x10 b0 b1 b2 k) x8 x9 x10 b0 b1 b2 k
def j10' (ag5 : Bool → Int → (List Bool) → (List Bool) → (List Bool) → Prop) (x8 : Bool) (x9 : Int) (x10 : Int) (b0 : (List Bool)) (b1 : (List Bool)) (b2 : (List Bool)) (k : Int → Prop) : Prop := j10 (fun x8 x9 x10 b0 b1 b2 => j12' ag5 x8 x9 x10 b0 b1 b2 k) x8 x9 x10 b0 b1 b2 k
def l5' (x8 : Bool) (x9 : Int) (b0 : (List Bool)) (b1 : (List Bool)) (b2 : (List Bool)) (k : Int → Prop) : Prop := ∃ n, loopS (fun (ag : (Bool × Int × (List Bool) × (List Bool) × (List Bool)) → Prop) (s : Bool × Int × (List Bool) × (List Bool) × (List Bool)) => l5 (fun x8 x9 x10 b0 b1 b2 => j10' (fun x8 x9 b0 b1 b2 => ag (x8, x9, b0, b1, b2)) x8 x9 x10 b0 b1 b2 k) (fun b0 => j16' b0 k) s.1 s.2.1 s.2.2.1 s.2.2.2.1 s.2.2.2.2 k) n (x8, x9, b0, b1, b2)
def f0 (x0 : Int) (x1 : Int) (k : Int → Prop) : Prop := c (fun x8 x9 b0 b1 b2 => l5' x8 x9 b0 b1 b2 k) x0 x1 k
theorem f_ex : ∃ g : Int → Int → (Int → Prop) → Prop, g = f0 := ⟨_, rfl⟩
noncomputable def f : Int → Int → (Int → Prop) → Prop := Classical.choose f_ex
theorem f_def : f = f0 := Classical.choose_spec f_ex
def mL5 (x8 : Bool) (x9 : Int) (b0 : (List Bool)) (b1 : (List Bool)) (b2 : (List Bool)) : St := { tmps := mkT 41 0 [(5, (.ptr 0 0)), (6, (.ptr 1 0)), (7, (.ptr 2 0)), (8, (.v (.bool x8))), (9, (.v (.int IntKind.i64 x9)))], hp := [(.arr 70 64 Ty.bool b0 false), (.arr 70 64 Ty.bool b1 false), (.arr 70 64 Ty.bool b2 false)], m := 0 }
def m10 (x8 : Bool) (x9 : Int) (x10 : Int) (b0 : (List Bool)) (b1 : (List Bool)) (b2 : (List Bool)) : St := { tmps := mkT 41 0 [(5, (.ptr 0 0)), (6, (.ptr 1 0)), (7, (.ptr 2 0)), (8, (.v (.bool x8))), (9, (.v (.int IntKind.i64 x9))), (10, (.v (.int IntKind.i64 x10)))], hp := [(.arr 70 64 Ty.bool b0 false), (.arr 70 64 Ty.bool b1 false), (.arr 70 64 Ty.bool b2 false)], m := 0 }
def m16 (b0 : (List Bool)) : St := { tmps := mkT 41 0 [(7, (.ptr 0 0))], hp := [(.arr 70 64 Ty.bool b0 false)], m := 0 }
def m12 (x8 : Bool) (x9 : Int) (x10 : Int) (b0 : (List Bool)) (b1 : (List Bool)) (b2 : (List Bool)) : St := { tmps := mkT 41 0 [(5, (.ptr 0 0)), (6, (.ptr 1 0)), (7, (.ptr 2 0)), (8, (.v (.bool x8))), (9, (.v (.int IntKind.i64 x9))), (10, (.v (.int IntKind.i64 x10)))], hp := [(.arr 70 64 Ty.bool b0 false), (.arr 70 64 Ty.bool b1 false), (.arr 70 64 Ty.bool b2 false)], m := 0 }
def m14 (x9 : Int) (x10 : Int) (b0 : (List Bool)) (b1 : (List Bool)) (b2 : (List Bool)) : St := { tmps := mkT 41 0 [(5, (.ptr 0 0)), (6, (.ptr 1 0)), (7, (.ptr 2 0)), (9, (.v (.int IntKind.i64 x9))), (10, (.v (.int IntKind.i64 x10)))], hp := [(.arr 70 64 Ty.bool b0 false), (.arr 70 64 Ty.bool b1 false), (.arr 70 64 Ty.bool b2 false)], m := 0 }
def m6 (x8 : Bool) (x9 : Int) (b0 : (List Bool)) (b1 : (List Bool)) (b2 : (List Bool)) : St := { tmps := mkT 41 0 [(5, (.ptr 0 0)), (6, (.ptr 1 0)), (7, (.ptr 2 0)), (8, (.v (.bool x8))), (9, (.v (.int IntKind.i64 x9)))], hp := [(.arr 70 64 Ty.bool b0 false), (.arr 70 64 Ty.bool b1 false), (.arr 70 64 Ty.bool b2 false)], m := 0 }
noncomputable def YL5 (k kp : D → List Blk → Prop) : (St → Prop) → St → Prop := loopB cfg (sub [1, 1, 1, 1, 0, 1, 0, 0] body) (contK cfg (pick none' []) [1, 1, 1, 1, 0, 1, 0] body (topK cfg Try.f52 k kp))
noncomputable def XL5 (k kp : D → List Blk → Prop) : St → Prop := fun st => ∃ n, loopN (YL5 k kp) n st
noncomputable def X10 (k kp : D → List Blk → Prop) (ag5 : St → Prop) : St → Prop := atP cfg (pick none' [(5, ag5)]) [1, 1, 1, 1, 0, 1, 0, 0, 1, 0, 0, 1, 1] body (topK cfg Try.f52 k kp)
noncomputable def X16 (k kp : D → List Blk → Prop) : St → Prop := atP cfg (pick none' []) [1, 1, 1, 1, 1] body (topK cfg Try.f52 k kp)
noncomputable def X12 (k kp : D → List Blk → Prop) (ag5 : St → Prop) : St → Prop := atP cfg (pick none' [(5, ag5)]) [1, 1, 1, 1, 0, 1, 0, 0, 1, 0, 0, 1, 1, 1] body (topK cfg Try.f52 k kp)
noncomputable def X14 (k kp : D → List Blk → Prop) (ag5 : St → Prop) : St → Prop := atP cfg (pick none' [(5, ag5)]) [1, 1, 1, 1, 0, 1, 0, 0, 1, 0, 0, 1, 1, 1, 1] body (topK cfg Try.f52 k kp)
noncomputable def X6 (k kp : D → List Blk → Prop) (ag5 : St → Prop) : St → Prop := atP cfg (pick none' [(5, ag5)]) [1, 1, 1, 1, 0, 1, 0, 0, 1, 1] body (topK cfg Try.f52 k kp)
noncomputable def JJ_5 (k kp : D → List Blk → Prop) (ag5 : St → Prop) : Nat → St → Prop := pick none' [(10, X10 k kp ag5), (16, X16 k kp), (12, X12 k kp ag5), (14, X14 k kp ag5), (6, X6 k kp ag5)]
noncomputable def LL_5 (k kp : D → List Blk → Prop) (ag5 : St → Prop) : Nat → St → Prop := pick none' [(5, XL5 k kp)]
noncomputable def JJ (k kp : D → List Blk → Prop) : Nat → St → Prop := pick none' [(16, X16 k kp)]
noncomputable def LL (k kp : D → List Blk → Prop) : Nat → St → Prop := pick none' [(5, XL5 k kp)]
theorem j16_c (k kp : D → List Blk → Prop) (J L : Nat → St → Prop) (b0 : (List Bool)) : runC cfg 16 J L (pick none' []) [1, 1, 1, 1, 1] body (topK cfg Try.f52 k kp) (m16 b0) = j16 b0 (fun y0 => k (.v (.int IntKind.i64 y0)) []) := by kernel_rfl
theorem j16_ag (k kp : D → List Blk → Prop) : agPL cfg 16 (JJ k kp) (LL k kp) [1, 1, 1, 1, 1] body = agPR cfg 16 (pick none' []) [1, 1, 1, 1, 1] body (topK cfg Try.f52 k kp) := by kernel_rfl
theorem j16_raw (k kp : D → List Blk → Prop) (b0 : (List Bool)) : X16 k kp (m16 b0) = j16 b0 (fun y0 => k (.v (.int IntKind.i64 y0)) []) :=
  Eq.mp (by kernel_rfl) ((atP_run (j16_ag k kp) (m16 b0)).trans (j16_c k kp (JJ k kp) (LL k kp) b0))
theorem j16_eq (k kp : D → List Blk → Prop) (b0 : (List Bool)) : X16 k kp (m16 b0) = j16' b0 (fun y0 => k (.v (.int IntKind.i64 y0)) []) := by
  rw [j16_raw]; rfl
theorem j6_c (k kp : D → List Blk → Prop) (J L : Nat → St → Prop) (ag5 : St → Prop) (x8 : Bool) (x9 : Int) (b0 : (List Bool)) (b1 : (List Bool)) (b2 : (List Bool)) : runC cfg 6 J L (pick none' [(5, ag5)]) [1, 1, 1, 1, 0, 1, 0, 0, 1, 1] body (topK cfg Try.f52 k kp) (m6 x8 x9 b0 b1 b2) = j6 (fun x8 x9 b0 b1 b2 => ag5 (mL5 x8 x9 b0 b1 b2)) x8 x9 b0 b1 b2 (fun y0 => k (.v (.int IntKind.i64 y0)) []) := by kernel_rfl
theorem j6_ag (k kp : D → List Blk → Prop) (ag5 : St → Prop) : agPL cfg 6 (JJ_5 k kp ag5) (LL_5 k kp ag5) [1, 1, 1, 1, 0, 1, 0, 0, 1, 1] body = agPR cfg 6 (pick none' [(5, ag5)]) [1, 1, 1, 1, 0, 1, 0, 0, 1, 1] body (topK cfg Try.f52 k kp) := by kernel_rfl
theorem j6_raw (k kp : D → List Blk → Prop) (ag5 : St → Prop) (x8 : Bool) (x9 : Int) (b0 : (List Bool)) (b1 : (List Bool)) (b2 : (List Bool)) : X6 k kp ag5 (m6 x8 x9 b0 b1 b2) = j6 (fun x8 x9 b0 b1 b2 => ag5 (mL5 x8 x9 b0 b1 b2)) x8 x9 b0 b1 b2 (fun y0 => k (.v (.int IntKind.i64 y0)) []) :=
  Eq.mp (by kernel_rfl) ((atP_run (j6_ag k kp ag5) (m6 x8 x9 b0 b1 b2)).trans (j6_c k kp (JJ_5 k kp ag5) (LL_5 k kp ag5) ag5 x8 x9 b0 b1 b2))
theorem j6_eq (k kp : D → List Blk → Prop) (ag5 : St → Prop) (x8 : Bool) (x9 : Int) (b0 : (List Bool)) (b1 : (List Bool)) (b2 : (List Bool)) : X6 k kp ag5 (m6 x8 x9 b0 b1 b2) = j6' (fun x8 x9 b0 b1 b2 => ag5 (mL5 x8 x9 b0 b1 b2)) x8 x9 b0 b1 b2 (fun y0 => k (.v (.int IntKind.i64 y0)) []) := by
  rw [j6_raw]; rfl
theorem j14_c (k kp : D → List Blk → Prop) (J L : Nat → St → Prop) (ag5 : St → Prop) (x9 : Int) (x10 : Int) (b0 : (List Bool)) (b1 : (List Bool)) (b2 : (List Bool)) : runC cfg 14 J L (pick none' [(5, ag5)]) [1, 1, 1, 1, 0, 1, 0, 0, 1, 0, 0, 1, 1, 1, 1] body (topK cfg Try.f52 k kp) (m14 x9 x10 b0 b1 b2) = j14 (fun x8 x9 b0 b1 b2 => J 6 (m6 x8 x9 b0 b1 b2)) x9 x10 b0 b1 b2 (fun y0 => k (.v (.int IntKind.i64 y0)) []) := by kernel_rfl
theorem j14_ag (k kp : D → List Blk → Prop) (ag5 : St → Prop) : agPL cfg 14 (JJ_5 k kp ag5) (LL_5 k kp ag5) [1, 1, 1, 1, 0, 1, 0, 0, 1, 0, 0, 1, 1, 1, 1] body = agPR cfg 14 (pick none' [(5, ag5)]) [1, 1, 1, 1, 0, 1, 0, 0, 1, 0, 0, 1, 1, 1, 1] body (topK cfg Try.f52 k kp) := by kernel_rfl
theorem j14_raw (k kp : D → List Blk → Prop) (ag5 : St → Prop) (x9 : Int) (x10 : Int) (b0 : (List Bool)) (b1 : (List Bool)) (b2 : (List Bool)) : X14 k kp ag5 (m14 x9 x10 b0 b1 b2) = j14 (fun x8 x9 b0 b1 b2 => X6 k kp ag5 (m6 x8 x9 b0 b1 b2)) x9 x10 b0 b1 b2 (fun y0 => k (.v (.int IntKind.i64 y0)) []) :=
  Eq.mp (by kernel_rfl) ((atP_run (j14_ag k kp ag5) (m14 x9 x10 b0 b1 b2)).trans (j14_c k kp (JJ_5 k kp ag5) (LL_5 k kp ag5) ag5 x9 x10 b0 b1 b2))
theorem j14_eq (k kp : D → List Blk → Prop) (ag5 : St → Prop) (x9 : Int) (x10 : Int) (b0 : (List Bool)) (b1 : (List Bool)) (b2 : (List Bool)) : X14 k kp ag5 (m14 x9 x10 b0 b1 b2) = j14' (fun x8 x9 b0 b1 b2 => ag5 (mL5 x8 x9 b0 b1 b2)) x9 x10 b0 b1 b2 (fun y0 => k (.v (.int IntKind.i64 y0)) []) := by
  rw [j14_raw]; simp only [j6_eq]; first | done | rfl
theorem j12_c (k kp : D → List Blk → Prop) (J L : Nat → St → Prop) (ag5 : St → Prop) (x8 : Bool) (x9 : Int) (x10 : Int) (b0 : (List Bool)) (b1 : (List Bool)) (b2 : (List Bool)) : runC cfg 12 J L (pick none' [(5, ag5)]) [1, 1, 1, 1, 0, 1, 0, 0, 1, 0, 0, 1, 1, 1] body (topK cfg Try.f52 k kp) (m12 x8 x9 x10 b0 b1 b2) = j12 (fun x9 x10 b0 b1 b2 => J 14 (m14 x9 x10 b0 b1 b2)) x8 x9 x10 b0 b1 b2 (fun y0 => k (.v (.int IntKind.i64 y0)) []) := by kernel_rfl
theorem j12_ag (k kp : D → List Blk → Prop) (ag5 : St → Prop) : agPL cfg 12 (JJ_5 k kp ag5) (LL_5 k kp ag5) [1, 1, 1, 1, 0, 1, 0, 0, 1, 0, 0, 1, 1, 1] body = agPR cfg 12 (pick none' [(5, ag5)]) [1, 1, 1, 1, 0, 1, 0, 0, 1, 0, 0, 1, 1, 1] body (topK cfg Try.f52 k kp) := by kernel_rfl
theorem j12_raw (k kp : D → List Blk → Prop) (ag5 : St → Prop) (x8 : Bool) (x9 : Int) (x10 : Int) (b0 : (List Bool)) (b1 : (List Bool)) (b2 : (List Bool)) : X12 k kp ag5 (m12 x8 x9 x10 b0 b1 b2) = j12 (fun x9 x10 b0 b1 b2 => X14 k kp ag5 (m14 x9 x10 b0 b1 b2)) x8 x9 x10 b0 b1 b2 (fun y0 => k (.v (.int IntKind.i64 y0)) []) :=
  Eq.mp (by kernel_rfl) ((atP_run (j12_ag k kp ag5) (m12 x8 x9 x10 b0 b1 b2)).trans (j12_c k kp (JJ_5 k kp ag5) (LL_5 k kp ag5) ag5 x8 x9 x10 b0 b1 b2))
theorem j12_eq (k kp : D → List Blk → Prop) (ag5 : St → Prop) (x8 : Bool) (x9 : Int) (x10 : Int) (b0 : (List Bool)) (b1 : (List Bool)) (b2 : (List Bool)) : X12 k kp ag5 (m12 x8 x9 x10 b0 b1 b2) = j12' (fun x8 x9 b0 b1 b2 => ag5 (mL5 x8 x9 b0 b1 b2)) x8 x9 x10 b0 b1 b2 (fun y0 => k (.v (.int IntKind.i64 y0)) []) := by
  rw [j12_raw]; simp only [j14_eq]; first | done | rfl
theorem j10_c (k kp : D → List Blk → Prop) (J L : Nat → St → Prop) (ag5 : St → Prop) (x8 : Bool) (x9 : Int) (x10 : Int) (b0 : (List Bool)) (b1 : (List Bool)) (b2 : (List Bool)) : runC cfg 10 J L (pick none' [(5, ag5)]) [1, 1, 1, 1, 0, 1, 0, 0, 1, 0, 0, 1, 1] body (topK cfg Try.f52 k kp) (m10 x8 x9 x10 b0 b1 b2) = j10 (fun x8 x9 x10 b0 b1 b2 => J 12 (m12 x8 x9 x10 b0 b1 b2)) x8 x9 x10 b0 b1 b2 (fun y0 => k (.v (.int IntKind.i64 y0)) []) := by kernel_rfl
theorem j10_ag (k kp : D → List Blk → Prop) (ag5 : St → Prop) : agPL cfg 10 (JJ_5 k kp ag5) (LL_5 k kp ag5) [1, 1, 1, 1, 0, 1, 0, 0, 1, 0, 0, 1, 1] body = agPR cfg 10 (pick none' [(5, ag5)]) [1, 1, 1, 1, 0, 1, 0, 0, 1, 0, 0, 1, 1] body (topK cfg Try.f52 k kp) := by kernel_rfl
theorem j10_raw (k kp : D → List Blk → Prop) (ag5 : St → Prop) (x8 : Bool) (x9 : Int) (x10 : Int) (b0 : (List Bool)) (b1 : (List Bool)) (b2 : (List Bool)) : X10 k kp ag5 (m10 x8 x9 x10 b0 b1 b2) = j10 (fun x8 x9 x10 b0 b1 b2 => X12 k kp ag5 (m12 x8 x9 x10 b0 b1 b2)) x8 x9 x10 b0 b1 b2 (fun y0 => k (.v (.int IntKind.i64 y0)) []) :=
  Eq.mp (by kernel_rfl) ((atP_run (j10_ag k kp ag5) (m10 x8 x9 x10 b0 b1 b2)).trans (j10_c k kp (JJ_5 k kp ag5) (LL_5 k kp ag5) ag5 x8 x9 x10 b0 b1 b2))
theorem j10_eq (k kp : D → List Blk → Prop) (ag5 : St → Prop) (x8 : Bool) (x9 : Int) (x10 : Int) (b0 : (List Bool)) (b1 : (List Bool)) (b2 : (List Bool)) : X10 k kp ag5 (m10 x8 x9 x10 b0 b1 b2) = j10' (fun x8 x9 b0 b1 b2 => ag5 (mL5 x8 x9 b0 b1 b2)) x8 x9 x10 b0 b1 b2 (fun y0 => k (.v (.int IntKind.i64 y0)) []) := by
  rw [j10_raw]; simp only [j12_eq]; first | done | rfl
theorem l5_c (k kp : D → List Blk → Prop) (J L : Nat → St → Prop) (ag5 : St → Prop) (x8 : Bool) (x9 : Int) (b0 : (List Bool)) (b1 : (List Bool)) (b2 : (List Bool)) : runC cfg 1000001 J L (pick none' [(5, ag5)]) [1, 1, 1, 1, 0, 1, 0, 0] body (topK cfg Try.f52 k kp) (mL5 x8 x9 b0 b1 b2) = l5 (fun x8 x9 x10 b0 b1 b2 => J 10 (m10 x8 x9 x10 b0 b1 b2)) (fun b0 => J 16 (m16 b0)) x8 x9 b0 b1 b2 (fun y0 => k (.v (.int IntKind.i64 y0)) []) := by kernel_rfl
theorem l5_ag (k kp : D → List Blk → Prop) (ag5 : St → Prop) : agPL cfg 1000001 (JJ_5 k kp ag5) (LL_5 k kp ag5) [1, 1, 1, 1, 0, 1, 0, 0] body = agPR cfg 1000001 (pick none' [(5, ag5)]) [1, 1, 1, 1, 0, 1, 0, 0] body (topK cfg Try.f52 k kp) := by kernel_rfl
theorem l5_raw (k kp : D → List Blk → Prop) (ag5 : St → Prop) (x8 : Bool) (x9 : Int) (b0 : (List Bool)) (b1 : (List Bool)) (b2 : (List Bool)) : YL5 k kp ag5 (mL5 x8 x9 b0 b1 b2) = l5 (fun x8 x9 x10 b0 b1 b2 => X10 k kp ag5 (m10 x8 x9 x10 b0 b1 b2)) (fun b0 => X16 k kp (m16 b0)) x8 x9 b0 b1 b2 (fun y0 => k (.v (.int IntKind.i64 y0)) []) :=
  Eq.mp (by kernel_rfl) ((atP_run (l5_ag k kp ag5) (mL5 x8 x9 b0 b1 b2)).trans (l5_c k kp (JJ_5 k kp ag5) (LL_5 k kp ag5) ag5 x8 x9 b0 b1 b2))
theorem l5_eq (k kp : D → List Blk → Prop) (x8 : Bool) (x9 : Int) (b0 : (List Bool)) (b1 : (List Bool)) (b2 : (List Bool)) : XL5 k kp (mL5 x8 x9 b0 b1 b2) = l5' x8 x9 b0 b1 b2 (fun y0 => k (.v (.int IntKind.i64 y0)) []) :=
  loop_eq (mk := fun (s : Bool × Int × (List Bool) × (List Bool) × (List Bool)) => mL5 s.1 s.2.1 s.2.2.1 s.2.2.2.1 s.2.2.2.2) (fun again s => by rw [l5_raw k kp again s.1 s.2.1 s.2.2.1 s.2.2.2.1 s.2.2.2.2]; simp only [j10_eq, j16_eq]; first | done | rfl) (x8, x9, b0, b1, b2)
theorem c_c (k kp : D → List Blk → Prop) (J L : Nat → St → Prop) (x0 : Int) (x1 : Int) : runC cfg 1000001 J L none'' [] body (topK cfg Try.f52 k kp) (st0 Try.f52 [(.v (.int IntKind.i64 x0)), (.v (.int IntKind.i64 x1))] []) = c (fun x8 x9 b0 b1 b2 => L 5 (mL5 x8 x9 b0 b1 b2)) x0 x1 (fun y0 => k (.v (.int IntKind.i64 y0)) []) := by kernel_rfl
theorem c_ag (k kp : D → List Blk → Prop) : agPL cfg 1000001 (JJ k kp) (LL k kp) [] body = agPR cfg 1000001 none'' [] body (topK cfg Try.f52 k kp) := by kernel_rfl
theorem body_is : Try.f52.body = some body := by kernel_rfl
theorem c_raw (k kp : D → List Blk → Prop) (x0 : Int) (x1 : Int) : funW cfg Try.f52 [(.v (.int IntKind.i64 x0)), (.v (.int IntKind.i64 x1))] [] k kp = c (fun x8 x9 b0 b1 b2 => XL5 k kp (mL5 x8 x9 b0 b1 b2)) x0 x1 (fun y0 => k (.v (.int IntKind.i64 y0)) []) :=
  Eq.mp (by kernel_rfl) ((funW_run (AG := none'') body_is (c_ag k kp) [(.v (.int IntKind.i64 x0)), (.v (.int IntKind.i64 x1))] []).trans (c_c k kp (JJ k kp) (LL k kp) x0 x1))
theorem f_eq (k kp : D → List Blk → Prop) (x0 : Int) (x1 : Int) : funW cfg Try.f52 [(.v (.int IntKind.i64 x0)), (.v (.int IntKind.i64 x1))] [] k kp = f x0 x1 (fun y0 => k (.v (.int IntKind.i64 y0)) []) := by
  rw [f_def, c_raw]; simp only [l5_eq]; first | done | rfl
noncomputable def ent0 : Entry := fun args blks k _ => match args, blks with
  | [d0, d1], [] => aInt IntKind.i64 d0 fun x0 => aInt IntKind.i64 d1 fun x1 => f x0 x1 (fun y0 => k (.v (.int IntKind.i64 y0)) [])
  | _, _ => False
noncomputable def ent : Entry := fun args blks k kp => ent0 (convA [none, none] args) blks k kp
theorem ok : EntOk Try.prog 0 0 52 ent := by
  refine EntOk.conv (EntOk.of (funW_ok (cfg := cfg) (tyOk_of rfl rfl tyL_ok) (eqOk_none rfl) mixed_ok (tab_ok ?_) Try.func52 (by rfl) (by rfl)) ?_) _
  · intro p hp
    simp only [List.mem_cons, List.not_mem_nil, or_false] at hp
    rcases hp with rfl | rfl
    · exact N64.ok
    · exact N65.ok
  · intro args blks k kp h k' kp'
    match args, blks, h with
    | [d0, d1], [], h =>
    dsimp only [ent0] at h
    have h9 := aInt_elim h; clear h; obtain ⟨x0, rfl, h⟩ := h9
    have h9 := aInt_elim h; clear h; obtain ⟨x1, rfl, h⟩ := h9
    exact (f_eq k' kp' x0 x1).symm
end N52
end Go.Proofs.Yt
namespace Go.Proofs.Yt
open Go Go.Aw Go.Proofs
set_option linter.unusedVariables false
set_option linter.unusedSimpArgs false
set_option maxRecDepth 100000
/-! dyehouse/dyehouseref01.Neg -/
namespace N53
noncomputable def cfg : Cfg := { P := Try.prog, ty := tys, E := tab [(64, N64.ent), (65, N65.ent), (52, N52.ent)], atSeq := tab [(6, ⟨[(3, .keep)]⟩)], atLoop := tab [(3, ⟨[(3, .keep), (4, .keep)]⟩)], outs := [] }
noncomputable def body : Code := bodyOf Try.f53
def l3 (j6 : (List Bool) → Prop) (ag3 : Int → (List Bool) → Prop) (x4 : Int) (b0 : (List Bool)) (k : Int → Prop) : Prop :=
  (br (decide (x4 < (64 : Int))) ((inB 0 x4 (((64 : Nat) : Int) - 1)) ∧ ((inB 0 x4 (((64 : Nat) : Int) - 1)) ∧ (ag3 (IntKind.i64.wrap (x4 + (1 : Int))) (b0.set (Int.toNat x4) (!(b0.getD (Int.toNat x4) (false))))))) (j6 b0))
def j6 (b0 : (List Bool)) (k : Int → Prop) : Prop :=
  (N65.f b0 (fun (y0_1 : Int) => (N52.f y0_1 (1 : Int) (fun (y0_2 : Int) => (k y0_2)))))
def c (l3 : Int → (List Bool) → Prop) (x0 : Int) (k : Int → Prop) : Prop :=
  (N64.f x0 (fun (y0_0 : (List Bool)) => (l3 (0 : Int) y0_0)))
def j6' (b0 : (List Bool)) (k : Int → Prop) : Prop := j6 b0 k
def l3' (x4 : Int) (b0 : (List Bool)) (k : Int → Prop) : Prop := ∃ n, loopS (fun (ag : (Int × (List Bool)) → Prop) (s : Int × (List Bool)) => l3 (fun b0 => j6' b0 k) (fun x4 b0 => ag (x4, b0)) s.1 s.2 k) n (x4, b0)
def f0 (x0 : Int) (k : Int → Prop) : Prop := c (fun x4 b0 => l3' x4 b0 k) x0 k
theorem f_ex : ∃ g : Int → (Int → Prop) → Prop, g = f0 := ⟨_, rfl⟩
noncomputable def f : Int → (Int → Prop) → Prop := Classical.choose f_ex
theorem f_def : f = f0 := Classical.choose_spec f_ex
def mL3 (x4 : Int) (b0 : (List Bool)) : St := { tmps := mkT 20 0 [(3, (.ptr 0 0)), (4, (.v (.int IntKind.i64 x4)))], hp := [(.arr 70 64 Ty.bool b0 false)], m := 0 }
def m6 (b0 : (List Bool)) : St := { tmps := mkT 20 0 [(3, (.ptr 0 0))], hp := [(.arr 70 64 Ty.bool b0 false)], m := 0 }
noncomputable def YL3 (k kp : D → List Blk → Prop) : (St → Prop) → St → Prop := loopB cfg (sub [1, 1, 0, 1, 0, 0] body) (contK cfg (pick none' []) [1, 1, 0, 1, 0] body (topK cfg Try.f53 k kp))
noncomputable def XL3 (k kp : D → List Blk → Prop) : St → Prop := fun st => ∃ n, loopN (YL3 k kp) n st
noncomputable def X6 (k kp : D → List Blk → Prop) : St → Prop := atP cfg (pick none' []) [1, 1, 1] body (topK cfg Try.f53 k kp)
noncomputable def JJ_3 (k kp : D → List Blk → Prop) (ag3 : St → Prop) : Nat → St → Prop := pick none' [(6, X6 k kp)]
noncomputable def LL_3 (k kp : D → List Blk → Prop) (ag3 : St → Prop) : Nat → St → Prop := pick none' [(3, XL3 k kp)]
noncomputable def JJ (k kp : D → List Blk → Prop) : Nat → St → Prop := pick none' [(6, X6 k kp)]
noncomputable def LL (k kp : D → List Blk → Prop) : Nat → St → Prop := pick none' [(3, XL3 k kp)]
theorem j6_c (k kp : D → List Blk → Prop) (J L : Nat → St → Prop) (b0 : (List Bool)) : runC cfg 6 J L (pick none' []) [1, 1, 1] body (topK cfg Try.f53 k kp) (m6 b0) = j6 b0 (fun y0 => k (.v (.int IntKind.i64 y0)) []) := by kernel_rfl
theorem j6_ag (k kp : D → List Blk → Prop) : agPL cfg 6 (JJ k kp) (LL k kp) [1, 1, 1] body = agPR cfg 6 (pick none' []) [1, 1, 1] body (topK cfg Try.f53 k kp) := by kernel_rfl
theorem j6_raw (k kp : D → List Blk → Prop) (b0 : (List Bool)) : X6 k kp (m6 b0) = j6 b0 (fun y0 => k (.v (.int IntKind.i64 y0)) []) :=
  Eq.mp (by kernel_rfl) ((atP_run (j6_ag k kp) (m6 b0)).trans (j6_c k kp (JJ k kp) (LL k kp) b0))
theorem j6_eq (k kp : D → List Blk → Prop) (b0 : (List Bool)) : X6 k kp (m6 b0) = j6' b0 (fun y0 => k (.v (.int IntKind.i64 y0)) []) := by
  rw [j6_raw]; rfl
theorem l3_c (k kp : D → List Blk → Prop) (J L : Nat → St → Prop) (ag3 : St → Prop) (x4 : Int) (b0 : (List Bool)) : runC cfg 1000001 J L (pick none' [(3, ag3)]) [1, 1, 0, 1, 0, 0] body (topK cfg Try.f53 k kp) (mL3 x4 b0) = l3 (fun b0 => J 6 (m6 b0)) (fun x4 b0 => ag3 (mL3 x4 b0)) x4 b0 (fun y0 => k (.v (.int IntKind.i64 y0)) []) := by kernel_rfl
theorem l3_ag (k kp : D → List Blk → Prop) (ag3 : St → Prop) : agPL cfg 1000001 (JJ_3 k kp ag3) (LL_3 k kp ag3) [1, 1, 0, 1, 0, 0] body = agPR cfg 1000001 (pick none' [(3, ag3)]) [1, 1, 0, 1, 0, 0] body (topK cfg Try.f53 k kp) := by kernel_rfl
theorem l3_raw (k kp : D → List Blk → Prop) (ag3 : St → Prop) (x4 : Int) (b0 : (List Bool)) : YL3 k kp ag3 (mL3 x4 b0) = l3 (fun b0 => X6 k kp (m6 b0)) (fun x4 b0 => ag3 (mL3 x4 b0)) x4 b0 (fun y0 => k (.v (.int IntKind.i64 y0)) []) :=
  Eq.mp (by kernel_rfl) ((atP_run (l3_ag k kp ag3) (mL3 x4 b0)).trans (l3_c k kp (JJ_3 k kp ag3) (LL_3 k kp ag3) ag3 x4 b0))
theorem l3_eq (k kp : D → List Blk → Prop) (x4 : Int) (b0 : (List Bool)) : XL3 k kp (mL3 x4 b0) = l3' x4 b0 (fun y0 => k (.v (.int IntKind.i64 y0)) []) :=
  loop_eq (mk := fun (s : Int × (List Bool)) => mL3 s.1 s.2) (fun again s => by rw [l3_raw k kp again s.1 s.2]; simp only [j6_eq]; first | done | rfl) (x4, b0)
theorem c_c (k kp : D → List Blk → Prop) (J L : Nat → St → Prop) (x0 : Int) : runC cfg 1000001 J L none'' [] body (topK cfg Try.f53 k kp) (st0 Try.f53 [(.v (.int IntKind.i64 x0))] []) = c (fun x4 b0 => L 3 (mL3 x4 b0)) x0 (fun y0 => k (.v (.int IntKind.i64 y0)) []) := by kernel_rfl
theorem c_ag (k kp : D → List Blk → Prop) : agPL cfg 1000001 (JJ k kp) (LL k kp) [] body = agPR cfg 1000001 none'' [] body (topK cfg Try.f53 k kp) := by kernel_rfl
theorem body_is : Try.f53.body = some body := by kernel_rfl
theorem c_raw (k kp : D → List Blk → Prop) (x0 : Int) : funW cfg Try.f53 [(.v (.int IntKind.i64 x0))] [] k kp = c (fun x4 b0 => XL3 k kp (mL3 x4 b0)) x0 (fun y0 => k (.v (.int IntKind.i64 y0)) []) :=
  Eq.mp (by kernel_rfl) ((funW_run (AG := none'') body_is (c_ag k kp) [(.v (.int IntKind.i64 x0))] []).trans (c_c k kp (JJ k kp) (LL k kp) x0))
theorem f_eq (k kp : D → List Blk → Prop) (x0 : Int) : funW cfg Try.f53 [(.v (.int IntKind.i64 x0))] [] k kp = f x0 (fun y0 => k (.v (.int IntKind.i64 y0)) []) := by
  rw [f_def, c_raw]; simp only [l3_eq]; first | done | rfl
noncomputable def ent0 : Entry := fun args blks k _ => match args, blks with
  | [d0], [] => aInt IntKind.i64 d0 fun x0 => f x0 (fun y0 => k (.v (.int IntKind.i64 y0)) [])
  | _, _ => False
noncomputable def ent : Entry := fun args blks k kp => ent0 (convA [none] args) blks k kp
theorem ok : EntOk Try.prog 0 0 53 ent := by
  refine EntOk.conv (EntOk.of (funW_ok (cfg := cfg) (tyOk_of rfl rfl tyL_ok) (eqOk_none rfl) mixed_ok (tab_ok ?_) Try.func53 (by rfl) (by rfl)) ?_) _
  · intro p hp
    simp only [List.mem_cons, List.not_mem_nil, or_false] at hp
    rcases hp with rfl | rfl | rfl
    · exact N64.ok
    · exact N65.ok
    · exact N52.ok
  · intro args blks k kp h k' kp'
    match args, blks, h with
    | [d0], [], h =>
    dsimp only [ent0] at h
    have h9 := aInt_elim h; clear h; obtain ⟨x0, rfl, h⟩ := h9
    exact (f_eq k' kp' x0).symm
end N53
end Go.Proofs.Yt
namespace Go.Proofs.Yt
open Go Go.Aw Go.Proofs
set_option linter.unusedVariables false
set_option linter.unusedSimpArgs false
set_option maxRecDepth 100000
/-! dyehouse/dyehouseref01.mul -/
namespace N54
noncomputable def cfg : Cfg := { P := Try.prog, ty := tys, E := tab [(64, N64.ent), (52, N52.ent)], atSeq := tab [(8, ⟨[(0, .keep), (5, .keep), (6, .keep), (7, .keep)]⟩), (9, ⟨[(6, .keep)]⟩), (5, ⟨[(0, .keep), (5, .keep), (6, .keep), (7, .keep)]⟩)], atLoop := tab [(4, ⟨[(0, .keep), (5, .keep), (6, .keep), (7, .keep)]⟩)], outs := [] }
noncomputable def body : Code := bodyOf Try.f54
def l4 (j8 : Int → Int → Int → (List Bool) → Prop) (j9 : Int → Prop) (x0 : Int) (x6 : Int) (x7 : Int) (b0 : (List Bool)) (k : Int → Prop) : Prop :=
  (br (decide (x7 < (64 : Int))) ((inB 0 x7 (((64 : Nat) : Int) - 1)) ∧ (br (b0.getD (Int.toNat x7) (false)) (N52.f x6 x0 (fun (y0_1 : Int) => (j8 x0 y0_1 x7 b0))) (j8 x0 x6 x7 b0))) (j9 x6))
def j8 (j5 : Int → Int → Int → (List Bool) → Prop) (x0 : Int) (x6 : Int) (x7 : Int) (b0 : (List Bool)) (k : Int → Prop) : Prop :=
  (N52.f x0 x0 (fun (y0_2 : Int) => (j5 y0_2 x6 x7 b0)))
def j9 (x6 : Int) (k : Int → Prop) : Prop :=
  (k x6)
def j5 (ag4 : Int → Int → Int → (List Bool) → Prop) (x0 : Int) (x6 : Int) (x7 : Int) (b0 : (List Bool)) (k : Int → Prop) : Prop :=
  (ag4 x0 x6 (IntKind.i64.wrap (x7 + (1 : Int))) b0)
def c (l4 : Int → Int → Int → (List Bool) → Prop) (x0 : Int) (x1 : Int) (k : Int → Prop) : Prop :=
  (N64.f x1 (fun (y0_0 : (List Bool)) => (l4 x0 (0 : Int) (0 : Int) y0_0)))
def j9' (x6 : Int) (k : Int → Prop) : Prop := j9 x6 k
def j5' (ag4 : Int → Int → Int → (List Bool) → Prop) (x0 : Int) (x6 : Int) (x7 : Int) (b0 : (List Bool)) (k : Int → Prop) : Prop := j5 ag4 x0 x6 x7 b0 k
def j8' (ag4 : Int → Int → Int → (List Bool) → Prop) (x0 : Int) (x6 : Int) (x7 : Int) (b0 : (List Bool)) (k : Int → Prop) : Prop := j8 (fun x0 x6 x7 b0 => j5' ag4 x0 x6 x7 b0 k) x0 x6 x7 b0 k
def l4' (x0 : Int) (x6 : Int) (x7 : Int) (b0 : (List Bool)) (k : Int → Prop) : Prop := ∃ n, loopS (fun (ag : (Int × Int × Int × (List Bool)) → Prop) (s : Int × Int × Int × (List Bool)) => l4 (fun x0 x6 x7 b0 => j8' (fun x0 x6 x7 b0 => ag (x0, x6, x7, b0)) x0 x6 x7 b0 k) (fun x6 => j9' x6 k) s.1 s.2.1 s.2.2.1 s.2.2.2 k) n (x0, x6, x7, b0)
def f0 (x0 : Int) (x1 : Int) (k : Int → Prop) : Prop := c (fun x0 x6 x7 b0 => l4' x0 x6 x7 b0 k) x0 x1 k
theorem f_ex : ∃ g : Int → Int → (Int → Prop) → Prop, g = f0 := ⟨_, rfl⟩
noncomputable def f : Int → Int → (Int → Prop) → Prop := Classical.choose f_ex
theorem f_def : f = f0 := Classical.choose_spec f_ex
def mL4 (x0 : Int) (x6 : Int) (x7 : Int) (b0 : (List Bool)) : St := { tmps := mkT 24 0 [(0, (.v (.int IntKind.i64 x0))), (5, (.ptr 0 0)), (6, (.v (.int IntKind.i64 x6))), (7, (.v (.int IntKind.i64 x7)))], hp := [(.arr 70 64 Ty.bool b0 false)], m := 0 }
def m8 (x0 : Int) (x6 : Int) (x7 : Int) (b0 : (List Bool)) : St := { tmps := mkT 24 0 [(0, (.v (.int IntKind.i64 x0))), (5, (.ptr 0 0)), (6, (.v (.int IntKind.i64 x6))), (7, (.v (.int IntKind.i64 x7)))], hp := [(.arr 70 64 Ty.bool b0 false)], m := 0 }
def m9 (x6 : Int) : St := { tmps := mkT 24 0 [(6, (.v (.int IntKind.i64 x6)))], hp := [], m := 0 }
def m5 (x0 : Int) (x6 : Int) (x7 : Int) (b0 : (List Bool)) : St := { tmps := mkT 24 0 [(0, (.v (.int IntKind.i64 x0))), (5, (.ptr 0 0)), (6, (.v (.int IntKind.i64 x6))), (7, (.v (.int IntKind.i64 x7)))], hp := [(.arr 70 64 Ty.bool b0 false)], m := 0 }
noncomputable def YL4 (k kp : D → List Blk → Prop) : (St → Prop) → St → Prop := loopB cfg (sub [1, 1, 1, 0, 1, 0, 0] body) (contK cfg (pick none' []) [1, 1, 1, 0, 1, 0] body (topK cfg Try.f54 k kp))
noncomputable def XL4 (k kp : D → List Blk → Prop) : St → Prop := fun st => ∃ n, loopN (YL4 k kp) n st
noncomputable def X8 (k kp : D → List Blk → Prop) (ag4 : St → Prop) : St → Prop := atP cfg (pick none' [(4, ag4)]) [1, 1, 1, 0, 1, 0, 0, 1, 0, 0, 1] body (topK cfg Try.f54 k kp)
noncomputable def X9 (k kp : D → List Blk → Prop) : St → Prop := atP cfg (pick none' []) [1, 1, 1, 1] body (topK cfg Try.f54 k kp)
noncomputable def X5 (k kp : D → List Blk → Prop) (ag4 : St → Prop) : St → Prop := atP cfg (pick none' [(4, ag4)]) [1, 1, 1, 0, 1, 0, 0, 1, 1] body (topK cfg Try.f54 k kp)
noncomputable def JJ_4 (k kp : D → List Blk → Prop) (ag4 : St → Prop) : Nat → St → Prop := pick none' [(8, X8 k kp ag4), (9, X9 k kp), (5, X5 k kp ag4)]
noncomputable def LL_4 (k kp : D → List Blk → Prop) (ag4 : St → Prop) : Nat → St → Prop := pick none' [(4, XL4 k kp)]
noncomputable def JJ (k kp : D → List Blk → Prop) : Nat → St → Prop := pick none' [(9, X9 k kp)]
noncomputable def LL (k kp : D → List Blk → Prop) : Nat → St → Prop := pick none' [(4, XL4 k kp)]
theorem j9_c (k kp : D → List Blk → Prop) (J L : Nat → St → Prop) (x6 : Int) : runC cfg 9 J L (pick none' []) [1, 1, 1, 1] body (topK cfg Try.f54 k kp) (m9 x6) = j9 x6 (fun y0 => k (.v (.int IntKind.i64 y0)) []) := by kernel_rfl
theorem j9_ag (k kp : D → List Blk → Prop) : agPL cfg 9 (JJ k kp) (LL k kp) [1, 1, 1, 1] body = agPR cfg 9 (pick none' []) [1, 1, 1, 1] body (topK cfg Try.f54 k kp) := by kernel_rfl
theorem j9_raw (k kp : D → List Blk → Prop) (x6 : Int) : X9 k kp (m9 x6) = j9 x6 (fun y0 => k (.v (.int IntKind.i64 y0)) []) :=
  Eq.mp (by kernel_rfl) ((atP_run (j9_ag k kp) (m9 x6)).trans (j9_c k kp (JJ k kp) (LL k kp) x6))
theorem j9_eq (k kp : D → List Blk → Prop) (x6 : Int) : X9 k kp (m9 x6) = j9' x6 (fun y0 => k (.v (.int IntKind.i64 y0)) []) := by
  rw [j9_raw]; rfl
theorem j5_c (k kp : D → List Blk → Prop) (J L : Nat → St → Prop) (ag4 : St → Prop) (x0 : Int) (x6 : Int) (x7 : Int) (b0 : (List Bool)) : runC cfg 5 J L (pick none' [(4, ag4)]) [1, 1, 1, 0, 1, 0, 0, 1, 1] body (topK cfg Try.f54 k kp) (m5 x0 x6 x7 b0) = j5 (fun x0 x6 x7 b0 => ag4 (mL4 x0 x6 x7 b0)) x0 x6 x7 b0 (fun y0 => k (.v (.int IntKind.i64 y0)) []) := by kernel_rfl
theorem j5_ag (k kp : D → List Blk → Prop) (ag4 : St → Prop) : agPL cfg 5 (JJ_4 k kp ag4) (LL_4 k kp ag4) [1, 1, 1, 0, 1, 0, 0, 1, 1] body = agPR cfg 5 (pick none' [(4, ag4)]) [1, 1, 1, 0, 1, 0, 0, 1, 1] body (topK cfg Try.f54 k kp) := by kernel_rfl
theorem j5_raw (k kp : D → List Blk → Prop) (ag4 : St → Prop) (x0 : Int) (x6 : Int) (x7 : Int) (b0 : (List Bool)) : X5 k kp ag4 (m5 x0 x6 x7 b0) = j5 (fun x0 x6 x7 b0 => ag4 (mL4 x0 x6 x7 b0)) x0 x6 x7 b0 (fun y0 => k (.v (.int IntKind.i64 y0)) []) :=
  Eq.mp (by kernel_rfl) ((atP_run (j5_ag k kp ag4) (m5 x0 x6 x7 b0)).trans (j5_c k kp (JJ_4 k kp ag4) (LL_4 k kp ag4) ag4 x0 x6 x7 b0))
theorem j5_eq (k kp : D → List Blk → Prop) (ag4 : St → Prop) (x0 : Int) (x6 : Int) (x7 : Int) (b0 : (List Bool)) : X5 k kp ag4 (m5 x0 x6 x7 b0) = j5' (fun x0 x6 x7 b0 => ag4 (mL4 x0 x6 x7 b0)) x0 x6 x7 b0 (fun y0 => k (.v (.int IntKind.i64 y0)) []) := by
  rw [j5_raw]; rfl
theorem j8_c (k kp : D → List Blk → Prop) (J L : Nat → St → Prop) (ag4 : St → Prop) (x0 : Int) (x6 : Int) (x7 : Int) (b0 : (List Bool)) : runC cfg 8 J L (pick none' [(4, ag4)]) [1, 1, 1, 0, 1, 0, 0, 1, 0, 0, 1] body (topK cfg Try.f54 k kp) (m8 x0 x6 x7 b0) = j8 (fun x0 x6 x7 b0 => J 5 (m5 x0 x6 x7 b0)) x0 x6 x7 b0 (fun y0 => k (.v (.int IntKind.i64 y0)) []) := by kernel_rfl
theorem j8_ag (k kp : D → List Blk → Prop) (ag4 : St → Prop) : agPL cfg 8 (JJ_4 k kp ag4) (LL_4 k kp ag4) [1, 1, 1, 0, 1, 0, 0, 1, 0, 0, 1] body = agPR cfg 8 (pick none' [(4, ag4)]) [1, 1, 1, 0, 1, 0, 0, 1, 0, 0, 1] body (topK cfg Try.f54 k kp) := by kernel_rfl
theorem j8_raw (k kp : D → List Blk → Prop) (ag4 : St → Prop) (x0 : Int) (x6 : Int) (x7 : Int) (b0 : (List Bool)) : X8 k kp ag4 (m8 x0 x6 x7 b0) = j8 (fun x0 x6 x7 b0 => X5 k kp ag4 (m5 x0 x6 x7 b0)) x0 x6 x7 b0 (fun y0 => k (.v (.int IntKind.i64 y0)) []) :=
  Eq.mp (by kernel_rfl) ((atP_run (j8_ag k kp ag4) (m8 x0 x6 x7 b0)).trans (j8_c k kp (JJ_4 k kp ag4) (LL_4 k kp ag4) ag4 x0 x6 x7 b0))
theorem j8_eq (k kp : D → List Blk → Prop) (ag4 : St → Prop) (x0 : Int) (x6 : Int) (x7 : Int) (b0 : (List Bool)) : X8 k kp ag4 (m8 x0 x6 x7 b0) = j8' (fun x0 x6 x7 b0 => ag4 (mL4 x0 x6 x7 b0)) x0 x6 x7 b0 (fun y0 => k (.v (.int IntKind.i64 y0)) []) := by
  rw [j8_raw]; simp only [j5_eq]; first | done | rfl
theorem l4_c (k kp : D → List Blk → Prop) (J L : Nat → St → Prop) (ag4 : St → Prop) (x0 : Int) (x6 : Int) (x7 : Int) (b0 : (List Bool)) : runC cfg 1000001 J L (pick none' [(4, ag4)]) [1, 1, 1, 0, 1, 0, 0] body (topK cfg Try.f54 k kp) (mL4 x0 x6 x7 b0) = l4 (fun x0 x6 x7 b0 => J 8 (m8 x0 x6 x7 b0)) (fun x6 => J 9 (m9 x6)) x0 x6 x7 b0 (fun y0 => k (.v (.int IntKind.i64 y0)) []) := by kernel_rfl
theorem l4_ag (k kp : D → List Blk → Prop) (ag4 : St → Prop) : agPL cfg 1000001 (JJ_4 k kp ag4) (LL_4 k kp ag4) [1, 1, 1, 0, 1, 0, 0] body = agPR cfg 1000001 (pick none' [(4, ag4)]) [1, 1, 1, 0, 1, 0, 0] body (topK cfg Try.f54 k kp) := by kernel_rfl
theorem l4_raw (k kp : D → List Blk → Prop) (ag4 : St → Prop) (x0 : Int) (x6 : Int) (x7 : Int) (b0 : (List Bool)) : YL4 k kp ag4 (mL4 x0 x6 x7 b0) = l4 (fun x0 x6 x7 b0 => X8 k kp ag4 (m8 x0 x6 x7 b0)) (fun x6 => X9 k kp (m9 x6)) x0 x6 x7 b0 (fun y0 => k (.v (.int IntKind.i64 y0)) []) :=
  Eq.mp (by kernel_rfl) ((atP_run (l4_ag k kp ag4) (mL4 x0 x6 x7 b0)).trans (l4_c k kp (JJ_4 k kp ag4) (LL_4 k kp ag4) ag4 x0 x6 x7 b0))
theorem l4_eq (k kp : D → List Blk → Prop) (x0 : Int) (x6 : Int) (x7 : Int) (b0 : (List Bool)) : XL4 k kp (mL4 x0 x6 x7 b0) = l4' x0 x6 x7 b0 (fun y0 => k (.v (.int IntKind.i64 y0)) []) :=
  loop_eq (mk := fun (s : Int × Int × Int × (List Bool)) => mL4 s.1 s.2.1 s.2.2.1 s.2.2.2) (fun again s => by rw [l4_raw k kp again s.1 s.2.1 s.2.2.1 s.2.2.2]; simp only [j8_eq, j9_eq]; first | done | rfl) (x0, x6, x7, b0)
theorem c_c (k kp : D → List Blk → Prop) (J L : Nat → St → Prop) (x0 : Int) (x1 : Int) : runC cfg 1000001 J L none'' [] body (topK cfg Try.f54 k kp) (st0 Try.f54 [(.v (.int IntKind.i64 x0)), (.v (.int IntKind.i64 x1))] []) = c (fun x0 x6 x7 b0 => L 4 (mL4 x0 x6 x7 b0)) x0 x1 (fun y0 => k (.v (.int IntKind.i64 y0)) []) := by kernel_rfl
theorem c_ag (k kp : D → List Blk → Prop) : agPL cfg 1000001 (JJ k kp) (LL k kp) [] body = agPR cfg 1000001 none'' [] body (topK cfg Try.f54 k kp) := by kernel_rfl
theorem body_is : Try.f54.body = some body := by kernel_rfl
theorem c_raw (k kp : D → List Blk → Prop) (x0 : Int) (x1 : Int) : funW cfg Try.f54 [(.v (.int IntKind.i64 x0)), (.v (.int IntKind.i64 x1))] [] k kp = c (fun x0 x6 x7 b0 => XL4 k kp (mL4 x0 x6 x7 b0)) x0 x1 (fun y0 => k (.v (.int IntKind.i64 y0)) []) :=
  Eq.mp (by kernel_rfl) ((funW_run (AG := none'') body_is (c_ag k kp) [(.v (.int IntKind.i64 x0)), (.v (.int IntKind.i64 x1))] []).trans (c_c k kp (JJ k kp) (LL k kp) x0 x1))
theorem f_eq (k kp : D → List Blk → Prop) (x0 : Int) (x1 : Int) : funW cfg Try.f54 [(.v (.int IntKind.i64 x0)), (.v (.int IntKind.i64 x1))] [] k kp = f x0 x1 (fun y0 => k (.v (.int IntKind.i64 y0)) []) := by
  rw [f_def, c_raw]; simp only [l4_eq]; first | done | rfl
noncomputable def ent0 : Entry := fun args blks k _ => match args, blks with
  | [d0, d1], [] => aInt IntKind.i64 d0 fun x0 => aInt IntKind.i64 d1 fun x1 => f x0 x1 (fun y0 => k (.v (.int IntKind.i64 y0)) [])
  | _, _ => False
noncomputable def ent : Entry := fun args blks k kp => ent0 (convA [none, none] args) blks k kp
theorem ok : EntOk Try.prog 0 0 54 ent := by
  refine EntOk.conv (EntOk.of (funW_ok (cfg := cfg) (tyOk_of rfl rfl tyL_ok) (eqOk_none rfl) mixed_ok (tab_ok ?_) Try.func54 (by rfl) (by rfl)) ?_) _
  · intro p hp
    simp only [List.mem_cons, List.not_mem_nil, or_false] at hp
    rcases hp with rfl | rfl
    · exact N64.ok
    · exact N52.ok
  · intro args blks k kp h k' kp'
    match args, blks, h with
    | [d0, d1], [], h =>
    dsimp only [ent0] at h
    have h9 := aInt_elim h; clear h; obtain ⟨x0, rfl, h⟩ := h9
    have h9 := aInt_elim h; clear h; obtain ⟨x1, rfl, h⟩ := h9
    exact (f_eq k' kp' x0 x1).symm
end N54
end Go.Proofs.Yt
namespace Go.Proofs.Yt
open Go Go.Aw Go.Proofs
set_option linter.unusedVariables false
set_option linter.unusedSimpArgs false
set_option maxRecDepth 100000
/-! dyehouse/dyehouseref01.each -/
namespace N55
noncomputable def cfg : Cfg := { P := Try.prog, ty := tys, E := tab [(64, N64.ent), (65, N65.ent)], atSeq := tab [(4, ⟨[(0, .keep), (7, .keep), (8, .keep), (9, .keep)]⟩), (11, ⟨[(7, .keep)]⟩)], atLoop := tab [(3, ⟨[(0, .keep), (7, .keep), (8, .keep), (9, .keep)]⟩)], outs := [] }
noncomputable def body : Code := bodyOf Try.f55
def l3 (j4 : Int → Int → (List Bool) → (List Bool) → Prop) (j11 : (List Bool) → Prop) (x0 : Int) (x9 : Int) (b0 : (List Bool)) (b1 : (List Bool)) (k : Int → Prop) : Prop :=
  (br (decide (x9 < (64 : Int))) (br (x0 == (1 : Int)) ((inB 0 x9 (((64 : Nat) : Int) - 1)) ∧ (br (b0.getD (Int.toNat x9) (false)) ((inB 0 x9 (((64 : Nat) : Int) - 1)) ∧ ((inB 0 x9 (((64 : Nat) : Int) - 1)) ∧ (j4 x0 x9 (b0.set (Int.toNat x9) (b1.getD (Int.toNat x9) (false))) b1))) ((inB 0 x9 (((64 : Nat) : Int) - 1)) ∧ (j4 x0 x9 (b0.set (Int.toNat x9) false) b1)))) (br (x0 == (2 : Int)) ((inB 0 x9 (((64 : Nat) : Int) - 1)) ∧ (br (b0.getD (Int.toNat x9) (false)) ((inB 0 x9 (((64 : Nat) : Int) - 1)) ∧ (j4 x0 x9 (b0.set (Int.toNat x9) true) b1)) ((inB 0 x9 (((64 : Nat) : Int) - 1)) ∧ ((inB 0 x9 (((64 : Nat) : Int) - 1)) ∧ (j4 x0 x9 (b0.set (Int.toNat x9) (b1.getD (Int.toNat x9) (false))) b1))))) ((inB 0 x9 (((64 : Nat) : Int) - 1)) ∧ ((inB 0 x9 (((64 : Nat) : Int) - 1)) ∧ ((inB 0 x9 (((64 : Nat) : Int) - 1)) ∧ (j4 x0 x9 (b0.set (Int.toNat x9) (!((b0.getD (Int.toNat x9) (false)) == (b1.getD (Int.toNat x9) (false))))) b1)))))) (j11 b0))
def j4 (ag3 : Int → (List Bool) → (List Bool) → Prop) (x0 : Int) (x9 : Int) (b0 : (List Bool)) (b1 : (List Bool)) (k : Int → Prop) : Prop :=
  (ag3 (IntKind.i64.wrap (x9 + (1 : Int))) b0 b1)
def j11 (b0 : (List Bool)) (k : Int → Prop) : Prop :=
  (N65.f b0 (fun (y0_2 : Int) => (k y0_2)))
def c (l3 : Int → Int → (List Bool) → (List Bool) → Prop) (x0 : Int) (x1 : Int) (x2 : Int) (k : Int → Prop) : Prop :=
  (N64.f x1 (fun (y0_0 : (List Bool)) => (N64.f x2 (fun (y0_1 : (List Bool)) => (l3 x0 (0 : Int) y0_0 y0_1)))))
def j4' (ag3 : Int → (List Bool) → (List Bool) → Prop) (x0 : Int) (x9 : Int) (b0 : (List Bool)) (b1 : (List Bool)) (k : Int → Prop) : Prop := j4 ag3 x0 x9 b0 b1 k
def j11' (b0 : (List Bool)) (k : Int → Prop) : Prop := j11 b0 k
def l3' (x0 : Int) (x9 : Int) (b0 : (List Bool)) (b1 : (List Bool)) (k : Int → Prop) : Prop := ∃ n, loopS (fun (ag : (Int × (List Bool) × (List Bool)) → Prop) (s : Int × (List Bool) × (List Bool)) => l3 (fun x0 x9 b0 b1 => j4' (fun x9 b0 b1 => ag (x9, b0, b1)) x0 x9 b0 b1 k) (fun b0 => j11' b0 k) x0 s.1 s.2.1 s.2.2 k) n (x9, b0, b1)
def f0 (x0 : Int) (x1 : Int) (x2 : Int) (k : Int → Prop) : Prop := c (fun x0 x9 b0 b1 => l3' x0 x9 b0 b1 k) x0 x1 x2 k
theorem f_ex : ∃ g : Int → Int → Int → (Int → Prop) → Prop, g = f0 := ⟨_, rfl⟩
noncomputable def f : Int → Int → Int → (Int → Prop) → Prop := Classical.choose f_ex
theorem f_def : f = f0 := Classical.choose_spec f_ex
def mL3 (x0 : Int) (x9 : Int) (b0 : (List Bool)) (b1 : (List Bool)) : St := { tmps := mkT 54 0 [(0, (.v (.int IntKind.i64 x0))), (7, (.ptr 0 0)), (8, (.ptr 1 0)), (9, (.v (.int IntKind.i64 x9)))], hp := [(.arr 70 64 Ty.bool b0 false), (.arr 70 64 Ty.bool b1 false)], m := 0 }
def m4 (x0 : Int) (x9 : Int) (b0 : (List Bool)) (b1 : (List Bool)) : St := { tmps := mkT 54 0 [(0, (.v (.int IntKind.i64 x0))), (7, (.ptr 0 0)), (8, (.ptr 1 0)), (9, (.v (.int IntKind.i64 x9)))], hp := [(.arr 70 64 Ty.bool b0 false), (.arr 70 64 Ty.bool b1 false)], m := 0 }
def m11 (b0 : (List Bool)) : St := { tmps := mkT 54 0 [(7, (.ptr 0 0))], hp := [(.arr 70 64 Ty.bool b0 false)], m := 0 }
noncomputable def YL3 (k kp : D → List Blk → Prop) : (St → Prop) → St → Prop := loopB cfg (sub [1, 1, 0, 1, 0, 0] body) (contK cfg (pick none' []) [1, 1, 0, 1, 0] body (topK cfg Try.f55 k kp))
noncomputable def XL3 (k kp : D → List Blk → Prop) : St → Prop := fun st => ∃ n, loopN (YL3 k kp) n st
noncomputable def X4 (k kp : D → List Blk → Prop) (ag3 : St → Prop) : St → Prop := atP cfg (pick none' [(3, ag3)]) [1, 1, 0, 1, 0, 0, 1, 1] body (topK cfg Try.f55 k kp)
noncomputable def X11 (k kp : D → List Blk → Prop) : St → Prop := atP cfg (pick none' []) [1, 1, 1] body (topK cfg Try.f55 k kp)
noncomputable def JJ_3 (k kp : D → List Blk → Prop) (ag3 : St → Prop) : Nat → St → Prop := pick none' [(4, X4 k kp ag3), (11, X11 k kp)]
noncomputable def LL_3 (k kp : D → List Blk → Prop) (ag3 : St → Prop) : Nat → St → Prop := pick none' [(3, XL3 k kp)]
noncomputable def JJ (k kp : D → List Blk → Prop) : Nat → St → Prop := pick none' [(11, X11 k kp)]
noncomputable def LL (k kp : D → List Blk → Prop) : Nat → St → Prop := pick none' [(3, XL3 k kp)]
theorem j4_c (k kp : D → List Blk → Prop) (J L : Nat → St → Prop) (ag3 : St → Prop) (x0 : Int) (x9 : Int) (b0 : (List Bool)) (b1 : (List Bool)) : runC cfg 4 J L (pick none' [(3, ag3)]) [1, 1, 0, 1, 0, 0, 1, 1] body (topK cfg Try.f55 k kp) (m4 x0 x9 b0 b1) = j4 (fun x9 b0 b1 => ag3 (mL3 x0 x9 b0 b1)) x0 x9 b0 b1 (fun y0 => k (.v (.int IntKind.i64 y0)) []) := by kernel_rfl
theorem j4_ag (k kp : D → List Blk → Prop) (ag3 : St → Prop) : agPL cfg 4 (JJ_3 k kp ag3) (LL_3 k kp ag3) [1, 1, 0, 1, 0, 0, 1, 1] body = agPR cfg 4 (pick none' [(3, ag3)]) [1, 1, 0, 1, 0, 0, 1, 1] body (topK cfg Try.f55 k kp) := by kernel_rfl
theorem j4_raw (k kp : D → List Blk → Prop) (ag3 : St → Prop) (x0 : Int) (x9 : Int) (b0 : (List Bool)) (b1 : (List Bool)) : X4 k kp ag3 (m4 x0 x9 b0 b1) = j4 (fun x9 b0 b1 => ag3 (mL3 x0 x9 b0 b1)) x0 x9 b0 b1 (fun y0 => k (.v (.int IntKind.i64 y0)) []) :=
  Eq.mp (by kernel_rfl) ((atP_run (j4_ag k kp ag3) (m4 x0 x9 b0 b1)).trans (j4_c k kp (JJ_3 k kp ag3) (LL_3 k kp ag3) ag3 x0 x9 b0 b1))
theorem j4_eq (k kp : D → List Blk → Prop) (ag3 : St → Prop) (x0 : Int) (x9 : Int) (b0 : (List Bool)) (b1 : (List Bool)) : X4 k kp ag3 (m4 x0 x9 b0 b1) = j4' (fun x9 b0 b1 => ag3 (mL3 x0 x9 b0 b1)) x0 x9 b0 b1 (fun y0 => k (.v (.int IntKind.i64 y0)) []) := by
  rw [j4_raw]; rfl
theorem j11_c (k kp : D → List Blk → Prop) (J L : Nat → St → Prop) (b0 : (List Bool)) : runC cfg 11 J L (pick none' []) [1, 1, 1] body (topK cfg Try.f55 k kp) (m11 b0) = j11 b0 (fun y0 => k (.v (.int IntKind.i64 y0)) []) := by kernel_rfl
theorem j11_ag (k kp : D → List Blk → Prop) : agPL cfg 11 (JJ k kp) (LL k kp) [1, 1, 1] body = agPR cfg 11 (pick none' []) [1, 1, 1] body (topK cfg Try.f55 k kp) := by kernel_rfl
theorem j11_raw (k kp : D → List Blk → Prop) (b0 : (List Bool)) : X11 k kp (m11 b0) = j11 b0 (fun y0 => k (.v (.int IntKind.i64 y0)) []) :=
  Eq.mp (by kernel_rfl) ((atP_run (j11_ag k kp) (m11 b0)).trans (j11_c k kp (JJ k kp) (LL k kp) b0))
theorem j11_eq (k kp : D → List Blk → Prop) (b0 : (List Bool)) : X11 k kp (m11 b0) = j11' b0 (fun y0 => k (.v (.int IntKind.i64 y0)) []) := by
  rw [j11_raw]; rfl
theorem l3_c (k kp : D → List Blk → Prop) (J L : Nat → St → Prop) (ag3 : St → Prop) (x0 : Int) (x9 : Int) (b0 : (List Bool)) (b1 : (List Bool)) : runC cfg 1000001 J L (pick none' [(3, ag3)]) [1, 1, 0, 1, 0, 0] body (topK cfg Try.f55 k kp) (mL3 x0 x9 b0 b1) = l3 (fun x0 x9 b0 b1 => J 4 (m4 x0 x9 b0 b1)) (fun b0 => J 11 (m11 b0)) x0 x9 b0 b1 (fun y0 => k (.v (.int IntKind.i64 y0)) []) := by kernel_rfl
theorem l3_ag (k kp : D → List Blk → Prop) (ag3 : St → Prop) : agPL cfg 1000001 (JJ_3 k kp ag3) (LL_3 k kp ag3) [1, 1, 0, 1, 0, 0] body = agPR cfg 1000001 (pick none' [(3, ag3)]) [1, 1, 0, 1, 0, 0] body (topK cfg Try.f55 k kp) := by kernel_rfl
theorem l3_raw (k kp : D → List Blk → Prop) (ag3 : St → Prop) (x0 : Int) (x9 : Int) (b0 : (List Bool)) (b1 : (List Bool)) : YL3 k kp ag3 (mL3 x0 x9 b0 b1) = l3 (fun x0 x9 b0 b1 => X4 k kp ag3 (m4 x0 x9 b0 b1)) (fun b0 => X11 k kp (m11 b0)) x0 x9 b0 b1 (fun y0 => k (.v (.int IntKind.i64 y0)) []) :=
  Eq.mp (by kernel_rfl) ((atP_run (l3_ag k kp ag3) (mL3 x0 x9 b0 b1)).trans (l3_c k kp (JJ_3 k kp ag3) (LL_3 k kp ag3) ag3 x0 x9 b0 b1))
theorem l3_eq (k kp : D → List Blk → Prop) (x0 : Int) (x9 : Int) (b0 : (List Bool)) (b1 : (List Bool)) : XL3 k kp (mL3 x0 x9 b0 b1) = l3' x0 x9 b0 b1 (fun y0 => k (.v (.int IntKind.i64 y0)) []) :=
  loop_eq (mk := fun (s : Int × (List Bool) × (List Bool)) => mL3 x0 s.1 s.2.1 s.2.2) (fun again s => by rw [l3_raw k kp again x0 s.1 s.2.1 s.2.2]; simp only [j4_eq, j11_eq]; first | done | rfl) (x9, b0, b1)
theorem c_c (k kp : D → List Blk → Prop) (J L : Nat → St → Prop) (x0 : Int) (x1 : Int) (x2 : Int) : runC cfg 1000001 J L none'' [] body (topK cfg Try.f55 k kp) (st0 Try.f55 [(.v (.int IntKind.i64 x0)), (.v (.int IntKind.i64 x1)), (.v (.int IntKind.i64 x2))] []) = c (fun x0 x9 b0 b1 => L 3 (mL3 x0 x9 b0 b1)) x0 x1 x2 (fun y0 => k (.v (.int IntKind.i64 y0)) []) := by kernel_rfl
theorem c_ag (k kp : D → List Blk → Prop) : agPL cfg 1000001 (JJ k kp) (LL k kp) [] body = agPR cfg 1000001 none'' [] body (topK cfg Try.f55 k kp) := by kernel_rfl
theorem body_is : Try.f55.body = some body := by kernel_rfl
theorem c_raw (k kp : D → List Blk → Prop) (x0 : Int) (x1 : Int) (x2 : Int) : funW cfg Try.f55 [(.v (.int IntKind.i64 x0)), (.v (.int IntKind.i64 x1)), (.v (.int IntKind.i64 x2))] [] k kp = c (fun x0 x9 b0 b1 => XL3 k kp (mL3 x0 x9 b0 b1)) x0 x1 x2 (fun y0 => k (.v (.int IntKind.i64 y0)) []) :=
  Eq.mp (by kernel_rfl) ((funW_run (AG := none'') body_is (c_ag k kp) [(.v (.int IntKind.i64 x0)), (.v (.int IntKind.i64 x1)), (.v (.int IntKind.i64 x2))] []).trans (c_c k kp (JJ k kp) (LL k kp) x0 x1 x2))
theorem f_eq (k kp : D → List Blk → Prop) (x0 : Int) (x1 : Int) (x2 : Int) : funW cfg Try.f55 [(.v (.int IntKind.i64 x0)), (.v (.int IntKind.i64 x1)), (.v (.int IntKind.i64 x2))] [] k kp = f x0 x1 x2 (fun y0 => k (.v (.int IntKind.i64 y0)) []) := by
  rw [f_def, c_raw]; simp only [l3_eq]; first | done | rfl
noncomputable def ent0 : Entry := fun args blks k _ => match args, blks with
  | [d0, d1, d2], [] => aInt IntKind.i64 d0 fun x0 => aInt IntKind.i64 d1 fun x1 => aInt IntKind.i64 d2 fun x2 => f x0 x1 x2 (fun y0 => k (.v (.int IntKind.i64 y0)) [])
  | _, _ => False
noncomputable def ent : Entry := fun args blks k kp => ent0 (convA [none, none, none] args) blks k kp
theorem ok : EntOk Try.prog 0 0 55 ent := by
  refine EntOk.conv (EntOk.of (funW_ok (cfg := cfg) (tyOk_of rfl rfl tyL_ok) (eqOk_none rfl) mixed_ok (tab_ok ?_) Try.func55 (by rfl) (by rfl)) ?_) _
  · intro p hp
    simp only [List.mem_cons, List.not_mem_nil, or_false] at hp
    rcases hp with rfl | rfl
    · exact N64.ok
    · exact N65.ok
  · intro args blks k kp h k' kp'
    match args, blks, h with
    | [d0, d1, d2], [], h =>
    dsimp only [ent0] at h
    have h9 := aInt_elim h; clear h; obtain ⟨x0, rfl, h⟩ := h9
    have h9 := aInt_elim h; clear h; obtain ⟨x1, rfl, h⟩ := h9
    have h9 := aInt_elim h; clear h; obtain ⟨x2, rfl, h⟩ := h9
    exact (f_eq k' kp' x0 x1 x2).symm
end N55
end Go.Proofs.Yt
namespace Go.Proofs.Yt
open Go Go.Aw Go.Proofs
set_option linter.unusedVariables false
set_option linter.unusedSimpArgs false
set_option maxRecDepth 100000
/-! dyehouse/dyehouseref01.shift -/
namespace N56
noncomputable def cfg : Cfg := { P := Try.prog, ty := tys, E := tab [(64, N64.ent), (65, N65.ent)], atSeq := tab [(4, ⟨[(0, .keep), (1, .keep), (7, .keep)]⟩), (12, ⟨[(0, .keep), (7, .keep), (8, .keep), (9, .keep), (10, .keep), (11, .keep)]⟩), (16, ⟨[(9, .keep)]⟩), (2000013, ⟨[(0, .keep), (7, .keep), (8, .keep), (9, .keep), (10, .keep), (11, .keep), (37, .keep)]⟩), (8, ⟨[(0, .keep), (7, .keep), (8, .keep), (9, .keep), (10, .keep)]⟩)], atLoop := tab [(7, ⟨[(0, .keep), (7, .keep), (8, .keep), (9, .keep), (10, .keep)]⟩)], outs := [] }
noncomputable def body : Code := bodyOf Try.f56
def j4 (l7 : Int → Int → Int → (List Bool) → (List Bool) → Prop) (x0 : Int) (x1 : Int) (x7 : Int) (k : Int → Prop) : Prop :=
  (N64.f x1 (fun (y0_0 : (List Bool)) => (l7 x0 x7 (0 : Int) y0_0 (List.replicate 64 (false)))))
def l7 (j12 : Int → Int → Int → Int → (List Bool) → (List Bool) → Prop) (j16 : (List Bool) → Prop) (x0 : Int) (x7 : Int) (x10 : Int) (b0 : (List Bool)) (b1 : (List Bool)) (k : Int → Prop) : Prop :=
  (br (decide (x10 < (64 : Int))) (br (x0 != (7 : Int)) (j12 x0 x7 x10 (IntKind.i64.wrap (x10 + x7)) b0 b1) (j12 x0 x7 x10 (IntKind.i64.wrap (x10 - x7)) b0 b1)) (j16 b1))
def j12 (j2000013 : Int → Int → Int → Int → Bool → (List Bool) → (List Bool) → Prop) (x0 : Int) (x7 : Int) (x10 : Int) (x11 : Int) (b0 : (List Bool)) (b1 : (List Bool)) (k : Int → Prop) : Prop :=
  (br (decide (x11 ≥ (0 : Int))) (j2000013 x0 x7 x10 x11 (decide (x11 < (64 : Int))) b0 b1) (j2000013 x0 x7 x10 x11 false b0 b1))
def j16 (b0 : (List Bool)) (k : Int → Prop) : Prop :=
  (N65.f b0 (fun (y0_1 : Int) => (k y0_1)))
def j2000013 (j8 : Int → Int → Int → (List Bool) → (List Bool) → Prop) (x0 : Int) (x7 : Int) (x10 : Int) (x11 : Int) (x37 : Bool) (b0 : (List Bool)) (b1 : (List Bool)) (k : Int → Prop) : Prop :=
  (br x37 ((inB 0 x11 (((64 : Nat) : Int) - 1)) ∧ ((inB 0 x10 (((64 : Nat) : Int) - 1)) ∧ (j8 x0 x7 x10 b0 (b1.set (Int.toNat x10) (b0.getD (Int.toNat x11) (false)))))) (br (x0 == (9 : Int)) ((inB 0 (63 : Int) (((64 : Nat) : Int) - 1)) ∧ ((inB 0 x10 (((64 : Nat) : Int) - 1)) ∧ (j8 x0 x7 x10 b0 (b1.set (Int.toNat x10) (b0.getD (Int.toNat (63 : Int)) (false)))))) (j8 x0 x7 x10 b0 b1)))
def j8 (ag7 : Int → (List Bool) → (List Bool) → Prop) (x0 : Int) (x7 : Int) (x10 : Int) (b0 : (List Bool)) (b1 : (List Bool)) (k : Int → Prop) : Prop :=
  (ag7 (IntKind.i64.wrap (x10 + (1 : Int))) b0 b1)
def c (j4 : Int → Int → Int → Prop) (x0 : Int) (x1 : Int) (x2 : Int) (k : Int → Prop) : Prop :=
  (((64 : Int) ≠ 0) ∧ (br (decide ((Int.tmod x2 (64 : Int)) < (0 : Int))) (j4 x0 x1 (IntKind.i64.wrap ((Int.tmod x2 (64 : Int)) + (64 : Int)))) (j4 x0 x1 (Int.tmod x2 (64 : Int)))))
def j16' (b0 : (List Bool)) (k : Int → Prop) : Prop := j16 b0 k
def j8' (ag7 : Int → (List Bool) → (List Bool) → Prop) (x0 : Int) (x7 : Int) (x10 : Int) (b0 : (List Bool)) (b1 : (List Bool)) (k : Int → Prop) : Prop := j8 ag7 x0 x7 x10 b0 b1 k
def j2000013' (ag7 : Int → (List Bool) → (List Bool) → Prop) (x0 : Int) (x7 : Int) (x10 : Int) (x11 : Int) (x37 : Bool) (b0 : (List Bool)) (b1 : (List Bool)) (k : Int → Prop) : Prop := j2000013 (fun x0 x7 x10 b0 b1 => j8' ag7 x0 x7 x10 b0 b1 k) x0 x7 x10 x11 x37 b0 b1 k
def j12' (ag7 : Int → (List Bool) → (List Bool) → Prop) (x0 : Int) (x7 : Int) (x10 : Int) (x11 : Int) (b0 : (List Bool)) (b1 : (List Bool)) (k : Int → Prop) : Prop := j12 (fun x0 x7 x10 x11 x37 b0 b1 => j2000013' ag7 x0 x7 x10 x11 x37 b0 b1 k) x0 x7 x10 x11 b0 b1 k
def l7' (x0 : Int) (x7 : Int) (x10 : Int) (b0 : (List Bool)) (b1 : (List Bool)) (k : Int → Prop) : Prop := ∃ n, loopS (fun (ag : (Int × (List Bool) × (List Bool)) → Prop) (s : Int × (List Bool) × (List Bool)) => l7 (fun x0 x7 x10 x11 b0 b1 => j12' (fun x10 b0 b1 => ag (x10, b0, b1)) x0 x7 x10 x11 b0 b1 k) (fun b0 => j16' b0 k) x0 x7 s.1 s.2.1 s.2.2 k) n (x10, b0, b1)
def j4' (x0 : Int) (x1 : Int) (x7 : Int) (k : Int → Prop) : Prop := j4 (fun x0 x7 x10 b0 b1 => l7' x0 x7 x10 b0 b1 k) x0 x1 x7 k
def f0 (x0 : Int) (x1 : Int) (x2 : Int) (k : Int → Prop) : Prop := c (fun x0 x1 x7 => j4' x0 x1 x7 k) x0 x1 x2 k
theorem f_ex : ∃ g : Int → Int → Int → (Int → Prop) → Prop, g = f0 := ⟨_, rfl⟩
noncomputable def f : Int → Int → Int → (Int → Prop) → Prop := Classical.choose f_ex
theorem f_def : f = f0 := Classical.choose_spec f_ex
def m4 (x0 : Int) (x1 : Int) (x7 : Int) : St := { tmps := mkT 51 0 [(0, (.v (.int IntKind.i64 x0))), (1, (.v (.int IntKind.i64 x1))), (7, (.v (.int IntKind.i64 x7)))], hp := [], m := 0 }
def mL7 (x0 : Int) (x7 : Int) (x10 : Int) (b0 : (List Bool)) (b1 : (List Bool)) : St := { tmps := mkT 51 0 [(0, (.v (.int IntKind.i64 x0))), (7, (.v (.int IntKind.i64 x7))), (8, (.ptr 0 0)), (9, (.ptr 1 0)), (10, (.v (.int IntKind.i64 x10)))], hp := [(.arr 70 64 Ty.bool b0 false), (.arr 70 64 Ty.bool b1 false)], m := 0 }
def m12 (x0 : Int) (x7 : Int) (x10 : Int) (x11 : Int) (b0 : (List Bool)) (b1 : (List Bool)) : St := { tmps := mkT 51 0 [(0, (.v (.int IntKind.i64 x0))), (7, (.v (.int IntKind.i64 x7))), (8, (.ptr 0 0)), (9, (.ptr 1 0)), (10, (.v (.int IntKind.i64 x10))), (11, (.v (.int IntKind.i64 x11)))], hp := [(.arr 70 64 Ty.bool b0 false), (.arr 70 64 Ty.bool b1 false)], m := 0 }
def m16 (b0 : (List Bool)) : St := { tmps := mkT 51 0 [(9, (.ptr 0 0))], hp := [(.arr 70 64 Ty.bool b0 false)], m := 0 }
def m2000013 (x0 : Int) (x7 : Int) (x10 : Int) (x11 : Int) (x37 : Bool) (b0 : (List Bool)) (b1 : (List Bool)) : St := { tmps := mkT 51 0 [(0, (.v (.int IntKind.i64 x0))), (7, (.v (.int IntKind.i64 x7))), (8, (.ptr 0 0)), (9, (.ptr 1 0)), (10, (.v (.int IntKind.i64 x10))), (11, (.v (.int IntKind.i64 x11))), (37, (.v (.bool x37)))], hp := [(.arr 70 64 Ty.bool b0 false), (.arr 70 64 Ty.bool b1 false)], m := 0 }
def m8 (x0 : Int) (x7 : Int) (x10 : Int) (b0 : (List Bool)) (b1 : (List Bool)) : St := { tmps := mkT 51 0 [(0, (.v (.int IntKind.i64 x0))), (7, (.v (.int IntKind.i64 x7))), (8, (.ptr 0 0)), (9, (.ptr 1 0)), (10, (.v (.int IntKind.i64 x10)))], hp := [(.arr 70 64 Ty.bool b0 false), (.arr 70 64 Ty.bool b1 false)], m := 0 }
noncomputable def X4 (k kp : D → List Blk → Prop) : St → Prop := atP cfg (pick none' []) [1, 1, 1] body (topK cfg Try.f56 k kp)
noncomputable def YL7 (k kp : D → List Blk → Prop) : (St → Prop) → St → Prop := loopB cfg (sub [1, 1, 1, 1, 1, 0, 1, 0, 0] body) (contK cfg (pick none' []) [1, 1, 1, 1, 1, 0, 1, 0] body (topK cfg Try.f56 k kp))
noncomputable def XL7 (k kp : D → List Blk → Prop) : St → Prop := fun st => ∃ n, loopN (YL7 k kp) n st
noncomputable def X12 (k kp : D → List Blk → Prop) (ag7 : St → Prop) : St → Prop := atP cfg (pick none' [(7, ag7)]) [1, 1, 1, 1, 1, 0, 1, 0, 0, 1, 0, 0, 1, 1] body (topK cfg Try.f56 k kp)
noncomputable def X16 (k kp : D → List Blk → Prop) : St → Prop := atP cfg (pick none' []) [1, 1, 1, 1, 1, 1] body (topK cfg Try.f56 k kp)
noncomputable def X2000013 (k kp : D → List Blk → Prop) (ag7 : St → Prop) : St → Prop := atP cfg (pick none' [(7, ag7)]) [1, 1, 1, 1, 1, 0, 1, 0, 0, 1, 0, 0, 1, 1, 1] body (topK cfg Try.f56 k kp)
noncomputable def X8 (k kp : D → List Blk → Prop) (ag7 : St → Prop) : St → Prop := atP cfg (pick none' [(7, ag7)]) [1, 1, 1, 1, 1, 0, 1, 0, 0, 1, 1] body (topK cfg Try.f56 k kp)
noncomputable def JJ (k kp : D → List Blk → Prop) : Nat → St → Prop := pick none' [(4, X4 k kp), (16, X16 k kp)]
noncomputable def LL (k kp : D → List Blk → Prop) : Nat → St → Prop := pick none' [(7, XL7 k kp)]
noncomputable def JJ_7 (k kp : D → List Blk → Prop) (ag7 : St → Prop) : Nat → St → Prop := pick none' [(4, X4 k kp), (12, X12 k kp ag7), (16, X16 k kp), (2000013, X2000013 k kp ag7), (8, X8 k kp ag7)]
noncomputable def LL_7 (k kp : D → List Blk → Prop) (ag7 : St → Prop) : Nat → St → Prop := pick none' [(7, XL7 k kp)]
theorem j16_c (k kp : D → List Blk → Prop) (J L : Nat → St → Prop) (b0 : (List Bool)) : runC cfg 16 J L (pick none' []) [1, 1, 1, 1, 1, 1] body (topK cfg Try.f56 k kp) (m16 b0) = j16 b0 (fun y0 => k (.v (.int IntKind.i64 y0)) []) := by kernel_rfl
theorem j16_ag (k kp : D → List Blk → Prop) : agPL cfg 16 (JJ k kp) (LL k kp) [1, 1, 1, 1, 1, 1] body = agPR cfg 16 (pick none' []) [1, 1, 1, 1, 1, 1] body (topK cfg Try.f56 k kp) := by kernel_rfl
theorem j16_raw (k kp : D → List Blk → Prop) (b0 : (List Bool)) : X16 k kp (m16 b0) = j16 b0 (fun y0 => k (.v (.int IntKind.i64 y0)) []) :=
  Eq.mp (by kernel_rfl) ((atP_run (j16_ag k kp) (m16 b0)).trans (j16_c k kp (JJ k kp) (LL k kp) b0))
theorem j16_eq (k kp : D → List Blk → Prop) (b0 : (List Bool)) : X16 k kp (m16 b0) = j16' b0 (fun y0 => k (.v (.int IntKind.i64 y0)) []) := by
  rw [j16_raw]; rfl
theorem j8_c (k kp : D → List Blk → Prop) (J L : Nat → St → Prop) (ag7 : St → Prop) (x0 : Int) (x7 : Int) (x10 : Int) (b0 : (List Bool)) (b1 : (List Bool)) : runC cfg 8 J L (pick none' [(7, ag7)]) [1, 1, 1, 1, 1, 0, 1, 0, 0, 1, 1] body (topK cfg Try.f56 k kp) (m8 x0 x7 x10 b0 b1) = j8 (fun x10 b0 b1 => ag7 (mL7 x0 x7 x10 b0 b1)) x0 x7 x10 b0 b1 (fun y0 => k (.v (.int IntKind.i64 y0)) []) := by kernel_rfl
theorem j8_ag (k kp : D → List Blk → Prop) (ag7 : St → Prop) : agPL cfg 8 (JJ_7 k kp ag7) (LL_7 k kp ag7) [1, 1, 1, 1, 1, 0, 1, 0, 0, 1, 1] body = agPR cfg 8 (pick none' [(7, ag7)]) [1, 1, 1, 1, 1, 0, 1, 0, 0, 1, 1] body (topK cfg Try.f56 k kp) := by kernel_rfl
theorem j8_raw (k kp : D → List Blk → Prop) (ag7 : St → Prop) (x0 : Int) (x7 : Int) (x10 : Int) (b0 : (List Bool)) (b1 : (List Bool)) : X8 k kp ag7 (m8 x0 x7 x10 b0 b1) = j8 (fun x10 b0 b1 => ag7 (mL7 x0 x7 x10 b0 b1)) x0 x7 x10 b0 b1 (fun y0 => k (.v (.int IntKind.i64 y0)) []) :=
  Eq.mp (by kernel_rfl) ((atP_run (j8_ag k kp ag7) (m8 x0 x7 x10 b0 b1)).trans (j8_c k kp (JJ_7 k kp ag7) (LL_7 k kp ag7) ag7 x0 x7 x10 b0 b1))
theorem j8_eq (k kp : D → List Blk → Prop) (ag7 : St → Prop) (x0 : Int) (x7 : Int) (x10 : Int) (b0 : (List Bool)) (b1 : (List Bool)) : X8 k kp ag7 (m8 x0 x7 x10 b0 b1) = j8' (fun x10 b0 b1 => ag7 (mL7 x0 x7 x10 b0 b1)) x0 x7 x10 b0 b1 (fun y0 => k (.v (.int IntKind.i64 y0)) []) := by
  rw [j8_raw]; rfl
theorem j2000013_c (k kp : D → List Blk → Prop) (J L : Nat → St → Prop) (ag7 : St → Prop) (x0 : Int) (x7 : Int) (x10 : Int) (x11 : Int) (x37 : Bool) (b0 : (List Bool)) (b1 : (List Bool)) : runC cfg 2000013 J L (pick none' [(7, ag7)]) [1, 1, 1, 1, 1, 0, 1, 0, 0, 1, 0, 0, 1, 1, 1] body (topK cfg Try.f56 k kp) (m2000013 x0 x7 x10 x11 x37 b0 b1) = j2000013 (fun x0 x7 x10 b0 b1 => J 8 (m8 x0 x7 x10 b0 b1)) x0 x7 x10 x11 x37 b0 b1 (fun y0 => k (.v (.int IntKind.i64 y0)) []) := by kernel_rfl
theorem j2000013_ag (k kp : D → List Blk → Prop) (ag7 : St → Prop) : agPL cfg 2000013 (JJ_7 k kp ag7) (LL_7 k kp ag7) [1, 1, 1, 1, 1, 0, 1, 0, 0, 1, 0, 0, 1, 1, 1] body = agPR cfg 2000013 (pick none' [(7, ag7)]) [1, 1, 1, 1, 1, 0, 1, 0, 0, 1, 0, 0, 1, 1, 1] body (topK cfg Try.f56 k kp) := by kernel_rfl
theorem j2000013_raw (k kp : D → List Blk → Prop) (ag7 : St → Prop) (x0 : Int) (x7 : Int) (x10 : Int) (x11 : Int) (x37 : Bool) (b0 : (List Bool)) (b1 : (List Bool)) : X2000013 k kp ag7 (m2000013 x0 x7 x10 x11 x37 b0 b1) = j2000013 (fun x0 x7 x10 b0 b1 => X8 k kp ag7 (m8 x0 x7 x10 b0 b1)) x0 x7 x10 x11 x37 b0 b1 (fun y0 => k (.v (.int IntKind.i64 y0)) []) :=
  Eq.mp (by kernel_rfl) ((atP_run (j2000013_ag k kp ag7) (m2000013 x0 x7 x10 x11 x37 b0 b1)).trans (j2000013_c k kp (JJ_7 k kp ag7) (LL_7 k kp ag7) ag7 x0 x7 x10 x11 x37 b0 b1))
theorem j2000013_eq (k kp : D → List Blk → Prop) (ag7 : St → Prop) (x0 : Int) (x7 : Int) (x10 : Int) (x11 : Int) (x37 : Bool) (b0 : (List Bool)) (b1 : (List Bool)) : X2000013 k kp ag7 (m2000013 x0 x7 x10 x11 x37 b0 b1) = j2000013' (fun x10 b0 b1 => ag7 (mL7 x0 x7 x10 b0 b1)) x0 x7 x10 x11 x37 b0 b1 (fun y0 => k (.v (.int IntKind.i64 y0)) []) := by
  rw [j2000013_raw]; simp only [j8_eq]; first | done | rfl
theorem j12_c (k kp : D → List Blk → Prop) (J L : Nat → St → Prop) (ag7 : St → Prop) (x0 : Int) (x7 : Int) (x10 : Int) (x11 : Int) (b0 : (List Bool)) (b1 : (List Bool)) : runC cfg 12 J L (pick none' [(7, ag7)]) [1, 1, 1, 1, 1, 0, 1, 0, 0, 1, 0, 0, 1, 1] body (topK cfg Try.f56 k kp) (m12 x0 x7 x10 x11 b0 b1) = j12 (fun x0 x7 x10 x11 x37 b0 b1 => J 2000013 (m2000013 x0 x7 x10 x11 x37 b0 b1)) x0 x7 x10 x11 b0 b1 (fun y0 => k (.v (.int IntKind.i64 y0)) []) := by kernel_rfl
theorem j12_ag (k kp : D → List Blk → Prop) (ag7 : St → Prop) : agPL cfg 12 (JJ_7 k kp ag7) (LL_7 k kp ag7) [1, 1, 1, 1, 1, 0, 1, 0, 0, 1, 0, 0, 1, 1] body = agPR cfg 12 (pick none' [(7, ag7)]) [1, 1, 1, 1, 1, 0, 1, 0, 0, 1, 0, 0, 1, 1] body (topK cfg Try.f56 k kp) := by kernel_rfl
theorem j12_raw (k kp : D → List Blk → Prop) (ag7 : St → Prop) (x0 : Int) (x7 : Int) (x10 : Int) (x11 : Int) (b0 : (List Bool)) (b1 : (List Bool)) : X12 k kp ag7 (m12 x0 x7 x10 x11 b0 b1) = j12 (fun x0 x7 x10 x11 x37 b0 b1 => X2000013 k kp ag7 (m2000013 x0 x7 x10 x11 x37 b0 b1)) x0 x7 x10 x11 b0 b1 (fun y0 => k (.v (.int IntKind.i64 y0)) []) :=
  Eq.mp (by kernel_rfl) ((atP_run (j12_ag k kp ag7) (m12 x0 x7 x10 x11 b0 b1)).trans (j12_c k kp (JJ_7 k kp ag7) (LL_7 k kp ag7) ag7 x0 x7 x10 x11 b0 b1))
theorem j12_eq (k kp : D → List Blk → Prop) (ag7 : St → Prop) (x0 : Int) (x7 : Int) (x10 : Int) (x11 : Int) (b0 : (List Bool)) (b1 : (List Bool)) : X12 k kp ag7 (m12 x0 x7 x10 x11 b0 b1) = j12' (fun x10 b0 b1 => ag7 (mL7 x0 x7 x10 b0 b1)) x0 x7 x10 x11 b0 b1 (fun y0 => k (.v (.int IntKind.i64 y0)) []) := by
  rw [j12_raw]; simp only [j2000013_eq]; first | done | rfl
theorem l7_c (k kp : D → List Blk → Prop) (J L : Nat → St → Prop) (ag7 : St → Prop) (x0 : Int) (x7 : Int) (x10 : Int) (b0 : (List Bool)) (b1 : (List Bool)) : runC cfg 1000001 J L (pick none' [(7, ag7)]) [1, 1, 1, 1, 1, 0, 1, 0, 0] body (topK cfg Try.f56 k kp) (mL7 x0 x7 x10 b0 b1) = l7 (fun x0 x7 x10 x11 b0 b1 => J 12 (m12 x0 x7 x10 x11 b0 b1)) (fun b0 => J 16 (m16 b0)) x0 x7 x10 b0 b1 (fun y0 => k (.v (.int IntKind.i64 y0)) []) := by kernel_rfl
theorem l7_ag (k kp : D → List Blk → Prop) (ag7 : St → Prop) : agPL cfg 1000001 (JJ_7 k kp ag7) (LL_7 k kp ag7) [1, 1, 1, 1, 1, 0, 1, 0, 0] body = agPR cfg 1000001 (pick none' [(7, ag7)]) [1, 1, 1, 1, 1, 0, 1, 0, 0] body (topK cfg Try.f56 k kp) := by kernel_rfl
theorem l7_raw (k kp : D → List Blk → Prop) (ag7 : St → Prop) (x0 : Int) (x7 : Int) (x10 : Int) (b0 : (List Bool)) (b1 : (List Bool)) : YL7 k kp ag7 (mL7 x0 x7 x10 b0 b1) = l7 (fun x0 x7 x10 x11 b0 b1 => X12 k kp ag7 (m12 x0 x7 x10 x11 b0 b1)) (fun b0 => X16 k kp (m16 b0)) x0 x7 x10 b0 b1 (fun y0 => k (.v (.int IntKind.i64 y0)) []) :=
  Eq.mp (by kernel_rfl) ((atP_run (l7_ag k kp ag7) (mL7 x0 x7 x10 b0 b1)).trans (l7_c k kp (JJ_7 k kp ag7) (LL_7 k kp ag7) ag7 x0 x7 x10 b0 b1))
theorem l7_eq (k kp : D → List Blk → Prop) (x0 : Int) (x7 : Int) (x10 : Int) (b0 : (List Bool)) (b1 : (List Bool)) : XL7 k kp (mL7 x0 x7 x10 b0 b1) = l7' x0 x7 x10 b0 b1 (fun y0 => k (.v (.int IntKind.i64 y0)) []) :=
  loop_eq (mk := fun (s : Int × (List Bool) × (List Bool)) => mL7 x0 x7 s.1 s.2.1 s.2.2) (fun again s => by rw [l7_raw k kp again x0 x7 s.1 s.2.1 s.2.2]; simp only [j12_eq, j16_eq]; first | done | rfl) (x10, b0, b1)
theorem j4_c (k kp : D → List Blk → Prop) (J L : Nat → St → Prop) (x0 : Int) (x1 : Int) (x7 : Int) : runC cfg 4 J L (pick none' []) [1, 1, 1] body (topK cfg Try.f56 k kp) (m4 x0 x1 x7) = j4 (fun x0 x7 x10 b0 b1 => L 7 (mL7 x0 x7 x10 b0 b1)) x0 x1 x7 (fun y0 => k (.v (.int IntKind.i64 y0)) []) := by kernel_rfl
theorem j4_ag (k kp : D → List Blk → Prop) : agPL cfg 4 (JJ k kp) (LL k kp) [1, 1, 1] body = agPR cfg 4 (pick none' []) [1, 1, 1] body (topK cfg Try.f56 k kp) := by kernel_rfl
theorem j4_raw (k kp : D → List Blk → Prop) (x0 : Int) (x1 : Int) (x7 : Int) : X4 k kp (m4 x0 x1 x7) = j4 (fun x0 x7 x10 b0 b1 => XL7 k kp (mL7 x0 x7 x10 b0 b1)) x0 x1 x7 (fun y0 => k (.v (.int IntKind.i64 y0)) []) :=
  Eq.mp (by kernel_rfl) ((atP_run (j4_ag k kp) (m4 x0 x1 x7)).trans (j4_c k kp (JJ k kp) (LL k kp) x0 x1 x7))
theorem j4_eq (k kp : D → List Blk → Prop) (x0 : Int) (x1 : Int) (x7 : Int) : X4 k kp (m4 x0 x1 x7) = j4' x0 x1 x7 (fun y0 => k (.v (.int IntKind.i64 y0)) []) := by
  rw [j4_raw]; simp only [l7_eq]; first | done | rfl
theorem c_c (k kp : D → List Blk → Prop) (J L : Nat → St → Prop) (x0 : Int) (x1 : Int) (x2 : Int) : runC cfg 1000001 J L none'' [] body (topK cfg Try.f56 k kp) (st0 Try.f56 [(.v (.int IntKind.i64 x0)), (.v (.int IntKind.i64 x1)), (.v (.int IntKind.i64 x2))] []) = c (fun x0 x1 x7 => J 4 (m4 x0 x1 x7)) x0 x1 x2 (fun y0 => k (.v (.int IntKind.i64 y0)) []) := by kernel_rfl
theorem c_ag (k kp : D → List Blk → Prop) : agPL cfg 1000001 (JJ k kp) (LL k kp) [] body = agPR cfg 1000001 none'' [] body (topK cfg Try.f56 k kp) := by kernel_rfl
theorem body_is : Try.f56.body = some body := by kernel_rfl
theorem c_raw (k kp : D → List Blk → Prop) (x0 : Int) (x1 : Int) (x2 : Int) : funW cfg Try.f56 [(.v (.int IntKind.i64 x0)), (.v (.int IntKind.i64 x1)), (.v (.int IntKind.i64 x2))] [] k kp = c (fun x0 x1 x7 => X4 k kp (m4 x0 x1 x7)) x0 x1 x2 (fun y0 => k (.v (.int IntKind.i64 y0)) []) :=
  Eq.mp (by kernel_rfl) ((funW_run (AG := none'') body_is (c_ag k kp) [(.v (.int IntKind.i64 x0)), (.v (.int IntKind.i64 x1)), (.v (.int IntKind.i64 x2))] []).trans (c_c k kp (JJ k kp) (LL k kp) x0 x1 x2))
theorem f_eq (k kp : D → List Blk → Prop) (x0 : Int) (x1 : Int) (x2 : Int) : funW cfg Try.f56 [(.v (.int IntKind.i64 x0)), (.v (.int IntKind.i64 x1)), (.v (.int IntKind.i64 x2))] [] k kp = f x0 x1 x2 (fun y0 => k (.v (.int IntKind.i64 y0)) []) := by
  rw [f_def, c_raw]; simp only [j4_eq]; first | done | rfl
noncomputable def ent0 : Entry := fun args blks k _ => match args, blks with
  | [d0, d1, d2], [] => aInt IntKind.i64 d0 fun x0 => aInt IntKind.i64 d1 fun x1 => aInt IntKind.i64 d2 fun x2 => f x0 x1 x2 (fun y0 => k (.v (.int IntKind.i64 y0)) [])
  | _, _ => False
noncomputable def ent : Entry := fun args blks k kp => ent0 (convA [none, none, none] args) blks k kp
theorem ok : EntOk Try.prog 0 0 56 ent := by
  refine EntOk.conv (EntOk.of (funW_ok (cfg := cfg) (tyOk_of rfl rfl tyL_ok) (eqOk_none rfl) mixed_ok (tab_ok ?_) Try.func56 (by rfl) (by rfl)) ?_) _
  · intro p hp
    simp only [List.mem_cons, List.not_mem_nil, or_false] at hp
    rcases hp with rfl | rfl
    · exact N64.ok
    · exact N65.ok
  · intro args blks k kp h k' kp'
    match args, blks, h with
    | [d0, d1, d2], [], h =>
    dsimp only [ent0] at h
    have h9 := aInt_elim h; clear h; obtain ⟨x0, rfl, h⟩ := h9
    have h9 := aInt_elim h; clear h; obtain ⟨x1, rfl, h⟩ := h9
    have h9 := aInt_elim h; clear h; obtain ⟨x2, rfl, h⟩ := h9
    exact (f_eq k' kp' x0 x1 x2).symm
end N56
end Go.Proofs.Yt
namespace Go.Proofs.Yt
open Go Go.Aw Go.Proofs
set_option linter.unusedVariables false
set_option linter.unusedSimpArgs false
set_option maxRecDepth 100000
/-! dyehouse/dyehouseref01.divide -/
namespace N57
noncomputable def cfg : Cfg := { P := Try.prog, ty := tys, E := tab [], atSeq := tab [(2000009, ⟨[(0, .keep), (1, .keep), (6, .keep), (7, .keep), (8, .keep), (30, .keep)]⟩), (11, ⟨[(6, .keep), (7, .keep)]⟩), (4, ⟨[(0, .keep), (1, .keep), (6, .keep), (7, .keep), (8, .keep)]⟩)], atLoop := tab [(3, ⟨[(0, .keep), (1, .keep), (6, .keep), (7, .keep), (8, .keep)]⟩)], outs := [] }
noncomputable def body : Code := bodyOf Try.f57
def l3 (j2000009 : Int → Int → Int → Int → Int → Bool → Prop) (j11 : Int → Int → Prop) (x0 : Int) (x1 : Int) (x6 : Int) (x7 : Int) (x8 : Int) (k : Int → Int → Prop) : Prop :=
  (br (decide (x8 ≥ (0 : Int))) ((0 ≤ x8) ∧ (((2 : Int) ≠ 0) ∧ (br (decide (x7 ≥ (9223372036854775808 : Int))) (j2000009 x0 x1 (IntKind.u64.wrap ((2 : Int) * x6)) (IntKind.u64.wrap ((IntKind.u64.wrap ((2 : Int) * x7)) + (Int.tmod (Int.fdiv x0 (2 ^ min (Int.toNat x8) 64)) (2 : Int)))) x8 true) (j2000009 x0 x1 (IntKind.u64.wrap ((2 : Int) * x6)) (IntKind.u64.wrap ((IntKind.u64.wrap ((2 : Int) * x7)) + (Int.tmod (Int.fdiv x0 (2 ^ min (Int.toNat x8) 64)) (2 : Int)))) x8 (decide ((IntKind.u64.wrap ((IntKind.u64.wrap ((2 : Int) * x7)) + (Int.tmod (Int.fdiv x0 (2 ^ min (Int.toNat x8) 64)) (2 : Int)))) ≥ x1)))))) (j11 x6 x7))
def j2000009 (j4 : Int → Int → Int → Int → Int → Prop) (x0 : Int) (x1 : Int) (x6 : Int) (x7 : Int) (x8 : Int) (x30 : Bool) (k : Int → Int → Prop) : Prop :=
  (br x30 (j4 x0 x1 (IntKind.u64.wrap (x6 + (1 : Int))) (IntKind.u64.wrap (x7 - x1)) x8) (j4 x0 x1 x6 x7 x8))
def j11 (x6 : Int) (x7 : Int) (k : Int → Int → Prop) : Prop :=
  (k x6 x7)
def j4 (ag3 : Int → Int → Int → Prop) (x0 : Int) (x1 : Int) (x6 : Int) (x7 : Int) (x8 : Int) (k : Int → Int → Prop) : Prop :=
  (ag3 x6 x7 (IntKind.i64.wrap (x8 - (1 : Int))))
def c (l3 : Int → Int → Int → Int → Int → Prop) (x0 : Int) (x1 : Int) (k : Int → Int → Prop) : Prop :=
  (l3 x0 x1 (0 : Int) (0 : Int) (63 : Int))
def j11' (x6 : Int) (x7 : Int) (k : Int → Int → Prop) : Prop := j11 x6 x7 k
def j4' (ag3 : Int → Int → Int → Prop) (x0 : Int) (x1 : Int) (x6 : Int) (x7 : Int) (x8 : Int) (k : Int → Int → Prop) : Prop := j4 ag3 x0 x1 x6 x7 x8 k
def j2000009' (ag3 : Int → Int → Int → Prop) (x0 : Int) (x1 : Int) (x6 : Int) (x7 : Int) (x8 : Int) (x30 : Bool) (k : Int → Int → Prop) : Prop := j2000009 (fun x0 x1 x6 x7 x8 => j4' ag3 x0 x1 x6 x7 x8 k) x0 x1 x6 x7 x8 x30 k
def l3' (x0 : Int) (x1 : Int) (x6 : Int) (x7 : Int) (x8 : Int) (k : Int → Int → Prop) : Prop := ∃ n, loopS (fun (ag : (Int × Int × Int) → Prop) (s : Int × Int × Int) => l3 (fun x0 x1 x6 x7 x8 x30 => j2000009' (fun x6 x7 x8 => ag (x6, x7, x8)) x0 x1 x6 x7 x8 x30 k) (fun x6 x7 => j11' x6 x7 k) x0 x1 s.1 s.2.1 s.2.2 k) n (x6, x7, x8)
def f0 (x0 : Int) (x1 : Int) (k : Int → Int → Prop) : Prop := c (fun x0 x1 x6 x7 x8 => l3' x0 x1 x6 x7 x8 k) x0 x1 k
theorem f_ex : ∃ g : Int → Int → (Int → Int → Prop) → Prop, g = f0 := ⟨_, rfl⟩
noncomputable def f : Int → Int → (Int → Int → Prop) → Prop := Classical.choose f_ex
theorem f_def : f = f0 := Classical.choose_spec f_ex
def mL3 (x0 : Int) (x1 : Int) (x6 : Int) (x7 : Int) (x8 : Int) : St := { tmps := mkT 38 0 [(0, (.v (.int IntKind.u64 x0))), (1, (.v (.int IntKind.u64 x1))), (6, (.v (.int IntKind.u64 x6))), (7, (.v (.int IntKind.u64 x7))), (8, (.v (.int IntKind.i64 x8)))], hp := [], m := 0 }
def m2000009 (x0 : Int) (x1 : Int) (x6 : Int) (x7 : Int) (x8 : Int) (x30 : Bool) : St := { tmps := mkT 38 0 [(0, (.v (.int IntKind.u64 x0))), (1, (.v (.int IntKind.u64 x1))), (6, (.v (.int IntKind.u64 x6))), (7, (.v (.int IntKind.u64 x7))), (8, (.v (.int IntKind.i64 x8))), (30, (.v (.bool x30)))], hp := [], m := 0 }
def m11 (x6 : Int) (x7 : Int) : St := { tmps := mkT 38 0 [(6, (.v (.int IntKind.u64 x6))), (7, (.v (.int IntKind.u64 x7)))], hp := [], m := 0 }
def m4 (x0 : Int) (x1 : Int) (x6 : Int) (x7 : Int) (x8 : Int) : St := { tmps := mkT 38 0 [(0, (.v (.int IntKind.u64 x0))), (1, (.v (.int IntKind.u64 x1))), (6, (.v (.int IntKind.u64 x6))), (7, (.v (.int IntKind.u64 x7))), (8, (.v (.int IntKind.i64 x8)))], hp := [], m := 0 }
noncomputable def YL3 (k kp : D → List Blk → Prop) : (St → Prop) → St → Prop := loopB cfg (sub [1, 1, 0, 1, 0, 0] body) (contK cfg (pick none' []) [1, 1, 0, 1, 0] body (topK cfg Try.f57 k kp))
noncomputable def XL3 (k kp : D → List Blk → Prop) : St → Prop := fun st => ∃ n, loopN (YL3 k kp) n st
noncomputable def X2000009 (k kp : D → List Blk → Prop) (ag3 : St → Prop) : St → Prop := atP cfg (pick none' [(3, ag3)]) [1, 1, 0, 1, 0, 0, 1, 0, 0, 1, 1, 1, 1] body (topK cfg Try.f57 k kp)
noncomputable def X11 (k kp : D → List Blk → Prop) : St → Prop := atP cfg (pick none' []) [1, 1, 1] body (topK cfg Try.f57 k kp)
noncomputable def X4 (k kp : D → List Blk → Prop) (ag3 : St → Prop) : St → Prop := atP cfg (pick none' [(3, ag3)]) [1, 1, 0, 1, 0, 0, 1, 1] body (topK cfg Try.f57 k kp)
noncomputable def JJ_3 (k kp : D → List Blk → Prop) (ag3 : St → Prop) : Nat → St → Prop := pick none' [(2000009, X2000009 k kp ag3), (11, X11 k kp), (4, X4 k kp ag3)]
noncomputable def LL_3 (k kp : D → List Blk → Prop) (ag3 : St → Prop) : Nat → St → Prop := pick none' [(3, XL3 k kp)]
noncomputable def JJ (k kp : D → List Blk → Prop) : Nat → St → Prop := pick none' [(11, X11 k kp)]
noncomputable def LL (k kp : D → List Blk → Prop) : Nat → St → Prop := pick none' [(3, XL3 k kp)]
theorem j11_c (k kp : D → List Blk → Prop) (J L : Nat → St → Prop) (x6 : Int) (x7 : Int) : runC cfg 11 J L (pick none' []) [1, 1, 1] body (topK cfg Try.f57 k kp) (m11 x6 x7) = j11 x6 x7 (fun y0 y1 => k (.tup [(.v (.int IntKind.u64 y0)), (.v (.int IntKind.u64 y1))]) []) := by kernel_rfl
theorem j11_ag (k kp : D → List Blk → Prop) : agPL cfg 11 (JJ k kp) (LL k kp) [1, 1, 1] body = agPR cfg 11 (pick none' []) [1, 1, 1] body (topK cfg Try.f57 k kp) := by kernel_rfl
theorem j11_raw (k kp : D → List Blk → Prop) (x6 : Int) (x7 : Int) : X11 k kp (m11 x6 x7) = j11 x6 x7 (fun y0 y1 => k (.tup [(.v (.int IntKind.u64 y0)), (.v (.int IntKind.u64 y1))]) []) :=
  Eq.mp (by kernel_rfl) ((atP_run (j11_ag k kp) (m11 x6 x7)).trans (j11_c k kp (JJ k kp) (LL k kp) x6 x7))
theorem j11_eq (k kp : D → List Blk → Prop) (x6 : Int) (x7 : Int) : X11 k kp (m11 x6 x7) = j11' x6 x7 (fun y0 y1 => k (.tup [(.v (.int IntKind.u64 y0)), (.v (.int IntKind.u64 y1))]) []) := by
  rw [j11_raw]; rfl
theorem j4_c (k kp : D → List Blk → Prop) (J L : Nat → St → Prop) (ag3 : St → Prop) (x0 : Int) (x1 : Int) (x6 : Int) (x7 : Int) (x8 : Int) : runC cfg 4 J L (pick none' [(3, ag3)]) [1, 1, 0, 1, 0, 0, 1, 1] body (topK cfg Try.f57 k kp) (m4 x0 x1 x6 x7 x8) = j4 (fun x6 x7 x8 => ag3 (mL3 x0 x1 x6 x7 x8)) x0 x1 x6 x7 x8 (fun y0 y1 => k (.tup [(.v (.int IntKind.u64 y0)), (.v (.int IntKind.u64 y1))]) []) := by kernel_rfl
theorem j4_ag (k kp : D → List Blk → Prop) (ag3 : St → Prop) : agPL cfg 4 (JJ_3 k kp ag3) (LL_3 k kp ag3) [1, 1, 0, 1, 0, 0, 1, 1] body = agPR cfg 4 (pick none' [(3, ag3)]) [1, 1, 0, 1, 0, 0, 1, 1] body (topK cfg Try.f57 k kp) := by kernel_rfl
theorem j4_raw (k kp : D → List Blk → Prop) (ag3 : St → Prop) (x0 : Int) (x1 : Int) (x6 : Int) (x7 : Int) (x8 : Int) : X4 k kp ag3 (m4 x0 x1 x6 x7 x8) = j4 (fun x6 x7 x8 => ag3 (mL3 x0 x1 x6 x7 x8)) x0 x1 x6 x7 x8 (fun y0 y1 => k (.tup [(.v (.int IntKind.u64 y0)), (.v (.int IntKind.u64 y1))]) []) :=
  Eq.mp (by kernel_rfl) ((atP_run (j4_ag k kp ag3) (m4 x0 x1 x6 x7 x8)).trans (j4_c k kp (JJ_3 k kp ag3) (LL_3 k kp ag3) ag3 x0 x1 x6 x7 x8))
theorem j4_eq (k kp : D → List Blk → Prop) (ag3 : St → Prop) (x0 : Int) (x1 : Int) (x6 : Int) (x7 : Int) (x8 : Int) : X4 k kp ag3 (m4 x0 x1 x6 x7 x8) = j4' (fun x6 x7 x8 => ag3 (mL3 x0 x1 x6 x7 x8)) x0 x1 x6 x7 x8 (fun y0 y1 => k (.tup [(.v (.int IntKind.u64 y0)), (.v (.int IntKind.u64 y1))]) []) := by
  rw [j4_raw]; rfl
theorem j2000009_c (k kp : D → List Blk → Prop) (J L : Nat → St → Prop) (ag3 : St → Prop) (x0 : Int) (x1 : Int) (x6 : Int) (x7 : Int) (x8 : Int) (x30 : Bool) : runC cfg 2000009 J L (pick none' [(3, ag3)]) [1, 1, 0, 1, 0, 0, 1, 0, 0, 1, 1, 1, 1] body (topK cfg Try.f57 k kp) (m2000009 x0 x1 x6 x7 x8 x30) = j2000009 (fun x0 x1 x6 x7 x8 => J 4 (m4 x0 x1 x6 x7 x8)) x0 x1 x6 x7 x8 x30 (fun y0 y1 => k (.tup [(.v (.int IntKind.u64 y0)), (.v (.int IntKind.u64 y1))]) []) := by kernel_rfl
theorem j2000009_ag (k kp : D → List Blk → Prop) (ag3 : St → Prop) : agPL cfg 2000009 (JJ_3 k kp ag3) (LL_3 k kp ag3) [1, 1, 0, 1, 0, 0, 1, 0, 0, 1, 1, 1, 1] body = agPR cfg 2000009 (pick none' [(3, ag3)]) [1, 1, 0, 1, 0, 0, 1, 0, 0, 1, 1, 1, 1] body (topK cfg Try.f57 k kp) := by kernel_rfl
theorem j2000009_raw (k kp : D → List Blk → Prop) (ag3 : St → Prop) (x0 : Int) (x1 : Int) (x6 : Int) (x7 : Int) (x8 : Int) (x30 : Bool) : X2000009 k kp ag3 (m2000009 x0 x1 x6 x7 x8 x30) = j2000009 (fun x0 x1 x6 x7 x8 => X4 k kp ag3 (m4 x0 x1 x6 x7 x8)) x0 x1 x6 x7 x8 x30 (fun y0 y1 => k (.tup [(.v (.int IntKind.u64 y0)), (.v (.int IntKind.u64 y1))]) []) :=
  Eq.mp (by kernel_rfl) ((atP_run (j2000009_ag k kp ag3) (m2000009 x0 x1 x6 x7 x8 x30)).trans (j2000009_c k kp (JJ_3 k kp ag3) (LL_3 k kp ag3) ag3 x0 x1 x6 x7 x8 x30))
theorem j2000009_eq (k kp : D → List Blk → Prop) (ag3 : St → Prop) (x0 : Int) (x1 : Int) (x6 : Int) (x7 : Int) (x8 : Int) (x30 : Bool) : X2000009 k kp ag3 (m2000009 x0 x1 x6 x7 x8 x30) = j2000009' (fun x6 x7 x8 => ag3 (mL3 x0 x1 x6 x7 x8)) x0 x1 x6 x7 x8 x30 (fun y0 y1 => k (.tup [(.v (.int IntKind.u64 y0)), (.v (.int IntKind.u64 y1))]) []) := by
  rw [j2000009_raw]; simp only [j4_eq]; first | done | rfl
theorem l3_c (k kp : D → List Blk → Prop) (J L : Nat → St → Prop) (ag3 : St → Prop) (x0 : Int) (x1 : Int) (x6 : Int) (x7 : Int) (x8 : Int) : runC cfg 1000001 J L (pick none' [(3, ag3)]) [1, 1, 0, 1, 0, 0] body (topK cfg Try.f57 k kp) (mL3 x0 x1 x6 x7 x8) = l3 (fun x0 x1 x6 x7 x8 x30 => J 2000009 (m2000009 x0 x1 x6 x7 x8 x30)) (fun x6 x7 => J 11 (m11 x6 x7)) x0 x1 x6 x7 x8 (fun y0 y1 => k (.tup [(.v (.int IntKind.u64 y0)), (.v (.int IntKind.u64 y1))]) []) := by kernel_rfl
theorem l3_ag (k kp : D → List Blk → Prop) (ag3 : St → Prop) : agPL cfg 1000001 (JJ_3 k kp ag3) (LL_3 k kp ag3) [1, 1, 0, 1, 0, 0] body = agPR cfg 1000001 (pick none' [(3, ag3)]) [1, 1, 0, 1, 0, 0] body (topK cfg Try.f57 k kp) := by kernel_rfl
theorem l3_raw (k kp : D → List Blk → Prop) (ag3 : St → Prop) (x0 : Int) (x1 : Int) (x6 : Int) (x7 : Int) (x8 : Int) : YL3 k kp ag3 (mL3 x0 x1 x6 x7 x8) = l3 (fun x0 x1 x6 x7 x8 x30 => X2000009 k kp ag3 (m2000009 x0 x1 x6 x7 x8 x30)) (fun x6 x7 => X11 k kp (m11 x6 x7)) x0 x1 x6 x7 x8 (fun y0 y1 => k (.tup [(.v (.int IntKind.u64 y0)), (.v (.int IntKind.u64 y1))]) []) :=
  Eq.mp (by kernel_rfl) ((atP_run (l3_ag k kp ag3) (mL3 x0 x1 x6 x7 x8)).trans (l3_c k kp (JJ_3 k kp ag3) (LL_3 k kp ag3) ag3 x0 x1 x6 x7 x8))
theorem l3_eq (k kp : D → List Blk → Prop) (x0 : Int) (x1 : Int) (x6 : Int) (x7 : Int) (x8 : Int) : XL3 k kp (mL3 x0 x1 x6 x7 x8) = l3' x0 x1 x6 x7 x8 (fun y0 y1 => k (.tup [(.v (.int IntKind.u64 y0)), (.v (.int IntKind.u64 y1))]) []) :=
  loop_eq (mk := fun (s : Int × Int × Int) => mL3 x0 x1 s.1 s.2.1 s.2.2) (fun again s => by rw [l3_raw k kp again x0 x1 s.1 s.2.1 s.2.2]; simp only [j2000009_eq, j11_eq]; first | done | rfl) (x6, x7, x8)
theorem c_c (k kp : D → List Blk → Prop) (J L : Nat → St → Prop) (x0 : Int) (x1 : Int) : runC cfg 1000001 J L none'' [] body (topK cfg Try.f57 k kp) (st0 Try.f57 [(.v (.int IntKind.u64 x0)), (.v (.int IntKind.u64 x1))] []) = c (fun x0 x1 x6 x7 x8 => L 3 (mL3 x0 x1 x6 x7 x8)) x0 x1 (fun y0 y1 => k (.tup [(.v (.int IntKind.u64 y0)), (.v (.int IntKind.u64 y1))]) []) := by kernel_rfl
theorem c_ag (k kp : D → List Blk → Prop) : agPL cfg 1000001 (JJ k kp) (LL k kp) [] body = agPR cfg 1000001 none'' [] body (topK cfg Try.f57 k kp) := by kernel_rfl
theorem body_is : Try.f57.body = some body := by kernel_rfl
theorem c_raw (k kp : D → List Blk → Prop) (x0 : Int) (x1 : Int) : funW cfg Try.f57 [(.v (.int IntKind.u64 x0)), (.v (.int IntKind.u64 x1))] [] k kp = c (fun x0 x1 x6 x7 x8 => XL3 k kp (mL3 x0 x1 x6 x7 x8)) x0 x1 (fun y0 y1 => k (.tup [(.v (.int IntKind.u64 y0)), (.v (.int IntKind.u64 y1))]) []) :=
  Eq.mp (by kernel_rfl) ((funW_run (AG := none'') body_is (c_ag k kp) [(.v (.int IntKind.u64 x0)), (.v (.int IntKind.u64 x1))] []).trans (c_c k kp (JJ k kp) (LL k kp) x0 x1))
theorem f_eq (k kp : D → List Blk → Prop) (x0 : Int) (x1 : Int) : funW cfg Try.f57 [(.v (.int IntKind.u64 x0)), (.v (.int IntKind.u64 x1))] [] k kp = f x0 x1 (fun y0 y1 => k (.tup [(.v (.int IntKind.u64 y0)), (.v (.int IntKind.u64 y1))]) []) := by
  rw [f_def, c_raw]; simp only [l3_eq]; first | done | rfl
noncomputable def ent0 : Entry := fun args blks k _ => match args, blks with
  | [d0, d1], [] => aInt IntKind.u64 d0 fun x0 => aInt IntKind.u64 d1 fun x1 => f x0 x1 (fun y0 y1 => k (.tup [(.v (.int IntKind.u64 y0)), (.v (.int IntKind.u64 y1))]) [])
  | _, _ => False
noncomputable def ent : Entry := fun args blks k kp => ent0 (convA [none, none] args) blks k kp
theorem ok : EntOk Try.prog 0 0 57 ent := by
  refine EntOk.conv (EntOk.of (funW_ok (cfg := cfg) (tyOk_of rfl rfl tyL_ok) (eqOk_none rfl) mixed_ok (tab_ok ?_) Try.func57 (by rfl) (by rfl)) ?_) _
  · intro p hp
    cases hp
  · intro args blks k kp h k' kp'
    match args, blks, h with
    | [d0, d1], [], h =>
    dsimp only [ent0] at h
    have h9 := aInt_elim h; clear h; obtain ⟨x0, rfl, h⟩ := h9
    have h9 := aInt_elim h; clear h; obtain ⟨x1, rfl, h⟩ := h9
    exact (f_eq k' kp' x0 x1).symm
end N57
end Go.Proofs.Yt
namespace Go.Proofs.Yt
open Go Go.Aw Go.Proofs
set_option linter.unusedVariables false
set_option linter.unusedSimpArgs false
set_option maxRecDepth 100000
/-! dyehouse/dyehouseref01.size -/
namespace N58
noncomputable def cfg : Cfg := { P := Try.prog, ty := tys, E := tab [(53, N53.ent)], atSeq := tab [], atLoop := tab [], outs := [] }
noncomputable def body : Code := bodyOf Try.f58
def c (x0 : Int) (k : Int → Prop) : Prop :=
  (br (decide (x0 < (0 : Int))) (N53.f x0 (fun (y0_0 : Int) => (k (IntKind.u64.wrap y0_0)))) (k (IntKind.u64.wrap x0)))
def f0 (x0 : Int) (k : Int → Prop) : Prop := c x0 k
theorem f_ex : ∃ g : Int → (Int → Prop) → Prop, g = f0 := ⟨_, rfl⟩
noncomputable def f : Int → (Int → Prop) → Prop := Classical.choose f_ex
theorem f_def : f = f0 := Classical.choose_spec f_ex
noncomputable def JJ (k kp : D → List Blk → Prop) : Nat → St → Prop := pick none' []
noncomputable def LL (k kp : D → List Blk → Prop) : Nat → St → Prop := pick none' []
theorem c_c (k kp : D → List Blk → Prop) (J L : Nat → St → Prop) (x0 : Int) : runC cfg 1000001 J L none'' [] body (topK cfg Try.f58 k kp) (st0 Try.f58 [(.v (.int IntKind.i64 x0))] []) = c x0 (fun y0 => k (.v (.int IntKind.u64 y0)) []) := by kernel_rfl
theorem c_ag (k kp : D → List Blk → Prop) : agPL cfg 1000001 (JJ k kp) (LL k kp) [] body = agPR cfg 1000001 none'' [] body (topK cfg Try.f58 k kp) := by kernel_rfl
theorem body_is : Try.f58.body = some body := by kernel_rfl
theorem c_raw (k kp : D → List Blk → Prop) (x0 : Int) : funW cfg Try.f58 [(.v (.int IntKind.i64 x0))] [] k kp = c x0 (fun y0 => k (.v (.int IntKind.u64 y0)) []) :=
  Eq.mp (by kernel_rfl) ((funW_run (AG := none'') body_is (c_ag k kp) [(.v (.int IntKind.i64 x0))] []).trans (c_c k kp (JJ k kp) (LL k kp) x0))
theorem f_eq (k kp : D → List Blk → Prop) (x0 : Int) : funW cfg Try.f58 [(.v (.int IntKind.i64 x0))] [] k kp = f x0 (fun y0 => k (.v (.int IntKind.u64 y0)) []) := by
  rw [f_def, c_raw]; rfl
noncomputable def ent0 : Entry := fun args blks k _ => match args, blks with
  | [d0], [] => aInt IntKind.i64 d0 fun x0 => f x0 (fun y0 => k (.v (.int IntKind.u64 y0)) [])
  | _, _ => False
noncomputable def ent : Entry := fun args blks k kp => ent0 (convA [none] args) blks k kp
theorem ok : EntOk Try.prog 0 0 58 ent := by
  refine EntOk.conv (EntOk.of (funW_ok (cfg := cfg) (tyOk_of rfl rfl tyL_ok) (eqOk_none rfl) mixed_ok (tab_ok ?_) Try.func58 (by rfl) (by rfl)) ?_) _
  · intro p hp
    simp only [List.mem_cons, List.not_mem_nil, or_false] at hp
    rcases hp with rfl
    · exact N53.ok
  · intro args blks k kp h k' kp'
    match args, blks, h with
    | [d0], [], h =>
    dsimp only [ent0] at h
    have h9 := aInt_elim h; clear h; obtain ⟨x0, rfl, h⟩ := h9
    exact (f_eq k' kp' x0).symm
end N58
end Go.Proofs.Yt
namespace Go.Proofs.Yt
open Go Go.Aw Go.Proofs
set_option linter.unusedVariables false
set_option linter.unusedSimpArgs false
set_option maxRecDepth 100000
/-! dyehouse/dyehouseref01.flag -/
namespace N59
noncomputable def cfg : Cfg := { P := Try.prog, ty := tys, E := tab [], atSeq := tab [], atLoop := tab [], outs := [] }
noncomputable def body : Code := bodyOf Try.f59
def c (x0 : Bool) (k : Int → Prop) : Prop :=
  (br x0 (k (1 : Int)) (k (0 : Int)))
def f0 (x0 : Bool) (k : Int → Prop) : Prop := c x0 k
theorem f_ex : ∃ g : Bool → (Int → Prop) → Prop, g = f0 := ⟨_, rfl⟩
noncomputable def f : Bool → (Int → Prop) → Prop := Classical.choose f_ex
theorem f_def : f = f0 := Classical.choose_spec f_ex
noncomputable def JJ (k kp : D → List Blk → Prop) : Nat → St → Prop := pick none' []
noncomputable def LL (k kp : D → List Blk → Prop) : Nat → St → Prop := pick none' []
theorem c_c (k kp : D → List Blk → Prop) (J L : Nat → St → Prop) (x0 : Bool) : runC cfg 1000001 J L none'' [] body (topK cfg Try.f59 k kp) (st0 Try.f59 [(.v (.bool x0))] []) = c x0 (fun y0 => k (.v (.int IntKind.i64 y0)) []) := by kernel_rfl
theorem c_ag (k kp : D → List Blk → Prop) : agPL cfg 1000001 (JJ k kp) (LL k kp) [] body = agPR cfg 1000001 none'' [] body (topK cfg Try.f59 k kp) := by kernel_rfl
theorem body_is : Try.f59.body = some body := by kernel_rfl
theorem c_raw (k kp : D → List Blk → Prop) (x0 : Bool) : funW cfg Try.f59 [(.v (.bool x0))] [] k kp = c x0 (fun y0 => k (.v (.int IntKind.i64 y0)) []) :=
  Eq.mp (by kernel_rfl) ((funW_run (AG := none'') body_is (c_ag k kp) [(.v (.bool x0))] []).trans (c_c k kp (JJ k kp) (LL k kp) x0))
theorem f_eq (k kp : D → List Blk → Prop) (x0 : Bool) : funW cfg Try.f59 [(.v (.bool x0))] [] k kp = f x0 (fun y0 => k (.v (.int IntKind.i64 y0)) []) := by
  rw [f_def, c_raw]; rfl
noncomputable def ent0 : Entry := fun args blks k _ => match args, blks with
  | [d0], [] => aBool d0 fun x0 => f x0 (fun y0 => k (.v (.int IntKind.i64 y0)) [])
  | _, _ => False
noncomputable def ent : Entry := fun args blks k kp => ent0 (convA [none] args) blks k kp
theorem ok : EntOk Try.prog 0 0 59 ent := by
  refine EntOk.conv (EntOk.of (funW_ok (cfg := cfg) (tyOk_of rfl rfl tyL_ok) (eqOk_none rfl) mixed_ok (tab_ok ?_) Try.func59 (by rfl) (by rfl)) ?_) _
  · intro p hp
    cases hp
  · intro args blks k kp h k' kp'
    match args, blks, h with
    | [d0], [], h =>
    dsimp only [ent0] at h
    have h9 := aBool_elim h; clear h; obtain ⟨x0, rfl, h⟩ := h9
    exact (f_eq k' kp' x0).symm
end N59
end Go.Proofs.Yt
namespace Go.Proofs.Yt
open Go Go.Aw Go.Proofs
set_option linter.unusedVariables false
set_option linter.unusedSimpArgs false
set_option maxRecDepth 100000
/-! dyehouse/dyehouseref01.less -/
namespace N60
noncomputable def cfg : Cfg := { P := Try.prog, ty := tys, E := tab [(64, N64.ent)], atSeq := tab [(9, ⟨[]⟩)], atLoop := tab [(5, ⟨[(5, .keep), (6, .keep), (7, .keep)]⟩)], outs := [] }
noncomputable def body : Code := bodyOf Try.f60
def l5 (j9 : Prop) (ag5 : Int → (List Bool) → (List Bool) → Prop) (x7 : Int) (b0 : (List Bool)) (b1 : (List Bool)) (k : Bool → Prop) : Prop :=
  (br (decide (x7 ≥ (0 : Int))) ((inB 0 x7 (((64 : Nat) : Int) - 1)) ∧ ((inB 0 x7 (((64 : Nat) : Int) - 1)) ∧ (br (!((b0.getD (Int.toNat x7) (false)) == (b1.getD (Int.toNat x7) (false)))) ((inB 0 x7 (((64 : Nat) : Int) - 1)) ∧ (k (b1.getD (Int.toNat x7) (false)))) (ag5 (IntKind.i64.wrap (x7 - (1 : Int))) b0 b1)))) (j9))
def j9 (k : Bool → Prop) : Prop :=
  (k false)
def c (l5 : Int → (List Bool) → (List Bool) → Prop) (x0 : Int) (x1 : Int) (k : Bool → Prop) : Prop :=
  (N64.f x0 (fun (y0_0 : (List Bool)) => (N64.f x1 (fun (y0_1 : (List Bool)) => ((inB 0 (63 : Int) (((64 : Nat) : Int) - 1)) ∧ ((inB 0 (63 : Int) (((64 : Nat) : Int) - 1)) ∧ (br (!((y0_0.getD (Int.toNat (63 : Int)) (false)) == (y0_1.getD (Int.toNat (63 : Int)) (false)))) ((inB 0 (63 : Int) (((64 : Nat) : Int) - 1)) ∧ (k (y0_0.getD (Int.toNat (63 : Int)) (false)))) (l5 (62 : Int) y0_0 y0_1))))))))
def j9' (k : Bool → Prop) : Prop := j9 k
def l5' (x7 : Int) (b0 : (List Bool)) (b1 : (List Bool)) (k : Bool → Prop) : Prop := ∃ n, loopS (fun (ag : (Int × (List Bool) × (List Bool)) → Prop) (s : Int × (List Bool) × (List Bool)) => l5 (j9' k) (fun x7 b0 b1 => ag (x7, b0, b1)) s.1 s.2.1 s.2.2 k) n (x7, b0, b1)
def f0 (x0 : Int) (x1 : Int) (k : Bool → Prop) : Prop := c (fun x7 b0 b1 => l5' x7 b0 b1 k) x0 x1 k
theorem f_ex : ∃ g : Int → Int → (Bool → Prop) → Prop, g = f0 := ⟨_, rfl⟩
noncomputable def f : Int → Int → (Bool → Prop) → Prop := Classical.choose f_ex
theorem f_def : f = f0 := Classical.choose_spec f_ex
def mL5 (x7 : Int) (b0 : (List Bool)) (b1 : (List Bool)) : St := { tmps := mkT 33 0 [(5, (.ptr 0 0)), (6, (.ptr 1 0)), (7, (.v (.int IntKind.i64 x7)))], hp := [(.arr 70 64 Ty.bool b0 false), (.arr 70 64 Ty.bool b1 false)], m := 0 }
def m9 : St := { tmps := mkT 33 0 [], hp := [], m := 0 }
noncomputable def YL5 (k kp : D → List Blk → Prop) : (St → Prop) → St → Prop := loopB cfg (sub [1, 1, 1, 0, 1, 0, 0] body) (contK cfg (pick none' []) [1, 1, 1, 0, 1, 0] body (topK cfg Try.f60 k kp))
noncomputable def XL5 (k kp : D → List Blk → Prop) : St → Prop := fun st => ∃ n, loopN (YL5 k kp) n st
noncomputable def X9 (k kp : D → List Blk → Prop) : St → Prop := atP cfg (pick none' []) [1, 1, 1, 1] body (topK cfg Try.f60 k kp)
noncomputable def JJ_5 (k kp : D → List Blk → Prop) (ag5 : St → Prop) : Nat → St → Prop := pick none' [(9, X9 k kp)]
noncomputable def LL_5 (k kp : D → List Blk → Prop) (ag5 : St → Prop) : Nat → St → Prop := pick none' [(5, XL5 k kp)]
noncomputable def JJ (k kp : D → List Blk → Prop) : Nat → St → Prop := pick none' [(9, X9 k kp)]
noncomputable def LL (k kp : D → List Blk → Prop) : Nat → St → Prop := pick none' [(5, XL5 k kp)]
theorem j9_c (k kp : D → List Blk → Prop) (J L : Nat → St → Prop) : runC cfg 9 J L (pick none' []) [1, 1, 1, 1] body (topK cfg Try.f60 k kp) (m9) = j9 (fun y0 => k (.v (.bool y0)) []) := by kernel_rfl
theorem j9_ag (k kp : D → List Blk → Prop) : agPL cfg 9 (JJ k kp) (LL k kp) [1, 1, 1, 1] body = agPR cfg 9 (pick none' []) [1, 1, 1, 1] body (topK cfg Try.f60 k kp) := by kernel_rfl
theorem j9_raw (k kp : D → List Blk → Prop) : X9 k kp (m9) = j9 (fun y0 => k (.v (.bool y0)) []) :=
  Eq.mp (by kernel_rfl) ((atP_run (j9_ag k kp) (m9)).trans (j9_c k kp (JJ k kp) (LL k kp)))
theorem j9_eq (k kp : D → List Blk → Prop) : X9 k kp (m9) = j9' (fun y0 => k (.v (.bool y0)) []) := by
  rw [j9_raw]; rfl
theorem l5_c (k kp : D → List Blk → Prop) (J L : Nat → St → Prop) (ag5 : St → Prop) (x7 : Int) (b0 : (List Bool)) (b1 : (List Bool)) : runC cfg 1000001 J L (pick none' [(5, ag5)]) [1, 1, 1, 0, 1, 0, 0] body (topK cfg Try.f60 k kp) (mL5 x7 b0 b1) = l5 (J 9 (m9)) (fun x7 b0 b1 => ag5 (mL5 x7 b0 b1)) x7 b0 b1 (fun y0 => k (.v (.bool y0)) []) := by kernel_rfl
theorem l5_ag (k kp : D → List Blk → Prop) (ag5 : St → Prop) : agPL cfg 1000001 (JJ_5 k kp ag5) (LL_5 k kp ag5) [1, 1, 1, 0, 1, 0, 0] body = agPR cfg 1000001 (pick none' [(5, ag5)]) [1, 1, 1, 0, 1, 0, 0] body (topK cfg Try.f60 k kp) := by kernel_rfl
theorem l5_raw (k kp : D → List Blk → Prop) (ag5 : St → Prop) (x7 : Int) (b0 : (List Bool)) (b1 : (List Bool)) : YL5 k kp ag5 (mL5 x7 b0 b1) = l5 (X9 k kp (m9)) (fun x7 b0 b1 => ag5 (mL5 x7 b0 b1)) x7 b0 b1 (fun y0 => k (.v (.bool y0)) []) :=
  Eq.mp (by kernel_rfl) ((atP_run (l5_ag k kp ag5) (mL5 x7 b0 b1)).trans (l5_c k kp (JJ_5 k kp ag5) (LL_5 k kp ag5) ag5 x7 b0 b1))
theorem l5_eq (k kp : D → List Blk → Prop) (x7 : Int) (b0 : (List Bool)) (b1 : (List Bool)) : XL5 k kp (mL5 x7 b0 b1) = l5' x7 b0 b1 (fun y0 => k (.v (.bool y0)) []) :=
  loop_eq (mk := fun (s : Int × (List Bool) × (List Bool)) => mL5 s.1 s.2.1 s.2.2) (fun again s => by rw [l5_raw k kp again s.1 s.2.1 s.2.2]; simp only [j9_eq]; first | done | rfl) (x7, b0, b1)
theorem c_c (k kp : D → List Blk → Prop) (J L : Nat → St → Prop) (x0 : Int) (x1 : Int) : runC cfg 1000001 J L none'' [] body (topK cfg Try.f60 k kp) (st0 Try.f60 [(.v (.int IntKind.i64 x0)), (.v (.int IntKind.i64 x1))] []) = c (fun x7 b0 b1 => L 5 (mL5 x7 b0 b1)) x0 x1 (fun y0 => k (.v (.bool y0)) []) := by kernel_rfl
theorem c_ag (k kp : D → List Blk → Prop) : agPL cfg 1000001 (JJ k kp) (LL k kp) [] body = agPR cfg 1000001 none'' [] body (topK cfg Try.f60 k kp) := by kernel_rfl
theorem body_is : Try.f60.body = some body := by kernel_rfl
theorem c_raw (k kp : D → List Blk → Prop) (x0 : Int) (x1 : Int) : funW cfg Try.f60 [(.v (.int IntKind.i64 x0)), (.v (.int IntKind.i64 x1))] [] k kp = c (fun x7 b0 b1 => XL5 k kp (mL5 x7 b0 b1)) x0 x1 (fun y0 => k (.v (.bool y0)) []) :=
  Eq.mp (by kernel_rfl) ((funW_run (AG := none'') body_is (c_ag k kp) [(.v (.int IntKind.i64 x0)), (.v (.int IntKind.i64 x1))] []).trans (c_c k kp (JJ k kp) (LL k kp) x0 x1))
theorem f_eq (k kp : D → List Blk → Prop) (x0 : Int) (x1 : Int) : funW cfg Try.f60 [(.v (.int IntKind.i64 x0)), (.v (.int IntKind.i64 x1))] [] k kp = f x0 x1 (fun y0 => k (.v (.bool y0)) []) := by
  rw [f_def, c_raw]; simp only [l5_eq]; first | done | rfl
noncomputable def ent0 : Entry := fun args blks k _ => match args, blks with
  | [d0, d1], [] => aInt IntKind.i64 d0 fun x0 => aInt IntKind.i64 d1 fun x1 => f x0 x1 (fun y0 => k (.v (.bool y0)) [])
  | _, _ => False
noncomputable def ent : Entry := fun args blks k kp => ent0 (convA [none, none] args) blks k kp
theorem ok : EntOk Try.prog 0 0 60 ent := by
  refine EntOk.conv (EntOk.of (funW_ok (cfg := cfg) (tyOk_of rfl rfl tyL_ok) (eqOk_none rfl) mixed_ok (tab_ok ?_) Try.func60 (by rfl) (by rfl)) ?_) _
  · intro p hp
    simp only [List.mem_cons, List.not_mem_nil, or_false] at hp
    rcases hp with rfl
    · exact N64.ok
  · intro args blks k kp h k' kp'
    match args, blks, h with
    | [d0, d1], [], h =>
    dsimp only [ent0] at h
    have h9 := aInt_elim h; clear h; obtain ⟨x0, rfl, h⟩ := h9
    have h9 := aInt_elim h; clear h; obtain ⟨x1, rfl, h⟩ := h9
    exact (f_eq k' kp' x0 x1).symm
end N60
end Go.Proofs.Yt
namespace Go.Proofs.Yt
open Go Go.Aw Go.Proofs
set_option linter.unusedVariables false
set_option linter.unusedSimpArgs false
set_option maxRecDepth 100000
/-! dyehouse/dyehouseref01.Do -/
namespace N26
noncomputable def cfg : Cfg := { P := Try.prog, ty := tys, E := tab [(52, N52.ent), (53, N53.ent), (54, N54.ent), (55, N55.ent), (56, N56.ent), (58, N58.ent), (57, N57.ent), (60, N60.ent), (59, N59.ent)], atSeq := tab [(2000011, ⟨[(0, .keep), (1, .keep), (2, .keep), (11, .keep), (28, .keep)]⟩), (2000015, ⟨[(0, .keep), (1, .keep), (2, .keep), (11, .keep), (38, .keep)]⟩), (2000018, ⟨[(0, .keep), (1, .keep), (2, .keep), (11, .keep), (46, .keep)]⟩), (28, ⟨[(10, .keep)]⟩), (37, ⟨[]⟩)], atLoop := tab [], outs := [] }
noncomputable def body : Code := bodyOf Try.f26
def j2000011 (j2000015 : Int → Int → Int → Int → Bool → Prop) (x0 : Int) (x1 : Int) (x2 : Int) (x11 : Int) (x28 : Bool) (k : Int → Bool → Prop) : Prop :=
  (br x28 (N55.f (IntKind.i64.wrap ((IntKind.i64.wrap (x0 - (4 : Int))) + (1 : Int))) x1 x2 (fun (y0_4 : Int) => (k y0_4 true))) (br (x11 == (7 : Int)) (j2000015 x0 x1 x2 x11 (x11 == (7 : Int))) (br (x11 == (8 : Int)) (j2000015 x0 x1 x2 x11 (x11 == (8 : Int))) (j2000015 x0 x1 x2 x11 (x11 == (9 : Int))))))
def j2000015 (j2000018 : Int → Int → Int → Int → Bool → Prop) (x0 : Int) (x1 : Int) (x2 : Int) (x11 : Int) (x38 : Bool) (k : Int → Bool → Prop) : Prop :=
  (br x38 (N56.f x0 x1 x2 (fun (y0_5 : Int) => (k y0_5 true))) (br (x11 == (10 : Int)) (j2000018 x0 x1 x2 x11 (x11 == (10 : Int))) (j2000018 x0 x1 x2 x11 (x11 == (11 : Int)))))
def j2000018 (j28 : Int → Prop) (j37 : Prop) (x0 : Int) (x1 : Int) (x2 : Int) (x11 : Int) (x46 : Bool) (k : Int → Bool → Prop) : Prop :=
  (br x46 (br (x2 == (0 : Int)) (k (0 : Int) false) (N58.f x1 (fun (y0_6 : Int) => (N58.f x2 (fun (y0_7 : Int) => (N57.f y0_6 y0_7 (fun (y0_8 : Int) (y1_8 : Int) => (br (x0 == (10 : Int)) (br (!((decide (x1 < (0 : Int))) == (decide (x2 < (0 : Int))))) (N53.f (IntKind.i64.wrap y0_8) (fun (y0_9 : Int) => (j28 y0_9))) (j28 (IntKind.i64.wrap y0_8))) (br (decide (x1 < (0 : Int))) (N53.f (IntKind.i64.wrap y1_8) (fun (y0_10 : Int) => (j28 y0_10))) (j28 (IntKind.i64.wrap y1_8))))))))))) (br (x11 == (12 : Int)) (N60.f x1 x2 (fun (y0_11 : Bool) => (br (!y0_11) (N60.f x2 x1 (fun (y0_12 : Bool) => (N59.f (!y0_12) (fun (y0_13 : Int) => (k y0_13 true))))) (N59.f false (fun (y0_14 : Int) => (k y0_14 true)))))) (br (x11 == (13 : Int)) (N60.f x1 x2 (fun (y0_15 : Bool) => (br y0_15 (N59.f true (fun (y0_16 : Int) => (k y0_16 true))) (N60.f x2 x1 (fun (y0_17 : Bool) => (N59.f y0_17 (fun (y0_18 : Int) => (k y0_18 true)))))))) (br (x11 == (14 : Int)) (N60.f x1 x2 (fun (y0_19 : Bool) => (N59.f y0_19 (fun (y0_20 : Int) => (k y0_20 true))))) (br (x11 == (15 : Int)) (N60.f x2 x1 (fun (y0_21 : Bool) => (N59.f (!y0_21) (fun (y0_22 : Int) => (k y0_22 true))))) (j37))))))
def j28 (x10 : Int) (k : Int → Bool → Prop) : Prop :=
  (k x10 true)
def j37 (k : Int → Bool → Prop) : Prop :=
  (k (0 : Int) false)
def c (j2000011 : Int → Int → Int → Int → Bool → Prop) (x0 : Int) (x1 : Int) (x2 : Int) (k : Int → Bool → Prop) : Prop :=
  (br (x0 == (1 : Int)) (N52.f x1 x2 (fun (y0_0 : Int) => (k y0_0 true))) (br (x0 == (2 : Int)) (N53.f x2 (fun (y0_1 : Int) => (N52.f x1 y0_1 (fun (y0_2 : Int) => (k y0_2 true))))) (br (x0 == (3 : Int)) (N54.f x1 x2 (fun (y0_3 : Int) => (k y0_3 true))) (br (x0 == (4 : Int)) (j2000011 x0 x1 x2 x0 (x0 == (4 : Int))) (br (x0 == (5 : Int)) (j2000011 x0 x1 x2 x0 (x0 == (5 : Int))) (j2000011 x0 x1 x2 x0 (x0 == (6 : Int))))))))
def j28' (x10 : Int) (k : Int → Bool → Prop) : Prop := j28 x10 k
def j37' (k : Int → Bool → Prop) : Prop := j37 k
def j2000018' (x0 : Int) (x1 : Int) (x2 : Int) (x11 : Int) (x46 : Bool) (k : Int → Bool → Prop) : Prop := j2000018 (fun x10 => j28' x10 k) (j37' k) x0 x1 x2 x11 x46 k
def j2000015' (x0 : Int) (x1 : Int) (x2 : Int) (x11 : Int) (x38 : Bool) (k : Int → Bool → Prop) : Prop := j2000015 (fun x0 x1 x2 x11 x46 => j2000018' x0 x1 x2 x11 x46 k) x0 x1 x2 x11 x38 k
def j2000011' (x0 : Int) (x1 : Int) (x2 : Int) (x11 : Int) (x28 : Bool) (k : Int → Bool → Prop) : Prop := j2000011 (fun x0 x1 x2 x11 x38 => j2000015' x0 x1 x2 x11 x38 k) x0 x1 x2 x11 x28 k
def f0 (x0 : Int) (x1 : Int) (x2 : Int) (k : Int → Bool → Prop) : Prop := c (fun x0 x1 x2 x11 x28 => j2000011' x0 x1 x2 x11 x28 k) x0 x1 x2 k
theorem f_ex : ∃ g : Int → Int → Int → (Int → Bool → Prop) → Prop, g = f0 := ⟨_, rfl⟩
noncomputable def f : Int → Int → Int → (Int → Bool → Prop) → Prop := Classical.choose f_ex
theorem f_def : f = f0 := Classical.choose_spec f_ex
def m2000011 (x0 : Int) (x1 : Int) (x2 : Int) (x11 : Int) (x28 : Bool) : St := { tmps := mkT 114 0 [(0, (.v (.int IntKind.i64 x0))), (1, (.v (.int IntKind.i64 x1))), (2, (.v (.int IntKind.i64 x2))), (11, (.v (.int IntKind.i64 x11))), (28, (.v (.bool x28)))], hp := [], m := 0 }
def m2000015 (x0 : Int) (x1 : Int) (x2 : Int) (x11 : Int) (x38 : Bool) : St := { tmps := mkT 114 0 [(0, (.v (.int IntKind.i64 x0))), (1, (.v (.int IntKind.i64 x1))), (2, (.v (.int IntKind.i64 x2))), (11, (.v (.int IntKind.i64 x11))), (38, (.v (.bool x38)))], hp := [], m := 0 }
def m2000018 (x0 : Int) (x1 : Int) (x2 : Int) (x11 : Int) (x46 : Bool) : St := { tmps := mkT 114 0 [(0, (.v (.int IntKind.i64 x0))), (1, (.v (.int IntKind.i64 x1))), (2, (.v (.int IntKind.i64 x2))), (11, (.v (.int IntKind.i64 x11))), (46, (.v (.bool x46)))], hp := [], m := 0 }
def m28 (x10 : Int) : St := { tmps := mkT 114 0 [(10, (.v (.int IntKind.i64 x10)))], hp := [], m := 0 }
def m37 : St := { tmps := mkT 114 0 [], hp := [], m := 0 }
noncomputable def X2000011 (k kp : D → List Blk → Prop) : St → Prop := atP cfg (pick none' []) [1, 0, 1, 0, 1, 1, 1, 1, 1, 1, 1] body (topK cfg Try.f26 k kp)
noncomputable def X2000015 (k kp : D → List Blk → Prop) : St → Prop := atP cfg (pick none' []) [1, 0, 1, 0, 1, 1, 1, 1, 1, 1, 1, 1, 1] body (topK cfg Try.f26 k kp)
noncomputable def X2000018 (k kp : D → List Blk → Prop) : St → Prop := atP cfg (pick none' []) [1, 0, 1, 0, 1, 1, 1, 1, 1, 1, 1, 1, 1, 1, 1] body (topK cfg Try.f26 k kp)
noncomputable def X28 (k kp : D → List Blk → Prop) : St → Prop := atP cfg (pick none' []) [1, 0, 1, 0, 1, 1, 1, 1, 1, 1, 1, 1, 1, 1, 1, 0, 1, 1, 1, 1] body (topK cfg Try.f26 k kp)
noncomputable def X37 (k kp : D → List Blk → Prop) : St → Prop := atP cfg (pick none' []) [1, 1] body (topK cfg Try.f26 k kp)
noncomputable def JJ (k kp : D → List Blk → Prop) : Nat → St → Prop := pick none' [(2000011, X2000011 k kp), (2000015, X2000015 k kp), (2000018, X2000018 k kp), (28, X28 k kp), (37, X37 k kp)]
noncomputable def LL (k kp : D → List Blk → Prop) : Nat → St → Prop := pick none' []
theorem j28_c (k kp : D → List Blk → Prop) (J L : Nat → St → Prop) (x10 : Int) : runC cfg 28 J L (pick none' []) [1, 0, 1, 0, 1, 1, 1, 1, 1, 1, 1, 1, 1, 1, 1, 0, 1, 1, 1, 1] body (topK cfg Try.f26 k kp) (m28 x10) = j28 x10 (fun y0 y1 => k (.tup [(.v (.int IntKind.i64 y0)), (.v (.bool y1))]) []) := by kernel_rfl
theorem j28_ag (k kp : D → List Blk → Prop) : agPL cfg 28 (JJ k kp) (LL k kp) [1, 0, 1, 0, 1, 1, 1, 1, 1, 1, 1, 1, 1, 1, 1, 0, 1, 1, 1, 1] body = agPR cfg 28 (pick none' []) [1, 0, 1, 0, 1, 1, 1, 1, 1, 1, 1, 1, 1, 1, 1, 0, 1, 1, 1, 1] body (topK cfg Try.f26 k kp) := by kernel_rfl
theorem j28_raw (k kp : D → List Blk → Prop) (x10 : Int) : X28 k kp (m28 x10) = j28 x10 (fun y0 y1 => k (.tup [(.v (.int IntKind.i64 y0)), (.v (.bool y1))]) []) :=
  Eq.mp (by kernel_rfl) ((atP_run (j28_ag k kp) (m28 x10)).trans (j28_c k kp (JJ k kp) (LL k kp) x10))
theorem j28_eq (k kp : D → List Blk → Prop) (x10 : Int) : X28 k kp (m28 x10) = j28' x10 (fun y0 y1 => k (.tup [(.v (.int IntKind.i64 y0)), (.v (.bool y1))]) []) := by
  rw [j28_raw]; rfl
theorem j37_c (k kp : D → List Blk → Prop) (J L : Nat → St → Prop) : runC cfg 37 J L (pick none' []) [1, 1] body (topK cfg Try.f26 k kp) (m37) = j37 (fun y0 y1 => k (.tup [(.v (.int IntKind.i64 y0)), (.v (.bool y1))]) []) := by kernel_rfl
theorem j37_ag (k kp : D → List Blk → Prop) : agPL cfg 37 (JJ k kp) (LL k kp) [1, 1] body = agPR cfg 37 (pick none' []) [1, 1] body (topK cfg Try.f26 k kp) := by kernel_rfl
theorem j37_raw (k kp : D → List Blk → Prop) : X37 k kp (m37) = j37 (fun y0 y1 => k (.tup [(.v (.int IntKind.i64 y0)), (.v (.bool y1))]) []) :=
  Eq.mp (by kernel_rfl) ((atP_run (j37_ag k kp) (m37)).trans (j37_c k kp (JJ k kp) (LL k kp)))
theorem j37_eq (k kp : D → List Blk → Prop) : X37 k kp (m37) = j37' (fun y0 y1 => k (.tup [(.v (.int IntKind.i64 y0)), (.v (.bool y1))]) []) := by
  rw [j37_raw]; rfl
theorem j2000018_c (k kp : D → List Blk → Prop) (J L : Nat → St → Prop) (x0 : Int) (x1 : Int) (x2 : Int) (x11 : Int) (x46 : Bool) : runC cfg 2000018 J L (pick none' []) [1, 0, 1, 0, 1, 1, 1, 1, 1, 1, 1, 1, 1, 1, 1] body (topK cfg Try.f26 k kp) (m2000018 x0 x1 x2 x11 x46) = j2000018 (fun x10 => J 28 (m28 x10)) (J 37 (m37)) x0 x1 x2 x11 x46 (fun y0 y1 => k (.tup [(.v (.int IntKind.i64 y0)), (.v (.bool y1))]) []) := by kernel_rfl
theorem j2000018_ag (k kp : D → List Blk → Prop) : agPL cfg 2000018 (JJ k kp) (LL k kp) [1, 0, 1, 0, 1, 1, 1, 1, 1, 1, 1, 1, 1, 1, 1] body = agPR cfg 2000018 (pick none' []) [1, 0, 1, 0, 1, 1, 1, 1, 1, 1, 1, 1, 1, 1, 1] body (topK cfg Try.f26 k kp) := by kernel_rfl
theorem j2000018_raw (k kp : D → List Blk → Prop) (x0 : Int) (x1 : Int) (x2 : Int) (x11 : Int) (x46 : Bool) : X2000018 k kp (m2000018 x0 x1 x2 x11 x46) = j2000018 (fun x10 => X28 k kp (m28 x10)) (X37 k kp (m37)) x0 x1 x2 x11 x46 (fun y0 y1 => k (.tup [(.v (.int IntKind.i64 y0)), (.v (.bool y1))]) []) :=
  Eq.mp (by kernel_rfl) ((atP_run (j2000018_ag k kp) (m2000018 x0 x1 x2 x11 x46)).trans (j2000018_c k kp (JJ k kp) (LL k kp) x0 x1 x2 x11 x46))
theorem j2000018_eq (k kp : D → List Blk → Prop) (x0 : Int) (x1 : Int) (x2 : Int) (x11 : Int) (x46 : Bool) : X2000018 k kp (m2000018 x0 x1 x2 x11 x46) = j2000018' x0 x1 x2 x11 x46 (fun y0 y1 => k (.tup [(.v (.int IntKind.i64 y0)), (.v (.bool y1))]) []) := by
  rw [j2000018_raw]; simp only [j28_eq, j37_eq]; first | done | rfl
theorem j2000015_c (k kp : D → List Blk → Prop) (J L : Nat → St → Prop) (x0 : Int) (x1 : Int) (x2 : Int) (x11 : Int) (x38 : Bool) : runC cfg 2000015 J L (pick none' []) [1, 0, 1, 0, 1, 1, 1, 1, 1, 1, 1, 1, 1] body (topK cfg Try.f26 k kp) (m2000015 x0 x1 x2 x11 x38) = j2000015 (fun x0 x1 x2 x11 x46 => J 2000018 (m2000018 x0 x1 x2 x11 x46)) x0 x1 x2 x11 x38 (fun y0 y1 => k (.tup [(.v (.int IntKind.i64 y0)), (.v (.bool y1))]) []) := by kernel_rfl
theorem j2000015_ag (k kp : D → List Blk → Prop) : agPL cfg 2000015 (JJ k kp) (LL k kp) [1, 0, 1, 0, 1, 1, 1, 1, 1, 1, 1, 1, 1] body = agPR cfg 2000015 (pick none' []) [1, 0, 1, 0, 1, 1, 1, 1, 1, 1, 1, 1, 1] body (topK cfg Try.f26 k kp) := by kernel_rfl
theorem j2000015_raw (k kp : D → List Blk → Prop) (x0 : Int) (x1 : Int) (x2 : Int) (x11 : Int) (x38 : Bool) : X2000015 k kp (m2000015 x0 x1 x2 x11 x38) = j2000015 (fun x0 x1 x2 x11 x46 => X2000018 k kp (m2000018 x0 x1 x2 x11 x46)) x0 x1 x2 x11 x38 (fun y0 y1 => k (.tup [(.v (.int IntKind.i64 y0)), (.v (.bool y1))]) []) :=
  Eq.mp (by kernel_rfl) ((atP_run (j2000015_ag k kp) (m2000015 x0 x1 x2 x11 x38)).trans (j2000015_c k kp (JJ k kp) (LL k kp) x0 x1 x2 x11 x38))
theorem j2000015_eq (k kp : D → List Blk → Prop) (x0 : Int) (x1 : Int) (x2 : Int) (x11 : Int) (x38 : Bool) : X2000015 k kp (m2000015 x0 x1 x2 x11 x38) = j2000015' x0 x1 x2 x11 x38 (fun y0 y1 => k (.tup [(.v (.int IntKind.i64 y0)), (.v (.bool y1))]) []) := by
  rw [j2000015_raw]; simp only [j2000018_eq]; first | done | rfl
theorem j2000011_c (k kp : D → List Blk → Prop) (J L : Nat → St → Prop) (x0 : Int) (x1 : Int) (x2 : Int) (x11 : Int) (x28 : Bool) : runC cfg 2000011 J L (pick none' []) [1, 0, 1, 0, 1, 1, 1, 1, 1, 1, 1] body (topK cfg Try.f26 k kp) (m2000011 x0 x1 x2 x11 x28) = j2000011 (fun x0 x1 x2 x11 x38 => J 2000015 (m2000015 x0 x1 x2 x11 x38)) x0 x1 x2 x11 x28 (fun y0 y1 => k (.tup [(.v (.int IntKind.i64 y0)), (.v (.bool y1))]) []) := by kernel_rfl
theorem j2000011_ag (k kp : D → List Blk → Prop) : agPL cfg 2000011 (JJ k kp) (LL k kp) [1, 0, 1, 0, 1, 1, 1, 1, 1, 1, 1] body = agPR cfg 2000011 (pick none' []) [1, 0, 1, 0, 1, 1, 1, 1, 1, 1, 1] body (topK cfg Try.f26 k kp) := by kernel_rfl
theorem j2000011_raw (k kp : D → List Blk → Prop) (x0 : Int) (x1 : Int) (x2 : Int) (x11 : Int) (x28 : Bool) : X2000011 k kp (m2000011 x0 x1 x2 x11 x28) = j2000011 (fun x0 x1 x2 x11 x38 => X2000015 k kp (m2000015 x0 x1 x2 x11 x38)) x0 x1 x2 x11 x28 (fun y0 y1 => k (.tup [(.v (.int IntKind.i64 y0)), (.v (.bool y1))]) []) :=
  Eq.mp (by kernel_rfl) ((atP_run (j2000011_ag k kp) (m2000011 x0 x1 x2 x11 x28)).trans (j2000011_c k kp (JJ k kp) (LL k kp) x0 x1 x2 x11 x28))
theorem j2000011_eq (k kp : D → List Blk → Prop) (x0 : Int) (x1 : Int) (x2 : Int) (x11 : Int) (x28 : Bool) : X2000011 k kp (m2000011 x0 x1 x2 x11 x28) = j2000011' x0 x1 x2 x11 x28 (fun y0 y1 => k (.tup [(.v (.int IntKind.i64 y0)), (.v (.bool y1))]) []) := by
  rw [j2000011_raw]; simp only [j2000015_eq]; first | done | rfl
theorem c_c (k kp : D → List Blk → Prop) (J L : Nat → St → Prop) (x0 : Int) (x1 : Int) (x2 : Int) : runC cfg 1000001 J L none'' [] body (topK cfg Try.f26 k kp) (st0 Try.f26 [(.v (.int IntKind.i64 x0)), (.v (.int IntKind.i64 x1)), (.v (.int IntKind.i64 x2))] []) = c (fun x0 x1 x2 x11 x28 => J 2000011 (m2000011 x0 x1 x2 x11 x28)) x0 x1 x2 (fun y0 y1 => k (.tup [(.v (.int IntKind.i64 y0)), (.v (.bool y1))]) []) := by kernel_rfl
theorem c_ag (k kp : D → List Blk → Prop) : agPL cfg 1000001 (JJ k kp) (LL k kp) [] body = agPR cfg 1000001 none'' [] body (topK cfg Try.f26 k kp) := by kernel_rfl
theorem body_is : Try.f26.body = some body := by kernel_rfl
theorem c_raw (k kp : D → List Blk → Prop) (x0 : Int) (x1 : Int) (x2 : Int) : funW cfg Try.f26 [(.v (.int IntKind.i64 x0)), (.v (.int IntKind.i64 x1)), (.v (.int IntKind.i64 x2))] [] k kp = c (fun x0 x1 x2 x11 x28 => X2000011 k kp (m2000011 x0 x1 x2 x11 x28)) x0 x1 x2 (fun y0 y1 => k (.tup [(.v (.int IntKind.i64 y0)), (.v (.bool y1))]) []) :=
  Eq.mp (by kernel_rfl) ((funW_run (AG := none'') body_is (c_ag k kp) [(.v (.int IntKind.i64 x0)), (.v (.int IntKind.i64 x1)), (.v (.int IntKind.i64 x2))] []).trans (c_c k kp (JJ k kp) (LL k kp) x0 x1 x2))
theorem f_eq (k kp : D → List Blk → Prop) (x0 : Int) (x1 : Int) (x2 : Int) : funW cfg Try.f26 [(.v (.int IntKind.i64 x0)), (.v (.int IntKind.i64 x1)), (.v (.int IntKind.i64 x2))] [] k kp = f x0 x1 x2 (fun y0 y1 => k (.tup [(.v (.int IntKind.i64 y0)), (.v (.bool y1))]) []) := by
  rw [f_def, c_raw]; simp only [j2000011_eq]; first | done | rfl
noncomputable def ent0 : Entry := fun args blks k _ => match args, blks with
  | [d0, d1, d2], [] => aInt IntKind.i64 d0 fun x0 => aInt IntKind.i64 d1 fun x1 => aInt IntKind.i64 d2 fun x2 => f x0 x1 x2 (fun y0 y1 => k (.tup [(.v (.int IntKind.i64 y0)), (.v (.bool y1))]) [])
  | _, _ => False
noncomputable def ent : Entry := fun args blks k kp => ent0 (convA [none, none, none] args) blks k kp
theorem ok : EntOk Try.prog 0 0 26 ent := by
  refine EntOk.conv (EntOk.of (funW_ok (cfg := cfg) (tyOk_of rfl rfl tyL_ok) (eqOk_none rfl) mixed_ok (tab_ok ?_) Try.func26 (by rfl) (by rfl)) ?_) _
  · intro p hp
    simp only [List.mem_cons, List.not_mem_nil, or_false] at hp
    rcases hp with rfl | rfl | rfl | rfl | rfl | rfl | rfl | rfl | rfl
    · exact N52.ok
    · exact N53.ok
    · exact N54.ok
    · exact N55.ok
    · exact N56.ok
    · exact N58.ok
    · exact N57.ok
    · exact N60.ok
    · exact N59.ok
  · intro args blks k kp h k' kp'
    match args, blks, h with
    | [d0, d1, d2], [], h =>
    dsimp only [ent0] at h
    have h9 := aInt_elim h; clear h; obtain ⟨x0, rfl, h⟩ := h9
    have h9 := aInt_elim h; clear h; obtain ⟨x1, rfl, h⟩ := h9
    have h9 := aInt_elim h; clear h; obtain ⟨x2, rfl, h⟩ := h9
    exact (f_eq k' kp' x0 x1 x2).symm
end N26
end Go.Proofs.Yt
namespace Go.Proofs.Yt
open Go Go.Aw Go.Proofs Go.RowKit
set_option linter.unusedVariables false
set_option linter.unusedSimpArgs false

theorem inB_64 {i : Nat} (h : i < 64) : inB 0 (i : Int) (((64 : Nat) : Int) - 1) := ⟨by omega, by omega, by omega⟩
theorem next_is {i : Nat} (h : i < 64) : IntKind.i64.wrap ((i : Int) + 1) = ((i + 1 : Nat) : Int) := by rw [wrap_id (by omega) (by omega)]; omega
theorem wu64_id {n : Int} (h : 0 ≤ n ∧ n < 18446744073709551616) : IntKind.u64.wrap n = n := by rw [wu64_eq]; omega

theorem bits_s (a : Int) (k : List Bool → Prop) (h : k (bitsB (bv a))) : N64.f a k := by
  rw [N64.f_def]
  unfold N64.f0 N64.c N64.l4'
  have hA : IntKind.u64.wrap a = ((bv a).toNat : Int) := by rw [wu64_eq, bv_toNat]
  refine loopS_of (fun s : Int × Int × List Bool × List Bool => ∃ i : Nat, s.2.1 = i ∧ i ≤ 64 ∧ s.1 = (((bv a).toNat / 2 ^ i : Nat) : Int) ∧ s.2.2.2.length = 64 ∧ ∀ j, j < i → s.2.2.2.getD j false = (bv a).getLsbD j)
    (fun s => (64 - s.2.1).toNat) ?_ ⟨0, rfl, by omega, by simpa using hA, by simp, fun j hj => by omega⟩
  rintro again ⟨u, j, b0, b1⟩ ⟨i, rfl, hi, rfl, hlen, hbits⟩ hag
  simp only at hlen hbits hag ⊢
  unfold N64.l4 N64.j8' N64.j8
  dsimp only
  refine br_of (fun hlt => ?_) (fun hge => ?_)
  · have hlt : i < 64 := by simp at hlt; omega
    have hd := bit_div (bv a) i
    have hlt2 : (bv a).toNat / 2 ^ (i + 1) < 2 ^ 64 := Nat.lt_of_le_of_lt (Nat.div_le_self _ _) (bv a).isLt
    refine ⟨by decide, inB_64 hlt, by decide, ?_⟩
    rw [next_is hlt]
    have e1 : IntKind.u64.wrap (Int.tdiv (((bv a).toNat / 2 ^ i : Nat) : Int) 2) = (((bv a).toNat / 2 ^ (i + 1) : Nat) : Int) := by
      have : Int.tdiv (((bv a).toNat / 2 ^ i : Nat) : Int) 2 = (((bv a).toNat / 2 ^ (i + 1) : Nat) : Int) := by
        rw [Int.tdiv_eq_ediv_of_nonneg (by omega)]
        rw [Nat.pow_succ, ← Nat.div_div_eq_div_mul]
        omega
      rw [this, wu64_id ⟨by omega, by omega⟩]
    have e2 : ((Int.tmod (((bv a).toNat / 2 ^ i : Nat) : Int) 2) == (1 : Int)) = (bv a).getLsbD i := by
      rw [Int.tmod_eq_emod_of_nonneg (by omega)]
      have hm : (((bv a).toNat / 2 ^ i : Nat) : Int) % 2 = (((bv a).getLsbD i).toNat : Int) := by
        have := Bool.toNat_lt ((bv a).getLsbD i)
        rw [hd]; omega
      rw [hm]
      cases (bv a).getLsbD i <;> rfl
    rw [e1, e2]
    refine hag _ ⟨i + 1, rfl, by omega, rfl, by simpa using hlen, fun j hj => ?_⟩ (by simp; omega)
    simp only [Int.toNat_natCast]
    rw [set_getD (by omega)]
    by_cases e : j = i
    · rw [if_pos e, e]
    · rw [if_neg e]; exact hbits j (by omega)
  · have hge : i = 64 := by simp at hge; omega
    subst hge
    rw [list_bits hlen hbits]
    exact h

theorem number_s (v : BitVec 64) (k : Int → Prop) (h : k v.toInt) : N65.f (bitsB v) k := by
  rw [N65.f_def]
  unfold N65.f0 N65.c N65.l3'
  refine loopS_of (fun s : Int × Int × List Bool => ∃ i : Nat, s.2.1 = (i : Int) - 1 ∧ i ≤ 64 ∧ s.1 = ((v.toNat / 2 ^ i : Nat) : Int) ∧ s.2.2 = bitsB v)
    (fun s => (s.2.1 + 1).toNat) ?_ ⟨64, rfl, by omega, ?_, rfl⟩
  · rintro again ⟨u, j, b0⟩ ⟨i, rfl, hi, rfl, rfl⟩ hag
    simp only at hag ⊢
    unfold N65.l3 N65.j8' N65.j8 N65.j4' N65.j4
    dsimp only
    refine br_of (fun hlt => ?_) (fun hge => ?_)
    · obtain ⟨m, rfl⟩ : ∃ m, i = m + 1 := ⟨i - 1, by simp at hlt; omega⟩
      have ei : ((m + 1 : Nat) : Int) - 1 = (m : Int) := by omega
      rw [ei]
      have hd := bit_div v m
      have hv : v.toNat / 2 ^ m < 2 ^ 64 := Nat.lt_of_le_of_lt (Nat.div_le_self _ _) v.isLt
      refine ⟨inB_64 (by omega), ?_⟩
      rw [Int.toNat_natCast, bitsB_get v (by omega)]
      have e2 : IntKind.u64.wrap (2 * ((v.toNat / 2 ^ (m + 1) : Nat) : Int)) = 2 * ((v.toNat / 2 ^ (m + 1) : Nat) : Int) := wu64_id ⟨by omega, by omega⟩
      rw [e2]
      have ew : IntKind.i64.wrap ((m : Int) - 1) = (m : Int) - 1 := wrap_id (by omega) (by omega)
      rw [ew]
      have go : again (((v.toNat / 2 ^ m : Nat) : Int), (m : Int) - 1, bitsB v) := hag _ ⟨m, rfl, by omega, rfl, rfl⟩ (by simp <;> omega)
      cases hb : v.getLsbD m with
      | true =>
        rw [hb] at hd
        simp only [br_true]
        have e3 : IntKind.u64.wrap (2 * ((v.toNat / 2 ^ (m + 1) : Nat) : Int) + 1) = ((v.toNat / 2 ^ m : Nat) : Int) := by
          simp at hd
          rw [wu64_id ⟨by omega, by omega⟩]; omega
        rw [e3]
        exact go
      | false =>
        rw [hb] at hd
        simp only [br_false]
        have e3 : 2 * ((v.toNat / 2 ^ (m + 1) : Nat) : Int) = ((v.toNat / 2 ^ m : Nat) : Int) := by
          simp only [Bool.toNat_false] at hd
          omega
        rw [e3]
        exact go
    · have : i = 0 := by simp at hge; omega
      subst this
      have : IntKind.i64.wrap ((v.toNat / 2 ^ 0 : Nat) : Int) = v.toInt := by
        rw [Nat.pow_zero, Nat.div_one]; exact toInt_w64 v
      rw [this]
      exact h
  · have := v.isLt
    have : v.toNat / 2 ^ 64 = 0 := Nat.div_eq_of_lt this
    rw [this]
    rfl

theorem add_s (a b : Int) (k : Int → Prop) (h : k (w64 (a + b))) : N52.f a b k := by
  rw [N52.f_def]
  unfold N52.f0 N52.c
  refine bits_s _ _ (bits_s _ _ ?_)
  unfold N52.l5'
  refine loopS_of (fun s : Bool × Int × List Bool × List Bool × List Bool => ∃ i : Nat, s.2.1 = i ∧ i ≤ 64 ∧ s.1 = BitVec.carry i (bv a) (bv b) false ∧ s.2.2.1 = bitsB (bv a) ∧ s.2.2.2.1 = bitsB (bv b) ∧ s.2.2.2.2.length = 64 ∧
      ∀ j, j < i → s.2.2.2.2.getD j false = (bv a + bv b).getLsbD j) (fun s => (64 - s.2.1).toNat) ?_ ⟨0, rfl, by omega, by simp [BitVec.carry_zero], rfl, rfl, by simp, fun j hj => by omega⟩
  rintro again ⟨cy, j, b0, b1, b2⟩ ⟨i, rfl, hi, rfl, rfl, rfl, hlen, hbits⟩ hag
  simp only at hlen hbits hag ⊢
  unfold N52.l5 N52.j10' N52.j10 N52.j12' N52.j12 N52.j14' N52.j14 N52.j6' N52.j6 N52.j16' N52.j16
  dsimp only
  refine br_of (fun hlt => ?_) (fun hge => ?_)
  · have hlt : i < 64 := by simp at hlt; omega
    have hin := inB_64 hlt
    rw [Int.toNat_natCast, bitsB_get _ hlt, bitsB_get _ hlt, next_is hlt]
    have hadd : (bv a + bv b).getLsbD i = ((bv a).getLsbD i ^^ ((bv b).getLsbD i ^^ BitVec.carry i (bv a) (bv b) false)) := BitVec.getLsbD_add hlt _ _
    have hcar : BitVec.carry (i + 1) (bv a) (bv b) false = Bool.atLeastTwo ((bv a).getLsbD i) ((bv b).getLsbD i) (BitVec.carry i (bv a) (bv b) false) := BitVec.carry_succ _ _ _ _
    have go : ∀ (c d : Bool), c = Bool.atLeastTwo ((bv a).getLsbD i) ((bv b).getLsbD i) (BitVec.carry i (bv a) (bv b) false) → d = ((bv a).getLsbD i ^^ ((bv b).getLsbD i ^^ BitVec.carry i (bv a) (bv b) false)) →
        again (c, ((i + 1 : Nat) : Int), bitsB (bv a), bitsB (bv b), b2.set i d) := by
      intro c d hc hd
      refine hag _ ⟨i + 1, rfl, by omega, hc.trans hcar.symm, rfl, rfl, by simpa using hlen, fun j hj => ?_⟩ (by simp; omega)
      simp only
      rw [set_getD (by omega)]
      by_cases e : j = i
      · rw [if_pos e, e, hadd, hd]
      · rw [if_neg e]; exact hbits j (by omega)
    revert go
    generalize (bv a).getLsbD i = X
    generalize (bv b).getLsbD i = Y
    generalize BitVec.carry i (bv a) (bv b) false = C
    intro go
    have w1 : IntKind.i64.wrap ((0 : Int) + 1) = 1 := by decide
    have w2 : IntKind.i64.wrap ((1 : Int) + 1) = 2 := by decide
    have w3 : IntKind.i64.wrap ((2 : Int) + 1) = 3 := by decide
    refine ⟨hin, ?_⟩
    cases X <;> cases Y <;> cases C <;> simp only [br_true, br_false, w1, w2, w3] <;> exact ⟨hin, by decide, hin, go _ _ (by decide) (by decide)⟩
  · have hge : i = 64 := by simp at hge; omega
    subst hge
    rw [list_bits hlen hbits]
    refine number_s _ _ ?_
    have : (bv a + bv b).toInt = w64 (a + b) := by
      rw [← bv_toInt]
      congr 1
      simp [bv, BitVec.ofInt_add]
    rw [this]
    exact h

theorem neg_s (a : Int) (k : Int → Prop) (h : k (w64 (-a))) : N53.f a k := by
  rw [N53.f_def]
  unfold N53.f0 N53.c
  refine bits_s _ _ ?_
  unfold N53.l3'
  refine loopS_of (fun s : Int × List Bool => ∃ i : Nat, s.1 = i ∧ i ≤ 64 ∧ s.2.length = 64 ∧ (∀ j, j < i → s.2.getD j false = (~~~ (bv a)).getLsbD j) ∧ ∀ j, i ≤ j → j < 64 → s.2.getD j false = (bv a).getLsbD j)
    (fun s => (64 - s.1).toNat) ?_ ⟨0, rfl, by omega, bitsB_len _, fun j hj => by omega, fun j _ hj => bitsB_get _ hj⟩
  rintro again ⟨j, b⟩ ⟨i, rfl, hi, hlen, hb1, hb2⟩ hag
  simp only at hlen hb1 hb2 hag ⊢
  unfold N53.l3 N53.j6' N53.j6
  dsimp only
  refine br_of (fun hlt => ?_) (fun hge => ?_)
  · have hlt : i < 64 := by simp at hlt; omega
    have hin := inB_64 hlt
    rw [next_is hlt]
    refine ⟨hin, hin, hag _ ⟨i + 1, rfl, by omega, by simpa using hlen, fun j hj => ?_, fun j h1 h2 => ?_⟩ (by simp; omega)⟩
    · simp only [Int.toNat_natCast]
      rw [set_getD (by omega)]
      by_cases e : j = i
      · rw [if_pos e, e, hb2 i (Nat.le_refl _) hlt]
        simp [hlt]
      · rw [if_neg e]; exact hb1 j (by omega)
    · simp only [Int.toNat_natCast]
      rw [set_getD (by omega), if_neg (by omega)]
      exact hb2 j (by omega) h2
  · have hge : i = 64 := by simp at hge; omega
    subst hge
    rw [list_bits hlen hb1]
    refine number_s _ _ (add_s _ _ _ ?_)
    have : w64 ((~~~ (bv a)).toInt + 1) = w64 (-a) := by
      rw [← bv_toInt, ← bv_toInt]
      congr 1
      have : bv ((~~~ (bv a)).toInt + 1) = ~~~ (bv a) + 1 := by
        unfold bv
        rw [BitVec.ofInt_add, BitVec.ofInt_toInt]
        rfl
      have h2 : ~~~ (bv a) + 1 = - (bv a) := (BitVec.neg_eq_not_add _).symm
      rw [this, h2]
      simp [bv, BitVec.ofInt_neg]
    rw [this]
    exact h

theorem mul_s (a b : Int) (k : Int → Prop) (h : k (w64 (a * b))) : N54.f a b k := by
  rw [N54.f_def]
  unfold N54.f0 N54.c
  refine bits_s _ _ ?_
  unfold N54.l4'
  refine loopS_of (fun s : Int × Int × Int × List Bool => ∃ i : Nat, s.2.2.1 = i ∧ i ≤ 64 ∧ w64 s.1 = w64 (a * 2 ^ i) ∧ s.2.1 = w64 (a * (((bv b).toNat % 2 ^ i : Nat) : Int)) ∧ s.2.2.2 = bitsB (bv b))
    (fun s => (64 - s.2.2.1).toNat) ?_ ⟨0, rfl, by omega, by simp, by simp [Nat.mod_one]; decide, rfl⟩
  rintro again ⟨x, y, j, b0⟩ ⟨i, rfl, hi, hx, rfl, rfl⟩ hag
  simp only at hx hag ⊢
  unfold N54.l4 N54.j8' N54.j8 N54.j9' N54.j9 N54.j5' N54.j5
  dsimp only
  refine br_of (fun hlt => ?_) (fun hge => ?_)
  · have hlt : i < 64 := by simp at hlt; omega
    refine ⟨inB_64 hlt, ?_⟩
    rw [Int.toNat_natCast, bitsB_get _ hlt, next_is hlt]
    have hm : (bv b).toNat % 2 ^ (i + 1) = (bv b).toNat % 2 ^ i + 2 ^ i * ((bv b).getLsbD i).toNat := by
      rw [Nat.mod_pow_succ, ← BitVec.testBit_toNat, Nat.testBit_eq_decide_div_mod_eq]
      rcases Nat.mod_two_eq_zero_or_one ((bv b).toNat / 2 ^ i) with h | h <;> simp [h]
    have hx2 : w64 (w64 (x + x)) = w64 (a * 2 ^ (i + 1)) := by
      have e1 : w64 (w64 (x + x)) = w64 (w64 x + w64 x) := by simp only [w64_eq, Int.bmod_add_bmod, Int.add_bmod_bmod, Int.bmod_bmod]
      rw [e1, hx]
      have e2 : w64 (w64 (a * 2 ^ i) + w64 (a * 2 ^ i)) = w64 (a * 2 ^ i + a * 2 ^ i) := by simp only [w64_eq, Int.bmod_add_bmod, Int.add_bmod_bmod]
      rw [e2]
      congr 1
      rw [Int.pow_succ, ← Int.mul_assoc, Int.mul_comm (a * 2 ^ i) 2]
      omega
    have go : ∀ y, y = w64 (a * (((bv b).toNat % 2 ^ (i + 1) : Nat) : Int)) → again (w64 (x + x), y, ((i + 1 : Nat) : Int), bitsB (bv b)) := by
      intro y hy
      exact hag _ ⟨i + 1, rfl, by omega, hx2, hy, rfl⟩ (by simp; omega)
    cases hb : (bv b).getLsbD i with
    | true =>
      rw [hb] at hm
      simp only [br_true]
      refine add_s _ _ _ (add_s _ _ _ (go _ ?_))
      rw [hm]
      have e1 : w64 (w64 (a * (((bv b).toNat % 2 ^ i : Nat) : Int)) + x) = w64 (a * (((bv b).toNat % 2 ^ i : Nat) : Int) + w64 x) := by simp only [w64_eq, Int.bmod_add_bmod, Int.add_bmod_bmod]
      rw [e1, hx]
      have e2 : w64 (a * (((bv b).toNat % 2 ^ i : Nat) : Int) + w64 (a * 2 ^ i)) = w64 (a * (((bv b).toNat % 2 ^ i : Nat) : Int) + a * 2 ^ i) := by simp only [w64_eq, Int.add_bmod_bmod]
      rw [e2]
      congr 1
      rw [← Int.mul_add]
      congr 1
      simp
    | false =>
      rw [hb] at hm
      simp only [br_false]
      refine add_s _ _ _ (go _ ?_)
      rw [hm]
      simp
  · have hge : i = 64 := by simp at hge; omega
    subst hge
    have e : w64 (a * (((bv b).toNat % 2 ^ 64 : Nat) : Int)) = w64 (a * b) := by
      rw [Nat.mod_eq_of_lt (bv b).isLt, bv_toNat]
      have e1 : ∀ x, w64 (a * x) = w64 (a * w64 x) := fun x => by simp only [w64_eq, Int.mul_bmod_bmod]
      have e2 : w64 (b % 2 ^ 64) = w64 b := by
        rw [w64_eq, w64_eq]
        have := @Int.emod_bmod b (2 ^ 64)
        exact_mod_cast this
      rw [e1, e2, ← e1]
    have e' : w64 (a * (((bv b).toNat % 2 ^ (64 : Nat) : Nat) : Int)) = w64 (a * b) := e
    show k (w64 (a * (((bv b).toNat % 2 ^ (64 : Nat) : Nat) : Int)))
    exact e'.symm ▸ h

/-- Bit by bit: what comes out is the bits of what the whole words make. -/
theorem each_s (how a b : Int) (V : BitVec 64) (k : Int → Prop) (h : k V.toInt)
    (hV : ∀ i, i < 64 → V.getLsbD i = if how = 1 then ((bv a).getLsbD i && (bv b).getLsbD i) else if how = 2 then ((bv a).getLsbD i || (bv b).getLsbD i) else ((bv a).getLsbD i ^^ (bv b).getLsbD i)) : N55.f how a b k := by
  rw [N55.f_def]
  unfold N55.f0 N55.c
  refine bits_s _ _ (bits_s _ _ ?_)
  unfold N55.l3'
  refine loopS_of (fun s : Int × List Bool × List Bool => ∃ i : Nat, s.1 = i ∧ i ≤ 64 ∧ s.2.1.length = 64 ∧ (∀ j, j < i → s.2.1.getD j false = V.getLsbD j) ∧ (∀ j, i ≤ j → j < 64 → s.2.1.getD j false = (bv a).getLsbD j) ∧ s.2.2 = bitsB (bv b))
    (fun s => (64 - s.1).toNat) ?_ ⟨0, rfl, by omega, bitsB_len _, fun j hj => by omega, fun j _ hj => bitsB_get _ hj, rfl⟩
  rintro again ⟨j, b0, b1⟩ ⟨i, rfl, hi, hlen, hb1, hb2, rfl⟩ hag
  simp only at hlen hb1 hb2 hag ⊢
  unfold N55.l3 N55.j4' N55.j4 N55.j11' N55.j11
  dsimp only
  refine br_of (fun hlt => ?_) (fun hge => ?_)
  · have hlt : i < 64 := by simp at hlt; omega
    have hin := inB_64 hlt
    rw [next_is hlt, Int.toNat_natCast, bitsB_get _ hlt, hb2 i (Nat.le_refl _) hlt]
    have go : ∀ d, d = V.getLsbD i → again (((i + 1 : Nat) : Int), b0.set i d, bitsB (bv b)) := by
      intro d hd
      refine hag _ ⟨i + 1, rfl, by omega, by simpa using hlen, fun j hj => ?_, fun j h1 h2 => ?_, rfl⟩ (by simp; omega)
      · simp only
        rw [set_getD (by omega)]
        by_cases e : j = i
        · rw [if_pos e, e, hd]
        · rw [if_neg e]; exact hb1 j (by omega)
      · simp only
        rw [set_getD (by omega), if_neg (by omega)]
        exact hb2 j (by omega) h2
    have hVi := hV i hlt
    rw [hVi] at go
    revert go
    generalize (bv a).getLsbD i = X
    generalize (bv b).getLsbD i = Y
    intro go
    by_cases h1 : how = 1
    · subst h1
      simp only [br_beq, if_true] at go ⊢
      refine ⟨hin, ?_⟩
      cases X <;> simp only [br_true, br_false] <;> first | exact ⟨hin, go _ (by simp)⟩ | exact ⟨hin, hin, go _ (by simp)⟩
    · by_cases h2 : how = 2
      · subst h2
        simp only [br_beq, if_neg h1, if_true] at go ⊢
        refine ⟨hin, ?_⟩
        cases X <;> simp only [br_true, br_false] <;> first | exact ⟨hin, go _ (by simp)⟩ | exact ⟨hin, hin, go _ (by simp)⟩
      · simp only [br_beq, if_neg h1, if_neg h2] at go ⊢
        refine ⟨hin, hin, hin, go _ ?_⟩
        cases X <;> cases Y <;> rfl
  · have hge : i = 64 := by simp at hge; omega
    subst hge
    rw [list_bits hlen hb1]
    exact number_s _ _ h

theorem shift_n (b : Int) (hb : in64 b) (k : Int → Prop) (h : k (b % 64)) : (((64 : Int) ≠ 0) ∧ (br (decide ((Int.tmod b (64 : Int)) < (0 : Int))) (k (IntKind.i64.wrap ((Int.tmod b (64 : Int)) + (64 : Int)))) (k (Int.tmod b (64 : Int))))) := by
  refine ⟨by decide, ?_⟩
  have h0 : Int.tmod b 64 = if 0 ≤ b then b % 64 else - ((-b) % 64) := by
    split
    · rw [Int.tmod_eq_emod_of_nonneg (by omega)]
    · have : b = -(-b) := by omega
      rw [this, Int.neg_tmod, Int.tmod_eq_emod_of_nonneg (by omega)]
      omega
  rw [h0]
  simp only [br_dec]
  split <;> split
  · omega
  · exact h
  · rw [wrap_id (by omega) (by omega)]
    have : -(-b % 64) + 64 = b % 64 := by omega
    rw [this]; exact h
  · have : -(-b % 64) = b % 64 := by omega
    rw [this]; exact h

theorem shiftr_s (op a b : Int) (hb : in64 b) (V : BitVec 64) (k : Int → Prop) (h : k V.toInt) (n : Nat) (hn : b % 64 = n)
    (hV : ∀ i, i < 64 → V.getLsbD i = if op = 7 then (if n ≤ i then (bv a).getLsbD (i - n) else false) else if i + n < 64 then (bv a).getLsbD (i + n) else if op = 9 then (bv a).getLsbD 63 else false) (ho : op = 7 ∨ op = 8 ∨ op = 9) : N56.f op a b k := by
  rw [N56.f_def]
  unfold N56.f0 N56.c
  refine shift_n b hb (fun x => N56.j4' op a x k) ?_
  have hn64 : n < 64 := by omega
  rw [hn]
  unfold N56.j4' N56.j4
  refine bits_s _ _ ?_
  unfold N56.l7'
  refine loopS_of (fun s : Int × List Bool × List Bool => ∃ i : Nat, s.1 = i ∧ i ≤ 64 ∧ s.2.1 = bitsB (bv a) ∧ s.2.2.length = 64 ∧ (∀ j, j < i → s.2.2.getD j false = V.getLsbD j) ∧ (∀ j, i ≤ j → j < 64 → s.2.2.getD j false = false))
    (fun s => (64 - s.1).toNat) ?_ ⟨0, rfl, by omega, rfl, by simp, fun j hj => by omega, fun j _ hj => rep_getD _ _ _⟩
  rintro again ⟨j, b0, b1⟩ ⟨i, rfl, hi, rfl, hlen, hb1, hb2⟩ hag
  simp only at hlen hb1 hb2 hag ⊢
  unfold N56.l7 N56.j12' N56.j12 N56.j16' N56.j16 N56.j2000013' N56.j2000013 N56.j8' N56.j8
  dsimp only
  refine br_of (fun hlt => ?_) (fun hge => ?_)
  · have hlt : i < 64 := by simp at hlt; omega
    have hin := inB_64 hlt
    have hin63 : inB 0 (63 : Int) (((64 : Nat) : Int) - 1) := ⟨by omega, by omega, by omega⟩
    rw [next_is hlt, Int.toNat_natCast]
    have hVi := hV i hlt
    have go : ∀ d, d = V.getLsbD i → again (((i + 1 : Nat) : Int), bitsB (bv a), b1.set i d) := by
      intro d hd
      refine hag _ ⟨i + 1, rfl, by omega, rfl, by simpa using hlen, fun j hj => ?_, fun j h1 h2 => ?_⟩ (by simp; omega)
      · simp only
        rw [set_getD (by omega)]
        by_cases e : j = i
        · rw [if_pos e, e, hd]
        · rw [if_neg e]; exact hb1 j (by omega)
      · simp only
        rw [set_getD (by omega), if_neg (by omega)]
        exact hb2 j (by omega) h2
    have go0 : V.getLsbD i = false → again (((i + 1 : Nat) : Int), bitsB (bv a), b1) := by
      intro hd
      refine hag _ ⟨i + 1, rfl, by omega, rfl, hlen, fun j hj => ?_, fun j h1 h2 => hb2 j (by omega) h2⟩ (by simp; omega)
      by_cases e : j = i
      · subst e; simp only; rw [hd]; exact hb2 j (Nat.le_refl _) hlt
      · exact hb1 j (by omega)
    have e1 : IntKind.i64.wrap ((i : Int) + (n : Int)) = (i : Int) + n := wrap_id (by omega) (by omega)
    have e2 : IntKind.i64.wrap ((i : Int) - (n : Int)) = (i : Int) - n := wrap_id (by omega) (by omega)
    rw [e1, e2]
    have tail : ∀ f : Int, (br (decide (f ≥ 0)) (br (decide (f < 64)) ((inB 0 f (((64 : Nat) : Int) - 1)) ∧ ((inB 0 (i : Int) (((64 : Nat) : Int) - 1)) ∧ again (((i + 1 : Nat) : Int), bitsB (bv a), (b1.set i ((bitsB (bv a)).getD (Int.toNat f) false))))) (br (op == 9) ((inB 0 63 (((64 : Nat) : Int) - 1)) ∧ ((inB 0 (i : Int) (((64 : Nat) : Int) - 1)) ∧ again (((i + 1 : Nat) : Int), bitsB (bv a), (b1.set i ((bitsB (bv a)).getD (Int.toNat 63) false))))) (again (((i + 1 : Nat) : Int), bitsB (bv a), b1)))) (br false ((inB 0 f (((64 : Nat) : Int) - 1)) ∧ ((inB 0 (i : Int) (((64 : Nat) : Int) - 1)) ∧ again (((i + 1 : Nat) : Int), bitsB (bv a), (b1.set i ((bitsB (bv a)).getD (Int.toNat f) false))))) (br (op == 9) ((inB 0 63 (((64 : Nat) : Int) - 1)) ∧ ((inB 0 (i : Int) (((64 : Nat) : Int) - 1)) ∧ again (((i + 1 : Nat) : Int), bitsB (bv a), (b1.set i ((bitsB (bv a)).getD (Int.toNat 63) false))))) (again (((i + 1 : Nat) : Int), bitsB (bv a), b1))))) ↔
        if 0 ≤ f ∧ f < 64 then (inB 0 f (((64 : Nat) : Int) - 1)) ∧ ((inB 0 (i : Int) (((64 : Nat) : Int) - 1)) ∧ again (((i + 1 : Nat) : Int), bitsB (bv a), (b1.set i ((bitsB (bv a)).getD (Int.toNat f) false)))) else
          if op = 9 then ((inB 0 63 (((64 : Nat) : Int) - 1)) ∧ ((inB 0 (i : Int) (((64 : Nat) : Int) - 1)) ∧ again (((i + 1 : Nat) : Int), bitsB (bv a), (b1.set i ((bitsB (bv a)).getD (Int.toNat 63) false))))) else again (((i + 1 : Nat) : Int), bitsB (bv a), b1) := by
      intro f
      simp only [br_dec, br_beq]
      by_cases h1 : 0 ≤ f <;> by_cases h2 : f < 64 <;> simp [h1, h2]
    have get63 : (bitsB (bv a)).getD (Int.toNat 63) false = (bv a).getLsbD 63 := bitsB_get _ (by decide)
    simp only [br_bne]
    by_cases h7 : op = 7
    · rw [if_pos h7]
      refine (tail _).2 ?_
      rw [if_pos h7] at hVi
      by_cases hni : n ≤ i
      · rw [if_pos (by omega)]
        rw [if_pos hni] at hVi
        refine ⟨⟨by omega, by omega, by omega⟩, hin, go _ ?_⟩
        have : Int.toNat ((i : Int) - n) = i - n := by omega
        rw [this, bitsB_get _ (by omega), hVi]
      · rw [if_neg (by omega), if_neg (by omega)]
        rw [if_neg hni] at hVi
        exact go0 hVi
    · rw [if_neg h7]
      refine (tail _).2 ?_
      rw [if_neg h7] at hVi
      by_cases hni : i + n < 64
      · rw [if_pos (by omega)]
        rw [if_pos hni] at hVi
        refine ⟨⟨by omega, by omega, by omega⟩, hin, go _ ?_⟩
        have : Int.toNat ((i : Int) + n) = i + n := by omega
        rw [this, bitsB_get _ (by omega), hVi]
      · rw [if_neg (by omega)]
        rw [if_neg hni] at hVi
        by_cases h9 : op = 9
        · rw [if_pos h9] at hVi ⊢
          exact ⟨hin63, hin, go _ (by rw [get63, hVi])⟩
        · rw [if_neg h9] at hVi ⊢
          exact go0 hVi
  · have hge : i = 64 := by simp at hge; omega
    subst hge
    rw [list_bits hlen hb1]
    exact number_s _ _ h
end Go.Proofs.Yt
namespace Go.Proofs.Yt
open Go Go.Aw Go.Proofs Go.RowKit
set_option linter.unusedVariables false
set_option linter.unusedSimpArgs false

theorem sizes_s (a : Int) (ha : in64 a) (k : Int → Prop) (h : k (a.natAbs : Int)) : N58.f a k := by
  unfold in64 at ha
  rw [N58.f_def]
  unfold N58.f0 N58.c
  refine br_of (fun hlt => ?_) (fun hge => ?_)
  · have hlt : a < 0 := by simpa using hlt
    refine neg_s _ _ ?_
    have : IntKind.u64.wrap (w64 (-a)) = (a.natAbs : Int) := by
      rw [wu64_eq, w64_eq]
      have := @Int.bmod_emod (-a) (2 ^ 64)
      have e : (-a).bmod (2 ^ 64) % 2 ^ 64 = (-a) % 2 ^ 64 := by exact_mod_cast this
      rw [e]; omega
    rw [this]; exact h
  · have hge : ¬ a < 0 := by simpa using hge
    have : IntKind.u64.wrap a = (a.natAbs : Int) := by rw [wu64_id ⟨by omega, by omega⟩]; omega
    rw [this]; exact h

theorem div_step {H B q r b : Nat} (hr : r < B) (hH : H = B * q + r) (hb : b < 2) :
    (2 * H + b) / B = (if B ≤ 2 * r + b then 2 * q + 1 else 2 * q) ∧ (2 * H + b) % B = (if B ≤ 2 * r + b then 2 * r + b - B else 2 * r + b) := by
  have hB : 0 < B := by omega
  split
  · rename_i h
    have e : 2 * H + b = (2 * r + b - B) + B * (2 * q + 1) := by
      have e1 : B * (2 * q + 1) = 2 * (B * q) + B := by rw [Nat.mul_add, Nat.mul_one, Nat.mul_left_comm]
      rw [hH, e1]; omega
    rw [e]
    exact ⟨by rw [Nat.add_mul_div_left _ _ hB, Nat.div_eq_of_lt (by omega)]; omega, by rw [Nat.add_mul_mod_self_left, Nat.mod_eq_of_lt (by omega)]⟩
  · rename_i h
    have e : 2 * H + b = (2 * r + b) + B * (2 * q) := by
      have e1 : B * (2 * q) = 2 * (B * q) := by rw [Nat.mul_left_comm]
      rw [hH, e1]; omega
    rw [e]
    exact ⟨by rw [Nat.add_mul_div_left _ _ hB, Nat.div_eq_of_lt (by omega)]; omega, by rw [Nat.add_mul_mod_self_left, Nat.mod_eq_of_lt (by omega)]⟩

theorem divide_s (A B : Nat) (hA : A < 2 ^ 64) (hB0 : 0 < B) (hB : B < 2 ^ 64) (k : Int → Int → Prop) (h : k ((A / B : Nat) : Int) ((A % B : Nat) : Int)) : N57.f (A : Int) (B : Int) k := by
  rw [N57.f_def]
  unfold N57.f0 N57.c N57.l3'
  refine loopS_of (fun s : Int × Int × Int => ∃ m : Nat, s.2.2 = (m : Int) - 1 ∧ m ≤ 64 ∧ s.1 = ((A / 2 ^ m / B : Nat) : Int) ∧ s.2.1 = ((A / 2 ^ m % B : Nat) : Int)) (fun s => (s.2.2 + 1).toNat) ?_
    ⟨64, rfl, by omega, by rw [Nat.div_eq_of_lt hA]; simp, by rw [Nat.div_eq_of_lt hA]; simp⟩
  rintro again ⟨q, r, j⟩ ⟨m, rfl, hm, rfl, rfl⟩ hag
  simp only at hag ⊢
  unfold N57.l3 N57.j2000009' N57.j2000009 N57.j11' N57.j11 N57.j4' N57.j4
  dsimp only
  refine br_of (fun hlt => ?_) (fun hge => ?_)
  · obtain ⟨i, rfl⟩ : ∃ i, m = i + 1 := ⟨m - 1, by simp at hlt; omega⟩
    have ei : ((i + 1 : Nat) : Int) - 1 = (i : Int) := by omega
    rw [ei]
    have ew : IntKind.i64.wrap ((i : Int) - 1) = (i : Int) - 1 := wrap_id (by omega) (by omega)
    have emin : min (Int.toNat (i : Int)) 64 = i := by omega
    rw [ew, emin]
    have hbit : Int.tmod (Int.fdiv (A : Int) (2 ^ i)) 2 = ((A / 2 ^ i % 2 : Nat) : Int) := by
      rw [Int.fdiv_eq_ediv_of_nonneg _ (by exact_mod_cast Nat.zero_le _)]
      have e : (A : Int) / 2 ^ i = ((A / 2 ^ i : Nat) : Int) := by norm_cast
      rw [e, Int.tmod_eq_emod_of_nonneg (Int.natCast_nonneg _)]
      norm_cast
    rw [hbit]
    have hb2 : A / 2 ^ i % 2 < 2 := Nat.mod_lt _ (by decide)
    have hH : A / 2 ^ i = 2 * (A / 2 ^ (i + 1)) + A / 2 ^ i % 2 := by
      rw [Nat.pow_succ, ← Nat.div_div_eq_div_mul]; omega
    have hr : A / 2 ^ (i + 1) % B < B := Nat.mod_lt _ hB0
    have hq : A / 2 ^ (i + 1) / B ≤ A / 2 ^ (i + 1) := Nat.div_le_self _ _
    have hAi : A / 2 ^ i ≤ A := Nat.div_le_self _ _
    have hs := div_step (b := A / 2 ^ i % 2) hr (Nat.div_add_mod (A / 2 ^ (i + 1)) B).symm hb2
    rw [← hH] at hs
    obtain ⟨hs1, hs2⟩ := hs
    have go : ∀ q r : Int, q = ((A / 2 ^ i / B : Nat) : Int) → r = ((A / 2 ^ i % B : Nat) : Int) → again (q, r, (i : Int) - 1) := by
      rintro q r rfl rfl
      exact hag _ ⟨i, rfl, by omega, rfl, rfl⟩ (by simp <;> omega)
    have hq2 : A / 2 ^ i / B ≤ A / 2 ^ i := Nat.div_le_self _ _
    rw [hs1] at go hq2
    rw [hs2] at go
    generalize A / 2 ^ (i + 1) % B = r at *
    generalize A / 2 ^ (i + 1) / B = q at *
    generalize A / 2 ^ i % 2 = b at *
    have e2q : IntKind.u64.wrap (2 * (q : Int)) = 2 * (q : Int) := wu64_id ⟨by omega, by split at hq2 <;> omega⟩
    rw [e2q]
    refine ⟨by omega, by decide, ?_⟩
    refine br_of (fun hov => ?_) (fun hov => ?_)
    · have hov : (9223372036854775808 : Int) ≤ r := by simpa using hov
      simp only [br_true]
      have hle : B ≤ 2 * r + b := by omega
      rw [if_pos hle] at go hq2
      rw [if_pos hle] at go
      refine go _ _ ?_ ?_
      · rw [wu64_id ⟨by omega, by omega⟩]; omega
      · simp only [wu64_eq]; omega
    · have hov : ¬ (9223372036854775808 : Int) ≤ r := by simpa using hov
      have e2r : IntKind.u64.wrap (2 * (r : Int)) = 2 * (r : Int) := wu64_id ⟨by omega, by omega⟩
      have e2b : IntKind.u64.wrap (2 * (r : Int) + (b : Int)) = 2 * (r : Int) + b := wu64_id ⟨by omega, by omega⟩
      rw [e2r, e2b]
      refine br_of (fun hge => ?_) (fun hge => ?_)
      · have hge : (B : Int) ≤ 2 * (r : Int) + b := by simpa using hge
        have hle : B ≤ 2 * r + b := by omega
        rw [if_pos hle] at go hq2
        rw [if_pos hle] at go
        refine go _ _ ?_ ?_
        · rw [wu64_id ⟨by omega, by omega⟩]; omega
        · rw [wu64_id ⟨by omega, by omega⟩]; omega
      · have hge : ¬ (B : Int) ≤ 2 * (r : Int) + b := by simpa using hge
        have hle : ¬ B ≤ 2 * r + b := by omega
        rw [if_neg hle] at go
        rw [if_neg hle] at go
        exact go _ _ (by omega) (by omega)
  · have : m = 0 := by simp at hge; omega
    subst this
    simpa using h

theorem top_bit {a : Int} (ha : in64 a) : (bv a).getLsbD 63 = decide (a < 0) := by
  unfold in64 at ha
  have h := bv_toNat a
  have hd := bit_div (bv a) 63
  have hlt := (bv a).isLt
  have h64 : (bv a).toNat / 2 ^ (63 + 1) = 0 := Nat.div_eq_of_lt hlt
  rw [h64] at hd
  by_cases hn : a < 0
  · have : 2 ^ 63 ≤ (bv a).toNat := by omega
    have : (bv a).toNat / 2 ^ 63 = 1 := by omega
    cases hb : (bv a).getLsbD 63 <;> rw [hb] at hd <;> simp at hd <;> simp [hn] <;> omega
  · have : (bv a).toNat / 2 ^ 63 = 0 := by omega
    cases hb : (bv a).getLsbD 63 <;> rw [hb] at hd <;> simp at hd <;> simp [hn] <;> omega

theorem less_s (a b : Int) (ha : in64 a) (hb : in64 b) (k : Bool → Prop) (h : k (decide (a < b))) : N60.f a b k := by
  rw [N60.f_def]
  unfold N60.f0 N60.c
  refine bits_s _ _ (bits_s _ _ ?_)
  have hin : inB 0 (63 : Int) (((64 : Nat) : Int) - 1) := ⟨by omega, by omega, by omega⟩
  have g63 : ∀ v, (bitsB v).getD (Int.toNat 63) false = v.getLsbD 63 := fun v => bitsB_get v (by decide)
  refine ⟨hin, hin, ?_⟩
  rw [g63, g63, top_bit ha, top_bit hb]
  have h1 := bv_toNat a
  have h2 := bv_toNat b
  have l1 := (bv a).isLt
  have l2 := (bv b).isLt
  have ha' := ha
  have hb' := hb
  unfold in64 at ha' hb'
  simp only [br_not, br_beq]
  split
  · rename_i hs
    have hs : (a < 0 ↔ b < 0) := by simpa using hs
    have hab : a < b ↔ (bv a).toNat < (bv b).toNat := by omega
    unfold N60.l5'
    refine loopS_of (fun s : Int × List Bool × List Bool => ∃ m : Nat, s.1 = (m : Int) - 1 ∧ m ≤ 63 ∧ (bv a).toNat / 2 ^ m = (bv b).toNat / 2 ^ m ∧ s.2.1 = bitsB (bv a) ∧ s.2.2 = bitsB (bv b)) (fun s => (s.1 + 1).toNat) ?_
      ⟨63, rfl, by omega, by omega, rfl, rfl⟩
    rintro again ⟨j, b0, b1⟩ ⟨m, rfl, hm, heq, rfl, rfl⟩ hag
    simp only at hag ⊢
    unfold N60.l5 N60.j9' N60.j9
    dsimp only
    refine br_of (fun hlt => ?_) (fun hge => ?_)
    · obtain ⟨i, rfl⟩ : ∃ i, m = i + 1 := ⟨m - 1, by simp at hlt; omega⟩
      have ei : ((i + 1 : Nat) : Int) - 1 = (i : Int) := by omega
      have ew : IntKind.i64.wrap ((i : Int) - 1) = (i : Int) - 1 := wrap_id (by omega) (by omega)
      rw [ei, ew]
      refine ⟨inB_64 (by omega), inB_64 (by omega), ?_⟩
      rw [Int.toNat_natCast, bitsB_get _ (by omega), bitsB_get _ (by omega)]
      have d1 := bit_div (bv a) i
      have d2 := bit_div (bv b) i
      cases hx : (bv a).getLsbD i <;> cases hy : (bv b).getLsbD i
      · exact hag _ ⟨i, rfl, by omega, by rw [d1, d2, hx, hy, heq], rfl, rfl⟩ (by simp <;> omega)
      · refine ⟨inB_64 (by omega), ?_⟩
        have : (bv a).toNat < (bv b).toNat := less_step heq (by rw [BitVec.testBit_toNat, hx]) (by rw [BitVec.testBit_toNat, hy])
        have hlt : a < b := hab.2 this
        simpa [hlt] using h
      · refine ⟨inB_64 (by omega), ?_⟩
        have : (bv b).toNat < (bv a).toNat := less_step heq.symm (by rw [BitVec.testBit_toNat, hy]) (by rw [BitVec.testBit_toNat, hx])
        have hlt : ¬ a < b := fun hh => by have := hab.1 hh; omega
        simpa [hlt] using h
      · exact hag _ ⟨i, rfl, by omega, by rw [d1, d2, hx, hy, heq], rfl, rfl⟩ (by simp <;> omega)
    · have : m = 0 := by simp at hge; omega
      subst this
      have : (bv a).toNat = (bv b).toNat := by simpa using heq
      have hlt : ¬ a < b := fun hh => by have := hab.1 hh; omega
      simpa [hlt] using h
  · rename_i hs
    have hs : ¬ (a < 0 ↔ b < 0) := by simpa using hs
    refine ⟨hin, ?_⟩
    have : decide (a < 0) = decide (a < b) := by
      rw [Bool.eq_iff_iff]; simp; omega
    rw [this]; exact h

theorem flagr_s (b : Bool) (k : Int → Prop) (h : k (flagI b)) : N59.f b k := by
  rw [N59.f_def]
  unfold N59.f0 N59.c flagI at *
  cases b <;> simpa using h

theorem w64_neg (x : Int) : w64 (-w64 x) = w64 (-x) := by
  have e : ∀ y : Int, -y = 0 - y := fun y => by omega
  rw [e, e x]
  simp only [w64_eq, Int.sub_bmod_bmod]

theorem bv_mul_pow (a : Int) (n : Nat) : (bv a <<< n).toInt = w64 (a * 2 ^ n) := by
  rw [← toInt_w64, BitVec.toNat_shiftLeft, Nat.shiftLeft_eq]
  have e : (((bv a).toNat * 2 ^ n % 2 ^ 64 : Nat) : Int) = (a * 2 ^ n) % 2 ^ 64 := by
    rw [Int.natCast_emod, Int.natCast_mul, Int.natCast_pow, Int.natCast_pow, bv_toNat]
    show (a % 2 ^ 64 * 2 ^ n) % 2 ^ 64 = _
    rw [Int.mul_emod, Int.emod_emod, ← Int.mul_emod]
  rw [e, w64_eq, w64_eq]
  have := @Int.emod_bmod (a * 2 ^ n) (2 ^ 64)
  exact_mod_cast this

theorem bv_shr (a : Int) (n : Nat) : (bv a >>> n).toInt = w64 (Int.fdiv (IntKind.u64.wrap a) (2 ^ n)) := by
  rw [← toInt_w64, BitVec.toNat_ushiftRight, Nat.shiftRight_eq_div_pow, wu64_eq, ← bv_toNat]
  rw [Int.fdiv_eq_ediv_of_nonneg _ (by exact_mod_cast Nat.zero_le _)]
  norm_cast

theorem bv_sar (a : Int) (ha : in64 a) (n : Nat) : ((bv a).sshiftRight n).toInt = Int.fdiv a (2 ^ n) := by
  rw [BitVec.toInt_sshiftRight, bv_toInt, w64_id ha, Int.shiftRight_eq_div_pow]
  rw [Int.fdiv_eq_ediv_of_nonneg _ (by exact_mod_cast Nat.zero_le _)]
  norm_cast

theorem tdiv_sign (a b : Int) : a.tdiv b = if (a < 0 ↔ b < 0) then ((a.natAbs / b.natAbs : Nat) : Int) else -((a.natAbs / b.natAbs : Nat) : Int) := by
  rcases Int.natAbs_eq a with h1 | h1 <;> rcases Int.natAbs_eq b with h2 | h2 <;> (try simp only [Int.natAbs_natCast, Int.natAbs_neg])
  all_goals
    generalize ha : a.natAbs = A at *
    generalize hb : b.natAbs = B at *
    subst h1; subst h2
  · rw [if_pos (by omega)]; norm_cast
  · by_cases hB : B = 0
    · subst hB; simp
    · rw [Int.tdiv_neg]
      rw [if_neg (by omega)]; norm_cast
  · by_cases hA : A = 0
    · subst hA; simp
    · rw [Int.neg_tdiv]
      rw [if_neg (by omega)]; norm_cast
  · rw [Int.tdiv_neg, Int.neg_tdiv, Int.neg_neg]
    by_cases hA : A = 0
    · subst hA; simp
    · by_cases hB : B = 0
      · subst hB; simp
      · rw [if_pos (by omega)]; norm_cast

theorem tmod_sign (a b : Int) : a.tmod b = if a < 0 then -((a.natAbs % b.natAbs : Nat) : Int) else ((a.natAbs % b.natAbs : Nat) : Int) := by
  have e : a.tmod b = a.tmod (b.natAbs : Int) := by
    rcases Int.natAbs_eq b with h | h
    · rw [← h]
    · rw [h, Int.tmod_neg]; simp
  rw [e]
  rcases Int.natAbs_eq a with h | h
  · rw [if_neg (by omega)]
    rw [h]; simp only [Int.natAbs_natCast]; norm_cast
  · by_cases hA : a.natAbs = 0
    · have : a = 0 := by omega
      subst this; simp
    · rw [if_pos (by omega)]
      rw [h, Int.neg_tmod]; simp only [Int.natAbs_neg, Int.natAbs_natCast]; norm_cast

theorem refdo_s (op a b : Int) (ha : in64 a) (hb : in64 b) (k : Int → Bool → Prop) (h : k (doI op a b).1 (doI op a b).2) : N26.f op a b k := by
  rw [N26.f_def]
  unfold N26.f0 N26.c N26.j2000011' N26.j2000011 N26.j2000015' N26.j2000015 N26.j2000018' N26.j2000018 N26.j28' N26.j28 N26.j37' N26.j37
  dsimp only
  have ha' := ha
  have hb' := hb
  unfold in64 at ha' hb'
  unfold doI at h
  by_cases h1 : op = 1
  · subst h1; exact add_s _ _ _ h
  by_cases h2 : op = 2
  · subst h2
    refine neg_s _ _ (add_s _ _ _ ?_)
    have : w64 (a + w64 (-b)) = w64 (a - b) := by
      simp only [w64_eq, Int.add_bmod_bmod]; rfl
    rw [this]; exact h
  by_cases h3 : op = 3
  · subst h3; exact mul_s _ _ _ h
  by_cases h4 : op = 4
  · subst h4
    refine each_s 1 a b (bv a &&& bv b) _ ?_ (fun i hi => by simp)
    rw [← toInt_w64]; exact h
  by_cases h5 : op = 5
  · subst h5
    refine each_s 2 a b (bv a ||| bv b) _ ?_ (fun i hi => by simp)
    rw [← toInt_w64]; exact h
  by_cases h6 : op = 6
  · subst h6
    refine each_s 3 a b (bv a ^^^ bv b) _ ?_ (fun i hi => by simp)
    rw [← toInt_w64]; exact h
  obtain ⟨n, hn⟩ : ∃ n : Nat, b % 64 = n := ⟨(b % 64).toNat, by omega⟩
  have hnt : (b % 64).toNat = n := by omega
  by_cases h7 : op = 7
  · subst h7
    refine shiftr_s 7 a b hb (bv a <<< n) _ ?_ n hn (fun i hi => ?_) (by simp)
    · rw [bv_mul_pow, ← hnt]; exact h
    · rw [BitVec.getLsbD_shiftLeft]
      by_cases hc : n ≤ i
      · have : ¬ i < n := by omega
        simp [hc, hi, this]
      · have : i < n := by omega
        simp [hc, this]
  by_cases h8 : op = 8
  · subst h8
    refine shiftr_s 8 a b hb (bv a >>> n) _ ?_ n hn (fun i hi => ?_) (by simp)
    · rw [bv_shr, ← hnt]; exact h
    · rw [BitVec.getLsbD_ushiftRight]
      by_cases hc : i + n < 64
      · rw [if_neg (by decide), if_pos hc, Nat.add_comm]
      · simp [hc]; exact BitVec.getLsbD_of_ge _ _ (by omega)
  by_cases h9 : op = 9
  · subst h9
    refine shiftr_s 9 a b hb ((bv a).sshiftRight n) _ ?_ n hn (fun i hi => ?_) (by simp)
    · rw [bv_sar a ha, ← hnt]; exact h
    · rw [getLsb_sar _ _ _ hi]
      by_cases hc : n + i < 64
      · rw [if_pos hc]
        have hc' : i + n < 64 := by omega
        rw [if_neg (by decide), if_pos hc', Nat.add_comm]
      · rw [if_neg hc]
        have hc' : ¬ i + n < 64 := by omega
        simp [hc']
  by_cases h10 : op = 10
  · subst h10
    simp only [show ((10 : Int) = 1) = False by simp, show ((10 : Int) = 2) = False by simp, show ((10 : Int) = 3) = False by simp, show ((10 : Int) = 4) = False by simp, show ((10 : Int) = 5) = False by simp, show ((10 : Int) = 6) = False by simp, if_false, true_or, if_true] at h
    unfold divI at h
    show br (b == 0) (k 0 false) _
    simp only [br_beq]
    by_cases hz : b = 0
    · rw [if_pos hz] at h ⊢; exact h
    · rw [if_neg hz] at h ⊢
      simp only [if_true] at h
      refine sizes_s a ha _ (sizes_s b hb _ (divide_s _ _ (by omega) (by omega) (by omega) _ ?_))
      rw [tdiv_sign] at h
      simp only [if_true]
      simp only [br_not, br_beq]
      by_cases hs : a < 0 ↔ b < 0
      · have : decide (a < 0) = decide (b < 0) := by simpa using hs
        rw [if_pos this]
        rw [if_pos hs] at h; exact h
      · have : ¬ decide (a < 0) = decide (b < 0) := by simpa using hs
        rw [if_neg this]
        rw [if_neg hs] at h
        refine neg_s _ _ ?_
        rw [w64_neg]; exact h
  by_cases h11 : op = 11
  · subst h11
    simp only [show ((11 : Int) = 1) = False by simp, show ((11 : Int) = 2) = False by simp, show ((11 : Int) = 3) = False by simp, show ((11 : Int) = 4) = False by simp, show ((11 : Int) = 5) = False by simp, show ((11 : Int) = 6) = False by simp, if_false, or_true, if_true] at h
    unfold divI at h
    show br (b == 0) (k 0 false) _
    simp only [br_beq]
    by_cases hz : b = 0
    · rw [if_pos hz] at h ⊢; exact h
    · rw [if_neg hz] at h ⊢
      simp only [show ((11 : Int) = 10) = False by simp, if_false] at h
      refine sizes_s a ha _ (sizes_s b hb _ (divide_s _ _ (by omega) (by omega) (by omega) _ ?_))
      rw [tmod_sign] at h
      simp only [show ((11 : Int) = 10) = False by simp, if_false]
      have hlt : a.natAbs % b.natAbs < b.natAbs := Nat.mod_lt _ (by omega)
      simp only [br_dec]
      by_cases hs : a < 0
      · rw [if_pos hs] at h ⊢
        refine neg_s _ _ ?_
        rw [w64_neg, w64_id ⟨by omega, by omega⟩]; exact h
      · rw [if_neg hs] at h ⊢
        have hle : a.natAbs % b.natAbs ≤ a.natAbs := Nat.mod_le _ _
        rw [wrap_id (by omega) (by omega)]; exact h
  have hsh : shiftsI op a b = (0, false) := by unfold shiftsI; simp [h7, h8, h9]
  rw [hsh] at h
  simp only [h1, h2, h3, h4, h5, h6, h10, h11, or_self, if_false] at h
  simp only [br_beq, h1, h2, h3, h4, h5, h6, h7, h8, h9, h10, h11, if_false, show ∀ x y : Int, x ≠ y → (x == y) = false from fun x y h => by simp [h], ne_eq, not_false_eq_true, br_false]
  unfold compI at h
  by_cases h12 : op = 12
  · subst h12
    refine less_s _ _ ha hb _ ?_
    simp only [br_not, br_dec]
    split
    · rename_i hlt
      refine flagr_s _ _ ?_
      have : (a == b) = false := by simp; omega
      simp [this] at h; exact h
    · rename_i hlt
      refine less_s _ _ hb ha _ (flagr_s _ _ ?_)
      have : (a == b) = !decide (b < a) := by rw [Bool.eq_iff_iff]; simp; omega
      simp only [if_true] at h
      rw [← this]; exact h
  by_cases h13 : op = 13
  · subst h13
    simp only [show ((13 : Int) = 12) = False by simp, if_false, if_true] at h ⊢
    refine less_s _ _ ha hb _ ?_
    simp only [br_dec]
    split
    · rename_i hlt
      refine flagr_s _ _ ?_
      have : (!(a == b)) = true := by simp; omega
      rw [this] at h; exact h
    · rename_i hlt
      refine less_s _ _ hb ha _ (flagr_s _ _ ?_)
      have : (!(a == b)) = decide (b < a) := by rw [Bool.eq_iff_iff]; simp; omega
      rw [← this]; exact h
  by_cases h14 : op = 14
  · subst h14
    simp only [show ((14 : Int) = 12) = False by simp, show ((14 : Int) = 13) = False by simp, show ((14 : Int) = 15) = False by simp, if_false, if_true] at h ⊢
    exact less_s _ _ ha hb _ (flagr_s _ _ h)
  by_cases h15 : op = 15
  · subst h15
    simp only [show ((15 : Int) = 12) = False by simp, show ((15 : Int) = 13) = False by simp, show ((15 : Int) = 14) = False by simp, if_false, if_true] at h ⊢
    refine less_s _ _ hb ha _ (flagr_s _ _ ?_)
    have : decide (a ≤ b) = !decide (b < a) := by rw [Bool.eq_iff_iff]; simp
    rw [← this]; exact h
  simp only [h12, h13, h14, h15, if_false] at h ⊢
  exact h
end Go.Proofs.Yt
namespace Go.Proofs.Yt
open Go Go.Aw Go.Proofs
set_option linter.unusedVariables false
set_option linter.unusedSimpArgs false
set_option maxRecDepth 100000
/-! dyehouse/dyehouselaw01.NumDoes -/
namespace N6
noncomputable def cfg : Cfg := { P := Try.prog, ty := tys, E := tab [(25, N25.ent), (26, N26.ent), (27, N27.ent), (28, N28.ent)], atSeq := tab [], atLoop := tab [], outs := [] }
noncomputable def body : Code := bodyOf Try.f6
def c (x0 : Int) (x1 : Int) (x2 : Int) (k : Bool → Prop) : Prop :=
  (N25.f x0 x1 x2 (fun (y0_0 : Int) (y1_0 : Bool) => (N26.f x0 x1 x2 (fun (y0_1 : Int) (y1_1 : Bool) => (N26.f x0 x1 (1 : Int) (fun (y0_2 : Int) (y1_2 : Bool) => (br (y0_0 == y0_1) (br (y1_0 == y1_1) (N27.f x0 (fun (y0_3 : Bool) => (br (y0_3 == y1_2) (N28.f (fun (y0_4 : Bool) => (k y0_4))) (k false)))) (k false)) (k false))))))))
def f0 (x0 : Int) (x1 : Int) (x2 : Int) (k : Bool → Prop) : Prop := c x0 x1 x2 k
theorem f_ex : ∃ g : Int → Int → Int → (Bool → Prop) → Prop, g = f0 := ⟨_, rfl⟩
noncomputable def f : Int → Int → Int → (Bool → Prop) → Prop := Classical.choose f_ex
theorem f_def : f = f0 := Classical.choose_spec f_ex
noncomputable def JJ (k kp : D → List Blk → Prop) : Nat → St → Prop := pick none' []
noncomputable def LL (k kp : D → List Blk → Prop) : Nat → St → Prop := pick none' []
theorem c_c (k kp : D → List Blk → Prop) (J L : Nat → St → Prop) (x0 : Int) (x1 : Int) (x2 : Int) : runC cfg 1000001 J L none'' [] body (topK cfg Try.f6 k kp) (st0 Try.f6 [(.v (.int IntKind.i64 x0)), (.v (.int IntKind.i64 x1)), (.v (.int IntKind.i64 x2))] []) = c x0 x1 x2 (fun y0 => k (.v (.bool y0)) []) := by kernel_rfl
theorem c_ag (k kp : D → List Blk → Prop) : agPL cfg 1000001 (JJ k kp) (LL k kp) [] body = agPR cfg 1000001 none'' [] body (topK cfg Try.f6 k kp) := by kernel_rfl
theorem body_is : Try.f6.body = some body := by kernel_rfl
theorem c_raw (k kp : D → List Blk → Prop) (x0 : Int) (x1 : Int) (x2 : Int) : funW cfg Try.f6 [(.v (.int IntKind.i64 x0)), (.v (.int IntKind.i64 x1)), (.v (.int IntKind.i64 x2))] [] k kp = c x0 x1 x2 (fun y0 => k (.v (.bool y0)) []) :=
  Eq.mp (by kernel_rfl) ((funW_run (AG := none'') body_is (c_ag k kp) [(.v (.int IntKind.i64 x0)), (.v (.int IntKind.i64 x1)), (.v (.int IntKind.i64 x2))] []).trans (c_c k kp (JJ k kp) (LL k kp) x0 x1 x2))
theorem f_eq (k kp : D → List Blk → Prop) (x0 : Int) (x1 : Int) (x2 : Int) : funW cfg Try.f6 [(.v (.int IntKind.i64 x0)), (.v (.int IntKind.i64 x1)), (.v (.int IntKind.i64 x2))] [] k kp = f x0 x1 x2 (fun y0 => k (.v (.bool y0)) []) := by
  rw [f_def, c_raw]; rfl
noncomputable def ent0 : Entry := fun args blks k _ => match args, blks with
  | [d0, d1, d2], [] => aInt IntKind.i64 d0 fun x0 => aInt IntKind.i64 d1 fun x1 => aInt IntKind.i64 d2 fun x2 => f x0 x1 x2 (fun y0 => k (.v (.bool y0)) [])
  | _, _ => False
noncomputable def ent : Entry := fun args blks k kp => ent0 (convA [none, none, none] args) blks k kp
theorem ok : EntOk Try.prog 0 0 6 ent := by
  refine EntOk.conv (EntOk.of (funW_ok (cfg := cfg) (tyOk_of rfl rfl tyL_ok) (eqOk_none rfl) mixed_ok (tab_ok ?_) Try.func6 (by rfl) (by rfl)) ?_) _
  · intro p hp
    simp only [List.mem_cons, List.not_mem_nil, or_false] at hp
    rcases hp with rfl | rfl | rfl | rfl
    · exact N25.ok
    · exact N26.ok
    · exact N27.ok
    · exact N28.ok
  · intro args blks k kp h k' kp'
    match args, blks, h with
    | [d0, d1, d2], [], h =>
    dsimp only [ent0] at h
    have h9 := aInt_elim h; clear h; obtain ⟨x0, rfl, h⟩ := h9
    have h9 := aInt_elim h; clear h; obtain ⟨x1, rfl, h⟩ := h9
    have h9 := aInt_elim h; clear h; obtain ⟨x2, rfl, h⟩ := h9
    exact (f_eq k' kp' x0 x1 x2).symm
end N6
end Go.Proofs.Yt
namespace Go.Proofs.Yt.NumDoes
open Go Go.Aw Go.Proofs Go.Proofs.Ytbedcdiacpbgpaa Go.ChangeShapes Go.WideShapes Go.ChangeAt Go.RowKit
set_option linter.unusedVariables false
set_option linter.unusedSimpArgs false
set_option maxRecDepth 100000
/-! 6 dyehouse/dyehouselaw01.NumDoes -/
def Pure : Prop := ∀ (x0 : Int) (w0 : (Lit.int IntKind.i64 x0).wf = true) (x1 : Int) (w1 : (Lit.int IntKind.i64 x1).wf = true) (x2 : Int) (w2 : (Lit.int IntKind.i64 x2).wf = true), N6.f x0 x1 x2 (fun y0 => y0 = true)
theorem own : ownKnob Try.prog.godebug = none := by kernel_rfl
theorem laid : laidOutB Try.prog = true := by kernel_rfl
theorem lifted (pure : Pure) (os : Os) (started : os.Started) (H : Type) (enc : TypeId × Value → H) :
    ReturnsInHanded {} Try.checked os 6 .any (Rows.numDoesSpec.pre6 enc Try.prog Try.f6 Rows.numDoesRow.domain false) (Rows.numDoesSpec.post enc Try.prog Try.f6 false true false false) := by
  refine returnsInHanded_of_change_sized (C := Try.checked) own started (by kernel_rfl) Try.func6
    (ChangeSpec.witness6 (enc := enc) (C := Try.checked) false ⟨#[], #[.int IntKind.i64 0, .int IntKind.i64 0, .int IntKind.i64 0], []⟩ 6 (by kernel_rfl) (by kernel_rfl) (by kernel_rfl) (by kernel_rfl)) ?_
  intro W base args ds gs before hval0 hW hcnd hsz0 _
  have hsz : (DataW.weightsEach Try.prog (Try.f6.params.toList ++ Rows.numDoesSpec.plain.varTypes Try.prog) (ds ++ gs)).all (· ≤ reachBytes) = true := hsz0
  have hval : ∀ (j : Nat) t v, Try.f6.params[j]? = some t → args[j]? = some v → Value.okWide Try.prog W .any base t v := hval0
  have hW' := hW
  have hlt := hW.lt
  obtain ⟨p, q, hA0, hV, rfl, hfz, hnd⟩ := hW
  have hA : DataW.TrodAll enc Try.prog W 0 (fun _ => true) true Try.f6.params.toList args.toList ds p := hA0
  have hAk := hA
  rw [Try.params6] at hA hval hsz
  obtain ⟨v0, vs0, d0, ds0, p0, q0, hargs, rfl, rfl, h0, r0⟩ := trodAll_cons hA
  obtain ⟨v1, vs1, d1, ds1, p1, q1, rfl, rfl, rfl, h1, r1⟩ := trodAll_cons r0
  obtain ⟨v2, vs2, d2, ds2, p2, q2, rfl, rfl, rfl, h2, r2⟩ := trodAll_cons r1
  obtain ⟨rfl, rfl, rfl⟩ := trodAll_nil r2
  obtain rfl : args = #[v0, v1, v2] := by cases args; simp_all
  obtain ⟨rfl, rfl⟩ := trodVars_none hV
  obtain ⟨x0, k0, w0⟩ := arg_int (tf := 0) (tw := 0) (n := 1) (k := IntKind.i64) (by kernel_rfl) (hval 0 3 v0 rfl rfl) h0
  obtain ⟨x1, k1, w1⟩ := arg_int (tf := 0) (tw := 0) (n := 1) (k := IntKind.i64) (by kernel_rfl) (hval 1 3 v1 rfl rfl) h1
  obtain ⟨x2, k2, w2⟩ := arg_int (tf := 0) (tw := 0) (n := 1) (k := IntKind.i64) (by kernel_rfl) (hval 2 3 v2 rfl rfl) h2
  refine (law_of N6.ok (W := W) (us := [v0, v1, v2]) (ds := [.v (.int IntKind.i64 x0), .v (.int IntKind.i64 x1), .v (.int IntKind.i64 x2)]) ⟨_, _, rfl, k0, ⟨_, _, rfl, k1, ⟨_, _, rfl, k2, by simp only [RepL]⟩⟩⟩ (show N6.ent _ _ _ _ from pure x0 w0 x1 w1 x2 w2)).mono fun e W' ⟨he, bel⟩ => ?_
  subst he
  exact ⟨_, rfl, _, _, _, [], _, [], hW', trodAll_mk1 (shut_bool (by kernel_rfl) _), trodAll_below laid bel (by kernel_rfl) hAk (fun x hx => hlt x (by simpa using hx)), rfl, bel.frame _, fun h => by cases h⟩
theorem over (pure : Pure) : Rows.numDoesRow.holds Try.pinned (OpenSpec.ofChange Rows.numDoesSpec) :=
  OpenClaim.holds_of_wide 6 Try.f6 rfl rfl rfl rfl rfl rfl rfl ⟨rfl, rfl, rfl, rfl, rfl⟩ rfl rfl rfl rfl rfl (by kernel_rfl) Try.func6 (by kernel_rfl)
    (of_decide_eq_true (by kernel_rfl)) (by unfold Func.isWrapper; first | (rw [if_pos (by decide +kernel)]; kernel_rfl) | (rw [if_neg (by decide +kernel)]; exact ⟨rfl, rfl⟩))
    (fun os started H enc _ => lifted pure os started H enc)
theorem holds (pure : Pure) : Rows.NumDoesSaid := over pure
end Go.Proofs.Yt.NumDoes
namespace Go.Proofs.Yt.NumDoes
open Go Go.Aw Go.Proofs Go.RowKit
set_option linter.unusedVariables false
set_option linter.unusedSimpArgs false

theorem is_does (op a : Int) : (doI op a 1).2 = (decide (1 ≤ op) && decide (op ≤ 15)) := by
  by_cases h : 1 ≤ op ∧ op ≤ 15
  · have : op = 1 ∨ op = 2 ∨ op = 3 ∨ op = 4 ∨ op = 5 ∨ op = 6 ∨ op = 7 ∨ op = 8 ∨ op = 9 ∨ op = 10 ∨ op = 11 ∨ op = 12 ∨ op = 13 ∨ op = 14 ∨ op = 15 := by omega
    rcases this with rfl | rfl | rfl | rfl | rfl | rfl | rfl | rfl | rfl | rfl | rfl | rfl | rfl | rfl | rfl <;> rfl
  · have h1 : ∀ c : Int, 1 ≤ c → c ≤ 15 → op ≠ c := fun c h1 h2 e => h (by omega)
    have e : (decide (1 ≤ op) && decide (op ≤ 15)) = false := by
      simp only [Bool.and_eq_false_iff, decide_eq_false_iff_not]
      omega
    rw [e]
    unfold doI shiftsI compI
    simp [h1 1, h1 2, h1 3, h1 4, h1 5, h1 6, h1 7, h1 8, h1 9, h1 10, h1 11, h1 12, h1 13, h1 14, h1 15]

theorem pure : Pure := by
  intro op wo a wa b wb
  have ha := wf64 wa
  have hb := wf64 wb
  have hw : N28.f (fun y => y = true) := works_s _ rfl
  rw [N6.f_def]
  unfold N6.f0 N6.c
  rw [do_s]
  refine refdo_s _ _ _ ha hb _ (refdo_s _ _ _ ha ⟨by decide, by decide⟩ _ ?_)
  rw [is_does]
  simp [is_s, hw]

theorem proved : Go.Proofs.Ytbedcdiacpbgpaa.Rows.NumDoesSaid := holds pure
end Go.Proofs.Yt.NumDoes
namespace Go.Proofs.Ytbedcdiacpbgpaa
/-- The statement. -/
theorem numDoes_holds : Rows.NumDoesSaid := Go.Proofs.Yt.NumDoes.proved
#print axioms numDoes_holds
end Go.Proofs.Ytbedcdiacpbgpaa
