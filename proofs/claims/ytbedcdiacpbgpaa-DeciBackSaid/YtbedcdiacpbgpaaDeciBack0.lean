/- For every whole number n of 64 bits and all texts ahead and behind the law DeciBack returns true: no further conditions. -/
import Derived.Test.YtbedcdiacpbgpaaT1
import Derived.OpenShut
import Derived.SizedLaws
import Derived.Test.YtbedcdiacpbgpaaProg
import Derived.Test.YtbedcdiacpbgpaaRows
import Derived.WalkKit
import Derived.ProofKit
import Derived.ShutString
import Derived.ChangeOld
import Derived.Below
namespace Go.Aw
open Go.RowKit
set_option linter.unusedVariables false

/-! ### Words for plain proofs -/
@[simp] theorem br_true (p q : Prop) : br true p q = p := rfl
@[simp] theorem br_false (p q : Prop) : br false p q = q := rfl
theorem br_of {b : Bool} {p q : Prop} (h1 : b = true → p) (h2 : b = false → q) : br b p q := by
  cases b
  · exact h2 rfl
  · exact h1 rfl
theorem br_iff {b : Bool} {p q : Prop} : br b p q ↔ (b = true → p) ∧ (b = false → q) := by cases b <;> simp
@[simp] theorem br_dec {c : Prop} [Decidable c] {p q : Prop} : br (decide c) p q = if c then p else q := by
  by_cases h : c <;> simp [h]
@[simp] theorem br_beq {α : Type} [BEq α] [LawfulBEq α] [DecidableEq α] {a b : α} {p q : Prop} : br (a == b) p q = if a = b then p else q := by
  by_cases h : a = b
  · simp [h]
  · rw [if_neg h, show (a == b) = false by simpa using h]; rfl
@[simp] theorem br_bne {α : Type} [BEq α] [LawfulBEq α] [DecidableEq α] {a b : α} {p q : Prop} : br (a != b) p q = if a = b then q else p := by
  by_cases h : a = b
  · simp [h]
  · rw [if_neg h, show (a != b) = true by simpa using h]; rfl
@[simp] theorem br_not {b : Bool} {p q : Prop} : br (!b) p q = br b q p := by cases b <;> rfl
theorem br_bif {α : Sort _} {b : Bool} {k : α → Prop} {x y : α} : br b (k x) (k y) = k (bif b then x else y) := by cases b <;> rfl

abbrev w64 (n : Int) : Int := IntKind.i64.wrap n
theorem w64_eq (n : Int) : w64 n = n.bmod (2 ^ 64) := by
  unfold w64 IntKind.wrap
  simp only [IntKind.bits, IntKind.signed]
  unfold Int.bmod
  simp
  split <;> split <;> omega
theorem wu64_eq (n : Int) : IntKind.u64.wrap n = n % 2 ^ 64 := by
  unfold IntKind.wrap
  simp [IntKind.bits, IntKind.signed]
theorem wu8_eq (n : Int) : IntKind.u8.wrap n = n % 256 := by
  unfold IntKind.wrap
  simp [IntKind.bits, IntKind.signed]
/-- A number fits into 64 bits. -/
def in64 (n : Int) : Prop := -9223372036854775808 ≤ n ∧ n ≤ 9223372036854775807
theorem wf64 {n : Int} (h : (Lit.int .i64 n).wf = true) : in64 n := by
  simp [Lit.wf, IntKind.min, IntKind.max, IntKind.signed, IntKind.bits] at h
  exact h
theorem w64_id {n : Int} (h : in64 n) : w64 n = n := by
  unfold in64 at h
  rw [w64_eq]
  apply Int.bmod_eq_of_le <;> omega
theorem wrap_id {n : Int} (h1 : -9223372036854775808 ≤ n) (h2 : n ≤ 9223372036854775807) : IntKind.i64.wrap n = n := w64_id ⟨h1, h2⟩
theorem w64_in (n : Int) : in64 (w64 n) := by
  unfold in64
  rw [w64_eq]
  have h1 := @Int.le_bmod n (2 ^ 64) (by decide)
  have h2 := @Int.bmod_lt n (2 ^ 64) (by decide)
  omega

theorem drop_get {α : Type} {l : List α} {i : Nat} {d : α} (h : i < l.length) : l.drop i = l.getD i d :: l.drop (i + 1) := by
  rw [List.drop_eq_getElem_cons h]; simp [List.getD, List.getElem?_eq_getElem h]
end Go.Aw
namespace Go.Aw
set_option linter.unusedVariables false

/-! ### Bytes and texts -/
theorem ba_append (a b : Array UInt8) : (ByteArray.mk a ++ ByteArray.mk b) = ByteArray.mk (a ++ b) := by
  apply ByteArray.ext
  simp
theorem bytesOf_append (a b : List Int) : bytesOf (a ++ b) = bytesOf a ++ bytesOf b := by
  unfold bytesOf
  rw [ba_append]
  simp
theorem size_append (a b : ByteArray) : (a ++ b).size = a.size + b.size := by simp
theorem bytesOf_size (l : List Int) : (bytesOf l).size = l.length := by
  unfold bytesOf
  simp [ByteArray.size]
theorem bytesOf_ofBytes (s : ByteArray) : bytesOf (ofBytes s) = s := by
  unfold bytesOf ofBytes
  apply ByteArray.ext
  simp [List.map_map]
  apply Array.ext'
  simp
  apply List.ext_getElem
  · simp
  · intro i h1 h2
    simp
theorem ofBytes_length (s : ByteArray) : (ofBytes s).length = s.size := by
  unfold ofBytes
  rw [List.length_map, Array.length_toList]; rfl
theorem beqS_self (a : ByteArray) : beqS a a = true := (beqS_iff a a).2 rfl

/-- A byte, as a number. -/
def isB (x : Int) : Prop := 0 ≤ x ∧ x < 256
theorem ofBytes_bytesOf {l : List Int} (h : ∀ x ∈ l, isB x) : ofBytes (bytesOf l) = l := by
  unfold ofBytes bytesOf
  simp only [List.map_map]
  conv => rhs; rw [← List.map_id l]
  apply List.map_congr_left
  intro x hx
  obtain ⟨h1, h2⟩ := h x hx
  simp
  omega
theorem ofBytes_isB (s : ByteArray) : ∀ x ∈ ofBytes s, isB x := by
  intro x hx
  unfold ofBytes at hx
  obtain ⟨b, _, rfl⟩ := List.mem_map.1 hx
  have := b.toNat_lt
  exact ⟨by omega, by omega⟩
theorem byteAt_eq (s : ByteArray) (i : Nat) : byteAt s i = (ofBytes s).getD i 0 := by
  unfold byteAt ofBytes
  simp only [Int.toNat_natCast, List.getD, List.getElem?_map, Array.getElem?_toList, Array.getD_eq_getD_getElem?]
  cases s.data[i]? <;> simp
theorem ofBytes_append (a b : ByteArray) : ofBytes (a ++ b) = ofBytes a ++ ofBytes b := by
  unfold ofBytes
  simp
theorem ofBytes_extract (s : ByteArray) (i j : Nat) : ofBytes (s.extract i j) = ((ofBytes s).take j).drop i := by
  unfold ofBytes
  rw [ByteArray.data_extract, Array.toList_extract, List.extract_eq_take_drop, List.map_take, List.map_drop, List.drop_take]
theorem eq_of_ofBytes {a b : ByteArray} (h : ofBytes a = ofBytes b) : a = b := by rw [← bytesOf_ofBytes a, ← bytesOf_ofBytes b, h]
theorem getD_isB (s : ByteArray) (i : Nat) : isB ((ofBytes s).getD i 0) := by
  by_cases h : i < (ofBytes s).length
  · simp only [List.getD, List.getElem?_eq_getElem h, Option.getD_some]
    exact ofBytes_isB s _ (List.getElem_mem h)
  · simp only [List.getD, List.getElem?_eq_none (by omega : (ofBytes s).length ≤ i), Option.getD_none]
    exact ⟨by decide, by decide⟩

/-! ### Digits, the lowest first -/
def dl : Nat → Nat → List Int
  | 0, _ => []
  | f + 1, u => ((48 + u % 10 : Nat) : Int) :: if u / 10 = 0 then [] else dl f (u / 10)

theorem dl_succ (f u : Nat) : dl (f + 1) u = ((48 + u % 10 : Nat) : Int) :: if u / 10 = 0 then [] else dl f (u / 10) := rfl

/-- A row of digits' value, the highest first. -/
def val (l : List Int) : Nat := l.foldl (fun a d => 10 * a + (d - 48).toNat) 0
def isD (x : Int) : Prop := 48 ≤ x ∧ x ≤ 57
instance (x : Int) : Decidable (isD x) := inferInstanceAs (Decidable (_ ∧ _))

theorem val_snoc (l : List Int) (d : Int) : val (l ++ [d]) = 10 * val l + (d - 48).toNat := by simp [val]
theorem dl_isD : ∀ (f u : Nat), ∀ x ∈ dl f u, isD x
  | 0, u, x, h => by cases h
  | f + 1, u, x, h => by
    unfold dl at h
    rcases List.mem_cons.1 h with rfl | h
    · exact ⟨by omega, by omega⟩
    · split at h
      · cases h
      · exact dl_isD f _ x h
theorem dl_val : ∀ (f u : Nat), u < 10 ^ f → val (dl f u).reverse = u
  | 0, u, h => by simp at h; subst h; rfl
  | f + 1, u, h => by
    unfold dl
    rw [List.reverse_cons, val_snoc]
    have e : (((48 + u % 10 : Nat) : Int) - 48).toNat = u % 10 := by omega
    rw [e]
    split
    · rename_i hz
      have : val ([] : List Int).reverse = 0 := rfl
      rw [this]; omega
    · rw [dl_val f (u / 10) (by rw [Nat.pow_succ] at h; omega)]; omega
theorem dl_ne (f u : Nat) : dl (f + 1) u ≠ [] := by unfold dl; simp
theorem dl_len_pos (f u : Nat) : 0 < (dl (f + 1) u).length := List.length_pos_iff.2 (dl_ne f u)
theorem dl_len_le : ∀ (f u : Nat), (dl f u).length ≤ f
  | 0, _ => by simp [dl]
  | f + 1, u => by
    unfold dl
    split
    · simp
    · have := dl_len_le f (u / 10); simp; omega
/-- The highest digit is no nought, but of nought alone. -/
theorem dl_top : ∀ (f u : Nat), u < 10 ^ f → (dl f u).getLast? = some 48 → u = 0
  | 0, u, h, _ => by simp at h; exact h
  | f + 1, u, h, h2 => by
    unfold dl at h2
    split at h2
    · rename_i hz
      simp at h2
      omega
    · rename_i hz
      have h3 : u / 10 < 10 ^ f := by rw [Nat.pow_succ] at h; omega
      cases hd : dl f (u / 10) with
      | nil =>
        cases f with
        | zero => simp at h3; omega
        | succ f => exact absurd hd (dl_ne f _)
      | cons x r =>
        rw [hd] at h2
        have h4 : (x :: r).getLast? = some 48 := by simpa [List.getLast?_cons_cons] using h2
        rw [← hd] at h4
        have := dl_top f (u / 10) h3 h4
        omega
/-- Digits without a nought ahead are those of their value. -/
theorem dl_of_val : ∀ (l : List Int) (f : Nat), l.length ≤ f → (∀ x ∈ l, isD x) → l ≠ [] → (l.head? = some 48 → l = [48]) → val l < 10 ^ f ∧ dl f (val l) = l.reverse := by
  intro l
  induction h : l.length using Nat.strongRecOn generalizing l with
  | ind n ih =>
    intro f hf hd hne hz
    subst h
    obtain ⟨m, d, rfl⟩ : ∃ m d, l = m ++ [d] := ⟨l.dropLast, l.getLast hne, (List.dropLast_concat_getLast hne).symm⟩
    have hdd : isD d := hd d (by simp)
    obtain ⟨hd1, hd2⟩ := hdd
    rw [val_snoc]
    cases f with
    | zero => simp at hf
    | succ f =>
      by_cases hm : m = []
      · subst hm
        have e0 : val ([] : List Int) = 0 := rfl
        rw [e0]
        refine ⟨?_, ?_⟩
        · have : 1 ≤ 10 ^ f := Nat.one_le_pow _ _ (by decide)
          rw [Nat.pow_succ]; omega
        · unfold dl
          rw [if_pos (by omega)]
          simp
          omega
      · have hlen : m.length ≤ f := by simp at hf; omega
        have hz' : m.head? = some 48 → m = [48] := by
          intro h1
          have : (m ++ [d]).head? = some 48 := by
            cases m with
            | nil => exact absurd rfl hm
            | cons x r => simpa using h1
          have := hz this
          cases m with
          | nil => exact absurd rfl hm
          | cons x r => simp at this
        obtain ⟨h1, h2⟩ := ih m.length (by simp) m rfl f hlen (fun x hx => hd x (by simp [hx])) hm hz'
        have hpos : 0 < val m := by
          rcases Nat.eq_zero_or_pos (val m) with h0 | h0
          · exfalso
            have hh : m.head? = some 48 := by
              rw [h0] at h2
              cases f with
              | zero => simp at hlen; exact absurd hlen hm
              | succ f =>
                have : dl (f + 1) 0 = [48] := by unfold dl; simp
                rw [this] at h2
                have : m = [48] := by
                  have := congrArg List.reverse h2
                  simpa using this.symm
                subst this; rfl
            have : (m ++ [d]).head? = some 48 := by
              cases m with
              | nil => exact absurd rfl hm
              | cons x r => simpa using hh
            have := hz this
            cases m with
            | nil => exact absurd rfl hm
            | cons x r => simp at this
          · exact h0
        have e1 : (10 * val m + (d - 48).toNat) / 10 = val m := by omega
        have e2 : (10 * val m + (d - 48).toNat) % 10 = (d - 48).toNat := by omega
        refine ⟨by rw [Nat.pow_succ]; omega, ?_⟩
        unfold dl
        rw [e1, e2, if_neg (by omega), h2, List.reverse_append]
        simp
        omega

/-- How many digits stand ahead. -/
def run : List Int → Nat
  | [] => 0
  | x :: r => if isD x then run r + 1 else 0
theorem run_le : ∀ (l : List Int), run l ≤ l.length
  | [] => Nat.le_refl _
  | x :: r => by unfold run; split <;> simp; have := run_le r; omega
theorem run_isD : ∀ (l : List Int), ∀ x ∈ l.take (run l), isD x
  | [], x, h => by simp [run] at h
  | y :: r, x, h => by
    unfold run at h
    split at h
    · rename_i hy
      rcases List.mem_cons.1 (by simpa using h) with rfl | h
      · exact hy
      · exact run_isD r x h
    · simp at h
theorem run_app : ∀ (l m : List Int), (∀ x ∈ l, isD x) → (∀ x, m.head? = some x → ¬ isD x) → run (l ++ m) = l.length
  | [], [], _, _ => rfl
  | [], y :: m, _, h => by simp [run, h y rfl]
  | x :: l, m, h, h2 => by
    simp only [List.cons_append, run, List.length_cons]
    rw [if_pos (h x (by simp)), run_app l m (fun y hy => h y (by simp [hy])) h2]
/-- One more digit. -/
theorem run_step {l : List Int} {i j : Nat} (h : run (l.drop i) = j) (hj : i + j < l.length) : ¬ isD (l.getD (i + j) 0) := by
  induction j generalizing i with
  | zero =>
    rw [drop_get (d := 0) (by omega)] at h
    unfold run at h
    split at h
    · omega
    · rename_i hn; simpa using hn
  | succ j ih =>
    have hi : i < l.length := by omega
    rw [drop_get (d := 0) hi] at h
    unfold run at h
    split at h
    · have := ih (i := i + 1) (by omega) (by omega)
      rwa [show i + 1 + j = i + (j + 1) by omega] at this
    · omega
theorem runIn {l : List Int} {i j : Nat} (hj : j < run (l.drop i)) : isD (l.getD (i + j) 0) := by
  have h := run_isD (l.drop i) ((l.drop i).getD j 0) (by
    have h1 := run_le (l.drop i)
    have h2 : j < (l.drop i).length := by omega
    have e : (l.drop i).getD j 0 = (l.drop i)[j] := by simp [List.getD, List.getElem?_eq_getElem h2]
    rw [e]
    exact List.mem_take_iff_getElem.2 ⟨j, by omega, rfl⟩)
  simpa [List.getD, List.getElem?_drop] using h

theorem drop_set_self {α : Type} {l : List α} {a : Nat} {x : α} (h : a < l.length) : (l.set a x).drop a = x :: l.drop (a + 1) := by
  rw [List.drop_set, if_neg (Nat.lt_irrefl _), Nat.sub_self, List.drop_eq_getElem_cons h]
  rfl
theorem tmod10 (m : Int) : Int.tmod m 10 = if m < 0 then -((m.natAbs % 10 : Nat) : Int) else ((m.natAbs % 10 : Nat) : Int) := by
  split
  · have : m = -(m.natAbs : Int) := by omega
    rw [this, Int.neg_tmod, Int.natAbs_neg, Int.natAbs_natCast]; norm_cast
  · have : m = (m.natAbs : Int) := by omega
    rw [this, Int.natAbs_natCast]; norm_cast
theorem tdiv10 (m : Int) : Int.tdiv m 10 = if m < 0 then -((m.natAbs / 10 : Nat) : Int) else ((m.natAbs / 10 : Nat) : Int) := by
  split
  · have : m = -(m.natAbs : Int) := by omega
    rw [this, Int.neg_tdiv, Int.natAbs_neg, Int.natAbs_natCast]; norm_cast
  · have : m = (m.natAbs : Int) := by omega
    rw [this, Int.natAbs_natCast]; norm_cast

theorem val_le_foldl : ∀ (m : List Int) (a : Nat), a ≤ m.foldl (fun a d => 10 * a + (d - 48).toNat) a
  | [], a => Nat.le_refl _
  | d :: m, a => by
    simp only [List.foldl_cons]
    exact Nat.le_trans (by omega) (val_le_foldl m _)
theorem val_take (l : List Int) (i : Nat) : val (l.take i) ≤ val l := by
  conv => rhs; rw [← List.take_append_drop i l]
  unfold val
  rw [List.foldl_append]
  exact val_le_foldl _ _
theorem val_take_succ {l : List Int} {i : Nat} (h : i < l.length) : val (l.take (i + 1)) = 10 * val (l.take i) + (l.getD i 0 - 48).toNat := by
  have : l.take (i + 1) = l.take i ++ [l.getD i 0] := by
    rw [List.take_succ_eq_append_getElem h]; simp [List.getD, List.getElem?_eq_getElem h]
  rw [this, val_snoc]

/-- What stands at a place, as a number: the number, where it ends, and what is wrong. -/
def scanI (l : List Int) (at_ : Int) : Int × Int × Int :=
  if at_ < 0 ∨ at_ > (l.length : Int) then (0, 0, 1) else
  let minus := decide (at_.toNat < l.length) && (l.getD at_.toNat 0 == 45)
  let fr := at_.toNat + minus.toNat
  let r := run (l.drop fr)
  if r = 0 ∨ (l.getD fr 0 = 48 ∧ (1 < r ∨ minus = true)) then (0, 0, 12) else
  let v := val ((l.drop fr).take r)
  if v > 2 ^ 63 ∨ (v = 2 ^ 63 ∧ minus = false) then (0, 0, 2) else (if minus = true then -(v : Int) else v, ((fr + r : Nat) : Int), 0)
def getI (l : List Int) : Int × Int := if (scanI l 0).2.2 ≠ 0 then (0, (scanI l 0).2.2) else if (scanI l 0).2.1 < (l.length : Int) then (0, 12) else ((scanI l 0).1, 0)
end Go.Aw
namespace Go.Proofs.Yt
open Go.Aw Go.Proofs
set_option linter.unusedVariables false
set_option linter.unusedSimpArgs false
set_option maxRecDepth 100000
def tyL : List (Nat × Ty) := [(5, (Ty.int IntKind.u8)), (9, Ty.str), (4, Ty.bool), (3, (Ty.int IntKind.i64))]
def tys : Nat → Option Ty := tab tyL
theorem mixed_ok : Try.prog.follows .mixedOrders = true := by kernel_rfl
theorem tyL_ok : tyL.all (tyRight Try.prog) = true := by kernel_rfl
end Go.Proofs.Yt
namespace Go.Proofs.Yt
open Go Go.Aw Go.Proofs
set_option linter.unusedVariables false
set_option linter.unusedSimpArgs false
set_option maxRecDepth 100000
/-! dyehouse/deci.Put -/
namespace N34
noncomputable def cfg : Cfg := { P := Try.prog, ty := tys, E := tab [], atSeq := tab [(8, ⟨[(0, .keep), (3, .keep), (4, .keep), (5, .keep), (6, .keep)]⟩), (11, ⟨[(0, .keep), (3, .keep), (4, .keep)]⟩), (4, ⟨[(0, .keep), (3, .keep), (4, .keep), (5, .keep)]⟩), (14, ⟨[(3, .keep), (4, .keep)]⟩)], atLoop := tab [(5, ⟨[(0, .keep), (3, .keep), (4, .keep), (5, .keep)]⟩)], outs := [] }
noncomputable def body : Code := bodyOf Try.f34
def l5 (j8 : Int → Int → Int → Int → (List Int) → Prop) (x0 : Int) (x4 : Int) (x5 : Int) (b0 : (List Int)) (k : ByteArray → Prop) : Prop :=
  (((10 : Int) ≠ 0) ∧ (br (decide ((Int.tmod x5 (10 : Int)) < (0 : Int))) (j8 x0 x4 x5 (IntKind.i64.wrap (0 - (Int.tmod x5 (10 : Int)))) b0) (j8 x0 x4 x5 (Int.tmod x5 (10 : Int)) b0)))
def j8 (j11 : Int → Int → (List Int) → Prop) (j4 : Int → Int → Int → (List Int) → Prop) (x0 : Int) (x4 : Int) (x5 : Int) (x6 : Int) (b0 : (List Int)) (k : ByteArray → Prop) : Prop :=
  ((inB 0 (IntKind.i64.wrap (x4 - (1 : Int))) (((20 : Nat) : Int) - 1)) ∧ (((10 : Int) ≠ 0) ∧ (br ((IntKind.i64.wrap (Int.tdiv x5 (10 : Int))) == (0 : Int)) (j11 x0 (IntKind.i64.wrap (x4 - (1 : Int))) (b0.set (Int.toNat (IntKind.i64.wrap (x4 - (1 : Int)))) (IntKind.u8.wrap (IntKind.i64.wrap ((48 : Int) + x6))))) (j4 x0 (IntKind.i64.wrap (x4 - (1 : Int))) x5 (b0.set (Int.toNat (IntKind.i64.wrap (x4 - (1 : Int)))) (IntKind.u8.wrap (IntKind.i64.wrap ((48 : Int) + x6))))))))
def j11 (j14 : Int → (List Int) → Prop) (x0 : Int) (x4 : Int) (b0 : (List Int)) (k : ByteArray → Prop) : Prop :=
  (br (decide (x0 < (0 : Int))) ((inB 0 (IntKind.i64.wrap (x4 - (1 : Int))) (((20 : Nat) : Int) - 1)) ∧ (j14 (IntKind.i64.wrap (x4 - (1 : Int))) (b0.set (Int.toNat (IntKind.i64.wrap (x4 - (1 : Int)))) (45 : Int)))) (j14 x4 b0))
def j4 (ag5 : Int → Int → (List Int) → Prop) (x0 : Int) (x4 : Int) (x5 : Int) (b0 : (List Int)) (k : ByteArray → Prop) : Prop :=
  (((10 : Int) ≠ 0) ∧ (ag5 x4 (IntKind.i64.wrap (Int.tdiv x5 (10 : Int))) b0))
def j14 (x4 : Int) (b0 : (List Int)) (k : ByteArray → Prop) : Prop :=
  ((inB x4 (20 : Int) (20 : Int)) ∧ (((20 : Int) ≤ ((20 : Nat) : Int)) ∧ (k (bytesOf (List.drop (Int.toNat x4) (List.take (Int.toNat (20 : Int)) b0))))))
def c (l5 : Int → Int → Int → (List Int) → Prop) (x0 : Int) (k : ByteArray → Prop) : Prop :=
  (l5 x0 (20 : Int) x0 (List.replicate 20 (0)))
def j4' (ag5 : Int → Int → (List Int) → Prop) (x0 : Int) (x4 : Int) (x5 : Int) (b0 : (List Int)) (k : ByteArray → Prop) : Prop := j4 ag5 x0 x4 x5 b0 k
def j14' (x4 : Int) (b0 : (List Int)) (k : ByteArray → Prop) : Prop := j14 x4 b0 k
def j11' (x0 : Int) (x4 : Int) (b0 : (List Int)) (k : ByteArray → Prop) : Prop := j11 (fun x4 b0 => j14' x4 b0 k) x0 x4 b0 k
def j8' (ag5 : Int → Int → (List Int) → Prop) (x0 : Int) (x4 : Int) (x5 : Int) (x6 : Int) (b0 : (List Int)) (k : ByteArray → Prop) : Prop := j8 (fun x0 x4 b0 => j11' x0 x4 b0 k) (fun x0 x4 x5 b0 => j4' ag5 x0 x4 x5 b0 k) x0 x4 x5 x6 b0 k
def l5' (x0 : Int) (x4 : Int) (x5 : Int) (b0 : (List Int)) (k : ByteArray → Prop) : Prop := ∃ n, loopS (fun (ag : (Int × Int × (List Int)) → Prop) (s : Int × Int × (List Int)) => l5 (fun x0 x4 x5 x6 b0 => j8' (fun x4 x5 b0 => ag (x4, x5, b0)) x0 x4 x5 x6 b0 k) x0 s.1 s.2.1 s.2.2 k) n (x4, x5, b0)
def f0 (x0 : Int) (k : ByteArray → Prop) : Prop := c (fun x0 x4 x5 b0 => l5' x0 x4 x5 b0 k) x0 k
theorem f_ex : ∃ g : Int → (ByteArray → Prop) → Prop, g = f0 := ⟨_, rfl⟩
noncomputable def f : Int → (ByteArray → Prop) → Prop := Classical.choose f_ex
theorem f_def : f = f0 := Classical.choose_spec f_ex
def mL5 (x0 : Int) (x4 : Int) (x5 : Int) (b0 : (List Int)) : St := { tmps := mkT 35 0 [(0, (.v (.int IntKind.i64 x0))), (3, (.ptr 0 0)), (4, (.v (.int IntKind.i64 x4))), (5, (.v (.int IntKind.i64 x5)))], hp := [(.arr 64 20 (Ty.int IntKind.u8) b0 false)], m := 0 }
def m8 (x0 : Int) (x4 : Int) (x5 : Int) (x6 : Int) (b0 : (List Int)) : St := { tmps := mkT 35 0 [(0, (.v (.int IntKind.i64 x0))), (3, (.ptr 0 0)), (4, (.v (.int IntKind.i64 x4))), (5, (.v (.int IntKind.i64 x5))), (6, (.v (.int IntKind.i64 x6)))], hp := [(.arr 64 20 (Ty.int IntKind.u8) b0 false)], m := 0 }
def m11 (x0 : Int) (x4 : Int) (b0 : (List Int)) : St := { tmps := mkT 35 0 [(0, (.v (.int IntKind.i64 x0))), (3, (.ptr 0 0)), (4, (.v (.int IntKind.i64 x4)))], hp := [(.arr 64 20 (Ty.int IntKind.u8) b0 false)], m := 0 }
def m4 (x0 : Int) (x4 : Int) (x5 : Int) (b0 : (List Int)) : St := { tmps := mkT 35 0 [(0, (.v (.int IntKind.i64 x0))), (3, (.ptr 0 0)), (4, (.v (.int IntKind.i64 x4))), (5, (.v (.int IntKind.i64 x5)))], hp := [(.arr 64 20 (Ty.int IntKind.u8) b0 false)], m := 0 }
def m14 (x4 : Int) (b0 : (List Int)) : St := { tmps := mkT 35 0 [(3, (.ptr 0 0)), (4, (.v (.int IntKind.i64 x4)))], hp := [(.arr 64 20 (Ty.int IntKind.u8) b0 false)], m := 0 }
noncomputable def YL5 (k kp : D → List Blk → Prop) : (St → Prop) → St → Prop := loopB cfg (sub [1, 1, 1, 0, 1, 0, 0] body) (contK cfg (pick none' []) [1, 1, 1, 0, 1, 0] body (topK cfg Try.f34 k kp))
noncomputable def XL5 (k kp : D → List Blk → Prop) : St → Prop := fun st => ∃ n, loopN (YL5 k kp) n st
noncomputable def X8 (k kp : D → List Blk → Prop) (ag5 : St → Prop) : St → Prop := atP cfg (pick none' [(5, ag5)]) [1, 1, 1, 0, 1, 0, 0, 0, 0, 1, 1] body (topK cfg Try.f34 k kp)
noncomputable def X11 (k kp : D → List Blk → Prop) : St → Prop := atP cfg (pick none' []) [1, 1, 1, 1] body (topK cfg Try.f34 k kp)
noncomputable def X4 (k kp : D → List Blk → Prop) (ag5 : St → Prop) : St → Prop := atP cfg (pick none' [(5, ag5)]) [1, 1, 1, 0, 1, 0, 0, 1] body (topK cfg Try.f34 k kp)
noncomputable def X14 (k kp : D → List Blk → Prop) : St → Prop := atP cfg (pick none' []) [1, 1, 1, 1, 1] body (topK cfg Try.f34 k kp)
noncomputable def JJ_5 (k kp : D → List Blk → Prop) (ag5 : St → Prop) : Nat → St → Prop := pick none' [(8, X8 k kp ag5), (11, X11 k kp), (4, X4 k kp ag5), (14, X14 k kp)]
noncomputable def LL_5 (k kp : D → List Blk → Prop) (ag5 : St → Prop) : Nat → St → Prop := pick none' [(5, XL5 k kp)]
noncomputable def JJ (k kp : D → List Blk → Prop) : Nat → St → Prop := pick none' [(11, X11 k kp), (14, X14 k kp)]
noncomputable def LL (k kp : D → List Blk → Prop) : Nat → St → Prop := pick none' [(5, XL5 k kp)]
theorem j4_c (k kp : D → List Blk → Prop) (J L : Nat → St → Prop) (ag5 : St → Prop) (x0 : Int) (x4 : Int) (x5 : Int) (b0 : (List Int)) : runC cfg 4 J L (pick none' [(5, ag5)]) [1, 1, 1, 0, 1, 0, 0, 1] body (topK cfg Try.f34 k kp) (m4 x0 x4 x5 b0) = j4 (fun x4 x5 b0 => ag5 (mL5 x0 x4 x5 b0)) x0 x4 x5 b0 (fun y0 => k (.v (.string y0)) []) := by kernel_rfl
theorem j4_ag (k kp : D → List Blk → Prop) (ag5 : St → Prop) : agPL cfg 4 (JJ_5 k kp ag5) (LL_5 k kp ag5) [1, 1, 1, 0, 1, 0, 0, 1] body = agPR cfg 4 (pick none' [(5, ag5)]) [1, 1, 1, 0, 1, 0, 0, 1] body (topK cfg Try.f34 k kp) := by kernel_rfl
theorem j4_raw (k kp : D → List Blk → Prop) (ag5 : St → Prop) (x0 : Int) (x4 : Int) (x5 : Int) (b0 : (List Int)) : X4 k kp ag5 (m4 x0 x4 x5 b0) = j4 (fun x4 x5 b0 => ag5 (mL5 x0 x4 x5 b0)) x0 x4 x5 b0 (fun y0 => k (.v (.string y0)) []) :=
  Eq.mp (by kernel_rfl) ((atP_run (j4_ag k kp ag5) (m4 x0 x4 x5 b0)).trans (j4_c k kp (JJ_5 k kp ag5) (LL_5 k kp ag5) ag5 x0 x4 x5 b0))
theorem j4_eq (k kp : D → List Blk → Prop) (ag5 : St → Prop) (x0 : Int) (x4 : Int) (x5 : Int) (b0 : (List Int)) : X4 k kp ag5 (m4 x0 x4 x5 b0) = j4' (fun x4 x5 b0 => ag5 (mL5 x0 x4 x5 b0)) x0 x4 x5 b0 (fun y0 => k (.v (.string y0)) []) := by
  rw [j4_raw]; rfl
theorem j14_c (k kp : D → List Blk → Prop) (J L : Nat → St → Prop) (x4 : Int) (b0 : (List Int)) : runC cfg 14 J L (pick none' []) [1, 1, 1, 1, 1] body (topK cfg Try.f34 k kp) (m14 x4 b0) = j14 x4 b0 (fun y0 => k (.v (.string y0)) []) := by kernel_rfl
theorem j14_ag (k kp : D → List Blk → Prop) : agPL cfg 14 (JJ k kp) (LL k kp) [1, 1, 1, 1, 1] body = agPR cfg 14 (pick none' []) [1, 1, 1, 1, 1] body (topK cfg Try.f34 k kp) := by kernel_rfl
theorem j14_raw (k kp : D → List Blk → Prop) (x4 : Int) (b0 : (List Int)) : X14 k kp (m14 x4 b0) = j14 x4 b0 (fun y0 => k (.v (.string y0)) []) :=
  Eq.mp (by kernel_rfl) ((atP_run (j14_ag k kp) (m14 x4 b0)).trans (j14_c k kp (JJ k kp) (LL k kp) x4 b0))
theorem j14_eq (k kp : D → List Blk → Prop) (x4 : Int) (b0 : (List Int)) : X14 k kp (m14 x4 b0) = j14' x4 b0 (fun y0 => k (.v (.string y0)) []) := by
  rw [j14_raw]; rfl
theorem j11_c (k kp : D → List Blk → Prop) (J L : Nat → St → Prop) (x0 : Int) (x4 : Int) (b0 : (List Int)) : runC cfg 11 J L (pick none' []) [1, 1, 1, 1] body (topK cfg Try.f34 k kp) (m11 x0 x4 b0) = j11 (fun x4 b0 => J 14 (m14 x4 b0)) x0 x4 b0 (fun y0 => k (.v (.string y0)) []) := by kernel_rfl
theorem j11_ag (k kp : D → List Blk → Prop) : agPL cfg 11 (JJ k kp) (LL k kp) [1, 1, 1, 1] body = agPR cfg 11 (pick none' []) [1, 1, 1, 1] body (topK cfg Try.f34 k kp) := by kernel_rfl
theorem j11_raw (k kp : D → List Blk → Prop) (x0 : Int) (x4 : Int) (b0 : (List Int)) : X11 k kp (m11 x0 x4 b0) = j11 (fun x4 b0 => X14 k kp (m14 x4 b0)) x0 x4 b0 (fun y0 => k (.v (.string y0)) []) :=
  Eq.mp (by kernel_rfl) ((atP_run (j11_ag k kp) (m11 x0 x4 b0)).trans (j11_c k kp (JJ k kp) (LL k kp) x0 x4 b0))
theorem j11_eq (k kp : D → List Blk → Prop) (x0 : Int) (x4 : Int) (b0 : (List Int)) : X11 k kp (m11 x0 x4 b0) = j11' x0 x4 b0 (fun y0 => k (.v (.string y0)) []) := by
  rw [j11_raw]; simp only [j14_eq]; first | done | rfl
theorem j8_c (k kp : D → List Blk → Prop) (J L : Nat → St → Prop) (ag5 : St → Prop) (x0 : Int) (x4 : Int) (x5 : Int) (x6 : Int) (b0 : (List Int)) : runC cfg 8 J L (pick none' [(5, ag5)]) [1, 1, 1, 0, 1, 0, 0, 0, 0, 1, 1] body (topK cfg Try.f34 k kp) (m8 x0 x4 x5 x6 b0) = j8 (fun x0 x4 b0 => J 11 (m11 x0 x4 b0)) (fun x0 x4 x5 b0 => J 4 (m4 x0 x4 x5 b0)) x0 x4 x5 x6 b0 (fun y0 => k (.v (.string y0)) []) := by kernel_rfl
theorem j8_ag (k kp : D → List Blk → Prop) (ag5 : St → Prop) : agPL cfg 8 (JJ_5 k kp ag5) (LL_5 k kp ag5) [1, 1, 1, 0, 1, 0, 0, 0, 0, 1, 1] body = agPR cfg 8 (pick none' [(5, ag5)]) [1, 1, 1, 0, 1, 0, 0, 0, 0, 1, 1] body (topK cfg Try.f34 k kp) := by kernel_rfl
theorem j8_raw (k kp : D → List Blk → Prop) (ag5 : St → Prop) (x0 : Int) (x4 : Int) (x5 : Int) (x6 : Int) (b0 : (List Int)) : X8 k kp ag5 (m8 x0 x4 x5 x6 b0) = j8 (fun x0 x4 b0 => X11 k kp (m11 x0 x4 b0)) (fun x0 x4 x5 b0 => X4 k kp ag5 (m4 x0 x4 x5 b0)) x0 x4 x5 x6 b0 (fun y0 => k (.v (.string y0)) []) :=
  Eq.mp (by kernel_rfl) ((atP_run (j8_ag k kp ag5) (m8 x0 x4 x5 x6 b0)).trans (j8_c k kp (JJ_5 k kp ag5) (LL_5 k kp ag5) ag5 x0 x4 x5 x6 b0))
theorem j8_eq (k kp : D → List Blk → Prop) (ag5 : St → Prop) (x0 : Int) (x4 : Int) (x5 : Int) (x6 : Int) (b0 : (List Int)) : X8 k kp ag5 (m8 x0 x4 x5 x6 b0) = j8' (fun x4 x5 b0 => ag5 (mL5 x0 x4 x5 b0)) x0 x4 x5 x6 b0 (fun y0 => k (.v (.string y0)) []) := by
  rw [j8_raw]; simp only [j11_eq, j4_eq]; first | done | rfl
theorem l5_c (k kp : D → List Blk → Prop) (J L : Nat → St → Prop) (ag5 : St → Prop) (x0 : Int) (x4 : Int) (x5 : Int) (b0 : (List Int)) : runC cfg 1000001 J L (pick none' [(5, ag5)]) [1, 1, 1, 0, 1, 0, 0] body (topK cfg Try.f34 k kp) (mL5 x0 x4 x5 b0) = l5 (fun x0 x4 x5 x6 b0 => J 8 (m8 x0 x4 x5 x6 b0)) x0 x4 x5 b0 (fun y0 => k (.v (.string y0)) []) := by kernel_rfl
theorem l5_ag (k kp : D → List Blk → Prop) (ag5 : St → Prop) : agPL cfg 1000001 (JJ_5 k kp ag5) (LL_5 k kp ag5) [1, 1, 1, 0, 1, 0, 0] body = agPR cfg 1000001 (pick none' [(5, ag5)]) [1, 1, 1, 0, 1, 0, 0] body (topK cfg Try.f34 k kp) := by kernel_rfl
theorem l5_raw (k kp : D → List Blk → Prop) (ag5 : St → Prop) (x0 : Int) (x4 : Int) (x5 : Int) (b0 : (List Int)) : YL5 k kp ag5 (mL5 x0 x4 x5 b0) = l5 (fun x0 x4 x5 x6 b0 => X8 k kp ag5 (m8 x0 x4 x5 x6 b0)) x0 x4 x5 b0 (fun y0 => k (.v (.string y0)) []) :=
  Eq.mp (by kernel_rfl) ((atP_run (l5_ag k kp ag5) (mL5 x0 x4 x5 b0)).trans (l5_c k kp (JJ_5 k kp ag5) (LL_5 k kp ag5) ag5 x0 x4 x5 b0))
theorem l5_eq (k kp : D → List Blk → Prop) (x0 : Int) (x4 : Int) (x5 : Int) (b0 : (List Int)) : XL5 k kp (mL5 x0 x4 x5 b0) = l5' x0 x4 x5 b0 (fun y0 => k (.v (.string y0)) []) :=
  loop_eq (mk := fun (s : Int × Int × (List Int)) => mL5 x0 s.1 s.2.1 s.2.2) (fun again s => by rw [l5_raw k kp again x0 s.1 s.2.1 s.2.2]; simp only [j8_eq]; first | done | rfl) (x4, x5, b0)
theorem c_c (k kp : D → List Blk → Prop) (J L : Nat → St → Prop) (x0 : Int) : runC cfg 1000001 J L none'' [] body (topK cfg Try.f34 k kp) (st0 Try.f34 [(.v (.int IntKind.i64 x0))] []) = c (fun x0 x4 x5 b0 => L 5 (mL5 x0 x4 x5 b0)) x0 (fun y0 => k (.v (.string y0)) []) := by kernel_rfl
theorem c_ag (k kp : D → List Blk → Prop) : agPL cfg 1000001 (JJ k kp) (LL k kp) [] body = agPR cfg 1000001 none'' [] body (topK cfg Try.f34 k kp) := by kernel_rfl
theorem body_is : Try.f34.body = some body := by kernel_rfl
theorem c_raw (k kp : D → List Blk → Prop) (x0 : Int) : funW cfg Try.f34 [(.v (.int IntKind.i64 x0))] [] k kp = c (fun x0 x4 x5 b0 => XL5 k kp (mL5 x0 x4 x5 b0)) x0 (fun y0 => k (.v (.string y0)) []) :=
  Eq.mp (by kernel_rfl) ((funW_run (AG := none'') body_is (c_ag k kp) [(.v (.int IntKind.i64 x0))] []).trans (c_c k kp (JJ k kp) (LL k kp) x0))
theorem f_eq (k kp : D → List Blk → Prop) (x0 : Int) : funW cfg Try.f34 [(.v (.int IntKind.i64 x0))] [] k kp = f x0 (fun y0 => k (.v (.string y0)) []) := by
  rw [f_def, c_raw]; simp only [l5_eq]; first | done | rfl
noncomputable def ent0 : Entry := fun args blks k _ => match args, blks with
  | [d0], [] => aInt IntKind.i64 d0 fun x0 => f x0 (fun y0 => k (.v (.string y0)) [])
  | _, _ => False
noncomputable def ent : Entry := fun args blks k kp => ent0 (convA [none] args) blks k kp
theorem ok : EntOk Try.prog 0 0 34 ent := by
  refine EntOk.conv (EntOk.of (funW_ok (cfg := cfg) (tyOk_of rfl rfl tyL_ok) (eqOk_none rfl) mixed_ok (tab_ok ?_) Try.func34 (by rfl) (by rfl)) ?_) _
  · intro p hp
    cases hp
  · intro args blks k kp h k' kp'
    match args, blks, h with
    | [d0], [], h =>
    dsimp only [ent0] at h
    have h9 := aInt_elim h; clear h; obtain ⟨x0, rfl, h⟩ := h9
    exact (f_eq k' kp' x0).symm
end N34
end Go.Proofs.Yt
namespace Go.Proofs.Yt
open Go Go.Aw Go.Proofs
set_option linter.unusedVariables false
set_option linter.unusedSimpArgs false
set_option maxRecDepth 100000
/-! dyehouse/deci.Long -/
namespace N38
noncomputable def cfg : Cfg := { P := Try.prog, ty := tys, E := tab [], atSeq := tab [(4, ⟨[(0, .keep), (3, .keep)]⟩), (8, ⟨[(3, .keep)]⟩)], atLoop := tab [(5, ⟨[(0, .keep), (3, .keep)]⟩)], outs := [] }
noncomputable def body : Code := bodyOf Try.f38
def j4 (l5 : Int → Int → Prop) (x0 : Int) (x3 : Int) (k : Int → Prop) : Prop :=
  (((10 : Int) ≠ 0) ∧ (l5 (IntKind.i64.wrap (Int.tdiv x0 (10 : Int))) x3))
def l5 (j8 : Int → Prop) (ag5 : Int → Int → Prop) (x0 : Int) (x3 : Int) (k : Int → Prop) : Prop :=
  (br (x0 != (0 : Int)) (((10 : Int) ≠ 0) ∧ (ag5 (IntKind.i64.wrap (Int.tdiv x0 (10 : Int))) (IntKind.i64.wrap (x3 + (1 : Int))))) (j8 x3))
def j8 (x3 : Int) (k : Int → Prop) : Prop :=
  (k x3)
def c (j4 : Int → Int → Prop) (x0 : Int) (k : Int → Prop) : Prop :=
  (br (decide (x0 < (0 : Int))) (j4 x0 (IntKind.i64.wrap ((1 : Int) + (1 : Int)))) (j4 x0 (1 : Int)))
def j8' (x3 : Int) (k : Int → Prop) : Prop := j8 x3 k
def l5' (x0 : Int) (x3 : Int) (k : Int → Prop) : Prop := ∃ n, loopS (fun (ag : (Int × Int) → Prop) (s : Int × Int) => l5 (fun x3 => j8' x3 k) (fun x0 x3 => ag (x0, x3)) s.1 s.2 k) n (x0, x3)
def j4' (x0 : Int) (x3 : Int) (k : Int → Prop) : Prop := j4 (fun x0 x3 => l5' x0 x3 k) x0 x3 k
def f0 (x0 : Int) (k : Int → Prop) : Prop := c (fun x0 x3 => j4' x0 x3 k) x0 k
theorem f_ex : ∃ g : Int → (Int → Prop) → Prop, g = f0 := ⟨_, rfl⟩
noncomputable def f : Int → (Int → Prop) → Prop := Classical.choose f_ex
theorem f_def : f = f0 := Classical.choose_spec f_ex
def m4 (x0 : Int) (x3 : Int) : St := { tmps := mkT 17 0 [(0, (.v (.int IntKind.i64 x0))), (3, (.v (.int IntKind.i64 x3)))], hp := [], m := 0 }
def mL5 (x0 : Int) (x3 : Int) : St := { tmps := mkT 17 0 [(0, (.v (.int IntKind.i64 x0))), (3, (.v (.int IntKind.i64 x3)))], hp := [], m := 0 }
def m8 (x3 : Int) : St := { tmps := mkT 17 0 [(3, (.v (.int IntKind.i64 x3)))], hp := [], m := 0 }
noncomputable def X4 (k kp : D → List Blk → Prop) : St → Prop := atP cfg (pick none' []) [1, 1, 1] body (topK cfg Try.f38 k kp)
noncomputable def YL5 (k kp : D → List Blk → Prop) : (St → Prop) → St → Prop := loopB cfg (sub [1, 1, 1, 0, 1, 0, 0] body) (contK cfg (pick none' []) [1, 1, 1, 0, 1, 0] body (topK cfg Try.f38 k kp))
noncomputable def XL5 (k kp : D → List Blk → Prop) : St → Prop := fun st => ∃ n, loopN (YL5 k kp) n st
noncomputable def X8 (k kp : D → List Blk → Prop) : St → Prop := atP cfg (pick none' []) [1, 1, 1, 1] body (topK cfg Try.f38 k kp)
noncomputable def JJ (k kp : D → List Blk → Prop) : Nat → St → Prop := pick none' [(4, X4 k kp), (8, X8 k kp)]
noncomputable def LL (k kp : D → List Blk → Prop) : Nat → St → Prop := pick none' [(5, XL5 k kp)]
noncomputable def JJ_5 (k kp : D → List Blk → Prop) (ag5 : St → Prop) : Nat → St → Prop := pick none' [(4, X4 k kp), (8, X8 k kp)]
noncomputable def LL_5 (k kp : D → List Blk → Prop) (ag5 : St → Prop) : Nat → St → Prop := pick none' [(5, XL5 k kp)]
theorem j8_c (k kp : D → List Blk → Prop) (J L : Nat → St → Prop) (x3 : Int) : runC cfg 8 J L (pick none' []) [1, 1, 1, 1] body (topK cfg Try.f38 k kp) (m8 x3) = j8 x3 (fun y0 => k (.v (.int IntKind.i64 y0)) []) := by kernel_rfl
theorem j8_ag (k kp : D → List Blk → Prop) : agPL cfg 8 (JJ k kp) (LL k kp) [1, 1, 1, 1] body = agPR cfg 8 (pick none' []) [1, 1, 1, 1] body (topK cfg Try.f38 k kp) := by kernel_rfl
theorem j8_raw (k kp : D → List Blk → Prop) (x3 : Int) : X8 k kp (m8 x3) = j8 x3 (fun y0 => k (.v (.int IntKind.i64 y0)) []) :=
  Eq.mp (by kernel_rfl) ((atP_run (j8_ag k kp) (m8 x3)).trans (j8_c k kp (JJ k kp) (LL k kp) x3))
theorem j8_eq (k kp : D → List Blk → Prop) (x3 : Int) : X8 k kp (m8 x3) = j8' x3 (fun y0 => k (.v (.int IntKind.i64 y0)) []) := by
  rw [j8_raw]; rfl
theorem l5_c (k kp : D → List Blk → Prop) (J L : Nat → St → Prop) (ag5 : St → Prop) (x0 : Int) (x3 : Int) : runC cfg 1000001 J L (pick none' [(5, ag5)]) [1, 1, 1, 0, 1, 0, 0] body (topK cfg Try.f38 k kp) (mL5 x0 x3) = l5 (fun x3 => J 8 (m8 x3)) (fun x0 x3 => ag5 (mL5 x0 x3)) x0 x3 (fun y0 => k (.v (.int IntKind.i64 y0)) []) := by kernel_rfl
theorem l5_ag (k kp : D → List Blk → Prop) (ag5 : St → Prop) : agPL cfg 1000001 (JJ_5 k kp ag5) (LL_5 k kp ag5) [1, 1, 1, 0, 1, 0, 0] body = agPR cfg 1000001 (pick none' [(5, ag5)]) [1, 1, 1, 0, 1, 0, 0] body (topK cfg Try.f38 k kp) := by kernel_rfl
theorem l5_raw (k kp : D → List Blk → Prop) (ag5 : St → Prop) (x0 : Int) (x3 : Int) : YL5 k kp ag5 (mL5 x0 x3) = l5 (fun x3 => X8 k kp (m8 x3)) (fun x0 x3 => ag5 (mL5 x0 x3)) x0 x3 (fun y0 => k (.v (.int IntKind.i64 y0)) []) :=
  Eq.mp (by kernel_rfl) ((atP_run (l5_ag k kp ag5) (mL5 x0 x3)).trans (l5_c k kp (JJ_5 k kp ag5) (LL_5 k kp ag5) ag5 x0 x3))
theorem l5_eq (k kp : D → List Blk → Prop) (x0 : Int) (x3 : Int) : XL5 k kp (mL5 x0 x3) = l5' x0 x3 (fun y0 => k (.v (.int IntKind.i64 y0)) []) :=
  loop_eq (mk := fun (s : Int × Int) => mL5 s.1 s.2) (fun again s => by rw [l5_raw k kp again s.1 s.2]; simp only [j8_eq]; first | done | rfl) (x0, x3)
theorem j4_c (k kp : D → List Blk → Prop) (J L : Nat → St → Prop) (x0 : Int) (x3 : Int) : runC cfg 4 J L (pick none' []) [1, 1, 1] body (topK cfg Try.f38 k kp) (m4 x0 x3) = j4 (fun x0 x3 => L 5 (mL5 x0 x3)) x0 x3 (fun y0 => k (.v (.int IntKind.i64 y0)) []) := by kernel_rfl
theorem j4_ag (k kp : D → List Blk → Prop) : agPL cfg 4 (JJ k kp) (LL k kp) [1, 1, 1] body = agPR cfg 4 (pick none' []) [1, 1, 1] body (topK cfg Try.f38 k kp) := by kernel_rfl
theorem j4_raw (k kp : D → List Blk → Prop) (x0 : Int) (x3 : Int) : X4 k kp (m4 x0 x3) = j4 (fun x0 x3 => XL5 k kp (mL5 x0 x3)) x0 x3 (fun y0 => k (.v (.int IntKind.i64 y0)) []) :=
  Eq.mp (by kernel_rfl) ((atP_run (j4_ag k kp) (m4 x0 x3)).trans (j4_c k kp (JJ k kp) (LL k kp) x0 x3))
theorem j4_eq (k kp : D → List Blk → Prop) (x0 : Int) (x3 : Int) : X4 k kp (m4 x0 x3) = j4' x0 x3 (fun y0 => k (.v (.int IntKind.i64 y0)) []) := by
  rw [j4_raw]; simp only [l5_eq]; first | done | rfl
theorem c_c (k kp : D → List Blk → Prop) (J L : Nat → St → Prop) (x0 : Int) : runC cfg 1000001 J L none'' [] body (topK cfg Try.f38 k kp) (st0 Try.f38 [(.v (.int IntKind.i64 x0))] []) = c (fun x0 x3 => J 4 (m4 x0 x3)) x0 (fun y0 => k (.v (.int IntKind.i64 y0)) []) := by kernel_rfl
theorem c_ag (k kp : D → List Blk → Prop) : agPL cfg 1000001 (JJ k kp) (LL k kp) [] body = agPR cfg 1000001 none'' [] body (topK cfg Try.f38 k kp) := by kernel_rfl
theorem body_is : Try.f38.body = some body := by kernel_rfl
theorem c_raw (k kp : D → List Blk → Prop) (x0 : Int) : funW cfg Try.f38 [(.v (.int IntKind.i64 x0))] [] k kp = c (fun x0 x3 => X4 k kp (m4 x0 x3)) x0 (fun y0 => k (.v (.int IntKind.i64 y0)) []) :=
  Eq.mp (by kernel_rfl) ((funW_run (AG := none'') body_is (c_ag k kp) [(.v (.int IntKind.i64 x0))] []).trans (c_c k kp (JJ k kp) (LL k kp) x0))
theorem f_eq (k kp : D → List Blk → Prop) (x0 : Int) : funW cfg Try.f38 [(.v (.int IntKind.i64 x0))] [] k kp = f x0 (fun y0 => k (.v (.int IntKind.i64 y0)) []) := by
  rw [f_def, c_raw]; simp only [j4_eq]; first | done | rfl
noncomputable def ent0 : Entry := fun args blks k _ => match args, blks with
  | [d0], [] => aInt IntKind.i64 d0 fun x0 => f x0 (fun y0 => k (.v (.int IntKind.i64 y0)) [])
  | _, _ => False
noncomputable def ent : Entry := fun args blks k kp => ent0 (convA [none] args) blks k kp
theorem ok : EntOk Try.prog 0 0 38 ent := by
  refine EntOk.conv (EntOk.of (funW_ok (cfg := cfg) (tyOk_of rfl rfl tyL_ok) (eqOk_none rfl) mixed_ok (tab_ok ?_) Try.func38 (by rfl) (by rfl)) ?_) _
  · intro p hp
    cases hp
  · intro args blks k kp h k' kp'
    match args, blks, h with
    | [d0], [], h =>
    dsimp only [ent0] at h
    have h9 := aInt_elim h; clear h; obtain ⟨x0, rfl, h⟩ := h9
    exact (f_eq k' kp' x0).symm
end N38
end Go.Proofs.Yt
namespace Go.Proofs.Yt
open Go Go.Aw Go.Proofs
set_option linter.unusedVariables false
set_option linter.unusedSimpArgs false
set_option maxRecDepth 100000
/-! dyehouse/deci.Pad -/
namespace N36
noncomputable def cfg : Cfg := { P := Try.prog, ty := tys, E := tab [(38, N38.ent), (34, N34.ent)], atSeq := tab [(6, ⟨[(0, .keep), (5, .keep)]⟩)], atLoop := tab [(3, ⟨[(0, .keep), (5, .own 5 (Ty.int IntKind.u8)), (10, .keep), (11, .keep)]⟩)], outs := [] }
noncomputable def body : Code := bodyOf Try.f36
def l3 (j6 : Int → (List Int) → Prop) (ag3 : Int → (List Int) → Prop) (x0 : Int) (x10 : Int) (x11 : Int) (b0 : (List Int)) (k : ByteArray → Prop) : Prop :=
  (br (decide (x11 < x10)) ((room ((b0).length + (([(32 : Int)] : List Int)).length) 1) ∧ (ag3 (IntKind.i64.wrap (x11 + (1 : Int))) (b0 ++ ([(32 : Int)] : List Int)))) (j6 x0 b0))
def j6 (x0 : Int) (b0 : (List Int)) (k : ByteArray → Prop) : Prop :=
  (N34.f x0 (fun (y0_1 : ByteArray) => ((room ((b0).length + ((ofBytes y0_1)).length) 1) ∧ (k (bytesOf (b0 ++ (ofBytes y0_1)))))))
def c (l3 : Int → Int → Int → (List Int) → Prop) (x0 : Int) (x1 : Int) (k : ByteArray → Prop) : Prop :=
  (N38.f x0 (fun (y0_0 : Int) => (l3 x0 (IntKind.i64.wrap ((mmv true x1 (0 : Int)) - y0_0)) (0 : Int) ([] : List Int))))
def j6' (x0 : Int) (b0 : (List Int)) (k : ByteArray → Prop) : Prop := j6 x0 b0 k
def l3' (x0 : Int) (x10 : Int) (x11 : Int) (b0 : (List Int)) (k : ByteArray → Prop) : Prop := ∃ n, loopS (fun (ag : (Int × (List Int)) → Prop) (s : Int × (List Int)) => l3 (fun x0 b0 => j6' x0 b0 k) (fun x11 b0 => ag (x11, b0)) x0 x10 s.1 s.2 k) n (x11, b0)
def f0 (x0 : Int) (x1 : Int) (k : ByteArray → Prop) : Prop := c (fun x0 x10 x11 b0 => l3' x0 x10 x11 b0 k) x0 x1 k
theorem f_ex : ∃ g : Int → Int → (ByteArray → Prop) → Prop, g = f0 := ⟨_, rfl⟩
noncomputable def f : Int → Int → (ByteArray → Prop) → Prop := Classical.choose f_ex
theorem f_def : f = f0 := Classical.choose_spec f_ex
def mL3 (x0 : Int) (x10 : Int) (x11 : Int) (b0 : (List Int)) : St := { tmps := mkT 22 0 [(0, (.v (.int IntKind.i64 x0))), (5, (.sl 0 0)), (10, (.v (.int IntKind.i64 x10))), (11, (.v (.int IntKind.i64 x11)))], hp := [(.lst 5 (Ty.int IntKind.u8) b0 0 false)], m := 0 }
def m6 (x0 : Int) (b0 : (List Int)) : St := { tmps := mkT 22 0 [(0, (.v (.int IntKind.i64 x0))), (5, (.sl 0 0))], hp := [(.lst 5 (Ty.int IntKind.u8) b0 0 false)], m := 0 }
noncomputable def YL3 (k kp : D → List Blk → Prop) : (St → Prop) → St → Prop := loopB cfg (sub [1, 1, 0, 1, 0, 0] body) (contK cfg (pick none' []) [1, 1, 0, 1, 0] body (topK cfg Try.f36 k kp))
noncomputable def XL3 (k kp : D → List Blk → Prop) : St → Prop := fun st => ∃ n, loopN (YL3 k kp) n st
noncomputable def X6 (k kp : D → List Blk → Prop) : St → Prop := atP cfg (pick none' []) [1, 1, 1] body (topK cfg Try.f36 k kp)
noncomputable def JJ_3 (k kp : D → List Blk → Prop) (ag3 : St → Prop) : Nat → St → Prop := pick none' [(6, X6 k kp)]
noncomputable def LL_3 (k kp : D → List Blk → Prop) (ag3 : St → Prop) : Nat → St → Prop := pick none' [(3, XL3 k kp)]
noncomputable def JJ (k kp : D → List Blk → Prop) : Nat → St → Prop := pick none' [(6, X6 k kp)]
noncomputable def LL (k kp : D → List Blk → Prop) : Nat → St → Prop := pick none' [(3, XL3 k kp)]
theorem j6_c (k kp : D → List Blk → Prop) (J L : Nat → St → Prop) (x0 : Int) (b0 : (List Int)) : runC cfg 6 J L (pick none' []) [1, 1, 1] body (topK cfg Try.f36 k kp) (m6 x0 b0) = j6 x0 b0 (fun y0 => k (.v (.string y0)) []) := by kernel_rfl
theorem j6_ag (k kp : D → List Blk → Prop) : agPL cfg 6 (JJ k kp) (LL k kp) [1, 1, 1] body = agPR cfg 6 (pick none' []) [1, 1, 1] body (topK cfg Try.f36 k kp) := by kernel_rfl
theorem j6_raw (k kp : D → List Blk → Prop) (x0 : Int) (b0 : (List Int)) : X6 k kp (m6 x0 b0) = j6 x0 b0 (fun y0 => k (.v (.string y0)) []) :=
  Eq.mp (by kernel_rfl) ((atP_run (j6_ag k kp) (m6 x0 b0)).trans (j6_c k kp (JJ k kp) (LL k kp) x0 b0))
theorem j6_eq (k kp : D → List Blk → Prop) (x0 : Int) (b0 : (List Int)) : X6 k kp (m6 x0 b0) = j6' x0 b0 (fun y0 => k (.v (.string y0)) []) := by
  rw [j6_raw]; rfl
theorem l3_c (k kp : D → List Blk → Prop) (J L : Nat → St → Prop) (ag3 : St → Prop) (x0 : Int) (x10 : Int) (x11 : Int) (b0 : (List Int)) : runC cfg 1000001 J L (pick none' [(3, ag3)]) [1, 1, 0, 1, 0, 0] body (topK cfg Try.f36 k kp) (mL3 x0 x10 x11 b0) = l3 (fun x0 b0 => J 6 (m6 x0 b0)) (fun x11 b0 => ag3 (mL3 x0 x10 x11 b0)) x0 x10 x11 b0 (fun y0 => k (.v (.string y0)) []) := by kernel_rfl
theorem l3_ag (k kp : D → List Blk → Prop) (ag3 : St → Prop) : agPL cfg 1000001 (JJ_3 k kp ag3) (LL_3 k kp ag3) [1, 1, 0, 1, 0, 0] body = agPR cfg 1000001 (pick none' [(3, ag3)]) [1, 1, 0, 1, 0, 0] body (topK cfg Try.f36 k kp) := by kernel_rfl
theorem l3_raw (k kp : D → List Blk → Prop) (ag3 : St → Prop) (x0 : Int) (x10 : Int) (x11 : Int) (b0 : (List Int)) : YL3 k kp ag3 (mL3 x0 x10 x11 b0) = l3 (fun x0 b0 => X6 k kp (m6 x0 b0)) (fun x11 b0 => ag3 (mL3 x0 x10 x11 b0)) x0 x10 x11 b0 (fun y0 => k (.v (.string y0)) []) :=
  Eq.mp (by kernel_rfl) ((atP_run (l3_ag k kp ag3) (mL3 x0 x10 x11 b0)).trans (l3_c k kp (JJ_3 k kp ag3) (LL_3 k kp ag3) ag3 x0 x10 x11 b0))
theorem l3_eq (k kp : D → List Blk → Prop) (x0 : Int) (x10 : Int) (x11 : Int) (b0 : (List Int)) : XL3 k kp (mL3 x0 x10 x11 b0) = l3' x0 x10 x11 b0 (fun y0 => k (.v (.string y0)) []) :=
  loop_eq (mk := fun (s : Int × (List Int)) => mL3 x0 x10 s.1 s.2) (fun again s => by rw [l3_raw k kp again x0 x10 s.1 s.2]; simp only [j6_eq]; first | done | rfl) (x11, b0)
theorem c_c (k kp : D → List Blk → Prop) (J L : Nat → St → Prop) (x0 : Int) (x1 : Int) : runC cfg 1000001 J L none'' [] body (topK cfg Try.f36 k kp) (st0 Try.f36 [(.v (.int IntKind.i64 x0)), (.v (.int IntKind.i64 x1))] []) = c (fun x0 x10 x11 b0 => L 3 (mL3 x0 x10 x11 b0)) x0 x1 (fun y0 => k (.v (.string y0)) []) := by kernel_rfl
theorem c_ag (k kp : D → List Blk → Prop) : agPL cfg 1000001 (JJ k kp) (LL k kp) [] body = agPR cfg 1000001 none'' [] body (topK cfg Try.f36 k kp) := by kernel_rfl
theorem body_is : Try.f36.body = some body := by kernel_rfl
theorem c_raw (k kp : D → List Blk → Prop) (x0 : Int) (x1 : Int) : funW cfg Try.f36 [(.v (.int IntKind.i64 x0)), (.v (.int IntKind.i64 x1))] [] k kp = c (fun x0 x10 x11 b0 => XL3 k kp (mL3 x0 x10 x11 b0)) x0 x1 (fun y0 => k (.v (.string y0)) []) :=
  Eq.mp (by kernel_rfl) ((funW_run (AG := none'') body_is (c_ag k kp) [(.v (.int IntKind.i64 x0)), (.v (.int IntKind.i64 x1))] []).trans (c_c k kp (JJ k kp) (LL k kp) x0 x1))
theorem f_eq (k kp : D → List Blk → Prop) (x0 : Int) (x1 : Int) : funW cfg Try.f36 [(.v (.int IntKind.i64 x0)), (.v (.int IntKind.i64 x1))] [] k kp = f x0 x1 (fun y0 => k (.v (.string y0)) []) := by
  rw [f_def, c_raw]; simp only [l3_eq]; first | done | rfl
noncomputable def ent0 : Entry := fun args blks k _ => match args, blks with
  | [d0, d1], [] => aInt IntKind.i64 d0 fun x0 => aInt IntKind.i64 d1 fun x1 => f x0 x1 (fun y0 => k (.v (.string y0)) [])
  | _, _ => False
noncomputable def ent : Entry := fun args blks k kp => ent0 (convA [none, none] args) blks k kp
theorem ok : EntOk Try.prog 0 0 36 ent := by
  refine EntOk.conv (EntOk.of (funW_ok (cfg := cfg) (tyOk_of rfl rfl tyL_ok) (eqOk_none rfl) mixed_ok (tab_ok ?_) Try.func36 (by rfl) (by rfl)) ?_) _
  · intro p hp
    simp only [List.mem_cons, List.not_mem_nil, or_false] at hp
    rcases hp with rfl | rfl
    · exact N38.ok
    · exact N34.ok
  · intro args blks k kp h k' kp'
    match args, blks, h with
    | [d0, d1], [], h =>
    dsimp only [ent0] at h
    have h9 := aInt_elim h; clear h; obtain ⟨x0, rfl, h⟩ := h9
    have h9 := aInt_elim h; clear h; obtain ⟨x1, rfl, h⟩ := h9
    exact (f_eq k' kp' x0 x1).symm
end N36
end Go.Proofs.Yt
namespace Go.Proofs.Yt
open Go Go.Aw Go.Proofs
set_option linter.unusedVariables false
set_option linter.unusedSimpArgs false
set_option maxRecDepth 100000
/-! dyehouse/deci.digit -/
namespace N66
noncomputable def cfg : Cfg := { P := Try.prog, ty := tys, E := tab [], atSeq := tab [], atLoop := tab [], outs := [] }
noncomputable def body : Code := bodyOf Try.f66
def c (x0 : Int) (k : Int → Bool → Prop) : Prop :=
  (br (decide ((IntKind.i64.wrap ((IntKind.i64.wrap x0) - (48 : Int))) ≥ (0 : Int))) (k (IntKind.i64.wrap ((IntKind.i64.wrap x0) - (48 : Int))) (decide ((IntKind.i64.wrap ((IntKind.i64.wrap x0) - (48 : Int))) < (10 : Int)))) (k (IntKind.i64.wrap ((IntKind.i64.wrap x0) - (48 : Int))) false))
def f0 (x0 : Int) (k : Int → Bool → Prop) : Prop := c x0 k
theorem f_ex : ∃ g : Int → (Int → Bool → Prop) → Prop, g = f0 := ⟨_, rfl⟩
noncomputable def f : Int → (Int → Bool → Prop) → Prop := Classical.choose f_ex
theorem f_def : f = f0 := Classical.choose_spec f_ex
noncomputable def JJ (k kp : D → List Blk → Prop) : Nat → St → Prop := pick none' []
noncomputable def LL (k kp : D → List Blk → Prop) : Nat → St → Prop := pick none' []
theorem c_c (k kp : D → List Blk → Prop) (J L : Nat → St → Prop) (x0 : Int) : runC cfg 1000001 J L none'' [] body (topK cfg Try.f66 k kp) (st0 Try.f66 [(.v (.int IntKind.u8 x0))] []) = c x0 (fun y0 y1 => k (.tup [(.v (.int IntKind.i64 y0)), (.v (.bool y1))]) []) := by kernel_rfl
theorem c_ag (k kp : D → List Blk → Prop) : agPL cfg 1000001 (JJ k kp) (LL k kp) [] body = agPR cfg 1000001 none'' [] body (topK cfg Try.f66 k kp) := by kernel_rfl
theorem body_is : Try.f66.body = some body := by kernel_rfl
theorem c_raw (k kp : D → List Blk → Prop) (x0 : Int) : funW cfg Try.f66 [(.v (.int IntKind.u8 x0))] [] k kp = c x0 (fun y0 y1 => k (.tup [(.v (.int IntKind.i64 y0)), (.v (.bool y1))]) []) :=
  Eq.mp (by kernel_rfl) ((funW_run (AG := none'') body_is (c_ag k kp) [(.v (.int IntKind.u8 x0))] []).trans (c_c k kp (JJ k kp) (LL k kp) x0))
theorem f_eq (k kp : D → List Blk → Prop) (x0 : Int) : funW cfg Try.f66 [(.v (.int IntKind.u8 x0))] [] k kp = f x0 (fun y0 y1 => k (.tup [(.v (.int IntKind.i64 y0)), (.v (.bool y1))]) []) := by
  rw [f_def, c_raw]; rfl
noncomputable def ent0 : Entry := fun args blks k _ => match args, blks with
  | [d0], [] => aInt IntKind.u8 d0 fun x0 => f x0 (fun y0 y1 => k (.tup [(.v (.int IntKind.i64 y0)), (.v (.bool y1))]) [])
  | _, _ => False
noncomputable def ent : Entry := fun args blks k kp => ent0 (convA [none] args) blks k kp
theorem ok : EntOk Try.prog 0 0 66 ent := by
  refine EntOk.conv (EntOk.of (funW_ok (cfg := cfg) (tyOk_of rfl rfl tyL_ok) (eqOk_none rfl) mixed_ok (tab_ok ?_) Try.func66 (by rfl) (by rfl)) ?_) _
  · intro p hp
    cases hp
  · intro args blks k kp h k' kp'
    match args, blks, h with
    | [d0], [], h =>
    dsimp only [ent0] at h
    have h9 := aInt_elim h; clear h; obtain ⟨x0, rfl, h⟩ := h9
    exact (f_eq k' kp' x0).symm
end N66
end Go.Proofs.Yt
namespace Go.Proofs.Yt
open Go Go.Aw Go.Proofs
set_option linter.unusedVariables false
set_option linter.unusedSimpArgs false
set_option maxRecDepth 100000
/-! dyehouse/deci.span -/
namespace N62
noncomputable def cfg : Cfg := { P := Try.prog, ty := tys, E := tab [(66, N66.ent)], atSeq := tab [(2000003, ⟨[(0, .keep), (4, .keep), (6, .keep), (19, .keep)]⟩), (5, ⟨[(0, .keep), (4, .keep), (6, .keep)]⟩), (10, ⟨[(4, .keep), (5, .keep), (6, .keep)]⟩)], atLoop := tab [(6, ⟨[(0, .keep), (4, .keep), (5, .keep), (6, .keep)]⟩)], outs := [] }
noncomputable def body : Code := bodyOf Try.f62
def j2000003 (j5 : ByteArray → Int → Bool → Prop) (x0 : ByteArray) (x4 : Int) (x6 : Bool) (x19 : Bool) (k : Int → Int → Bool → Prop) : Prop :=
  (br x19 (j5 x0 (IntKind.i64.wrap (x4 + (1 : Int))) true) (j5 x0 x4 x6))
def j5 (l6 : ByteArray → Int → Int → Bool → Prop) (x0 : ByteArray) (x4 : Int) (x6 : Bool) (k : Int → Int → Bool → Prop) : Prop :=
  (l6 x0 x4 x4 x6)
def l6 (j10 : Int → Int → Bool → Prop) (ag6 : Int → Prop) (x0 : ByteArray) (x4 : Int) (x5 : Int) (x6 : Bool) (k : Int → Int → Bool → Prop) : Prop :=
  (br (decide (x5 < ((((x0).size : Nat) : Int)))) ((inB 0 x5 ((((x0).size : Nat) : Int) - 1)) ∧ (N66.f (byteAt x0 x5) (fun (y0_0 : Int) (y1_0 : Bool) => (br (!y1_0) (j10 x4 x5 x6) (ag6 (IntKind.i64.wrap (x5 + (1 : Int)))))))) (j10 x4 x5 x6))
def j10 (x4 : Int) (x5 : Int) (x6 : Bool) (k : Int → Int → Bool → Prop) : Prop :=
  (k x4 x5 x6)
def c (j2000003 : ByteArray → Int → Bool → Bool → Prop) (x0 : ByteArray) (x1 : Int) (k : Int → Int → Bool → Prop) : Prop :=
  (br (decide (x1 < ((((x0).size : Nat) : Int)))) ((inB 0 x1 ((((x0).size : Nat) : Int) - 1)) ∧ (j2000003 x0 x1 false ((byteAt x0 x1) == (45 : Int)))) (j2000003 x0 x1 false false))
def j10' (x4 : Int) (x5 : Int) (x6 : Bool) (k : Int → Int → Bool → Prop) : Prop := j10 x4 x5 x6 k
def l6' (x0 : ByteArray) (x4 : Int) (x5 : Int) (x6 : Bool) (k : Int → Int → Bool → Prop) : Prop := ∃ n, loopS (fun (ag : (Int) → Prop) (s : Int) => l6 (fun x4 x5 x6 => j10' x4 x5 x6 k) (fun x5 => ag (x5)) x0 x4 s x6 k) n (x5)
def j5' (x0 : ByteArray) (x4 : Int) (x6 : Bool) (k : Int → Int → Bool → Prop) : Prop := j5 (fun x0 x4 x5 x6 => l6' x0 x4 x5 x6 k) x0 x4 x6 k
def j2000003' (x0 : ByteArray) (x4 : Int) (x6 : Bool) (x19 : Bool) (k : Int → Int → Bool → Prop) : Prop := j2000003 (fun x0 x4 x6 => j5' x0 x4 x6 k) x0 x4 x6 x19 k
def f0 (x0 : ByteArray) (x1 : Int) (k : Int → Int → Bool → Prop) : Prop := c (fun x0 x4 x6 x19 => j2000003' x0 x4 x6 x19 k) x0 x1 k
theorem f_ex : ∃ g : ByteArray → Int → (Int → Int → Bool → Prop) → Prop, g = f0 := ⟨_, rfl⟩
noncomputable def f : ByteArray → Int → (Int → Int → Bool → Prop) → Prop := Classical.choose f_ex
theorem f_def : f = f0 := Classical.choose_spec f_ex
def m2000003 (x0 : ByteArray) (x4 : Int) (x6 : Bool) (x19 : Bool) : St := { tmps := mkT 41 0 [(0, (.v (.string x0))), (4, (.v (.int IntKind.i64 x4))), (6, (.v (.bool x6))), (19, (.v (.bool x19)))], hp := [], m := 0 }
def m5 (x0 : ByteArray) (x4 : Int) (x6 : Bool) : St := { tmps := mkT 41 0 [(0, (.v (.string x0))), (4, (.v (.int IntKind.i64 x4))), (6, (.v (.bool x6)))], hp := [], m := 0 }
def mL6 (x0 : ByteArray) (x4 : Int) (x5 : Int) (x6 : Bool) : St := { tmps := mkT 41 0 [(0, (.v (.string x0))), (4, (.v (.int IntKind.i64 x4))), (5, (.v (.int IntKind.i64 x5))), (6, (.v (.bool x6)))], hp := [], m := 0 }
def m10 (x4 : Int) (x5 : Int) (x6 : Bool) : St := { tmps := mkT 41 0 [(4, (.v (.int IntKind.i64 x4))), (5, (.v (.int IntKind.i64 x5))), (6, (.v (.bool x6)))], hp := [], m := 0 }
noncomputable def X2000003 (k kp : D → List Blk → Prop) : St → Prop := atP cfg (pick none' []) [1, 1, 0, 1] body (topK cfg Try.f62 k kp)
noncomputable def X5 (k kp : D → List Blk → Prop) : St → Prop := atP cfg (pick none' []) [1, 1, 1] body (topK cfg Try.f62 k kp)
noncomputable def YL6 (k kp : D → List Blk → Prop) : (St → Prop) → St → Prop := loopB cfg (sub [1, 1, 1, 1, 0, 0, 0] body) (contK cfg (pick none' []) [1, 1, 1, 1, 0, 0] body (topK cfg Try.f62 k kp))
noncomputable def XL6 (k kp : D → List Blk → Prop) : St → Prop := fun st => ∃ n, loopN (YL6 k kp) n st
noncomputable def X10 (k kp : D → List Blk → Prop) : St → Prop := atP cfg (pick none' []) [1, 1, 1, 1, 1] body (topK cfg Try.f62 k kp)
noncomputable def JJ (k kp : D → List Blk → Prop) : Nat → St → Prop := pick none' [(2000003, X2000003 k kp), (5, X5 k kp), (10, X10 k kp)]
noncomputable def LL (k kp : D → List Blk → Prop) : Nat → St → Prop := pick none' [(6, XL6 k kp)]
noncomputable def JJ_6 (k kp : D → List Blk → Prop) (ag6 : St → Prop) : Nat → St → Prop := pick none' [(2000003, X2000003 k kp), (5, X5 k kp), (10, X10 k kp)]
noncomputable def LL_6 (k kp : D → List Blk → Prop) (ag6 : St → Prop) : Nat → St → Prop := pick none' [(6, XL6 k kp)]
theorem j10_c (k kp : D → List Blk → Prop) (J L : Nat → St → Prop) (x4 : Int) (x5 : Int) (x6 : Bool) : runC cfg 10 J L (pick none' []) [1, 1, 1, 1, 1] body (topK cfg Try.f62 k kp) (m10 x4 x5 x6) = j10 x4 x5 x6 (fun y0 y1 y2 => k (.tup [(.v (.int IntKind.i64 y0)), (.v (.int IntKind.i64 y1)), (.v (.bool y2))]) []) := by kernel_rfl
theorem j10_ag (k kp : D → List Blk → Prop) : agPL cfg 10 (JJ k kp) (LL k kp) [1, 1, 1, 1, 1] body = agPR cfg 10 (pick none' []) [1, 1, 1, 1, 1] body (topK cfg Try.f62 k kp) := by kernel_rfl
theorem j10_raw (k kp : D → List Blk → Prop) (x4 : Int) (x5 : Int) (x6 : Bool) : X10 k kp (m10 x4 x5 x6) = j10 x4 x5 x6 (fun y0 y1 y2 => k (.tup [(.v (.int IntKind.i64 y0)), (.v (.int IntKind.i64 y1)), (.v (.bool y2))]) []) :=
  Eq.mp (by kernel_rfl) ((atP_run (j10_ag k kp) (m10 x4 x5 x6)).trans (j10_c k kp (JJ k kp) (LL k kp) x4 x5 x6))
theorem j10_eq (k kp : D → List Blk → Prop) (x4 : Int) (x5 : Int) (x6 : Bool) : X10 k kp (m10 x4 x5 x6) = j10' x4 x5 x6 (fun y0 y1 y2 => k (.tup [(.v (.int IntKind.i64 y0)), (.v (.int IntKind.i64 y1)), (.v (.bool y2))]) []) := by
  rw [j10_raw]; rfl
theorem l6_c (k kp : D → List Blk → Prop) (J L : Nat → St → Prop) (ag6 : St → Prop) (x0 : ByteArray) (x4 : Int) (x5 : Int) (x6 : Bool) : runC cfg 1000001 J L (pick none' [(6, ag6)]) [1, 1, 1, 1, 0, 0, 0] body (topK cfg Try.f62 k kp) (mL6 x0 x4 x5 x6) = l6 (fun x4 x5 x6 => J 10 (m10 x4 x5 x6)) (fun x5 => ag6 (mL6 x0 x4 x5 x6)) x0 x4 x5 x6 (fun y0 y1 y2 => k (.tup [(.v (.int IntKind.i64 y0)), (.v (.int IntKind.i64 y1)), (.v (.bool y2))]) []) := by kernel_rfl
theorem l6_ag (k kp : D → List Blk → Prop) (ag6 : St → Prop) : agPL cfg 1000001 (JJ_6 k kp ag6) (LL_6 k kp ag6) [1, 1, 1, 1, 0, 0, 0] body = agPR cfg 1000001 (pick none' [(6, ag6)]) [1, 1, 1, 1, 0, 0, 0] body (topK cfg Try.f62 k kp) := by kernel_rfl
theorem l6_raw (k kp : D → List Blk → Prop) (ag6 : St → Prop) (x0 : ByteArray) (x4 : Int) (x5 : Int) (x6 : Bool) : YL6 k kp ag6 (mL6 x0 x4 x5 x6) = l6 (fun x4 x5 x6 => X10 k kp (m10 x4 x5 x6)) (fun x5 => ag6 (mL6 x0 x4 x5 x6)) x0 x4 x5 x6 (fun y0 y1 y2 => k (.tup [(.v (.int IntKind.i64 y0)), (.v (.int IntKind.i64 y1)), (.v (.bool y2))]) []) :=
  Eq.mp (by kernel_rfl) ((atP_run (l6_ag k kp ag6) (mL6 x0 x4 x5 x6)).trans (l6_c k kp (JJ_6 k kp ag6) (LL_6 k kp ag6) ag6 x0 x4 x5 x6))
theorem l6_eq (k kp : D → List Blk → Prop) (x0 : ByteArray) (x4 : Int) (x5 : Int) (x6 : Bool) : XL6 k kp (mL6 x0 x4 x5 x6) = l6' x0 x4 x5 x6 (fun y0 y1 y2 => k (.tup [(.v (.int IntKind.i64 y0)), (.v (.int IntKind.i64 y1)), (.v (.bool y2))]) []) :=
  loop_eq (mk := fun (s : Int) => mL6 x0 x4 s x6) (fun again s => by rw [l6_raw k kp again x0 x4 s x6]; simp only [j10_eq]; first | done | rfl) (x5)
theorem j5_c (k kp : D → List Blk → Prop) (J L : Nat → St → Prop) (x0 : ByteArray) (x4 : Int) (x6 : Bool) : runC cfg 5 J L (pick none' []) [1, 1, 1] body (topK cfg Try.f62 k kp) (m5 x0 x4 x6) = j5 (fun x0 x4 x5 x6 => L 6 (mL6 x0 x4 x5 x6)) x0 x4 x6 (fun y0 y1 y2 => k (.tup [(.v (.int IntKind.i64 y0)), (.v (.int IntKind.i64 y1)), (.v (.bool y2))]) []) := by kernel_rfl
theorem j5_ag (k kp : D → List Blk → Prop) : agPL cfg 5 (JJ k kp) (LL k kp) [1, 1, 1] body = agPR cfg 5 (pick none' []) [1, 1, 1] body (topK cfg Try.f62 k kp) := by kernel_rfl
theorem j5_raw (k kp : D → List Blk → Prop) (x0 : ByteArray) (x4 : Int) (x6 : Bool) : X5 k kp (m5 x0 x4 x6) = j5 (fun x0 x4 x5 x6 => XL6 k kp (mL6 x0 x4 x5 x6)) x0 x4 x6 (fun y0 y1 y2 => k (.tup [(.v (.int IntKind.i64 y0)), (.v (.int IntKind.i64 y1)), (.v (.bool y2))]) []) :=
  Eq.mp (by kernel_rfl) ((atP_run (j5_ag k kp) (m5 x0 x4 x6)).trans (j5_c k kp (JJ k kp) (LL k kp) x0 x4 x6))
theorem j5_eq (k kp : D → List Blk → Prop) (x0 : ByteArray) (x4 : Int) (x6 : Bool) : X5 k kp (m5 x0 x4 x6) = j5' x0 x4 x6 (fun y0 y1 y2 => k (.tup [(.v (.int IntKind.i64 y0)), (.v (.int IntKind.i64 y1)), (.v (.bool y2))]) []) := by
  rw [j5_raw]; simp only [l6_eq]; first | done | rfl
theorem j2000003_c (k kp : D → List Blk → Prop) (J L : Nat → St → Prop) (x0 : ByteArray) (x4 : Int) (x6 : Bool) (x19 : Bool) : runC cfg 2000003 J L (pick none' []) [1, 1, 0, 1] body (topK cfg Try.f62 k kp) (m2000003 x0 x4 x6 x19) = j2000003 (fun x0 x4 x6 => J 5 (m5 x0 x4 x6)) x0 x4 x6 x19 (fun y0 y1 y2 => k (.tup [(.v (.int IntKind.i64 y0)), (.v (.int IntKind.i64 y1)), (.v (.bool y2))]) []) := by kernel_rfl
theorem j2000003_ag (k kp : D → List Blk → Prop) : agPL cfg 2000003 (JJ k kp) (LL k kp) [1, 1, 0, 1] body = agPR cfg 2000003 (pick none' []) [1, 1, 0, 1] body (topK cfg Try.f62 k kp) := by kernel_rfl
theorem j2000003_raw (k kp : D → List Blk → Prop) (x0 : ByteArray) (x4 : Int) (x6 : Bool) (x19 : Bool) : X2000003 k kp (m2000003 x0 x4 x6 x19) = j2000003 (fun x0 x4 x6 => X5 k kp (m5 x0 x4 x6)) x0 x4 x6 x19 (fun y0 y1 y2 => k (.tup [(.v (.int IntKind.i64 y0)), (.v (.int IntKind.i64 y1)), (.v (.bool y2))]) []) :=
  Eq.mp (by kernel_rfl) ((atP_run (j2000003_ag k kp) (m2000003 x0 x4 x6 x19)).trans (j2000003_c k kp (JJ k kp) (LL k kp) x0 x4 x6 x19))
theorem j2000003_eq (k kp : D → List Blk → Prop) (x0 : ByteArray) (x4 : Int) (x6 : Bool) (x19 : Bool) : X2000003 k kp (m2000003 x0 x4 x6 x19) = j2000003' x0 x4 x6 x19 (fun y0 y1 y2 => k (.tup [(.v (.int IntKind.i64 y0)), (.v (.int IntKind.i64 y1)), (.v (.bool y2))]) []) := by
  rw [j2000003_raw]; simp only [j5_eq]; first | done | rfl
theorem c_c (k kp : D → List Blk → Prop) (J L : Nat → St → Prop) (x0 : ByteArray) (x1 : Int) : runC cfg 1000001 J L none'' [] body (topK cfg Try.f62 k kp) (st0 Try.f62 [(.v (.string x0)), (.v (.int IntKind.i64 x1))] []) = c (fun x0 x4 x6 x19 => J 2000003 (m2000003 x0 x4 x6 x19)) x0 x1 (fun y0 y1 y2 => k (.tup [(.v (.int IntKind.i64 y0)), (.v (.int IntKind.i64 y1)), (.v (.bool y2))]) []) := by kernel_rfl
theorem c_ag (k kp : D → List Blk → Prop) : agPL cfg 1000001 (JJ k kp) (LL k kp) [] body = agPR cfg 1000001 none'' [] body (topK cfg Try.f62 k kp) := by kernel_rfl
theorem body_is : Try.f62.body = some body := by kernel_rfl
theorem c_raw (k kp : D → List Blk → Prop) (x0 : ByteArray) (x1 : Int) : funW cfg Try.f62 [(.v (.string x0)), (.v (.int IntKind.i64 x1))] [] k kp = c (fun x0 x4 x6 x19 => X2000003 k kp (m2000003 x0 x4 x6 x19)) x0 x1 (fun y0 y1 y2 => k (.tup [(.v (.int IntKind.i64 y0)), (.v (.int IntKind.i64 y1)), (.v (.bool y2))]) []) :=
  Eq.mp (by kernel_rfl) ((funW_run (AG := none'') body_is (c_ag k kp) [(.v (.string x0)), (.v (.int IntKind.i64 x1))] []).trans (c_c k kp (JJ k kp) (LL k kp) x0 x1))
theorem f_eq (k kp : D → List Blk → Prop) (x0 : ByteArray) (x1 : Int) : funW cfg Try.f62 [(.v (.string x0)), (.v (.int IntKind.i64 x1))] [] k kp = f x0 x1 (fun y0 y1 y2 => k (.tup [(.v (.int IntKind.i64 y0)), (.v (.int IntKind.i64 y1)), (.v (.bool y2))]) []) := by
  rw [f_def, c_raw]; simp only [j2000003_eq]; first | done | rfl
noncomputable def ent0 : Entry := fun args blks k _ => match args, blks with
  | [d0, d1], [] => aStr d0 fun x0 => aInt IntKind.i64 d1 fun x1 => f x0 x1 (fun y0 y1 y2 => k (.tup [(.v (.int IntKind.i64 y0)), (.v (.int IntKind.i64 y1)), (.v (.bool y2))]) [])
  | _, _ => False
noncomputable def ent : Entry := fun args blks k kp => ent0 (convA [none, none] args) blks k kp
theorem ok : EntOk Try.prog 0 0 62 ent := by
  refine EntOk.conv (EntOk.of (funW_ok (cfg := cfg) (tyOk_of rfl rfl tyL_ok) (eqOk_none rfl) mixed_ok (tab_ok ?_) Try.func62 (by rfl) (by rfl)) ?_) _
  · intro p hp
    simp only [List.mem_cons, List.not_mem_nil, or_false] at hp
    rcases hp with rfl
    · exact N66.ok
  · intro args blks k kp h k' kp'
    match args, blks, h with
    | [d0, d1], [], h =>
    dsimp only [ent0] at h
    have h9 := aStr_elim h; clear h; obtain ⟨x0, rfl, h⟩ := h9
    have h9 := aInt_elim h; clear h; obtain ⟨x1, rfl, h⟩ := h9
    exact (f_eq k' kp' x0 x1).symm
end N62
end Go.Proofs.Yt
namespace Go.Proofs.Yt
open Go Go.Aw Go.Proofs
set_option linter.unusedVariables false
set_option linter.unusedSimpArgs false
set_option maxRecDepth 100000
/-! dyehouse/deci.value -/
namespace N63
noncomputable def cfg : Cfg := { P := Try.prog, ty := tys, E := tab [(66, N66.ent)], atSeq := tab [(10, ⟨[(1, .keep), (6, .keep)]⟩)], atLoop := tab [(3, ⟨[(0, .keep), (1, .keep), (6, .keep), (11, .keep), (12, .keep)]⟩)], outs := [] }
noncomputable def body : Code := bodyOf Try.f63
def l3 (j10 : Bool → Int → Prop) (ag3 : Int → Int → Prop) (x0 : ByteArray) (x1 : Bool) (x6 : Int) (x11 : Int) (x12 : Int) (k : Int → Bool → Prop) : Prop :=
  (br (decide (x12 < x11)) ((inB 0 x12 ((((x0).size : Nat) : Int) - 1)) ∧ (N66.f (byteAt x0 x12) (fun (y0_0 : Int) (y1_0 : Bool) => (((10 : Int) ≠ 0) ∧ (br (decide (x6 < (IntKind.i64.wrap (Int.tdiv (IntKind.i64.wrap ((-9223372036854775808 : Int) + y0_0)) (10 : Int))))) (k (0 : Int) false) (ag3 (IntKind.i64.wrap ((IntKind.i64.wrap (x6 * (10 : Int))) - y0_0)) (IntKind.i64.wrap (x12 + (1 : Int))))))))) (j10 x1 x6))
def j10 (x1 : Bool) (x6 : Int) (k : Int → Bool → Prop) : Prop :=
  (br x1 (k x6 true) (k (IntKind.i64.wrap (0 - x6)) (decide (x6 ≥ (-9223372036854775807 : Int)))))
def c (l3 : ByteArray → Bool → Int → Int → Int → Prop) (x0 : ByteArray) (x1 : Bool) (k : Int → Bool → Prop) : Prop :=
  (l3 x0 x1 (0 : Int) ((((x0).size : Nat) : Int)) (0 : Int))
def j10' (x1 : Bool) (x6 : Int) (k : Int → Bool → Prop) : Prop := j10 x1 x6 k
def l3' (x0 : ByteArray) (x1 : Bool) (x6 : Int) (x11 : Int) (x12 : Int) (k : Int → Bool → Prop) : Prop := ∃ n, loopS (fun (ag : (Int × Int) → Prop) (s : Int × Int) => l3 (fun x1 x6 => j10' x1 x6 k) (fun x6 x12 => ag (x6, x12)) x0 x1 s.1 x11 s.2 k) n (x6, x12)
def f0 (x0 : ByteArray) (x1 : Bool) (k : Int → Bool → Prop) : Prop := c (fun x0 x1 x6 x11 x12 => l3' x0 x1 x6 x11 x12 k) x0 x1 k
theorem f_ex : ∃ g : ByteArray → Bool → (Int → Bool → Prop) → Prop, g = f0 := ⟨_, rfl⟩
noncomputable def f : ByteArray → Bool → (Int → Bool → Prop) → Prop := Classical.choose f_ex
theorem f_def : f = f0 := Classical.choose_spec f_ex
def mL3 (x0 : ByteArray) (x1 : Bool) (x6 : Int) (x11 : Int) (x12 : Int) : St := { tmps := mkT 38 0 [(0, (.v (.string x0))), (1, (.v (.bool x1))), (6, (.v (.int IntKind.i64 x6))), (11, (.v (.int IntKind.i64 x11))), (12, (.v (.int IntKind.i64 x12)))], hp := [], m := 0 }
def m10 (x1 : Bool) (x6 : Int) : St := { tmps := mkT 38 0 [(1, (.v (.bool x1))), (6, (.v (.int IntKind.i64 x6)))], hp := [], m := 0 }
noncomputable def YL3 (k kp : D → List Blk → Prop) : (St → Prop) → St → Prop := loopB cfg (sub [1, 1, 0, 1, 0, 0] body) (contK cfg (pick none' []) [1, 1, 0, 1, 0] body (topK cfg Try.f63 k kp))
noncomputable def XL3 (k kp : D → List Blk → Prop) : St → Prop := fun st => ∃ n, loopN (YL3 k kp) n st
noncomputable def X10 (k kp : D → List Blk → Prop) : St → Prop := atP cfg (pick none' []) [1, 1, 1] body (topK cfg Try.f63 k kp)
noncomputable def JJ_3 (k kp : D → List Blk → Prop) (ag3 : St → Prop) : Nat → St → Prop := pick none' [(10, X10 k kp)]
noncomputable def LL_3 (k kp : D → List Blk → Prop) (ag3 : St → Prop) : Nat → St → Prop := pick none' [(3, XL3 k kp)]
noncomputable def JJ (k kp : D → List Blk → Prop) : Nat → St → Prop := pick none' [(10, X10 k kp)]
noncomputable def LL (k kp : D → List Blk → Prop) : Nat → St → Prop := pick none' [(3, XL3 k kp)]
theorem j10_c (k kp : D → List Blk → Prop) (J L : Nat → St → Prop) (x1 : Bool) (x6 : Int) : runC cfg 10 J L (pick none' []) [1, 1, 1] body (topK cfg Try.f63 k kp) (m10 x1 x6) = j10 x1 x6 (fun y0 y1 => k (.tup [(.v (.int IntKind.i64 y0)), (.v (.bool y1))]) []) := by kernel_rfl
theorem j10_ag (k kp : D → List Blk → Prop) : agPL cfg 10 (JJ k kp) (LL k kp) [1, 1, 1] body = agPR cfg 10 (pick none' []) [1, 1, 1] body (topK cfg Try.f63 k kp) := by kernel_rfl
theorem j10_raw (k kp : D → List Blk → Prop) (x1 : Bool) (x6 : Int) : X10 k kp (m10 x1 x6) = j10 x1 x6 (fun y0 y1 => k (.tup [(.v (.int IntKind.i64 y0)), (.v (.bool y1))]) []) :=
  Eq.mp (by kernel_rfl) ((atP_run (j10_ag k kp) (m10 x1 x6)).trans (j10_c k kp (JJ k kp) (LL k kp) x1 x6))
theorem j10_eq (k kp : D → List Blk → Prop) (x1 : Bool) (x6 : Int) : X10 k kp (m10 x1 x6) = j10' x1 x6 (fun y0 y1 => k (.tup [(.v (.int IntKind.i64 y0)), (.v (.bool y1))]) []) := by
  rw [j10_raw]; rfl
theorem l3_c (k kp : D → List Blk → Prop) (J L : Nat → St → Prop) (ag3 : St → Prop) (x0 : ByteArray) (x1 : Bool) (x6 : Int) (x11 : Int) (x12 : Int) : runC cfg 1000001 J L (pick none' [(3, ag3)]) [1, 1, 0, 1, 0, 0] body (topK cfg Try.f63 k kp) (mL3 x0 x1 x6 x11 x12) = l3 (fun x1 x6 => J 10 (m10 x1 x6)) (fun x6 x12 => ag3 (mL3 x0 x1 x6 x11 x12)) x0 x1 x6 x11 x12 (fun y0 y1 => k (.tup [(.v (.int IntKind.i64 y0)), (.v (.bool y1))]) []) := by kernel_rfl
theorem l3_ag (k kp : D → List Blk → Prop) (ag3 : St → Prop) : agPL cfg 1000001 (JJ_3 k kp ag3) (LL_3 k kp ag3) [1, 1, 0, 1, 0, 0] body = agPR cfg 1000001 (pick none' [(3, ag3)]) [1, 1, 0, 1, 0, 0] body (topK cfg Try.f63 k kp) := by kernel_rfl
theorem l3_raw (k kp : D → List Blk → Prop) (ag3 : St → Prop) (x0 : ByteArray) (x1 : Bool) (x6 : Int) (x11 : Int) (x12 : Int) : YL3 k kp ag3 (mL3 x0 x1 x6 x11 x12) = l3 (fun x1 x6 => X10 k kp (m10 x1 x6)) (fun x6 x12 => ag3 (mL3 x0 x1 x6 x11 x12)) x0 x1 x6 x11 x12 (fun y0 y1 => k (.tup [(.v (.int IntKind.i64 y0)), (.v (.bool y1))]) []) :=
  Eq.mp (by kernel_rfl) ((atP_run (l3_ag k kp ag3) (mL3 x0 x1 x6 x11 x12)).trans (l3_c k kp (JJ_3 k kp ag3) (LL_3 k kp ag3) ag3 x0 x1 x6 x11 x12))
theorem l3_eq (k kp : D → List Blk → Prop) (x0 : ByteArray) (x1 : Bool) (x6 : Int) (x11 : Int) (x12 : Int) : XL3 k kp (mL3 x0 x1 x6 x11 x12) = l3' x0 x1 x6 x11 x12 (fun y0 y1 => k (.tup [(.v (.int IntKind.i64 y0)), (.v (.bool y1))]) []) :=
  loop_eq (mk := fun (s : Int × Int) => mL3 x0 x1 s.1 x11 s.2) (fun again s => by rw [l3_raw k kp again x0 x1 s.1 x11 s.2]; simp only [j10_eq]; first | done | rfl) (x6, x12)
theorem c_c (k kp : D → List Blk → Prop) (J L : Nat → St → Prop) (x0 : ByteArray) (x1 : Bool) : runC cfg 1000001 J L none'' [] body (topK cfg Try.f63 k kp) (st0 Try.f63 [(.v (.string x0)), (.v (.bool x1))] []) = c (fun x0 x1 x6 x11 x12 => L 3 (mL3 x0 x1 x6 x11 x12)) x0 x1 (fun y0 y1 => k (.tup [(.v (.int IntKind.i64 y0)), (.v (.bool y1))]) []) := by kernel_rfl
theorem c_ag (k kp : D → List Blk → Prop) : agPL cfg 1000001 (JJ k kp) (LL k kp) [] body = agPR cfg 1000001 none'' [] body (topK cfg Try.f63 k kp) := by kernel_rfl
theorem body_is : Try.f63.body = some body := by kernel_rfl
theorem c_raw (k kp : D → List Blk → Prop) (x0 : ByteArray) (x1 : Bool) : funW cfg Try.f63 [(.v (.string x0)), (.v (.bool x1))] [] k kp = c (fun x0 x1 x6 x11 x12 => XL3 k kp (mL3 x0 x1 x6 x11 x12)) x0 x1 (fun y0 y1 => k (.tup [(.v (.int IntKind.i64 y0)), (.v (.bool y1))]) []) :=
  Eq.mp (by kernel_rfl) ((funW_run (AG := none'') body_is (c_ag k kp) [(.v (.string x0)), (.v (.bool x1))] []).trans (c_c k kp (JJ k kp) (LL k kp) x0 x1))
theorem f_eq (k kp : D → List Blk → Prop) (x0 : ByteArray) (x1 : Bool) : funW cfg Try.f63 [(.v (.string x0)), (.v (.bool x1))] [] k kp = f x0 x1 (fun y0 y1 => k (.tup [(.v (.int IntKind.i64 y0)), (.v (.bool y1))]) []) := by
  rw [f_def, c_raw]; simp only [l3_eq]; first | done | rfl
noncomputable def ent0 : Entry := fun args blks k _ => match args, blks with
  | [d0, d1], [] => aStr d0 fun x0 => aBool d1 fun x1 => f x0 x1 (fun y0 y1 => k (.tup [(.v (.int IntKind.i64 y0)), (.v (.bool y1))]) [])
  | _, _ => False
noncomputable def ent : Entry := fun args blks k kp => ent0 (convA [none, none] args) blks k kp
theorem ok : EntOk Try.prog 0 0 63 ent := by
  refine EntOk.conv (EntOk.of (funW_ok (cfg := cfg) (tyOk_of rfl rfl tyL_ok) (eqOk_none rfl) mixed_ok (tab_ok ?_) Try.func63 (by rfl) (by rfl)) ?_) _
  · intro p hp
    simp only [List.mem_cons, List.not_mem_nil, or_false] at hp
    rcases hp with rfl
    · exact N66.ok
  · intro args blks k kp h k' kp'
    match args, blks, h with
    | [d0, d1], [], h =>
    dsimp only [ent0] at h
    have h9 := aStr_elim h; clear h; obtain ⟨x0, rfl, h⟩ := h9
    have h9 := aBool_elim h; clear h; obtain ⟨x1, rfl, h⟩ := h9
    exact (f_eq k' kp' x0 x1).symm
end N63
end Go.Proofs.Yt
namespace Go.Proofs.Yt
open Go Go.Aw Go.Proofs
set_option linter.unusedVariables false
set_option linter.unusedSimpArgs false
set_option maxRecDepth 100000
/-! dyehouse/deci.Scan -/
namespace N39
noncomputable def cfg : Cfg := { P := Try.prog, ty := tys, E := tab [(62, N62.ent), (63, N63.ent)], atSeq := tab [(2000002, ⟨[(0, .keep), (1, .keep), (19, .keep)]⟩), (3, ⟨[(0, .keep), (1, .keep)]⟩), (2000006, ⟨[(0, .keep), (7, .keep), (8, .keep), (9, .keep), (27, .keep)]⟩), (7, ⟨[(0, .keep), (7, .keep), (8, .keep), (9, .keep)]⟩)], atLoop := tab [], outs := [] }
noncomputable def body : Code := bodyOf Try.f39
def j2000002 (j3 : ByteArray → Int → Prop) (x0 : ByteArray) (x1 : Int) (x19 : Bool) (k : Int → Int → Int → Prop) : Prop :=
  (br x19 (k (0 : Int) (0 : Int) (1 : Int)) (j3 x0 x1))
def j3 (j2000006 : ByteArray → Int → Int → Bool → Bool → Prop) (x0 : ByteArray) (x1 : Int) (k : Int → Int → Int → Prop) : Prop :=
  (N62.f x0 x1 (fun (y0_0 : Int) (y1_0 : Int) (y2_0 : Bool) => (br (y1_0 == y0_0) (j2000006 x0 y0_0 y1_0 y2_0 (y1_0 == y0_0)) ((inB 0 y0_0 ((((x0).size : Nat) : Int) - 1)) ∧ (br ((byteAt x0 y0_0) == (48 : Int)) (br (decide (y1_0 > (IntKind.i64.wrap (y0_0 + (1 : Int))))) (j2000006 x0 y0_0 y1_0 y2_0 true) (j2000006 x0 y0_0 y1_0 y2_0 y2_0)) (j2000006 x0 y0_0 y1_0 y2_0 false))))))
def j2000006 (j7 : ByteArray → Int → Int → Bool → Prop) (x0 : ByteArray) (x7 : Int) (x8 : Int) (x9 : Bool) (x27 : Bool) (k : Int → Int → Int → Prop) : Prop :=
  (br x27 (k (0 : Int) (0 : Int) (12 : Int)) (j7 x0 x7 x8 x9))
def j7 (x0 : ByteArray) (x7 : Int) (x8 : Int) (x9 : Bool) (k : Int → Int → Int → Prop) : Prop :=
  ((inB x7 x8 (((x0).size : Nat) : Int)) ∧ (N63.f (ByteArray.extract x0 (Int.toNat x7) (Int.toNat x8)) x9 (fun (y0_1 : Int) (y1_1 : Bool) => (br (!y1_1) (k (0 : Int) (0 : Int) (2 : Int)) (k y0_1 x8 (0 : Int))))))
def c (j2000002 : ByteArray → Int → Bool → Prop) (x0 : ByteArray) (x1 : Int) (k : Int → Int → Int → Prop) : Prop :=
  (br (decide (x1 < (0 : Int))) (j2000002 x0 x1 true) (j2000002 x0 x1 (decide (x1 > ((((x0).size : Nat) : Int))))))
def j7' (x0 : ByteArray) (x7 : Int) (x8 : Int) (x9 : Bool) (k : Int → Int → Int → Prop) : Prop := j7 x0 x7 x8 x9 k
def j2000006' (x0 : ByteArray) (x7 : Int) (x8 : Int) (x9 : Bool) (x27 : Bool) (k : Int → Int → Int → Prop) : Prop := j2000006 (fun x0 x7 x8 x9 => j7' x0 x7 x8 x9 k) x0 x7 x8 x9 x27 k
def j3' (x0 : ByteArray) (x1 : Int) (k : Int → Int → Int → Prop) : Prop := j3 (fun x0 x7 x8 x9 x27 => j2000006' x0 x7 x8 x9 x27 k) x0 x1 k
def j2000002' (x0 : ByteArray) (x1 : Int) (x19 : Bool) (k : Int → Int → Int → Prop) : Prop := j2000002 (fun x0 x1 => j3' x0 x1 k) x0 x1 x19 k
def f0 (x0 : ByteArray) (x1 : Int) (k : Int → Int → Int → Prop) : Prop := c (fun x0 x1 x19 => j2000002' x0 x1 x19 k) x0 x1 k
theorem f_ex : ∃ g : ByteArray → Int → (Int → Int → Int → Prop) → Prop, g = f0 := ⟨_, rfl⟩
noncomputable def f : ByteArray → Int → (Int → Int → Int → Prop) → Prop := Classical.choose f_ex
theorem f_def : f = f0 := Classical.choose_spec f_ex
def m2000002 (x0 : ByteArray) (x1 : Int) (x19 : Bool) : St := { tmps := mkT 57 0 [(0, (.v (.string x0))), (1, (.v (.int IntKind.i64 x1))), (19, (.v (.bool x19)))], hp := [], m := 0 }
def m3 (x0 : ByteArray) (x1 : Int) : St := { tmps := mkT 57 0 [(0, (.v (.string x0))), (1, (.v (.int IntKind.i64 x1)))], hp := [], m := 0 }
def m2000006 (x0 : ByteArray) (x7 : Int) (x8 : Int) (x9 : Bool) (x27 : Bool) : St := { tmps := mkT 57 0 [(0, (.v (.string x0))), (7, (.v (.int IntKind.i64 x7))), (8, (.v (.int IntKind.i64 x8))), (9, (.v (.bool x9))), (27, (.v (.bool x27)))], hp := [], m := 0 }
def m7 (x0 : ByteArray) (x7 : Int) (x8 : Int) (x9 : Bool) : St := { tmps := mkT 57 0 [(0, (.v (.string x0))), (7, (.v (.int IntKind.i64 x7))), (8, (.v (.int IntKind.i64 x8))), (9, (.v (.bool x9)))], hp := [], m := 0 }
noncomputable def X2000002 (k kp : D → List Blk → Prop) : St → Prop := atP cfg (pick none' []) [1, 0, 1] body (topK cfg Try.f39 k kp)
noncomputable def X3 (k kp : D → List Blk → Prop) : St → Prop := atP cfg (pick none' []) [1, 1] body (topK cfg Try.f39 k kp)
noncomputable def X2000006 (k kp : D → List Blk → Prop) : St → Prop := atP cfg (pick none' []) [1, 1, 1, 0, 0, 1] body (topK cfg Try.f39 k kp)
noncomputable def X7 (k kp : D → List Blk → Prop) : St → Prop := atP cfg (pick none' []) [1, 1, 1, 1] body (topK cfg Try.f39 k kp)
noncomputable def JJ (k kp : D → List Blk → Prop) : Nat → St → Prop := pick none' [(2000002, X2000002 k kp), (3, X3 k kp), (2000006, X2000006 k kp), (7, X7 k kp)]
noncomputable def LL (k kp : D → List Blk → Prop) : Nat → St → Prop := pick none' []
theorem j7_c (k kp : D → List Blk → Prop) (J L : Nat → St → Prop) (x0 : ByteArray) (x7 : Int) (x8 : Int) (x9 : Bool) : runC cfg 7 J L (pick none' []) [1, 1, 1, 1] body (topK cfg Try.f39 k kp) (m7 x0 x7 x8 x9) = j7 x0 x7 x8 x9 (fun y0 y1 y2 => k (.tup [(.v (.int IntKind.i64 y0)), (.v (.int IntKind.i64 y1)), (.v (.int IntKind.i64 y2))]) []) := by kernel_rfl
theorem j7_ag (k kp : D → List Blk → Prop) : agPL cfg 7 (JJ k kp) (LL k kp) [1, 1, 1, 1] body = agPR cfg 7 (pick none' []) [1, 1, 1, 1] body (topK cfg Try.f39 k kp) := by kernel_rfl
theorem j7_raw (k kp : D → List Blk → Prop) (x0 : ByteArray) (x7 : Int) (x8 : Int) (x9 : Bool) : X7 k kp (m7 x0 x7 x8 x9) = j7 x0 x7 x8 x9 (fun y0 y1 y2 => k (.tup [(.v (.int IntKind.i64 y0)), (.v (.int IntKind.i64 y1)), (.v (.int IntKind.i64 y2))]) []) :=
  Eq.mp (by kernel_rfl) ((atP_run (j7_ag k kp) (m7 x0 x7 x8 x9)).trans (j7_c k kp (JJ k kp) (LL k kp) x0 x7 x8 x9))
theorem j7_eq (k kp : D → List Blk → Prop) (x0 : ByteArray) (x7 : Int) (x8 : Int) (x9 : Bool) : X7 k kp (m7 x0 x7 x8 x9) = j7' x0 x7 x8 x9 (fun y0 y1 y2 => k (.tup [(.v (.int IntKind.i64 y0)), (.v (.int IntKind.i64 y1)), (.v (.int IntKind.i64 y2))]) []) := by
  rw [j7_raw]; rfl
theorem j2000006_c (k kp : D → List Blk → Prop) (J L : Nat → St → Prop) (x0 : ByteArray) (x7 : Int) (x8 : Int) (x9 : Bool) (x27 : Bool) : runC cfg 2000006 J L (pick none' []) [1, 1, 1, 0, 0, 1] body (topK cfg Try.f39 k kp) (m2000006 x0 x7 x8 x9 x27) = j2000006 (fun x0 x7 x8 x9 => J 7 (m7 x0 x7 x8 x9)) x0 x7 x8 x9 x27 (fun y0 y1 y2 => k (.tup [(.v (.int IntKind.i64 y0)), (.v (.int IntKind.i64 y1)), (.v (.int IntKind.i64 y2))]) []) := by kernel_rfl
theorem j2000006_ag (k kp : D → List Blk → Prop) : agPL cfg 2000006 (JJ k kp) (LL k kp) [1, 1, 1, 0, 0, 1] body = agPR cfg 2000006 (pick none' []) [1, 1, 1, 0, 0, 1] body (topK cfg Try.f39 k kp) := by kernel_rfl
theorem j2000006_raw (k kp : D → List Blk → Prop) (x0 : ByteArray) (x7 : Int) (x8 : Int) (x9 : Bool) (x27 : Bool) : X2000006 k kp (m2000006 x0 x7 x8 x9 x27) = j2000006 (fun x0 x7 x8 x9 => X7 k kp (m7 x0 x7 x8 x9)) x0 x7 x8 x9 x27 (fun y0 y1 y2 => k (.tup [(.v (.int IntKind.i64 y0)), (.v (.int IntKind.i64 y1)), (.v (.int IntKind.i64 y2))]) []) :=
  Eq.mp (by kernel_rfl) ((atP_run (j2000006_ag k kp) (m2000006 x0 x7 x8 x9 x27)).trans (j2000006_c k kp (JJ k kp) (LL k kp) x0 x7 x8 x9 x27))
theorem j2000006_eq (k kp : D → List Blk → Prop) (x0 : ByteArray) (x7 : Int) (x8 : Int) (x9 : Bool) (x27 : Bool) : X2000006 k kp (m2000006 x0 x7 x8 x9 x27) = j2000006' x0 x7 x8 x9 x27 (fun y0 y1 y2 => k (.tup [(.v (.int IntKind.i64 y0)), (.v (.int IntKind.i64 y1)), (.v (.int IntKind.i64 y2))]) []) := by
  rw [j2000006_raw]; simp only [j7_eq]; first | done | rfl
theorem j3_c (k kp : D → List Blk → Prop) (J L : Nat → St → Prop) (x0 : ByteArray) (x1 : Int) : runC cfg 3 J L (pick none' []) [1, 1] body (topK cfg Try.f39 k kp) (m3 x0 x1) = j3 (fun x0 x7 x8 x9 x27 => J 2000006 (m2000006 x0 x7 x8 x9 x27)) x0 x1 (fun y0 y1 y2 => k (.tup [(.v (.int IntKind.i64 y0)), (.v (.int IntKind.i64 y1)), (.v (.int IntKind.i64 y2))]) []) := by kernel_rfl
theorem j3_ag (k kp : D → List Blk → Prop) : agPL cfg 3 (JJ k kp) (LL k kp) [1, 1] body = agPR cfg 3 (pick none' []) [1, 1] body (topK cfg Try.f39 k kp) := by kernel_rfl
theorem j3_raw (k kp : D → List Blk → Prop) (x0 : ByteArray) (x1 : Int) : X3 k kp (m3 x0 x1) = j3 (fun x0 x7 x8 x9 x27 => X2000006 k kp (m2000006 x0 x7 x8 x9 x27)) x0 x1 (fun y0 y1 y2 => k (.tup [(.v (.int IntKind.i64 y0)), (.v (.int IntKind.i64 y1)), (.v (.int IntKind.i64 y2))]) []) :=
  Eq.mp (by kernel_rfl) ((atP_run (j3_ag k kp) (m3 x0 x1)).trans (j3_c k kp (JJ k kp) (LL k kp) x0 x1))
theorem j3_eq (k kp : D → List Blk → Prop) (x0 : ByteArray) (x1 : Int) : X3 k kp (m3 x0 x1) = j3' x0 x1 (fun y0 y1 y2 => k (.tup [(.v (.int IntKind.i64 y0)), (.v (.int IntKind.i64 y1)), (.v (.int IntKind.i64 y2))]) []) := by
  rw [j3_raw]; simp only [j2000006_eq]; first | done | rfl
theorem j2000002_c (k kp : D → List Blk → Prop) (J L : Nat → St → Prop) (x0 : ByteArray) (x1 : Int) (x19 : Bool) : runC cfg 2000002 J L (pick none' []) [1, 0, 1] body (topK cfg Try.f39 k kp) (m2000002 x0 x1 x19) = j2000002 (fun x0 x1 => J 3 (m3 x0 x1)) x0 x1 x19 (fun y0 y1 y2 => k (.tup [(.v (.int IntKind.i64 y0)), (.v (.int IntKind.i64 y1)), (.v (.int IntKind.i64 y2))]) []) := by kernel_rfl
theorem j2000002_ag (k kp : D → List Blk → Prop) : agPL cfg 2000002 (JJ k kp) (LL k kp) [1, 0, 1] body = agPR cfg 2000002 (pick none' []) [1, 0, 1] body (topK cfg Try.f39 k kp) := by kernel_rfl
theorem j2000002_raw (k kp : D → List Blk → Prop) (x0 : ByteArray) (x1 : Int) (x19 : Bool) : X2000002 k kp (m2000002 x0 x1 x19) = j2000002 (fun x0 x1 => X3 k kp (m3 x0 x1)) x0 x1 x19 (fun y0 y1 y2 => k (.tup [(.v (.int IntKind.i64 y0)), (.v (.int IntKind.i64 y1)), (.v (.int IntKind.i64 y2))]) []) :=
  Eq.mp (by kernel_rfl) ((atP_run (j2000002_ag k kp) (m2000002 x0 x1 x19)).trans (j2000002_c k kp (JJ k kp) (LL k kp) x0 x1 x19))
theorem j2000002_eq (k kp : D → List Blk → Prop) (x0 : ByteArray) (x1 : Int) (x19 : Bool) : X2000002 k kp (m2000002 x0 x1 x19) = j2000002' x0 x1 x19 (fun y0 y1 y2 => k (.tup [(.v (.int IntKind.i64 y0)), (.v (.int IntKind.i64 y1)), (.v (.int IntKind.i64 y2))]) []) := by
  rw [j2000002_raw]; simp only [j3_eq]; first | done | rfl
theorem c_c (k kp : D → List Blk → Prop) (J L : Nat → St → Prop) (x0 : ByteArray) (x1 : Int) : runC cfg 1000001 J L none'' [] body (topK cfg Try.f39 k kp) (st0 Try.f39 [(.v (.string x0)), (.v (.int IntKind.i64 x1))] []) = c (fun x0 x1 x19 => J 2000002 (m2000002 x0 x1 x19)) x0 x1 (fun y0 y1 y2 => k (.tup [(.v (.int IntKind.i64 y0)), (.v (.int IntKind.i64 y1)), (.v (.int IntKind.i64 y2))]) []) := by kernel_rfl
theorem c_ag (k kp : D → List Blk → Prop) : agPL cfg 1000001 (JJ k kp) (LL k kp) [] body = agPR cfg 1000001 none'' [] body (topK cfg Try.f39 k kp) := by kernel_rfl
theorem body_is : Try.f39.body = some body := by kernel_rfl
theorem c_raw (k kp : D → List Blk → Prop) (x0 : ByteArray) (x1 : Int) : funW cfg Try.f39 [(.v (.string x0)), (.v (.int IntKind.i64 x1))] [] k kp = c (fun x0 x1 x19 => X2000002 k kp (m2000002 x0 x1 x19)) x0 x1 (fun y0 y1 y2 => k (.tup [(.v (.int IntKind.i64 y0)), (.v (.int IntKind.i64 y1)), (.v (.int IntKind.i64 y2))]) []) :=
  Eq.mp (by kernel_rfl) ((funW_run (AG := none'') body_is (c_ag k kp) [(.v (.string x0)), (.v (.int IntKind.i64 x1))] []).trans (c_c k kp (JJ k kp) (LL k kp) x0 x1))
theorem f_eq (k kp : D → List Blk → Prop) (x0 : ByteArray) (x1 : Int) : funW cfg Try.f39 [(.v (.string x0)), (.v (.int IntKind.i64 x1))] [] k kp = f x0 x1 (fun y0 y1 y2 => k (.tup [(.v (.int IntKind.i64 y0)), (.v (.int IntKind.i64 y1)), (.v (.int IntKind.i64 y2))]) []) := by
  rw [f_def, c_raw]; simp only [j2000002_eq]; first | done | rfl
noncomputable def ent0 : Entry := fun args blks k _ => match args, blks with
  | [d0, d1], [] => aStr d0 fun x0 => aInt IntKind.i64 d1 fun x1 => f x0 x1 (fun y0 y1 y2 => k (.tup [(.v (.int IntKind.i64 y0)), (.v (.int IntKind.i64 y1)), (.v (.int IntKind.i64 y2))]) [])
  | _, _ => False
noncomputable def ent : Entry := fun args blks k kp => ent0 (convA [none, none] args) blks k kp
theorem ok : EntOk Try.prog 0 0 39 ent := by
  refine EntOk.conv (EntOk.of (funW_ok (cfg := cfg) (tyOk_of rfl rfl tyL_ok) (eqOk_none rfl) mixed_ok (tab_ok ?_) Try.func39 (by rfl) (by rfl)) ?_) _
  · intro p hp
    simp only [List.mem_cons, List.not_mem_nil, or_false] at hp
    rcases hp with rfl | rfl
    · exact N62.ok
    · exact N63.ok
  · intro args blks k kp h k' kp'
    match args, blks, h with
    | [d0, d1], [], h =>
    dsimp only [ent0] at h
    have h9 := aStr_elim h; clear h; obtain ⟨x0, rfl, h⟩ := h9
    have h9 := aInt_elim h; clear h; obtain ⟨x1, rfl, h⟩ := h9
    exact (f_eq k' kp' x0 x1).symm
end N39
end Go.Proofs.Yt
namespace Go.Proofs.Yt
open Go Go.Aw Go.Proofs
set_option linter.unusedVariables false
set_option linter.unusedSimpArgs false
set_option maxRecDepth 100000
/-! dyehouse/deci.Get -/
namespace N41
noncomputable def cfg : Cfg := { P := Try.prog, ty := tys, E := tab [(39, N39.ent)], atSeq := tab [], atLoop := tab [], outs := [] }
noncomputable def body : Code := bodyOf Try.f41
def c (x0 : ByteArray) (k : Int → Int → Prop) : Prop :=
  (N39.f x0 (0 : Int) (fun (y0_0 : Int) (y1_0 : Int) (y2_0 : Int) => (br (y2_0 != (0 : Int)) (k (0 : Int) y2_0) (br (decide (y1_0 < ((((x0).size : Nat) : Int)))) (k (0 : Int) (12 : Int)) (k y0_0 (0 : Int))))))
def f0 (x0 : ByteArray) (k : Int → Int → Prop) : Prop := c x0 k
theorem f_ex : ∃ g : ByteArray → (Int → Int → Prop) → Prop, g = f0 := ⟨_, rfl⟩
noncomputable def f : ByteArray → (Int → Int → Prop) → Prop := Classical.choose f_ex
theorem f_def : f = f0 := Classical.choose_spec f_ex
noncomputable def JJ (k kp : D → List Blk → Prop) : Nat → St → Prop := pick none' []
noncomputable def LL (k kp : D → List Blk → Prop) : Nat → St → Prop := pick none' []
theorem c_c (k kp : D → List Blk → Prop) (J L : Nat → St → Prop) (x0 : ByteArray) : runC cfg 1000001 J L none'' [] body (topK cfg Try.f41 k kp) (st0 Try.f41 [(.v (.string x0))] []) = c x0 (fun y0 y1 => k (.tup [(.v (.int IntKind.i64 y0)), (.v (.int IntKind.i64 y1))]) []) := by kernel_rfl
theorem c_ag (k kp : D → List Blk → Prop) : agPL cfg 1000001 (JJ k kp) (LL k kp) [] body = agPR cfg 1000001 none'' [] body (topK cfg Try.f41 k kp) := by kernel_rfl
theorem body_is : Try.f41.body = some body := by kernel_rfl
theorem c_raw (k kp : D → List Blk → Prop) (x0 : ByteArray) : funW cfg Try.f41 [(.v (.string x0))] [] k kp = c x0 (fun y0 y1 => k (.tup [(.v (.int IntKind.i64 y0)), (.v (.int IntKind.i64 y1))]) []) :=
  Eq.mp (by kernel_rfl) ((funW_run (AG := none'') body_is (c_ag k kp) [(.v (.string x0))] []).trans (c_c k kp (JJ k kp) (LL k kp) x0))
theorem f_eq (k kp : D → List Blk → Prop) (x0 : ByteArray) : funW cfg Try.f41 [(.v (.string x0))] [] k kp = f x0 (fun y0 y1 => k (.tup [(.v (.int IntKind.i64 y0)), (.v (.int IntKind.i64 y1))]) []) := by
  rw [f_def, c_raw]; rfl
noncomputable def ent0 : Entry := fun args blks k _ => match args, blks with
  | [d0], [] => aStr d0 fun x0 => f x0 (fun y0 y1 => k (.tup [(.v (.int IntKind.i64 y0)), (.v (.int IntKind.i64 y1))]) [])
  | _, _ => False
noncomputable def ent : Entry := fun args blks k kp => ent0 (convA [none] args) blks k kp
theorem ok : EntOk Try.prog 0 0 41 ent := by
  refine EntOk.conv (EntOk.of (funW_ok (cfg := cfg) (tyOk_of rfl rfl tyL_ok) (eqOk_none rfl) mixed_ok (tab_ok ?_) Try.func41 (by rfl) (by rfl)) ?_) _
  · intro p hp
    simp only [List.mem_cons, List.not_mem_nil, or_false] at hp
    rcases hp with rfl
    · exact N39.ok
  · intro args blks k kp h k' kp'
    match args, blks, h with
    | [d0], [], h =>
    dsimp only [ent0] at h
    have h9 := aStr_elim h; clear h; obtain ⟨x0, rfl, h⟩ := h9
    exact (f_eq k' kp' x0).symm
end N41
end Go.Proofs.Yt
namespace Go.Proofs.Yt
open Go Go.Aw Go.Proofs
set_option linter.unusedVariables false
set_option linter.unusedSimpArgs false
set_option maxRecDepth 100000
/-! dyehouse/dyehouselaw02.works -/
namespace N33
noncomputable def cfg : Cfg := { P := Try.prog, ty := tys, E := tab [(41, N41.ent), (39, N39.ent), (34, N34.ent), (36, N36.ent), (38, N38.ent)], atSeq := tab [], atLoop := tab [], outs := [] }
noncomputable def body : Code := bodyOf Try.f33
def c (k : Bool → Prop) : Prop :=
  (N41.f (ByteArray.mk #[45, 52, 50]) (fun (y0_0 : Int) (y1_0 : Int) => (N39.f (ByteArray.mk #[97, 55, 98]) (1 : Int) (fun (y0_1 : Int) (y1_1 : Int) (y2_1 : Int) => (N41.f (ByteArray.mk #[48, 48, 55]) (fun (y0_2 : Int) (y1_2 : Int) => (N34.f (-9223372036854775808 : Int) (fun (y0_3 : ByteArray) => (br (beqS y0_3 (ByteArray.mk #[45, 57, 50, 50, 51, 51, 55, 50, 48, 51, 54, 56, 53, 52, 55, 55, 53, 56, 48, 56])) (N36.f (5 : Int) (3 : Int) (fun (y0_4 : ByteArray) => (br (beqS y0_4 (ByteArray.mk #[32, 32, 53])) (N38.f (-10 : Int) (fun (y0_5 : Int) => (br (y0_5 == (3 : Int)) (br (y0_0 == (-42 : Int)) (br (y1_0 == (0 : Int)) (br (y0_1 == (7 : Int)) (br (y1_1 == (2 : Int)) (br (y2_1 == (0 : Int)) (k (y1_2 == (12 : Int))) (k false)) (k false)) (k false)) (k false)) (k false)) (k false)))) (k false)))) (k false))))))))))
def f0 (k : Bool → Prop) : Prop := c k
theorem f_ex : ∃ g : (Bool → Prop) → Prop, g = f0 := ⟨_, rfl⟩
noncomputable def f : (Bool → Prop) → Prop := Classical.choose f_ex
theorem f_def : f = f0 := Classical.choose_spec f_ex
noncomputable def JJ (k kp : D → List Blk → Prop) : Nat → St → Prop := pick none' []
noncomputable def LL (k kp : D → List Blk → Prop) : Nat → St → Prop := pick none' []
theorem c_c (k kp : D → List Blk → Prop) (J L : Nat → St → Prop) : runC cfg 1000001 J L none'' [] body (topK cfg Try.f33 k kp) (st0 Try.f33 [] []) = c (fun y0 => k (.v (.bool y0)) []) := by kernel_rfl
theorem c_ag (k kp : D → List Blk → Prop) : agPL cfg 1000001 (JJ k kp) (LL k kp) [] body = agPR cfg 1000001 none'' [] body (topK cfg Try.f33 k kp) := by kernel_rfl
theorem body_is : Try.f33.body = some body := by kernel_rfl
theorem c_raw (k kp : D → List Blk → Prop) : funW cfg Try.f33 [] [] k kp = c (fun y0 => k (.v (.bool y0)) []) :=
  Eq.mp (by kernel_rfl) ((funW_run (AG := none'') body_is (c_ag k kp) [] []).trans (c_c k kp (JJ k kp) (LL k kp)))
theorem f_eq (k kp : D → List Blk → Prop) : funW cfg Try.f33 [] [] k kp = f (fun y0 => k (.v (.bool y0)) []) := by
  rw [f_def, c_raw]; rfl
noncomputable def ent0 : Entry := fun args blks k _ => match args, blks with
  | [], [] => f (fun y0 => k (.v (.bool y0)) [])
  | _, _ => False
noncomputable def ent : Entry := fun args blks k kp => ent0 (convA [] args) blks k kp
theorem ok : EntOk Try.prog 0 0 33 ent := by
  refine EntOk.conv (EntOk.of (funW_ok (cfg := cfg) (tyOk_of rfl rfl tyL_ok) (eqOk_none rfl) mixed_ok (tab_ok ?_) Try.func33 (by rfl) (by rfl)) ?_) _
  · intro p hp
    simp only [List.mem_cons, List.not_mem_nil, or_false] at hp
    rcases hp with rfl | rfl | rfl | rfl | rfl
    · exact N41.ok
    · exact N39.ok
    · exact N34.ok
    · exact N36.ok
    · exact N38.ok
  · intro args blks k kp h k' kp'
    match args, blks, h with
    | [], [], h =>
    dsimp only [ent0] at h
    exact (f_eq k' kp').symm
end N33
end Go.Proofs.Yt
namespace Go.Proofs.Yt
open Go Go.Aw Go.Proofs
set_option linter.unusedVariables false
set_option linter.unusedSimpArgs false
set_option maxRecDepth 100000
/-! dyehouse/dyehouseref02.digits -/
namespace N61
noncomputable def cfg : Cfg := { P := Try.prog, ty := tys, E := tab [], atSeq := tab [(3, ⟨[(0, .keep), (3, .keep)]⟩), (5, ⟨[(3, .keep)]⟩)], atLoop := tab [(2, ⟨[(0, .keep), (3, .own 5 (Ty.int IntKind.u8))]⟩)], outs := [] }
noncomputable def body : Code := bodyOf Try.f61
def l2 (j3 : Int → (List Int) → Prop) (j5 : (List Int) → Prop) (x0 : Int) (b0 : (List Int)) (k : (List Int) → Prop) : Prop :=
  (br (decide (x0 > (0 : Int))) (j3 x0 b0) (br (((((b0).length : Nat) : Int)) == (0 : Int)) (j3 x0 b0) (j5 b0)))
def j3 (ag2 : Int → (List Int) → Prop) (x0 : Int) (b0 : (List Int)) (k : (List Int) → Prop) : Prop :=
  (((10 : Int) ≠ 0) ∧ ((room ((b0).length + (([(IntKind.u8.wrap (IntKind.u64.wrap ((48 : Int) + (Int.tmod x0 (10 : Int)))))] : List Int)).length) 1) ∧ (((10 : Int) ≠ 0) ∧ (ag2 (IntKind.u64.wrap (Int.tdiv x0 (10 : Int))) (b0 ++ ([(IntKind.u8.wrap (IntKind.u64.wrap ((48 : Int) + (Int.tmod x0 (10 : Int)))))] : List Int))))))
def j5 (b0 : (List Int)) (k : (List Int) → Prop) : Prop :=
  (k b0)
def c (l2 : Int → (List Int) → Prop) (x0 : Int) (k : (List Int) → Prop) : Prop :=
  (l2 x0 ([] : List Int))
def j3' (ag2 : Int → (List Int) → Prop) (x0 : Int) (b0 : (List Int)) (k : (List Int) → Prop) : Prop := j3 ag2 x0 b0 k
def j5' (b0 : (List Int)) (k : (List Int) → Prop) : Prop := j5 b0 k
def l2' (x0 : Int) (b0 : (List Int)) (k : (List Int) → Prop) : Prop := ∃ n, loopS (fun (ag : (Int × (List Int)) → Prop) (s : Int × (List Int)) => l2 (fun x0 b0 => j3' (fun x0 b0 => ag (x0, b0)) x0 b0 k) (fun b0 => j5' b0 k) s.1 s.2 k) n (x0, b0)
def f0 (x0 : Int) (k : (List Int) → Prop) : Prop := c (fun x0 b0 => l2' x0 b0 k) x0 k
theorem f_ex : ∃ g : Int → ((List Int) → Prop) → Prop, g = f0 := ⟨_, rfl⟩
noncomputable def f : Int → ((List Int) → Prop) → Prop := Classical.choose f_ex
theorem f_def : f = f0 := Classical.choose_spec f_ex
def mL2 (x0 : Int) (b0 : (List Int)) : St := { tmps := mkT 21 0 [(0, (.v (.int IntKind.u64 x0))), (3, (.sl 0 0))], hp := [(.lst 5 (Ty.int IntKind.u8) b0 0 false)], m := 0 }
def m3 (x0 : Int) (b0 : (List Int)) : St := { tmps := mkT 21 0 [(0, (.v (.int IntKind.u64 x0))), (3, (.sl 0 0))], hp := [(.lst 5 (Ty.int IntKind.u8) b0 0 false)], m := 0 }
def m5 (b0 : (List Int)) : St := { tmps := mkT 21 0 [(3, (.sl 0 0))], hp := [(.lst 5 (Ty.int IntKind.u8) b0 0 false)], m := 0 }
noncomputable def YL2 (k kp : D → List Blk → Prop) : (St → Prop) → St → Prop := loopB cfg (sub [1, 1, 0, 0, 0] body) (contK cfg (pick none' []) [1, 1, 0, 0] body (topK cfg Try.f61 k kp))
noncomputable def XL2 (k kp : D → List Blk → Prop) : St → Prop := fun st => ∃ n, loopN (YL2 k kp) n st
noncomputable def X3 (k kp : D → List Blk → Prop) (ag2 : St → Prop) : St → Prop := atP cfg (pick none' [(2, ag2)]) [1, 1, 0, 0, 0, 1] body (topK cfg Try.f61 k kp)
noncomputable def X5 (k kp : D → List Blk → Prop) : St → Prop := atP cfg (pick none' []) [1, 1, 1] body (topK cfg Try.f61 k kp)
noncomputable def JJ_2 (k kp : D → List Blk → Prop) (ag2 : St → Prop) : Nat → St → Prop := pick none' [(3, X3 k kp ag2), (5, X5 k kp)]
noncomputable def LL_2 (k kp : D → List Blk → Prop) (ag2 : St → Prop) : Nat → St → Prop := pick none' [(2, XL2 k kp)]
noncomputable def JJ (k kp : D → List Blk → Prop) : Nat → St → Prop := pick none' [(5, X5 k kp)]
noncomputable def LL (k kp : D → List Blk → Prop) : Nat → St → Prop := pick none' [(2, XL2 k kp)]
theorem j3_c (k kp : D → List Blk → Prop) (J L : Nat → St → Prop) (ag2 : St → Prop) (x0 : Int) (b0 : (List Int)) : runC cfg 3 J L (pick none' [(2, ag2)]) [1, 1, 0, 0, 0, 1] body (topK cfg Try.f61 k kp) (m3 x0 b0) = j3 (fun x0 b0 => ag2 (mL2 x0 b0)) x0 b0 (fun z0 => k (.sl 0 0) [(.lst 5 (Ty.int IntKind.u8) z0 0 false)]) := by kernel_rfl
theorem j3_ag (k kp : D → List Blk → Prop) (ag2 : St → Prop) : agPL cfg 3 (JJ_2 k kp ag2) (LL_2 k kp ag2) [1, 1, 0, 0, 0, 1] body = agPR cfg 3 (pick none' [(2, ag2)]) [1, 1, 0, 0, 0, 1] body (topK cfg Try.f61 k kp) := by kernel_rfl
theorem j3_raw (k kp : D → List Blk → Prop) (ag2 : St → Prop) (x0 : Int) (b0 : (List Int)) : X3 k kp ag2 (m3 x0 b0) = j3 (fun x0 b0 => ag2 (mL2 x0 b0)) x0 b0 (fun z0 => k (.sl 0 0) [(.lst 5 (Ty.int IntKind.u8) z0 0 false)]) :=
  Eq.mp (by kernel_rfl) ((atP_run (j3_ag k kp ag2) (m3 x0 b0)).trans (j3_c k kp (JJ_2 k kp ag2) (LL_2 k kp ag2) ag2 x0 b0))
theorem j3_eq (k kp : D → List Blk → Prop) (ag2 : St → Prop) (x0 : Int) (b0 : (List Int)) : X3 k kp ag2 (m3 x0 b0) = j3' (fun x0 b0 => ag2 (mL2 x0 b0)) x0 b0 (fun z0 => k (.sl 0 0) [(.lst 5 (Ty.int IntKind.u8) z0 0 false)]) := by
  rw [j3_raw]; rfl
theorem j5_c (k kp : D → List Blk → Prop) (J L : Nat → St → Prop) (b0 : (List Int)) : runC cfg 5 J L (pick none' []) [1, 1, 1] body (topK cfg Try.f61 k kp) (m5 b0) = j5 b0 (fun z0 => k (.sl 0 0) [(.lst 5 (Ty.int IntKind.u8) z0 0 false)]) := by kernel_rfl
theorem j5_ag (k kp : D → List Blk → Prop) : agPL cfg 5 (JJ k kp) (LL k kp) [1, 1, 1] body = agPR cfg 5 (pick none' []) [1, 1, 1] body (topK cfg Try.f61 k kp) := by kernel_rfl
theorem j5_raw (k kp : D → List Blk → Prop) (b0 : (List Int)) : X5 k kp (m5 b0) = j5 b0 (fun z0 => k (.sl 0 0) [(.lst 5 (Ty.int IntKind.u8) z0 0 false)]) :=
  Eq.mp (by kernel_rfl) ((atP_run (j5_ag k kp) (m5 b0)).trans (j5_c k kp (JJ k kp) (LL k kp) b0))
theorem j5_eq (k kp : D → List Blk → Prop) (b0 : (List Int)) : X5 k kp (m5 b0) = j5' b0 (fun z0 => k (.sl 0 0) [(.lst 5 (Ty.int IntKind.u8) z0 0 false)]) := by
  rw [j5_raw]; rfl
theorem l2_c (k kp : D → List Blk → Prop) (J L : Nat → St → Prop) (ag2 : St → Prop) (x0 : Int) (b0 : (List Int)) : runC cfg 1000001 J L (pick none' [(2, ag2)]) [1, 1, 0, 0, 0] body (topK cfg Try.f61 k kp) (mL2 x0 b0) = l2 (fun x0 b0 => J 3 (m3 x0 b0)) (fun b0 => J 5 (m5 b0)) x0 b0 (fun z0 => k (.sl 0 0) [(.lst 5 (Ty.int IntKind.u8) z0 0 false)]) := by kernel_rfl
theorem l2_ag (k kp : D → List Blk → Prop) (ag2 : St → Prop) : agPL cfg 1000001 (JJ_2 k kp ag2) (LL_2 k kp ag2) [1, 1, 0, 0, 0] body = agPR cfg 1000001 (pick none' [(2, ag2)]) [1, 1, 0, 0, 0] body (topK cfg Try.f61 k kp) := by kernel_rfl
theorem l2_raw (k kp : D → List Blk → Prop) (ag2 : St → Prop) (x0 : Int) (b0 : (List Int)) : YL2 k kp ag2 (mL2 x0 b0) = l2 (fun x0 b0 => X3 k kp ag2 (m3 x0 b0)) (fun b0 => X5 k kp (m5 b0)) x0 b0 (fun z0 => k (.sl 0 0) [(.lst 5 (Ty.int IntKind.u8) z0 0 false)]) :=
  Eq.mp (by kernel_rfl) ((atP_run (l2_ag k kp ag2) (mL2 x0 b0)).trans (l2_c k kp (JJ_2 k kp ag2) (LL_2 k kp ag2) ag2 x0 b0))
theorem l2_eq (k kp : D → List Blk → Prop) (x0 : Int) (b0 : (List Int)) : XL2 k kp (mL2 x0 b0) = l2' x0 b0 (fun z0 => k (.sl 0 0) [(.lst 5 (Ty.int IntKind.u8) z0 0 false)]) :=
  loop_eq (mk := fun (s : Int × (List Int)) => mL2 s.1 s.2) (fun again s => by rw [l2_raw k kp again s.1 s.2]; simp only [j3_eq, j5_eq]; first | done | rfl) (x0, b0)
theorem c_c (k kp : D → List Blk → Prop) (J L : Nat → St → Prop) (x0 : Int) : runC cfg 1000001 J L none'' [] body (topK cfg Try.f61 k kp) (st0 Try.f61 [(.v (.int IntKind.u64 x0))] []) = c (fun x0 b0 => L 2 (mL2 x0 b0)) x0 (fun z0 => k (.sl 0 0) [(.lst 5 (Ty.int IntKind.u8) z0 0 false)]) := by kernel_rfl
theorem c_ag (k kp : D → List Blk → Prop) : agPL cfg 1000001 (JJ k kp) (LL k kp) [] body = agPR cfg 1000001 none'' [] body (topK cfg Try.f61 k kp) := by kernel_rfl
theorem body_is : Try.f61.body = some body := by kernel_rfl
theorem c_raw (k kp : D → List Blk → Prop) (x0 : Int) : funW cfg Try.f61 [(.v (.int IntKind.u64 x0))] [] k kp = c (fun x0 b0 => XL2 k kp (mL2 x0 b0)) x0 (fun z0 => k (.sl 0 0) [(.lst 5 (Ty.int IntKind.u8) z0 0 false)]) :=
  Eq.mp (by kernel_rfl) ((funW_run (AG := none'') body_is (c_ag k kp) [(.v (.int IntKind.u64 x0))] []).trans (c_c k kp (JJ k kp) (LL k kp) x0))
theorem f_eq (k kp : D → List Blk → Prop) (x0 : Int) : funW cfg Try.f61 [(.v (.int IntKind.u64 x0))] [] k kp = f x0 (fun z0 => k (.sl 0 0) [(.lst 5 (Ty.int IntKind.u8) z0 0 false)]) := by
  rw [f_def, c_raw]; simp only [l2_eq]; first | done | rfl
noncomputable def ent0 : Entry := fun args blks k _ => match args, blks with
  | [d0], [] => aInt IntKind.u64 d0 fun x0 => f x0 (fun z0 => k (.sl 0 0) [(.lst 5 (Ty.int IntKind.u8) z0 0 false)])
  | _, _ => False
noncomputable def ent : Entry := fun args blks k kp => ent0 (convA [none] args) blks k kp
theorem ok : EntOk Try.prog 0 0 61 ent := by
  refine EntOk.conv (EntOk.of (funW_ok (cfg := cfg) (tyOk_of rfl rfl tyL_ok) (eqOk_none rfl) mixed_ok (tab_ok ?_) Try.func61 (by rfl) (by rfl)) ?_) _
  · intro p hp
    cases hp
  · intro args blks k kp h k' kp'
    match args, blks, h with
    | [d0], [], h =>
    dsimp only [ent0] at h
    have h9 := aInt_elim h; clear h; obtain ⟨x0, rfl, h⟩ := h9
    exact (f_eq k' kp' x0).symm
end N61
end Go.Proofs.Yt
namespace Go.Proofs.Yt
open Go Go.Aw Go.Proofs
set_option linter.unusedVariables false
set_option linter.unusedSimpArgs false
set_option maxRecDepth 100000
/-! dyehouse/dyehouseref02.Put -/
namespace N35
noncomputable def cfg : Cfg := { P := Try.prog, ty := tys, E := tab [(61, N61.ent)], atSeq := tab [(6, ⟨[(3, .keep), (4, .keep)]⟩), (11, ⟨[(4, .keep)]⟩)], atLoop := tab [(8, ⟨[(4, .keep), (5, .keep), (6, .keep)]⟩)], outs := [] }
noncomputable def body : Code := bodyOf Try.f35
def j6 (l8 : ByteArray → Int → (List Int) → Prop) (x3 : Int) (x4 : ByteArray) (k : ByteArray → Prop) : Prop :=
  (N61.f x3 (fun (z0_0 : (List Int)) => (l8 x4 (IntKind.i64.wrap (((((z0_0).length : Nat) : Int)) - (1 : Int))) z0_0)))
def l8 (j11 : ByteArray → Prop) (ag8 : ByteArray → Int → (List Int) → Prop) (x4 : ByteArray) (x6 : Int) (b0 : (List Int)) (k : ByteArray → Prop) : Prop :=
  (br (decide (x6 ≥ (0 : Int))) ((inB 0 x6 ((((b0).length : Nat) : Int) - 1)) ∧ (((x4).size + ((bytesOf ([(b0.getD (Int.toNat x6) (0))] : List Int))).size ≤ 9223372036854775807) ∧ (ag8 (x4 ++ (bytesOf ([(b0.getD (Int.toNat x6) (0))] : List Int))) (IntKind.i64.wrap (x6 - (1 : Int))) b0))) (j11 x4))
def j11 (x4 : ByteArray) (k : ByteArray → Prop) : Prop :=
  (k x4)
def c (j6 : Int → ByteArray → Prop) (x0 : Int) (k : ByteArray → Prop) : Prop :=
  (br (decide (x0 < (0 : Int))) (j6 (IntKind.u64.wrap (0 - (IntKind.u64.wrap x0))) (ByteArray.mk #[45])) (j6 (IntKind.u64.wrap x0) (ByteArray.mk #[])))
def j11' (x4 : ByteArray) (k : ByteArray → Prop) : Prop := j11 x4 k
def l8' (x4 : ByteArray) (x6 : Int) (b0 : (List Int)) (k : ByteArray → Prop) : Prop := ∃ n, loopS (fun (ag : (ByteArray × Int × (List Int)) → Prop) (s : ByteArray × Int × (List Int)) => l8 (fun x4 => j11' x4 k) (fun x4 x6 b0 => ag (x4, x6, b0)) s.1 s.2.1 s.2.2 k) n (x4, x6, b0)
def j6' (x3 : Int) (x4 : ByteArray) (k : ByteArray → Prop) : Prop := j6 (fun x4 x6 b0 => l8' x4 x6 b0 k) x3 x4 k
def f0 (x0 : Int) (k : ByteArray → Prop) : Prop := c (fun x3 x4 => j6' x3 x4 k) x0 k
theorem f_ex : ∃ g : Int → (ByteArray → Prop) → Prop, g = f0 := ⟨_, rfl⟩
noncomputable def f : Int → (ByteArray → Prop) → Prop := Classical.choose f_ex
theorem f_def : f = f0 := Classical.choose_spec f_ex
def m6 (x3 : Int) (x4 : ByteArray) : St := { tmps := mkT 31 0 [(3, (.v (.int IntKind.u64 x3))), (4, (.v (.string x4)))], hp := [], m := 0 }
def mL8 (x4 : ByteArray) (x6 : Int) (b0 : (List Int)) : St := { tmps := mkT 31 0 [(4, (.v (.string x4))), (5, (.sl 0 0)), (6, (.v (.int IntKind.i64 x6)))], hp := [(.lst 5 (Ty.int IntKind.u8) b0 0 false)], m := 0 }
def m11 (x4 : ByteArray) : St := { tmps := mkT 31 0 [(4, (.v (.string x4)))], hp := [], m := 0 }
noncomputable def X6 (k kp : D → List Blk → Prop) : St → Prop := atP cfg (pick none' []) [1, 1, 1, 1] body (topK cfg Try.f35 k kp)
noncomputable def YL8 (k kp : D → List Blk → Prop) : (St → Prop) → St → Prop := loopB cfg (sub [1, 1, 1, 1, 1, 0, 1, 0, 0] body) (contK cfg (pick none' []) [1, 1, 1, 1, 1, 0, 1, 0] body (topK cfg Try.f35 k kp))
noncomputable def XL8 (k kp : D → List Blk → Prop) : St → Prop := fun st => ∃ n, loopN (YL8 k kp) n st
noncomputable def X11 (k kp : D → List Blk → Prop) : St → Prop := atP cfg (pick none' []) [1, 1, 1, 1, 1, 1] body (topK cfg Try.f35 k kp)
noncomputable def JJ (k kp : D → List Blk → Prop) : Nat → St → Prop := pick none' [(6, X6 k kp), (11, X11 k kp)]
noncomputable def LL (k kp : D → List Blk → Prop) : Nat → St → Prop := pick none' [(8, XL8 k kp)]
noncomputable def JJ_8 (k kp : D → List Blk → Prop) (ag8 : St → Prop) : Nat → St → Prop := pick none' [(6, X6 k kp), (11, X11 k kp)]
noncomputable def LL_8 (k kp : D → List Blk → Prop) (ag8 : St → Prop) : Nat → St → Prop := pick none' [(8, XL8 k kp)]
theorem j11_c (k kp : D → List Blk → Prop) (J L : Nat → St → Prop) (x4 : ByteArray) : runC cfg 11 J L (pick none' []) [1, 1, 1, 1, 1, 1] body (topK cfg Try.f35 k kp) (m11 x4) = j11 x4 (fun y0 => k (.v (.string y0)) []) := by kernel_rfl
theorem j11_ag (k kp : D → List Blk → Prop) : agPL cfg 11 (JJ k kp) (LL k kp) [1, 1, 1, 1, 1, 1] body = agPR cfg 11 (pick none' []) [1, 1, 1, 1, 1, 1] body (topK cfg Try.f35 k kp) := by kernel_rfl
theorem j11_raw (k kp : D → List Blk → Prop) (x4 : ByteArray) : X11 k kp (m11 x4) = j11 x4 (fun y0 => k (.v (.string y0)) []) :=
  Eq.mp (by kernel_rfl) ((atP_run (j11_ag k kp) (m11 x4)).trans (j11_c k kp (JJ k kp) (LL k kp) x4))
theorem j11_eq (k kp : D → List Blk → Prop) (x4 : ByteArray) : X11 k kp (m11 x4) = j11' x4 (fun y0 => k (.v (.string y0)) []) := by
  rw [j11_raw]; rfl
theorem l8_c (k kp : D → List Blk → Prop) (J L : Nat → St → Prop) (ag8 : St → Prop) (x4 : ByteArray) (x6 : Int) (b0 : (List Int)) : runC cfg 1000001 J L (pick none' [(8, ag8)]) [1, 1, 1, 1, 1, 0, 1, 0, 0] body (topK cfg Try.f35 k kp) (mL8 x4 x6 b0) = l8 (fun x4 => J 11 (m11 x4)) (fun x4 x6 b0 => ag8 (mL8 x4 x6 b0)) x4 x6 b0 (fun y0 => k (.v (.string y0)) []) := by kernel_rfl
theorem l8_ag (k kp : D → List Blk → Prop) (ag8 : St → Prop) : agPL cfg 1000001 (JJ_8 k kp ag8) (LL_8 k kp ag8) [1, 1, 1, 1, 1, 0, 1, 0, 0] body = agPR cfg 1000001 (pick none' [(8, ag8)]) [1, 1, 1, 1, 1, 0, 1, 0, 0] body (topK cfg Try.f35 k kp) := by kernel_rfl
theorem l8_raw (k kp : D → List Blk → Prop) (ag8 : St → Prop) (x4 : ByteArray) (x6 : Int) (b0 : (List Int)) : YL8 k kp ag8 (mL8 x4 x6 b0) = l8 (fun x4 => X11 k kp (m11 x4)) (fun x4 x6 b0 => ag8 (mL8 x4 x6 b0)) x4 x6 b0 (fun y0 => k (.v (.string y0)) []) :=
  Eq.mp (by kernel_rfl) ((atP_run (l8_ag k kp ag8) (mL8 x4 x6 b0)).trans (l8_c k kp (JJ_8 k kp ag8) (LL_8 k kp ag8) ag8 x4 x6 b0))
theorem l8_eq (k kp : D → List Blk → Prop) (x4 : ByteArray) (x6 : Int) (b0 : (List Int)) : XL8 k kp (mL8 x4 x6 b0) = l8' x4 x6 b0 (fun y0 => k (.v (.string y0)) []) :=
  loop_eq (mk := fun (s : ByteArray × Int × (List Int)) => mL8 s.1 s.2.1 s.2.2) (fun again s => by rw [l8_raw k kp again s.1 s.2.1 s.2.2]; simp only [j11_eq]; first | done | rfl) (x4, x6, b0)
theorem j6_c (k kp : D → List Blk → Prop) (J L : Nat → St → Prop) (x3 : Int) (x4 : ByteArray) : runC cfg 6 J L (pick none' []) [1, 1, 1, 1] body (topK cfg Try.f35 k kp) (m6 x3 x4) = j6 (fun x4 x6 b0 => L 8 (mL8 x4 x6 b0)) x3 x4 (fun y0 => k (.v (.string y0)) []) := by kernel_rfl
theorem j6_ag (k kp : D → List Blk → Prop) : agPL cfg 6 (JJ k kp) (LL k kp) [1, 1, 1, 1] body = agPR cfg 6 (pick none' []) [1, 1, 1, 1] body (topK cfg Try.f35 k kp) := by kernel_rfl
theorem j6_raw (k kp : D → List Blk → Prop) (x3 : Int) (x4 : ByteArray) : X6 k kp (m6 x3 x4) = j6 (fun x4 x6 b0 => XL8 k kp (mL8 x4 x6 b0)) x3 x4 (fun y0 => k (.v (.string y0)) []) :=
  Eq.mp (by kernel_rfl) ((atP_run (j6_ag k kp) (m6 x3 x4)).trans (j6_c k kp (JJ k kp) (LL k kp) x3 x4))
theorem j6_eq (k kp : D → List Blk → Prop) (x3 : Int) (x4 : ByteArray) : X6 k kp (m6 x3 x4) = j6' x3 x4 (fun y0 => k (.v (.string y0)) []) := by
  rw [j6_raw]; simp only [l8_eq]; first | done | rfl
theorem c_c (k kp : D → List Blk → Prop) (J L : Nat → St → Prop) (x0 : Int) : runC cfg 1000001 J L none'' [] body (topK cfg Try.f35 k kp) (st0 Try.f35 [(.v (.int IntKind.i64 x0))] []) = c (fun x3 x4 => J 6 (m6 x3 x4)) x0 (fun y0 => k (.v (.string y0)) []) := by kernel_rfl
theorem c_ag (k kp : D → List Blk → Prop) : agPL cfg 1000001 (JJ k kp) (LL k kp) [] body = agPR cfg 1000001 none'' [] body (topK cfg Try.f35 k kp) := by kernel_rfl
theorem body_is : Try.f35.body = some body := by kernel_rfl
theorem c_raw (k kp : D → List Blk → Prop) (x0 : Int) : funW cfg Try.f35 [(.v (.int IntKind.i64 x0))] [] k kp = c (fun x3 x4 => X6 k kp (m6 x3 x4)) x0 (fun y0 => k (.v (.string y0)) []) :=
  Eq.mp (by kernel_rfl) ((funW_run (AG := none'') body_is (c_ag k kp) [(.v (.int IntKind.i64 x0))] []).trans (c_c k kp (JJ k kp) (LL k kp) x0))
theorem f_eq (k kp : D → List Blk → Prop) (x0 : Int) : funW cfg Try.f35 [(.v (.int IntKind.i64 x0))] [] k kp = f x0 (fun y0 => k (.v (.string y0)) []) := by
  rw [f_def, c_raw]; simp only [j6_eq]; first | done | rfl
noncomputable def ent0 : Entry := fun args blks k _ => match args, blks with
  | [d0], [] => aInt IntKind.i64 d0 fun x0 => f x0 (fun y0 => k (.v (.string y0)) [])
  | _, _ => False
noncomputable def ent : Entry := fun args blks k kp => ent0 (convA [none] args) blks k kp
theorem ok : EntOk Try.prog 0 0 35 ent := by
  refine EntOk.conv (EntOk.of (funW_ok (cfg := cfg) (tyOk_of rfl rfl tyL_ok) (eqOk_none rfl) mixed_ok (tab_ok ?_) Try.func35 (by rfl) (by rfl)) ?_) _
  · intro p hp
    simp only [List.mem_cons, List.not_mem_nil, or_false] at hp
    rcases hp with rfl
    · exact N61.ok
  · intro args blks k kp h k' kp'
    match args, blks, h with
    | [d0], [], h =>
    dsimp only [ent0] at h
    have h9 := aInt_elim h; clear h; obtain ⟨x0, rfl, h⟩ := h9
    exact (f_eq k' kp' x0).symm
end N35
end Go.Proofs.Yt
namespace Go.Proofs.Yt
open Go Go.Aw Go.Proofs
set_option linter.unusedVariables false
set_option linter.unusedSimpArgs false
set_option maxRecDepth 100000
/-! dyehouse/dyehouseref02.Pad -/
namespace N37
noncomputable def cfg : Cfg := { P := Try.prog, ty := tys, E := tab [(35, N35.ent)], atSeq := tab [(6, ⟨[(5, .keep)]⟩)], atLoop := tab [(3, ⟨[(1, .keep), (5, .keep), (6, .keep)]⟩)], outs := [] }
noncomputable def body : Code := bodyOf Try.f37
def l3 (j6 : ByteArray → Prop) (ag3 : ByteArray → Int → Prop) (x1 : Int) (x5 : ByteArray) (x6 : Int) (k : ByteArray → Prop) : Prop :=
  (br (decide (x6 < x1)) ((((ByteArray.mk #[32])).size + (x5).size ≤ 9223372036854775807) ∧ (ag3 ((ByteArray.mk #[32]) ++ x5) (IntKind.i64.wrap (x6 + (1 : Int))))) (j6 x5))
def j6 (x5 : ByteArray) (k : ByteArray → Prop) : Prop :=
  (k x5)
def c (l3 : Int → ByteArray → Int → Prop) (x0 : Int) (x1 : Int) (k : ByteArray → Prop) : Prop :=
  (N35.f x0 (fun (y0_0 : ByteArray) => (l3 x1 y0_0 ((((y0_0).size : Nat) : Int)))))
def j6' (x5 : ByteArray) (k : ByteArray → Prop) : Prop := j6 x5 k
def l3' (x1 : Int) (x5 : ByteArray) (x6 : Int) (k : ByteArray → Prop) : Prop := ∃ n, loopS (fun (ag : (ByteArray × Int) → Prop) (s : ByteArray × Int) => l3 (fun x5 => j6' x5 k) (fun x5 x6 => ag (x5, x6)) x1 s.1 s.2 k) n (x5, x6)
def f0 (x0 : Int) (x1 : Int) (k : ByteArray → Prop) : Prop := c (fun x1 x5 x6 => l3' x1 x5 x6 k) x0 x1 k
theorem f_ex : ∃ g : Int → Int → (ByteArray → Prop) → Prop, g = f0 := ⟨_, rfl⟩
noncomputable def f : Int → Int → (ByteArray → Prop) → Prop := Classical.choose f_ex
theorem f_def : f = f0 := Classical.choose_spec f_ex
def mL3 (x1 : Int) (x5 : ByteArray) (x6 : Int) : St := { tmps := mkT 19 0 [(1, (.v (.int IntKind.i64 x1))), (5, (.v (.string x5))), (6, (.v (.int IntKind.i64 x6)))], hp := [], m := 0 }
def m6 (x5 : ByteArray) : St := { tmps := mkT 19 0 [(5, (.v (.string x5)))], hp := [], m := 0 }
noncomputable def YL3 (k kp : D → List Blk → Prop) : (St → Prop) → St → Prop := loopB cfg (sub [1, 1, 0, 1, 0, 0] body) (contK cfg (pick none' []) [1, 1, 0, 1, 0] body (topK cfg Try.f37 k kp))
noncomputable def XL3 (k kp : D → List Blk → Prop) : St → Prop := fun st => ∃ n, loopN (YL3 k kp) n st
noncomputable def X6 (k kp : D → List Blk → Prop) : St → Prop := atP cfg (pick none' []) [1, 1, 1] body (topK cfg Try.f37 k kp)
noncomputable def JJ_3 (k kp : D → List Blk → Prop) (ag3 : St → Prop) : Nat → St → Prop := pick none' [(6, X6 k kp)]
noncomputable def LL_3 (k kp : D → List Blk → Prop) (ag3 : St → Prop) : Nat → St → Prop := pick none' [(3, XL3 k kp)]
noncomputable def JJ (k kp : D → List Blk → Prop) : Nat → St → Prop := pick none' [(6, X6 k kp)]
noncomputable def LL (k kp : D → List Blk → Prop) : Nat → St → Prop := pick none' [(3, XL3 k kp)]
theorem j6_c (k kp : D → List Blk → Prop) (J L : Nat → St → Prop) (x5 : ByteArray) : runC cfg 6 J L (pick none' []) [1, 1, 1] body (topK cfg Try.f37 k kp) (m6 x5) = j6 x5 (fun y0 => k (.v (.string y0)) []) := by kernel_rfl
theorem j6_ag (k kp : D → List Blk → Prop) : agPL cfg 6 (JJ k kp) (LL k kp) [1, 1, 1] body = agPR cfg 6 (pick none' []) [1, 1, 1] body (topK cfg Try.f37 k kp) := by kernel_rfl
theorem j6_raw (k kp : D → List Blk → Prop) (x5 : ByteArray) : X6 k kp (m6 x5) = j6 x5 (fun y0 => k (.v (.string y0)) []) :=
  Eq.mp (by kernel_rfl) ((atP_run (j6_ag k kp) (m6 x5)).trans (j6_c k kp (JJ k kp) (LL k kp) x5))
theorem j6_eq (k kp : D → List Blk → Prop) (x5 : ByteArray) : X6 k kp (m6 x5) = j6' x5 (fun y0 => k (.v (.string y0)) []) := by
  rw [j6_raw]; rfl
theorem l3_c (k kp : D → List Blk → Prop) (J L : Nat → St → Prop) (ag3 : St → Prop) (x1 : Int) (x5 : ByteArray) (x6 : Int) : runC cfg 1000001 J L (pick none' [(3, ag3)]) [1, 1, 0, 1, 0, 0] body (topK cfg Try.f37 k kp) (mL3 x1 x5 x6) = l3 (fun x5 => J 6 (m6 x5)) (fun x5 x6 => ag3 (mL3 x1 x5 x6)) x1 x5 x6 (fun y0 => k (.v (.string y0)) []) := by kernel_rfl
theorem l3_ag (k kp : D → List Blk → Prop) (ag3 : St → Prop) : agPL cfg 1000001 (JJ_3 k kp ag3) (LL_3 k kp ag3) [1, 1, 0, 1, 0, 0] body = agPR cfg 1000001 (pick none' [(3, ag3)]) [1, 1, 0, 1, 0, 0] body (topK cfg Try.f37 k kp) := by kernel_rfl
theorem l3_raw (k kp : D → List Blk → Prop) (ag3 : St → Prop) (x1 : Int) (x5 : ByteArray) (x6 : Int) : YL3 k kp ag3 (mL3 x1 x5 x6) = l3 (fun x5 => X6 k kp (m6 x5)) (fun x5 x6 => ag3 (mL3 x1 x5 x6)) x1 x5 x6 (fun y0 => k (.v (.string y0)) []) :=
  Eq.mp (by kernel_rfl) ((atP_run (l3_ag k kp ag3) (mL3 x1 x5 x6)).trans (l3_c k kp (JJ_3 k kp ag3) (LL_3 k kp ag3) ag3 x1 x5 x6))
theorem l3_eq (k kp : D → List Blk → Prop) (x1 : Int) (x5 : ByteArray) (x6 : Int) : XL3 k kp (mL3 x1 x5 x6) = l3' x1 x5 x6 (fun y0 => k (.v (.string y0)) []) :=
  loop_eq (mk := fun (s : ByteArray × Int) => mL3 x1 s.1 s.2) (fun again s => by rw [l3_raw k kp again x1 s.1 s.2]; simp only [j6_eq]; first | done | rfl) (x5, x6)
theorem c_c (k kp : D → List Blk → Prop) (J L : Nat → St → Prop) (x0 : Int) (x1 : Int) : runC cfg 1000001 J L none'' [] body (topK cfg Try.f37 k kp) (st0 Try.f37 [(.v (.int IntKind.i64 x0)), (.v (.int IntKind.i64 x1))] []) = c (fun x1 x5 x6 => L 3 (mL3 x1 x5 x6)) x0 x1 (fun y0 => k (.v (.string y0)) []) := by kernel_rfl
theorem c_ag (k kp : D → List Blk → Prop) : agPL cfg 1000001 (JJ k kp) (LL k kp) [] body = agPR cfg 1000001 none'' [] body (topK cfg Try.f37 k kp) := by kernel_rfl
theorem body_is : Try.f37.body = some body := by kernel_rfl
theorem c_raw (k kp : D → List Blk → Prop) (x0 : Int) (x1 : Int) : funW cfg Try.f37 [(.v (.int IntKind.i64 x0)), (.v (.int IntKind.i64 x1))] [] k kp = c (fun x1 x5 x6 => XL3 k kp (mL3 x1 x5 x6)) x0 x1 (fun y0 => k (.v (.string y0)) []) :=
  Eq.mp (by kernel_rfl) ((funW_run (AG := none'') body_is (c_ag k kp) [(.v (.int IntKind.i64 x0)), (.v (.int IntKind.i64 x1))] []).trans (c_c k kp (JJ k kp) (LL k kp) x0 x1))
theorem f_eq (k kp : D → List Blk → Prop) (x0 : Int) (x1 : Int) : funW cfg Try.f37 [(.v (.int IntKind.i64 x0)), (.v (.int IntKind.i64 x1))] [] k kp = f x0 x1 (fun y0 => k (.v (.string y0)) []) := by
  rw [f_def, c_raw]; simp only [l3_eq]; first | done | rfl
noncomputable def ent0 : Entry := fun args blks k _ => match args, blks with
  | [d0, d1], [] => aInt IntKind.i64 d0 fun x0 => aInt IntKind.i64 d1 fun x1 => f x0 x1 (fun y0 => k (.v (.string y0)) [])
  | _, _ => False
noncomputable def ent : Entry := fun args blks k kp => ent0 (convA [none, none] args) blks k kp
theorem ok : EntOk Try.prog 0 0 37 ent := by
  refine EntOk.conv (EntOk.of (funW_ok (cfg := cfg) (tyOk_of rfl rfl tyL_ok) (eqOk_none rfl) mixed_ok (tab_ok ?_) Try.func37 (by rfl) (by rfl)) ?_) _
  · intro p hp
    simp only [List.mem_cons, List.not_mem_nil, or_false] at hp
    rcases hp with rfl
    · exact N35.ok
  · intro args blks k kp h k' kp'
    match args, blks, h with
    | [d0, d1], [], h =>
    dsimp only [ent0] at h
    have h9 := aInt_elim h; clear h; obtain ⟨x0, rfl, h⟩ := h9
    have h9 := aInt_elim h; clear h; obtain ⟨x1, rfl, h⟩ := h9
    exact (f_eq k' kp' x0 x1).symm
end N37
end Go.Proofs.Yt
namespace Go.Proofs.Yt
open Go Go.Aw Go.Proofs
set_option linter.unusedVariables false
set_option linter.unusedSimpArgs false
set_option maxRecDepth 100000
/-! dyehouse/dyehouseref02.Scan -/
namespace N40
noncomputable def cfg : Cfg := { P := Try.prog, ty := tys, E := tab [], atSeq := tab [(2000002, ⟨[(0, .keep), (1, .keep), (20, .keep)]⟩), (3, ⟨[(0, .keep), (1, .keep)]⟩), (5, ⟨[(0, .keep), (7, .keep), (8, .keep)]⟩), (7, ⟨[(0, .keep), (7, .keep), (8, .keep)]⟩), (9, ⟨[(0, .keep), (7, .keep), (8, .keep), (9, .keep)]⟩), (10, ⟨[(0, .keep), (7, .keep), (8, .keep), (9, .keep)]⟩), (2000011, ⟨[(0, .keep), (7, .keep), (8, .keep), (9, .keep), (77, .keep)]⟩), (12, ⟨[(0, .keep), (7, .keep), (8, .keep), (9, .keep)]⟩), (20, ⟨[(8, .keep), (9, .keep), (10, .keep)]⟩), (2000021, ⟨[(8, .keep), (9, .keep), (10, .keep), (107, .keep)]⟩), (22, ⟨[(8, .keep), (9, .keep), (10, .keep)]⟩)], atLoop := tab [(8, ⟨[(0, .keep), (7, .keep), (8, .keep), (9, .keep)]⟩), (14, ⟨[(0, .keep), (8, .keep), (9, .keep), (10, .keep), (11, .keep)]⟩)], outs := [] }
noncomputable def body : Code := bodyOf Try.f40
def j2000002 (j3 : ByteArray → Int → Prop) (x0 : ByteArray) (x1 : Int) (x20 : Bool) (k : Int → Int → Int → Prop) : Prop :=
  (br x20 (k (0 : Int) (0 : Int) (1 : Int)) (j3 x0 x1))
def j3 (j5 : ByteArray → Int → Bool → Prop) (x0 : ByteArray) (x1 : Int) (k : Int → Int → Int → Prop) : Prop :=
  (br (decide (x1 < ((((x0).size : Nat) : Int)))) ((inB 0 x1 ((((x0).size : Nat) : Int) - 1)) ∧ (j5 x0 x1 ((byteAt x0 x1) == (45 : Int)))) (j5 x0 x1 false))
def j5 (j7 : ByteArray → Int → Bool → Prop) (x0 : ByteArray) (x7 : Int) (x8 : Bool) (k : Int → Int → Int → Prop) : Prop :=
  (br x8 (j7 x0 (IntKind.i64.wrap (x7 + (1 : Int))) x8) (j7 x0 x7 x8))
def j7 (l8 : ByteArray → Int → Bool → Int → Prop) (x0 : ByteArray) (x7 : Int) (x8 : Bool) (k : Int → Int → Int → Prop) : Prop :=
  (l8 x0 x7 x8 x7)
def l8 (j9 : ByteArray → Int → Bool → Int → Prop) (j10 : ByteArray → Int → Bool → Int → Prop) (x0 : ByteArray) (x7 : Int) (x8 : Bool) (x9 : Int) (k : Int → Int → Int → Prop) : Prop :=
  (br (decide (x9 < ((((x0).size : Nat) : Int)))) ((inB 0 x9 ((((x0).size : Nat) : Int) - 1)) ∧ (br (decide ((byteAt x0 x9) ≥ (48 : Int))) ((inB 0 x9 ((((x0).size : Nat) : Int) - 1)) ∧ (br (decide ((byteAt x0 x9) ≤ (57 : Int))) (j9 x0 x7 x8 x9) (j10 x0 x7 x8 x9))) (j10 x0 x7 x8 x9))) (j10 x0 x7 x8 x9))
def j9 (ag8 : Int → Prop) (x0 : ByteArray) (x7 : Int) (x8 : Bool) (x9 : Int) (k : Int → Int → Int → Prop) : Prop :=
  (ag8 (IntKind.i64.wrap (x9 + (1 : Int))))
def j10 (j2000011 : ByteArray → Int → Bool → Int → Bool → Prop) (x0 : ByteArray) (x7 : Int) (x8 : Bool) (x9 : Int) (k : Int → Int → Int → Prop) : Prop :=
  (br (x9 == x7) (j2000011 x0 x7 x8 x9 true) ((inB 0 x7 ((((x0).size : Nat) : Int) - 1)) ∧ (br ((byteAt x0 x7) == (48 : Int)) (br (decide (x9 > (IntKind.i64.wrap (x7 + (1 : Int))))) (j2000011 x0 x7 x8 x9 true) ((inB 0 x7 ((((x0).size : Nat) : Int) - 1)) ∧ (br ((byteAt x0 x7) == (48 : Int)) (j2000011 x0 x7 x8 x9 x8) (j2000011 x0 x7 x8 x9 false)))) ((inB 0 x7 ((((x0).size : Nat) : Int) - 1)) ∧ (br ((byteAt x0 x7) == (48 : Int)) (j2000011 x0 x7 x8 x9 x8) (j2000011 x0 x7 x8 x9 false))))))
def j2000011 (j12 : ByteArray → Int → Bool → Int → Prop) (x0 : ByteArray) (x7 : Int) (x8 : Bool) (x9 : Int) (x77 : Bool) (k : Int → Int → Int → Prop) : Prop :=
  (br x77 (k (0 : Int) (0 : Int) (12 : Int)) (j12 x0 x7 x8 x9))
def j12 (l14 : ByteArray → Bool → Int → Int → Int → Prop) (x0 : ByteArray) (x7 : Int) (x8 : Bool) (x9 : Int) (k : Int → Int → Int → Prop) : Prop :=
  (l14 x0 x8 x9 (0 : Int) x7)
def l14 (j20 : Bool → Int → Int → Prop) (ag14 : Int → Int → Prop) (x0 : ByteArray) (x8 : Bool) (x9 : Int) (x10 : Int) (x11 : Int) (k : Int → Int → Int → Prop) : Prop :=
  (br (decide (x11 < x9)) ((inB 0 x11 ((((x0).size : Nat) : Int) - 1)) ∧ (((10 : Int) ≠ 0) ∧ (br (decide (x10 > (IntKind.u64.wrap (Int.tdiv (IntKind.u64.wrap ((18446744073709551615 : Int) - (IntKind.u64.wrap (IntKind.u8.wrap ((byteAt x0 x11) - (48 : Int)))))) (10 : Int))))) (k (0 : Int) (0 : Int) (2 : Int)) (ag14 (IntKind.u64.wrap ((IntKind.u64.wrap ((10 : Int) * x10)) + (IntKind.u64.wrap (IntKind.u8.wrap ((byteAt x0 x11) - (48 : Int)))))) (IntKind.i64.wrap (x11 + (1 : Int))))))) (j20 x8 x9 x10))
def j20 (j2000021 : Bool → Int → Int → Bool → Prop) (x8 : Bool) (x9 : Int) (x10 : Int) (k : Int → Int → Int → Prop) : Prop :=
  (br (decide (x10 > (9223372036854775808 : Int))) (j2000021 x8 x9 x10 true) (br (x10 == (9223372036854775808 : Int)) (j2000021 x8 x9 x10 (!x8)) (j2000021 x8 x9 x10 false)))
def j2000021 (j22 : Bool → Int → Int → Prop) (x8 : Bool) (x9 : Int) (x10 : Int) (x107 : Bool) (k : Int → Int → Int → Prop) : Prop :=
  (br x107 (k (0 : Int) (0 : Int) (2 : Int)) (j22 x8 x9 x10))
def j22 (x8 : Bool) (x9 : Int) (x10 : Int) (k : Int → Int → Int → Prop) : Prop :=
  (br x8 (k (IntKind.i64.wrap (IntKind.u64.wrap (0 - x10))) x9 (0 : Int)) (k (IntKind.i64.wrap x10) x9 (0 : Int)))
def c (j2000002 : ByteArray → Int → Bool → Prop) (x0 : ByteArray) (x1 : Int) (k : Int → Int → Int → Prop) : Prop :=
  (br (decide (x1 < (0 : Int))) (j2000002 x0 x1 true) (j2000002 x0 x1 (decide (x1 > ((((x0).size : Nat) : Int))))))
def j9' (ag8 : Int → Prop) (x0 : ByteArray) (x7 : Int) (x8 : Bool) (x9 : Int) (k : Int → Int → Int → Prop) : Prop := j9 ag8 x0 x7 x8 x9 k
def j22' (x8 : Bool) (x9 : Int) (x10 : Int) (k : Int → Int → Int → Prop) : Prop := j22 x8 x9 x10 k
def j2000021' (x8 : Bool) (x9 : Int) (x10 : Int) (x107 : Bool) (k : Int → Int → Int → Prop) : Prop := j2000021 (fun x8 x9 x10 => j22' x8 x9 x10 k) x8 x9 x10 x107 k
def j20' (x8 : Bool) (x9 : Int) (x10 : Int) (k : Int → Int → Int → Prop) : Prop := j20 (fun x8 x9 x10 x107 => j2000021' x8 x9 x10 x107 k) x8 x9 x10 k
def l14' (x0 : ByteArray) (x8 : Bool) (x9 : Int) (x10 : Int) (x11 : Int) (k : Int → Int → Int → Prop) : Prop := ∃ n, loopS (fun (ag : (Int × Int) → Prop) (s : Int × Int) => l14 (fun x8 x9 x10 => j20' x8 x9 x10 k) (fun x10 x11 => ag (x10, x11)) x0 x8 x9 s.1 s.2 k) n (x10, x11)
def j12' (x0 : ByteArray) (x7 : Int) (x8 : Bool) (x9 : Int) (k : Int → Int → Int → Prop) : Prop := j12 (fun x0 x8 x9 x10 x11 => l14' x0 x8 x9 x10 x11 k) x0 x7 x8 x9 k
def j2000011' (x0 : ByteArray) (x7 : Int) (x8 : Bool) (x9 : Int) (x77 : Bool) (k : Int → Int → Int → Prop) : Prop := j2000011 (fun x0 x7 x8 x9 => j12' x0 x7 x8 x9 k) x0 x7 x8 x9 x77 k
def j10' (x0 : ByteArray) (x7 : Int) (x8 : Bool) (x9 : Int) (k : Int → Int → Int → Prop) : Prop := j10 (fun x0 x7 x8 x9 x77 => j2000011' x0 x7 x8 x9 x77 k) x0 x7 x8 x9 k
def l8' (x0 : ByteArray) (x7 : Int) (x8 : Bool) (x9 : Int) (k : Int → Int → Int → Prop) : Prop := ∃ n, loopS (fun (ag : (Int) → Prop) (s : Int) => l8 (fun x0 x7 x8 x9 => j9' (fun x9 => ag (x9)) x0 x7 x8 x9 k) (fun x0 x7 x8 x9 => j10' x0 x7 x8 x9 k) x0 x7 x8 s k) n (x9)
def j7' (x0 : ByteArray) (x7 : Int) (x8 : Bool) (k : Int → Int → Int → Prop) : Prop := j7 (fun x0 x7 x8 x9 => l8' x0 x7 x8 x9 k) x0 x7 x8 k
def j5' (x0 : ByteArray) (x7 : Int) (x8 : Bool) (k : Int → Int → Int → Prop) : Prop := j5 (fun x0 x7 x8 => j7' x0 x7 x8 k) x0 x7 x8 k
def j3' (x0 : ByteArray) (x1 : Int) (k : Int → Int → Int → Prop) : Prop := j3 (fun x0 x7 x8 => j5' x0 x7 x8 k) x0 x1 k
def j2000002' (x0 : ByteArray) (x1 : Int) (x20 : Bool) (k : Int → Int → Int → Prop) : Prop := j2000002 (fun x0 x1 => j3' x0 x1 k) x0 x1 x20 k
def f0 (x0 : ByteArray) (x1 : Int) (k : Int → Int → Int → Prop) : Prop := c (fun x0 x1 x20 => j2000002' x0 x1 x20 k) x0 x1 k
theorem f_ex : ∃ g : ByteArray → Int → (Int → Int → Int → Prop) → Prop, g = f0 := ⟨_, rfl⟩
noncomputable def f : ByteArray → Int → (Int → Int → Int → Prop) → Prop := Classical.choose f_ex
theorem f_def : f = f0 := Classical.choose_spec f_ex
def m2000002 (x0 : ByteArray) (x1 : Int) (x20 : Bool) : St := { tmps := mkT 116 0 [(0, (.v (.string x0))), (1, (.v (.int IntKind.i64 x1))), (20, (.v (.bool x20)))], hp := [], m := 0 }
def m3 (x0 : ByteArray) (x1 : Int) : St := { tmps := mkT 116 0 [(0, (.v (.string x0))), (1, (.v (.int IntKind.i64 x1)))], hp := [], m := 0 }
def m5 (x0 : ByteArray) (x7 : Int) (x8 : Bool) : St := { tmps := mkT 116 0 [(0, (.v (.string x0))), (7, (.v (.int IntKind.i64 x7))), (8, (.v (.bool x8)))], hp := [], m := 0 }
def m7 (x0 : ByteArray) (x7 : Int) (x8 : Bool) : St := { tmps := mkT 116 0 [(0, (.v (.string x0))), (7, (.v (.int IntKind.i64 x7))), (8, (.v (.bool x8)))], hp := [], m := 0 }
def mL8 (x0 : ByteArray) (x7 : Int) (x8 : Bool) (x9 : Int) : St := { tmps := mkT 116 0 [(0, (.v (.string x0))), (7, (.v (.int IntKind.i64 x7))), (8, (.v (.bool x8))), (9, (.v (.int IntKind.i64 x9)))], hp := [], m := 0 }
def m9 (x0 : ByteArray) (x7 : Int) (x8 : Bool) (x9 : Int) : St := { tmps := mkT 116 0 [(0, (.v (.string x0))), (7, (.v (.int IntKind.i64 x7))), (8, (.v (.bool x8))), (9, (.v (.int IntKind.i64 x9)))], hp := [], m := 0 }
def m10 (x0 : ByteArray) (x7 : Int) (x8 : Bool) (x9 : Int) : St := { tmps := mkT 116 0 [(0, (.v (.string x0))), (7, (.v (.int IntKind.i64 x7))), (8, (.v (.bool x8))), (9, (.v (.int IntKind.i64 x9)))], hp := [], m := 0 }
def m2000011 (x0 : ByteArray) (x7 : Int) (x8 : Bool) (x9 : Int) (x77 : Bool) : St := { tmps := mkT 116 0 [(0, (.v (.string x0))), (7, (.v (.int IntKind.i64 x7))), (8, (.v (.bool x8))), (9, (.v (.int IntKind.i64 x9))), (77, (.v (.bool x77)))], hp := [], m := 0 }
def m12 (x0 : ByteArray) (x7 : Int) (x8 : Bool) (x9 : Int) : St := { tmps := mkT 116 0 [(0, (.v (.string x0))), (7, (.v (.int IntKind.i64 x7))), (8, (.v (.bool x8))), (9, (.v (.int IntKind.i64 x9)))], hp := [], m := 0 }
def mL14 (x0 : ByteArray) (x8 : Bool) (x9 : Int) (x10 : Int) (x11 : Int) : St := { tmps := mkT 116 0 [(0, (.v (.string x0))), (8, (.v (.bool x8))), (9, (.v (.int IntKind.i64 x9))), (10, (.v (.int IntKind.u64 x10))), (11, (.v (.int IntKind.i64 x11)))], hp := [], m := 0 }
def m20 (x8 : Bool) (x9 : Int) (x10 : Int) : St := { tmps := mkT 116 0 [(8, (.v (.bool x8))), (9, (.v (.int IntKind.i64 x9))), (10, (.v (.int IntKind.u64 x10)))], hp := [], m := 0 }
def m2000021 (x8 : Bool) (x9 : Int) (x10 : Int) (x107 : Bool) : St := { tmps := mkT 116 0 [(8, (.v (.bool x8))), (9, (.v (.int IntKind.i64 x9))), (10, (.v (.int IntKind.u64 x10))), (107, (.v (.bool x107)))], hp := [], m := 0 }
def m22 (x8 : Bool) (x9 : Int) (x10 : Int) : St := { tmps := mkT 116 0 [(8, (.v (.bool x8))), (9, (.v (.int IntKind.i64 x9))), (10, (.v (.int IntKind.u64 x10)))], hp := [], m := 0 }
noncomputable def X2000002 (k kp : D → List Blk → Prop) : St → Prop := atP cfg (pick none' []) [1, 0, 1] body (topK cfg Try.f40 k kp)
noncomputable def X3 (k kp : D → List Blk → Prop) : St → Prop := atP cfg (pick none' []) [1, 1] body (topK cfg Try.f40 k kp)
noncomputable def X5 (k kp : D → List Blk → Prop) : St → Prop := atP cfg (pick none' []) [1, 1, 1, 1] body (topK cfg Try.f40 k kp)
noncomputable def X7 (k kp : D → List Blk → Prop) : St → Prop := atP cfg (pick none' []) [1, 1, 1, 1, 1] body (topK cfg Try.f40 k kp)
noncomputable def YL8 (k kp : D → List Blk → Prop) : (St → Prop) → St → Prop := loopB cfg (sub [1, 1, 1, 1, 1, 1, 0, 0, 0] body) (contK cfg (pick none' []) [1, 1, 1, 1, 1, 1, 0, 0] body (topK cfg Try.f40 k kp))
noncomputable def XL8 (k kp : D → List Blk → Prop) : St → Prop := fun st => ∃ n, loopN (YL8 k kp) n st
noncomputable def X9 (k kp : D → List Blk → Prop) (ag8 : St → Prop) : St → Prop := atP cfg (pick none' [(8, ag8)]) [1, 1, 1, 1, 1, 1, 0, 0, 0, 1] body (topK cfg Try.f40 k kp)
noncomputable def X10 (k kp : D → List Blk → Prop) : St → Prop := atP cfg (pick none' []) [1, 1, 1, 1, 1, 1, 1] body (topK cfg Try.f40 k kp)
noncomputable def X2000011 (k kp : D → List Blk → Prop) : St → Prop := atP cfg (pick none' []) [1, 1, 1, 1, 1, 1, 1, 0, 1] body (topK cfg Try.f40 k kp)
noncomputable def X12 (k kp : D → List Blk → Prop) : St → Prop := atP cfg (pick none' []) [1, 1, 1, 1, 1, 1, 1, 1] body (topK cfg Try.f40 k kp)
noncomputable def YL14 (k kp : D → List Blk → Prop) : (St → Prop) → St → Prop := loopB cfg (sub [1, 1, 1, 1, 1, 1, 1, 1, 1, 0, 1, 0, 0] body) (contK cfg (pick none' []) [1, 1, 1, 1, 1, 1, 1, 1, 1, 0, 1, 0] body (topK cfg Try.f40 k kp))
noncomputable def XL14 (k kp : D → List Blk → Prop) : St → Prop := fun st => ∃ n, loopN (YL14 k kp) n st
noncomputable def X20 (k kp : D → List Blk → Prop) : St → Prop := atP cfg (pick none' []) [1, 1, 1, 1, 1, 1, 1, 1, 1, 1] body (topK cfg Try.f40 k kp)
noncomputable def X2000021 (k kp : D → List Blk → Prop) : St → Prop := atP cfg (pick none' []) [1, 1, 1, 1, 1, 1, 1, 1, 1, 1, 0, 1] body (topK cfg Try.f40 k kp)
noncomputable def X22 (k kp : D → List Blk → Prop) : St → Prop := atP cfg (pick none' []) [1, 1, 1, 1, 1, 1, 1, 1, 1, 1, 1] body (topK cfg Try.f40 k kp)
noncomputable def JJ (k kp : D → List Blk → Prop) : Nat → St → Prop := pick none' [(2000002, X2000002 k kp), (3, X3 k kp), (5, X5 k kp), (7, X7 k kp), (10, X10 k kp), (2000011, X2000011 k kp), (12, X12 k kp), (20, X20 k kp), (2000021, X2000021 k kp), (22, X22 k kp)]
noncomputable def LL (k kp : D → List Blk → Prop) : Nat → St → Prop := pick none' [(8, XL8 k kp), (14, XL14 k kp)]
noncomputable def JJ_8 (k kp : D → List Blk → Prop) (ag8 : St → Prop) : Nat → St → Prop := pick none' [(2000002, X2000002 k kp), (3, X3 k kp), (5, X5 k kp), (7, X7 k kp), (9, X9 k kp ag8), (10, X10 k kp), (2000011, X2000011 k kp), (12, X12 k kp), (20, X20 k kp), (2000021, X2000021 k kp), (22, X22 k kp)]
noncomputable def LL_8 (k kp : D → List Blk → Prop) (ag8 : St → Prop) : Nat → St → Prop := pick none' [(8, XL8 k kp), (14, XL14 k kp)]
noncomputable def JJ_14 (k kp : D → List Blk → Prop) (ag14 : St → Prop) : Nat → St → Prop := pick none' [(2000002, X2000002 k kp), (3, X3 k kp), (5, X5 k kp), (7, X7 k kp), (10, X10 k kp), (2000011, X2000011 k kp), (12, X12 k kp), (20, X20 k kp), (2000021, X2000021 k kp), (22, X22 k kp)]
noncomputable def LL_14 (k kp : D → List Blk → Prop) (ag14 : St → Prop) : Nat → St → Prop := pick none' [(8, XL8 k kp), (14, XL14 k kp)]
theorem j9_c (k kp : D → List Blk → Prop) (J L : Nat → St → Prop) (ag8 : St → Prop) (x0 : ByteArray) (x7 : Int) (x8 : Bool) (x9 : Int) : runC cfg 9 J L (pick none' [(8, ag8)]) [1, 1, 1, 1, 1, 1, 0, 0, 0, 1] body (topK cfg Try.f40 k kp) (m9 x0 x7 x8 x9) = j9 (fun x9 => ag8 (mL8 x0 x7 x8 x9)) x0 x7 x8 x9 (fun y0 y1 y2 => k (.tup [(.v (.int IntKind.i64 y0)), (.v (.int IntKind.i64 y1)), (.v (.int IntKind.i64 y2))]) []) := by kernel_rfl
theorem j9_ag (k kp : D → List Blk → Prop) (ag8 : St → Prop) : agPL cfg 9 (JJ_8 k kp ag8) (LL_8 k kp ag8) [1, 1, 1, 1, 1, 1, 0, 0, 0, 1] body = agPR cfg 9 (pick none' [(8, ag8)]) [1, 1, 1, 1, 1, 1, 0, 0, 0, 1] body (topK cfg Try.f40 k kp) := by kernel_rfl
theorem j9_raw (k kp : D → List Blk → Prop) (ag8 : St → Prop) (x0 : ByteArray) (x7 : Int) (x8 : Bool) (x9 : Int) : X9 k kp ag8 (m9 x0 x7 x8 x9) = j9 (fun x9 => ag8 (mL8 x0 x7 x8 x9)) x0 x7 x8 x9 (fun y0 y1 y2 => k (.tup [(.v (.int IntKind.i64 y0)), (.v (.int IntKind.i64 y1)), (.v (.int IntKind.i64 y2))]) []) :=
  Eq.mp (by kernel_rfl) ((atP_run (j9_ag k kp ag8) (m9 x0 x7 x8 x9)).trans (j9_c k kp (JJ_8 k kp ag8) (LL_8 k kp ag8) ag8 x0 x7 x8 x9))
theorem j9_eq (k kp : D → List Blk → Prop) (ag8 : St → Prop) (x0 : ByteArray) (x7 : Int) (x8 : Bool) (x9 : Int) : X9 k kp ag8 (m9 x0 x7 x8 x9) = j9' (fun x9 => ag8 (mL8 x0 x7 x8 x9)) x0 x7 x8 x9 (fun y0 y1 y2 => k (.tup [(.v (.int IntKind.i64 y0)), (.v (.int IntKind.i64 y1)), (.v (.int IntKind.i64 y2))]) []) := by
  rw [j9_raw]; rfl
theorem j22_c (k kp : D → List Blk → Prop) (J L : Nat → St → Prop) (x8 : Bool) (x9 : Int) (x10 : Int) : runC cfg 22 J L (pick none' []) [1, 1, 1, 1, 1, 1, 1, 1, 1, 1, 1] body (topK cfg Try.f40 k kp) (m22 x8 x9 x10) = j22 x8 x9 x10 (fun y0 y1 y2 => k (.tup [(.v (.int IntKind.i64 y0)), (.v (.int IntKind.i64 y1)), (.v (.int IntKind.i64 y2))]) []) := by kernel_rfl
theorem j22_ag (k kp : D → List Blk → Prop) : agPL cfg 22 (JJ k kp) (LL k kp) [1, 1, 1, 1, 1, 1, 1, 1, 1, 1, 1] body = agPR cfg 22 (pick none' []) [1, 1, 1, 1, 1, 1, 1, 1, 1, 1, 1] body (topK cfg Try.f40 k kp) := by kernel_rfl
theorem j22_raw (k kp : D → List Blk → Prop) (x8 : Bool) (x9 : Int) (x10 : Int) : X22 k kp (m22 x8 x9 x10) = j22 x8 x9 x10 (fun y0 y1 y2 => k (.tup [(.v (.int IntKind.i64 y0)), (.v (.int IntKind.i64 y1)), (.v (.int IntKind.i64 y2))]) []) :=
  Eq.mp (by kernel_rfl) ((atP_run (j22_ag k kp) (m22 x8 x9 x10)).trans (j22_c k kp (JJ k kp) (LL k kp) x8 x9 x10))
theorem j22_eq (k kp : D → List Blk → Prop) (x8 : Bool) (x9 : Int) (x10 : Int) : X22 k kp (m22 x8 x9 x10) = j22' x8 x9 x10 (fun y0 y1 y2 => k (.tup [(.v (.int IntKind.i64 y0)), (.v (.int IntKind.i64 y1)), (.v (.int IntKind.i64 y2))]) []) := by
  rw [j22_raw]; rfl
theorem j2000021_c (k kp : D → List Blk → Prop) (J L : Nat → St → Prop) (x8 : Bool) (x9 : Int) (x10 : Int) (x107 : Bool) : runC cfg 2000021 J L (pick none' []) [1, 1, 1, 1, 1, 1, 1, 1, 1, 1, 0, 1] body (topK cfg Try.f40 k kp) (m2000021 x8 x9 x10 x107) = j2000021 (fun x8 x9 x10 => J 22 (m22 x8 x9 x10)) x8 x9 x10 x107 (fun y0 y1 y2 => k (.tup [(.v (.int IntKind.i64 y0)), (.v (.int IntKind.i64 y1)), (.v (.int IntKind.i64 y2))]) []) := by kernel_rfl
theorem j2000021_ag (k kp : D → List Blk → Prop) : agPL cfg 2000021 (JJ k kp) (LL k kp) [1, 1, 1, 1, 1, 1, 1, 1, 1, 1, 0, 1] body = agPR cfg 2000021 (pick none' []) [1, 1, 1, 1, 1, 1, 1, 1, 1, 1, 0, 1] body (topK cfg Try.f40 k kp) := by kernel_rfl
theorem j2000021_raw (k kp : D → List Blk → Prop) (x8 : Bool) (x9 : Int) (x10 : Int) (x107 : Bool) : X2000021 k kp (m2000021 x8 x9 x10 x107) = j2000021 (fun x8 x9 x10 => X22 k kp (m22 x8 x9 x10)) x8 x9 x10 x107 (fun y0 y1 y2 => k (.tup [(.v (.int IntKind.i64 y0)), (.v (.int IntKind.i64 y1)), (.v (.int IntKind.i64 y2))]) []) :=
  Eq.mp (by kernel_rfl) ((atP_run (j2000021_ag k kp) (m2000021 x8 x9 x10 x107)).trans (j2000021_c k kp (JJ k kp) (LL k kp) x8 x9 x10 x107))
theorem j2000021_eq (k kp : D → List Blk → Prop) (x8 : Bool) (x9 : Int) (x10 : Int) (x107 : Bool) : X2000021 k kp (m2000021 x8 x9 x10 x107) = j2000021' x8 x9 x10 x107 (fun y0 y1 y2 => k (.tup [(.v (.int IntKind.i64 y0)), (.v (.int IntKind.i64 y1)), (.v (.int IntKind.i64 y2))]) []) := by
  rw [j2000021_raw]; simp only [j22_eq]; first | done | rfl
theorem j20_c (k kp : D → List Blk → Prop) (J L : Nat → St → Prop) (x8 : Bool) (x9 : Int) (x10 : Int) : runC cfg 20 J L (pick none' []) [1, 1, 1, 1, 1, 1, 1, 1, 1, 1] body (topK cfg Try.f40 k kp) (m20 x8 x9 x10) = j20 (fun x8 x9 x10 x107 => J 2000021 (m2000021 x8 x9 x10 x107)) x8 x9 x10 (fun y0 y1 y2 => k (.tup [(.v (.int IntKind.i64 y0)), (.v (.int IntKind.i64 y1)), (.v (.int IntKind.i64 y2))]) []) := by kernel_rfl
theorem j20_ag (k kp : D → List Blk → Prop) : agPL cfg 20 (JJ k kp) (LL k kp) [1, 1, 1, 1, 1, 1, 1, 1, 1, 1] body = agPR cfg 20 (pick none' []) [1, 1, 1, 1, 1, 1, 1, 1, 1, 1] body (topK cfg Try.f40 k kp) := by kernel_rfl
theorem j20_raw (k kp : D → List Blk → Prop) (x8 : Bool) (x9 : Int) (x10 : Int) : X20 k kp (m20 x8 x9 x10) = j20 (fun x8 x9 x10 x107 => X2000021 k kp (m2000021 x8 x9 x10 x107)) x8 x9 x10 (fun y0 y1 y2 => k (.tup [(.v (.int IntKind.i64 y0)), (.v (.int IntKind.i64 y1)), (.v (.int IntKind.i64 y2))]) []) :=
  Eq.mp (by kernel_rfl) ((atP_run (j20_ag k kp) (m20 x8 x9 x10)).trans (j20_c k kp (JJ k kp) (LL k kp) x8 x9 x10))
theorem j20_eq (k kp : D → List Blk → Prop) (x8 : Bool) (x9 : Int) (x10 : Int) : X20 k kp (m20 x8 x9 x10) = j20' x8 x9 x10 (fun y0 y1 y2 => k (.tup [(.v (.int IntKind.i64 y0)), (.v (.int IntKind.i64 y1)), (.v (.int IntKind.i64 y2))]) []) := by
  rw [j20_raw]; simp only [j2000021_eq]; first | done | rfl
theorem l14_c (k kp : D → List Blk → Prop) (J L : Nat → St → Prop) (ag14 : St → Prop) (x0 : ByteArray) (x8 : Bool) (x9 : Int) (x10 : Int) (x11 : Int) : runC cfg 1000001 J L (pick none' [(14, ag14)]) [1, 1, 1, 1, 1, 1, 1, 1, 1, 0, 1, 0, 0] body (topK cfg Try.f40 k kp) (mL14 x0 x8 x9 x10 x11) = l14 (fun x8 x9 x10 => J 20 (m20 x8 x9 x10)) (fun x10 x11 => ag14 (mL14 x0 x8 x9 x10 x11)) x0 x8 x9 x10 x11 (fun y0 y1 y2 => k (.tup [(.v (.int IntKind.i64 y0)), (.v (.int IntKind.i64 y1)), (.v (.int IntKind.i64 y2))]) []) := by kernel_rfl
theorem l14_ag (k kp : D → List Blk → Prop) (ag14 : St → Prop) : agPL cfg 1000001 (JJ_14 k kp ag14) (LL_14 k kp ag14) [1, 1, 1, 1, 1, 1, 1, 1, 1, 0, 1, 0, 0] body = agPR cfg 1000001 (pick none' [(14, ag14)]) [1, 1, 1, 1, 1, 1, 1, 1, 1, 0, 1, 0, 0] body (topK cfg Try.f40 k kp) := by kernel_rfl
theorem l14_raw (k kp : D → List Blk → Prop) (ag14 : St → Prop) (x0 : ByteArray) (x8 : Bool) (x9 : Int) (x10 : Int) (x11 : Int) : YL14 k kp ag14 (mL14 x0 x8 x9 x10 x11) = l14 (fun x8 x9 x10 => X20 k kp (m20 x8 x9 x10)) (fun x10 x11 => ag14 (mL14 x0 x8 x9 x10 x11)) x0 x8 x9 x10 x11 (fun y0 y1 y2 => k (.tup [(.v (.int IntKind.i64 y0)), (.v (.int IntKind.i64 y1)), (.v (.int IntKind.i64 y2))]) []) :=
  Eq.mp (by kernel_rfl) ((atP_run (l14_ag k kp ag14) (mL14 x0 x8 x9 x10 x11)).trans (l14_c k kp (JJ_14 k kp ag14) (LL_14 k kp ag14) ag14 x0 x8 x9 x10 x11))
theorem l14_eq (k kp : D → List Blk → Prop) (x0 : ByteArray) (x8 : Bool) (x9 : Int) (x10 : Int) (x11 : Int) : XL14 k kp (mL14 x0 x8 x9 x10 x11) = l14' x0 x8 x9 x10 x11 (fun y0 y1 y2 => k (.tup [(.v (.int IntKind.i64 y0)), (.v (.int IntKind.i64 y1)), (.v (.int IntKind.i64 y2))]) []) :=
  loop_eq (mk := fun (s : Int × Int) => mL14 x0 x8 x9 s.1 s.2) (fun again s => by rw [l14_raw k kp again x0 x8 x9 s.1 s.2]; simp only [j20_eq]; first | done | rfl) (x10, x11)
theorem j12_c (k kp : D → List Blk → Prop) (J L : Nat → St → Prop) (x0 : ByteArray) (x7 : Int) (x8 : Bool) (x9 : Int) : runC cfg 12 J L (pick none' []) [1, 1, 1, 1, 1, 1, 1, 1] body (topK cfg Try.f40 k kp) (m12 x0 x7 x8 x9) = j12 (fun x0 x8 x9 x10 x11 => L 14 (mL14 x0 x8 x9 x10 x11)) x0 x7 x8 x9 (fun y0 y1 y2 => k (.tup [(.v (.int IntKind.i64 y0)), (.v (.int IntKind.i64 y1)), (.v (.int IntKind.i64 y2))]) []) := by kernel_rfl
theorem j12_ag (k kp : D → List Blk → Prop) : agPL cfg 12 (JJ k kp) (LL k kp) [1, 1, 1, 1, 1, 1, 1, 1] body = agPR cfg 12 (pick none' []) [1, 1, 1, 1, 1, 1, 1, 1] body (topK cfg Try.f40 k kp) := by kernel_rfl
theorem j12_raw (k kp : D → List Blk → Prop) (x0 : ByteArray) (x7 : Int) (x8 : Bool) (x9 : Int) : X12 k kp (m12 x0 x7 x8 x9) = j12 (fun x0 x8 x9 x10 x11 => XL14 k kp (mL14 x0 x8 x9 x10 x11)) x0 x7 x8 x9 (fun y0 y1 y2 => k (.tup [(.v (.int IntKind.i64 y0)), (.v (.int IntKind.i64 y1)), (.v (.int IntKind.i64 y2))]) []) :=
  Eq.mp (by kernel_rfl) ((atP_run (j12_ag k kp) (m12 x0 x7 x8 x9)).trans (j12_c k kp (JJ k kp) (LL k kp) x0 x7 x8 x9))
theorem j12_eq (k kp : D → List Blk → Prop) (x0 : ByteArray) (x7 : Int) (x8 : Bool) (x9 : Int) : X12 k kp (m12 x0 x7 x8 x9) = j12' x0 x7 x8 x9 (fun y0 y1 y2 => k (.tup [(.v (.int IntKind.i64 y0)), (.v (.int IntKind.i64 y1)), (.v (.int IntKind.i64 y2))]) []) := by
  rw [j12_raw]; simp only [l14_eq]; first | done | rfl
theorem j2000011_c (k kp : D → List Blk → Prop) (J L : Nat → St → Prop) (x0 : ByteArray) (x7 : Int) (x8 : Bool) (x9 : Int) (x77 : Bool) : runC cfg 2000011 J L (pick none' []) [1, 1, 1, 1, 1, 1, 1, 0, 1] body (topK cfg Try.f40 k kp) (m2000011 x0 x7 x8 x9 x77) = j2000011 (fun x0 x7 x8 x9 => J 12 (m12 x0 x7 x8 x9)) x0 x7 x8 x9 x77 (fun y0 y1 y2 => k (.tup [(.v (.int IntKind.i64 y0)), (.v (.int IntKind.i64 y1)), (.v (.int IntKind.i64 y2))]) []) := by kernel_rfl
theorem j2000011_ag (k kp : D → List Blk → Prop) : agPL cfg 2000011 (JJ k kp) (LL k kp) [1, 1, 1, 1, 1, 1, 1, 0, 1] body = agPR cfg 2000011 (pick none' []) [1, 1, 1, 1, 1, 1, 1, 0, 1] body (topK cfg Try.f40 k kp) := by kernel_rfl
theorem j2000011_raw (k kp : D → List Blk → Prop) (x0 : ByteArray) (x7 : Int) (x8 : Bool) (x9 : Int) (x77 : Bool) : X2000011 k kp (m2000011 x0 x7 x8 x9 x77) = j2000011 (fun x0 x7 x8 x9 => X12 k kp (m12 x0 x7 x8 x9)) x0 x7 x8 x9 x77 (fun y0 y1 y2 => k (.tup [(.v (.int IntKind.i64 y0)), (.v (.int IntKind.i64 y1)), (.v (.int IntKind.i64 y2))]) []) :=
  Eq.mp (by kernel_rfl) ((atP_run (j2000011_ag k kp) (m2000011 x0 x7 x8 x9 x77)).trans (j2000011_c k kp (JJ k kp) (LL k kp) x0 x7 x8 x9 x77))
theorem j2000011_eq (k kp : D → List Blk → Prop) (x0 : ByteArray) (x7 : Int) (x8 : Bool) (x9 : Int) (x77 : Bool) : X2000011 k kp (m2000011 x0 x7 x8 x9 x77) = j2000011' x0 x7 x8 x9 x77 (fun y0 y1 y2 => k (.tup [(.v (.int IntKind.i64 y0)), (.v (.int IntKind.i64 y1)), (.v (.int IntKind.i64 y2))]) []) := by
  rw [j2000011_raw]; simp only [j12_eq]; first | done | rfl
theorem j10_c (k kp : D → List Blk → Prop) (J L : Nat → St → Prop) (x0 : ByteArray) (x7 : Int) (x8 : Bool) (x9 : Int) : runC cfg 10 J L (pick none' []) [1, 1, 1, 1, 1, 1, 1] body (topK cfg Try.f40 k kp) (m10 x0 x7 x8 x9) = j10 (fun x0 x7 x8 x9 x77 => J 2000011 (m2000011 x0 x7 x8 x9 x77)) x0 x7 x8 x9 (fun y0 y1 y2 => k (.tup [(.v (.int IntKind.i64 y0)), (.v (.int IntKind.i64 y1)), (.v (.int IntKind.i64 y2))]) []) := by kernel_rfl
theorem j10_ag (k kp : D → List Blk → Prop) : agPL cfg 10 (JJ k kp) (LL k kp) [1, 1, 1, 1, 1, 1, 1] body = agPR cfg 10 (pick none' []) [1, 1, 1, 1, 1, 1, 1] body (topK cfg Try.f40 k kp) := by kernel_rfl
theorem j10_raw (k kp : D → List Blk → Prop) (x0 : ByteArray) (x7 : Int) (x8 : Bool) (x9 : Int) : X10 k kp (m10 x0 x7 x8 x9) = j10 (fun x0 x7 x8 x9 x77 => X2000011 k kp (m2000011 x0 x7 x8 x9 x77)) x0 x7 x8 x9 (fun y0 y1 y2 => k (.tup [(.v (.int IntKind.i64 y0)), (.v (.int IntKind.i64 y1)), (.v (.int IntKind.i64 y2))]) []) :=
  Eq.mp (by kernel_rfl) ((atP_run (j10_ag k kp) (m10 x0 x7 x8 x9)).trans (j10_c k kp (JJ k kp) (LL k kp) x0 x7 x8 x9))
theorem j10_eq (k kp : D → List Blk → Prop) (x0 : ByteArray) (x7 : Int) (x8 : Bool) (x9 : Int) : X10 k kp (m10 x0 x7 x8 x9) = j10' x0 x7 x8 x9 (fun y0 y1 y2 => k (.tup [(.v (.int IntKind.i64 y0)), (.v (.int IntKind.i64 y1)), (.v (.int IntKind.i64 y2))]) []) := by
  rw [j10_raw]; simp only [j2000011_eq]; first | done | rfl
theorem l8_c (k kp : D → List Blk → Prop) (J L : Nat → St → Prop) (ag8 : St → Prop) (x0 : ByteArray) (x7 : Int) (x8 : Bool) (x9 : Int) : runC cfg 1000001 J L (pick none' [(8, ag8)]) [1, 1, 1, 1, 1, 1, 0, 0, 0] body (topK cfg Try.f40 k kp) (mL8 x0 x7 x8 x9) = l8 (fun x0 x7 x8 x9 => J 9 (m9 x0 x7 x8 x9)) (fun x0 x7 x8 x9 => J 10 (m10 x0 x7 x8 x9)) x0 x7 x8 x9 (fun y0 y1 y2 => k (.tup [(.v (.int IntKind.i64 y0)), (.v (.int IntKind.i64 y1)), (.v (.int IntKind.i64 y2))]) []) := by kernel_rfl
theorem l8_ag (k kp : D → List Blk → Prop) (ag8 : St → Prop) : agPL cfg 1000001 (JJ_8 k kp ag8) (LL_8 k kp ag8) [1, 1, 1, 1, 1, 1, 0, 0, 0] body = agPR cfg 1000001 (pick none' [(8, ag8)]) [1, 1, 1, 1, 1, 1, 0, 0, 0] body (topK cfg Try.f40 k kp) := by kernel_rfl
theorem l8_raw (k kp : D → List Blk → Prop) (ag8 : St → Prop) (x0 : ByteArray) (x7 : Int) (x8 : Bool) (x9 : Int) : YL8 k kp ag8 (mL8 x0 x7 x8 x9) = l8 (fun x0 x7 x8 x9 => X9 k kp ag8 (m9 x0 x7 x8 x9)) (fun x0 x7 x8 x9 => X10 k kp (m10 x0 x7 x8 x9)) x0 x7 x8 x9 (fun y0 y1 y2 => k (.tup [(.v (.int IntKind.i64 y0)), (.v (.int IntKind.i64 y1)), (.v (.int IntKind.i64 y2))]) []) :=
  Eq.mp (by kernel_rfl) ((atP_run (l8_ag k kp ag8) (mL8 x0 x7 x8 x9)).trans (l8_c k kp (JJ_8 k kp ag8) (LL_8 k kp ag8) ag8 x0 x7 x8 x9))
theorem l8_eq (k kp : D → List Blk → Prop) (x0 : ByteArray) (x7 : Int) (x8 : Bool) (x9 : Int) : XL8 k kp (mL8 x0 x7 x8 x9) = l8' x0 x7 x8 x9 (fun y0 y1 y2 => k (.tup [(.v (.int IntKind.i64 y0)), (.v (.int IntKind.i64 y1)), (.v (.int IntKind.i64 y2))]) []) :=
  loop_eq (mk := fun (s : Int) => mL8 x0 x7 x8 s) (fun again s => by rw [l8_raw k kp again x0 x7 x8 s]; simp only [j9_eq, j10_eq]; first | done | rfl) (x9)
theorem j7_c (k kp : D → List Blk → Prop) (J L : Nat → St → Prop) (x0 : ByteArray) (x7 : Int) (x8 : Bool) : runC cfg 7 J L (pick none' []) [1, 1, 1, 1, 1] body (topK cfg Try.f40 k kp) (m7 x0 x7 x8) = j7 (fun x0 x7 x8 x9 => L 8 (mL8 x0 x7 x8 x9)) x0 x7 x8 (fun y0 y1 y2 => k (.tup [(.v (.int IntKind.i64 y0)), (.v (.int IntKind.i64 y1)), (.v (.int IntKind.i64 y2))]) []) := by kernel_rfl
theorem j7_ag (k kp : D → List Blk → Prop) : agPL cfg 7 (JJ k kp) (LL k kp) [1, 1, 1, 1, 1] body = agPR cfg 7 (pick none' []) [1, 1, 1, 1, 1] body (topK cfg Try.f40 k kp) := by kernel_rfl
theorem j7_raw (k kp : D → List Blk → Prop) (x0 : ByteArray) (x7 : Int) (x8 : Bool) : X7 k kp (m7 x0 x7 x8) = j7 (fun x0 x7 x8 x9 => XL8 k kp (mL8 x0 x7 x8 x9)) x0 x7 x8 (fun y0 y1 y2 => k (.tup [(.v (.int IntKind.i64 y0)), (.v (.int IntKind.i64 y1)), (.v (.int IntKind.i64 y2))]) []) :=
  Eq.mp (by kernel_rfl) ((atP_run (j7_ag k kp) (m7 x0 x7 x8)).trans (j7_c k kp (JJ k kp) (LL k kp) x0 x7 x8))
theorem j7_eq (k kp : D → List Blk → Prop) (x0 : ByteArray) (x7 : Int) (x8 : Bool) : X7 k kp (m7 x0 x7 x8) = j7' x0 x7 x8 (fun y0 y1 y2 => k (.tup [(.v (.int IntKind.i64 y0)), (.v (.int IntKind.i64 y1)), (.v (.int IntKind.i64 y2))]) []) := by
  rw [j7_raw]; simp only [l8_eq]; first | done | rfl
theorem j5_c (k kp : D → List Blk → Prop) (J L : Nat → St → Prop) (x0 : ByteArray) (x7 : Int) (x8 : Bool) : runC cfg 5 J L (pick none' []) [1, 1, 1, 1] body (topK cfg Try.f40 k kp) (m5 x0 x7 x8) = j5 (fun x0 x7 x8 => J 7 (m7 x0 x7 x8)) x0 x7 x8 (fun y0 y1 y2 => k (.tup [(.v (.int IntKind.i64 y0)), (.v (.int IntKind.i64 y1)), (.v (.int IntKind.i64 y2))]) []) := by kernel_rfl
theorem j5_ag (k kp : D → List Blk → Prop) : agPL cfg 5 (JJ k kp) (LL k kp) [1, 1, 1, 1] body = agPR cfg 5 (pick none' []) [1, 1, 1, 1] body (topK cfg Try.f40 k kp) := by kernel_rfl
theorem j5_raw (k kp : D → List Blk → Prop) (x0 : ByteArray) (x7 : Int) (x8 : Bool) : X5 k kp (m5 x0 x7 x8) = j5 (fun x0 x7 x8 => X7 k kp (m7 x0 x7 x8)) x0 x7 x8 (fun y0 y1 y2 => k (.tup [(.v (.int IntKind.i64 y0)), (.v (.int IntKind.i64 y1)), (.v (.int IntKind.i64 y2))]) []) :=
  Eq.mp (by kernel_rfl) ((atP_run (j5_ag k kp) (m5 x0 x7 x8)).trans (j5_c k kp (JJ k kp) (LL k kp) x0 x7 x8))
theorem j5_eq (k kp : D → List Blk → Prop) (x0 : ByteArray) (x7 : Int) (x8 : Bool) : X5 k kp (m5 x0 x7 x8) = j5' x0 x7 x8 (fun y0 y1 y2 => k (.tup [(.v (.int IntKind.i64 y0)), (.v (.int IntKind.i64 y1)), (.v (.int IntKind.i64 y2))]) []) := by
  rw [j5_raw]; simp only [j7_eq]; first | done | rfl
theorem j3_c (k kp : D → List Blk → Prop) (J L : Nat → St → Prop) (x0 : ByteArray) (x1 : Int) : runC cfg 3 J L (pick none' []) [1, 1] body (topK cfg Try.f40 k kp) (m3 x0 x1) = j3 (fun x0 x7 x8 => J 5 (m5 x0 x7 x8)) x0 x1 (fun y0 y1 y2 => k (.tup [(.v (.int IntKind.i64 y0)), (.v (.int IntKind.i64 y1)), (.v (.int IntKind.i64 y2))]) []) := by kernel_rfl
theorem j3_ag (k kp : D → List Blk → Prop) : agPL cfg 3 (JJ k kp) (LL k kp) [1, 1] body = agPR cfg 3 (pick none' []) [1, 1] body (topK cfg Try.f40 k kp) := by kernel_rfl
theorem j3_raw (k kp : D → List Blk → Prop) (x0 : ByteArray) (x1 : Int) : X3 k kp (m3 x0 x1) = j3 (fun x0 x7 x8 => X5 k kp (m5 x0 x7 x8)) x0 x1 (fun y0 y1 y2 => k (.tup [(.v (.int IntKind.i64 y0)), (.v (.int IntKind.i64 y1)), (.v (.int IntKind.i64 y2))]) []) :=
  Eq.mp (by kernel_rfl) ((atP_run (j3_ag k kp) (m3 x0 x1)).trans (j3_c k kp (JJ k kp) (LL k kp) x0 x1))
theorem j3_eq (k kp : D → List Blk → Prop) (x0 : ByteArray) (x1 : Int) : X3 k kp (m3 x0 x1) = j3' x0 x1 (fun y0 y1 y2 => k (.tup [(.v (.int IntKind.i64 y0)), (.v (.int IntKind.i64 y1)), (.v (.int IntKind.i64 y2))]) []) := by
  rw [j3_raw]; simp only [j5_eq]; first | done | rfl
theorem j2000002_c (k kp : D → List Blk → Prop) (J L : Nat → St → Prop) (x0 : ByteArray) (x1 : Int) (x20 : Bool) : runC cfg 2000002 J L (pick none' []) [1, 0, 1] body (topK cfg Try.f40 k kp) (m2000002 x0 x1 x20) = j2000002 (fun x0 x1 => J 3 (m3 x0 x1)) x0 x1 x20 (fun y0 y1 y2 => k (.tup [(.v (.int IntKind.i64 y0)), (.v (.int IntKind.i64 y1)), (.v (.int IntKind.i64 y2))]) []) := by kernel_rfl
theorem j2000002_ag (k kp : D → List Blk → Prop) : agPL cfg 2000002 (JJ k kp) (LL k kp) [1, 0, 1] body = agPR cfg 2000002 (pick none' []) [1, 0, 1] body (topK cfg Try.f40 k kp) := by kernel_rfl
theorem j2000002_raw (k kp : D → List Blk → Prop) (x0 : ByteArray) (x1 : Int) (x20 : Bool) : X2000002 k kp (m2000002 x0 x1 x20) = j2000002 (fun x0 x1 => X3 k kp (m3 x0 x1)) x0 x1 x20 (fun y0 y1 y2 => k (.tup [(.v (.int IntKind.i64 y0)), (.v (.int IntKind.i64 y1)), (.v (.int IntKind.i64 y2))]) []) :=
  Eq.mp (by kernel_rfl) ((atP_run (j2000002_ag k kp) (m2000002 x0 x1 x20)).trans (j2000002_c k kp (JJ k kp) (LL k kp) x0 x1 x20))
theorem j2000002_eq (k kp : D → List Blk → Prop) (x0 : ByteArray) (x1 : Int) (x20 : Bool) : X2000002 k kp (m2000002 x0 x1 x20) = j2000002' x0 x1 x20 (fun y0 y1 y2 => k (.tup [(.v (.int IntKind.i64 y0)), (.v (.int IntKind.i64 y1)), (.v (.int IntKind.i64 y2))]) []) := by
  rw [j2000002_raw]; simp only [j3_eq]; first | done | rfl
theorem c_c (k kp : D → List Blk → Prop) (J L : Nat → St → Prop) (x0 : ByteArray) (x1 : Int) : runC cfg 1000001 J L none'' [] body (topK cfg Try.f40 k kp) (st0 Try.f40 [(.v (.string x0)), (.v (.int IntKind.i64 x1))] []) = c (fun x0 x1 x20 => J 2000002 (m2000002 x0 x1 x20)) x0 x1 (fun y0 y1 y2 => k (.tup [(.v (.int IntKind.i64 y0)), (.v (.int IntKind.i64 y1)), (.v (.int IntKind.i64 y2))]) []) := by kernel_rfl
theorem c_ag (k kp : D → List Blk → Prop) : agPL cfg 1000001 (JJ k kp) (LL k kp) [] body = agPR cfg 1000001 none'' [] body (topK cfg Try.f40 k kp) := by kernel_rfl
theorem body_is : Try.f40.body = some body := by kernel_rfl
theorem c_raw (k kp : D → List Blk → Prop) (x0 : ByteArray) (x1 : Int) : funW cfg Try.f40 [(.v (.string x0)), (.v (.int IntKind.i64 x1))] [] k kp = c (fun x0 x1 x20 => X2000002 k kp (m2000002 x0 x1 x20)) x0 x1 (fun y0 y1 y2 => k (.tup [(.v (.int IntKind.i64 y0)), (.v (.int IntKind.i64 y1)), (.v (.int IntKind.i64 y2))]) []) :=
  Eq.mp (by kernel_rfl) ((funW_run (AG := none'') body_is (c_ag k kp) [(.v (.string x0)), (.v (.int IntKind.i64 x1))] []).trans (c_c k kp (JJ k kp) (LL k kp) x0 x1))
theorem f_eq (k kp : D → List Blk → Prop) (x0 : ByteArray) (x1 : Int) : funW cfg Try.f40 [(.v (.string x0)), (.v (.int IntKind.i64 x1))] [] k kp = f x0 x1 (fun y0 y1 y2 => k (.tup [(.v (.int IntKind.i64 y0)), (.v (.int IntKind.i64 y1)), (.v (.int IntKind.i64 y2))]) []) := by
  rw [f_def, c_raw]; simp only [j2000002_eq]; first | done | rfl
noncomputable def ent0 : Entry := fun args blks k _ => match args, blks with
  | [d0, d1], [] => aStr d0 fun x0 => aInt IntKind.i64 d1 fun x1 => f x0 x1 (fun y0 y1 y2 => k (.tup [(.v (.int IntKind.i64 y0)), (.v (.int IntKind.i64 y1)), (.v (.int IntKind.i64 y2))]) [])
  | _, _ => False
noncomputable def ent : Entry := fun args blks k kp => ent0 (convA [none, none] args) blks k kp
theorem ok : EntOk Try.prog 0 0 40 ent := by
  refine EntOk.conv (EntOk.of (funW_ok (cfg := cfg) (tyOk_of rfl rfl tyL_ok) (eqOk_none rfl) mixed_ok (tab_ok ?_) Try.func40 (by rfl) (by rfl)) ?_) _
  · intro p hp
    cases hp
  · intro args blks k kp h k' kp'
    match args, blks, h with
    | [d0, d1], [], h =>
    dsimp only [ent0] at h
    have h9 := aStr_elim h; clear h; obtain ⟨x0, rfl, h⟩ := h9
    have h9 := aInt_elim h; clear h; obtain ⟨x1, rfl, h⟩ := h9
    exact (f_eq k' kp' x0 x1).symm
end N40
end Go.Proofs.Yt
namespace Go.Proofs.Yt
open Go Go.Aw Go.Proofs
set_option linter.unusedVariables false
set_option linter.unusedSimpArgs false
set_option maxRecDepth 100000
/-! dyehouse/dyehouseref02.Get -/
namespace N42
noncomputable def cfg : Cfg := { P := Try.prog, ty := tys, E := tab [(40, N40.ent)], atSeq := tab [(2000003, ⟨[(4, .keep), (6, .keep), (20, .keep)]⟩), (4, ⟨[(4, .keep), (6, .keep)]⟩)], atLoop := tab [], outs := [] }
noncomputable def body : Code := bodyOf Try.f42
def j2000003 (j4 : Int → Int → Prop) (x4 : Int) (x6 : Int) (x20 : Bool) (k : Int → Int → Prop) : Prop :=
  (br x20 (k (0 : Int) (12 : Int)) (j4 x4 x6))
def j4 (x4 : Int) (x6 : Int) (k : Int → Int → Prop) : Prop :=
  (k x4 x6)
def c (j2000003 : Int → Int → Bool → Prop) (x0 : ByteArray) (k : Int → Int → Prop) : Prop :=
  (N40.f x0 (0 : Int) (fun (y0_0 : Int) (y1_0 : Int) (y2_0 : Int) => (br (y2_0 == (0 : Int)) (j2000003 y0_0 y2_0 (decide (y1_0 < ((((x0).size : Nat) : Int))))) (j2000003 y0_0 y2_0 false))))
def j4' (x4 : Int) (x6 : Int) (k : Int → Int → Prop) : Prop := j4 x4 x6 k
def j2000003' (x4 : Int) (x6 : Int) (x20 : Bool) (k : Int → Int → Prop) : Prop := j2000003 (fun x4 x6 => j4' x4 x6 k) x4 x6 x20 k
def f0 (x0 : ByteArray) (k : Int → Int → Prop) : Prop := c (fun x4 x6 x20 => j2000003' x4 x6 x20 k) x0 k
theorem f_ex : ∃ g : ByteArray → (Int → Int → Prop) → Prop, g = f0 := ⟨_, rfl⟩
noncomputable def f : ByteArray → (Int → Int → Prop) → Prop := Classical.choose f_ex
theorem f_def : f = f0 := Classical.choose_spec f_ex
def m2000003 (x4 : Int) (x6 : Int) (x20 : Bool) : St := { tmps := mkT 23 0 [(4, (.v (.int IntKind.i64 x4))), (6, (.v (.int IntKind.i64 x6))), (20, (.v (.bool x20)))], hp := [], m := 0 }
def m4 (x4 : Int) (x6 : Int) : St := { tmps := mkT 23 0 [(4, (.v (.int IntKind.i64 x4))), (6, (.v (.int IntKind.i64 x6)))], hp := [], m := 0 }
noncomputable def X2000003 (k kp : D → List Blk → Prop) : St → Prop := atP cfg (pick none' []) [1, 1, 0, 1] body (topK cfg Try.f42 k kp)
noncomputable def X4 (k kp : D → List Blk → Prop) : St → Prop := atP cfg (pick none' []) [1, 1, 1] body (topK cfg Try.f42 k kp)
noncomputable def JJ (k kp : D → List Blk → Prop) : Nat → St → Prop := pick none' [(2000003, X2000003 k kp), (4, X4 k kp)]
noncomputable def LL (k kp : D → List Blk → Prop) : Nat → St → Prop := pick none' []
theorem j4_c (k kp : D → List Blk → Prop) (J L : Nat → St → Prop) (x4 : Int) (x6 : Int) : runC cfg 4 J L (pick none' []) [1, 1, 1] body (topK cfg Try.f42 k kp) (m4 x4 x6) = j4 x4 x6 (fun y0 y1 => k (.tup [(.v (.int IntKind.i64 y0)), (.v (.int IntKind.i64 y1))]) []) := by kernel_rfl
theorem j4_ag (k kp : D → List Blk → Prop) : agPL cfg 4 (JJ k kp) (LL k kp) [1, 1, 1] body = agPR cfg 4 (pick none' []) [1, 1, 1] body (topK cfg Try.f42 k kp) := by kernel_rfl
theorem j4_raw (k kp : D → List Blk → Prop) (x4 : Int) (x6 : Int) : X4 k kp (m4 x4 x6) = j4 x4 x6 (fun y0 y1 => k (.tup [(.v (.int IntKind.i64 y0)), (.v (.int IntKind.i64 y1))]) []) :=
  Eq.mp (by kernel_rfl) ((atP_run (j4_ag k kp) (m4 x4 x6)).trans (j4_c k kp (JJ k kp) (LL k kp) x4 x6))
theorem j4_eq (k kp : D → List Blk → Prop) (x4 : Int) (x6 : Int) : X4 k kp (m4 x4 x6) = j4' x4 x6 (fun y0 y1 => k (.tup [(.v (.int IntKind.i64 y0)), (.v (.int IntKind.i64 y1))]) []) := by
  rw [j4_raw]; rfl
theorem j2000003_c (k kp : D → List Blk → Prop) (J L : Nat → St → Prop) (x4 : Int) (x6 : Int) (x20 : Bool) : runC cfg 2000003 J L (pick none' []) [1, 1, 0, 1] body (topK cfg Try.f42 k kp) (m2000003 x4 x6 x20) = j2000003 (fun x4 x6 => J 4 (m4 x4 x6)) x4 x6 x20 (fun y0 y1 => k (.tup [(.v (.int IntKind.i64 y0)), (.v (.int IntKind.i64 y1))]) []) := by kernel_rfl
theorem j2000003_ag (k kp : D → List Blk → Prop) : agPL cfg 2000003 (JJ k kp) (LL k kp) [1, 1, 0, 1] body = agPR cfg 2000003 (pick none' []) [1, 1, 0, 1] body (topK cfg Try.f42 k kp) := by kernel_rfl
theorem j2000003_raw (k kp : D → List Blk → Prop) (x4 : Int) (x6 : Int) (x20 : Bool) : X2000003 k kp (m2000003 x4 x6 x20) = j2000003 (fun x4 x6 => X4 k kp (m4 x4 x6)) x4 x6 x20 (fun y0 y1 => k (.tup [(.v (.int IntKind.i64 y0)), (.v (.int IntKind.i64 y1))]) []) :=
  Eq.mp (by kernel_rfl) ((atP_run (j2000003_ag k kp) (m2000003 x4 x6 x20)).trans (j2000003_c k kp (JJ k kp) (LL k kp) x4 x6 x20))
theorem j2000003_eq (k kp : D → List Blk → Prop) (x4 : Int) (x6 : Int) (x20 : Bool) : X2000003 k kp (m2000003 x4 x6 x20) = j2000003' x4 x6 x20 (fun y0 y1 => k (.tup [(.v (.int IntKind.i64 y0)), (.v (.int IntKind.i64 y1))]) []) := by
  rw [j2000003_raw]; simp only [j4_eq]; first | done | rfl
theorem c_c (k kp : D → List Blk → Prop) (J L : Nat → St → Prop) (x0 : ByteArray) : runC cfg 1000001 J L none'' [] body (topK cfg Try.f42 k kp) (st0 Try.f42 [(.v (.string x0))] []) = c (fun x4 x6 x20 => J 2000003 (m2000003 x4 x6 x20)) x0 (fun y0 y1 => k (.tup [(.v (.int IntKind.i64 y0)), (.v (.int IntKind.i64 y1))]) []) := by kernel_rfl
theorem c_ag (k kp : D → List Blk → Prop) : agPL cfg 1000001 (JJ k kp) (LL k kp) [] body = agPR cfg 1000001 none'' [] body (topK cfg Try.f42 k kp) := by kernel_rfl
theorem body_is : Try.f42.body = some body := by kernel_rfl
theorem c_raw (k kp : D → List Blk → Prop) (x0 : ByteArray) : funW cfg Try.f42 [(.v (.string x0))] [] k kp = c (fun x4 x6 x20 => X2000003 k kp (m2000003 x4 x6 x20)) x0 (fun y0 y1 => k (.tup [(.v (.int IntKind.i64 y0)), (.v (.int IntKind.i64 y1))]) []) :=
  Eq.mp (by kernel_rfl) ((funW_run (AG := none'') body_is (c_ag k kp) [(.v (.string x0))] []).trans (c_c k kp (JJ k kp) (LL k kp) x0))
theorem f_eq (k kp : D → List Blk → Prop) (x0 : ByteArray) : funW cfg Try.f42 [(.v (.string x0))] [] k kp = f x0 (fun y0 y1 => k (.tup [(.v (.int IntKind.i64 y0)), (.v (.int IntKind.i64 y1))]) []) := by
  rw [f_def, c_raw]; simp only [j2000003_eq]; first | done | rfl
noncomputable def ent0 : Entry := fun args blks k _ => match args, blks with
  | [d0], [] => aStr d0 fun x0 => f x0 (fun y0 y1 => k (.tup [(.v (.int IntKind.i64 y0)), (.v (.int IntKind.i64 y1))]) [])
  | _, _ => False
noncomputable def ent : Entry := fun args blks k kp => ent0 (convA [none] args) blks k kp
theorem ok : EntOk Try.prog 0 0 42 ent := by
  refine EntOk.conv (EntOk.of (funW_ok (cfg := cfg) (tyOk_of rfl rfl tyL_ok) (eqOk_none rfl) mixed_ok (tab_ok ?_) Try.func42 (by rfl) (by rfl)) ?_) _
  · intro p hp
    simp only [List.mem_cons, List.not_mem_nil, or_false] at hp
    rcases hp with rfl
    · exact N40.ok
  · intro args blks k kp h k' kp'
    match args, blks, h with
    | [d0], [], h =>
    dsimp only [ent0] at h
    have h9 := aStr_elim h; clear h; obtain ⟨x0, rfl, h⟩ := h9
    exact (f_eq k' kp' x0).symm
end N42
end Go.Proofs.Yt
namespace Go.Proofs.Yt
open Go Go.Aw Go.Proofs Go.RowKit
set_option linter.unusedVariables false
set_option linter.unusedSimpArgs false

/-- A number's text. -/
def putL (n : Int) : List Int := (if n < 0 then [45] else []) ++ (dl 20 n.natAbs).reverse

theorem put_s (n : Int) (hn : in64 n) (k : ByteArray → Prop) (h : k (bytesOf (putL n))) : N34.f n k := by
  unfold in64 at hn
  rw [N34.f_def]
  unfold N34.f0 N34.c N34.l5'
  refine loopS_of (fun s : Int × Int × List Int => ∃ a : Nat, s.1 = (a : Int) + 1 ∧ 1 ≤ a ∧ a < 20 ∧ s.2.2.length = 20 ∧ s.2.1.natAbs < 10 ^ a ∧ (n < 0 → s.2.1 ≤ 0) ∧ (0 ≤ n → 0 ≤ s.2.1) ∧ in64 s.2.1 ∧
    (dl (a + 1) s.2.1.natAbs).reverse ++ s.2.2.drop (a + 1) = (dl 20 n.natAbs).reverse) (fun s => s.1.toNat) ?_
    ⟨19, rfl, by omega, by omega, by simp, by show n.natAbs < 10 ^ 19; omega, fun h => Int.le_of_lt h, fun h => h, hn, by simp⟩
  rintro again ⟨x, m, b⟩ ⟨a, rfl, ha1, ha2, hlen, hm, hs1, hs2, hin, hd⟩ hag
  simp only at hlen hm hs1 hs2 hin hd hag ⊢
  unfold in64 at hin
  unfold N34.l5 N34.j8' N34.j8 N34.j11' N34.j11 N34.j4' N34.j4 N34.j14' N34.j14
  dsimp only
  have hmod := tmod10 m
  have hdiv := tdiv10 m
  have hdi : IntKind.i64.wrap (Int.tdiv m 10) = Int.tdiv m 10 := by rw [hdiv]; apply wrap_id <;> split <;> omega
  have ewa : IntKind.i64.wrap ((a : Int) + 1 - 1) = (a : Int) := by rw [wrap_id (by omega) (by omega)]; omega
  rw [hdi, ewa]
  simp only [Int.toNat_natCast]
  -- what is done with the digit
  have main : ∀ d : Int, d = ((m.natAbs % 10 : Nat) : Int) → ((inB 0 (a : Int) (((20 : Nat) : Int) - 1)) ∧ (((10 : Int) ≠ 0) ∧ (br (Int.tdiv m 10 == (0 : Int))
      (br (decide (n < (0 : Int))) ((inB 0 (IntKind.i64.wrap ((a : Int) - (1 : Int))) (((20 : Nat) : Int) - 1)) ∧ ((inB (IntKind.i64.wrap ((a : Int) - (1 : Int))) (20 : Int) (20 : Int)) ∧ (((20 : Int) ≤ ((20 : Nat) : Int)) ∧ (k (bytesOf (List.drop (Int.toNat (IntKind.i64.wrap ((a : Int) - (1 : Int)))) (List.take (Int.toNat (20 : Int)) ((b.set a (IntKind.u8.wrap (IntKind.i64.wrap ((48 : Int) + d)))).set (Int.toNat (IntKind.i64.wrap ((a : Int) - (1 : Int)))) (45 : Int))))))))) ((inB (a : Int) (20 : Int) (20 : Int)) ∧ (((20 : Int) ≤ ((20 : Nat) : Int)) ∧ (k (bytesOf (List.drop a (List.take (Int.toNat (20 : Int)) (b.set a (IntKind.u8.wrap (IntKind.i64.wrap ((48 : Int) + d)))))))))))
      (((10 : Int) ≠ 0) ∧ again ((a : Int), Int.tdiv m 10, b.set a (IntKind.u8.wrap (IntKind.i64.wrap ((48 : Int) + d)))))))) := by
    rintro d rfl
    have ed : IntKind.u8.wrap (IntKind.i64.wrap ((48 : Int) + ((m.natAbs % 10 : Nat) : Int))) = ((48 + m.natAbs % 10 : Nat) : Int) := by
      rw [wrap_id (by omega) (by omega), wu8_eq]; omega
    rw [ed]
    have hset := drop_set_self (x := ((48 + m.natAbs % 10 : Nat) : Int)) (by omega : a < b.length)
    rw [dl_succ a] at hd
    have hlen' : (b.set a ((48 + m.natAbs % 10 : Nat) : Int)).length = 20 := by simpa using hlen
    generalize hb' : b.set a ((48 + m.natAbs % 10 : Nat) : Int) = b' at *
    refine ⟨⟨by omega, by omega, by omega⟩, by decide, ?_⟩
    have e20 : Int.toNat 20 = 20 := rfl
    rw [e20]
    by_cases hz : m.natAbs / 10 = 0
    · have : Int.tdiv m 10 = 0 := by rw [hdiv, hz]; split <;> rfl
      rw [this]
      simp only [beq_self_eq_true, br_true]
      rw [if_pos hz] at hd
      have hres : b'.drop a = (dl 20 n.natAbs).reverse := by rw [hset, ← hd]; simp
      simp only [br_dec]
      split
      · rename_i hn0
        have ew : IntKind.i64.wrap ((a : Int) - 1) = ((a - 1 : Nat) : Int) := by rw [wrap_id (by omega) (by omega)]; omega
        rw [ew]
        refine ⟨⟨by omega, by omega, by omega⟩, ⟨by omega, by omega, by omega⟩, by decide, ?_⟩
        rw [Int.toNat_natCast, List.take_of_length_le (by simp; omega), drop_set_self (by omega), show a - 1 + 1 = a by omega, hres]
        have : putL n = 45 :: (dl 20 n.natAbs).reverse := by unfold putL; rw [if_pos hn0]; rfl
        rw [← this]; exact h
      · rename_i hn0
        refine ⟨⟨by omega, by omega, by omega⟩, by decide, ?_⟩
        rw [List.take_of_length_le (by omega), hres]
        have : putL n = (dl 20 n.natAbs).reverse := by unfold putL; rw [if_neg hn0]; rfl
        rw [← this]; exact h
    · have hne : Int.tdiv m 10 ≠ 0 := by rw [hdiv]; split <;> omega
      have hnb : (Int.tdiv m 10 == 0) = false := by simpa using hne
      rw [hnb]
      simp only [br_false]
      rw [if_neg hz] at hd
      obtain ⟨c, rfl⟩ : ∃ c, a = c + 1 := ⟨a - 1, by omega⟩
      have hm' : m.natAbs / 10 < 10 ^ c := by rw [Nat.pow_succ] at hm; omega
      have hc : 1 ≤ c := by
        rcases Nat.eq_zero_or_pos c with h0 | h0
        · subst h0; simp at hm'; omega
        · exact h0
      have hab : (Int.tdiv m 10).natAbs = m.natAbs / 10 := by rw [hdiv]; split <;> omega
      refine ⟨by decide, hag _ ⟨c, rfl, hc, by omega, hlen', by rw [hab]; exact hm', fun h0 => ?_, fun h0 => ?_, ?_, ?_⟩ (by simp <;> omega)⟩
      · have := hs1 h0
        show Int.tdiv m 10 ≤ 0
        rw [hdiv]; split <;> omega
      · have := hs2 h0
        show 0 ≤ Int.tdiv m 10
        rw [hdiv]; split <;> omega
      · show in64 (Int.tdiv m 10)
        unfold in64
        rw [hdiv]; split <;> omega
      · show (dl (c + 1) (Int.tdiv m 10).natAbs).reverse ++ b'.drop (c + 1) = _
        rw [hab, hset, ← hd]
        simp
  refine ⟨by decide, br_of (fun hneg => ?_) (fun hneg => ?_)⟩
  · have hneg : Int.tmod m 10 < 0 := by simpa using hneg
    have e : IntKind.i64.wrap (0 - Int.tmod m 10) = ((m.natAbs % 10 : Nat) : Int) := by
      rw [wrap_id (by rw [hmod] at *; split at hneg <;> omega) (by rw [hmod] at *; split at hneg <;> omega)]
      rw [hmod] at *; split at hneg <;> rename_i hh <;> (try rw [if_pos hh]) <;> omega
    rw [e]
    exact main _ rfl
  · have hneg : ¬ Int.tmod m 10 < 0 := by simpa using hneg
    refine main _ ?_
    rw [hmod] at *
    split at hneg <;> rename_i hh <;> (try rw [if_pos hh]) <;> (try rw [if_neg hh]) <;> omega

theorem u64neg (n : Int) (hn : in64 n) : IntKind.u64.wrap (if n < 0 then 0 - IntKind.u64.wrap n else n) = (n.natAbs : Int) := by
  unfold in64 at hn
  simp only [wu64_eq]
  split <;> omega

theorem wu64_id' {n : Int} (h1 : 0 ≤ n) (h2 : n < 18446744073709551616) : IntKind.u64.wrap n = n := by rw [wu64_eq]; omega

theorem digits_s (U : Nat) (hU : U < 10 ^ 20) (hU2 : U < 2 ^ 64) (k : List Int → Prop) (h : k (dl 20 U)) : N61.f (U : Int) k := by
  rw [N61.f_def]
  unfold N61.f0 N61.c N61.l2'
  refine loopS_of (fun s : Int × List Int => ∃ u : Nat, s.1 = u ∧ u < 2 ^ 64 ∧ ((s.2 ≠ [] ∧ u = 0 ∧ s.2 = dl 20 U) ∨ (∃ f, u < 10 ^ f ∧ s.2.length + f = 20 ∧ 1 ≤ f ∧ (s.2 = [] ∨ u ≠ 0) ∧ s.2 ++ dl f u = dl 20 U))) (fun s => 2 * s.1.toNat + (if s.2 = [] then 1 else 0)) ?_
    ⟨U, rfl, hU2, .inr ⟨20, hU, rfl, by decide, .inl rfl, rfl⟩⟩
  rintro again ⟨x, b⟩ ⟨u, rfl, hu, hcase⟩ hag
  simp only at hcase hag ⊢
  unfold N61.l2 N61.j3' N61.j3 N61.j5' N61.j5
  dsimp only
  have emod : Int.tmod (u : Int) 10 = ((u % 10 : Nat) : Int) := by norm_cast
  have ediv : Int.tdiv (u : Int) 10 = ((u / 10 : Nat) : Int) := by norm_cast
  have go : (b = [] ∨ u ≠ 0) → (((10 : Int) ≠ 0) ∧ ((room (b.length + (([(IntKind.u8.wrap (IntKind.u64.wrap ((48 : Int) + (Int.tmod (u : Int) (10 : Int)))))] : List Int)).length) 1) ∧ (((10 : Int) ≠ 0) ∧
      (again (IntKind.u64.wrap (Int.tdiv (u : Int) (10 : Int)), b ++ ([(IntKind.u8.wrap (IntKind.u64.wrap ((48 : Int) + (Int.tmod (u : Int) (10 : Int)))))] : List Int)))))) := by
    intro hbu
    rw [emod, ediv]
    have ed : IntKind.u8.wrap (IntKind.u64.wrap ((48 : Int) + ((u % 10 : Nat) : Int))) = ((48 + u % 10 : Nat) : Int) := by
      rw [wu64_id' (by omega) (by omega), wu8_eq]; omega
    rw [ed, wu64_id' (by omega) (by omega)]
    have hc2 : ∃ f, u < 10 ^ f ∧ b.length + f = 20 ∧ 1 ≤ f ∧ b ++ dl f u = dl 20 U := by
      rcases hcase with ⟨h1, h2, h3⟩ | ⟨f, h1, h2, h3, _, h5⟩
      · rcases hbu with h | h
        · exact absurd h h1
        · exact absurd h2 h
      · exact ⟨f, h1, h2, h3, h5⟩
    obtain ⟨f, h1, h2, h3, h5⟩ := hc2
    obtain ⟨g, rfl⟩ : ∃ g, f = g + 1 := ⟨f - 1, by omega⟩
    refine ⟨by decide, ?_, by decide, hag _ ⟨u / 10, rfl, by omega, ?_⟩ ?_⟩
    · unfold room; simp; omega
    · rw [dl_succ g] at h5
      have hg : u / 10 < 10 ^ g := by rw [Nat.pow_succ] at h1; omega
      by_cases hz : u / 10 = 0
      · rw [if_pos hz] at h5
        exact .inl ⟨by simp, hz, h5⟩
      · rw [if_neg hz] at h5
        refine .inr ⟨g, hg, by simp; omega, ?_, .inr hz, by rw [← h5]; simp⟩
        rcases Nat.eq_zero_or_pos g with h0 | h0
        · subst h0; simp at hg; omega
        · exact h0
    · simp only [Int.toNat_natCast]
      rw [if_neg (by simp)]
      rcases hbu with h | h
      · rw [if_pos h]; omega
      · split <;> omega
  refine br_of (fun h0 => ?_) (fun h0 => ?_)
  · have h0 : 0 < u := by simp at h0; omega
    exact go (.inr (by omega))
  · have h0 : u = 0 := by simp at h0; omega
    refine br_of (fun hb => ?_) (fun hb => ?_)
    · have hb : b = [] := by simpa using hb
      exact go (.inl hb)
    · have hb : b ≠ [] := by simpa using hb
      rcases hcase with ⟨h1, h2, h3⟩ | ⟨f, h1, h2, h3, h4, h5⟩
      · rw [h3]; exact h
      · rcases h4 with h4 | h4
        · exact absurd h4 hb
        · exact absurd h0 h4

theorem putr_s (n : Int) (hn : in64 n) (k : ByteArray → Prop) (h : k (bytesOf (putL n))) : N35.f n k := by
  have hn' := hn
  unfold in64 at hn'
  rw [N35.f_def]
  unfold N35.f0 N35.c
  have tail : ∀ s0 : List Int, s0 ++ (dl 20 n.natAbs).reverse = putL n → s0.length ≤ 1 → N35.j6' (n.natAbs : Int) (bytesOf s0) k := by
    intro s0 hs0 hl0
    unfold N35.j6' N35.j6
    refine digits_s _ (by omega) (by omega) _ ?_
    unfold N35.l8'
    have hlen := dl_len_le 20 n.natAbs
    have ew : IntKind.i64.wrap ((((dl 20 n.natAbs).length : Nat) : Int) - 1) = (((dl 20 n.natAbs).length : Nat) : Int) - 1 := wrap_id (by omega) (by omega)
    rw [ew]
    generalize hD : dl 20 n.natAbs = D at *
    refine loopS_of (fun s : ByteArray × Int × List Int => ∃ i : Nat, s.2.1 = (i : Int) - 1 ∧ i ≤ D.length ∧ s.2.2 = D ∧ s.1 = bytesOf (s0 ++ (D.drop i).reverse)) (fun s => (s.2.1 + 1).toNat) ?_
      ⟨D.length, rfl, Nat.le_refl _, rfl, by simp⟩
    rintro again ⟨t, x, b⟩ ⟨i, e1, hi, e2, e3⟩ hag
    simp only at e1 e2 e3
    subst e1; subst e2; subst e3
    simp only at hag ⊢
    unfold N35.l8 N35.j11' N35.j11
    dsimp only
    refine br_of (fun hlt => ?_) (fun hge => ?_)
    · obtain ⟨m, rfl⟩ : ∃ m, i = m + 1 := ⟨i - 1, by simp at hlt; omega⟩
      have ei : ((m + 1 : Nat) : Int) - 1 = (m : Int) := by omega
      rw [ei]
      have ewm : IntKind.i64.wrap ((m : Int) - 1) = (m : Int) - 1 := wrap_id (by omega) (by omega)
      rw [ewm, Int.toNat_natCast]
      refine ⟨⟨by omega, by omega, by omega⟩, ?_, ?_⟩
      · rw [bytesOf_size, bytesOf_size]; simp; omega
      · rw [← bytesOf_append]
        refine hag _ ⟨m, rfl, by omega, rfl, ?_⟩ (by simp <;> omega)
        rw [drop_get (d := 0) (by omega : m < b.length)]
        simp
    · have : i = 0 := by simp at hge; omega
      subst this
      simp only [List.drop_zero]
      rw [hs0]; exact h
  refine br_of (fun hneg => ?_) (fun hneg => ?_)
  · have hneg : n < 0 := by simpa using hneg
    have e : IntKind.u64.wrap (0 - IntKind.u64.wrap n) = (n.natAbs : Int) := by simp only [wu64_eq]; omega
    rw [e]
    exact tail [45] (by unfold putL; rw [if_pos hneg]) (by simp)
  · have hneg : ¬ n < 0 := by simpa using hneg
    have e : IntKind.u64.wrap n = (n.natAbs : Int) := by simp only [wu64_eq]; omega
    rw [e]
    exact tail [] (by unfold putL; rw [if_neg hneg]) (by simp)

theorem long_s (n : Int) (hn : in64 n) (k : Int → Prop) (h : k (((putL n).length : Nat) : Int)) : N38.f n k := by
  have hn' := hn
  unfold in64 at hn'
  rw [N38.f_def]
  unfold N38.f0 N38.c
  have tail : ∀ s : Nat, s ≤ 1 → s + (dl 20 n.natAbs).length = (putL n).length → N38.j4' n ((s + 1 : Nat) : Int) k := by
    intro s hs hl
    unfold N38.j4' N38.j4 N38.l5'
    have hd0 := tdiv10 n
    have e0 : IntKind.i64.wrap (Int.tdiv n 10) = Int.tdiv n 10 := by rw [hd0]; apply wrap_id <;> split <;> omega
    rw [e0]
    have hlen := dl_len_le 20 n.natAbs
    refine ⟨by decide, loopS_of (fun s : Int × Int => ∃ f : Nat, f ≤ 19 ∧ s.1.natAbs < 10 ^ f ∧ in64 s.1 ∧ s.2 + (if s.1 = 0 then 0 else (((dl f s.1.natAbs).length : Nat) : Int)) = (((putL n).length : Nat) : Int) ∧ 0 ≤ s.2) (fun s => s.1.natAbs) ?_ ?_⟩
    · rintro again ⟨m, out⟩ ⟨f, hf, hm, hin, hsum, h0⟩ hag
      simp only at hm hin hsum h0 hag ⊢
      unfold in64 at hin
      unfold N38.l5 N38.j8' N38.j8
      dsimp only
      simp only [br_bne]
      have hdm := tdiv10 m
      have em : IntKind.i64.wrap (Int.tdiv m 10) = Int.tdiv m 10 := by rw [hdm]; apply wrap_id <;> split <;> omega
      by_cases hz : m = 0
      · rw [if_pos hz]
        rw [if_pos hz] at hsum
        have : out = (((putL n).length : Nat) : Int) := by omega
        rw [this]; exact h
      · rw [if_neg hz, em]
        rw [if_neg hz] at hsum
        have hpl : (putL n).length ≤ 21 := by rw [← hl]; omega
        have ew : IntKind.i64.wrap (out + 1) = out + 1 := wrap_id (by omega) (by omega)
        rw [ew]
        cases f with
        | zero => simp at hm; omega
        | succ f =>
          have hab : (Int.tdiv m 10).natAbs = m.natAbs / 10 := by rw [hdm]; split <;> omega
          rw [dl_succ f] at hsum
          refine ⟨by decide, hag _ ⟨f, by omega, by show (Int.tdiv m 10).natAbs < _; rw [hab]; rw [Nat.pow_succ] at hm; omega, ?_, ?_, by show 0 ≤ out + 1; omega⟩ (by show (Int.tdiv m 10).natAbs < m.natAbs; rw [hab]; omega)⟩
          · show in64 (Int.tdiv m 10)
            unfold in64; rw [hdm]; split <;> omega
          · show out + 1 + (if Int.tdiv m 10 = 0 then 0 else (((dl f (Int.tdiv m 10).natAbs).length : Nat) : Int)) = _
            rw [hab, ← hsum]
            by_cases hq : m.natAbs / 10 = 0
            · rw [if_pos hq, if_pos (by rw [hdm, hq]; split <;> rfl)]
              simp
            · rw [if_neg hq, if_neg (by rw [hdm]; split <;> omega)]
              simp; omega
    · have hab : (Int.tdiv n 10).natAbs = n.natAbs / 10 := by rw [hd0]; split <;> omega
      refine ⟨19, Nat.le_refl _, by show (Int.tdiv n 10).natAbs < _; omega, ?_, ?_, by show (0 : Int) ≤ ((s + 1 : Nat) : Int); omega⟩
      · show in64 (Int.tdiv n 10)
        unfold in64; rw [hd0]; split <;> omega
      · show ((s + 1 : Nat) : Int) + (if Int.tdiv n 10 = 0 then 0 else (((dl 19 (Int.tdiv n 10).natAbs).length : Nat) : Int)) = _
        rw [hab, ← hl]
        have : dl 20 n.natAbs = ((48 + n.natAbs % 10 : Nat) : Int) :: if n.natAbs / 10 = 0 then [] else dl 19 (n.natAbs / 10) := rfl
        rw [this]
        by_cases hq : n.natAbs / 10 = 0
        · rw [if_pos hq, if_pos (by rw [hd0, hq]; split <;> rfl)]
          simp
        · rw [if_neg hq, if_neg (by rw [hd0]; split <;> omega)]
          simp; omega
  refine br_of (fun hneg => ?_) (fun hneg => ?_)
  · have hneg : n < 0 := by simpa using hneg
    exact tail 1 (by decide) (by unfold putL; rw [if_pos hneg]; simp; omega)
  · have hneg : ¬ n < 0 := by simpa using hneg
    exact tail 0 (by decide) (by unfold putL; rw [if_neg hneg]; simp)
end Go.Proofs.Yt
namespace Go.Proofs.Yt
open Go Go.Aw Go.Proofs Go.RowKit
set_option linter.unusedVariables false
set_option linter.unusedSimpArgs false

theorem putL_len (n : Int) : 1 ≤ (putL n).length ∧ (putL n).length ≤ 21 := by
  unfold putL
  have h1 : 0 < (dl 20 n.natAbs).length := dl_len_pos 19 n.natAbs
  have h2 := dl_len_le 20 n.natAbs
  simp
  split <;> simp <;> omega

theorem pad_s (n wide : Int) (hn : in64 n) (hw : in64 wide) (h300 : wide ≤ 300) (k : ByteArray → Prop) (h : k (bytesOf (List.replicate (wide - (putL n).length).toNat 32 ++ putL n))) : N36.f n wide k := by
  unfold in64 at hw
  obtain ⟨p1, p2⟩ := putL_len n
  rw [N36.f_def]
  unfold N36.f0 N36.c
  refine long_s n hn _ ?_
  have e : IntKind.i64.wrap (mmv true wide 0 - ((putL n).length : Int)) = (if wide < 0 then 0 else wide) - ((putL n).length : Int) := by
    have : mmv true wide 0 = if wide < 0 then 0 else wide := by
      unfold mmv; simp only [gt_iff_lt]
    rw [this]
    apply wrap_id <;> split <;> omega
  rw [e]
  unfold N36.l3'
  refine loopS_of (fun s : Int × List Int => ∃ i : Nat, s.1 = i ∧ i ≤ (wide - (putL n).length).toNat ∧ s.2 = List.replicate i 32) (fun s => ((wide - (putL n).length).toNat - s.1).toNat) ?_ ⟨0, rfl, Nat.zero_le _, rfl⟩
  rintro again ⟨x, b⟩ ⟨i, rfl, hi, rfl⟩ hag
  simp only at hag ⊢
  unfold N36.l3 N36.j6' N36.j6
  dsimp only
  refine br_of (fun hlt => ?_) (fun hge => ?_)
  · have hlt : (i : Int) < (if wide < 0 then 0 else wide) - ((putL n).length : Int) := by simpa using hlt
    have hi2 : (i : Int) < wide - (putL n).length := by split at hlt <;> omega
    have ew : IntKind.i64.wrap ((i : Int) + 1) = ((i + 1 : Nat) : Int) := by rw [wrap_id (by omega) (by omega)]; omega
    rw [ew]
    refine ⟨by unfold room; simp; omega, hag _ ⟨i + 1, rfl, by omega, ?_⟩ (by simp; omega)⟩
    exact List.replicate_succ'.symm
  · have hge : ¬ (i : Int) < (if wide < 0 then 0 else wide) - ((putL n).length : Int) := by simpa using hge
    have : i = (wide - (putL n).length).toNat := by split at hge <;> omega
    subst this
    refine put_s n hn _ ⟨?_, ?_⟩
    · rw [ofBytes_length, bytesOf_size]; unfold room; simp; omega
    · rw [bytesOf_append, bytesOf_ofBytes, ← bytesOf_append]; exact h

theorem padr_s (n wide : Int) (hn : in64 n) (hw : in64 wide) (h300 : wide ≤ 300) (k : ByteArray → Prop) (h : k (bytesOf (List.replicate (wide - (putL n).length).toNat 32 ++ putL n))) : N37.f n wide k := by
  unfold in64 at hw
  obtain ⟨p1, p2⟩ := putL_len n
  rw [N37.f_def]
  unfold N37.f0 N37.c
  refine putr_s n hn _ ?_
  rw [bytesOf_size]
  unfold N37.l3'
  refine loopS_of (fun s : ByteArray × Int => ∃ i : Nat, s.2 = (((putL n).length + i : Nat) : Int) ∧ i ≤ (wide - (putL n).length).toNat ∧ s.1 = bytesOf (List.replicate i 32 ++ putL n)) (fun s => (wide - s.2).toNat) ?_ ⟨0, rfl, Nat.zero_le _, rfl⟩
  rintro again ⟨t, x⟩ ⟨i, rfl, hi, rfl⟩ hag
  simp only at hag ⊢
  unfold N37.l3 N37.j6' N37.j6
  dsimp only
  have e32 : ByteArray.mk #[32] = bytesOf [32] := rfl
  refine br_of (fun hlt => ?_) (fun hge => ?_)
  · have hlt : (((putL n).length + i : Nat) : Int) < wide := by simpa using hlt
    have ew : IntKind.i64.wrap ((((putL n).length + i : Nat) : Int) + 1) = (((putL n).length + (i + 1) : Nat) : Int) := by rw [wrap_id (by omega) (by omega)]; omega
    rw [ew, e32, ← bytesOf_append]
    refine ⟨by rw [bytesOf_size, bytesOf_size]; simp; omega, hag _ ⟨i + 1, rfl, by omega, ?_⟩ (by simp; omega)⟩
    rw [← List.append_assoc]
    rfl
  · have hge : ¬ (((putL n).length + i : Nat) : Int) < wide := by simpa using hge
    have : i = (wide - (putL n).length).toNat := by omega
    subst this
    exact h

theorem digit_s (x : Int) (hx : isB x) (k : Int → Bool → Prop) (h : k (x - 48) (decide (isD x))) : N66.f x k := by
  obtain ⟨h1, h2⟩ := hx
  rw [N66.f_def]
  unfold N66.f0 N66.c
  have e : IntKind.i64.wrap (IntKind.i64.wrap x - 48) = x - 48 := by
    rw [wrap_id (n := x) (by omega) (by omega), wrap_id (by omega) (by omega)]
  simp only [e]
  simp only [br_dec]
  split
  · rename_i h0
    have : decide (x - 48 < 10) = decide (isD x) := by rw [Bool.eq_iff_iff, decide_eq_true_eq, decide_eq_true_eq]; unfold isD; omega
    rw [this]; exact h
  · rename_i h0
    have : decide (isD x) = false := by rw [decide_eq_false_iff_not]; unfold isD; omega
    rw [this] at h; exact h

theorem span_s (s : ByteArray) (hs : s.size ≤ reachBytes) (p : Nat) (hp : p ≤ s.size) (k : Int → Int → Bool → Prop)
    (h : ∀ minus fr, minus = (decide (p < (ofBytes s).length) && ((ofBytes s).getD p 0 == 45)) → fr = p + minus.toNat → k (fr : Int) ((fr + run ((ofBytes s).drop fr) : Nat) : Int) minus) : N62.f s (p : Int) k := by
  have hr : reachBytes < 2 ^ 47 := reachBytes_lt
  have hl := ofBytes_length s
  rw [N62.f_def]
  unfold N62.f0 N62.c
  have tail : ∀ minus fr, minus = (decide (p < (ofBytes s).length) && ((ofBytes s).getD p 0 == 45)) → fr = p + minus.toNat → fr ≤ s.size → N62.j5' s (fr : Int) minus k := by
    intro minus fr hm hf hfs
    have hk := h minus fr hm hf
    unfold N62.j5' N62.j5 N62.l6'
    have hrl := run_le ((ofBytes s).drop fr)
    rw [List.length_drop, hl] at hrl
    refine loopS_of (fun x : Int => ∃ j : Nat, x = ((fr + j : Nat) : Int) ∧ j ≤ run ((ofBytes s).drop fr)) (fun x => (s.size - x).toNat) ?_ ⟨0, rfl, Nat.zero_le _⟩
    rintro again x ⟨j, rfl, hj⟩ hag
    unfold N62.l6 N62.j10' N62.j10
    dsimp only
    refine br_of (fun hlt => ?_) (fun hge => ?_)
    · have hlt : fr + j < s.size := by simp at hlt; omega
      refine ⟨⟨by omega, by omega, by omega⟩, digit_s _ ?_ _ ?_⟩
      · rw [byteAt_eq]; exact getD_isB _ _
      · rw [byteAt_eq]
        have ew : IntKind.i64.wrap (((fr + j : Nat) : Int) + 1) = ((fr + (j + 1) : Nat) : Int) := by rw [wrap_id (by omega) (by omega)]; omega
        rw [ew]
        simp only [br_not, br_dec]
        split
        · rename_i hd
          refine hag _ ⟨j + 1, rfl, ?_⟩ (by omega)
          rcases Nat.lt_or_ge j (run ((ofBytes s).drop fr)) with hh | hh
          · omega
          · exact absurd hd (run_step (by omega) (by omega))
        · rename_i hd
          have : j = run ((ofBytes s).drop fr) := by
            rcases Nat.lt_or_ge j (run ((ofBytes s).drop fr)) with hh | hh
            · exact absurd (runIn hh) hd
            · omega
          rw [this]; exact hk
    · have hge : ¬ fr + j < s.size := by simp at hge; omega
      have : j = run ((ofBytes s).drop fr) := by omega
      rw [this]; exact hk
  unfold N62.j2000003' N62.j2000003
  refine br_of (fun hlt => ?_) (fun hge => ?_)
  · have hlt : p < s.size := by simp at hlt; omega
    refine ⟨⟨by omega, by omega, by omega⟩, ?_⟩
    rw [byteAt_eq]
    have ew : IntKind.i64.wrap ((p : Int) + 1) = ((p + 1 : Nat) : Int) := by rw [wrap_id (by omega) (by omega)]; omega
    refine br_of (fun h45 => ?_) (fun h45 => ?_)
    · rw [ew]
      exact tail true (p + 1) (by rw [h45, hl]; simp [hlt]) rfl (by omega)
    · exact tail false p (by rw [h45]; simp) rfl hp
  · have hge : ¬ p < s.size := by simp at hge; omega
    exact tail false p (by rw [hl]; simp [hge]) rfl hp

theorem value_s (s : ByteArray) (hs : s.size ≤ reachBytes) (hd : ∀ x ∈ ofBytes s, isD x) (minus : Bool) (k : Int → Bool → Prop)
    (h : if val (ofBytes s) > 2 ^ 63 then k 0 false else if minus = true then k (-(val (ofBytes s) : Int)) true else k (w64 (val (ofBytes s))) (decide (val (ofBytes s) < 2 ^ 63))) : N63.f s minus k := by
  have hr : reachBytes < 2 ^ 47 := reachBytes_lt
  have hl := ofBytes_length s
  rw [N63.f_def]
  unfold N63.f0 N63.c N63.l3'
  refine loopS_of (fun x : Int × Int => ∃ i : Nat, x.2 = i ∧ i ≤ s.size ∧ x.1 = -(val ((ofBytes s).take i) : Int) ∧ val ((ofBytes s).take i) ≤ 2 ^ 63) (fun x => (s.size - x.2).toNat) ?_ ⟨0, rfl, Nat.zero_le _, rfl, by show val [] ≤ _; decide⟩
  rintro again ⟨x, j⟩ ⟨i, rfl, hi, rfl, hv⟩ hag
  simp only at hag hv ⊢
  unfold N63.l3 N63.j10' N63.j10
  dsimp only
  refine br_of (fun hlt => ?_) (fun hge => ?_)
  · have hlt : i < s.size := by simp at hlt; omega
    have hD : isD ((ofBytes s).getD i 0) := by
      have hi2 : i < (ofBytes s).length := by omega
      simp only [List.getD, List.getElem?_eq_getElem hi2, Option.getD_some]
      exact hd _ (List.getElem_mem hi2)
    have hv2 := val_take_succ (by omega : i < (ofBytes s).length)
    have hv3 := val_take (ofBytes s) (i + 1)
    rw [byteAt_eq]
    refine ⟨⟨by omega, by omega, by omega⟩, digit_s _ (getD_isB _ _) _ ⟨by decide, ?_⟩⟩
    obtain ⟨d1, d2⟩ := hD
    generalize (ofBytes s).getD i 0 = c at *
    generalize hV : val ((ofBytes s).take i) = V at *
    have e1 : IntKind.i64.wrap (Int.tdiv (IntKind.i64.wrap (-9223372036854775808 + (c - 48))) 10) = -(((9223372036854775808 - (c - 48)) / 10)) := by
      rw [wrap_id (n := -9223372036854775808 + (c - 48)) (by omega) (by omega), tdiv10, if_pos (by omega), wrap_id (by omega) (by omega)]
      omega
    rw [e1]
    refine br_of (fun hov => ?_) (fun hov => ?_)
    · have hov : -(V : Int) < -((9223372036854775808 - (c - 48)) / 10) := by simpa using hov
      rw [if_pos (by omega)] at h
      exact h
    · have hov : ¬ -(V : Int) < -((9223372036854775808 - (c - 48)) / 10) := by simpa using hov
      have e2 : IntKind.i64.wrap (IntKind.i64.wrap (-(V : Int) * 10) - (c - 48)) = -((10 * V + (c - 48).toNat : Nat) : Int) := by
        rw [wrap_id (n := -(V : Int) * 10) (by omega) (by omega), wrap_id (by omega) (by omega)]
        omega
      have e3 : IntKind.i64.wrap ((i : Int) + 1) = ((i + 1 : Nat) : Int) := by rw [wrap_id (by omega) (by omega)]; omega
      rw [e2, e3]
      exact hag _ ⟨i + 1, rfl, by omega, by rw [hv2], by rw [hv2]; omega⟩ (by simp; omega)
  · have hge : i = s.size := by simp at hge; omega
    subst hge
    rw [List.take_of_length_le (by omega)] at hv ⊢
    rw [if_neg (by omega)] at h
    generalize val (ofBytes s) = V at *
    cases minus with
    | true => simpa using h
    | false =>
      simp only [br_false]
      have e1 : decide (-(V : Int) ≥ -9223372036854775807) = decide (V < 2 ^ 63) := by rw [Bool.eq_iff_iff]; simp; omega
      have e2 : (0 - -(V : Int)) = (V : Int) := by omega
      rw [e1, e2]
      simpa using h

theorem scan_s (s : ByteArray) (hs : s.size ≤ reachBytes) (at_ : Int) (k : Int → Int → Int → Prop) (h : k (scanI (ofBytes s) at_).1 (scanI (ofBytes s) at_).2.1 (scanI (ofBytes s) at_).2.2) : N39.f s at_ k := by
  have hr : reachBytes < 2 ^ 47 := reachBytes_lt
  have hl := ofBytes_length s
  rw [N39.f_def]
  unfold N39.f0 N39.c N39.j2000002' N39.j2000002 N39.j3' N39.j3 N39.j2000006' N39.j2000006 N39.j7' N39.j7
  dsimp only
  unfold scanI at h
  dsimp only at h
  rw [hl] at h
  by_cases hout : at_ < 0 ∨ at_ > (s.size : Int)
  · rw [if_pos hout] at h
    refine br_of (fun h1 => h) (fun h1 => ?_)
    have h1 : ¬ at_ < 0 := by simpa using h1
    have : decide (at_ > (s.size : Int)) = true := by simp; omega
    rw [this]; exact h
  · rw [if_neg hout] at h
    have e1 : decide (at_ < 0) = false := by simp; omega
    have e2 : decide (at_ > (s.size : Int)) = false := by simp; omega
    rw [e1, e2]
    simp only [br_false]
    obtain ⟨p, rfl⟩ : ∃ p : Nat, at_ = p := ⟨at_.toNat, by omega⟩
    rw [Int.toNat_natCast] at h
    refine span_s s hs p (by omega) _ ?_
    intro minus fr hm hf
    rw [hl] at hm
    rw [← hm, ← hf] at h
    have hfr : fr ≤ s.size := by
      cases minus with
      | false => simp at hf; omega
      | true =>
        have : p < s.size := by
          by_cases hh : p < s.size
          · exact hh
          · simp [hh] at hm
        simp at hf; omega
    have hrl := run_le ((ofBytes s).drop fr)
    rw [List.length_drop, hl] at hrl
    generalize hR : run ((ofBytes s).drop fr) = r at *
    rw [byteAt_eq]
    have eqr : ((((fr + r : Nat) : Int)) == (fr : Int)) = decide (r = 0) := by rw [Bool.eq_iff_iff]; simp; omega
    rw [eqr]
    -- what comes of the digits
    have good : ¬ (r = 0 ∨ ((ofBytes s).getD fr 0 = 48 ∧ (1 < r ∨ minus = true))) → ((inB (fr : Int) ((fr + r : Nat) : Int) (((s).size : Nat) : Int)) ∧ (N63.f (ByteArray.extract s (Int.toNat (fr : Int)) (Int.toNat ((fr + r : Nat) : Int))) minus (fun (y0_1 : Int) (y1_1 : Bool) => (br (!y1_1) (k (0 : Int) (0 : Int) (2 : Int)) (k y0_1 ((fr + r : Nat) : Int) (0 : Int)))))) := by
      intro hg
      rw [if_neg hg] at h
      refine ⟨⟨by omega, by omega, by omega⟩, ?_⟩
      rw [Int.toNat_natCast, Int.toNat_natCast]
      have hex : ofBytes (s.extract fr (fr + r)) = ((ofBytes s).drop fr).take r := by
        rw [ofBytes_extract, List.drop_take]; congr 1; omega
      have hsz : (s.extract fr (fr + r)).size ≤ reachBytes := by rw [ByteArray.size_extract]; omega
      refine value_s _ hsz ?_ _ _ ?_
      · rw [hex, ← hR]; exact run_isD _
      · rw [hex]
        generalize val (((ofBytes s).drop fr).take r) = V at *
        by_cases h1 : V > 2 ^ 63
        · rw [if_pos h1]
          rw [if_pos (.inl h1)] at h
          exact h
        · rw [if_neg h1]
          cases minus with
          | true =>
            rw [if_neg (by simp; omega)] at h
            simpa using h
          | false =>
            simp only [Bool.false_eq_true, if_false]
            by_cases h2 : V < 2 ^ 63
            · rw [if_neg (by simp; omega)] at h
              have : decide (V < 2 ^ 63) = true := by simpa using h2
              rw [this, w64_id ⟨by omega, by omega⟩]
              simpa using h
            · have : decide (V < 2 ^ 63) = false := by simpa using h2
              rw [if_pos (.inr ⟨by omega, rfl⟩)] at h
              rw [this]; exact h
    by_cases hr0 : r = 0
    · rw [if_pos (.inl hr0)] at h
      have : decide (r = 0) = true := by simpa using hr0
      rw [this]; exact h
    · have : decide (r = 0) = false := by simpa using hr0
      rw [this]
      simp only [br_false]
      refine ⟨⟨by omega, by omega, by omega⟩, ?_⟩
      have ew : IntKind.i64.wrap ((fr : Int) + 1) = (fr : Int) + 1 := wrap_id (by omega) (by omega)
      rw [ew]
      simp only [br_beq, br_dec]
      split
      · rename_i h48
        split
        · rename_i h1
          rw [if_pos (.inr ⟨h48, .inl (by omega)⟩)] at h
          exact h
        · rename_i h1
          refine br_of (fun hmt => ?_) (fun hmt => ?_)
          · rw [if_pos (.inr ⟨h48, .inr hmt⟩)] at h
            exact h
          · exact good (by rintro (h3 | ⟨_, h3 | h3⟩) <;> first | omega | (rw [hmt] at h3; cases h3))
      · rename_i h48
        exact good (by rintro (h3 | ⟨h3, _⟩) <;> first | omega | exact h48 h3)

theorem get_s (s : ByteArray) (hs : s.size ≤ reachBytes) (k : Int → Int → Prop) (h : k (getI (ofBytes s)).1 (getI (ofBytes s)).2) : N41.f s k := by
  rw [N41.f_def]
  unfold N41.f0 N41.c
  refine scan_s s hs 0 _ ?_
  unfold getI at h
  rw [ofBytes_length] at h
  simp only [br_bne, br_dec]
  split
  · rename_i h0
    rw [if_neg (by simpa using h0)] at h
    split
    · rename_i h1
      rw [if_pos h1] at h; exact h
    · rename_i h1
      rw [if_neg h1] at h; exact h
  · rename_i h0
    rw [if_pos h0] at h; exact h
end Go.Proofs.Yt
namespace Go.Proofs.Yt
open Go Go.Aw Go.Proofs Go.RowKit
set_option linter.unusedVariables false
set_option linter.unusedSimpArgs false

theorem scanr_s (s : ByteArray) (hs : s.size ≤ reachBytes) (at_ : Int) (k : Int → Int → Int → Prop) (h : k (scanI (ofBytes s) at_).1 (scanI (ofBytes s) at_).2.1 (scanI (ofBytes s) at_).2.2) : N40.f s at_ k := by
  have hr : reachBytes < 2 ^ 47 := reachBytes_lt
  have hl := ofBytes_length s
  rw [N40.f_def]
  unfold N40.f0 N40.c N40.j2000002' N40.j2000002
  dsimp only
  unfold scanI at h
  dsimp only at h
  rw [hl] at h
  by_cases hout : at_ < 0 ∨ at_ > (s.size : Int)
  · rw [if_pos hout] at h
    refine br_of (fun h1 => h) (fun h1 => ?_)
    have h1 : ¬ at_ < 0 := by simpa using h1
    have : decide (at_ > (s.size : Int)) = true := by simp; omega
    rw [this]; exact h
  · rw [if_neg hout] at h
    have e1 : decide (at_ < 0) = false := by simp; omega
    have e2 : decide (at_ > (s.size : Int)) = false := by simp; omega
    rw [e1, e2]
    simp only [br_false]
    obtain ⟨p, rfl⟩ : ∃ p : Nat, at_ = p := ⟨at_.toNat, by omega⟩
    rw [Int.toNat_natCast] at h
    -- from the first digit on
    have tail : ∀ minus fr, minus = (decide (p < (ofBytes s).length) && ((ofBytes s).getD p 0 == 45)) → fr = p + minus.toNat → N40.j7' s (fr : Int) minus k := by
      intro minus fr hm hf
      rw [hl] at hm
      rw [← hm, ← hf] at h
      have hfr : fr ≤ s.size := by
        cases minus with
        | false => simp at hf; omega
        | true =>
          have : p < s.size := by
            by_cases hh : p < s.size
            · exact hh
            · simp [hh] at hm
          simp at hf; omega
      have hrl := run_le ((ofBytes s).drop fr)
      rw [List.length_drop, hl] at hrl
      have hrs := @run_step (ofBytes s) fr
      have hri := @runIn (ofBytes s) fr
      have hrD := run_isD ((ofBytes s).drop fr)
      generalize hR : run ((ofBytes s).drop fr) = r at *
      unfold N40.j7' N40.j7
      -- behind the digits
      have fin : N40.j10' s (fr : Int) minus ((fr + r : Nat) : Int) k := by
        unfold N40.j10' N40.j10 N40.j2000011' N40.j2000011 N40.j12' N40.j12
        dsimp only
        have good : ¬ (r = 0 ∨ ((ofBytes s).getD fr 0 = 48 ∧ (1 < r ∨ minus = true))) → N40.l14' s minus ((fr + r : Nat) : Int) 0 (fr : Int) k := by
          intro hg
          rw [if_neg hg] at h
          generalize hL : (ofBytes s).drop fr = L at *
          have hLl : L.length = s.size - fr := by rw [← hL]; simp [hl]
          unfold N40.l14'
          refine loopS_of (fun x : Int × Int => ∃ i : Nat, x.2 = ((fr + i : Nat) : Int) ∧ i ≤ r ∧ x.1 = ((val (L.take i) : Nat) : Int) ∧ val (L.take i) < 2 ^ 64) (fun x => (((fr + r : Nat) : Int) - x.2).toNat) ?_ ⟨0, rfl, Nat.zero_le _, rfl, by show val [] < _; decide⟩
          rintro again ⟨u, x⟩ ⟨i, rfl, hi, rfl, hv⟩ hag
          simp only at hag hv ⊢
          unfold N40.l14 N40.j20' N40.j20 N40.j2000021' N40.j2000021 N40.j22' N40.j22
          dsimp only
          refine br_of (fun hlt => ?_) (fun hge => ?_)
          · have hlt : i < r := by simp at hlt; omega
            have hget : (ofBytes s).getD (fr + i) 0 = L.getD i 0 := by rw [← hL]; simp [List.getD, List.getElem?_drop]
            have hD : isD (L.getD i 0) := by rw [← hget]; exact hri hlt
            rw [byteAt_eq, hget]
            have hv2 := val_take_succ (by omega : i < L.length)
            have hv3 : val (L.take (i + 1)) ≤ val (L.take r) := by
              have := val_take (L.take r) (i + 1)
              rwa [List.take_take, Nat.min_eq_left (by omega)] at this
            obtain ⟨d1, d2⟩ := hD
            generalize L.getD i 0 = c at *
            generalize hV : val (L.take i) = V at *
            have ed : IntKind.u64.wrap (IntKind.u8.wrap (c - 48)) = c - 48 := by rw [wu8_eq, wu64_eq]; omega
            rw [ed]
            have e1 : IntKind.u64.wrap (Int.tdiv (IntKind.u64.wrap (18446744073709551615 - (c - 48))) 10) = (18446744073709551615 - (c - 48)) / 10 := by
              rw [wu64_id' (n := 18446744073709551615 - (c - 48)) (by omega) (by omega), Int.tdiv_eq_ediv_of_nonneg (by omega), wu64_id' (by omega) (by omega)]
            rw [e1]
            refine ⟨⟨by omega, by omega, by omega⟩, by decide, br_of (fun hov => ?_) (fun hov => ?_)⟩
            · have hov : (V : Int) > (18446744073709551615 - (c - 48)) / 10 := by simpa using hov
              rw [if_pos (.inl (by omega))] at h
              exact h
            · have hov : ¬ (V : Int) > (18446744073709551615 - (c - 48)) / 10 := by simpa using hov
              have e2 : IntKind.u64.wrap (IntKind.u64.wrap (10 * (V : Int)) + (c - 48)) = ((10 * V + (c - 48).toNat : Nat) : Int) := by
                rw [wu64_id' (n := 10 * (V : Int)) (by omega) (by omega), wu64_id' (by omega) (by omega)]; omega
              have e3 : IntKind.i64.wrap (((fr + i : Nat) : Int) + 1) = ((fr + (i + 1) : Nat) : Int) := by rw [wrap_id (by omega) (by omega)]; omega
              rw [e2, e3]
              exact hag _ ⟨i + 1, rfl, by omega, by rw [hv2], by rw [hv2]; omega⟩ (by simp; omega)
          · have hge : i = r := by simp at hge; omega
            subst hge
            generalize hV : val (L.take i) = V at *
            by_cases h1 : V > 2 ^ 63
            · have : decide ((V : Int) > 9223372036854775808) = true := by simp; omega
              rw [this]
              rw [if_pos (.inl h1)] at h
              exact h
            · have : decide ((V : Int) > 9223372036854775808) = false := by simp; omega
              rw [this]
              simp only [br_false, br_beq]
              by_cases h2 : V = 2 ^ 63
              · rw [if_pos (by omega)]
                cases minus with
                | false => rw [if_pos (.inr ⟨h2, rfl⟩)] at h; exact h
                | true =>
                  rw [if_neg (by simp; omega)] at h
                  have : IntKind.i64.wrap (IntKind.u64.wrap (0 - (V : Int))) = -(V : Int) := by subst h2; decide
                  simp only [Bool.not_true, br_false, br_true]
                  rw [this]
                  simpa using h
              · rw [if_neg (by omega)]
                rw [if_neg (by rintro (h3 | ⟨h3, _⟩) <;> omega)] at h
                cases minus with
                | false =>
                  simp only [br_false]
                  rw [wrap_id (by omega) (by omega)]
                  simpa using h
                | true =>
                  simp only [br_true]
                  have : IntKind.i64.wrap (IntKind.u64.wrap (0 - (V : Int))) = -(V : Int) := by
                    show w64 _ = _
                    rw [wu64_eq, w64_eq]
                    have := @Int.emod_bmod (0 - (V : Int)) (2 ^ 64)
                    have e : ((0 - (V : Int)) % 2 ^ 64).bmod (2 ^ 64) = (0 - (V : Int)).bmod (2 ^ 64) := by exact_mod_cast this
                    rw [e, ← w64_eq, w64_id ⟨by omega, by omega⟩]; omega
                  rw [this]
                  simpa using h
        rw [byteAt_eq]
        have eqr : ((((fr + r : Nat) : Int)) == (fr : Int)) = decide (r = 0) := by rw [Bool.eq_iff_iff]; simp; omega
        rw [eqr]
        by_cases hr0 : r = 0
        · rw [if_pos (.inl hr0)] at h
          have : decide (r = 0) = true := by simpa using hr0
          rw [this]; exact h
        · have : decide (r = 0) = false := by simpa using hr0
          rw [this]
          simp only [br_false]
          have hinb : inB 0 (fr : Int) ((s.size : Int) - 1) := ⟨by omega, by omega, by omega⟩
          refine ⟨hinb, ?_⟩
          have ew : IntKind.i64.wrap ((fr : Int) + 1) = (fr : Int) + 1 := wrap_id (by omega) (by omega)
          rw [ew]
          simp only [br_beq, br_dec]
          by_cases h48 : (ofBytes s).getD fr 0 = 48
          · rw [if_pos h48]
            split
            · rename_i h1
              rw [if_pos (.inr ⟨h48, .inl (by omega)⟩)] at h
              exact h
            · rename_i h1
              refine ⟨hinb, ?_⟩
              try rw [if_pos h48]
              refine br_of (fun hmt => ?_) (fun hmt => ?_)
              · rw [if_pos (.inr ⟨h48, .inr hmt⟩)] at h
                exact h
              · exact good (by rintro (h3 | ⟨_, h3 | h3⟩) <;> first | omega | (rw [hmt] at h3; cases h3))
          · rw [if_neg h48]
            refine ⟨hinb, ?_⟩
            try rw [if_neg h48]
            exact good (by rintro (h3 | ⟨h3, _⟩) <;> first | omega | exact h48 h3)
      unfold N40.l8'
      refine loopS_of (fun x : Int => ∃ j : Nat, x = ((fr + j : Nat) : Int) ∧ j ≤ r) (fun x => (s.size - x).toNat) ?_ ⟨0, rfl, Nat.zero_le _⟩
      rintro again x ⟨j, rfl, hj⟩ hag
      unfold N40.l8 N40.j9' N40.j9
      dsimp only
      have stop : (fr + j < s.size → ¬ isD ((ofBytes s).getD (fr + j) 0)) → N40.j10' s (fr : Int) minus ((fr + j : Nat) : Int) k := by
        intro hn
        have : j = r := by
          rcases Nat.lt_or_ge j r with hh | hh
          · exact absurd (hri hh) (hn (by omega))
          · omega
        rw [this]; exact fin
      refine br_of (fun hlt => ?_) (fun hge => stop (fun hh => by simp at hge; omega))
      have hlt : fr + j < s.size := by simp at hlt; omega
      have hinb : inB 0 ((fr + j : Nat) : Int) ((s.size : Int) - 1) := ⟨by omega, by omega, by omega⟩
      refine ⟨hinb, ?_⟩
      rw [byteAt_eq]
      refine br_of (fun h1 => ⟨hinb, br_of (fun h2 => ?_) (fun h2 => stop (fun _ hd => ?_))⟩) (fun h1 => stop (fun _ hd => ?_))
      · have h1 : (ofBytes s).getD (fr + j) 0 ≥ 48 := by simpa using h1
        have h2 : (ofBytes s).getD (fr + j) 0 ≤ 57 := by simpa using h2
        have ew : IntKind.i64.wrap (((fr + j : Nat) : Int) + 1) = ((fr + (j + 1) : Nat) : Int) := by rw [wrap_id (by omega) (by omega)]; omega
        rw [ew]
        refine hag _ ⟨j + 1, rfl, ?_⟩ (by omega)
        rcases Nat.lt_or_ge j r with hh | hh
        · omega
        · have : j = r := by omega
          subst this
          exact absurd ⟨h1, h2⟩ (hrs rfl (by omega))
      · have h2 : ¬ (ofBytes s).getD (fr + j) 0 ≤ 57 := by simpa using h2
        exact h2 hd.2
      · have h1 : ¬ (ofBytes s).getD (fr + j) 0 ≥ 48 := by simpa using h1
        exact h1 hd.1
    unfold N40.j3' N40.j3 N40.j5' N40.j5
    dsimp only
    refine br_of (fun hlt => ?_) (fun hge => ?_)
    · have hlt : p < s.size := by simp at hlt; omega
      refine ⟨⟨by omega, by omega, by omega⟩, ?_⟩
      rw [byteAt_eq]
      have ew : IntKind.i64.wrap ((p : Int) + 1) = ((p + 1 : Nat) : Int) := by rw [wrap_id (by omega) (by omega)]; omega
      refine br_of (fun h45 => ?_) (fun h45 => ?_)
      · rw [ew, h45]
        exact tail true (p + 1) (by rw [h45, hl]; simp [hlt]) rfl
      · rw [h45]
        exact tail false p (by rw [h45]; simp) rfl
    · have hge : ¬ p < s.size := by simp at hge; omega
      exact tail false p (by rw [hl]; simp [hge]) rfl

theorem nought_aux {c1 c2 c3 : Prop} [Decidable c1] [Decidable c2] [Decidable c3] {x y : Int} (h : (if c1 then ((0 : Int), (0 : Int), (1 : Int)) else if c2 then (0, 0, 12) else if c3 then (0, 0, 2) else (x, y, 0)).2.2 ≠ 0) :
    (if c1 then ((0 : Int), (0 : Int), (1 : Int)) else if c2 then (0, 0, 12) else if c3 then (0, 0, 2) else (x, y, 0)).1 = 0 := by
  by_cases h1 : c1 <;> by_cases h2 : c2 <;> by_cases h3 : c3 <;> simp_all
theorem scan_nought {l : List Int} {a : Int} (h : (scanI l a).2.2 ≠ 0) : (scanI l a).1 = 0 := by
  unfold scanI at *
  exact nought_aux h

theorem getr_s (s : ByteArray) (hs : s.size ≤ reachBytes) (k : Int → Int → Prop) (h : k (getI (ofBytes s)).1 (getI (ofBytes s)).2) : N42.f s k := by
  rw [N42.f_def]
  unfold N42.f0 N42.c N42.j2000003' N42.j2000003 N42.j4' N42.j4
  dsimp only
  refine scanr_s s hs 0 _ ?_
  unfold getI at h
  rw [ofBytes_length] at h
  simp only [br_beq]
  by_cases h0 : (scanI (ofBytes s) 0).2.2 = 0
  · rw [if_pos h0]
    rw [if_neg (by simpa using h0)] at h
    simp only [br_dec]
    split
    · rename_i h1
      rw [if_pos h1] at h; exact h
    · rename_i h1
      rw [if_neg h1] at h
      rw [h0]; exact h
  · rw [if_neg h0]
    rw [if_pos h0] at h
    simp only [br_false]
    rw [scan_nought h0]; exact h

theorem worksD_s (k : Bool → Prop) (h : k true) : N33.f k := by
  rw [N33.f_def]
  unfold N33.f0 N33.c
  refine get_s _ (by decide) _ (scan_s _ (by decide) _ _ (get_s _ (by decide) _ (put_s _ ⟨by decide, by decide⟩ _ ?_)))
  have e1 : beqS (bytesOf (putL (-9223372036854775808))) (ByteArray.mk #[45, 57, 50, 50, 51, 51, 55, 50, 48, 51, 54, 56, 53, 52, 55, 55, 53, 56, 48, 56]) = true := by decide +kernel
  rw [e1]
  simp only [br_true]
  refine pad_s _ _ ⟨by decide, by decide⟩ ⟨by decide, by decide⟩ (by decide) _ ?_
  have e2 : beqS (bytesOf (List.replicate ((3 : Int) - ((putL 5).length : Int)).toNat 32 ++ putL 5)) (ByteArray.mk #[32, 32, 53]) = true := by decide +kernel
  rw [e2]
  simp only [br_true]
  refine long_s _ ⟨by decide, by decide⟩ _ ?_
  have e3 : (((putL (-10)).length : Int) == 3) = true := by decide +kernel
  have e4 : getI (ofBytes (ByteArray.mk #[45, 52, 50])) = (-42, 0) := by decide +kernel
  have e5 : scanI (ofBytes (ByteArray.mk #[97, 55, 98])) 1 = (7, 2, 0) := by decide +kernel
  have e6 : getI (ofBytes (ByteArray.mk #[48, 48, 55])) = (0, 12) := by decide +kernel
  rw [e3, e4, e5, e6]
  exact h
end Go.Proofs.Yt
namespace Go.Proofs.Yt
open Go Go.Aw Go.Proofs
set_option linter.unusedVariables false
set_option linter.unusedSimpArgs false
set_option maxRecDepth 100000
/-! dyehouse/dyehouselaw02.DeciBack -/
namespace N13
noncomputable def cfg : Cfg := { P := Try.prog, ty := tys, E := tab [(33, N33.ent), (34, N34.ent), (39, N39.ent), (41, N41.ent)], atSeq := tab [(2000002, ⟨[(0, .keep), (1, .keep), (2, .keep), (35, .keep)]⟩), (3, ⟨[(0, .keep), (1, .keep), (2, .keep)]⟩), (2000007, ⟨[(0, .keep), (1, .keep), (7, .keep), (8, .keep), (9, .keep), (10, .keep), (63, .keep)]⟩), (8, ⟨[(0, .keep), (1, .keep), (7, .keep), (8, .keep), (9, .keep), (10, .keep)]⟩)], atLoop := tab [], outs := [] }
noncomputable def body : Code := bodyOf Try.f13
def j2000002 (j3 : Int → ByteArray → ByteArray → Prop) (x0 : Int) (x1 : ByteArray) (x2 : ByteArray) (x35 : Bool) (k : Bool → Prop) : Prop :=
  (br x35 (N33.f (fun (y0_0 : Bool) => (k y0_0))) (j3 x0 x1 x2))
def j3 (j2000007 : Int → ByteArray → ByteArray → Int → Int → Int → Bool → Prop) (x0 : Int) (x1 : ByteArray) (x2 : ByteArray) (k : Bool → Prop) : Prop :=
  (N34.f x0 (fun (y0_1 : ByteArray) => (((x1).size + (y0_1).size ≤ 9223372036854775807) ∧ ((((x1 ++ y0_1)).size + (x2).size ≤ 9223372036854775807) ∧ (N39.f ((x1 ++ y0_1) ++ x2) ((((x1).size : Nat) : Int)) (fun (y0_2 : Int) (y1_2 : Int) (y2_2 : Int) => (N41.f x2 (fun (y0_3 : Int) (y1_3 : Int) => (br (y1_3 == (0 : Int)) (N34.f y0_3 (fun (y0_4 : ByteArray) => (j2000007 x0 x1 y0_1 y0_2 y1_2 y2_2 (!(beqS y0_4 x2))))) (j2000007 x0 x1 y0_1 y0_2 y1_2 y2_2 false))))))))))
def j2000007 (j8 : Int → ByteArray → ByteArray → Int → Int → Int → Prop) (x0 : Int) (x1 : ByteArray) (x7 : ByteArray) (x8 : Int) (x9 : Int) (x10 : Int) (x63 : Bool) (k : Bool → Prop) : Prop :=
  (br x63 (k false) (j8 x0 x1 x7 x8 x9 x10))
def j8 (x0 : Int) (x1 : ByteArray) (x7 : ByteArray) (x8 : Int) (x9 : Int) (x10 : Int) (k : Bool → Prop) : Prop :=
  (br (x8 == x0) (br (x10 == (0 : Int)) (br (x9 == (IntKind.i64.wrap (((((x1).size : Nat) : Int)) + ((((x7).size : Nat) : Int))))) (N33.f (fun (y0_5 : Bool) => (k y0_5))) (k false)) (k false)) (k false))
def c (j2000002 : Int → ByteArray → ByteArray → Bool → Prop) (x0 : Int) (x1 : ByteArray) (x2 : ByteArray) (k : Bool → Prop) : Prop :=
  (br (decide (((((x1).size : Nat) : Int)) > (100 : Int))) (j2000002 x0 x1 x2 true) (br (decide (((((x2).size : Nat) : Int)) > (100 : Int))) (j2000002 x0 x1 x2 true) (br (decide (((((x2).size : Nat) : Int)) > (0 : Int))) ((inB 0 (0 : Int) ((((x2).size : Nat) : Int) - 1)) ∧ (br (decide ((byteAt x2 (0 : Int)) ≥ (48 : Int))) ((inB 0 (0 : Int) ((((x2).size : Nat) : Int) - 1)) ∧ (j2000002 x0 x1 x2 (decide ((byteAt x2 (0 : Int)) ≤ (57 : Int))))) (j2000002 x0 x1 x2 false))) (j2000002 x0 x1 x2 false))))
def j8' (x0 : Int) (x1 : ByteArray) (x7 : ByteArray) (x8 : Int) (x9 : Int) (x10 : Int) (k : Bool → Prop) : Prop := j8 x0 x1 x7 x8 x9 x10 k
def j2000007' (x0 : Int) (x1 : ByteArray) (x7 : ByteArray) (x8 : Int) (x9 : Int) (x10 : Int) (x63 : Bool) (k : Bool → Prop) : Prop := j2000007 (fun x0 x1 x7 x8 x9 x10 => j8' x0 x1 x7 x8 x9 x10 k) x0 x1 x7 x8 x9 x10 x63 k
def j3' (x0 : Int) (x1 : ByteArray) (x2 : ByteArray) (k : Bool → Prop) : Prop := j3 (fun x0 x1 x7 x8 x9 x10 x63 => j2000007' x0 x1 x7 x8 x9 x10 x63 k) x0 x1 x2 k
def j2000002' (x0 : Int) (x1 : ByteArray) (x2 : ByteArray) (x35 : Bool) (k : Bool → Prop) : Prop := j2000002 (fun x0 x1 x2 => j3' x0 x1 x2 k) x0 x1 x2 x35 k
def f0 (x0 : Int) (x1 : ByteArray) (x2 : ByteArray) (k : Bool → Prop) : Prop := c (fun x0 x1 x2 x35 => j2000002' x0 x1 x2 x35 k) x0 x1 x2 k
theorem f_ex : ∃ g : Int → ByteArray → ByteArray → (Bool → Prop) → Prop, g = f0 := ⟨_, rfl⟩
noncomputable def f : Int → ByteArray → ByteArray → (Bool → Prop) → Prop := Classical.choose f_ex
theorem f_def : f = f0 := Classical.choose_spec f_ex
def m2000002 (x0 : Int) (x1 : ByteArray) (x2 : ByteArray) (x35 : Bool) : St := { tmps := mkT 83 0 [(0, (.v (.int IntKind.i64 x0))), (1, (.v (.string x1))), (2, (.v (.string x2))), (35, (.v (.bool x35)))], hp := [], m := 0 }
def m3 (x0 : Int) (x1 : ByteArray) (x2 : ByteArray) : St := { tmps := mkT 83 0 [(0, (.v (.int IntKind.i64 x0))), (1, (.v (.string x1))), (2, (.v (.string x2)))], hp := [], m := 0 }
def m2000007 (x0 : Int) (x1 : ByteArray) (x7 : ByteArray) (x8 : Int) (x9 : Int) (x10 : Int) (x63 : Bool) : St := { tmps := mkT 83 0 [(0, (.v (.int IntKind.i64 x0))), (1, (.v (.string x1))), (7, (.v (.string x7))), (8, (.v (.int IntKind.i64 x8))), (9, (.v (.int IntKind.i64 x9))), (10, (.v (.int IntKind.i64 x10))), (63, (.v (.bool x63)))], hp := [], m := 0 }
def m8 (x0 : Int) (x1 : ByteArray) (x7 : ByteArray) (x8 : Int) (x9 : Int) (x10 : Int) : St := { tmps := mkT 83 0 [(0, (.v (.int IntKind.i64 x0))), (1, (.v (.string x1))), (7, (.v (.string x7))), (8, (.v (.int IntKind.i64 x8))), (9, (.v (.int IntKind.i64 x9))), (10, (.v (.int IntKind.i64 x10)))], hp := [], m := 0 }
noncomputable def X2000002 (k kp : D → List Blk → Prop) : St → Prop := atP cfg (pick none' []) [1, 0, 1] body (topK cfg Try.f13 k kp)
noncomputable def X3 (k kp : D → List Blk → Prop) : St → Prop := atP cfg (pick none' []) [1, 1] body (topK cfg Try.f13 k kp)
noncomputable def X2000007 (k kp : D → List Blk → Prop) : St → Prop := atP cfg (pick none' []) [1, 1, 1, 1, 1, 0, 1] body (topK cfg Try.f13 k kp)
noncomputable def X8 (k kp : D → List Blk → Prop) : St → Prop := atP cfg (pick none' []) [1, 1, 1, 1, 1, 1] body (topK cfg Try.f13 k kp)
noncomputable def JJ (k kp : D → List Blk → Prop) : Nat → St → Prop := pick none' [(2000002, X2000002 k kp), (3, X3 k kp), (2000007, X2000007 k kp), (8, X8 k kp)]
noncomputable def LL (k kp : D → List Blk → Prop) : Nat → St → Prop := pick none' []
theorem j8_c (k kp : D → List Blk → Prop) (J L : Nat → St → Prop) (x0 : Int) (x1 : ByteArray) (x7 : ByteArray) (x8 : Int) (x9 : Int) (x10 : Int) : runC cfg 8 J L (pick none' []) [1, 1, 1, 1, 1, 1] body (topK cfg Try.f13 k kp) (m8 x0 x1 x7 x8 x9 x10) = j8 x0 x1 x7 x8 x9 x10 (fun y0 => k (.v (.bool y0)) []) := by kernel_rfl
theorem j8_ag (k kp : D → List Blk → Prop) : agPL cfg 8 (JJ k kp) (LL k kp) [1, 1, 1, 1, 1, 1] body = agPR cfg 8 (pick none' []) [1, 1, 1, 1, 1, 1] body (topK cfg Try.f13 k kp) := by kernel_rfl
theorem j8_raw (k kp : D → List Blk → Prop) (x0 : Int) (x1 : ByteArray) (x7 : ByteArray) (x8 : Int) (x9 : Int) (x10 : Int) : X8 k kp (m8 x0 x1 x7 x8 x9 x10) = j8 x0 x1 x7 x8 x9 x10 (fun y0 => k (.v (.bool y0)) []) :=
  Eq.mp (by kernel_rfl) ((atP_run (j8_ag k kp) (m8 x0 x1 x7 x8 x9 x10)).trans (j8_c k kp (JJ k kp) (LL k kp) x0 x1 x7 x8 x9 x10))
theorem j8_eq (k kp : D → List Blk → Prop) (x0 : Int) (x1 : ByteArray) (x7 : ByteArray) (x8 : Int) (x9 : Int) (x10 : Int) : X8 k kp (m8 x0 x1 x7 x8 x9 x10) = j8' x0 x1 x7 x8 x9 x10 (fun y0 => k (.v (.bool y0)) []) := by
  rw [j8_raw]; rfl
theorem j2000007_c (k kp : D → List Blk → Prop) (J L : Nat → St → Prop) (x0 : Int) (x1 : ByteArray) (x7 : ByteArray) (x8 : Int) (x9 : Int) (x10 : Int) (x63 : Bool) : runC cfg 2000007 J L (pick none' []) [1, 1, 1, 1, 1, 0, 1] body (topK cfg Try.f13 k kp) (m2000007 x0 x1 x7 x8 x9 x10 x63) = j2000007 (fun x0 x1 x7 x8 x9 x10 => J 8 (m8 x0 x1 x7 x8 x9 x10)) x0 x1 x7 x8 x9 x10 x63 (fun y0 => k (.v (.bool y0)) []) := by kernel_rfl
theorem j2000007_ag (k kp : D → List Blk → Prop) : agPL cfg 2000007 (JJ k kp) (LL k kp) [1, 1, 1, 1, 1, 0, 1] body = agPR cfg 2000007 (pick none' []) [1, 1, 1, 1, 1, 0, 1] body (topK cfg Try.f13 k kp) := by kernel_rfl
theorem j2000007_raw (k kp : D → List Blk → Prop) (x0 : Int) (x1 : ByteArray) (x7 : ByteArray) (x8 : Int) (x9 : Int) (x10 : Int) (x63 : Bool) : X2000007 k kp (m2000007 x0 x1 x7 x8 x9 x10 x63) = j2000007 (fun x0 x1 x7 x8 x9 x10 => X8 k kp (m8 x0 x1 x7 x8 x9 x10)) x0 x1 x7 x8 x9 x10 x63 (fun y0 => k (.v (.bool y0)) []) :=
  Eq.mp (by kernel_rfl) ((atP_run (j2000007_ag k kp) (m2000007 x0 x1 x7 x8 x9 x10 x63)).trans (j2000007_c k kp (JJ k kp) (LL k kp) x0 x1 x7 x8 x9 x10 x63))
theorem j2000007_eq (k kp : D → List Blk → Prop) (x0 : Int) (x1 : ByteArray) (x7 : ByteArray) (x8 : Int) (x9 : Int) (x10 : Int) (x63 : Bool) : X2000007 k kp (m2000007 x0 x1 x7 x8 x9 x10 x63) = j2000007' x0 x1 x7 x8 x9 x10 x63 (fun y0 => k (.v (.bool y0)) []) := by
  rw [j2000007_raw]; simp only [j8_eq]; first | done | rfl
theorem j3_c (k kp : D → List Blk → Prop) (J L : Nat → St → Prop) (x0 : Int) (x1 : ByteArray) (x2 : ByteArray) : runC cfg 3 J L (pick none' []) [1, 1] body (topK cfg Try.f13 k kp) (m3 x0 x1 x2) = j3 (fun x0 x1 x7 x8 x9 x10 x63 => J 2000007 (m2000007 x0 x1 x7 x8 x9 x10 x63)) x0 x1 x2 (fun y0 => k (.v (.bool y0)) []) := by kernel_rfl
theorem j3_ag (k kp : D → List Blk → Prop) : agPL cfg 3 (JJ k kp) (LL k kp) [1, 1] body = agPR cfg 3 (pick none' []) [1, 1] body (topK cfg Try.f13 k kp) := by kernel_rfl
theorem j3_raw (k kp : D → List Blk → Prop) (x0 : Int) (x1 : ByteArray) (x2 : ByteArray) : X3 k kp (m3 x0 x1 x2) = j3 (fun x0 x1 x7 x8 x9 x10 x63 => X2000007 k kp (m2000007 x0 x1 x7 x8 x9 x10 x63)) x0 x1 x2 (fun y0 => k (.v (.bool y0)) []) :=
  Eq.mp (by kernel_rfl) ((atP_run (j3_ag k kp) (m3 x0 x1 x2)).trans (j3_c k kp (JJ k kp) (LL k kp) x0 x1 x2))
theorem j3_eq (k kp : D → List Blk → Prop) (x0 : Int) (x1 : ByteArray) (x2 : ByteArray) : X3 k kp (m3 x0 x1 x2) = j3' x0 x1 x2 (fun y0 => k (.v (.bool y0)) []) := by
  rw [j3_raw]; simp only [j2000007_eq]; first | done | rfl
theorem j2000002_c (k kp : D → List Blk → Prop) (J L : Nat → St → Prop) (x0 : Int) (x1 : ByteArray) (x2 : ByteArray) (x35 : Bool) : runC cfg 2000002 J L (pick none' []) [1, 0, 1] body (topK cfg Try.f13 k kp) (m2000002 x0 x1 x2 x35) = j2000002 (fun x0 x1 x2 => J 3 (m3 x0 x1 x2)) x0 x1 x2 x35 (fun y0 => k (.v (.bool y0)) []) := by kernel_rfl
theorem j2000002_ag (k kp : D → List Blk → Prop) : agPL cfg 2000002 (JJ k kp) (LL k kp) [1, 0, 1] body = agPR cfg 2000002 (pick none' []) [1, 0, 1] body (topK cfg Try.f13 k kp) := by kernel_rfl
theorem j2000002_raw (k kp : D → List Blk → Prop) (x0 : Int) (x1 : ByteArray) (x2 : ByteArray) (x35 : Bool) : X2000002 k kp (m2000002 x0 x1 x2 x35) = j2000002 (fun x0 x1 x2 => X3 k kp (m3 x0 x1 x2)) x0 x1 x2 x35 (fun y0 => k (.v (.bool y0)) []) :=
  Eq.mp (by kernel_rfl) ((atP_run (j2000002_ag k kp) (m2000002 x0 x1 x2 x35)).trans (j2000002_c k kp (JJ k kp) (LL k kp) x0 x1 x2 x35))
theorem j2000002_eq (k kp : D → List Blk → Prop) (x0 : Int) (x1 : ByteArray) (x2 : ByteArray) (x35 : Bool) : X2000002 k kp (m2000002 x0 x1 x2 x35) = j2000002' x0 x1 x2 x35 (fun y0 => k (.v (.bool y0)) []) := by
  rw [j2000002_raw]; simp only [j3_eq]; first | done | rfl
theorem c_c (k kp : D → List Blk → Prop) (J L : Nat → St → Prop) (x0 : Int) (x1 : ByteArray) (x2 : ByteArray) : runC cfg 1000001 J L none'' [] body (topK cfg Try.f13 k kp) (st0 Try.f13 [(.v (.int IntKind.i64 x0)), (.v (.string x1)), (.v (.string x2))] []) = c (fun x0 x1 x2 x35 => J 2000002 (m2000002 x0 x1 x2 x35)) x0 x1 x2 (fun y0 => k (.v (.bool y0)) []) := by kernel_rfl
theorem c_ag (k kp : D → List Blk → Prop) : agPL cfg 1000001 (JJ k kp) (LL k kp) [] body = agPR cfg 1000001 none'' [] body (topK cfg Try.f13 k kp) := by kernel_rfl
theorem body_is : Try.f13.body = some body := by kernel_rfl
theorem c_raw (k kp : D → List Blk → Prop) (x0 : Int) (x1 : ByteArray) (x2 : ByteArray) : funW cfg Try.f13 [(.v (.int IntKind.i64 x0)), (.v (.string x1)), (.v (.string x2))] [] k kp = c (fun x0 x1 x2 x35 => X2000002 k kp (m2000002 x0 x1 x2 x35)) x0 x1 x2 (fun y0 => k (.v (.bool y0)) []) :=
  Eq.mp (by kernel_rfl) ((funW_run (AG := none'') body_is (c_ag k kp) [(.v (.int IntKind.i64 x0)), (.v (.string x1)), (.v (.string x2))] []).trans (c_c k kp (JJ k kp) (LL k kp) x0 x1 x2))
theorem f_eq (k kp : D → List Blk → Prop) (x0 : Int) (x1 : ByteArray) (x2 : ByteArray) : funW cfg Try.f13 [(.v (.int IntKind.i64 x0)), (.v (.string x1)), (.v (.string x2))] [] k kp = f x0 x1 x2 (fun y0 => k (.v (.bool y0)) []) := by
  rw [f_def, c_raw]; simp only [j2000002_eq]; first | done | rfl
noncomputable def ent0 : Entry := fun args blks k _ => match args, blks with
  | [d0, d1, d2], [] => aInt IntKind.i64 d0 fun x0 => aStr d1 fun x1 => aStr d2 fun x2 => f x0 x1 x2 (fun y0 => k (.v (.bool y0)) [])
  | _, _ => False
noncomputable def ent : Entry := fun args blks k kp => ent0 (convA [none, none, none] args) blks k kp
theorem ok : EntOk Try.prog 0 0 13 ent := by
  refine EntOk.conv (EntOk.of (funW_ok (cfg := cfg) (tyOk_of rfl rfl tyL_ok) (eqOk_none rfl) mixed_ok (tab_ok ?_) Try.func13 (by rfl) (by rfl)) ?_) _
  · intro p hp
    simp only [List.mem_cons, List.not_mem_nil, or_false] at hp
    rcases hp with rfl | rfl | rfl | rfl
    · exact N33.ok
    · exact N34.ok
    · exact N39.ok
    · exact N41.ok
  · intro args blks k kp h k' kp'
    match args, blks, h with
    | [d0, d1, d2], [], h =>
    dsimp only [ent0] at h
    have h9 := aInt_elim h; clear h; obtain ⟨x0, rfl, h⟩ := h9
    have h9 := aStr_elim h; clear h; obtain ⟨x1, rfl, h⟩ := h9
    have h9 := aStr_elim h; clear h; obtain ⟨x2, rfl, h⟩ := h9
    exact (f_eq k' kp' x0 x1 x2).symm
end N13
end Go.Proofs.Yt
namespace Go.Proofs.Yt.DeciBack
open Go Go.Aw Go.Proofs Go.Proofs.Ytbedcdiacpbgpaa Go.ChangeShapes Go.WideShapes Go.ChangeAt Go.RowKit
set_option linter.unusedVariables false
set_option linter.unusedSimpArgs false
set_option maxRecDepth 100000
/-! 13 dyehouse/dyehouselaw02.DeciBack -/
def Pure : Prop := ∀ (x0 : Int) (w0 : (Lit.int IntKind.i64 x0).wf = true) (x1 : ByteArray) (w1 : x1.size ≤ reachBytes) (x2 : ByteArray) (w2 : x2.size ≤ reachBytes), N13.f x0 x1 x2 (fun y0 => y0 = true)
theorem own : ownKnob Try.prog.godebug = none := by kernel_rfl
theorem laid : laidOutB Try.prog = true := by kernel_rfl
theorem lifted (pure : Pure) (os : Os) (started : os.Started) (H : Type) (enc : TypeId × Value → H) :
    ReturnsInHanded {} Try.checked os 13 .any (Rows.deciBackSpec.pre6 enc Try.prog Try.f13 Rows.deciBackRow.domain false) (Rows.deciBackSpec.post enc Try.prog Try.f13 false true false false) := by
  refine returnsInHanded_of_change_sized (C := Try.checked) own started (by kernel_rfl) Try.func13
    (ChangeSpec.witness6 (enc := enc) (C := Try.checked) false ⟨#[], #[.int IntKind.i64 0, .string ⟨#[]⟩, .string ⟨#[]⟩], []⟩ 13 (by kernel_rfl) (by kernel_rfl) (by kernel_rfl) (by kernel_rfl)) ?_
  intro W base args ds gs before hval0 hW hcnd hsz0 _
  have hsz : (DataW.weightsEach Try.prog (Try.f13.params.toList ++ Rows.deciBackSpec.plain.varTypes Try.prog) (ds ++ gs)).all (· ≤ reachBytes) = true := hsz0
  have hval : ∀ (j : Nat) t v, Try.f13.params[j]? = some t → args[j]? = some v → Value.okWide Try.prog W .any base t v := hval0
  have hW' := hW
  have hlt := hW.lt
  obtain ⟨p, q, hA0, hV, rfl, hfz, hnd⟩ := hW
  have hA : DataW.TrodAll enc Try.prog W 0 (fun _ => true) true Try.f13.params.toList args.toList ds p := hA0
  have hAk := hA
  rw [Try.params13] at hA hval hsz
  obtain ⟨v0, vs0, d0, ds0, p0, q0, hargs, rfl, rfl, h0, r0⟩ := trodAll_cons hA
  obtain ⟨v1, vs1, d1, ds1, p1, q1, rfl, rfl, rfl, h1, r1⟩ := trodAll_cons r0
  obtain ⟨v2, vs2, d2, ds2, p2, q2, rfl, rfl, rfl, h2, r2⟩ := trodAll_cons r1
  obtain ⟨rfl, rfl, rfl⟩ := trodAll_nil r2
  obtain rfl : args = #[v0, v1, v2] := by cases args; simp_all
  obtain ⟨rfl, rfl⟩ := trodVars_none hV
  obtain ⟨x0, k0, w0⟩ := arg_int (tf := 0) (tw := 0) (n := 1) (k := IntKind.i64) (by kernel_rfl) (hval 0 3 v0 rfl rfl) h0
  obtain ⟨x1, k1, w1⟩ := arg_str (tf := 0) (tw := 0) (by kernel_rfl) (hval 1 9 v1 rfl rfl) h1 (fun m hm => of_decide_eq_true (List.all_eq_true.1 hsz m (DataW.weights_mem_each (j := 1) rfl rfl m hm)))
  obtain ⟨x2, k2, w2⟩ := arg_str (tf := 0) (tw := 0) (by kernel_rfl) (hval 2 9 v2 rfl rfl) h2 (fun m hm => of_decide_eq_true (List.all_eq_true.1 hsz m (DataW.weights_mem_each (j := 2) rfl rfl m hm)))
  refine (law_of N13.ok (W := W) (us := [v0, v1, v2]) (ds := [.v (.int IntKind.i64 x0), .v (.string x1), .v (.string x2)]) ⟨_, _, rfl, k0, ⟨_, _, rfl, k1, ⟨_, _, rfl, k2, by simp only [RepL]⟩⟩⟩ (show N13.ent _ _ _ _ from pure x0 w0 x1 w1 x2 w2)).mono fun e W' ⟨he, bel⟩ => ?_
  subst he
  exact ⟨_, rfl, _, _, _, [], _, [], hW', trodAll_mk1 (shut_bool (by kernel_rfl) _), trodAll_below laid bel (by kernel_rfl) hAk (fun x hx => hlt x (by simpa using hx)), rfl, bel.frame _, fun h => by cases h⟩
theorem over (pure : Pure) : Rows.deciBackRow.holds Try.pinned (OpenSpec.ofChange Rows.deciBackSpec) :=
  OpenClaim.holds_of_wide 13 Try.f13 rfl rfl rfl rfl rfl rfl rfl ⟨rfl, rfl, rfl, rfl, rfl⟩ rfl rfl rfl rfl rfl (by kernel_rfl) Try.func13 (by kernel_rfl)
    (of_decide_eq_true (by kernel_rfl)) (by unfold Func.isWrapper; first | (rw [if_pos (by decide +kernel)]; kernel_rfl) | (rw [if_neg (by decide +kernel)]; exact ⟨rfl, rfl⟩))
    (fun os started H enc _ => lifted pure os started H enc)
theorem holds (pure : Pure) : Rows.DeciBackSaid := over pure
end Go.Proofs.Yt.DeciBack
namespace Go.Proofs.Yt.DeciBack
open Go Go.Aw Go.Proofs Go.RowKit
set_option linter.unusedVariables false
set_option linter.unusedSimpArgs false

theorem dl_fuel : ∀ (f g u : Nat), u < 10 ^ (f + 1) → u < 10 ^ (g + 1) → dl (f + 1) u = dl (g + 1) u
  | 0, g, u, h, _ => by
    have : u / 10 = 0 := by simp at h; omega
    rw [dl_succ 0, dl_succ g, if_pos this, if_pos this]
  | f + 1, 0, u, _, h => by
    have : u / 10 = 0 := by simp at h; omega
    rw [dl_succ (f + 1), dl_succ 0, if_pos this, if_pos this]
  | f + 1, g + 1, u, h1, h2 => by
    rw [dl_succ (f + 1), dl_succ (g + 1)]
    split
    · rfl
    · rw [dl_fuel f g (u / 10) (by rw [Nat.pow_succ] at h1; omega) (by rw [Nat.pow_succ] at h2; omega)]

theorem digs_head {u : Nat} (hu : u < 10 ^ 20) (h : (dl 20 u).reverse.head? = some 48) : u = 0 := by
  rw [List.head?_reverse] at h
  exact dl_top 20 u hu h

theorem scan_put (A B : List Int) (n : Int) (hn : in64 n) (hB : ∀ x, B.head? = some x → ¬ isD x) : scanI (A ++ putL n ++ B) (A.length : Int) = (n, ((A.length + (putL n).length : Nat) : Int), 0) := by
  unfold in64 at hn
  have hU : n.natAbs < 10 ^ 20 := by omega
  obtain ⟨p1, p2⟩ := putL_len n
  unfold scanI
  dsimp only
  rw [if_neg (by simp; omega), Int.toNat_natCast]
  -- digits, and whether there is a sign
  have hD : ∀ x ∈ (dl 20 n.natAbs).reverse, isD x := fun x hx => dl_isD _ _ x (List.mem_reverse.1 hx)
  have hDl : 0 < (dl 20 n.natAbs).length := dl_len_pos 19 _
  have hval : val (dl 20 n.natAbs).reverse = n.natAbs := dl_val 20 _ hU
  have hhead := @digs_head n.natAbs hU
  have hdl0 : n.natAbs = 0 → (dl 20 n.natAbs).reverse = [48] := fun h => by rw [h]; rfl
  have hput : putL n = (if n < 0 then [45] else []) ++ (dl 20 n.natAbs).reverse := rfl
  generalize hDD : (dl 20 n.natAbs).reverse = D at *
  have hDlen : 0 < D.length := by rw [← hDD]; simpa using hDl
  obtain ⟨d, D', rfl⟩ : ∃ d D', D = d :: D' := by
    cases D with
    | nil => simp at hDlen
    | cons d D' => exact ⟨d, D', rfl⟩
  have hd := hD d (by simp)
  have hminus : (decide (A.length < (A ++ putL n ++ B).length) && ((A ++ putL n ++ B).getD A.length 0 == 45)) = decide (n < 0) := by
    have h1 : (A ++ putL n ++ B).getD A.length 0 = (putL n).getD 0 0 := by
      rw [List.append_assoc]
      simp only [List.getD, List.getElem?_append_right (Nat.le_refl _), Nat.sub_self]
      rw [List.getElem?_append_left (by omega)]
    have h2 : decide (A.length < (A ++ putL n ++ B).length) = true := by simp; omega
    rw [h1, h2, hput, Bool.true_and]
    by_cases hneg : n < 0
    · simp [hneg]
    · simp [hneg]
      obtain ⟨h3, h4⟩ := hd
      omega
  rw [hminus]
  have hdrop : (A ++ putL n ++ B).drop (A.length + (decide (n < 0)).toNat) = (d :: D') ++ B := by
    rw [List.append_assoc, ← List.drop_drop, List.drop_left, hput]
    by_cases hneg : n < 0 <;> simp [hneg]
  have hget : (A ++ putL n ++ B).getD (A.length + (decide (n < 0)).toNat) 0 = d := by
    have : ((A ++ putL n ++ B).drop (A.length + (decide (n < 0)).toNat)).getD 0 0 = d := by rw [hdrop]; rfl
    unfold List.getD at this ⊢
    rw [List.getElem?_drop, Nat.add_zero] at this
    exact this
  rw [hdrop, hget, run_app (d :: D') B hD hB]
  have htake : ((d :: D') ++ B).take (d :: D').length = d :: D' := List.take_left
  rw [htake, hval]
  rw [if_neg, if_neg]
  · refine Prod.ext ?_ (Prod.ext ?_ rfl)
    · by_cases hneg : n < 0
      · simp [hneg]; omega
      · simp [hneg]; omega
    · rw [hput]
      by_cases hneg : n < 0
      · simp [hneg]; omega
      · simp [hneg]
  · rintro (h | ⟨h1, h2⟩)
    · omega
    · have h2 : ¬ n < 0 := by simpa using h2
      omega
  · rintro (h | ⟨h1, h2⟩)
    · simp at h
    · have h0 : n.natAbs = 0 := hhead (by rw [h1]; rfl)
      have := hdl0 h0
      rcases h2 with h2 | h2
      · rw [this] at h2; simp at h2
      · have h2 : n < 0 := by simpa using h2
        omega

theorem scan45 (D : List Int) : scanI (45 :: D) 0 = if run D = 0 ∨ D.getD 0 0 = 48 then (0, 0, 12) else if val (D.take (run D)) > 2 ^ 63 then (0, 0, 2) else (-(val (D.take (run D)) : Int), ((1 + run D : Nat) : Int), 0) := by
  unfold scanI
  dsimp only
  rw [if_neg (by simp; omega)]
  have e0 : Int.toNat 0 = 0 := rfl
  have hm : (decide (0 < (45 :: D).length) && ((45 :: D).getD 0 0 == 45)) = true := by simp
  rw [e0, hm]
  have e1 : 0 + (true : Bool).toNat = 1 := rfl
  have e2 : (45 :: D).drop 1 = D := rfl
  have e3 : (45 :: D).getD 1 0 = D.getD 0 0 := rfl
  rw [e1, e2, e3]
  simp

theorem scan_none {b : Int} (D : List Int) (h1 : b ≠ 45) (h2 : ¬ isD b) : (scanI (b :: D) 0).2.2 = 12 := by
  unfold scanI
  dsimp only
  rw [if_neg (by simp; omega)]
  have e0 : Int.toNat 0 = 0 := rfl
  have hm : (decide (0 < (b :: D).length) && ((b :: D).getD 0 0 == 45)) = false := by simp [h1]
  rw [e0, hm]
  have e1 : 0 + (false : Bool).toNat = 0 := rfl
  rw [e1, List.drop_zero]
  have hr0 : run (b :: D) = 0 := by unfold run; rw [if_neg h2]
  rw [if_pos (.inl hr0)]

theorem get_back (B : List Int) (hl : B.length ≤ 100) (hB : ∀ x, B.head? = some x → ¬ isD x) (h : (getI B).2 = 0) : putL (getI B).1 = B ∧ in64 (getI B).1 := by
  unfold getI at *
  by_cases h0 : (scanI B 0).2.2 ≠ 0
  · rw [if_pos h0] at h
    exact absurd h h0
  rw [if_neg h0] at h ⊢
  by_cases h1 : (scanI B 0).2.1 < (B.length : Int)
  · rw [if_pos h1] at h; cases h
  rw [if_neg h1]
  have h0 : (scanI B 0).2.2 = 0 := by simpa using h0
  cases B with
  | nil => exact absurd h0 (by decide)
  | cons b D =>
    by_cases h45 : b = 45
    · subst h45
      rw [scan45] at h0 h1 ⊢
      by_cases hc : run D = 0 ∨ D.getD 0 0 = 48
      · rw [if_pos hc] at h0; cases h0
      rw [if_neg hc] at h0 h1 ⊢
      by_cases hv : val (D.take (run D)) > 2 ^ 63
      · rw [if_pos hv] at h0; cases h0
      rw [if_neg hv] at h1 ⊢
      simp only [List.length_cons] at h1 hl ⊢
      have hrl := run_le D
      have hr : run D = D.length := by omega
      have hD := run_isD D
      have et : D.take (run D) = D := by rw [hr, List.take_length]
      rw [et] at hv hD ⊢
      have hc1 : D.length ≠ 0 := fun e => hc (.inl (by omega))
      have hc2 : D.getD 0 0 ≠ 48 := fun e => hc (.inr e)
      have hne : D ≠ [] := fun e => hc1 (by rw [e]; rfl)
      have hh : D.head? ≠ some 48 := by
        cases D with
        | nil => simp
        | cons x r => simpa using hc2
      obtain ⟨v1, v2⟩ := dl_of_val D 100 (by omega) hD hne (fun e => absurd e hh)
      rw [dl_fuel 99 19 (val D) v1 (by omega)] at v2
      have hpos : 0 < val D := by
        rcases Nat.eq_zero_or_pos (val D) with h | h
        · rw [h] at v2
          have : D.reverse = [48] := v2.symm
          have : D = [48] := by
            have := congrArg List.reverse this
            simpa using this
          rw [this] at hh; simp at hh
        · exact h
      refine ⟨?_, ⟨by omega, by omega⟩⟩
      unfold putL
      have v2' : dl 20 (val D) = D.reverse := v2
      rw [if_pos (by omega), Int.natAbs_neg, Int.natAbs_natCast, v2']
      simp
    · rw [scan_none D h45 (hB b rfl)] at h0
      cases h0

theorem pure : Pure := by
  intro n wn A wA B wB
  have hn := wf64 wn
  have hk : N33.f (fun y => y = true) := worksD_s _ rfl
  obtain ⟨p1, p2⟩ := putL_len n
  have hr : reachBytes < 2 ^ 47 := reachBytes_lt
  have hr2 : 1000 ≤ reachBytes := by decide
  rw [N13.f_def]
  unfold N13.f0 N13.c N13.j2000002' N13.j2000002
  dsimp only
  refine br_of (fun h => hk) (fun hA => br_of (fun h => hk) (fun hB => ?_))
  have hA : A.size ≤ 100 := by simp at hA; omega
  have hB : B.size ≤ 100 := by simp at hB; omega
  have hBl := ofBytes_length B
  -- nothing that is a digit stands behind
  have main : (∀ x, (ofBytes B).head? = some x → ¬ isD x) → N13.j3' n A B (fun y => y = true) := by
    intro hd
    unfold N13.j3' N13.j3 N13.j2000007' N13.j2000007 N13.j8' N13.j8
    dsimp only
    refine put_s n hn _ ?_
    have hps := bytesOf_size (putL n)
    refine ⟨by rw [hps]; omega, by rw [size_append, hps]; omega, ?_⟩
    have hall : ∀ x ∈ putL n, isB x := by
      intro x hx
      unfold putL at hx
      rcases List.mem_append.1 hx with h | h
      · split at h
        · simp at h; subst h; exact ⟨by decide, by decide⟩
        · simp at h
      · have := dl_isD _ _ x (List.mem_reverse.1 h)
        exact ⟨by have := this.1; omega, by have := this.2; omega⟩
    have hof : ofBytes (A ++ bytesOf (putL n) ++ B) = ofBytes A ++ putL n ++ ofBytes B := by
      rw [ofBytes_append, ofBytes_append, ofBytes_bytesOf hall]
    refine scan_s _ (by rw [size_append, size_append, hps]; omega) _ _ ?_
    have hsc : scanI (ofBytes (A ++ bytesOf (putL n) ++ B)) ((A.size : Nat) : Int) = (n, ((A.size + (putL n).length : Nat) : Int), 0) := by
      rw [hof, ← ofBytes_length A]
      exact scan_put _ _ n hn hd
    rw [hsc]
    refine get_s B (by omega) _ ?_
    have fin : (br (n == n) (br ((0 : Int) == 0) (br (((A.size + (putL n).length : Nat) : Int) == IntKind.i64.wrap (((A.size : Nat) : Int) + (((bytesOf (putL n)).size : Nat) : Int))) (N33.f (fun y => y = true)) (false = true)) (false = true)) (false = true)) := by
      rw [hps, wrap_id (by omega) (by omega)]
      simpa using hk
    refine br_of (fun h0 => ?_) (fun h0 => fin)
    have h0 : (getI (ofBytes B)).2 = 0 := by simpa using h0
    obtain ⟨g1, g2⟩ := get_back (ofBytes B) (by omega) hd h0
    refine put_s _ g2 _ ?_
    rw [g1, bytesOf_ofBytes, beqS_self]
    exact fin
  refine br_of (fun hpos => ?_) (fun hpos => ?_)
  · have hpos : 0 < B.size := by simp at hpos; omega
    have hinb : inB 0 0 ((B.size : Int) - 1) := ⟨by omega, by omega, by omega⟩
    have hb : byteAt B 0 = (ofBytes B).getD 0 0 := byteAt_eq B 0
    rw [hb]
    have hhd : ∀ x, (ofBytes B).head? = some x → x = (ofBytes B).getD 0 0 := by
      intro x hx
      cases hL : ofBytes B with
      | nil => rw [hL] at hx; cases hx
      | cons y r => rw [hL] at hx; simp at hx; simp [hx]
    refine ⟨hinb, br_of (fun h1 => ⟨hinb, br_of (fun h2 => hk) (fun h2 => main (fun x hx hd => ?_))⟩) (fun h1 => main (fun x hx hd => ?_))⟩
    · have h2 : ¬ (ofBytes B).getD 0 0 ≤ 57 := by simpa using h2
      rw [← hhd x hx] at h2
      exact h2 hd.2
    · have h1 : ¬ (ofBytes B).getD 0 0 ≥ 48 := by simpa using h1
      rw [← hhd x hx] at h1
      exact h1 hd.1
  · have hpos := of_decide_eq_false hpos
    have hpos : B.size = 0 := by omega
    refine main (fun x hx hd => ?_)
    have : ofBytes B = [] := List.length_eq_zero_iff.1 (by omega)
    rw [this] at hx; cases hx

theorem proved : Go.Proofs.Ytbedcdiacpbgpaa.Rows.DeciBackSaid := holds pure
end Go.Proofs.Yt.DeciBack
namespace Go.Proofs.Ytbedcdiacpbgpaa
/-- The statement. -/
theorem deciBack_holds : Rows.DeciBackSaid := Go.Proofs.Yt.DeciBack.proved
#print axioms deciBack_holds
end Go.Proofs.Ytbedcdiacpbgpaa
