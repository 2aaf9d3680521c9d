/- Words for the proof of the statement: plain data in place of memory. -/
import Derived.Test.YtbfggnlonemmiaaT1
import Derived.OpenShut
import Derived.SizedLaws
import Derived.Test.YtbfggnlonemmiaaProg
namespace Go.Aw
open Go.RowKit
set_option linter.unusedVariables false

/-! ### Words for plain proofs -/
@[simp] theorem br_true (p q : Prop) : br true p q = p := rfl
@[simp] theorem br_false (p q : Prop) : br false p q = q := rfl
theorem br_of {b : Bool} {p q : Prop} (h1 : b = true → p) (h2 : b = false → q) : br b p q := by
  cases b
  · exact h2 rfl
  · exact h1 rfl
theorem br_iff {b : Bool} {p q : Prop} : br b p q ↔ (b = true → p) ∧ (b = false → q) := by cases b <;> simp
@[simp] theorem br_dec {c : Prop} [Decidable c] {p q : Prop} : br (decide c) p q = if c then p else q := by
  by_cases h : c <;> simp [h]
@[simp] theorem br_beq {α : Type} [BEq α] [LawfulBEq α] [DecidableEq α] {a b : α} {p q : Prop} : br (a == b) p q = if a = b then p else q := by
  by_cases h : a = b
  · simp [h]
  · rw [if_neg h, show (a == b) = false by simpa using h]; rfl
@[simp] theorem br_bne {α : Type} [BEq α] [LawfulBEq α] [DecidableEq α] {a b : α} {p q : Prop} : br (a != b) p q = if a = b then q else p := by
  by_cases h : a = b
  · simp [h]
  · rw [if_neg h, show (a != b) = true by simpa using h]; rfl
@[simp] theorem br_not {b : Bool} {p q : Prop} : br (!b) p q = br b q p := by cases b <;> rfl
theorem br_bif {α : Sort _} {b : Bool} {k : α → Prop} {x y : α} : br b (k x) (k y) = k (bif b then x else y) := by cases b <;> rfl

abbrev w64 (n : Int) : Int := IntKind.i64.wrap n
theorem w64_eq (n : Int) : w64 n = n.bmod (2 ^ 64) := by
  unfold w64 IntKind.wrap
  simp only [IntKind.bits, IntKind.signed]
  unfold Int.bmod
  simp
  split <;> split <;> omega
theorem wu64_eq (n : Int) : IntKind.u64.wrap n = n % 2 ^ 64 := by
  unfold IntKind.wrap
  simp [IntKind.bits, IntKind.signed]
theorem wu8_eq (n : Int) : IntKind.u8.wrap n = n % 256 := by
  unfold IntKind.wrap
  simp [IntKind.bits, IntKind.signed]
/-- A number fits into 64 bits. -/
def in64 (n : Int) : Prop := -9223372036854775808 ≤ n ∧ n ≤ 9223372036854775807
theorem wf64 {n : Int} (h : (Lit.int .i64 n).wf = true) : in64 n := by
  simp [Lit.wf, IntKind.min, IntKind.max, IntKind.signed, IntKind.bits] at h
  exact h
theorem w64_id {n : Int} (h : in64 n) : w64 n = n := by
  unfold in64 at h
  rw [w64_eq]
  apply Int.bmod_eq_of_le <;> omega
theorem wrap_id {n : Int} (h1 : -9223372036854775808 ≤ n) (h2 : n ≤ 9223372036854775807) : IntKind.i64.wrap n = n := w64_id ⟨h1, h2⟩
theorem w64_in (n : Int) : in64 (w64 n) := by
  unfold in64
  rw [w64_eq]
  have h1 := @Int.le_bmod n (2 ^ 64) (by decide)
  have h2 := @Int.bmod_lt n (2 ^ 64) (by decide)
  omega

theorem drop_get {α : Type} {l : List α} {i : Nat} {d : α} (h : i < l.length) : l.drop i = l.getD i d :: l.drop (i + 1) := by
  rw [List.drop_eq_getElem_cons h]; simp [List.getD, List.getElem?_eq_getElem h]
end Go.Aw
namespace Go.Aw
set_option linter.unusedVariables false

/-! ### Bytes and texts -/
theorem ba_append (a b : Array UInt8) : (ByteArray.mk a ++ ByteArray.mk b) = ByteArray.mk (a ++ b) := by
  apply ByteArray.ext
  simp
theorem bytesOf_append (a b : List Int) : bytesOf (a ++ b) = bytesOf a ++ bytesOf b := by
  unfold bytesOf
  rw [ba_append]
  simp
theorem size_append (a b : ByteArray) : (a ++ b).size = a.size + b.size := by simp
theorem bytesOf_size (l : List Int) : (bytesOf l).size = l.length := by
  unfold bytesOf
  simp [ByteArray.size]
theorem bytesOf_ofBytes (s : ByteArray) : bytesOf (ofBytes s) = s := by
  unfold bytesOf ofBytes
  apply ByteArray.ext
  simp [List.map_map]
  apply Array.ext'
  simp
  apply List.ext_getElem
  · simp
  · intro i h1 h2
    simp
theorem ofBytes_length (s : ByteArray) : (ofBytes s).length = s.size := by
  unfold ofBytes
  rw [List.length_map, Array.length_toList]; rfl
theorem beqS_self (a : ByteArray) : beqS a a = true := (beqS_iff a a).2 rfl

/-- A byte, as a number. -/
def isB (x : Int) : Prop := 0 ≤ x ∧ x < 256
theorem ofBytes_bytesOf {l : List Int} (h : ∀ x ∈ l, isB x) : ofBytes (bytesOf l) = l := by
  unfold ofBytes bytesOf
  simp only [List.map_map]
  conv => rhs; rw [← List.map_id l]
  apply List.map_congr_left
  intro x hx
  obtain ⟨h1, h2⟩ := h x hx
  simp
  omega
theorem ofBytes_isB (s : ByteArray) : ∀ x ∈ ofBytes s, isB x := by
  intro x hx
  unfold ofBytes at hx
  obtain ⟨b, _, rfl⟩ := List.mem_map.1 hx
  have := b.toNat_lt
  exact ⟨by omega, by omega⟩
theorem byteAt_eq (s : ByteArray) (i : Nat) : byteAt s i = (ofBytes s).getD i 0 := by
  unfold byteAt ofBytes
  simp only [Int.toNat_natCast, List.getD, List.getElem?_map, Array.getElem?_toList, Array.getD_eq_getD_getElem?]
  cases s.data[i]? <;> simp
theorem ofBytes_append (a b : ByteArray) : ofBytes (a ++ b) = ofBytes a ++ ofBytes b := by
  unfold ofBytes
  simp
theorem ofBytes_extract (s : ByteArray) (i j : Nat) : ofBytes (s.extract i j) = ((ofBytes s).take j).drop i := by
  unfold ofBytes
  rw [ByteArray.data_extract, Array.toList_extract, List.extract_eq_take_drop, List.map_take, List.map_drop, List.drop_take]
theorem eq_of_ofBytes {a b : ByteArray} (h : ofBytes a = ofBytes b) : a = b := by rw [← bytesOf_ofBytes a, ← bytesOf_ofBytes b, h]
theorem getD_isB (s : ByteArray) (i : Nat) : isB ((ofBytes s).getD i 0) := by
  by_cases h : i < (ofBytes s).length
  · simp only [List.getD, List.getElem?_eq_getElem h, Option.getD_some]
    exact ofBytes_isB s _ (List.getElem_mem h)
  · simp only [List.getD, List.getElem?_eq_none (by omega : (ofBytes s).length ≤ i), Option.getD_none]
    exact ⟨by decide, by decide⟩

/-! ### Digits, the lowest first -/
def dl : Nat → Nat → List Int
  | 0, _ => []
  | f + 1, u => ((48 + u % 10 : Nat) : Int) :: if u / 10 = 0 then [] else dl f (u / 10)

theorem dl_succ (f u : Nat) : dl (f + 1) u = ((48 + u % 10 : Nat) : Int) :: if u / 10 = 0 then [] else dl f (u / 10) := rfl

/-- A row of digits' value, the highest first. -/
def val (l : List Int) : Nat := l.foldl (fun a d => 10 * a + (d - 48).toNat) 0
def isD (x : Int) : Prop := 48 ≤ x ∧ x ≤ 57
instance (x : Int) : Decidable (isD x) := inferInstanceAs (Decidable (_ ∧ _))

theorem val_snoc (l : List Int) (d : Int) : val (l ++ [d]) = 10 * val l + (d - 48).toNat := by simp [val]
theorem dl_isD : ∀ (f u : Nat), ∀ x ∈ dl f u, isD x
  | 0, u, x, h => by cases h
  | f + 1, u, x, h => by
    unfold dl at h
    rcases List.mem_cons.1 h with rfl | h
    · exact ⟨by omega, by omega⟩
    · split at h
      · cases h
      · exact dl_isD f _ x h
theorem dl_val : ∀ (f u : Nat), u < 10 ^ f → val (dl f u).reverse = u
  | 0, u, h => by simp at h; subst h; rfl
  | f + 1, u, h => by
    unfold dl
    rw [List.reverse_cons, val_snoc]
    have e : (((48 + u % 10 : Nat) : Int) - 48).toNat = u % 10 := by omega
    rw [e]
    split
    · rename_i hz
      have : val ([] : List Int).reverse = 0 := rfl
      rw [this]; omega
    · rw [dl_val f (u / 10) (by rw [Nat.pow_succ] at h; omega)]; omega
theorem dl_ne (f u : Nat) : dl (f + 1) u ≠ [] := by unfold dl; simp
theorem dl_len_pos (f u : Nat) : 0 < (dl (f + 1) u).length := List.length_pos_iff.2 (dl_ne f u)
theorem dl_len_le : ∀ (f u : Nat), (dl f u).length ≤ f
  | 0, _ => by simp [dl]
  | f + 1, u => by
    unfold dl
    split
    · simp
    · have := dl_len_le f (u / 10); simp; omega
/-- The highest digit is no nought, but of nought alone. -/
theorem dl_top : ∀ (f u : Nat), u < 10 ^ f → (dl f u).getLast? = some 48 → u = 0
  | 0, u, h, _ => by simp at h; exact h
  | f + 1, u, h, h2 => by
    unfold dl at h2
    split at h2
    · rename_i hz
      simp at h2
      omega
    · rename_i hz
      have h3 : u / 10 < 10 ^ f := by rw [Nat.pow_succ] at h; omega
      cases hd : dl f (u / 10) with
      | nil =>
        cases f with
        | zero => simp at h3; omega
        | succ f => exact absurd hd (dl_ne f _)
      | cons x r =>
        rw [hd] at h2
        have h4 : (x :: r).getLast? = some 48 := by simpa [List.getLast?_cons_cons] using h2
        rw [← hd] at h4
        have := dl_top f (u / 10) h3 h4
        omega
/-- Digits without a nought ahead are those of their value. -/
theorem dl_of_val : ∀ (l : List Int) (f : Nat), l.length ≤ f → (∀ x ∈ l, isD x) → l ≠ [] → (l.head? = some 48 → l = [48]) → val l < 10 ^ f ∧ dl f (val l) = l.reverse := by
  intro l
  induction h : l.length using Nat.strongRecOn generalizing l with
  | ind n ih =>
    intro f hf hd hne hz
    subst h
    obtain ⟨m, d, rfl⟩ : ∃ m d, l = m ++ [d] := ⟨l.dropLast, l.getLast hne, (List.dropLast_concat_getLast hne).symm⟩
    have hdd : isD d := hd d (by simp)
    obtain ⟨hd1, hd2⟩ := hdd
    rw [val_snoc]
    cases f with
    | zero => simp at hf
    | succ f =>
      by_cases hm : m = []
      · subst hm
        have e0 : val ([] : List Int) = 0 := rfl
        rw [e0]
        refine ⟨?_, ?_⟩
        · have : 1 ≤ 10 ^ f := Nat.one_le_pow _ _ (by decide)
          rw [Nat.pow_succ]; omega
        · unfold dl
          rw [if_pos (by omega)]
          simp
          omega
      · have hlen : m.length ≤ f := by simp at hf; omega
        have hz' : m.head? = some 48 → m = [48] := by
          intro h1
          have : (m ++ [d]).head? = some 48 := by
            cases m with
            | nil => exact absurd rfl hm
            | cons x r => simpa using h1
          have := hz this
          cases m with
          | nil => exact absurd rfl hm
          | cons x r => simp at this
        obtain ⟨h1, h2⟩ := ih m.length (by simp) m rfl f hlen (fun x hx => hd x (by simp [hx])) hm hz'
        have hpos : 0 < val m := by
          rcases Nat.eq_zero_or_pos (val m) with h0 | h0
          · exfalso
            have hh : m.head? = some 48 := by
              rw [h0] at h2
              cases f with
              | zero => simp at hlen; exact absurd hlen hm
              | succ f =>
                have : dl (f + 1) 0 = [48] := by unfold dl; simp
                rw [this] at h2
                have : m = [48] := by
                  have := congrArg List.reverse h2
                  simpa using this.symm
                subst this; rfl
            have : (m ++ [d]).head? = some 48 := by
              cases m with
              | nil => exact absurd rfl hm
              | cons x r => simpa using hh
            have := hz this
            cases m with
            | nil => exact absurd rfl hm
            | cons x r => simp at this
          · exact h0
        have e1 : (10 * val m + (d - 48).toNat) / 10 = val m := by omega
        have e2 : (10 * val m + (d - 48).toNat) % 10 = (d - 48).toNat := by omega
        refine ⟨by rw [Nat.pow_succ]; omega, ?_⟩
        unfold dl
        rw [e1, e2, if_neg (by omega), h2, List.reverse_append]
        simp
        omega

/-- How many digits stand ahead. -/
def run : List Int → Nat
  | [] => 0
  | x :: r => if isD x then run r + 1 else 0
theorem run_le : ∀ (l : List Int), run l ≤ l.length
  | [] => Nat.le_refl _
  | x :: r => by unfold run; split <;> simp; have := run_le r; omega
theorem run_isD : ∀ (l : List Int), ∀ x ∈ l.take (run l), isD x
  | [], x, h => by simp [run] at h
  | y :: r, x, h => by
    unfold run at h
    split at h
    · rename_i hy
      rcases List.mem_cons.1 (by simpa using h) with rfl | h
      · exact hy
      · exact run_isD r x h
    · simp at h
theorem run_app : ∀ (l m : List Int), (∀ x ∈ l, isD x) → (∀ x, m.head? = some x → ¬ isD x) → run (l ++ m) = l.length
  | [], [], _, _ => rfl
  | [], y :: m, _, h => by simp [run, h y rfl]
  | x :: l, m, h, h2 => by
    simp only [List.cons_append, run, List.length_cons]
    rw [if_pos (h x (by simp)), run_app l m (fun y hy => h y (by simp [hy])) h2]
/-- One more digit. -/
theorem run_step {l : List Int} {i j : Nat} (h : run (l.drop i) = j) (hj : i + j < l.length) : ¬ isD (l.getD (i + j) 0) := by
  induction j generalizing i with
  | zero =>
    rw [drop_get (d := 0) (by omega)] at h
    unfold run at h
    split at h
    · omega
    · rename_i hn; simpa using hn
  | succ j ih =>
    have hi : i < l.length := by omega
    rw [drop_get (d := 0) hi] at h
    unfold run at h
    split at h
    · have := ih (i := i + 1) (by omega) (by omega)
      rwa [show i + 1 + j = i + (j + 1) by omega] at this
    · omega
theorem runIn {l : List Int} {i j : Nat} (hj : j < run (l.drop i)) : isD (l.getD (i + j) 0) := by
  have h := run_isD (l.drop i) ((l.drop i).getD j 0) (by
    have h1 := run_le (l.drop i)
    have h2 : j < (l.drop i).length := by omega
    have e : (l.drop i).getD j 0 = (l.drop i)[j] := by simp [List.getD, List.getElem?_eq_getElem h2]
    rw [e]
    exact List.mem_take_iff_getElem.2 ⟨j, by omega, rfl⟩)
  simpa [List.getD, List.getElem?_drop] using h

theorem drop_set_self {α : Type} {l : List α} {a : Nat} {x : α} (h : a < l.length) : (l.set a x).drop a = x :: l.drop (a + 1) := by
  rw [List.drop_set, if_neg (Nat.lt_irrefl _), Nat.sub_self, List.drop_eq_getElem_cons h]
  rfl
theorem tmod10 (m : Int) : Int.tmod m 10 = if m < 0 then -((m.natAbs % 10 : Nat) : Int) else ((m.natAbs % 10 : Nat) : Int) := by
  split
  · have : m = -(m.natAbs : Int) := by omega
    rw [this, Int.neg_tmod, Int.natAbs_neg, Int.natAbs_natCast]; norm_cast
  · have : m = (m.natAbs : Int) := by omega
    rw [this, Int.natAbs_natCast]; norm_cast
theorem tdiv10 (m : Int) : Int.tdiv m 10 = if m < 0 then -((m.natAbs / 10 : Nat) : Int) else ((m.natAbs / 10 : Nat) : Int) := by
  split
  · have : m = -(m.natAbs : Int) := by omega
    rw [this, Int.neg_tdiv, Int.natAbs_neg, Int.natAbs_natCast]; norm_cast
  · have : m = (m.natAbs : Int) := by omega
    rw [this, Int.natAbs_natCast]; norm_cast

theorem val_le_foldl : ∀ (m : List Int) (a : Nat), a ≤ m.foldl (fun a d => 10 * a + (d - 48).toNat) a
  | [], a => Nat.le_refl _
  | d :: m, a => by
    simp only [List.foldl_cons]
    exact Nat.le_trans (by omega) (val_le_foldl m _)
theorem val_take (l : List Int) (i : Nat) : val (l.take i) ≤ val l := by
  conv => rhs; rw [← List.take_append_drop i l]
  unfold val
  rw [List.foldl_append]
  exact val_le_foldl _ _
theorem val_take_succ {l : List Int} {i : Nat} (h : i < l.length) : val (l.take (i + 1)) = 10 * val (l.take i) + (l.getD i 0 - 48).toNat := by
  have : l.take (i + 1) = l.take i ++ [l.getD i 0] := by
    rw [List.take_succ_eq_append_getElem h]; simp [List.getD, List.getElem?_eq_getElem h]
  rw [this, val_snoc]

/-- What stands at a place, as a number: the number, where it ends, and what is wrong. -/
def scanI (l : List Int) (at_ : Int) : Int × Int × Int :=
  if at_ < 0 ∨ at_ > (l.length : Int) then (0, 0, 1) else
  let minus := decide (at_.toNat < l.length) && (l.getD at_.toNat 0 == 45)
  let fr := at_.toNat + minus.toNat
  let r := run (l.drop fr)
  if r = 0 ∨ (l.getD fr 0 = 48 ∧ (1 < r ∨ minus = true)) then (0, 0, 12) else
  let v := val ((l.drop fr).take r)
  if v > 2 ^ 63 ∨ (v = 2 ^ 63 ∧ minus = false) then (0, 0, 2) else (if minus = true then -(v : Int) else v, ((fr + r : Nat) : Int), 0)
def getI (l : List Int) : Int × Int := if (scanI l 0).2.2 ≠ 0 then (0, (scanI l 0).2.2) else if (scanI l 0).2.1 < (l.length : Int) then (0, 12) else ((scanI l 0).1, 0)
end Go.Aw
namespace Go.Proofs.Yu
open Go.Aw Go.Proofs
set_option linter.unusedVariables false
set_option linter.unusedSimpArgs false
set_option maxRecDepth 100000
def tyL : List (Nat × Ty) := [(3, (Ty.int IntKind.i64)), (5, (Ty.int IntKind.u8)), (28, (Ty.pair (Ty.int IntKind.i64) (Ty.pair (Ty.int IntKind.i64) (Ty.int IntKind.i64))))]
def tys : Nat → Option Ty := tab tyL
theorem mixed_ok : Try.prog.follows .mixedOrders = true := by kernel_rfl
theorem tyL_ok : tyL.all (tyRight Try.prog) = true := by kernel_rfl
end Go.Proofs.Yu
namespace Go.Proofs.Yu
open Go Go.Aw Go.Proofs
set_option linter.unusedVariables false
set_option linter.unusedSimpArgs false
set_option maxRecDepth 100000
/-! dyehouse/deci.Put -/
namespace N62
noncomputable def cfg : Cfg := { P := Try.prog, ty := tys, E := tab [], atSeq := tab [(8, ⟨[(0, .keep), (3, .keep), (4, .keep), (5, .keep), (6, .keep)]⟩), (11, ⟨[(0, .keep), (3, .keep), (4, .keep)]⟩), (4, ⟨[(0, .keep), (3, .keep), (4, .keep), (5, .keep)]⟩), (14, ⟨[(3, .keep), (4, .keep)]⟩)], atLoop := tab [(5, ⟨[(0, .keep), (3, .keep), (4, .keep), (5, .keep)]⟩)], outs := [], eqT := tab [] }
noncomputable def body : Code := bodyOf Try.f62
def l5 (j8 : Int → Int → Int → Int → (List Int) → Prop) (x0 : Int) (x4 : Int) (x5 : Int) (b0 : (List Int)) (k : ByteArray → Prop) : Prop :=
  (((10 : Int) ≠ 0) ∧ (br (decide ((Int.tmod x5 (10 : Int)) < (0 : Int))) (j8 x0 x4 x5 (IntKind.i64.wrap (0 - (Int.tmod x5 (10 : Int)))) b0) (j8 x0 x4 x5 (Int.tmod x5 (10 : Int)) b0)))
def j8 (j11 : Int → Int → (List Int) → Prop) (j4 : Int → Int → Int → (List Int) → Prop) (x0 : Int) (x4 : Int) (x5 : Int) (x6 : Int) (b0 : (List Int)) (k : ByteArray → Prop) : Prop :=
  ((inB 0 (IntKind.i64.wrap (x4 - (1 : Int))) (((20 : Nat) : Int) - 1)) ∧ (((10 : Int) ≠ 0) ∧ (br ((IntKind.i64.wrap (Int.tdiv x5 (10 : Int))) == (0 : Int)) (j11 x0 (IntKind.i64.wrap (x4 - (1 : Int))) (b0.set (Int.toNat (IntKind.i64.wrap (x4 - (1 : Int)))) (IntKind.u8.wrap (IntKind.i64.wrap ((48 : Int) + x6))))) (j4 x0 (IntKind.i64.wrap (x4 - (1 : Int))) x5 (b0.set (Int.toNat (IntKind.i64.wrap (x4 - (1 : Int)))) (IntKind.u8.wrap (IntKind.i64.wrap ((48 : Int) + x6))))))))
def j11 (j14 : Int → (List Int) → Prop) (x0 : Int) (x4 : Int) (b0 : (List Int)) (k : ByteArray → Prop) : Prop :=
  (br (decide (x0 < (0 : Int))) ((inB 0 (IntKind.i64.wrap (x4 - (1 : Int))) (((20 : Nat) : Int) - 1)) ∧ (j14 (IntKind.i64.wrap (x4 - (1 : Int))) (b0.set (Int.toNat (IntKind.i64.wrap (x4 - (1 : Int)))) (45 : Int)))) (j14 x4 b0))
def j4 (ag5 : Int → Int → (List Int) → Prop) (x0 : Int) (x4 : Int) (x5 : Int) (b0 : (List Int)) (k : ByteArray → Prop) : Prop :=
  (((10 : Int) ≠ 0) ∧ (ag5 x4 (IntKind.i64.wrap (Int.tdiv x5 (10 : Int))) b0))
def j14 (x4 : Int) (b0 : (List Int)) (k : ByteArray → Prop) : Prop :=
  ((inB x4 (20 : Int) (20 : Int)) ∧ (((20 : Int) ≤ ((20 : Nat) : Int)) ∧ (k (bytesOf (List.drop (Int.toNat x4) (List.take (Int.toNat (20 : Int)) b0))))))
def c (l5 : Int → Int → Int → (List Int) → Prop) (x0 : Int) (k : ByteArray → Prop) : Prop :=
  (l5 x0 (20 : Int) x0 (List.replicate 20 (0)))
def j4' (ag5 : Int → Int → (List Int) → Prop) (x0 : Int) (x4 : Int) (x5 : Int) (b0 : (List Int)) (k : ByteArray → Prop) : Prop := j4 ag5 x0 x4 x5 b0 k
def j14' (x4 : Int) (b0 : (List Int)) (k : ByteArray → Prop) : Prop := j14 x4 b0 k
def j11' (x0 : Int) (x4 : Int) (b0 : (List Int)) (k : ByteArray → Prop) : Prop := j11 (fun x4 b0 => j14' x4 b0 k) x0 x4 b0 k
def j8' (ag5 : Int → Int → (List Int) → Prop) (x0 : Int) (x4 : Int) (x5 : Int) (x6 : Int) (b0 : (List Int)) (k : ByteArray → Prop) : Prop := j8 (fun x0 x4 b0 => j11' x0 x4 b0 k) (fun x0 x4 x5 b0 => j4' ag5 x0 x4 x5 b0 k) x0 x4 x5 x6 b0 k
def l5' (x0 : Int) (x4 : Int) (x5 : Int) (b0 : (List Int)) (k : ByteArray → Prop) : Prop := ∃ n, loopS (fun (ag : (Int × Int × (List Int)) → Prop) (s : Int × Int × (List Int)) => l5 (fun x0 x4 x5 x6 b0 => j8' (fun x4 x5 b0 => ag (x4, x5, b0)) x0 x4 x5 x6 b0 k) x0 s.1 s.2.1 s.2.2 k) n (x4, x5, b0)
def f0 (x0 : Int) (k : ByteArray → Prop) : Prop := c (fun x0 x4 x5 b0 => l5' x0 x4 x5 b0 k) x0 k
theorem f_ex : ∃ g : Int → (ByteArray → Prop) → Prop, g = f0 := ⟨_, rfl⟩
noncomputable def f : Int → (ByteArray → Prop) → Prop := Classical.choose f_ex
theorem f_def : f = f0 := Classical.choose_spec f_ex
def mL5 (x0 : Int) (x4 : Int) (x5 : Int) (b0 : (List Int)) : St := { tmps := mkT 35 0 [(0, (.v (.int IntKind.i64 x0))), (3, (.ptr 0 0)), (4, (.v (.int IntKind.i64 x4))), (5, (.v (.int IntKind.i64 x5)))], hp := [(.arr 114 20 (Ty.int IntKind.u8) b0 false)], m := 0 }
def m8 (x0 : Int) (x4 : Int) (x5 : Int) (x6 : Int) (b0 : (List Int)) : St := { tmps := mkT 35 0 [(0, (.v (.int IntKind.i64 x0))), (3, (.ptr 0 0)), (4, (.v (.int IntKind.i64 x4))), (5, (.v (.int IntKind.i64 x5))), (6, (.v (.int IntKind.i64 x6)))], hp := [(.arr 114 20 (Ty.int IntKind.u8) b0 false)], m := 0 }
def m11 (x0 : Int) (x4 : Int) (b0 : (List Int)) : St := { tmps := mkT 35 0 [(0, (.v (.int IntKind.i64 x0))), (3, (.ptr 0 0)), (4, (.v (.int IntKind.i64 x4)))], hp := [(.arr 114 20 (Ty.int IntKind.u8) b0 false)], m := 0 }
def m4 (x0 : Int) (x4 : Int) (x5 : Int) (b0 : (List Int)) : St := { tmps := mkT 35 0 [(0, (.v (.int IntKind.i64 x0))), (3, (.ptr 0 0)), (4, (.v (.int IntKind.i64 x4))), (5, (.v (.int IntKind.i64 x5)))], hp := [(.arr 114 20 (Ty.int IntKind.u8) b0 false)], m := 0 }
def m14 (x4 : Int) (b0 : (List Int)) : St := { tmps := mkT 35 0 [(3, (.ptr 0 0)), (4, (.v (.int IntKind.i64 x4)))], hp := [(.arr 114 20 (Ty.int IntKind.u8) b0 false)], m := 0 }
noncomputable def YL5 (k kp : D → List Blk → Prop) : (St → Prop) → St → Prop := loopB cfg (sub [1, 1, 1, 0, 1, 0, 0] body) (contK cfg (pick none' []) [1, 1, 1, 0, 1, 0] body (topK cfg Try.f62 k kp))
noncomputable def XL5 (k kp : D → List Blk → Prop) : St → Prop := fun st => ∃ n, loopN (YL5 k kp) n st
noncomputable def X8 (k kp : D → List Blk → Prop) (ag5 : St → Prop) : St → Prop := atP cfg (pick none' [(5, ag5)]) [1, 1, 1, 0, 1, 0, 0, 0, 0, 1, 1] body (topK cfg Try.f62 k kp)
noncomputable def X11 (k kp : D → List Blk → Prop) : St → Prop := atP cfg (pick none' []) [1, 1, 1, 1] body (topK cfg Try.f62 k kp)
noncomputable def X4 (k kp : D → List Blk → Prop) (ag5 : St → Prop) : St → Prop := atP cfg (pick none' [(5, ag5)]) [1, 1, 1, 0, 1, 0, 0, 1] body (topK cfg Try.f62 k kp)
noncomputable def X14 (k kp : D → List Blk → Prop) : St → Prop := atP cfg (pick none' []) [1, 1, 1, 1, 1] body (topK cfg Try.f62 k kp)
noncomputable def JJ_5 (k kp : D → List Blk → Prop) (ag5 : St → Prop) : Nat → St → Prop := pick none' [(8, X8 k kp ag5), (11, X11 k kp), (4, X4 k kp ag5), (14, X14 k kp)]
noncomputable def LL_5 (k kp : D → List Blk → Prop) (ag5 : St → Prop) : Nat → St → Prop := pick none' [(5, XL5 k kp)]
noncomputable def JJ (k kp : D → List Blk → Prop) : Nat → St → Prop := pick none' [(11, X11 k kp), (14, X14 k kp)]
noncomputable def LL (k kp : D → List Blk → Prop) : Nat → St → Prop := pick none' [(5, XL5 k kp)]
theorem j4_c (k kp : D → List Blk → Prop) (J L : Nat → St → Prop) (ag5 : St → Prop) (x0 : Int) (x4 : Int) (x5 : Int) (b0 : (List Int)) : runC cfg 4 J L (pick none' [(5, ag5)]) [1, 1, 1, 0, 1, 0, 0, 1] body (topK cfg Try.f62 k kp) (m4 x0 x4 x5 b0) = j4 (fun x4 x5 b0 => ag5 (mL5 x0 x4 x5 b0)) x0 x4 x5 b0 (fun y0 => k (.v (.string y0)) []) := by kernel_rfl
theorem j4_ag (k kp : D → List Blk → Prop) (ag5 : St → Prop) : agPL cfg 4 (JJ_5 k kp ag5) (LL_5 k kp ag5) [1, 1, 1, 0, 1, 0, 0, 1] body = agPR cfg 4 (pick none' [(5, ag5)]) [1, 1, 1, 0, 1, 0, 0, 1] body (topK cfg Try.f62 k kp) := by kernel_rfl
theorem j4_raw (k kp : D → List Blk → Prop) (ag5 : St → Prop) (x0 : Int) (x4 : Int) (x5 : Int) (b0 : (List Int)) : X4 k kp ag5 (m4 x0 x4 x5 b0) = j4 (fun x4 x5 b0 => ag5 (mL5 x0 x4 x5 b0)) x0 x4 x5 b0 (fun y0 => k (.v (.string y0)) []) :=
  Eq.mp (by kernel_rfl) ((atP_run (j4_ag k kp ag5) (m4 x0 x4 x5 b0)).trans (j4_c k kp (JJ_5 k kp ag5) (LL_5 k kp ag5) ag5 x0 x4 x5 b0))
theorem j4_eq (k kp : D → List Blk → Prop) (ag5 : St → Prop) (x0 : Int) (x4 : Int) (x5 : Int) (b0 : (List Int)) : X4 k kp ag5 (m4 x0 x4 x5 b0) = j4' (fun x4 x5 b0 => ag5 (mL5 x0 x4 x5 b0)) x0 x4 x5 b0 (fun y0 => k (.v (.string y0)) []) := by
  rw [j4_raw]; rfl
theorem j14_c (k kp : D → List Blk → Prop) (J L : Nat → St → Prop) (x4 : Int) (b0 : (List Int)) : runC cfg 14 J L (pick none' []) [1, 1, 1, 1, 1] body (topK cfg Try.f62 k kp) (m14 x4 b0) = j14 x4 b0 (fun y0 => k (.v (.string y0)) []) := by kernel_rfl
theorem j14_ag (k kp : D → List Blk → Prop) : agPL cfg 14 (JJ k kp) (LL k kp) [1, 1, 1, 1, 1] body = agPR cfg 14 (pick none' []) [1, 1, 1, 1, 1] body (topK cfg Try.f62 k kp) := by kernel_rfl
theorem j14_raw (k kp : D → List Blk → Prop) (x4 : Int) (b0 : (List Int)) : X14 k kp (m14 x4 b0) = j14 x4 b0 (fun y0 => k (.v (.string y0)) []) :=
  Eq.mp (by kernel_rfl) ((atP_run (j14_ag k kp) (m14 x4 b0)).trans (j14_c k kp (JJ k kp) (LL k kp) x4 b0))
theorem j14_eq (k kp : D → List Blk → Prop) (x4 : Int) (b0 : (List Int)) : X14 k kp (m14 x4 b0) = j14' x4 b0 (fun y0 => k (.v (.string y0)) []) := by
  rw [j14_raw]; rfl
theorem j11_c (k kp : D → List Blk → Prop) (J L : Nat → St → Prop) (x0 : Int) (x4 : Int) (b0 : (List Int)) : runC cfg 11 J L (pick none' []) [1, 1, 1, 1] body (topK cfg Try.f62 k kp) (m11 x0 x4 b0) = j11 (fun x4 b0 => J 14 (m14 x4 b0)) x0 x4 b0 (fun y0 => k (.v (.string y0)) []) := by kernel_rfl
theorem j11_ag (k kp : D → List Blk → Prop) : agPL cfg 11 (JJ k kp) (LL k kp) [1, 1, 1, 1] body = agPR cfg 11 (pick none' []) [1, 1, 1, 1] body (topK cfg Try.f62 k kp) := by kernel_rfl
theorem j11_raw (k kp : D → List Blk → Prop) (x0 : Int) (x4 : Int) (b0 : (List Int)) : X11 k kp (m11 x0 x4 b0) = j11 (fun x4 b0 => X14 k kp (m14 x4 b0)) x0 x4 b0 (fun y0 => k (.v (.string y0)) []) :=
  Eq.mp (by kernel_rfl) ((atP_run (j11_ag k kp) (m11 x0 x4 b0)).trans (j11_c k kp (JJ k kp) (LL k kp) x0 x4 b0))
theorem j11_eq (k kp : D → List Blk → Prop) (x0 : Int) (x4 : Int) (b0 : (List Int)) : X11 k kp (m11 x0 x4 b0) = j11' x0 x4 b0 (fun y0 => k (.v (.string y0)) []) := by
  rw [j11_raw]; simp only [j14_eq]; first | done | rfl
theorem j8_c (k kp : D → List Blk → Prop) (J L : Nat → St → Prop) (ag5 : St → Prop) (x0 : Int) (x4 : Int) (x5 : Int) (x6 : Int) (b0 : (List Int)) : runC cfg 8 J L (pick none' [(5, ag5)]) [1, 1, 1, 0, 1, 0, 0, 0, 0, 1, 1] body (topK cfg Try.f62 k kp) (m8 x0 x4 x5 x6 b0) = j8 (fun x0 x4 b0 => J 11 (m11 x0 x4 b0)) (fun x0 x4 x5 b0 => J 4 (m4 x0 x4 x5 b0)) x0 x4 x5 x6 b0 (fun y0 => k (.v (.string y0)) []) := by kernel_rfl
theorem j8_ag (k kp : D → List Blk → Prop) (ag5 : St → Prop) : agPL cfg 8 (JJ_5 k kp ag5) (LL_5 k kp ag5) [1, 1, 1, 0, 1, 0, 0, 0, 0, 1, 1] body = agPR cfg 8 (pick none' [(5, ag5)]) [1, 1, 1, 0, 1, 0, 0, 0, 0, 1, 1] body (topK cfg Try.f62 k kp) := by kernel_rfl
theorem j8_raw (k kp : D → List Blk → Prop) (ag5 : St → Prop) (x0 : Int) (x4 : Int) (x5 : Int) (x6 : Int) (b0 : (List Int)) : X8 k kp ag5 (m8 x0 x4 x5 x6 b0) = j8 (fun x0 x4 b0 => X11 k kp (m11 x0 x4 b0)) (fun x0 x4 x5 b0 => X4 k kp ag5 (m4 x0 x4 x5 b0)) x0 x4 x5 x6 b0 (fun y0 => k (.v (.string y0)) []) :=
  Eq.mp (by kernel_rfl) ((atP_run (j8_ag k kp ag5) (m8 x0 x4 x5 x6 b0)).trans (j8_c k kp (JJ_5 k kp ag5) (LL_5 k kp ag5) ag5 x0 x4 x5 x6 b0))
theorem j8_eq (k kp : D → List Blk → Prop) (ag5 : St → Prop) (x0 : Int) (x4 : Int) (x5 : Int) (x6 : Int) (b0 : (List Int)) : X8 k kp ag5 (m8 x0 x4 x5 x6 b0) = j8' (fun x4 x5 b0 => ag5 (mL5 x0 x4 x5 b0)) x0 x4 x5 x6 b0 (fun y0 => k (.v (.string y0)) []) := by
  rw [j8_raw]; simp only [j11_eq, j4_eq]; first | done | rfl
theorem l5_c (k kp : D → List Blk → Prop) (J L : Nat → St → Prop) (ag5 : St → Prop) (x0 : Int) (x4 : Int) (x5 : Int) (b0 : (List Int)) : runC cfg 1000001 J L (pick none' [(5, ag5)]) [1, 1, 1, 0, 1, 0, 0] body (topK cfg Try.f62 k kp) (mL5 x0 x4 x5 b0) = l5 (fun x0 x4 x5 x6 b0 => J 8 (m8 x0 x4 x5 x6 b0)) x0 x4 x5 b0 (fun y0 => k (.v (.string y0)) []) := by kernel_rfl
theorem l5_ag (k kp : D → List Blk → Prop) (ag5 : St → Prop) : agPL cfg 1000001 (JJ_5 k kp ag5) (LL_5 k kp ag5) [1, 1, 1, 0, 1, 0, 0] body = agPR cfg 1000001 (pick none' [(5, ag5)]) [1, 1, 1, 0, 1, 0, 0] body (topK cfg Try.f62 k kp) := by kernel_rfl
theorem l5_raw (k kp : D → List Blk → Prop) (ag5 : St → Prop) (x0 : Int) (x4 : Int) (x5 : Int) (b0 : (List Int)) : YL5 k kp ag5 (mL5 x0 x4 x5 b0) = l5 (fun x0 x4 x5 x6 b0 => X8 k kp ag5 (m8 x0 x4 x5 x6 b0)) x0 x4 x5 b0 (fun y0 => k (.v (.string y0)) []) :=
  Eq.mp (by kernel_rfl) ((atP_run (l5_ag k kp ag5) (mL5 x0 x4 x5 b0)).trans (l5_c k kp (JJ_5 k kp ag5) (LL_5 k kp ag5) ag5 x0 x4 x5 b0))
theorem l5_eq (k kp : D → List Blk → Prop) (x0 : Int) (x4 : Int) (x5 : Int) (b0 : (List Int)) : XL5 k kp (mL5 x0 x4 x5 b0) = l5' x0 x4 x5 b0 (fun y0 => k (.v (.string y0)) []) :=
  loop_eq (mk := fun (s : Int × Int × (List Int)) => mL5 x0 s.1 s.2.1 s.2.2) (fun again s => by rw [l5_raw k kp again x0 s.1 s.2.1 s.2.2]; simp only [j8_eq]; first | done | rfl) (x4, x5, b0)
theorem c_c (k kp : D → List Blk → Prop) (J L : Nat → St → Prop) (x0 : Int) : runC cfg 1000001 J L none'' [] body (topK cfg Try.f62 k kp) (st0 Try.f62 [(.v (.int IntKind.i64 x0))] []) = c (fun x0 x4 x5 b0 => L 5 (mL5 x0 x4 x5 b0)) x0 (fun y0 => k (.v (.string y0)) []) := by kernel_rfl
theorem c_ag (k kp : D → List Blk → Prop) : agPL cfg 1000001 (JJ k kp) (LL k kp) [] body = agPR cfg 1000001 none'' [] body (topK cfg Try.f62 k kp) := by kernel_rfl
theorem body_is : Try.f62.body = some body := by kernel_rfl
theorem c_raw (k kp : D → List Blk → Prop) (x0 : Int) : funW cfg Try.f62 [(.v (.int IntKind.i64 x0))] [] k kp = c (fun x0 x4 x5 b0 => XL5 k kp (mL5 x0 x4 x5 b0)) x0 (fun y0 => k (.v (.string y0)) []) :=
  Eq.mp (by kernel_rfl) ((funW_run (AG := none'') body_is (c_ag k kp) [(.v (.int IntKind.i64 x0))] []).trans (c_c k kp (JJ k kp) (LL k kp) x0))
theorem f_eq (k kp : D → List Blk → Prop) (x0 : Int) : funW cfg Try.f62 [(.v (.int IntKind.i64 x0))] [] k kp = f x0 (fun y0 => k (.v (.string y0)) []) := by
  rw [f_def, c_raw]; simp only [l5_eq]; first | done | rfl
noncomputable def ent0 : Entry := fun args blks k _ => match args, blks with
  | [d0], [] => aInt IntKind.i64 d0 fun x0 => f x0 (fun y0 => k (.v (.string y0)) [])
  | _, _ => False
noncomputable def ent : Entry := fun args blks k kp => ent0 (convA [none] args) blks k kp
theorem ok : EntOk Try.prog 0 0 62 ent := by
  refine EntOk.conv (EntOk.of (funW_ok (cfg := cfg) (tyOk_of rfl rfl tyL_ok) (eqOk_of (P := Try.prog) rfl rfl (by kernel_rfl)) mixed_ok (tab_ok ?_) Try.func62 (by rfl) (by rfl)) ?_) _
  · intro p hp
    cases hp
  · intro args blks k kp h k' kp'
    match args, blks, h with
    | [d0], [], h =>
    dsimp only [ent0] at h
    have h9 := aInt_elim h; clear h; obtain ⟨x0, rfl, h⟩ := h9
    exact (f_eq k' kp' x0).symm
end N62
end Go.Proofs.Yu
namespace Go.Proofs.Yu
open Go Go.Aw Go.Proofs
set_option linter.unusedVariables false
set_option linter.unusedSimpArgs false
set_option maxRecDepth 100000
/-! dyehouse/dyehouseref02.digits -/
namespace N84
noncomputable def cfg : Cfg := { P := Try.prog, ty := tys, E := tab [], atSeq := tab [(3, ⟨[(0, .keep), (3, .keep)]⟩), (5, ⟨[(3, .keep)]⟩)], atLoop := tab [(2, ⟨[(0, .keep), (3, .own 5 (Ty.int IntKind.u8))]⟩)], outs := [], eqT := tab [] }
noncomputable def body : Code := bodyOf Try.f84
def l2 (j3 : Int → (List Int) → Prop) (j5 : (List Int) → Prop) (x0 : Int) (b0 : (List Int)) (k : (List Int) → Prop) : Prop :=
  (br (decide (x0 > (0 : Int))) (j3 x0 b0) (br (((((b0).length : Nat) : Int)) == (0 : Int)) (j3 x0 b0) (j5 b0)))
def j3 (ag2 : Int → (List Int) → Prop) (x0 : Int) (b0 : (List Int)) (k : (List Int) → Prop) : Prop :=
  (((10 : Int) ≠ 0) ∧ ((room ((b0).length + (([(IntKind.u8.wrap (IntKind.u64.wrap ((48 : Int) + (Int.tmod x0 (10 : Int)))))] : List Int)).length) 1) ∧ (((10 : Int) ≠ 0) ∧ (ag2 (IntKind.u64.wrap (Int.tdiv x0 (10 : Int))) (b0 ++ ([(IntKind.u8.wrap (IntKind.u64.wrap ((48 : Int) + (Int.tmod x0 (10 : Int)))))] : List Int))))))
def j5 (b0 : (List Int)) (k : (List Int) → Prop) : Prop :=
  (k b0)
def c (l2 : Int → (List Int) → Prop) (x0 : Int) (k : (List Int) → Prop) : Prop :=
  (l2 x0 ([] : List Int))
def j3' (ag2 : Int → (List Int) → Prop) (x0 : Int) (b0 : (List Int)) (k : (List Int) → Prop) : Prop := j3 ag2 x0 b0 k
def j5' (b0 : (List Int)) (k : (List Int) → Prop) : Prop := j5 b0 k
def l2' (x0 : Int) (b0 : (List Int)) (k : (List Int) → Prop) : Prop := ∃ n, loopS (fun (ag : (Int × (List Int)) → Prop) (s : Int × (List Int)) => l2 (fun x0 b0 => j3' (fun x0 b0 => ag (x0, b0)) x0 b0 k) (fun b0 => j5' b0 k) s.1 s.2 k) n (x0, b0)
def f0 (x0 : Int) (k : (List Int) → Prop) : Prop := c (fun x0 b0 => l2' x0 b0 k) x0 k
theorem f_ex : ∃ g : Int → ((List Int) → Prop) → Prop, g = f0 := ⟨_, rfl⟩
noncomputable def f : Int → ((List Int) → Prop) → Prop := Classical.choose f_ex
theorem f_def : f = f0 := Classical.choose_spec f_ex
def mL2 (x0 : Int) (b0 : (List Int)) : St := { tmps := mkT 21 0 [(0, (.v (.int IntKind.u64 x0))), (3, (.sl 0 0))], hp := [(.lst 5 (Ty.int IntKind.u8) b0 0 false)], m := 0 }
def m3 (x0 : Int) (b0 : (List Int)) : St := { tmps := mkT 21 0 [(0, (.v (.int IntKind.u64 x0))), (3, (.sl 0 0))], hp := [(.lst 5 (Ty.int IntKind.u8) b0 0 false)], m := 0 }
def m5 (b0 : (List Int)) : St := { tmps := mkT 21 0 [(3, (.sl 0 0))], hp := [(.lst 5 (Ty.int IntKind.u8) b0 0 false)], m := 0 }
noncomputable def YL2 (k kp : D → List Blk → Prop) : (St → Prop) → St → Prop := loopB cfg (sub [1, 1, 0, 0, 0] body) (contK cfg (pick none' []) [1, 1, 0, 0] body (topK cfg Try.f84 k kp))
noncomputable def XL2 (k kp : D → List Blk → Prop) : St → Prop := fun st => ∃ n, loopN (YL2 k kp) n st
noncomputable def X3 (k kp : D → List Blk → Prop) (ag2 : St → Prop) : St → Prop := atP cfg (pick none' [(2, ag2)]) [1, 1, 0, 0, 0, 1] body (topK cfg Try.f84 k kp)
noncomputable def X5 (k kp : D → List Blk → Prop) : St → Prop := atP cfg (pick none' []) [1, 1, 1] body (topK cfg Try.f84 k kp)
noncomputable def JJ_2 (k kp : D → List Blk → Prop) (ag2 : St → Prop) : Nat → St → Prop := pick none' [(3, X3 k kp ag2), (5, X5 k kp)]
noncomputable def LL_2 (k kp : D → List Blk → Prop) (ag2 : St → Prop) : Nat → St → Prop := pick none' [(2, XL2 k kp)]
noncomputable def JJ (k kp : D → List Blk → Prop) : Nat → St → Prop := pick none' [(5, X5 k kp)]
noncomputable def LL (k kp : D → List Blk → Prop) : Nat → St → Prop := pick none' [(2, XL2 k kp)]
theorem j3_c (k kp : D → List Blk → Prop) (J L : Nat → St → Prop) (ag2 : St → Prop) (x0 : Int) (b0 : (List Int)) : runC cfg 3 J L (pick none' [(2, ag2)]) [1, 1, 0, 0, 0, 1] body (topK cfg Try.f84 k kp) (m3 x0 b0) = j3 (fun x0 b0 => ag2 (mL2 x0 b0)) x0 b0 (fun z0 => k (.sl 0 0) [(.lst 5 (Ty.int IntKind.u8) z0 0 false)]) := by kernel_rfl
theorem j3_ag (k kp : D → List Blk → Prop) (ag2 : St → Prop) : agPL cfg 3 (JJ_2 k kp ag2) (LL_2 k kp ag2) [1, 1, 0, 0, 0, 1] body = agPR cfg 3 (pick none' [(2, ag2)]) [1, 1, 0, 0, 0, 1] body (topK cfg Try.f84 k kp) := by kernel_rfl
theorem j3_raw (k kp : D → List Blk → Prop) (ag2 : St → Prop) (x0 : Int) (b0 : (List Int)) : X3 k kp ag2 (m3 x0 b0) = j3 (fun x0 b0 => ag2 (mL2 x0 b0)) x0 b0 (fun z0 => k (.sl 0 0) [(.lst 5 (Ty.int IntKind.u8) z0 0 false)]) :=
  Eq.mp (by kernel_rfl) ((atP_run (j3_ag k kp ag2) (m3 x0 b0)).trans (j3_c k kp (JJ_2 k kp ag2) (LL_2 k kp ag2) ag2 x0 b0))
theorem j3_eq (k kp : D → List Blk → Prop) (ag2 : St → Prop) (x0 : Int) (b0 : (List Int)) : X3 k kp ag2 (m3 x0 b0) = j3' (fun x0 b0 => ag2 (mL2 x0 b0)) x0 b0 (fun z0 => k (.sl 0 0) [(.lst 5 (Ty.int IntKind.u8) z0 0 false)]) := by
  rw [j3_raw]; rfl
theorem j5_c (k kp : D → List Blk → Prop) (J L : Nat → St → Prop) (b0 : (List Int)) : runC cfg 5 J L (pick none' []) [1, 1, 1] body (topK cfg Try.f84 k kp) (m5 b0) = j5 b0 (fun z0 => k (.sl 0 0) [(.lst 5 (Ty.int IntKind.u8) z0 0 false)]) := by kernel_rfl
theorem j5_ag (k kp : D → List Blk → Prop) : agPL cfg 5 (JJ k kp) (LL k kp) [1, 1, 1] body = agPR cfg 5 (pick none' []) [1, 1, 1] body (topK cfg Try.f84 k kp) := by kernel_rfl
theorem j5_raw (k kp : D → List Blk → Prop) (b0 : (List Int)) : X5 k kp (m5 b0) = j5 b0 (fun z0 => k (.sl 0 0) [(.lst 5 (Ty.int IntKind.u8) z0 0 false)]) :=
  Eq.mp (by kernel_rfl) ((atP_run (j5_ag k kp) (m5 b0)).trans (j5_c k kp (JJ k kp) (LL k kp) b0))
theorem j5_eq (k kp : D → List Blk → Prop) (b0 : (List Int)) : X5 k kp (m5 b0) = j5' b0 (fun z0 => k (.sl 0 0) [(.lst 5 (Ty.int IntKind.u8) z0 0 false)]) := by
  rw [j5_raw]; rfl
theorem l2_c (k kp : D → List Blk → Prop) (J L : Nat → St → Prop) (ag2 : St → Prop) (x0 : Int) (b0 : (List Int)) : runC cfg 1000001 J L (pick none' [(2, ag2)]) [1, 1, 0, 0, 0] body (topK cfg Try.f84 k kp) (mL2 x0 b0) = l2 (fun x0 b0 => J 3 (m3 x0 b0)) (fun b0 => J 5 (m5 b0)) x0 b0 (fun z0 => k (.sl 0 0) [(.lst 5 (Ty.int IntKind.u8) z0 0 false)]) := by kernel_rfl
theorem l2_ag (k kp : D → List Blk → Prop) (ag2 : St → Prop) : agPL cfg 1000001 (JJ_2 k kp ag2) (LL_2 k kp ag2) [1, 1, 0, 0, 0] body = agPR cfg 1000001 (pick none' [(2, ag2)]) [1, 1, 0, 0, 0] body (topK cfg Try.f84 k kp) := by kernel_rfl
theorem l2_raw (k kp : D → List Blk → Prop) (ag2 : St → Prop) (x0 : Int) (b0 : (List Int)) : YL2 k kp ag2 (mL2 x0 b0) = l2 (fun x0 b0 => X3 k kp ag2 (m3 x0 b0)) (fun b0 => X5 k kp (m5 b0)) x0 b0 (fun z0 => k (.sl 0 0) [(.lst 5 (Ty.int IntKind.u8) z0 0 false)]) :=
  Eq.mp (by kernel_rfl) ((atP_run (l2_ag k kp ag2) (mL2 x0 b0)).trans (l2_c k kp (JJ_2 k kp ag2) (LL_2 k kp ag2) ag2 x0 b0))
theorem l2_eq (k kp : D → List Blk → Prop) (x0 : Int) (b0 : (List Int)) : XL2 k kp (mL2 x0 b0) = l2' x0 b0 (fun z0 => k (.sl 0 0) [(.lst 5 (Ty.int IntKind.u8) z0 0 false)]) :=
  loop_eq (mk := fun (s : Int × (List Int)) => mL2 s.1 s.2) (fun again s => by rw [l2_raw k kp again s.1 s.2]; simp only [j3_eq, j5_eq]; first | done | rfl) (x0, b0)
theorem c_c (k kp : D → List Blk → Prop) (J L : Nat → St → Prop) (x0 : Int) : runC cfg 1000001 J L none'' [] body (topK cfg Try.f84 k kp) (st0 Try.f84 [(.v (.int IntKind.u64 x0))] []) = c (fun x0 b0 => L 2 (mL2 x0 b0)) x0 (fun z0 => k (.sl 0 0) [(.lst 5 (Ty.int IntKind.u8) z0 0 false)]) := by kernel_rfl
theorem c_ag (k kp : D → List Blk → Prop) : agPL cfg 1000001 (JJ k kp) (LL k kp) [] body = agPR cfg 1000001 none'' [] body (topK cfg Try.f84 k kp) := by kernel_rfl
theorem body_is : Try.f84.body = some body := by kernel_rfl
theorem c_raw (k kp : D → List Blk → Prop) (x0 : Int) : funW cfg Try.f84 [(.v (.int IntKind.u64 x0))] [] k kp = c (fun x0 b0 => XL2 k kp (mL2 x0 b0)) x0 (fun z0 => k (.sl 0 0) [(.lst 5 (Ty.int IntKind.u8) z0 0 false)]) :=
  Eq.mp (by kernel_rfl) ((funW_run (AG := none'') body_is (c_ag k kp) [(.v (.int IntKind.u64 x0))] []).trans (c_c k kp (JJ k kp) (LL k kp) x0))
theorem f_eq (k kp : D → List Blk → Prop) (x0 : Int) : funW cfg Try.f84 [(.v (.int IntKind.u64 x0))] [] k kp = f x0 (fun z0 => k (.sl 0 0) [(.lst 5 (Ty.int IntKind.u8) z0 0 false)]) := by
  rw [f_def, c_raw]; simp only [l2_eq]; first | done | rfl
noncomputable def ent0 : Entry := fun args blks k _ => match args, blks with
  | [d0], [] => aInt IntKind.u64 d0 fun x0 => f x0 (fun z0 => k (.sl 0 0) [(.lst 5 (Ty.int IntKind.u8) z0 0 false)])
  | _, _ => False
noncomputable def ent : Entry := fun args blks k kp => ent0 (convA [none] args) blks k kp
theorem ok : EntOk Try.prog 0 0 84 ent := by
  refine EntOk.conv (EntOk.of (funW_ok (cfg := cfg) (tyOk_of rfl rfl tyL_ok) (eqOk_of (P := Try.prog) rfl rfl (by kernel_rfl)) mixed_ok (tab_ok ?_) Try.func84 (by rfl) (by rfl)) ?_) _
  · intro p hp
    cases hp
  · intro args blks k kp h k' kp'
    match args, blks, h with
    | [d0], [], h =>
    dsimp only [ent0] at h
    have h9 := aInt_elim h; clear h; obtain ⟨x0, rfl, h⟩ := h9
    exact (f_eq k' kp' x0).symm
end N84
end Go.Proofs.Yu
namespace Go.Proofs.Yu
open Go Go.Aw Go.Proofs
set_option linter.unusedVariables false
set_option linter.unusedSimpArgs false
set_option maxRecDepth 100000
/-! dyehouse/dyehouseref02.Put -/
namespace N63
noncomputable def cfg : Cfg := { P := Try.prog, ty := tys, E := tab [(84, N84.ent)], atSeq := tab [(6, ⟨[(3, .keep), (4, .keep)]⟩), (11, ⟨[(4, .keep)]⟩)], atLoop := tab [(8, ⟨[(4, .keep), (5, .keep), (6, .keep)]⟩)], outs := [], eqT := tab [] }
noncomputable def body : Code := bodyOf Try.f63
def j6 (l8 : ByteArray → Int → (List Int) → Prop) (x3 : Int) (x4 : ByteArray) (k : ByteArray → Prop) : Prop :=
  (N84.f x3 (fun (z0_0 : (List Int)) => (l8 x4 (IntKind.i64.wrap (((((z0_0).length : Nat) : Int)) - (1 : Int))) z0_0)))
def l8 (j11 : ByteArray → Prop) (ag8 : ByteArray → Int → (List Int) → Prop) (x4 : ByteArray) (x6 : Int) (b0 : (List Int)) (k : ByteArray → Prop) : Prop :=
  (br (decide (x6 ≥ (0 : Int))) ((inB 0 x6 ((((b0).length : Nat) : Int) - 1)) ∧ (((x4).size + ((bytesOf ([(b0.getD (Int.toNat x6) (0))] : List Int))).size ≤ 9223372036854775807) ∧ (ag8 (x4 ++ (bytesOf ([(b0.getD (Int.toNat x6) (0))] : List Int))) (IntKind.i64.wrap (x6 - (1 : Int))) b0))) (j11 x4))
def j11 (x4 : ByteArray) (k : ByteArray → Prop) : Prop :=
  (k x4)
def c (j6 : Int → ByteArray → Prop) (x0 : Int) (k : ByteArray → Prop) : Prop :=
  (br (decide (x0 < (0 : Int))) (j6 (IntKind.u64.wrap (0 - (IntKind.u64.wrap x0))) (ByteArray.mk #[45])) (j6 (IntKind.u64.wrap x0) (ByteArray.mk #[])))
def j11' (x4 : ByteArray) (k : ByteArray → Prop) : Prop := j11 x4 k
def l8' (x4 : ByteArray) (x6 : Int) (b0 : (List Int)) (k : ByteArray → Prop) : Prop := ∃ n, loopS (fun (ag : (ByteArray × Int × (List Int)) → Prop) (s : ByteArray × Int × (List Int)) => l8 (fun x4 => j11' x4 k) (fun x4 x6 b0 => ag (x4, x6, b0)) s.1 s.2.1 s.2.2 k) n (x4, x6, b0)
def j6' (x3 : Int) (x4 : ByteArray) (k : ByteArray → Prop) : Prop := j6 (fun x4 x6 b0 => l8' x4 x6 b0 k) x3 x4 k
def f0 (x0 : Int) (k : ByteArray → Prop) : Prop := c (fun x3 x4 => j6' x3 x4 k) x0 k
theorem f_ex : ∃ g : Int → (ByteArray → Prop) → Prop, g = f0 := ⟨_, rfl⟩
noncomputable def f : Int → (ByteArray → Prop) → Prop := Classical.choose f_ex
theorem f_def : f = f0 := Classical.choose_spec f_ex
def m6 (x3 : Int) (x4 : ByteArray) : St := { tmps := mkT 31 0 [(3, (.v (.int IntKind.u64 x3))), (4, (.v (.string x4)))], hp := [], m := 0 }
def mL8 (x4 : ByteArray) (x6 : Int) (b0 : (List Int)) : St := { tmps := mkT 31 0 [(4, (.v (.string x4))), (5, (.sl 0 0)), (6, (.v (.int IntKind.i64 x6)))], hp := [(.lst 5 (Ty.int IntKind.u8) b0 0 false)], m := 0 }
def m11 (x4 : ByteArray) : St := { tmps := mkT 31 0 [(4, (.v (.string x4)))], hp := [], m := 0 }
noncomputable def X6 (k kp : D → List Blk → Prop) : St → Prop := atP cfg (pick none' []) [1, 1, 1, 1] body (topK cfg Try.f63 k kp)
noncomputable def YL8 (k kp : D → List Blk → Prop) : (St → Prop) → St → Prop := loopB cfg (sub [1, 1, 1, 1, 1, 0, 1, 0, 0] body) (contK cfg (pick none' []) [1, 1, 1, 1, 1, 0, 1, 0] body (topK cfg Try.f63 k kp))
noncomputable def XL8 (k kp : D → List Blk → Prop) : St → Prop := fun st => ∃ n, loopN (YL8 k kp) n st
noncomputable def X11 (k kp : D → List Blk → Prop) : St → Prop := atP cfg (pick none' []) [1, 1, 1, 1, 1, 1] body (topK cfg Try.f63 k kp)
noncomputable def JJ (k kp : D → List Blk → Prop) : Nat → St → Prop := pick none' [(6, X6 k kp), (11, X11 k kp)]
noncomputable def LL (k kp : D → List Blk → Prop) : Nat → St → Prop := pick none' [(8, XL8 k kp)]
noncomputable def JJ_8 (k kp : D → List Blk → Prop) (ag8 : St → Prop) : Nat → St → Prop := pick none' [(6, X6 k kp), (11, X11 k kp)]
noncomputable def LL_8 (k kp : D → List Blk → Prop) (ag8 : St → Prop) : Nat → St → Prop := pick none' [(8, XL8 k kp)]
theorem j11_c (k kp : D → List Blk → Prop) (J L : Nat → St → Prop) (x4 : ByteArray) : runC cfg 11 J L (pick none' []) [1, 1, 1, 1, 1, 1] body (topK cfg Try.f63 k kp) (m11 x4) = j11 x4 (fun y0 => k (.v (.string y0)) []) := by kernel_rfl
theorem j11_ag (k kp : D → List Blk → Prop) : agPL cfg 11 (JJ k kp) (LL k kp) [1, 1, 1, 1, 1, 1] body = agPR cfg 11 (pick none' []) [1, 1, 1, 1, 1, 1] body (topK cfg Try.f63 k kp) := by kernel_rfl
theorem j11_raw (k kp : D → List Blk → Prop) (x4 : ByteArray) : X11 k kp (m11 x4) = j11 x4 (fun y0 => k (.v (.string y0)) []) :=
  Eq.mp (by kernel_rfl) ((atP_run (j11_ag k kp) (m11 x4)).trans (j11_c k kp (JJ k kp) (LL k kp) x4))
theorem j11_eq (k kp : D → List Blk → Prop) (x4 : ByteArray) : X11 k kp (m11 x4) = j11' x4 (fun y0 => k (.v (.string y0)) []) := by
  rw [j11_raw]; rfl
theorem l8_c (k kp : D → List Blk → Prop) (J L : Nat → St → Prop) (ag8 : St → Prop) (x4 : ByteArray) (x6 : Int) (b0 : (List Int)) : runC cfg 1000001 J L (pick none' [(8, ag8)]) [1, 1, 1, 1, 1, 0, 1, 0, 0] body (topK cfg Try.f63 k kp) (mL8 x4 x6 b0) = l8 (fun x4 => J 11 (m11 x4)) (fun x4 x6 b0 => ag8 (mL8 x4 x6 b0)) x4 x6 b0 (fun y0 => k (.v (.string y0)) []) := by kernel_rfl
theorem l8_ag (k kp : D → List Blk → Prop) (ag8 : St → Prop) : agPL cfg 1000001 (JJ_8 k kp ag8) (LL_8 k kp ag8) [1, 1, 1, 1, 1, 0, 1, 0, 0] body = agPR cfg 1000001 (pick none' [(8, ag8)]) [1, 1, 1, 1, 1, 0, 1, 0, 0] body (topK cfg Try.f63 k kp) := by kernel_rfl
theorem l8_raw (k kp : D → List Blk → Prop) (ag8 : St → Prop) (x4 : ByteArray) (x6 : Int) (b0 : (List Int)) : YL8 k kp ag8 (mL8 x4 x6 b0) = l8 (fun x4 => X11 k kp (m11 x4)) (fun x4 x6 b0 => ag8 (mL8 x4 x6 b0)) x4 x6 b0 (fun y0 => k (.v (.string y0)) []) :=
  Eq.mp (by kernel_rfl) ((atP_run (l8_ag k kp ag8) (mL8 x4 x6 b0)).trans (l8_c k kp (JJ_8 k kp ag8) (LL_8 k kp ag8) ag8 x4 x6 b0))
theorem l8_eq (k kp : D → List Blk → Prop) (x4 : ByteArray) (x6 : Int) (b0 : (List Int)) : XL8 k kp (mL8 x4 x6 b0) = l8' x4 x6 b0 (fun y0 => k (.v (.string y0)) []) :=
  loop_eq (mk := fun (s : ByteArray × Int × (List Int)) => mL8 s.1 s.2.1 s.2.2) (fun again s => by rw [l8_raw k kp again s.1 s.2.1 s.2.2]; simp only [j11_eq]; first | done | rfl) (x4, x6, b0)
theorem j6_c (k kp : D → List Blk → Prop) (J L : Nat → St → Prop) (x3 : Int) (x4 : ByteArray) : runC cfg 6 J L (pick none' []) [1, 1, 1, 1] body (topK cfg Try.f63 k kp) (m6 x3 x4) = j6 (fun x4 x6 b0 => L 8 (mL8 x4 x6 b0)) x3 x4 (fun y0 => k (.v (.string y0)) []) := by kernel_rfl
theorem j6_ag (k kp : D → List Blk → Prop) : agPL cfg 6 (JJ k kp) (LL k kp) [1, 1, 1, 1] body = agPR cfg 6 (pick none' []) [1, 1, 1, 1] body (topK cfg Try.f63 k kp) := by kernel_rfl
theorem j6_raw (k kp : D → List Blk → Prop) (x3 : Int) (x4 : ByteArray) : X6 k kp (m6 x3 x4) = j6 (fun x4 x6 b0 => XL8 k kp (mL8 x4 x6 b0)) x3 x4 (fun y0 => k (.v (.string y0)) []) :=
  Eq.mp (by kernel_rfl) ((atP_run (j6_ag k kp) (m6 x3 x4)).trans (j6_c k kp (JJ k kp) (LL k kp) x3 x4))
theorem j6_eq (k kp : D → List Blk → Prop) (x3 : Int) (x4 : ByteArray) : X6 k kp (m6 x3 x4) = j6' x3 x4 (fun y0 => k (.v (.string y0)) []) := by
  rw [j6_raw]; simp only [l8_eq]; first | done | rfl
theorem c_c (k kp : D → List Blk → Prop) (J L : Nat → St → Prop) (x0 : Int) : runC cfg 1000001 J L none'' [] body (topK cfg Try.f63 k kp) (st0 Try.f63 [(.v (.int IntKind.i64 x0))] []) = c (fun x3 x4 => J 6 (m6 x3 x4)) x0 (fun y0 => k (.v (.string y0)) []) := by kernel_rfl
theorem c_ag (k kp : D → List Blk → Prop) : agPL cfg 1000001 (JJ k kp) (LL k kp) [] body = agPR cfg 1000001 none'' [] body (topK cfg Try.f63 k kp) := by kernel_rfl
theorem body_is : Try.f63.body = some body := by kernel_rfl
theorem c_raw (k kp : D → List Blk → Prop) (x0 : Int) : funW cfg Try.f63 [(.v (.int IntKind.i64 x0))] [] k kp = c (fun x3 x4 => X6 k kp (m6 x3 x4)) x0 (fun y0 => k (.v (.string y0)) []) :=
  Eq.mp (by kernel_rfl) ((funW_run (AG := none'') body_is (c_ag k kp) [(.v (.int IntKind.i64 x0))] []).trans (c_c k kp (JJ k kp) (LL k kp) x0))
theorem f_eq (k kp : D → List Blk → Prop) (x0 : Int) : funW cfg Try.f63 [(.v (.int IntKind.i64 x0))] [] k kp = f x0 (fun y0 => k (.v (.string y0)) []) := by
  rw [f_def, c_raw]; simp only [j6_eq]; first | done | rfl
noncomputable def ent0 : Entry := fun args blks k _ => match args, blks with
  | [d0], [] => aInt IntKind.i64 d0 fun x0 => f x0 (fun y0 => k (.v (.string y0)) [])
  | _, _ => False
noncomputable def ent : Entry := fun args blks k kp => ent0 (convA [none] args) blks k kp
theorem ok : EntOk Try.prog 0 0 63 ent := by
  refine EntOk.conv (EntOk.of (funW_ok (cfg := cfg) (tyOk_of rfl rfl tyL_ok) (eqOk_of (P := Try.prog) rfl rfl (by kernel_rfl)) mixed_ok (tab_ok ?_) Try.func63 (by rfl) (by rfl)) ?_) _
  · intro p hp
    simp only [List.mem_cons, List.not_mem_nil, or_false] at hp
    rcases hp with rfl
    · exact N84.ok
  · intro args blks k kp h k' kp'
    match args, blks, h with
    | [d0], [], h =>
    dsimp only [ent0] at h
    have h9 := aInt_elim h; clear h; obtain ⟨x0, rfl, h⟩ := h9
    exact (f_eq k' kp' x0).symm
end N63
end Go.Proofs.Yu
namespace Go.Proofs.Yu
open Go Go.Aw Go.Proofs Go.RowKit
set_option linter.unusedVariables false
set_option linter.unusedSimpArgs false

/-- A number's text. -/
def putL (n : Int) : List Int := (if n < 0 then [45] else []) ++ (dl 20 n.natAbs).reverse

theorem put_s (n : Int) (hn : in64 n) (k : ByteArray → Prop) (h : k (bytesOf (putL n))) : N62.f n k := by
  unfold in64 at hn
  rw [N62.f_def]
  unfold N62.f0 N62.c N62.l5'
  refine loopS_of (fun s : Int × Int × List Int => ∃ a : Nat, s.1 = (a : Int) + 1 ∧ 1 ≤ a ∧ a < 20 ∧ s.2.2.length = 20 ∧ s.2.1.natAbs < 10 ^ a ∧ (n < 0 → s.2.1 ≤ 0) ∧ (0 ≤ n → 0 ≤ s.2.1) ∧ in64 s.2.1 ∧
    (dl (a + 1) s.2.1.natAbs).reverse ++ s.2.2.drop (a + 1) = (dl 20 n.natAbs).reverse) (fun s => s.1.toNat) ?_
    ⟨19, rfl, by omega, by omega, by simp, by show n.natAbs < 10 ^ 19; omega, fun h => Int.le_of_lt h, fun h => h, hn, by simp⟩
  rintro again ⟨x, m, b⟩ ⟨a, rfl, ha1, ha2, hlen, hm, hs1, hs2, hin, hd⟩ hag
  simp only at hlen hm hs1 hs2 hin hd hag ⊢
  unfold in64 at hin
  unfold N62.l5 N62.j8' N62.j8 N62.j11' N62.j11 N62.j4' N62.j4 N62.j14' N62.j14
  dsimp only
  have hmod := tmod10 m
  have hdiv := tdiv10 m
  have hdi : IntKind.i64.wrap (Int.tdiv m 10) = Int.tdiv m 10 := by rw [hdiv]; apply wrap_id <;> split <;> omega
  have ewa : IntKind.i64.wrap ((a : Int) + 1 - 1) = (a : Int) := by rw [wrap_id (by omega) (by omega)]; omega
  rw [hdi, ewa]
  simp only [Int.toNat_natCast]
  -- what is done with the digit
  have main : ∀ d : Int, d = ((m.natAbs % 10 : Nat) : Int) → ((inB 0 (a : Int) (((20 : Nat) : Int) - 1)) ∧ (((10 : Int) ≠ 0) ∧ (br (Int.tdiv m 10 == (0 : Int))
      (br (decide (n < (0 : Int))) ((inB 0 (IntKind.i64.wrap ((a : Int) - (1 : Int))) (((20 : Nat) : Int) - 1)) ∧ ((inB (IntKind.i64.wrap ((a : Int) - (1 : Int))) (20 : Int) (20 : Int)) ∧ (((20 : Int) ≤ ((20 : Nat) : Int)) ∧ (k (bytesOf (List.drop (Int.toNat (IntKind.i64.wrap ((a : Int) - (1 : Int)))) (List.take (Int.toNat (20 : Int)) ((b.set a (IntKind.u8.wrap (IntKind.i64.wrap ((48 : Int) + d)))).set (Int.toNat (IntKind.i64.wrap ((a : Int) - (1 : Int)))) (45 : Int))))))))) ((inB (a : Int) (20 : Int) (20 : Int)) ∧ (((20 : Int) ≤ ((20 : Nat) : Int)) ∧ (k (bytesOf (List.drop a (List.take (Int.toNat (20 : Int)) (b.set a (IntKind.u8.wrap (IntKind.i64.wrap ((48 : Int) + d)))))))))))
      (((10 : Int) ≠ 0) ∧ again ((a : Int), Int.tdiv m 10, b.set a (IntKind.u8.wrap (IntKind.i64.wrap ((48 : Int) + d)))))))) := by
    rintro d rfl
    have ed : IntKind.u8.wrap (IntKind.i64.wrap ((48 : Int) + ((m.natAbs % 10 : Nat) : Int))) = ((48 + m.natAbs % 10 : Nat) : Int) := by
      rw [wrap_id (by omega) (by omega), wu8_eq]; omega
    rw [ed]
    have hset := drop_set_self (x := ((48 + m.natAbs % 10 : Nat) : Int)) (by omega : a < b.length)
    rw [dl_succ a] at hd
    have hlen' : (b.set a ((48 + m.natAbs % 10 : Nat) : Int)).length = 20 := by simpa using hlen
    generalize hb' : b.set a ((48 + m.natAbs % 10 : Nat) : Int) = b' at *
    refine ⟨⟨by omega, by omega, by omega⟩, by decide, ?_⟩
    have e20 : Int.toNat 20 = 20 := rfl
    rw [e20]
    by_cases hz : m.natAbs / 10 = 0
    · have : Int.tdiv m 10 = 0 := by rw [hdiv, hz]; split <;> rfl
      rw [this]
      simp only [beq_self_eq_true, br_true]
      rw [if_pos hz] at hd
      have hres : b'.drop a = (dl 20 n.natAbs).reverse := by rw [hset, ← hd]; simp
      simp only [br_dec]
      split
      · rename_i hn0
        have ew : IntKind.i64.wrap ((a : Int) - 1) = ((a - 1 : Nat) : Int) := by rw [wrap_id (by omega) (by omega)]; omega
        rw [ew]
        refine ⟨⟨by omega, by omega, by omega⟩, ⟨by omega, by omega, by omega⟩, by decide, ?_⟩
        rw [Int.toNat_natCast, List.take_of_length_le (by simp; omega), drop_set_self (by omega), show a - 1 + 1 = a by omega, hres]
        have : putL n = 45 :: (dl 20 n.natAbs).reverse := by unfold putL; rw [if_pos hn0]; rfl
        rw [← this]; exact h
      · rename_i hn0
        refine ⟨⟨by omega, by omega, by omega⟩, by decide, ?_⟩
        rw [List.take_of_length_le (by omega), hres]
        have : putL n = (dl 20 n.natAbs).reverse := by unfold putL; rw [if_neg hn0]; rfl
        rw [← this]; exact h
    · have hne : Int.tdiv m 10 ≠ 0 := by rw [hdiv]; split <;> omega
      have hnb : (Int.tdiv m 10 == 0) = false := by simpa using hne
      rw [hnb]
      simp only [br_false]
      rw [if_neg hz] at hd
      obtain ⟨c, rfl⟩ : ∃ c, a = c + 1 := ⟨a - 1, by omega⟩
      have hm' : m.natAbs / 10 < 10 ^ c := by rw [Nat.pow_succ] at hm; omega
      have hc : 1 ≤ c := by
        rcases Nat.eq_zero_or_pos c with h0 | h0
        · subst h0; simp at hm'; omega
        · exact h0
      have hab : (Int.tdiv m 10).natAbs = m.natAbs / 10 := by rw [hdiv]; split <;> omega
      refine ⟨by decide, hag _ ⟨c, rfl, hc, by omega, hlen', by rw [hab]; exact hm', fun h0 => ?_, fun h0 => ?_, ?_, ?_⟩ (by simp <;> omega)⟩
      · have := hs1 h0
        show Int.tdiv m 10 ≤ 0
        rw [hdiv]; split <;> omega
      · have := hs2 h0
        show 0 ≤ Int.tdiv m 10
        rw [hdiv]; split <;> omega
      · show in64 (Int.tdiv m 10)
        unfold in64
        rw [hdiv]; split <;> omega
      · show (dl (c + 1) (Int.tdiv m 10).natAbs).reverse ++ b'.drop (c + 1) = _
        rw [hab, hset, ← hd]
        simp
  refine ⟨by decide, br_of (fun hneg => ?_) (fun hneg => ?_)⟩
  · have hneg : Int.tmod m 10 < 0 := by simpa using hneg
    have e : IntKind.i64.wrap (0 - Int.tmod m 10) = ((m.natAbs % 10 : Nat) : Int) := by
      rw [wrap_id (by rw [hmod] at *; split at hneg <;> omega) (by rw [hmod] at *; split at hneg <;> omega)]
      rw [hmod] at *; split at hneg <;> rename_i hh <;> (try rw [if_pos hh]) <;> omega
    rw [e]
    exact main _ rfl
  · have hneg : ¬ Int.tmod m 10 < 0 := by simpa using hneg
    refine main _ ?_
    rw [hmod] at *
    split at hneg <;> rename_i hh <;> (try rw [if_pos hh]) <;> (try rw [if_neg hh]) <;> omega

theorem u64neg (n : Int) (hn : in64 n) : IntKind.u64.wrap (if n < 0 then 0 - IntKind.u64.wrap n else n) = (n.natAbs : Int) := by
  unfold in64 at hn
  simp only [wu64_eq]
  split <;> omega

theorem wu64_id' {n : Int} (h1 : 0 ≤ n) (h2 : n < 18446744073709551616) : IntKind.u64.wrap n = n := by rw [wu64_eq]; omega

theorem digits_s (U : Nat) (hU : U < 10 ^ 20) (hU2 : U < 2 ^ 64) (k : List Int → Prop) (h : k (dl 20 U)) : N84.f (U : Int) k := by
  rw [N84.f_def]
  unfold N84.f0 N84.c N84.l2'
  refine loopS_of (fun s : Int × List Int => ∃ u : Nat, s.1 = u ∧ u < 2 ^ 64 ∧ ((s.2 ≠ [] ∧ u = 0 ∧ s.2 = dl 20 U) ∨ (∃ f, u < 10 ^ f ∧ s.2.length + f = 20 ∧ 1 ≤ f ∧ (s.2 = [] ∨ u ≠ 0) ∧ s.2 ++ dl f u = dl 20 U))) (fun s => 2 * s.1.toNat + (if s.2 = [] then 1 else 0)) ?_
    ⟨U, rfl, hU2, .inr ⟨20, hU, rfl, by decide, .inl rfl, rfl⟩⟩
  rintro again ⟨x, b⟩ ⟨u, rfl, hu, hcase⟩ hag
  simp only at hcase hag ⊢
  unfold N84.l2 N84.j3' N84.j3 N84.j5' N84.j5
  dsimp only
  have emod : Int.tmod (u : Int) 10 = ((u % 10 : Nat) : Int) := by norm_cast
  have ediv : Int.tdiv (u : Int) 10 = ((u / 10 : Nat) : Int) := by norm_cast
  have go : (b = [] ∨ u ≠ 0) → (((10 : Int) ≠ 0) ∧ ((room (b.length + (([(IntKind.u8.wrap (IntKind.u64.wrap ((48 : Int) + (Int.tmod (u : Int) (10 : Int)))))] : List Int)).length) 1) ∧ (((10 : Int) ≠ 0) ∧
      (again (IntKind.u64.wrap (Int.tdiv (u : Int) (10 : Int)), b ++ ([(IntKind.u8.wrap (IntKind.u64.wrap ((48 : Int) + (Int.tmod (u : Int) (10 : Int)))))] : List Int)))))) := by
    intro hbu
    rw [emod, ediv]
    have ed : IntKind.u8.wrap (IntKind.u64.wrap ((48 : Int) + ((u % 10 : Nat) : Int))) = ((48 + u % 10 : Nat) : Int) := by
      rw [wu64_id' (by omega) (by omega), wu8_eq]; omega
    rw [ed, wu64_id' (by omega) (by omega)]
    have hc2 : ∃ f, u < 10 ^ f ∧ b.length + f = 20 ∧ 1 ≤ f ∧ b ++ dl f u = dl 20 U := by
      rcases hcase with ⟨h1, h2, h3⟩ | ⟨f, h1, h2, h3, _, h5⟩
      · rcases hbu with h | h
        · exact absurd h h1
        · exact absurd h2 h
      · exact ⟨f, h1, h2, h3, h5⟩
    obtain ⟨f, h1, h2, h3, h5⟩ := hc2
    obtain ⟨g, rfl⟩ : ∃ g, f = g + 1 := ⟨f - 1, by omega⟩
    refine ⟨by decide, ?_, by decide, hag _ ⟨u / 10, rfl, by omega, ?_⟩ ?_⟩
    · unfold room; simp; omega
    · rw [dl_succ g] at h5
      have hg : u / 10 < 10 ^ g := by rw [Nat.pow_succ] at h1; omega
      by_cases hz : u / 10 = 0
      · rw [if_pos hz] at h5
        exact .inl ⟨by simp, hz, h5⟩
      · rw [if_neg hz] at h5
        refine .inr ⟨g, hg, by simp; omega, ?_, .inr hz, by rw [← h5]; simp⟩
        rcases Nat.eq_zero_or_pos g with h0 | h0
        · subst h0; simp at hg; omega
        · exact h0
    · simp only [Int.toNat_natCast]
      rw [if_neg (by simp)]
      rcases hbu with h | h
      · rw [if_pos h]; omega
      · split <;> omega
  refine br_of (fun h0 => ?_) (fun h0 => ?_)
  · have h0 : 0 < u := by simp at h0; omega
    exact go (.inr (by omega))
  · have h0 : u = 0 := by simp at h0; omega
    refine br_of (fun hb => ?_) (fun hb => ?_)
    · have hb : b = [] := by simpa using hb
      exact go (.inl hb)
    · have hb : b ≠ [] := by simpa using hb
      rcases hcase with ⟨h1, h2, h3⟩ | ⟨f, h1, h2, h3, h4, h5⟩
      · rw [h3]; exact h
      · rcases h4 with h4 | h4
        · exact absurd h4 hb
        · exact absurd h0 h4

theorem putr_s (n : Int) (hn : in64 n) (k : ByteArray → Prop) (h : k (bytesOf (putL n))) : N63.f n k := by
  have hn' := hn
  unfold in64 at hn'
  rw [N63.f_def]
  unfold N63.f0 N63.c
  have tail : ∀ s0 : List Int, s0 ++ (dl 20 n.natAbs).reverse = putL n → s0.length ≤ 1 → N63.j6' (n.natAbs : Int) (bytesOf s0) k := by
    intro s0 hs0 hl0
    unfold N63.j6' N63.j6
    refine digits_s _ (by omega) (by omega) _ ?_
    unfold N63.l8'
    have hlen := dl_len_le 20 n.natAbs
    have ew : IntKind.i64.wrap ((((dl 20 n.natAbs).length : Nat) : Int) - 1) = (((dl 20 n.natAbs).length : Nat) : Int) - 1 := wrap_id (by omega) (by omega)
    rw [ew]
    generalize hD : dl 20 n.natAbs = D at *
    refine loopS_of (fun s : ByteArray × Int × List Int => ∃ i : Nat, s.2.1 = (i : Int) - 1 ∧ i ≤ D.length ∧ s.2.2 = D ∧ s.1 = bytesOf (s0 ++ (D.drop i).reverse)) (fun s => (s.2.1 + 1).toNat) ?_
      ⟨D.length, rfl, Nat.le_refl _, rfl, by simp⟩
    rintro again ⟨t, x, b⟩ ⟨i, e1, hi, e2, e3⟩ hag
    simp only at e1 e2 e3
    subst e1; subst e2; subst e3
    simp only at hag ⊢
    unfold N63.l8 N63.j11' N63.j11
    dsimp only
    refine br_of (fun hlt => ?_) (fun hge => ?_)
    · obtain ⟨m, rfl⟩ : ∃ m, i = m + 1 := ⟨i - 1, by simp at hlt; omega⟩
      have ei : ((m + 1 : Nat) : Int) - 1 = (m : Int) := by omega
      rw [ei]
      have ewm : IntKind.i64.wrap ((m : Int) - 1) = (m : Int) - 1 := wrap_id (by omega) (by omega)
      rw [ewm, Int.toNat_natCast]
      refine ⟨⟨by omega, by omega, by omega⟩, ?_, ?_⟩
      · rw [bytesOf_size, bytesOf_size]; simp; omega
      · rw [← bytesOf_append]
        refine hag _ ⟨m, rfl, by omega, rfl, ?_⟩ (by simp <;> omega)
        rw [drop_get (d := 0) (by omega : m < b.length)]
        simp
    · have : i = 0 := by simp at hge; omega
      subst this
      simp only [List.drop_zero]
      rw [hs0]; exact h
  refine br_of (fun hneg => ?_) (fun hneg => ?_)
  · have hneg : n < 0 := by simpa using hneg
    have e : IntKind.u64.wrap (0 - IntKind.u64.wrap n) = (n.natAbs : Int) := by simp only [wu64_eq]; omega
    rw [e]
    exact tail [45] (by unfold putL; rw [if_pos hneg]) (by simp)
  · have hneg : ¬ n < 0 := by simpa using hneg
    have e : IntKind.u64.wrap n = (n.natAbs : Int) := by simp only [wu64_eq]; omega
    rw [e]
    exact tail [] (by unfold putL; rw [if_neg hneg]) (by simp)

end Go.Proofs.Yu
namespace Go.Proofs.Yu
open Go Go.Aw Go.Proofs
set_option linter.unusedVariables false
set_option linter.unusedSimpArgs false
set_option maxRecDepth 100000
/-! dyehouse/target.Check -/
namespace N16
noncomputable def cfg : Cfg := { P := Try.prog, ty := tys, E := tab [], atSeq := tab [(2000005, ⟨[(1, .keep), (3, .keep), (4, .keep), (8, .keep), (9, .keep), (18, .keep)]⟩), (13, ⟨[(1, .keep)]⟩), (6, ⟨[(1, .keep), (3, .keep), (4, .keep), (8, .keep), (9, .keep)]⟩), (2000014, ⟨[(61, .keep)]⟩), (15, ⟨[]⟩), (2000010, ⟨[(1, .keep), (3, .keep), (4, .keep), (8, .keep), (9, .keep), (22, .keep), (23, .keep), (24, .keep), (51, .keep)]⟩), (12, ⟨[(1, .keep), (8, .keep), (9, .keep)]⟩), (11, ⟨[(1, .keep), (3, .keep), (4, .keep), (8, .keep), (9, .keep), (22, .keep), (23, .keep), (24, .keep)]⟩)], atLoop := tab [(2, ⟨[(1, .keep), (8, .keep), (9, .keep)]⟩), (7, ⟨[(1, .keep), (3, .keep), (4, .keep), (8, .keep), (9, .keep), (22, .keep), (23, .keep), (24, .keep)]⟩)], outs := [], eqT := tab [] }
noncomputable def body : Code := bodyOf Try.f16
def l2 (j2000005 : Int → Int → Int → Int → Int → Bool → Int → Int → (List Int) → (List Int) → Int → Prop) (j13 : Int → Int → (List Int) → (List Int) → Int → Prop) (x8_0 : Int) (x8_1 : Int) (x9 : Int) (b0_0 : Int) (b0_1 : Int) (b0_2 : (List Int)) (b0_3 : (List Int)) (b0_4 : Int) (k : Int → Prop) : Prop :=
  (br (decide (x9 < (2 : Int))) (br (decide (x9 = ((0 : Nat) : Int))) (br (decide (x8_0 < (0 : Int))) (j2000005 x9 x8_0 x8_0 x8_1 x9 true b0_0 b0_1 b0_2 b0_3 b0_4) (j2000005 x9 x8_0 x8_0 x8_1 x9 (decide (x8_0 > (16 : Int))) b0_0 b0_1 b0_2 b0_3 b0_4)) (br (decide (x9 = ((1 : Nat) : Int))) (br (decide (x8_1 < (0 : Int))) (j2000005 x9 x8_1 x8_0 x8_1 x9 true b0_0 b0_1 b0_2 b0_3 b0_4) (j2000005 x9 x8_1 x8_0 x8_1 x9 (decide (x8_1 > (16 : Int))) b0_0 b0_1 b0_2 b0_3 b0_4)) False)) (j13 b0_0 b0_1 b0_2 b0_3 b0_4))
def j2000005 (j6 : Int → Int → Int → Int → Int → Int → Int → (List Int) → (List Int) → Int → Prop) (x3 : Int) (x4 : Int) (x8_0 : Int) (x8_1 : Int) (x9 : Int) (x18 : Bool) (b0_0 : Int) (b0_1 : Int) (b0_2 : (List Int)) (b0_3 : (List Int)) (b0_4 : Int) (k : Int → Prop) : Prop :=
  (br x18 (k (2 : Int)) (j6 x3 x4 x8_0 x8_1 x9 b0_0 b0_1 b0_2 b0_3 b0_4))
def j13 (j2000014 : Bool → Prop) (b0_0 : Int) (b0_1 : Int) (b0_2 : (List Int)) (b0_3 : (List Int)) (b0_4 : Int) (k : Int → Prop) : Prop :=
  (br (decide (b0_4 < (0 : Int))) (j2000014 true) (j2000014 (decide (b0_4 > (4096 : Int)))))
def j6 (l7 : Int → Int → Int → Int → Int → (List Int) → Int → Int → Int → Int → (List Int) → (List Int) → Int → Prop) (x3 : Int) (x4 : Int) (x8_0 : Int) (x8_1 : Int) (x9 : Int) (b0_0 : Int) (b0_1 : Int) (b0_2 : (List Int)) (b0_3 : (List Int)) (b0_4 : Int) (k : Int → Prop) : Prop :=
  (br (decide (x3 = ((0 : Nat) : Int))) (l7 x3 x4 x8_0 x8_1 x9 b0_2 ((((b0_2).length : Nat) : Int)) (0 : Int) b0_0 b0_1 b0_2 b0_3 b0_4) (br (decide (x3 = ((1 : Nat) : Int))) (l7 x3 x4 x8_0 x8_1 x9 b0_3 ((((b0_3).length : Nat) : Int)) (0 : Int) b0_0 b0_1 b0_2 b0_3 b0_4) False))
def j2000014 (j15 : Prop) (x61 : Bool) (k : Int → Prop) : Prop :=
  (br x61 (k (2 : Int)) (j15))
def l7 (j2000010 : Int → Int → Int → Int → Int → (List Int) → Int → Int → Bool → Int → Int → (List Int) → (List Int) → Int → Prop) (j12 : Int → Int → Int → Int → Int → (List Int) → (List Int) → Int → Prop) (x3 : Int) (x4 : Int) (x8_0 : Int) (x8_1 : Int) (x9 : Int) (x22 : (List Int)) (x23 : Int) (x24 : Int) (b0_0 : Int) (b0_1 : Int) (b0_2 : (List Int)) (b0_3 : (List Int)) (b0_4 : Int) (k : Int → Prop) : Prop :=
  (br (decide (x24 < x23)) ((inB 0 x24 ((((x22).length : Nat) : Int) - 1)) ∧ (br (decide ((x22.getD (Int.toNat x24) (0)) < (0 : Int))) (j2000010 x3 x4 x8_0 x8_1 x9 x22 x23 x24 true b0_0 b0_1 b0_2 b0_3 b0_4) (br (decide ((x22.getD (Int.toNat x24) (0)) ≥ x4)) (j2000010 x3 x4 x8_0 x8_1 x9 x22 x23 x24 true b0_0 b0_1 b0_2 b0_3 b0_4) (br (decide (x24 > (0 : Int))) (br (decide (x3 = ((0 : Nat) : Int))) ((inB 0 (IntKind.i64.wrap (x24 - (1 : Int))) ((((b0_2).length : Nat) : Int) - 1)) ∧ (j2000010 x3 x4 x8_0 x8_1 x9 x22 x23 x24 (decide ((b0_2.getD (Int.toNat (IntKind.i64.wrap (x24 - (1 : Int)))) (0)) ≥ (x22.getD (Int.toNat x24) (0)))) b0_0 b0_1 b0_2 b0_3 b0_4)) (br (decide (x3 = ((1 : Nat) : Int))) ((inB 0 (IntKind.i64.wrap (x24 - (1 : Int))) ((((b0_3).length : Nat) : Int) - 1)) ∧ (j2000010 x3 x4 x8_0 x8_1 x9 x22 x23 x24 (decide ((b0_3.getD (Int.toNat (IntKind.i64.wrap (x24 - (1 : Int)))) (0)) ≥ (x22.getD (Int.toNat x24) (0)))) b0_0 b0_1 b0_2 b0_3 b0_4)) False)) (j2000010 x3 x4 x8_0 x8_1 x9 x22 x23 x24 false b0_0 b0_1 b0_2 b0_3 b0_4))))) (j12 x8_0 x8_1 x9 b0_0 b0_1 b0_2 b0_3 b0_4))
def j15 (k : Int → Prop) : Prop :=
  (k (0 : Int))
def j2000010 (j11 : Int → Int → Int → Int → Int → (List Int) → Int → Int → Int → Int → (List Int) → (List Int) → Int → Prop) (x3 : Int) (x4 : Int) (x8_0 : Int) (x8_1 : Int) (x9 : Int) (x22 : (List Int)) (x23 : Int) (x24 : Int) (x51 : Bool) (b0_0 : Int) (b0_1 : Int) (b0_2 : (List Int)) (b0_3 : (List Int)) (b0_4 : Int) (k : Int → Prop) : Prop :=
  (br x51 (k (45 : Int)) (j11 x3 x4 x8_0 x8_1 x9 x22 x23 x24 b0_0 b0_1 b0_2 b0_3 b0_4))
def j12 (ag2 : Int → Int → Int → (List Int) → (List Int) → Int → Prop) (x8_0 : Int) (x8_1 : Int) (x9 : Int) (b0_0 : Int) (b0_1 : Int) (b0_2 : (List Int)) (b0_3 : (List Int)) (b0_4 : Int) (k : Int → Prop) : Prop :=
  (ag2 (IntKind.i64.wrap (x9 + (1 : Int))) b0_0 b0_1 b0_2 b0_3 b0_4)
def j11 (ag7 : Int → Int → Int → (List Int) → (List Int) → Int → Prop) (x3 : Int) (x4 : Int) (x8_0 : Int) (x8_1 : Int) (x9 : Int) (x22 : (List Int)) (x23 : Int) (x24 : Int) (b0_0 : Int) (b0_1 : Int) (b0_2 : (List Int)) (b0_3 : (List Int)) (b0_4 : Int) (k : Int → Prop) : Prop :=
  (ag7 (IntKind.i64.wrap (x24 + (1 : Int))) b0_0 b0_1 b0_2 b0_3 b0_4)
def c (l2 : Int → Int → Int → Int → Int → (List Int) → (List Int) → Int → Prop) (x0_0_0 : Int) (x0_0_1 : Int) (x0_1_0 : (List Int)) (x0_1_1 : (List Int)) (x0_2 : Int) (k : Int → Prop) : Prop :=
  (l2 x0_0_0 x0_0_1 (0 : Int) x0_0_0 x0_0_1 x0_1_0 x0_1_1 x0_2)
def j15' (k : Int → Prop) : Prop := j15 k
def j12' (ag2 : Int → Int → Int → (List Int) → (List Int) → Int → Prop) (x8_0 : Int) (x8_1 : Int) (x9 : Int) (b0_0 : Int) (b0_1 : Int) (b0_2 : (List Int)) (b0_3 : (List Int)) (b0_4 : Int) (k : Int → Prop) : Prop := j12 ag2 x8_0 x8_1 x9 b0_0 b0_1 b0_2 b0_3 b0_4 k
def j11' (ag7 : Int → Int → Int → (List Int) → (List Int) → Int → Prop) (x3 : Int) (x4 : Int) (x8_0 : Int) (x8_1 : Int) (x9 : Int) (x22 : (List Int)) (x23 : Int) (x24 : Int) (b0_0 : Int) (b0_1 : Int) (b0_2 : (List Int)) (b0_3 : (List Int)) (b0_4 : Int) (k : Int → Prop) : Prop := j11 ag7 x3 x4 x8_0 x8_1 x9 x22 x23 x24 b0_0 b0_1 b0_2 b0_3 b0_4 k
def j2000014' (x61 : Bool) (k : Int → Prop) : Prop := j2000014 (j15' k) x61 k
def j2000010' (ag7 : Int → Int → Int → (List Int) → (List Int) → Int → Prop) (x3 : Int) (x4 : Int) (x8_0 : Int) (x8_1 : Int) (x9 : Int) (x22 : (List Int)) (x23 : Int) (x24 : Int) (x51 : Bool) (b0_0 : Int) (b0_1 : Int) (b0_2 : (List Int)) (b0_3 : (List Int)) (b0_4 : Int) (k : Int → Prop) : Prop := j2000010 (fun x3 x4 x8_0 x8_1 x9 x22 x23 x24 b0_0 b0_1 b0_2 b0_3 b0_4 => j11' ag7 x3 x4 x8_0 x8_1 x9 x22 x23 x24 b0_0 b0_1 b0_2 b0_3 b0_4 k) x3 x4 x8_0 x8_1 x9 x22 x23 x24 x51 b0_0 b0_1 b0_2 b0_3 b0_4 k
def j13' (b0_0 : Int) (b0_1 : Int) (b0_2 : (List Int)) (b0_3 : (List Int)) (b0_4 : Int) (k : Int → Prop) : Prop := j13 (fun x61 => j2000014' x61 k) b0_0 b0_1 b0_2 b0_3 b0_4 k
def l7' (ag2 : Int → Int → Int → (List Int) → (List Int) → Int → Prop) (x3 : Int) (x4 : Int) (x8_0 : Int) (x8_1 : Int) (x9 : Int) (x22 : (List Int)) (x23 : Int) (x24 : Int) (b0_0 : Int) (b0_1 : Int) (b0_2 : (List Int)) (b0_3 : (List Int)) (b0_4 : Int) (k : Int → Prop) : Prop := ∃ n, loopS (fun (ag : (Int × Int × Int × (List Int) × (List Int) × Int) → Prop) (s : Int × Int × Int × (List Int) × (List Int) × Int) => l7 (fun x3 x4 x8_0 x8_1 x9 x22 x23 x24 x51 b0_0 b0_1 b0_2 b0_3 b0_4 => j2000010' (fun x24 b0_0 b0_1 b0_2 b0_3 b0_4 => ag (x24, b0_0, b0_1, b0_2, b0_3, b0_4)) x3 x4 x8_0 x8_1 x9 x22 x23 x24 x51 b0_0 b0_1 b0_2 b0_3 b0_4 k) (fun x8_0 x8_1 x9 b0_0 b0_1 b0_2 b0_3 b0_4 => j12' ag2 x8_0 x8_1 x9 b0_0 b0_1 b0_2 b0_3 b0_4 k) x3 x4 x8_0 x8_1 x9 x22 x23 s.1 s.2.1 s.2.2.1 s.2.2.2.1 s.2.2.2.2.1 s.2.2.2.2.2 k) n (x24, b0_0, b0_1, b0_2, b0_3, b0_4)
def j6' (ag2 : Int → Int → Int → (List Int) → (List Int) → Int → Prop) (x3 : Int) (x4 : Int) (x8_0 : Int) (x8_1 : Int) (x9 : Int) (b0_0 : Int) (b0_1 : Int) (b0_2 : (List Int)) (b0_3 : (List Int)) (b0_4 : Int) (k : Int → Prop) : Prop := j6 (fun x3 x4 x8_0 x8_1 x9 x22 x23 x24 b0_0 b0_1 b0_2 b0_3 b0_4 => l7' ag2 x3 x4 x8_0 x8_1 x9 x22 x23 x24 b0_0 b0_1 b0_2 b0_3 b0_4 k) x3 x4 x8_0 x8_1 x9 b0_0 b0_1 b0_2 b0_3 b0_4 k
def j2000005' (ag2 : Int → Int → Int → (List Int) → (List Int) → Int → Prop) (x3 : Int) (x4 : Int) (x8_0 : Int) (x8_1 : Int) (x9 : Int) (x18 : Bool) (b0_0 : Int) (b0_1 : Int) (b0_2 : (List Int)) (b0_3 : (List Int)) (b0_4 : Int) (k : Int → Prop) : Prop := j2000005 (fun x3 x4 x8_0 x8_1 x9 b0_0 b0_1 b0_2 b0_3 b0_4 => j6' ag2 x3 x4 x8_0 x8_1 x9 b0_0 b0_1 b0_2 b0_3 b0_4 k) x3 x4 x8_0 x8_1 x9 x18 b0_0 b0_1 b0_2 b0_3 b0_4 k
def l2' (x8_0 : Int) (x8_1 : Int) (x9 : Int) (b0_0 : Int) (b0_1 : Int) (b0_2 : (List Int)) (b0_3 : (List Int)) (b0_4 : Int) (k : Int → Prop) : Prop := ∃ n, loopS (fun (ag : (Int × Int × Int × (List Int) × (List Int) × Int) → Prop) (s : Int × Int × Int × (List Int) × (List Int) × Int) => l2 (fun x3 x4 x8_0 x8_1 x9 x18 b0_0 b0_1 b0_2 b0_3 b0_4 => j2000005' (fun x9 b0_0 b0_1 b0_2 b0_3 b0_4 => ag (x9, b0_0, b0_1, b0_2, b0_3, b0_4)) x3 x4 x8_0 x8_1 x9 x18 b0_0 b0_1 b0_2 b0_3 b0_4 k) (fun b0_0 b0_1 b0_2 b0_3 b0_4 => j13' b0_0 b0_1 b0_2 b0_3 b0_4 k) x8_0 x8_1 s.1 s.2.1 s.2.2.1 s.2.2.2.1 s.2.2.2.2.1 s.2.2.2.2.2 k) n (x9, b0_0, b0_1, b0_2, b0_3, b0_4)
def f0 (x0_0_0 : Int) (x0_0_1 : Int) (x0_1_0 : (List Int)) (x0_1_1 : (List Int)) (x0_2 : Int) (k : Int → Prop) : Prop := c (fun x8_0 x8_1 x9 b0_0 b0_1 b0_2 b0_3 b0_4 => l2' x8_0 x8_1 x9 b0_0 b0_1 b0_2 b0_3 b0_4 k) x0_0_0 x0_0_1 x0_1_0 x0_1_1 x0_2 k
theorem f_ex : ∃ g : Int → Int → (List Int) → (List Int) → Int → (Int → Prop) → Prop, g = f0 := ⟨_, rfl⟩
noncomputable def f : Int → Int → (List Int) → (List Int) → Int → (Int → Prop) → Prop := Classical.choose f_ex
theorem f_def : f = f0 := Classical.choose_spec f_ex
def mL2 (x8_0 : Int) (x8_1 : Int) (x9 : Int) (b0_0 : Int) (b0_1 : Int) (b0_2 : (List Int)) (b0_3 : (List Int)) (b0_4 : Int) : St := { tmps := mkT 62 0 [(1, (.ptr 0 0)), (8, (.agg [(.v (.int IntKind.i64 x8_0)), (.v (.int IntKind.i64 x8_1))])), (9, (.v (.int IntKind.i64 x9)))], hp := [(.box 26 [(.v (.int IntKind.i64 b0_0)), (.v (.int IntKind.i64 b0_1)), (.fz (Ty.int IntKind.i64) b0_2), (.fz (Ty.int IntKind.i64) b0_3), (.v (.int IntKind.i64 b0_4))])], m := 0 }
def m2000005 (x3 : Int) (x4 : Int) (x8_0 : Int) (x8_1 : Int) (x9 : Int) (x18 : Bool) (b0_0 : Int) (b0_1 : Int) (b0_2 : (List Int)) (b0_3 : (List Int)) (b0_4 : Int) : St := { tmps := mkT 62 0 [(1, (.ptr 0 0)), (3, (.v (.int IntKind.i64 x3))), (4, (.v (.int IntKind.i64 x4))), (8, (.agg [(.v (.int IntKind.i64 x8_0)), (.v (.int IntKind.i64 x8_1))])), (9, (.v (.int IntKind.i64 x9))), (18, (.v (.bool x18)))], hp := [(.box 26 [(.v (.int IntKind.i64 b0_0)), (.v (.int IntKind.i64 b0_1)), (.fz (Ty.int IntKind.i64) b0_2), (.fz (Ty.int IntKind.i64) b0_3), (.v (.int IntKind.i64 b0_4))])], m := 0 }
def m13 (b0_0 : Int) (b0_1 : Int) (b0_2 : (List Int)) (b0_3 : (List Int)) (b0_4 : Int) : St := { tmps := mkT 62 0 [(1, (.ptr 0 0))], hp := [(.box 26 [(.v (.int IntKind.i64 b0_0)), (.v (.int IntKind.i64 b0_1)), (.fz (Ty.int IntKind.i64) b0_2), (.fz (Ty.int IntKind.i64) b0_3), (.v (.int IntKind.i64 b0_4))])], m := 0 }
def m6 (x3 : Int) (x4 : Int) (x8_0 : Int) (x8_1 : Int) (x9 : Int) (b0_0 : Int) (b0_1 : Int) (b0_2 : (List Int)) (b0_3 : (List Int)) (b0_4 : Int) : St := { tmps := mkT 62 0 [(1, (.ptr 0 0)), (3, (.v (.int IntKind.i64 x3))), (4, (.v (.int IntKind.i64 x4))), (8, (.agg [(.v (.int IntKind.i64 x8_0)), (.v (.int IntKind.i64 x8_1))])), (9, (.v (.int IntKind.i64 x9)))], hp := [(.box 26 [(.v (.int IntKind.i64 b0_0)), (.v (.int IntKind.i64 b0_1)), (.fz (Ty.int IntKind.i64) b0_2), (.fz (Ty.int IntKind.i64) b0_3), (.v (.int IntKind.i64 b0_4))])], m := 0 }
def m2000014 (x61 : Bool) : St := { tmps := mkT 62 0 [(61, (.v (.bool x61)))], hp := [], m := 0 }
def mL7 (x3 : Int) (x4 : Int) (x8_0 : Int) (x8_1 : Int) (x9 : Int) (x22 : (List Int)) (x23 : Int) (x24 : Int) (b0_0 : Int) (b0_1 : Int) (b0_2 : (List Int)) (b0_3 : (List Int)) (b0_4 : Int) : St := { tmps := mkT 62 0 [(1, (.ptr 0 0)), (3, (.v (.int IntKind.i64 x3))), (4, (.v (.int IntKind.i64 x4))), (8, (.agg [(.v (.int IntKind.i64 x8_0)), (.v (.int IntKind.i64 x8_1))])), (9, (.v (.int IntKind.i64 x9))), (22, (.fz (Ty.int IntKind.i64) x22)), (23, (.v (.int IntKind.i64 x23))), (24, (.v (.int IntKind.i64 x24)))], hp := [(.box 26 [(.v (.int IntKind.i64 b0_0)), (.v (.int IntKind.i64 b0_1)), (.fz (Ty.int IntKind.i64) b0_2), (.fz (Ty.int IntKind.i64) b0_3), (.v (.int IntKind.i64 b0_4))])], m := 0 }
def m15 : St := { tmps := mkT 62 0 [], hp := [], m := 0 }
def m2000010 (x3 : Int) (x4 : Int) (x8_0 : Int) (x8_1 : Int) (x9 : Int) (x22 : (List Int)) (x23 : Int) (x24 : Int) (x51 : Bool) (b0_0 : Int) (b0_1 : Int) (b0_2 : (List Int)) (b0_3 : (List Int)) (b0_4 : Int) : St := { tmps := mkT 62 0 [(1, (.ptr 0 0)), (3, (.v (.int IntKind.i64 x3))), (4, (.v (.int IntKind.i64 x4))), (8, (.agg [(.v (.int IntKind.i64 x8_0)), (.v (.int IntKind.i64 x8_1))])), (9, (.v (.int IntKind.i64 x9))), (22, (.fz (Ty.int IntKind.i64) x22)), (23, (.v (.int IntKind.i64 x23))), (24, (.v (.int IntKind.i64 x24))), (51, (.v (.bool x51)))], hp := [(.box 26 [(.v (.int IntKind.i64 b0_0)), (.v (.int IntKind.i64 b0_1)), (.fz (Ty.int IntKind.i64) b0_2), (.fz (Ty.int IntKind.i64) b0_3), (.v (.int IntKind.i64 b0_4))])], m := 0 }
def m12 (x8_0 : Int) (x8_1 : Int) (x9 : Int) (b0_0 : Int) (b0_1 : Int) (b0_2 : (List Int)) (b0_3 : (List Int)) (b0_4 : Int) : St := { tmps := mkT 62 0 [(1, (.ptr 0 0)), (8, (.agg [(.v (.int IntKind.i64 x8_0)), (.v (.int IntKind.i64 x8_1))])), (9, (.v (.int IntKind.i64 x9)))], hp := [(.box 26 [(.v (.int IntKind.i64 b0_0)), (.v (.int IntKind.i64 b0_1)), (.fz (Ty.int IntKind.i64) b0_2), (.fz (Ty.int IntKind.i64) b0_3), (.v (.int IntKind.i64 b0_4))])], m := 0 }
def m11 (x3 : Int) (x4 : Int) (x8_0 : Int) (x8_1 : Int) (x9 : Int) (x22 : (List Int)) (x23 : Int) (x24 : Int) (b0_0 : Int) (b0_1 : Int) (b0_2 : (List Int)) (b0_3 : (List Int)) (b0_4 : Int) : St := { tmps := mkT 62 0 [(1, (.ptr 0 0)), (3, (.v (.int IntKind.i64 x3))), (4, (.v (.int IntKind.i64 x4))), (8, (.agg [(.v (.int IntKind.i64 x8_0)), (.v (.int IntKind.i64 x8_1))])), (9, (.v (.int IntKind.i64 x9))), (22, (.fz (Ty.int IntKind.i64) x22)), (23, (.v (.int IntKind.i64 x23))), (24, (.v (.int IntKind.i64 x24)))], hp := [(.box 26 [(.v (.int IntKind.i64 b0_0)), (.v (.int IntKind.i64 b0_1)), (.fz (Ty.int IntKind.i64) b0_2), (.fz (Ty.int IntKind.i64) b0_3), (.v (.int IntKind.i64 b0_4))])], m := 0 }
noncomputable def YL2 (k kp : D → List Blk → Prop) : (St → Prop) → St → Prop := loopB cfg (sub [1, 0, 1, 0, 0] body) (contK cfg (pick none' []) [1, 0, 1, 0] body (topK cfg Try.f16 k kp))
noncomputable def XL2 (k kp : D → List Blk → Prop) : St → Prop := fun st => ∃ n, loopN (YL2 k kp) n st
noncomputable def X2000005 (k kp : D → List Blk → Prop) (ag2 : St → Prop) : St → Prop := atP cfg (pick none' [(2, ag2)]) [1, 0, 1, 0, 0, 1, 1, 0, 0, 1, 0, 1] body (topK cfg Try.f16 k kp)
noncomputable def X13 (k kp : D → List Blk → Prop) : St → Prop := atP cfg (pick none' []) [1, 1] body (topK cfg Try.f16 k kp)
noncomputable def X6 (k kp : D → List Blk → Prop) (ag2 : St → Prop) : St → Prop := atP cfg (pick none' [(2, ag2)]) [1, 0, 1, 0, 0, 1, 1, 0, 0, 1, 1] body (topK cfg Try.f16 k kp)
noncomputable def X2000014 (k kp : D → List Blk → Prop) : St → Prop := atP cfg (pick none' []) [1, 1, 0, 1] body (topK cfg Try.f16 k kp)
noncomputable def YL7 (k kp : D → List Blk → Prop) (ag2 : St → Prop) : (St → Prop) → St → Prop := loopB cfg (sub [1, 0, 1, 0, 0, 1, 1, 0, 0, 1, 1, 1, 0, 0] body) (contK cfg (pick none' [(2, ag2)]) [1, 0, 1, 0, 0, 1, 1, 0, 0, 1, 1, 1, 0] body (topK cfg Try.f16 k kp))
noncomputable def XL7 (k kp : D → List Blk → Prop) (ag2 : St → Prop) : St → Prop := fun st => ∃ n, loopN (YL7 k kp ag2) n st
noncomputable def X15 (k kp : D → List Blk → Prop) : St → Prop := atP cfg (pick none' []) [1, 1, 1] body (topK cfg Try.f16 k kp)
noncomputable def X2000010 (k kp : D → List Blk → Prop) (ag2 : St → Prop) (ag7 : St → Prop) : St → Prop := atP cfg (pick none' [(2, ag2), (7, ag7)]) [1, 0, 1, 0, 0, 1, 1, 0, 0, 1, 1, 1, 0, 0, 1, 1, 0, 0, 1, 1] body (topK cfg Try.f16 k kp)
noncomputable def X12 (k kp : D → List Blk → Prop) (ag2 : St → Prop) : St → Prop := atP cfg (pick none' [(2, ag2)]) [1, 0, 1, 0, 0, 1, 1, 1] body (topK cfg Try.f16 k kp)
noncomputable def X11 (k kp : D → List Blk → Prop) (ag2 : St → Prop) (ag7 : St → Prop) : St → Prop := atP cfg (pick none' [(2, ag2), (7, ag7)]) [1, 0, 1, 0, 0, 1, 1, 0, 0, 1, 1, 1, 0, 0, 1, 1, 1] body (topK cfg Try.f16 k kp)
noncomputable def JJ_2 (k kp : D → List Blk → Prop) (ag2 : St → Prop) : Nat → St → Prop := pick none' [(2000005, X2000005 k kp ag2), (13, X13 k kp), (6, X6 k kp ag2), (2000014, X2000014 k kp), (15, X15 k kp), (12, X12 k kp ag2)]
noncomputable def LL_2 (k kp : D → List Blk → Prop) (ag2 : St → Prop) : Nat → St → Prop := pick none' [(2, XL2 k kp), (7, XL7 k kp ag2)]
noncomputable def JJ (k kp : D → List Blk → Prop) : Nat → St → Prop := pick none' [(13, X13 k kp), (2000014, X2000014 k kp), (15, X15 k kp)]
noncomputable def LL (k kp : D → List Blk → Prop) : Nat → St → Prop := pick none' [(2, XL2 k kp)]
noncomputable def JJ_2_7 (k kp : D → List Blk → Prop) (ag2 : St → Prop) (ag7 : St → Prop) : Nat → St → Prop := pick none' [(2000005, X2000005 k kp ag2), (13, X13 k kp), (6, X6 k kp ag2), (2000014, X2000014 k kp), (15, X15 k kp), (2000010, X2000010 k kp ag2 ag7), (12, X12 k kp ag2), (11, X11 k kp ag2 ag7)]
noncomputable def LL_2_7 (k kp : D → List Blk → Prop) (ag2 : St → Prop) (ag7 : St → Prop) : Nat → St → Prop := pick none' [(2, XL2 k kp), (7, XL7 k kp ag2)]
theorem j15_c (k kp : D → List Blk → Prop) (J L : Nat → St → Prop) : runC cfg 15 J L (pick none' []) [1, 1, 1] body (topK cfg Try.f16 k kp) (m15) = j15 (fun y0 => k (.v (.int IntKind.i64 y0)) []) := by kernel_rfl
theorem j15_ag (k kp : D → List Blk → Prop) : agPL cfg 15 (JJ k kp) (LL k kp) [1, 1, 1] body = agPR cfg 15 (pick none' []) [1, 1, 1] body (topK cfg Try.f16 k kp) := by kernel_rfl
theorem j15_raw (k kp : D → List Blk → Prop) : X15 k kp (m15) = j15 (fun y0 => k (.v (.int IntKind.i64 y0)) []) :=
  Eq.mp (by kernel_rfl) ((atP_run (j15_ag k kp) (m15)).trans (j15_c k kp (JJ k kp) (LL k kp)))
theorem j15_eq (k kp : D → List Blk → Prop) : X15 k kp (m15) = j15' (fun y0 => k (.v (.int IntKind.i64 y0)) []) := by
  rw [j15_raw]; rfl
theorem j12_c (k kp : D → List Blk → Prop) (J L : Nat → St → Prop) (ag2 : St → Prop) (x8_0 : Int) (x8_1 : Int) (x9 : Int) (b0_0 : Int) (b0_1 : Int) (b0_2 : (List Int)) (b0_3 : (List Int)) (b0_4 : Int) : runC cfg 12 J L (pick none' [(2, ag2)]) [1, 0, 1, 0, 0, 1, 1, 1] body (topK cfg Try.f16 k kp) (m12 x8_0 x8_1 x9 b0_0 b0_1 b0_2 b0_3 b0_4) = j12 (fun x9 b0_0 b0_1 b0_2 b0_3 b0_4 => ag2 (mL2 x8_0 x8_1 x9 b0_0 b0_1 b0_2 b0_3 b0_4)) x8_0 x8_1 x9 b0_0 b0_1 b0_2 b0_3 b0_4 (fun y0 => k (.v (.int IntKind.i64 y0)) []) := by kernel_rfl
theorem j12_ag (k kp : D → List Blk → Prop) (ag2 : St → Prop) : agPL cfg 12 (JJ_2 k kp ag2) (LL_2 k kp ag2) [1, 0, 1, 0, 0, 1, 1, 1] body = agPR cfg 12 (pick none' [(2, ag2)]) [1, 0, 1, 0, 0, 1, 1, 1] body (topK cfg Try.f16 k kp) := by kernel_rfl
theorem j12_raw (k kp : D → List Blk → Prop) (ag2 : St → Prop) (x8_0 : Int) (x8_1 : Int) (x9 : Int) (b0_0 : Int) (b0_1 : Int) (b0_2 : (List Int)) (b0_3 : (List Int)) (b0_4 : Int) : X12 k kp ag2 (m12 x8_0 x8_1 x9 b0_0 b0_1 b0_2 b0_3 b0_4) = j12 (fun x9 b0_0 b0_1 b0_2 b0_3 b0_4 => ag2 (mL2 x8_0 x8_1 x9 b0_0 b0_1 b0_2 b0_3 b0_4)) x8_0 x8_1 x9 b0_0 b0_1 b0_2 b0_3 b0_4 (fun y0 => k (.v (.int IntKind.i64 y0)) []) :=
  Eq.mp (by kernel_rfl) ((atP_run (j12_ag k kp ag2) (m12 x8_0 x8_1 x9 b0_0 b0_1 b0_2 b0_3 b0_4)).trans (j12_c k kp (JJ_2 k kp ag2) (LL_2 k kp ag2) ag2 x8_0 x8_1 x9 b0_0 b0_1 b0_2 b0_3 b0_4))
theorem j12_eq (k kp : D → List Blk → Prop) (ag2 : St → Prop) (x8_0 : Int) (x8_1 : Int) (x9 : Int) (b0_0 : Int) (b0_1 : Int) (b0_2 : (List Int)) (b0_3 : (List Int)) (b0_4 : Int) : X12 k kp ag2 (m12 x8_0 x8_1 x9 b0_0 b0_1 b0_2 b0_3 b0_4) = j12' (fun x9 b0_0 b0_1 b0_2 b0_3 b0_4 => ag2 (mL2 x8_0 x8_1 x9 b0_0 b0_1 b0_2 b0_3 b0_4)) x8_0 x8_1 x9 b0_0 b0_1 b0_2 b0_3 b0_4 (fun y0 => k (.v (.int IntKind.i64 y0)) []) := by
  rw [j12_raw]; rfl
theorem j11_c (k kp : D → List Blk → Prop) (J L : Nat → St → Prop) (ag2 : St → Prop) (ag7 : St → Prop) (x3 : Int) (x4 : Int) (x8_0 : Int) (x8_1 : Int) (x9 : Int) (x22 : (List Int)) (x23 : Int) (x24 : Int) (b0_0 : Int) (b0_1 : Int) (b0_2 : (List Int)) (b0_3 : (List Int)) (b0_4 : Int) : runC cfg 11 J L (pick none' [(2, ag2), (7, ag7)]) [1, 0, 1, 0, 0, 1, 1, 0, 0, 1, 1, 1, 0, 0, 1, 1, 1] body (topK cfg Try.f16 k kp) (m11 x3 x4 x8_0 x8_1 x9 x22 x23 x24 b0_0 b0_1 b0_2 b0_3 b0_4) = j11 (fun x24 b0_0 b0_1 b0_2 b0_3 b0_4 => ag7 (mL7 x3 x4 x8_0 x8_1 x9 x22 x23 x24 b0_0 b0_1 b0_2 b0_3 b0_4)) x3 x4 x8_0 x8_1 x9 x22 x23 x24 b0_0 b0_1 b0_2 b0_3 b0_4 (fun y0 => k (.v (.int IntKind.i64 y0)) []) := by kernel_rfl
theorem j11_ag (k kp : D → List Blk → Prop) (ag2 : St → Prop) (ag7 : St → Prop) : agPL cfg 11 (JJ_2_7 k kp ag2 ag7) (LL_2_7 k kp ag2 ag7) [1, 0, 1, 0, 0, 1, 1, 0, 0, 1, 1, 1, 0, 0, 1, 1, 1] body = agPR cfg 11 (pick none' [(2, ag2), (7, ag7)]) [1, 0, 1, 0, 0, 1, 1, 0, 0, 1, 1, 1, 0, 0, 1, 1, 1] body (topK cfg Try.f16 k kp) := by kernel_rfl
theorem j11_raw (k kp : D → List Blk → Prop) (ag2 : St → Prop) (ag7 : St → Prop) (x3 : Int) (x4 : Int) (x8_0 : Int) (x8_1 : Int) (x9 : Int) (x22 : (List Int)) (x23 : Int) (x24 : Int) (b0_0 : Int) (b0_1 : Int) (b0_2 : (List Int)) (b0_3 : (List Int)) (b0_4 : Int) : X11 k kp ag2 ag7 (m11 x3 x4 x8_0 x8_1 x9 x22 x23 x24 b0_0 b0_1 b0_2 b0_3 b0_4) = j11 (fun x24 b0_0 b0_1 b0_2 b0_3 b0_4 => ag7 (mL7 x3 x4 x8_0 x8_1 x9 x22 x23 x24 b0_0 b0_1 b0_2 b0_3 b0_4)) x3 x4 x8_0 x8_1 x9 x22 x23 x24 b0_0 b0_1 b0_2 b0_3 b0_4 (fun y0 => k (.v (.int IntKind.i64 y0)) []) :=
  Eq.mp (by kernel_rfl) ((atP_run (j11_ag k kp ag2 ag7) (m11 x3 x4 x8_0 x8_1 x9 x22 x23 x24 b0_0 b0_1 b0_2 b0_3 b0_4)).trans (j11_c k kp (JJ_2_7 k kp ag2 ag7) (LL_2_7 k kp ag2 ag7) ag2 ag7 x3 x4 x8_0 x8_1 x9 x22 x23 x24 b0_0 b0_1 b0_2 b0_3 b0_4))
theorem j11_eq (k kp : D → List Blk → Prop) (ag2 : St → Prop) (ag7 : St → Prop) (x3 : Int) (x4 : Int) (x8_0 : Int) (x8_1 : Int) (x9 : Int) (x22 : (List Int)) (x23 : Int) (x24 : Int) (b0_0 : Int) (b0_1 : Int) (b0_2 : (List Int)) (b0_3 : (List Int)) (b0_4 : Int) : X11 k kp ag2 ag7 (m11 x3 x4 x8_0 x8_1 x9 x22 x23 x24 b0_0 b0_1 b0_2 b0_3 b0_4) = j11' (fun x24 b0_0 b0_1 b0_2 b0_3 b0_4 => ag7 (mL7 x3 x4 x8_0 x8_1 x9 x22 x23 x24 b0_0 b0_1 b0_2 b0_3 b0_4)) x3 x4 x8_0 x8_1 x9 x22 x23 x24 b0_0 b0_1 b0_2 b0_3 b0_4 (fun y0 => k (.v (.int IntKind.i64 y0)) []) := by
  rw [j11_raw]; rfl
theorem j2000014_c (k kp : D → List Blk → Prop) (J L : Nat → St → Prop) (x61 : Bool) : runC cfg 2000014 J L (pick none' []) [1, 1, 0, 1] body (topK cfg Try.f16 k kp) (m2000014 x61) = j2000014 (J 15 (m15)) x61 (fun y0 => k (.v (.int IntKind.i64 y0)) []) := by kernel_rfl
theorem j2000014_ag (k kp : D → List Blk → Prop) : agPL cfg 2000014 (JJ k kp) (LL k kp) [1, 1, 0, 1] body = agPR cfg 2000014 (pick none' []) [1, 1, 0, 1] body (topK cfg Try.f16 k kp) := by kernel_rfl
theorem j2000014_raw (k kp : D → List Blk → Prop) (x61 : Bool) : X2000014 k kp (m2000014 x61) = j2000014 (X15 k kp (m15)) x61 (fun y0 => k (.v (.int IntKind.i64 y0)) []) :=
  Eq.mp (by kernel_rfl) ((atP_run (j2000014_ag k kp) (m2000014 x61)).trans (j2000014_c k kp (JJ k kp) (LL k kp) x61))
theorem j2000014_eq (k kp : D → List Blk → Prop) (x61 : Bool) : X2000014 k kp (m2000014 x61) = j2000014' x61 (fun y0 => k (.v (.int IntKind.i64 y0)) []) := by
  rw [j2000014_raw]; simp only [j15_eq]; first | done | rfl
theorem j2000010_c (k kp : D → List Blk → Prop) (J L : Nat → St → Prop) (ag2 : St → Prop) (ag7 : St → Prop) (x3 : Int) (x4 : Int) (x8_0 : Int) (x8_1 : Int) (x9 : Int) (x22 : (List Int)) (x23 : Int) (x24 : Int) (x51 : Bool) (b0_0 : Int) (b0_1 : Int) (b0_2 : (List Int)) (b0_3 : (List Int)) (b0_4 : Int) : runC cfg 2000010 J L (pick none' [(2, ag2), (7, ag7)]) [1, 0, 1, 0, 0, 1, 1, 0, 0, 1, 1, 1, 0, 0, 1, 1, 0, 0, 1, 1] body (topK cfg Try.f16 k kp) (m2000010 x3 x4 x8_0 x8_1 x9 x22 x23 x24 x51 b0_0 b0_1 b0_2 b0_3 b0_4) = j2000010 (fun x3 x4 x8_0 x8_1 x9 x22 x23 x24 b0_0 b0_1 b0_2 b0_3 b0_4 => J 11 (m11 x3 x4 x8_0 x8_1 x9 x22 x23 x24 b0_0 b0_1 b0_2 b0_3 b0_4)) x3 x4 x8_0 x8_1 x9 x22 x23 x24 x51 b0_0 b0_1 b0_2 b0_3 b0_4 (fun y0 => k (.v (.int IntKind.i64 y0)) []) := by kernel_rfl
theorem j2000010_ag (k kp : D → List Blk → Prop) (ag2 : St → Prop) (ag7 : St → Prop) : agPL cfg 2000010 (JJ_2_7 k kp ag2 ag7) (LL_2_7 k kp ag2 ag7) [1, 0, 1, 0, 0, 1, 1, 0, 0, 1, 1, 1, 0, 0, 1, 1, 0, 0, 1, 1] body = agPR cfg 2000010 (pick none' [(2, ag2), (7, ag7)]) [1, 0, 1, 0, 0, 1, 1, 0, 0, 1, 1, 1, 0, 0, 1, 1, 0, 0, 1, 1] body (topK cfg Try.f16 k kp) := by kernel_rfl
theorem j2000010_raw (k kp : D → List Blk → Prop) (ag2 : St → Prop) (ag7 : St → Prop) (x3 : Int) (x4 : Int) (x8_0 : Int) (x8_1 : Int) (x9 : Int) (x22 : (List Int)) (x23 : Int) (x24 : Int) (x51 : Bool) (b0_0 : Int) (b0_1 : Int) (b0_2 : (List Int)) (b0_3 : (List Int)) (b0_4 : Int) : X2000010 k kp ag2 ag7 (m2000010 x3 x4 x8_0 x8_1 x9 x22 x23 x24 x51 b0_0 b0_1 b0_2 b0_3 b0_4) = j2000010 (fun x3 x4 x8_0 x8_1 x9 x22 x23 x24 b0_0 b0_1 b0_2 b0_3 b0_4 => X11 k kp ag2 ag7 (m11 x3 x4 x8_0 x8_1 x9 x22 x23 x24 b0_0 b0_1 b0_2 b0_3 b0_4)) x3 x4 x8_0 x8_1 x9 x22 x23 x24 x51 b0_0 b0_1 b0_2 b0_3 b0_4 (fun y0 => k (.v (.int IntKind.i64 y0)) []) :=
  Eq.mp (by kernel_rfl) ((atP_run (j2000010_ag k kp ag2 ag7) (m2000010 x3 x4 x8_0 x8_1 x9 x22 x23 x24 x51 b0_0 b0_1 b0_2 b0_3 b0_4)).trans (j2000010_c k kp (JJ_2_7 k kp ag2 ag7) (LL_2_7 k kp ag2 ag7) ag2 ag7 x3 x4 x8_0 x8_1 x9 x22 x23 x24 x51 b0_0 b0_1 b0_2 b0_3 b0_4))
theorem j2000010_eq (k kp : D → List Blk → Prop) (ag2 : St → Prop) (ag7 : St → Prop) (x3 : Int) (x4 : Int) (x8_0 : Int) (x8_1 : Int) (x9 : Int) (x22 : (List Int)) (x23 : Int) (x24 : Int) (x51 : Bool) (b0_0 : Int) (b0_1 : Int) (b0_2 : (List Int)) (b0_3 : (List Int)) (b0_4 : Int) : X2000010 k kp ag2 ag7 (m2000010 x3 x4 x8_0 x8_1 x9 x22 x23 x24 x51 b0_0 b0_1 b0_2 b0_3 b0_4) = j2000010' (fun x24 b0_0 b0_1 b0_2 b0_3 b0_4 => ag7 (mL7 x3 x4 x8_0 x8_1 x9 x22 x23 x24 b0_0 b0_1 b0_2 b0_3 b0_4)) x3 x4 x8_0 x8_1 x9 x22 x23 x24 x51 b0_0 b0_1 b0_2 b0_3 b0_4 (fun y0 => k (.v (.int IntKind.i64 y0)) []) := by
  rw [j2000010_raw]; simp only [j11_eq]; first | done | rfl
theorem j13_c (k kp : D → List Blk → Prop) (J L : Nat → St → Prop) (b0_0 : Int) (b0_1 : Int) (b0_2 : (List Int)) (b0_3 : (List Int)) (b0_4 : Int) : runC cfg 13 J L (pick none' []) [1, 1] body (topK cfg Try.f16 k kp) (m13 b0_0 b0_1 b0_2 b0_3 b0_4) = j13 (fun x61 => J 2000014 (m2000014 x61)) b0_0 b0_1 b0_2 b0_3 b0_4 (fun y0 => k (.v (.int IntKind.i64 y0)) []) := by kernel_rfl
theorem j13_ag (k kp : D → List Blk → Prop) : agPL cfg 13 (JJ k kp) (LL k kp) [1, 1] body = agPR cfg 13 (pick none' []) [1, 1] body (topK cfg Try.f16 k kp) := by kernel_rfl
theorem j13_raw (k kp : D → List Blk → Prop) (b0_0 : Int) (b0_1 : Int) (b0_2 : (List Int)) (b0_3 : (List Int)) (b0_4 : Int) : X13 k kp (m13 b0_0 b0_1 b0_2 b0_3 b0_4) = j13 (fun x61 => X2000014 k kp (m2000014 x61)) b0_0 b0_1 b0_2 b0_3 b0_4 (fun y0 => k (.v (.int IntKind.i64 y0)) []) :=
  Eq.mp (by kernel_rfl) ((atP_run (j13_ag k kp) (m13 b0_0 b0_1 b0_2 b0_3 b0_4)).trans (j13_c k kp (JJ k kp) (LL k kp) b0_0 b0_1 b0_2 b0_3 b0_4))
theorem j13_eq (k kp : D → List Blk → Prop) (b0_0 : Int) (b0_1 : Int) (b0_2 : (List Int)) (b0_3 : (List Int)) (b0_4 : Int) : X13 k kp (m13 b0_0 b0_1 b0_2 b0_3 b0_4) = j13' b0_0 b0_1 b0_2 b0_3 b0_4 (fun y0 => k (.v (.int IntKind.i64 y0)) []) := by
  rw [j13_raw]; simp only [j2000014_eq]; first | done | rfl
theorem l7_c (k kp : D → List Blk → Prop) (J L : Nat → St → Prop) (ag2 : St → Prop) (ag7 : St → Prop) (x3 : Int) (x4 : Int) (x8_0 : Int) (x8_1 : Int) (x9 : Int) (x22 : (List Int)) (x23 : Int) (x24 : Int) (b0_0 : Int) (b0_1 : Int) (b0_2 : (List Int)) (b0_3 : (List Int)) (b0_4 : Int) : runC cfg 1000001 J L (pick none' [(2, ag2), (7, ag7)]) [1, 0, 1, 0, 0, 1, 1, 0, 0, 1, 1, 1, 0, 0] body (topK cfg Try.f16 k kp) (mL7 x3 x4 x8_0 x8_1 x9 x22 x23 x24 b0_0 b0_1 b0_2 b0_3 b0_4) = l7 (fun x3 x4 x8_0 x8_1 x9 x22 x23 x24 x51 b0_0 b0_1 b0_2 b0_3 b0_4 => J 2000010 (m2000010 x3 x4 x8_0 x8_1 x9 x22 x23 x24 x51 b0_0 b0_1 b0_2 b0_3 b0_4)) (fun x8_0 x8_1 x9 b0_0 b0_1 b0_2 b0_3 b0_4 => J 12 (m12 x8_0 x8_1 x9 b0_0 b0_1 b0_2 b0_3 b0_4)) x3 x4 x8_0 x8_1 x9 x22 x23 x24 b0_0 b0_1 b0_2 b0_3 b0_4 (fun y0 => k (.v (.int IntKind.i64 y0)) []) := by kernel_rfl
theorem l7_ag (k kp : D → List Blk → Prop) (ag2 : St → Prop) (ag7 : St → Prop) : agPL cfg 1000001 (JJ_2_7 k kp ag2 ag7) (LL_2_7 k kp ag2 ag7) [1, 0, 1, 0, 0, 1, 1, 0, 0, 1, 1, 1, 0, 0] body = agPR cfg 1000001 (pick none' [(2, ag2), (7, ag7)]) [1, 0, 1, 0, 0, 1, 1, 0, 0, 1, 1, 1, 0, 0] body (topK cfg Try.f16 k kp) := by kernel_rfl
theorem l7_raw (k kp : D → List Blk → Prop) (ag2 : St → Prop) (ag7 : St → Prop) (x3 : Int) (x4 : Int) (x8_0 : Int) (x8_1 : Int) (x9 : Int) (x22 : (List Int)) (x23 : Int) (x24 : Int) (b0_0 : Int) (b0_1 : Int) (b0_2 : (List Int)) (b0_3 : (List Int)) (b0_4 : Int) : YL7 k kp ag2 ag7 (mL7 x3 x4 x8_0 x8_1 x9 x22 x23 x24 b0_0 b0_1 b0_2 b0_3 b0_4) = l7 (fun x3 x4 x8_0 x8_1 x9 x22 x23 x24 x51 b0_0 b0_1 b0_2 b0_3 b0_4 => X2000010 k kp ag2 ag7 (m2000010 x3 x4 x8_0 x8_1 x9 x22 x23 x24 x51 b0_0 b0_1 b0_2 b0_3 b0_4)) (fun x8_0 x8_1 x9 b0_0 b0_1 b0_2 b0_3 b0_4 => X12 k kp ag2 (m12 x8_0 x8_1 x9 b0_0 b0_1 b0_2 b0_3 b0_4)) x3 x4 x8_0 x8_1 x9 x22 x23 x24 b0_0 b0_1 b0_2 b0_3 b0_4 (fun y0 => k (.v (.int IntKind.i64 y0)) []) :=
  Eq.mp (by kernel_rfl) ((atP_run (l7_ag k kp ag2 ag7) (mL7 x3 x4 x8_0 x8_1 x9 x22 x23 x24 b0_0 b0_1 b0_2 b0_3 b0_4)).trans (l7_c k kp (JJ_2_7 k kp ag2 ag7) (LL_2_7 k kp ag2 ag7) ag2 ag7 x3 x4 x8_0 x8_1 x9 x22 x23 x24 b0_0 b0_1 b0_2 b0_3 b0_4))
theorem l7_eq (k kp : D → List Blk → Prop) (ag2 : St → Prop) (x3 : Int) (x4 : Int) (x8_0 : Int) (x8_1 : Int) (x9 : Int) (x22 : (List Int)) (x23 : Int) (x24 : Int) (b0_0 : Int) (b0_1 : Int) (b0_2 : (List Int)) (b0_3 : (List Int)) (b0_4 : Int) : XL7 k kp ag2 (mL7 x3 x4 x8_0 x8_1 x9 x22 x23 x24 b0_0 b0_1 b0_2 b0_3 b0_4) = l7' (fun x9 b0_0 b0_1 b0_2 b0_3 b0_4 => ag2 (mL2 x8_0 x8_1 x9 b0_0 b0_1 b0_2 b0_3 b0_4)) x3 x4 x8_0 x8_1 x9 x22 x23 x24 b0_0 b0_1 b0_2 b0_3 b0_4 (fun y0 => k (.v (.int IntKind.i64 y0)) []) :=
  loop_eq (mk := fun (s : Int × Int × Int × (List Int) × (List Int) × Int) => mL7 x3 x4 x8_0 x8_1 x9 x22 x23 s.1 s.2.1 s.2.2.1 s.2.2.2.1 s.2.2.2.2.1 s.2.2.2.2.2) (fun again s => by rw [l7_raw k kp ag2 again x3 x4 x8_0 x8_1 x9 x22 x23 s.1 s.2.1 s.2.2.1 s.2.2.2.1 s.2.2.2.2.1 s.2.2.2.2.2]; simp only [j2000010_eq, j12_eq]; first | done | rfl) (x24, b0_0, b0_1, b0_2, b0_3, b0_4)
theorem j6_c (k kp : D → List Blk → Prop) (J L : Nat → St → Prop) (ag2 : St → Prop) (x3 : Int) (x4 : Int) (x8_0 : Int) (x8_1 : Int) (x9 : Int) (b0_0 : Int) (b0_1 : Int) (b0_2 : (List Int)) (b0_3 : (List Int)) (b0_4 : Int) : runC cfg 6 J L (pick none' [(2, ag2)]) [1, 0, 1, 0, 0, 1, 1, 0, 0, 1, 1] body (topK cfg Try.f16 k kp) (m6 x3 x4 x8_0 x8_1 x9 b0_0 b0_1 b0_2 b0_3 b0_4) = j6 (fun x3 x4 x8_0 x8_1 x9 x22 x23 x24 b0_0 b0_1 b0_2 b0_3 b0_4 => L 7 (mL7 x3 x4 x8_0 x8_1 x9 x22 x23 x24 b0_0 b0_1 b0_2 b0_3 b0_4)) x3 x4 x8_0 x8_1 x9 b0_0 b0_1 b0_2 b0_3 b0_4 (fun y0 => k (.v (.int IntKind.i64 y0)) []) := by kernel_rfl
theorem j6_ag (k kp : D → List Blk → Prop) (ag2 : St → Prop) : agPL cfg 6 (JJ_2 k kp ag2) (LL_2 k kp ag2) [1, 0, 1, 0, 0, 1, 1, 0, 0, 1, 1] body = agPR cfg 6 (pick none' [(2, ag2)]) [1, 0, 1, 0, 0, 1, 1, 0, 0, 1, 1] body (topK cfg Try.f16 k kp) := by kernel_rfl
theorem j6_raw (k kp : D → List Blk → Prop) (ag2 : St → Prop) (x3 : Int) (x4 : Int) (x8_0 : Int) (x8_1 : Int) (x9 : Int) (b0_0 : Int) (b0_1 : Int) (b0_2 : (List Int)) (b0_3 : (List Int)) (b0_4 : Int) : X6 k kp ag2 (m6 x3 x4 x8_0 x8_1 x9 b0_0 b0_1 b0_2 b0_3 b0_4) = j6 (fun x3 x4 x8_0 x8_1 x9 x22 x23 x24 b0_0 b0_1 b0_2 b0_3 b0_4 => XL7 k kp ag2 (mL7 x3 x4 x8_0 x8_1 x9 x22 x23 x24 b0_0 b0_1 b0_2 b0_3 b0_4)) x3 x4 x8_0 x8_1 x9 b0_0 b0_1 b0_2 b0_3 b0_4 (fun y0 => k (.v (.int IntKind.i64 y0)) []) :=
  Eq.mp (by kernel_rfl) ((atP_run (j6_ag k kp ag2) (m6 x3 x4 x8_0 x8_1 x9 b0_0 b0_1 b0_2 b0_3 b0_4)).trans (j6_c k kp (JJ_2 k kp ag2) (LL_2 k kp ag2) ag2 x3 x4 x8_0 x8_1 x9 b0_0 b0_1 b0_2 b0_3 b0_4))
theorem j6_eq (k kp : D → List Blk → Prop) (ag2 : St → Prop) (x3 : Int) (x4 : Int) (x8_0 : Int) (x8_1 : Int) (x9 : Int) (b0_0 : Int) (b0_1 : Int) (b0_2 : (List Int)) (b0_3 : (List Int)) (b0_4 : Int) : X6 k kp ag2 (m6 x3 x4 x8_0 x8_1 x9 b0_0 b0_1 b0_2 b0_3 b0_4) = j6' (fun x9 b0_0 b0_1 b0_2 b0_3 b0_4 => ag2 (mL2 x8_0 x8_1 x9 b0_0 b0_1 b0_2 b0_3 b0_4)) x3 x4 x8_0 x8_1 x9 b0_0 b0_1 b0_2 b0_3 b0_4 (fun y0 => k (.v (.int IntKind.i64 y0)) []) := by
  rw [j6_raw]; simp only [l7_eq]; first | done | rfl
theorem j2000005_c (k kp : D → List Blk → Prop) (J L : Nat → St → Prop) (ag2 : St → Prop) (x3 : Int) (x4 : Int) (x8_0 : Int) (x8_1 : Int) (x9 : Int) (x18 : Bool) (b0_0 : Int) (b0_1 : Int) (b0_2 : (List Int)) (b0_3 : (List Int)) (b0_4 : Int) : runC cfg 2000005 J L (pick none' [(2, ag2)]) [1, 0, 1, 0, 0, 1, 1, 0, 0, 1, 0, 1] body (topK cfg Try.f16 k kp) (m2000005 x3 x4 x8_0 x8_1 x9 x18 b0_0 b0_1 b0_2 b0_3 b0_4) = j2000005 (fun x3 x4 x8_0 x8_1 x9 b0_0 b0_1 b0_2 b0_3 b0_4 => J 6 (m6 x3 x4 x8_0 x8_1 x9 b0_0 b0_1 b0_2 b0_3 b0_4)) x3 x4 x8_0 x8_1 x9 x18 b0_0 b0_1 b0_2 b0_3 b0_4 (fun y0 => k (.v (.int IntKind.i64 y0)) []) := by kernel_rfl
theorem j2000005_ag (k kp : D → List Blk → Prop) (ag2 : St → Prop) : agPL cfg 2000005 (JJ_2 k kp ag2) (LL_2 k kp ag2) [1, 0, 1, 0, 0, 1, 1, 0, 0, 1, 0, 1] body = agPR cfg 2000005 (pick none' [(2, ag2)]) [1, 0, 1, 0, 0, 1, 1, 0, 0, 1, 0, 1] body (topK cfg Try.f16 k kp) := by kernel_rfl
theorem j2000005_raw (k kp : D → List Blk → Prop) (ag2 : St → Prop) (x3 : Int) (x4 : Int) (x8_0 : Int) (x8_1 : Int) (x9 : Int) (x18 : Bool) (b0_0 : Int) (b0_1 : Int) (b0_2 : (List Int)) (b0_3 : (List Int)) (b0_4 : Int) : X2000005 k kp ag2 (m2000005 x3 x4 x8_0 x8_1 x9 x18 b0_0 b0_1 b0_2 b0_3 b0_4) = j2000005 (fun x3 x4 x8_0 x8_1 x9 b0_0 b0_1 b0_2 b0_3 b0_4 => X6 k kp ag2 (m6 x3 x4 x8_0 x8_1 x9 b0_0 b0_1 b0_2 b0_3 b0_4)) x3 x4 x8_0 x8_1 x9 x18 b0_0 b0_1 b0_2 b0_3 b0_4 (fun y0 => k (.v (.int IntKind.i64 y0)) []) :=
  Eq.mp (by kernel_rfl) ((atP_run (j2000005_ag k kp ag2) (m2000005 x3 x4 x8_0 x8_1 x9 x18 b0_0 b0_1 b0_2 b0_3 b0_4)).trans (j2000005_c k kp (JJ_2 k kp ag2) (LL_2 k kp ag2) ag2 x3 x4 x8_0 x8_1 x9 x18 b0_0 b0_1 b0_2 b0_3 b0_4))
theorem j2000005_eq (k kp : D → List Blk → Prop) (ag2 : St → Prop) (x3 : Int) (x4 : Int) (x8_0 : Int) (x8_1 : Int) (x9 : Int) (x18 : Bool) (b0_0 : Int) (b0_1 : Int) (b0_2 : (List Int)) (b0_3 : (List Int)) (b0_4 : Int) : X2000005 k kp ag2 (m2000005 x3 x4 x8_0 x8_1 x9 x18 b0_0 b0_1 b0_2 b0_3 b0_4) = j2000005' (fun x9 b0_0 b0_1 b0_2 b0_3 b0_4 => ag2 (mL2 x8_0 x8_1 x9 b0_0 b0_1 b0_2 b0_3 b0_4)) x3 x4 x8_0 x8_1 x9 x18 b0_0 b0_1 b0_2 b0_3 b0_4 (fun y0 => k (.v (.int IntKind.i64 y0)) []) := by
  rw [j2000005_raw]; simp only [j6_eq]; first | done | rfl
theorem l2_c (k kp : D → List Blk → Prop) (J L : Nat → St → Prop) (ag2 : St → Prop) (x8_0 : Int) (x8_1 : Int) (x9 : Int) (b0_0 : Int) (b0_1 : Int) (b0_2 : (List Int)) (b0_3 : (List Int)) (b0_4 : Int) : runC cfg 1000001 J L (pick none' [(2, ag2)]) [1, 0, 1, 0, 0] body (topK cfg Try.f16 k kp) (mL2 x8_0 x8_1 x9 b0_0 b0_1 b0_2 b0_3 b0_4) = l2 (fun x3 x4 x8_0 x8_1 x9 x18 b0_0 b0_1 b0_2 b0_3 b0_4 => J 2000005 (m2000005 x3 x4 x8_0 x8_1 x9 x18 b0_0 b0_1 b0_2 b0_3 b0_4)) (fun b0_0 b0_1 b0_2 b0_3 b0_4 => J 13 (m13 b0_0 b0_1 b0_2 b0_3 b0_4)) x8_0 x8_1 x9 b0_0 b0_1 b0_2 b0_3 b0_4 (fun y0 => k (.v (.int IntKind.i64 y0)) []) := by kernel_rfl
theorem l2_ag (k kp : D → List Blk → Prop) (ag2 : St → Prop) : agPL cfg 1000001 (JJ_2 k kp ag2) (LL_2 k kp ag2) [1, 0, 1, 0, 0] body = agPR cfg 1000001 (pick none' [(2, ag2)]) [1, 0, 1, 0, 0] body (topK cfg Try.f16 k kp) := by kernel_rfl
theorem l2_raw (k kp : D → List Blk → Prop) (ag2 : St → Prop) (x8_0 : Int) (x8_1 : Int) (x9 : Int) (b0_0 : Int) (b0_1 : Int) (b0_2 : (List Int)) (b0_3 : (List Int)) (b0_4 : Int) : YL2 k kp ag2 (mL2 x8_0 x8_1 x9 b0_0 b0_1 b0_2 b0_3 b0_4) = l2 (fun x3 x4 x8_0 x8_1 x9 x18 b0_0 b0_1 b0_2 b0_3 b0_4 => X2000005 k kp ag2 (m2000005 x3 x4 x8_0 x8_1 x9 x18 b0_0 b0_1 b0_2 b0_3 b0_4)) (fun b0_0 b0_1 b0_2 b0_3 b0_4 => X13 k kp (m13 b0_0 b0_1 b0_2 b0_3 b0_4)) x8_0 x8_1 x9 b0_0 b0_1 b0_2 b0_3 b0_4 (fun y0 => k (.v (.int IntKind.i64 y0)) []) :=
  Eq.mp (by kernel_rfl) ((atP_run (l2_ag k kp ag2) (mL2 x8_0 x8_1 x9 b0_0 b0_1 b0_2 b0_3 b0_4)).trans (l2_c k kp (JJ_2 k kp ag2) (LL_2 k kp ag2) ag2 x8_0 x8_1 x9 b0_0 b0_1 b0_2 b0_3 b0_4))
theorem l2_eq (k kp : D → List Blk → Prop) (x8_0 : Int) (x8_1 : Int) (x9 : Int) (b0_0 : Int) (b0_1 : Int) (b0_2 : (List Int)) (b0_3 : (List Int)) (b0_4 : Int) : XL2 k kp (mL2 x8_0 x8_1 x9 b0_0 b0_1 b0_2 b0_3 b0_4) = l2' x8_0 x8_1 x9 b0_0 b0_1 b0_2 b0_3 b0_4 (fun y0 => k (.v (.int IntKind.i64 y0)) []) :=
  loop_eq (mk := fun (s : Int × Int × Int × (List Int) × (List Int) × Int) => mL2 x8_0 x8_1 s.1 s.2.1 s.2.2.1 s.2.2.2.1 s.2.2.2.2.1 s.2.2.2.2.2) (fun again s => by rw [l2_raw k kp again x8_0 x8_1 s.1 s.2.1 s.2.2.1 s.2.2.2.1 s.2.2.2.2.1 s.2.2.2.2.2]; simp only [j2000005_eq, j13_eq]; first | done | rfl) (x9, b0_0, b0_1, b0_2, b0_3, b0_4)
theorem c_c (k kp : D → List Blk → Prop) (J L : Nat → St → Prop) (x0_0_0 : Int) (x0_0_1 : Int) (x0_1_0 : (List Int)) (x0_1_1 : (List Int)) (x0_2 : Int) : runC cfg 1000001 J L none'' [] body (topK cfg Try.f16 k kp) (st0 Try.f16 [(.agg [(.v (.int IntKind.i64 x0_0_0)), (.v (.int IntKind.i64 x0_0_1)), (.fz (Ty.int IntKind.i64) x0_1_0), (.fz (Ty.int IntKind.i64) x0_1_1), (.v (.int IntKind.i64 x0_2))])] []) = c (fun x8_0 x8_1 x9 b0_0 b0_1 b0_2 b0_3 b0_4 => L 2 (mL2 x8_0 x8_1 x9 b0_0 b0_1 b0_2 b0_3 b0_4)) x0_0_0 x0_0_1 x0_1_0 x0_1_1 x0_2 (fun y0 => k (.v (.int IntKind.i64 y0)) []) := by kernel_rfl
theorem c_ag (k kp : D → List Blk → Prop) : agPL cfg 1000001 (JJ k kp) (LL k kp) [] body = agPR cfg 1000001 none'' [] body (topK cfg Try.f16 k kp) := by kernel_rfl
theorem body_is : Try.f16.body = some body := by kernel_rfl
theorem c_raw (k kp : D → List Blk → Prop) (x0_0_0 : Int) (x0_0_1 : Int) (x0_1_0 : (List Int)) (x0_1_1 : (List Int)) (x0_2 : Int) : funW cfg Try.f16 [(.agg [(.v (.int IntKind.i64 x0_0_0)), (.v (.int IntKind.i64 x0_0_1)), (.fz (Ty.int IntKind.i64) x0_1_0), (.fz (Ty.int IntKind.i64) x0_1_1), (.v (.int IntKind.i64 x0_2))])] [] k kp = c (fun x8_0 x8_1 x9 b0_0 b0_1 b0_2 b0_3 b0_4 => XL2 k kp (mL2 x8_0 x8_1 x9 b0_0 b0_1 b0_2 b0_3 b0_4)) x0_0_0 x0_0_1 x0_1_0 x0_1_1 x0_2 (fun y0 => k (.v (.int IntKind.i64 y0)) []) :=
  Eq.mp (by kernel_rfl) ((funW_run (AG := none'') body_is (c_ag k kp) [(.agg [(.v (.int IntKind.i64 x0_0_0)), (.v (.int IntKind.i64 x0_0_1)), (.fz (Ty.int IntKind.i64) x0_1_0), (.fz (Ty.int IntKind.i64) x0_1_1), (.v (.int IntKind.i64 x0_2))])] []).trans (c_c k kp (JJ k kp) (LL k kp) x0_0_0 x0_0_1 x0_1_0 x0_1_1 x0_2))
theorem f_eq (k kp : D → List Blk → Prop) (x0_0_0 : Int) (x0_0_1 : Int) (x0_1_0 : (List Int)) (x0_1_1 : (List Int)) (x0_2 : Int) : funW cfg Try.f16 [(.agg [(.v (.int IntKind.i64 x0_0_0)), (.v (.int IntKind.i64 x0_0_1)), (.fz (Ty.int IntKind.i64) x0_1_0), (.fz (Ty.int IntKind.i64) x0_1_1), (.v (.int IntKind.i64 x0_2))])] [] k kp = f x0_0_0 x0_0_1 x0_1_0 x0_1_1 x0_2 (fun y0 => k (.v (.int IntKind.i64 y0)) []) := by
  rw [f_def, c_raw]; simp only [l2_eq]; first | done | rfl
noncomputable def ent0 : Entry := fun args blks k _ => match args, blks with
  | [d0], [] => aAgg 5 d0 fun l => aCons l fun d0_0 l => aCons l fun d0_1 l => aCons l fun d0_2 l => aCons l fun d0_3 l => aCons l fun d0_4 l => aNil l (aInt IntKind.i64 d0_0 fun x0_0_0 => aInt IntKind.i64 d0_1 fun x0_0_1 => aFz (Ty.int IntKind.i64) d0_2 fun x0_1_0 => aFz (Ty.int IntKind.i64) d0_3 fun x0_1_1 => aInt IntKind.i64 d0_4 fun x0_2 => f x0_0_0 x0_0_1 x0_1_0 x0_1_1 x0_2 (fun y0 => k (.v (.int IntKind.i64 y0)) []))
  | _, _ => False
noncomputable def ent : Entry := fun args blks k kp => ent0 (convA [none] args) blks k kp
theorem ok : EntOk Try.prog 0 0 16 ent := by
  refine EntOk.conv (EntOk.of (funW_ok (cfg := cfg) (tyOk_of rfl rfl tyL_ok) (eqOk_of (P := Try.prog) rfl rfl (by kernel_rfl)) mixed_ok (tab_ok ?_) Try.func16 (by rfl) (by rfl)) ?_) _
  · intro p hp
    cases hp
  · intro args blks k kp h k' kp'
    match args, blks, h with
    | [d0], [], h =>
    dsimp only [ent0] at h
    have h9 := aAgg_elim h; clear h; obtain ⟨_, rfl, h⟩ := h9
    have h9 := aCons_elim h; clear h; obtain ⟨d0_0, _, rfl, h⟩ := h9
    have h9 := aCons_elim h; clear h; obtain ⟨d0_1, _, rfl, h⟩ := h9
    have h9 := aCons_elim h; clear h; obtain ⟨d0_2, _, rfl, h⟩ := h9
    have h9 := aCons_elim h; clear h; obtain ⟨d0_3, _, rfl, h⟩ := h9
    have h9 := aCons_elim h; clear h; obtain ⟨d0_4, _, rfl, h⟩ := h9
    have h9 := aNil_elim h; clear h; obtain ⟨rfl, h⟩ := h9
    have h9 := aInt_elim h; clear h; obtain ⟨x0_0_0, rfl, h⟩ := h9
    have h9 := aInt_elim h; clear h; obtain ⟨x0_0_1, rfl, h⟩ := h9
    have h9 := aFz_elim (t := (Ty.int IntKind.i64)) h; clear h; obtain ⟨x0_1_0, rfl, h⟩ := h9
    have h9 := aFz_elim (t := (Ty.int IntKind.i64)) h; clear h; obtain ⟨x0_1_1, rfl, h⟩ := h9
    have h9 := aInt_elim h; clear h; obtain ⟨x0_2, rfl, h⟩ := h9
    exact (f_eq k' kp' x0_0_0 x0_0_1 x0_1_0 x0_1_1 x0_2).symm
end N16
end Go.Proofs.Yu
namespace Go.Proofs.Yu
open Go Go.Aw Go.Proofs
set_option linter.unusedVariables false
set_option linter.unusedSimpArgs false
set_option maxRecDepth 100000
/-! dyehouse/target.Letter -/
namespace N27
noncomputable def cfg : Cfg := { P := Try.prog, ty := tys, E := tab [], atSeq := tab [(2000002, ⟨[(0, .keep), (8, .keep)]⟩), (3, ⟨[(0, .keep)]⟩)], atLoop := tab [], outs := [], eqT := tab [] }
noncomputable def body : Code := bodyOf Try.f27
def j2000002 (j3 : Int → Prop) (x0 : Int) (x8 : Bool) (k : ByteArray → Prop) : Prop :=
  (br x8 (k (ByteArray.mk #[])) (j3 x0))
def j3 (x0 : Int) (k : ByteArray → Prop) : Prop :=
  ((inB x0 (IntKind.i64.wrap (x0 + (1 : Int))) ((((ByteArray.mk #[103, 120])).size : Nat) : Int)) ∧ (k (ByteArray.extract (ByteArray.mk #[103, 120]) (Int.toNat x0) (Int.toNat (IntKind.i64.wrap (x0 + (1 : Int)))))))
def c (j2000002 : Int → Bool → Prop) (x0 : Int) (k : ByteArray → Prop) : Prop :=
  (br (decide (x0 < (0 : Int))) (j2000002 x0 true) (j2000002 x0 (decide (x0 ≥ (2 : Int)))))
def j3' (x0 : Int) (k : ByteArray → Prop) : Prop := j3 x0 k
def j2000002' (x0 : Int) (x8 : Bool) (k : ByteArray → Prop) : Prop := j2000002 (fun x0 => j3' x0 k) x0 x8 k
def f0 (x0 : Int) (k : ByteArray → Prop) : Prop := c (fun x0 x8 => j2000002' x0 x8 k) x0 k
theorem f_ex : ∃ g : Int → (ByteArray → Prop) → Prop, g = f0 := ⟨_, rfl⟩
noncomputable def f : Int → (ByteArray → Prop) → Prop := Classical.choose f_ex
theorem f_def : f = f0 := Classical.choose_spec f_ex
def m2000002 (x0 : Int) (x8 : Bool) : St := { tmps := mkT 13 0 [(0, (.v (.int IntKind.i64 x0))), (8, (.v (.bool x8)))], hp := [], m := 0 }
def m3 (x0 : Int) : St := { tmps := mkT 13 0 [(0, (.v (.int IntKind.i64 x0)))], hp := [], m := 0 }
noncomputable def X2000002 (k kp : D → List Blk → Prop) : St → Prop := atP cfg (pick none' []) [1, 0, 1] body (topK cfg Try.f27 k kp)
noncomputable def X3 (k kp : D → List Blk → Prop) : St → Prop := atP cfg (pick none' []) [1, 1] body (topK cfg Try.f27 k kp)
noncomputable def JJ (k kp : D → List Blk → Prop) : Nat → St → Prop := pick none' [(2000002, X2000002 k kp), (3, X3 k kp)]
noncomputable def LL (k kp : D → List Blk → Prop) : Nat → St → Prop := pick none' []
theorem j3_c (k kp : D → List Blk → Prop) (J L : Nat → St → Prop) (x0 : Int) : runC cfg 3 J L (pick none' []) [1, 1] body (topK cfg Try.f27 k kp) (m3 x0) = j3 x0 (fun y0 => k (.v (.string y0)) []) := by kernel_rfl
theorem j3_ag (k kp : D → List Blk → Prop) : agPL cfg 3 (JJ k kp) (LL k kp) [1, 1] body = agPR cfg 3 (pick none' []) [1, 1] body (topK cfg Try.f27 k kp) := by kernel_rfl
theorem j3_raw (k kp : D → List Blk → Prop) (x0 : Int) : X3 k kp (m3 x0) = j3 x0 (fun y0 => k (.v (.string y0)) []) :=
  Eq.mp (by kernel_rfl) ((atP_run (j3_ag k kp) (m3 x0)).trans (j3_c k kp (JJ k kp) (LL k kp) x0))
theorem j3_eq (k kp : D → List Blk → Prop) (x0 : Int) : X3 k kp (m3 x0) = j3' x0 (fun y0 => k (.v (.string y0)) []) := by
  rw [j3_raw]; rfl
theorem j2000002_c (k kp : D → List Blk → Prop) (J L : Nat → St → Prop) (x0 : Int) (x8 : Bool) : runC cfg 2000002 J L (pick none' []) [1, 0, 1] body (topK cfg Try.f27 k kp) (m2000002 x0 x8) = j2000002 (fun x0 => J 3 (m3 x0)) x0 x8 (fun y0 => k (.v (.string y0)) []) := by kernel_rfl
theorem j2000002_ag (k kp : D → List Blk → Prop) : agPL cfg 2000002 (JJ k kp) (LL k kp) [1, 0, 1] body = agPR cfg 2000002 (pick none' []) [1, 0, 1] body (topK cfg Try.f27 k kp) := by kernel_rfl
theorem j2000002_raw (k kp : D → List Blk → Prop) (x0 : Int) (x8 : Bool) : X2000002 k kp (m2000002 x0 x8) = j2000002 (fun x0 => X3 k kp (m3 x0)) x0 x8 (fun y0 => k (.v (.string y0)) []) :=
  Eq.mp (by kernel_rfl) ((atP_run (j2000002_ag k kp) (m2000002 x0 x8)).trans (j2000002_c k kp (JJ k kp) (LL k kp) x0 x8))
theorem j2000002_eq (k kp : D → List Blk → Prop) (x0 : Int) (x8 : Bool) : X2000002 k kp (m2000002 x0 x8) = j2000002' x0 x8 (fun y0 => k (.v (.string y0)) []) := by
  rw [j2000002_raw]; simp only [j3_eq]; first | done | rfl
theorem c_c (k kp : D → List Blk → Prop) (J L : Nat → St → Prop) (x0 : Int) : runC cfg 1000001 J L none'' [] body (topK cfg Try.f27 k kp) (st0 Try.f27 [(.v (.int IntKind.i64 x0))] []) = c (fun x0 x8 => J 2000002 (m2000002 x0 x8)) x0 (fun y0 => k (.v (.string y0)) []) := by kernel_rfl
theorem c_ag (k kp : D → List Blk → Prop) : agPL cfg 1000001 (JJ k kp) (LL k kp) [] body = agPR cfg 1000001 none'' [] body (topK cfg Try.f27 k kp) := by kernel_rfl
theorem body_is : Try.f27.body = some body := by kernel_rfl
theorem c_raw (k kp : D → List Blk → Prop) (x0 : Int) : funW cfg Try.f27 [(.v (.int IntKind.i64 x0))] [] k kp = c (fun x0 x8 => X2000002 k kp (m2000002 x0 x8)) x0 (fun y0 => k (.v (.string y0)) []) :=
  Eq.mp (by kernel_rfl) ((funW_run (AG := none'') body_is (c_ag k kp) [(.v (.int IntKind.i64 x0))] []).trans (c_c k kp (JJ k kp) (LL k kp) x0))
theorem f_eq (k kp : D → List Blk → Prop) (x0 : Int) : funW cfg Try.f27 [(.v (.int IntKind.i64 x0))] [] k kp = f x0 (fun y0 => k (.v (.string y0)) []) := by
  rw [f_def, c_raw]; simp only [j2000002_eq]; first | done | rfl
noncomputable def ent0 : Entry := fun args blks k _ => match args, blks with
  | [d0], [] => aInt IntKind.i64 d0 fun x0 => f x0 (fun y0 => k (.v (.string y0)) [])
  | _, _ => False
noncomputable def ent : Entry := fun args blks k kp => ent0 (convA [none] args) blks k kp
theorem ok : EntOk Try.prog 0 0 27 ent := by
  refine EntOk.conv (EntOk.of (funW_ok (cfg := cfg) (tyOk_of rfl rfl tyL_ok) (eqOk_of (P := Try.prog) rfl rfl (by kernel_rfl)) mixed_ok (tab_ok ?_) Try.func27 (by rfl) (by rfl)) ?_) _
  · intro p hp
    cases hp
  · intro args blks k kp h k' kp'
    match args, blks, h with
    | [d0], [], h =>
    dsimp only [ent0] at h
    have h9 := aInt_elim h; clear h; obtain ⟨x0, rfl, h⟩ := h9
    exact (f_eq k' kp' x0).symm
end N27
end Go.Proofs.Yu
namespace Go.Proofs.Yu
open Go Go.Aw Go.Proofs
set_option linter.unusedVariables false
set_option linter.unusedSimpArgs false
set_option maxRecDepth 100000
/-! dyehouse/target.Has -/
namespace N18
noncomputable def cfg : Cfg := { P := Try.prog, ty := tys, E := tab [(27, N27.ent)], atSeq := tab [], atLoop := tab [], outs := [], eqT := tab [] }
noncomputable def body : Code := bodyOf Try.f18
def c (x0_0_0 : Int) (x0_0_1 : Int) (x0_1_0 : (List Int)) (x0_1_1 : (List Int)) (x0_2 : Int) (x1_0 : Int) (x1_1 : Int) (x1_2 : Int) (k : Bool → Prop) : Prop :=
  (br (x1_0 == (2 : Int)) (N27.f x1_1 (fun (y0_0 : ByteArray) => (br (!(beqS y0_0 (ByteArray.mk #[]))) (br (decide (x1_2 ≥ (0 : Int))) (br (decide (x1_1 = ((0 : Nat) : Int))) (k (decide (x1_2 < x0_0_0))) (br (decide (x1_1 = ((1 : Nat) : Int))) (k (decide (x1_2 < x0_0_1))) False)) (k false)) (k false)))) (br (x1_0 == (3 : Int)) (br (x1_1 == (0 : Int)) (br (decide (x1_2 ≥ (0 : Int))) (k (decide (x1_2 < x0_2))) (k false)) (k false)) (k false)))
def f0 (x0_0_0 : Int) (x0_0_1 : Int) (x0_1_0 : (List Int)) (x0_1_1 : (List Int)) (x0_2 : Int) (x1_0 : Int) (x1_1 : Int) (x1_2 : Int) (k : Bool → Prop) : Prop := c x0_0_0 x0_0_1 x0_1_0 x0_1_1 x0_2 x1_0 x1_1 x1_2 k
theorem f_ex : ∃ g : Int → Int → (List Int) → (List Int) → Int → Int → Int → Int → (Bool → Prop) → Prop, g = f0 := ⟨_, rfl⟩
noncomputable def f : Int → Int → (List Int) → (List Int) → Int → Int → Int → Int → (Bool → Prop) → Prop := Classical.choose f_ex
theorem f_def : f = f0 := Classical.choose_spec f_ex
noncomputable def JJ (k kp : D → List Blk → Prop) : Nat → St → Prop := pick none' []
noncomputable def LL (k kp : D → List Blk → Prop) : Nat → St → Prop := pick none' []
theorem c_c (k kp : D → List Blk → Prop) (J L : Nat → St → Prop) (x0_0_0 : Int) (x0_0_1 : Int) (x0_1_0 : (List Int)) (x0_1_1 : (List Int)) (x0_2 : Int) (x1_0 : Int) (x1_1 : Int) (x1_2 : Int) : runC cfg 1000001 J L none'' [] body (topK cfg Try.f18 k kp) (st0 Try.f18 [(.agg [(.v (.int IntKind.i64 x0_0_0)), (.v (.int IntKind.i64 x0_0_1)), (.fz (Ty.int IntKind.i64) x0_1_0), (.fz (Ty.int IntKind.i64) x0_1_1), (.v (.int IntKind.i64 x0_2))]), (.agg [(.v (.int IntKind.i64 x1_0)), (.v (.int IntKind.i64 x1_1)), (.v (.int IntKind.i64 x1_2))])] []) = c x0_0_0 x0_0_1 x0_1_0 x0_1_1 x0_2 x1_0 x1_1 x1_2 (fun y0 => k (.v (.bool y0)) []) := by kernel_rfl
theorem c_ag (k kp : D → List Blk → Prop) : agPL cfg 1000001 (JJ k kp) (LL k kp) [] body = agPR cfg 1000001 none'' [] body (topK cfg Try.f18 k kp) := by kernel_rfl
theorem body_is : Try.f18.body = some body := by kernel_rfl
theorem c_raw (k kp : D → List Blk → Prop) (x0_0_0 : Int) (x0_0_1 : Int) (x0_1_0 : (List Int)) (x0_1_1 : (List Int)) (x0_2 : Int) (x1_0 : Int) (x1_1 : Int) (x1_2 : Int) : funW cfg Try.f18 [(.agg [(.v (.int IntKind.i64 x0_0_0)), (.v (.int IntKind.i64 x0_0_1)), (.fz (Ty.int IntKind.i64) x0_1_0), (.fz (Ty.int IntKind.i64) x0_1_1), (.v (.int IntKind.i64 x0_2))]), (.agg [(.v (.int IntKind.i64 x1_0)), (.v (.int IntKind.i64 x1_1)), (.v (.int IntKind.i64 x1_2))])] [] k kp = c x0_0_0 x0_0_1 x0_1_0 x0_1_1 x0_2 x1_0 x1_1 x1_2 (fun y0 => k (.v (.bool y0)) []) :=
  Eq.mp (by kernel_rfl) ((funW_run (AG := none'') body_is (c_ag k kp) [(.agg [(.v (.int IntKind.i64 x0_0_0)), (.v (.int IntKind.i64 x0_0_1)), (.fz (Ty.int IntKind.i64) x0_1_0), (.fz (Ty.int IntKind.i64) x0_1_1), (.v (.int IntKind.i64 x0_2))]), (.agg [(.v (.int IntKind.i64 x1_0)), (.v (.int IntKind.i64 x1_1)), (.v (.int IntKind.i64 x1_2))])] []).trans (c_c k kp (JJ k kp) (LL k kp) x0_0_0 x0_0_1 x0_1_0 x0_1_1 x0_2 x1_0 x1_1 x1_2))
theorem f_eq (k kp : D → List Blk → Prop) (x0_0_0 : Int) (x0_0_1 : Int) (x0_1_0 : (List Int)) (x0_1_1 : (List Int)) (x0_2 : Int) (x1_0 : Int) (x1_1 : Int) (x1_2 : Int) : funW cfg Try.f18 [(.agg [(.v (.int IntKind.i64 x0_0_0)), (.v (.int IntKind.i64 x0_0_1)), (.fz (Ty.int IntKind.i64) x0_1_0), (.fz (Ty.int IntKind.i64) x0_1_1), (.v (.int IntKind.i64 x0_2))]), (.agg [(.v (.int IntKind.i64 x1_0)), (.v (.int IntKind.i64 x1_1)), (.v (.int IntKind.i64 x1_2))])] [] k kp = f x0_0_0 x0_0_1 x0_1_0 x0_1_1 x0_2 x1_0 x1_1 x1_2 (fun y0 => k (.v (.bool y0)) []) := by
  rw [f_def, c_raw]; rfl
noncomputable def ent0 : Entry := fun args blks k _ => match args, blks with
  | [d0, d1], [] => aAgg 5 d0 fun l => aCons l fun d0_0 l => aCons l fun d0_1 l => aCons l fun d0_2 l => aCons l fun d0_3 l => aCons l fun d0_4 l => aNil l (aInt IntKind.i64 d0_0 fun x0_0_0 => aInt IntKind.i64 d0_1 fun x0_0_1 => aFz (Ty.int IntKind.i64) d0_2 fun x0_1_0 => aFz (Ty.int IntKind.i64) d0_3 fun x0_1_1 => aInt IntKind.i64 d0_4 fun x0_2 => aAgg 3 d1 fun l => aCons l fun d1_0 l => aCons l fun d1_1 l => aCons l fun d1_2 l => aNil l (aInt IntKind.i64 d1_0 fun x1_0 => aInt IntKind.i64 d1_1 fun x1_1 => aInt IntKind.i64 d1_2 fun x1_2 => f x0_0_0 x0_0_1 x0_1_0 x0_1_1 x0_2 x1_0 x1_1 x1_2 (fun y0 => k (.v (.bool y0)) [])))
  | _, _ => False
noncomputable def ent : Entry := fun args blks k kp => ent0 (convA [none, none] args) blks k kp
theorem ok : EntOk Try.prog 0 0 18 ent := by
  refine EntOk.conv (EntOk.of (funW_ok (cfg := cfg) (tyOk_of rfl rfl tyL_ok) (eqOk_of (P := Try.prog) rfl rfl (by kernel_rfl)) mixed_ok (tab_ok ?_) Try.func18 (by rfl) (by rfl)) ?_) _
  · intro p hp
    simp only [List.mem_cons, List.not_mem_nil, or_false] at hp
    rcases hp with rfl
    · exact N27.ok
  · intro args blks k kp h k' kp'
    match args, blks, h with
    | [d0, d1], [], h =>
    dsimp only [ent0] at h
    have h9 := aAgg_elim h; clear h; obtain ⟨_, rfl, h⟩ := h9
    have h9 := aCons_elim h; clear h; obtain ⟨d0_0, _, rfl, h⟩ := h9
    have h9 := aCons_elim h; clear h; obtain ⟨d0_1, _, rfl, h⟩ := h9
    have h9 := aCons_elim h; clear h; obtain ⟨d0_2, _, rfl, h⟩ := h9
    have h9 := aCons_elim h; clear h; obtain ⟨d0_3, _, rfl, h⟩ := h9
    have h9 := aCons_elim h; clear h; obtain ⟨d0_4, _, rfl, h⟩ := h9
    have h9 := aNil_elim h; clear h; obtain ⟨rfl, h⟩ := h9
    have h9 := aInt_elim h; clear h; obtain ⟨x0_0_0, rfl, h⟩ := h9
    have h9 := aInt_elim h; clear h; obtain ⟨x0_0_1, rfl, h⟩ := h9
    have h9 := aFz_elim (t := (Ty.int IntKind.i64)) h; clear h; obtain ⟨x0_1_0, rfl, h⟩ := h9
    have h9 := aFz_elim (t := (Ty.int IntKind.i64)) h; clear h; obtain ⟨x0_1_1, rfl, h⟩ := h9
    have h9 := aInt_elim h; clear h; obtain ⟨x0_2, rfl, h⟩ := h9
    have h9 := aAgg_elim h; clear h; obtain ⟨_, rfl, h⟩ := h9
    have h9 := aCons_elim h; clear h; obtain ⟨d1_0, _, rfl, h⟩ := h9
    have h9 := aCons_elim h; clear h; obtain ⟨d1_1, _, rfl, h⟩ := h9
    have h9 := aCons_elim h; clear h; obtain ⟨d1_2, _, rfl, h⟩ := h9
    have h9 := aNil_elim h; clear h; obtain ⟨rfl, h⟩ := h9
    have h9 := aInt_elim h; clear h; obtain ⟨x1_0, rfl, h⟩ := h9
    have h9 := aInt_elim h; clear h; obtain ⟨x1_1, rfl, h⟩ := h9
    have h9 := aInt_elim h; clear h; obtain ⟨x1_2, rfl, h⟩ := h9
    exact (f_eq k' kp' x0_0_0 x0_0_1 x0_1_0 x0_1_1 x0_2 x1_0 x1_1 x1_2).symm
end N18
end Go.Proofs.Yu
namespace Go.Proofs.Yu
open Go Go.Aw Go.Proofs
set_option linter.unusedVariables false
set_option linter.unusedSimpArgs false
set_option maxRecDepth 100000
/-! dyehouse/target.Spoils -/
namespace N20
noncomputable def cfg : Cfg := { P := Try.prog, ty := tys, E := tab [(27, N27.ent)], atSeq := tab [(2000002, ⟨[(2, .keep), (3, .keep), (15, .keep)]⟩), (3, ⟨[(2, .keep), (3, .keep)]⟩), (9, ⟨[]⟩)], atLoop := tab [(4, ⟨[(3, .keep), (20, .keep), (21, .keep), (22, .keep)]⟩)], outs := [], eqT := tab [] }
noncomputable def body : Code := bodyOf Try.f20
def j2000002 (j3 : Int → Int → (List Int) → (List Int) → Int → Int → Int → Int → Prop) (x15 : Bool) (b0_0 : Int) (b0_1 : Int) (b0_2 : (List Int)) (b0_3 : (List Int)) (b0_4 : Int) (b1_0 : Int) (b1_1 : Int) (b1_2 : Int) (k : Bool → Prop) : Prop :=
  (br x15 (k false) (j3 b0_0 b0_1 b0_2 b0_3 b0_4 b1_0 b1_1 b1_2))
def j3 (l4 : (List Int) → Int → Int → Int → Int → Int → Prop) (b0_0 : Int) (b0_1 : Int) (b0_2 : (List Int)) (b0_3 : (List Int)) (b0_4 : Int) (b1_0 : Int) (b1_1 : Int) (b1_2 : Int) (k : Bool → Prop) : Prop :=
  (br (decide (b1_1 = ((0 : Nat) : Int))) (l4 b0_2 ((((b0_2).length : Nat) : Int)) (0 : Int) b1_0 b1_1 b1_2) (br (decide (b1_1 = ((1 : Nat) : Int))) (l4 b0_3 ((((b0_3).length : Nat) : Int)) (0 : Int) b1_0 b1_1 b1_2) False))
def l4 (j9 : Prop) (ag4 : Int → Int → Int → Int → Prop) (x20 : (List Int)) (x21 : Int) (x22 : Int) (b0_0 : Int) (b0_1 : Int) (b0_2 : Int) (k : Bool → Prop) : Prop :=
  (br (decide (x22 < x21)) ((inB 0 x22 ((((x20).length : Nat) : Int) - 1)) ∧ (br ((x20.getD (Int.toNat x22) (0)) == b0_2) (k true) (ag4 (IntKind.i64.wrap (x22 + (1 : Int))) b0_0 b0_1 b0_2))) (j9))
def j9 (k : Bool → Prop) : Prop :=
  (k false)
def c (j2000002 : Bool → Int → Int → (List Int) → (List Int) → Int → Int → Int → Int → Prop) (x0_0_0 : Int) (x0_0_1 : Int) (x0_1_0 : (List Int)) (x0_1_1 : (List Int)) (x0_2 : Int) (x1_0 : Int) (x1_1 : Int) (x1_2 : Int) (k : Bool → Prop) : Prop :=
  (br (x1_0 != (2 : Int)) (j2000002 true x0_0_0 x0_0_1 x0_1_0 x0_1_1 x0_2 x1_0 x1_1 x1_2) (N27.f x1_1 (fun (y0_0 : ByteArray) => (j2000002 (beqS y0_0 (ByteArray.mk #[])) x0_0_0 x0_0_1 x0_1_0 x0_1_1 x0_2 x1_0 x1_1 x1_2))))
def j9' (k : Bool → Prop) : Prop := j9 k
def l4' (x20 : (List Int)) (x21 : Int) (x22 : Int) (b0_0 : Int) (b0_1 : Int) (b0_2 : Int) (k : Bool → Prop) : Prop := ∃ n, loopS (fun (ag : (Int × Int × Int × Int) → Prop) (s : Int × Int × Int × Int) => l4 (j9' k) (fun x22 b0_0 b0_1 b0_2 => ag (x22, b0_0, b0_1, b0_2)) x20 x21 s.1 s.2.1 s.2.2.1 s.2.2.2 k) n (x22, b0_0, b0_1, b0_2)
def j3' (b0_0 : Int) (b0_1 : Int) (b0_2 : (List Int)) (b0_3 : (List Int)) (b0_4 : Int) (b1_0 : Int) (b1_1 : Int) (b1_2 : Int) (k : Bool → Prop) : Prop := j3 (fun x20 x21 x22 b0_0 b0_1 b0_2 => l4' x20 x21 x22 b0_0 b0_1 b0_2 k) b0_0 b0_1 b0_2 b0_3 b0_4 b1_0 b1_1 b1_2 k
def j2000002' (x15 : Bool) (b0_0 : Int) (b0_1 : Int) (b0_2 : (List Int)) (b0_3 : (List Int)) (b0_4 : Int) (b1_0 : Int) (b1_1 : Int) (b1_2 : Int) (k : Bool → Prop) : Prop := j2000002 (fun b0_0 b0_1 b0_2 b0_3 b0_4 b1_0 b1_1 b1_2 => j3' b0_0 b0_1 b0_2 b0_3 b0_4 b1_0 b1_1 b1_2 k) x15 b0_0 b0_1 b0_2 b0_3 b0_4 b1_0 b1_1 b1_2 k
def f0 (x0_0_0 : Int) (x0_0_1 : Int) (x0_1_0 : (List Int)) (x0_1_1 : (List Int)) (x0_2 : Int) (x1_0 : Int) (x1_1 : Int) (x1_2 : Int) (k : Bool → Prop) : Prop := c (fun x15 b0_0 b0_1 b0_2 b0_3 b0_4 b1_0 b1_1 b1_2 => j2000002' x15 b0_0 b0_1 b0_2 b0_3 b0_4 b1_0 b1_1 b1_2 k) x0_0_0 x0_0_1 x0_1_0 x0_1_1 x0_2 x1_0 x1_1 x1_2 k
theorem f_ex : ∃ g : Int → Int → (List Int) → (List Int) → Int → Int → Int → Int → (Bool → Prop) → Prop, g = f0 := ⟨_, rfl⟩
noncomputable def f : Int → Int → (List Int) → (List Int) → Int → Int → Int → Int → (Bool → Prop) → Prop := Classical.choose f_ex
theorem f_def : f = f0 := Classical.choose_spec f_ex
def m2000002 (x15 : Bool) (b0_0 : Int) (b0_1 : Int) (b0_2 : (List Int)) (b0_3 : (List Int)) (b0_4 : Int) (b1_0 : Int) (b1_1 : Int) (b1_2 : Int) : St := { tmps := mkT 31 0 [(2, (.ptr 0 0)), (3, (.ptr 1 0)), (15, (.v (.bool x15)))], hp := [(.box 26 [(.v (.int IntKind.i64 b0_0)), (.v (.int IntKind.i64 b0_1)), (.fz (Ty.int IntKind.i64) b0_2), (.fz (Ty.int IntKind.i64) b0_3), (.v (.int IntKind.i64 b0_4))]), (.box 28 [(.v (.int IntKind.i64 b1_0)), (.v (.int IntKind.i64 b1_1)), (.v (.int IntKind.i64 b1_2))])], m := 0 }
def m3 (b0_0 : Int) (b0_1 : Int) (b0_2 : (List Int)) (b0_3 : (List Int)) (b0_4 : Int) (b1_0 : Int) (b1_1 : Int) (b1_2 : Int) : St := { tmps := mkT 31 0 [(2, (.ptr 0 0)), (3, (.ptr 1 0))], hp := [(.box 26 [(.v (.int IntKind.i64 b0_0)), (.v (.int IntKind.i64 b0_1)), (.fz (Ty.int IntKind.i64) b0_2), (.fz (Ty.int IntKind.i64) b0_3), (.v (.int IntKind.i64 b0_4))]), (.box 28 [(.v (.int IntKind.i64 b1_0)), (.v (.int IntKind.i64 b1_1)), (.v (.int IntKind.i64 b1_2))])], m := 0 }
def mL4 (x20 : (List Int)) (x21 : Int) (x22 : Int) (b0_0 : Int) (b0_1 : Int) (b0_2 : Int) : St := { tmps := mkT 31 0 [(3, (.ptr 0 0)), (20, (.fz (Ty.int IntKind.i64) x20)), (21, (.v (.int IntKind.i64 x21))), (22, (.v (.int IntKind.i64 x22)))], hp := [(.box 28 [(.v (.int IntKind.i64 b0_0)), (.v (.int IntKind.i64 b0_1)), (.v (.int IntKind.i64 b0_2))])], m := 0 }
def m9 : St := { tmps := mkT 31 0 [], hp := [], m := 0 }
noncomputable def X2000002 (k kp : D → List Blk → Prop) : St → Prop := atP cfg (pick none' []) [1, 0, 1] body (topK cfg Try.f20 k kp)
noncomputable def X3 (k kp : D → List Blk → Prop) : St → Prop := atP cfg (pick none' []) [1, 1] body (topK cfg Try.f20 k kp)
noncomputable def YL4 (k kp : D → List Blk → Prop) : (St → Prop) → St → Prop := loopB cfg (sub [1, 1, 0, 1, 0, 0] body) (contK cfg (pick none' []) [1, 1, 0, 1, 0] body (topK cfg Try.f20 k kp))
noncomputable def XL4 (k kp : D → List Blk → Prop) : St → Prop := fun st => ∃ n, loopN (YL4 k kp) n st
noncomputable def X9 (k kp : D → List Blk → Prop) : St → Prop := atP cfg (pick none' []) [1, 1, 1] body (topK cfg Try.f20 k kp)
noncomputable def JJ (k kp : D → List Blk → Prop) : Nat → St → Prop := pick none' [(2000002, X2000002 k kp), (3, X3 k kp), (9, X9 k kp)]
noncomputable def LL (k kp : D → List Blk → Prop) : Nat → St → Prop := pick none' [(4, XL4 k kp)]
noncomputable def JJ_4 (k kp : D → List Blk → Prop) (ag4 : St → Prop) : Nat → St → Prop := pick none' [(2000002, X2000002 k kp), (3, X3 k kp), (9, X9 k kp)]
noncomputable def LL_4 (k kp : D → List Blk → Prop) (ag4 : St → Prop) : Nat → St → Prop := pick none' [(4, XL4 k kp)]
theorem j9_c (k kp : D → List Blk → Prop) (J L : Nat → St → Prop) : runC cfg 9 J L (pick none' []) [1, 1, 1] body (topK cfg Try.f20 k kp) (m9) = j9 (fun y0 => k (.v (.bool y0)) []) := by kernel_rfl
theorem j9_ag (k kp : D → List Blk → Prop) : agPL cfg 9 (JJ k kp) (LL k kp) [1, 1, 1] body = agPR cfg 9 (pick none' []) [1, 1, 1] body (topK cfg Try.f20 k kp) := by kernel_rfl
theorem j9_raw (k kp : D → List Blk → Prop) : X9 k kp (m9) = j9 (fun y0 => k (.v (.bool y0)) []) :=
  Eq.mp (by kernel_rfl) ((atP_run (j9_ag k kp) (m9)).trans (j9_c k kp (JJ k kp) (LL k kp)))
theorem j9_eq (k kp : D → List Blk → Prop) : X9 k kp (m9) = j9' (fun y0 => k (.v (.bool y0)) []) := by
  rw [j9_raw]; rfl
theorem l4_c (k kp : D → List Blk → Prop) (J L : Nat → St → Prop) (ag4 : St → Prop) (x20 : (List Int)) (x21 : Int) (x22 : Int) (b0_0 : Int) (b0_1 : Int) (b0_2 : Int) : runC cfg 1000001 J L (pick none' [(4, ag4)]) [1, 1, 0, 1, 0, 0] body (topK cfg Try.f20 k kp) (mL4 x20 x21 x22 b0_0 b0_1 b0_2) = l4 (J 9 (m9)) (fun x22 b0_0 b0_1 b0_2 => ag4 (mL4 x20 x21 x22 b0_0 b0_1 b0_2)) x20 x21 x22 b0_0 b0_1 b0_2 (fun y0 => k (.v (.bool y0)) []) := by kernel_rfl
theorem l4_ag (k kp : D → List Blk → Prop) (ag4 : St → Prop) : agPL cfg 1000001 (JJ_4 k kp ag4) (LL_4 k kp ag4) [1, 1, 0, 1, 0, 0] body = agPR cfg 1000001 (pick none' [(4, ag4)]) [1, 1, 0, 1, 0, 0] body (topK cfg Try.f20 k kp) := by kernel_rfl
theorem l4_raw (k kp : D → List Blk → Prop) (ag4 : St → Prop) (x20 : (List Int)) (x21 : Int) (x22 : Int) (b0_0 : Int) (b0_1 : Int) (b0_2 : Int) : YL4 k kp ag4 (mL4 x20 x21 x22 b0_0 b0_1 b0_2) = l4 (X9 k kp (m9)) (fun x22 b0_0 b0_1 b0_2 => ag4 (mL4 x20 x21 x22 b0_0 b0_1 b0_2)) x20 x21 x22 b0_0 b0_1 b0_2 (fun y0 => k (.v (.bool y0)) []) :=
  Eq.mp (by kernel_rfl) ((atP_run (l4_ag k kp ag4) (mL4 x20 x21 x22 b0_0 b0_1 b0_2)).trans (l4_c k kp (JJ_4 k kp ag4) (LL_4 k kp ag4) ag4 x20 x21 x22 b0_0 b0_1 b0_2))
theorem l4_eq (k kp : D → List Blk → Prop) (x20 : (List Int)) (x21 : Int) (x22 : Int) (b0_0 : Int) (b0_1 : Int) (b0_2 : Int) : XL4 k kp (mL4 x20 x21 x22 b0_0 b0_1 b0_2) = l4' x20 x21 x22 b0_0 b0_1 b0_2 (fun y0 => k (.v (.bool y0)) []) :=
  loop_eq (mk := fun (s : Int × Int × Int × Int) => mL4 x20 x21 s.1 s.2.1 s.2.2.1 s.2.2.2) (fun again s => by rw [l4_raw k kp again x20 x21 s.1 s.2.1 s.2.2.1 s.2.2.2]; simp only [j9_eq]; first | done | rfl) (x22, b0_0, b0_1, b0_2)
theorem j3_c (k kp : D → List Blk → Prop) (J L : Nat → St → Prop) (b0_0 : Int) (b0_1 : Int) (b0_2 : (List Int)) (b0_3 : (List Int)) (b0_4 : Int) (b1_0 : Int) (b1_1 : Int) (b1_2 : Int) : runC cfg 3 J L (pick none' []) [1, 1] body (topK cfg Try.f20 k kp) (m3 b0_0 b0_1 b0_2 b0_3 b0_4 b1_0 b1_1 b1_2) = j3 (fun x20 x21 x22 b0_0 b0_1 b0_2 => L 4 (mL4 x20 x21 x22 b0_0 b0_1 b0_2)) b0_0 b0_1 b0_2 b0_3 b0_4 b1_0 b1_1 b1_2 (fun y0 => k (.v (.bool y0)) []) := by kernel_rfl
theorem j3_ag (k kp : D → List Blk → Prop) : agPL cfg 3 (JJ k kp) (LL k kp) [1, 1] body = agPR cfg 3 (pick none' []) [1, 1] body (topK cfg Try.f20 k kp) := by kernel_rfl
theorem j3_raw (k kp : D → List Blk → Prop) (b0_0 : Int) (b0_1 : Int) (b0_2 : (List Int)) (b0_3 : (List Int)) (b0_4 : Int) (b1_0 : Int) (b1_1 : Int) (b1_2 : Int) : X3 k kp (m3 b0_0 b0_1 b0_2 b0_3 b0_4 b1_0 b1_1 b1_2) = j3 (fun x20 x21 x22 b0_0 b0_1 b0_2 => XL4 k kp (mL4 x20 x21 x22 b0_0 b0_1 b0_2)) b0_0 b0_1 b0_2 b0_3 b0_4 b1_0 b1_1 b1_2 (fun y0 => k (.v (.bool y0)) []) :=
  Eq.mp (by kernel_rfl) ((atP_run (j3_ag k kp) (m3 b0_0 b0_1 b0_2 b0_3 b0_4 b1_0 b1_1 b1_2)).trans (j3_c k kp (JJ k kp) (LL k kp) b0_0 b0_1 b0_2 b0_3 b0_4 b1_0 b1_1 b1_2))
theorem j3_eq (k kp : D → List Blk → Prop) (b0_0 : Int) (b0_1 : Int) (b0_2 : (List Int)) (b0_3 : (List Int)) (b0_4 : Int) (b1_0 : Int) (b1_1 : Int) (b1_2 : Int) : X3 k kp (m3 b0_0 b0_1 b0_2 b0_3 b0_4 b1_0 b1_1 b1_2) = j3' b0_0 b0_1 b0_2 b0_3 b0_4 b1_0 b1_1 b1_2 (fun y0 => k (.v (.bool y0)) []) := by
  rw [j3_raw]; simp only [l4_eq]; first | done | rfl
theorem j2000002_c (k kp : D → List Blk → Prop) (J L : Nat → St → Prop) (x15 : Bool) (b0_0 : Int) (b0_1 : Int) (b0_2 : (List Int)) (b0_3 : (List Int)) (b0_4 : Int) (b1_0 : Int) (b1_1 : Int) (b1_2 : Int) : runC cfg 2000002 J L (pick none' []) [1, 0, 1] body (topK cfg Try.f20 k kp) (m2000002 x15 b0_0 b0_1 b0_2 b0_3 b0_4 b1_0 b1_1 b1_2) = j2000002 (fun b0_0 b0_1 b0_2 b0_3 b0_4 b1_0 b1_1 b1_2 => J 3 (m3 b0_0 b0_1 b0_2 b0_3 b0_4 b1_0 b1_1 b1_2)) x15 b0_0 b0_1 b0_2 b0_3 b0_4 b1_0 b1_1 b1_2 (fun y0 => k (.v (.bool y0)) []) := by kernel_rfl
theorem j2000002_ag (k kp : D → List Blk → Prop) : agPL cfg 2000002 (JJ k kp) (LL k kp) [1, 0, 1] body = agPR cfg 2000002 (pick none' []) [1, 0, 1] body (topK cfg Try.f20 k kp) := by kernel_rfl
theorem j2000002_raw (k kp : D → List Blk → Prop) (x15 : Bool) (b0_0 : Int) (b0_1 : Int) (b0_2 : (List Int)) (b0_3 : (List Int)) (b0_4 : Int) (b1_0 : Int) (b1_1 : Int) (b1_2 : Int) : X2000002 k kp (m2000002 x15 b0_0 b0_1 b0_2 b0_3 b0_4 b1_0 b1_1 b1_2) = j2000002 (fun b0_0 b0_1 b0_2 b0_3 b0_4 b1_0 b1_1 b1_2 => X3 k kp (m3 b0_0 b0_1 b0_2 b0_3 b0_4 b1_0 b1_1 b1_2)) x15 b0_0 b0_1 b0_2 b0_3 b0_4 b1_0 b1_1 b1_2 (fun y0 => k (.v (.bool y0)) []) :=
  Eq.mp (by kernel_rfl) ((atP_run (j2000002_ag k kp) (m2000002 x15 b0_0 b0_1 b0_2 b0_3 b0_4 b1_0 b1_1 b1_2)).trans (j2000002_c k kp (JJ k kp) (LL k kp) x15 b0_0 b0_1 b0_2 b0_3 b0_4 b1_0 b1_1 b1_2))
theorem j2000002_eq (k kp : D → List Blk → Prop) (x15 : Bool) (b0_0 : Int) (b0_1 : Int) (b0_2 : (List Int)) (b0_3 : (List Int)) (b0_4 : Int) (b1_0 : Int) (b1_1 : Int) (b1_2 : Int) : X2000002 k kp (m2000002 x15 b0_0 b0_1 b0_2 b0_3 b0_4 b1_0 b1_1 b1_2) = j2000002' x15 b0_0 b0_1 b0_2 b0_3 b0_4 b1_0 b1_1 b1_2 (fun y0 => k (.v (.bool y0)) []) := by
  rw [j2000002_raw]; simp only [j3_eq]; first | done | rfl
theorem c_c (k kp : D → List Blk → Prop) (J L : Nat → St → Prop) (x0_0_0 : Int) (x0_0_1 : Int) (x0_1_0 : (List Int)) (x0_1_1 : (List Int)) (x0_2 : Int) (x1_0 : Int) (x1_1 : Int) (x1_2 : Int) : runC cfg 1000001 J L none'' [] body (topK cfg Try.f20 k kp) (st0 Try.f20 [(.agg [(.v (.int IntKind.i64 x0_0_0)), (.v (.int IntKind.i64 x0_0_1)), (.fz (Ty.int IntKind.i64) x0_1_0), (.fz (Ty.int IntKind.i64) x0_1_1), (.v (.int IntKind.i64 x0_2))]), (.agg [(.v (.int IntKind.i64 x1_0)), (.v (.int IntKind.i64 x1_1)), (.v (.int IntKind.i64 x1_2))])] []) = c (fun x15 b0_0 b0_1 b0_2 b0_3 b0_4 b1_0 b1_1 b1_2 => J 2000002 (m2000002 x15 b0_0 b0_1 b0_2 b0_3 b0_4 b1_0 b1_1 b1_2)) x0_0_0 x0_0_1 x0_1_0 x0_1_1 x0_2 x1_0 x1_1 x1_2 (fun y0 => k (.v (.bool y0)) []) := by kernel_rfl
theorem c_ag (k kp : D → List Blk → Prop) : agPL cfg 1000001 (JJ k kp) (LL k kp) [] body = agPR cfg 1000001 none'' [] body (topK cfg Try.f20 k kp) := by kernel_rfl
theorem body_is : Try.f20.body = some body := by kernel_rfl
theorem c_raw (k kp : D → List Blk → Prop) (x0_0_0 : Int) (x0_0_1 : Int) (x0_1_0 : (List Int)) (x0_1_1 : (List Int)) (x0_2 : Int) (x1_0 : Int) (x1_1 : Int) (x1_2 : Int) : funW cfg Try.f20 [(.agg [(.v (.int IntKind.i64 x0_0_0)), (.v (.int IntKind.i64 x0_0_1)), (.fz (Ty.int IntKind.i64) x0_1_0), (.fz (Ty.int IntKind.i64) x0_1_1), (.v (.int IntKind.i64 x0_2))]), (.agg [(.v (.int IntKind.i64 x1_0)), (.v (.int IntKind.i64 x1_1)), (.v (.int IntKind.i64 x1_2))])] [] k kp = c (fun x15 b0_0 b0_1 b0_2 b0_3 b0_4 b1_0 b1_1 b1_2 => X2000002 k kp (m2000002 x15 b0_0 b0_1 b0_2 b0_3 b0_4 b1_0 b1_1 b1_2)) x0_0_0 x0_0_1 x0_1_0 x0_1_1 x0_2 x1_0 x1_1 x1_2 (fun y0 => k (.v (.bool y0)) []) :=
  Eq.mp (by kernel_rfl) ((funW_run (AG := none'') body_is (c_ag k kp) [(.agg [(.v (.int IntKind.i64 x0_0_0)), (.v (.int IntKind.i64 x0_0_1)), (.fz (Ty.int IntKind.i64) x0_1_0), (.fz (Ty.int IntKind.i64) x0_1_1), (.v (.int IntKind.i64 x0_2))]), (.agg [(.v (.int IntKind.i64 x1_0)), (.v (.int IntKind.i64 x1_1)), (.v (.int IntKind.i64 x1_2))])] []).trans (c_c k kp (JJ k kp) (LL k kp) x0_0_0 x0_0_1 x0_1_0 x0_1_1 x0_2 x1_0 x1_1 x1_2))
theorem f_eq (k kp : D → List Blk → Prop) (x0_0_0 : Int) (x0_0_1 : Int) (x0_1_0 : (List Int)) (x0_1_1 : (List Int)) (x0_2 : Int) (x1_0 : Int) (x1_1 : Int) (x1_2 : Int) : funW cfg Try.f20 [(.agg [(.v (.int IntKind.i64 x0_0_0)), (.v (.int IntKind.i64 x0_0_1)), (.fz (Ty.int IntKind.i64) x0_1_0), (.fz (Ty.int IntKind.i64) x0_1_1), (.v (.int IntKind.i64 x0_2))]), (.agg [(.v (.int IntKind.i64 x1_0)), (.v (.int IntKind.i64 x1_1)), (.v (.int IntKind.i64 x1_2))])] [] k kp = f x0_0_0 x0_0_1 x0_1_0 x0_1_1 x0_2 x1_0 x1_1 x1_2 (fun y0 => k (.v (.bool y0)) []) := by
  rw [f_def, c_raw]; simp only [j2000002_eq]; first | done | rfl
noncomputable def ent0 : Entry := fun args blks k _ => match args, blks with
  | [d0, d1], [] => aAgg 5 d0 fun l => aCons l fun d0_0 l => aCons l fun d0_1 l => aCons l fun d0_2 l => aCons l fun d0_3 l => aCons l fun d0_4 l => aNil l (aInt IntKind.i64 d0_0 fun x0_0_0 => aInt IntKind.i64 d0_1 fun x0_0_1 => aFz (Ty.int IntKind.i64) d0_2 fun x0_1_0 => aFz (Ty.int IntKind.i64) d0_3 fun x0_1_1 => aInt IntKind.i64 d0_4 fun x0_2 => aAgg 3 d1 fun l => aCons l fun d1_0 l => aCons l fun d1_1 l => aCons l fun d1_2 l => aNil l (aInt IntKind.i64 d1_0 fun x1_0 => aInt IntKind.i64 d1_1 fun x1_1 => aInt IntKind.i64 d1_2 fun x1_2 => f x0_0_0 x0_0_1 x0_1_0 x0_1_1 x0_2 x1_0 x1_1 x1_2 (fun y0 => k (.v (.bool y0)) [])))
  | _, _ => False
noncomputable def ent : Entry := fun args blks k kp => ent0 (convA [none, none] args) blks k kp
theorem ok : EntOk Try.prog 0 0 20 ent := by
  refine EntOk.conv (EntOk.of (funW_ok (cfg := cfg) (tyOk_of rfl rfl tyL_ok) (eqOk_of (P := Try.prog) rfl rfl (by kernel_rfl)) mixed_ok (tab_ok ?_) Try.func20 (by rfl) (by rfl)) ?_) _
  · intro p hp
    simp only [List.mem_cons, List.not_mem_nil, or_false] at hp
    rcases hp with rfl
    · exact N27.ok
  · intro args blks k kp h k' kp'
    match args, blks, h with
    | [d0, d1], [], h =>
    dsimp only [ent0] at h
    have h9 := aAgg_elim h; clear h; obtain ⟨_, rfl, h⟩ := h9
    have h9 := aCons_elim h; clear h; obtain ⟨d0_0, _, rfl, h⟩ := h9
    have h9 := aCons_elim h; clear h; obtain ⟨d0_1, _, rfl, h⟩ := h9
    have h9 := aCons_elim h; clear h; obtain ⟨d0_2, _, rfl, h⟩ := h9
    have h9 := aCons_elim h; clear h; obtain ⟨d0_3, _, rfl, h⟩ := h9
    have h9 := aCons_elim h; clear h; obtain ⟨d0_4, _, rfl, h⟩ := h9
    have h9 := aNil_elim h; clear h; obtain ⟨rfl, h⟩ := h9
    have h9 := aInt_elim h; clear h; obtain ⟨x0_0_0, rfl, h⟩ := h9
    have h9 := aInt_elim h; clear h; obtain ⟨x0_0_1, rfl, h⟩ := h9
    have h9 := aFz_elim (t := (Ty.int IntKind.i64)) h; clear h; obtain ⟨x0_1_0, rfl, h⟩ := h9
    have h9 := aFz_elim (t := (Ty.int IntKind.i64)) h; clear h; obtain ⟨x0_1_1, rfl, h⟩ := h9
    have h9 := aInt_elim h; clear h; obtain ⟨x0_2, rfl, h⟩ := h9
    have h9 := aAgg_elim h; clear h; obtain ⟨_, rfl, h⟩ := h9
    have h9 := aCons_elim h; clear h; obtain ⟨d1_0, _, rfl, h⟩ := h9
    have h9 := aCons_elim h; clear h; obtain ⟨d1_1, _, rfl, h⟩ := h9
    have h9 := aCons_elim h; clear h; obtain ⟨d1_2, _, rfl, h⟩ := h9
    have h9 := aNil_elim h; clear h; obtain ⟨rfl, h⟩ := h9
    have h9 := aInt_elim h; clear h; obtain ⟨x1_0, rfl, h⟩ := h9
    have h9 := aInt_elim h; clear h; obtain ⟨x1_1, rfl, h⟩ := h9
    have h9 := aInt_elim h; clear h; obtain ⟨x1_2, rfl, h⟩ := h9
    exact (f_eq k' kp' x0_0_0 x0_0_1 x0_1_0 x0_1_1 x0_2 x1_0 x1_1 x1_2).symm
end N20
end Go.Proofs.Yu
namespace Go.Proofs.Yu
open Go Go.Aw Go.Proofs
set_option linter.unusedVariables false
set_option linter.unusedSimpArgs false
set_option maxRecDepth 100000
/-! dyehouse/target.Name -/
namespace N22
noncomputable def cfg : Cfg := { P := Try.prog, ty := tys, E := tab [(27, N27.ent), (62, N62.ent)], atSeq := tab [(2000002, ⟨[(1, .keep), (3, .keep)]⟩), (5, ⟨[]⟩)], atLoop := tab [], outs := [], eqT := tab [] }
noncomputable def body : Code := bodyOf Try.f22
def j2000002 (j5 : Prop) (x3 : Bool) (b0_0 : Int) (b0_1 : Int) (b0_2 : Int) (k : ByteArray → Prop) : Prop :=
  (br x3 (N27.f b0_1 (fun (y0_1 : ByteArray) => ((((ByteArray.mk #[36])).size + (y0_1).size ≤ 9223372036854775807) ∧ (N62.f b0_2 (fun (y0_2 : ByteArray) => (((((ByteArray.mk #[36]) ++ y0_1)).size + (y0_2).size ≤ 9223372036854775807) ∧ (k (((ByteArray.mk #[36]) ++ y0_1) ++ y0_2)))))))) (br (b0_0 == (3 : Int)) (N62.f b0_2 (fun (y0_3 : ByteArray) => ((((ByteArray.mk #[35])).size + (y0_3).size ≤ 9223372036854775807) ∧ (k ((ByteArray.mk #[35]) ++ y0_3))))) (j5)))
def j5 (k : ByteArray → Prop) : Prop :=
  (k (ByteArray.mk #[]))
def c (j2000002 : Bool → Int → Int → Int → Prop) (x0_0 : Int) (x0_1 : Int) (x0_2 : Int) (k : ByteArray → Prop) : Prop :=
  (br (x0_0 == (2 : Int)) (N27.f x0_1 (fun (y0_0 : ByteArray) => (j2000002 (!(beqS y0_0 (ByteArray.mk #[]))) x0_0 x0_1 x0_2))) (j2000002 false x0_0 x0_1 x0_2))
def j5' (k : ByteArray → Prop) : Prop := j5 k
def j2000002' (x3 : Bool) (b0_0 : Int) (b0_1 : Int) (b0_2 : Int) (k : ByteArray → Prop) : Prop := j2000002 (j5' k) x3 b0_0 b0_1 b0_2 k
def f0 (x0_0 : Int) (x0_1 : Int) (x0_2 : Int) (k : ByteArray → Prop) : Prop := c (fun x3 b0_0 b0_1 b0_2 => j2000002' x3 b0_0 b0_1 b0_2 k) x0_0 x0_1 x0_2 k
theorem f_ex : ∃ g : Int → Int → Int → (ByteArray → Prop) → Prop, g = f0 := ⟨_, rfl⟩
noncomputable def f : Int → Int → Int → (ByteArray → Prop) → Prop := Classical.choose f_ex
theorem f_def : f = f0 := Classical.choose_spec f_ex
def m2000002 (x3 : Bool) (b0_0 : Int) (b0_1 : Int) (b0_2 : Int) : St := { tmps := mkT 29 0 [(1, (.ptr 0 0)), (3, (.v (.bool x3)))], hp := [(.box 28 [(.v (.int IntKind.i64 b0_0)), (.v (.int IntKind.i64 b0_1)), (.v (.int IntKind.i64 b0_2))])], m := 0 }
def m5 : St := { tmps := mkT 29 0 [], hp := [], m := 0 }
noncomputable def X2000002 (k kp : D → List Blk → Prop) : St → Prop := atP cfg (pick none' []) [1, 0, 0, 1] body (topK cfg Try.f22 k kp)
noncomputable def X5 (k kp : D → List Blk → Prop) : St → Prop := atP cfg (pick none' []) [1, 1] body (topK cfg Try.f22 k kp)
noncomputable def JJ (k kp : D → List Blk → Prop) : Nat → St → Prop := pick none' [(2000002, X2000002 k kp), (5, X5 k kp)]
noncomputable def LL (k kp : D → List Blk → Prop) : Nat → St → Prop := pick none' []
theorem j5_c (k kp : D → List Blk → Prop) (J L : Nat → St → Prop) : runC cfg 5 J L (pick none' []) [1, 1] body (topK cfg Try.f22 k kp) (m5) = j5 (fun y0 => k (.v (.string y0)) []) := by kernel_rfl
theorem j5_ag (k kp : D → List Blk → Prop) : agPL cfg 5 (JJ k kp) (LL k kp) [1, 1] body = agPR cfg 5 (pick none' []) [1, 1] body (topK cfg Try.f22 k kp) := by kernel_rfl
theorem j5_raw (k kp : D → List Blk → Prop) : X5 k kp (m5) = j5 (fun y0 => k (.v (.string y0)) []) :=
  Eq.mp (by kernel_rfl) ((atP_run (j5_ag k kp) (m5)).trans (j5_c k kp (JJ k kp) (LL k kp)))
theorem j5_eq (k kp : D → List Blk → Prop) : X5 k kp (m5) = j5' (fun y0 => k (.v (.string y0)) []) := by
  rw [j5_raw]; rfl
theorem j2000002_c (k kp : D → List Blk → Prop) (J L : Nat → St → Prop) (x3 : Bool) (b0_0 : Int) (b0_1 : Int) (b0_2 : Int) : runC cfg 2000002 J L (pick none' []) [1, 0, 0, 1] body (topK cfg Try.f22 k kp) (m2000002 x3 b0_0 b0_1 b0_2) = j2000002 (J 5 (m5)) x3 b0_0 b0_1 b0_2 (fun y0 => k (.v (.string y0)) []) := by kernel_rfl
theorem j2000002_ag (k kp : D → List Blk → Prop) : agPL cfg 2000002 (JJ k kp) (LL k kp) [1, 0, 0, 1] body = agPR cfg 2000002 (pick none' []) [1, 0, 0, 1] body (topK cfg Try.f22 k kp) := by kernel_rfl
theorem j2000002_raw (k kp : D → List Blk → Prop) (x3 : Bool) (b0_0 : Int) (b0_1 : Int) (b0_2 : Int) : X2000002 k kp (m2000002 x3 b0_0 b0_1 b0_2) = j2000002 (X5 k kp (m5)) x3 b0_0 b0_1 b0_2 (fun y0 => k (.v (.string y0)) []) :=
  Eq.mp (by kernel_rfl) ((atP_run (j2000002_ag k kp) (m2000002 x3 b0_0 b0_1 b0_2)).trans (j2000002_c k kp (JJ k kp) (LL k kp) x3 b0_0 b0_1 b0_2))
theorem j2000002_eq (k kp : D → List Blk → Prop) (x3 : Bool) (b0_0 : Int) (b0_1 : Int) (b0_2 : Int) : X2000002 k kp (m2000002 x3 b0_0 b0_1 b0_2) = j2000002' x3 b0_0 b0_1 b0_2 (fun y0 => k (.v (.string y0)) []) := by
  rw [j2000002_raw]; simp only [j5_eq]; first | done | rfl
theorem c_c (k kp : D → List Blk → Prop) (J L : Nat → St → Prop) (x0_0 : Int) (x0_1 : Int) (x0_2 : Int) : runC cfg 1000001 J L none'' [] body (topK cfg Try.f22 k kp) (st0 Try.f22 [(.agg [(.v (.int IntKind.i64 x0_0)), (.v (.int IntKind.i64 x0_1)), (.v (.int IntKind.i64 x0_2))])] []) = c (fun x3 b0_0 b0_1 b0_2 => J 2000002 (m2000002 x3 b0_0 b0_1 b0_2)) x0_0 x0_1 x0_2 (fun y0 => k (.v (.string y0)) []) := by kernel_rfl
theorem c_ag (k kp : D → List Blk → Prop) : agPL cfg 1000001 (JJ k kp) (LL k kp) [] body = agPR cfg 1000001 none'' [] body (topK cfg Try.f22 k kp) := by kernel_rfl
theorem body_is : Try.f22.body = some body := by kernel_rfl
theorem c_raw (k kp : D → List Blk → Prop) (x0_0 : Int) (x0_1 : Int) (x0_2 : Int) : funW cfg Try.f22 [(.agg [(.v (.int IntKind.i64 x0_0)), (.v (.int IntKind.i64 x0_1)), (.v (.int IntKind.i64 x0_2))])] [] k kp = c (fun x3 b0_0 b0_1 b0_2 => X2000002 k kp (m2000002 x3 b0_0 b0_1 b0_2)) x0_0 x0_1 x0_2 (fun y0 => k (.v (.string y0)) []) :=
  Eq.mp (by kernel_rfl) ((funW_run (AG := none'') body_is (c_ag k kp) [(.agg [(.v (.int IntKind.i64 x0_0)), (.v (.int IntKind.i64 x0_1)), (.v (.int IntKind.i64 x0_2))])] []).trans (c_c k kp (JJ k kp) (LL k kp) x0_0 x0_1 x0_2))
theorem f_eq (k kp : D → List Blk → Prop) (x0_0 : Int) (x0_1 : Int) (x0_2 : Int) : funW cfg Try.f22 [(.agg [(.v (.int IntKind.i64 x0_0)), (.v (.int IntKind.i64 x0_1)), (.v (.int IntKind.i64 x0_2))])] [] k kp = f x0_0 x0_1 x0_2 (fun y0 => k (.v (.string y0)) []) := by
  rw [f_def, c_raw]; simp only [j2000002_eq]; first | done | rfl
noncomputable def ent0 : Entry := fun args blks k _ => match args, blks with
  | [d0], [] => aAgg 3 d0 fun l => aCons l fun d0_0 l => aCons l fun d0_1 l => aCons l fun d0_2 l => aNil l (aInt IntKind.i64 d0_0 fun x0_0 => aInt IntKind.i64 d0_1 fun x0_1 => aInt IntKind.i64 d0_2 fun x0_2 => f x0_0 x0_1 x0_2 (fun y0 => k (.v (.string y0)) []))
  | _, _ => False
noncomputable def ent : Entry := fun args blks k kp => ent0 (convA [none] args) blks k kp
theorem ok : EntOk Try.prog 0 0 22 ent := by
  refine EntOk.conv (EntOk.of (funW_ok (cfg := cfg) (tyOk_of rfl rfl tyL_ok) (eqOk_of (P := Try.prog) rfl rfl (by kernel_rfl)) mixed_ok (tab_ok ?_) Try.func22 (by rfl) (by rfl)) ?_) _
  · intro p hp
    simp only [List.mem_cons, List.not_mem_nil, or_false] at hp
    rcases hp with rfl | rfl
    · exact N27.ok
    · exact N62.ok
  · intro args blks k kp h k' kp'
    match args, blks, h with
    | [d0], [], h =>
    dsimp only [ent0] at h
    have h9 := aAgg_elim h; clear h; obtain ⟨_, rfl, h⟩ := h9
    have h9 := aCons_elim h; clear h; obtain ⟨d0_0, _, rfl, h⟩ := h9
    have h9 := aCons_elim h; clear h; obtain ⟨d0_1, _, rfl, h⟩ := h9
    have h9 := aCons_elim h; clear h; obtain ⟨d0_2, _, rfl, h⟩ := h9
    have h9 := aNil_elim h; clear h; obtain ⟨rfl, h⟩ := h9
    have h9 := aInt_elim h; clear h; obtain ⟨x0_0, rfl, h⟩ := h9
    have h9 := aInt_elim h; clear h; obtain ⟨x0_1, rfl, h⟩ := h9
    have h9 := aInt_elim h; clear h; obtain ⟨x0_2, rfl, h⟩ := h9
    exact (f_eq k' kp' x0_0 x0_1 x0_2).symm
end N22
end Go.Proofs.Yu
namespace Go.Proofs.Yu
open Go Go.Aw Go.Proofs
set_option linter.unusedVariables false
set_option linter.unusedSimpArgs false
set_option maxRecDepth 100000
/-! dyehouse/target.Kept -/
namespace N24
noncomputable def cfg : Cfg := { P := Try.prog, ty := tys, E := tab [(27, N27.ent), (20, N20.ent)], atSeq := tab [(9, ⟨[(1, .keep), (3, .keep), (7, .own 3 (Ty.int IntKind.i64)), (17, .keep), (18, .keep)]⟩), (10, ⟨[(7, .keep)]⟩)], atLoop := tab [(5, ⟨[(1, .keep), (3, .keep), (7, .own 3 (Ty.int IntKind.i64)), (17, .keep), (18, .keep)]⟩)], outs := [.own 3 (Ty.int IntKind.i64)], eqT := tab [] }
noncomputable def body : Code := bodyOf Try.f24
def l5 (j9 : Int → Int → Int → Int → Int → (List Int) → (List Int) → Int → (List Int) → Prop) (j10 : (List Int) → Prop) (x1 : Int) (x17 : Int) (x18 : Int) (b0_0 : Int) (b0_1 : Int) (b0_2 : (List Int)) (b0_3 : (List Int)) (b0_4 : Int) (b1 : (List Int)) (k : (List Int) → Prop) : Prop :=
  (br (decide (x18 < x17)) (N20.f b0_0 b0_1 b0_2 b0_3 b0_4 (2 : Int) x1 x18 (fun (y0_1 : Bool) => (br (!y0_1) ((room ((b1).length + (([x18] : List Int)).length) 8) ∧ (j9 x1 x17 x18 b0_0 b0_1 b0_2 b0_3 b0_4 (b1 ++ ([x18] : List Int)))) (j9 x1 x17 x18 b0_0 b0_1 b0_2 b0_3 b0_4 b1)))) (j10 b1))
def j9 (ag5 : Int → Int → Int → (List Int) → (List Int) → Int → (List Int) → Prop) (x1 : Int) (x17 : Int) (x18 : Int) (b0_0 : Int) (b0_1 : Int) (b0_2 : (List Int)) (b0_3 : (List Int)) (b0_4 : Int) (b1 : (List Int)) (k : (List Int) → Prop) : Prop :=
  (ag5 (IntKind.i64.wrap (x18 + (1 : Int))) b0_0 b0_1 b0_2 b0_3 b0_4 b1)
def j10 (b0 : (List Int)) (k : (List Int) → Prop) : Prop :=
  (k b0)
def c (l5 : Int → Int → Int → Int → Int → (List Int) → (List Int) → Int → (List Int) → Prop) (x0_0_0 : Int) (x0_0_1 : Int) (x0_1_0 : (List Int)) (x0_1_1 : (List Int)) (x0_2 : Int) (x1 : Int) (x2 : Int) (k : (List Int) → Prop) : Prop :=
  (N27.f x1 (fun (y0_0 : ByteArray) => (br (beqS y0_0 (ByteArray.mk #[])) (k ([] : List Int)) (br (decide (x1 = ((0 : Nat) : Int))) (l5 x1 (mmv false x2 x0_0_0) (0 : Int) x0_0_0 x0_0_1 x0_1_0 x0_1_1 x0_2 ([] : List Int)) (br (decide (x1 = ((1 : Nat) : Int))) (l5 x1 (mmv false x2 x0_0_1) (0 : Int) x0_0_0 x0_0_1 x0_1_0 x0_1_1 x0_2 ([] : List Int)) False)))))
def j9' (ag5 : Int → Int → Int → (List Int) → (List Int) → Int → (List Int) → Prop) (x1 : Int) (x17 : Int) (x18 : Int) (b0_0 : Int) (b0_1 : Int) (b0_2 : (List Int)) (b0_3 : (List Int)) (b0_4 : Int) (b1 : (List Int)) (k : (List Int) → Prop) : Prop := j9 ag5 x1 x17 x18 b0_0 b0_1 b0_2 b0_3 b0_4 b1 k
def j10' (b0 : (List Int)) (k : (List Int) → Prop) : Prop := j10 b0 k
def l5' (x1 : Int) (x17 : Int) (x18 : Int) (b0_0 : Int) (b0_1 : Int) (b0_2 : (List Int)) (b0_3 : (List Int)) (b0_4 : Int) (b1 : (List Int)) (k : (List Int) → Prop) : Prop := ∃ n, loopS (fun (ag : (Int × Int × Int × (List Int) × (List Int) × Int × (List Int)) → Prop) (s : Int × Int × Int × (List Int) × (List Int) × Int × (List Int)) => l5 (fun x1 x17 x18 b0_0 b0_1 b0_2 b0_3 b0_4 b1 => j9' (fun x18 b0_0 b0_1 b0_2 b0_3 b0_4 b1 => ag (x18, b0_0, b0_1, b0_2, b0_3, b0_4, b1)) x1 x17 x18 b0_0 b0_1 b0_2 b0_3 b0_4 b1 k) (fun b0 => j10' b0 k) x1 x17 s.1 s.2.1 s.2.2.1 s.2.2.2.1 s.2.2.2.2.1 s.2.2.2.2.2.1 s.2.2.2.2.2.2 k) n (x18, b0_0, b0_1, b0_2, b0_3, b0_4, b1)
def f0 (x0_0_0 : Int) (x0_0_1 : Int) (x0_1_0 : (List Int)) (x0_1_1 : (List Int)) (x0_2 : Int) (x1 : Int) (x2 : Int) (k : (List Int) → Prop) : Prop := c (fun x1 x17 x18 b0_0 b0_1 b0_2 b0_3 b0_4 b1 => l5' x1 x17 x18 b0_0 b0_1 b0_2 b0_3 b0_4 b1 k) x0_0_0 x0_0_1 x0_1_0 x0_1_1 x0_2 x1 x2 k
theorem f_ex : ∃ g : Int → Int → (List Int) → (List Int) → Int → Int → Int → ((List Int) → Prop) → Prop, g = f0 := ⟨_, rfl⟩
noncomputable def f : Int → Int → (List Int) → (List Int) → Int → Int → Int → ((List Int) → Prop) → Prop := Classical.choose f_ex
theorem f_def : f = f0 := Classical.choose_spec f_ex
def mL5 (x1 : Int) (x17 : Int) (x18 : Int) (b0_0 : Int) (b0_1 : Int) (b0_2 : (List Int)) (b0_3 : (List Int)) (b0_4 : Int) (b1 : (List Int)) : St := { tmps := mkT 33 0 [(1, (.v (.int IntKind.i64 x1))), (3, (.ptr 0 0)), (7, (.sl 1 0)), (17, (.v (.int IntKind.i64 x17))), (18, (.v (.int IntKind.i64 x18)))], hp := [(.box 26 [(.v (.int IntKind.i64 b0_0)), (.v (.int IntKind.i64 b0_1)), (.fz (Ty.int IntKind.i64) b0_2), (.fz (Ty.int IntKind.i64) b0_3), (.v (.int IntKind.i64 b0_4))]), (.lst 3 (Ty.int IntKind.i64) b1 0 false)], m := 0 }
def m9 (x1 : Int) (x17 : Int) (x18 : Int) (b0_0 : Int) (b0_1 : Int) (b0_2 : (List Int)) (b0_3 : (List Int)) (b0_4 : Int) (b1 : (List Int)) : St := { tmps := mkT 33 0 [(1, (.v (.int IntKind.i64 x1))), (3, (.ptr 0 0)), (7, (.sl 1 0)), (17, (.v (.int IntKind.i64 x17))), (18, (.v (.int IntKind.i64 x18)))], hp := [(.box 26 [(.v (.int IntKind.i64 b0_0)), (.v (.int IntKind.i64 b0_1)), (.fz (Ty.int IntKind.i64) b0_2), (.fz (Ty.int IntKind.i64) b0_3), (.v (.int IntKind.i64 b0_4))]), (.lst 3 (Ty.int IntKind.i64) b1 0 false)], m := 0 }
def m10 (b0 : (List Int)) : St := { tmps := mkT 33 0 [(7, (.sl 0 0))], hp := [(.lst 3 (Ty.int IntKind.i64) b0 0 false)], m := 0 }
noncomputable def YL5 (k kp : D → List Blk → Prop) : (St → Prop) → St → Prop := loopB cfg (sub [1, 1, 1, 0, 1, 0, 0] body) (contK cfg (pick none' []) [1, 1, 1, 0, 1, 0] body (topK cfg Try.f24 k kp))
noncomputable def XL5 (k kp : D → List Blk → Prop) : St → Prop := fun st => ∃ n, loopN (YL5 k kp) n st
noncomputable def X9 (k kp : D → List Blk → Prop) (ag5 : St → Prop) : St → Prop := atP cfg (pick none' [(5, ag5)]) [1, 1, 1, 0, 1, 0, 0, 1, 1, 1] body (topK cfg Try.f24 k kp)
noncomputable def X10 (k kp : D → List Blk → Prop) : St → Prop := atP cfg (pick none' []) [1, 1, 1, 1] body (topK cfg Try.f24 k kp)
noncomputable def JJ_5 (k kp : D → List Blk → Prop) (ag5 : St → Prop) : Nat → St → Prop := pick none' [(9, X9 k kp ag5), (10, X10 k kp)]
noncomputable def LL_5 (k kp : D → List Blk → Prop) (ag5 : St → Prop) : Nat → St → Prop := pick none' [(5, XL5 k kp)]
noncomputable def JJ (k kp : D → List Blk → Prop) : Nat → St → Prop := pick none' [(10, X10 k kp)]
noncomputable def LL (k kp : D → List Blk → Prop) : Nat → St → Prop := pick none' [(5, XL5 k kp)]
theorem j9_c (k kp : D → List Blk → Prop) (J L : Nat → St → Prop) (ag5 : St → Prop) (x1 : Int) (x17 : Int) (x18 : Int) (b0_0 : Int) (b0_1 : Int) (b0_2 : (List Int)) (b0_3 : (List Int)) (b0_4 : Int) (b1 : (List Int)) : runC cfg 9 J L (pick none' [(5, ag5)]) [1, 1, 1, 0, 1, 0, 0, 1, 1, 1] body (topK cfg Try.f24 k kp) (m9 x1 x17 x18 b0_0 b0_1 b0_2 b0_3 b0_4 b1) = j9 (fun x18 b0_0 b0_1 b0_2 b0_3 b0_4 b1 => ag5 (mL5 x1 x17 x18 b0_0 b0_1 b0_2 b0_3 b0_4 b1)) x1 x17 x18 b0_0 b0_1 b0_2 b0_3 b0_4 b1 (fun z0 => k (.sl 0 0) [(.lst 3 (Ty.int IntKind.i64) z0 0 false)]) := by kernel_rfl
theorem j9_ag (k kp : D → List Blk → Prop) (ag5 : St → Prop) : agPL cfg 9 (JJ_5 k kp ag5) (LL_5 k kp ag5) [1, 1, 1, 0, 1, 0, 0, 1, 1, 1] body = agPR cfg 9 (pick none' [(5, ag5)]) [1, 1, 1, 0, 1, 0, 0, 1, 1, 1] body (topK cfg Try.f24 k kp) := by kernel_rfl
theorem j9_raw (k kp : D → List Blk → Prop) (ag5 : St → Prop) (x1 : Int) (x17 : Int) (x18 : Int) (b0_0 : Int) (b0_1 : Int) (b0_2 : (List Int)) (b0_3 : (List Int)) (b0_4 : Int) (b1 : (List Int)) : X9 k kp ag5 (m9 x1 x17 x18 b0_0 b0_1 b0_2 b0_3 b0_4 b1) = j9 (fun x18 b0_0 b0_1 b0_2 b0_3 b0_4 b1 => ag5 (mL5 x1 x17 x18 b0_0 b0_1 b0_2 b0_3 b0_4 b1)) x1 x17 x18 b0_0 b0_1 b0_2 b0_3 b0_4 b1 (fun z0 => k (.sl 0 0) [(.lst 3 (Ty.int IntKind.i64) z0 0 false)]) :=
  Eq.mp (by kernel_rfl) ((atP_run (j9_ag k kp ag5) (m9 x1 x17 x18 b0_0 b0_1 b0_2 b0_3 b0_4 b1)).trans (j9_c k kp (JJ_5 k kp ag5) (LL_5 k kp ag5) ag5 x1 x17 x18 b0_0 b0_1 b0_2 b0_3 b0_4 b1))
theorem j9_eq (k kp : D → List Blk → Prop) (ag5 : St → Prop) (x1 : Int) (x17 : Int) (x18 : Int) (b0_0 : Int) (b0_1 : Int) (b0_2 : (List Int)) (b0_3 : (List Int)) (b0_4 : Int) (b1 : (List Int)) : X9 k kp ag5 (m9 x1 x17 x18 b0_0 b0_1 b0_2 b0_3 b0_4 b1) = j9' (fun x18 b0_0 b0_1 b0_2 b0_3 b0_4 b1 => ag5 (mL5 x1 x17 x18 b0_0 b0_1 b0_2 b0_3 b0_4 b1)) x1 x17 x18 b0_0 b0_1 b0_2 b0_3 b0_4 b1 (fun z0 => k (.sl 0 0) [(.lst 3 (Ty.int IntKind.i64) z0 0 false)]) := by
  rw [j9_raw]; rfl
theorem j10_c (k kp : D → List Blk → Prop) (J L : Nat → St → Prop) (b0 : (List Int)) : runC cfg 10 J L (pick none' []) [1, 1, 1, 1] body (topK cfg Try.f24 k kp) (m10 b0) = j10 b0 (fun z0 => k (.sl 0 0) [(.lst 3 (Ty.int IntKind.i64) z0 0 false)]) := by kernel_rfl
theorem j10_ag (k kp : D → List Blk → Prop) : agPL cfg 10 (JJ k kp) (LL k kp) [1, 1, 1, 1] body = agPR cfg 10 (pick none' []) [1, 1, 1, 1] body (topK cfg Try.f24 k kp) := by kernel_rfl
theorem j10_raw (k kp : D → List Blk → Prop) (b0 : (List Int)) : X10 k kp (m10 b0) = j10 b0 (fun z0 => k (.sl 0 0) [(.lst 3 (Ty.int IntKind.i64) z0 0 false)]) :=
  Eq.mp (by kernel_rfl) ((atP_run (j10_ag k kp) (m10 b0)).trans (j10_c k kp (JJ k kp) (LL k kp) b0))
theorem j10_eq (k kp : D → List Blk → Prop) (b0 : (List Int)) : X10 k kp (m10 b0) = j10' b0 (fun z0 => k (.sl 0 0) [(.lst 3 (Ty.int IntKind.i64) z0 0 false)]) := by
  rw [j10_raw]; rfl
theorem l5_c (k kp : D → List Blk → Prop) (J L : Nat → St → Prop) (ag5 : St → Prop) (x1 : Int) (x17 : Int) (x18 : Int) (b0_0 : Int) (b0_1 : Int) (b0_2 : (List Int)) (b0_3 : (List Int)) (b0_4 : Int) (b1 : (List Int)) : runC cfg 1000001 J L (pick none' [(5, ag5)]) [1, 1, 1, 0, 1, 0, 0] body (topK cfg Try.f24 k kp) (mL5 x1 x17 x18 b0_0 b0_1 b0_2 b0_3 b0_4 b1) = l5 (fun x1 x17 x18 b0_0 b0_1 b0_2 b0_3 b0_4 b1 => J 9 (m9 x1 x17 x18 b0_0 b0_1 b0_2 b0_3 b0_4 b1)) (fun b0 => J 10 (m10 b0)) x1 x17 x18 b0_0 b0_1 b0_2 b0_3 b0_4 b1 (fun z0 => k (.sl 0 0) [(.lst 3 (Ty.int IntKind.i64) z0 0 false)]) := by kernel_rfl
theorem l5_ag (k kp : D → List Blk → Prop) (ag5 : St → Prop) : agPL cfg 1000001 (JJ_5 k kp ag5) (LL_5 k kp ag5) [1, 1, 1, 0, 1, 0, 0] body = agPR cfg 1000001 (pick none' [(5, ag5)]) [1, 1, 1, 0, 1, 0, 0] body (topK cfg Try.f24 k kp) := by kernel_rfl
theorem l5_raw (k kp : D → List Blk → Prop) (ag5 : St → Prop) (x1 : Int) (x17 : Int) (x18 : Int) (b0_0 : Int) (b0_1 : Int) (b0_2 : (List Int)) (b0_3 : (List Int)) (b0_4 : Int) (b1 : (List Int)) : YL5 k kp ag5 (mL5 x1 x17 x18 b0_0 b0_1 b0_2 b0_3 b0_4 b1) = l5 (fun x1 x17 x18 b0_0 b0_1 b0_2 b0_3 b0_4 b1 => X9 k kp ag5 (m9 x1 x17 x18 b0_0 b0_1 b0_2 b0_3 b0_4 b1)) (fun b0 => X10 k kp (m10 b0)) x1 x17 x18 b0_0 b0_1 b0_2 b0_3 b0_4 b1 (fun z0 => k (.sl 0 0) [(.lst 3 (Ty.int IntKind.i64) z0 0 false)]) :=
  Eq.mp (by kernel_rfl) ((atP_run (l5_ag k kp ag5) (mL5 x1 x17 x18 b0_0 b0_1 b0_2 b0_3 b0_4 b1)).trans (l5_c k kp (JJ_5 k kp ag5) (LL_5 k kp ag5) ag5 x1 x17 x18 b0_0 b0_1 b0_2 b0_3 b0_4 b1))
theorem l5_eq (k kp : D → List Blk → Prop) (x1 : Int) (x17 : Int) (x18 : Int) (b0_0 : Int) (b0_1 : Int) (b0_2 : (List Int)) (b0_3 : (List Int)) (b0_4 : Int) (b1 : (List Int)) : XL5 k kp (mL5 x1 x17 x18 b0_0 b0_1 b0_2 b0_3 b0_4 b1) = l5' x1 x17 x18 b0_0 b0_1 b0_2 b0_3 b0_4 b1 (fun z0 => k (.sl 0 0) [(.lst 3 (Ty.int IntKind.i64) z0 0 false)]) :=
  loop_eq (mk := fun (s : Int × Int × Int × (List Int) × (List Int) × Int × (List Int)) => mL5 x1 x17 s.1 s.2.1 s.2.2.1 s.2.2.2.1 s.2.2.2.2.1 s.2.2.2.2.2.1 s.2.2.2.2.2.2) (fun again s => by rw [l5_raw k kp again x1 x17 s.1 s.2.1 s.2.2.1 s.2.2.2.1 s.2.2.2.2.1 s.2.2.2.2.2.1 s.2.2.2.2.2.2]; simp only [j9_eq, j10_eq]; first | done | rfl) (x18, b0_0, b0_1, b0_2, b0_3, b0_4, b1)
theorem c_c (k kp : D → List Blk → Prop) (J L : Nat → St → Prop) (x0_0_0 : Int) (x0_0_1 : Int) (x0_1_0 : (List Int)) (x0_1_1 : (List Int)) (x0_2 : Int) (x1 : Int) (x2 : Int) : runC cfg 1000001 J L none'' [] body (topK cfg Try.f24 k kp) (st0 Try.f24 [(.agg [(.v (.int IntKind.i64 x0_0_0)), (.v (.int IntKind.i64 x0_0_1)), (.fz (Ty.int IntKind.i64) x0_1_0), (.fz (Ty.int IntKind.i64) x0_1_1), (.v (.int IntKind.i64 x0_2))]), (.v (.int IntKind.i64 x1)), (.v (.int IntKind.i64 x2))] []) = c (fun x1 x17 x18 b0_0 b0_1 b0_2 b0_3 b0_4 b1 => L 5 (mL5 x1 x17 x18 b0_0 b0_1 b0_2 b0_3 b0_4 b1)) x0_0_0 x0_0_1 x0_1_0 x0_1_1 x0_2 x1 x2 (fun z0 => k (.sl 0 0) [(.lst 3 (Ty.int IntKind.i64) z0 0 false)]) := by kernel_rfl
theorem c_ag (k kp : D → List Blk → Prop) : agPL cfg 1000001 (JJ k kp) (LL k kp) [] body = agPR cfg 1000001 none'' [] body (topK cfg Try.f24 k kp) := by kernel_rfl
theorem body_is : Try.f24.body = some body := by kernel_rfl
theorem c_raw (k kp : D → List Blk → Prop) (x0_0_0 : Int) (x0_0_1 : Int) (x0_1_0 : (List Int)) (x0_1_1 : (List Int)) (x0_2 : Int) (x1 : Int) (x2 : Int) : funW cfg Try.f24 [(.agg [(.v (.int IntKind.i64 x0_0_0)), (.v (.int IntKind.i64 x0_0_1)), (.fz (Ty.int IntKind.i64) x0_1_0), (.fz (Ty.int IntKind.i64) x0_1_1), (.v (.int IntKind.i64 x0_2))]), (.v (.int IntKind.i64 x1)), (.v (.int IntKind.i64 x2))] [] k kp = c (fun x1 x17 x18 b0_0 b0_1 b0_2 b0_3 b0_4 b1 => XL5 k kp (mL5 x1 x17 x18 b0_0 b0_1 b0_2 b0_3 b0_4 b1)) x0_0_0 x0_0_1 x0_1_0 x0_1_1 x0_2 x1 x2 (fun z0 => k (.sl 0 0) [(.lst 3 (Ty.int IntKind.i64) z0 0 false)]) :=
  Eq.mp (by kernel_rfl) ((funW_run (AG := none'') body_is (c_ag k kp) [(.agg [(.v (.int IntKind.i64 x0_0_0)), (.v (.int IntKind.i64 x0_0_1)), (.fz (Ty.int IntKind.i64) x0_1_0), (.fz (Ty.int IntKind.i64) x0_1_1), (.v (.int IntKind.i64 x0_2))]), (.v (.int IntKind.i64 x1)), (.v (.int IntKind.i64 x2))] []).trans (c_c k kp (JJ k kp) (LL k kp) x0_0_0 x0_0_1 x0_1_0 x0_1_1 x0_2 x1 x2))
theorem f_eq (k kp : D → List Blk → Prop) (x0_0_0 : Int) (x0_0_1 : Int) (x0_1_0 : (List Int)) (x0_1_1 : (List Int)) (x0_2 : Int) (x1 : Int) (x2 : Int) : funW cfg Try.f24 [(.agg [(.v (.int IntKind.i64 x0_0_0)), (.v (.int IntKind.i64 x0_0_1)), (.fz (Ty.int IntKind.i64) x0_1_0), (.fz (Ty.int IntKind.i64) x0_1_1), (.v (.int IntKind.i64 x0_2))]), (.v (.int IntKind.i64 x1)), (.v (.int IntKind.i64 x2))] [] k kp = f x0_0_0 x0_0_1 x0_1_0 x0_1_1 x0_2 x1 x2 (fun z0 => k (.sl 0 0) [(.lst 3 (Ty.int IntKind.i64) z0 0 false)]) := by
  rw [f_def, c_raw]; simp only [l5_eq]; first | done | rfl
noncomputable def ent0 : Entry := fun args blks k _ => match args, blks with
  | [d0, d1, d2], [] => aAgg 5 d0 fun l => aCons l fun d0_0 l => aCons l fun d0_1 l => aCons l fun d0_2 l => aCons l fun d0_3 l => aCons l fun d0_4 l => aNil l (aInt IntKind.i64 d0_0 fun x0_0_0 => aInt IntKind.i64 d0_1 fun x0_0_1 => aFz (Ty.int IntKind.i64) d0_2 fun x0_1_0 => aFz (Ty.int IntKind.i64) d0_3 fun x0_1_1 => aInt IntKind.i64 d0_4 fun x0_2 => aInt IntKind.i64 d1 fun x1 => aInt IntKind.i64 d2 fun x2 => f x0_0_0 x0_0_1 x0_1_0 x0_1_1 x0_2 x1 x2 (fun z0 => k (.sl 0 0) [(.lst 3 (Ty.int IntKind.i64) z0 0 false)]))
  | _, _ => False
noncomputable def ent : Entry := fun args blks k kp => ent0 (convA [none, none, none] args) blks k kp
theorem ok : EntOk Try.prog 0 0 24 ent := by
  refine EntOk.conv (EntOk.of (funW_ok (cfg := cfg) (tyOk_of rfl rfl tyL_ok) (eqOk_of (P := Try.prog) rfl rfl (by kernel_rfl)) mixed_ok (tab_ok ?_) Try.func24 (by rfl) (by rfl)) ?_) _
  · intro p hp
    simp only [List.mem_cons, List.not_mem_nil, or_false] at hp
    rcases hp with rfl | rfl
    · exact N27.ok
    · exact N20.ok
  · intro args blks k kp h k' kp'
    match args, blks, h with
    | [d0, d1, d2], [], h =>
    dsimp only [ent0] at h
    have h9 := aAgg_elim h; clear h; obtain ⟨_, rfl, h⟩ := h9
    have h9 := aCons_elim h; clear h; obtain ⟨d0_0, _, rfl, h⟩ := h9
    have h9 := aCons_elim h; clear h; obtain ⟨d0_1, _, rfl, h⟩ := h9
    have h9 := aCons_elim h; clear h; obtain ⟨d0_2, _, rfl, h⟩ := h9
    have h9 := aCons_elim h; clear h; obtain ⟨d0_3, _, rfl, h⟩ := h9
    have h9 := aCons_elim h; clear h; obtain ⟨d0_4, _, rfl, h⟩ := h9
    have h9 := aNil_elim h; clear h; obtain ⟨rfl, h⟩ := h9
    have h9 := aInt_elim h; clear h; obtain ⟨x0_0_0, rfl, h⟩ := h9
    have h9 := aInt_elim h; clear h; obtain ⟨x0_0_1, rfl, h⟩ := h9
    have h9 := aFz_elim (t := (Ty.int IntKind.i64)) h; clear h; obtain ⟨x0_1_0, rfl, h⟩ := h9
    have h9 := aFz_elim (t := (Ty.int IntKind.i64)) h; clear h; obtain ⟨x0_1_1, rfl, h⟩ := h9
    have h9 := aInt_elim h; clear h; obtain ⟨x0_2, rfl, h⟩ := h9
    have h9 := aInt_elim h; clear h; obtain ⟨x1, rfl, h⟩ := h9
    have h9 := aInt_elim h; clear h; obtain ⟨x2, rfl, h⟩ := h9
    exact (f_eq k' kp' x0_0_0 x0_0_1 x0_1_0 x0_1_1 x0_2 x1 x2).symm
end N24
end Go.Proofs.Yu
namespace Go.Proofs.Yu
open Go Go.Aw Go.Proofs
set_option linter.unusedVariables false
set_option linter.unusedSimpArgs false
set_option maxRecDepth 100000
/-! dyehouse/target.Spoilt -/
namespace N25
noncomputable def cfg : Cfg := { P := Try.prog, ty := tys, E := tab [], atSeq := tab [(11, ⟨[(3, .keep)]⟩), (10, ⟨[(3, .keep), (9, .keep), (10, .keep)]⟩)], atLoop := tab [(3, ⟨[(3, .own 28 (Ty.pair (Ty.int IntKind.i64) (Ty.pair (Ty.int IntKind.i64) (Ty.int IntKind.i64)))), (9, .keep), (10, .keep)]⟩), (6, ⟨[(3, .own 28 (Ty.pair (Ty.int IntKind.i64) (Ty.pair (Ty.int IntKind.i64) (Ty.int IntKind.i64)))), (4, .keep), (9, .keep), (10, .keep), (14, .keep), (15, .keep), (16, .keep)]⟩)], outs := [], eqT := tab [] }
noncomputable def body : Code := bodyOf Try.f25
def l3 (l6 : Int → (List Int) → (List Int) → Int → (List Int) → Int → Int → (List (Int × (Int × Int))) → Prop) (j11 : (List (Int × (Int × Int))) → Prop) (x9_0 : (List Int)) (x9_1 : (List Int)) (x10 : Int) (b0 : (List (Int × (Int × Int)))) (k : (List (Int × (Int × Int))) → Prop) : Prop :=
  (br (decide (x10 < (2 : Int))) (br (decide (x10 = ((0 : Nat) : Int))) (l6 x10 x9_0 x9_1 x10 x9_0 ((((x9_0).length : Nat) : Int)) (0 : Int) b0) (br (decide (x10 = ((1 : Nat) : Int))) (l6 x10 x9_0 x9_1 x10 x9_1 ((((x9_1).length : Nat) : Int)) (0 : Int) b0) False)) (j11 b0))
def l6 (j10 : (List Int) → (List Int) → Int → (List (Int × (Int × Int))) → Prop) (ag6 : Int → (List (Int × (Int × Int))) → Prop) (x4 : Int) (x9_0 : (List Int)) (x9_1 : (List Int)) (x10 : Int) (x14 : (List Int)) (x15 : Int) (x16 : Int) (b0 : (List (Int × (Int × Int)))) (k : (List (Int × (Int × Int))) → Prop) : Prop :=
  (br (decide (x16 < x15)) ((inB 0 x16 ((((x14).length : Nat) : Int) - 1)) ∧ ((room ((b0).length + (([((2 : Int), (x4, (x14.getD (Int.toNat x16) (0))))] : List (Int × (Int × Int)))).length) 24) ∧ (ag6 (IntKind.i64.wrap (x16 + (1 : Int))) (b0 ++ ([((2 : Int), (x4, (x14.getD (Int.toNat x16) (0))))] : List (Int × (Int × Int))))))) (j10 x9_0 x9_1 x10 b0))
def j11 (b0 : (List (Int × (Int × Int)))) (k : (List (Int × (Int × Int))) → Prop) : Prop :=
  (k b0)
def j10 (ag3 : Int → (List (Int × (Int × Int))) → Prop) (x9_0 : (List Int)) (x9_1 : (List Int)) (x10 : Int) (b0 : (List (Int × (Int × Int)))) (k : (List (Int × (Int × Int))) → Prop) : Prop :=
  (ag3 (IntKind.i64.wrap (x10 + (1 : Int))) b0)
def c (l3 : (List Int) → (List Int) → Int → (List (Int × (Int × Int))) → Prop) (x0_0_0 : Int) (x0_0_1 : Int) (x0_1_0 : (List Int)) (x0_1_1 : (List Int)) (x0_2 : Int) (k : (List (Int × (Int × Int))) → Prop) : Prop :=
  (l3 x0_1_0 x0_1_1 (0 : Int) ([] : List (Int × (Int × Int))))
def j11' (b0 : (List (Int × (Int × Int)))) (k : (List (Int × (Int × Int))) → Prop) : Prop := j11 b0 k
def j10' (ag3 : Int → (List (Int × (Int × Int))) → Prop) (x9_0 : (List Int)) (x9_1 : (List Int)) (x10 : Int) (b0 : (List (Int × (Int × Int)))) (k : (List (Int × (Int × Int))) → Prop) : Prop := j10 ag3 x9_0 x9_1 x10 b0 k
def l6' (ag3 : Int → (List (Int × (Int × Int))) → Prop) (x4 : Int) (x9_0 : (List Int)) (x9_1 : (List Int)) (x10 : Int) (x14 : (List Int)) (x15 : Int) (x16 : Int) (b0 : (List (Int × (Int × Int)))) (k : (List (Int × (Int × Int))) → Prop) : Prop := ∃ n, loopS (fun (ag : (Int × (List (Int × (Int × Int)))) → Prop) (s : Int × (List (Int × (Int × Int)))) => l6 (fun x9_0 x9_1 x10 b0 => j10' ag3 x9_0 x9_1 x10 b0 k) (fun x16 b0 => ag (x16, b0)) x4 x9_0 x9_1 x10 x14 x15 s.1 s.2 k) n (x16, b0)
def l3' (x9_0 : (List Int)) (x9_1 : (List Int)) (x10 : Int) (b0 : (List (Int × (Int × Int)))) (k : (List (Int × (Int × Int))) → Prop) : Prop := ∃ n, loopS (fun (ag : (Int × (List (Int × (Int × Int)))) → Prop) (s : Int × (List (Int × (Int × Int)))) => l3 (fun x4 x9_0 x9_1 x10 x14 x15 x16 b0 => l6' (fun x10 b0 => ag (x10, b0)) x4 x9_0 x9_1 x10 x14 x15 x16 b0 k) (fun b0 => j11' b0 k) x9_0 x9_1 s.1 s.2 k) n (x10, b0)
def f0 (x0_0_0 : Int) (x0_0_1 : Int) (x0_1_0 : (List Int)) (x0_1_1 : (List Int)) (x0_2 : Int) (k : (List (Int × (Int × Int))) → Prop) : Prop := c (fun x9_0 x9_1 x10 b0 => l3' x9_0 x9_1 x10 b0 k) x0_0_0 x0_0_1 x0_1_0 x0_1_1 x0_2 k
theorem f_ex : ∃ g : Int → Int → (List Int) → (List Int) → Int → ((List (Int × (Int × Int))) → Prop) → Prop, g = f0 := ⟨_, rfl⟩
noncomputable def f : Int → Int → (List Int) → (List Int) → Int → ((List (Int × (Int × Int))) → Prop) → Prop := Classical.choose f_ex
theorem f_def : f = f0 := Classical.choose_spec f_ex
def mL3 (x9_0 : (List Int)) (x9_1 : (List Int)) (x10 : Int) (b0 : (List (Int × (Int × Int)))) : St := { tmps := mkT 29 0 [(3, (.sl 0 0)), (9, (.agg [(.fz (Ty.int IntKind.i64) x9_0), (.fz (Ty.int IntKind.i64) x9_1)])), (10, (.v (.int IntKind.i64 x10)))], hp := [(.lst 28 (Ty.pair (Ty.int IntKind.i64) (Ty.pair (Ty.int IntKind.i64) (Ty.int IntKind.i64))) b0 0 false)], m := 0 }
def mL6 (x4 : Int) (x9_0 : (List Int)) (x9_1 : (List Int)) (x10 : Int) (x14 : (List Int)) (x15 : Int) (x16 : Int) (b0 : (List (Int × (Int × Int)))) : St := { tmps := mkT 29 0 [(3, (.sl 0 0)), (4, (.v (.int IntKind.i64 x4))), (9, (.agg [(.fz (Ty.int IntKind.i64) x9_0), (.fz (Ty.int IntKind.i64) x9_1)])), (10, (.v (.int IntKind.i64 x10))), (14, (.fz (Ty.int IntKind.i64) x14)), (15, (.v (.int IntKind.i64 x15))), (16, (.v (.int IntKind.i64 x16)))], hp := [(.lst 28 (Ty.pair (Ty.int IntKind.i64) (Ty.pair (Ty.int IntKind.i64) (Ty.int IntKind.i64))) b0 0 false)], m := 0 }
def m11 (b0 : (List (Int × (Int × Int)))) : St := { tmps := mkT 29 0 [(3, (.sl 0 0))], hp := [(.lst 28 (Ty.pair (Ty.int IntKind.i64) (Ty.pair (Ty.int IntKind.i64) (Ty.int IntKind.i64))) b0 0 false)], m := 0 }
def m10 (x9_0 : (List Int)) (x9_1 : (List Int)) (x10 : Int) (b0 : (List (Int × (Int × Int)))) : St := { tmps := mkT 29 0 [(3, (.sl 0 0)), (9, (.agg [(.fz (Ty.int IntKind.i64) x9_0), (.fz (Ty.int IntKind.i64) x9_1)])), (10, (.v (.int IntKind.i64 x10)))], hp := [(.lst 28 (Ty.pair (Ty.int IntKind.i64) (Ty.pair (Ty.int IntKind.i64) (Ty.int IntKind.i64))) b0 0 false)], m := 0 }
noncomputable def YL3 (k kp : D → List Blk → Prop) : (St → Prop) → St → Prop := loopB cfg (sub [1, 1, 0, 1, 0, 0] body) (contK cfg (pick none' []) [1, 1, 0, 1, 0] body (topK cfg Try.f25 k kp))
noncomputable def XL3 (k kp : D → List Blk → Prop) : St → Prop := fun st => ∃ n, loopN (YL3 k kp) n st
noncomputable def YL6 (k kp : D → List Blk → Prop) (ag3 : St → Prop) : (St → Prop) → St → Prop := loopB cfg (sub [1, 1, 0, 1, 0, 0, 1, 1, 0, 0, 1, 1, 0, 0] body) (contK cfg (pick none' [(3, ag3)]) [1, 1, 0, 1, 0, 0, 1, 1, 0, 0, 1, 1, 0] body (topK cfg Try.f25 k kp))
noncomputable def XL6 (k kp : D → List Blk → Prop) (ag3 : St → Prop) : St → Prop := fun st => ∃ n, loopN (YL6 k kp ag3) n st
noncomputable def X11 (k kp : D → List Blk → Prop) : St → Prop := atP cfg (pick none' []) [1, 1, 1] body (topK cfg Try.f25 k kp)
noncomputable def X10 (k kp : D → List Blk → Prop) (ag3 : St → Prop) : St → Prop := atP cfg (pick none' [(3, ag3)]) [1, 1, 0, 1, 0, 0, 1, 1, 1] body (topK cfg Try.f25 k kp)
noncomputable def JJ_3 (k kp : D → List Blk → Prop) (ag3 : St → Prop) : Nat → St → Prop := pick none' [(11, X11 k kp), (10, X10 k kp ag3)]
noncomputable def LL_3 (k kp : D → List Blk → Prop) (ag3 : St → Prop) : Nat → St → Prop := pick none' [(3, XL3 k kp), (6, XL6 k kp ag3)]
noncomputable def JJ_3_6 (k kp : D → List Blk → Prop) (ag3 : St → Prop) (ag6 : St → Prop) : Nat → St → Prop := pick none' [(11, X11 k kp), (10, X10 k kp ag3)]
noncomputable def LL_3_6 (k kp : D → List Blk → Prop) (ag3 : St → Prop) (ag6 : St → Prop) : Nat → St → Prop := pick none' [(3, XL3 k kp), (6, XL6 k kp ag3)]
noncomputable def JJ (k kp : D → List Blk → Prop) : Nat → St → Prop := pick none' [(11, X11 k kp)]
noncomputable def LL (k kp : D → List Blk → Prop) : Nat → St → Prop := pick none' [(3, XL3 k kp)]
theorem j11_c (k kp : D → List Blk → Prop) (J L : Nat → St → Prop) (b0 : (List (Int × (Int × Int)))) : runC cfg 11 J L (pick none' []) [1, 1, 1] body (topK cfg Try.f25 k kp) (m11 b0) = j11 b0 (fun z0 => k (.sl 0 0) [(.lst 28 (Ty.pair (Ty.int IntKind.i64) (Ty.pair (Ty.int IntKind.i64) (Ty.int IntKind.i64))) z0 0 false)]) := by kernel_rfl
theorem j11_ag (k kp : D → List Blk → Prop) : agPL cfg 11 (JJ k kp) (LL k kp) [1, 1, 1] body = agPR cfg 11 (pick none' []) [1, 1, 1] body (topK cfg Try.f25 k kp) := by kernel_rfl
theorem j11_raw (k kp : D → List Blk → Prop) (b0 : (List (Int × (Int × Int)))) : X11 k kp (m11 b0) = j11 b0 (fun z0 => k (.sl 0 0) [(.lst 28 (Ty.pair (Ty.int IntKind.i64) (Ty.pair (Ty.int IntKind.i64) (Ty.int IntKind.i64))) z0 0 false)]) :=
  Eq.mp (by kernel_rfl) ((atP_run (j11_ag k kp) (m11 b0)).trans (j11_c k kp (JJ k kp) (LL k kp) b0))
theorem j11_eq (k kp : D → List Blk → Prop) (b0 : (List (Int × (Int × Int)))) : X11 k kp (m11 b0) = j11' b0 (fun z0 => k (.sl 0 0) [(.lst 28 (Ty.pair (Ty.int IntKind.i64) (Ty.pair (Ty.int IntKind.i64) (Ty.int IntKind.i64))) z0 0 false)]) := by
  rw [j11_raw]; rfl
theorem j10_c (k kp : D → List Blk → Prop) (J L : Nat → St → Prop) (ag3 : St → Prop) (x9_0 : (List Int)) (x9_1 : (List Int)) (x10 : Int) (b0 : (List (Int × (Int × Int)))) : runC cfg 10 J L (pick none' [(3, ag3)]) [1, 1, 0, 1, 0, 0, 1, 1, 1] body (topK cfg Try.f25 k kp) (m10 x9_0 x9_1 x10 b0) = j10 (fun x10 b0 => ag3 (mL3 x9_0 x9_1 x10 b0)) x9_0 x9_1 x10 b0 (fun z0 => k (.sl 0 0) [(.lst 28 (Ty.pair (Ty.int IntKind.i64) (Ty.pair (Ty.int IntKind.i64) (Ty.int IntKind.i64))) z0 0 false)]) := by kernel_rfl
theorem j10_ag (k kp : D → List Blk → Prop) (ag3 : St → Prop) : agPL cfg 10 (JJ_3 k kp ag3) (LL_3 k kp ag3) [1, 1, 0, 1, 0, 0, 1, 1, 1] body = agPR cfg 10 (pick none' [(3, ag3)]) [1, 1, 0, 1, 0, 0, 1, 1, 1] body (topK cfg Try.f25 k kp) := by kernel_rfl
theorem j10_raw (k kp : D → List Blk → Prop) (ag3 : St → Prop) (x9_0 : (List Int)) (x9_1 : (List Int)) (x10 : Int) (b0 : (List (Int × (Int × Int)))) : X10 k kp ag3 (m10 x9_0 x9_1 x10 b0) = j10 (fun x10 b0 => ag3 (mL3 x9_0 x9_1 x10 b0)) x9_0 x9_1 x10 b0 (fun z0 => k (.sl 0 0) [(.lst 28 (Ty.pair (Ty.int IntKind.i64) (Ty.pair (Ty.int IntKind.i64) (Ty.int IntKind.i64))) z0 0 false)]) :=
  Eq.mp (by kernel_rfl) ((atP_run (j10_ag k kp ag3) (m10 x9_0 x9_1 x10 b0)).trans (j10_c k kp (JJ_3 k kp ag3) (LL_3 k kp ag3) ag3 x9_0 x9_1 x10 b0))
theorem j10_eq (k kp : D → List Blk → Prop) (ag3 : St → Prop) (x9_0 : (List Int)) (x9_1 : (List Int)) (x10 : Int) (b0 : (List (Int × (Int × Int)))) : X10 k kp ag3 (m10 x9_0 x9_1 x10 b0) = j10' (fun x10 b0 => ag3 (mL3 x9_0 x9_1 x10 b0)) x9_0 x9_1 x10 b0 (fun z0 => k (.sl 0 0) [(.lst 28 (Ty.pair (Ty.int IntKind.i64) (Ty.pair (Ty.int IntKind.i64) (Ty.int IntKind.i64))) z0 0 false)]) := by
  rw [j10_raw]; rfl
theorem l6_c (k kp : D → List Blk → Prop) (J L : Nat → St → Prop) (ag3 : St → Prop) (ag6 : St → Prop) (x4 : Int) (x9_0 : (List Int)) (x9_1 : (List Int)) (x10 : Int) (x14 : (List Int)) (x15 : Int) (x16 : Int) (b0 : (List (Int × (Int × Int)))) : runC cfg 1000001 J L (pick none' [(3, ag3), (6, ag6)]) [1, 1, 0, 1, 0, 0, 1, 1, 0, 0, 1, 1, 0, 0] body (topK cfg Try.f25 k kp) (mL6 x4 x9_0 x9_1 x10 x14 x15 x16 b0) = l6 (fun x9_0 x9_1 x10 b0 => J 10 (m10 x9_0 x9_1 x10 b0)) (fun x16 b0 => ag6 (mL6 x4 x9_0 x9_1 x10 x14 x15 x16 b0)) x4 x9_0 x9_1 x10 x14 x15 x16 b0 (fun z0 => k (.sl 0 0) [(.lst 28 (Ty.pair (Ty.int IntKind.i64) (Ty.pair (Ty.int IntKind.i64) (Ty.int IntKind.i64))) z0 0 false)]) := by kernel_rfl
theorem l6_ag (k kp : D → List Blk → Prop) (ag3 : St → Prop) (ag6 : St → Prop) : agPL cfg 1000001 (JJ_3_6 k kp ag3 ag6) (LL_3_6 k kp ag3 ag6) [1, 1, 0, 1, 0, 0, 1, 1, 0, 0, 1, 1, 0, 0] body = agPR cfg 1000001 (pick none' [(3, ag3), (6, ag6)]) [1, 1, 0, 1, 0, 0, 1, 1, 0, 0, 1, 1, 0, 0] body (topK cfg Try.f25 k kp) := by kernel_rfl
theorem l6_raw (k kp : D → List Blk → Prop) (ag3 : St → Prop) (ag6 : St → Prop) (x4 : Int) (x9_0 : (List Int)) (x9_1 : (List Int)) (x10 : Int) (x14 : (List Int)) (x15 : Int) (x16 : Int) (b0 : (List (Int × (Int × Int)))) : YL6 k kp ag3 ag6 (mL6 x4 x9_0 x9_1 x10 x14 x15 x16 b0) = l6 (fun x9_0 x9_1 x10 b0 => X10 k kp ag3 (m10 x9_0 x9_1 x10 b0)) (fun x16 b0 => ag6 (mL6 x4 x9_0 x9_1 x10 x14 x15 x16 b0)) x4 x9_0 x9_1 x10 x14 x15 x16 b0 (fun z0 => k (.sl 0 0) [(.lst 28 (Ty.pair (Ty.int IntKind.i64) (Ty.pair (Ty.int IntKind.i64) (Ty.int IntKind.i64))) z0 0 false)]) :=
  Eq.mp (by kernel_rfl) ((atP_run (l6_ag k kp ag3 ag6) (mL6 x4 x9_0 x9_1 x10 x14 x15 x16 b0)).trans (l6_c k kp (JJ_3_6 k kp ag3 ag6) (LL_3_6 k kp ag3 ag6) ag3 ag6 x4 x9_0 x9_1 x10 x14 x15 x16 b0))
theorem l6_eq (k kp : D → List Blk → Prop) (ag3 : St → Prop) (x4 : Int) (x9_0 : (List Int)) (x9_1 : (List Int)) (x10 : Int) (x14 : (List Int)) (x15 : Int) (x16 : Int) (b0 : (List (Int × (Int × Int)))) : XL6 k kp ag3 (mL6 x4 x9_0 x9_1 x10 x14 x15 x16 b0) = l6' (fun x10 b0 => ag3 (mL3 x9_0 x9_1 x10 b0)) x4 x9_0 x9_1 x10 x14 x15 x16 b0 (fun z0 => k (.sl 0 0) [(.lst 28 (Ty.pair (Ty.int IntKind.i64) (Ty.pair (Ty.int IntKind.i64) (Ty.int IntKind.i64))) z0 0 false)]) :=
  loop_eq (mk := fun (s : Int × (List (Int × (Int × Int)))) => mL6 x4 x9_0 x9_1 x10 x14 x15 s.1 s.2) (fun again s => by rw [l6_raw k kp ag3 again x4 x9_0 x9_1 x10 x14 x15 s.1 s.2]; simp only [j10_eq]; first | done | rfl) (x16, b0)
theorem l3_c (k kp : D → List Blk → Prop) (J L : Nat → St → Prop) (ag3 : St → Prop) (x9_0 : (List Int)) (x9_1 : (List Int)) (x10 : Int) (b0 : (List (Int × (Int × Int)))) : runC cfg 1000001 J L (pick none' [(3, ag3)]) [1, 1, 0, 1, 0, 0] body (topK cfg Try.f25 k kp) (mL3 x9_0 x9_1 x10 b0) = l3 (fun x4 x9_0 x9_1 x10 x14 x15 x16 b0 => L 6 (mL6 x4 x9_0 x9_1 x10 x14 x15 x16 b0)) (fun b0 => J 11 (m11 b0)) x9_0 x9_1 x10 b0 (fun z0 => k (.sl 0 0) [(.lst 28 (Ty.pair (Ty.int IntKind.i64) (Ty.pair (Ty.int IntKind.i64) (Ty.int IntKind.i64))) z0 0 false)]) := by kernel_rfl
theorem l3_ag (k kp : D → List Blk → Prop) (ag3 : St → Prop) : agPL cfg 1000001 (JJ_3 k kp ag3) (LL_3 k kp ag3) [1, 1, 0, 1, 0, 0] body = agPR cfg 1000001 (pick none' [(3, ag3)]) [1, 1, 0, 1, 0, 0] body (topK cfg Try.f25 k kp) := by kernel_rfl
theorem l3_raw (k kp : D → List Blk → Prop) (ag3 : St → Prop) (x9_0 : (List Int)) (x9_1 : (List Int)) (x10 : Int) (b0 : (List (Int × (Int × Int)))) : YL3 k kp ag3 (mL3 x9_0 x9_1 x10 b0) = l3 (fun x4 x9_0 x9_1 x10 x14 x15 x16 b0 => XL6 k kp ag3 (mL6 x4 x9_0 x9_1 x10 x14 x15 x16 b0)) (fun b0 => X11 k kp (m11 b0)) x9_0 x9_1 x10 b0 (fun z0 => k (.sl 0 0) [(.lst 28 (Ty.pair (Ty.int IntKind.i64) (Ty.pair (Ty.int IntKind.i64) (Ty.int IntKind.i64))) z0 0 false)]) :=
  Eq.mp (by kernel_rfl) ((atP_run (l3_ag k kp ag3) (mL3 x9_0 x9_1 x10 b0)).trans (l3_c k kp (JJ_3 k kp ag3) (LL_3 k kp ag3) ag3 x9_0 x9_1 x10 b0))
theorem l3_eq (k kp : D → List Blk → Prop) (x9_0 : (List Int)) (x9_1 : (List Int)) (x10 : Int) (b0 : (List (Int × (Int × Int)))) : XL3 k kp (mL3 x9_0 x9_1 x10 b0) = l3' x9_0 x9_1 x10 b0 (fun z0 => k (.sl 0 0) [(.lst 28 (Ty.pair (Ty.int IntKind.i64) (Ty.pair (Ty.int IntKind.i64) (Ty.int IntKind.i64))) z0 0 false)]) :=
  loop_eq (mk := fun (s : Int × (List (Int × (Int × Int)))) => mL3 x9_0 x9_1 s.1 s.2) (fun again s => by rw [l3_raw k kp again x9_0 x9_1 s.1 s.2]; simp only [l6_eq, j11_eq]; first | done | rfl) (x10, b0)
theorem c_c (k kp : D → List Blk → Prop) (J L : Nat → St → Prop) (x0_0_0 : Int) (x0_0_1 : Int) (x0_1_0 : (List Int)) (x0_1_1 : (List Int)) (x0_2 : Int) : runC cfg 1000001 J L none'' [] body (topK cfg Try.f25 k kp) (st0 Try.f25 [(.agg [(.v (.int IntKind.i64 x0_0_0)), (.v (.int IntKind.i64 x0_0_1)), (.fz (Ty.int IntKind.i64) x0_1_0), (.fz (Ty.int IntKind.i64) x0_1_1), (.v (.int IntKind.i64 x0_2))])] []) = c (fun x9_0 x9_1 x10 b0 => L 3 (mL3 x9_0 x9_1 x10 b0)) x0_0_0 x0_0_1 x0_1_0 x0_1_1 x0_2 (fun z0 => k (.sl 0 0) [(.lst 28 (Ty.pair (Ty.int IntKind.i64) (Ty.pair (Ty.int IntKind.i64) (Ty.int IntKind.i64))) z0 0 false)]) := by kernel_rfl
theorem c_ag (k kp : D → List Blk → Prop) : agPL cfg 1000001 (JJ k kp) (LL k kp) [] body = agPR cfg 1000001 none'' [] body (topK cfg Try.f25 k kp) := by kernel_rfl
theorem body_is : Try.f25.body = some body := by kernel_rfl
theorem c_raw (k kp : D → List Blk → Prop) (x0_0_0 : Int) (x0_0_1 : Int) (x0_1_0 : (List Int)) (x0_1_1 : (List Int)) (x0_2 : Int) : funW cfg Try.f25 [(.agg [(.v (.int IntKind.i64 x0_0_0)), (.v (.int IntKind.i64 x0_0_1)), (.fz (Ty.int IntKind.i64) x0_1_0), (.fz (Ty.int IntKind.i64) x0_1_1), (.v (.int IntKind.i64 x0_2))])] [] k kp = c (fun x9_0 x9_1 x10 b0 => XL3 k kp (mL3 x9_0 x9_1 x10 b0)) x0_0_0 x0_0_1 x0_1_0 x0_1_1 x0_2 (fun z0 => k (.sl 0 0) [(.lst 28 (Ty.pair (Ty.int IntKind.i64) (Ty.pair (Ty.int IntKind.i64) (Ty.int IntKind.i64))) z0 0 false)]) :=
  Eq.mp (by kernel_rfl) ((funW_run (AG := none'') body_is (c_ag k kp) [(.agg [(.v (.int IntKind.i64 x0_0_0)), (.v (.int IntKind.i64 x0_0_1)), (.fz (Ty.int IntKind.i64) x0_1_0), (.fz (Ty.int IntKind.i64) x0_1_1), (.v (.int IntKind.i64 x0_2))])] []).trans (c_c k kp (JJ k kp) (LL k kp) x0_0_0 x0_0_1 x0_1_0 x0_1_1 x0_2))
theorem f_eq (k kp : D → List Blk → Prop) (x0_0_0 : Int) (x0_0_1 : Int) (x0_1_0 : (List Int)) (x0_1_1 : (List Int)) (x0_2 : Int) : funW cfg Try.f25 [(.agg [(.v (.int IntKind.i64 x0_0_0)), (.v (.int IntKind.i64 x0_0_1)), (.fz (Ty.int IntKind.i64) x0_1_0), (.fz (Ty.int IntKind.i64) x0_1_1), (.v (.int IntKind.i64 x0_2))])] [] k kp = f x0_0_0 x0_0_1 x0_1_0 x0_1_1 x0_2 (fun z0 => k (.sl 0 0) [(.lst 28 (Ty.pair (Ty.int IntKind.i64) (Ty.pair (Ty.int IntKind.i64) (Ty.int IntKind.i64))) z0 0 false)]) := by
  rw [f_def, c_raw]; simp only [l3_eq]; first | done | rfl
noncomputable def ent0 : Entry := fun args blks k _ => match args, blks with
  | [d0], [] => aAgg 5 d0 fun l => aCons l fun d0_0 l => aCons l fun d0_1 l => aCons l fun d0_2 l => aCons l fun d0_3 l => aCons l fun d0_4 l => aNil l (aInt IntKind.i64 d0_0 fun x0_0_0 => aInt IntKind.i64 d0_1 fun x0_0_1 => aFz (Ty.int IntKind.i64) d0_2 fun x0_1_0 => aFz (Ty.int IntKind.i64) d0_3 fun x0_1_1 => aInt IntKind.i64 d0_4 fun x0_2 => f x0_0_0 x0_0_1 x0_1_0 x0_1_1 x0_2 (fun z0 => k (.sl 0 0) [(.lst 28 (Ty.pair (Ty.int IntKind.i64) (Ty.pair (Ty.int IntKind.i64) (Ty.int IntKind.i64))) z0 0 false)]))
  | _, _ => False
noncomputable def ent : Entry := fun args blks k kp => ent0 (convA [none] args) blks k kp
theorem ok : EntOk Try.prog 0 0 25 ent := by
  refine EntOk.conv (EntOk.of (funW_ok (cfg := cfg) (tyOk_of rfl rfl tyL_ok) (eqOk_of (P := Try.prog) rfl rfl (by kernel_rfl)) mixed_ok (tab_ok ?_) Try.func25 (by rfl) (by rfl)) ?_) _
  · intro p hp
    cases hp
  · intro args blks k kp h k' kp'
    match args, blks, h with
    | [d0], [], h =>
    dsimp only [ent0] at h
    have h9 := aAgg_elim h; clear h; obtain ⟨_, rfl, h⟩ := h9
    have h9 := aCons_elim h; clear h; obtain ⟨d0_0, _, rfl, h⟩ := h9
    have h9 := aCons_elim h; clear h; obtain ⟨d0_1, _, rfl, h⟩ := h9
    have h9 := aCons_elim h; clear h; obtain ⟨d0_2, _, rfl, h⟩ := h9
    have h9 := aCons_elim h; clear h; obtain ⟨d0_3, _, rfl, h⟩ := h9
    have h9 := aCons_elim h; clear h; obtain ⟨d0_4, _, rfl, h⟩ := h9
    have h9 := aNil_elim h; clear h; obtain ⟨rfl, h⟩ := h9
    have h9 := aInt_elim h; clear h; obtain ⟨x0_0_0, rfl, h⟩ := h9
    have h9 := aInt_elim h; clear h; obtain ⟨x0_0_1, rfl, h⟩ := h9
    have h9 := aFz_elim (t := (Ty.int IntKind.i64)) h; clear h; obtain ⟨x0_1_0, rfl, h⟩ := h9
    have h9 := aFz_elim (t := (Ty.int IntKind.i64)) h; clear h; obtain ⟨x0_1_1, rfl, h⟩ := h9
    have h9 := aInt_elim h; clear h; obtain ⟨x0_2, rfl, h⟩ := h9
    exact (f_eq k' kp' x0_0_0 x0_0_1 x0_1_0 x0_1_1 x0_2).symm
end N25
end Go.Proofs.Yu
namespace Go.Proofs.Yu
open Go Go.Aw Go.Proofs
set_option linter.unusedVariables false
set_option linter.unusedSimpArgs false
set_option maxRecDepth 100000
/-! dyehouse/target.Class -/
namespace N28
noncomputable def cfg : Cfg := { P := Try.prog, ty := tys, E := tab [(27, N27.ent)], atSeq := tab [(7, ⟨[]⟩)], atLoop := tab [(2, ⟨[(0, .keep), (5, .keep)]⟩)], outs := [], eqT := tab [] }
noncomputable def body : Code := bodyOf Try.f28
def l2 (j7 : Prop) (ag2 : Int → Prop) (x0 : ByteArray) (x5 : Int) (k : Int → Bool → Prop) : Prop :=
  (br (decide (x5 < (2 : Int))) (N27.f x5 (fun (y0_0 : ByteArray) => (br (beqS y0_0 x0) (k x5 true) (ag2 (IntKind.i64.wrap (x5 + (1 : Int))))))) (j7))
def j7 (k : Int → Bool → Prop) : Prop :=
  (k (0 : Int) false)
def c (l2 : ByteArray → Int → Prop) (x0 : ByteArray) (k : Int → Bool → Prop) : Prop :=
  (l2 x0 (0 : Int))
def j7' (k : Int → Bool → Prop) : Prop := j7 k
def l2' (x0 : ByteArray) (x5 : Int) (k : Int → Bool → Prop) : Prop := ∃ n, loopS (fun (ag : (Int) → Prop) (s : Int) => l2 (j7' k) (fun x5 => ag (x5)) x0 s k) n (x5)
def f0 (x0 : ByteArray) (k : Int → Bool → Prop) : Prop := c (fun x0 x5 => l2' x0 x5 k) x0 k
theorem f_ex : ∃ g : ByteArray → (Int → Bool → Prop) → Prop, g = f0 := ⟨_, rfl⟩
noncomputable def f : ByteArray → (Int → Bool → Prop) → Prop := Classical.choose f_ex
theorem f_def : f = f0 := Classical.choose_spec f_ex
def mL2 (x0 : ByteArray) (x5 : Int) : St := { tmps := mkT 14 0 [(0, (.v (.string x0))), (5, (.v (.int IntKind.i64 x5)))], hp := [], m := 0 }
def m7 : St := { tmps := mkT 14 0 [], hp := [], m := 0 }
noncomputable def YL2 (k kp : D → List Blk → Prop) : (St → Prop) → St → Prop := loopB cfg (sub [1, 0, 1, 0, 0] body) (contK cfg (pick none' []) [1, 0, 1, 0] body (topK cfg Try.f28 k kp))
noncomputable def XL2 (k kp : D → List Blk → Prop) : St → Prop := fun st => ∃ n, loopN (YL2 k kp) n st
noncomputable def X7 (k kp : D → List Blk → Prop) : St → Prop := atP cfg (pick none' []) [1, 1] body (topK cfg Try.f28 k kp)
noncomputable def JJ_2 (k kp : D → List Blk → Prop) (ag2 : St → Prop) : Nat → St → Prop := pick none' [(7, X7 k kp)]
noncomputable def LL_2 (k kp : D → List Blk → Prop) (ag2 : St → Prop) : Nat → St → Prop := pick none' [(2, XL2 k kp)]
noncomputable def JJ (k kp : D → List Blk → Prop) : Nat → St → Prop := pick none' [(7, X7 k kp)]
noncomputable def LL (k kp : D → List Blk → Prop) : Nat → St → Prop := pick none' [(2, XL2 k kp)]
theorem j7_c (k kp : D → List Blk → Prop) (J L : Nat → St → Prop) : runC cfg 7 J L (pick none' []) [1, 1] body (topK cfg Try.f28 k kp) (m7) = j7 (fun y0 y1 => k (.tup [(.v (.int IntKind.i64 y0)), (.v (.bool y1))]) []) := by kernel_rfl
theorem j7_ag (k kp : D → List Blk → Prop) : agPL cfg 7 (JJ k kp) (LL k kp) [1, 1] body = agPR cfg 7 (pick none' []) [1, 1] body (topK cfg Try.f28 k kp) := by kernel_rfl
theorem j7_raw (k kp : D → List Blk → Prop) : X7 k kp (m7) = j7 (fun y0 y1 => k (.tup [(.v (.int IntKind.i64 y0)), (.v (.bool y1))]) []) :=
  Eq.mp (by kernel_rfl) ((atP_run (j7_ag k kp) (m7)).trans (j7_c k kp (JJ k kp) (LL k kp)))
theorem j7_eq (k kp : D → List Blk → Prop) : X7 k kp (m7) = j7' (fun y0 y1 => k (.tup [(.v (.int IntKind.i64 y0)), (.v (.bool y1))]) []) := by
  rw [j7_raw]; rfl
theorem l2_c (k kp : D → List Blk → Prop) (J L : Nat → St → Prop) (ag2 : St → Prop) (x0 : ByteArray) (x5 : Int) : runC cfg 1000001 J L (pick none' [(2, ag2)]) [1, 0, 1, 0, 0] body (topK cfg Try.f28 k kp) (mL2 x0 x5) = l2 (J 7 (m7)) (fun x5 => ag2 (mL2 x0 x5)) x0 x5 (fun y0 y1 => k (.tup [(.v (.int IntKind.i64 y0)), (.v (.bool y1))]) []) := by kernel_rfl
theorem l2_ag (k kp : D → List Blk → Prop) (ag2 : St → Prop) : agPL cfg 1000001 (JJ_2 k kp ag2) (LL_2 k kp ag2) [1, 0, 1, 0, 0] body = agPR cfg 1000001 (pick none' [(2, ag2)]) [1, 0, 1, 0, 0] body (topK cfg Try.f28 k kp) := by kernel_rfl
theorem l2_raw (k kp : D → List Blk → Prop) (ag2 : St → Prop) (x0 : ByteArray) (x5 : Int) : YL2 k kp ag2 (mL2 x0 x5) = l2 (X7 k kp (m7)) (fun x5 => ag2 (mL2 x0 x5)) x0 x5 (fun y0 y1 => k (.tup [(.v (.int IntKind.i64 y0)), (.v (.bool y1))]) []) :=
  Eq.mp (by kernel_rfl) ((atP_run (l2_ag k kp ag2) (mL2 x0 x5)).trans (l2_c k kp (JJ_2 k kp ag2) (LL_2 k kp ag2) ag2 x0 x5))
theorem l2_eq (k kp : D → List Blk → Prop) (x0 : ByteArray) (x5 : Int) : XL2 k kp (mL2 x0 x5) = l2' x0 x5 (fun y0 y1 => k (.tup [(.v (.int IntKind.i64 y0)), (.v (.bool y1))]) []) :=
  loop_eq (mk := fun (s : Int) => mL2 x0 s) (fun again s => by rw [l2_raw k kp again x0 s]; simp only [j7_eq]; first | done | rfl) (x5)
theorem c_c (k kp : D → List Blk → Prop) (J L : Nat → St → Prop) (x0 : ByteArray) : runC cfg 1000001 J L none'' [] body (topK cfg Try.f28 k kp) (st0 Try.f28 [(.v (.string x0))] []) = c (fun x0 x5 => L 2 (mL2 x0 x5)) x0 (fun y0 y1 => k (.tup [(.v (.int IntKind.i64 y0)), (.v (.bool y1))]) []) := by kernel_rfl
theorem c_ag (k kp : D → List Blk → Prop) : agPL cfg 1000001 (JJ k kp) (LL k kp) [] body = agPR cfg 1000001 none'' [] body (topK cfg Try.f28 k kp) := by kernel_rfl
theorem body_is : Try.f28.body = some body := by kernel_rfl
theorem c_raw (k kp : D → List Blk → Prop) (x0 : ByteArray) : funW cfg Try.f28 [(.v (.string x0))] [] k kp = c (fun x0 x5 => XL2 k kp (mL2 x0 x5)) x0 (fun y0 y1 => k (.tup [(.v (.int IntKind.i64 y0)), (.v (.bool y1))]) []) :=
  Eq.mp (by kernel_rfl) ((funW_run (AG := none'') body_is (c_ag k kp) [(.v (.string x0))] []).trans (c_c k kp (JJ k kp) (LL k kp) x0))
theorem f_eq (k kp : D → List Blk → Prop) (x0 : ByteArray) : funW cfg Try.f28 [(.v (.string x0))] [] k kp = f x0 (fun y0 y1 => k (.tup [(.v (.int IntKind.i64 y0)), (.v (.bool y1))]) []) := by
  rw [f_def, c_raw]; simp only [l2_eq]; first | done | rfl
noncomputable def ent0 : Entry := fun args blks k _ => match args, blks with
  | [d0], [] => aStr d0 fun x0 => f x0 (fun y0 y1 => k (.tup [(.v (.int IntKind.i64 y0)), (.v (.bool y1))]) [])
  | _, _ => False
noncomputable def ent : Entry := fun args blks k kp => ent0 (convA [none] args) blks k kp
theorem ok : EntOk Try.prog 0 0 28 ent := by
  refine EntOk.conv (EntOk.of (funW_ok (cfg := cfg) (tyOk_of rfl rfl tyL_ok) (eqOk_of (P := Try.prog) rfl rfl (by kernel_rfl)) mixed_ok (tab_ok ?_) Try.func28 (by rfl) (by rfl)) ?_) _
  · intro p hp
    simp only [List.mem_cons, List.not_mem_nil, or_false] at hp
    rcases hp with rfl
    · exact N27.ok
  · intro args blks k kp h k' kp'
    match args, blks, h with
    | [d0], [], h =>
    dsimp only [ent0] at h
    have h9 := aStr_elim h; clear h; obtain ⟨x0, rfl, h⟩ := h9
    exact (f_eq k' kp' x0).symm
end N28
end Go.Proofs.Yu
namespace Go.Proofs.Yu
open Go Go.Aw Go.Proofs
set_option linter.unusedVariables false
set_option linter.unusedSimpArgs false
set_option maxRecDepth 100000
/-! dyehouse/target.Usual -/
namespace N60
noncomputable def cfg : Cfg := { P := Try.prog, ty := tys, E := tab [], atSeq := tab [], atLoop := tab [], outs := [], eqT := tab [] }
noncomputable def body : Code := bodyOf Try.f60
def c (k : Int → Int → (List Int) → (List Int) → Int → Prop) : Prop :=
  (k (8 : Int) (4 : Int) ([(0 : Int), (1 : Int), (2 : Int), (3 : Int)] : List Int) ([(0 : Int), (1 : Int)] : List Int) (1024 : Int))
def f0 (k : Int → Int → (List Int) → (List Int) → Int → Prop) : Prop := c k
theorem f_ex : ∃ g : (Int → Int → (List Int) → (List Int) → Int → Prop) → Prop, g = f0 := ⟨_, rfl⟩
noncomputable def f : (Int → Int → (List Int) → (List Int) → Int → Prop) → Prop := Classical.choose f_ex
theorem f_def : f = f0 := Classical.choose_spec f_ex
noncomputable def JJ (k kp : D → List Blk → Prop) : Nat → St → Prop := pick none' []
noncomputable def LL (k kp : D → List Blk → Prop) : Nat → St → Prop := pick none' []
theorem c_c (k kp : D → List Blk → Prop) (J L : Nat → St → Prop) : runC cfg 1000001 J L none'' [] body (topK cfg Try.f60 k kp) (st0 Try.f60 [] []) = c (fun y0_0 y0_1 y0_2 y0_3 y0_4 => k (.agg [(.v (.int IntKind.i64 y0_0)), (.v (.int IntKind.i64 y0_1)), (.fz (Ty.int IntKind.i64) y0_2), (.fz (Ty.int IntKind.i64) y0_3), (.v (.int IntKind.i64 y0_4))]) []) := by kernel_rfl
theorem c_ag (k kp : D → List Blk → Prop) : agPL cfg 1000001 (JJ k kp) (LL k kp) [] body = agPR cfg 1000001 none'' [] body (topK cfg Try.f60 k kp) := by kernel_rfl
theorem body_is : Try.f60.body = some body := by kernel_rfl
theorem c_raw (k kp : D → List Blk → Prop) : funW cfg Try.f60 [] [] k kp = c (fun y0_0 y0_1 y0_2 y0_3 y0_4 => k (.agg [(.v (.int IntKind.i64 y0_0)), (.v (.int IntKind.i64 y0_1)), (.fz (Ty.int IntKind.i64) y0_2), (.fz (Ty.int IntKind.i64) y0_3), (.v (.int IntKind.i64 y0_4))]) []) :=
  Eq.mp (by kernel_rfl) ((funW_run (AG := none'') body_is (c_ag k kp) [] []).trans (c_c k kp (JJ k kp) (LL k kp)))
theorem f_eq (k kp : D → List Blk → Prop) : funW cfg Try.f60 [] [] k kp = f (fun y0_0 y0_1 y0_2 y0_3 y0_4 => k (.agg [(.v (.int IntKind.i64 y0_0)), (.v (.int IntKind.i64 y0_1)), (.fz (Ty.int IntKind.i64) y0_2), (.fz (Ty.int IntKind.i64) y0_3), (.v (.int IntKind.i64 y0_4))]) []) := by
  rw [f_def, c_raw]; rfl
noncomputable def ent0 : Entry := fun args blks k _ => match args, blks with
  | [], [] => f (fun y0_0 y0_1 y0_2 y0_3 y0_4 => k (.agg [(.v (.int IntKind.i64 y0_0)), (.v (.int IntKind.i64 y0_1)), (.fz (Ty.int IntKind.i64) y0_2), (.fz (Ty.int IntKind.i64) y0_3), (.v (.int IntKind.i64 y0_4))]) [])
  | _, _ => False
noncomputable def ent : Entry := fun args blks k kp => ent0 (convA [] args) blks k kp
theorem ok : EntOk Try.prog 0 0 60 ent := by
  refine EntOk.conv (EntOk.of (funW_ok (cfg := cfg) (tyOk_of rfl rfl tyL_ok) (eqOk_of (P := Try.prog) rfl rfl (by kernel_rfl)) mixed_ok (tab_ok ?_) Try.func60 (by rfl) (by rfl)) ?_) _
  · intro p hp
    cases hp
  · intro args blks k kp h k' kp'
    match args, blks, h with
    | [], [], h =>
    dsimp only [ent0] at h
    exact (f_eq k' kp').symm
end N60
end Go.Proofs.Yu
namespace Go.Proofs.Yu
open Go Go.Aw Go.Proofs
set_option linter.unusedVariables false
set_option linter.unusedSimpArgs false
set_option maxRecDepth 100000
/-! dyehouse/dyehouseref12.Ints -/
namespace N61
noncomputable def cfg : Cfg := { P := Try.prog, ty := tys, E := tab [], atSeq := tab [(8, ⟨[]⟩)], atLoop := tab [(4, ⟨[(0, .keep), (1, .keep), (5, .keep)]⟩)], outs := [], eqT := tab [] }
noncomputable def body : Code := bodyOf Try.f61
def l4 (j8 : Prop) (ag4 : Int → Prop) (x0 : (List Int)) (x1 : (List Int)) (x5 : Int) (k : Bool → Prop) : Prop :=
  (br (decide (x5 < ((((x0).length : Nat) : Int)))) ((inB 0 x5 ((((x0).length : Nat) : Int) - 1)) ∧ ((inB 0 x5 ((((x1).length : Nat) : Int) - 1)) ∧ (br ((x0.getD (Int.toNat x5) (0)) != (x1.getD (Int.toNat x5) (0))) (k false) (ag4 (IntKind.i64.wrap (x5 + (1 : Int))))))) (j8))
def j8 (k : Bool → Prop) : Prop :=
  (k true)
def c (l4 : (List Int) → (List Int) → Int → Prop) (x0 : (List Int)) (x1 : (List Int)) (k : Bool → Prop) : Prop :=
  (br (((((x0).length : Nat) : Int)) != ((((x1).length : Nat) : Int))) (k false) (l4 x0 x1 (0 : Int)))
def j8' (k : Bool → Prop) : Prop := j8 k
def l4' (x0 : (List Int)) (x1 : (List Int)) (x5 : Int) (k : Bool → Prop) : Prop := ∃ n, loopS (fun (ag : (Int) → Prop) (s : Int) => l4 (j8' k) (fun x5 => ag (x5)) x0 x1 s k) n (x5)
def f0 (x0 : (List Int)) (x1 : (List Int)) (k : Bool → Prop) : Prop := c (fun x0 x1 x5 => l4' x0 x1 x5 k) x0 x1 k
theorem f_ex : ∃ g : (List Int) → (List Int) → (Bool → Prop) → Prop, g = f0 := ⟨_, rfl⟩
noncomputable def f : (List Int) → (List Int) → (Bool → Prop) → Prop := Classical.choose f_ex
theorem f_def : f = f0 := Classical.choose_spec f_ex
def mL4 (x0 : (List Int)) (x1 : (List Int)) (x5 : Int) : St := { tmps := mkT 26 0 [(0, (.fz (Ty.int IntKind.i64) x0)), (1, (.fz (Ty.int IntKind.i64) x1)), (5, (.v (.int IntKind.i64 x5)))], hp := [], m := 0 }
def m8 : St := { tmps := mkT 26 0 [], hp := [], m := 0 }
noncomputable def YL4 (k kp : D → List Blk → Prop) : (St → Prop) → St → Prop := loopB cfg (sub [1, 1, 0, 1, 0, 0] body) (contK cfg (pick none' []) [1, 1, 0, 1, 0] body (topK cfg Try.f61 k kp))
noncomputable def XL4 (k kp : D → List Blk → Prop) : St → Prop := fun st => ∃ n, loopN (YL4 k kp) n st
noncomputable def X8 (k kp : D → List Blk → Prop) : St → Prop := atP cfg (pick none' []) [1, 1, 1] body (topK cfg Try.f61 k kp)
noncomputable def JJ_4 (k kp : D → List Blk → Prop) (ag4 : St → Prop) : Nat → St → Prop := pick none' [(8, X8 k kp)]
noncomputable def LL_4 (k kp : D → List Blk → Prop) (ag4 : St → Prop) : Nat → St → Prop := pick none' [(4, XL4 k kp)]
noncomputable def JJ (k kp : D → List Blk → Prop) : Nat → St → Prop := pick none' [(8, X8 k kp)]
noncomputable def LL (k kp : D → List Blk → Prop) : Nat → St → Prop := pick none' [(4, XL4 k kp)]
theorem j8_c (k kp : D → List Blk → Prop) (J L : Nat → St → Prop) : runC cfg 8 J L (pick none' []) [1, 1, 1] body (topK cfg Try.f61 k kp) (m8) = j8 (fun y0 => k (.v (.bool y0)) []) := by kernel_rfl
theorem j8_ag (k kp : D → List Blk → Prop) : agPL cfg 8 (JJ k kp) (LL k kp) [1, 1, 1] body = agPR cfg 8 (pick none' []) [1, 1, 1] body (topK cfg Try.f61 k kp) := by kernel_rfl
theorem j8_raw (k kp : D → List Blk → Prop) : X8 k kp (m8) = j8 (fun y0 => k (.v (.bool y0)) []) :=
  Eq.mp (by kernel_rfl) ((atP_run (j8_ag k kp) (m8)).trans (j8_c k kp (JJ k kp) (LL k kp)))
theorem j8_eq (k kp : D → List Blk → Prop) : X8 k kp (m8) = j8' (fun y0 => k (.v (.bool y0)) []) := by
  rw [j8_raw]; rfl
theorem l4_c (k kp : D → List Blk → Prop) (J L : Nat → St → Prop) (ag4 : St → Prop) (x0 : (List Int)) (x1 : (List Int)) (x5 : Int) : runC cfg 1000001 J L (pick none' [(4, ag4)]) [1, 1, 0, 1, 0, 0] body (topK cfg Try.f61 k kp) (mL4 x0 x1 x5) = l4 (J 8 (m8)) (fun x5 => ag4 (mL4 x0 x1 x5)) x0 x1 x5 (fun y0 => k (.v (.bool y0)) []) := by kernel_rfl
theorem l4_ag (k kp : D → List Blk → Prop) (ag4 : St → Prop) : agPL cfg 1000001 (JJ_4 k kp ag4) (LL_4 k kp ag4) [1, 1, 0, 1, 0, 0] body = agPR cfg 1000001 (pick none' [(4, ag4)]) [1, 1, 0, 1, 0, 0] body (topK cfg Try.f61 k kp) := by kernel_rfl
theorem l4_raw (k kp : D → List Blk → Prop) (ag4 : St → Prop) (x0 : (List Int)) (x1 : (List Int)) (x5 : Int) : YL4 k kp ag4 (mL4 x0 x1 x5) = l4 (X8 k kp (m8)) (fun x5 => ag4 (mL4 x0 x1 x5)) x0 x1 x5 (fun y0 => k (.v (.bool y0)) []) :=
  Eq.mp (by kernel_rfl) ((atP_run (l4_ag k kp ag4) (mL4 x0 x1 x5)).trans (l4_c k kp (JJ_4 k kp ag4) (LL_4 k kp ag4) ag4 x0 x1 x5))
theorem l4_eq (k kp : D → List Blk → Prop) (x0 : (List Int)) (x1 : (List Int)) (x5 : Int) : XL4 k kp (mL4 x0 x1 x5) = l4' x0 x1 x5 (fun y0 => k (.v (.bool y0)) []) :=
  loop_eq (mk := fun (s : Int) => mL4 x0 x1 s) (fun again s => by rw [l4_raw k kp again x0 x1 s]; simp only [j8_eq]; first | done | rfl) (x5)
theorem c_c (k kp : D → List Blk → Prop) (J L : Nat → St → Prop) (x0 : (List Int)) (x1 : (List Int)) : runC cfg 1000001 J L none'' [] body (topK cfg Try.f61 k kp) (st0 Try.f61 [(.fz (Ty.int IntKind.i64) x0), (.fz (Ty.int IntKind.i64) x1)] []) = c (fun x0 x1 x5 => L 4 (mL4 x0 x1 x5)) x0 x1 (fun y0 => k (.v (.bool y0)) []) := by kernel_rfl
theorem c_ag (k kp : D → List Blk → Prop) : agPL cfg 1000001 (JJ k kp) (LL k kp) [] body = agPR cfg 1000001 none'' [] body (topK cfg Try.f61 k kp) := by kernel_rfl
theorem body_is : Try.f61.body = some body := by kernel_rfl
theorem c_raw (k kp : D → List Blk → Prop) (x0 : (List Int)) (x1 : (List Int)) : funW cfg Try.f61 [(.fz (Ty.int IntKind.i64) x0), (.fz (Ty.int IntKind.i64) x1)] [] k kp = c (fun x0 x1 x5 => XL4 k kp (mL4 x0 x1 x5)) x0 x1 (fun y0 => k (.v (.bool y0)) []) :=
  Eq.mp (by kernel_rfl) ((funW_run (AG := none'') body_is (c_ag k kp) [(.fz (Ty.int IntKind.i64) x0), (.fz (Ty.int IntKind.i64) x1)] []).trans (c_c k kp (JJ k kp) (LL k kp) x0 x1))
theorem f_eq (k kp : D → List Blk → Prop) (x0 : (List Int)) (x1 : (List Int)) : funW cfg Try.f61 [(.fz (Ty.int IntKind.i64) x0), (.fz (Ty.int IntKind.i64) x1)] [] k kp = f x0 x1 (fun y0 => k (.v (.bool y0)) []) := by
  rw [f_def, c_raw]; simp only [l4_eq]; first | done | rfl
noncomputable def ent0 : Entry := fun args blks k _ => match args, blks with
  | [d0, d1], [] => aFz (Ty.int IntKind.i64) d0 fun x0 => aFz (Ty.int IntKind.i64) d1 fun x1 => f x0 x1 (fun y0 => k (.v (.bool y0)) [])
  | _, _ => False
noncomputable def ent : Entry := fun args blks k kp => ent0 (convA [some (Ty.int IntKind.i64), some (Ty.int IntKind.i64)] args) blks k kp
theorem ok : EntOk Try.prog 0 0 61 ent := by
  refine EntOk.conv (EntOk.of (funW_ok (cfg := cfg) (tyOk_of rfl rfl tyL_ok) (eqOk_of (P := Try.prog) rfl rfl (by kernel_rfl)) mixed_ok (tab_ok ?_) Try.func61 (by rfl) (by rfl)) ?_) _
  · intro p hp
    cases hp
  · intro args blks k kp h k' kp'
    match args, blks, h with
    | [d0, d1], [], h =>
    dsimp only [ent0] at h
    have h9 := aFz_elim (t := (Ty.int IntKind.i64)) h; clear h; obtain ⟨x0, rfl, h⟩ := h9
    have h9 := aFz_elim (t := (Ty.int IntKind.i64)) h; clear h; obtain ⟨x1, rfl, h⟩ := h9
    exact (f_eq k' kp' x0 x1).symm
end N61
end Go.Proofs.Yu
namespace Go.Proofs.Yu
open Go Go.Aw Go.Proofs
set_option linter.unusedVariables false
set_option linter.unusedSimpArgs false
set_option maxRecDepth 100000
/-! dyehouse/dyehouselaw13.works -/
namespace N15
noncomputable def cfg : Cfg := { P := Try.prog, ty := tys, E := tab [(60, N60.ent), (28, N28.ent), (16, N16.ent), (27, N27.ent), (22, N22.ent), (25, N25.ent), (24, N24.ent), (61, N61.ent), (18, N18.ent), (20, N20.ent)], atSeq := tab [], atLoop := tab [], outs := [], eqT := tab [(22, [(Ty.int IntKind.i64), (Ty.int IntKind.i64)])] }
noncomputable def body : Code := bodyOf Try.f15
def c (k : Bool → Prop) : Prop :=
  (N60.f (fun (y0_0_0 : Int) (y0_1_0 : Int) (y0_2_0 : (List Int)) (y0_3_0 : (List Int)) (y0_4_0 : Int) => (N28.f (ByteArray.mk #[120]) (fun (y0_1 : Int) (y1_1 : Bool) => (N16.f y0_0_0 y0_1_0 y0_2_0 y0_3_0 y0_4_0 (fun (y0_2 : Int) => (br (y0_2 == (0 : Int)) (N27.f (1 : Int) (fun (y0_3 : ByteArray) => (br (beqS y0_3 (ByteArray.mk #[120])) (br (y0_1 == (1 : Int)) (br y1_1 (N22.f (2 : Int) (1 : Int) (3 : Int) (fun (y0_4 : ByteArray) => (br (beqS y0_4 (ByteArray.mk #[36, 120, 51])) (N25.f y0_0_0 y0_1_0 y0_2_0 y0_3_0 y0_4_0 (fun (z0_5 : (List (Int × (Int × Int)))) => (br (((((z0_5).length : Nat) : Int)) == (6 : Int)) (N24.f y0_0_0 y0_1_0 y0_2_0 y0_3_0 y0_4_0 (0 : Int) (6 : Int) (fun (z0_6 : (List Int)) => (N61.f z0_6 ([(4 : Int), (5 : Int)] : List Int) (fun (y0_7 : Bool) => (br y0_7 (N18.f y0_0_0 y0_1_0 y0_2_0 y0_3_0 y0_4_0 (3 : Int) (0 : Int) (1023 : Int) (fun (y0_8 : Bool) => (br y0_8 (N20.f y0_0_0 y0_1_0 y0_2_0 y0_3_0 y0_4_0 (2 : Int) (0 : Int) (0 : Int) (fun (y0_9 : Bool) => (br y0_9 (k ((y0_0_0 == (8 : Int)) && ((y0_1_0 == (4 : Int)) && true))) (k false)))) (k false)))) (k false)))))) (k false)))) (k false)))) (k false)) (k false)) (k false)))) (k false))))))))
def f0 (k : Bool → Prop) : Prop := c k
theorem f_ex : ∃ g : (Bool → Prop) → Prop, g = f0 := ⟨_, rfl⟩
noncomputable def f : (Bool → Prop) → Prop := Classical.choose f_ex
theorem f_def : f = f0 := Classical.choose_spec f_ex
noncomputable def JJ (k kp : D → List Blk → Prop) : Nat → St → Prop := pick none' []
noncomputable def LL (k kp : D → List Blk → Prop) : Nat → St → Prop := pick none' []
theorem c_c (k kp : D → List Blk → Prop) (J L : Nat → St → Prop) : runC cfg 1000001 J L none'' [] body (topK cfg Try.f15 k kp) (st0 Try.f15 [] []) = c (fun y0 => k (.v (.bool y0)) []) := by kernel_rfl
theorem c_ag (k kp : D → List Blk → Prop) : agPL cfg 1000001 (JJ k kp) (LL k kp) [] body = agPR cfg 1000001 none'' [] body (topK cfg Try.f15 k kp) := by kernel_rfl
theorem body_is : Try.f15.body = some body := by kernel_rfl
theorem c_raw (k kp : D → List Blk → Prop) : funW cfg Try.f15 [] [] k kp = c (fun y0 => k (.v (.bool y0)) []) :=
  Eq.mp (by kernel_rfl) ((funW_run (AG := none'') body_is (c_ag k kp) [] []).trans (c_c k kp (JJ k kp) (LL k kp)))
theorem f_eq (k kp : D → List Blk → Prop) : funW cfg Try.f15 [] [] k kp = f (fun y0 => k (.v (.bool y0)) []) := by
  rw [f_def, c_raw]; rfl
noncomputable def ent0 : Entry := fun args blks k _ => match args, blks with
  | [], [] => f (fun y0 => k (.v (.bool y0)) [])
  | _, _ => False
noncomputable def ent : Entry := fun args blks k kp => ent0 (convA [] args) blks k kp
theorem ok : EntOk Try.prog 0 0 15 ent := by
  refine EntOk.conv (EntOk.of (funW_ok (cfg := cfg) (tyOk_of rfl rfl tyL_ok) (eqOk_of (P := Try.prog) rfl rfl (by kernel_rfl)) mixed_ok (tab_ok ?_) Try.func15 (by rfl) (by rfl)) ?_) _
  · intro p hp
    simp only [List.mem_cons, List.not_mem_nil, or_false] at hp
    rcases hp with rfl | rfl | rfl | rfl | rfl | rfl | rfl | rfl | rfl | rfl
    · exact N60.ok
    · exact N28.ok
    · exact N16.ok
    · exact N27.ok
    · exact N22.ok
    · exact N25.ok
    · exact N24.ok
    · exact N61.ok
    · exact N18.ok
    · exact N20.ok
  · intro args blks k kp h k' kp'
    match args, blks, h with
    | [], [], h =>
    dsimp only [ent0] at h
    exact (f_eq k' kp').symm
end N15
end Go.Proofs.Yu
namespace Go.Proofs.Yu
open Go Go.Aw Go.Proofs
set_option linter.unusedVariables false
set_option linter.unusedSimpArgs false
set_option maxRecDepth 100000
/-! dyehouse/dyehouseref13.Check -/
namespace N17
noncomputable def cfg : Cfg := { P := Try.prog, ty := tys, E := tab [], atSeq := tab [(2000005, ⟨[(1, .keep), (3, .keep), (21, .keep)]⟩), (12, ⟨[(1, .keep)]⟩), (6, ⟨[(1, .keep), (3, .keep)]⟩), (2000013, ⟨[(71, .keep)]⟩), (14, ⟨[]⟩), (2000011, ⟨[(1, .keep), (3, .keep), (4, .keep), (5, .keep), (63, .keep)]⟩), (3, ⟨[(1, .keep), (3, .keep)]⟩), (9, ⟨[(1, .keep), (3, .keep), (4, .keep), (5, .keep)]⟩)], atLoop := tab [(2, ⟨[(1, .keep), (3, .keep)]⟩), (8, ⟨[(1, .keep), (3, .keep), (4, .keep), (5, .keep)]⟩)], outs := [], eqT := tab [] }
noncomputable def body : Code := bodyOf Try.f17
def l2 (j2000005 : Int → Bool → Int → Int → (List Int) → (List Int) → Int → Prop) (j12 : Int → Int → (List Int) → (List Int) → Int → Prop) (x3 : Int) (b0_0 : Int) (b0_1 : Int) (b0_2 : (List Int)) (b0_3 : (List Int)) (b0_4 : Int) (k : Int → Prop) : Prop :=
  (br (decide (x3 < (2 : Int))) (br (decide (x3 = ((0 : Nat) : Int))) (br (decide (b0_0 < (0 : Int))) (j2000005 x3 true b0_0 b0_1 b0_2 b0_3 b0_4) (br (decide (x3 = ((0 : Nat) : Int))) (j2000005 x3 (decide (b0_0 > (16 : Int))) b0_0 b0_1 b0_2 b0_3 b0_4) (br (decide (x3 = ((1 : Nat) : Int))) (j2000005 x3 (decide (b0_1 > (16 : Int))) b0_0 b0_1 b0_2 b0_3 b0_4) False))) (br (decide (x3 = ((1 : Nat) : Int))) (br (decide (b0_1 < (0 : Int))) (j2000005 x3 true b0_0 b0_1 b0_2 b0_3 b0_4) (br (decide (x3 = ((0 : Nat) : Int))) (j2000005 x3 (decide (b0_0 > (16 : Int))) b0_0 b0_1 b0_2 b0_3 b0_4) (br (decide (x3 = ((1 : Nat) : Int))) (j2000005 x3 (decide (b0_1 > (16 : Int))) b0_0 b0_1 b0_2 b0_3 b0_4) False))) False)) (j12 b0_0 b0_1 b0_2 b0_3 b0_4))
def j2000005 (j6 : Int → Int → Int → (List Int) → (List Int) → Int → Prop) (x3 : Int) (x21 : Bool) (b0_0 : Int) (b0_1 : Int) (b0_2 : (List Int)) (b0_3 : (List Int)) (b0_4 : Int) (k : Int → Prop) : Prop :=
  (br x21 (k (2 : Int)) (j6 x3 b0_0 b0_1 b0_2 b0_3 b0_4))
def j12 (j2000013 : Bool → Prop) (b0_0 : Int) (b0_1 : Int) (b0_2 : (List Int)) (b0_3 : (List Int)) (b0_4 : Int) (k : Int → Prop) : Prop :=
  (br (decide (b0_4 < (0 : Int))) (j2000013 true) (j2000013 (decide (b0_4 > (4096 : Int)))))
def j6 (l8 : Int → (List Int) → Int → Int → Int → (List Int) → (List Int) → Int → Prop) (x3 : Int) (b0_0 : Int) (b0_1 : Int) (b0_2 : (List Int)) (b0_3 : (List Int)) (b0_4 : Int) (k : Int → Prop) : Prop :=
  (br (decide (x3 = ((0 : Nat) : Int))) (l8 x3 b0_2 (0 : Int) b0_0 b0_1 b0_2 b0_3 b0_4) (br (decide (x3 = ((1 : Nat) : Int))) (l8 x3 b0_3 (0 : Int) b0_0 b0_1 b0_2 b0_3 b0_4) False))
def j2000013 (j14 : Prop) (x71 : Bool) (k : Int → Prop) : Prop :=
  (br x71 (k (2 : Int)) (j14))
def l8 (j2000011 : Int → (List Int) → Int → Bool → Int → Int → (List Int) → (List Int) → Int → Prop) (j3 : Int → Int → Int → (List Int) → (List Int) → Int → Prop) (x3 : Int) (x4 : (List Int)) (x5 : Int) (b0_0 : Int) (b0_1 : Int) (b0_2 : (List Int)) (b0_3 : (List Int)) (b0_4 : Int) (k : Int → Prop) : Prop :=
  (br (decide (x5 < ((((x4).length : Nat) : Int)))) ((inB 0 x5 ((((x4).length : Nat) : Int) - 1)) ∧ (br (decide ((x4.getD (Int.toNat x5) (0)) < (0 : Int))) (j2000011 x3 x4 x5 true b0_0 b0_1 b0_2 b0_3 b0_4) ((inB 0 x5 ((((x4).length : Nat) : Int) - 1)) ∧ (br (decide (x3 = ((0 : Nat) : Int))) (br (decide ((x4.getD (Int.toNat x5) (0)) ≥ b0_0)) (j2000011 x3 x4 x5 true b0_0 b0_1 b0_2 b0_3 b0_4) (br (decide (x5 > (0 : Int))) ((inB 0 x5 ((((x4).length : Nat) : Int) - 1)) ∧ ((inB 0 (IntKind.i64.wrap (x5 - (1 : Int))) ((((x4).length : Nat) : Int) - 1)) ∧ (j2000011 x3 x4 x5 (decide ((x4.getD (Int.toNat x5) (0)) ≤ (x4.getD (Int.toNat (IntKind.i64.wrap (x5 - (1 : Int)))) (0)))) b0_0 b0_1 b0_2 b0_3 b0_4))) (j2000011 x3 x4 x5 false b0_0 b0_1 b0_2 b0_3 b0_4))) (br (decide (x3 = ((1 : Nat) : Int))) (br (decide ((x4.getD (Int.toNat x5) (0)) ≥ b0_1)) (j2000011 x3 x4 x5 true b0_0 b0_1 b0_2 b0_3 b0_4) (br (decide (x5 > (0 : Int))) ((inB 0 x5 ((((x4).length : Nat) : Int) - 1)) ∧ ((inB 0 (IntKind.i64.wrap (x5 - (1 : Int))) ((((x4).length : Nat) : Int) - 1)) ∧ (j2000011 x3 x4 x5 (decide ((x4.getD (Int.toNat x5) (0)) ≤ (x4.getD (Int.toNat (IntKind.i64.wrap (x5 - (1 : Int)))) (0)))) b0_0 b0_1 b0_2 b0_3 b0_4))) (j2000011 x3 x4 x5 false b0_0 b0_1 b0_2 b0_3 b0_4))) False))))) (j3 x3 b0_0 b0_1 b0_2 b0_3 b0_4))
def j14 (k : Int → Prop) : Prop :=
  (k (0 : Int))
def j2000011 (j9 : Int → (List Int) → Int → Int → Int → (List Int) → (List Int) → Int → Prop) (x3 : Int) (x4 : (List Int)) (x5 : Int) (x63 : Bool) (b0_0 : Int) (b0_1 : Int) (b0_2 : (List Int)) (b0_3 : (List Int)) (b0_4 : Int) (k : Int → Prop) : Prop :=
  (br x63 (k (45 : Int)) (j9 x3 x4 x5 b0_0 b0_1 b0_2 b0_3 b0_4))
def j3 (ag2 : Int → Int → Int → (List Int) → (List Int) → Int → Prop) (x3 : Int) (b0_0 : Int) (b0_1 : Int) (b0_2 : (List Int)) (b0_3 : (List Int)) (b0_4 : Int) (k : Int → Prop) : Prop :=
  (ag2 (IntKind.i64.wrap (x3 + (1 : Int))) b0_0 b0_1 b0_2 b0_3 b0_4)
def j9 (ag8 : Int → Int → Int → (List Int) → (List Int) → Int → Prop) (x3 : Int) (x4 : (List Int)) (x5 : Int) (b0_0 : Int) (b0_1 : Int) (b0_2 : (List Int)) (b0_3 : (List Int)) (b0_4 : Int) (k : Int → Prop) : Prop :=
  (ag8 (IntKind.i64.wrap (x5 + (1 : Int))) b0_0 b0_1 b0_2 b0_3 b0_4)
def c (l2 : Int → Int → Int → (List Int) → (List Int) → Int → Prop) (x0_0_0 : Int) (x0_0_1 : Int) (x0_1_0 : (List Int)) (x0_1_1 : (List Int)) (x0_2 : Int) (k : Int → Prop) : Prop :=
  (l2 (0 : Int) x0_0_0 x0_0_1 x0_1_0 x0_1_1 x0_2)
def j14' (k : Int → Prop) : Prop := j14 k
def j3' (ag2 : Int → Int → Int → (List Int) → (List Int) → Int → Prop) (x3 : Int) (b0_0 : Int) (b0_1 : Int) (b0_2 : (List Int)) (b0_3 : (List Int)) (b0_4 : Int) (k : Int → Prop) : Prop := j3 ag2 x3 b0_0 b0_1 b0_2 b0_3 b0_4 k
def j9' (ag8 : Int → Int → Int → (List Int) → (List Int) → Int → Prop) (x3 : Int) (x4 : (List Int)) (x5 : Int) (b0_0 : Int) (b0_1 : Int) (b0_2 : (List Int)) (b0_3 : (List Int)) (b0_4 : Int) (k : Int → Prop) : Prop := j9 ag8 x3 x4 x5 b0_0 b0_1 b0_2 b0_3 b0_4 k
def j2000013' (x71 : Bool) (k : Int → Prop) : Prop := j2000013 (j14' k) x71 k
def j2000011' (ag8 : Int → Int → Int → (List Int) → (List Int) → Int → Prop) (x3 : Int) (x4 : (List Int)) (x5 : Int) (x63 : Bool) (b0_0 : Int) (b0_1 : Int) (b0_2 : (List Int)) (b0_3 : (List Int)) (b0_4 : Int) (k : Int → Prop) : Prop := j2000011 (fun x3 x4 x5 b0_0 b0_1 b0_2 b0_3 b0_4 => j9' ag8 x3 x4 x5 b0_0 b0_1 b0_2 b0_3 b0_4 k) x3 x4 x5 x63 b0_0 b0_1 b0_2 b0_3 b0_4 k
def j12' (b0_0 : Int) (b0_1 : Int) (b0_2 : (List Int)) (b0_3 : (List Int)) (b0_4 : Int) (k : Int → Prop) : Prop := j12 (fun x71 => j2000013' x71 k) b0_0 b0_1 b0_2 b0_3 b0_4 k
def l8' (ag2 : Int → Int → Int → (List Int) → (List Int) → Int → Prop) (x3 : Int) (x4 : (List Int)) (x5 : Int) (b0_0 : Int) (b0_1 : Int) (b0_2 : (List Int)) (b0_3 : (List Int)) (b0_4 : Int) (k : Int → Prop) : Prop := ∃ n, loopS (fun (ag : (Int × Int × Int × (List Int) × (List Int) × Int) → Prop) (s : Int × Int × Int × (List Int) × (List Int) × Int) => l8 (fun x3 x4 x5 x63 b0_0 b0_1 b0_2 b0_3 b0_4 => j2000011' (fun x5 b0_0 b0_1 b0_2 b0_3 b0_4 => ag (x5, b0_0, b0_1, b0_2, b0_3, b0_4)) x3 x4 x5 x63 b0_0 b0_1 b0_2 b0_3 b0_4 k) (fun x3 b0_0 b0_1 b0_2 b0_3 b0_4 => j3' ag2 x3 b0_0 b0_1 b0_2 b0_3 b0_4 k) x3 x4 s.1 s.2.1 s.2.2.1 s.2.2.2.1 s.2.2.2.2.1 s.2.2.2.2.2 k) n (x5, b0_0, b0_1, b0_2, b0_3, b0_4)
def j6' (ag2 : Int → Int → Int → (List Int) → (List Int) → Int → Prop) (x3 : Int) (b0_0 : Int) (b0_1 : Int) (b0_2 : (List Int)) (b0_3 : (List Int)) (b0_4 : Int) (k : Int → Prop) : Prop := j6 (fun x3 x4 x5 b0_0 b0_1 b0_2 b0_3 b0_4 => l8' ag2 x3 x4 x5 b0_0 b0_1 b0_2 b0_3 b0_4 k) x3 b0_0 b0_1 b0_2 b0_3 b0_4 k
def j2000005' (ag2 : Int → Int → Int → (List Int) → (List Int) → Int → Prop) (x3 : Int) (x21 : Bool) (b0_0 : Int) (b0_1 : Int) (b0_2 : (List Int)) (b0_3 : (List Int)) (b0_4 : Int) (k : Int → Prop) : Prop := j2000005 (fun x3 b0_0 b0_1 b0_2 b0_3 b0_4 => j6' ag2 x3 b0_0 b0_1 b0_2 b0_3 b0_4 k) x3 x21 b0_0 b0_1 b0_2 b0_3 b0_4 k
def l2' (x3 : Int) (b0_0 : Int) (b0_1 : Int) (b0_2 : (List Int)) (b0_3 : (List Int)) (b0_4 : Int) (k : Int → Prop) : Prop := ∃ n, loopS (fun (ag : (Int × Int × Int × (List Int) × (List Int) × Int) → Prop) (s : Int × Int × Int × (List Int) × (List Int) × Int) => l2 (fun x3 x21 b0_0 b0_1 b0_2 b0_3 b0_4 => j2000005' (fun x3 b0_0 b0_1 b0_2 b0_3 b0_4 => ag (x3, b0_0, b0_1, b0_2, b0_3, b0_4)) x3 x21 b0_0 b0_1 b0_2 b0_3 b0_4 k) (fun b0_0 b0_1 b0_2 b0_3 b0_4 => j12' b0_0 b0_1 b0_2 b0_3 b0_4 k) s.1 s.2.1 s.2.2.1 s.2.2.2.1 s.2.2.2.2.1 s.2.2.2.2.2 k) n (x3, b0_0, b0_1, b0_2, b0_3, b0_4)
def f0 (x0_0_0 : Int) (x0_0_1 : Int) (x0_1_0 : (List Int)) (x0_1_1 : (List Int)) (x0_2 : Int) (k : Int → Prop) : Prop := c (fun x3 b0_0 b0_1 b0_2 b0_3 b0_4 => l2' x3 b0_0 b0_1 b0_2 b0_3 b0_4 k) x0_0_0 x0_0_1 x0_1_0 x0_1_1 x0_2 k
theorem f_ex : ∃ g : Int → Int → (List Int) → (List Int) → Int → (Int → Prop) → Prop, g = f0 := ⟨_, rfl⟩
noncomputable def f : Int → Int → (List Int) → (List Int) → Int → (Int → Prop) → Prop := Classical.choose f_ex
theorem f_def : f = f0 := Classical.choose_spec f_ex
def mL2 (x3 : Int) (b0_0 : Int) (b0_1 : Int) (b0_2 : (List Int)) (b0_3 : (List Int)) (b0_4 : Int) : St := { tmps := mkT 72 0 [(1, (.ptr 0 0)), (3, (.v (.int IntKind.i64 x3)))], hp := [(.box 26 [(.v (.int IntKind.i64 b0_0)), (.v (.int IntKind.i64 b0_1)), (.fz (Ty.int IntKind.i64) b0_2), (.fz (Ty.int IntKind.i64) b0_3), (.v (.int IntKind.i64 b0_4))])], m := 0 }
def m2000005 (x3 : Int) (x21 : Bool) (b0_0 : Int) (b0_1 : Int) (b0_2 : (List Int)) (b0_3 : (List Int)) (b0_4 : Int) : St := { tmps := mkT 72 0 [(1, (.ptr 0 0)), (3, (.v (.int IntKind.i64 x3))), (21, (.v (.bool x21)))], hp := [(.box 26 [(.v (.int IntKind.i64 b0_0)), (.v (.int IntKind.i64 b0_1)), (.fz (Ty.int IntKind.i64) b0_2), (.fz (Ty.int IntKind.i64) b0_3), (.v (.int IntKind.i64 b0_4))])], m := 0 }
def m12 (b0_0 : Int) (b0_1 : Int) (b0_2 : (List Int)) (b0_3 : (List Int)) (b0_4 : Int) : St := { tmps := mkT 72 0 [(1, (.ptr 0 0))], hp := [(.box 26 [(.v (.int IntKind.i64 b0_0)), (.v (.int IntKind.i64 b0_1)), (.fz (Ty.int IntKind.i64) b0_2), (.fz (Ty.int IntKind.i64) b0_3), (.v (.int IntKind.i64 b0_4))])], m := 0 }
def m6 (x3 : Int) (b0_0 : Int) (b0_1 : Int) (b0_2 : (List Int)) (b0_3 : (List Int)) (b0_4 : Int) : St := { tmps := mkT 72 0 [(1, (.ptr 0 0)), (3, (.v (.int IntKind.i64 x3)))], hp := [(.box 26 [(.v (.int IntKind.i64 b0_0)), (.v (.int IntKind.i64 b0_1)), (.fz (Ty.int IntKind.i64) b0_2), (.fz (Ty.int IntKind.i64) b0_3), (.v (.int IntKind.i64 b0_4))])], m := 0 }
def m2000013 (x71 : Bool) : St := { tmps := mkT 72 0 [(71, (.v (.bool x71)))], hp := [], m := 0 }
def mL8 (x3 : Int) (x4 : (List Int)) (x5 : Int) (b0_0 : Int) (b0_1 : Int) (b0_2 : (List Int)) (b0_3 : (List Int)) (b0_4 : Int) : St := { tmps := mkT 72 0 [(1, (.ptr 0 0)), (3, (.v (.int IntKind.i64 x3))), (4, (.fz (Ty.int IntKind.i64) x4)), (5, (.v (.int IntKind.i64 x5)))], hp := [(.box 26 [(.v (.int IntKind.i64 b0_0)), (.v (.int IntKind.i64 b0_1)), (.fz (Ty.int IntKind.i64) b0_2), (.fz (Ty.int IntKind.i64) b0_3), (.v (.int IntKind.i64 b0_4))])], m := 0 }
def m14 : St := { tmps := mkT 72 0 [], hp := [], m := 0 }
def m2000011 (x3 : Int) (x4 : (List Int)) (x5 : Int) (x63 : Bool) (b0_0 : Int) (b0_1 : Int) (b0_2 : (List Int)) (b0_3 : (List Int)) (b0_4 : Int) : St := { tmps := mkT 72 0 [(1, (.ptr 0 0)), (3, (.v (.int IntKind.i64 x3))), (4, (.fz (Ty.int IntKind.i64) x4)), (5, (.v (.int IntKind.i64 x5))), (63, (.v (.bool x63)))], hp := [(.box 26 [(.v (.int IntKind.i64 b0_0)), (.v (.int IntKind.i64 b0_1)), (.fz (Ty.int IntKind.i64) b0_2), (.fz (Ty.int IntKind.i64) b0_3), (.v (.int IntKind.i64 b0_4))])], m := 0 }
def m3 (x3 : Int) (b0_0 : Int) (b0_1 : Int) (b0_2 : (List Int)) (b0_3 : (List Int)) (b0_4 : Int) : St := { tmps := mkT 72 0 [(1, (.ptr 0 0)), (3, (.v (.int IntKind.i64 x3)))], hp := [(.box 26 [(.v (.int IntKind.i64 b0_0)), (.v (.int IntKind.i64 b0_1)), (.fz (Ty.int IntKind.i64) b0_2), (.fz (Ty.int IntKind.i64) b0_3), (.v (.int IntKind.i64 b0_4))])], m := 0 }
def m9 (x3 : Int) (x4 : (List Int)) (x5 : Int) (b0_0 : Int) (b0_1 : Int) (b0_2 : (List Int)) (b0_3 : (List Int)) (b0_4 : Int) : St := { tmps := mkT 72 0 [(1, (.ptr 0 0)), (3, (.v (.int IntKind.i64 x3))), (4, (.fz (Ty.int IntKind.i64) x4)), (5, (.v (.int IntKind.i64 x5)))], hp := [(.box 26 [(.v (.int IntKind.i64 b0_0)), (.v (.int IntKind.i64 b0_1)), (.fz (Ty.int IntKind.i64) b0_2), (.fz (Ty.int IntKind.i64) b0_3), (.v (.int IntKind.i64 b0_4))])], m := 0 }
noncomputable def YL2 (k kp : D → List Blk → Prop) : (St → Prop) → St → Prop := loopB cfg (sub [1, 0, 1, 0, 0] body) (contK cfg (pick none' []) [1, 0, 1, 0] body (topK cfg Try.f17 k kp))
noncomputable def XL2 (k kp : D → List Blk → Prop) : St → Prop := fun st => ∃ n, loopN (YL2 k kp) n st
noncomputable def X2000005 (k kp : D → List Blk → Prop) (ag2 : St → Prop) : St → Prop := atP cfg (pick none' [(2, ag2)]) [1, 0, 1, 0, 0, 1, 0, 0, 0, 1] body (topK cfg Try.f17 k kp)
noncomputable def X12 (k kp : D → List Blk → Prop) : St → Prop := atP cfg (pick none' []) [1, 1] body (topK cfg Try.f17 k kp)
noncomputable def X6 (k kp : D → List Blk → Prop) (ag2 : St → Prop) : St → Prop := atP cfg (pick none' [(2, ag2)]) [1, 0, 1, 0, 0, 1, 0, 0, 1] body (topK cfg Try.f17 k kp)
noncomputable def X2000013 (k kp : D → List Blk → Prop) : St → Prop := atP cfg (pick none' []) [1, 1, 0, 1] body (topK cfg Try.f17 k kp)
noncomputable def YL8 (k kp : D → List Blk → Prop) (ag2 : St → Prop) : (St → Prop) → St → Prop := loopB cfg (sub [1, 0, 1, 0, 0, 1, 0, 0, 1, 1, 1, 0, 0] body) (contK cfg (pick none' [(2, ag2)]) [1, 0, 1, 0, 0, 1, 0, 0, 1, 1, 1, 0] body (topK cfg Try.f17 k kp))
noncomputable def XL8 (k kp : D → List Blk → Prop) (ag2 : St → Prop) : St → Prop := fun st => ∃ n, loopN (YL8 k kp ag2) n st
noncomputable def X14 (k kp : D → List Blk → Prop) : St → Prop := atP cfg (pick none' []) [1, 1, 1] body (topK cfg Try.f17 k kp)
noncomputable def X2000011 (k kp : D → List Blk → Prop) (ag2 : St → Prop) (ag8 : St → Prop) : St → Prop := atP cfg (pick none' [(2, ag2), (8, ag8)]) [1, 0, 1, 0, 0, 1, 0, 0, 1, 1, 1, 0, 0, 1, 0, 0, 1] body (topK cfg Try.f17 k kp)
noncomputable def X3 (k kp : D → List Blk → Prop) (ag2 : St → Prop) : St → Prop := atP cfg (pick none' [(2, ag2)]) [1, 0, 1, 0, 0, 1, 1] body (topK cfg Try.f17 k kp)
noncomputable def X9 (k kp : D → List Blk → Prop) (ag2 : St → Prop) (ag8 : St → Prop) : St → Prop := atP cfg (pick none' [(2, ag2), (8, ag8)]) [1, 0, 1, 0, 0, 1, 0, 0, 1, 1, 1, 0, 0, 1, 1] body (topK cfg Try.f17 k kp)
noncomputable def JJ_2 (k kp : D → List Blk → Prop) (ag2 : St → Prop) : Nat → St → Prop := pick none' [(2000005, X2000005 k kp ag2), (12, X12 k kp), (6, X6 k kp ag2), (2000013, X2000013 k kp), (14, X14 k kp), (3, X3 k kp ag2)]
noncomputable def LL_2 (k kp : D → List Blk → Prop) (ag2 : St → Prop) : Nat → St → Prop := pick none' [(2, XL2 k kp), (8, XL8 k kp ag2)]
noncomputable def JJ (k kp : D → List Blk → Prop) : Nat → St → Prop := pick none' [(12, X12 k kp), (2000013, X2000013 k kp), (14, X14 k kp)]
noncomputable def LL (k kp : D → List Blk → Prop) : Nat → St → Prop := pick none' [(2, XL2 k kp)]
noncomputable def JJ_2_8 (k kp : D → List Blk → Prop) (ag2 : St → Prop) (ag8 : St → Prop) : Nat → St → Prop := pick none' [(2000005, X2000005 k kp ag2), (12, X12 k kp), (6, X6 k kp ag2), (2000013, X2000013 k kp), (14, X14 k kp), (2000011, X2000011 k kp ag2 ag8), (3, X3 k kp ag2), (9, X9 k kp ag2 ag8)]
noncomputable def LL_2_8 (k kp : D → List Blk → Prop) (ag2 : St → Prop) (ag8 : St → Prop) : Nat → St → Prop := pick none' [(2, XL2 k kp), (8, XL8 k kp ag2)]
theorem j14_c (k kp : D → List Blk → Prop) (J L : Nat → St → Prop) : runC cfg 14 J L (pick none' []) [1, 1, 1] body (topK cfg Try.f17 k kp) (m14) = j14 (fun y0 => k (.v (.int IntKind.i64 y0)) []) := by kernel_rfl
theorem j14_ag (k kp : D → List Blk → Prop) : agPL cfg 14 (JJ k kp) (LL k kp) [1, 1, 1] body = agPR cfg 14 (pick none' []) [1, 1, 1] body (topK cfg Try.f17 k kp) := by kernel_rfl
theorem j14_raw (k kp : D → List Blk → Prop) : X14 k kp (m14) = j14 (fun y0 => k (.v (.int IntKind.i64 y0)) []) :=
  Eq.mp (by kernel_rfl) ((atP_run (j14_ag k kp) (m14)).trans (j14_c k kp (JJ k kp) (LL k kp)))
theorem j14_eq (k kp : D → List Blk → Prop) : X14 k kp (m14) = j14' (fun y0 => k (.v (.int IntKind.i64 y0)) []) := by
  rw [j14_raw]; rfl
theorem j3_c (k kp : D → List Blk → Prop) (J L : Nat → St → Prop) (ag2 : St → Prop) (x3 : Int) (b0_0 : Int) (b0_1 : Int) (b0_2 : (List Int)) (b0_3 : (List Int)) (b0_4 : Int) : runC cfg 3 J L (pick none' [(2, ag2)]) [1, 0, 1, 0, 0, 1, 1] body (topK cfg Try.f17 k kp) (m3 x3 b0_0 b0_1 b0_2 b0_3 b0_4) = j3 (fun x3 b0_0 b0_1 b0_2 b0_3 b0_4 => ag2 (mL2 x3 b0_0 b0_1 b0_2 b0_3 b0_4)) x3 b0_0 b0_1 b0_2 b0_3 b0_4 (fun y0 => k (.v (.int IntKind.i64 y0)) []) := by kernel_rfl
theorem j3_ag (k kp : D → List Blk → Prop) (ag2 : St → Prop) : agPL cfg 3 (JJ_2 k kp ag2) (LL_2 k kp ag2) [1, 0, 1, 0, 0, 1, 1] body = agPR cfg 3 (pick none' [(2, ag2)]) [1, 0, 1, 0, 0, 1, 1] body (topK cfg Try.f17 k kp) := by kernel_rfl
theorem j3_raw (k kp : D → List Blk → Prop) (ag2 : St → Prop) (x3 : Int) (b0_0 : Int) (b0_1 : Int) (b0_2 : (List Int)) (b0_3 : (List Int)) (b0_4 : Int) : X3 k kp ag2 (m3 x3 b0_0 b0_1 b0_2 b0_3 b0_4) = j3 (fun x3 b0_0 b0_1 b0_2 b0_3 b0_4 => ag2 (mL2 x3 b0_0 b0_1 b0_2 b0_3 b0_4)) x3 b0_0 b0_1 b0_2 b0_3 b0_4 (fun y0 => k (.v (.int IntKind.i64 y0)) []) :=
  Eq.mp (by kernel_rfl) ((atP_run (j3_ag k kp ag2) (m3 x3 b0_0 b0_1 b0_2 b0_3 b0_4)).trans (j3_c k kp (JJ_2 k kp ag2) (LL_2 k kp ag2) ag2 x3 b0_0 b0_1 b0_2 b0_3 b0_4))
theorem j3_eq (k kp : D → List Blk → Prop) (ag2 : St → Prop) (x3 : Int) (b0_0 : Int) (b0_1 : Int) (b0_2 : (List Int)) (b0_3 : (List Int)) (b0_4 : Int) : X3 k kp ag2 (m3 x3 b0_0 b0_1 b0_2 b0_3 b0_4) = j3' (fun x3 b0_0 b0_1 b0_2 b0_3 b0_4 => ag2 (mL2 x3 b0_0 b0_1 b0_2 b0_3 b0_4)) x3 b0_0 b0_1 b0_2 b0_3 b0_4 (fun y0 => k (.v (.int IntKind.i64 y0)) []) := by
  rw [j3_raw]; rfl
theorem j9_c (k kp : D → List Blk → Prop) (J L : Nat → St → Prop) (ag2 : St → Prop) (ag8 : St → Prop) (x3 : Int) (x4 : (List Int)) (x5 : Int) (b0_0 : Int) (b0_1 : Int) (b0_2 : (List Int)) (b0_3 : (List Int)) (b0_4 : Int) : runC cfg 9 J L (pick none' [(2, ag2), (8, ag8)]) [1, 0, 1, 0, 0, 1, 0, 0, 1, 1, 1, 0, 0, 1, 1] body (topK cfg Try.f17 k kp) (m9 x3 x4 x5 b0_0 b0_1 b0_2 b0_3 b0_4) = j9 (fun x5 b0_0 b0_1 b0_2 b0_3 b0_4 => ag8 (mL8 x3 x4 x5 b0_0 b0_1 b0_2 b0_3 b0_4)) x3 x4 x5 b0_0 b0_1 b0_2 b0_3 b0_4 (fun y0 => k (.v (.int IntKind.i64 y0)) []) := by kernel_rfl
theorem j9_ag (k kp : D → List Blk → Prop) (ag2 : St → Prop) (ag8 : St → Prop) : agPL cfg 9 (JJ_2_8 k kp ag2 ag8) (LL_2_8 k kp ag2 ag8) [1, 0, 1, 0, 0, 1, 0, 0, 1, 1, 1, 0, 0, 1, 1] body = agPR cfg 9 (pick none' [(2, ag2), (8, ag8)]) [1, 0, 1, 0, 0, 1, 0, 0, 1, 1, 1, 0, 0, 1, 1] body (topK cfg Try.f17 k kp) := by kernel_rfl
theorem j9_raw (k kp : D → List Blk → Prop) (ag2 : St → Prop) (ag8 : St → Prop) (x3 : Int) (x4 : (List Int)) (x5 : Int) (b0_0 : Int) (b0_1 : Int) (b0_2 : (List Int)) (b0_3 : (List Int)) (b0_4 : Int) : X9 k kp ag2 ag8 (m9 x3 x4 x5 b0_0 b0_1 b0_2 b0_3 b0_4) = j9 (fun x5 b0_0 b0_1 b0_2 b0_3 b0_4 => ag8 (mL8 x3 x4 x5 b0_0 b0_1 b0_2 b0_3 b0_4)) x3 x4 x5 b0_0 b0_1 b0_2 b0_3 b0_4 (fun y0 => k (.v (.int IntKind.i64 y0)) []) :=
  Eq.mp (by kernel_rfl) ((atP_run (j9_ag k kp ag2 ag8) (m9 x3 x4 x5 b0_0 b0_1 b0_2 b0_3 b0_4)).trans (j9_c k kp (JJ_2_8 k kp ag2 ag8) (LL_2_8 k kp ag2 ag8) ag2 ag8 x3 x4 x5 b0_0 b0_1 b0_2 b0_3 b0_4))
theorem j9_eq (k kp : D → List Blk → Prop) (ag2 : St → Prop) (ag8 : St → Prop) (x3 : Int) (x4 : (List Int)) (x5 : Int) (b0_0 : Int) (b0_1 : Int) (b0_2 : (List Int)) (b0_3 : (List Int)) (b0_4 : Int) : X9 k kp ag2 ag8 (m9 x3 x4 x5 b0_0 b0_1 b0_2 b0_3 b0_4) = j9' (fun x5 b0_0 b0_1 b0_2 b0_3 b0_4 => ag8 (mL8 x3 x4 x5 b0_0 b0_1 b0_2 b0_3 b0_4)) x3 x4 x5 b0_0 b0_1 b0_2 b0_3 b0_4 (fun y0 => k (.v (.int IntKind.i64 y0)) []) := by
  rw [j9_raw]; rfl
theorem j2000013_c (k kp : D → List Blk → Prop) (J L : Nat → St → Prop) (x71 : Bool) : runC cfg 2000013 J L (pick none' []) [1, 1, 0, 1] body (topK cfg Try.f17 k kp) (m2000013 x71) = j2000013 (J 14 (m14)) x71 (fun y0 => k (.v (.int IntKind.i64 y0)) []) := by kernel_rfl
theorem j2000013_ag (k kp : D → List Blk → Prop) : agPL cfg 2000013 (JJ k kp) (LL k kp) [1, 1, 0, 1] body = agPR cfg 2000013 (pick none' []) [1, 1, 0, 1] body (topK cfg Try.f17 k kp) := by kernel_rfl
theorem j2000013_raw (k kp : D → List Blk → Prop) (x71 : Bool) : X2000013 k kp (m2000013 x71) = j2000013 (X14 k kp (m14)) x71 (fun y0 => k (.v (.int IntKind.i64 y0)) []) :=
  Eq.mp (by kernel_rfl) ((atP_run (j2000013_ag k kp) (m2000013 x71)).trans (j2000013_c k kp (JJ k kp) (LL k kp) x71))
theorem j2000013_eq (k kp : D → List Blk → Prop) (x71 : Bool) : X2000013 k kp (m2000013 x71) = j2000013' x71 (fun y0 => k (.v (.int IntKind.i64 y0)) []) := by
  rw [j2000013_raw]; simp only [j14_eq]; first | done | rfl
theorem j2000011_c (k kp : D → List Blk → Prop) (J L : Nat → St → Prop) (ag2 : St → Prop) (ag8 : St → Prop) (x3 : Int) (x4 : (List Int)) (x5 : Int) (x63 : Bool) (b0_0 : Int) (b0_1 : Int) (b0_2 : (List Int)) (b0_3 : (List Int)) (b0_4 : Int) : runC cfg 2000011 J L (pick none' [(2, ag2), (8, ag8)]) [1, 0, 1, 0, 0, 1, 0, 0, 1, 1, 1, 0, 0, 1, 0, 0, 1] body (topK cfg Try.f17 k kp) (m2000011 x3 x4 x5 x63 b0_0 b0_1 b0_2 b0_3 b0_4) = j2000011 (fun x3 x4 x5 b0_0 b0_1 b0_2 b0_3 b0_4 => J 9 (m9 x3 x4 x5 b0_0 b0_1 b0_2 b0_3 b0_4)) x3 x4 x5 x63 b0_0 b0_1 b0_2 b0_3 b0_4 (fun y0 => k (.v (.int IntKind.i64 y0)) []) := by kernel_rfl
theorem j2000011_ag (k kp : D → List Blk → Prop) (ag2 : St → Prop) (ag8 : St → Prop) : agPL cfg 2000011 (JJ_2_8 k kp ag2 ag8) (LL_2_8 k kp ag2 ag8) [1, 0, 1, 0, 0, 1, 0, 0, 1, 1, 1, 0, 0, 1, 0, 0, 1] body = agPR cfg 2000011 (pick none' [(2, ag2), (8, ag8)]) [1, 0, 1, 0, 0, 1, 0, 0, 1, 1, 1, 0, 0, 1, 0, 0, 1] body (topK cfg Try.f17 k kp) := by kernel_rfl
theorem j2000011_raw (k kp : D → List Blk → Prop) (ag2 : St → Prop) (ag8 : St → Prop) (x3 : Int) (x4 : (List Int)) (x5 : Int) (x63 : Bool) (b0_0 : Int) (b0_1 : Int) (b0_2 : (List Int)) (b0_3 : (List Int)) (b0_4 : Int) : X2000011 k kp ag2 ag8 (m2000011 x3 x4 x5 x63 b0_0 b0_1 b0_2 b0_3 b0_4) = j2000011 (fun x3 x4 x5 b0_0 b0_1 b0_2 b0_3 b0_4 => X9 k kp ag2 ag8 (m9 x3 x4 x5 b0_0 b0_1 b0_2 b0_3 b0_4)) x3 x4 x5 x63 b0_0 b0_1 b0_2 b0_3 b0_4 (fun y0 => k (.v (.int IntKind.i64 y0)) []) :=
  Eq.mp (by kernel_rfl) ((atP_run (j2000011_ag k kp ag2 ag8) (m2000011 x3 x4 x5 x63 b0_0 b0_1 b0_2 b0_3 b0_4)).trans (j2000011_c k kp (JJ_2_8 k kp ag2 ag8) (LL_2_8 k kp ag2 ag8) ag2 ag8 x3 x4 x5 x63 b0_0 b0_1 b0_2 b0_3 b0_4))
theorem j2000011_eq (k kp : D → List Blk → Prop) (ag2 : St → Prop) (ag8 : St → Prop) (x3 : Int) (x4 : (List Int)) (x5 : Int) (x63 : Bool) (b0_0 : Int) (b0_1 : Int) (b0_2 : (List Int)) (b0_3 : (List Int)) (b0_4 : Int) : X2000011 k kp ag2 ag8 (m2000011 x3 x4 x5 x63 b0_0 b0_1 b0_2 b0_3 b0_4) = j2000011' (fun x5 b0_0 b0_1 b0_2 b0_3 b0_4 => ag8 (mL8 x3 x4 x5 b0_0 b0_1 b0_2 b0_3 b0_4)) x3 x4 x5 x63 b0_0 b0_1 b0_2 b0_3 b0_4 (fun y0 => k (.v (.int IntKind.i64 y0)) []) := by
  rw [j2000011_raw]; simp only [j9_eq]; first | done | rfl
theorem j12_c (k kp : D → List Blk → Prop) (J L : Nat → St → Prop) (b0_0 : Int) (b0_1 : Int) (b0_2 : (List Int)) (b0_3 : (List Int)) (b0_4 : Int) : runC cfg 12 J L (pick none' []) [1, 1] body (topK cfg Try.f17 k kp) (m12 b0_0 b0_1 b0_2 b0_3 b0_4) = j12 (fun x71 => J 2000013 (m2000013 x71)) b0_0 b0_1 b0_2 b0_3 b0_4 (fun y0 => k (.v (.int IntKind.i64 y0)) []) := by kernel_rfl
theorem j12_ag (k kp : D → List Blk → Prop) : agPL cfg 12 (JJ k kp) (LL k kp) [1, 1] body = agPR cfg 12 (pick none' []) [1, 1] body (topK cfg Try.f17 k kp) := by kernel_rfl
theorem j12_raw (k kp : D → List Blk → Prop) (b0_0 : Int) (b0_1 : Int) (b0_2 : (List Int)) (b0_3 : (List Int)) (b0_4 : Int) : X12 k kp (m12 b0_0 b0_1 b0_2 b0_3 b0_4) = j12 (fun x71 => X2000013 k kp (m2000013 x71)) b0_0 b0_1 b0_2 b0_3 b0_4 (fun y0 => k (.v (.int IntKind.i64 y0)) []) :=
  Eq.mp (by kernel_rfl) ((atP_run (j12_ag k kp) (m12 b0_0 b0_1 b0_2 b0_3 b0_4)).trans (j12_c k kp (JJ k kp) (LL k kp) b0_0 b0_1 b0_2 b0_3 b0_4))
theorem j12_eq (k kp : D → List Blk → Prop) (b0_0 : Int) (b0_1 : Int) (b0_2 : (List Int)) (b0_3 : (List Int)) (b0_4 : Int) : X12 k kp (m12 b0_0 b0_1 b0_2 b0_3 b0_4) = j12' b0_0 b0_1 b0_2 b0_3 b0_4 (fun y0 => k (.v (.int IntKind.i64 y0)) []) := by
  rw [j12_raw]; simp only [j2000013_eq]; first | done | rfl
theorem l8_c (k kp : D → List Blk → Prop) (J L : Nat → St → Prop) (ag2 : St → Prop) (ag8 : St → Prop) (x3 : Int) (x4 : (List Int)) (x5 : Int) (b0_0 : Int) (b0_1 : Int) (b0_2 : (List Int)) (b0_3 : (List Int)) (b0_4 : Int) : runC cfg 1000001 J L (pick none' [(2, ag2), (8, ag8)]) [1, 0, 1, 0, 0, 1, 0, 0, 1, 1, 1, 0, 0] body (topK cfg Try.f17 k kp) (mL8 x3 x4 x5 b0_0 b0_1 b0_2 b0_3 b0_4) = l8 (fun x3 x4 x5 x63 b0_0 b0_1 b0_2 b0_3 b0_4 => J 2000011 (m2000011 x3 x4 x5 x63 b0_0 b0_1 b0_2 b0_3 b0_4)) (fun x3 b0_0 b0_1 b0_2 b0_3 b0_4 => J 3 (m3 x3 b0_0 b0_1 b0_2 b0_3 b0_4)) x3 x4 x5 b0_0 b0_1 b0_2 b0_3 b0_4 (fun y0 => k (.v (.int IntKind.i64 y0)) []) := by kernel_rfl
theorem l8_ag (k kp : D → List Blk → Prop) (ag2 : St → Prop) (ag8 : St → Prop) : agPL cfg 1000001 (JJ_2_8 k kp ag2 ag8) (LL_2_8 k kp ag2 ag8) [1, 0, 1, 0, 0, 1, 0, 0, 1, 1, 1, 0, 0] body = agPR cfg 1000001 (pick none' [(2, ag2), (8, ag8)]) [1, 0, 1, 0, 0, 1, 0, 0, 1, 1, 1, 0, 0] body (topK cfg Try.f17 k kp) := by kernel_rfl
theorem l8_raw (k kp : D → List Blk → Prop) (ag2 : St → Prop) (ag8 : St → Prop) (x3 : Int) (x4 : (List Int)) (x5 : Int) (b0_0 : Int) (b0_1 : Int) (b0_2 : (List Int)) (b0_3 : (List Int)) (b0_4 : Int) : YL8 k kp ag2 ag8 (mL8 x3 x4 x5 b0_0 b0_1 b0_2 b0_3 b0_4) = l8 (fun x3 x4 x5 x63 b0_0 b0_1 b0_2 b0_3 b0_4 => X2000011 k kp ag2 ag8 (m2000011 x3 x4 x5 x63 b0_0 b0_1 b0_2 b0_3 b0_4)) (fun x3 b0_0 b0_1 b0_2 b0_3 b0_4 => X3 k kp ag2 (m3 x3 b0_0 b0_1 b0_2 b0_3 b0_4)) x3 x4 x5 b0_0 b0_1 b0_2 b0_3 b0_4 (fun y0 => k (.v (.int IntKind.i64 y0)) []) :=
  Eq.mp (by kernel_rfl) ((atP_run (l8_ag k kp ag2 ag8) (mL8 x3 x4 x5 b0_0 b0_1 b0_2 b0_3 b0_4)).trans (l8_c k kp (JJ_2_8 k kp ag2 ag8) (LL_2_8 k kp ag2 ag8) ag2 ag8 x3 x4 x5 b0_0 b0_1 b0_2 b0_3 b0_4))
theorem l8_eq (k kp : D → List Blk → Prop) (ag2 : St → Prop) (x3 : Int) (x4 : (List Int)) (x5 : Int) (b0_0 : Int) (b0_1 : Int) (b0_2 : (List Int)) (b0_3 : (List Int)) (b0_4 : Int) : XL8 k kp ag2 (mL8 x3 x4 x5 b0_0 b0_1 b0_2 b0_3 b0_4) = l8' (fun x3 b0_0 b0_1 b0_2 b0_3 b0_4 => ag2 (mL2 x3 b0_0 b0_1 b0_2 b0_3 b0_4)) x3 x4 x5 b0_0 b0_1 b0_2 b0_3 b0_4 (fun y0 => k (.v (.int IntKind.i64 y0)) []) :=
  loop_eq (mk := fun (s : Int × Int × Int × (List Int) × (List Int) × Int) => mL8 x3 x4 s.1 s.2.1 s.2.2.1 s.2.2.2.1 s.2.2.2.2.1 s.2.2.2.2.2) (fun again s => by rw [l8_raw k kp ag2 again x3 x4 s.1 s.2.1 s.2.2.1 s.2.2.2.1 s.2.2.2.2.1 s.2.2.2.2.2]; simp only [j2000011_eq, j3_eq]; first | done | rfl) (x5, b0_0, b0_1, b0_2, b0_3, b0_4)
theorem j6_c (k kp : D → List Blk → Prop) (J L : Nat → St → Prop) (ag2 : St → Prop) (x3 : Int) (b0_0 : Int) (b0_1 : Int) (b0_2 : (List Int)) (b0_3 : (List Int)) (b0_4 : Int) : runC cfg 6 J L (pick none' [(2, ag2)]) [1, 0, 1, 0, 0, 1, 0, 0, 1] body (topK cfg Try.f17 k kp) (m6 x3 b0_0 b0_1 b0_2 b0_3 b0_4) = j6 (fun x3 x4 x5 b0_0 b0_1 b0_2 b0_3 b0_4 => L 8 (mL8 x3 x4 x5 b0_0 b0_1 b0_2 b0_3 b0_4)) x3 b0_0 b0_1 b0_2 b0_3 b0_4 (fun y0 => k (.v (.int IntKind.i64 y0)) []) := by kernel_rfl
theorem j6_ag (k kp : D → List Blk → Prop) (ag2 : St → Prop) : agPL cfg 6 (JJ_2 k kp ag2) (LL_2 k kp ag2) [1, 0, 1, 0, 0, 1, 0, 0, 1] body = agPR cfg 6 (pick none' [(2, ag2)]) [1, 0, 1, 0, 0, 1, 0, 0, 1] body (topK cfg Try.f17 k kp) := by kernel_rfl
theorem j6_raw (k kp : D → List Blk → Prop) (ag2 : St → Prop) (x3 : Int) (b0_0 : Int) (b0_1 : Int) (b0_2 : (List Int)) (b0_3 : (List Int)) (b0_4 : Int) : X6 k kp ag2 (m6 x3 b0_0 b0_1 b0_2 b0_3 b0_4) = j6 (fun x3 x4 x5 b0_0 b0_1 b0_2 b0_3 b0_4 => XL8 k kp ag2 (mL8 x3 x4 x5 b0_0 b0_1 b0_2 b0_3 b0_4)) x3 b0_0 b0_1 b0_2 b0_3 b0_4 (fun y0 => k (.v (.int IntKind.i64 y0)) []) :=
  Eq.mp (by kernel_rfl) ((atP_run (j6_ag k kp ag2) (m6 x3 b0_0 b0_1 b0_2 b0_3 b0_4)).trans (j6_c k kp (JJ_2 k kp ag2) (LL_2 k kp ag2) ag2 x3 b0_0 b0_1 b0_2 b0_3 b0_4))
theorem j6_eq (k kp : D → List Blk → Prop) (ag2 : St → Prop) (x3 : Int) (b0_0 : Int) (b0_1 : Int) (b0_2 : (List Int)) (b0_3 : (List Int)) (b0_4 : Int) : X6 k kp ag2 (m6 x3 b0_0 b0_1 b0_2 b0_3 b0_4) = j6' (fun x3 b0_0 b0_1 b0_2 b0_3 b0_4 => ag2 (mL2 x3 b0_0 b0_1 b0_2 b0_3 b0_4)) x3 b0_0 b0_1 b0_2 b0_3 b0_4 (fun y0 => k (.v (.int IntKind.i64 y0)) []) := by
  rw [j6_raw]; simp only [l8_eq]; first | done | rfl
theorem j2000005_c (k kp : D → List Blk → Prop) (J L : Nat → St → Prop) (ag2 : St → Prop) (x3 : Int) (x21 : Bool) (b0_0 : Int) (b0_1 : Int) (b0_2 : (List Int)) (b0_3 : (List Int)) (b0_4 : Int) : runC cfg 2000005 J L (pick none' [(2, ag2)]) [1, 0, 1, 0, 0, 1, 0, 0, 0, 1] body (topK cfg Try.f17 k kp) (m2000005 x3 x21 b0_0 b0_1 b0_2 b0_3 b0_4) = j2000005 (fun x3 b0_0 b0_1 b0_2 b0_3 b0_4 => J 6 (m6 x3 b0_0 b0_1 b0_2 b0_3 b0_4)) x3 x21 b0_0 b0_1 b0_2 b0_3 b0_4 (fun y0 => k (.v (.int IntKind.i64 y0)) []) := by kernel_rfl
theorem j2000005_ag (k kp : D → List Blk → Prop) (ag2 : St → Prop) : agPL cfg 2000005 (JJ_2 k kp ag2) (LL_2 k kp ag2) [1, 0, 1, 0, 0, 1, 0, 0, 0, 1] body = agPR cfg 2000005 (pick none' [(2, ag2)]) [1, 0, 1, 0, 0, 1, 0, 0, 0, 1] body (topK cfg Try.f17 k kp) := by kernel_rfl
theorem j2000005_raw (k kp : D → List Blk → Prop) (ag2 : St → Prop) (x3 : Int) (x21 : Bool) (b0_0 : Int) (b0_1 : Int) (b0_2 : (List Int)) (b0_3 : (List Int)) (b0_4 : Int) : X2000005 k kp ag2 (m2000005 x3 x21 b0_0 b0_1 b0_2 b0_3 b0_4) = j2000005 (fun x3 b0_0 b0_1 b0_2 b0_3 b0_4 => X6 k kp ag2 (m6 x3 b0_0 b0_1 b0_2 b0_3 b0_4)) x3 x21 b0_0 b0_1 b0_2 b0_3 b0_4 (fun y0 => k (.v (.int IntKind.i64 y0)) []) :=
  Eq.mp (by kernel_rfl) ((atP_run (j2000005_ag k kp ag2) (m2000005 x3 x21 b0_0 b0_1 b0_2 b0_3 b0_4)).trans (j2000005_c k kp (JJ_2 k kp ag2) (LL_2 k kp ag2) ag2 x3 x21 b0_0 b0_1 b0_2 b0_3 b0_4))
theorem j2000005_eq (k kp : D → List Blk → Prop) (ag2 : St → Prop) (x3 : Int) (x21 : Bool) (b0_0 : Int) (b0_1 : Int) (b0_2 : (List Int)) (b0_3 : (List Int)) (b0_4 : Int) : X2000005 k kp ag2 (m2000005 x3 x21 b0_0 b0_1 b0_2 b0_3 b0_4) = j2000005' (fun x3 b0_0 b0_1 b0_2 b0_3 b0_4 => ag2 (mL2 x3 b0_0 b0_1 b0_2 b0_3 b0_4)) x3 x21 b0_0 b0_1 b0_2 b0_3 b0_4 (fun y0 => k (.v (.int IntKind.i64 y0)) []) := by
  rw [j2000005_raw]; simp only [j6_eq]; first | done | rfl
theorem l2_c (k kp : D → List Blk → Prop) (J L : Nat → St → Prop) (ag2 : St → Prop) (x3 : Int) (b0_0 : Int) (b0_1 : Int) (b0_2 : (List Int)) (b0_3 : (List Int)) (b0_4 : Int) : runC cfg 1000001 J L (pick none' [(2, ag2)]) [1, 0, 1, 0, 0] body (topK cfg Try.f17 k kp) (mL2 x3 b0_0 b0_1 b0_2 b0_3 b0_4) = l2 (fun x3 x21 b0_0 b0_1 b0_2 b0_3 b0_4 => J 2000005 (m2000005 x3 x21 b0_0 b0_1 b0_2 b0_3 b0_4)) (fun b0_0 b0_1 b0_2 b0_3 b0_4 => J 12 (m12 b0_0 b0_1 b0_2 b0_3 b0_4)) x3 b0_0 b0_1 b0_2 b0_3 b0_4 (fun y0 => k (.v (.int IntKind.i64 y0)) []) := by kernel_rfl
theorem l2_ag (k kp : D → List Blk → Prop) (ag2 : St → Prop) : agPL cfg 1000001 (JJ_2 k kp ag2) (LL_2 k kp ag2) [1, 0, 1, 0, 0] body = agPR cfg 1000001 (pick none' [(2, ag2)]) [1, 0, 1, 0, 0] body (topK cfg Try.f17 k kp) := by kernel_rfl
theorem l2_raw (k kp : D → List Blk → Prop) (ag2 : St → Prop) (x3 : Int) (b0_0 : Int) (b0_1 : Int) (b0_2 : (List Int)) (b0_3 : (List Int)) (b0_4 : Int) : YL2 k kp ag2 (mL2 x3 b0_0 b0_1 b0_2 b0_3 b0_4) = l2 (fun x3 x21 b0_0 b0_1 b0_2 b0_3 b0_4 => X2000005 k kp ag2 (m2000005 x3 x21 b0_0 b0_1 b0_2 b0_3 b0_4)) (fun b0_0 b0_1 b0_2 b0_3 b0_4 => X12 k kp (m12 b0_0 b0_1 b0_2 b0_3 b0_4)) x3 b0_0 b0_1 b0_2 b0_3 b0_4 (fun y0 => k (.v (.int IntKind.i64 y0)) []) :=
  Eq.mp (by kernel_rfl) ((atP_run (l2_ag k kp ag2) (mL2 x3 b0_0 b0_1 b0_2 b0_3 b0_4)).trans (l2_c k kp (JJ_2 k kp ag2) (LL_2 k kp ag2) ag2 x3 b0_0 b0_1 b0_2 b0_3 b0_4))
theorem l2_eq (k kp : D → List Blk → Prop) (x3 : Int) (b0_0 : Int) (b0_1 : Int) (b0_2 : (List Int)) (b0_3 : (List Int)) (b0_4 : Int) : XL2 k kp (mL2 x3 b0_0 b0_1 b0_2 b0_3 b0_4) = l2' x3 b0_0 b0_1 b0_2 b0_3 b0_4 (fun y0 => k (.v (.int IntKind.i64 y0)) []) :=
  loop_eq (mk := fun (s : Int × Int × Int × (List Int) × (List Int) × Int) => mL2 s.1 s.2.1 s.2.2.1 s.2.2.2.1 s.2.2.2.2.1 s.2.2.2.2.2) (fun again s => by rw [l2_raw k kp again s.1 s.2.1 s.2.2.1 s.2.2.2.1 s.2.2.2.2.1 s.2.2.2.2.2]; simp only [j2000005_eq, j12_eq]; first | done | rfl) (x3, b0_0, b0_1, b0_2, b0_3, b0_4)
theorem c_c (k kp : D → List Blk → Prop) (J L : Nat → St → Prop) (x0_0_0 : Int) (x0_0_1 : Int) (x0_1_0 : (List Int)) (x0_1_1 : (List Int)) (x0_2 : Int) : runC cfg 1000001 J L none'' [] body (topK cfg Try.f17 k kp) (st0 Try.f17 [(.agg [(.v (.int IntKind.i64 x0_0_0)), (.v (.int IntKind.i64 x0_0_1)), (.fz (Ty.int IntKind.i64) x0_1_0), (.fz (Ty.int IntKind.i64) x0_1_1), (.v (.int IntKind.i64 x0_2))])] []) = c (fun x3 b0_0 b0_1 b0_2 b0_3 b0_4 => L 2 (mL2 x3 b0_0 b0_1 b0_2 b0_3 b0_4)) x0_0_0 x0_0_1 x0_1_0 x0_1_1 x0_2 (fun y0 => k (.v (.int IntKind.i64 y0)) []) := by kernel_rfl
theorem c_ag (k kp : D → List Blk → Prop) : agPL cfg 1000001 (JJ k kp) (LL k kp) [] body = agPR cfg 1000001 none'' [] body (topK cfg Try.f17 k kp) := by kernel_rfl
theorem body_is : Try.f17.body = some body := by kernel_rfl
theorem c_raw (k kp : D → List Blk → Prop) (x0_0_0 : Int) (x0_0_1 : Int) (x0_1_0 : (List Int)) (x0_1_1 : (List Int)) (x0_2 : Int) : funW cfg Try.f17 [(.agg [(.v (.int IntKind.i64 x0_0_0)), (.v (.int IntKind.i64 x0_0_1)), (.fz (Ty.int IntKind.i64) x0_1_0), (.fz (Ty.int IntKind.i64) x0_1_1), (.v (.int IntKind.i64 x0_2))])] [] k kp = c (fun x3 b0_0 b0_1 b0_2 b0_3 b0_4 => XL2 k kp (mL2 x3 b0_0 b0_1 b0_2 b0_3 b0_4)) x0_0_0 x0_0_1 x0_1_0 x0_1_1 x0_2 (fun y0 => k (.v (.int IntKind.i64 y0)) []) :=
  Eq.mp (by kernel_rfl) ((funW_run (AG := none'') body_is (c_ag k kp) [(.agg [(.v (.int IntKind.i64 x0_0_0)), (.v (.int IntKind.i64 x0_0_1)), (.fz (Ty.int IntKind.i64) x0_1_0), (.fz (Ty.int IntKind.i64) x0_1_1), (.v (.int IntKind.i64 x0_2))])] []).trans (c_c k kp (JJ k kp) (LL k kp) x0_0_0 x0_0_1 x0_1_0 x0_1_1 x0_2))
theorem f_eq (k kp : D → List Blk → Prop) (x0_0_0 : Int) (x0_0_1 : Int) (x0_1_0 : (List Int)) (x0_1_1 : (List Int)) (x0_2 : Int) : funW cfg Try.f17 [(.agg [(.v (.int IntKind.i64 x0_0_0)), (.v (.int IntKind.i64 x0_0_1)), (.fz (Ty.int IntKind.i64) x0_1_0), (.fz (Ty.int IntKind.i64) x0_1_1), (.v (.int IntKind.i64 x0_2))])] [] k kp = f x0_0_0 x0_0_1 x0_1_0 x0_1_1 x0_2 (fun y0 => k (.v (.int IntKind.i64 y0)) []) := by
  rw [f_def, c_raw]; simp only [l2_eq]; first | done | rfl
noncomputable def ent0 : Entry := fun args blks k _ => match args, blks with
  | [d0], [] => aAgg 5 d0 fun l => aCons l fun d0_0 l => aCons l fun d0_1 l => aCons l fun d0_2 l => aCons l fun d0_3 l => aCons l fun d0_4 l => aNil l (aInt IntKind.i64 d0_0 fun x0_0_0 => aInt IntKind.i64 d0_1 fun x0_0_1 => aFz (Ty.int IntKind.i64) d0_2 fun x0_1_0 => aFz (Ty.int IntKind.i64) d0_3 fun x0_1_1 => aInt IntKind.i64 d0_4 fun x0_2 => f x0_0_0 x0_0_1 x0_1_0 x0_1_1 x0_2 (fun y0 => k (.v (.int IntKind.i64 y0)) []))
  | _, _ => False
noncomputable def ent : Entry := fun args blks k kp => ent0 (convA [none] args) blks k kp
theorem ok : EntOk Try.prog 0 0 17 ent := by
  refine EntOk.conv (EntOk.of (funW_ok (cfg := cfg) (tyOk_of rfl rfl tyL_ok) (eqOk_of (P := Try.prog) rfl rfl (by kernel_rfl)) mixed_ok (tab_ok ?_) Try.func17 (by rfl) (by rfl)) ?_) _
  · intro p hp
    cases hp
  · intro args blks k kp h k' kp'
    match args, blks, h with
    | [d0], [], h =>
    dsimp only [ent0] at h
    have h9 := aAgg_elim h; clear h; obtain ⟨_, rfl, h⟩ := h9
    have h9 := aCons_elim h; clear h; obtain ⟨d0_0, _, rfl, h⟩ := h9
    have h9 := aCons_elim h; clear h; obtain ⟨d0_1, _, rfl, h⟩ := h9
    have h9 := aCons_elim h; clear h; obtain ⟨d0_2, _, rfl, h⟩ := h9
    have h9 := aCons_elim h; clear h; obtain ⟨d0_3, _, rfl, h⟩ := h9
    have h9 := aCons_elim h; clear h; obtain ⟨d0_4, _, rfl, h⟩ := h9
    have h9 := aNil_elim h; clear h; obtain ⟨rfl, h⟩ := h9
    have h9 := aInt_elim h; clear h; obtain ⟨x0_0_0, rfl, h⟩ := h9
    have h9 := aInt_elim h; clear h; obtain ⟨x0_0_1, rfl, h⟩ := h9
    have h9 := aFz_elim (t := (Ty.int IntKind.i64)) h; clear h; obtain ⟨x0_1_0, rfl, h⟩ := h9
    have h9 := aFz_elim (t := (Ty.int IntKind.i64)) h; clear h; obtain ⟨x0_1_1, rfl, h⟩ := h9
    have h9 := aInt_elim h; clear h; obtain ⟨x0_2, rfl, h⟩ := h9
    exact (f_eq k' kp' x0_0_0 x0_0_1 x0_1_0 x0_1_1 x0_2).symm
end N17
end Go.Proofs.Yu
