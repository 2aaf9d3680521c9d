/- Functions of the program as plain functions, each with the proof that the code comes to them. -/
import Derived.Test.YtbfggnlonemmiaaT2
import Derived.OpenShut
import Derived.SizedLaws
import Derived.Test.YtbfggnlonemmiaaProg
namespace Go.Aw
open Go.RowKit
set_option linter.unusedVariables false

/-! ### Words for plain proofs -/
@[simp] theorem br_true (p q : Prop) : br true p q = p := rfl
@[simp] theorem br_false (p q : Prop) : br false p q = q := rfl
theorem br_of {b : Bool} {p q : Prop} (h1 : b = true → p) (h2 : b = false → q) : br b p q := by
  cases b
  · exact h2 rfl
  · exact h1 rfl
theorem br_iff {b : Bool} {p q : Prop} : br b p q ↔ (b = true → p) ∧ (b = false → q) := by cases b <;> simp
@[simp] theorem br_dec {c : Prop} [Decidable c] {p q : Prop} : br (decide c) p q = if c then p else q := by
  by_cases h : c <;> simp [h]
@[simp] theorem br_beq {α : Type} [BEq α] [LawfulBEq α] [DecidableEq α] {a b : α} {p q : Prop} : br (a == b) p q = if a = b then p else q := by
  by_cases h : a = b
  · simp [h]
  · rw [if_neg h, show (a == b) = false by simpa using h]; rfl
@[simp] theorem br_bne {α : Type} [BEq α] [LawfulBEq α] [DecidableEq α] {a b : α} {p q : Prop} : br (a != b) p q = if a = b then q else p := by
  by_cases h : a = b
  · simp [h]
  · rw [if_neg h, show (a != b) = true by simpa using h]; rfl
@[simp] theorem br_not {b : Bool} {p q : Prop} : br (!b) p q = br b q p := by cases b <;> rfl
theorem br_bif {α : Sort _} {b : Bool} {k : α → Prop} {x y : α} : br b (k x) (k y) = k (bif b then x else y) := by cases b <;> rfl

abbrev w64 (n : Int) : Int := IntKind.i64.wrap n
theorem w64_eq (n : Int) : w64 n = n.bmod (2 ^ 64) := by
  unfold w64 IntKind.wrap
  simp only [IntKind.bits, IntKind.signed]
  unfold Int.bmod
  simp
  split <;> split <;> omega
theorem wu64_eq (n : Int) : IntKind.u64.wrap n = n % 2 ^ 64 := by
  unfold IntKind.wrap
  simp [IntKind.bits, IntKind.signed]
theorem wu8_eq (n : Int) : IntKind.u8.wrap n = n % 256 := by
  unfold IntKind.wrap
  simp [IntKind.bits, IntKind.signed]
/-- A number fits into 64 bits. -/
def in64 (n : Int) : Prop := -9223372036854775808 ≤ n ∧ n ≤ 9223372036854775807
theorem wf64 {n : Int} (h : (Lit.int .i64 n).wf = true) : in64 n := by
  simp [Lit.wf, IntKind.min, IntKind.max, IntKind.signed, IntKind.bits] at h
  exact h
theorem w64_id {n : Int} (h : in64 n) : w64 n = n := by
  unfold in64 at h
  rw [w64_eq]
  apply Int.bmod_eq_of_le <;> omega
theorem wrap_id {n : Int} (h1 : -9223372036854775808 ≤ n) (h2 : n ≤ 9223372036854775807) : IntKind.i64.wrap n = n := w64_id ⟨h1, h2⟩
theorem w64_in (n : Int) : in64 (w64 n) := by
  unfold in64
  rw [w64_eq]
  have h1 := @Int.le_bmod n (2 ^ 64) (by decide)
  have h2 := @Int.bmod_lt n (2 ^ 64) (by decide)
  omega

theorem drop_get {α : Type} {l : List α} {i : Nat} {d : α} (h : i < l.length) : l.drop i = l.getD i d :: l.drop (i + 1) := by
  rw [List.drop_eq_getElem_cons h]; simp [List.getD, List.getElem?_eq_getElem h]
end Go.Aw
namespace Go.Aw
set_option linter.unusedVariables false

/-! ### Bytes and texts -/
theorem ba_append (a b : Array UInt8) : (ByteArray.mk a ++ ByteArray.mk b) = ByteArray.mk (a ++ b) := by
  apply ByteArray.ext
  simp
theorem bytesOf_append (a b : List Int) : bytesOf (a ++ b) = bytesOf a ++ bytesOf b := by
  unfold bytesOf
  rw [ba_append]
  simp
theorem size_append (a b : ByteArray) : (a ++ b).size = a.size + b.size := by simp
theorem bytesOf_size (l : List Int) : (bytesOf l).size = l.length := by
  unfold bytesOf
  simp [ByteArray.size]
theorem bytesOf_ofBytes (s : ByteArray) : bytesOf (ofBytes s) = s := by
  unfold bytesOf ofBytes
  apply ByteArray.ext
  simp [List.map_map]
  apply Array.ext'
  simp
  apply List.ext_getElem
  · simp
  · intro i h1 h2
    simp
theorem ofBytes_length (s : ByteArray) : (ofBytes s).length = s.size := by
  unfold ofBytes
  rw [List.length_map, Array.length_toList]; rfl
theorem beqS_self (a : ByteArray) : beqS a a = true := (beqS_iff a a).2 rfl

/-- A byte, as a number. -/
def isB (x : Int) : Prop := 0 ≤ x ∧ x < 256
theorem ofBytes_bytesOf {l : List Int} (h : ∀ x ∈ l, isB x) : ofBytes (bytesOf l) = l := by
  unfold ofBytes bytesOf
  simp only [List.map_map]
  conv => rhs; rw [← List.map_id l]
  apply List.map_congr_left
  intro x hx
  obtain ⟨h1, h2⟩ := h x hx
  simp
  omega
theorem ofBytes_isB (s : ByteArray) : ∀ x ∈ ofBytes s, isB x := by
  intro x hx
  unfold ofBytes at hx
  obtain ⟨b, _, rfl⟩ := List.mem_map.1 hx
  have := b.toNat_lt
  exact ⟨by omega, by omega⟩
theorem byteAt_eq (s : ByteArray) (i : Nat) : byteAt s i = (ofBytes s).getD i 0 := by
  unfold byteAt ofBytes
  simp only [Int.toNat_natCast, List.getD, List.getElem?_map, Array.getElem?_toList, Array.getD_eq_getD_getElem?]
  cases s.data[i]? <;> simp
theorem ofBytes_append (a b : ByteArray) : ofBytes (a ++ b) = ofBytes a ++ ofBytes b := by
  unfold ofBytes
  simp
theorem ofBytes_extract (s : ByteArray) (i j : Nat) : ofBytes (s.extract i j) = ((ofBytes s).take j).drop i := by
  unfold ofBytes
  rw [ByteArray.data_extract, Array.toList_extract, List.extract_eq_take_drop, List.map_take, List.map_drop, List.drop_take]
theorem eq_of_ofBytes {a b : ByteArray} (h : ofBytes a = ofBytes b) : a = b := by rw [← bytesOf_ofBytes a, ← bytesOf_ofBytes b, h]
theorem getD_isB (s : ByteArray) (i : Nat) : isB ((ofBytes s).getD i 0) := by
  by_cases h : i < (ofBytes s).length
  · simp only [List.getD, List.getElem?_eq_getElem h, Option.getD_some]
    exact ofBytes_isB s _ (List.getElem_mem h)
  · simp only [List.getD, List.getElem?_eq_none (by omega : (ofBytes s).length ≤ i), Option.getD_none]
    exact ⟨by decide, by decide⟩

/-! ### Digits, the lowest first -/
def dl : Nat → Nat → List Int
  | 0, _ => []
  | f + 1, u => ((48 + u % 10 : Nat) : Int) :: if u / 10 = 0 then [] else dl f (u / 10)

theorem dl_succ (f u : Nat) : dl (f + 1) u = ((48 + u % 10 : Nat) : Int) :: if u / 10 = 0 then [] else dl f (u / 10) := rfl

/-- A row of digits' value, the highest first. -/
def val (l : List Int) : Nat := l.foldl (fun a d => 10 * a + (d - 48).toNat) 0
def isD (x : Int) : Prop := 48 ≤ x ∧ x ≤ 57
instance (x : Int) : Decidable (isD x) := inferInstanceAs (Decidable (_ ∧ _))

theorem val_snoc (l : List Int) (d : Int) : val (l ++ [d]) = 10 * val l + (d - 48).toNat := by simp [val]
theorem dl_isD : ∀ (f u : Nat), ∀ x ∈ dl f u, isD x
  | 0, u, x, h => by cases h
  | f + 1, u, x, h => by
    unfold dl at h
    rcases List.mem_cons.1 h with rfl | h
    · exact ⟨by omega, by omega⟩
    · split at h
      · cases h
      · exact dl_isD f _ x h
theorem dl_val : ∀ (f u : Nat), u < 10 ^ f → val (dl f u).reverse = u
  | 0, u, h => by simp at h; subst h; rfl
  | f + 1, u, h => by
    unfold dl
    rw [List.reverse_cons, val_snoc]
    have e : (((48 + u % 10 : Nat) : Int) - 48).toNat = u % 10 := by omega
    rw [e]
    split
    · rename_i hz
      have : val ([] : List Int).reverse = 0 := rfl
      rw [this]; omega
    · rw [dl_val f (u / 10) (by rw [Nat.pow_succ] at h; omega)]; omega
theorem dl_ne (f u : Nat) : dl (f + 1) u ≠ [] := by unfold dl; simp
theorem dl_len_pos (f u : Nat) : 0 < (dl (f + 1) u).length := List.length_pos_iff.2 (dl_ne f u)
theorem dl_len_le : ∀ (f u : Nat), (dl f u).length ≤ f
  | 0, _ => by simp [dl]
  | f + 1, u => by
    unfold dl
    split
    · simp
    · have := dl_len_le f (u / 10); simp; omega
/-- The highest digit is no nought, but of nought alone. -/
theorem dl_top : ∀ (f u : Nat), u < 10 ^ f → (dl f u).getLast? = some 48 → u = 0
  | 0, u, h, _ => by simp at h; exact h
  | f + 1, u, h, h2 => by
    unfold dl at h2
    split at h2
    · rename_i hz
      simp at h2
      omega
    · rename_i hz
      have h3 : u / 10 < 10 ^ f := by rw [Nat.pow_succ] at h; omega
      cases hd : dl f (u / 10) with
      | nil =>
        cases f with
        | zero => simp at h3; omega
        | succ f => exact absurd hd (dl_ne f _)
      | cons x r =>
        rw [hd] at h2
        have h4 : (x :: r).getLast? = some 48 := by simpa [List.getLast?_cons_cons] using h2
        rw [← hd] at h4
        have := dl_top f (u / 10) h3 h4
        omega
/-- Digits without a nought ahead are those of their value. -/
theorem dl_of_val : ∀ (l : List Int) (f : Nat), l.length ≤ f → (∀ x ∈ l, isD x) → l ≠ [] → (l.head? = some 48 → l = [48]) → val l < 10 ^ f ∧ dl f (val l) = l.reverse := by
  intro l
  induction h : l.length using Nat.strongRecOn generalizing l with
  | ind n ih =>
    intro f hf hd hne hz
    subst h
    obtain ⟨m, d, rfl⟩ : ∃ m d, l = m ++ [d] := ⟨l.dropLast, l.getLast hne, (List.dropLast_concat_getLast hne).symm⟩
    have hdd : isD d := hd d (by simp)
    obtain ⟨hd1, hd2⟩ := hdd
    rw [val_snoc]
    cases f with
    | zero => simp at hf
    | succ f =>
      by_cases hm : m = []
      · subst hm
        have e0 : val ([] : List Int) = 0 := rfl
        rw [e0]
        refine ⟨?_, ?_⟩
        · have : 1 ≤ 10 ^ f := Nat.one_le_pow _ _ (by decide)
          rw [Nat.pow_succ]; omega
        · unfold dl
          rw [if_pos (by omega)]
          simp
          omega
      · have hlen : m.length ≤ f := by simp at hf; omega
        have hz' : m.head? = some 48 → m = [48] := by
          intro h1
          have : (m ++ [d]).head? = some 48 := by
            cases m with
            | nil => exact absurd rfl hm
            | cons x r => simpa using h1
          have := hz this
          cases m with
          | nil => exact absurd rfl hm
          | cons x r => simp at this
        obtain ⟨h1, h2⟩ := ih m.length (by simp) m rfl f hlen (fun x hx => hd x (by simp [hx])) hm hz'
        have hpos : 0 < val m := by
          rcases Nat.eq_zero_or_pos (val m) with h0 | h0
          · exfalso
            have hh : m.head? = some 48 := by
              rw [h0] at h2
              cases f with
              | zero => simp at hlen; exact absurd hlen hm
              | succ f =>
                have : dl (f + 1) 0 = [48] := by unfold dl; simp
                rw [this] at h2
                have : m = [48] := by
                  have := congrArg List.reverse h2
                  simpa using this.symm
                subst this; rfl
            have : (m ++ [d]).head? = some 48 := by
              cases m with
              | nil => exact absurd rfl hm
              | cons x r => simpa using hh
            have := hz this
            cases m with
            | nil => exact absurd rfl hm
            | cons x r => simp at this
          · exact h0
        have e1 : (10 * val m + (d - 48).toNat) / 10 = val m := by omega
        have e2 : (10 * val m + (d - 48).toNat) % 10 = (d - 48).toNat := by omega
        refine ⟨by rw [Nat.pow_succ]; omega, ?_⟩
        unfold dl
        rw [e1, e2, if_neg (by omega), h2, List.reverse_append]
        simp
        omega

/-- How many digits stand ahead. -/
def run : List Int → Nat
  | [] => 0
  | x :: r => if isD x then run r + 1 else 0
theorem run_le : ∀ (l : List Int), run l ≤ l.length
  | [] => Nat.le_refl _
  | x :: r => by unfold run; split <;> simp; have := run_le r; omega
theorem run_isD : ∀ (l : List Int), ∀ x ∈ l.take (run l), isD x
  | [], x, h => by simp [run] at h
  | y :: r, x, h => by
    unfold run at h
    split at h
    · rename_i hy
      rcases List.mem_cons.1 (by simpa using h) with rfl | h
      · exact hy
      · exact run_isD r x h
    · simp at h
theorem run_app : ∀ (l m : List Int), (∀ x ∈ l, isD x) → (∀ x, m.head? = some x → ¬ isD x) → run (l ++ m) = l.length
  | [], [], _, _ => rfl
  | [], y :: m, _, h => by simp [run, h y rfl]
  | x :: l, m, h, h2 => by
    simp only [List.cons_append, run, List.length_cons]
    rw [if_pos (h x (by simp)), run_app l m (fun y hy => h y (by simp [hy])) h2]
/-- One more digit. -/
theorem run_step {l : List Int} {i j : Nat} (h : run (l.drop i) = j) (hj : i + j < l.length) : ¬ isD (l.getD (i + j) 0) := by
  induction j generalizing i with
  | zero =>
    rw [drop_get (d := 0) (by omega)] at h
    unfold run at h
    split at h
    · omega
    · rename_i hn; simpa using hn
  | succ j ih =>
    have hi : i < l.length := by omega
    rw [drop_get (d := 0) hi] at h
    unfold run at h
    split at h
    · have := ih (i := i + 1) (by omega) (by omega)
      rwa [show i + 1 + j = i + (j + 1) by omega] at this
    · omega
theorem runIn {l : List Int} {i j : Nat} (hj : j < run (l.drop i)) : isD (l.getD (i + j) 0) := by
  have h := run_isD (l.drop i) ((l.drop i).getD j 0) (by
    have h1 := run_le (l.drop i)
    have h2 : j < (l.drop i).length := by omega
    have e : (l.drop i).getD j 0 = (l.drop i)[j] := by simp [List.getD, List.getElem?_eq_getElem h2]
    rw [e]
    exact List.mem_take_iff_getElem.2 ⟨j, by omega, rfl⟩)
  simpa [List.getD, List.getElem?_drop] using h

theorem drop_set_self {α : Type} {l : List α} {a : Nat} {x : α} (h : a < l.length) : (l.set a x).drop a = x :: l.drop (a + 1) := by
  rw [List.drop_set, if_neg (Nat.lt_irrefl _), Nat.sub_self, List.drop_eq_getElem_cons h]
  rfl
theorem tmod10 (m : Int) : Int.tmod m 10 = if m < 0 then -((m.natAbs % 10 : Nat) : Int) else ((m.natAbs % 10 : Nat) : Int) := by
  split
  · have : m = -(m.natAbs : Int) := by omega
    rw [this, Int.neg_tmod, Int.natAbs_neg, Int.natAbs_natCast]; norm_cast
  · have : m = (m.natAbs : Int) := by omega
    rw [this, Int.natAbs_natCast]; norm_cast
theorem tdiv10 (m : Int) : Int.tdiv m 10 = if m < 0 then -((m.natAbs / 10 : Nat) : Int) else ((m.natAbs / 10 : Nat) : Int) := by
  split
  · have : m = -(m.natAbs : Int) := by omega
    rw [this, Int.neg_tdiv, Int.natAbs_neg, Int.natAbs_natCast]; norm_cast
  · have : m = (m.natAbs : Int) := by omega
    rw [this, Int.natAbs_natCast]; norm_cast

theorem val_le_foldl : ∀ (m : List Int) (a : Nat), a ≤ m.foldl (fun a d => 10 * a + (d - 48).toNat) a
  | [], a => Nat.le_refl _
  | d :: m, a => by
    simp only [List.foldl_cons]
    exact Nat.le_trans (by omega) (val_le_foldl m _)
theorem val_take (l : List Int) (i : Nat) : val (l.take i) ≤ val l := by
  conv => rhs; rw [← List.take_append_drop i l]
  unfold val
  rw [List.foldl_append]
  exact val_le_foldl _ _
theorem val_take_succ {l : List Int} {i : Nat} (h : i < l.length) : val (l.take (i + 1)) = 10 * val (l.take i) + (l.getD i 0 - 48).toNat := by
  have : l.take (i + 1) = l.take i ++ [l.getD i 0] := by
    rw [List.take_succ_eq_append_getElem h]; simp [List.getD, List.getElem?_eq_getElem h]
  rw [this, val_snoc]

/-- What stands at a place, as a number: the number, where it ends, and what is wrong. -/
def scanI (l : List Int) (at_ : Int) : Int × Int × Int :=
  if at_ < 0 ∨ at_ > (l.length : Int) then (0, 0, 1) else
  let minus := decide (at_.toNat < l.length) && (l.getD at_.toNat 0 == 45)
  let fr := at_.toNat + minus.toNat
  let r := run (l.drop fr)
  if r = 0 ∨ (l.getD fr 0 = 48 ∧ (1 < r ∨ minus = true)) then (0, 0, 12) else
  let v := val ((l.drop fr).take r)
  if v > 2 ^ 63 ∨ (v = 2 ^ 63 ∧ minus = false) then (0, 0, 2) else (if minus = true then -(v : Int) else v, ((fr + r : Nat) : Int), 0)
def getI (l : List Int) : Int × Int := if (scanI l 0).2.2 ≠ 0 then (0, (scanI l 0).2.2) else if (scanI l 0).2.1 < (l.length : Int) then (0, 12) else ((scanI l 0).1, 0)
end Go.Aw
namespace Go.Proofs.Yu
open Go Go.Proofs Go.Shelf
set_option linter.unusedVariables false
set_option maxRecDepth 100000
def ren : Go.Shelf.Ren := ⟨fun | 138 => 83 | 143 => 95 | 156 => 81 | 165 => 91 | 166 => 75 | 167 => 64 | 169 => 67 | 195 => 93 | 217 => 100 | 218 => 94 | 219 => 98 | 224 => 102 | 225 => 101 | 240 => 85 | 241 => 97 | 266 => 104 | 267 => 103 | 276 => 96 | 277 => 99 | 314 => 105 | _ => 0, fun | 0 => 0 | 3 => 3 | 4 => 4 | 5 => 5 | 9 => 9 | 20 => 20 | 31 => 64 | 37 => 79 | 46 => 88 | 51 => 130 | 70 => 78 | 72 => 81 | 75 => 83 | 76 => 98 | 80 => 89 | 127 => 117 | 146 => 131 | 164 => 125 | _ => 0, fun | 1 => 0 | _ => 0⟩
theorem lays167 : Lays.n167 Try.prog ren where
  mixed := by kernel_rfl
  f167 := by kernel_rfl
  f240 := by kernel_rfl
  f276 := by kernel_rfl
  t0 := Try.underlying0
  a0 := Try.isAgg0
  z0 := Try.sizeOf0
  v0 := Try.zeroValue0
  t4 := Try.underlying4
  a4 := Try.isAgg4
  z4 := Try.sizeOf4
  v4 := Try.zeroValue4
  t5 := Try.underlying5
  a5 := Try.isAgg5
  z5 := Try.sizeOf5
  v5 := Try.zeroValue5
  t9 := Try.underlying9
  a9 := Try.isAgg9
  z9 := Try.sizeOf9
  v9 := Try.zeroValue9
  t20 := Try.underlying20
  a20 := Try.isAgg20
  z20 := Try.sizeOf20
  v20 := Try.zeroValue20
  t37 := Try.underlying79
  a37 := Try.isAgg79
  z37 := Try.sizeOf79
  v37 := Try.zeroValue79
  t70 := Try.underlying78
  a70 := Try.isAgg78
  z70 := Try.sizeOf78
  v70 := Try.zeroValue78
  t72 := Try.underlying81
  a72 := Try.isAgg81
  z72 := Try.sizeOf81
  v72 := Try.zeroValue81
  t75 := Try.underlying83
  a75 := Try.isAgg83
  z75 := Try.sizeOf83
  v75 := Try.zeroValue83
  t164 := Try.underlying125
  a164 := Try.isAgg125
  z164 := Try.sizeOf125
  v164 := Try.zeroValue125
theorem lays166 : Lays.n166 Try.prog ren where
  mixed := by kernel_rfl
  f166 := by kernel_rfl
  f240 := by kernel_rfl
  f276 := by kernel_rfl
  t0 := Try.underlying0
  a0 := Try.isAgg0
  z0 := Try.sizeOf0
  v0 := Try.zeroValue0
  t3 := Try.underlying3
  a3 := Try.isAgg3
  z3 := Try.sizeOf3
  v3 := Try.zeroValue3
  t4 := Try.underlying4
  a4 := Try.isAgg4
  z4 := Try.sizeOf4
  v4 := Try.zeroValue4
  t9 := Try.underlying9
  a9 := Try.isAgg9
  z9 := Try.sizeOf9
  v9 := Try.zeroValue9
  t20 := Try.underlying20
  a20 := Try.isAgg20
  z20 := Try.sizeOf20
  v20 := Try.zeroValue20
  t37 := Try.underlying79
  a37 := Try.isAgg79
  z37 := Try.sizeOf79
  v37 := Try.zeroValue79
  t70 := Try.underlying78
  a70 := Try.isAgg78
  z70 := Try.sizeOf78
  v70 := Try.zeroValue78
  t72 := Try.underlying81
  a72 := Try.isAgg81
  z72 := Try.sizeOf81
  v72 := Try.zeroValue81
  t75 := Try.underlying83
  a75 := Try.isAgg83
  z75 := Try.sizeOf83
  v75 := Try.zeroValue83
  t164 := Try.underlying125
  a164 := Try.isAgg125
  z164 := Try.sizeOf125
  v164 := Try.zeroValue125
theorem lays169 : Lays.n169 Try.prog ren where
  mixed := by kernel_rfl
  f169 := by kernel_rfl
  t0 := Try.underlying0
  a0 := Try.isAgg0
  z0 := Try.sizeOf0
  v0 := Try.zeroValue0
  t3 := Try.underlying3
  a3 := Try.isAgg3
  z3 := Try.sizeOf3
  v3 := Try.zeroValue3
  t9 := Try.underlying9
  a9 := Try.isAgg9
  z9 := Try.sizeOf9
  v9 := Try.zeroValue9
  t37 := Try.underlying79
  a37 := Try.isAgg79
  z37 := Try.sizeOf79
  v37 := Try.zeroValue79
  t70 := Try.underlying78
  a70 := Try.isAgg78
  z70 := Try.sizeOf78
  v70 := Try.zeroValue78
  t72 := Try.underlying81
  a72 := Try.isAgg81
  z72 := Try.sizeOf81
  v72 := Try.zeroValue81
  t127 := Try.underlying117
  a127 := Try.isAgg117
  z127 := Try.sizeOf117
  v127 := Try.zeroValue117
theorem lays240 : Lays.n240 Try.prog ren where
  mixed := by kernel_rfl
  f240 := by kernel_rfl
  f276 := by kernel_rfl
  t0 := Try.underlying0
  a0 := Try.isAgg0
  z0 := Try.sizeOf0
  v0 := Try.zeroValue0
  t4 := Try.underlying4
  a4 := Try.isAgg4
  z4 := Try.sizeOf4
  v4 := Try.zeroValue4
  t9 := Try.underlying9
  a9 := Try.isAgg9
  z9 := Try.sizeOf9
  v9 := Try.zeroValue9
  t20 := Try.underlying20
  a20 := Try.isAgg20
  z20 := Try.sizeOf20
  v20 := Try.zeroValue20
  t70 := Try.underlying78
  a70 := Try.isAgg78
  z70 := Try.sizeOf78
  v70 := Try.zeroValue78
  t72 := Try.underlying81
  a72 := Try.isAgg81
  z72 := Try.sizeOf81
  v72 := Try.zeroValue81
  t164 := Try.underlying125
  a164 := Try.isAgg125
  z164 := Try.sizeOf125
  v164 := Try.zeroValue125
theorem lays156 : Lays.n156 Try.prog ren where
  mixed := by kernel_rfl
  f156 := by kernel_rfl
  f165 := by kernel_rfl
  f166 := by kernel_rfl
  f169 := by kernel_rfl
  f240 := by kernel_rfl
  f241 := by kernel_rfl
  f276 := by kernel_rfl
  f277 := by kernel_rfl
  t0 := Try.underlying0
  a0 := Try.isAgg0
  z0 := Try.sizeOf0
  v0 := Try.zeroValue0
  t3 := Try.underlying3
  a3 := Try.isAgg3
  z3 := Try.sizeOf3
  v3 := Try.zeroValue3
  t4 := Try.underlying4
  a4 := Try.isAgg4
  z4 := Try.sizeOf4
  v4 := Try.zeroValue4
  t9 := Try.underlying9
  a9 := Try.isAgg9
  z9 := Try.sizeOf9
  v9 := Try.zeroValue9
  t20 := Try.underlying20
  a20 := Try.isAgg20
  z20 := Try.sizeOf20
  v20 := Try.zeroValue20
  t31 := Try.underlying64
  a31 := Try.isAgg64
  z31 := Try.sizeOf64
  v31 := Try.zeroValue64
  t37 := Try.underlying79
  a37 := Try.isAgg79
  z37 := Try.sizeOf79
  v37 := Try.zeroValue79
  t70 := Try.underlying78
  a70 := Try.isAgg78
  z70 := Try.sizeOf78
  v70 := Try.zeroValue78
  t72 := Try.underlying81
  a72 := Try.isAgg81
  z72 := Try.sizeOf81
  v72 := Try.zeroValue81
  t75 := Try.underlying83
  a75 := Try.isAgg83
  z75 := Try.sizeOf83
  v75 := Try.zeroValue83
  t76 := Try.underlying98
  a76 := Try.isAgg98
  z76 := Try.sizeOf98
  v76 := Try.zeroValue98
  t127 := Try.underlying117
  a127 := Try.isAgg117
  z127 := Try.sizeOf117
  v127 := Try.zeroValue117
  t164 := Try.underlying125
  a164 := Try.isAgg125
  z164 := Try.sizeOf125
  v164 := Try.zeroValue125
theorem lays138 : Lays.n138 Try.prog ren where
  mixed := by kernel_rfl
  f138 := by kernel_rfl
  f143 := by kernel_rfl
  f195 := by kernel_rfl
  f217 := by kernel_rfl
  f218 := by kernel_rfl
  f219 := by kernel_rfl
  f224 := by kernel_rfl
  f225 := by kernel_rfl
  f266 := by kernel_rfl
  f267 := by kernel_rfl
  f314 := by kernel_rfl
  t0 := Try.underlying0
  a0 := Try.isAgg0
  z0 := Try.sizeOf0
  v0 := Try.zeroValue0
  t3 := Try.underlying3
  a3 := Try.isAgg3
  z3 := Try.sizeOf3
  v3 := Try.zeroValue3
  t4 := Try.underlying4
  a4 := Try.isAgg4
  z4 := Try.sizeOf4
  v4 := Try.zeroValue4
  t5 := Try.underlying5
  a5 := Try.isAgg5
  z5 := Try.sizeOf5
  v5 := Try.zeroValue5
  t9 := Try.underlying9
  a9 := Try.isAgg9
  z9 := Try.sizeOf9
  v9 := Try.zeroValue9
  t46 := Try.underlying88
  a46 := Try.isAgg88
  z46 := Try.sizeOf88
  v46 := Try.zeroValue88
  t51 := Try.underlying130
  a51 := Try.isAgg130
  z51 := Try.sizeOf130
  v51 := Try.zeroValue130
  t146 := Try.underlying131
  a146 := Try.isAgg131
  z146 := Try.sizeOf131
  v146 := Try.zeroValue131
  g1 := by kernel_rfl
theorem lays219 : Lays.n219 Try.prog ren where
  mixed := by kernel_rfl
  f217 := by kernel_rfl
  f219 := by kernel_rfl
  f224 := by kernel_rfl
  f225 := by kernel_rfl
  f266 := by kernel_rfl
  f267 := by kernel_rfl
  f314 := by kernel_rfl
  t3 := Try.underlying3
  a3 := Try.isAgg3
  z3 := Try.sizeOf3
  v3 := Try.zeroValue3
  t4 := Try.underlying4
  a4 := Try.isAgg4
  z4 := Try.sizeOf4
  v4 := Try.zeroValue4
  t5 := Try.underlying5
  a5 := Try.isAgg5
  z5 := Try.sizeOf5
  v5 := Try.zeroValue5
  t9 := Try.underlying9
  a9 := Try.isAgg9
  z9 := Try.sizeOf9
  v9 := Try.zeroValue9
  t46 := Try.underlying88
  a46 := Try.isAgg88
  z46 := Try.sizeOf88
  v46 := Try.zeroValue88
  t51 := Try.underlying130
  a51 := Try.isAgg130
  z51 := Try.sizeOf130
  v51 := Try.zeroValue130
  t146 := Try.underlying131
  a146 := Try.isAgg131
  z146 := Try.sizeOf131
  v146 := Try.zeroValue131
  g1 := by kernel_rfl
theorem extra : Builder.Extra Try.prog ren where
  sizeBuilder := by kernel_rfl
  liesBuilder := by kernel_rfl
  t5 := Try.underlying5
  a5 := Try.isAgg5
  z5 := Try.sizeOf5
  v5 := Try.zeroValue5
  infoByte := by kernel_rfl
  cellsByte := by kernel_rfl
  sizeByte := by kernel_rfl
  neB5 := by decide
def bldTys : List TypeId := [81, 118, 119]
theorem bldX : ∀ T ∈ bldTys, Go.Aw.BldX Try.prog ren T := by
  intro T h
  simp only [bldTys, List.mem_cons, List.not_mem_nil, or_false] at h
  rcases h with rfl | rfl | rfl
  · exact ⟨by kernel_rfl, by kernel_rfl⟩
  · exact ⟨by kernel_rfl, by kernel_rfl⟩
  · exact ⟨by kernel_rfl, by kernel_rfl⟩
namespace N64
noncomputable def ent : Go.Aw.Entry := Go.Aw.wbEnt bldTys 5
theorem ok : Go.Aw.EntOk Try.prog 0 0 64 ent := Go.Aw.wb_ok lays167 extra bldX rfl rfl
end N64
namespace N75
noncomputable def ent : Go.Aw.Entry := Go.Aw.wsEnt bldTys 5
theorem ok : Go.Aw.EntOk Try.prog 0 0 75 ent := Go.Aw.ws_ok lays166 extra bldX rfl rfl
end N75
namespace N67
noncomputable def ent : Go.Aw.Entry := Go.Aw.bsEnt bldTys 5
theorem ok : Go.Aw.EntOk Try.prog 0 0 67 ent := Go.Aw.bs_ok lays169 extra rfl rfl
end N67
namespace N81
noncomputable def ent : Go.Aw.Entry := Go.Aw.jnEnt
theorem ok : Go.Aw.EntOk Try.prog 0 0 81 ent := Go.Aw.jn_ok lays156 extra rfl
end N81
namespace N83
noncomputable def ent : Go.Aw.Entry := Go.Aw.ctEnt
theorem ok : Go.Aw.EntOk Try.prog 0 0 83 ent := Go.Aw.ct_ok lays138 rfl
end N83
namespace N98
noncomputable def ent : Go.Aw.Entry := Go.Aw.ixEnt
theorem ok : Go.Aw.EntOk Try.prog 0 0 98 ent := Go.Aw.ix_ok lays219 rfl
end N98
end Go.Proofs.Yu
namespace Go.Proofs.Yu
open Go.Aw Go.Proofs
set_option linter.unusedVariables false
set_option linter.unusedSimpArgs false
set_option maxRecDepth 100000
def tyL : List (Nat × Ty) := [(3, (Ty.int IntKind.i64)), (5, (Ty.int IntKind.u8)), (28, (Ty.pair (Ty.int IntKind.i64) (Ty.pair (Ty.int IntKind.i64) (Ty.int IntKind.i64)))), (9, Ty.str), (61, (Ty.pair Ty.str (Ty.list (Ty.int IntKind.i64))))]
def tys : Nat → Option Ty := tab tyL
theorem mixed_ok : Try.prog.follows .mixedOrders = true := by kernel_rfl
theorem tyL_ok : tyL.all (tyRight Try.prog) = true := by kernel_rfl
end Go.Proofs.Yu
namespace Go.Proofs.Yu
open Go Go.Aw Go.Proofs
set_option linter.unusedVariables false
set_option linter.unusedSimpArgs false
set_option maxRecDepth 100000
/-! dyehouse/quote.plain -/
namespace N65
noncomputable def cfg : Cfg := { P := Try.prog, ty := tys, E := tab [], atSeq := tab [], atLoop := tab [], outs := [], eqT := tab [], bT := tab [] }
noncomputable def body : Code := bodyOf Try.f65
def c (x0 : Int) (k : Bool → Prop) : Prop :=
  (br (decide (x0 ≥ (32 : Int))) (br (decide (x0 ≤ (126 : Int))) (br (x0 != (34 : Int)) (k (x0 != (92 : Int))) (k false)) (k false)) (k false))
def f0 (x0 : Int) (k : Bool → Prop) : Prop := c x0 k
theorem f_ex : ∃ g : Int → (Bool → Prop) → Prop, g = f0 := ⟨_, rfl⟩
noncomputable def f : Int → (Bool → Prop) → Prop := Classical.choose f_ex
theorem f_def : f = f0 := Classical.choose_spec f_ex
noncomputable def JJ (k kp : D → List Blk → Prop) : Nat → St → Prop := pick none' []
noncomputable def LL (k kp : D → List Blk → Prop) : Nat → St → Prop := pick none' []
theorem c_c (k kp : D → List Blk → Prop) (J L : Nat → St → Prop) (x0 : Int) : runC cfg 1000001 J L none'' [] body (topK cfg Try.f65 k kp) (st0 Try.f65 [(.v (.int IntKind.u8 x0))] []) = c x0 (fun y0 => k (.v (.bool y0)) []) := by kernel_rfl
theorem c_ag (k kp : D → List Blk → Prop) : agPL cfg 1000001 (JJ k kp) (LL k kp) [] body = agPR cfg 1000001 none'' [] body (topK cfg Try.f65 k kp) := by kernel_rfl
theorem body_is : Try.f65.body = some body := by kernel_rfl
theorem c_raw (k kp : D → List Blk → Prop) (x0 : Int) : funW cfg Try.f65 [(.v (.int IntKind.u8 x0))] [] k kp = c x0 (fun y0 => k (.v (.bool y0)) []) :=
  Eq.mp (by kernel_rfl) ((funW_run (AG := none'') body_is (c_ag k kp) [(.v (.int IntKind.u8 x0))] []).trans (c_c k kp (JJ k kp) (LL k kp) x0))
theorem f_eq (k kp : D → List Blk → Prop) (x0 : Int) : funW cfg Try.f65 [(.v (.int IntKind.u8 x0))] [] k kp = f x0 (fun y0 => k (.v (.bool y0)) []) := by
  rw [f_def, c_raw]; rfl
noncomputable def ent0 : Entry := fun args blks k _ => match args, blks with
  | [d0], [] => aInt IntKind.u8 d0 fun x0 => f x0 (fun y0 => k (.v (.bool y0)) [])
  | _, _ => False
noncomputable def ent : Entry := fun args blks k kp => ent0 (convB [.no] args) blks k kp
theorem ok : EntOk Try.prog 0 0 65 ent := by
  refine EntOk.convB (EntOk.of (funW_ok (cfg := cfg) (tyOk_of rfl rfl tyL_ok) (eqOk_of (P := Try.prog) rfl rfl (by kernel_rfl)) mixed_ok (tab_ok ?_) Try.func65 (by rfl) (by rfl)) ?_) _
  · intro p hp
    cases hp
  · intro args blks k kp h k' kp'
    match args, blks, h with
    | [d0], [], h =>
    dsimp only [ent0] at h
    have h9 := aInt_elim h; clear h; obtain ⟨x0, rfl, h⟩ := h9
    exact (f_eq k' kp' x0).symm
end N65
end Go.Proofs.Yu
namespace Go.Proofs.Yu
open Go Go.Aw Go.Proofs
set_option linter.unusedVariables false
set_option linter.unusedSimpArgs false
set_option maxRecDepth 100000
/-! dyehouse/quote.letter -/
namespace N66
noncomputable def cfg : Cfg := { P := Try.prog, ty := tys, E := tab [], atSeq := tab [(2000008, ⟨[(0, .keep), (9, .keep)]⟩), (9, ⟨[]⟩)], atLoop := tab [], outs := [], eqT := tab [], bT := tab [] }
noncomputable def body : Code := bodyOf Try.f66
def j2000008 (j9 : Prop) (x0 : Int) (x9 : Bool) (k : Int → Bool → Prop) : Prop :=
  (br x9 (k x0 true) (j9))
def j9 (k : Int → Bool → Prop) : Prop :=
  (k (0 : Int) false)
def c (j2000008 : Int → Bool → Prop) (x0 : Int) (k : Int → Bool → Prop) : Prop :=
  (br (x0 == (10 : Int)) (k (110 : Int) true) (br (x0 == (9 : Int)) (k (116 : Int) true) (br (x0 == (34 : Int)) (j2000008 x0 (x0 == (34 : Int))) (j2000008 x0 (x0 == (92 : Int))))))
def j9' (k : Int → Bool → Prop) : Prop := j9 k
def j2000008' (x0 : Int) (x9 : Bool) (k : Int → Bool → Prop) : Prop := j2000008 (j9' k) x0 x9 k
def f0 (x0 : Int) (k : Int → Bool → Prop) : Prop := c (fun x0 x9 => j2000008' x0 x9 k) x0 k
theorem f_ex : ∃ g : Int → (Int → Bool → Prop) → Prop, g = f0 := ⟨_, rfl⟩
noncomputable def f : Int → (Int → Bool → Prop) → Prop := Classical.choose f_ex
theorem f_def : f = f0 := Classical.choose_spec f_ex
def m2000008 (x0 : Int) (x9 : Bool) : St := { tmps := mkT 13 0 [(0, (.v (.int IntKind.u8 x0))), (9, (.v (.bool x9)))], hp := [], m := 0 }
def m9 : St := { tmps := mkT 13 0 [], hp := [], m := 0 }
noncomputable def X2000008 (k kp : D → List Blk → Prop) : St → Prop := atP cfg (pick none' []) [1, 0, 1, 0, 1, 1, 1, 1, 1] body (topK cfg Try.f66 k kp)
noncomputable def X9 (k kp : D → List Blk → Prop) : St → Prop := atP cfg (pick none' []) [1, 1] body (topK cfg Try.f66 k kp)
noncomputable def JJ (k kp : D → List Blk → Prop) : Nat → St → Prop := pick none' [(2000008, X2000008 k kp), (9, X9 k kp)]
noncomputable def LL (k kp : D → List Blk → Prop) : Nat → St → Prop := pick none' []
theorem j9_c (k kp : D → List Blk → Prop) (J L : Nat → St → Prop) : runC cfg 9 J L (pick none' []) [1, 1] body (topK cfg Try.f66 k kp) (m9) = j9 (fun y0 y1 => k (.tup [(.v (.int IntKind.u8 y0)), (.v (.bool y1))]) []) := by kernel_rfl
theorem j9_ag (k kp : D → List Blk → Prop) : agPL cfg 9 (JJ k kp) (LL k kp) [1, 1] body = agPR cfg 9 (pick none' []) [1, 1] body (topK cfg Try.f66 k kp) := by kernel_rfl
theorem j9_raw (k kp : D → List Blk → Prop) : X9 k kp (m9) = j9 (fun y0 y1 => k (.tup [(.v (.int IntKind.u8 y0)), (.v (.bool y1))]) []) :=
  Eq.mp (by kernel_rfl) ((atP_run (j9_ag k kp) (m9)).trans (j9_c k kp (JJ k kp) (LL k kp)))
theorem j9_eq (k kp : D → List Blk → Prop) : X9 k kp (m9) = j9' (fun y0 y1 => k (.tup [(.v (.int IntKind.u8 y0)), (.v (.bool y1))]) []) := by
  rw [j9_raw]; rfl
theorem j2000008_c (k kp : D → List Blk → Prop) (J L : Nat → St → Prop) (x0 : Int) (x9 : Bool) : runC cfg 2000008 J L (pick none' []) [1, 0, 1, 0, 1, 1, 1, 1, 1] body (topK cfg Try.f66 k kp) (m2000008 x0 x9) = j2000008 (J 9 (m9)) x0 x9 (fun y0 y1 => k (.tup [(.v (.int IntKind.u8 y0)), (.v (.bool y1))]) []) := by kernel_rfl
theorem j2000008_ag (k kp : D → List Blk → Prop) : agPL cfg 2000008 (JJ k kp) (LL k kp) [1, 0, 1, 0, 1, 1, 1, 1, 1] body = agPR cfg 2000008 (pick none' []) [1, 0, 1, 0, 1, 1, 1, 1, 1] body (topK cfg Try.f66 k kp) := by kernel_rfl
theorem j2000008_raw (k kp : D → List Blk → Prop) (x0 : Int) (x9 : Bool) : X2000008 k kp (m2000008 x0 x9) = j2000008 (X9 k kp (m9)) x0 x9 (fun y0 y1 => k (.tup [(.v (.int IntKind.u8 y0)), (.v (.bool y1))]) []) :=
  Eq.mp (by kernel_rfl) ((atP_run (j2000008_ag k kp) (m2000008 x0 x9)).trans (j2000008_c k kp (JJ k kp) (LL k kp) x0 x9))
theorem j2000008_eq (k kp : D → List Blk → Prop) (x0 : Int) (x9 : Bool) : X2000008 k kp (m2000008 x0 x9) = j2000008' x0 x9 (fun y0 y1 => k (.tup [(.v (.int IntKind.u8 y0)), (.v (.bool y1))]) []) := by
  rw [j2000008_raw]; simp only [j9_eq]; first | done | rfl
theorem c_c (k kp : D → List Blk → Prop) (J L : Nat → St → Prop) (x0 : Int) : runC cfg 1000001 J L none'' [] body (topK cfg Try.f66 k kp) (st0 Try.f66 [(.v (.int IntKind.u8 x0))] []) = c (fun x0 x9 => J 2000008 (m2000008 x0 x9)) x0 (fun y0 y1 => k (.tup [(.v (.int IntKind.u8 y0)), (.v (.bool y1))]) []) := by kernel_rfl
theorem c_ag (k kp : D → List Blk → Prop) : agPL cfg 1000001 (JJ k kp) (LL k kp) [] body = agPR cfg 1000001 none'' [] body (topK cfg Try.f66 k kp) := by kernel_rfl
theorem body_is : Try.f66.body = some body := by kernel_rfl
theorem c_raw (k kp : D → List Blk → Prop) (x0 : Int) : funW cfg Try.f66 [(.v (.int IntKind.u8 x0))] [] k kp = c (fun x0 x9 => X2000008 k kp (m2000008 x0 x9)) x0 (fun y0 y1 => k (.tup [(.v (.int IntKind.u8 y0)), (.v (.bool y1))]) []) :=
  Eq.mp (by kernel_rfl) ((funW_run (AG := none'') body_is (c_ag k kp) [(.v (.int IntKind.u8 x0))] []).trans (c_c k kp (JJ k kp) (LL k kp) x0))
theorem f_eq (k kp : D → List Blk → Prop) (x0 : Int) : funW cfg Try.f66 [(.v (.int IntKind.u8 x0))] [] k kp = f x0 (fun y0 y1 => k (.tup [(.v (.int IntKind.u8 y0)), (.v (.bool y1))]) []) := by
  rw [f_def, c_raw]; simp only [j2000008_eq]; first | done | rfl
noncomputable def ent0 : Entry := fun args blks k _ => match args, blks with
  | [d0], [] => aInt IntKind.u8 d0 fun x0 => f x0 (fun y0 y1 => k (.tup [(.v (.int IntKind.u8 y0)), (.v (.bool y1))]) [])
  | _, _ => False
noncomputable def ent : Entry := fun args blks k kp => ent0 (convB [.no] args) blks k kp
theorem ok : EntOk Try.prog 0 0 66 ent := by
  refine EntOk.convB (EntOk.of (funW_ok (cfg := cfg) (tyOk_of rfl rfl tyL_ok) (eqOk_of (P := Try.prog) rfl rfl (by kernel_rfl)) mixed_ok (tab_ok ?_) Try.func66 (by rfl) (by rfl)) ?_) _
  · intro p hp
    cases hp
  · intro args blks k kp h k' kp'
    match args, blks, h with
    | [d0], [], h =>
    dsimp only [ent0] at h
    have h9 := aInt_elim h; clear h; obtain ⟨x0, rfl, h⟩ := h9
    exact (f_eq k' kp' x0).symm
end N66
end Go.Proofs.Yu
namespace Go.Proofs.Yu
open Go Go.Aw Go.Proofs
set_option linter.unusedVariables false
set_option linter.unusedSimpArgs false
set_option maxRecDepth 100000
/-! dyehouse/quote.Put -/
namespace N30
noncomputable def cfg : Cfg := { P := Try.prog, ty := tys, E := tab [(64, N64.ent), (65, N65.ent), (66, N66.ent), (67, N67.ent)], atSeq := tab [(16, ⟨[(0, .keep), (3, .keep), (10, .keep), (11, .keep)]⟩), (17, ⟨[(3, .keep)]⟩)], atLoop := tab [(4, ⟨[(0, .keep), (3, .keep), (10, .keep), (11, .keep)]⟩)], outs := [], eqT := tab [], bT := tab [(81, 5)] }
noncomputable def body : Code := bodyOf Try.f30
def l4 (j16 : ByteArray → Int → Int → ByteArray → Prop) (j17 : ByteArray → Prop) (x0 : ByteArray) (x10 : Int) (x11 : Int) (b0 : ByteArray) (k : ByteArray → Prop) : Prop :=
  (br (decide (x11 < x10)) ((inB 0 x11 ((((x0).size : Nat) : Int) - 1)) ∧ (N65.f (byteAt x0 x11) (fun (y0_1 : Bool) => (br y0_1 (wb (byteAt x0 x11) b0 (fun (z_2 : ByteArray) => (j16 x0 x10 x11 z_2))) (wb (92 : Int) b0 (fun (z_3 : ByteArray) => (N66.f (byteAt x0 x11) (fun (y0_4 : Int) (y1_4 : Bool) => (br y1_4 (wb y0_4 z_3 (fun (z_5 : ByteArray) => (j16 x0 x10 x11 z_5))) (wb (120 : Int) z_3 (fun (z_6 : ByteArray) => ((0 ≤ (4 : Int)) ∧ ((inB 0 (Int.fdiv (byteAt x0 x11) (2 ^ min (Int.toNat (4 : Int)) 8)) (((((ByteArray.mk #[48, 49, 50, 51, 52, 53, 54, 55, 56, 57, 97, 98, 99, 100, 101, 102])).size : Nat) : Int) - 1)) ∧ (wb (byteAt (ByteArray.mk #[48, 49, 50, 51, 52, 53, 54, 55, 56, 57, 97, 98, 99, 100, 101, 102]) (Int.fdiv (byteAt x0 x11) (2 ^ min (Int.toNat (4 : Int)) 8))) z_6 (fun (z_7 : ByteArray) => ((inB 0 (andI IntKind.u8 (byteAt x0 x11) (15 : Int)) (((((ByteArray.mk #[48, 49, 50, 51, 52, 53, 54, 55, 56, 57, 97, 98, 99, 100, 101, 102])).size : Nat) : Int) - 1)) ∧ (wb (byteAt (ByteArray.mk #[48, 49, 50, 51, 52, 53, 54, 55, 56, 57, 97, 98, 99, 100, 101, 102]) (andI IntKind.u8 (byteAt x0 x11) (15 : Int))) z_7 (fun (z_8 : ByteArray) => (j16 x0 x10 x11 z_8))))))))))))))))))) (j17 b0))
def j16 (ag4 : Int → ByteArray → Prop) (x0 : ByteArray) (x10 : Int) (x11 : Int) (b0 : ByteArray) (k : ByteArray → Prop) : Prop :=
  (ag4 (IntKind.i64.wrap (x11 + (1 : Int))) b0)
def j17 (b0 : ByteArray) (k : ByteArray → Prop) : Prop :=
  (wb (34 : Int) b0 (fun (z_9 : ByteArray) => (bs z_9 (fun (y_10 : ByteArray) => (k y_10)))))
def c (l4 : ByteArray → Int → Int → ByteArray → Prop) (x0 : ByteArray) (k : ByteArray → Prop) : Prop :=
  (wb (34 : Int) ByteArray.empty (fun (z_0 : ByteArray) => (l4 x0 ((((x0).size : Nat) : Int)) (0 : Int) z_0)))
def j16' (ag4 : Int → ByteArray → Prop) (x0 : ByteArray) (x10 : Int) (x11 : Int) (b0 : ByteArray) (k : ByteArray → Prop) : Prop := j16 ag4 x0 x10 x11 b0 k
def j17' (b0 : ByteArray) (k : ByteArray → Prop) : Prop := j17 b0 k
def l4' (x0 : ByteArray) (x10 : Int) (x11 : Int) (b0 : ByteArray) (k : ByteArray → Prop) : Prop := ∃ n, loopS (fun (ag : (Int × ByteArray) → Prop) (s : Int × ByteArray) => l4 (fun x0 x10 x11 b0 => j16' (fun x11 b0 => ag (x11, b0)) x0 x10 x11 b0 k) (fun b0 => j17' b0 k) x0 x10 s.1 s.2 k) n (x11, b0)
def f0 (x0 : ByteArray) (k : ByteArray → Prop) : Prop := c (fun x0 x10 x11 b0 => l4' x0 x10 x11 b0 k) x0 k
theorem f_ex : ∃ g : ByteArray → (ByteArray → Prop) → Prop, g = f0 := ⟨_, rfl⟩
noncomputable def f : ByteArray → (ByteArray → Prop) → Prop := Classical.choose f_ex
theorem f_def : f = f0 := Classical.choose_spec f_ex
def mL4 (x0 : ByteArray) (x10 : Int) (x11 : Int) (b0 : ByteArray) : St := { tmps := mkT 42 0 [(0, (.v (.string x0))), (3, (.ptr 0 0)), (10, (.v (.int IntKind.i64 x10))), (11, (.v (.int IntKind.i64 x11)))], hp := [(.bld 81 5 b0)], m := 0 }
def m16 (x0 : ByteArray) (x10 : Int) (x11 : Int) (b0 : ByteArray) : St := { tmps := mkT 42 0 [(0, (.v (.string x0))), (3, (.ptr 0 0)), (10, (.v (.int IntKind.i64 x10))), (11, (.v (.int IntKind.i64 x11)))], hp := [(.bld 81 5 b0)], m := 0 }
def m17 (b0 : ByteArray) : St := { tmps := mkT 42 0 [(3, (.ptr 0 0))], hp := [(.bld 81 5 b0)], m := 0 }
noncomputable def YL4 (k kp : D → List Blk → Prop) : (St → Prop) → St → Prop := loopB cfg (sub [1, 1, 1, 0, 1, 0, 0] body) (contK cfg (pick none' []) [1, 1, 1, 0, 1, 0] body (topK cfg Try.f30 k kp))
noncomputable def XL4 (k kp : D → List Blk → Prop) : St → Prop := fun st => ∃ n, loopN (YL4 k kp) n st
noncomputable def X16 (k kp : D → List Blk → Prop) (ag4 : St → Prop) : St → Prop := atP cfg (pick none' [(4, ag4)]) [1, 1, 1, 0, 1, 0, 0, 1, 1, 1] body (topK cfg Try.f30 k kp)
noncomputable def X17 (k kp : D → List Blk → Prop) : St → Prop := atP cfg (pick none' []) [1, 1, 1, 1] body (topK cfg Try.f30 k kp)
noncomputable def JJ_4 (k kp : D → List Blk → Prop) (ag4 : St → Prop) : Nat → St → Prop := pick none' [(16, X16 k kp ag4), (17, X17 k kp)]
noncomputable def LL_4 (k kp : D → List Blk → Prop) (ag4 : St → Prop) : Nat → St → Prop := pick none' [(4, XL4 k kp)]
noncomputable def JJ (k kp : D → List Blk → Prop) : Nat → St → Prop := pick none' [(17, X17 k kp)]
noncomputable def LL (k kp : D → List Blk → Prop) : Nat → St → Prop := pick none' [(4, XL4 k kp)]
theorem j16_c (k kp : D → List Blk → Prop) (J L : Nat → St → Prop) (ag4 : St → Prop) (x0 : ByteArray) (x10 : Int) (x11 : Int) (b0 : ByteArray) : runC cfg 16 J L (pick none' [(4, ag4)]) [1, 1, 1, 0, 1, 0, 0, 1, 1, 1] body (topK cfg Try.f30 k kp) (m16 x0 x10 x11 b0) = j16 (fun x11 b0 => ag4 (mL4 x0 x10 x11 b0)) x0 x10 x11 b0 (fun y0 => k (.v (.string y0)) []) := by kernel_rfl
theorem j16_ag (k kp : D → List Blk → Prop) (ag4 : St → Prop) : agPL cfg 16 (JJ_4 k kp ag4) (LL_4 k kp ag4) [1, 1, 1, 0, 1, 0, 0, 1, 1, 1] body = agPR cfg 16 (pick none' [(4, ag4)]) [1, 1, 1, 0, 1, 0, 0, 1, 1, 1] body (topK cfg Try.f30 k kp) := by kernel_rfl
theorem j16_raw (k kp : D → List Blk → Prop) (ag4 : St → Prop) (x0 : ByteArray) (x10 : Int) (x11 : Int) (b0 : ByteArray) : X16 k kp ag4 (m16 x0 x10 x11 b0) = j16 (fun x11 b0 => ag4 (mL4 x0 x10 x11 b0)) x0 x10 x11 b0 (fun y0 => k (.v (.string y0)) []) :=
  Eq.mp (by kernel_rfl) ((atP_run (j16_ag k kp ag4) (m16 x0 x10 x11 b0)).trans (j16_c k kp (JJ_4 k kp ag4) (LL_4 k kp ag4) ag4 x0 x10 x11 b0))
theorem j16_eq (k kp : D → List Blk → Prop) (ag4 : St → Prop) (x0 : ByteArray) (x10 : Int) (x11 : Int) (b0 : ByteArray) : X16 k kp ag4 (m16 x0 x10 x11 b0) = j16' (fun x11 b0 => ag4 (mL4 x0 x10 x11 b0)) x0 x10 x11 b0 (fun y0 => k (.v (.string y0)) []) := by
  rw [j16_raw]; rfl
theorem j17_c (k kp : D → List Blk → Prop) (J L : Nat → St → Prop) (b0 : ByteArray) : runC cfg 17 J L (pick none' []) [1, 1, 1, 1] body (topK cfg Try.f30 k kp) (m17 b0) = j17 b0 (fun y0 => k (.v (.string y0)) []) := by kernel_rfl
theorem j17_ag (k kp : D → List Blk → Prop) : agPL cfg 17 (JJ k kp) (LL k kp) [1, 1, 1, 1] body = agPR cfg 17 (pick none' []) [1, 1, 1, 1] body (topK cfg Try.f30 k kp) := by kernel_rfl
theorem j17_raw (k kp : D → List Blk → Prop) (b0 : ByteArray) : X17 k kp (m17 b0) = j17 b0 (fun y0 => k (.v (.string y0)) []) :=
  Eq.mp (by kernel_rfl) ((atP_run (j17_ag k kp) (m17 b0)).trans (j17_c k kp (JJ k kp) (LL k kp) b0))
theorem j17_eq (k kp : D → List Blk → Prop) (b0 : ByteArray) : X17 k kp (m17 b0) = j17' b0 (fun y0 => k (.v (.string y0)) []) := by
  rw [j17_raw]; rfl
theorem l4_c (k kp : D → List Blk → Prop) (J L : Nat → St → Prop) (ag4 : St → Prop) (x0 : ByteArray) (x10 : Int) (x11 : Int) (b0 : ByteArray) : runC cfg 1000001 J L (pick none' [(4, ag4)]) [1, 1, 1, 0, 1, 0, 0] body (topK cfg Try.f30 k kp) (mL4 x0 x10 x11 b0) = l4 (fun x0 x10 x11 b0 => J 16 (m16 x0 x10 x11 b0)) (fun b0 => J 17 (m17 b0)) x0 x10 x11 b0 (fun y0 => k (.v (.string y0)) []) := by kernel_rfl
theorem l4_ag (k kp : D → List Blk → Prop) (ag4 : St → Prop) : agPL cfg 1000001 (JJ_4 k kp ag4) (LL_4 k kp ag4) [1, 1, 1, 0, 1, 0, 0] body = agPR cfg 1000001 (pick none' [(4, ag4)]) [1, 1, 1, 0, 1, 0, 0] body (topK cfg Try.f30 k kp) := by kernel_rfl
theorem l4_raw (k kp : D → List Blk → Prop) (ag4 : St → Prop) (x0 : ByteArray) (x10 : Int) (x11 : Int) (b0 : ByteArray) : YL4 k kp ag4 (mL4 x0 x10 x11 b0) = l4 (fun x0 x10 x11 b0 => X16 k kp ag4 (m16 x0 x10 x11 b0)) (fun b0 => X17 k kp (m17 b0)) x0 x10 x11 b0 (fun y0 => k (.v (.string y0)) []) :=
  Eq.mp (by kernel_rfl) ((atP_run (l4_ag k kp ag4) (mL4 x0 x10 x11 b0)).trans (l4_c k kp (JJ_4 k kp ag4) (LL_4 k kp ag4) ag4 x0 x10 x11 b0))
theorem l4_eq (k kp : D → List Blk → Prop) (x0 : ByteArray) (x10 : Int) (x11 : Int) (b0 : ByteArray) : XL4 k kp (mL4 x0 x10 x11 b0) = l4' x0 x10 x11 b0 (fun y0 => k (.v (.string y0)) []) :=
  loop_eq (mk := fun (s : Int × ByteArray) => mL4 x0 x10 s.1 s.2) (fun again s => by rw [l4_raw k kp again x0 x10 s.1 s.2]; simp only [j16_eq, j17_eq]; first | done | rfl) (x11, b0)
theorem c_c (k kp : D → List Blk → Prop) (J L : Nat → St → Prop) (x0 : ByteArray) : runC cfg 1000001 J L none'' [] body (topK cfg Try.f30 k kp) (st0 Try.f30 [(.v (.string x0))] []) = c (fun x0 x10 x11 b0 => L 4 (mL4 x0 x10 x11 b0)) x0 (fun y0 => k (.v (.string y0)) []) := by kernel_rfl
theorem c_ag (k kp : D → List Blk → Prop) : agPL cfg 1000001 (JJ k kp) (LL k kp) [] body = agPR cfg 1000001 none'' [] body (topK cfg Try.f30 k kp) := by kernel_rfl
theorem body_is : Try.f30.body = some body := by kernel_rfl
theorem c_raw (k kp : D → List Blk → Prop) (x0 : ByteArray) : funW cfg Try.f30 [(.v (.string x0))] [] k kp = c (fun x0 x10 x11 b0 => XL4 k kp (mL4 x0 x10 x11 b0)) x0 (fun y0 => k (.v (.string y0)) []) :=
  Eq.mp (by kernel_rfl) ((funW_run (AG := none'') body_is (c_ag k kp) [(.v (.string x0))] []).trans (c_c k kp (JJ k kp) (LL k kp) x0))
theorem f_eq (k kp : D → List Blk → Prop) (x0 : ByteArray) : funW cfg Try.f30 [(.v (.string x0))] [] k kp = f x0 (fun y0 => k (.v (.string y0)) []) := by
  rw [f_def, c_raw]; simp only [l4_eq]; first | done | rfl
noncomputable def ent0 : Entry := fun args blks k _ => match args, blks with
  | [d0], [] => aStr d0 fun x0 => f x0 (fun y0 => k (.v (.string y0)) [])
  | _, _ => False
noncomputable def ent : Entry := fun args blks k kp => ent0 (convB [.no] args) blks k kp
theorem ok : EntOk Try.prog 0 0 30 ent := by
  refine EntOk.convB (EntOk.of (funW_ok (cfg := cfg) (tyOk_of rfl rfl tyL_ok) (eqOk_of (P := Try.prog) rfl rfl (by kernel_rfl)) mixed_ok (tab_ok ?_) Try.func30 (by rfl) (by rfl)) ?_) _
  · intro p hp
    simp only [List.mem_cons, List.not_mem_nil, or_false] at hp
    rcases hp with rfl | rfl | rfl | rfl
    · exact N64.ok
    · exact N65.ok
    · exact N66.ok
    · exact N67.ok
  · intro args blks k kp h k' kp'
    match args, blks, h with
    | [d0], [], h =>
    dsimp only [ent0] at h
    have h9 := aStr_elim h; clear h; obtain ⟨x0, rfl, h⟩ := h9
    exact (f_eq k' kp' x0).symm
end N30
end Go.Proofs.Yu
namespace Go.Proofs.Yu
open Go Go.Aw Go.Proofs
set_option linter.unusedVariables false
set_option linter.unusedSimpArgs false
set_option maxRecDepth 100000
/-! dyehouse/quote.meant -/
namespace N86
noncomputable def cfg : Cfg := { P := Try.prog, ty := tys, E := tab [], atSeq := tab [(2000008, ⟨[(0, .keep), (9, .keep)]⟩), (9, ⟨[]⟩)], atLoop := tab [], outs := [], eqT := tab [], bT := tab [] }
noncomputable def body : Code := bodyOf Try.f86
def j2000008 (j9 : Prop) (x0 : Int) (x9 : Bool) (k : Int → Bool → Prop) : Prop :=
  (br x9 (k x0 true) (j9))
def j9 (k : Int → Bool → Prop) : Prop :=
  (k (0 : Int) false)
def c (j2000008 : Int → Bool → Prop) (x0 : Int) (k : Int → Bool → Prop) : Prop :=
  (br (x0 == (110 : Int)) (k (10 : Int) true) (br (x0 == (116 : Int)) (k (9 : Int) true) (br (x0 == (34 : Int)) (j2000008 x0 (x0 == (34 : Int))) (j2000008 x0 (x0 == (92 : Int))))))
def j9' (k : Int → Bool → Prop) : Prop := j9 k
def j2000008' (x0 : Int) (x9 : Bool) (k : Int → Bool → Prop) : Prop := j2000008 (j9' k) x0 x9 k
def f0 (x0 : Int) (k : Int → Bool → Prop) : Prop := c (fun x0 x9 => j2000008' x0 x9 k) x0 k
theorem f_ex : ∃ g : Int → (Int → Bool → Prop) → Prop, g = f0 := ⟨_, rfl⟩
noncomputable def f : Int → (Int → Bool → Prop) → Prop := Classical.choose f_ex
theorem f_def : f = f0 := Classical.choose_spec f_ex
def m2000008 (x0 : Int) (x9 : Bool) : St := { tmps := mkT 13 0 [(0, (.v (.int IntKind.u8 x0))), (9, (.v (.bool x9)))], hp := [], m := 0 }
def m9 : St := { tmps := mkT 13 0 [], hp := [], m := 0 }
noncomputable def X2000008 (k kp : D → List Blk → Prop) : St → Prop := atP cfg (pick none' []) [1, 0, 1, 0, 1, 1, 1, 1, 1] body (topK cfg Try.f86 k kp)
noncomputable def X9 (k kp : D → List Blk → Prop) : St → Prop := atP cfg (pick none' []) [1, 1] body (topK cfg Try.f86 k kp)
noncomputable def JJ (k kp : D → List Blk → Prop) : Nat → St → Prop := pick none' [(2000008, X2000008 k kp), (9, X9 k kp)]
noncomputable def LL (k kp : D → List Blk → Prop) : Nat → St → Prop := pick none' []
theorem j9_c (k kp : D → List Blk → Prop) (J L : Nat → St → Prop) : runC cfg 9 J L (pick none' []) [1, 1] body (topK cfg Try.f86 k kp) (m9) = j9 (fun y0 y1 => k (.tup [(.v (.int IntKind.u8 y0)), (.v (.bool y1))]) []) := by kernel_rfl
theorem j9_ag (k kp : D → List Blk → Prop) : agPL cfg 9 (JJ k kp) (LL k kp) [1, 1] body = agPR cfg 9 (pick none' []) [1, 1] body (topK cfg Try.f86 k kp) := by kernel_rfl
theorem j9_raw (k kp : D → List Blk → Prop) : X9 k kp (m9) = j9 (fun y0 y1 => k (.tup [(.v (.int IntKind.u8 y0)), (.v (.bool y1))]) []) :=
  Eq.mp (by kernel_rfl) ((atP_run (j9_ag k kp) (m9)).trans (j9_c k kp (JJ k kp) (LL k kp)))
theorem j9_eq (k kp : D → List Blk → Prop) : X9 k kp (m9) = j9' (fun y0 y1 => k (.tup [(.v (.int IntKind.u8 y0)), (.v (.bool y1))]) []) := by
  rw [j9_raw]; rfl
theorem j2000008_c (k kp : D → List Blk → Prop) (J L : Nat → St → Prop) (x0 : Int) (x9 : Bool) : runC cfg 2000008 J L (pick none' []) [1, 0, 1, 0, 1, 1, 1, 1, 1] body (topK cfg Try.f86 k kp) (m2000008 x0 x9) = j2000008 (J 9 (m9)) x0 x9 (fun y0 y1 => k (.tup [(.v (.int IntKind.u8 y0)), (.v (.bool y1))]) []) := by kernel_rfl
theorem j2000008_ag (k kp : D → List Blk → Prop) : agPL cfg 2000008 (JJ k kp) (LL k kp) [1, 0, 1, 0, 1, 1, 1, 1, 1] body = agPR cfg 2000008 (pick none' []) [1, 0, 1, 0, 1, 1, 1, 1, 1] body (topK cfg Try.f86 k kp) := by kernel_rfl
theorem j2000008_raw (k kp : D → List Blk → Prop) (x0 : Int) (x9 : Bool) : X2000008 k kp (m2000008 x0 x9) = j2000008 (X9 k kp (m9)) x0 x9 (fun y0 y1 => k (.tup [(.v (.int IntKind.u8 y0)), (.v (.bool y1))]) []) :=
  Eq.mp (by kernel_rfl) ((atP_run (j2000008_ag k kp) (m2000008 x0 x9)).trans (j2000008_c k kp (JJ k kp) (LL k kp) x0 x9))
theorem j2000008_eq (k kp : D → List Blk → Prop) (x0 : Int) (x9 : Bool) : X2000008 k kp (m2000008 x0 x9) = j2000008' x0 x9 (fun y0 y1 => k (.tup [(.v (.int IntKind.u8 y0)), (.v (.bool y1))]) []) := by
  rw [j2000008_raw]; simp only [j9_eq]; first | done | rfl
theorem c_c (k kp : D → List Blk → Prop) (J L : Nat → St → Prop) (x0 : Int) : runC cfg 1000001 J L none'' [] body (topK cfg Try.f86 k kp) (st0 Try.f86 [(.v (.int IntKind.u8 x0))] []) = c (fun x0 x9 => J 2000008 (m2000008 x0 x9)) x0 (fun y0 y1 => k (.tup [(.v (.int IntKind.u8 y0)), (.v (.bool y1))]) []) := by kernel_rfl
theorem c_ag (k kp : D → List Blk → Prop) : agPL cfg 1000001 (JJ k kp) (LL k kp) [] body = agPR cfg 1000001 none'' [] body (topK cfg Try.f86 k kp) := by kernel_rfl
theorem body_is : Try.f86.body = some body := by kernel_rfl
theorem c_raw (k kp : D → List Blk → Prop) (x0 : Int) : funW cfg Try.f86 [(.v (.int IntKind.u8 x0))] [] k kp = c (fun x0 x9 => X2000008 k kp (m2000008 x0 x9)) x0 (fun y0 y1 => k (.tup [(.v (.int IntKind.u8 y0)), (.v (.bool y1))]) []) :=
  Eq.mp (by kernel_rfl) ((funW_run (AG := none'') body_is (c_ag k kp) [(.v (.int IntKind.u8 x0))] []).trans (c_c k kp (JJ k kp) (LL k kp) x0))
theorem f_eq (k kp : D → List Blk → Prop) (x0 : Int) : funW cfg Try.f86 [(.v (.int IntKind.u8 x0))] [] k kp = f x0 (fun y0 y1 => k (.tup [(.v (.int IntKind.u8 y0)), (.v (.bool y1))]) []) := by
  rw [f_def, c_raw]; simp only [j2000008_eq]; first | done | rfl
noncomputable def ent0 : Entry := fun args blks k _ => match args, blks with
  | [d0], [] => aInt IntKind.u8 d0 fun x0 => f x0 (fun y0 y1 => k (.tup [(.v (.int IntKind.u8 y0)), (.v (.bool y1))]) [])
  | _, _ => False
noncomputable def ent : Entry := fun args blks k kp => ent0 (convB [.no] args) blks k kp
theorem ok : EntOk Try.prog 0 0 86 ent := by
  refine EntOk.convB (EntOk.of (funW_ok (cfg := cfg) (tyOk_of rfl rfl tyL_ok) (eqOk_of (P := Try.prog) rfl rfl (by kernel_rfl)) mixed_ok (tab_ok ?_) Try.func86 (by rfl) (by rfl)) ?_) _
  · intro p hp
    cases hp
  · intro args blks k kp h k' kp'
    match args, blks, h with
    | [d0], [], h =>
    dsimp only [ent0] at h
    have h9 := aInt_elim h; clear h; obtain ⟨x0, rfl, h⟩ := h9
    exact (f_eq k' kp' x0).symm
end N86
end Go.Proofs.Yu
namespace Go.Proofs.Yu
open Go Go.Aw Go.Proofs
set_option linter.unusedVariables false
set_option linter.unusedSimpArgs false
set_option maxRecDepth 100000
/-! dyehouse/quote.nibble -/
namespace N87
noncomputable def cfg : Cfg := { P := Try.prog, ty := tys, E := tab [], atSeq := tab [(2000002, ⟨[(0, .keep), (4, .keep)]⟩), (2000004, ⟨[(0, .keep), (13, .keep)]⟩), (2000006, ⟨[(0, .keep), (23, .keep)]⟩), (7, ⟨[]⟩)], atLoop := tab [], outs := [], eqT := tab [], bT := tab [] }
noncomputable def body : Code := bodyOf Try.f87
def j2000002 (j2000004 : Int → Bool → Prop) (x0 : Int) (x4 : Bool) (k : Int → Bool → Prop) : Prop :=
  (br x4 (k (IntKind.u8.wrap (x0 - (48 : Int))) true) (br (decide (x0 ≥ (97 : Int))) (j2000004 x0 (decide (x0 ≤ (102 : Int)))) (j2000004 x0 false)))
def j2000004 (j2000006 : Int → Bool → Prop) (x0 : Int) (x13 : Bool) (k : Int → Bool → Prop) : Prop :=
  (br x13 (k (IntKind.u8.wrap ((IntKind.u8.wrap (x0 - (97 : Int))) + (10 : Int))) true) (br (decide (x0 ≥ (65 : Int))) (j2000006 x0 (decide (x0 ≤ (70 : Int)))) (j2000006 x0 false)))
def j2000006 (j7 : Prop) (x0 : Int) (x23 : Bool) (k : Int → Bool → Prop) : Prop :=
  (br x23 (k (IntKind.u8.wrap ((IntKind.u8.wrap (x0 - (65 : Int))) + (10 : Int))) true) (j7))
def j7 (k : Int → Bool → Prop) : Prop :=
  (k (0 : Int) false)
def c (j2000002 : Int → Bool → Prop) (x0 : Int) (k : Int → Bool → Prop) : Prop :=
  (br (decide (x0 ≥ (48 : Int))) (j2000002 x0 (decide (x0 ≤ (57 : Int)))) (j2000002 x0 false))
def j7' (k : Int → Bool → Prop) : Prop := j7 k
def j2000006' (x0 : Int) (x23 : Bool) (k : Int → Bool → Prop) : Prop := j2000006 (j7' k) x0 x23 k
def j2000004' (x0 : Int) (x13 : Bool) (k : Int → Bool → Prop) : Prop := j2000004 (fun x0 x23 => j2000006' x0 x23 k) x0 x13 k
def j2000002' (x0 : Int) (x4 : Bool) (k : Int → Bool → Prop) : Prop := j2000002 (fun x0 x13 => j2000004' x0 x13 k) x0 x4 k
def f0 (x0 : Int) (k : Int → Bool → Prop) : Prop := c (fun x0 x4 => j2000002' x0 x4 k) x0 k
theorem f_ex : ∃ g : Int → (Int → Bool → Prop) → Prop, g = f0 := ⟨_, rfl⟩
noncomputable def f : Int → (Int → Bool → Prop) → Prop := Classical.choose f_ex
theorem f_def : f = f0 := Classical.choose_spec f_ex
def m2000002 (x0 : Int) (x4 : Bool) : St := { tmps := mkT 33 0 [(0, (.v (.int IntKind.u8 x0))), (4, (.v (.bool x4)))], hp := [], m := 0 }
def m2000004 (x0 : Int) (x13 : Bool) : St := { tmps := mkT 33 0 [(0, (.v (.int IntKind.u8 x0))), (13, (.v (.bool x13)))], hp := [], m := 0 }
def m2000006 (x0 : Int) (x23 : Bool) : St := { tmps := mkT 33 0 [(0, (.v (.int IntKind.u8 x0))), (23, (.v (.bool x23)))], hp := [], m := 0 }
def m7 : St := { tmps := mkT 33 0 [], hp := [], m := 0 }
noncomputable def X2000002 (k kp : D → List Blk → Prop) : St → Prop := atP cfg (pick none' []) [1, 0, 0, 1] body (topK cfg Try.f87 k kp)
noncomputable def X2000004 (k kp : D → List Blk → Prop) : St → Prop := atP cfg (pick none' []) [1, 0, 0, 1, 1, 1] body (topK cfg Try.f87 k kp)
noncomputable def X2000006 (k kp : D → List Blk → Prop) : St → Prop := atP cfg (pick none' []) [1, 0, 0, 1, 1, 1, 1, 1] body (topK cfg Try.f87 k kp)
noncomputable def X7 (k kp : D → List Blk → Prop) : St → Prop := atP cfg (pick none' []) [1, 1] body (topK cfg Try.f87 k kp)
noncomputable def JJ (k kp : D → List Blk → Prop) : Nat → St → Prop := pick none' [(2000002, X2000002 k kp), (2000004, X2000004 k kp), (2000006, X2000006 k kp), (7, X7 k kp)]
noncomputable def LL (k kp : D → List Blk → Prop) : Nat → St → Prop := pick none' []
theorem j7_c (k kp : D → List Blk → Prop) (J L : Nat → St → Prop) : runC cfg 7 J L (pick none' []) [1, 1] body (topK cfg Try.f87 k kp) (m7) = j7 (fun y0 y1 => k (.tup [(.v (.int IntKind.u8 y0)), (.v (.bool y1))]) []) := by kernel_rfl
theorem j7_ag (k kp : D → List Blk → Prop) : agPL cfg 7 (JJ k kp) (LL k kp) [1, 1] body = agPR cfg 7 (pick none' []) [1, 1] body (topK cfg Try.f87 k kp) := by kernel_rfl
theorem j7_raw (k kp : D → List Blk → Prop) : X7 k kp (m7) = j7 (fun y0 y1 => k (.tup [(.v (.int IntKind.u8 y0)), (.v (.bool y1))]) []) :=
  Eq.mp (by kernel_rfl) ((atP_run (j7_ag k kp) (m7)).trans (j7_c k kp (JJ k kp) (LL k kp)))
theorem j7_eq (k kp : D → List Blk → Prop) : X7 k kp (m7) = j7' (fun y0 y1 => k (.tup [(.v (.int IntKind.u8 y0)), (.v (.bool y1))]) []) := by
  rw [j7_raw]; rfl
theorem j2000006_c (k kp : D → List Blk → Prop) (J L : Nat → St → Prop) (x0 : Int) (x23 : Bool) : runC cfg 2000006 J L (pick none' []) [1, 0, 0, 1, 1, 1, 1, 1] body (topK cfg Try.f87 k kp) (m2000006 x0 x23) = j2000006 (J 7 (m7)) x0 x23 (fun y0 y1 => k (.tup [(.v (.int IntKind.u8 y0)), (.v (.bool y1))]) []) := by kernel_rfl
theorem j2000006_ag (k kp : D → List Blk → Prop) : agPL cfg 2000006 (JJ k kp) (LL k kp) [1, 0, 0, 1, 1, 1, 1, 1] body = agPR cfg 2000006 (pick none' []) [1, 0, 0, 1, 1, 1, 1, 1] body (topK cfg Try.f87 k kp) := by kernel_rfl
theorem j2000006_raw (k kp : D → List Blk → Prop) (x0 : Int) (x23 : Bool) : X2000006 k kp (m2000006 x0 x23) = j2000006 (X7 k kp (m7)) x0 x23 (fun y0 y1 => k (.tup [(.v (.int IntKind.u8 y0)), (.v (.bool y1))]) []) :=
  Eq.mp (by kernel_rfl) ((atP_run (j2000006_ag k kp) (m2000006 x0 x23)).trans (j2000006_c k kp (JJ k kp) (LL k kp) x0 x23))
theorem j2000006_eq (k kp : D → List Blk → Prop) (x0 : Int) (x23 : Bool) : X2000006 k kp (m2000006 x0 x23) = j2000006' x0 x23 (fun y0 y1 => k (.tup [(.v (.int IntKind.u8 y0)), (.v (.bool y1))]) []) := by
  rw [j2000006_raw]; simp only [j7_eq]; first | done | rfl
theorem j2000004_c (k kp : D → List Blk → Prop) (J L : Nat → St → Prop) (x0 : Int) (x13 : Bool) : runC cfg 2000004 J L (pick none' []) [1, 0, 0, 1, 1, 1] body (topK cfg Try.f87 k kp) (m2000004 x0 x13) = j2000004 (fun x0 x23 => J 2000006 (m2000006 x0 x23)) x0 x13 (fun y0 y1 => k (.tup [(.v (.int IntKind.u8 y0)), (.v (.bool y1))]) []) := by kernel_rfl
theorem j2000004_ag (k kp : D → List Blk → Prop) : agPL cfg 2000004 (JJ k kp) (LL k kp) [1, 0, 0, 1, 1, 1] body = agPR cfg 2000004 (pick none' []) [1, 0, 0, 1, 1, 1] body (topK cfg Try.f87 k kp) := by kernel_rfl
theorem j2000004_raw (k kp : D → List Blk → Prop) (x0 : Int) (x13 : Bool) : X2000004 k kp (m2000004 x0 x13) = j2000004 (fun x0 x23 => X2000006 k kp (m2000006 x0 x23)) x0 x13 (fun y0 y1 => k (.tup [(.v (.int IntKind.u8 y0)), (.v (.bool y1))]) []) :=
  Eq.mp (by kernel_rfl) ((atP_run (j2000004_ag k kp) (m2000004 x0 x13)).trans (j2000004_c k kp (JJ k kp) (LL k kp) x0 x13))
theorem j2000004_eq (k kp : D → List Blk → Prop) (x0 : Int) (x13 : Bool) : X2000004 k kp (m2000004 x0 x13) = j2000004' x0 x13 (fun y0 y1 => k (.tup [(.v (.int IntKind.u8 y0)), (.v (.bool y1))]) []) := by
  rw [j2000004_raw]; simp only [j2000006_eq]; first | done | rfl
theorem j2000002_c (k kp : D → List Blk → Prop) (J L : Nat → St → Prop) (x0 : Int) (x4 : Bool) : runC cfg 2000002 J L (pick none' []) [1, 0, 0, 1] body (topK cfg Try.f87 k kp) (m2000002 x0 x4) = j2000002 (fun x0 x13 => J 2000004 (m2000004 x0 x13)) x0 x4 (fun y0 y1 => k (.tup [(.v (.int IntKind.u8 y0)), (.v (.bool y1))]) []) := by kernel_rfl
theorem j2000002_ag (k kp : D → List Blk → Prop) : agPL cfg 2000002 (JJ k kp) (LL k kp) [1, 0, 0, 1] body = agPR cfg 2000002 (pick none' []) [1, 0, 0, 1] body (topK cfg Try.f87 k kp) := by kernel_rfl
theorem j2000002_raw (k kp : D → List Blk → Prop) (x0 : Int) (x4 : Bool) : X2000002 k kp (m2000002 x0 x4) = j2000002 (fun x0 x13 => X2000004 k kp (m2000004 x0 x13)) x0 x4 (fun y0 y1 => k (.tup [(.v (.int IntKind.u8 y0)), (.v (.bool y1))]) []) :=
  Eq.mp (by kernel_rfl) ((atP_run (j2000002_ag k kp) (m2000002 x0 x4)).trans (j2000002_c k kp (JJ k kp) (LL k kp) x0 x4))
theorem j2000002_eq (k kp : D → List Blk → Prop) (x0 : Int) (x4 : Bool) : X2000002 k kp (m2000002 x0 x4) = j2000002' x0 x4 (fun y0 y1 => k (.tup [(.v (.int IntKind.u8 y0)), (.v (.bool y1))]) []) := by
  rw [j2000002_raw]; simp only [j2000004_eq]; first | done | rfl
theorem c_c (k kp : D → List Blk → Prop) (J L : Nat → St → Prop) (x0 : Int) : runC cfg 1000001 J L none'' [] body (topK cfg Try.f87 k kp) (st0 Try.f87 [(.v (.int IntKind.u8 x0))] []) = c (fun x0 x4 => J 2000002 (m2000002 x0 x4)) x0 (fun y0 y1 => k (.tup [(.v (.int IntKind.u8 y0)), (.v (.bool y1))]) []) := by kernel_rfl
theorem c_ag (k kp : D → List Blk → Prop) : agPL cfg 1000001 (JJ k kp) (LL k kp) [] body = agPR cfg 1000001 none'' [] body (topK cfg Try.f87 k kp) := by kernel_rfl
theorem body_is : Try.f87.body = some body := by kernel_rfl
theorem c_raw (k kp : D → List Blk → Prop) (x0 : Int) : funW cfg Try.f87 [(.v (.int IntKind.u8 x0))] [] k kp = c (fun x0 x4 => X2000002 k kp (m2000002 x0 x4)) x0 (fun y0 y1 => k (.tup [(.v (.int IntKind.u8 y0)), (.v (.bool y1))]) []) :=
  Eq.mp (by kernel_rfl) ((funW_run (AG := none'') body_is (c_ag k kp) [(.v (.int IntKind.u8 x0))] []).trans (c_c k kp (JJ k kp) (LL k kp) x0))
theorem f_eq (k kp : D → List Blk → Prop) (x0 : Int) : funW cfg Try.f87 [(.v (.int IntKind.u8 x0))] [] k kp = f x0 (fun y0 y1 => k (.tup [(.v (.int IntKind.u8 y0)), (.v (.bool y1))]) []) := by
  rw [f_def, c_raw]; simp only [j2000002_eq]; first | done | rfl
noncomputable def ent0 : Entry := fun args blks k _ => match args, blks with
  | [d0], [] => aInt IntKind.u8 d0 fun x0 => f x0 (fun y0 y1 => k (.tup [(.v (.int IntKind.u8 y0)), (.v (.bool y1))]) [])
  | _, _ => False
noncomputable def ent : Entry := fun args blks k kp => ent0 (convB [.no] args) blks k kp
theorem ok : EntOk Try.prog 0 0 87 ent := by
  refine EntOk.convB (EntOk.of (funW_ok (cfg := cfg) (tyOk_of rfl rfl tyL_ok) (eqOk_of (P := Try.prog) rfl rfl (by kernel_rfl)) mixed_ok (tab_ok ?_) Try.func87 (by rfl) (by rfl)) ?_) _
  · intro p hp
    cases hp
  · intro args blks k kp h k' kp'
    match args, blks, h with
    | [d0], [], h =>
    dsimp only [ent0] at h
    have h9 := aInt_elim h; clear h; obtain ⟨x0, rfl, h⟩ := h9
    exact (f_eq k' kp' x0).symm
end N87
end Go.Proofs.Yu
namespace Go.Proofs.Yu
open Go Go.Aw Go.Proofs
set_option linter.unusedVariables false
set_option linter.unusedSimpArgs false
set_option maxRecDepth 100000
/-! dyehouse/quote.escape -/
namespace N68
noncomputable def cfg : Cfg := { P := Try.prog, ty := tys, E := tab [(86, N86.ent), (87, N87.ent)], atSeq := tab [(2000007, ⟨[(0, .keep), (27, .keep)]⟩), (8, ⟨[(0, .keep)]⟩), (2000011, ⟨[(6, .keep), (8, .keep), (45, .keep)]⟩), (12, ⟨[(6, .keep), (8, .keep)]⟩)], atLoop := tab [], outs := [], eqT := tab [], bT := tab [] }
noncomputable def body : Code := bodyOf Try.f68
def j2000007 (j8 : ByteArray → Prop) (x0 : ByteArray) (x27 : Bool) (k : Int → Int → Prop) : Prop :=
  (br x27 (k (0 : Int) (0 : Int)) (j8 x0))
def j8 (j2000011 : Int → Int → Bool → Prop) (x0 : ByteArray) (k : Int → Int → Prop) : Prop :=
  ((inB 0 (1 : Int) ((((x0).size : Nat) : Int) - 1)) ∧ (N87.f (byteAt x0 (1 : Int)) (fun (y0_1 : Int) (y1_1 : Bool) => ((inB 0 (2 : Int) ((((x0).size : Nat) : Int) - 1)) ∧ (N87.f (byteAt x0 (2 : Int)) (fun (y0_2 : Int) (y1_2 : Bool) => (br (!y1_1) (j2000011 y0_1 y0_2 true) (j2000011 y0_1 y0_2 (!y1_2)))))))))
def j2000011 (j12 : Int → Int → Prop) (x6 : Int) (x8 : Int) (x45 : Bool) (k : Int → Int → Prop) : Prop :=
  (br x45 (k (0 : Int) (0 : Int)) (j12 x6 x8))
def j12 (x6 : Int) (x8 : Int) (k : Int → Int → Prop) : Prop :=
  ((0 ≤ (4 : Int)) ∧ (k (orI IntKind.u8 (IntKind.u8.wrap (x6 * 2 ^ min (Int.toNat (4 : Int)) 8)) x8) (3 : Int)))
def c (j2000007 : ByteArray → Bool → Prop) (x0 : ByteArray) (k : Int → Int → Prop) : Prop :=
  (br (beqS x0 (ByteArray.mk #[])) (k (0 : Int) (0 : Int)) ((inB 0 (0 : Int) ((((x0).size : Nat) : Int) - 1)) ∧ (N86.f (byteAt x0 (0 : Int)) (fun (y0_0 : Int) (y1_0 : Bool) => (br y1_0 (k y0_0 (1 : Int)) ((inB 0 (0 : Int) ((((x0).size : Nat) : Int) - 1)) ∧ (br ((byteAt x0 (0 : Int)) != (120 : Int)) (j2000007 x0 true) (j2000007 x0 (decide (((((x0).size : Nat) : Int)) < (3 : Int)))))))))))
def j12' (x6 : Int) (x8 : Int) (k : Int → Int → Prop) : Prop := j12 x6 x8 k
def j2000011' (x6 : Int) (x8 : Int) (x45 : Bool) (k : Int → Int → Prop) : Prop := j2000011 (fun x6 x8 => j12' x6 x8 k) x6 x8 x45 k
def j8' (x0 : ByteArray) (k : Int → Int → Prop) : Prop := j8 (fun x6 x8 x45 => j2000011' x6 x8 x45 k) x0 k
def j2000007' (x0 : ByteArray) (x27 : Bool) (k : Int → Int → Prop) : Prop := j2000007 (fun x0 => j8' x0 k) x0 x27 k
def f0 (x0 : ByteArray) (k : Int → Int → Prop) : Prop := c (fun x0 x27 => j2000007' x0 x27 k) x0 k
theorem f_ex : ∃ g : ByteArray → (Int → Int → Prop) → Prop, g = f0 := ⟨_, rfl⟩
noncomputable def f : ByteArray → (Int → Int → Prop) → Prop := Classical.choose f_ex
theorem f_def : f = f0 := Classical.choose_spec f_ex
def m2000007 (x0 : ByteArray) (x27 : Bool) : St := { tmps := mkT 50 0 [(0, (.v (.string x0))), (27, (.v (.bool x27)))], hp := [], m := 0 }
def m8 (x0 : ByteArray) : St := { tmps := mkT 50 0 [(0, (.v (.string x0)))], hp := [], m := 0 }
def m2000011 (x6 : Int) (x8 : Int) (x45 : Bool) : St := { tmps := mkT 50 0 [(6, (.v (.int IntKind.u8 x6))), (8, (.v (.int IntKind.u8 x8))), (45, (.v (.bool x45)))], hp := [], m := 0 }
def m12 (x6 : Int) (x8 : Int) : St := { tmps := mkT 50 0 [(6, (.v (.int IntKind.u8 x6))), (8, (.v (.int IntKind.u8 x8)))], hp := [], m := 0 }
noncomputable def X2000007 (k kp : D → List Blk → Prop) : St → Prop := atP cfg (pick none' []) [1, 1, 1, 0, 1] body (topK cfg Try.f68 k kp)
noncomputable def X8 (k kp : D → List Blk → Prop) : St → Prop := atP cfg (pick none' []) [1, 1, 1, 1] body (topK cfg Try.f68 k kp)
noncomputable def X2000011 (k kp : D → List Blk → Prop) : St → Prop := atP cfg (pick none' []) [1, 1, 1, 1, 1, 1, 0, 1] body (topK cfg Try.f68 k kp)
noncomputable def X12 (k kp : D → List Blk → Prop) : St → Prop := atP cfg (pick none' []) [1, 1, 1, 1, 1, 1, 1] body (topK cfg Try.f68 k kp)
noncomputable def JJ (k kp : D → List Blk → Prop) : Nat → St → Prop := pick none' [(2000007, X2000007 k kp), (8, X8 k kp), (2000011, X2000011 k kp), (12, X12 k kp)]
noncomputable def LL (k kp : D → List Blk → Prop) : Nat → St → Prop := pick none' []
theorem j12_c (k kp : D → List Blk → Prop) (J L : Nat → St → Prop) (x6 : Int) (x8 : Int) : runC cfg 12 J L (pick none' []) [1, 1, 1, 1, 1, 1, 1] body (topK cfg Try.f68 k kp) (m12 x6 x8) = j12 x6 x8 (fun y0 y1 => k (.tup [(.v (.int IntKind.u8 y0)), (.v (.int IntKind.i64 y1))]) []) := by kernel_rfl
theorem j12_ag (k kp : D → List Blk → Prop) : agPL cfg 12 (JJ k kp) (LL k kp) [1, 1, 1, 1, 1, 1, 1] body = agPR cfg 12 (pick none' []) [1, 1, 1, 1, 1, 1, 1] body (topK cfg Try.f68 k kp) := by kernel_rfl
theorem j12_raw (k kp : D → List Blk → Prop) (x6 : Int) (x8 : Int) : X12 k kp (m12 x6 x8) = j12 x6 x8 (fun y0 y1 => k (.tup [(.v (.int IntKind.u8 y0)), (.v (.int IntKind.i64 y1))]) []) :=
  Eq.mp (by kernel_rfl) ((atP_run (j12_ag k kp) (m12 x6 x8)).trans (j12_c k kp (JJ k kp) (LL k kp) x6 x8))
theorem j12_eq (k kp : D → List Blk → Prop) (x6 : Int) (x8 : Int) : X12 k kp (m12 x6 x8) = j12' x6 x8 (fun y0 y1 => k (.tup [(.v (.int IntKind.u8 y0)), (.v (.int IntKind.i64 y1))]) []) := by
  rw [j12_raw]; rfl
theorem j2000011_c (k kp : D → List Blk → Prop) (J L : Nat → St → Prop) (x6 : Int) (x8 : Int) (x45 : Bool) : runC cfg 2000011 J L (pick none' []) [1, 1, 1, 1, 1, 1, 0, 1] body (topK cfg Try.f68 k kp) (m2000011 x6 x8 x45) = j2000011 (fun x6 x8 => J 12 (m12 x6 x8)) x6 x8 x45 (fun y0 y1 => k (.tup [(.v (.int IntKind.u8 y0)), (.v (.int IntKind.i64 y1))]) []) := by kernel_rfl
theorem j2000011_ag (k kp : D → List Blk → Prop) : agPL cfg 2000011 (JJ k kp) (LL k kp) [1, 1, 1, 1, 1, 1, 0, 1] body = agPR cfg 2000011 (pick none' []) [1, 1, 1, 1, 1, 1, 0, 1] body (topK cfg Try.f68 k kp) := by kernel_rfl
theorem j2000011_raw (k kp : D → List Blk → Prop) (x6 : Int) (x8 : Int) (x45 : Bool) : X2000011 k kp (m2000011 x6 x8 x45) = j2000011 (fun x6 x8 => X12 k kp (m12 x6 x8)) x6 x8 x45 (fun y0 y1 => k (.tup [(.v (.int IntKind.u8 y0)), (.v (.int IntKind.i64 y1))]) []) :=
  Eq.mp (by kernel_rfl) ((atP_run (j2000011_ag k kp) (m2000011 x6 x8 x45)).trans (j2000011_c k kp (JJ k kp) (LL k kp) x6 x8 x45))
theorem j2000011_eq (k kp : D → List Blk → Prop) (x6 : Int) (x8 : Int) (x45 : Bool) : X2000011 k kp (m2000011 x6 x8 x45) = j2000011' x6 x8 x45 (fun y0 y1 => k (.tup [(.v (.int IntKind.u8 y0)), (.v (.int IntKind.i64 y1))]) []) := by
  rw [j2000011_raw]; simp only [j12_eq]; first | done | rfl
theorem j8_c (k kp : D → List Blk → Prop) (J L : Nat → St → Prop) (x0 : ByteArray) : runC cfg 8 J L (pick none' []) [1, 1, 1, 1] body (topK cfg Try.f68 k kp) (m8 x0) = j8 (fun x6 x8 x45 => J 2000011 (m2000011 x6 x8 x45)) x0 (fun y0 y1 => k (.tup [(.v (.int IntKind.u8 y0)), (.v (.int IntKind.i64 y1))]) []) := by kernel_rfl
theorem j8_ag (k kp : D → List Blk → Prop) : agPL cfg 8 (JJ k kp) (LL k kp) [1, 1, 1, 1] body = agPR cfg 8 (pick none' []) [1, 1, 1, 1] body (topK cfg Try.f68 k kp) := by kernel_rfl
theorem j8_raw (k kp : D → List Blk → Prop) (x0 : ByteArray) : X8 k kp (m8 x0) = j8 (fun x6 x8 x45 => X2000011 k kp (m2000011 x6 x8 x45)) x0 (fun y0 y1 => k (.tup [(.v (.int IntKind.u8 y0)), (.v (.int IntKind.i64 y1))]) []) :=
  Eq.mp (by kernel_rfl) ((atP_run (j8_ag k kp) (m8 x0)).trans (j8_c k kp (JJ k kp) (LL k kp) x0))
theorem j8_eq (k kp : D → List Blk → Prop) (x0 : ByteArray) : X8 k kp (m8 x0) = j8' x0 (fun y0 y1 => k (.tup [(.v (.int IntKind.u8 y0)), (.v (.int IntKind.i64 y1))]) []) := by
  rw [j8_raw]; simp only [j2000011_eq]; first | done | rfl
theorem j2000007_c (k kp : D → List Blk → Prop) (J L : Nat → St → Prop) (x0 : ByteArray) (x27 : Bool) : runC cfg 2000007 J L (pick none' []) [1, 1, 1, 0, 1] body (topK cfg Try.f68 k kp) (m2000007 x0 x27) = j2000007 (fun x0 => J 8 (m8 x0)) x0 x27 (fun y0 y1 => k (.tup [(.v (.int IntKind.u8 y0)), (.v (.int IntKind.i64 y1))]) []) := by kernel_rfl
theorem j2000007_ag (k kp : D → List Blk → Prop) : agPL cfg 2000007 (JJ k kp) (LL k kp) [1, 1, 1, 0, 1] body = agPR cfg 2000007 (pick none' []) [1, 1, 1, 0, 1] body (topK cfg Try.f68 k kp) := by kernel_rfl
theorem j2000007_raw (k kp : D → List Blk → Prop) (x0 : ByteArray) (x27 : Bool) : X2000007 k kp (m2000007 x0 x27) = j2000007 (fun x0 => X8 k kp (m8 x0)) x0 x27 (fun y0 y1 => k (.tup [(.v (.int IntKind.u8 y0)), (.v (.int IntKind.i64 y1))]) []) :=
  Eq.mp (by kernel_rfl) ((atP_run (j2000007_ag k kp) (m2000007 x0 x27)).trans (j2000007_c k kp (JJ k kp) (LL k kp) x0 x27))
theorem j2000007_eq (k kp : D → List Blk → Prop) (x0 : ByteArray) (x27 : Bool) : X2000007 k kp (m2000007 x0 x27) = j2000007' x0 x27 (fun y0 y1 => k (.tup [(.v (.int IntKind.u8 y0)), (.v (.int IntKind.i64 y1))]) []) := by
  rw [j2000007_raw]; simp only [j8_eq]; first | done | rfl
theorem c_c (k kp : D → List Blk → Prop) (J L : Nat → St → Prop) (x0 : ByteArray) : runC cfg 1000001 J L none'' [] body (topK cfg Try.f68 k kp) (st0 Try.f68 [(.v (.string x0))] []) = c (fun x0 x27 => J 2000007 (m2000007 x0 x27)) x0 (fun y0 y1 => k (.tup [(.v (.int IntKind.u8 y0)), (.v (.int IntKind.i64 y1))]) []) := by kernel_rfl
theorem c_ag (k kp : D → List Blk → Prop) : agPL cfg 1000001 (JJ k kp) (LL k kp) [] body = agPR cfg 1000001 none'' [] body (topK cfg Try.f68 k kp) := by kernel_rfl
theorem body_is : Try.f68.body = some body := by kernel_rfl
theorem c_raw (k kp : D → List Blk → Prop) (x0 : ByteArray) : funW cfg Try.f68 [(.v (.string x0))] [] k kp = c (fun x0 x27 => X2000007 k kp (m2000007 x0 x27)) x0 (fun y0 y1 => k (.tup [(.v (.int IntKind.u8 y0)), (.v (.int IntKind.i64 y1))]) []) :=
  Eq.mp (by kernel_rfl) ((funW_run (AG := none'') body_is (c_ag k kp) [(.v (.string x0))] []).trans (c_c k kp (JJ k kp) (LL k kp) x0))
theorem f_eq (k kp : D → List Blk → Prop) (x0 : ByteArray) : funW cfg Try.f68 [(.v (.string x0))] [] k kp = f x0 (fun y0 y1 => k (.tup [(.v (.int IntKind.u8 y0)), (.v (.int IntKind.i64 y1))]) []) := by
  rw [f_def, c_raw]; simp only [j2000007_eq]; first | done | rfl
noncomputable def ent0 : Entry := fun args blks k _ => match args, blks with
  | [d0], [] => aStr d0 fun x0 => f x0 (fun y0 y1 => k (.tup [(.v (.int IntKind.u8 y0)), (.v (.int IntKind.i64 y1))]) [])
  | _, _ => False
noncomputable def ent : Entry := fun args blks k kp => ent0 (convB [.no] args) blks k kp
theorem ok : EntOk Try.prog 0 0 68 ent := by
  refine EntOk.convB (EntOk.of (funW_ok (cfg := cfg) (tyOk_of rfl rfl tyL_ok) (eqOk_of (P := Try.prog) rfl rfl (by kernel_rfl)) mixed_ok (tab_ok ?_) Try.func68 (by rfl) (by rfl)) ?_) _
  · intro p hp
    simp only [List.mem_cons, List.not_mem_nil, or_false] at hp
    rcases hp with rfl | rfl
    · exact N86.ok
    · exact N87.ok
  · intro args blks k kp h k' kp'
    match args, blks, h with
    | [d0], [], h =>
    dsimp only [ent0] at h
    have h9 := aStr_elim h; clear h; obtain ⟨x0, rfl, h⟩ := h9
    exact (f_eq k' kp' x0).symm
end N68
end Go.Proofs.Yu
namespace Go.Proofs.Yu
open Go Go.Aw Go.Proofs
set_option linter.unusedVariables false
set_option linter.unusedSimpArgs false
set_option maxRecDepth 100000
/-! dyehouse/quote.Scan -/
namespace N31
noncomputable def cfg : Cfg := { P := Try.prog, ty := tys, E := tab [(68, N68.ent)], atSeq := tab [(2000002, ⟨[(0, .keep), (1, .keep), (24, .keep)]⟩), (3, ⟨[(0, .keep), (1, .keep)]⟩), (2000006, ⟨[(0, .keep), (7, .keep), (8, .keep), (27, .keep)]⟩), (14, ⟨[(0, .keep), (7, .keep), (8, .keep)]⟩)], atLoop := tab [(5, ⟨[(0, .keep), (7, .own 5 (Ty.int IntKind.u8)), (8, .keep)]⟩)], outs := [], eqT := tab [], bT := tab [] }
noncomputable def body : Code := bodyOf Try.f31
def j2000002 (j3 : ByteArray → Int → Prop) (x0 : ByteArray) (x1 : Int) (x24 : Bool) (k : ByteArray → Int → Int → Prop) : Prop :=
  (br x24 (k (ByteArray.mk #[]) (0 : Int) (1 : Int)) (j3 x0 x1))
def j3 (l5 : ByteArray → Int → (List Int) → Prop) (x0 : ByteArray) (x1 : Int) (k : ByteArray → Int → Int → Prop) : Prop :=
  (l5 x0 (IntKind.i64.wrap (x1 + (1 : Int))) ([] : List Int))
def l5 (j2000006 : ByteArray → Int → Bool → (List Int) → Prop) (x0 : ByteArray) (x8 : Int) (b0 : (List Int)) (k : ByteArray → Int → Int → Prop) : Prop :=
  (br (x8 == ((((x0).size : Nat) : Int))) (j2000006 x0 x8 true b0) ((inB 0 x8 ((((x0).size : Nat) : Int) - 1)) ∧ (j2000006 x0 x8 ((byteAt x0 x8) == (10 : Int)) b0)))
def j2000006 (j14 : ByteArray → Int → (List Int) → Prop) (ag5 : Int → (List Int) → Prop) (x0 : ByteArray) (x8 : Int) (x27 : Bool) (b0 : (List Int)) (k : ByteArray → Int → Int → Prop) : Prop :=
  (br x27 (k (ByteArray.mk #[]) x8 (11 : Int)) ((inB 0 x8 ((((x0).size : Nat) : Int) - 1)) ∧ (br ((byteAt x0 x8) == (34 : Int)) (k (bytesOf b0) (IntKind.i64.wrap (x8 + (1 : Int))) (0 : Int)) (br (((((b0).length : Nat) : Int)) == (64 : Int)) (k (ByteArray.mk #[]) x8 (3 : Int)) ((inB 0 x8 ((((x0).size : Nat) : Int) - 1)) ∧ (br ((byteAt x0 x8) != (92 : Int)) ((inB 0 x8 ((((x0).size : Nat) : Int) - 1)) ∧ ((room ((b0).length + (([(byteAt x0 x8)] : List Int)).length) 1) ∧ (ag5 (IntKind.i64.wrap (x8 + (1 : Int))) (b0 ++ ([(byteAt x0 x8)] : List Int))))) (j14 x0 x8 b0)))))))
def j14 (ag5 : Int → (List Int) → Prop) (x0 : ByteArray) (x8 : Int) (b0 : (List Int)) (k : ByteArray → Int → Int → Prop) : Prop :=
  ((inB (IntKind.i64.wrap (x8 + (1 : Int))) (((x0).size : Nat) : Int) (((x0).size : Nat) : Int)) ∧ (N68.f (ByteArray.extract x0 (Int.toNat (IntKind.i64.wrap (x8 + (1 : Int)))) (Int.toNat (((x0).size : Nat) : Int))) (fun (y0_0 : Int) (y1_0 : Int) => (br (y1_0 == (0 : Int)) (k (ByteArray.mk #[]) x8 (11 : Int)) ((room ((b0).length + (([y0_0] : List Int)).length) 1) ∧ (ag5 (IntKind.i64.wrap (x8 + (IntKind.i64.wrap ((1 : Int) + y1_0)))) (b0 ++ ([y0_0] : List Int))))))))
def c (j2000002 : ByteArray → Int → Bool → Prop) (x0 : ByteArray) (x1 : Int) (k : ByteArray → Int → Int → Prop) : Prop :=
  (br (decide (x1 < (0 : Int))) (j2000002 x0 x1 true) (br (decide (x1 ≥ ((((x0).size : Nat) : Int)))) (j2000002 x0 x1 true) ((inB 0 x1 ((((x0).size : Nat) : Int) - 1)) ∧ (j2000002 x0 x1 ((byteAt x0 x1) != (34 : Int))))))
def j14' (ag5 : Int → (List Int) → Prop) (x0 : ByteArray) (x8 : Int) (b0 : (List Int)) (k : ByteArray → Int → Int → Prop) : Prop := j14 ag5 x0 x8 b0 k
def j2000006' (ag5 : Int → (List Int) → Prop) (x0 : ByteArray) (x8 : Int) (x27 : Bool) (b0 : (List Int)) (k : ByteArray → Int → Int → Prop) : Prop := j2000006 (fun x0 x8 b0 => j14' ag5 x0 x8 b0 k) ag5 x0 x8 x27 b0 k
def l5' (x0 : ByteArray) (x8 : Int) (b0 : (List Int)) (k : ByteArray → Int → Int → Prop) : Prop := ∃ n, loopS (fun (ag : (Int × (List Int)) → Prop) (s : Int × (List Int)) => l5 (fun x0 x8 x27 b0 => j2000006' (fun x8 b0 => ag (x8, b0)) x0 x8 x27 b0 k) x0 s.1 s.2 k) n (x8, b0)
def j3' (x0 : ByteArray) (x1 : Int) (k : ByteArray → Int → Int → Prop) : Prop := j3 (fun x0 x8 b0 => l5' x0 x8 b0 k) x0 x1 k
def j2000002' (x0 : ByteArray) (x1 : Int) (x24 : Bool) (k : ByteArray → Int → Int → Prop) : Prop := j2000002 (fun x0 x1 => j3' x0 x1 k) x0 x1 x24 k
def f0 (x0 : ByteArray) (x1 : Int) (k : ByteArray → Int → Int → Prop) : Prop := c (fun x0 x1 x24 => j2000002' x0 x1 x24 k) x0 x1 k
theorem f_ex : ∃ g : ByteArray → Int → (ByteArray → Int → Int → Prop) → Prop, g = f0 := ⟨_, rfl⟩
noncomputable def f : ByteArray → Int → (ByteArray → Int → Int → Prop) → Prop := Classical.choose f_ex
theorem f_def : f = f0 := Classical.choose_spec f_ex
def m2000002 (x0 : ByteArray) (x1 : Int) (x24 : Bool) : St := { tmps := mkT 85 0 [(0, (.v (.string x0))), (1, (.v (.int IntKind.i64 x1))), (24, (.v (.bool x24)))], hp := [], m := 0 }
def m3 (x0 : ByteArray) (x1 : Int) : St := { tmps := mkT 85 0 [(0, (.v (.string x0))), (1, (.v (.int IntKind.i64 x1)))], hp := [], m := 0 }
def mL5 (x0 : ByteArray) (x8 : Int) (b0 : (List Int)) : St := { tmps := mkT 85 0 [(0, (.v (.string x0))), (7, (.sl 0 0)), (8, (.v (.int IntKind.i64 x8)))], hp := [(.lst 5 (Ty.int IntKind.u8) b0 0 false)], m := 0 }
def m2000006 (x0 : ByteArray) (x8 : Int) (x27 : Bool) (b0 : (List Int)) : St := { tmps := mkT 85 0 [(0, (.v (.string x0))), (7, (.sl 0 0)), (8, (.v (.int IntKind.i64 x8))), (27, (.v (.bool x27)))], hp := [(.lst 5 (Ty.int IntKind.u8) b0 0 false)], m := 0 }
def m14 (x0 : ByteArray) (x8 : Int) (b0 : (List Int)) : St := { tmps := mkT 85 0 [(0, (.v (.string x0))), (7, (.sl 0 0)), (8, (.v (.int IntKind.i64 x8)))], hp := [(.lst 5 (Ty.int IntKind.u8) b0 0 false)], m := 0 }
noncomputable def X2000002 (k kp : D → List Blk → Prop) : St → Prop := atP cfg (pick none' []) [1, 0, 1] body (topK cfg Try.f31 k kp)
noncomputable def X3 (k kp : D → List Blk → Prop) : St → Prop := atP cfg (pick none' []) [1, 1] body (topK cfg Try.f31 k kp)
noncomputable def YL5 (k kp : D → List Blk → Prop) : (St → Prop) → St → Prop := loopB cfg (sub [1, 1, 1, 1, 0, 0] body) (contK cfg (pick none' []) [1, 1, 1, 1, 0] body (topK cfg Try.f31 k kp))
noncomputable def XL5 (k kp : D → List Blk → Prop) : St → Prop := fun st => ∃ n, loopN (YL5 k kp) n st
noncomputable def X2000006 (k kp : D → List Blk → Prop) (ag5 : St → Prop) : St → Prop := atP cfg (pick none' [(5, ag5)]) [1, 1, 1, 1, 0, 0, 0, 0, 0, 1] body (topK cfg Try.f31 k kp)
noncomputable def X14 (k kp : D → List Blk → Prop) (ag5 : St → Prop) : St → Prop := atP cfg (pick none' [(5, ag5)]) [1, 1, 1, 1, 0, 0, 0, 1] body (topK cfg Try.f31 k kp)
noncomputable def JJ (k kp : D → List Blk → Prop) : Nat → St → Prop := pick none' [(2000002, X2000002 k kp), (3, X3 k kp)]
noncomputable def LL (k kp : D → List Blk → Prop) : Nat → St → Prop := pick none' [(5, XL5 k kp)]
noncomputable def JJ_5 (k kp : D → List Blk → Prop) (ag5 : St → Prop) : Nat → St → Prop := pick none' [(2000002, X2000002 k kp), (3, X3 k kp), (2000006, X2000006 k kp ag5), (14, X14 k kp ag5)]
noncomputable def LL_5 (k kp : D → List Blk → Prop) (ag5 : St → Prop) : Nat → St → Prop := pick none' [(5, XL5 k kp)]
theorem j14_c (k kp : D → List Blk → Prop) (J L : Nat → St → Prop) (ag5 : St → Prop) (x0 : ByteArray) (x8 : Int) (b0 : (List Int)) : runC cfg 14 J L (pick none' [(5, ag5)]) [1, 1, 1, 1, 0, 0, 0, 1] body (topK cfg Try.f31 k kp) (m14 x0 x8 b0) = j14 (fun x8 b0 => ag5 (mL5 x0 x8 b0)) x0 x8 b0 (fun y0 y1 y2 => k (.tup [(.v (.string y0)), (.v (.int IntKind.i64 y1)), (.v (.int IntKind.i64 y2))]) []) := by kernel_rfl
theorem j14_ag (k kp : D → List Blk → Prop) (ag5 : St → Prop) : agPL cfg 14 (JJ_5 k kp ag5) (LL_5 k kp ag5) [1, 1, 1, 1, 0, 0, 0, 1] body = agPR cfg 14 (pick none' [(5, ag5)]) [1, 1, 1, 1, 0, 0, 0, 1] body (topK cfg Try.f31 k kp) := by kernel_rfl
theorem j14_raw (k kp : D → List Blk → Prop) (ag5 : St → Prop) (x0 : ByteArray) (x8 : Int) (b0 : (List Int)) : X14 k kp ag5 (m14 x0 x8 b0) = j14 (fun x8 b0 => ag5 (mL5 x0 x8 b0)) x0 x8 b0 (fun y0 y1 y2 => k (.tup [(.v (.string y0)), (.v (.int IntKind.i64 y1)), (.v (.int IntKind.i64 y2))]) []) :=
  Eq.mp (by kernel_rfl) ((atP_run (j14_ag k kp ag5) (m14 x0 x8 b0)).trans (j14_c k kp (JJ_5 k kp ag5) (LL_5 k kp ag5) ag5 x0 x8 b0))
theorem j14_eq (k kp : D → List Blk → Prop) (ag5 : St → Prop) (x0 : ByteArray) (x8 : Int) (b0 : (List Int)) : X14 k kp ag5 (m14 x0 x8 b0) = j14' (fun x8 b0 => ag5 (mL5 x0 x8 b0)) x0 x8 b0 (fun y0 y1 y2 => k (.tup [(.v (.string y0)), (.v (.int IntKind.i64 y1)), (.v (.int IntKind.i64 y2))]) []) := by
  rw [j14_raw]; rfl
theorem j2000006_c (k kp : D → List Blk → Prop) (J L : Nat → St → Prop) (ag5 : St → Prop) (x0 : ByteArray) (x8 : Int) (x27 : Bool) (b0 : (List Int)) : runC cfg 2000006 J L (pick none' [(5, ag5)]) [1, 1, 1, 1, 0, 0, 0, 0, 0, 1] body (topK cfg Try.f31 k kp) (m2000006 x0 x8 x27 b0) = j2000006 (fun x0 x8 b0 => J 14 (m14 x0 x8 b0)) (fun x8 b0 => ag5 (mL5 x0 x8 b0)) x0 x8 x27 b0 (fun y0 y1 y2 => k (.tup [(.v (.string y0)), (.v (.int IntKind.i64 y1)), (.v (.int IntKind.i64 y2))]) []) := by kernel_rfl
theorem j2000006_ag (k kp : D → List Blk → Prop) (ag5 : St → Prop) : agPL cfg 2000006 (JJ_5 k kp ag5) (LL_5 k kp ag5) [1, 1, 1, 1, 0, 0, 0, 0, 0, 1] body = agPR cfg 2000006 (pick none' [(5, ag5)]) [1, 1, 1, 1, 0, 0, 0, 0, 0, 1] body (topK cfg Try.f31 k kp) := by kernel_rfl
theorem j2000006_raw (k kp : D → List Blk → Prop) (ag5 : St → Prop) (x0 : ByteArray) (x8 : Int) (x27 : Bool) (b0 : (List Int)) : X2000006 k kp ag5 (m2000006 x0 x8 x27 b0) = j2000006 (fun x0 x8 b0 => X14 k kp ag5 (m14 x0 x8 b0)) (fun x8 b0 => ag5 (mL5 x0 x8 b0)) x0 x8 x27 b0 (fun y0 y1 y2 => k (.tup [(.v (.string y0)), (.v (.int IntKind.i64 y1)), (.v (.int IntKind.i64 y2))]) []) :=
  Eq.mp (by kernel_rfl) ((atP_run (j2000006_ag k kp ag5) (m2000006 x0 x8 x27 b0)).trans (j2000006_c k kp (JJ_5 k kp ag5) (LL_5 k kp ag5) ag5 x0 x8 x27 b0))
theorem j2000006_eq (k kp : D → List Blk → Prop) (ag5 : St → Prop) (x0 : ByteArray) (x8 : Int) (x27 : Bool) (b0 : (List Int)) : X2000006 k kp ag5 (m2000006 x0 x8 x27 b0) = j2000006' (fun x8 b0 => ag5 (mL5 x0 x8 b0)) x0 x8 x27 b0 (fun y0 y1 y2 => k (.tup [(.v (.string y0)), (.v (.int IntKind.i64 y1)), (.v (.int IntKind.i64 y2))]) []) := by
  rw [j2000006_raw]; simp only [j14_eq]; first | done | rfl
theorem l5_c (k kp : D → List Blk → Prop) (J L : Nat → St → Prop) (ag5 : St → Prop) (x0 : ByteArray) (x8 : Int) (b0 : (List Int)) : runC cfg 1000001 J L (pick none' [(5, ag5)]) [1, 1, 1, 1, 0, 0] body (topK cfg Try.f31 k kp) (mL5 x0 x8 b0) = l5 (fun x0 x8 x27 b0 => J 2000006 (m2000006 x0 x8 x27 b0)) x0 x8 b0 (fun y0 y1 y2 => k (.tup [(.v (.string y0)), (.v (.int IntKind.i64 y1)), (.v (.int IntKind.i64 y2))]) []) := by kernel_rfl
theorem l5_ag (k kp : D → List Blk → Prop) (ag5 : St → Prop) : agPL cfg 1000001 (JJ_5 k kp ag5) (LL_5 k kp ag5) [1, 1, 1, 1, 0, 0] body = agPR cfg 1000001 (pick none' [(5, ag5)]) [1, 1, 1, 1, 0, 0] body (topK cfg Try.f31 k kp) := by kernel_rfl
theorem l5_raw (k kp : D → List Blk → Prop) (ag5 : St → Prop) (x0 : ByteArray) (x8 : Int) (b0 : (List Int)) : YL5 k kp ag5 (mL5 x0 x8 b0) = l5 (fun x0 x8 x27 b0 => X2000006 k kp ag5 (m2000006 x0 x8 x27 b0)) x0 x8 b0 (fun y0 y1 y2 => k (.tup [(.v (.string y0)), (.v (.int IntKind.i64 y1)), (.v (.int IntKind.i64 y2))]) []) :=
  Eq.mp (by kernel_rfl) ((atP_run (l5_ag k kp ag5) (mL5 x0 x8 b0)).trans (l5_c k kp (JJ_5 k kp ag5) (LL_5 k kp ag5) ag5 x0 x8 b0))
theorem l5_eq (k kp : D → List Blk → Prop) (x0 : ByteArray) (x8 : Int) (b0 : (List Int)) : XL5 k kp (mL5 x0 x8 b0) = l5' x0 x8 b0 (fun y0 y1 y2 => k (.tup [(.v (.string y0)), (.v (.int IntKind.i64 y1)), (.v (.int IntKind.i64 y2))]) []) :=
  loop_eq (mk := fun (s : Int × (List Int)) => mL5 x0 s.1 s.2) (fun again s => by rw [l5_raw k kp again x0 s.1 s.2]; simp only [j2000006_eq]; first | done | rfl) (x8, b0)
theorem j3_c (k kp : D → List Blk → Prop) (J L : Nat → St → Prop) (x0 : ByteArray) (x1 : Int) : runC cfg 3 J L (pick none' []) [1, 1] body (topK cfg Try.f31 k kp) (m3 x0 x1) = j3 (fun x0 x8 b0 => L 5 (mL5 x0 x8 b0)) x0 x1 (fun y0 y1 y2 => k (.tup [(.v (.string y0)), (.v (.int IntKind.i64 y1)), (.v (.int IntKind.i64 y2))]) []) := by kernel_rfl
theorem j3_ag (k kp : D → List Blk → Prop) : agPL cfg 3 (JJ k kp) (LL k kp) [1, 1] body = agPR cfg 3 (pick none' []) [1, 1] body (topK cfg Try.f31 k kp) := by kernel_rfl
theorem j3_raw (k kp : D → List Blk → Prop) (x0 : ByteArray) (x1 : Int) : X3 k kp (m3 x0 x1) = j3 (fun x0 x8 b0 => XL5 k kp (mL5 x0 x8 b0)) x0 x1 (fun y0 y1 y2 => k (.tup [(.v (.string y0)), (.v (.int IntKind.i64 y1)), (.v (.int IntKind.i64 y2))]) []) :=
  Eq.mp (by kernel_rfl) ((atP_run (j3_ag k kp) (m3 x0 x1)).trans (j3_c k kp (JJ k kp) (LL k kp) x0 x1))
theorem j3_eq (k kp : D → List Blk → Prop) (x0 : ByteArray) (x1 : Int) : X3 k kp (m3 x0 x1) = j3' x0 x1 (fun y0 y1 y2 => k (.tup [(.v (.string y0)), (.v (.int IntKind.i64 y1)), (.v (.int IntKind.i64 y2))]) []) := by
  rw [j3_raw]; simp only [l5_eq]; first | done | rfl
theorem j2000002_c (k kp : D → List Blk → Prop) (J L : Nat → St → Prop) (x0 : ByteArray) (x1 : Int) (x24 : Bool) : runC cfg 2000002 J L (pick none' []) [1, 0, 1] body (topK cfg Try.f31 k kp) (m2000002 x0 x1 x24) = j2000002 (fun x0 x1 => J 3 (m3 x0 x1)) x0 x1 x24 (fun y0 y1 y2 => k (.tup [(.v (.string y0)), (.v (.int IntKind.i64 y1)), (.v (.int IntKind.i64 y2))]) []) := by kernel_rfl
theorem j2000002_ag (k kp : D → List Blk → Prop) : agPL cfg 2000002 (JJ k kp) (LL k kp) [1, 0, 1] body = agPR cfg 2000002 (pick none' []) [1, 0, 1] body (topK cfg Try.f31 k kp) := by kernel_rfl
theorem j2000002_raw (k kp : D → List Blk → Prop) (x0 : ByteArray) (x1 : Int) (x24 : Bool) : X2000002 k kp (m2000002 x0 x1 x24) = j2000002 (fun x0 x1 => X3 k kp (m3 x0 x1)) x0 x1 x24 (fun y0 y1 y2 => k (.tup [(.v (.string y0)), (.v (.int IntKind.i64 y1)), (.v (.int IntKind.i64 y2))]) []) :=
  Eq.mp (by kernel_rfl) ((atP_run (j2000002_ag k kp) (m2000002 x0 x1 x24)).trans (j2000002_c k kp (JJ k kp) (LL k kp) x0 x1 x24))
theorem j2000002_eq (k kp : D → List Blk → Prop) (x0 : ByteArray) (x1 : Int) (x24 : Bool) : X2000002 k kp (m2000002 x0 x1 x24) = j2000002' x0 x1 x24 (fun y0 y1 y2 => k (.tup [(.v (.string y0)), (.v (.int IntKind.i64 y1)), (.v (.int IntKind.i64 y2))]) []) := by
  rw [j2000002_raw]; simp only [j3_eq]; first | done | rfl
theorem c_c (k kp : D → List Blk → Prop) (J L : Nat → St → Prop) (x0 : ByteArray) (x1 : Int) : runC cfg 1000001 J L none'' [] body (topK cfg Try.f31 k kp) (st0 Try.f31 [(.v (.string x0)), (.v (.int IntKind.i64 x1))] []) = c (fun x0 x1 x24 => J 2000002 (m2000002 x0 x1 x24)) x0 x1 (fun y0 y1 y2 => k (.tup [(.v (.string y0)), (.v (.int IntKind.i64 y1)), (.v (.int IntKind.i64 y2))]) []) := by kernel_rfl
theorem c_ag (k kp : D → List Blk → Prop) : agPL cfg 1000001 (JJ k kp) (LL k kp) [] body = agPR cfg 1000001 none'' [] body (topK cfg Try.f31 k kp) := by kernel_rfl
theorem body_is : Try.f31.body = some body := by kernel_rfl
theorem c_raw (k kp : D → List Blk → Prop) (x0 : ByteArray) (x1 : Int) : funW cfg Try.f31 [(.v (.string x0)), (.v (.int IntKind.i64 x1))] [] k kp = c (fun x0 x1 x24 => X2000002 k kp (m2000002 x0 x1 x24)) x0 x1 (fun y0 y1 y2 => k (.tup [(.v (.string y0)), (.v (.int IntKind.i64 y1)), (.v (.int IntKind.i64 y2))]) []) :=
  Eq.mp (by kernel_rfl) ((funW_run (AG := none'') body_is (c_ag k kp) [(.v (.string x0)), (.v (.int IntKind.i64 x1))] []).trans (c_c k kp (JJ k kp) (LL k kp) x0 x1))
theorem f_eq (k kp : D → List Blk → Prop) (x0 : ByteArray) (x1 : Int) : funW cfg Try.f31 [(.v (.string x0)), (.v (.int IntKind.i64 x1))] [] k kp = f x0 x1 (fun y0 y1 y2 => k (.tup [(.v (.string y0)), (.v (.int IntKind.i64 y1)), (.v (.int IntKind.i64 y2))]) []) := by
  rw [f_def, c_raw]; simp only [j2000002_eq]; first | done | rfl
noncomputable def ent0 : Entry := fun args blks k _ => match args, blks with
  | [d0, d1], [] => aStr d0 fun x0 => aInt IntKind.i64 d1 fun x1 => f x0 x1 (fun y0 y1 y2 => k (.tup [(.v (.string y0)), (.v (.int IntKind.i64 y1)), (.v (.int IntKind.i64 y2))]) [])
  | _, _ => False
noncomputable def ent : Entry := fun args blks k kp => ent0 (convB [.no, .no] args) blks k kp
theorem ok : EntOk Try.prog 0 0 31 ent := by
  refine EntOk.convB (EntOk.of (funW_ok (cfg := cfg) (tyOk_of rfl rfl tyL_ok) (eqOk_of (P := Try.prog) rfl rfl (by kernel_rfl)) mixed_ok (tab_ok ?_) Try.func31 (by rfl) (by rfl)) ?_) _
  · intro p hp
    simp only [List.mem_cons, List.not_mem_nil, or_false] at hp
    rcases hp with rfl
    · exact N68.ok
  · intro args blks k kp h k' kp'
    match args, blks, h with
    | [d0, d1], [], h =>
    dsimp only [ent0] at h
    have h9 := aStr_elim h; clear h; obtain ⟨x0, rfl, h⟩ := h9
    have h9 := aInt_elim h; clear h; obtain ⟨x1, rfl, h⟩ := h9
    exact (f_eq k' kp' x0 x1).symm
end N31
end Go.Proofs.Yu
namespace Go.Proofs.Yu
open Go Go.Aw Go.Proofs
set_option linter.unusedVariables false
set_option linter.unusedSimpArgs false
set_option maxRecDepth 100000
/-! dyehouse/dyehouseref03.one -/
namespace N69
noncomputable def cfg : Cfg := { P := Try.prog, ty := tys, E := tab [], atSeq := tab [(2000011, ⟨[(0, .keep), (18, .keep)]⟩), (12, ⟨[(0, .keep)]⟩)], atLoop := tab [], outs := [], eqT := tab [], bT := tab [] }
noncomputable def body : Code := bodyOf Try.f69
def j2000011 (j12 : Int → Prop) (x0 : Int) (x18 : Bool) (k : ByteArray → Prop) : Prop :=
  (br x18 (k (bytesOf ([x0] : List Int))) (j12 x0))
def j12 (x0 : Int) (k : ByteArray → Prop) : Prop :=
  (((16 : Int) ≠ 0) ∧ (((16 : Int) ≠ 0) ∧ ((inB (IntKind.u8.wrap (Int.tdiv x0 (16 : Int))) (IntKind.u8.wrap ((IntKind.u8.wrap (Int.tdiv x0 (16 : Int))) + (1 : Int))) ((((ByteArray.mk #[48, 49, 50, 51, 52, 53, 54, 55, 56, 57, 97, 98, 99, 100, 101, 102])).size : Nat) : Int)) ∧ ((((ByteArray.mk #[92, 120])).size + ((ByteArray.extract (ByteArray.mk #[48, 49, 50, 51, 52, 53, 54, 55, 56, 57, 97, 98, 99, 100, 101, 102]) (Int.toNat (IntKind.u8.wrap (Int.tdiv x0 (16 : Int)))) (Int.toNat (IntKind.u8.wrap ((IntKind.u8.wrap (Int.tdiv x0 (16 : Int))) + (1 : Int)))))).size ≤ 9223372036854775807) ∧ (((16 : Int) ≠ 0) ∧ (((16 : Int) ≠ 0) ∧ ((inB (Int.tmod x0 (16 : Int)) (IntKind.u8.wrap ((Int.tmod x0 (16 : Int)) + (1 : Int))) ((((ByteArray.mk #[48, 49, 50, 51, 52, 53, 54, 55, 56, 57, 97, 98, 99, 100, 101, 102])).size : Nat) : Int)) ∧ (((((ByteArray.mk #[92, 120]) ++ (ByteArray.extract (ByteArray.mk #[48, 49, 50, 51, 52, 53, 54, 55, 56, 57, 97, 98, 99, 100, 101, 102]) (Int.toNat (IntKind.u8.wrap (Int.tdiv x0 (16 : Int)))) (Int.toNat (IntKind.u8.wrap ((IntKind.u8.wrap (Int.tdiv x0 (16 : Int))) + (1 : Int))))))).size + ((ByteArray.extract (ByteArray.mk #[48, 49, 50, 51, 52, 53, 54, 55, 56, 57, 97, 98, 99, 100, 101, 102]) (Int.toNat (Int.tmod x0 (16 : Int))) (Int.toNat (IntKind.u8.wrap ((Int.tmod x0 (16 : Int)) + (1 : Int)))))).size ≤ 9223372036854775807) ∧ (k (((ByteArray.mk #[92, 120]) ++ (ByteArray.extract (ByteArray.mk #[48, 49, 50, 51, 52, 53, 54, 55, 56, 57, 97, 98, 99, 100, 101, 102]) (Int.toNat (IntKind.u8.wrap (Int.tdiv x0 (16 : Int)))) (Int.toNat (IntKind.u8.wrap ((IntKind.u8.wrap (Int.tdiv x0 (16 : Int))) + (1 : Int)))))) ++ (ByteArray.extract (ByteArray.mk #[48, 49, 50, 51, 52, 53, 54, 55, 56, 57, 97, 98, 99, 100, 101, 102]) (Int.toNat (Int.tmod x0 (16 : Int))) (Int.toNat (IntKind.u8.wrap ((Int.tmod x0 (16 : Int)) + (1 : Int)))))))))))))))
def c (j2000011 : Int → Bool → Prop) (x0 : Int) (k : ByteArray → Prop) : Prop :=
  (br (x0 == (10 : Int)) (k (ByteArray.mk #[92, 110])) (br (x0 == (9 : Int)) (k (ByteArray.mk #[92, 116])) (br (x0 == (34 : Int)) (k (ByteArray.mk #[92, 34])) (br (x0 == (92 : Int)) (k (ByteArray.mk #[92, 92])) (br (decide (x0 ≥ (32 : Int))) (j2000011 x0 (decide (x0 ≤ (126 : Int)))) (j2000011 x0 false))))))
def j12' (x0 : Int) (k : ByteArray → Prop) : Prop := j12 x0 k
def j2000011' (x0 : Int) (x18 : Bool) (k : ByteArray → Prop) : Prop := j2000011 (fun x0 => j12' x0 k) x0 x18 k
def f0 (x0 : Int) (k : ByteArray → Prop) : Prop := c (fun x0 x18 => j2000011' x0 x18 k) x0 k
theorem f_ex : ∃ g : Int → (ByteArray → Prop) → Prop, g = f0 := ⟨_, rfl⟩
noncomputable def f : Int → (ByteArray → Prop) → Prop := Classical.choose f_ex
theorem f_def : f = f0 := Classical.choose_spec f_ex
def m2000011 (x0 : Int) (x18 : Bool) : St := { tmps := mkT 38 0 [(0, (.v (.int IntKind.u8 x0))), (18, (.v (.bool x18)))], hp := [], m := 0 }
def m12 (x0 : Int) : St := { tmps := mkT 38 0 [(0, (.v (.int IntKind.u8 x0)))], hp := [], m := 0 }
noncomputable def X2000011 (k kp : D → List Blk → Prop) : St → Prop := atP cfg (pick none' []) [1, 1, 0, 1] body (topK cfg Try.f69 k kp)
noncomputable def X12 (k kp : D → List Blk → Prop) : St → Prop := atP cfg (pick none' []) [1, 1, 1] body (topK cfg Try.f69 k kp)
noncomputable def JJ (k kp : D → List Blk → Prop) : Nat → St → Prop := pick none' [(2000011, X2000011 k kp), (12, X12 k kp)]
noncomputable def LL (k kp : D → List Blk → Prop) : Nat → St → Prop := pick none' []
theorem j12_c (k kp : D → List Blk → Prop) (J L : Nat → St → Prop) (x0 : Int) : runC cfg 12 J L (pick none' []) [1, 1, 1] body (topK cfg Try.f69 k kp) (m12 x0) = j12 x0 (fun y0 => k (.v (.string y0)) []) := by kernel_rfl
theorem j12_ag (k kp : D → List Blk → Prop) : agPL cfg 12 (JJ k kp) (LL k kp) [1, 1, 1] body = agPR cfg 12 (pick none' []) [1, 1, 1] body (topK cfg Try.f69 k kp) := by kernel_rfl
theorem j12_raw (k kp : D → List Blk → Prop) (x0 : Int) : X12 k kp (m12 x0) = j12 x0 (fun y0 => k (.v (.string y0)) []) :=
  Eq.mp (by kernel_rfl) ((atP_run (j12_ag k kp) (m12 x0)).trans (j12_c k kp (JJ k kp) (LL k kp) x0))
theorem j12_eq (k kp : D → List Blk → Prop) (x0 : Int) : X12 k kp (m12 x0) = j12' x0 (fun y0 => k (.v (.string y0)) []) := by
  rw [j12_raw]; rfl
theorem j2000011_c (k kp : D → List Blk → Prop) (J L : Nat → St → Prop) (x0 : Int) (x18 : Bool) : runC cfg 2000011 J L (pick none' []) [1, 1, 0, 1] body (topK cfg Try.f69 k kp) (m2000011 x0 x18) = j2000011 (fun x0 => J 12 (m12 x0)) x0 x18 (fun y0 => k (.v (.string y0)) []) := by kernel_rfl
theorem j2000011_ag (k kp : D → List Blk → Prop) : agPL cfg 2000011 (JJ k kp) (LL k kp) [1, 1, 0, 1] body = agPR cfg 2000011 (pick none' []) [1, 1, 0, 1] body (topK cfg Try.f69 k kp) := by kernel_rfl
theorem j2000011_raw (k kp : D → List Blk → Prop) (x0 : Int) (x18 : Bool) : X2000011 k kp (m2000011 x0 x18) = j2000011 (fun x0 => X12 k kp (m12 x0)) x0 x18 (fun y0 => k (.v (.string y0)) []) :=
  Eq.mp (by kernel_rfl) ((atP_run (j2000011_ag k kp) (m2000011 x0 x18)).trans (j2000011_c k kp (JJ k kp) (LL k kp) x0 x18))
theorem j2000011_eq (k kp : D → List Blk → Prop) (x0 : Int) (x18 : Bool) : X2000011 k kp (m2000011 x0 x18) = j2000011' x0 x18 (fun y0 => k (.v (.string y0)) []) := by
  rw [j2000011_raw]; simp only [j12_eq]; first | done | rfl
theorem c_c (k kp : D → List Blk → Prop) (J L : Nat → St → Prop) (x0 : Int) : runC cfg 1000001 J L none'' [] body (topK cfg Try.f69 k kp) (st0 Try.f69 [(.v (.int IntKind.u8 x0))] []) = c (fun x0 x18 => J 2000011 (m2000011 x0 x18)) x0 (fun y0 => k (.v (.string y0)) []) := by kernel_rfl
theorem c_ag (k kp : D → List Blk → Prop) : agPL cfg 1000001 (JJ k kp) (LL k kp) [] body = agPR cfg 1000001 none'' [] body (topK cfg Try.f69 k kp) := by kernel_rfl
theorem body_is : Try.f69.body = some body := by kernel_rfl
theorem c_raw (k kp : D → List Blk → Prop) (x0 : Int) : funW cfg Try.f69 [(.v (.int IntKind.u8 x0))] [] k kp = c (fun x0 x18 => X2000011 k kp (m2000011 x0 x18)) x0 (fun y0 => k (.v (.string y0)) []) :=
  Eq.mp (by kernel_rfl) ((funW_run (AG := none'') body_is (c_ag k kp) [(.v (.int IntKind.u8 x0))] []).trans (c_c k kp (JJ k kp) (LL k kp) x0))
theorem f_eq (k kp : D → List Blk → Prop) (x0 : Int) : funW cfg Try.f69 [(.v (.int IntKind.u8 x0))] [] k kp = f x0 (fun y0 => k (.v (.string y0)) []) := by
  rw [f_def, c_raw]; simp only [j2000011_eq]; first | done | rfl
noncomputable def ent0 : Entry := fun args blks k _ => match args, blks with
  | [d0], [] => aInt IntKind.u8 d0 fun x0 => f x0 (fun y0 => k (.v (.string y0)) [])
  | _, _ => False
noncomputable def ent : Entry := fun args blks k kp => ent0 (convB [.no] args) blks k kp
theorem ok : EntOk Try.prog 0 0 69 ent := by
  refine EntOk.convB (EntOk.of (funW_ok (cfg := cfg) (tyOk_of rfl rfl tyL_ok) (eqOk_of (P := Try.prog) rfl rfl (by kernel_rfl)) mixed_ok (tab_ok ?_) Try.func69 (by rfl) (by rfl)) ?_) _
  · intro p hp
    cases hp
  · intro args blks k kp h k' kp'
    match args, blks, h with
    | [d0], [], h =>
    dsimp only [ent0] at h
    have h9 := aInt_elim h; clear h; obtain ⟨x0, rfl, h⟩ := h9
    exact (f_eq k' kp' x0).symm
end N69
end Go.Proofs.Yu
namespace Go.Proofs.Yu
open Go Go.Aw Go.Proofs
set_option linter.unusedVariables false
set_option linter.unusedSimpArgs false
set_option maxRecDepth 100000
/-! dyehouse/dyehouseref03.Put -/
namespace N32
noncomputable def cfg : Cfg := { P := Try.prog, ty := tys, E := tab [(69, N69.ent)], atSeq := tab [(6, ⟨[(3, .keep)]⟩)], atLoop := tab [(3, ⟨[(0, .keep), (3, .keep), (4, .keep)]⟩)], outs := [], eqT := tab [], bT := tab [] }
noncomputable def body : Code := bodyOf Try.f32
def l3 (j6 : ByteArray → Prop) (ag3 : ByteArray → Int → Prop) (x0 : ByteArray) (x3 : ByteArray) (x4 : Int) (k : ByteArray → Prop) : Prop :=
  (br (decide (x4 < ((((x0).size : Nat) : Int)))) ((inB 0 x4 ((((x0).size : Nat) : Int) - 1)) ∧ (N69.f (byteAt x0 x4) (fun (y0_0 : ByteArray) => (((x3).size + (y0_0).size ≤ 9223372036854775807) ∧ (ag3 (x3 ++ y0_0) (IntKind.i64.wrap (x4 + (1 : Int)))))))) (j6 x3))
def j6 (x3 : ByteArray) (k : ByteArray → Prop) : Prop :=
  (((x3).size + ((ByteArray.mk #[34])).size ≤ 9223372036854775807) ∧ (k (x3 ++ (ByteArray.mk #[34]))))
def c (l3 : ByteArray → ByteArray → Int → Prop) (x0 : ByteArray) (k : ByteArray → Prop) : Prop :=
  (l3 x0 (ByteArray.mk #[34]) (0 : Int))
def j6' (x3 : ByteArray) (k : ByteArray → Prop) : Prop := j6 x3 k
def l3' (x0 : ByteArray) (x3 : ByteArray) (x4 : Int) (k : ByteArray → Prop) : Prop := ∃ n, loopS (fun (ag : (ByteArray × Int) → Prop) (s : ByteArray × Int) => l3 (fun x3 => j6' x3 k) (fun x3 x4 => ag (x3, x4)) x0 s.1 s.2 k) n (x3, x4)
def f0 (x0 : ByteArray) (k : ByteArray → Prop) : Prop := c (fun x0 x3 x4 => l3' x0 x3 x4 k) x0 k
theorem f_ex : ∃ g : ByteArray → (ByteArray → Prop) → Prop, g = f0 := ⟨_, rfl⟩
noncomputable def f : ByteArray → (ByteArray → Prop) → Prop := Classical.choose f_ex
theorem f_def : f = f0 := Classical.choose_spec f_ex
def mL3 (x0 : ByteArray) (x3 : ByteArray) (x4 : Int) : St := { tmps := mkT 19 0 [(0, (.v (.string x0))), (3, (.v (.string x3))), (4, (.v (.int IntKind.i64 x4)))], hp := [], m := 0 }
def m6 (x3 : ByteArray) : St := { tmps := mkT 19 0 [(3, (.v (.string x3)))], hp := [], m := 0 }
noncomputable def YL3 (k kp : D → List Blk → Prop) : (St → Prop) → St → Prop := loopB cfg (sub [1, 1, 0, 1, 0, 0] body) (contK cfg (pick none' []) [1, 1, 0, 1, 0] body (topK cfg Try.f32 k kp))
noncomputable def XL3 (k kp : D → List Blk → Prop) : St → Prop := fun st => ∃ n, loopN (YL3 k kp) n st
noncomputable def X6 (k kp : D → List Blk → Prop) : St → Prop := atP cfg (pick none' []) [1, 1, 1] body (topK cfg Try.f32 k kp)
noncomputable def JJ_3 (k kp : D → List Blk → Prop) (ag3 : St → Prop) : Nat → St → Prop := pick none' [(6, X6 k kp)]
noncomputable def LL_3 (k kp : D → List Blk → Prop) (ag3 : St → Prop) : Nat → St → Prop := pick none' [(3, XL3 k kp)]
noncomputable def JJ (k kp : D → List Blk → Prop) : Nat → St → Prop := pick none' [(6, X6 k kp)]
noncomputable def LL (k kp : D → List Blk → Prop) : Nat → St → Prop := pick none' [(3, XL3 k kp)]
theorem j6_c (k kp : D → List Blk → Prop) (J L : Nat → St → Prop) (x3 : ByteArray) : runC cfg 6 J L (pick none' []) [1, 1, 1] body (topK cfg Try.f32 k kp) (m6 x3) = j6 x3 (fun y0 => k (.v (.string y0)) []) := by kernel_rfl
theorem j6_ag (k kp : D → List Blk → Prop) : agPL cfg 6 (JJ k kp) (LL k kp) [1, 1, 1] body = agPR cfg 6 (pick none' []) [1, 1, 1] body (topK cfg Try.f32 k kp) := by kernel_rfl
theorem j6_raw (k kp : D → List Blk → Prop) (x3 : ByteArray) : X6 k kp (m6 x3) = j6 x3 (fun y0 => k (.v (.string y0)) []) :=
  Eq.mp (by kernel_rfl) ((atP_run (j6_ag k kp) (m6 x3)).trans (j6_c k kp (JJ k kp) (LL k kp) x3))
theorem j6_eq (k kp : D → List Blk → Prop) (x3 : ByteArray) : X6 k kp (m6 x3) = j6' x3 (fun y0 => k (.v (.string y0)) []) := by
  rw [j6_raw]; rfl
theorem l3_c (k kp : D → List Blk → Prop) (J L : Nat → St → Prop) (ag3 : St → Prop) (x0 : ByteArray) (x3 : ByteArray) (x4 : Int) : runC cfg 1000001 J L (pick none' [(3, ag3)]) [1, 1, 0, 1, 0, 0] body (topK cfg Try.f32 k kp) (mL3 x0 x3 x4) = l3 (fun x3 => J 6 (m6 x3)) (fun x3 x4 => ag3 (mL3 x0 x3 x4)) x0 x3 x4 (fun y0 => k (.v (.string y0)) []) := by kernel_rfl
theorem l3_ag (k kp : D → List Blk → Prop) (ag3 : St → Prop) : agPL cfg 1000001 (JJ_3 k kp ag3) (LL_3 k kp ag3) [1, 1, 0, 1, 0, 0] body = agPR cfg 1000001 (pick none' [(3, ag3)]) [1, 1, 0, 1, 0, 0] body (topK cfg Try.f32 k kp) := by kernel_rfl
theorem l3_raw (k kp : D → List Blk → Prop) (ag3 : St → Prop) (x0 : ByteArray) (x3 : ByteArray) (x4 : Int) : YL3 k kp ag3 (mL3 x0 x3 x4) = l3 (fun x3 => X6 k kp (m6 x3)) (fun x3 x4 => ag3 (mL3 x0 x3 x4)) x0 x3 x4 (fun y0 => k (.v (.string y0)) []) :=
  Eq.mp (by kernel_rfl) ((atP_run (l3_ag k kp ag3) (mL3 x0 x3 x4)).trans (l3_c k kp (JJ_3 k kp ag3) (LL_3 k kp ag3) ag3 x0 x3 x4))
theorem l3_eq (k kp : D → List Blk → Prop) (x0 : ByteArray) (x3 : ByteArray) (x4 : Int) : XL3 k kp (mL3 x0 x3 x4) = l3' x0 x3 x4 (fun y0 => k (.v (.string y0)) []) :=
  loop_eq (mk := fun (s : ByteArray × Int) => mL3 x0 s.1 s.2) (fun again s => by rw [l3_raw k kp again x0 s.1 s.2]; simp only [j6_eq]; first | done | rfl) (x3, x4)
theorem c_c (k kp : D → List Blk → Prop) (J L : Nat → St → Prop) (x0 : ByteArray) : runC cfg 1000001 J L none'' [] body (topK cfg Try.f32 k kp) (st0 Try.f32 [(.v (.string x0))] []) = c (fun x0 x3 x4 => L 3 (mL3 x0 x3 x4)) x0 (fun y0 => k (.v (.string y0)) []) := by kernel_rfl
theorem c_ag (k kp : D → List Blk → Prop) : agPL cfg 1000001 (JJ k kp) (LL k kp) [] body = agPR cfg 1000001 none'' [] body (topK cfg Try.f32 k kp) := by kernel_rfl
theorem body_is : Try.f32.body = some body := by kernel_rfl
theorem c_raw (k kp : D → List Blk → Prop) (x0 : ByteArray) : funW cfg Try.f32 [(.v (.string x0))] [] k kp = c (fun x0 x3 x4 => XL3 k kp (mL3 x0 x3 x4)) x0 (fun y0 => k (.v (.string y0)) []) :=
  Eq.mp (by kernel_rfl) ((funW_run (AG := none'') body_is (c_ag k kp) [(.v (.string x0))] []).trans (c_c k kp (JJ k kp) (LL k kp) x0))
theorem f_eq (k kp : D → List Blk → Prop) (x0 : ByteArray) : funW cfg Try.f32 [(.v (.string x0))] [] k kp = f x0 (fun y0 => k (.v (.string y0)) []) := by
  rw [f_def, c_raw]; simp only [l3_eq]; first | done | rfl
noncomputable def ent0 : Entry := fun args blks k _ => match args, blks with
  | [d0], [] => aStr d0 fun x0 => f x0 (fun y0 => k (.v (.string y0)) [])
  | _, _ => False
noncomputable def ent : Entry := fun args blks k kp => ent0 (convB [.no] args) blks k kp
theorem ok : EntOk Try.prog 0 0 32 ent := by
  refine EntOk.convB (EntOk.of (funW_ok (cfg := cfg) (tyOk_of rfl rfl tyL_ok) (eqOk_of (P := Try.prog) rfl rfl (by kernel_rfl)) mixed_ok (tab_ok ?_) Try.func32 (by rfl) (by rfl)) ?_) _
  · intro p hp
    simp only [List.mem_cons, List.not_mem_nil, or_false] at hp
    rcases hp with rfl
    · exact N69.ok
  · intro args blks k kp h k' kp'
    match args, blks, h with
    | [d0], [], h =>
    dsimp only [ent0] at h
    have h9 := aStr_elim h; clear h; obtain ⟨x0, rfl, h⟩ := h9
    exact (f_eq k' kp' x0).symm
end N32
end Go.Proofs.Yu
namespace Go.Proofs.Yu
open Go Go.Aw Go.Proofs
set_option linter.unusedVariables false
set_option linter.unusedSimpArgs false
set_option maxRecDepth 100000
/-! dyehouse/quote.Get -/
namespace N33
noncomputable def cfg : Cfg := { P := Try.prog, ty := tys, E := tab [(31, N31.ent)], atSeq := tab [], atLoop := tab [], outs := [], eqT := tab [], bT := tab [] }
noncomputable def body : Code := bodyOf Try.f33
def c (x0 : ByteArray) (k : ByteArray → Int → Prop) : Prop :=
  (N31.f x0 (0 : Int) (fun (y0_0 : ByteArray) (y1_0 : Int) (y2_0 : Int) => (br (y2_0 != (0 : Int)) (k (ByteArray.mk #[]) y2_0) (br (decide (y1_0 < ((((x0).size : Nat) : Int)))) (k (ByteArray.mk #[]) (11 : Int)) (k y0_0 (0 : Int))))))
def f0 (x0 : ByteArray) (k : ByteArray → Int → Prop) : Prop := c x0 k
theorem f_ex : ∃ g : ByteArray → (ByteArray → Int → Prop) → Prop, g = f0 := ⟨_, rfl⟩
noncomputable def f : ByteArray → (ByteArray → Int → Prop) → Prop := Classical.choose f_ex
theorem f_def : f = f0 := Classical.choose_spec f_ex
noncomputable def JJ (k kp : D → List Blk → Prop) : Nat → St → Prop := pick none' []
noncomputable def LL (k kp : D → List Blk → Prop) : Nat → St → Prop := pick none' []
theorem c_c (k kp : D → List Blk → Prop) (J L : Nat → St → Prop) (x0 : ByteArray) : runC cfg 1000001 J L none'' [] body (topK cfg Try.f33 k kp) (st0 Try.f33 [(.v (.string x0))] []) = c x0 (fun y0 y1 => k (.tup [(.v (.string y0)), (.v (.int IntKind.i64 y1))]) []) := by kernel_rfl
theorem c_ag (k kp : D → List Blk → Prop) : agPL cfg 1000001 (JJ k kp) (LL k kp) [] body = agPR cfg 1000001 none'' [] body (topK cfg Try.f33 k kp) := by kernel_rfl
theorem body_is : Try.f33.body = some body := by kernel_rfl
theorem c_raw (k kp : D → List Blk → Prop) (x0 : ByteArray) : funW cfg Try.f33 [(.v (.string x0))] [] k kp = c x0 (fun y0 y1 => k (.tup [(.v (.string y0)), (.v (.int IntKind.i64 y1))]) []) :=
  Eq.mp (by kernel_rfl) ((funW_run (AG := none'') body_is (c_ag k kp) [(.v (.string x0))] []).trans (c_c k kp (JJ k kp) (LL k kp) x0))
theorem f_eq (k kp : D → List Blk → Prop) (x0 : ByteArray) : funW cfg Try.f33 [(.v (.string x0))] [] k kp = f x0 (fun y0 y1 => k (.tup [(.v (.string y0)), (.v (.int IntKind.i64 y1))]) []) := by
  rw [f_def, c_raw]; rfl
noncomputable def ent0 : Entry := fun args blks k _ => match args, blks with
  | [d0], [] => aStr d0 fun x0 => f x0 (fun y0 y1 => k (.tup [(.v (.string y0)), (.v (.int IntKind.i64 y1))]) [])
  | _, _ => False
noncomputable def ent : Entry := fun args blks k kp => ent0 (convB [.no] args) blks k kp
theorem ok : EntOk Try.prog 0 0 33 ent := by
  refine EntOk.convB (EntOk.of (funW_ok (cfg := cfg) (tyOk_of rfl rfl tyL_ok) (eqOk_of (P := Try.prog) rfl rfl (by kernel_rfl)) mixed_ok (tab_ok ?_) Try.func33 (by rfl) (by rfl)) ?_) _
  · intro p hp
    simp only [List.mem_cons, List.not_mem_nil, or_false] at hp
    rcases hp with rfl
    · exact N31.ok
  · intro args blks k kp h k' kp'
    match args, blks, h with
    | [d0], [], h =>
    dsimp only [ent0] at h
    have h9 := aStr_elim h; clear h; obtain ⟨x0, rfl, h⟩ := h9
    exact (f_eq k' kp' x0).symm
end N33
end Go.Proofs.Yu
namespace Go.Proofs.Yu
open Go Go.Aw Go.Proofs Go.RowKit
set_option linter.unusedVariables false
set_option linter.unusedSimpArgs false

/-! ### Builders -/
theorem push_bytes (l : List Int) (x : Int) : (bytesOf l).push (UInt8.ofNat x.toNat) = bytesOf (l ++ [x]) := by
  apply ByteArray.ext
  unfold bytesOf
  rw [ByteArray.data_push]
  simp
theorem wb_s {x : Int} {l : List Int} {k : ByteArray → Prop} (hx : isB x) (hl : l.length + 1 ≤ 140737488355328) (h : k (bytesOf (l ++ [x]))) : wb x (bytesOf l) k := by
  rw [wb_def]
  refine ⟨hx, by rw [bytesOf_size]; exact hl, ?_⟩
  rw [push_bytes]; exact h
theorem ws_s {t l : List Int} {k : Int → ByteArray → Prop} (hl : l.length + t.length ≤ 140737488355328) (h : k (t.length : Int) (bytesOf (l ++ t))) : ws (bytesOf t) (bytesOf l) k := by
  rw [ws_def]
  refine ⟨by rw [bytesOf_size, bytesOf_size]; exact hl, ?_⟩
  rw [← bytesOf_append, bytesOf_size]; exact h
theorem bs_s {s : ByteArray} {k : ByteArray → Prop} (h : k s) : bs s k := by
  rw [bs_def]; exact h

/-! ### What stands for a byte between quotes -/
def hexL (n : Int) : Int := if n < 10 then 48 + n else 87 + n
def oneL (c : Int) : List Int := if c = 10 then [92, 110] else if c = 9 then [92, 116] else if c = 34 then [92, 34] else if c = 92 then [92, 92] else if 32 ≤ c ∧ c ≤ 126 then [c] else [92, 120, hexL (c / 16), hexL (c % 16)]
def qputL (l : List Int) : List Int := 34 :: (l.flatMap oneL ++ [34])

theorem oneL_len (c : Int) : (oneL c).length ≤ 4 := by
  unfold oneL
  repeat' split
  all_goals simp
theorem flat_len : ∀ l : List Int, (l.flatMap oneL).length ≤ 4 * l.length
  | [] => by simp
  | c :: l => by
    rw [List.flatMap_cons, List.length_append, List.length_cons]
    have := oneL_len c
    have := flat_len l
    omega

theorem hexes_get (n : Int) (h0 : 0 ≤ n) (h1 : n < 16) : byteAt (ByteArray.mk #[48, 49, 50, 51, 52, 53, 54, 55, 56, 57, 97, 98, 99, 100, 101, 102]) n = hexL n := by
  obtain ⟨m, rfl⟩ : ∃ m : Nat, n = m := ⟨n.toNat, by omega⟩
  have hm : m < 16 := by omega
  have : ∀ j : Fin 16, byteAt (ByteArray.mk #[48, 49, 50, 51, 52, 53, 54, 55, 56, 57, 97, 98, 99, 100, 101, 102]) (j.val : Int) = hexL (j.val : Int) := by decide
  exact this ⟨m, hm⟩
theorem hexes_ext (n : Int) (h0 : 0 ≤ n) (h1 : n < 16) : ByteArray.extract (ByteArray.mk #[48, 49, 50, 51, 52, 53, 54, 55, 56, 57, 97, 98, 99, 100, 101, 102]) (Int.toNat n) (Int.toNat (n + 1)) = bytesOf [hexL n] := by
  obtain ⟨m, rfl⟩ : ∃ m : Nat, n = m := ⟨n.toNat, by omega⟩
  have hm : m < 16 := by omega
  have : ∀ j : Fin 16, ByteArray.extract (ByteArray.mk #[48, 49, 50, 51, 52, 53, 54, 55, 56, 57, 97, 98, 99, 100, 101, 102]) (Int.toNat (j.val : Int)) (Int.toNat ((j.val : Int) + 1)) = bytesOf [hexL (j.val : Int)] := by
    intro j
    apply eq_of_ofBytes
    revert j
    decide
  exact this ⟨m, hm⟩
theorem hexL_isB (n : Int) (h0 : 0 ≤ n) (h1 : n < 16) : isB (hexL n) := by
  unfold hexL isB; split <;> omega

theorem plain_s (c : Int) (hc : isB c) (k : Bool → Prop) (h : k (decide (32 ≤ c ∧ c ≤ 126 ∧ c ≠ 34 ∧ c ≠ 92))) : N65.f c k := by
  rw [N65.f_def]
  unfold N65.f0 N65.c
  simp only [br_dec, br_bne]
  have e : ∀ b : Bool, decide (32 ≤ c ∧ c ≤ 126 ∧ c ≠ 34 ∧ c ≠ 92) = b → k b := fun b hb => hb ▸ h
  split
  · split
    · split
      · exact e _ (decide_eq_false (by omega))
      · refine e _ ?_
        by_cases h92 : c = 92
        · rw [decide_eq_false (by omega)]; subst h92; rfl
        · rw [decide_eq_true (by omega)]; simp [h92]
    · exact e _ (decide_eq_false (by omega))
  · exact e _ (decide_eq_false (by omega))

theorem letter_s (c : Int) (hc : isB c) (k : Int → Bool → Prop) (h : if c = 10 then k 110 true else if c = 9 then k 116 true else if c = 34 ∨ c = 92 then k c true else k 0 false) : N66.f c k := by
  rw [N66.f_def]
  unfold N66.f0 N66.c N66.j2000008' N66.j2000008 N66.j9' N66.j9
  simp only [br_beq]
  repeat' split
  all_goals simp_all

theorem fdiv16 (c : Int) (hc : isB c) : Int.fdiv c (2 ^ min (Int.toNat (4 : Int)) 8) = c / 16 := by
  unfold isB at hc
  rw [show (2 : Int) ^ min (Int.toNat (4 : Int)) 8 = 16 from rfl, Int.fdiv_eq_ediv_of_nonneg _ (by decide)]
theorem and15 (c : Int) (hc : isB c) : andI IntKind.u8 c 15 = c % 16 := by
  unfold isB at hc
  obtain ⟨m, rfl⟩ : ∃ m : Nat, c = m := ⟨c.toNat, by omega⟩
  have hm : m < 256 := by omega
  have : ∀ j : Fin 256, andI IntKind.u8 (j.val : Int) 15 = (j.val : Int) % 16 := by decide +kernel
  exact this ⟨m, hm⟩

theorem take_flat {L : List Int} {i : Nat} (h : i < L.length) (f : Int → List Int) : (L.take (i + 1)).flatMap f = (L.take i).flatMap f ++ f (L.getD i 0) := by
  rw [List.take_succ_eq_append_getElem h, List.flatMap_append]
  simp [List.getD, List.getElem?_eq_getElem h]

theorem put_s_q (x : ByteArray) (hx : x.size ≤ 1000000000000) (k : ByteArray → Prop) (h : k (bytesOf (qputL (ofBytes x)))) : N30.f x k := by
  rw [N30.f_def]
  unfold N30.f0 N30.c
  have hn := ofBytes_length x
  rw [show ByteArray.empty = bytesOf [] from rfl]
  refine wb_s ⟨by decide, by decide⟩ (by simp) ?_
  unfold N30.l4'
  refine loopS_of (fun s : Int × ByteArray => ∃ i : Nat, s.1 = i ∧ i ≤ (ofBytes x).length ∧ s.2 = bytesOf (34 :: ((ofBytes x).take i).flatMap oneL)) (fun s => (ofBytes x).length - s.1.toNat) ?_ ⟨0, rfl, Nat.zero_le _, rfl⟩
  rintro again ⟨a, b⟩ ⟨i, e1, hi, e2⟩ hag
  simp only at e1 e2
  subst e1; subst e2
  unfold N30.l4 N30.j16' N30.j16 N30.j17' N30.j17
  dsimp only
  have hfl := flat_len ((ofBytes x).take i)
  have hln : ((ofBytes x).take i).length ≤ i := by simp; omega
  refine br_of (fun hlt => ?_) (fun hge => ?_)
  · have hlt : i < (ofBytes x).length := by simp at hlt; omega
    have hc := getD_isB x i
    have step : ∀ l : List Int, l = 34 :: (((ofBytes x).take i).flatMap oneL ++ oneL ((ofBytes x).getD i 0)) → again (IntKind.i64.wrap ((i : Int) + 1), bytesOf l) := by
      rintro l rfl
      rw [wrap_id (by omega) (by omega)]
      refine hag _ ⟨i + 1, by simp, by omega, ?_⟩ (by simp only; omega)
      rw [take_flat hlt]
    rw [byteAt_eq]
    generalize (ofBytes x).getD i 0 = c at *
    have hc' := hc
    unfold isB at hc'
    refine ⟨⟨by omega, by omega, by omega⟩, plain_s c hc _ ?_⟩
    refine br_of (fun hp => ?_) (fun hp => ?_)
    · have hp := of_decide_eq_true hp
      refine wb_s hc (by simp only [List.length_cons, List.length_append, List.length_nil]; omega) (step _ ?_)
      unfold oneL
      rw [if_neg (by omega), if_neg (by omega), if_neg (by omega), if_neg (by omega), if_pos ⟨hp.1, hp.2.1⟩]
      rfl
    · have hp := of_decide_eq_false hp
      refine wb_s ⟨by decide, by decide⟩ (by simp only [List.length_cons, List.length_append, List.length_nil]; omega) (letter_s c hc _ ?_)
      split
      · rename_i hh; subst hh
        exact wb_s ⟨by decide, by decide⟩ (by simp only [List.length_cons, List.length_append, List.length_nil]; omega) (step _ (by simp [oneL]))
      · split
        · rename_i hh; subst hh
          exact wb_s ⟨by decide, by decide⟩ (by simp only [List.length_cons, List.length_append, List.length_nil]; omega) (step _ (by simp [oneL]))
        · split
          · rename_i hh
            refine wb_s hc (by simp only [List.length_cons, List.length_append, List.length_nil]; omega) (step _ ?_)
            rcases hh with rfl | rfl <;> simp [oneL]
          · rename_i h1 h2 h3
            refine wb_s ⟨by decide, by decide⟩ (by simp only [List.length_cons, List.length_append, List.length_nil]; omega) ⟨by decide, ?_⟩
            rw [fdiv16 c hc, and15 c hc, hexes_get _ (by omega) (by omega), hexes_get _ (by omega) (by omega)]
            refine ⟨⟨by omega, by omega, by show c / 16 ≤ 15; omega⟩, wb_s (hexL_isB _ (by omega) (by omega)) (by simp only [List.length_cons, List.length_append, List.length_nil]; omega) ⟨⟨by omega, by omega, by show c % 16 ≤ 15; omega⟩, wb_s (hexL_isB _ (by omega) (by omega)) (by simp only [List.length_cons, List.length_append, List.length_nil]; omega) (step _ ?_)⟩⟩
            unfold oneL
            rw [if_neg h1, if_neg h2, if_neg (fun e => h3 (.inl e)), if_neg (fun e => h3 (.inr e)), if_neg (by omega)]
            simp
  · have hge : i = (ofBytes x).length := by simp at hge; omega
    subst hge
    rw [List.take_length] at *
    exact wb_s ⟨by decide, by decide⟩ (by simp only [List.length_cons, List.length_append, List.length_nil]; omega) (bs_s h)

theorem one_s (c : Int) (hc : isB c) (k : ByteArray → Prop) (h : k (bytesOf (oneL c))) : N69.f c k := by
  rw [N69.f_def]
  unfold N69.f0 N69.c N69.j2000011' N69.j2000011 N69.j12' N69.j12
  unfold oneL at h
  have hc' := hc
  unfold isB at hc'
  have last : k (bytesOf [92, 120, hexL (c / 16), hexL (c % 16)]) → N69.j12 c k := by
    intro h
    unfold N69.j12
    have e1 : IntKind.u8.wrap (Int.tdiv c 16) = c / 16 := by rw [Int.tdiv_eq_ediv_of_nonneg hc'.1, wu8_eq]; omega
    have e2 : Int.tmod c 16 = c % 16 := Int.tmod_eq_emod_of_nonneg hc'.1
    have e3 : IntKind.u8.wrap (c / 16 + 1) = c / 16 + 1 := by rw [wu8_eq]; omega
    have e4 : IntKind.u8.wrap (c % 16 + 1) = c % 16 + 1 := by rw [wu8_eq]; omega
    rw [e1, e2, e3, e4, hexes_ext _ (by omega) (by omega), hexes_ext _ (by omega) (by omega), show ByteArray.mk #[92, 120] = bytesOf [92, 120] from rfl, ← bytesOf_append, ← bytesOf_append]
    refine ⟨by decide, by decide, ⟨by omega, by omega, by show c / 16 + 1 ≤ 16; omega⟩, by rw [bytesOf_size, bytesOf_size]; simp, by decide, by decide, ⟨by omega, by omega, by show c % 16 + 1 ≤ 16; omega⟩, by rw [bytesOf_size, bytesOf_size]; simp, h⟩
  simp only [br_beq]
  split
  · rename_i e; rw [if_pos e] at h; exact h
  · rename_i h1; rw [if_neg h1] at h
    split
    · rename_i e; rw [if_pos e] at h; exact h
    · rename_i h2; rw [if_neg h2] at h
      split
      · rename_i e; rw [if_pos e] at h; exact h
      · rename_i h3; rw [if_neg h3] at h
        split
        · rename_i e; rw [if_pos e] at h; exact h
        · rename_i h4; rw [if_neg h4] at h
          simp only [br_dec, br_false]
          split
          · rename_i h5
            split
            · rename_i h6; rw [if_pos ⟨h5, h6⟩] at h; exact h
            · rename_i h6; rw [if_neg (fun e => h6 e.2)] at h; exact last h
          · rename_i h5; rw [if_neg (fun e => h5 e.1)] at h; exact last h

theorem putr_s_q (x : ByteArray) (hx : x.size ≤ 1000000000000) (k : ByteArray → Prop) (h : k (bytesOf (qputL (ofBytes x)))) : N32.f x k := by
  rw [N32.f_def]
  unfold N32.f0 N32.c
  have hn := ofBytes_length x
  rw [show ByteArray.mk #[34] = bytesOf [34] from rfl]
  unfold N32.l3'
  refine loopS_of (fun s : ByteArray × Int => ∃ i : Nat, s.2 = i ∧ i ≤ (ofBytes x).length ∧ s.1 = bytesOf (34 :: ((ofBytes x).take i).flatMap oneL)) (fun s => (ofBytes x).length - s.2.toNat) ?_ ⟨0, rfl, Nat.zero_le _, rfl⟩
  rintro again ⟨b, a⟩ ⟨i, e1, hi, e2⟩ hag
  simp only at e1 e2
  subst e1; subst e2
  unfold N32.l3 N32.j6' N32.j6
  dsimp only
  have hfl := flat_len ((ofBytes x).take i)
  have hln : ((ofBytes x).take i).length ≤ i := by simp; omega
  refine br_of (fun hlt => ?_) (fun hge => ?_)
  · have hlt : i < (ofBytes x).length := by simp at hlt; omega
    rw [byteAt_eq]
    have h4 := oneL_len ((ofBytes x).getD i 0)
    refine ⟨⟨by omega, by omega, by omega⟩, one_s _ (getD_isB x i) _ ⟨?_, ?_⟩⟩
    · rw [bytesOf_size, bytesOf_size]; simp only [List.length_cons, List.length_append, List.length_nil]; omega
    · rw [wrap_id (by omega) (by omega), ← bytesOf_append]
      refine hag _ ⟨i + 1, by simp, by omega, ?_⟩ (by simp only; omega)
      rw [take_flat hlt]; rfl
  · have hge : i = (ofBytes x).length := by simp at hge; omega
    subst hge
    rw [List.take_length] at *
    rw [show ByteArray.mk #[34] = bytesOf [34] from rfl, ← bytesOf_append]
    refine ⟨?_, h⟩
    rw [bytesOf_size, bytesOf_size]; simp only [List.length_cons, List.length_append, List.length_nil]; omega
end Go.Proofs.Yu
namespace Go.Proofs.Yu
open Go Go.Aw Go.Proofs Go.RowKit
set_option linter.unusedVariables false
set_option linter.unusedSimpArgs false

/-! ### What is read between quotes -/
def nibL (c : Int) : Option Int := if 48 ≤ c ∧ c ≤ 57 then some (c - 48) else if 97 ≤ c ∧ c ≤ 102 then some (c - 87) else if 65 ≤ c ∧ c ≤ 70 then some (c - 55) else none
def meantL (c : Int) : Option Int := if c = 110 then some 10 else if c = 116 then some 9 else if c = 34 ∨ c = 92 then some c else none
def hexEsc : List Int → Option (Int × Nat)
  | a :: b :: _ => match nibL a, nibL b with
    | some h, some l => some (16 * h + l, 3)
    | _, _ => none
  | _ => none
def escL : List Int → Option (Int × Nat)
  | [] => none
  | c :: r => match meantL c with
    | some v => some (v, 1)
    | none => if c = 120 then hexEsc r else none
def scanL (M : Nat) : Nat → List Int → Int → List Int → List Int × Int × Int
  | 0, _, i, _ => ([], i, 11)
  | f + 1, rest, i, out => match rest with
    | [] => ([], i, 11)
    | c :: r => if c = 10 then ([], i, 11) else if c = 34 then (out, i + 1, 0) else if out.length = M then ([], i, 3)
      else if c ≠ 92 then scanL M f r (i + 1) (out ++ [c]) else
        match escL r with
        | none => ([], i, 11)
        | some (v, n) => scanL M f (r.drop n) (i + 1 + n) (out ++ [v])

theorem meant_s (c : Int) (k : Int → Bool → Prop) (h : match meantL c with | some v => k v true | none => k 0 false) : N86.f c k := by
  rw [N86.f_def]
  unfold N86.f0 N86.c N86.j2000008' N86.j2000008 N86.j9' N86.j9
  unfold meantL at h
  simp only [br_beq]
  repeat' split
  all_goals simp_all

theorem nibble_s (c : Int) (hc : isB c) (k : Int → Bool → Prop) (h : match nibL c with | some v => k v true | none => k 0 false) : N87.f c k := by
  rw [N87.f_def]
  unfold N87.f0 N87.c N87.j2000002' N87.j2000002 N87.j2000004' N87.j2000004 N87.j2000006' N87.j2000006 N87.j7' N87.j7
  unfold isB at hc
  simp only [br_dec, br_false]
  by_cases h1 : 48 ≤ c ∧ c ≤ 57
  · unfold nibL at h
    rw [if_pos h1] at h
    rw [if_pos h1.1, if_pos h1.2, show IntKind.u8.wrap (c - 48) = c - 48 by rw [wu8_eq]; omega]
    exact h
  · by_cases h2 : 97 ≤ c ∧ c ≤ 102
    · unfold nibL at h
      rw [if_neg h1, if_pos h2] at h
      have e : IntKind.u8.wrap (IntKind.u8.wrap (c - 97) + 10) = c - 87 := by rw [wu8_eq, wu8_eq]; omega
      rw [if_pos (by omega), if_neg (by omega), if_pos (by omega), if_pos (by omega), e]
      exact h
    · by_cases h3 : 65 ≤ c ∧ c ≤ 70
      · unfold nibL at h
        rw [if_neg h1, if_neg h2, if_pos h3] at h
        have e : IntKind.u8.wrap (IntKind.u8.wrap (c - 65) + 10) = c - 55 := by rw [wu8_eq, wu8_eq]; omega
        rw [if_pos (by omega), if_neg (by omega), if_neg (by omega), if_pos (by omega), if_pos (by omega), e]
        exact h
      · unfold nibL at h
        rw [if_neg h1, if_neg h2, if_neg h3] at h
        repeat' split
        all_goals first | exact h | omega

theorem nib_lt {c v : Int} (h : nibL c = some v) : 0 ≤ v ∧ v < 16 := by
  unfold nibL at h
  repeat' split at h
  all_goals first | (cases h; omega) | cases h

theorem or4 (h l : Int) (h0 : 0 ≤ h ∧ h < 16) (l0 : 0 ≤ l ∧ l < 16) : orI IntKind.u8 (IntKind.u8.wrap (h * 2 ^ min (Int.toNat (4 : Int)) 8)) l = 16 * h + l := by
  obtain ⟨m, rfl⟩ : ∃ m : Nat, h = m := ⟨h.toNat, by omega⟩
  obtain ⟨n, rfl⟩ : ∃ n : Nat, l = n := ⟨l.toNat, by omega⟩
  have : ∀ i j : Fin 16, orI IntKind.u8 (IntKind.u8.wrap ((i.val : Int) * 2 ^ min (Int.toNat (4 : Int)) 8)) (j.val : Int) = 16 * (i.val : Int) + (j.val : Int) := by decide +kernel
  exact this ⟨m, by omega⟩ ⟨n, by omega⟩

theorem bytesOf_nil (r : List Int) : beqS (bytesOf r) (ByteArray.mk #[]) = decide (r = []) := by
  cases r with
  | nil => rfl
  | cons a r =>
    have : beqS (bytesOf (a :: r)) (ByteArray.mk #[]) = false := by
      cases h : beqS (bytesOf (a :: r)) (ByteArray.mk #[]) with
      | false => rfl
      | true =>
        have := congrArg ByteArray.size ((beqS_iff _ _).1 h)
        rw [bytesOf_size] at this
        exact absurd this (by simp [ByteArray.size])
    rw [this]; simp

theorem byteAt_bytes {r : List Int} (h : ∀ x ∈ r, isB x) (i : Nat) : byteAt (bytesOf r) (i : Int) = r.getD i 0 := by
  rw [byteAt_eq, ofBytes_bytesOf h]

theorem escape_s (r : List Int) (hr : ∀ x ∈ r, isB x) (k : Int → Int → Prop) (h : match escL r with | some (v, n) => k v n | none => k 0 0) : N68.f (bytesOf r) k := by
  rw [N68.f_def]
  unfold N68.f0 N68.c N68.j2000007' N68.j2000007 N68.j8' N68.j8
  rw [bytesOf_nil]
  simp only [br_dec, bytesOf_size]
  cases r with
  | nil => exact h
  | cons c r =>
    rw [if_neg (by simp)]
    have b0 : byteAt (bytesOf (c :: r)) 0 = c := byteAt_bytes hr 0
    refine ⟨⟨by omega, by omega, by simp⟩, ?_⟩
    rw [b0]
    refine meant_s c _ ?_
    unfold escL at h
    dsimp only at h
    split
    · rename_i v hv
      rw [hv] at h
      exact h
    · rename_i hv
      rw [hv] at h
      simp only [br_false, br_bne]
      refine ⟨⟨by omega, by omega, by simp⟩, ?_⟩
      dsimp only at h
      split
      · rename_i hc
        rw [if_pos hc] at h
        match r, hr, h with
        | [], hr, h => exact h
        | [a], hr, h => exact h
        | a :: b :: r, hr, h =>
          rw [if_neg (by simp; omega)]
          have b1 : byteAt (bytesOf (c :: a :: b :: r)) 1 = a := byteAt_bytes hr 1
          have b2 : byteAt (bytesOf (c :: a :: b :: r)) 2 = b := byteAt_bytes hr 2
          rw [b1, b2]
          refine ⟨⟨by omega, by omega, by simp; omega⟩, nibble_s a (hr a (by simp)) _ ?_⟩
          unfold hexEsc at h
          dsimp only at h
          unfold N68.j2000011' N68.j2000011 N68.j12' N68.j12
          cases ha : nibL a with
          | none =>
            rw [ha] at h
            dsimp only at h ⊢
            refine ⟨⟨by omega, by omega, by simp; omega⟩, nibble_s b (hr b (by simp)) _ ?_⟩
            cases hb : nibL b <;> exact h
          | some hi =>
            rw [ha] at h
            dsimp only at h ⊢
            refine ⟨⟨by omega, by omega, by simp; omega⟩, nibble_s b (hr b (by simp)) _ ?_⟩
            cases hb : nibL b with
            | none => rw [hb] at h; exact h
            | some lo =>
              rw [hb] at h
              show (0 : Int) ≤ 4 ∧ _
              rw [or4 hi lo (nib_lt ha) (nib_lt hb)]
              exact ⟨by decide, h⟩
      · rename_i hc
        rw [if_neg hc] at h
        exact h

theorem esc_pos {r : List Int} {v : Int} {n : Nat} (h : escL r = some (v, n)) : 1 ≤ n ∧ n ≤ r.length := by
  unfold escL at h
  split at h
  · cases h
  · split at h
    · cases h; simp
    · split at h
      · unfold hexEsc at h
        split at h
        · split at h
          · cases h; simp
          · cases h
        · cases h
      · cases h

/-- Where a text between quotes can't begin. -/
def noQuote (L : List Int) (at_ : Int) : Prop := at_ < 0 ∨ (L.length : Int) ≤ at_ ∨ L.getD at_.toNat 0 ≠ 34

theorem scan_s (x : ByteArray) (hx : x.size ≤ 1000000000000) (at_ : Int) (k : ByteArray → Int → Int → Prop)
    (h1 : noQuote (ofBytes x) at_ → k (bytesOf []) 0 1)
    (h2 : ∀ t e c, ¬ noQuote (ofBytes x) at_ → scanL 64 ((ofBytes x).length + 1) ((ofBytes x).drop (at_.toNat + 1)) (at_ + 1) [] = (t, e, c) → k (bytesOf t) e c) : N31.f x at_ k := by
  rw [N31.f_def]
  unfold N31.f0 N31.c N31.j2000002' N31.j2000002 N31.j3' N31.j3
  have hn := ofBytes_length x
  have hB := ofBytes_isB x
  unfold noQuote at h1 h2
  rw [show ByteArray.mk #[] = bytesOf [] from rfl]
  have go : ¬ noQuote (ofBytes x) at_ → N31.l5' x (IntKind.i64.wrap (at_ + 1)) [] k := by
    intro hq
    have hq' := hq
    unfold noQuote at hq'
    obtain ⟨a, rfl⟩ : ∃ a : Nat, at_ = a := ⟨at_.toNat, by omega⟩
    have ha : a < (ofBytes x).length := by omega
    rw [wrap_id (by omega) (by omega)]
    simp only [Int.toNat_natCast] at h2 hq'
    generalize hR : scanL 64 ((ofBytes x).length + 1) ((ofBytes x).drop (a + 1)) ((a : Int) + 1) [] = R at h2
    unfold N31.l5'
    refine loopS_of (fun s : Int × List Int => ∃ i f : Nat, s.1 = i ∧ i ≤ (ofBytes x).length ∧ s.2.length ≤ 64 ∧ (ofBytes x).length - i < f ∧ scanL 64 f ((ofBytes x).drop i) i s.2 = R) (fun s => (ofBytes x).length - s.1.toNat) ?_
      ⟨a + 1, (ofBytes x).length + 1, by simp, by omega, by simp, by omega, by rw [← hR]; rfl⟩
    rintro again ⟨p, b⟩ ⟨i, f, e1, hi, hb, hf, e2⟩ hag
    simp only at e1 hb e2 hag
    subst e1
    unfold N31.l5 N31.j2000006' N31.j2000006
    dsimp only
    obtain ⟨f, rfl⟩ : ∃ g, f = g + 1 := ⟨f - 1, by omega⟩
    have fin : ∀ t e c, (t, e, c) = R → k (bytesOf t) e c := fun t e c he => h2 t e c (by simpa [noQuote] using hq) he.symm
    refine br_of (fun hend => ?_) (fun hne => ?_)
    · have hend : i = (ofBytes x).length := by simp at hend; omega
      rw [List.drop_of_length_le (by omega)] at e2
      exact fin [] i 11 e2
    · have hlt : i < (ofBytes x).length := by simp at hne; omega
      rw [byteAt_eq]
      rw [drop_get (d := 0) hlt] at e2
      have hc := getD_isB x i
      generalize (ofBytes x).getD i 0 = c at *
      have inb : inB 0 (i : Int) (((x.size : Nat) : Int) - 1) := ⟨by omega, by omega, by omega⟩
      refine ⟨inb, ?_⟩
      unfold scanL at e2
      dsimp only at e2
      simp only [br_beq, br_bne]
      split
      · rename_i h10; rw [if_pos h10] at e2; exact fin _ _ _ e2
      · rename_i h10; rw [if_neg h10] at e2
        refine ⟨inb, ?_⟩
        split
        · rename_i h34; rw [if_pos h34] at e2
          rw [wrap_id (by omega) (by omega)]
          exact fin _ _ _ e2
        · rename_i h34; rw [if_neg h34] at e2
          split
          · rename_i h64; rw [if_pos (by omega)] at e2; exact fin _ _ _ e2
          · rename_i h64; rw [if_neg (by omega)] at e2
            refine ⟨inb, ?_⟩
            split
            · rename_i h92; rw [if_neg (by simpa using h92)] at e2
              unfold N31.j14' N31.j14
              have ee : ByteArray.extract x (Int.toNat (IntKind.i64.wrap ((i : Int) + 1))) (Int.toNat ((x.size : Nat) : Int)) = bytesOf ((ofBytes x).drop (i + 1)) := by
                rw [wrap_id (by omega) (by omega)]
                apply eq_of_ofBytes
                rw [ofBytes_extract, ofBytes_bytesOf (fun y hy => hB y (List.mem_of_mem_drop hy)), Int.toNat_natCast, List.take_of_length_le (by omega), show ((i : Int) + 1).toNat = i + 1 by omega]
              rw [ee]
              refine ⟨⟨by rw [wrap_id (by omega) (by omega)]; omega, by rw [wrap_id (by omega) (by omega)]; omega, by omega⟩, escape_s _ (fun y hy => hB y (List.mem_of_mem_drop hy)) _ ?_⟩
              cases hesc : escL ((ofBytes x).drop (i + 1)) with
              | none => rw [hesc] at e2; exact fin _ _ _ e2
              | some r =>
                obtain ⟨v, n⟩ := r
                rw [hesc] at e2
                obtain ⟨hn1, hn2⟩ := esc_pos hesc
                rw [List.length_drop] at hn2
                dsimp only at e2 ⊢
                simp only [br_beq]
                rw [if_neg (by omega)]
                refine ⟨by unfold room; simp; omega, ?_⟩
                rw [wrap_id (by omega) (by omega : (1 : Int) + n ≤ _), wrap_id (by omega) (by omega)]
                refine hag _ ⟨i + 1 + n, f, by simp; omega, by omega, by simp; omega, by omega, ?_⟩ (by simp only; omega)
                rw [List.drop_drop] at e2
                rw [← e2]
                simp
            · rename_i h92; rw [if_pos (by simpa using h92)] at e2
              refine ⟨inb, by unfold room; simp; omega, ?_⟩
              rw [wrap_id (by omega) (by omega)]
              refine hag _ ⟨i + 1, f, by simp, by omega, by simp; omega, by omega, ?_⟩ (by simp only; omega)
              rw [← e2]
              simp
  simp only [br_dec, br_bne]
  split
  · rename_i ha; exact h1 (.inl ha)
  · rename_i ha
    split
    · rename_i hb; exact h1 (.inr (.inl (by omega)))
    · rename_i hb
      obtain ⟨a, rfl⟩ : ∃ a : Nat, at_ = a := ⟨at_.toNat, by omega⟩
      rw [byteAt_eq]
      refine ⟨⟨by omega, by omega, by omega⟩, ?_⟩
      split
      · rename_i hc
        refine go ?_
        unfold noQuote
        simp only [Int.toNat_natCast]
        rintro (h | h | h)
        · omega
        · omega
        · exact h hc
      · rename_i hc
        exact h1 (.inr (.inr (by simpa using hc)))

/-- A text between quotes is read as it was. -/
theorem scan_one (M f : Nat) (c : Int) (hc : isB c) (r : List Int) (i : Int) (out : List Int) (hf : 1 ≤ f) (ho : out.length < M) :
    scanL M f (oneL c ++ r) i out = scanL M (f - 1) r (i + (oneL c).length) (out ++ [c]) := by
  obtain ⟨f, rfl⟩ : ∃ g, f = g + 1 := ⟨f - 1, by omega⟩
  unfold isB at hc
  rw [Nat.add_sub_cancel]
  have hne : ¬ out.length = M := by omega
  unfold oneL
  split
  · rename_i e; subst e; simp [scanL, escL, meantL, hne, Int.add_assoc]
  · split
    · rename_i e; subst e; simp [scanL, escL, meantL, hne, Int.add_assoc]
    · split
      · rename_i e; subst e; simp [scanL, escL, meantL, hne, Int.add_assoc]
      · split
        · rename_i e; subst e; simp [scanL, escL, meantL, hne, Int.add_assoc]
        · split
          · rename_i h10 h9 h34 h92 hp
            simp [scanL, h10, h34, h92, hne]
          · rename_i h10 h9 h34 h92 hp
            have nh : ∀ n : Int, 0 ≤ n → n < 16 → nibL (hexL n) = some n := by
              intro n h0 h1
              unfold nibL hexL
              split
              · rw [if_pos (by omega)]; congr 1; omega
              · rw [if_neg (by omega), if_pos (by omega)]; congr 1; omega
            have e16 : 16 * (c / 16) + c % 16 = c := by omega
            simp [scanL, escL, meantL, hexEsc, hne, nh (c / 16) (by omega) (by omega), nh (c % 16) (by omega) (by omega), e16]
            congr 1
            omega

theorem oneL_head (c : Int) (hc : isB c) : ∃ a r, oneL c = a :: r ∧ a ≠ 10 ∧ a ≠ 34 := by
  unfold isB at hc
  unfold oneL
  repeat' split
  all_goals exact ⟨_, _, rfl, by omega, by omega⟩

theorem scan_put (M : Nat) (B : List Int) : ∀ (l : List Int) (f : Nat) (i : Int) (out : List Int), (∀ x ∈ l, isB x) → l.length < f → out.length ≤ M →
    scanL M f (l.flatMap oneL ++ 34 :: B) i out = if out.length + l.length ≤ M then (out ++ l, i + (l.flatMap oneL).length + 1, 0) else ([], i + ((l.take (M - out.length)).flatMap oneL).length, 3)
  | [], f, i, out, hl, hf, ho => by
    obtain ⟨f, rfl⟩ : ∃ g, f = g + 1 := ⟨f - 1, by simp at hf; omega⟩
    simp [scanL, ho]
  | c :: l, f, i, out, hl, hf, ho => by
    simp only [List.length_cons] at hf
    rw [List.flatMap_cons, List.append_assoc]
    by_cases hM : out.length = M
    · rw [if_neg (by simp; omega)]
      obtain ⟨f, rfl⟩ : ∃ g, f = g + 1 := ⟨f - 1, by omega⟩
      obtain ⟨a, r, e, ha, hb⟩ := oneL_head c (hl c (by simp))
      rw [e, hM]
      simp [scanL, ha, hb, hM]
    · rw [scan_one M f c (hl c (by simp)) _ _ _ (by omega) (by omega), scan_put M B l (f - 1) _ (out ++ [c]) (fun x hx => hl x (by simp [hx])) (by omega) (by simp; omega)]
      have e1 : (out ++ [c]).length = out.length + 1 := by simp
      rw [e1]
      by_cases h : out.length + 1 + l.length ≤ M
      · rw [if_pos h, if_pos (by simp; omega)]
        simp [Int.add_assoc]
      · rw [if_neg h, if_neg (by simp; omega)]
        obtain ⟨d, hd⟩ : ∃ d, M - out.length = d + 1 := ⟨M - out.length - 1, by omega⟩
        rw [hd, show M - (out.length + 1) = d by omega]
        simp [Int.add_assoc]

/-- What a reading comes to. -/
theorem scan_res (M : Nat) : ∀ (f : Nat) (r : List Int) (i : Int) (out t : List Int) (e c : Int), (∀ x ∈ r, isB x) → (∀ x ∈ out, isB x) → out.length ≤ M → scanL M f r i out = (t, e, c) →
    (c = 0 ∧ t.length ≤ M ∧ (∀ x ∈ t, isB x) ∨ c ≠ 0 ∧ t = []) ∧ i ≤ e ∧ e ≤ i + r.length + 1
  | 0, r, i, out, t, e, c, hr, ho, hl, h => by
    unfold scanL at h; cases h
    exact ⟨.inr ⟨by decide, rfl⟩, by omega, by omega⟩
  | f + 1, r, i, out, t, e, c, hr, ho, hl, h => by
    unfold scanL at h
    split at h
    · cases h; exact ⟨.inr ⟨by decide, rfl⟩, by omega, by omega⟩
    · rename_i a r
      split at h
      · cases h; exact ⟨.inr ⟨by decide, rfl⟩, by omega, by simp; omega⟩
      · split at h
        · cases h; exact ⟨.inl ⟨rfl, hl, ho⟩, by omega, by simp; omega⟩
        · split at h
          · cases h; exact ⟨.inr ⟨by decide, rfl⟩, by omega, by simp; omega⟩
          · split at h
            · obtain ⟨h1, h2, h3⟩ := scan_res M f r _ _ t e c (fun x hx => hr x (by simp [hx])) (fun x hx => by
                rcases List.mem_append.1 hx with hx | hx
                · exact ho x hx
                · simp at hx; subst hx; exact hr _ (by simp)) (by simp; omega) h
              exact ⟨h1, by omega, by simp; omega⟩
            · split at h
              · cases h; exact ⟨.inr ⟨by decide, rfl⟩, by omega, by simp; omega⟩
              · rename_i v n hesc
                obtain ⟨hn1, hn2⟩ := esc_pos hesc
                have hv : isB v := by
                  unfold escL at hesc
                  split at hesc
                  · cases hesc
                  · rename_i c' r' 
                    split at hesc
                    · rename_i v' hm
                      cases hesc
                      unfold meantL at hm
                      repeat' split at hm
                      all_goals first | (cases hm; first | exact ⟨by decide, by decide⟩ | exact hr _ (by simp)) | cases hm
                    · split at hesc
                      · unfold hexEsc at hesc
                        split at hesc
                        · split at hesc
                          · rename_i h1 h2
                            cases hesc
                            have := nib_lt h1
                            have := nib_lt h2
                            exact ⟨by omega, by omega⟩
                          · cases hesc
                        · cases hesc
                      · cases hesc
                obtain ⟨h1, h2, h3⟩ := scan_res M f (r.drop n) _ _ t e c (fun x hx => hr x (List.mem_cons_of_mem _ (List.mem_of_mem_drop hx))) (fun x hx => by
                  rcases List.mem_append.1 hx with hx | hx
                  · exact ho x hx
                  · simp at hx; subst hx; exact hv) (by simp; omega) h
                rw [List.length_drop] at h3
                exact ⟨h1, by omega, by simp; omega⟩

theorem qputL_inj {a b : List Int} (ha : ∀ x ∈ a, isB x) (hb : ∀ x ∈ b, isB x) (h : qputL a = qputL b) : a = b := by
  unfold qputL at h
  simp only [List.cons.injEq, true_and] at h
  have e1 := scan_put (a.length + b.length) [] a (a.length + b.length + 1) 0 [] ha (by omega) (by simp)
  have e2 := scan_put (a.length + b.length) [] b (a.length + b.length + 1) 0 [] hb (by omega) (by simp)
  rw [h, e2] at e1
  rw [if_pos (by simp), if_pos (by simp)] at e1
  simp at e1
  exact e1.1.symm
end Go.Proofs.Yu
namespace Go.Proofs.Yu
open Go Go.Aw Go.Proofs
set_option linter.unusedVariables false
set_option linter.unusedSimpArgs false
set_option maxRecDepth 100000
/-! dyehouse/dyehouselaw03.works -/
namespace N29
noncomputable def cfg : Cfg := { P := Try.prog, ty := tys, E := tab [(33, N33.ent), (31, N31.ent), (30, N30.ent)], atSeq := tab [], atLoop := tab [], outs := [], eqT := tab [], bT := tab [] }
noncomputable def body : Code := bodyOf Try.f29
def c (k : Bool → Prop) : Prop :=
  (N33.f (ByteArray.mk #[34, 97, 92, 120, 52, 49, 92, 110, 34]) (fun (y0_0 : ByteArray) (y1_0 : Int) => (N31.f (ByteArray.mk #[120, 34, 97, 92, 113, 34]) (1 : Int) (fun (y0_1 : ByteArray) (y1_1 : Int) (y2_1 : Int) => (N30.f (ByteArray.mk #[97, 34, 0]) (fun (y0_2 : ByteArray) => (br (beqS y0_2 (ByteArray.mk #[34, 97, 92, 34, 92, 120, 48, 48, 34])) (br (beqS y0_0 (ByteArray.mk #[97, 65, 10])) (br (y1_0 == (0 : Int)) (br (y1_1 == (3 : Int)) (k (y2_1 == (11 : Int))) (k false)) (k false)) (k false)) (k false))))))))
def f0 (k : Bool → Prop) : Prop := c k
theorem f_ex : ∃ g : (Bool → Prop) → Prop, g = f0 := ⟨_, rfl⟩
noncomputable def f : (Bool → Prop) → Prop := Classical.choose f_ex
theorem f_def : f = f0 := Classical.choose_spec f_ex
noncomputable def JJ (k kp : D → List Blk → Prop) : Nat → St → Prop := pick none' []
noncomputable def LL (k kp : D → List Blk → Prop) : Nat → St → Prop := pick none' []
theorem c_c (k kp : D → List Blk → Prop) (J L : Nat → St → Prop) : runC cfg 1000001 J L none'' [] body (topK cfg Try.f29 k kp) (st0 Try.f29 [] []) = c (fun y0 => k (.v (.bool y0)) []) := by kernel_rfl
theorem c_ag (k kp : D → List Blk → Prop) : agPL cfg 1000001 (JJ k kp) (LL k kp) [] body = agPR cfg 1000001 none'' [] body (topK cfg Try.f29 k kp) := by kernel_rfl
theorem body_is : Try.f29.body = some body := by kernel_rfl
theorem c_raw (k kp : D → List Blk → Prop) : funW cfg Try.f29 [] [] k kp = c (fun y0 => k (.v (.bool y0)) []) :=
  Eq.mp (by kernel_rfl) ((funW_run (AG := none'') body_is (c_ag k kp) [] []).trans (c_c k kp (JJ k kp) (LL k kp)))
theorem f_eq (k kp : D → List Blk → Prop) : funW cfg Try.f29 [] [] k kp = f (fun y0 => k (.v (.bool y0)) []) := by
  rw [f_def, c_raw]; rfl
noncomputable def ent0 : Entry := fun args blks k _ => match args, blks with
  | [], [] => f (fun y0 => k (.v (.bool y0)) [])
  | _, _ => False
noncomputable def ent : Entry := fun args blks k kp => ent0 (convB [] args) blks k kp
theorem ok : EntOk Try.prog 0 0 29 ent := by
  refine EntOk.convB (EntOk.of (funW_ok (cfg := cfg) (tyOk_of rfl rfl tyL_ok) (eqOk_of (P := Try.prog) rfl rfl (by kernel_rfl)) mixed_ok (tab_ok ?_) Try.func29 (by rfl) (by rfl)) ?_) _
  · intro p hp
    simp only [List.mem_cons, List.not_mem_nil, or_false] at hp
    rcases hp with rfl | rfl | rfl
    · exact N33.ok
    · exact N31.ok
    · exact N30.ok
  · intro args blks k kp h k' kp'
    match args, blks, h with
    | [], [], h =>
    dsimp only [ent0] at h
    exact (f_eq k' kp').symm
end N29
end Go.Proofs.Yu
namespace Go.Proofs.Yu
open Go Go.Aw Go.Proofs Go.RowKit
set_option linter.unusedVariables false
set_option linter.unusedSimpArgs false

theorem get_s (x : ByteArray) (hx : x.size ≤ 1000000000000) (k : ByteArray → Int → Prop)
    (h1 : noQuote (ofBytes x) 0 → k (bytesOf []) 1)
    (h2 : ∀ t e c, ¬ noQuote (ofBytes x) 0 → scanL 64 ((ofBytes x).length + 1) ((ofBytes x).drop 1) 1 [] = (t, e, c) → (c ≠ 0 → k (bytesOf []) c) ∧ (c = 0 → e < (ofBytes x).length → k (bytesOf []) 11) ∧ (c = 0 → ¬ e < (ofBytes x).length → k (bytesOf t) 0)) : N33.f x k := by
  rw [N33.f_def]
  unfold N33.f0 N33.c
  have hn := ofBytes_length x
  refine scan_s x hx 0 _ (fun h => h1 h) (fun t e c hq hs => ?_)
  obtain ⟨a1, a2, a3⟩ := h2 t e c hq hs
  simp only [br_bne, br_dec]
  split
  · rename_i hc; subst hc
    split
    · exact a2 rfl (by omega)
    · exact a3 rfl (by omega)
  · exact a1 (by assumption)

theorem beqS_bytes {a b : List Int} (ha : ∀ x ∈ a, isB x) (hb : ∀ x ∈ b, isB x) : beqS (bytesOf a) (bytesOf b) = decide (a = b) := by
  by_cases h : a = b
  · subst h; simp [beqS_self]
  · have : beqS (bytesOf a) (bytesOf b) = false := by
      cases e : beqS (bytesOf a) (bytesOf b) with
      | false => rfl
      | true =>
        have := congrArg ofBytes ((beqS_iff _ _).1 e)
        rw [ofBytes_bytesOf ha, ofBytes_bytesOf hb] at this
        exact absurd this h
    rw [this]; simp [h]

theorem works_q (k : Bool → Prop) (h : k true) : N29.f k := by
  rw [N29.f_def]
  unfold N29.f0 N29.c
  refine get_s _ (by decide) _ (fun hq => absurd hq (by unfold noQuote; decide)) (fun t e c hq hs => ?_)
  have hR : scanL 64 10 ((ofBytes (ByteArray.mk #[34, 97, 92, 120, 52, 49, 92, 110, 34])).drop 1) 1 [] = ([97, 65, 10], 9, 0) := by decide
  rw [show (ofBytes (ByteArray.mk #[34, 97, 92, 120, 52, 49, 92, 110, 34])).length + 1 = 10 from rfl, hR] at hs
  cases hs
  refine ⟨fun h => absurd rfl h, fun _ hl => absurd hl (by decide), fun _ _ => ?_⟩
  refine scan_s _ (by decide) _ _ (fun hq => absurd hq (by unfold noQuote; decide)) (fun t e c hq hs => ?_)
  have hR : scanL 64 7 ((ofBytes (ByteArray.mk #[120, 34, 97, 92, 113, 34])).drop 2) 2 [] = ([], 3, 11) := by decide
  rw [show (ofBytes (ByteArray.mk #[120, 34, 97, 92, 113, 34])).length + 1 = 7 from rfl, show (1 : Int).toNat + 1 = 2 from rfl, show (1 : Int) + 1 = 2 from rfl, hR] at hs
  cases hs
  refine put_s_q _ (by decide) _ ?_
  rw [show qputL (ofBytes (ByteArray.mk #[97, 34, 0])) = [34, 97, 92, 34, 92, 120, 48, 48, 34] by decide]
  rw [show ByteArray.mk #[34, 97, 92, 34, 92, 120, 48, 48, 34] = bytesOf [34, 97, 92, 34, 92, 120, 48, 48, 34] from rfl, show ByteArray.mk #[97, 65, 10] = bytesOf [97, 65, 10] from rfl, beqS_self, beqS_self]
  exact h

theorem oneL_pr {c : Int} (hc : isB c) : ∀ x ∈ oneL c, 32 ≤ x ∧ x ≤ 126 := by
  unfold isB at hc
  unfold oneL
  repeat' split
  all_goals (intro x hx; simp at hx)
  · rcases hx with rfl | rfl <;> omega
  · rcases hx with rfl | rfl <;> omega
  · rcases hx with rfl | rfl <;> omega
  · omega
  · subst hx; omega
  · unfold hexL at hx
    rcases hx with rfl | rfl | rfl | rfl <;> (try split) <;> omega
theorem qputL_pr {l : List Int} (hl : ∀ x ∈ l, isB x) : ∀ x ∈ qputL l, 32 ≤ x ∧ x ≤ 126 := by
  intro x hx
  unfold qputL at hx
  simp only [List.mem_cons, List.mem_append, List.mem_flatMap, List.not_mem_nil, or_false] at hx
  rcases hx with rfl | ⟨c, hc, hx⟩ | rfl
  · omega
  · exact oneL_pr (hl c hc) x hx
  · omega
theorem qputL_isB {l : List Int} (hl : ∀ x ∈ l, isB x) : ∀ x ∈ qputL l, isB x := by
  intro x hx
  have := qputL_pr hl x hx
  exact ⟨by omega, by omega⟩
theorem qputL_len (l : List Int) : (qputL l).length ≤ 4 * l.length + 2 := by
  unfold qputL
  have := flat_len l
  simp [-List.length_flatMap]; omega

/-- What stands between quotes in a text. -/
theorem scan_within (A B l : List Int) (hl : ∀ x ∈ l, isB x) : ¬ noQuote (A ++ qputL l ++ B) (A.length : Int) ∧
    scanL 64 ((A ++ qputL l ++ B).length + 1) ((A ++ qputL l ++ B).drop (A.length + 1)) ((A.length : Int) + 1) [] =
      if l.length ≤ 64 then (l, ((A ++ qputL l).length : Int), 0) else ([], (A.length : Int) + 1 + (((l.take 64).flatMap oneL).length : Int), 3) := by
  have e : A ++ qputL l ++ B = A ++ (34 :: (l.flatMap oneL ++ 34 :: B)) := by unfold qputL; simp
  constructor
  · unfold noQuote
    rw [e]
    simp
    omega
  · have hfl : l.length ≤ (l.flatMap oneL).length := by
      clear e hl
      induction l with
      | nil => simp
      | cons c l ih =>
        rw [List.flatMap_cons, List.length_append, List.length_cons]
        have : 1 ≤ (oneL c).length := by
          unfold oneL
          repeat' split
          all_goals simp
        omega
    have ed : (A ++ qputL l ++ B).drop (A.length + 1) = l.flatMap oneL ++ 34 :: B := by
      rw [e, List.drop_append]
      simp [-List.length_flatMap]
    rw [ed, scan_put 64 B l _ _ [] hl (by rw [e]; simp [-List.length_flatMap]; omega) (by simp)]
    simp only [List.length_nil, Nat.zero_add, List.nil_append, Nat.sub_zero]
    by_cases h : l.length ≤ 64
    · rw [if_pos h, if_pos h]
      congr 2
      unfold qputL
      simp [-List.length_flatMap]
      omega
    · rw [if_neg h, if_neg h]
end Go.Proofs.Yu
namespace Go.Proofs.Yu
open Go Go.Aw Go.Proofs
set_option linter.unusedVariables false
set_option linter.unusedSimpArgs false
set_option maxRecDepth 100000
/-! dyehouse/deci.Put -/
namespace N62
noncomputable def cfg : Cfg := { P := Try.prog, ty := tys, E := tab [], atSeq := tab [(8, ⟨[(0, .keep), (3, .keep), (4, .keep), (5, .keep), (6, .keep)]⟩), (11, ⟨[(0, .keep), (3, .keep), (4, .keep)]⟩), (4, ⟨[(0, .keep), (3, .keep), (4, .keep), (5, .keep)]⟩), (14, ⟨[(3, .keep), (4, .keep)]⟩)], atLoop := tab [(5, ⟨[(0, .keep), (3, .keep), (4, .keep), (5, .keep)]⟩)], outs := [], eqT := tab [], bT := tab [] }
noncomputable def body : Code := bodyOf Try.f62
def l5 (j8 : Int → Int → Int → Int → (List Int) → Prop) (x0 : Int) (x4 : Int) (x5 : Int) (b0 : (List Int)) (k : ByteArray → Prop) : Prop :=
  (((10 : Int) ≠ 0) ∧ (br (decide ((Int.tmod x5 (10 : Int)) < (0 : Int))) (j8 x0 x4 x5 (IntKind.i64.wrap (0 - (Int.tmod x5 (10 : Int)))) b0) (j8 x0 x4 x5 (Int.tmod x5 (10 : Int)) b0)))
def j8 (j11 : Int → Int → (List Int) → Prop) (j4 : Int → Int → Int → (List Int) → Prop) (x0 : Int) (x4 : Int) (x5 : Int) (x6 : Int) (b0 : (List Int)) (k : ByteArray → Prop) : Prop :=
  ((inB 0 (IntKind.i64.wrap (x4 - (1 : Int))) (((20 : Nat) : Int) - 1)) ∧ (((10 : Int) ≠ 0) ∧ (br ((IntKind.i64.wrap (Int.tdiv x5 (10 : Int))) == (0 : Int)) (j11 x0 (IntKind.i64.wrap (x4 - (1 : Int))) (b0.set (Int.toNat (IntKind.i64.wrap (x4 - (1 : Int)))) (IntKind.u8.wrap (IntKind.i64.wrap ((48 : Int) + x6))))) (j4 x0 (IntKind.i64.wrap (x4 - (1 : Int))) x5 (b0.set (Int.toNat (IntKind.i64.wrap (x4 - (1 : Int)))) (IntKind.u8.wrap (IntKind.i64.wrap ((48 : Int) + x6))))))))
def j11 (j14 : Int → (List Int) → Prop) (x0 : Int) (x4 : Int) (b0 : (List Int)) (k : ByteArray → Prop) : Prop :=
  (br (decide (x0 < (0 : Int))) ((inB 0 (IntKind.i64.wrap (x4 - (1 : Int))) (((20 : Nat) : Int) - 1)) ∧ (j14 (IntKind.i64.wrap (x4 - (1 : Int))) (b0.set (Int.toNat (IntKind.i64.wrap (x4 - (1 : Int)))) (45 : Int)))) (j14 x4 b0))
def j4 (ag5 : Int → Int → (List Int) → Prop) (x0 : Int) (x4 : Int) (x5 : Int) (b0 : (List Int)) (k : ByteArray → Prop) : Prop :=
  (((10 : Int) ≠ 0) ∧ (ag5 x4 (IntKind.i64.wrap (Int.tdiv x5 (10 : Int))) b0))
def j14 (x4 : Int) (b0 : (List Int)) (k : ByteArray → Prop) : Prop :=
  ((inB x4 (20 : Int) (20 : Int)) ∧ (((20 : Int) ≤ ((20 : Nat) : Int)) ∧ (k (bytesOf (List.drop (Int.toNat x4) (List.take (Int.toNat (20 : Int)) b0))))))
def c (l5 : Int → Int → Int → (List Int) → Prop) (x0 : Int) (k : ByteArray → Prop) : Prop :=
  (l5 x0 (20 : Int) x0 (List.replicate 20 (0)))
def j4' (ag5 : Int → Int → (List Int) → Prop) (x0 : Int) (x4 : Int) (x5 : Int) (b0 : (List Int)) (k : ByteArray → Prop) : Prop := j4 ag5 x0 x4 x5 b0 k
def j14' (x4 : Int) (b0 : (List Int)) (k : ByteArray → Prop) : Prop := j14 x4 b0 k
def j11' (x0 : Int) (x4 : Int) (b0 : (List Int)) (k : ByteArray → Prop) : Prop := j11 (fun x4 b0 => j14' x4 b0 k) x0 x4 b0 k
def j8' (ag5 : Int → Int → (List Int) → Prop) (x0 : Int) (x4 : Int) (x5 : Int) (x6 : Int) (b0 : (List Int)) (k : ByteArray → Prop) : Prop := j8 (fun x0 x4 b0 => j11' x0 x4 b0 k) (fun x0 x4 x5 b0 => j4' ag5 x0 x4 x5 b0 k) x0 x4 x5 x6 b0 k
def l5' (x0 : Int) (x4 : Int) (x5 : Int) (b0 : (List Int)) (k : ByteArray → Prop) : Prop := ∃ n, loopS (fun (ag : (Int × Int × (List Int)) → Prop) (s : Int × Int × (List Int)) => l5 (fun x0 x4 x5 x6 b0 => j8' (fun x4 x5 b0 => ag (x4, x5, b0)) x0 x4 x5 x6 b0 k) x0 s.1 s.2.1 s.2.2 k) n (x4, x5, b0)
def f0 (x0 : Int) (k : ByteArray → Prop) : Prop := c (fun x0 x4 x5 b0 => l5' x0 x4 x5 b0 k) x0 k
theorem f_ex : ∃ g : Int → (ByteArray → Prop) → Prop, g = f0 := ⟨_, rfl⟩
noncomputable def f : Int → (ByteArray → Prop) → Prop := Classical.choose f_ex
theorem f_def : f = f0 := Classical.choose_spec f_ex
def mL5 (x0 : Int) (x4 : Int) (x5 : Int) (b0 : (List Int)) : St := { tmps := mkT 35 0 [(0, (.v (.int IntKind.i64 x0))), (3, (.ptr 0 0)), (4, (.v (.int IntKind.i64 x4))), (5, (.v (.int IntKind.i64 x5)))], hp := [(.arr 114 20 (Ty.int IntKind.u8) b0 false)], m := 0 }
def m8 (x0 : Int) (x4 : Int) (x5 : Int) (x6 : Int) (b0 : (List Int)) : St := { tmps := mkT 35 0 [(0, (.v (.int IntKind.i64 x0))), (3, (.ptr 0 0)), (4, (.v (.int IntKind.i64 x4))), (5, (.v (.int IntKind.i64 x5))), (6, (.v (.int IntKind.i64 x6)))], hp := [(.arr 114 20 (Ty.int IntKind.u8) b0 false)], m := 0 }
def m11 (x0 : Int) (x4 : Int) (b0 : (List Int)) : St := { tmps := mkT 35 0 [(0, (.v (.int IntKind.i64 x0))), (3, (.ptr 0 0)), (4, (.v (.int IntKind.i64 x4)))], hp := [(.arr 114 20 (Ty.int IntKind.u8) b0 false)], m := 0 }
def m4 (x0 : Int) (x4 : Int) (x5 : Int) (b0 : (List Int)) : St := { tmps := mkT 35 0 [(0, (.v (.int IntKind.i64 x0))), (3, (.ptr 0 0)), (4, (.v (.int IntKind.i64 x4))), (5, (.v (.int IntKind.i64 x5)))], hp := [(.arr 114 20 (Ty.int IntKind.u8) b0 false)], m := 0 }
def m14 (x4 : Int) (b0 : (List Int)) : St := { tmps := mkT 35 0 [(3, (.ptr 0 0)), (4, (.v (.int IntKind.i64 x4)))], hp := [(.arr 114 20 (Ty.int IntKind.u8) b0 false)], m := 0 }
noncomputable def YL5 (k kp : D → List Blk → Prop) : (St → Prop) → St → Prop := loopB cfg (sub [1, 1, 1, 0, 1, 0, 0] body) (contK cfg (pick none' []) [1, 1, 1, 0, 1, 0] body (topK cfg Try.f62 k kp))
noncomputable def XL5 (k kp : D → List Blk → Prop) : St → Prop := fun st => ∃ n, loopN (YL5 k kp) n st
noncomputable def X8 (k kp : D → List Blk → Prop) (ag5 : St → Prop) : St → Prop := atP cfg (pick none' [(5, ag5)]) [1, 1, 1, 0, 1, 0, 0, 0, 0, 1, 1] body (topK cfg Try.f62 k kp)
noncomputable def X11 (k kp : D → List Blk → Prop) : St → Prop := atP cfg (pick none' []) [1, 1, 1, 1] body (topK cfg Try.f62 k kp)
noncomputable def X4 (k kp : D → List Blk → Prop) (ag5 : St → Prop) : St → Prop := atP cfg (pick none' [(5, ag5)]) [1, 1, 1, 0, 1, 0, 0, 1] body (topK cfg Try.f62 k kp)
noncomputable def X14 (k kp : D → List Blk → Prop) : St → Prop := atP cfg (pick none' []) [1, 1, 1, 1, 1] body (topK cfg Try.f62 k kp)
noncomputable def JJ_5 (k kp : D → List Blk → Prop) (ag5 : St → Prop) : Nat → St → Prop := pick none' [(8, X8 k kp ag5), (11, X11 k kp), (4, X4 k kp ag5), (14, X14 k kp)]
noncomputable def LL_5 (k kp : D → List Blk → Prop) (ag5 : St → Prop) : Nat → St → Prop := pick none' [(5, XL5 k kp)]
noncomputable def JJ (k kp : D → List Blk → Prop) : Nat → St → Prop := pick none' [(11, X11 k kp), (14, X14 k kp)]
noncomputable def LL (k kp : D → List Blk → Prop) : Nat → St → Prop := pick none' [(5, XL5 k kp)]
theorem j4_c (k kp : D → List Blk → Prop) (J L : Nat → St → Prop) (ag5 : St → Prop) (x0 : Int) (x4 : Int) (x5 : Int) (b0 : (List Int)) : runC cfg 4 J L (pick none' [(5, ag5)]) [1, 1, 1, 0, 1, 0, 0, 1] body (topK cfg Try.f62 k kp) (m4 x0 x4 x5 b0) = j4 (fun x4 x5 b0 => ag5 (mL5 x0 x4 x5 b0)) x0 x4 x5 b0 (fun y0 => k (.v (.string y0)) []) := by kernel_rfl
theorem j4_ag (k kp : D → List Blk → Prop) (ag5 : St → Prop) : agPL cfg 4 (JJ_5 k kp ag5) (LL_5 k kp ag5) [1, 1, 1, 0, 1, 0, 0, 1] body = agPR cfg 4 (pick none' [(5, ag5)]) [1, 1, 1, 0, 1, 0, 0, 1] body (topK cfg Try.f62 k kp) := by kernel_rfl
theorem j4_raw (k kp : D → List Blk → Prop) (ag5 : St → Prop) (x0 : Int) (x4 : Int) (x5 : Int) (b0 : (List Int)) : X4 k kp ag5 (m4 x0 x4 x5 b0) = j4 (fun x4 x5 b0 => ag5 (mL5 x0 x4 x5 b0)) x0 x4 x5 b0 (fun y0 => k (.v (.string y0)) []) :=
  Eq.mp (by kernel_rfl) ((atP_run (j4_ag k kp ag5) (m4 x0 x4 x5 b0)).trans (j4_c k kp (JJ_5 k kp ag5) (LL_5 k kp ag5) ag5 x0 x4 x5 b0))
theorem j4_eq (k kp : D → List Blk → Prop) (ag5 : St → Prop) (x0 : Int) (x4 : Int) (x5 : Int) (b0 : (List Int)) : X4 k kp ag5 (m4 x0 x4 x5 b0) = j4' (fun x4 x5 b0 => ag5 (mL5 x0 x4 x5 b0)) x0 x4 x5 b0 (fun y0 => k (.v (.string y0)) []) := by
  rw [j4_raw]; rfl
theorem j14_c (k kp : D → List Blk → Prop) (J L : Nat → St → Prop) (x4 : Int) (b0 : (List Int)) : runC cfg 14 J L (pick none' []) [1, 1, 1, 1, 1] body (topK cfg Try.f62 k kp) (m14 x4 b0) = j14 x4 b0 (fun y0 => k (.v (.string y0)) []) := by kernel_rfl
theorem j14_ag (k kp : D → List Blk → Prop) : agPL cfg 14 (JJ k kp) (LL k kp) [1, 1, 1, 1, 1] body = agPR cfg 14 (pick none' []) [1, 1, 1, 1, 1] body (topK cfg Try.f62 k kp) := by kernel_rfl
theorem j14_raw (k kp : D → List Blk → Prop) (x4 : Int) (b0 : (List Int)) : X14 k kp (m14 x4 b0) = j14 x4 b0 (fun y0 => k (.v (.string y0)) []) :=
  Eq.mp (by kernel_rfl) ((atP_run (j14_ag k kp) (m14 x4 b0)).trans (j14_c k kp (JJ k kp) (LL k kp) x4 b0))
theorem j14_eq (k kp : D → List Blk → Prop) (x4 : Int) (b0 : (List Int)) : X14 k kp (m14 x4 b0) = j14' x4 b0 (fun y0 => k (.v (.string y0)) []) := by
  rw [j14_raw]; rfl
theorem j11_c (k kp : D → List Blk → Prop) (J L : Nat → St → Prop) (x0 : Int) (x4 : Int) (b0 : (List Int)) : runC cfg 11 J L (pick none' []) [1, 1, 1, 1] body (topK cfg Try.f62 k kp) (m11 x0 x4 b0) = j11 (fun x4 b0 => J 14 (m14 x4 b0)) x0 x4 b0 (fun y0 => k (.v (.string y0)) []) := by kernel_rfl
theorem j11_ag (k kp : D → List Blk → Prop) : agPL cfg 11 (JJ k kp) (LL k kp) [1, 1, 1, 1] body = agPR cfg 11 (pick none' []) [1, 1, 1, 1] body (topK cfg Try.f62 k kp) := by kernel_rfl
theorem j11_raw (k kp : D → List Blk → Prop) (x0 : Int) (x4 : Int) (b0 : (List Int)) : X11 k kp (m11 x0 x4 b0) = j11 (fun x4 b0 => X14 k kp (m14 x4 b0)) x0 x4 b0 (fun y0 => k (.v (.string y0)) []) :=
  Eq.mp (by kernel_rfl) ((atP_run (j11_ag k kp) (m11 x0 x4 b0)).trans (j11_c k kp (JJ k kp) (LL k kp) x0 x4 b0))
theorem j11_eq (k kp : D → List Blk → Prop) (x0 : Int) (x4 : Int) (b0 : (List Int)) : X11 k kp (m11 x0 x4 b0) = j11' x0 x4 b0 (fun y0 => k (.v (.string y0)) []) := by
  rw [j11_raw]; simp only [j14_eq]; first | done | rfl
theorem j8_c (k kp : D → List Blk → Prop) (J L : Nat → St → Prop) (ag5 : St → Prop) (x0 : Int) (x4 : Int) (x5 : Int) (x6 : Int) (b0 : (List Int)) : runC cfg 8 J L (pick none' [(5, ag5)]) [1, 1, 1, 0, 1, 0, 0, 0, 0, 1, 1] body (topK cfg Try.f62 k kp) (m8 x0 x4 x5 x6 b0) = j8 (fun x0 x4 b0 => J 11 (m11 x0 x4 b0)) (fun x0 x4 x5 b0 => J 4 (m4 x0 x4 x5 b0)) x0 x4 x5 x6 b0 (fun y0 => k (.v (.string y0)) []) := by kernel_rfl
theorem j8_ag (k kp : D → List Blk → Prop) (ag5 : St → Prop) : agPL cfg 8 (JJ_5 k kp ag5) (LL_5 k kp ag5) [1, 1, 1, 0, 1, 0, 0, 0, 0, 1, 1] body = agPR cfg 8 (pick none' [(5, ag5)]) [1, 1, 1, 0, 1, 0, 0, 0, 0, 1, 1] body (topK cfg Try.f62 k kp) := by kernel_rfl
theorem j8_raw (k kp : D → List Blk → Prop) (ag5 : St → Prop) (x0 : Int) (x4 : Int) (x5 : Int) (x6 : Int) (b0 : (List Int)) : X8 k kp ag5 (m8 x0 x4 x5 x6 b0) = j8 (fun x0 x4 b0 => X11 k kp (m11 x0 x4 b0)) (fun x0 x4 x5 b0 => X4 k kp ag5 (m4 x0 x4 x5 b0)) x0 x4 x5 x6 b0 (fun y0 => k (.v (.string y0)) []) :=
  Eq.mp (by kernel_rfl) ((atP_run (j8_ag k kp ag5) (m8 x0 x4 x5 x6 b0)).trans (j8_c k kp (JJ_5 k kp ag5) (LL_5 k kp ag5) ag5 x0 x4 x5 x6 b0))
theorem j8_eq (k kp : D → List Blk → Prop) (ag5 : St → Prop) (x0 : Int) (x4 : Int) (x5 : Int) (x6 : Int) (b0 : (List Int)) : X8 k kp ag5 (m8 x0 x4 x5 x6 b0) = j8' (fun x4 x5 b0 => ag5 (mL5 x0 x4 x5 b0)) x0 x4 x5 x6 b0 (fun y0 => k (.v (.string y0)) []) := by
  rw [j8_raw]; simp only [j11_eq, j4_eq]; first | done | rfl
theorem l5_c (k kp : D → List Blk → Prop) (J L : Nat → St → Prop) (ag5 : St → Prop) (x0 : Int) (x4 : Int) (x5 : Int) (b0 : (List Int)) : runC cfg 1000001 J L (pick none' [(5, ag5)]) [1, 1, 1, 0, 1, 0, 0] body (topK cfg Try.f62 k kp) (mL5 x0 x4 x5 b0) = l5 (fun x0 x4 x5 x6 b0 => J 8 (m8 x0 x4 x5 x6 b0)) x0 x4 x5 b0 (fun y0 => k (.v (.string y0)) []) := by kernel_rfl
theorem l5_ag (k kp : D → List Blk → Prop) (ag5 : St → Prop) : agPL cfg 1000001 (JJ_5 k kp ag5) (LL_5 k kp ag5) [1, 1, 1, 0, 1, 0, 0] body = agPR cfg 1000001 (pick none' [(5, ag5)]) [1, 1, 1, 0, 1, 0, 0] body (topK cfg Try.f62 k kp) := by kernel_rfl
theorem l5_raw (k kp : D → List Blk → Prop) (ag5 : St → Prop) (x0 : Int) (x4 : Int) (x5 : Int) (b0 : (List Int)) : YL5 k kp ag5 (mL5 x0 x4 x5 b0) = l5 (fun x0 x4 x5 x6 b0 => X8 k kp ag5 (m8 x0 x4 x5 x6 b0)) x0 x4 x5 b0 (fun y0 => k (.v (.string y0)) []) :=
  Eq.mp (by kernel_rfl) ((atP_run (l5_ag k kp ag5) (mL5 x0 x4 x5 b0)).trans (l5_c k kp (JJ_5 k kp ag5) (LL_5 k kp ag5) ag5 x0 x4 x5 b0))
theorem l5_eq (k kp : D → List Blk → Prop) (x0 : Int) (x4 : Int) (x5 : Int) (b0 : (List Int)) : XL5 k kp (mL5 x0 x4 x5 b0) = l5' x0 x4 x5 b0 (fun y0 => k (.v (.string y0)) []) :=
  loop_eq (mk := fun (s : Int × Int × (List Int)) => mL5 x0 s.1 s.2.1 s.2.2) (fun again s => by rw [l5_raw k kp again x0 s.1 s.2.1 s.2.2]; simp only [j8_eq]; first | done | rfl) (x4, x5, b0)
theorem c_c (k kp : D → List Blk → Prop) (J L : Nat → St → Prop) (x0 : Int) : runC cfg 1000001 J L none'' [] body (topK cfg Try.f62 k kp) (st0 Try.f62 [(.v (.int IntKind.i64 x0))] []) = c (fun x0 x4 x5 b0 => L 5 (mL5 x0 x4 x5 b0)) x0 (fun y0 => k (.v (.string y0)) []) := by kernel_rfl
theorem c_ag (k kp : D → List Blk → Prop) : agPL cfg 1000001 (JJ k kp) (LL k kp) [] body = agPR cfg 1000001 none'' [] body (topK cfg Try.f62 k kp) := by kernel_rfl
theorem body_is : Try.f62.body = some body := by kernel_rfl
theorem c_raw (k kp : D → List Blk → Prop) (x0 : Int) : funW cfg Try.f62 [(.v (.int IntKind.i64 x0))] [] k kp = c (fun x0 x4 x5 b0 => XL5 k kp (mL5 x0 x4 x5 b0)) x0 (fun y0 => k (.v (.string y0)) []) :=
  Eq.mp (by kernel_rfl) ((funW_run (AG := none'') body_is (c_ag k kp) [(.v (.int IntKind.i64 x0))] []).trans (c_c k kp (JJ k kp) (LL k kp) x0))
theorem f_eq (k kp : D → List Blk → Prop) (x0 : Int) : funW cfg Try.f62 [(.v (.int IntKind.i64 x0))] [] k kp = f x0 (fun y0 => k (.v (.string y0)) []) := by
  rw [f_def, c_raw]; simp only [l5_eq]; first | done | rfl
noncomputable def ent0 : Entry := fun args blks k _ => match args, blks with
  | [d0], [] => aInt IntKind.i64 d0 fun x0 => f x0 (fun y0 => k (.v (.string y0)) [])
  | _, _ => False
noncomputable def ent : Entry := fun args blks k kp => ent0 (convB [.no] args) blks k kp
theorem ok : EntOk Try.prog 0 0 62 ent := by
  refine EntOk.convB (EntOk.of (funW_ok (cfg := cfg) (tyOk_of rfl rfl tyL_ok) (eqOk_of (P := Try.prog) rfl rfl (by kernel_rfl)) mixed_ok (tab_ok ?_) Try.func62 (by rfl) (by rfl)) ?_) _
  · intro p hp
    cases hp
  · intro args blks k kp h k' kp'
    match args, blks, h with
    | [d0], [], h =>
    dsimp only [ent0] at h
    have h9 := aInt_elim h; clear h; obtain ⟨x0, rfl, h⟩ := h9
    exact (f_eq k' kp' x0).symm
end N62
end Go.Proofs.Yu
namespace Go.Proofs.Yu
open Go Go.Aw Go.Proofs
set_option linter.unusedVariables false
set_option linter.unusedSimpArgs false
set_option maxRecDepth 100000
/-! dyehouse/dyehouseref02.digits -/
namespace N84
noncomputable def cfg : Cfg := { P := Try.prog, ty := tys, E := tab [], atSeq := tab [(3, ⟨[(0, .keep), (3, .keep)]⟩), (5, ⟨[(3, .keep)]⟩)], atLoop := tab [(2, ⟨[(0, .keep), (3, .own 5 (Ty.int IntKind.u8))]⟩)], outs := [], eqT := tab [], bT := tab [] }
noncomputable def body : Code := bodyOf Try.f84
def l2 (j3 : Int → (List Int) → Prop) (j5 : (List Int) → Prop) (x0 : Int) (b0 : (List Int)) (k : (List Int) → Prop) : Prop :=
  (br (decide (x0 > (0 : Int))) (j3 x0 b0) (br (((((b0).length : Nat) : Int)) == (0 : Int)) (j3 x0 b0) (j5 b0)))
def j3 (ag2 : Int → (List Int) → Prop) (x0 : Int) (b0 : (List Int)) (k : (List Int) → Prop) : Prop :=
  (((10 : Int) ≠ 0) ∧ ((room ((b0).length + (([(IntKind.u8.wrap (IntKind.u64.wrap ((48 : Int) + (Int.tmod x0 (10 : Int)))))] : List Int)).length) 1) ∧ (((10 : Int) ≠ 0) ∧ (ag2 (IntKind.u64.wrap (Int.tdiv x0 (10 : Int))) (b0 ++ ([(IntKind.u8.wrap (IntKind.u64.wrap ((48 : Int) + (Int.tmod x0 (10 : Int)))))] : List Int))))))
def j5 (b0 : (List Int)) (k : (List Int) → Prop) : Prop :=
  (k b0)
def c (l2 : Int → (List Int) → Prop) (x0 : Int) (k : (List Int) → Prop) : Prop :=
  (l2 x0 ([] : List Int))
def j3' (ag2 : Int → (List Int) → Prop) (x0 : Int) (b0 : (List Int)) (k : (List Int) → Prop) : Prop := j3 ag2 x0 b0 k
def j5' (b0 : (List Int)) (k : (List Int) → Prop) : Prop := j5 b0 k
def l2' (x0 : Int) (b0 : (List Int)) (k : (List Int) → Prop) : Prop := ∃ n, loopS (fun (ag : (Int × (List Int)) → Prop) (s : Int × (List Int)) => l2 (fun x0 b0 => j3' (fun x0 b0 => ag (x0, b0)) x0 b0 k) (fun b0 => j5' b0 k) s.1 s.2 k) n (x0, b0)
def f0 (x0 : Int) (k : (List Int) → Prop) : Prop := c (fun x0 b0 => l2' x0 b0 k) x0 k
theorem f_ex : ∃ g : Int → ((List Int) → Prop) → Prop, g = f0 := ⟨_, rfl⟩
noncomputable def f : Int → ((List Int) → Prop) → Prop := Classical.choose f_ex
theorem f_def : f = f0 := Classical.choose_spec f_ex
def mL2 (x0 : Int) (b0 : (List Int)) : St := { tmps := mkT 21 0 [(0, (.v (.int IntKind.u64 x0))), (3, (.sl 0 0))], hp := [(.lst 5 (Ty.int IntKind.u8) b0 0 false)], m := 0 }
def m3 (x0 : Int) (b0 : (List Int)) : St := { tmps := mkT 21 0 [(0, (.v (.int IntKind.u64 x0))), (3, (.sl 0 0))], hp := [(.lst 5 (Ty.int IntKind.u8) b0 0 false)], m := 0 }
def m5 (b0 : (List Int)) : St := { tmps := mkT 21 0 [(3, (.sl 0 0))], hp := [(.lst 5 (Ty.int IntKind.u8) b0 0 false)], m := 0 }
noncomputable def YL2 (k kp : D → List Blk → Prop) : (St → Prop) → St → Prop := loopB cfg (sub [1, 1, 0, 0, 0] body) (contK cfg (pick none' []) [1, 1, 0, 0] body (topK cfg Try.f84 k kp))
noncomputable def XL2 (k kp : D → List Blk → Prop) : St → Prop := fun st => ∃ n, loopN (YL2 k kp) n st
noncomputable def X3 (k kp : D → List Blk → Prop) (ag2 : St → Prop) : St → Prop := atP cfg (pick none' [(2, ag2)]) [1, 1, 0, 0, 0, 1] body (topK cfg Try.f84 k kp)
noncomputable def X5 (k kp : D → List Blk → Prop) : St → Prop := atP cfg (pick none' []) [1, 1, 1] body (topK cfg Try.f84 k kp)
noncomputable def JJ_2 (k kp : D → List Blk → Prop) (ag2 : St → Prop) : Nat → St → Prop := pick none' [(3, X3 k kp ag2), (5, X5 k kp)]
noncomputable def LL_2 (k kp : D → List Blk → Prop) (ag2 : St → Prop) : Nat → St → Prop := pick none' [(2, XL2 k kp)]
noncomputable def JJ (k kp : D → List Blk → Prop) : Nat → St → Prop := pick none' [(5, X5 k kp)]
noncomputable def LL (k kp : D → List Blk → Prop) : Nat → St → Prop := pick none' [(2, XL2 k kp)]
theorem j3_c (k kp : D → List Blk → Prop) (J L : Nat → St → Prop) (ag2 : St → Prop) (x0 : Int) (b0 : (List Int)) : runC cfg 3 J L (pick none' [(2, ag2)]) [1, 1, 0, 0, 0, 1] body (topK cfg Try.f84 k kp) (m3 x0 b0) = j3 (fun x0 b0 => ag2 (mL2 x0 b0)) x0 b0 (fun z0 => k (.sl 0 0) [(.lst 5 (Ty.int IntKind.u8) z0 0 false)]) := by kernel_rfl
theorem j3_ag (k kp : D → List Blk → Prop) (ag2 : St → Prop) : agPL cfg 3 (JJ_2 k kp ag2) (LL_2 k kp ag2) [1, 1, 0, 0, 0, 1] body = agPR cfg 3 (pick none' [(2, ag2)]) [1, 1, 0, 0, 0, 1] body (topK cfg Try.f84 k kp) := by kernel_rfl
theorem j3_raw (k kp : D → List Blk → Prop) (ag2 : St → Prop) (x0 : Int) (b0 : (List Int)) : X3 k kp ag2 (m3 x0 b0) = j3 (fun x0 b0 => ag2 (mL2 x0 b0)) x0 b0 (fun z0 => k (.sl 0 0) [(.lst 5 (Ty.int IntKind.u8) z0 0 false)]) :=
  Eq.mp (by kernel_rfl) ((atP_run (j3_ag k kp ag2) (m3 x0 b0)).trans (j3_c k kp (JJ_2 k kp ag2) (LL_2 k kp ag2) ag2 x0 b0))
theorem j3_eq (k kp : D → List Blk → Prop) (ag2 : St → Prop) (x0 : Int) (b0 : (List Int)) : X3 k kp ag2 (m3 x0 b0) = j3' (fun x0 b0 => ag2 (mL2 x0 b0)) x0 b0 (fun z0 => k (.sl 0 0) [(.lst 5 (Ty.int IntKind.u8) z0 0 false)]) := by
  rw [j3_raw]; rfl
theorem j5_c (k kp : D → List Blk → Prop) (J L : Nat → St → Prop) (b0 : (List Int)) : runC cfg 5 J L (pick none' []) [1, 1, 1] body (topK cfg Try.f84 k kp) (m5 b0) = j5 b0 (fun z0 => k (.sl 0 0) [(.lst 5 (Ty.int IntKind.u8) z0 0 false)]) := by kernel_rfl
theorem j5_ag (k kp : D → List Blk → Prop) : agPL cfg 5 (JJ k kp) (LL k kp) [1, 1, 1] body = agPR cfg 5 (pick none' []) [1, 1, 1] body (topK cfg Try.f84 k kp) := by kernel_rfl
theorem j5_raw (k kp : D → List Blk → Prop) (b0 : (List Int)) : X5 k kp (m5 b0) = j5 b0 (fun z0 => k (.sl 0 0) [(.lst 5 (Ty.int IntKind.u8) z0 0 false)]) :=
  Eq.mp (by kernel_rfl) ((atP_run (j5_ag k kp) (m5 b0)).trans (j5_c k kp (JJ k kp) (LL k kp) b0))
theorem j5_eq (k kp : D → List Blk → Prop) (b0 : (List Int)) : X5 k kp (m5 b0) = j5' b0 (fun z0 => k (.sl 0 0) [(.lst 5 (Ty.int IntKind.u8) z0 0 false)]) := by
  rw [j5_raw]; rfl
theorem l2_c (k kp : D → List Blk → Prop) (J L : Nat → St → Prop) (ag2 : St → Prop) (x0 : Int) (b0 : (List Int)) : runC cfg 1000001 J L (pick none' [(2, ag2)]) [1, 1, 0, 0, 0] body (topK cfg Try.f84 k kp) (mL2 x0 b0) = l2 (fun x0 b0 => J 3 (m3 x0 b0)) (fun b0 => J 5 (m5 b0)) x0 b0 (fun z0 => k (.sl 0 0) [(.lst 5 (Ty.int IntKind.u8) z0 0 false)]) := by kernel_rfl
theorem l2_ag (k kp : D → List Blk → Prop) (ag2 : St → Prop) : agPL cfg 1000001 (JJ_2 k kp ag2) (LL_2 k kp ag2) [1, 1, 0, 0, 0] body = agPR cfg 1000001 (pick none' [(2, ag2)]) [1, 1, 0, 0, 0] body (topK cfg Try.f84 k kp) := by kernel_rfl
theorem l2_raw (k kp : D → List Blk → Prop) (ag2 : St → Prop) (x0 : Int) (b0 : (List Int)) : YL2 k kp ag2 (mL2 x0 b0) = l2 (fun x0 b0 => X3 k kp ag2 (m3 x0 b0)) (fun b0 => X5 k kp (m5 b0)) x0 b0 (fun z0 => k (.sl 0 0) [(.lst 5 (Ty.int IntKind.u8) z0 0 false)]) :=
  Eq.mp (by kernel_rfl) ((atP_run (l2_ag k kp ag2) (mL2 x0 b0)).trans (l2_c k kp (JJ_2 k kp ag2) (LL_2 k kp ag2) ag2 x0 b0))
theorem l2_eq (k kp : D → List Blk → Prop) (x0 : Int) (b0 : (List Int)) : XL2 k kp (mL2 x0 b0) = l2' x0 b0 (fun z0 => k (.sl 0 0) [(.lst 5 (Ty.int IntKind.u8) z0 0 false)]) :=
  loop_eq (mk := fun (s : Int × (List Int)) => mL2 s.1 s.2) (fun again s => by rw [l2_raw k kp again s.1 s.2]; simp only [j3_eq, j5_eq]; first | done | rfl) (x0, b0)
theorem c_c (k kp : D → List Blk → Prop) (J L : Nat → St → Prop) (x0 : Int) : runC cfg 1000001 J L none'' [] body (topK cfg Try.f84 k kp) (st0 Try.f84 [(.v (.int IntKind.u64 x0))] []) = c (fun x0 b0 => L 2 (mL2 x0 b0)) x0 (fun z0 => k (.sl 0 0) [(.lst 5 (Ty.int IntKind.u8) z0 0 false)]) := by kernel_rfl
theorem c_ag (k kp : D → List Blk → Prop) : agPL cfg 1000001 (JJ k kp) (LL k kp) [] body = agPR cfg 1000001 none'' [] body (topK cfg Try.f84 k kp) := by kernel_rfl
theorem body_is : Try.f84.body = some body := by kernel_rfl
theorem c_raw (k kp : D → List Blk → Prop) (x0 : Int) : funW cfg Try.f84 [(.v (.int IntKind.u64 x0))] [] k kp = c (fun x0 b0 => XL2 k kp (mL2 x0 b0)) x0 (fun z0 => k (.sl 0 0) [(.lst 5 (Ty.int IntKind.u8) z0 0 false)]) :=
  Eq.mp (by kernel_rfl) ((funW_run (AG := none'') body_is (c_ag k kp) [(.v (.int IntKind.u64 x0))] []).trans (c_c k kp (JJ k kp) (LL k kp) x0))
theorem f_eq (k kp : D → List Blk → Prop) (x0 : Int) : funW cfg Try.f84 [(.v (.int IntKind.u64 x0))] [] k kp = f x0 (fun z0 => k (.sl 0 0) [(.lst 5 (Ty.int IntKind.u8) z0 0 false)]) := by
  rw [f_def, c_raw]; simp only [l2_eq]; first | done | rfl
noncomputable def ent0 : Entry := fun args blks k _ => match args, blks with
  | [d0], [] => aInt IntKind.u64 d0 fun x0 => f x0 (fun z0 => k (.sl 0 0) [(.lst 5 (Ty.int IntKind.u8) z0 0 false)])
  | _, _ => False
noncomputable def ent : Entry := fun args blks k kp => ent0 (convB [.no] args) blks k kp
theorem ok : EntOk Try.prog 0 0 84 ent := by
  refine EntOk.convB (EntOk.of (funW_ok (cfg := cfg) (tyOk_of rfl rfl tyL_ok) (eqOk_of (P := Try.prog) rfl rfl (by kernel_rfl)) mixed_ok (tab_ok ?_) Try.func84 (by rfl) (by rfl)) ?_) _
  · intro p hp
    cases hp
  · intro args blks k kp h k' kp'
    match args, blks, h with
    | [d0], [], h =>
    dsimp only [ent0] at h
    have h9 := aInt_elim h; clear h; obtain ⟨x0, rfl, h⟩ := h9
    exact (f_eq k' kp' x0).symm
end N84
end Go.Proofs.Yu
namespace Go.Proofs.Yu
open Go Go.Aw Go.Proofs
set_option linter.unusedVariables false
set_option linter.unusedSimpArgs false
set_option maxRecDepth 100000
/-! dyehouse/dyehouseref02.Put -/
namespace N63
noncomputable def cfg : Cfg := { P := Try.prog, ty := tys, E := tab [(84, N84.ent)], atSeq := tab [(6, ⟨[(3, .keep), (4, .keep)]⟩), (11, ⟨[(4, .keep)]⟩)], atLoop := tab [(8, ⟨[(4, .keep), (5, .keep), (6, .keep)]⟩)], outs := [], eqT := tab [], bT := tab [] }
noncomputable def body : Code := bodyOf Try.f63
def j6 (l8 : ByteArray → Int → (List Int) → Prop) (x3 : Int) (x4 : ByteArray) (k : ByteArray → Prop) : Prop :=
  (N84.f x3 (fun (z0_0 : (List Int)) => (l8 x4 (IntKind.i64.wrap (((((z0_0).length : Nat) : Int)) - (1 : Int))) z0_0)))
def l8 (j11 : ByteArray → Prop) (ag8 : ByteArray → Int → (List Int) → Prop) (x4 : ByteArray) (x6 : Int) (b0 : (List Int)) (k : ByteArray → Prop) : Prop :=
  (br (decide (x6 ≥ (0 : Int))) ((inB 0 x6 ((((b0).length : Nat) : Int) - 1)) ∧ (((x4).size + ((bytesOf ([(b0.getD (Int.toNat x6) (0))] : List Int))).size ≤ 9223372036854775807) ∧ (ag8 (x4 ++ (bytesOf ([(b0.getD (Int.toNat x6) (0))] : List Int))) (IntKind.i64.wrap (x6 - (1 : Int))) b0))) (j11 x4))
def j11 (x4 : ByteArray) (k : ByteArray → Prop) : Prop :=
  (k x4)
def c (j6 : Int → ByteArray → Prop) (x0 : Int) (k : ByteArray → Prop) : Prop :=
  (br (decide (x0 < (0 : Int))) (j6 (IntKind.u64.wrap (0 - (IntKind.u64.wrap x0))) (ByteArray.mk #[45])) (j6 (IntKind.u64.wrap x0) (ByteArray.mk #[])))
def j11' (x4 : ByteArray) (k : ByteArray → Prop) : Prop := j11 x4 k
def l8' (x4 : ByteArray) (x6 : Int) (b0 : (List Int)) (k : ByteArray → Prop) : Prop := ∃ n, loopS (fun (ag : (ByteArray × Int × (List Int)) → Prop) (s : ByteArray × Int × (List Int)) => l8 (fun x4 => j11' x4 k) (fun x4 x6 b0 => ag (x4, x6, b0)) s.1 s.2.1 s.2.2 k) n (x4, x6, b0)
def j6' (x3 : Int) (x4 : ByteArray) (k : ByteArray → Prop) : Prop := j6 (fun x4 x6 b0 => l8' x4 x6 b0 k) x3 x4 k
def f0 (x0 : Int) (k : ByteArray → Prop) : Prop := c (fun x3 x4 => j6' x3 x4 k) x0 k
theorem f_ex : ∃ g : Int → (ByteArray → Prop) → Prop, g = f0 := ⟨_, rfl⟩
noncomputable def f : Int → (ByteArray → Prop) → Prop := Classical.choose f_ex
theorem f_def : f = f0 := Classical.choose_spec f_ex
def m6 (x3 : Int) (x4 : ByteArray) : St := { tmps := mkT 31 0 [(3, (.v (.int IntKind.u64 x3))), (4, (.v (.string x4)))], hp := [], m := 0 }
def mL8 (x4 : ByteArray) (x6 : Int) (b0 : (List Int)) : St := { tmps := mkT 31 0 [(4, (.v (.string x4))), (5, (.sl 0 0)), (6, (.v (.int IntKind.i64 x6)))], hp := [(.lst 5 (Ty.int IntKind.u8) b0 0 false)], m := 0 }
def m11 (x4 : ByteArray) : St := { tmps := mkT 31 0 [(4, (.v (.string x4)))], hp := [], m := 0 }
noncomputable def X6 (k kp : D → List Blk → Prop) : St → Prop := atP cfg (pick none' []) [1, 1, 1, 1] body (topK cfg Try.f63 k kp)
noncomputable def YL8 (k kp : D → List Blk → Prop) : (St → Prop) → St → Prop := loopB cfg (sub [1, 1, 1, 1, 1, 0, 1, 0, 0] body) (contK cfg (pick none' []) [1, 1, 1, 1, 1, 0, 1, 0] body (topK cfg Try.f63 k kp))
noncomputable def XL8 (k kp : D → List Blk → Prop) : St → Prop := fun st => ∃ n, loopN (YL8 k kp) n st
noncomputable def X11 (k kp : D → List Blk → Prop) : St → Prop := atP cfg (pick none' []) [1, 1, 1, 1, 1, 1] body (topK cfg Try.f63 k kp)
noncomputable def JJ (k kp : D → List Blk → Prop) : Nat → St → Prop := pick none' [(6, X6 k kp), (11, X11 k kp)]
noncomputable def LL (k kp : D → List Blk → Prop) : Nat → St → Prop := pick none' [(8, XL8 k kp)]
noncomputable def JJ_8 (k kp : D → List Blk → Prop) (ag8 : St → Prop) : Nat → St → Prop := pick none' [(6, X6 k kp), (11, X11 k kp)]
noncomputable def LL_8 (k kp : D → List Blk → Prop) (ag8 : St → Prop) : Nat → St → Prop := pick none' [(8, XL8 k kp)]
theorem j11_c (k kp : D → List Blk → Prop) (J L : Nat → St → Prop) (x4 : ByteArray) : runC cfg 11 J L (pick none' []) [1, 1, 1, 1, 1, 1] body (topK cfg Try.f63 k kp) (m11 x4) = j11 x4 (fun y0 => k (.v (.string y0)) []) := by kernel_rfl
theorem j11_ag (k kp : D → List Blk → Prop) : agPL cfg 11 (JJ k kp) (LL k kp) [1, 1, 1, 1, 1, 1] body = agPR cfg 11 (pick none' []) [1, 1, 1, 1, 1, 1] body (topK cfg Try.f63 k kp) := by kernel_rfl
theorem j11_raw (k kp : D → List Blk → Prop) (x4 : ByteArray) : X11 k kp (m11 x4) = j11 x4 (fun y0 => k (.v (.string y0)) []) :=
  Eq.mp (by kernel_rfl) ((atP_run (j11_ag k kp) (m11 x4)).trans (j11_c k kp (JJ k kp) (LL k kp) x4))
theorem j11_eq (k kp : D → List Blk → Prop) (x4 : ByteArray) : X11 k kp (m11 x4) = j11' x4 (fun y0 => k (.v (.string y0)) []) := by
  rw [j11_raw]; rfl
theorem l8_c (k kp : D → List Blk → Prop) (J L : Nat → St → Prop) (ag8 : St → Prop) (x4 : ByteArray) (x6 : Int) (b0 : (List Int)) : runC cfg 1000001 J L (pick none' [(8, ag8)]) [1, 1, 1, 1, 1, 0, 1, 0, 0] body (topK cfg Try.f63 k kp) (mL8 x4 x6 b0) = l8 (fun x4 => J 11 (m11 x4)) (fun x4 x6 b0 => ag8 (mL8 x4 x6 b0)) x4 x6 b0 (fun y0 => k (.v (.string y0)) []) := by kernel_rfl
theorem l8_ag (k kp : D → List Blk → Prop) (ag8 : St → Prop) : agPL cfg 1000001 (JJ_8 k kp ag8) (LL_8 k kp ag8) [1, 1, 1, 1, 1, 0, 1, 0, 0] body = agPR cfg 1000001 (pick none' [(8, ag8)]) [1, 1, 1, 1, 1, 0, 1, 0, 0] body (topK cfg Try.f63 k kp) := by kernel_rfl
theorem l8_raw (k kp : D → List Blk → Prop) (ag8 : St → Prop) (x4 : ByteArray) (x6 : Int) (b0 : (List Int)) : YL8 k kp ag8 (mL8 x4 x6 b0) = l8 (fun x4 => X11 k kp (m11 x4)) (fun x4 x6 b0 => ag8 (mL8 x4 x6 b0)) x4 x6 b0 (fun y0 => k (.v (.string y0)) []) :=
  Eq.mp (by kernel_rfl) ((atP_run (l8_ag k kp ag8) (mL8 x4 x6 b0)).trans (l8_c k kp (JJ_8 k kp ag8) (LL_8 k kp ag8) ag8 x4 x6 b0))
theorem l8_eq (k kp : D → List Blk → Prop) (x4 : ByteArray) (x6 : Int) (b0 : (List Int)) : XL8 k kp (mL8 x4 x6 b0) = l8' x4 x6 b0 (fun y0 => k (.v (.string y0)) []) :=
  loop_eq (mk := fun (s : ByteArray × Int × (List Int)) => mL8 s.1 s.2.1 s.2.2) (fun again s => by rw [l8_raw k kp again s.1 s.2.1 s.2.2]; simp only [j11_eq]; first | done | rfl) (x4, x6, b0)
theorem j6_c (k kp : D → List Blk → Prop) (J L : Nat → St → Prop) (x3 : Int) (x4 : ByteArray) : runC cfg 6 J L (pick none' []) [1, 1, 1, 1] body (topK cfg Try.f63 k kp) (m6 x3 x4) = j6 (fun x4 x6 b0 => L 8 (mL8 x4 x6 b0)) x3 x4 (fun y0 => k (.v (.string y0)) []) := by kernel_rfl
theorem j6_ag (k kp : D → List Blk → Prop) : agPL cfg 6 (JJ k kp) (LL k kp) [1, 1, 1, 1] body = agPR cfg 6 (pick none' []) [1, 1, 1, 1] body (topK cfg Try.f63 k kp) := by kernel_rfl
theorem j6_raw (k kp : D → List Blk → Prop) (x3 : Int) (x4 : ByteArray) : X6 k kp (m6 x3 x4) = j6 (fun x4 x6 b0 => XL8 k kp (mL8 x4 x6 b0)) x3 x4 (fun y0 => k (.v (.string y0)) []) :=
  Eq.mp (by kernel_rfl) ((atP_run (j6_ag k kp) (m6 x3 x4)).trans (j6_c k kp (JJ k kp) (LL k kp) x3 x4))
theorem j6_eq (k kp : D → List Blk → Prop) (x3 : Int) (x4 : ByteArray) : X6 k kp (m6 x3 x4) = j6' x3 x4 (fun y0 => k (.v (.string y0)) []) := by
  rw [j6_raw]; simp only [l8_eq]; first | done | rfl
theorem c_c (k kp : D → List Blk → Prop) (J L : Nat → St → Prop) (x0 : Int) : runC cfg 1000001 J L none'' [] body (topK cfg Try.f63 k kp) (st0 Try.f63 [(.v (.int IntKind.i64 x0))] []) = c (fun x3 x4 => J 6 (m6 x3 x4)) x0 (fun y0 => k (.v (.string y0)) []) := by kernel_rfl
theorem c_ag (k kp : D → List Blk → Prop) : agPL cfg 1000001 (JJ k kp) (LL k kp) [] body = agPR cfg 1000001 none'' [] body (topK cfg Try.f63 k kp) := by kernel_rfl
theorem body_is : Try.f63.body = some body := by kernel_rfl
theorem c_raw (k kp : D → List Blk → Prop) (x0 : Int) : funW cfg Try.f63 [(.v (.int IntKind.i64 x0))] [] k kp = c (fun x3 x4 => X6 k kp (m6 x3 x4)) x0 (fun y0 => k (.v (.string y0)) []) :=
  Eq.mp (by kernel_rfl) ((funW_run (AG := none'') body_is (c_ag k kp) [(.v (.int IntKind.i64 x0))] []).trans (c_c k kp (JJ k kp) (LL k kp) x0))
theorem f_eq (k kp : D → List Blk → Prop) (x0 : Int) : funW cfg Try.f63 [(.v (.int IntKind.i64 x0))] [] k kp = f x0 (fun y0 => k (.v (.string y0)) []) := by
  rw [f_def, c_raw]; simp only [j6_eq]; first | done | rfl
noncomputable def ent0 : Entry := fun args blks k _ => match args, blks with
  | [d0], [] => aInt IntKind.i64 d0 fun x0 => f x0 (fun y0 => k (.v (.string y0)) [])
  | _, _ => False
noncomputable def ent : Entry := fun args blks k kp => ent0 (convB [.no] args) blks k kp
theorem ok : EntOk Try.prog 0 0 63 ent := by
  refine EntOk.convB (EntOk.of (funW_ok (cfg := cfg) (tyOk_of rfl rfl tyL_ok) (eqOk_of (P := Try.prog) rfl rfl (by kernel_rfl)) mixed_ok (tab_ok ?_) Try.func63 (by rfl) (by rfl)) ?_) _
  · intro p hp
    simp only [List.mem_cons, List.not_mem_nil, or_false] at hp
    rcases hp with rfl
    · exact N84.ok
  · intro args blks k kp h k' kp'
    match args, blks, h with
    | [d0], [], h =>
    dsimp only [ent0] at h
    have h9 := aInt_elim h; clear h; obtain ⟨x0, rfl, h⟩ := h9
    exact (f_eq k' kp' x0).symm
end N63
end Go.Proofs.Yu
namespace Go.Proofs.Yu
open Go Go.Aw Go.Proofs Go.RowKit
set_option linter.unusedVariables false
set_option linter.unusedSimpArgs false

/-- A number's text. -/
def putL (n : Int) : List Int := (if n < 0 then [45] else []) ++ (dl 20 n.natAbs).reverse

theorem put_s (n : Int) (hn : in64 n) (k : ByteArray → Prop) (h : k (bytesOf (putL n))) : N62.f n k := by
  unfold in64 at hn
  rw [N62.f_def]
  unfold N62.f0 N62.c N62.l5'
  refine loopS_of (fun s : Int × Int × List Int => ∃ a : Nat, s.1 = (a : Int) + 1 ∧ 1 ≤ a ∧ a < 20 ∧ s.2.2.length = 20 ∧ s.2.1.natAbs < 10 ^ a ∧ (n < 0 → s.2.1 ≤ 0) ∧ (0 ≤ n → 0 ≤ s.2.1) ∧ in64 s.2.1 ∧
    (dl (a + 1) s.2.1.natAbs).reverse ++ s.2.2.drop (a + 1) = (dl 20 n.natAbs).reverse) (fun s => s.1.toNat) ?_
    ⟨19, rfl, by omega, by omega, by simp, by show n.natAbs < 10 ^ 19; omega, fun h => Int.le_of_lt h, fun h => h, hn, by simp⟩
  rintro again ⟨x, m, b⟩ ⟨a, rfl, ha1, ha2, hlen, hm, hs1, hs2, hin, hd⟩ hag
  simp only at hlen hm hs1 hs2 hin hd hag ⊢
  unfold in64 at hin
  unfold N62.l5 N62.j8' N62.j8 N62.j11' N62.j11 N62.j4' N62.j4 N62.j14' N62.j14
  dsimp only
  have hmod := tmod10 m
  have hdiv := tdiv10 m
  have hdi : IntKind.i64.wrap (Int.tdiv m 10) = Int.tdiv m 10 := by rw [hdiv]; apply wrap_id <;> split <;> omega
  have ewa : IntKind.i64.wrap ((a : Int) + 1 - 1) = (a : Int) := by rw [wrap_id (by omega) (by omega)]; omega
  rw [hdi, ewa]
  simp only [Int.toNat_natCast]
  -- what is done with the digit
  have main : ∀ d : Int, d = ((m.natAbs % 10 : Nat) : Int) → ((inB 0 (a : Int) (((20 : Nat) : Int) - 1)) ∧ (((10 : Int) ≠ 0) ∧ (br (Int.tdiv m 10 == (0 : Int))
      (br (decide (n < (0 : Int))) ((inB 0 (IntKind.i64.wrap ((a : Int) - (1 : Int))) (((20 : Nat) : Int) - 1)) ∧ ((inB (IntKind.i64.wrap ((a : Int) - (1 : Int))) (20 : Int) (20 : Int)) ∧ (((20 : Int) ≤ ((20 : Nat) : Int)) ∧ (k (bytesOf (List.drop (Int.toNat (IntKind.i64.wrap ((a : Int) - (1 : Int)))) (List.take (Int.toNat (20 : Int)) ((b.set a (IntKind.u8.wrap (IntKind.i64.wrap ((48 : Int) + d)))).set (Int.toNat (IntKind.i64.wrap ((a : Int) - (1 : Int)))) (45 : Int))))))))) ((inB (a : Int) (20 : Int) (20 : Int)) ∧ (((20 : Int) ≤ ((20 : Nat) : Int)) ∧ (k (bytesOf (List.drop a (List.take (Int.toNat (20 : Int)) (b.set a (IntKind.u8.wrap (IntKind.i64.wrap ((48 : Int) + d)))))))))))
      (((10 : Int) ≠ 0) ∧ again ((a : Int), Int.tdiv m 10, b.set a (IntKind.u8.wrap (IntKind.i64.wrap ((48 : Int) + d)))))))) := by
    rintro d rfl
    have ed : IntKind.u8.wrap (IntKind.i64.wrap ((48 : Int) + ((m.natAbs % 10 : Nat) : Int))) = ((48 + m.natAbs % 10 : Nat) : Int) := by
      rw [wrap_id (by omega) (by omega), wu8_eq]; omega
    rw [ed]
    have hset := drop_set_self (x := ((48 + m.natAbs % 10 : Nat) : Int)) (by omega : a < b.length)
    rw [dl_succ a] at hd
    have hlen' : (b.set a ((48 + m.natAbs % 10 : Nat) : Int)).length = 20 := by simpa using hlen
    generalize hb' : b.set a ((48 + m.natAbs % 10 : Nat) : Int) = b' at *
    refine ⟨⟨by omega, by omega, by omega⟩, by decide, ?_⟩
    have e20 : Int.toNat 20 = 20 := rfl
    rw [e20]
    by_cases hz : m.natAbs / 10 = 0
    · have : Int.tdiv m 10 = 0 := by rw [hdiv, hz]; split <;> rfl
      rw [this]
      simp only [beq_self_eq_true, br_true]
      rw [if_pos hz] at hd
      have hres : b'.drop a = (dl 20 n.natAbs).reverse := by rw [hset, ← hd]; simp
      simp only [br_dec]
      split
      · rename_i hn0
        have ew : IntKind.i64.wrap ((a : Int) - 1) = ((a - 1 : Nat) : Int) := by rw [wrap_id (by omega) (by omega)]; omega
        rw [ew]
        refine ⟨⟨by omega, by omega, by omega⟩, ⟨by omega, by omega, by omega⟩, by decide, ?_⟩
        rw [Int.toNat_natCast, List.take_of_length_le (by simp; omega), drop_set_self (by omega), show a - 1 + 1 = a by omega, hres]
        have : putL n = 45 :: (dl 20 n.natAbs).reverse := by unfold putL; rw [if_pos hn0]; rfl
        rw [← this]; exact h
      · rename_i hn0
        refine ⟨⟨by omega, by omega, by omega⟩, by decide, ?_⟩
        rw [List.take_of_length_le (by omega), hres]
        have : putL n = (dl 20 n.natAbs).reverse := by unfold putL; rw [if_neg hn0]; rfl
        rw [← this]; exact h
    · have hne : Int.tdiv m 10 ≠ 0 := by rw [hdiv]; split <;> omega
      have hnb : (Int.tdiv m 10 == 0) = false := by simpa using hne
      rw [hnb]
      simp only [br_false]
      rw [if_neg hz] at hd
      obtain ⟨c, rfl⟩ : ∃ c, a = c + 1 := ⟨a - 1, by omega⟩
      have hm' : m.natAbs / 10 < 10 ^ c := by rw [Nat.pow_succ] at hm; omega
      have hc : 1 ≤ c := by
        rcases Nat.eq_zero_or_pos c with h0 | h0
        · subst h0; simp at hm'; omega
        · exact h0
      have hab : (Int.tdiv m 10).natAbs = m.natAbs / 10 := by rw [hdiv]; split <;> omega
      refine ⟨by decide, hag _ ⟨c, rfl, hc, by omega, hlen', by rw [hab]; exact hm', fun h0 => ?_, fun h0 => ?_, ?_, ?_⟩ (by simp <;> omega)⟩
      · have := hs1 h0
        show Int.tdiv m 10 ≤ 0
        rw [hdiv]; split <;> omega
      · have := hs2 h0
        show 0 ≤ Int.tdiv m 10
        rw [hdiv]; split <;> omega
      · show in64 (Int.tdiv m 10)
        unfold in64
        rw [hdiv]; split <;> omega
      · show (dl (c + 1) (Int.tdiv m 10).natAbs).reverse ++ b'.drop (c + 1) = _
        rw [hab, hset, ← hd]
        simp
  refine ⟨by decide, br_of (fun hneg => ?_) (fun hneg => ?_)⟩
  · have hneg : Int.tmod m 10 < 0 := by simpa using hneg
    have e : IntKind.i64.wrap (0 - Int.tmod m 10) = ((m.natAbs % 10 : Nat) : Int) := by
      rw [wrap_id (by rw [hmod] at *; split at hneg <;> omega) (by rw [hmod] at *; split at hneg <;> omega)]
      rw [hmod] at *; split at hneg <;> rename_i hh <;> (try rw [if_pos hh]) <;> omega
    rw [e]
    exact main _ rfl
  · have hneg : ¬ Int.tmod m 10 < 0 := by simpa using hneg
    refine main _ ?_
    rw [hmod] at *
    split at hneg <;> rename_i hh <;> (try rw [if_pos hh]) <;> (try rw [if_neg hh]) <;> omega

theorem u64neg (n : Int) (hn : in64 n) : IntKind.u64.wrap (if n < 0 then 0 - IntKind.u64.wrap n else n) = (n.natAbs : Int) := by
  unfold in64 at hn
  simp only [wu64_eq]
  split <;> omega

theorem wu64_id' {n : Int} (h1 : 0 ≤ n) (h2 : n < 18446744073709551616) : IntKind.u64.wrap n = n := by rw [wu64_eq]; omega

theorem digits_s (U : Nat) (hU : U < 10 ^ 20) (hU2 : U < 2 ^ 64) (k : List Int → Prop) (h : k (dl 20 U)) : N84.f (U : Int) k := by
  rw [N84.f_def]
  unfold N84.f0 N84.c N84.l2'
  refine loopS_of (fun s : Int × List Int => ∃ u : Nat, s.1 = u ∧ u < 2 ^ 64 ∧ ((s.2 ≠ [] ∧ u = 0 ∧ s.2 = dl 20 U) ∨ (∃ f, u < 10 ^ f ∧ s.2.length + f = 20 ∧ 1 ≤ f ∧ (s.2 = [] ∨ u ≠ 0) ∧ s.2 ++ dl f u = dl 20 U))) (fun s => 2 * s.1.toNat + (if s.2 = [] then 1 else 0)) ?_
    ⟨U, rfl, hU2, .inr ⟨20, hU, rfl, by decide, .inl rfl, rfl⟩⟩
  rintro again ⟨x, b⟩ ⟨u, rfl, hu, hcase⟩ hag
  simp only at hcase hag ⊢
  unfold N84.l2 N84.j3' N84.j3 N84.j5' N84.j5
  dsimp only
  have emod : Int.tmod (u : Int) 10 = ((u % 10 : Nat) : Int) := by norm_cast
  have ediv : Int.tdiv (u : Int) 10 = ((u / 10 : Nat) : Int) := by norm_cast
  have go : (b = [] ∨ u ≠ 0) → (((10 : Int) ≠ 0) ∧ ((room (b.length + (([(IntKind.u8.wrap (IntKind.u64.wrap ((48 : Int) + (Int.tmod (u : Int) (10 : Int)))))] : List Int)).length) 1) ∧ (((10 : Int) ≠ 0) ∧
      (again (IntKind.u64.wrap (Int.tdiv (u : Int) (10 : Int)), b ++ ([(IntKind.u8.wrap (IntKind.u64.wrap ((48 : Int) + (Int.tmod (u : Int) (10 : Int)))))] : List Int)))))) := by
    intro hbu
    rw [emod, ediv]
    have ed : IntKind.u8.wrap (IntKind.u64.wrap ((48 : Int) + ((u % 10 : Nat) : Int))) = ((48 + u % 10 : Nat) : Int) := by
      rw [wu64_id' (by omega) (by omega), wu8_eq]; omega
    rw [ed, wu64_id' (by omega) (by omega)]
    have hc2 : ∃ f, u < 10 ^ f ∧ b.length + f = 20 ∧ 1 ≤ f ∧ b ++ dl f u = dl 20 U := by
      rcases hcase with ⟨h1, h2, h3⟩ | ⟨f, h1, h2, h3, _, h5⟩
      · rcases hbu with h | h
        · exact absurd h h1
        · exact absurd h2 h
      · exact ⟨f, h1, h2, h3, h5⟩
    obtain ⟨f, h1, h2, h3, h5⟩ := hc2
    obtain ⟨g, rfl⟩ : ∃ g, f = g + 1 := ⟨f - 1, by omega⟩
    refine ⟨by decide, ?_, by decide, hag _ ⟨u / 10, rfl, by omega, ?_⟩ ?_⟩
    · unfold room; simp; omega
    · rw [dl_succ g] at h5
      have hg : u / 10 < 10 ^ g := by rw [Nat.pow_succ] at h1; omega
      by_cases hz : u / 10 = 0
      · rw [if_pos hz] at h5
        exact .inl ⟨by simp, hz, h5⟩
      · rw [if_neg hz] at h5
        refine .inr ⟨g, hg, by simp; omega, ?_, .inr hz, by rw [← h5]; simp⟩
        rcases Nat.eq_zero_or_pos g with h0 | h0
        · subst h0; simp at hg; omega
        · exact h0
    · simp only [Int.toNat_natCast]
      rw [if_neg (by simp)]
      rcases hbu with h | h
      · rw [if_pos h]; omega
      · split <;> omega
  refine br_of (fun h0 => ?_) (fun h0 => ?_)
  · have h0 : 0 < u := by simp at h0; omega
    exact go (.inr (by omega))
  · have h0 : u = 0 := by simp at h0; omega
    refine br_of (fun hb => ?_) (fun hb => ?_)
    · have hb : b = [] := by simpa using hb
      exact go (.inl hb)
    · have hb : b ≠ [] := by simpa using hb
      rcases hcase with ⟨h1, h2, h3⟩ | ⟨f, h1, h2, h3, h4, h5⟩
      · rw [h3]; exact h
      · rcases h4 with h4 | h4
        · exact absurd h4 hb
        · exact absurd h0 h4

theorem putr_s (n : Int) (hn : in64 n) (k : ByteArray → Prop) (h : k (bytesOf (putL n))) : N63.f n k := by
  have hn' := hn
  unfold in64 at hn'
  rw [N63.f_def]
  unfold N63.f0 N63.c
  have tail : ∀ s0 : List Int, s0 ++ (dl 20 n.natAbs).reverse = putL n → s0.length ≤ 1 → N63.j6' (n.natAbs : Int) (bytesOf s0) k := by
    intro s0 hs0 hl0
    unfold N63.j6' N63.j6
    refine digits_s _ (by omega) (by omega) _ ?_
    unfold N63.l8'
    have hlen := dl_len_le 20 n.natAbs
    have ew : IntKind.i64.wrap ((((dl 20 n.natAbs).length : Nat) : Int) - 1) = (((dl 20 n.natAbs).length : Nat) : Int) - 1 := wrap_id (by omega) (by omega)
    rw [ew]
    generalize hD : dl 20 n.natAbs = D at *
    refine loopS_of (fun s : ByteArray × Int × List Int => ∃ i : Nat, s.2.1 = (i : Int) - 1 ∧ i ≤ D.length ∧ s.2.2 = D ∧ s.1 = bytesOf (s0 ++ (D.drop i).reverse)) (fun s => (s.2.1 + 1).toNat) ?_
      ⟨D.length, rfl, Nat.le_refl _, rfl, by simp⟩
    rintro again ⟨t, x, b⟩ ⟨i, e1, hi, e2, e3⟩ hag
    simp only at e1 e2 e3
    subst e1; subst e2; subst e3
    simp only at hag ⊢
    unfold N63.l8 N63.j11' N63.j11
    dsimp only
    refine br_of (fun hlt => ?_) (fun hge => ?_)
    · obtain ⟨m, rfl⟩ : ∃ m, i = m + 1 := ⟨i - 1, by simp at hlt; omega⟩
      have ei : ((m + 1 : Nat) : Int) - 1 = (m : Int) := by omega
      rw [ei]
      have ewm : IntKind.i64.wrap ((m : Int) - 1) = (m : Int) - 1 := wrap_id (by omega) (by omega)
      rw [ewm, Int.toNat_natCast]
      refine ⟨⟨by omega, by omega, by omega⟩, ?_, ?_⟩
      · rw [bytesOf_size, bytesOf_size]; simp; omega
      · rw [← bytesOf_append]
        refine hag _ ⟨m, rfl, by omega, rfl, ?_⟩ (by simp <;> omega)
        rw [drop_get (d := 0) (by omega : m < b.length)]
        simp
    · have : i = 0 := by simp at hge; omega
      subst this
      simp only [List.drop_zero]
      rw [hs0]; exact h
  refine br_of (fun hneg => ?_) (fun hneg => ?_)
  · have hneg : n < 0 := by simpa using hneg
    have e : IntKind.u64.wrap (0 - IntKind.u64.wrap n) = (n.natAbs : Int) := by simp only [wu64_eq]; omega
    rw [e]
    exact tail [45] (by unfold putL; rw [if_pos hneg]) (by simp)
  · have hneg : ¬ n < 0 := by simpa using hneg
    have e : IntKind.u64.wrap n = (n.natAbs : Int) := by simp only [wu64_eq]; omega
    rw [e]
    exact tail [] (by unfold putL; rw [if_neg hneg]) (by simp)

end Go.Proofs.Yu
namespace Go.Proofs.Yu
open Go Go.Aw Go.Proofs Go.RowKit
set_option linter.unusedVariables false
set_option linter.unusedSimpArgs false

theorem putL_len (n : Int) : 1 ≤ (putL n).length ∧ (putL n).length ≤ 21 := by
  unfold putL
  have h1 := dl_len_le 20 n.natAbs
  have h2 : 0 < (dl 20 n.natAbs).length := dl_len_pos 19 n.natAbs
  rw [List.length_append, List.length_reverse]
  split <;> simp <;> omega
theorem putL_ch (n : Int) : ∀ x ∈ putL n, x = 45 ∨ isD x := by
  intro x hx
  unfold putL at hx
  rcases List.mem_append.1 hx with h | h
  · split at h
    · simp at h; exact .inl h
    · cases h
  · exact .inr (dl_isD 20 _ x (List.mem_reverse.1 h))
theorem putL_isB (n : Int) : ∀ x ∈ putL n, isB x := by
  intro x hx
  rcases putL_ch n x hx with rfl | h
  · exact ⟨by decide, by decide⟩
  · exact ⟨by have := h.1; omega, by have := h.2; omega⟩
theorem putL_inj {n m : Int} (hn : in64 n) (hm : in64 m) (h : putL n = putL m) : n = m := by
  unfold in64 at hn hm
  have v : ∀ n : Int, n.natAbs < 10 ^ 20 → val (dl 20 n.natAbs).reverse = n.natAbs := fun n hn => dl_val 20 n.natAbs hn
  have hd : ∀ n : Int, (dl 20 n.natAbs).reverse.head? ≠ some 45 := by
    intro n e
    have : (45 : Int) ∈ (dl 20 n.natAbs).reverse := List.mem_of_head? e
    have := dl_isD 20 _ 45 (List.mem_reverse.1 this)
    exact absurd this.1 (by decide)
  unfold putL at h
  have vn := v n (by omega)
  have vm := v m (by omega)
  by_cases h1 : n < 0 <;> by_cases h2 : m < 0
  · rw [if_pos h1, if_pos h2] at h
    have := congrArg val (List.append_cancel_left h)
    omega
  · rw [if_pos h1, if_neg h2] at h
    exact absurd (by rw [List.nil_append] at h; rw [← h]; rfl) (hd m)
  · rw [if_neg h1, if_pos h2] at h
    exact absurd (by rw [List.nil_append] at h; rw [h]; rfl) (hd n)
  · rw [if_neg h1, if_neg h2] at h
    have := congrArg val (List.append_cancel_left h)
    omega

end Go.Proofs.Yu
namespace Go.Proofs.Yu
open Go Go.Aw Go.Proofs
set_option linter.unusedVariables false
set_option linter.unusedSimpArgs false
set_option maxRecDepth 100000
/-! dyehouse/dyehouseref35.Large -/
namespace N34
noncomputable def cfg : Cfg := { P := Try.prog, ty := tys, E := tab [], atSeq := tab [(6, ⟨[(3, .keep)]⟩)], atLoop := tab [(3, ⟨[(1, .keep), (3, .keep), (4, .keep)]⟩)], outs := [], eqT := tab [], bT := tab [], fzB := [1] }
noncomputable def body : Code := bodyOf Try.f34
def l3 (j6 : Int → Prop) (ag3 : Int → Int → Prop) (x1_0 : (List (ByteArray × (List Int)))) (x1_1 : Int) (x1_2 : Int) (x1_3 : (List Int)) (x1_4 : Int) (x3 : Int) (x4 : Int) (k : Bool → Prop) : Prop :=
  (br (decide (x4 < ((((x1_0).length : Nat) : Int)))) ((inB 0 x4 ((((x1_0).length : Nat) : Int) - 1)) ∧ ((inB 0 x4 ((((x1_0).length : Nat) : Int) - 1)) ∧ (ag3 (IntKind.i64.wrap ((IntKind.i64.wrap ((IntKind.i64.wrap (x3 + (1 : Int))) + (((((x1_0.getD (Int.toNat x4) ((ByteArray.empty, ([] : List Int)))).2).length : Nat) : Int)))) + (((((x1_0.getD (Int.toNat x4) ((ByteArray.empty, ([] : List Int)))).1).size : Nat) : Int)))) (IntKind.i64.wrap (x4 + (1 : Int)))))) (j6 x3))
def j6 (x3 : Int) (k : Bool → Prop) : Prop :=
  (k (decide (x3 > (600 : Int))))
def c (l3 : (List (ByteArray × (List Int))) → Int → Int → (List Int) → Int → Int → Int → Prop) (x0_0 : (List (ByteArray × (List Int)))) (x0_1 : Int) (x0_2 : Int) (x0_3 : (List Int)) (x0_4 : Int) (k : Bool → Prop) : Prop :=
  (l3 x0_0 x0_1 x0_2 x0_3 x0_4 ((((x0_3).length : Nat) : Int)) (0 : Int))
def j6' (x3 : Int) (k : Bool → Prop) : Prop := j6 x3 k
def l3' (x1_0 : (List (ByteArray × (List Int)))) (x1_1 : Int) (x1_2 : Int) (x1_3 : (List Int)) (x1_4 : Int) (x3 : Int) (x4 : Int) (k : Bool → Prop) : Prop := ∃ n, loopS (fun (ag : (Int × Int) → Prop) (s : Int × Int) => l3 (fun x3 => j6' x3 k) (fun x3 x4 => ag (x3, x4)) x1_0 x1_1 x1_2 x1_3 x1_4 s.1 s.2 k) n (x3, x4)
def f0 (x0_0 : (List (ByteArray × (List Int)))) (x0_1 : Int) (x0_2 : Int) (x0_3 : (List Int)) (x0_4 : Int) (k : Bool → Prop) : Prop := c (fun x1_0 x1_1 x1_2 x1_3 x1_4 x3 x4 => l3' x1_0 x1_1 x1_2 x1_3 x1_4 x3 x4 k) x0_0 x0_1 x0_2 x0_3 x0_4 k
theorem f_ex : ∃ g : (List (ByteArray × (List Int))) → Int → Int → (List Int) → Int → (Bool → Prop) → Prop, g = f0 := ⟨_, rfl⟩
noncomputable def f : (List (ByteArray × (List Int))) → Int → Int → (List Int) → Int → (Bool → Prop) → Prop := Classical.choose f_ex
theorem f_def : f = f0 := Classical.choose_spec f_ex
def mL3 (x1_0 : (List (ByteArray × (List Int)))) (x1_1 : Int) (x1_2 : Int) (x1_3 : (List Int)) (x1_4 : Int) (x3 : Int) (x4 : Int) : St := { tmps := mkT 35 0 [(1, (.fp [(.fz (Ty.pair Ty.str (Ty.list (Ty.int IntKind.i64))) x1_0), (.v (.int IntKind.i64 x1_1)), (.v (.int IntKind.i64 x1_2)), (.fz (Ty.int IntKind.i64) x1_3), (.v (.int IntKind.i64 x1_4))])), (3, (.v (.int IntKind.i64 x3))), (4, (.v (.int IntKind.i64 x4)))], hp := [], m := 0 }
def m6 (x3 : Int) : St := { tmps := mkT 35 0 [(3, (.v (.int IntKind.i64 x3)))], hp := [], m := 0 }
noncomputable def YL3 (k kp : D → List Blk → Prop) : (St → Prop) → St → Prop := loopB cfg (sub [1, 1, 0, 1, 0, 0] body) (contK cfg (pick none' []) [1, 1, 0, 1, 0] body (topK cfg Try.f34 k kp))
noncomputable def XL3 (k kp : D → List Blk → Prop) : St → Prop := fun st => ∃ n, loopN (YL3 k kp) n st
noncomputable def X6 (k kp : D → List Blk → Prop) : St → Prop := atP cfg (pick none' []) [1, 1, 1] body (topK cfg Try.f34 k kp)
noncomputable def JJ_3 (k kp : D → List Blk → Prop) (ag3 : St → Prop) : Nat → St → Prop := pick none' [(6, X6 k kp)]
noncomputable def LL_3 (k kp : D → List Blk → Prop) (ag3 : St → Prop) : Nat → St → Prop := pick none' [(3, XL3 k kp)]
noncomputable def JJ (k kp : D → List Blk → Prop) : Nat → St → Prop := pick none' [(6, X6 k kp)]
noncomputable def LL (k kp : D → List Blk → Prop) : Nat → St → Prop := pick none' [(3, XL3 k kp)]
theorem j6_c (k kp : D → List Blk → Prop) (J L : Nat → St → Prop) (x3 : Int) : runC cfg 6 J L (pick none' []) [1, 1, 1] body (topK cfg Try.f34 k kp) (m6 x3) = j6 x3 (fun y0 => k (.v (.bool y0)) []) := by kernel_rfl
theorem j6_ag (k kp : D → List Blk → Prop) : agPL cfg 6 (JJ k kp) (LL k kp) [1, 1, 1] body = agPR cfg 6 (pick none' []) [1, 1, 1] body (topK cfg Try.f34 k kp) := by kernel_rfl
theorem j6_raw (k kp : D → List Blk → Prop) (x3 : Int) : X6 k kp (m6 x3) = j6 x3 (fun y0 => k (.v (.bool y0)) []) :=
  Eq.mp (by kernel_rfl) ((atP_run (j6_ag k kp) (m6 x3)).trans (j6_c k kp (JJ k kp) (LL k kp) x3))
theorem j6_eq (k kp : D → List Blk → Prop) (x3 : Int) : X6 k kp (m6 x3) = j6' x3 (fun y0 => k (.v (.bool y0)) []) := by
  rw [j6_raw]; rfl
theorem l3_c (k kp : D → List Blk → Prop) (J L : Nat → St → Prop) (ag3 : St → Prop) (x1_0 : (List (ByteArray × (List Int)))) (x1_1 : Int) (x1_2 : Int) (x1_3 : (List Int)) (x1_4 : Int) (x3 : Int) (x4 : Int) : runC cfg 1000001 J L (pick none' [(3, ag3)]) [1, 1, 0, 1, 0, 0] body (topK cfg Try.f34 k kp) (mL3 x1_0 x1_1 x1_2 x1_3 x1_4 x3 x4) = l3 (fun x3 => J 6 (m6 x3)) (fun x3 x4 => ag3 (mL3 x1_0 x1_1 x1_2 x1_3 x1_4 x3 x4)) x1_0 x1_1 x1_2 x1_3 x1_4 x3 x4 (fun y0 => k (.v (.bool y0)) []) := by kernel_rfl
theorem l3_ag (k kp : D → List Blk → Prop) (ag3 : St → Prop) : agPL cfg 1000001 (JJ_3 k kp ag3) (LL_3 k kp ag3) [1, 1, 0, 1, 0, 0] body = agPR cfg 1000001 (pick none' [(3, ag3)]) [1, 1, 0, 1, 0, 0] body (topK cfg Try.f34 k kp) := by kernel_rfl
theorem l3_raw (k kp : D → List Blk → Prop) (ag3 : St → Prop) (x1_0 : (List (ByteArray × (List Int)))) (x1_1 : Int) (x1_2 : Int) (x1_3 : (List Int)) (x1_4 : Int) (x3 : Int) (x4 : Int) : YL3 k kp ag3 (mL3 x1_0 x1_1 x1_2 x1_3 x1_4 x3 x4) = l3 (fun x3 => X6 k kp (m6 x3)) (fun x3 x4 => ag3 (mL3 x1_0 x1_1 x1_2 x1_3 x1_4 x3 x4)) x1_0 x1_1 x1_2 x1_3 x1_4 x3 x4 (fun y0 => k (.v (.bool y0)) []) :=
  Eq.mp (by kernel_rfl) ((atP_run (l3_ag k kp ag3) (mL3 x1_0 x1_1 x1_2 x1_3 x1_4 x3 x4)).trans (l3_c k kp (JJ_3 k kp ag3) (LL_3 k kp ag3) ag3 x1_0 x1_1 x1_2 x1_3 x1_4 x3 x4))
theorem l3_eq (k kp : D → List Blk → Prop) (x1_0 : (List (ByteArray × (List Int)))) (x1_1 : Int) (x1_2 : Int) (x1_3 : (List Int)) (x1_4 : Int) (x3 : Int) (x4 : Int) : XL3 k kp (mL3 x1_0 x1_1 x1_2 x1_3 x1_4 x3 x4) = l3' x1_0 x1_1 x1_2 x1_3 x1_4 x3 x4 (fun y0 => k (.v (.bool y0)) []) :=
  loop_eq (mk := fun (s : Int × Int) => mL3 x1_0 x1_1 x1_2 x1_3 x1_4 s.1 s.2) (fun again s => by rw [l3_raw k kp again x1_0 x1_1 x1_2 x1_3 x1_4 s.1 s.2]; simp only [j6_eq]; first | done | rfl) (x3, x4)
theorem c_c (k kp : D → List Blk → Prop) (J L : Nat → St → Prop) (x0_0 : (List (ByteArray × (List Int)))) (x0_1 : Int) (x0_2 : Int) (x0_3 : (List Int)) (x0_4 : Int) : runC cfg 1000001 J L none'' [] body (topK cfg Try.f34 k kp) (st0 Try.f34 [(.agg [(.fz (Ty.pair Ty.str (Ty.list (Ty.int IntKind.i64))) x0_0), (.v (.int IntKind.i64 x0_1)), (.v (.int IntKind.i64 x0_2)), (.fz (Ty.int IntKind.i64) x0_3), (.v (.int IntKind.i64 x0_4))])] []) = c (fun x1_0 x1_1 x1_2 x1_3 x1_4 x3 x4 => L 3 (mL3 x1_0 x1_1 x1_2 x1_3 x1_4 x3 x4)) x0_0 x0_1 x0_2 x0_3 x0_4 (fun y0 => k (.v (.bool y0)) []) := by kernel_rfl
theorem c_ag (k kp : D → List Blk → Prop) : agPL cfg 1000001 (JJ k kp) (LL k kp) [] body = agPR cfg 1000001 none'' [] body (topK cfg Try.f34 k kp) := by kernel_rfl
theorem body_is : Try.f34.body = some body := by kernel_rfl
theorem c_raw (k kp : D → List Blk → Prop) (x0_0 : (List (ByteArray × (List Int)))) (x0_1 : Int) (x0_2 : Int) (x0_3 : (List Int)) (x0_4 : Int) : funW cfg Try.f34 [(.agg [(.fz (Ty.pair Ty.str (Ty.list (Ty.int IntKind.i64))) x0_0), (.v (.int IntKind.i64 x0_1)), (.v (.int IntKind.i64 x0_2)), (.fz (Ty.int IntKind.i64) x0_3), (.v (.int IntKind.i64 x0_4))])] [] k kp = c (fun x1_0 x1_1 x1_2 x1_3 x1_4 x3 x4 => XL3 k kp (mL3 x1_0 x1_1 x1_2 x1_3 x1_4 x3 x4)) x0_0 x0_1 x0_2 x0_3 x0_4 (fun y0 => k (.v (.bool y0)) []) :=
  Eq.mp (by kernel_rfl) ((funW_run (AG := none'') body_is (c_ag k kp) [(.agg [(.fz (Ty.pair Ty.str (Ty.list (Ty.int IntKind.i64))) x0_0), (.v (.int IntKind.i64 x0_1)), (.v (.int IntKind.i64 x0_2)), (.fz (Ty.int IntKind.i64) x0_3), (.v (.int IntKind.i64 x0_4))])] []).trans (c_c k kp (JJ k kp) (LL k kp) x0_0 x0_1 x0_2 x0_3 x0_4))
theorem f_eq (k kp : D → List Blk → Prop) (x0_0 : (List (ByteArray × (List Int)))) (x0_1 : Int) (x0_2 : Int) (x0_3 : (List Int)) (x0_4 : Int) : funW cfg Try.f34 [(.agg [(.fz (Ty.pair Ty.str (Ty.list (Ty.int IntKind.i64))) x0_0), (.v (.int IntKind.i64 x0_1)), (.v (.int IntKind.i64 x0_2)), (.fz (Ty.int IntKind.i64) x0_3), (.v (.int IntKind.i64 x0_4))])] [] k kp = f x0_0 x0_1 x0_2 x0_3 x0_4 (fun y0 => k (.v (.bool y0)) []) := by
  rw [f_def, c_raw]; simp only [l3_eq]; first | done | rfl
noncomputable def ent0 : Entry := fun args blks k _ => match args, blks with
  | [d0], [] => aAgg 5 d0 fun l => aCons l fun d0_0 l => aCons l fun d0_1 l => aCons l fun d0_2 l => aCons l fun d0_3 l => aCons l fun d0_4 l => aNil l (aFz (Ty.pair Ty.str (Ty.list (Ty.int IntKind.i64))) d0_0 fun x0_0 => aInt IntKind.i64 d0_1 fun x0_1 => aInt IntKind.i64 d0_2 fun x0_2 => aFz (Ty.int IntKind.i64) d0_3 fun x0_3 => aInt IntKind.i64 d0_4 fun x0_4 => f x0_0 x0_1 x0_2 x0_3 x0_4 (fun y0 => k (.v (.bool y0)) []))
  | _, _ => False
noncomputable def ent : Entry := fun args blks k kp => ent0 (convB [.cells [some (Ty.pair Ty.str (Ty.list (Ty.int IntKind.i64))), none, none, some (Ty.int IntKind.i64), none]] args) blks k kp
theorem ok : EntOk Try.prog 0 0 34 ent := by
  refine EntOk.convB (EntOk.of (funW_ok (cfg := cfg) (tyOk_of rfl rfl tyL_ok) (eqOk_of (P := Try.prog) rfl rfl (by kernel_rfl)) mixed_ok (tab_ok ?_) Try.func34 (by rfl) (by rfl)) ?_) _
  · intro p hp
    cases hp
  · intro args blks k kp h k' kp'
    match args, blks, h with
    | [d0], [], h =>
    dsimp only [ent0] at h
    have h9 := aAgg_elim h; clear h; obtain ⟨_, rfl, h⟩ := h9
    have h9 := aCons_elim h; clear h; obtain ⟨d0_0, _, rfl, h⟩ := h9
    have h9 := aCons_elim h; clear h; obtain ⟨d0_1, _, rfl, h⟩ := h9
    have h9 := aCons_elim h; clear h; obtain ⟨d0_2, _, rfl, h⟩ := h9
    have h9 := aCons_elim h; clear h; obtain ⟨d0_3, _, rfl, h⟩ := h9
    have h9 := aCons_elim h; clear h; obtain ⟨d0_4, _, rfl, h⟩ := h9
    have h9 := aNil_elim h; clear h; obtain ⟨rfl, h⟩ := h9
    have h9 := aFz_elim (t := (Ty.pair Ty.str (Ty.list (Ty.int IntKind.i64)))) h; clear h; obtain ⟨x0_0, rfl, h⟩ := h9
    have h9 := aInt_elim h; clear h; obtain ⟨x0_1, rfl, h⟩ := h9
    have h9 := aInt_elim h; clear h; obtain ⟨x0_2, rfl, h⟩ := h9
    have h9 := aFz_elim (t := (Ty.int IntKind.i64)) h; clear h; obtain ⟨x0_3, rfl, h⟩ := h9
    have h9 := aInt_elim h; clear h; obtain ⟨x0_4, rfl, h⟩ := h9
    exact (f_eq k' kp' x0_0 x0_1 x0_2 x0_3 x0_4).symm
end N34
end Go.Proofs.Yu
namespace Go.Proofs.Yu
open Go Go.Aw Go.Proofs
set_option linter.unusedVariables false
set_option linter.unusedSimpArgs false
set_option maxRecDepth 100000
/-! dyehouse/obs.of -/
namespace N70
noncomputable def cfg : Cfg := { P := Try.prog, ty := tys, E := tab [], atSeq := tab [], atLoop := tab [], outs := [], eqT := tab [], bT := tab [], fzB := [1] }
noncomputable def body : Code := bodyOf Try.f70
def c (x0_0 : (List (ByteArray × (List Int)))) (x0_1 : Int) (x0_2 : Int) (x0_3 : (List Int)) (x0_4 : Int) (k : Int → Int → Int → Prop) : Prop :=
  (k x0_1 x0_2 x0_4)
def f0 (x0_0 : (List (ByteArray × (List Int)))) (x0_1 : Int) (x0_2 : Int) (x0_3 : (List Int)) (x0_4 : Int) (k : Int → Int → Int → Prop) : Prop := c x0_0 x0_1 x0_2 x0_3 x0_4 k
theorem f_ex : ∃ g : (List (ByteArray × (List Int))) → Int → Int → (List Int) → Int → (Int → Int → Int → Prop) → Prop, g = f0 := ⟨_, rfl⟩
noncomputable def f : (List (ByteArray × (List Int))) → Int → Int → (List Int) → Int → (Int → Int → Int → Prop) → Prop := Classical.choose f_ex
theorem f_def : f = f0 := Classical.choose_spec f_ex
noncomputable def JJ (k kp : D → List Blk → Prop) : Nat → St → Prop := pick none' []
noncomputable def LL (k kp : D → List Blk → Prop) : Nat → St → Prop := pick none' []
theorem c_c (k kp : D → List Blk → Prop) (J L : Nat → St → Prop) (x0_0 : (List (ByteArray × (List Int)))) (x0_1 : Int) (x0_2 : Int) (x0_3 : (List Int)) (x0_4 : Int) : runC cfg 1000001 J L none'' [] body (topK cfg Try.f70 k kp) (st0 Try.f70 [(.agg [(.fz (Ty.pair Ty.str (Ty.list (Ty.int IntKind.i64))) x0_0), (.v (.int IntKind.i64 x0_1)), (.v (.int IntKind.i64 x0_2)), (.fz (Ty.int IntKind.i64) x0_3), (.v (.int IntKind.i64 x0_4))])] []) = c x0_0 x0_1 x0_2 x0_3 x0_4 (fun y0_0 y0_1 y0_2 => k (.agg [(.v (.int IntKind.i64 y0_0)), (.v (.int IntKind.i64 y0_1)), (.v (.int IntKind.i64 y0_2))]) []) := by kernel_rfl
theorem c_ag (k kp : D → List Blk → Prop) : agPL cfg 1000001 (JJ k kp) (LL k kp) [] body = agPR cfg 1000001 none'' [] body (topK cfg Try.f70 k kp) := by kernel_rfl
theorem body_is : Try.f70.body = some body := by kernel_rfl
theorem c_raw (k kp : D → List Blk → Prop) (x0_0 : (List (ByteArray × (List Int)))) (x0_1 : Int) (x0_2 : Int) (x0_3 : (List Int)) (x0_4 : Int) : funW cfg Try.f70 [(.agg [(.fz (Ty.pair Ty.str (Ty.list (Ty.int IntKind.i64))) x0_0), (.v (.int IntKind.i64 x0_1)), (.v (.int IntKind.i64 x0_2)), (.fz (Ty.int IntKind.i64) x0_3), (.v (.int IntKind.i64 x0_4))])] [] k kp = c x0_0 x0_1 x0_2 x0_3 x0_4 (fun y0_0 y0_1 y0_2 => k (.agg [(.v (.int IntKind.i64 y0_0)), (.v (.int IntKind.i64 y0_1)), (.v (.int IntKind.i64 y0_2))]) []) :=
  Eq.mp (by kernel_rfl) ((funW_run (AG := none'') body_is (c_ag k kp) [(.agg [(.fz (Ty.pair Ty.str (Ty.list (Ty.int IntKind.i64))) x0_0), (.v (.int IntKind.i64 x0_1)), (.v (.int IntKind.i64 x0_2)), (.fz (Ty.int IntKind.i64) x0_3), (.v (.int IntKind.i64 x0_4))])] []).trans (c_c k kp (JJ k kp) (LL k kp) x0_0 x0_1 x0_2 x0_3 x0_4))
theorem f_eq (k kp : D → List Blk → Prop) (x0_0 : (List (ByteArray × (List Int)))) (x0_1 : Int) (x0_2 : Int) (x0_3 : (List Int)) (x0_4 : Int) : funW cfg Try.f70 [(.agg [(.fz (Ty.pair Ty.str (Ty.list (Ty.int IntKind.i64))) x0_0), (.v (.int IntKind.i64 x0_1)), (.v (.int IntKind.i64 x0_2)), (.fz (Ty.int IntKind.i64) x0_3), (.v (.int IntKind.i64 x0_4))])] [] k kp = f x0_0 x0_1 x0_2 x0_3 x0_4 (fun y0_0 y0_1 y0_2 => k (.agg [(.v (.int IntKind.i64 y0_0)), (.v (.int IntKind.i64 y0_1)), (.v (.int IntKind.i64 y0_2))]) []) := by
  rw [f_def, c_raw]; rfl
noncomputable def ent0 : Entry := fun args blks k _ => match args, blks with
  | [d0], [] => aAgg 5 d0 fun l => aCons l fun d0_0 l => aCons l fun d0_1 l => aCons l fun d0_2 l => aCons l fun d0_3 l => aCons l fun d0_4 l => aNil l (aFz (Ty.pair Ty.str (Ty.list (Ty.int IntKind.i64))) d0_0 fun x0_0 => aInt IntKind.i64 d0_1 fun x0_1 => aInt IntKind.i64 d0_2 fun x0_2 => aFz (Ty.int IntKind.i64) d0_3 fun x0_3 => aInt IntKind.i64 d0_4 fun x0_4 => f x0_0 x0_1 x0_2 x0_3 x0_4 (fun y0_0 y0_1 y0_2 => k (.agg [(.v (.int IntKind.i64 y0_0)), (.v (.int IntKind.i64 y0_1)), (.v (.int IntKind.i64 y0_2))]) []))
  | _, _ => False
noncomputable def ent : Entry := fun args blks k kp => ent0 (convB [.cells [some (Ty.pair Ty.str (Ty.list (Ty.int IntKind.i64))), none, none, some (Ty.int IntKind.i64), none]] args) blks k kp
theorem ok : EntOk Try.prog 0 0 70 ent := by
  refine EntOk.convB (EntOk.of (funW_ok (cfg := cfg) (tyOk_of rfl rfl tyL_ok) (eqOk_of (P := Try.prog) rfl rfl (by kernel_rfl)) mixed_ok (tab_ok ?_) Try.func70 (by rfl) (by rfl)) ?_) _
  · intro p hp
    cases hp
  · intro args blks k kp h k' kp'
    match args, blks, h with
    | [d0], [], h =>
    dsimp only [ent0] at h
    have h9 := aAgg_elim h; clear h; obtain ⟨_, rfl, h⟩ := h9
    have h9 := aCons_elim h; clear h; obtain ⟨d0_0, _, rfl, h⟩ := h9
    have h9 := aCons_elim h; clear h; obtain ⟨d0_1, _, rfl, h⟩ := h9
    have h9 := aCons_elim h; clear h; obtain ⟨d0_2, _, rfl, h⟩ := h9
    have h9 := aCons_elim h; clear h; obtain ⟨d0_3, _, rfl, h⟩ := h9
    have h9 := aCons_elim h; clear h; obtain ⟨d0_4, _, rfl, h⟩ := h9
    have h9 := aNil_elim h; clear h; obtain ⟨rfl, h⟩ := h9
    have h9 := aFz_elim (t := (Ty.pair Ty.str (Ty.list (Ty.int IntKind.i64)))) h; clear h; obtain ⟨x0_0, rfl, h⟩ := h9
    have h9 := aInt_elim h; clear h; obtain ⟨x0_1, rfl, h⟩ := h9
    have h9 := aInt_elim h; clear h; obtain ⟨x0_2, rfl, h⟩ := h9
    have h9 := aFz_elim (t := (Ty.int IntKind.i64)) h; clear h; obtain ⟨x0_3, rfl, h⟩ := h9
    have h9 := aInt_elim h; clear h; obtain ⟨x0_4, rfl, h⟩ := h9
    exact (f_eq k' kp' x0_0 x0_1 x0_2 x0_3 x0_4).symm
end N70
end Go.Proofs.Yu
namespace Go.Proofs.Yu
open Go Go.Aw Go.Proofs
set_option linter.unusedVariables false
set_option linter.unusedSimpArgs false
set_option maxRecDepth 100000
/-! slices.Equal[[]int,int] -/
namespace N71
noncomputable def cfg : Cfg := { P := Try.prog, ty := tys, E := tab [], atSeq := tab [(9, ⟨[]⟩)], atLoop := tab [(4, ⟨[(0, .keep), (1, .keep), (12, .keep), (13, .keep)]⟩)], outs := [], eqT := tab [], bT := tab [] }
noncomputable def body : Code := bodyOf Try.f71
def l4 (j9 : Prop) (ag4 : Int → Prop) (x0 : (List Int)) (x1 : (List Int)) (x12 : Int) (x13 : Int) (k : Bool → Prop) : Prop :=
  (br (decide (x13 < x12)) ((inB 0 x13 ((((x0).length : Nat) : Int) - 1)) ∧ ((inB 0 x13 ((((x1).length : Nat) : Int) - 1)) ∧ (br ((x0.getD (Int.toNat x13) (0)) != (x1.getD (Int.toNat x13) (0))) (k false) (ag4 (IntKind.i64.wrap (x13 + (1 : Int))))))) (j9))
def j9 (k : Bool → Prop) : Prop :=
  (k true)
def c (l4 : (List Int) → (List Int) → Int → Int → Prop) (x0 : (List Int)) (x1 : (List Int)) (k : Bool → Prop) : Prop :=
  (br (((((x0).length : Nat) : Int)) != ((((x1).length : Nat) : Int))) (k false) (l4 x0 x1 ((((x0).length : Nat) : Int)) (0 : Int)))
def j9' (k : Bool → Prop) : Prop := j9 k
def l4' (x0 : (List Int)) (x1 : (List Int)) (x12 : Int) (x13 : Int) (k : Bool → Prop) : Prop := ∃ n, loopS (fun (ag : (Int) → Prop) (s : Int) => l4 (j9' k) (fun x13 => ag (x13)) x0 x1 x12 s k) n (x13)
def f0 (x0 : (List Int)) (x1 : (List Int)) (k : Bool → Prop) : Prop := c (fun x0 x1 x12 x13 => l4' x0 x1 x12 x13 k) x0 x1 k
theorem f_ex : ∃ g : (List Int) → (List Int) → (Bool → Prop) → Prop, g = f0 := ⟨_, rfl⟩
noncomputable def f : (List Int) → (List Int) → (Bool → Prop) → Prop := Classical.choose f_ex
theorem f_def : f = f0 := Classical.choose_spec f_ex
def mL4 (x0 : (List Int)) (x1 : (List Int)) (x12 : Int) (x13 : Int) : St := { tmps := mkT 26 0 [(0, (.fz (Ty.int IntKind.i64) x0)), (1, (.fz (Ty.int IntKind.i64) x1)), (12, (.v (.int IntKind.i64 x12))), (13, (.v (.int IntKind.i64 x13)))], hp := [], m := 0 }
def m9 : St := { tmps := mkT 26 0 [], hp := [], m := 0 }
noncomputable def YL4 (k kp : D → List Blk → Prop) : (St → Prop) → St → Prop := loopB cfg (sub [1, 1, 0, 1, 0, 0] body) (contK cfg (pick none' []) [1, 1, 0, 1, 0] body (topK cfg Try.f71 k kp))
noncomputable def XL4 (k kp : D → List Blk → Prop) : St → Prop := fun st => ∃ n, loopN (YL4 k kp) n st
noncomputable def X9 (k kp : D → List Blk → Prop) : St → Prop := atP cfg (pick none' []) [1, 1, 1] body (topK cfg Try.f71 k kp)
noncomputable def JJ_4 (k kp : D → List Blk → Prop) (ag4 : St → Prop) : Nat → St → Prop := pick none' [(9, X9 k kp)]
noncomputable def LL_4 (k kp : D → List Blk → Prop) (ag4 : St → Prop) : Nat → St → Prop := pick none' [(4, XL4 k kp)]
noncomputable def JJ (k kp : D → List Blk → Prop) : Nat → St → Prop := pick none' [(9, X9 k kp)]
noncomputable def LL (k kp : D → List Blk → Prop) : Nat → St → Prop := pick none' [(4, XL4 k kp)]
theorem j9_c (k kp : D → List Blk → Prop) (J L : Nat → St → Prop) : runC cfg 9 J L (pick none' []) [1, 1, 1] body (topK cfg Try.f71 k kp) (m9) = j9 (fun y0 => k (.v (.bool y0)) []) := by kernel_rfl
theorem j9_ag (k kp : D → List Blk → Prop) : agPL cfg 9 (JJ k kp) (LL k kp) [1, 1, 1] body = agPR cfg 9 (pick none' []) [1, 1, 1] body (topK cfg Try.f71 k kp) := by kernel_rfl
theorem j9_raw (k kp : D → List Blk → Prop) : X9 k kp (m9) = j9 (fun y0 => k (.v (.bool y0)) []) :=
  Eq.mp (by kernel_rfl) ((atP_run (j9_ag k kp) (m9)).trans (j9_c k kp (JJ k kp) (LL k kp)))
theorem j9_eq (k kp : D → List Blk → Prop) : X9 k kp (m9) = j9' (fun y0 => k (.v (.bool y0)) []) := by
  rw [j9_raw]; rfl
theorem l4_c (k kp : D → List Blk → Prop) (J L : Nat → St → Prop) (ag4 : St → Prop) (x0 : (List Int)) (x1 : (List Int)) (x12 : Int) (x13 : Int) : runC cfg 1000001 J L (pick none' [(4, ag4)]) [1, 1, 0, 1, 0, 0] body (topK cfg Try.f71 k kp) (mL4 x0 x1 x12 x13) = l4 (J 9 (m9)) (fun x13 => ag4 (mL4 x0 x1 x12 x13)) x0 x1 x12 x13 (fun y0 => k (.v (.bool y0)) []) := by kernel_rfl
theorem l4_ag (k kp : D → List Blk → Prop) (ag4 : St → Prop) : agPL cfg 1000001 (JJ_4 k kp ag4) (LL_4 k kp ag4) [1, 1, 0, 1, 0, 0] body = agPR cfg 1000001 (pick none' [(4, ag4)]) [1, 1, 0, 1, 0, 0] body (topK cfg Try.f71 k kp) := by kernel_rfl
theorem l4_raw (k kp : D → List Blk → Prop) (ag4 : St → Prop) (x0 : (List Int)) (x1 : (List Int)) (x12 : Int) (x13 : Int) : YL4 k kp ag4 (mL4 x0 x1 x12 x13) = l4 (X9 k kp (m9)) (fun x13 => ag4 (mL4 x0 x1 x12 x13)) x0 x1 x12 x13 (fun y0 => k (.v (.bool y0)) []) :=
  Eq.mp (by kernel_rfl) ((atP_run (l4_ag k kp ag4) (mL4 x0 x1 x12 x13)).trans (l4_c k kp (JJ_4 k kp ag4) (LL_4 k kp ag4) ag4 x0 x1 x12 x13))
theorem l4_eq (k kp : D → List Blk → Prop) (x0 : (List Int)) (x1 : (List Int)) (x12 : Int) (x13 : Int) : XL4 k kp (mL4 x0 x1 x12 x13) = l4' x0 x1 x12 x13 (fun y0 => k (.v (.bool y0)) []) :=
  loop_eq (mk := fun (s : Int) => mL4 x0 x1 x12 s) (fun again s => by rw [l4_raw k kp again x0 x1 x12 s]; simp only [j9_eq]; first | done | rfl) (x13)
theorem c_c (k kp : D → List Blk → Prop) (J L : Nat → St → Prop) (x0 : (List Int)) (x1 : (List Int)) : runC cfg 1000001 J L none'' [] body (topK cfg Try.f71 k kp) (st0 Try.f71 [(.fz (Ty.int IntKind.i64) x0), (.fz (Ty.int IntKind.i64) x1)] []) = c (fun x0 x1 x12 x13 => L 4 (mL4 x0 x1 x12 x13)) x0 x1 (fun y0 => k (.v (.bool y0)) []) := by kernel_rfl
theorem c_ag (k kp : D → List Blk → Prop) : agPL cfg 1000001 (JJ k kp) (LL k kp) [] body = agPR cfg 1000001 none'' [] body (topK cfg Try.f71 k kp) := by kernel_rfl
theorem body_is : Try.f71.body = some body := by kernel_rfl
theorem c_raw (k kp : D → List Blk → Prop) (x0 : (List Int)) (x1 : (List Int)) : funW cfg Try.f71 [(.fz (Ty.int IntKind.i64) x0), (.fz (Ty.int IntKind.i64) x1)] [] k kp = c (fun x0 x1 x12 x13 => XL4 k kp (mL4 x0 x1 x12 x13)) x0 x1 (fun y0 => k (.v (.bool y0)) []) :=
  Eq.mp (by kernel_rfl) ((funW_run (AG := none'') body_is (c_ag k kp) [(.fz (Ty.int IntKind.i64) x0), (.fz (Ty.int IntKind.i64) x1)] []).trans (c_c k kp (JJ k kp) (LL k kp) x0 x1))
theorem f_eq (k kp : D → List Blk → Prop) (x0 : (List Int)) (x1 : (List Int)) : funW cfg Try.f71 [(.fz (Ty.int IntKind.i64) x0), (.fz (Ty.int IntKind.i64) x1)] [] k kp = f x0 x1 (fun y0 => k (.v (.bool y0)) []) := by
  rw [f_def, c_raw]; simp only [l4_eq]; first | done | rfl
noncomputable def ent0 : Entry := fun args blks k _ => match args, blks with
  | [d0, d1], [] => aFz (Ty.int IntKind.i64) d0 fun x0 => aFz (Ty.int IntKind.i64) d1 fun x1 => f x0 x1 (fun y0 => k (.v (.bool y0)) [])
  | _, _ => False
noncomputable def ent : Entry := fun args blks k kp => ent0 (convB [.one (Ty.int IntKind.i64), .one (Ty.int IntKind.i64)] args) blks k kp
theorem ok : EntOk Try.prog 0 0 71 ent := by
  refine EntOk.convB (EntOk.of (funW_ok (cfg := cfg) (tyOk_of rfl rfl tyL_ok) (eqOk_of (P := Try.prog) rfl rfl (by kernel_rfl)) mixed_ok (tab_ok ?_) Try.func71 (by rfl) (by rfl)) ?_) _
  · intro p hp
    cases hp
  · intro args blks k kp h k' kp'
    match args, blks, h with
    | [d0, d1], [], h =>
    dsimp only [ent0] at h
    have h9 := aFz_elim (t := (Ty.int IntKind.i64)) h; clear h; obtain ⟨x0, rfl, h⟩ := h9
    have h9 := aFz_elim (t := (Ty.int IntKind.i64)) h; clear h; obtain ⟨x1, rfl, h⟩ := h9
    exact (f_eq k' kp' x0 x1).symm
end N71
end Go.Proofs.Yu
namespace Go.Proofs.Yu
open Go Go.Aw Go.Proofs
set_option linter.unusedVariables false
set_option linter.unusedSimpArgs false
set_option maxRecDepth 100000
/-! dyehouse/obs.sameCall -/
namespace N73
noncomputable def cfg : Cfg := { P := Try.prog, ty := tys, E := tab [(71, N71.ent)], atSeq := tab [], atLoop := tab [], outs := [], eqT := tab [], bT := tab [], fzB := [2, 3] }
noncomputable def body : Code := bodyOf Try.f73
def c (x0_0 : ByteArray) (x0_1 : (List Int)) (x1_0 : ByteArray) (x1_1 : (List Int)) (k : Bool → Prop) : Prop :=
  (br (beqS x0_0 x1_0) (N71.f x0_1 x1_1 (fun (y0_0 : Bool) => (k y0_0))) (k false))
def f0 (x0_0 : ByteArray) (x0_1 : (List Int)) (x1_0 : ByteArray) (x1_1 : (List Int)) (k : Bool → Prop) : Prop := c x0_0 x0_1 x1_0 x1_1 k
theorem f_ex : ∃ g : ByteArray → (List Int) → ByteArray → (List Int) → (Bool → Prop) → Prop, g = f0 := ⟨_, rfl⟩
noncomputable def f : ByteArray → (List Int) → ByteArray → (List Int) → (Bool → Prop) → Prop := Classical.choose f_ex
theorem f_def : f = f0 := Classical.choose_spec f_ex
noncomputable def JJ (k kp : D → List Blk → Prop) : Nat → St → Prop := pick none' []
noncomputable def LL (k kp : D → List Blk → Prop) : Nat → St → Prop := pick none' []
theorem c_c (k kp : D → List Blk → Prop) (J L : Nat → St → Prop) (x0_0 : ByteArray) (x0_1 : (List Int)) (x1_0 : ByteArray) (x1_1 : (List Int)) : runC cfg 1000001 J L none'' [] body (topK cfg Try.f73 k kp) (st0 Try.f73 [(.agg [(.v (.string x0_0)), (.fz (Ty.int IntKind.i64) x0_1)]), (.agg [(.v (.string x1_0)), (.fz (Ty.int IntKind.i64) x1_1)])] []) = c x0_0 x0_1 x1_0 x1_1 (fun y0 => k (.v (.bool y0)) []) := by kernel_rfl
theorem c_ag (k kp : D → List Blk → Prop) : agPL cfg 1000001 (JJ k kp) (LL k kp) [] body = agPR cfg 1000001 none'' [] body (topK cfg Try.f73 k kp) := by kernel_rfl
theorem body_is : Try.f73.body = some body := by kernel_rfl
theorem c_raw (k kp : D → List Blk → Prop) (x0_0 : ByteArray) (x0_1 : (List Int)) (x1_0 : ByteArray) (x1_1 : (List Int)) : funW cfg Try.f73 [(.agg [(.v (.string x0_0)), (.fz (Ty.int IntKind.i64) x0_1)]), (.agg [(.v (.string x1_0)), (.fz (Ty.int IntKind.i64) x1_1)])] [] k kp = c x0_0 x0_1 x1_0 x1_1 (fun y0 => k (.v (.bool y0)) []) :=
  Eq.mp (by kernel_rfl) ((funW_run (AG := none'') body_is (c_ag k kp) [(.agg [(.v (.string x0_0)), (.fz (Ty.int IntKind.i64) x0_1)]), (.agg [(.v (.string x1_0)), (.fz (Ty.int IntKind.i64) x1_1)])] []).trans (c_c k kp (JJ k kp) (LL k kp) x0_0 x0_1 x1_0 x1_1))
theorem f_eq (k kp : D → List Blk → Prop) (x0_0 : ByteArray) (x0_1 : (List Int)) (x1_0 : ByteArray) (x1_1 : (List Int)) : funW cfg Try.f73 [(.agg [(.v (.string x0_0)), (.fz (Ty.int IntKind.i64) x0_1)]), (.agg [(.v (.string x1_0)), (.fz (Ty.int IntKind.i64) x1_1)])] [] k kp = f x0_0 x0_1 x1_0 x1_1 (fun y0 => k (.v (.bool y0)) []) := by
  rw [f_def, c_raw]; rfl
noncomputable def ent0 : Entry := fun args blks k _ => match args, blks with
  | [d0, d1], [] => aAgg 2 d0 fun l => aCons l fun d0_0 l => aCons l fun d0_1 l => aNil l (aStr d0_0 fun x0_0 => aFz (Ty.int IntKind.i64) d0_1 fun x0_1 => aAgg 2 d1 fun l => aCons l fun d1_0 l => aCons l fun d1_1 l => aNil l (aStr d1_0 fun x1_0 => aFz (Ty.int IntKind.i64) d1_1 fun x1_1 => f x0_0 x0_1 x1_0 x1_1 (fun y0 => k (.v (.bool y0)) [])))
  | _, _ => False
noncomputable def ent : Entry := fun args blks k kp => ent0 (convB [.cells [none, some (Ty.int IntKind.i64)], .cells [none, some (Ty.int IntKind.i64)]] args) blks k kp
theorem ok : EntOk Try.prog 0 0 73 ent := by
  refine EntOk.convB (EntOk.of (funW_ok (cfg := cfg) (tyOk_of rfl rfl tyL_ok) (eqOk_of (P := Try.prog) rfl rfl (by kernel_rfl)) mixed_ok (tab_ok ?_) Try.func73 (by rfl) (by rfl)) ?_) _
  · intro p hp
    simp only [List.mem_cons, List.not_mem_nil, or_false] at hp
    rcases hp with rfl
    · exact N71.ok
  · intro args blks k kp h k' kp'
    match args, blks, h with
    | [d0, d1], [], h =>
    dsimp only [ent0] at h
    have h9 := aAgg_elim h; clear h; obtain ⟨_, rfl, h⟩ := h9
    have h9 := aCons_elim h; clear h; obtain ⟨d0_0, _, rfl, h⟩ := h9
    have h9 := aCons_elim h; clear h; obtain ⟨d0_1, _, rfl, h⟩ := h9
    have h9 := aNil_elim h; clear h; obtain ⟨rfl, h⟩ := h9
    have h9 := aStr_elim h; clear h; obtain ⟨x0_0, rfl, h⟩ := h9
    have h9 := aFz_elim (t := (Ty.int IntKind.i64)) h; clear h; obtain ⟨x0_1, rfl, h⟩ := h9
    have h9 := aAgg_elim h; clear h; obtain ⟨_, rfl, h⟩ := h9
    have h9 := aCons_elim h; clear h; obtain ⟨d1_0, _, rfl, h⟩ := h9
    have h9 := aCons_elim h; clear h; obtain ⟨d1_1, _, rfl, h⟩ := h9
    have h9 := aNil_elim h; clear h; obtain ⟨rfl, h⟩ := h9
    have h9 := aStr_elim h; clear h; obtain ⟨x1_0, rfl, h⟩ := h9
    have h9 := aFz_elim (t := (Ty.int IntKind.i64)) h; clear h; obtain ⟨x1_1, rfl, h⟩ := h9
    exact (f_eq k' kp' x0_0 x0_1 x1_0 x1_1).symm
end N73
end Go.Proofs.Yu
namespace Go.Proofs.Yu
open Go Go.Aw Go.Proofs
set_option linter.unusedVariables false
set_option linter.unusedSimpArgs false
set_option maxRecDepth 100000
/-! slices.EqualFunc[[]dyehouse/api.Call,[]dyehouse/api.Call,dyehouse/api.Call,dyehouse/api.Call] -/
namespace N72
noncomputable def cfg : Cfg := { P := Try.prog, ty := tys, E := tab [(73, N73.ent)], atSeq := tab [(10, ⟨[]⟩)], atLoop := tab [(4, ⟨[(1, .keep), (2, .keep), (15, .keep), (16, .keep), (17, .keep)]⟩)], outs := [], eqT := tab [], bT := tab [] }
noncomputable def body : Code := bodyOf Try.f72
def l4 (j10 : Prop) (ag4 : Int → Prop) (x1 : (List (ByteArray × (List Int)))) (x15 : (List (ByteArray × (List Int)))) (x16 : Int) (x17 : Int) (k : Bool → Prop) : Prop :=
  (br (decide (x17 < x16)) ((inB 0 x17 ((((x15).length : Nat) : Int) - 1)) ∧ ((inB 0 x17 ((((x1).length : Nat) : Int) - 1)) ∧ (N73.f (x15.getD (Int.toNat x17) ((ByteArray.empty, ([] : List Int)))).1 (x15.getD (Int.toNat x17) ((ByteArray.empty, ([] : List Int)))).2 (x1.getD (Int.toNat x17) ((ByteArray.empty, ([] : List Int)))).1 (x1.getD (Int.toNat x17) ((ByteArray.empty, ([] : List Int)))).2 (fun (y0_0 : Bool) => (br (!y0_0) (k false) (ag4 (IntKind.i64.wrap (x17 + (1 : Int))))))))) (j10))
def j10 (k : Bool → Prop) : Prop :=
  (k true)
def c (l4 : (List (ByteArray × (List Int))) → (List (ByteArray × (List Int))) → Int → Int → Prop) (x0 : (List (ByteArray × (List Int)))) (x1 : (List (ByteArray × (List Int)))) (k : Bool → Prop) : Prop :=
  (br (((((x0).length : Nat) : Int)) != ((((x1).length : Nat) : Int))) (k false) (l4 x1 x0 ((((x0).length : Nat) : Int)) (0 : Int)))
def j10' (k : Bool → Prop) : Prop := j10 k
def l4' (x1 : (List (ByteArray × (List Int)))) (x15 : (List (ByteArray × (List Int)))) (x16 : Int) (x17 : Int) (k : Bool → Prop) : Prop := ∃ n, loopS (fun (ag : (Int) → Prop) (s : Int) => l4 (j10' k) (fun x17 => ag (x17)) x1 x15 x16 s k) n (x17)
def f0 (x0 : (List (ByteArray × (List Int)))) (x1 : (List (ByteArray × (List Int)))) (k : Bool → Prop) : Prop := c (fun x1 x15 x16 x17 => l4' x1 x15 x16 x17 k) x0 x1 k
theorem f_ex : ∃ g : (List (ByteArray × (List Int))) → (List (ByteArray × (List Int))) → (Bool → Prop) → Prop, g = f0 := ⟨_, rfl⟩
noncomputable def f : (List (ByteArray × (List Int))) → (List (ByteArray × (List Int))) → (Bool → Prop) → Prop := Classical.choose f_ex
theorem f_def : f = f0 := Classical.choose_spec f_ex
def mL4 (x1 : (List (ByteArray × (List Int)))) (x15 : (List (ByteArray × (List Int)))) (x16 : Int) (x17 : Int) : St := { tmps := mkT 32 0 [(1, (.fz (Ty.pair Ty.str (Ty.list (Ty.int IntKind.i64))) x1)), (2, (.clo 73 [] [])), (15, (.fz (Ty.pair Ty.str (Ty.list (Ty.int IntKind.i64))) x15)), (16, (.v (.int IntKind.i64 x16))), (17, (.v (.int IntKind.i64 x17)))], hp := [], m := 0 }
def m10 : St := { tmps := mkT 32 0 [], hp := [], m := 0 }
noncomputable def YL4 (k kp : D → List Blk → Prop) : (St → Prop) → St → Prop := loopB cfg (sub [1, 1, 0, 1, 0, 0] body) (contK cfg (pick none' []) [1, 1, 0, 1, 0] body (topK cfg Try.f72 k kp))
noncomputable def XL4 (k kp : D → List Blk → Prop) : St → Prop := fun st => ∃ n, loopN (YL4 k kp) n st
noncomputable def X10 (k kp : D → List Blk → Prop) : St → Prop := atP cfg (pick none' []) [1, 1, 1] body (topK cfg Try.f72 k kp)
noncomputable def JJ_4 (k kp : D → List Blk → Prop) (ag4 : St → Prop) : Nat → St → Prop := pick none' [(10, X10 k kp)]
noncomputable def LL_4 (k kp : D → List Blk → Prop) (ag4 : St → Prop) : Nat → St → Prop := pick none' [(4, XL4 k kp)]
noncomputable def JJ (k kp : D → List Blk → Prop) : Nat → St → Prop := pick none' [(10, X10 k kp)]
noncomputable def LL (k kp : D → List Blk → Prop) : Nat → St → Prop := pick none' [(4, XL4 k kp)]
theorem j10_c (k kp : D → List Blk → Prop) (J L : Nat → St → Prop) : runC cfg 10 J L (pick none' []) [1, 1, 1] body (topK cfg Try.f72 k kp) (m10) = j10 (fun y0 => k (.v (.bool y0)) []) := by kernel_rfl
theorem j10_ag (k kp : D → List Blk → Prop) : agPL cfg 10 (JJ k kp) (LL k kp) [1, 1, 1] body = agPR cfg 10 (pick none' []) [1, 1, 1] body (topK cfg Try.f72 k kp) := by kernel_rfl
theorem j10_raw (k kp : D → List Blk → Prop) : X10 k kp (m10) = j10 (fun y0 => k (.v (.bool y0)) []) :=
  Eq.mp (by kernel_rfl) ((atP_run (j10_ag k kp) (m10)).trans (j10_c k kp (JJ k kp) (LL k kp)))
theorem j10_eq (k kp : D → List Blk → Prop) : X10 k kp (m10) = j10' (fun y0 => k (.v (.bool y0)) []) := by
  rw [j10_raw]; rfl
theorem l4_c (k kp : D → List Blk → Prop) (J L : Nat → St → Prop) (ag4 : St → Prop) (x1 : (List (ByteArray × (List Int)))) (x15 : (List (ByteArray × (List Int)))) (x16 : Int) (x17 : Int) : runC cfg 1000001 J L (pick none' [(4, ag4)]) [1, 1, 0, 1, 0, 0] body (topK cfg Try.f72 k kp) (mL4 x1 x15 x16 x17) = l4 (J 10 (m10)) (fun x17 => ag4 (mL4 x1 x15 x16 x17)) x1 x15 x16 x17 (fun y0 => k (.v (.bool y0)) []) := by kernel_rfl
theorem l4_ag (k kp : D → List Blk → Prop) (ag4 : St → Prop) : agPL cfg 1000001 (JJ_4 k kp ag4) (LL_4 k kp ag4) [1, 1, 0, 1, 0, 0] body = agPR cfg 1000001 (pick none' [(4, ag4)]) [1, 1, 0, 1, 0, 0] body (topK cfg Try.f72 k kp) := by kernel_rfl
theorem l4_raw (k kp : D → List Blk → Prop) (ag4 : St → Prop) (x1 : (List (ByteArray × (List Int)))) (x15 : (List (ByteArray × (List Int)))) (x16 : Int) (x17 : Int) : YL4 k kp ag4 (mL4 x1 x15 x16 x17) = l4 (X10 k kp (m10)) (fun x17 => ag4 (mL4 x1 x15 x16 x17)) x1 x15 x16 x17 (fun y0 => k (.v (.bool y0)) []) :=
  Eq.mp (by kernel_rfl) ((atP_run (l4_ag k kp ag4) (mL4 x1 x15 x16 x17)).trans (l4_c k kp (JJ_4 k kp ag4) (LL_4 k kp ag4) ag4 x1 x15 x16 x17))
theorem l4_eq (k kp : D → List Blk → Prop) (x1 : (List (ByteArray × (List Int)))) (x15 : (List (ByteArray × (List Int)))) (x16 : Int) (x17 : Int) : XL4 k kp (mL4 x1 x15 x16 x17) = l4' x1 x15 x16 x17 (fun y0 => k (.v (.bool y0)) []) :=
  loop_eq (mk := fun (s : Int) => mL4 x1 x15 x16 s) (fun again s => by rw [l4_raw k kp again x1 x15 x16 s]; simp only [j10_eq]; first | done | rfl) (x17)
theorem c_c (k kp : D → List Blk → Prop) (J L : Nat → St → Prop) (x0 : (List (ByteArray × (List Int)))) (x1 : (List (ByteArray × (List Int)))) : runC cfg 1000001 J L none'' [] body (topK cfg Try.f72 k kp) (st0 Try.f72 [(.fz (Ty.pair Ty.str (Ty.list (Ty.int IntKind.i64))) x0), (.fz (Ty.pair Ty.str (Ty.list (Ty.int IntKind.i64))) x1), (.clo 73 [] [])] []) = c (fun x1 x15 x16 x17 => L 4 (mL4 x1 x15 x16 x17)) x0 x1 (fun y0 => k (.v (.bool y0)) []) := by kernel_rfl
theorem c_ag (k kp : D → List Blk → Prop) : agPL cfg 1000001 (JJ k kp) (LL k kp) [] body = agPR cfg 1000001 none'' [] body (topK cfg Try.f72 k kp) := by kernel_rfl
theorem body_is : Try.f72.body = some body := by kernel_rfl
theorem c_raw (k kp : D → List Blk → Prop) (x0 : (List (ByteArray × (List Int)))) (x1 : (List (ByteArray × (List Int)))) : funW cfg Try.f72 [(.fz (Ty.pair Ty.str (Ty.list (Ty.int IntKind.i64))) x0), (.fz (Ty.pair Ty.str (Ty.list (Ty.int IntKind.i64))) x1), (.clo 73 [] [])] [] k kp = c (fun x1 x15 x16 x17 => XL4 k kp (mL4 x1 x15 x16 x17)) x0 x1 (fun y0 => k (.v (.bool y0)) []) :=
  Eq.mp (by kernel_rfl) ((funW_run (AG := none'') body_is (c_ag k kp) [(.fz (Ty.pair Ty.str (Ty.list (Ty.int IntKind.i64))) x0), (.fz (Ty.pair Ty.str (Ty.list (Ty.int IntKind.i64))) x1), (.clo 73 [] [])] []).trans (c_c k kp (JJ k kp) (LL k kp) x0 x1))
theorem f_eq (k kp : D → List Blk → Prop) (x0 : (List (ByteArray × (List Int)))) (x1 : (List (ByteArray × (List Int)))) : funW cfg Try.f72 [(.fz (Ty.pair Ty.str (Ty.list (Ty.int IntKind.i64))) x0), (.fz (Ty.pair Ty.str (Ty.list (Ty.int IntKind.i64))) x1), (.clo 73 [] [])] [] k kp = f x0 x1 (fun y0 => k (.v (.bool y0)) []) := by
  rw [f_def, c_raw]; simp only [l4_eq]; first | done | rfl
noncomputable def ent0 : Entry := fun args blks k _ => match args, blks with
  | [d0, d1, d2], [] => aFz (Ty.pair Ty.str (Ty.list (Ty.int IntKind.i64))) d0 fun x0 => aFz (Ty.pair Ty.str (Ty.list (Ty.int IntKind.i64))) d1 fun x1 => aClo 73 d2 (f x0 x1 (fun y0 => k (.v (.bool y0)) []))
  | _, _ => False
noncomputable def ent : Entry := fun args blks k kp => ent0 (convB [.one (Ty.pair Ty.str (Ty.list (Ty.int IntKind.i64))), .one (Ty.pair Ty.str (Ty.list (Ty.int IntKind.i64))), .no] args) blks k kp
theorem ok : EntOk Try.prog 0 0 72 ent := by
  refine EntOk.convB (EntOk.of (funW_ok (cfg := cfg) (tyOk_of rfl rfl tyL_ok) (eqOk_of (P := Try.prog) rfl rfl (by kernel_rfl)) mixed_ok (tab_ok ?_) Try.func72 (by rfl) (by rfl)) ?_) _
  · intro p hp
    simp only [List.mem_cons, List.not_mem_nil, or_false] at hp
    rcases hp with rfl
    · exact N73.ok
  · intro args blks k kp h k' kp'
    match args, blks, h with
    | [d0, d1, d2], [], h =>
    dsimp only [ent0] at h
    have h9 := aFz_elim (t := (Ty.pair Ty.str (Ty.list (Ty.int IntKind.i64)))) h; clear h; obtain ⟨x0, rfl, h⟩ := h9
    have h9 := aFz_elim (t := (Ty.pair Ty.str (Ty.list (Ty.int IntKind.i64)))) h; clear h; obtain ⟨x1, rfl, h⟩ := h9
    have h9 := aClo_elim h; clear h; obtain ⟨rfl, h⟩ := h9
    exact (f_eq k' kp' x0 x1).symm
end N72
end Go.Proofs.Yu
