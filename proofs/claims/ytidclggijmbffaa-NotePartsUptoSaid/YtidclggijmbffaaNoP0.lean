/- Functions of the program as plain functions, each with the proof that the code comes to them. -/
import Derived.Test.YtidclggijmbffaaT2
import Derived.Test.YtidclggijmbffaaT3
import Derived.Test.YtidclggijmbffaaProg
import Derived.WalkKit
import Derived.LaidEql
import Derived.RowKitTokens
import Derived.Deep.RegionHeld3
import Derived.Deep.AppendLies
import Derived.Deep.RegionLaw
set_option linter.unusedVariables false
set_option linter.unusedSimpArgs false
namespace Go.Aw
abbrev KT := D → List Blk → Prop
abbrev BA := ByteArray
abbrev LI := List Int
abbrev LB := List ByteArray
abbrev Zq0 := List (ByteArray × (Bool × ((List (Int × (Int × (Int × Int)))) × (List (Int × ((Int × (Int × (Int × Int))) × ((List (Int × (Int × (Int × Int)))) × (ByteArray × (Int × ((List ByteArray) × (List Int)))))))))))
abbrev Zq1 := Int × (Int × (Int × Int))
abbrev Zq2 := Int × (Zq1 × ((List Zq1) × (ByteArray × (Int × ((List ByteArray) × (List Int))))))
abbrev Zq3 := List (Int × (Int × Zq1))
abbrev Zq4 := List (Int × Int)
abbrev Zq5 := List (ByteArray × (ByteArray × ((List ByteArray) × (Int × Bool))))
abbrev Zq6 := List Zq1
abbrev Zy0 : Ty := Ty.pair (Ty.int IntKind.i64) (Ty.pair (Ty.int IntKind.i64) (Ty.pair (Ty.int IntKind.i64) (Ty.int IntKind.i64)))
abbrev Zy1 : Ty := Ty.pair Ty.str (Ty.pair Ty.bool (Ty.pair (Ty.list Zy0) (Ty.list (Ty.pair (Ty.int IntKind.i64) (Ty.pair Zy0 (Ty.pair (Ty.list Zy0) (Ty.pair Ty.str (Ty.pair (Ty.int IntKind.i64) (Ty.pair (Ty.list Ty.str) (Ty.list (Ty.int IntKind.i64)))))))))))
abbrev Zy2 : Ty := Ty.int IntKind.i64
abbrev Zy3 : Ty := Ty.pair Zy2 (Ty.pair Zy0 (Ty.pair (Ty.list Zy0) (Ty.pair Ty.str (Ty.pair Zy2 (Ty.pair (Ty.list Ty.str) (Ty.list Zy2))))))
abbrev Zy4 : Ty := Ty.pair Zy2 (Ty.pair Zy2 Zy0)
end Go.Aw
namespace Go.Aw
open Go Go.RowKit
def putL (n : Int) : List Int := (if n < 0 then [45] else []) ++ (dl 20 n.natAbs).reverse
theorem putL_len (n : Int) : 1 ≤ (putL n).length ∧ (putL n).length ≤ 21 := by
  unfold putL
  have h1 := dl_len_le 20 n.natAbs
  have h2 : 0 < (dl 20 n.natAbs).length := dl_len_pos 19 n.natAbs
  rw [List.length_append, List.length_reverse]
  split <;> simp <;> omega
theorem putL_ch (n : Int) : ∀ x ∈ putL n, x = 45 ∨ isD x := by
  intro x hx
  unfold putL at hx
  rcases List.mem_append.1 hx with h | h
  · split at h
    · simp at h; exact .inl h
    · cases h
  · exact .inr (dl_isD 20 _ x (List.mem_reverse.1 h))
theorem putL_isB (n : Int) : ∀ x ∈ putL n, isB x := by
  intro x hx
  rcases putL_ch n x hx with rfl | h
  · exact ⟨by decide, by decide⟩
  · exact ⟨by have := h.1; omega, by have := h.2; omega⟩
theorem putL_inj {n m : Int} (hn : in64 n) (hm : in64 m) (h : putL n = putL m) : n = m := by
  unfold in64 at hn hm
  have v : ∀ n : Int, n.natAbs < 10 ^ 20 → val (dl 20 n.natAbs).reverse = n.natAbs := fun n hn => dl_val 20 n.natAbs hn
  have hd : ∀ n : Int, (dl 20 n.natAbs).reverse.head? ≠ some 45 := by
    intro n e
    have : (45 : Int) ∈ (dl 20 n.natAbs).reverse := List.mem_of_head? e
    have := dl_isD 20 _ 45 (List.mem_reverse.1 this)
    exact absurd this.1 (by decide)
  unfold putL at h
  have vn := v n (by omega)
  have vm := v m (by omega)
  by_cases h1 : n < 0 <;> by_cases h2 : m < 0
  · rw [if_pos h1, if_pos h2] at h
    have := congrArg val (List.append_cancel_left h)
    omega
  · rw [if_pos h1, if_neg h2] at h
    exact absurd (by rw [List.nil_append] at h; rw [← h]; rfl) (hd m)
  · rw [if_neg h1, if_pos h2] at h
    exact absurd (by rw [List.nil_append] at h; rw [h]; rfl) (hd n)
  · rw [if_neg h1, if_neg h2] at h
    have := congrArg val (List.append_cancel_left h)
    omega
end Go.Aw

namespace Go.Aw
open Go Go.RowKit
theorem joinTail_snoc (sep : List UInt8) (y : List UInt8) (r : List (List UInt8)) : Lib.joinTail sep (r ++ [y]) = Lib.joinTail sep r ++ (sep ++ y) := by
  unfold Lib.joinTail
  rw [List.map_append, List.flatten_append]
  simp
theorem joinB_nil (sep : ByteArray) : joinB [] sep = ByteArray.empty := rfl
theorem joinB_snoc (sep : ByteArray) (xs : List ByteArray) (y : ByteArray) : joinB (xs ++ [y]) sep = if xs = [] then y else joinB xs sep ++ sep ++ y := by
  cases xs with
  | nil =>
    rw [if_pos rfl]
    unfold joinB
    rw [List.nil_append, List.map_singleton, Lib.join_one]
  | cons x r =>
    rw [if_neg (by simp)]
    unfold joinB
    rw [List.cons_append, List.map_cons, Lib.join_cons, List.map_append, List.map_singleton, joinTail_snoc, List.map_cons, Lib.join_cons]
    apply ByteArray.ext
    simp only [ByteArray.data_append]
    apply Array.toList_inj.1
    simp
def szL (xs : List ByteArray) : Nat := (xs.map fun x => x.size + 2).sum
theorem szL_append (a b : List ByteArray) : szL (a ++ b) = szL a + szL b := by unfold szL; rw [List.map_append, List.sum_append]
theorem szL_one (a : ByteArray) : szL [a] = a.size + 2 := by simp [szL]
theorem joinB_size_take {sep : ByteArray} (hs : sep.size ≤ 2) (xs : List ByteArray) : ∀ i, i ≤ xs.length → (joinB (xs.take i) sep).size ≤ szL (xs.take i)
  | 0, _ => by rw [List.take_zero, joinB_nil]; exact Nat.zero_le _
  | i + 1, hi => by
    have ih := joinB_size_take hs xs i (by omega)
    rw [List.take_succ_eq_append_getElem (by omega : i < xs.length), joinB_snoc, szL_append, szL_one]
    split
    · omega
    · rw [ByteArray.size_append, ByteArray.size_append]; omega
theorem joinB_size {sep : ByteArray} (hs : sep.size ≤ 2) (xs : List ByteArray) : (joinB xs sep).size ≤ szL xs := by
  have := joinB_size_take hs xs xs.length (Nat.le_refl _)
  rwa [List.take_length] at this
theorem szL_len (xs : List ByteArray) : 2 * xs.length ≤ szL xs := by
  unfold szL
  induction xs with
  | nil => exact Nat.zero_le _
  | cons x r ih => rw [List.map_cons, List.sum_cons, List.length_cons]; omega
theorem szL_take (xs : List ByteArray) (i : Nat) : szL (xs.take i) ≤ szL xs := by
  conv => rhs; rw [← List.take_append_drop i xs, szL_append]
  omega
theorem szL_le {xs : List ByteArray} {n : Nat} (h : ∀ x ∈ xs, x.size + 2 ≤ n) : szL xs ≤ xs.length * n := by
  unfold szL
  induction xs with
  | nil => simp
  | cons x r ih =>
    rw [List.map_cons, List.sum_cons, List.length_cons, Nat.succ_mul]
    have := h x (by simp)
    have := ih fun y hy => h y (by simp [hy])
    omega
theorem jn_of {xs : List ByteArray} {sep : ByteArray} {k : ByteArray → Prop} (hs : sep.size ≤ 2) (hl : szL xs ≤ 140737488355328) (h : k (joinB xs sep)) : jn xs sep k := by
  rw [jn_def]
  have h1 := joinB_size hs xs
  have h2 := szL_len xs
  exact ⟨by omega, by omega, h⟩
theorem ws_b {t s : ByteArray} {k : Int → ByteArray → Prop} (hl : s.size + t.size ≤ 140737488355328) (h : k (t.size : Int) (s ++ t)) : ws t s k := by
  rw [ws_def]
  exact ⟨hl, h⟩
theorem bs_b {s : ByteArray} {k : ByteArray → Prop} (h : k s) : bs s k := by
  rw [bs_def]; exact h
theorem getD_memA {α : Type} {l : List α} {d : α} {i : Nat} (h : i < l.length) : l.getD i d ∈ l := by
  rw [List.getD, List.getElem?_eq_getElem h]; exact List.getElem_mem h
theorem take_map_snoc {α β : Type} {l : List α} {d : α} {i : Nat} (h : i < l.length) (f : α → β) : (l.take (i + 1)).map f = (l.take i).map f ++ [f (l.getD i d)] := by
  rw [List.take_succ_eq_append_getElem h, List.map_append]
  simp [List.getD, List.getElem?_eq_getElem h]
theorem lenlt {i n : Nat} : (decide ((i : Int) < (n : Int)) = true) ↔ i < n := by simp
theorem inBk {i n : Nat} (h : i < n) : inB 0 (i : Int) ((n : Int) - 1) := ⟨by omega, by omega, by omega⟩
def letterL (c : Int) : ByteArray := if c = 0 then ByteArray.mk #[103] else if c = 1 then ByteArray.mk #[120] else ByteArray.mk #[]
theorem letter_no (c : Int) : beqS (letterL c) (ByteArray.mk #[]) = !(decide (c = 0) || decide (c = 1)) := by
  unfold letterL
  by_cases h0 : c = 0
  · simp [h0]; rfl
  · by_cases h1 : c = 1
    · simp [h1]; rfl
    · simp [h0, h1]; rfl
def nameI (kind cl n : Int) : ByteArray := if kind = 3 then bytesOf (35 :: putL n) else if kind = 2 ∧ cl = 0 then bytesOf (36 :: 103 :: putL n) else if kind = 2 ∧ cl = 1 then bytesOf (36 :: 120 :: putL n) else ByteArray.mk #[]
theorem nameI_size (kind cl n : Int) : (nameI kind cl n).size ≤ 23 := by
  have := putL_len n
  unfold nameI
  repeat' split
  all_goals first
    | (rw [bytesOf_size]; simp; omega)
    | (show (0 : Nat) ≤ 23; omega)
def locs (c : Int) (l : List Int) : List (Int × (Int × Int)) := l.map fun r => (2, (c, r))
def putB (n : Int) : ByteArray := bytesOf (putL n)
theorem putB_size (n : Int) : (putB n).size ≤ 21 := by unfold putB; rw [bytesOf_size]; exact (putL_len n).2
def cbB : ByteArray := ByteArray.mk #[44, 32]
def callS (name : ByteArray) (args : List Int) : ByteArray := name ++ ByteArray.mk #[40] ++ joinB (args.map putB) cbB ++ ByteArray.mk #[41]
def segS (s : SegT) : ByteArray := putB s.2.1 ++ ByteArray.mk #[46, 46] ++ putB s.2.2.1 ++ ByteArray.mk #[32] ++ nameI s.2.2.2.1 s.2.2.2.2.1 s.2.2.2.2.2
theorem segS_size (s : SegT) : (segS s).size ≤ 68 := by
  unfold segS
  have h1 := putB_size s.2.1
  have h2 := putB_size s.2.2.1
  have h3 := nameI_size s.2.2.2.1 s.2.2.2.2.1 s.2.2.2.2.2
  simp only [ByteArray.size_append]
  have e1 : (ByteArray.mk #[46, 46]).size = 2 := rfl
  have e2 : (ByteArray.mk #[32]).size = 1 := rfl
  omega
def segOk (s : SegT) : Prop := in64 s.1 ∧ in64 s.2.1 ∧ in64 s.2.2.1 ∧ in64 s.2.2.2.1 ∧ in64 s.2.2.2.2.1 ∧ in64 s.2.2.2.2.2
abbrev dS : SegT := (0, (0, (0, (0, (0, 0)))))
def rowS (r : List SegT) : ByteArray := ByteArray.mk #[32, 32] ++ (ByteArray.mk #[37] ++ putB (r.getD 0 dS).1) ++ ByteArray.mk #[58, 32] ++ joinB (r.map segS) cbB ++ ByteArray.mk #[59, 10]
def catB (xs : List ByteArray) : ByteArray := joinB xs ByteArray.empty
theorem catB_nil : catB [] = ByteArray.empty := rfl
theorem catB_snoc (xs : List ByteArray) (y : ByteArray) : catB (xs ++ [y]) = catB xs ++ y := by
  unfold catB
  rw [joinB_snoc]
  split
  · rename_i h; subst h; rw [joinB_nil]; simp
  · simp
theorem catB_size (xs : List ByteArray) : (catB xs).size ≤ szL xs := joinB_size (by show (0 : Nat) ≤ 2; omega) xs
def allocS (slots : Int) (l : List SegT) : ByteArray := ByteArray.mk #[97, 108, 108, 111, 99, 32, 115, 108, 111, 116, 115, 32] ++ putB slots ++ ByteArray.mk #[32, 123, 10] ++ catB ((rowsOf Prod.fst l).map rowS) ++ ByteArray.mk #[125, 10]
def wordsS (r0 r1 : Int) (c0 c1 : List Int) (slots : Int) : List ByteArray :=
  [ByteArray.mk #[116, 97, 114, 103, 101, 116], ByteArray.mk #[103], putB r0, ByteArray.mk #[120], putB r1, ByteArray.mk #[115, 108, 111, 116, 115], putB slots] ++
    (if locs 0 c0 ++ locs 1 c1 = [] then [] else ByteArray.mk #[99, 108, 111, 98, 98, 101, 114] :: (locs 0 c0 ++ locs 1 c1).map fun x => nameI x.1 x.2.1 x.2.2)
def targetS (r0 r1 : Int) (c0 c1 : List Int) (slots : Int) : ByteArray := joinB (wordsS r0 r1 c0 c1 slots) (ByteArray.mk #[32]) ++ ByteArray.mk #[59, 10]
theorem rowS_size (r : List SegT) : (rowS r).size ≤ 30 + 70 * r.length := by
  unfold rowS
  have h1 := putB_size (r.getD 0 dS).1
  have h2 := joinB_size (sep := cbB) (by show (2 : Nat) ≤ 2; omega) (r.map segS)
  have h3 := szL_le (xs := r.map segS) (n := 70) (fun x hx => by obtain ⟨s, _, rfl⟩ := List.mem_map.1 hx; have := segS_size s; omega)
  rw [List.length_map] at h3
  simp only [ByteArray.size_append]
  have e1 : (ByteArray.mk #[32, 32]).size = 2 := rfl
  have e2 : (ByteArray.mk #[37]).size = 1 := rfl
  have e3 : (ByteArray.mk #[58, 32]).size = 2 := rfl
  have e4 : (ByteArray.mk #[59, 10]).size = 2 := rfl
  omega
theorem rows_mem {l : List SegT} : ∀ {r s}, r ∈ rowsOf Prod.fst l → s ∈ r → s ∈ l := by
  suffices ∀ (n : Nat) (l : List SegT), l.length = n → ∀ r s, r ∈ rowsOf Prod.fst l → s ∈ r → s ∈ l from fun {_ _} h1 h2 => this _ l rfl _ _ h1 h2
  intro n
  induction n with
  | zero =>
    intro l hn r s hr
    rw [List.length_eq_zero_iff.1 hn] at hr
    cases hr
  | succ n ih =>
    intro l hn r s hr hs
    have hne : l ≠ [] := by intro e; rw [e] at hn; simp at hn
    obtain ⟨m, x, rfl⟩ : ∃ m x, l = m ++ [x] := ⟨l.dropLast, l.getLast hne, (List.dropLast_concat_getLast hne).symm⟩
    have ih := ih m (by simpa using hn)
    rw [rowsOf_snoc] at hr
    have add : ∀ r ∈ rowsOf Prod.fst m ++ [[x]], s ∈ r → s ∈ m ++ [x] := by
      intro r hr hs
      rcases List.mem_append.1 hr with hr | hr
      · exact List.mem_append.2 (.inl (ih r s hr hs))
      · simp at hr; subst hr; exact List.mem_append.2 (.inr hs)
    split at hr
    · rcases List.eq_nil_or_concat (rowsOf Prod.fst m) with h0 | ⟨a, q, h0⟩
      · rw [h0] at hr add
        exact add r hr hs
      · rw [h0, List.concat_eq_append] at hr ih
        rw [addLast_snoc] at hr
        rcases List.mem_append.1 hr with hr | hr
        · exact List.mem_append.2 (.inl (ih r s (List.mem_append.2 (.inl hr)) hs))
        · simp at hr; subst hr
          rcases List.mem_append.1 hs with hs | hs
          · exact List.mem_append.2 (.inl (ih q s (by simp) hs))
          · exact List.mem_append.2 (.inr hs)
    · exact add r hr hs
theorem rows_pos {l : List SegT} : ∀ {r}, r ∈ rowsOf Prod.fst l → r ≠ [] := by
  suffices ∀ (n : Nat) (l : List SegT), l.length = n → ∀ r, r ∈ rowsOf Prod.fst l → r ≠ [] from fun {_} h1 => this _ l rfl _ h1
  intro n
  induction n with
  | zero =>
    intro l hn r hr
    rw [List.length_eq_zero_iff.1 hn] at hr
    cases hr
  | succ n ih =>
    intro l hn r hr
    have hne : l ≠ [] := by intro e; rw [e] at hn; simp at hn
    obtain ⟨m, x, rfl⟩ : ∃ m x, l = m ++ [x] := ⟨l.dropLast, l.getLast hne, (List.dropLast_concat_getLast hne).symm⟩
    have ih := ih m (by simpa using hn)
    rw [rowsOf_snoc] at hr
    have add : ∀ r ∈ rowsOf Prod.fst m ++ [[x]], r ≠ [] := by
      intro r hr
      rcases List.mem_append.1 hr with hr | hr
      · exact ih r hr
      · simp at hr; subst hr; simp
    split at hr
    · rcases List.eq_nil_or_concat (rowsOf Prod.fst m) with h0 | ⟨a, q, h0⟩
      · rw [h0] at hr add
        exact add r hr
      · rw [h0, List.concat_eq_append] at hr ih
        rw [addLast_snoc] at hr
        rcases List.mem_append.1 hr with hr | hr
        · exact ih r (List.mem_append.2 (.inl hr))
        · simp at hr; subst hr; simp
    · exact add r hr
end Go.Aw

namespace Go.Proofs.Yh
open Go Go.Proofs Go.Shelf
set_option maxRecDepth 100000
def ren : Go.Shelf.Ren := ⟨fun | 156 => 51 | 165 => 64 | 166 => 27 | 167 => 47 | 169 => 31 | 240 => 54 | 241 => 67 | 276 => 65 | 277 => 68 | _ => 0, fun | 0 => 0 | 3 => 3 | 4 => 4 | 5 => 5 | 9 => 9 | 20 => 20 | 31 => 32 | 37 => 64 | 70 => 63 | 72 => 66 | 75 => 70 | 76 => 71 | 80 => 76 | 127 => 103 | 164 => 117 | _ => 0, fun  | _ => 0⟩
theorem lays167 : Lays.n167 Try.prog ren where
  mixed := by kernel_rfl
  f167 := by kernel_rfl
  f240 := by kernel_rfl
  f276 := by kernel_rfl
  t0 := Try.underlying0
  a0 := Try.isAgg0
  z0 := Try.sizeOf0
  v0 := Try.zeroValue0
  t4 := Try.underlying4
  a4 := Try.isAgg4
  z4 := Try.sizeOf4
  v4 := Try.zeroValue4
  t5 := Try.underlying5
  a5 := Try.isAgg5
  z5 := Try.sizeOf5
  v5 := Try.zeroValue5
  t9 := Try.underlying9
  a9 := Try.isAgg9
  z9 := Try.sizeOf9
  v9 := Try.zeroValue9
  t20 := Try.underlying20
  a20 := Try.isAgg20
  z20 := Try.sizeOf20
  v20 := Try.zeroValue20
  t37 := Try.underlying64
  a37 := Try.isAgg64
  z37 := Try.sizeOf64
  v37 := Try.zeroValue64
  t70 := Try.underlying63
  a70 := Try.isAgg63
  z70 := Try.sizeOf63
  v70 := Try.zeroValue63
  t72 := Try.underlying66
  a72 := Try.isAgg66
  z72 := Try.sizeOf66
  v72 := Try.zeroValue66
  t75 := Try.underlying70
  a75 := Try.isAgg70
  z75 := Try.sizeOf70
  v75 := Try.zeroValue70
  t164 := Try.underlying117
  a164 := Try.isAgg117
  z164 := Try.sizeOf117
  v164 := Try.zeroValue117
theorem lays166 : Lays.n166 Try.prog ren where
  mixed := by kernel_rfl
  f166 := by kernel_rfl
  f240 := by kernel_rfl
  f276 := by kernel_rfl
  t0 := Try.underlying0
  a0 := Try.isAgg0
  z0 := Try.sizeOf0
  v0 := Try.zeroValue0
  t3 := Try.underlying3
  a3 := Try.isAgg3
  z3 := Try.sizeOf3
  v3 := Try.zeroValue3
  t4 := Try.underlying4
  a4 := Try.isAgg4
  z4 := Try.sizeOf4
  v4 := Try.zeroValue4
  t9 := Try.underlying9
  a9 := Try.isAgg9
  z9 := Try.sizeOf9
  v9 := Try.zeroValue9
  t20 := Try.underlying20
  a20 := Try.isAgg20
  z20 := Try.sizeOf20
  v20 := Try.zeroValue20
  t37 := Try.underlying64
  a37 := Try.isAgg64
  z37 := Try.sizeOf64
  v37 := Try.zeroValue64
  t70 := Try.underlying63
  a70 := Try.isAgg63
  z70 := Try.sizeOf63
  v70 := Try.zeroValue63
  t72 := Try.underlying66
  a72 := Try.isAgg66
  z72 := Try.sizeOf66
  v72 := Try.zeroValue66
  t75 := Try.underlying70
  a75 := Try.isAgg70
  z75 := Try.sizeOf70
  v75 := Try.zeroValue70
  t164 := Try.underlying117
  a164 := Try.isAgg117
  z164 := Try.sizeOf117
  v164 := Try.zeroValue117
theorem lays169 : Lays.n169 Try.prog ren where
  mixed := by kernel_rfl
  f169 := by kernel_rfl
  t0 := Try.underlying0
  a0 := Try.isAgg0
  z0 := Try.sizeOf0
  v0 := Try.zeroValue0
  t3 := Try.underlying3
  a3 := Try.isAgg3
  z3 := Try.sizeOf3
  v3 := Try.zeroValue3
  t9 := Try.underlying9
  a9 := Try.isAgg9
  z9 := Try.sizeOf9
  v9 := Try.zeroValue9
  t37 := Try.underlying64
  a37 := Try.isAgg64
  z37 := Try.sizeOf64
  v37 := Try.zeroValue64
  t70 := Try.underlying63
  a70 := Try.isAgg63
  z70 := Try.sizeOf63
  v70 := Try.zeroValue63
  t72 := Try.underlying66
  a72 := Try.isAgg66
  z72 := Try.sizeOf66
  v72 := Try.zeroValue66
  t127 := Try.underlying103
  a127 := Try.isAgg103
  z127 := Try.sizeOf103
  v127 := Try.zeroValue103
theorem lays240 : Lays.n240 Try.prog ren where
  mixed := by kernel_rfl
  f240 := by kernel_rfl
  f276 := by kernel_rfl
  t0 := Try.underlying0
  a0 := Try.isAgg0
  z0 := Try.sizeOf0
  v0 := Try.zeroValue0
  t4 := Try.underlying4
  a4 := Try.isAgg4
  z4 := Try.sizeOf4
  v4 := Try.zeroValue4
  t9 := Try.underlying9
  a9 := Try.isAgg9
  z9 := Try.sizeOf9
  v9 := Try.zeroValue9
  t20 := Try.underlying20
  a20 := Try.isAgg20
  z20 := Try.sizeOf20
  v20 := Try.zeroValue20
  t70 := Try.underlying63
  a70 := Try.isAgg63
  z70 := Try.sizeOf63
  v70 := Try.zeroValue63
  t72 := Try.underlying66
  a72 := Try.isAgg66
  z72 := Try.sizeOf66
  v72 := Try.zeroValue66
  t164 := Try.underlying117
  a164 := Try.isAgg117
  z164 := Try.sizeOf117
  v164 := Try.zeroValue117
theorem lays156 : Lays.n156 Try.prog ren where
  mixed := by kernel_rfl
  f156 := by kernel_rfl
  f165 := by kernel_rfl
  f166 := by kernel_rfl
  f169 := by kernel_rfl
  f240 := by kernel_rfl
  f241 := by kernel_rfl
  f276 := by kernel_rfl
  f277 := by kernel_rfl
  t0 := Try.underlying0
  a0 := Try.isAgg0
  z0 := Try.sizeOf0
  v0 := Try.zeroValue0
  t3 := Try.underlying3
  a3 := Try.isAgg3
  z3 := Try.sizeOf3
  v3 := Try.zeroValue3
  t4 := Try.underlying4
  a4 := Try.isAgg4
  z4 := Try.sizeOf4
  v4 := Try.zeroValue4
  t9 := Try.underlying9
  a9 := Try.isAgg9
  z9 := Try.sizeOf9
  v9 := Try.zeroValue9
  t20 := Try.underlying20
  a20 := Try.isAgg20
  z20 := Try.sizeOf20
  v20 := Try.zeroValue20
  t31 := Try.underlying32
  a31 := Try.isAgg32
  z31 := Try.sizeOf32
  v31 := Try.zeroValue32
  t37 := Try.underlying64
  a37 := Try.isAgg64
  z37 := Try.sizeOf64
  v37 := Try.zeroValue64
  t70 := Try.underlying63
  a70 := Try.isAgg63
  z70 := Try.sizeOf63
  v70 := Try.zeroValue63
  t72 := Try.underlying66
  a72 := Try.isAgg66
  z72 := Try.sizeOf66
  v72 := Try.zeroValue66
  t75 := Try.underlying70
  a75 := Try.isAgg70
  z75 := Try.sizeOf70
  v75 := Try.zeroValue70
  t76 := Try.underlying71
  a76 := Try.isAgg71
  z76 := Try.sizeOf71
  v76 := Try.zeroValue71
  t127 := Try.underlying103
  a127 := Try.isAgg103
  z127 := Try.sizeOf103
  v127 := Try.zeroValue103
  t164 := Try.underlying117
  a164 := Try.isAgg117
  z164 := Try.sizeOf117
  v164 := Try.zeroValue117
theorem extra : Builder.Extra Try.prog ren where
  sizeBuilder := by kernel_rfl
  liesBuilder := by kernel_rfl
  t5 := Try.underlying5
  a5 := Try.isAgg5
  z5 := Try.sizeOf5
  v5 := Try.zeroValue5
  infoByte := by kernel_rfl
  cellsByte := by kernel_rfl
  sizeByte := by kernel_rfl
  neB5 := by decide
def bldTys : List TypeId := [66, 67, 68, 97]
theorem bldX : ∀ T ∈ bldTys, Go.Aw.BldX Try.prog ren T := by
  intro T h
  simp only [bldTys, List.mem_cons, List.not_mem_nil, or_false] at h
  rcases h with rfl | rfl | rfl | rfl
  · exact ⟨by kernel_rfl, by kernel_rfl⟩
  · exact ⟨by kernel_rfl, by kernel_rfl⟩
  · exact ⟨by kernel_rfl, by kernel_rfl⟩
  · exact ⟨by kernel_rfl, by kernel_rfl⟩
namespace N47
noncomputable def ent : Go.Aw.Entry := Go.Aw.wbEnt bldTys 5
theorem ok : Go.Aw.EntOk Try.prog 0 0 47 ent := Go.Aw.wb_ok lays167 extra bldX rfl rfl
end N47
namespace N27
noncomputable def ent : Go.Aw.Entry := Go.Aw.wsEnt bldTys 5
theorem ok : Go.Aw.EntOk Try.prog 0 0 27 ent := Go.Aw.ws_ok lays166 extra bldX rfl rfl
end N27
namespace N31
noncomputable def ent : Go.Aw.Entry := Go.Aw.bsEnt bldTys 5
theorem ok : Go.Aw.EntOk Try.prog 0 0 31 ent := Go.Aw.bs_ok lays169 extra rfl rfl
end N31
namespace N51
noncomputable def ent : Go.Aw.Entry := Go.Aw.jnEnt
theorem ok : Go.Aw.EntOk Try.prog 0 0 51 ent := Go.Aw.jn_ok lays156 extra rfl
end N51
end Go.Proofs.Yh

namespace Go.Proofs.Yh
open Go Go.Aw Go.Proofs Go.RowKit Go.Extern
theorem F.infoRow : (Try.prog.info? 48).map (fun i => (i.zero, i.size, i.bytes)) = some (some (.slice none 0 0), 1, 24) := by kernel_rfl
theorem F.infoSeg : (Try.prog.info? 61).map (fun i => (i.zero, i.size, i.bytes)) = some (some (.agg #[.int .i64 0, .int .i64 0, .int .i64 0, .int .i64 0, .int .i64 0, .int .i64 0]), 6, 48) := by kernel_rfl
set_option maxRecDepth 1000000 in
set_option maxHeartbeats 4000000 in
theorem rows_run (w : World) (a : Option Addr) (l : List SegT) (cap : Nat)
    (hf : l ≠ [] → ∃ pb po, a = some ⟨pb, po, none⟩ ∧ pb < w.heap.size ∧ ∀ i s, l[i]? = some s → ∀ j u, (segC s)[j]? = some u → w.cell? ⟨pb, po + (i * 6 + j), none⟩ = some u) (hl : l.length ≤ 1000000) :
    Calls Try.prog 53 #[.slice a l.length cap] w fun ev w' => ∃ v vals, ev = .returned v ∧ Below w.heap.size w w' ∧ Fam w' w.heap.size 48 61 6 v vals (rowsC l) := by
  obtain ⟨ir, hir, hir0, hir1, hir2⟩ := info_parts F.infoRow
  obtain ⟨is, his, his0, his1, his2⟩ := info_parts F.infoSeg
  go_enter Try.func53, Try.ntmps53
  go_wp2
  go_loopw [3, 8] (fun v i wl => ∃ (k : Nat) (vals : List Value), i = .int .i64 k ∧ k ≤ l.length ∧ Below w.heap.size w wl ∧ Fam wl w.heap.size 48 61 6 v vals (rowsC (l.take k))) (fun _ i _ => match i with | .int _ n => l.length - n.toNat | _ => 0)
  case atStart => exact ⟨0, [], rfl, Nat.zero_le _, Below.refl _ _, Fam.nil _ _ _ _ _⟩
  case round =>
    obtain ⟨k, vals, rfl, hk, hbd, hF⟩ := hrel
    rcases Nat.lt_or_ge k l.length with hlt | hge
    · obtain ⟨pb, po, rfl, hpb, hcl⟩ := hf (fun e => by rw [e] at hlt; simp at hlt)
      have hs := List.getElem?_eq_getElem hlt
      have cell : ∀ j u, (segC l[k])[j]? = some u → wr.cell? ⟨pb, po + k * 6 + j, none⟩ = some u := fun j u hu => by rw [hbd.cell hpb, Nat.add_assoc]; exact hcl k _ hs j u hu
      have c0 : wr.cell? ⟨pb, po + k * 6, none⟩ = some (.int .i64 l[k].1) := cell 0 _ rfl
      have c1 : wr.cell? ⟨pb, po + k * 6 + 1, none⟩ = some (.int .i64 l[k].2.1) := cell 1 _ rfl
      have c2 : wr.cell? ⟨pb, po + k * 6 + 2, none⟩ = some (.int .i64 l[k].2.2.1) := cell 2 _ rfl
      have c3 : wr.cell? ⟨pb, po + k * 6 + 3, none⟩ = some (.int .i64 l[k].2.2.2.1) := cell 3 _ rfl
      have c4 : wr.cell? ⟨pb, po + k * 6 + 4, none⟩ = some (.int .i64 l[k].2.2.2.2.1) := cell 4 _ rfl
      have c5 : wr.cell? ⟨pb, po + k * 6 + 5, none⟩ = some (.int .i64 l[k].2.2.2.2.2) := cell 5 _ rfl
      have hprev : 0 < k → wr.cell? ⟨pb, po + (k - 1) * 6, none⟩ = some (.int .i64 (l.getD (k - 1) (0, 0, 0, 0, 0, 0)).1) := fun h0 => by
        have h1 : k - 1 < l.length := by omega
        have := hcl (k - 1) _ (List.getElem?_eq_getElem h1) 0 _ rfl
        rw [← hbd.cell hpb] at this
        simp only [List.getD, List.getElem?_eq_getElem h1, Option.getD_some]
        exact this
      clear hcl cell hf
      have hsz : w.heap.size ≤ wr.heap.size := hbd.size
      generalize l[k] = e at *
      obtain ⟨e0, e1, e2, e3, e4, e5⟩ := e
      simp only at c0 c1 c2 c3 c4 c5
      have hrl : (rowsC (l.take k)).length ≤ k := by
        unfold rowsC
        rw [List.length_map]
        have := (rowsOf_len Prod.fst (l.take k)).1
        rw [List.length_take] at this; omega
      have hend : Fam wr w.heap.size 48 61 6 u3 vals (rowsC (l.take k)) → True := fun _ => trivial
      generalize hrows : rowsC (l.take k) = rows at *
      go_wp2
      rcases Nat.eq_zero_or_pos k with hk0 | hk0
      · have hk0'' : (k : Int) = 0 := by omega
        go_region
        go_wp2_with (
          refine wpList_append_lies _ (by rfl) _ _ _ (by rfl) w.heap.size 48 ir _ 1 24 Try.underlying99 hir hir0 hir1 hir2 rfl (by omega) u3 rows.length vals (by rfl) ((hF.out.alloc _).alloc _).drew
            ⟨wr.heap.size + 1, 0, none⟩ 1 1 [.slice none 0 0] (by rfl) (by rfl) (fun j u hj => by match j, hj with | 0, hj => (cases hj; simp [add_plain]) | j + 1, hj => cases hj) (by simp [Value.oneCell'])
            (by omega) (by simp [maxLen]; omega) (by omega) (by simp; omega) (wr.heap.size + 2) (by simp) ?_; intro g capv w1 hown1 hgrow1 hat1 hlt1)
        have hvl : vals.length = rows.length := by have := hF.out.1; simpa using this
        have hO : FamO w1 w.heap.size 48 61 6 (.slice (some ⟨g, 0, none⟩) (rows.length + 1) capv) vals rows (.slice none 0 0) [] := by
          refine Fam.open_ (hF.keep ?_) rfl hown1 hgrow1 ?_
          · exact (((Below.refl wr.heap.size wr).alloc (Nat.le_refl _) _).alloc (by simp) _).drew.block
          · simpa using hat1
        have hne : some wr.heap.size ≠ u3.ownBlock := fun h => by have := own_lt hF.out h.symm; omega
        have hgc : w1.cell? ⟨g, rows.length, none⟩ = some (.slice none 0 0) := by rw [hown1.cellAt _ (by omega), ← hvl]; simp
        have hgf : w1.frozen? ⟨g, rows.length, none⟩ = false := hown1.frozenAt _
        have hb1 : Below w.heap.size w w1 := ((((hbd.alloc hsz _).alloc (by simp; omega) _).drew).grown hgrow1 (by simp; omega) (fun k hk => (hF.out.lt k hk).1))
        have d0 : w1.cell? ⟨wr.heap.size, 0, none⟩ = some (.int .i64 e0) := (hgrow1.cell_far _ (by simp; omega) hne).trans (by simp)
        have d1 : w1.cell? ⟨wr.heap.size, 1, none⟩ = some (.int .i64 e1) := (hgrow1.cell_far _ (by simp; omega) hne).trans (by simp)
        have d2 : w1.cell? ⟨wr.heap.size, 2, none⟩ = some (.int .i64 e2) := (hgrow1.cell_far _ (by simp; omega) hne).trans (by simp)
        have d3 : w1.cell? ⟨wr.heap.size, 3, none⟩ = some (.int .i64 e3) := (hgrow1.cell_far _ (by simp; omega) hne).trans (by simp)
        have d4 : w1.cell? ⟨wr.heap.size, 4, none⟩ = some (.int .i64 e4) := (hgrow1.cell_far _ (by simp; omega) hne).trans (by simp)
        have d5 : w1.cell? ⟨wr.heap.size, 5, none⟩ = some (.int .i64 e5) := (hgrow1.cell_far _ (by simp; omega) hne).trans (by simp)
        have hs1 : wr.heap.size + 2 ≤ w1.heap.size := by have := hgrow1.size; simpa using this
        have hgb : w.heap.size ≤ g := by
          rcases hown1.lt g rfl with ⟨h, _⟩
          exact h
        have hnext : rowsC (l.take (k + 1)) = rows ++ [[segC (e0, e1, e2, e3, e4, e5)]] := by
          have hs' : l[k] = (e0, e1, e2, e3, e4, e5) := by rw [List.getElem?_eq_getElem hlt] at hs; exact Option.some.inj hs
          rw [List.take_succ_eq_append_getElem hlt, hs']
          unfold rowsC at hrows ⊢
          rw [rowsOf_snoc, hk0]
          rw [hk0] at hrows
          rw [← hrows]
          simp
        have hsl : g < w1.heap.size := hlt1
        clear hgrow1 hown1 hF c0 c1 c2 c3 c4 c5 hbd hprev hat1 hlt1
        have HO : Hid (FamO w1 w.heap.size 48 61 6 (.slice (some ⟨g, 0, none⟩) (rows.length + 1) capv) vals rows (.slice none 0 0) []) := hO
        clear hO
        have hn6 : rows.length ≤ 1000000 := by omega
        generalize hnn : rows.length = n at *
        have x0 := World.new_ne w1 _ hgc
        have x1 := World.new_ne w1 _ d0
        have fz : ∀ o, (w1.alloc o).frozen? ⟨g, n, none⟩ = false := fun o => by rw [World.frozen?_alloc_old _ _ _ (by simpa using x0.symm)]; exact hgf
        have fz' : ∀ o, (w1.alloc o).drew.frozen? ⟨g, n, none⟩ = false := fz
        have n1 : ((n + 1 : Nat) : Int) - 1 = (n : Int) := by omega
        have n2 : (n : Int) + 1 - 1 = (n : Int) := by omega
        have n3 : IntKind.i64.wrap (n : Int) = n := wrap_id (by omega) (by omega)
        have n4 : (n : Int) < (n : Int) + 1 := by omega
        have n5 : ((n : Int)).toNat = n := by omega
        go_region_law (
          refine step_append_lies _ (by rfl) _ _ _ (by rfl) w.heap.size 61 is _ 6 48 Try.underlying48 his his0 his1 his2 (by rfl) (by omega) (.slice none 0 0) 0 [] (by rfl) (World.ownsRow_nil _ _ _ _)
            ⟨w1.heap.size, 0, none⟩ 1 1 [.int .i64 e0, .int .i64 e1, .int .i64 e2, .int .i64 e3, .int .i64 e4, .int .i64 e5] (by rfl) (by rfl) (World.news_of_block (cs := #[.int .i64 e0, .int .i64 e1, .int .i64 e2, .int .i64 e3, .int .i64 e4, .int .i64 e5]) (t := 61) (fr := (0, 0)) (heap_alloc_new _ _)) (by simp [Value.oneCell'])
            (by omega) (by simp [maxLen]) (by omega) (by simp; omega) (w1.heap.size + 1) (by simp) ?_; intro gu capu w2 hown2 hgrow2 hat2 hlt2
          have q1 : w2.cell? ⟨g, n, none⟩ = some (.slice none 0 0) := (hgrow2.cell_far _ (by simp; omega) (by simp [Value.ownBlock])).trans (by simp [*, World.cell?_alloc_some])
          have q2 : w2.frozen? ⟨g, n, none⟩ = false := (hgrow2.frozen_far _ (by simp; omega) (by simp [Value.ownBlock])).trans (by first | exact fz _ | exact fz' _ | simp [*]))
        all_goals
          have hF3 := FamO.close (u1 := .slice (some ⟨gu, 0, none⟩) 1 capu) (gv := g) (capv := capv) (gu := gu) (capu := capu) (e := segC (e0, e1, e2, e3, e4, e5)) (show FamO _ w.heap.size 48 61 6 _ vals rows (.slice none 0 0) [] from FamO.keep (w' := _) HO (fun k hk => by first | exact (((Below.refl w1.heap.size w1).alloc (Nat.le_refl _) _).drew).block k hk | exact (((Below.refl w1.heap.size w1).drew).alloc (Nat.le_refl _) _).block k hk)) (by rw [hnn]) rfl hown2 hgrow2 (by simpa [Value.ownBlock] using hat2)
          have hb3 : Below w.heap.size w (w2.setCell ⟨g, n, none⟩ (.slice (some ⟨gu, 0, none⟩) 1 capu)) := ((((hb1.alloc (by omega) _).drew).grown hgrow2 (by simp; omega) (fun k hk => by cases hk)).setCell hgb _)
          rw [hnn] at hF3
          go_wp2
          go_roundw
          case rel =>
            refine ⟨k + 1, vals ++ [.slice (some ⟨gu, 0, none⟩) 1 capu], by simp [hk0], by omega, hb3, ?_⟩
            rw [hnext]
            exact hF3
          case measure => simp; omega
      · have hk0'' : ¬ (k : Int) = 0 := by omega
        have hp0 := hprev hk0
        have hlast : (l.take k).getLast?.map Prod.fst = some (l.getD (k - 1) (0, 0, 0, 0, 0, 0)).1 := by
          have h1 : k - 1 < l.length := by omega
          rw [List.getLast?_eq_getElem?, List.length_take, Nat.min_eq_left (by omega), List.getElem?_take, if_pos (by omega)]
          simp [List.getD, List.getElem?_eq_getElem h1]
        generalize (l.getD (k - 1) (0, 0, 0, 0, 0, 0)).1 = pk at *
        have ek : (k : Int) - 1 = ((k - 1 : Nat) : Int) := by omega
        have ek2 : IntKind.i64.wrap ((k - 1 : Nat) : Int) = ((k - 1 : Nat) : Int) := by rw [wrap_id (by omega) (by omega)]
        have ek3 : ((k - 1 : Nat) : Int) < (l.length : Int) := by omega
        have ek4 : k - 1 < l.length := by omega
        have hkb : ((k : Int) == 0) = false := by simp; omega
        have hpw : pb < wr.heap.size := by omega
        have hpa : ∀ o, (wr.alloc o).cell? ⟨pb, po + (k - 1) * 6, none⟩ = some (.int .i64 pk) := fun o => by rw [World.cell?_alloc_lt _ _ _ hpw]; exact hp0
        have hpa' : ∀ o, (wr.alloc o).drew.cell? ⟨pb, po + (k - 1) * 6, none⟩ = some (.int .i64 pk) := hpa
        by_cases hpe : pk = e0
        · subst hpe
          have hne0 : rows ≠ [] := by
            rw [← hrows]
            unfold rowsC
            intro h
            have h1 : l.take k ≠ [] := by
              intro h2
              have := congrArg List.length h2
              rw [List.length_take, List.length_nil] at this
              omega
            exact rowsOf_ne Prod.fst _ h1 (List.map_eq_nil_iff.1 h)
          obtain ⟨vals', rows', u, r, rfl, rfl, hO⟩ := hF.reopen hne0
          have hrne : r ≠ [] := hF.ne rows'.length r (by simp)
          obtain ⟨gr, capr, rfl, hgr1, hgr2⟩ := hO.last.form (List.length_pos_iff.2 hrne)
          obtain ⟨g, capv, rfl, hgb, hglt⟩ := hO.out.form (by omega)
          have hvl : vals'.length = rows'.length := by have := hO.out.1; simp at this; omega
          have hggr : g ≠ gr := fun h => hO.lastV (by simp [Value.ownBlock, h])
          have hgc : wr.cell? ⟨g, rows'.length, none⟩ = some (.slice (some ⟨gr, 0, none⟩) r.length capr) := by rw [hO.out.cellAt _ (by omega), ← hvl]; simp
          have hgf : wr.frozen? ⟨g, rows'.length, none⟩ = false := hO.out.frozenAt _
          have hs' : l[k] = (pk, e1, e2, e3, e4, e5) := by rw [List.getElem?_eq_getElem hlt] at hs; exact Option.some.inj hs
          have hnext : rowsC (l.take (k + 1)) = rows' ++ [r ++ [segC (pk, e1, e2, e3, e4, e5)]] := by
            rw [List.take_succ_eq_append_getElem hlt, hs']
            unfold rowsC at hrows ⊢
            rw [rowsOf_snoc, hlast, if_pos rfl, addLast_map, hrows, addLast_snoc]
          have hrm : r.length ≤ 1000000 := by
            have h1 : r ∈ rowsC (l.take k) := by rw [hrows]; simp
            unfold rowsC at h1
            obtain ⟨q, hq, rfl⟩ := List.mem_map.1 h1
            have := (rowsOf_len Prod.fst (l.take k)).2 q hq
            rw [List.length_take] at this
            rw [List.length_map]; omega
          have hn6 : rows'.length ≤ 1000000 := by rw [List.length_append] at hrl; omega
          have HO : Hid (FamO wr w.heap.size 48 61 6 (.slice (some ⟨g, 0, none⟩) (rows'.length + 1) capv) vals' rows' (.slice (some ⟨gr, 0, none⟩) r.length capr) r) := hO
          have hlastO : wr.ownsRow w.heap.size 61 6 (.slice (some ⟨gr, 0, none⟩) r.length capr) r.length r.flatten := hO.last
          have hpos : 0 < r.length := List.length_pos_iff.2 hrne
          clear hO hF hp0 hprev hne0 hrl hlast hs hrows hend
          generalize hnn : rows'.length = n at *
          generalize hmm : r.length = m at *
          generalize hxs : r.flatten = xs at *
          have fa : ∀ o, (wr.alloc o).frozen? ⟨g, n, none⟩ = false := fun o => by rw [World.frozen?_alloc_old _ _ _ (by show g ≠ wr.heap.size; omega)]; exact hgf
          have fb : ∀ o o', ((wr.alloc o).alloc o').frozen? ⟨g, n, none⟩ = false := fun o o' => by rw [World.frozen?_alloc_old _ _ _ (by show g ≠ _; simp; omega)]; exact fa o
          have ca : ∀ o, (wr.alloc o).cell? ⟨g, n, none⟩ = some (.slice (some ⟨gr, 0, none⟩) m capr) := fun o => by rw [World.cell?_alloc_lt _ _ _ hglt]; exact hgc
          have cb : ∀ o o', ((wr.alloc o).alloc o').cell? ⟨g, n, none⟩ = some (.slice (some ⟨gr, 0, none⟩) m capr) := fun o o' => by rw [World.cell?_alloc_lt _ _ _ (by show g < _; simp; omega)]; exact ca o
          have ca' : ∀ o, (wr.alloc o).drew.cell? ⟨g, n, none⟩ = some (.slice (some ⟨gr, 0, none⟩) m capr) := ca
          have ca'' : ∀ o, (wr.alloc o).drew.drew.cell? ⟨g, n, none⟩ = some (.slice (some ⟨gr, 0, none⟩) m capr) := ca
          have cb' : ∀ o o', ((wr.alloc o).alloc o').drew.cell? ⟨g, n, none⟩ = some (.slice (some ⟨gr, 0, none⟩) m capr) := cb
          have cb'' : ∀ o o', ((wr.alloc o).alloc o').drew.drew.cell? ⟨g, n, none⟩ = some (.slice (some ⟨gr, 0, none⟩) m capr) := cb
          have n1 : ((n + 1 : Nat) : Int) - 1 = (n : Int) := by omega
          have n2 : (n : Int) + 1 - 1 = (n : Int) := by omega
          have n3 : IntKind.i64.wrap (n : Int) = n := wrap_id (by omega) (by omega)
          have n4 : (n : Int) < (n : Int) + 1 := by omega
          have n5 : ((n : Int)).toNat = n := by omega
          have ho2 : ∀ o o', ((wr.alloc o).alloc o').ownsRow w.heap.size 61 6 (.slice (some ⟨gr, 0, none⟩) m capr) m xs := fun o o' => (hlastO.alloc o).alloc o'
          go_region
          go_wp2
          go_region_law (
            refine step_append_lies _ (by rfl) _ _ _ (by rfl) w.heap.size 61 is _ 6 48 Try.underlying48 his his0 his1 his2 (by rfl) (by omega) (.slice (some ⟨gr, 0, none⟩) m capr) m xs (by rfl) (ho2 _ _)
              ⟨wr.heap.size + 1, 0, none⟩ 1 1 [.int .i64 pk, .int .i64 e1, .int .i64 e2, .int .i64 e3, .int .i64 e4, .int .i64 e5] (by rfl) (by rfl) (fun j u hj => by match j, hj with | 0, hj => (cases hj; simp [add_plain]) | 1, hj => (cases hj; simp [add_plain]) | 2, hj => (cases hj; simp [add_plain]) | 3, hj => (cases hj; simp [add_plain]) | 4, hj => (cases hj; simp [add_plain]) | 5, hj => (cases hj; simp [add_plain]) | j + 6, hj => cases hj) (by simp [Value.oneCell'])
              (by omega) (by simp [maxLen]; omega) (by omega) (by simp; omega) (wr.heap.size + 2) (by simp) ?_; intro gu capu w2 hown2 hgrow2 hat2 hlt2
            have q1 : w2.cell? ⟨g, n, none⟩ = some (.slice (some ⟨gr, 0, none⟩) m capr) := (hgrow2.cell_far _ (by simp; omega) (by simp [Value.ownBlock]; exact hggr)).trans (cb _ _)
            have q2 : w2.frozen? ⟨g, n, none⟩ = false := (hgrow2.frozen_far _ (by simp; omega) (by simp [Value.ownBlock]; exact hggr)).trans (fb _ _))
          all_goals
            subst hxs
            have hF3 := FamO.close (u1 := .slice (some ⟨gu, 0, none⟩) (m + 1) capu) (gv := g) (capv := capv) (gu := gu) (capu := capu) (e := segC (pk, e1, e2, e3, e4, e5)) (show FamO _ w.heap.size 48 61 6 _ vals' rows' (.slice (some ⟨gr, 0, none⟩) m capr) r from FamO.keep (w' := _) HO (fun k hk => by first | exact ((((Below.refl wr.heap.size wr).alloc (Nat.le_refl _) _).drew.alloc (by simp) _).drew).block k hk)) (by rw [hnn]) (by rw [hmm]) (by rw [hmm]; exact hown2) hgrow2 (by simpa [Value.ownBlock] using hat2)
            have hb3 : Below w.heap.size w (w2.setCell ⟨g, n, none⟩ (.slice (some ⟨gu, 0, none⟩) (m + 1) capu)) := ((((hbd.alloc hsz _).drew.alloc (by simp; omega) _).drew.grown hgrow2 (by simp; omega) (fun k hk => by simp [Value.ownBlock] at hk; omega)).setCell hgb _)
            rw [hnn] at hF3
            go_wp2
            go_roundw
            case rel =>
              refine ⟨k + 1, vals' ++ [.slice (some ⟨gu, 0, none⟩) (m + 1) capu], by simp, by omega, hb3, ?_⟩
              rw [hnext]
              exact hF3
            case measure => simp; omega
        · have hpe2 : (pk == e0) = false := by simpa using hpe
          go_region
          go_wp2_with (
            refine wpList_append_lies _ (by rfl) _ _ _ (by rfl) w.heap.size 48 ir _ 1 24 Try.underlying99 hir hir0 hir1 hir2 rfl (by omega) u3 rows.length vals (by rfl) ((hF.out.alloc _).alloc _).drew
              ⟨wr.heap.size + 1, 0, none⟩ 1 1 [.slice none 0 0] (by rfl) (by rfl) (fun j u hj => by match j, hj with | 0, hj => (cases hj; simp [add_plain]) | j + 1, hj => cases hj) (by simp [Value.oneCell'])
              (by omega) (by simp [maxLen]; omega) (by omega) (by simp; omega) (wr.heap.size + 2) (by simp) ?_; intro g capv w1 hown1 hgrow1 hat1 hlt1)
          have hvl : vals.length = rows.length := by have := hF.out.1; simpa using this
          have hO : FamO w1 w.heap.size 48 61 6 (.slice (some ⟨g, 0, none⟩) (rows.length + 1) capv) vals rows (.slice none 0 0) [] := by
            refine Fam.open_ (hF.keep ?_) rfl hown1 hgrow1 ?_
            · exact (((Below.refl wr.heap.size wr).alloc (Nat.le_refl _) _).alloc (by simp) _).drew.block
            · simpa using hat1
          have hne : some wr.heap.size ≠ u3.ownBlock := fun h => by have := own_lt hF.out h.symm; omega
          have hgc : w1.cell? ⟨g, rows.length, none⟩ = some (.slice none 0 0) := by rw [hown1.cellAt _ (by omega), ← hvl]; simp
          have hgf : w1.frozen? ⟨g, rows.length, none⟩ = false := hown1.frozenAt _
          have hb1 : Below w.heap.size w w1 := ((((hbd.alloc hsz _).alloc (by simp; omega) _).drew).grown hgrow1 (by simp; omega) (fun k hk => (hF.out.lt k hk).1))
          have d0 : w1.cell? ⟨wr.heap.size, 0, none⟩ = some (.int .i64 e0) := (hgrow1.cell_far _ (by simp; omega) hne).trans (by simp)
          have d1 : w1.cell? ⟨wr.heap.size, 1, none⟩ = some (.int .i64 e1) := (hgrow1.cell_far _ (by simp; omega) hne).trans (by simp)
          have d2 : w1.cell? ⟨wr.heap.size, 2, none⟩ = some (.int .i64 e2) := (hgrow1.cell_far _ (by simp; omega) hne).trans (by simp)
          have d3 : w1.cell? ⟨wr.heap.size, 3, none⟩ = some (.int .i64 e3) := (hgrow1.cell_far _ (by simp; omega) hne).trans (by simp)
          have d4 : w1.cell? ⟨wr.heap.size, 4, none⟩ = some (.int .i64 e4) := (hgrow1.cell_far _ (by simp; omega) hne).trans (by simp)
          have d5 : w1.cell? ⟨wr.heap.size, 5, none⟩ = some (.int .i64 e5) := (hgrow1.cell_far _ (by simp; omega) hne).trans (by simp)
          have hs1 : wr.heap.size + 2 ≤ w1.heap.size := by have := hgrow1.size; simpa using this
          have hgb : w.heap.size ≤ g := by
            rcases hown1.lt g rfl with ⟨h, _⟩
            exact h
          have hnext : rowsC (l.take (k + 1)) = rows ++ [[segC (e0, e1, e2, e3, e4, e5)]] := by
            have hs' : l[k] = (e0, e1, e2, e3, e4, e5) := by rw [List.getElem?_eq_getElem hlt] at hs; exact Option.some.inj hs
            rw [List.take_succ_eq_append_getElem hlt, hs']
            unfold rowsC at hrows ⊢
            rw [rowsOf_snoc, hlast, if_neg (by simpa using hpe), List.map_append, hrows]
            simp
          have hsl : g < w1.heap.size := hlt1
          clear hgrow1 hown1 hF c0 c1 c2 c3 c4 c5 hbd hprev hat1 hlt1
          have HO : Hid (FamO w1 w.heap.size 48 61 6 (.slice (some ⟨g, 0, none⟩) (rows.length + 1) capv) vals rows (.slice none 0 0) []) := hO
          clear hO
          have hn6 : rows.length ≤ 1000000 := by omega
          generalize hnn : rows.length = n at *
          have x0 := World.new_ne w1 _ hgc
          have x1 := World.new_ne w1 _ d0
          have fz : ∀ o, (w1.alloc o).frozen? ⟨g, n, none⟩ = false := fun o => by rw [World.frozen?_alloc_old _ _ _ (by simpa using x0.symm)]; exact hgf
          have fz' : ∀ o, (w1.alloc o).drew.frozen? ⟨g, n, none⟩ = false := fz
          have n1 : ((n + 1 : Nat) : Int) - 1 = (n : Int) := by omega
          have n2 : (n : Int) + 1 - 1 = (n : Int) := by omega
          have n3 : IntKind.i64.wrap (n : Int) = n := wrap_id (by omega) (by omega)
          have n4 : (n : Int) < (n : Int) + 1 := by omega
          have n5 : ((n : Int)).toNat = n := by omega
          go_region_law (
            refine step_append_lies _ (by rfl) _ _ _ (by rfl) w.heap.size 61 is _ 6 48 Try.underlying48 his his0 his1 his2 (by rfl) (by omega) (.slice none 0 0) 0 [] (by rfl) (World.ownsRow_nil _ _ _ _)
              ⟨w1.heap.size, 0, none⟩ 1 1 [.int .i64 e0, .int .i64 e1, .int .i64 e2, .int .i64 e3, .int .i64 e4, .int .i64 e5] (by rfl) (by rfl) (World.news_of_block (cs := #[.int .i64 e0, .int .i64 e1, .int .i64 e2, .int .i64 e3, .int .i64 e4, .int .i64 e5]) (t := 61) (fr := (0, 0)) (heap_alloc_new _ _)) (by simp [Value.oneCell'])
              (by omega) (by simp [maxLen]) (by omega) (by simp; omega) (w1.heap.size + 1) (by simp) ?_; intro gu capu w2 hown2 hgrow2 hat2 hlt2
            have q1 : w2.cell? ⟨g, n, none⟩ = some (.slice none 0 0) := (hgrow2.cell_far _ (by simp; omega) (by simp [Value.ownBlock])).trans (by simp [*, World.cell?_alloc_some])
            have q2 : w2.frozen? ⟨g, n, none⟩ = false := (hgrow2.frozen_far _ (by simp; omega) (by simp [Value.ownBlock])).trans (by first | exact fz _ | exact fz' _ | simp [*]))
          all_goals
            have hF3 := FamO.close (u1 := .slice (some ⟨gu, 0, none⟩) 1 capu) (gv := g) (capv := capv) (gu := gu) (capu := capu) (e := segC (e0, e1, e2, e3, e4, e5)) (show FamO _ w.heap.size 48 61 6 _ vals rows (.slice none 0 0) [] from FamO.keep (w' := _) HO (fun k hk => by first | exact (((Below.refl w1.heap.size w1).alloc (Nat.le_refl _) _).drew).block k hk | exact (((Below.refl w1.heap.size w1).drew).alloc (Nat.le_refl _) _).block k hk)) (by rw [hnn]) rfl hown2 hgrow2 (by simpa [Value.ownBlock] using hat2)
            have hb3 : Below w.heap.size w (w2.setCell ⟨g, n, none⟩ (.slice (some ⟨gu, 0, none⟩) 1 capu)) := ((((hb1.alloc (by omega) _).drew).grown hgrow2 (by simp; omega) (fun k hk => by cases hk)).setCell hgb _)
            rw [hnn] at hF3
            go_wp2
            go_roundw
            case rel =>
              refine ⟨k + 1, vals ++ [.slice (some ⟨gu, 0, none⟩) 1 capu], by simp, by omega, hb3, ?_⟩
              rw [hnext]
              exact hF3
            case measure => simp; omega
    · have hke : k = l.length := by omega
      subst hke
      go_wp2
      go_ret
      refine ⟨u3, vals, rfl, hbd, ?_⟩
      rw [List.take_length] at hF
      exact hF
namespace N53
noncomputable def ent : Entry := rowsEnt
theorem ok : EntOk Try.prog 0 0 53 ent := rows_ok Try.func53 (by kernel_rfl) (by kernel_rfl) rows_run
end N53
end Go.Proofs.Yh

namespace Go.Proofs.Yh
open Go.Aw Go.Proofs
set_option maxRecDepth 100000
set_option maxHeartbeats 4000000
def tyL : List (Nat × Ty) := [(5, (Ty.int IntKind.u8)), (59, (Ty.pair Zy2 (Ty.pair Zy2 Zy2))), (9, Ty.str), (3, Zy2), (61, Zy4), (83, (Ty.pair Ty.str (Ty.pair Ty.str (Ty.pair (Ty.list Ty.str) (Ty.pair Zy2 Ty.bool)))))]
def tys : Nat → Option Ty := tab tyL
theorem mixed_ok : Try.prog.follows .mixedOrders = true := by kernel_rfl
theorem tyL_ok : tyL.all (tyRight Try.prog) = true := by kernel_rfl
end Go.Proofs.Yh

namespace Go.Proofs.Yh
open Go Go.Aw Go.Proofs
set_option maxRecDepth 100000
set_option maxHeartbeats 4000000
namespace N56
noncomputable def cfg : Cfg := { P := Try.prog, ty := tys, E := tab [], atSeq := tab [(3, ⟨[(0, .keep), (3, .keep)]⟩), (5, ⟨[(3, .keep)]⟩)], atLoop := tab [(2, ⟨[(0, .keep), (3, .own 5 (Ty.int IntKind.u8))]⟩)], outs := [], eqT := tab [], bT := tab [] }
noncomputable def body : Code := bodyOf Try.f56
def l2 (j3 : Int → LI → Prop) (j5 : LI → Prop) (x0 : Int) (b0 : LI) (k : LI → Prop) : Prop :=
  (br (decide (x0 > (0 : Int))) (j3 x0 b0) (br (((((b0).length : Nat) : Int)) == (0 : Int)) (j3 x0 b0) (j5 b0)))
def j3 (ag2 : Int → LI → Prop) (x0 : Int) (b0 : LI) (k : LI → Prop) : Prop :=
  (((10 : Int) ≠ 0) ∧ ((room ((b0).length + (([(IntKind.u8.wrap (IntKind.u64.wrap ((48 : Int) + (Int.tmod x0 (10 : Int)))))] : List Int)).length) 1) ∧ (((10 : Int) ≠ 0) ∧ (ag2 (IntKind.u64.wrap (Int.tdiv x0 (10 : Int))) (b0 ++ ([(IntKind.u8.wrap (IntKind.u64.wrap ((48 : Int) + (Int.tmod x0 (10 : Int)))))] : List Int))))))
def j5 (b0 : LI) (k : LI → Prop) : Prop :=
  (k b0)
def c (l2 : Int → LI → Prop) (x0 : Int) (k : LI → Prop) : Prop :=
  (l2 x0 ([] : List Int))
def j3' (ag2 : Int → LI → Prop) (x0 : Int) (b0 : LI) (k : LI → Prop) : Prop := j3 ag2 x0 b0 k
def j5' (b0 : LI) (k : LI → Prop) : Prop := j5 b0 k
def l2' (x0 : Int) (b0 : LI) (k : LI → Prop) : Prop := ∃ n, loopS (fun (ag : (Int × LI) → Prop) (s : Int × LI) => l2 (fun x0 b0 => j3' (fun x0 b0 => ag (x0, b0)) x0 b0 k) (fun b0 => j5' b0 k) s.1 s.2 k) n (x0, b0)
def f0 (x0 : Int) (k : LI → Prop) : Prop := c (fun x0 b0 => l2' x0 b0 k) x0 k
theorem f_ex : ∃ g, g = f0 := ⟨_, rfl⟩
noncomputable def f := Classical.choose f_ex
theorem f_def : f = f0 := Classical.choose_spec f_ex
def mL2 (x0 : Int) (b0 : LI) : St := { tmps := mkT 21 0 [(0, (.v (.int IntKind.u64 x0))), (3, (.sl 0 0))], hp := [(.lst 5 (Ty.int IntKind.u8) b0 0 false)], m := 0 }
def m3 (x0 : Int) (b0 : LI) : St := { tmps := mkT 21 0 [(0, (.v (.int IntKind.u64 x0))), (3, (.sl 0 0))], hp := [(.lst 5 (Ty.int IntKind.u8) b0 0 false)], m := 0 }
def m5 (b0 : LI) : St := { tmps := mkT 21 0 [(3, (.sl 0 0))], hp := [(.lst 5 (Ty.int IntKind.u8) b0 0 false)], m := 0 }
noncomputable def YL2 (k kp : KT) : (St → Prop) → St → Prop := loopB cfg (sub [1, 1, 0, 0, 0] body) (contK cfg (pick none' []) [1, 1, 0, 0] body (topK cfg Try.f56 k kp))
noncomputable def XL2 (k kp : KT) : St → Prop := fun st => ∃ n, loopN (YL2 k kp) n st
noncomputable def X3 (k kp : KT) (ag2 : St → Prop) : St → Prop := atP cfg (pick none' [(2, ag2)]) [1, 1, 0, 0, 0, 1] body (topK cfg Try.f56 k kp)
noncomputable def X5 (k kp : KT) : St → Prop := atP cfg (pick none' []) [1, 1, 1] body (topK cfg Try.f56 k kp)
noncomputable def JJ_2 (k kp : KT) (ag2 : St → Prop) : Nat → St → Prop := pick none' [(3, X3 k kp ag2), (5, X5 k kp)]
noncomputable def LL_2 (k kp : KT) (ag2 : St → Prop) : Nat → St → Prop := pick none' [(2, XL2 k kp)]
noncomputable def JJ (k kp : KT) : Nat → St → Prop := pick none' [(5, X5 k kp)]
noncomputable def LL (k kp : KT) : Nat → St → Prop := pick none' [(2, XL2 k kp)]
theorem j3_c (k kp : KT) (J L : Nat → St → Prop) (ag2 : St → Prop) (x0 : Int) (b0 : LI) : runC cfg 3 J L (pick none' [(2, ag2)]) [1, 1, 0, 0, 0, 1] body (topK cfg Try.f56 k kp) (m3 x0 b0) = j3 (fun x0 b0 => ag2 (mL2 x0 b0)) x0 b0 (fun z0 => k (.sl 0 0) [(.lst 5 (Ty.int IntKind.u8) z0 0 false)]) := by kernel_rfl
theorem j3_ag (k kp : KT) (ag2 : St → Prop) : agPL cfg 3 (JJ_2 k kp ag2) (LL_2 k kp ag2) [1, 1, 0, 0, 0, 1] body = agPR cfg 3 (pick none' [(2, ag2)]) [1, 1, 0, 0, 0, 1] body (topK cfg Try.f56 k kp) := by kernel_rfl
theorem j3_raw (k kp : KT) (ag2 : St → Prop) (x0 : Int) (b0 : LI) : X3 k kp ag2 (m3 x0 b0) = j3 (fun x0 b0 => ag2 (mL2 x0 b0)) x0 b0 (fun z0 => k (.sl 0 0) [(.lst 5 (Ty.int IntKind.u8) z0 0 false)]) :=
  Eq.mp (by kernel_rfl) ((atP_run (j3_ag k kp ag2) (m3 x0 b0)).trans (j3_c k kp (JJ_2 k kp ag2) (LL_2 k kp ag2) ag2 x0 b0))
theorem j3_eq (k kp : KT) (ag2 : St → Prop) (x0 : Int) (b0 : LI) : X3 k kp ag2 (m3 x0 b0) = j3' (fun x0 b0 => ag2 (mL2 x0 b0)) x0 b0 (fun z0 => k (.sl 0 0) [(.lst 5 (Ty.int IntKind.u8) z0 0 false)]) := by
  rw [j3_raw]; rfl
theorem j5_c (k kp : KT) (J L : Nat → St → Prop) (b0 : LI) : runC cfg 5 J L (pick none' []) [1, 1, 1] body (topK cfg Try.f56 k kp) (m5 b0) = j5 b0 (fun z0 => k (.sl 0 0) [(.lst 5 (Ty.int IntKind.u8) z0 0 false)]) := by kernel_rfl
theorem j5_ag (k kp : KT) : agPL cfg 5 (JJ k kp) (LL k kp) [1, 1, 1] body = agPR cfg 5 (pick none' []) [1, 1, 1] body (topK cfg Try.f56 k kp) := by kernel_rfl
theorem j5_raw (k kp : KT) (b0 : LI) : X5 k kp (m5 b0) = j5 b0 (fun z0 => k (.sl 0 0) [(.lst 5 (Ty.int IntKind.u8) z0 0 false)]) :=
  Eq.mp (by kernel_rfl) ((atP_run (j5_ag k kp) (m5 b0)).trans (j5_c k kp (JJ k kp) (LL k kp) b0))
theorem j5_eq (k kp : KT) (b0 : LI) : X5 k kp (m5 b0) = j5' b0 (fun z0 => k (.sl 0 0) [(.lst 5 (Ty.int IntKind.u8) z0 0 false)]) := by
  rw [j5_raw]; rfl
theorem l2_c (k kp : KT) (J L : Nat → St → Prop) (ag2 : St → Prop) (x0 : Int) (b0 : LI) : runC cfg 1000001 J L (pick none' [(2, ag2)]) [1, 1, 0, 0, 0] body (topK cfg Try.f56 k kp) (mL2 x0 b0) = l2 (fun x0 b0 => J 3 (m3 x0 b0)) (fun b0 => J 5 (m5 b0)) x0 b0 (fun z0 => k (.sl 0 0) [(.lst 5 (Ty.int IntKind.u8) z0 0 false)]) := by kernel_rfl
theorem l2_ag (k kp : KT) (ag2 : St → Prop) : agPL cfg 1000001 (JJ_2 k kp ag2) (LL_2 k kp ag2) [1, 1, 0, 0, 0] body = agPR cfg 1000001 (pick none' [(2, ag2)]) [1, 1, 0, 0, 0] body (topK cfg Try.f56 k kp) := by kernel_rfl
theorem l2_raw (k kp : KT) (ag2 : St → Prop) (x0 : Int) (b0 : LI) : YL2 k kp ag2 (mL2 x0 b0) = l2 (fun x0 b0 => X3 k kp ag2 (m3 x0 b0)) (fun b0 => X5 k kp (m5 b0)) x0 b0 (fun z0 => k (.sl 0 0) [(.lst 5 (Ty.int IntKind.u8) z0 0 false)]) :=
  Eq.mp (by kernel_rfl) ((atP_run (l2_ag k kp ag2) (mL2 x0 b0)).trans (l2_c k kp (JJ_2 k kp ag2) (LL_2 k kp ag2) ag2 x0 b0))
theorem l2_eq (k kp : KT) (x0 : Int) (b0 : LI) : XL2 k kp (mL2 x0 b0) = l2' x0 b0 (fun z0 => k (.sl 0 0) [(.lst 5 (Ty.int IntKind.u8) z0 0 false)]) :=
  loop_eq (mk := fun (s : Int × LI) => mL2 s.1 s.2) (fun again s => by rw [l2_raw k kp again s.1 s.2]; simp only [j3_eq, j5_eq]; first | done | rfl) (x0, b0)
theorem c_c (k kp : KT) (J L : Nat → St → Prop) (x0 : Int) : runC cfg 1000001 J L none'' [] body (topK cfg Try.f56 k kp) (st0 Try.f56 [(.v (.int IntKind.u64 x0))] []) = c (fun x0 b0 => L 2 (mL2 x0 b0)) x0 (fun z0 => k (.sl 0 0) [(.lst 5 (Ty.int IntKind.u8) z0 0 false)]) := by kernel_rfl
theorem c_ag (k kp : KT) : agPL cfg 1000001 (JJ k kp) (LL k kp) [] body = agPR cfg 1000001 none'' [] body (topK cfg Try.f56 k kp) := by kernel_rfl
theorem body_is : Try.f56.body = some body := by kernel_rfl
theorem c_raw (k kp : KT) (x0 : Int) : funW cfg Try.f56 [(.v (.int IntKind.u64 x0))] [] k kp = c (fun x0 b0 => XL2 k kp (mL2 x0 b0)) x0 (fun z0 => k (.sl 0 0) [(.lst 5 (Ty.int IntKind.u8) z0 0 false)]) :=
  Eq.mp (by kernel_rfl) ((funW_run (AG := none'') body_is (c_ag k kp) [(.v (.int IntKind.u64 x0))] []).trans (c_c k kp (JJ k kp) (LL k kp) x0))
theorem f_eq (k kp : KT) (x0 : Int) : funW cfg Try.f56 [(.v (.int IntKind.u64 x0))] [] k kp = f x0 (fun z0 => k (.sl 0 0) [(.lst 5 (Ty.int IntKind.u8) z0 0 false)]) := by
  rw [f_def, c_raw]; simp only [l2_eq]; first | done | rfl
noncomputable def ent0 : Entry := fun args blks k _ => match args, blks with
  | [d0], [] => aInt IntKind.u64 d0 fun x0 => f x0 (fun z0 => k (.sl 0 0) [(.lst 5 (Ty.int IntKind.u8) z0 0 false)])
  | _, _ => False
noncomputable def ent : Entry := fun args blks k kp => ent0 (convB [.no] args) blks k kp
theorem ok : EntOk Try.prog 0 0 56 ent := by
  refine EntOk.convB (EntOk.of (funW_ok (cfg := cfg) (tyOk_of rfl rfl tyL_ok) (eqOk_of (P := Try.prog) rfl rfl (by kernel_rfl)) mixed_ok (tab_ok ?_) Try.func56 (by rfl) (by rfl)) ?_) _
  · intro p hp
    cases hp
  · intro args blks k kp h k' kp'
    match args, blks, h with
    | [d0], [], h =>
    dsimp only [ent0] at h
    have h9 := aInt_elim h; clear h; obtain ⟨x0, rfl, h⟩ := h9
    exact (f_eq k' kp' x0).symm
end N56
end Go.Proofs.Yh

namespace Go.Proofs.Yh
open Go Go.Aw Go.Proofs
set_option maxRecDepth 100000
set_option maxHeartbeats 4000000
namespace N34
noncomputable def cfg : Cfg := { P := Try.prog, ty := tys, E := tab [(56, N56.ent)], atSeq := tab [(6, ⟨[(3, .keep), (4, .keep)]⟩), (11, ⟨[(4, .keep)]⟩)], atLoop := tab [(8, ⟨[(4, .keep), (5, .keep), (6, .keep)]⟩)], outs := [], eqT := tab [], bT := tab [] }
noncomputable def body : Code := bodyOf Try.f34
def j6 (l8 : BA → Int → LI → Prop) (x3 : Int) (x4 : BA) (k : BA → Prop) : Prop :=
  (N56.f x3 (fun (z0_0 : LI) => (l8 x4 (IntKind.i64.wrap (((((z0_0).length : Nat) : Int)) - (1 : Int))) z0_0)))
def l8 (j11 : BA → Prop) (ag8 : BA → Int → LI → Prop) (x4 : BA) (x6 : Int) (b0 : LI) (k : BA → Prop) : Prop :=
  (br (decide (x6 ≥ (0 : Int))) ((inB 0 x6 ((((b0).length : Nat) : Int) - 1)) ∧ (((x4).size + ((bytesOf ([(b0.getD (Int.toNat x6) (0))] : List Int))).size ≤ 9223372036854775807) ∧ (ag8 (x4 ++ (bytesOf ([(b0.getD (Int.toNat x6) (0))] : List Int))) (IntKind.i64.wrap (x6 - (1 : Int))) b0))) (j11 x4))
def j11 (x4 : BA) (k : BA → Prop) : Prop :=
  (k x4)
def c (j6 : Int → BA → Prop) (x0 : Int) (k : BA → Prop) : Prop :=
  (br (decide (x0 < (0 : Int))) (j6 (IntKind.u64.wrap (0 - (IntKind.u64.wrap x0))) (ByteArray.mk #[45])) (j6 (IntKind.u64.wrap x0) (ByteArray.mk #[])))
def j11' (x4 : BA) (k : BA → Prop) : Prop := j11 x4 k
def l8' (x4 : BA) (x6 : Int) (b0 : LI) (k : BA → Prop) : Prop := ∃ n, loopS (fun (ag : (BA × Int × LI) → Prop) (s : BA × Int × LI) => l8 (fun x4 => j11' x4 k) (fun x4 x6 b0 => ag (x4, x6, b0)) s.1 s.2.1 s.2.2 k) n (x4, x6, b0)
def j6' (x3 : Int) (x4 : BA) (k : BA → Prop) : Prop := j6 (fun x4 x6 b0 => l8' x4 x6 b0 k) x3 x4 k
def f0 (x0 : Int) (k : BA → Prop) : Prop := c (fun x3 x4 => j6' x3 x4 k) x0 k
theorem f_ex : ∃ g, g = f0 := ⟨_, rfl⟩
noncomputable def f := Classical.choose f_ex
theorem f_def : f = f0 := Classical.choose_spec f_ex
def m6 (x3 : Int) (x4 : BA) : St := { tmps := mkT 31 0 [(3, (.v (.int IntKind.u64 x3))), (4, (.v (.string x4)))], hp := [], m := 0 }
def mL8 (x4 : BA) (x6 : Int) (b0 : LI) : St := { tmps := mkT 31 0 [(4, (.v (.string x4))), (5, (.sl 0 0)), (6, (.v (.int .i64 x6)))], hp := [(.lst 5 (Ty.int IntKind.u8) b0 0 false)], m := 0 }
def m11 (x4 : BA) : St := { tmps := mkT 31 0 [(4, (.v (.string x4)))], hp := [], m := 0 }
noncomputable def X6 (k kp : KT) : St → Prop := atP cfg (pick none' []) [1, 1, 1, 1] body (topK cfg Try.f34 k kp)
noncomputable def YL8 (k kp : KT) : (St → Prop) → St → Prop := loopB cfg (sub [1, 1, 1, 1, 1, 0, 1, 0, 0] body) (contK cfg (pick none' []) [1, 1, 1, 1, 1, 0, 1, 0] body (topK cfg Try.f34 k kp))
noncomputable def XL8 (k kp : KT) : St → Prop := fun st => ∃ n, loopN (YL8 k kp) n st
noncomputable def X11 (k kp : KT) : St → Prop := atP cfg (pick none' []) [1, 1, 1, 1, 1, 1] body (topK cfg Try.f34 k kp)
noncomputable def JJ (k kp : KT) : Nat → St → Prop := pick none' [(6, X6 k kp), (11, X11 k kp)]
noncomputable def LL (k kp : KT) : Nat → St → Prop := pick none' [(8, XL8 k kp)]
noncomputable def JJ_8 (k kp : KT) (ag8 : St → Prop) : Nat → St → Prop := pick none' [(6, X6 k kp), (11, X11 k kp)]
noncomputable def LL_8 (k kp : KT) (ag8 : St → Prop) : Nat → St → Prop := pick none' [(8, XL8 k kp)]
theorem j11_c (k kp : KT) (J L : Nat → St → Prop) (x4 : BA) : runC cfg 11 J L (pick none' []) [1, 1, 1, 1, 1, 1] body (topK cfg Try.f34 k kp) (m11 x4) = j11 x4 (fun y0 => k (.v (.string y0)) []) := by kernel_rfl
theorem j11_ag (k kp : KT) : agPL cfg 11 (JJ k kp) (LL k kp) [1, 1, 1, 1, 1, 1] body = agPR cfg 11 (pick none' []) [1, 1, 1, 1, 1, 1] body (topK cfg Try.f34 k kp) := by kernel_rfl
theorem j11_raw (k kp : KT) (x4 : BA) : X11 k kp (m11 x4) = j11 x4 (fun y0 => k (.v (.string y0)) []) :=
  Eq.mp (by kernel_rfl) ((atP_run (j11_ag k kp) (m11 x4)).trans (j11_c k kp (JJ k kp) (LL k kp) x4))
theorem j11_eq (k kp : KT) (x4 : BA) : X11 k kp (m11 x4) = j11' x4 (fun y0 => k (.v (.string y0)) []) := by
  rw [j11_raw]; rfl
theorem l8_c (k kp : KT) (J L : Nat → St → Prop) (ag8 : St → Prop) (x4 : BA) (x6 : Int) (b0 : LI) : runC cfg 1000001 J L (pick none' [(8, ag8)]) [1, 1, 1, 1, 1, 0, 1, 0, 0] body (topK cfg Try.f34 k kp) (mL8 x4 x6 b0) = l8 (fun x4 => J 11 (m11 x4)) (fun x4 x6 b0 => ag8 (mL8 x4 x6 b0)) x4 x6 b0 (fun y0 => k (.v (.string y0)) []) := by kernel_rfl
theorem l8_ag (k kp : KT) (ag8 : St → Prop) : agPL cfg 1000001 (JJ_8 k kp ag8) (LL_8 k kp ag8) [1, 1, 1, 1, 1, 0, 1, 0, 0] body = agPR cfg 1000001 (pick none' [(8, ag8)]) [1, 1, 1, 1, 1, 0, 1, 0, 0] body (topK cfg Try.f34 k kp) := by kernel_rfl
theorem l8_raw (k kp : KT) (ag8 : St → Prop) (x4 : BA) (x6 : Int) (b0 : LI) : YL8 k kp ag8 (mL8 x4 x6 b0) = l8 (fun x4 => X11 k kp (m11 x4)) (fun x4 x6 b0 => ag8 (mL8 x4 x6 b0)) x4 x6 b0 (fun y0 => k (.v (.string y0)) []) :=
  Eq.mp (by kernel_rfl) ((atP_run (l8_ag k kp ag8) (mL8 x4 x6 b0)).trans (l8_c k kp (JJ_8 k kp ag8) (LL_8 k kp ag8) ag8 x4 x6 b0))
theorem l8_eq (k kp : KT) (x4 : BA) (x6 : Int) (b0 : LI) : XL8 k kp (mL8 x4 x6 b0) = l8' x4 x6 b0 (fun y0 => k (.v (.string y0)) []) :=
  loop_eq (mk := fun (s : BA × Int × LI) => mL8 s.1 s.2.1 s.2.2) (fun again s => by rw [l8_raw k kp again s.1 s.2.1 s.2.2]; simp only [j11_eq]; first | done | rfl) (x4, x6, b0)
theorem j6_c (k kp : KT) (J L : Nat → St → Prop) (x3 : Int) (x4 : BA) : runC cfg 6 J L (pick none' []) [1, 1, 1, 1] body (topK cfg Try.f34 k kp) (m6 x3 x4) = j6 (fun x4 x6 b0 => L 8 (mL8 x4 x6 b0)) x3 x4 (fun y0 => k (.v (.string y0)) []) := by kernel_rfl
theorem j6_ag (k kp : KT) : agPL cfg 6 (JJ k kp) (LL k kp) [1, 1, 1, 1] body = agPR cfg 6 (pick none' []) [1, 1, 1, 1] body (topK cfg Try.f34 k kp) := by kernel_rfl
theorem j6_raw (k kp : KT) (x3 : Int) (x4 : BA) : X6 k kp (m6 x3 x4) = j6 (fun x4 x6 b0 => XL8 k kp (mL8 x4 x6 b0)) x3 x4 (fun y0 => k (.v (.string y0)) []) :=
  Eq.mp (by kernel_rfl) ((atP_run (j6_ag k kp) (m6 x3 x4)).trans (j6_c k kp (JJ k kp) (LL k kp) x3 x4))
theorem j6_eq (k kp : KT) (x3 : Int) (x4 : BA) : X6 k kp (m6 x3 x4) = j6' x3 x4 (fun y0 => k (.v (.string y0)) []) := by
  rw [j6_raw]; simp only [l8_eq]; first | done | rfl
theorem c_c (k kp : KT) (J L : Nat → St → Prop) (x0 : Int) : runC cfg 1000001 J L none'' [] body (topK cfg Try.f34 k kp) (st0 Try.f34 [(.v (.int .i64 x0))] []) = c (fun x3 x4 => J 6 (m6 x3 x4)) x0 (fun y0 => k (.v (.string y0)) []) := by kernel_rfl
theorem c_ag (k kp : KT) : agPL cfg 1000001 (JJ k kp) (LL k kp) [] body = agPR cfg 1000001 none'' [] body (topK cfg Try.f34 k kp) := by kernel_rfl
theorem body_is : Try.f34.body = some body := by kernel_rfl
theorem c_raw (k kp : KT) (x0 : Int) : funW cfg Try.f34 [(.v (.int .i64 x0))] [] k kp = c (fun x3 x4 => X6 k kp (m6 x3 x4)) x0 (fun y0 => k (.v (.string y0)) []) :=
  Eq.mp (by kernel_rfl) ((funW_run (AG := none'') body_is (c_ag k kp) [(.v (.int .i64 x0))] []).trans (c_c k kp (JJ k kp) (LL k kp) x0))
theorem f_eq (k kp : KT) (x0 : Int) : funW cfg Try.f34 [(.v (.int .i64 x0))] [] k kp = f x0 (fun y0 => k (.v (.string y0)) []) := by
  rw [f_def, c_raw]; simp only [j6_eq]; first | done | rfl
noncomputable def ent0 : Entry := fun args blks k _ => match args, blks with
  | [d0], [] => aInt IntKind.i64 d0 fun x0 => f x0 (fun y0 => k (.v (.string y0)) [])
  | _, _ => False
noncomputable def ent : Entry := fun args blks k kp => ent0 (convB [.no] args) blks k kp
theorem ok : EntOk Try.prog 0 0 34 ent := by
  refine EntOk.convB (EntOk.of (funW_ok (cfg := cfg) (tyOk_of rfl rfl tyL_ok) (eqOk_of (P := Try.prog) rfl rfl (by kernel_rfl)) mixed_ok (tab_ok ?_) Try.func34 (by rfl) (by rfl)) ?_) _
  · intro p hp
    simp only [List.mem_cons, List.not_mem_nil, or_false] at hp
    rcases hp with rfl
    · exact N56.ok
  · intro args blks k kp h k' kp'
    match args, blks, h with
    | [d0], [], h =>
    dsimp only [ent0] at h
    have h9 := aInt_elim h; clear h; obtain ⟨x0, rfl, h⟩ := h9
    exact (f_eq k' kp' x0).symm
end N34
end Go.Proofs.Yh

namespace Go.Proofs.Yh
open Go Go.Aw Go.Proofs
set_option maxRecDepth 100000
set_option maxHeartbeats 4000000
namespace N43
noncomputable def cfg : Cfg := { P := Try.prog, ty := tys, E := tab [], atSeq := tab [(8, ⟨[(0, .keep), (3, .keep), (4, .keep), (5, .keep), (6, .keep)]⟩), (11, ⟨[(0, .keep), (3, .keep), (4, .keep)]⟩), (4, ⟨[(0, .keep), (3, .keep), (4, .keep), (5, .keep)]⟩), (14, ⟨[(3, .keep), (4, .keep)]⟩)], atLoop := tab [(5, ⟨[(0, .keep), (3, .keep), (4, .keep), (5, .keep)]⟩)], outs := [], eqT := tab [], bT := tab [] }
noncomputable def body : Code := bodyOf Try.f43
def l5 (j8 : Int → Int → Int → Int → LI → Prop) (x0 x4 x5 : Int) (b0 : LI) (k : BA → Prop) : Prop :=
  (((10 : Int) ≠ 0) ∧ (br (decide ((Int.tmod x5 (10 : Int)) < (0 : Int))) (j8 x0 x4 x5 (IntKind.i64.wrap (0 - (Int.tmod x5 (10 : Int)))) b0) (j8 x0 x4 x5 (Int.tmod x5 (10 : Int)) b0)))
def j8 (j11 : Int → Int → LI → Prop) (j4 : Int → Int → Int → LI → Prop) (x0 x4 : Int) (x5 x6 : Int) (b0 : LI) (k : BA → Prop) : Prop :=
  ((inB 0 (IntKind.i64.wrap (x4 - (1 : Int))) (((20 : Nat) : Int) - 1)) ∧ (((10 : Int) ≠ 0) ∧ (br ((IntKind.i64.wrap (Int.tdiv x5 (10 : Int))) == (0 : Int)) (j11 x0 (IntKind.i64.wrap (x4 - (1 : Int))) (b0.set (Int.toNat (IntKind.i64.wrap (x4 - (1 : Int)))) (IntKind.u8.wrap (IntKind.i64.wrap ((48 : Int) + x6))))) (j4 x0 (IntKind.i64.wrap (x4 - (1 : Int))) x5 (b0.set (Int.toNat (IntKind.i64.wrap (x4 - (1 : Int)))) (IntKind.u8.wrap (IntKind.i64.wrap ((48 : Int) + x6))))))))
def j11 (j14 : Int → LI → Prop) (x0 x4 : Int) (b0 : LI) (k : BA → Prop) : Prop :=
  (br (decide (x0 < (0 : Int))) ((inB 0 (IntKind.i64.wrap (x4 - (1 : Int))) (((20 : Nat) : Int) - 1)) ∧ (j14 (IntKind.i64.wrap (x4 - (1 : Int))) (b0.set (Int.toNat (IntKind.i64.wrap (x4 - (1 : Int)))) (45 : Int)))) (j14 x4 b0))
def j4 (ag5 : Int → Int → LI → Prop) (x0 x4 x5 : Int) (b0 : LI) (k : BA → Prop) : Prop :=
  (((10 : Int) ≠ 0) ∧ (ag5 x4 (IntKind.i64.wrap (Int.tdiv x5 (10 : Int))) b0))
def j14 (x4 : Int) (b0 : LI) (k : BA → Prop) : Prop :=
  ((inB x4 (20 : Int) (20 : Int)) ∧ (((20 : Int) ≤ ((20 : Nat) : Int)) ∧ (k (bytesOf (List.drop (Int.toNat x4) (List.take (Int.toNat (20 : Int)) b0))))))
def c (l5 : Int → Int → Int → LI → Prop) (x0 : Int) (k : BA → Prop) : Prop :=
  (l5 x0 (20 : Int) x0 (List.replicate 20 (0)))
def j4' (ag5 : Int → Int → LI → Prop) (x0 x4 x5 : Int) (b0 : LI) (k : BA → Prop) : Prop := j4 ag5 x0 x4 x5 b0 k
def j14' (x4 : Int) (b0 : LI) (k : BA → Prop) : Prop := j14 x4 b0 k
def j11' (x0 x4 : Int) (b0 : LI) (k : BA → Prop) : Prop := j11 (fun x4 b0 => j14' x4 b0 k) x0 x4 b0 k
def j8' (ag5 : Int → Int → LI → Prop) (x0 x4 : Int) (x5 x6 : Int) (b0 : LI) (k : BA → Prop) : Prop := j8 (fun x0 x4 b0 => j11' x0 x4 b0 k) (fun x0 x4 x5 b0 => j4' ag5 x0 x4 x5 b0 k) x0 x4 x5 x6 b0 k
def l5' (x0 x4 x5 : Int) (b0 : LI) (k : BA → Prop) : Prop := ∃ n, loopS (fun (ag : (Int × Int × LI) → Prop) (s : Int × Int × LI) => l5 (fun x0 x4 x5 x6 b0 => j8' (fun x4 x5 b0 => ag (x4, x5, b0)) x0 x4 x5 x6 b0 k) x0 s.1 s.2.1 s.2.2 k) n (x4, x5, b0)
def f0 (x0 : Int) (k : BA → Prop) : Prop := c (fun x0 x4 x5 b0 => l5' x0 x4 x5 b0 k) x0 k
theorem f_ex : ∃ g, g = f0 := ⟨_, rfl⟩
noncomputable def f := Classical.choose f_ex
theorem f_def : f = f0 := Classical.choose_spec f_ex
def mL5 (x0 x4 x5 : Int) (b0 : LI) : St := { tmps := mkT 35 0 [(0, (.v (.int .i64 x0))), (3, (.ptr 0 0)), (4, (.v (.int .i64 x4))), (5, (.v (.int .i64 x5)))], hp := [(.arr 114 20 (Ty.int IntKind.u8) b0 false)], m := 0 }
def m8 (x0 x4 : Int) (x5 x6 : Int) (b0 : LI) : St := { tmps := mkT 35 0 [(0, (.v (.int .i64 x0))), (3, (.ptr 0 0)), (4, (.v (.int .i64 x4))), (5, (.v (.int .i64 x5))), (6, (.v (.int .i64 x6)))], hp := [(.arr 114 20 (Ty.int IntKind.u8) b0 false)], m := 0 }
def m11 (x0 x4 : Int) (b0 : LI) : St := { tmps := mkT 35 0 [(0, (.v (.int .i64 x0))), (3, (.ptr 0 0)), (4, (.v (.int .i64 x4)))], hp := [(.arr 114 20 (Ty.int IntKind.u8) b0 false)], m := 0 }
def m4 (x0 x4 x5 : Int) (b0 : LI) : St := { tmps := mkT 35 0 [(0, (.v (.int .i64 x0))), (3, (.ptr 0 0)), (4, (.v (.int .i64 x4))), (5, (.v (.int .i64 x5)))], hp := [(.arr 114 20 (Ty.int IntKind.u8) b0 false)], m := 0 }
def m14 (x4 : Int) (b0 : LI) : St := { tmps := mkT 35 0 [(3, (.ptr 0 0)), (4, (.v (.int .i64 x4)))], hp := [(.arr 114 20 (Ty.int IntKind.u8) b0 false)], m := 0 }
noncomputable def YL5 (k kp : KT) : (St → Prop) → St → Prop := loopB cfg (sub [1, 1, 1, 0, 1, 0, 0] body) (contK cfg (pick none' []) [1, 1, 1, 0, 1, 0] body (topK cfg Try.f43 k kp))
noncomputable def XL5 (k kp : KT) : St → Prop := fun st => ∃ n, loopN (YL5 k kp) n st
noncomputable def X8 (k kp : KT) (ag5 : St → Prop) : St → Prop := atP cfg (pick none' [(5, ag5)]) [1, 1, 1, 0, 1, 0, 0, 0, 0, 1, 1] body (topK cfg Try.f43 k kp)
noncomputable def X11 (k kp : KT) : St → Prop := atP cfg (pick none' []) [1, 1, 1, 1] body (topK cfg Try.f43 k kp)
noncomputable def X4 (k kp : KT) (ag5 : St → Prop) : St → Prop := atP cfg (pick none' [(5, ag5)]) [1, 1, 1, 0, 1, 0, 0, 1] body (topK cfg Try.f43 k kp)
noncomputable def X14 (k kp : KT) : St → Prop := atP cfg (pick none' []) [1, 1, 1, 1, 1] body (topK cfg Try.f43 k kp)
noncomputable def JJ_5 (k kp : KT) (ag5 : St → Prop) : Nat → St → Prop := pick none' [(8, X8 k kp ag5), (11, X11 k kp), (4, X4 k kp ag5), (14, X14 k kp)]
noncomputable def LL_5 (k kp : KT) (ag5 : St → Prop) : Nat → St → Prop := pick none' [(5, XL5 k kp)]
noncomputable def JJ (k kp : KT) : Nat → St → Prop := pick none' [(11, X11 k kp), (14, X14 k kp)]
noncomputable def LL (k kp : KT) : Nat → St → Prop := pick none' [(5, XL5 k kp)]
theorem j4_c (k kp : KT) (J L : Nat → St → Prop) (ag5 : St → Prop) (x0 x4 x5 : Int) (b0 : LI) : runC cfg 4 J L (pick none' [(5, ag5)]) [1, 1, 1, 0, 1, 0, 0, 1] body (topK cfg Try.f43 k kp) (m4 x0 x4 x5 b0) = j4 (fun x4 x5 b0 => ag5 (mL5 x0 x4 x5 b0)) x0 x4 x5 b0 (fun y0 => k (.v (.string y0)) []) := by kernel_rfl
theorem j4_ag (k kp : KT) (ag5 : St → Prop) : agPL cfg 4 (JJ_5 k kp ag5) (LL_5 k kp ag5) [1, 1, 1, 0, 1, 0, 0, 1] body = agPR cfg 4 (pick none' [(5, ag5)]) [1, 1, 1, 0, 1, 0, 0, 1] body (topK cfg Try.f43 k kp) := by kernel_rfl
theorem j4_raw (k kp : KT) (ag5 : St → Prop) (x0 x4 x5 : Int) (b0 : LI) : X4 k kp ag5 (m4 x0 x4 x5 b0) = j4 (fun x4 x5 b0 => ag5 (mL5 x0 x4 x5 b0)) x0 x4 x5 b0 (fun y0 => k (.v (.string y0)) []) :=
  Eq.mp (by kernel_rfl) ((atP_run (j4_ag k kp ag5) (m4 x0 x4 x5 b0)).trans (j4_c k kp (JJ_5 k kp ag5) (LL_5 k kp ag5) ag5 x0 x4 x5 b0))
theorem j4_eq (k kp : KT) (ag5 : St → Prop) (x0 x4 x5 : Int) (b0 : LI) : X4 k kp ag5 (m4 x0 x4 x5 b0) = j4' (fun x4 x5 b0 => ag5 (mL5 x0 x4 x5 b0)) x0 x4 x5 b0 (fun y0 => k (.v (.string y0)) []) := by
  rw [j4_raw]; rfl
theorem j14_c (k kp : KT) (J L : Nat → St → Prop) (x4 : Int) (b0 : LI) : runC cfg 14 J L (pick none' []) [1, 1, 1, 1, 1] body (topK cfg Try.f43 k kp) (m14 x4 b0) = j14 x4 b0 (fun y0 => k (.v (.string y0)) []) := by kernel_rfl
theorem j14_ag (k kp : KT) : agPL cfg 14 (JJ k kp) (LL k kp) [1, 1, 1, 1, 1] body = agPR cfg 14 (pick none' []) [1, 1, 1, 1, 1] body (topK cfg Try.f43 k kp) := by kernel_rfl
theorem j14_raw (k kp : KT) (x4 : Int) (b0 : LI) : X14 k kp (m14 x4 b0) = j14 x4 b0 (fun y0 => k (.v (.string y0)) []) :=
  Eq.mp (by kernel_rfl) ((atP_run (j14_ag k kp) (m14 x4 b0)).trans (j14_c k kp (JJ k kp) (LL k kp) x4 b0))
theorem j14_eq (k kp : KT) (x4 : Int) (b0 : LI) : X14 k kp (m14 x4 b0) = j14' x4 b0 (fun y0 => k (.v (.string y0)) []) := by
  rw [j14_raw]; rfl
theorem j11_c (k kp : KT) (J L : Nat → St → Prop) (x0 x4 : Int) (b0 : LI) : runC cfg 11 J L (pick none' []) [1, 1, 1, 1] body (topK cfg Try.f43 k kp) (m11 x0 x4 b0) = j11 (fun x4 b0 => J 14 (m14 x4 b0)) x0 x4 b0 (fun y0 => k (.v (.string y0)) []) := by kernel_rfl
theorem j11_ag (k kp : KT) : agPL cfg 11 (JJ k kp) (LL k kp) [1, 1, 1, 1] body = agPR cfg 11 (pick none' []) [1, 1, 1, 1] body (topK cfg Try.f43 k kp) := by kernel_rfl
theorem j11_raw (k kp : KT) (x0 x4 : Int) (b0 : LI) : X11 k kp (m11 x0 x4 b0) = j11 (fun x4 b0 => X14 k kp (m14 x4 b0)) x0 x4 b0 (fun y0 => k (.v (.string y0)) []) :=
  Eq.mp (by kernel_rfl) ((atP_run (j11_ag k kp) (m11 x0 x4 b0)).trans (j11_c k kp (JJ k kp) (LL k kp) x0 x4 b0))
theorem j11_eq (k kp : KT) (x0 x4 : Int) (b0 : LI) : X11 k kp (m11 x0 x4 b0) = j11' x0 x4 b0 (fun y0 => k (.v (.string y0)) []) := by
  rw [j11_raw]; simp only [j14_eq]; first | done | rfl
theorem j8_c (k kp : KT) (J L : Nat → St → Prop) (ag5 : St → Prop) (x0 x4 : Int) (x5 x6 : Int) (b0 : LI) : runC cfg 8 J L (pick none' [(5, ag5)]) [1, 1, 1, 0, 1, 0, 0, 0, 0, 1, 1] body (topK cfg Try.f43 k kp) (m8 x0 x4 x5 x6 b0) = j8 (fun x0 x4 b0 => J 11 (m11 x0 x4 b0)) (fun x0 x4 x5 b0 => J 4 (m4 x0 x4 x5 b0)) x0 x4 x5 x6 b0 (fun y0 => k (.v (.string y0)) []) := by kernel_rfl
theorem j8_ag (k kp : KT) (ag5 : St → Prop) : agPL cfg 8 (JJ_5 k kp ag5) (LL_5 k kp ag5) [1, 1, 1, 0, 1, 0, 0, 0, 0, 1, 1] body = agPR cfg 8 (pick none' [(5, ag5)]) [1, 1, 1, 0, 1, 0, 0, 0, 0, 1, 1] body (topK cfg Try.f43 k kp) := by kernel_rfl
theorem j8_raw (k kp : KT) (ag5 : St → Prop) (x0 x4 : Int) (x5 x6 : Int) (b0 : LI) : X8 k kp ag5 (m8 x0 x4 x5 x6 b0) = j8 (fun x0 x4 b0 => X11 k kp (m11 x0 x4 b0)) (fun x0 x4 x5 b0 => X4 k kp ag5 (m4 x0 x4 x5 b0)) x0 x4 x5 x6 b0 (fun y0 => k (.v (.string y0)) []) :=
  Eq.mp (by kernel_rfl) ((atP_run (j8_ag k kp ag5) (m8 x0 x4 x5 x6 b0)).trans (j8_c k kp (JJ_5 k kp ag5) (LL_5 k kp ag5) ag5 x0 x4 x5 x6 b0))
theorem j8_eq (k kp : KT) (ag5 : St → Prop) (x0 x4 : Int) (x5 x6 : Int) (b0 : LI) : X8 k kp ag5 (m8 x0 x4 x5 x6 b0) = j8' (fun x4 x5 b0 => ag5 (mL5 x0 x4 x5 b0)) x0 x4 x5 x6 b0 (fun y0 => k (.v (.string y0)) []) := by
  rw [j8_raw]; simp only [j11_eq, j4_eq]; first | done | rfl
theorem l5_c (k kp : KT) (J L : Nat → St → Prop) (ag5 : St → Prop) (x0 x4 x5 : Int) (b0 : LI) : runC cfg 1000001 J L (pick none' [(5, ag5)]) [1, 1, 1, 0, 1, 0, 0] body (topK cfg Try.f43 k kp) (mL5 x0 x4 x5 b0) = l5 (fun x0 x4 x5 x6 b0 => J 8 (m8 x0 x4 x5 x6 b0)) x0 x4 x5 b0 (fun y0 => k (.v (.string y0)) []) := by kernel_rfl
theorem l5_ag (k kp : KT) (ag5 : St → Prop) : agPL cfg 1000001 (JJ_5 k kp ag5) (LL_5 k kp ag5) [1, 1, 1, 0, 1, 0, 0] body = agPR cfg 1000001 (pick none' [(5, ag5)]) [1, 1, 1, 0, 1, 0, 0] body (topK cfg Try.f43 k kp) := by kernel_rfl
theorem l5_raw (k kp : KT) (ag5 : St → Prop) (x0 x4 x5 : Int) (b0 : LI) : YL5 k kp ag5 (mL5 x0 x4 x5 b0) = l5 (fun x0 x4 x5 x6 b0 => X8 k kp ag5 (m8 x0 x4 x5 x6 b0)) x0 x4 x5 b0 (fun y0 => k (.v (.string y0)) []) :=
  Eq.mp (by kernel_rfl) ((atP_run (l5_ag k kp ag5) (mL5 x0 x4 x5 b0)).trans (l5_c k kp (JJ_5 k kp ag5) (LL_5 k kp ag5) ag5 x0 x4 x5 b0))
theorem l5_eq (k kp : KT) (x0 x4 x5 : Int) (b0 : LI) : XL5 k kp (mL5 x0 x4 x5 b0) = l5' x0 x4 x5 b0 (fun y0 => k (.v (.string y0)) []) :=
  loop_eq (mk := fun (s : Int × Int × LI) => mL5 x0 s.1 s.2.1 s.2.2) (fun again s => by rw [l5_raw k kp again x0 s.1 s.2.1 s.2.2]; simp only [j8_eq]; first | done | rfl) (x4, x5, b0)
theorem c_c (k kp : KT) (J L : Nat → St → Prop) (x0 : Int) : runC cfg 1000001 J L none'' [] body (topK cfg Try.f43 k kp) (st0 Try.f43 [(.v (.int .i64 x0))] []) = c (fun x0 x4 x5 b0 => L 5 (mL5 x0 x4 x5 b0)) x0 (fun y0 => k (.v (.string y0)) []) := by kernel_rfl
theorem c_ag (k kp : KT) : agPL cfg 1000001 (JJ k kp) (LL k kp) [] body = agPR cfg 1000001 none'' [] body (topK cfg Try.f43 k kp) := by kernel_rfl
theorem body_is : Try.f43.body = some body := by kernel_rfl
theorem c_raw (k kp : KT) (x0 : Int) : funW cfg Try.f43 [(.v (.int .i64 x0))] [] k kp = c (fun x0 x4 x5 b0 => XL5 k kp (mL5 x0 x4 x5 b0)) x0 (fun y0 => k (.v (.string y0)) []) :=
  Eq.mp (by kernel_rfl) ((funW_run (AG := none'') body_is (c_ag k kp) [(.v (.int .i64 x0))] []).trans (c_c k kp (JJ k kp) (LL k kp) x0))
theorem f_eq (k kp : KT) (x0 : Int) : funW cfg Try.f43 [(.v (.int .i64 x0))] [] k kp = f x0 (fun y0 => k (.v (.string y0)) []) := by
  rw [f_def, c_raw]; simp only [l5_eq]; first | done | rfl
noncomputable def ent0 : Entry := fun args blks k _ => match args, blks with
  | [d0], [] => aInt IntKind.i64 d0 fun x0 => f x0 (fun y0 => k (.v (.string y0)) [])
  | _, _ => False
noncomputable def ent : Entry := fun args blks k kp => ent0 (convB [.no] args) blks k kp
theorem ok : EntOk Try.prog 0 0 43 ent := by
  refine EntOk.convB (EntOk.of (funW_ok (cfg := cfg) (tyOk_of rfl rfl tyL_ok) (eqOk_of (P := Try.prog) rfl rfl (by kernel_rfl)) mixed_ok (tab_ok ?_) Try.func43 (by rfl) (by rfl)) ?_) _
  · intro p hp
    cases hp
  · intro args blks k kp h k' kp'
    match args, blks, h with
    | [d0], [], h =>
    dsimp only [ent0] at h
    have h9 := aInt_elim h; clear h; obtain ⟨x0, rfl, h⟩ := h9
    exact (f_eq k' kp' x0).symm
end N43
end Go.Proofs.Yh

namespace Go.Proofs.Yh
open Go Go.Aw Go.Proofs
set_option maxRecDepth 100000
set_option maxHeartbeats 4000000
namespace N49
noncomputable def cfg : Cfg := { P := Try.prog, ty := tys, E := tab [], atSeq := tab [(2000002, ⟨[(0, .keep), (8, .keep)]⟩), (3, ⟨[(0, .keep)]⟩)], atLoop := tab [], outs := [], eqT := tab [], bT := tab [] }
noncomputable def body : Code := bodyOf Try.f49
def j2000002 (j3 : Int → Prop) (x0 : Int) (x8 : Bool) (k : BA → Prop) : Prop :=
  (br x8 (k (ByteArray.mk #[])) (j3 x0))
def j3 (x0 : Int) (k : BA → Prop) : Prop :=
  ((inB x0 (IntKind.i64.wrap (x0 + (1 : Int))) ((((ByteArray.mk #[103, 120])).size : Nat) : Int)) ∧ (k (ByteArray.extract (ByteArray.mk #[103, 120]) (Int.toNat x0) (Int.toNat (IntKind.i64.wrap (x0 + (1 : Int)))))))
def c (j2000002 : Int → Bool → Prop) (x0 : Int) (k : BA → Prop) : Prop :=
  (br (decide (x0 < (0 : Int))) (j2000002 x0 true) (j2000002 x0 (decide (x0 ≥ (2 : Int)))))
def j3' (x0 : Int) (k : BA → Prop) : Prop := j3 x0 k
def j2000002' (x0 : Int) (x8 : Bool) (k : BA → Prop) : Prop := j2000002 (fun x0 => j3' x0 k) x0 x8 k
def f0 (x0 : Int) (k : BA → Prop) : Prop := c (fun x0 x8 => j2000002' x0 x8 k) x0 k
theorem f_ex : ∃ g, g = f0 := ⟨_, rfl⟩
noncomputable def f := Classical.choose f_ex
theorem f_def : f = f0 := Classical.choose_spec f_ex
def m2000002 (x0 : Int) (x8 : Bool) : St := { tmps := mkT 13 0 [(0, (.v (.int .i64 x0))), (8, (.v (.bool x8)))], hp := [], m := 0 }
def m3 (x0 : Int) : St := { tmps := mkT 13 0 [(0, (.v (.int .i64 x0)))], hp := [], m := 0 }
noncomputable def X2000002 (k kp : KT) : St → Prop := atP cfg (pick none' []) [1, 0, 1] body (topK cfg Try.f49 k kp)
noncomputable def X3 (k kp : KT) : St → Prop := atP cfg (pick none' []) [1, 1] body (topK cfg Try.f49 k kp)
noncomputable def JJ (k kp : KT) : Nat → St → Prop := pick none' [(2000002, X2000002 k kp), (3, X3 k kp)]
noncomputable def LL (k kp : KT) : Nat → St → Prop := pick none' []
theorem j3_c (k kp : KT) (J L : Nat → St → Prop) (x0 : Int) : runC cfg 3 J L (pick none' []) [1, 1] body (topK cfg Try.f49 k kp) (m3 x0) = j3 x0 (fun y0 => k (.v (.string y0)) []) := by kernel_rfl
theorem j3_ag (k kp : KT) : agPL cfg 3 (JJ k kp) (LL k kp) [1, 1] body = agPR cfg 3 (pick none' []) [1, 1] body (topK cfg Try.f49 k kp) := by kernel_rfl
theorem j3_raw (k kp : KT) (x0 : Int) : X3 k kp (m3 x0) = j3 x0 (fun y0 => k (.v (.string y0)) []) :=
  Eq.mp (by kernel_rfl) ((atP_run (j3_ag k kp) (m3 x0)).trans (j3_c k kp (JJ k kp) (LL k kp) x0))
theorem j3_eq (k kp : KT) (x0 : Int) : X3 k kp (m3 x0) = j3' x0 (fun y0 => k (.v (.string y0)) []) := by
  rw [j3_raw]; rfl
theorem j2000002_c (k kp : KT) (J L : Nat → St → Prop) (x0 : Int) (x8 : Bool) : runC cfg 2000002 J L (pick none' []) [1, 0, 1] body (topK cfg Try.f49 k kp) (m2000002 x0 x8) = j2000002 (fun x0 => J 3 (m3 x0)) x0 x8 (fun y0 => k (.v (.string y0)) []) := by kernel_rfl
theorem j2000002_ag (k kp : KT) : agPL cfg 2000002 (JJ k kp) (LL k kp) [1, 0, 1] body = agPR cfg 2000002 (pick none' []) [1, 0, 1] body (topK cfg Try.f49 k kp) := by kernel_rfl
theorem j2000002_raw (k kp : KT) (x0 : Int) (x8 : Bool) : X2000002 k kp (m2000002 x0 x8) = j2000002 (fun x0 => X3 k kp (m3 x0)) x0 x8 (fun y0 => k (.v (.string y0)) []) :=
  Eq.mp (by kernel_rfl) ((atP_run (j2000002_ag k kp) (m2000002 x0 x8)).trans (j2000002_c k kp (JJ k kp) (LL k kp) x0 x8))
theorem j2000002_eq (k kp : KT) (x0 : Int) (x8 : Bool) : X2000002 k kp (m2000002 x0 x8) = j2000002' x0 x8 (fun y0 => k (.v (.string y0)) []) := by
  rw [j2000002_raw]; simp only [j3_eq]; first | done | rfl
theorem c_c (k kp : KT) (J L : Nat → St → Prop) (x0 : Int) : runC cfg 1000001 J L none'' [] body (topK cfg Try.f49 k kp) (st0 Try.f49 [(.v (.int .i64 x0))] []) = c (fun x0 x8 => J 2000002 (m2000002 x0 x8)) x0 (fun y0 => k (.v (.string y0)) []) := by kernel_rfl
theorem c_ag (k kp : KT) : agPL cfg 1000001 (JJ k kp) (LL k kp) [] body = agPR cfg 1000001 none'' [] body (topK cfg Try.f49 k kp) := by kernel_rfl
theorem body_is : Try.f49.body = some body := by kernel_rfl
theorem c_raw (k kp : KT) (x0 : Int) : funW cfg Try.f49 [(.v (.int .i64 x0))] [] k kp = c (fun x0 x8 => X2000002 k kp (m2000002 x0 x8)) x0 (fun y0 => k (.v (.string y0)) []) :=
  Eq.mp (by kernel_rfl) ((funW_run (AG := none'') body_is (c_ag k kp) [(.v (.int .i64 x0))] []).trans (c_c k kp (JJ k kp) (LL k kp) x0))
theorem f_eq (k kp : KT) (x0 : Int) : funW cfg Try.f49 [(.v (.int .i64 x0))] [] k kp = f x0 (fun y0 => k (.v (.string y0)) []) := by
  rw [f_def, c_raw]; simp only [j2000002_eq]; first | done | rfl
noncomputable def ent0 : Entry := fun args blks k _ => match args, blks with
  | [d0], [] => aInt IntKind.i64 d0 fun x0 => f x0 (fun y0 => k (.v (.string y0)) [])
  | _, _ => False
noncomputable def ent : Entry := fun args blks k kp => ent0 (convB [.no] args) blks k kp
theorem ok : EntOk Try.prog 0 0 49 ent := by
  refine EntOk.convB (EntOk.of (funW_ok (cfg := cfg) (tyOk_of rfl rfl tyL_ok) (eqOk_of (P := Try.prog) rfl rfl (by kernel_rfl)) mixed_ok (tab_ok ?_) Try.func49 (by rfl) (by rfl)) ?_) _
  · intro p hp
    cases hp
  · intro args blks k kp h k' kp'
    match args, blks, h with
    | [d0], [], h =>
    dsimp only [ent0] at h
    have h9 := aInt_elim h; clear h; obtain ⟨x0, rfl, h⟩ := h9
    exact (f_eq k' kp' x0).symm
end N49
end Go.Proofs.Yh

namespace Go.Proofs.Yh
open Go Go.Aw Go.Proofs
set_option maxRecDepth 100000
set_option maxHeartbeats 4000000
namespace N45
noncomputable def cfg : Cfg := { P := Try.prog, ty := tys, E := tab [(49, N49.ent), (43, N43.ent)], atSeq := tab [(2000002, ⟨[(1, .keep), (3, .keep)]⟩), (5, ⟨[]⟩)], atLoop := tab [], outs := [], eqT := tab [], bT := tab [], fzB := [1] }
noncomputable def body : Code := bodyOf Try.f45
def j2000002 (j5 : Prop) (x1_0 x1_1 x1_2 : Int) (x3 : Bool) (k : BA → Prop) : Prop :=
  (br x3 (N49.f x1_1 (fun (y0_1 : BA) => ((((ByteArray.mk #[36])).size + (y0_1).size ≤ 9223372036854775807) ∧ (N43.f x1_2 (fun (y0_2 : BA) => (((((ByteArray.mk #[36]) ++ y0_1)).size + (y0_2).size ≤ 9223372036854775807) ∧ (k (((ByteArray.mk #[36]) ++ y0_1) ++ y0_2)))))))) (br (x1_0 == (3 : Int)) (N43.f x1_2 (fun (y0_3 : BA) => ((((ByteArray.mk #[35])).size + (y0_3).size ≤ 9223372036854775807) ∧ (k ((ByteArray.mk #[35]) ++ y0_3))))) (j5)))
def j5 (k : BA → Prop) : Prop :=
  (k (ByteArray.mk #[]))
def c (j2000002 : Int → Int → Int → Bool → Prop) (x0_0 x0_1 x0_2 : Int) (k : BA → Prop) : Prop :=
  (br (x0_0 == (2 : Int)) (N49.f x0_1 (fun (y0_0 : BA) => (j2000002 x0_0 x0_1 x0_2 (!(beqS y0_0 (ByteArray.mk #[])))))) (j2000002 x0_0 x0_1 x0_2 false))
def j5' (k : BA → Prop) : Prop := j5 k
def j2000002' (x1_0 x1_1 x1_2 : Int) (x3 : Bool) (k : BA → Prop) : Prop := j2000002 (j5' k) x1_0 x1_1 x1_2 x3 k
def f0 (x0_0 x0_1 x0_2 : Int) (k : BA → Prop) : Prop := c (fun x1_0 x1_1 x1_2 x3 => j2000002' x1_0 x1_1 x1_2 x3 k) x0_0 x0_1 x0_2 k
theorem f_ex : ∃ g, g = f0 := ⟨_, rfl⟩
noncomputable def f := Classical.choose f_ex
theorem f_def : f = f0 := Classical.choose_spec f_ex
def m2000002 (x1_0 x1_1 x1_2 : Int) (x3 : Bool) : St := { tmps := mkT 29 0 [(1, (.fp [(.v (.int .i64 x1_0)), (.v (.int .i64 x1_1)), (.v (.int .i64 x1_2))])), (3, (.v (.bool x3)))], hp := [], m := 0 }
def m5 : St := { tmps := mkT 29 0 [], hp := [], m := 0 }
noncomputable def X2000002 (k kp : KT) : St → Prop := atP cfg (pick none' []) [1, 0, 0, 1] body (topK cfg Try.f45 k kp)
noncomputable def X5 (k kp : KT) : St → Prop := atP cfg (pick none' []) [1, 1] body (topK cfg Try.f45 k kp)
noncomputable def JJ (k kp : KT) : Nat → St → Prop := pick none' [(2000002, X2000002 k kp), (5, X5 k kp)]
noncomputable def LL (k kp : KT) : Nat → St → Prop := pick none' []
theorem j5_c (k kp : KT) (J L : Nat → St → Prop) : runC cfg 5 J L (pick none' []) [1, 1] body (topK cfg Try.f45 k kp) (m5) = j5 (fun y0 => k (.v (.string y0)) []) := by kernel_rfl
theorem j5_ag (k kp : KT) : agPL cfg 5 (JJ k kp) (LL k kp) [1, 1] body = agPR cfg 5 (pick none' []) [1, 1] body (topK cfg Try.f45 k kp) := by kernel_rfl
theorem j5_raw (k kp : KT) : X5 k kp (m5) = j5 (fun y0 => k (.v (.string y0)) []) :=
  Eq.mp (by kernel_rfl) ((atP_run (j5_ag k kp) (m5)).trans (j5_c k kp (JJ k kp) (LL k kp)))
theorem j5_eq (k kp : KT) : X5 k kp (m5) = j5' (fun y0 => k (.v (.string y0)) []) := by
  rw [j5_raw]; rfl
theorem j2000002_c (k kp : KT) (J L : Nat → St → Prop) (x1_0 x1_1 x1_2 : Int) (x3 : Bool) : runC cfg 2000002 J L (pick none' []) [1, 0, 0, 1] body (topK cfg Try.f45 k kp) (m2000002 x1_0 x1_1 x1_2 x3) = j2000002 (J 5 (m5)) x1_0 x1_1 x1_2 x3 (fun y0 => k (.v (.string y0)) []) := by kernel_rfl
theorem j2000002_ag (k kp : KT) : agPL cfg 2000002 (JJ k kp) (LL k kp) [1, 0, 0, 1] body = agPR cfg 2000002 (pick none' []) [1, 0, 0, 1] body (topK cfg Try.f45 k kp) := by kernel_rfl
theorem j2000002_raw (k kp : KT) (x1_0 x1_1 x1_2 : Int) (x3 : Bool) : X2000002 k kp (m2000002 x1_0 x1_1 x1_2 x3) = j2000002 (X5 k kp (m5)) x1_0 x1_1 x1_2 x3 (fun y0 => k (.v (.string y0)) []) :=
  Eq.mp (by kernel_rfl) ((atP_run (j2000002_ag k kp) (m2000002 x1_0 x1_1 x1_2 x3)).trans (j2000002_c k kp (JJ k kp) (LL k kp) x1_0 x1_1 x1_2 x3))
theorem j2000002_eq (k kp : KT) (x1_0 x1_1 x1_2 : Int) (x3 : Bool) : X2000002 k kp (m2000002 x1_0 x1_1 x1_2 x3) = j2000002' x1_0 x1_1 x1_2 x3 (fun y0 => k (.v (.string y0)) []) := by
  rw [j2000002_raw]; simp only [j5_eq]; first | done | rfl
theorem c_c (k kp : KT) (J L : Nat → St → Prop) (x0_0 x0_1 x0_2 : Int) : runC cfg 1000001 J L none'' [] body (topK cfg Try.f45 k kp) (st0 Try.f45 [(.agg [(.v (.int .i64 x0_0)), (.v (.int .i64 x0_1)), (.v (.int .i64 x0_2))])] []) = c (fun x1_0 x1_1 x1_2 x3 => J 2000002 (m2000002 x1_0 x1_1 x1_2 x3)) x0_0 x0_1 x0_2 (fun y0 => k (.v (.string y0)) []) := by kernel_rfl
theorem c_ag (k kp : KT) : agPL cfg 1000001 (JJ k kp) (LL k kp) [] body = agPR cfg 1000001 none'' [] body (topK cfg Try.f45 k kp) := by kernel_rfl
theorem body_is : Try.f45.body = some body := by kernel_rfl
theorem c_raw (k kp : KT) (x0_0 x0_1 x0_2 : Int) : funW cfg Try.f45 [(.agg [(.v (.int .i64 x0_0)), (.v (.int .i64 x0_1)), (.v (.int .i64 x0_2))])] [] k kp = c (fun x1_0 x1_1 x1_2 x3 => X2000002 k kp (m2000002 x1_0 x1_1 x1_2 x3)) x0_0 x0_1 x0_2 (fun y0 => k (.v (.string y0)) []) :=
  Eq.mp (by kernel_rfl) ((funW_run (AG := none'') body_is (c_ag k kp) [(.agg [(.v (.int .i64 x0_0)), (.v (.int .i64 x0_1)), (.v (.int .i64 x0_2))])] []).trans (c_c k kp (JJ k kp) (LL k kp) x0_0 x0_1 x0_2))
theorem f_eq (k kp : KT) (x0_0 x0_1 x0_2 : Int) : funW cfg Try.f45 [(.agg [(.v (.int .i64 x0_0)), (.v (.int .i64 x0_1)), (.v (.int .i64 x0_2))])] [] k kp = f x0_0 x0_1 x0_2 (fun y0 => k (.v (.string y0)) []) := by
  rw [f_def, c_raw]; simp only [j2000002_eq]; first | done | rfl
noncomputable def ent0 : Entry := fun args blks k _ => match args, blks with
  | [d0], [] => aAgg 3 d0 fun l => aCons l fun d0_0 l => aCons l fun d0_1 l => aCons l fun d0_2 l => aNil l (aInt IntKind.i64 d0_0 fun x0_0 => aInt IntKind.i64 d0_1 fun x0_1 => aInt IntKind.i64 d0_2 fun x0_2 => f x0_0 x0_1 x0_2 (fun y0 => k (.v (.string y0)) []))
  | _, _ => False
noncomputable def ent : Entry := fun args blks k kp => ent0 (convB [.no] args) blks k kp
theorem ok : EntOk Try.prog 0 0 45 ent := by
  refine EntOk.convB (EntOk.of (funW_ok (cfg := cfg) (tyOk_of rfl rfl tyL_ok) (eqOk_of (P := Try.prog) rfl rfl (by kernel_rfl)) mixed_ok (tab_ok ?_) Try.func45 (by rfl) (by rfl)) ?_) _
  · intro p hp
    simp only [List.mem_cons, List.not_mem_nil, or_false] at hp
    rcases hp with rfl | rfl
    · exact N49.ok
    · exact N43.ok
  · intro args blks k kp h k' kp'
    match args, blks, h with
    | [d0], [], h =>
    dsimp only [ent0] at h
    have h9 := aAgg_elim h; clear h; obtain ⟨_, rfl, h⟩ := h9
    have h9 := aCons_elim h; clear h; obtain ⟨d0_0, _, rfl, h⟩ := h9
    have h9 := aCons_elim h; clear h; obtain ⟨d0_1, _, rfl, h⟩ := h9
    have h9 := aCons_elim h; clear h; obtain ⟨d0_2, _, rfl, h⟩ := h9
    have h9 := aNil_elim h; clear h; obtain ⟨rfl, h⟩ := h9
    have h9 := aInt_elim h; clear h; obtain ⟨x0_0, rfl, h⟩ := h9
    have h9 := aInt_elim h; clear h; obtain ⟨x0_1, rfl, h⟩ := h9
    have h9 := aInt_elim h; clear h; obtain ⟨x0_2, rfl, h⟩ := h9
    exact (f_eq k' kp' x0_0 x0_1 x0_2).symm
end N45
end Go.Proofs.Yh

namespace Go.Proofs.Yh
open Go Go.Aw Go.Proofs
set_option maxRecDepth 100000
set_option maxHeartbeats 4000000
namespace N46
noncomputable def cfg : Cfg := { P := Try.prog, ty := tys, E := tab [(34, N34.ent)], atSeq := tab [(2000004, ⟨[(1, .keep), (17, .keep)]⟩), (5, ⟨[(1, .keep)]⟩), (2000006, ⟨[(1, .keep), (29, .keep)]⟩), (7, ⟨[]⟩)], atLoop := tab [], outs := [], eqT := tab [], bT := tab [], fzB := [1] }
noncomputable def body : Code := bodyOf Try.f46
def j2000004 (j5 : Int → Int → Int → Prop) (x1_0 x1_1 x1_2 : Int) (x17 : Bool) (k : BA → Prop) : Prop :=
  (br x17 (N34.f x1_2 (fun (y0_1 : BA) => ((((ByteArray.mk #[36, 103])).size + (y0_1).size ≤ 9223372036854775807) ∧ (k ((ByteArray.mk #[36, 103]) ++ y0_1))))) (j5 x1_0 x1_1 x1_2))
def j5 (j2000006 : Int → Int → Int → Bool → Prop) (x1_0 x1_1 x1_2 : Int) (k : BA → Prop) : Prop :=
  (br (x1_0 == (2 : Int)) (j2000006 x1_0 x1_1 x1_2 (x1_1 == (1 : Int))) (j2000006 x1_0 x1_1 x1_2 false))
def j2000006 (j7 : Prop) (x1_0 x1_1 x1_2 : Int) (x29 : Bool) (k : BA → Prop) : Prop :=
  (br x29 (N34.f x1_2 (fun (y0_2 : BA) => ((((ByteArray.mk #[36, 120])).size + (y0_2).size ≤ 9223372036854775807) ∧ (k ((ByteArray.mk #[36, 120]) ++ y0_2))))) (j7))
def j7 (k : BA → Prop) : Prop :=
  (k (ByteArray.mk #[]))
def c (j2000004 : Int → Int → Int → Bool → Prop) (x0_0 x0_1 x0_2 : Int) (k : BA → Prop) : Prop :=
  (br (x0_0 == (3 : Int)) (N34.f x0_2 (fun (y0_0 : BA) => ((((ByteArray.mk #[35])).size + (y0_0).size ≤ 9223372036854775807) ∧ (k ((ByteArray.mk #[35]) ++ y0_0))))) (br (x0_0 == (2 : Int)) (j2000004 x0_0 x0_1 x0_2 (x0_1 == (0 : Int))) (j2000004 x0_0 x0_1 x0_2 false)))
def j7' (k : BA → Prop) : Prop := j7 k
def j2000006' (x1_0 x1_1 x1_2 : Int) (x29 : Bool) (k : BA → Prop) : Prop := j2000006 (j7' k) x1_0 x1_1 x1_2 x29 k
def j5' (x1_0 x1_1 x1_2 : Int) (k : BA → Prop) : Prop := j5 (fun x1_0 x1_1 x1_2 x29 => j2000006' x1_0 x1_1 x1_2 x29 k) x1_0 x1_1 x1_2 k
def j2000004' (x1_0 x1_1 x1_2 : Int) (x17 : Bool) (k : BA → Prop) : Prop := j2000004 (fun x1_0 x1_1 x1_2 => j5' x1_0 x1_1 x1_2 k) x1_0 x1_1 x1_2 x17 k
def f0 (x0_0 x0_1 x0_2 : Int) (k : BA → Prop) : Prop := c (fun x1_0 x1_1 x1_2 x17 => j2000004' x1_0 x1_1 x1_2 x17 k) x0_0 x0_1 x0_2 k
theorem f_ex : ∃ g, g = f0 := ⟨_, rfl⟩
noncomputable def f := Classical.choose f_ex
theorem f_def : f = f0 := Classical.choose_spec f_ex
def m2000004 (x1_0 x1_1 x1_2 : Int) (x17 : Bool) : St := { tmps := mkT 34 0 [(1, (.fp [(.v (.int .i64 x1_0)), (.v (.int .i64 x1_1)), (.v (.int .i64 x1_2))])), (17, (.v (.bool x17)))], hp := [], m := 0 }
def m5 (x1_0 x1_1 x1_2 : Int) : St := { tmps := mkT 34 0 [(1, (.fp [(.v (.int .i64 x1_0)), (.v (.int .i64 x1_1)), (.v (.int .i64 x1_2))]))], hp := [], m := 0 }
def m2000006 (x1_0 x1_1 x1_2 : Int) (x29 : Bool) : St := { tmps := mkT 34 0 [(1, (.fp [(.v (.int .i64 x1_0)), (.v (.int .i64 x1_1)), (.v (.int .i64 x1_2))])), (29, (.v (.bool x29)))], hp := [], m := 0 }
def m7 : St := { tmps := mkT 34 0 [], hp := [], m := 0 }
noncomputable def X2000004 (k kp : KT) : St → Prop := atP cfg (pick none' []) [1, 1, 0, 1] body (topK cfg Try.f46 k kp)
noncomputable def X5 (k kp : KT) : St → Prop := atP cfg (pick none' []) [1, 1, 1] body (topK cfg Try.f46 k kp)
noncomputable def X2000006 (k kp : KT) : St → Prop := atP cfg (pick none' []) [1, 1, 1, 0, 1] body (topK cfg Try.f46 k kp)
noncomputable def X7 (k kp : KT) : St → Prop := atP cfg (pick none' []) [1, 1, 1, 1] body (topK cfg Try.f46 k kp)
noncomputable def JJ (k kp : KT) : Nat → St → Prop := pick none' [(2000004, X2000004 k kp), (5, X5 k kp), (2000006, X2000006 k kp), (7, X7 k kp)]
noncomputable def LL (k kp : KT) : Nat → St → Prop := pick none' []
theorem j7_c (k kp : KT) (J L : Nat → St → Prop) : runC cfg 7 J L (pick none' []) [1, 1, 1, 1] body (topK cfg Try.f46 k kp) (m7) = j7 (fun y0 => k (.v (.string y0)) []) := by kernel_rfl
theorem j7_ag (k kp : KT) : agPL cfg 7 (JJ k kp) (LL k kp) [1, 1, 1, 1] body = agPR cfg 7 (pick none' []) [1, 1, 1, 1] body (topK cfg Try.f46 k kp) := by kernel_rfl
theorem j7_raw (k kp : KT) : X7 k kp (m7) = j7 (fun y0 => k (.v (.string y0)) []) :=
  Eq.mp (by kernel_rfl) ((atP_run (j7_ag k kp) (m7)).trans (j7_c k kp (JJ k kp) (LL k kp)))
theorem j7_eq (k kp : KT) : X7 k kp (m7) = j7' (fun y0 => k (.v (.string y0)) []) := by
  rw [j7_raw]; rfl
theorem j2000006_c (k kp : KT) (J L : Nat → St → Prop) (x1_0 x1_1 x1_2 : Int) (x29 : Bool) : runC cfg 2000006 J L (pick none' []) [1, 1, 1, 0, 1] body (topK cfg Try.f46 k kp) (m2000006 x1_0 x1_1 x1_2 x29) = j2000006 (J 7 (m7)) x1_0 x1_1 x1_2 x29 (fun y0 => k (.v (.string y0)) []) := by kernel_rfl
theorem j2000006_ag (k kp : KT) : agPL cfg 2000006 (JJ k kp) (LL k kp) [1, 1, 1, 0, 1] body = agPR cfg 2000006 (pick none' []) [1, 1, 1, 0, 1] body (topK cfg Try.f46 k kp) := by kernel_rfl
theorem j2000006_raw (k kp : KT) (x1_0 x1_1 x1_2 : Int) (x29 : Bool) : X2000006 k kp (m2000006 x1_0 x1_1 x1_2 x29) = j2000006 (X7 k kp (m7)) x1_0 x1_1 x1_2 x29 (fun y0 => k (.v (.string y0)) []) :=
  Eq.mp (by kernel_rfl) ((atP_run (j2000006_ag k kp) (m2000006 x1_0 x1_1 x1_2 x29)).trans (j2000006_c k kp (JJ k kp) (LL k kp) x1_0 x1_1 x1_2 x29))
theorem j2000006_eq (k kp : KT) (x1_0 x1_1 x1_2 : Int) (x29 : Bool) : X2000006 k kp (m2000006 x1_0 x1_1 x1_2 x29) = j2000006' x1_0 x1_1 x1_2 x29 (fun y0 => k (.v (.string y0)) []) := by
  rw [j2000006_raw]; simp only [j7_eq]; first | done | rfl
theorem j5_c (k kp : KT) (J L : Nat → St → Prop) (x1_0 x1_1 x1_2 : Int) : runC cfg 5 J L (pick none' []) [1, 1, 1] body (topK cfg Try.f46 k kp) (m5 x1_0 x1_1 x1_2) = j5 (fun x1_0 x1_1 x1_2 x29 => J 2000006 (m2000006 x1_0 x1_1 x1_2 x29)) x1_0 x1_1 x1_2 (fun y0 => k (.v (.string y0)) []) := by kernel_rfl
theorem j5_ag (k kp : KT) : agPL cfg 5 (JJ k kp) (LL k kp) [1, 1, 1] body = agPR cfg 5 (pick none' []) [1, 1, 1] body (topK cfg Try.f46 k kp) := by kernel_rfl
theorem j5_raw (k kp : KT) (x1_0 x1_1 x1_2 : Int) : X5 k kp (m5 x1_0 x1_1 x1_2) = j5 (fun x1_0 x1_1 x1_2 x29 => X2000006 k kp (m2000006 x1_0 x1_1 x1_2 x29)) x1_0 x1_1 x1_2 (fun y0 => k (.v (.string y0)) []) :=
  Eq.mp (by kernel_rfl) ((atP_run (j5_ag k kp) (m5 x1_0 x1_1 x1_2)).trans (j5_c k kp (JJ k kp) (LL k kp) x1_0 x1_1 x1_2))
theorem j5_eq (k kp : KT) (x1_0 x1_1 x1_2 : Int) : X5 k kp (m5 x1_0 x1_1 x1_2) = j5' x1_0 x1_1 x1_2 (fun y0 => k (.v (.string y0)) []) := by
  rw [j5_raw]; simp only [j2000006_eq]; first | done | rfl
theorem j2000004_c (k kp : KT) (J L : Nat → St → Prop) (x1_0 x1_1 x1_2 : Int) (x17 : Bool) : runC cfg 2000004 J L (pick none' []) [1, 1, 0, 1] body (topK cfg Try.f46 k kp) (m2000004 x1_0 x1_1 x1_2 x17) = j2000004 (fun x1_0 x1_1 x1_2 => J 5 (m5 x1_0 x1_1 x1_2)) x1_0 x1_1 x1_2 x17 (fun y0 => k (.v (.string y0)) []) := by kernel_rfl
theorem j2000004_ag (k kp : KT) : agPL cfg 2000004 (JJ k kp) (LL k kp) [1, 1, 0, 1] body = agPR cfg 2000004 (pick none' []) [1, 1, 0, 1] body (topK cfg Try.f46 k kp) := by kernel_rfl
theorem j2000004_raw (k kp : KT) (x1_0 x1_1 x1_2 : Int) (x17 : Bool) : X2000004 k kp (m2000004 x1_0 x1_1 x1_2 x17) = j2000004 (fun x1_0 x1_1 x1_2 => X5 k kp (m5 x1_0 x1_1 x1_2)) x1_0 x1_1 x1_2 x17 (fun y0 => k (.v (.string y0)) []) :=
  Eq.mp (by kernel_rfl) ((atP_run (j2000004_ag k kp) (m2000004 x1_0 x1_1 x1_2 x17)).trans (j2000004_c k kp (JJ k kp) (LL k kp) x1_0 x1_1 x1_2 x17))
theorem j2000004_eq (k kp : KT) (x1_0 x1_1 x1_2 : Int) (x17 : Bool) : X2000004 k kp (m2000004 x1_0 x1_1 x1_2 x17) = j2000004' x1_0 x1_1 x1_2 x17 (fun y0 => k (.v (.string y0)) []) := by
  rw [j2000004_raw]; simp only [j5_eq]; first | done | rfl
theorem c_c (k kp : KT) (J L : Nat → St → Prop) (x0_0 x0_1 x0_2 : Int) : runC cfg 1000001 J L none'' [] body (topK cfg Try.f46 k kp) (st0 Try.f46 [(.agg [(.v (.int .i64 x0_0)), (.v (.int .i64 x0_1)), (.v (.int .i64 x0_2))])] []) = c (fun x1_0 x1_1 x1_2 x17 => J 2000004 (m2000004 x1_0 x1_1 x1_2 x17)) x0_0 x0_1 x0_2 (fun y0 => k (.v (.string y0)) []) := by kernel_rfl
theorem c_ag (k kp : KT) : agPL cfg 1000001 (JJ k kp) (LL k kp) [] body = agPR cfg 1000001 none'' [] body (topK cfg Try.f46 k kp) := by kernel_rfl
theorem body_is : Try.f46.body = some body := by kernel_rfl
theorem c_raw (k kp : KT) (x0_0 x0_1 x0_2 : Int) : funW cfg Try.f46 [(.agg [(.v (.int .i64 x0_0)), (.v (.int .i64 x0_1)), (.v (.int .i64 x0_2))])] [] k kp = c (fun x1_0 x1_1 x1_2 x17 => X2000004 k kp (m2000004 x1_0 x1_1 x1_2 x17)) x0_0 x0_1 x0_2 (fun y0 => k (.v (.string y0)) []) :=
  Eq.mp (by kernel_rfl) ((funW_run (AG := none'') body_is (c_ag k kp) [(.agg [(.v (.int .i64 x0_0)), (.v (.int .i64 x0_1)), (.v (.int .i64 x0_2))])] []).trans (c_c k kp (JJ k kp) (LL k kp) x0_0 x0_1 x0_2))
theorem f_eq (k kp : KT) (x0_0 x0_1 x0_2 : Int) : funW cfg Try.f46 [(.agg [(.v (.int .i64 x0_0)), (.v (.int .i64 x0_1)), (.v (.int .i64 x0_2))])] [] k kp = f x0_0 x0_1 x0_2 (fun y0 => k (.v (.string y0)) []) := by
  rw [f_def, c_raw]; simp only [j2000004_eq]; first | done | rfl
noncomputable def ent0 : Entry := fun args blks k _ => match args, blks with
  | [d0], [] => aAgg 3 d0 fun l => aCons l fun d0_0 l => aCons l fun d0_1 l => aCons l fun d0_2 l => aNil l (aInt IntKind.i64 d0_0 fun x0_0 => aInt IntKind.i64 d0_1 fun x0_1 => aInt IntKind.i64 d0_2 fun x0_2 => f x0_0 x0_1 x0_2 (fun y0 => k (.v (.string y0)) []))
  | _, _ => False
noncomputable def ent : Entry := fun args blks k kp => ent0 (convB [.no] args) blks k kp
theorem ok : EntOk Try.prog 0 0 46 ent := by
  refine EntOk.convB (EntOk.of (funW_ok (cfg := cfg) (tyOk_of rfl rfl tyL_ok) (eqOk_of (P := Try.prog) rfl rfl (by kernel_rfl)) mixed_ok (tab_ok ?_) Try.func46 (by rfl) (by rfl)) ?_) _
  · intro p hp
    simp only [List.mem_cons, List.not_mem_nil, or_false] at hp
    rcases hp with rfl
    · exact N34.ok
  · intro args blks k kp h k' kp'
    match args, blks, h with
    | [d0], [], h =>
    dsimp only [ent0] at h
    have h9 := aAgg_elim h; clear h; obtain ⟨_, rfl, h⟩ := h9
    have h9 := aCons_elim h; clear h; obtain ⟨d0_0, _, rfl, h⟩ := h9
    have h9 := aCons_elim h; clear h; obtain ⟨d0_1, _, rfl, h⟩ := h9
    have h9 := aCons_elim h; clear h; obtain ⟨d0_2, _, rfl, h⟩ := h9
    have h9 := aNil_elim h; clear h; obtain ⟨rfl, h⟩ := h9
    have h9 := aInt_elim h; clear h; obtain ⟨x0_0, rfl, h⟩ := h9
    have h9 := aInt_elim h; clear h; obtain ⟨x0_1, rfl, h⟩ := h9
    have h9 := aInt_elim h; clear h; obtain ⟨x0_2, rfl, h⟩ := h9
    exact (f_eq k' kp' x0_0 x0_1 x0_2).symm
end N46
end Go.Proofs.Yh

namespace Go.Proofs.Yh
open Go Go.Aw Go.Proofs
set_option maxRecDepth 100000
set_option maxHeartbeats 4000000
namespace N50
noncomputable def cfg : Cfg := { P := Try.prog, ty := tys, E := tab [], atSeq := tab [(11, ⟨[(3, .keep)]⟩), (10, ⟨[(3, .keep), (9, .keep), (10, .keep)]⟩)], atLoop := tab [(3, ⟨[(3, .own 59 (Ty.pair Zy2 (Ty.pair Zy2 Zy2))), (9, .keep), (10, .keep)]⟩), (6, ⟨[(3, .own 59 (Ty.pair Zy2 (Ty.pair Zy2 Zy2))), (4, .keep), (9, .keep), (10, .keep), (14, .keep), (15, .keep), (16, .keep)]⟩)], outs := [], eqT := tab [], bT := tab [], fzB := [1] }
noncomputable def body : Code := bodyOf Try.f50
def l3 (l6 : Int → LI → LI → Int → LI → Int → Int → (List (Int × (Int × Int))) → Prop) (j11 : (List (Int × (Int × Int))) → Prop) (x9_0 x9_1 : LI) (x10 : Int) (b0 : (List (Int × (Int × Int)))) (k : (List (Int × (Int × Int))) → Prop) : Prop :=
  (br (decide (x10 < (2 : Int))) (br (decide (x10 = ((0 : Nat) : Int))) (l6 x10 x9_0 x9_1 x10 x9_0 ((((x9_0).length : Nat) : Int)) (0 : Int) b0) (br (decide (x10 = ((1 : Nat) : Int))) (l6 x10 x9_0 x9_1 x10 x9_1 ((((x9_1).length : Nat) : Int)) (0 : Int) b0) False)) (j11 b0))
def l6 (j10 : LI → LI → Int → (List (Int × (Int × Int))) → Prop) (ag6 : Int → (List (Int × (Int × Int))) → Prop) (x4 : Int) (x9_0 x9_1 : LI) (x10 : Int) (x14 : LI) (x15 x16 : Int) (b0 : (List (Int × (Int × Int)))) (k : (List (Int × (Int × Int))) → Prop) : Prop :=
  (br (decide (x16 < x15)) ((inB 0 x16 ((((x14).length : Nat) : Int) - 1)) ∧ ((room ((b0).length + (([((2 : Int), (x4, (x14.getD (Int.toNat x16) (0))))] : List (Int × (Int × Int)))).length) 24) ∧ (ag6 (IntKind.i64.wrap (x16 + (1 : Int))) (b0 ++ ([((2 : Int), (x4, (x14.getD (Int.toNat x16) (0))))] : List (Int × (Int × Int))))))) (j10 x9_0 x9_1 x10 b0))
def j11 (b0 : (List (Int × (Int × Int)))) (k : (List (Int × (Int × Int))) → Prop) : Prop :=
  (k b0)
def j10 (ag3 : Int → (List (Int × (Int × Int))) → Prop) (x9_0 x9_1 : LI) (x10 : Int) (b0 : (List (Int × (Int × Int)))) (k : (List (Int × (Int × Int))) → Prop) : Prop :=
  (ag3 (IntKind.i64.wrap (x10 + (1 : Int))) b0)
def c (l3 : LI → LI → Int → (List (Int × (Int × Int))) → Prop) (x0_0_0 x0_0_1 : Int) (x0_1_0 x0_1_1 : LI) (x0_2 : Int) (k : (List (Int × (Int × Int))) → Prop) : Prop :=
  (l3 x0_1_0 x0_1_1 (0 : Int) ([] : List (Int × (Int × Int))))
def j11' (b0 : (List (Int × (Int × Int)))) (k : (List (Int × (Int × Int))) → Prop) : Prop := j11 b0 k
def j10' (ag3 : Int → (List (Int × (Int × Int))) → Prop) (x9_0 x9_1 : LI) (x10 : Int) (b0 : (List (Int × (Int × Int)))) (k : (List (Int × (Int × Int))) → Prop) : Prop := j10 ag3 x9_0 x9_1 x10 b0 k
def l6' (ag3 : Int → (List (Int × (Int × Int))) → Prop) (x4 : Int) (x9_0 x9_1 : LI) (x10 : Int) (x14 : LI) (x15 x16 : Int) (b0 : (List (Int × (Int × Int)))) (k : (List (Int × (Int × Int))) → Prop) : Prop := ∃ n, loopS (fun (ag : (Int × (List (Int × (Int × Int)))) → Prop) (s : Int × (List (Int × (Int × Int)))) => l6 (fun x9_0 x9_1 x10 b0 => j10' ag3 x9_0 x9_1 x10 b0 k) (fun x16 b0 => ag (x16, b0)) x4 x9_0 x9_1 x10 x14 x15 s.1 s.2 k) n (x16, b0)
def l3' (x9_0 x9_1 : LI) (x10 : Int) (b0 : (List (Int × (Int × Int)))) (k : (List (Int × (Int × Int))) → Prop) : Prop := ∃ n, loopS (fun (ag : (Int × (List (Int × (Int × Int)))) → Prop) (s : Int × (List (Int × (Int × Int)))) => l3 (fun x4 x9_0 x9_1 x10 x14 x15 x16 b0 => l6' (fun x10 b0 => ag (x10, b0)) x4 x9_0 x9_1 x10 x14 x15 x16 b0 k) (fun b0 => j11' b0 k) x9_0 x9_1 s.1 s.2 k) n (x10, b0)
def f0 (x0_0_0 x0_0_1 : Int) (x0_1_0 x0_1_1 : LI) (x0_2 : Int) (k : (List (Int × (Int × Int))) → Prop) : Prop := c (fun x9_0 x9_1 x10 b0 => l3' x9_0 x9_1 x10 b0 k) x0_0_0 x0_0_1 x0_1_0 x0_1_1 x0_2 k
theorem f_ex : ∃ g, g = f0 := ⟨_, rfl⟩
noncomputable def f := Classical.choose f_ex
theorem f_def : f = f0 := Classical.choose_spec f_ex
def mL3 (x9_0 x9_1 : LI) (x10 : Int) (b0 : (List (Int × (Int × Int)))) : St := { tmps := mkT 29 0 [(3, (.sl 0 0)), (9, (.agg [(.fz Zy2 x9_0), (.fz Zy2 x9_1)])), (10, (.v (.int .i64 x10)))], hp := [(.lst 59 (Ty.pair Zy2 (Ty.pair Zy2 Zy2)) b0 0 false)], m := 0 }
def mL6 (x4 : Int) (x9_0 x9_1 : LI) (x10 : Int) (x14 : LI) (x15 x16 : Int) (b0 : (List (Int × (Int × Int)))) : St := { tmps := mkT 29 0 [(3, (.sl 0 0)), (4, (.v (.int .i64 x4))), (9, (.agg [(.fz Zy2 x9_0), (.fz Zy2 x9_1)])), (10, (.v (.int .i64 x10))), (14, (.fz Zy2 x14)), (15, (.v (.int .i64 x15))), (16, (.v (.int .i64 x16)))], hp := [(.lst 59 (Ty.pair Zy2 (Ty.pair Zy2 Zy2)) b0 0 false)], m := 0 }
def m11 (b0 : (List (Int × (Int × Int)))) : St := { tmps := mkT 29 0 [(3, (.sl 0 0))], hp := [(.lst 59 (Ty.pair Zy2 (Ty.pair Zy2 Zy2)) b0 0 false)], m := 0 }
def m10 (x9_0 x9_1 : LI) (x10 : Int) (b0 : (List (Int × (Int × Int)))) : St := { tmps := mkT 29 0 [(3, (.sl 0 0)), (9, (.agg [(.fz Zy2 x9_0), (.fz Zy2 x9_1)])), (10, (.v (.int .i64 x10)))], hp := [(.lst 59 (Ty.pair Zy2 (Ty.pair Zy2 Zy2)) b0 0 false)], m := 0 }
noncomputable def YL3 (k kp : KT) : (St → Prop) → St → Prop := loopB cfg (sub [1, 1, 0, 1, 0, 0] body) (contK cfg (pick none' []) [1, 1, 0, 1, 0] body (topK cfg Try.f50 k kp))
noncomputable def XL3 (k kp : KT) : St → Prop := fun st => ∃ n, loopN (YL3 k kp) n st
noncomputable def YL6 (k kp : KT) (ag3 : St → Prop) : (St → Prop) → St → Prop := loopB cfg (sub [1, 1, 0, 1, 0, 0, 1, 1, 0, 0, 1, 1, 0, 0] body) (contK cfg (pick none' [(3, ag3)]) [1, 1, 0, 1, 0, 0, 1, 1, 0, 0, 1, 1, 0] body (topK cfg Try.f50 k kp))
noncomputable def XL6 (k kp : KT) (ag3 : St → Prop) : St → Prop := fun st => ∃ n, loopN (YL6 k kp ag3) n st
noncomputable def X11 (k kp : KT) : St → Prop := atP cfg (pick none' []) [1, 1, 1] body (topK cfg Try.f50 k kp)
noncomputable def X10 (k kp : KT) (ag3 : St → Prop) : St → Prop := atP cfg (pick none' [(3, ag3)]) [1, 1, 0, 1, 0, 0, 1, 1, 1] body (topK cfg Try.f50 k kp)
noncomputable def JJ_3 (k kp : KT) (ag3 : St → Prop) : Nat → St → Prop := pick none' [(11, X11 k kp), (10, X10 k kp ag3)]
noncomputable def LL_3 (k kp : KT) (ag3 : St → Prop) : Nat → St → Prop := pick none' [(3, XL3 k kp), (6, XL6 k kp ag3)]
noncomputable def JJ_3_6 (k kp : KT) (ag3 : St → Prop) (ag6 : St → Prop) : Nat → St → Prop := pick none' [(11, X11 k kp), (10, X10 k kp ag3)]
noncomputable def LL_3_6 (k kp : KT) (ag3 : St → Prop) (ag6 : St → Prop) : Nat → St → Prop := pick none' [(3, XL3 k kp), (6, XL6 k kp ag3)]
noncomputable def JJ (k kp : KT) : Nat → St → Prop := pick none' [(11, X11 k kp)]
noncomputable def LL (k kp : KT) : Nat → St → Prop := pick none' [(3, XL3 k kp)]
theorem j11_c (k kp : KT) (J L : Nat → St → Prop) (b0 : (List (Int × (Int × Int)))) : runC cfg 11 J L (pick none' []) [1, 1, 1] body (topK cfg Try.f50 k kp) (m11 b0) = j11 b0 (fun z0 => k (.sl 0 0) [(.lst 59 (Ty.pair Zy2 (Ty.pair Zy2 Zy2)) z0 0 false)]) := by kernel_rfl
theorem j11_ag (k kp : KT) : agPL cfg 11 (JJ k kp) (LL k kp) [1, 1, 1] body = agPR cfg 11 (pick none' []) [1, 1, 1] body (topK cfg Try.f50 k kp) := by kernel_rfl
theorem j11_raw (k kp : KT) (b0 : (List (Int × (Int × Int)))) : X11 k kp (m11 b0) = j11 b0 (fun z0 => k (.sl 0 0) [(.lst 59 (Ty.pair Zy2 (Ty.pair Zy2 Zy2)) z0 0 false)]) :=
  Eq.mp (by kernel_rfl) ((atP_run (j11_ag k kp) (m11 b0)).trans (j11_c k kp (JJ k kp) (LL k kp) b0))
theorem j11_eq (k kp : KT) (b0 : (List (Int × (Int × Int)))) : X11 k kp (m11 b0) = j11' b0 (fun z0 => k (.sl 0 0) [(.lst 59 (Ty.pair Zy2 (Ty.pair Zy2 Zy2)) z0 0 false)]) := by
  rw [j11_raw]; rfl
theorem j10_c (k kp : KT) (J L : Nat → St → Prop) (ag3 : St → Prop) (x9_0 x9_1 : LI) (x10 : Int) (b0 : (List (Int × (Int × Int)))) : runC cfg 10 J L (pick none' [(3, ag3)]) [1, 1, 0, 1, 0, 0, 1, 1, 1] body (topK cfg Try.f50 k kp) (m10 x9_0 x9_1 x10 b0) = j10 (fun x10 b0 => ag3 (mL3 x9_0 x9_1 x10 b0)) x9_0 x9_1 x10 b0 (fun z0 => k (.sl 0 0) [(.lst 59 (Ty.pair Zy2 (Ty.pair Zy2 Zy2)) z0 0 false)]) := by kernel_rfl
theorem j10_ag (k kp : KT) (ag3 : St → Prop) : agPL cfg 10 (JJ_3 k kp ag3) (LL_3 k kp ag3) [1, 1, 0, 1, 0, 0, 1, 1, 1] body = agPR cfg 10 (pick none' [(3, ag3)]) [1, 1, 0, 1, 0, 0, 1, 1, 1] body (topK cfg Try.f50 k kp) := by kernel_rfl
theorem j10_raw (k kp : KT) (ag3 : St → Prop) (x9_0 x9_1 : LI) (x10 : Int) (b0 : (List (Int × (Int × Int)))) : X10 k kp ag3 (m10 x9_0 x9_1 x10 b0) = j10 (fun x10 b0 => ag3 (mL3 x9_0 x9_1 x10 b0)) x9_0 x9_1 x10 b0 (fun z0 => k (.sl 0 0) [(.lst 59 (Ty.pair Zy2 (Ty.pair Zy2 Zy2)) z0 0 false)]) :=
  Eq.mp (by kernel_rfl) ((atP_run (j10_ag k kp ag3) (m10 x9_0 x9_1 x10 b0)).trans (j10_c k kp (JJ_3 k kp ag3) (LL_3 k kp ag3) ag3 x9_0 x9_1 x10 b0))
theorem j10_eq (k kp : KT) (ag3 : St → Prop) (x9_0 x9_1 : LI) (x10 : Int) (b0 : (List (Int × (Int × Int)))) : X10 k kp ag3 (m10 x9_0 x9_1 x10 b0) = j10' (fun x10 b0 => ag3 (mL3 x9_0 x9_1 x10 b0)) x9_0 x9_1 x10 b0 (fun z0 => k (.sl 0 0) [(.lst 59 (Ty.pair Zy2 (Ty.pair Zy2 Zy2)) z0 0 false)]) := by
  rw [j10_raw]; rfl
theorem l6_c (k kp : KT) (J L : Nat → St → Prop) (ag3 : St → Prop) (ag6 : St → Prop) (x4 : Int) (x9_0 x9_1 : LI) (x10 : Int) (x14 : LI) (x15 x16 : Int) (b0 : (List (Int × (Int × Int)))) : runC cfg 1000001 J L (pick none' [(3, ag3), (6, ag6)]) [1, 1, 0, 1, 0, 0, 1, 1, 0, 0, 1, 1, 0, 0] body (topK cfg Try.f50 k kp) (mL6 x4 x9_0 x9_1 x10 x14 x15 x16 b0) = l6 (fun x9_0 x9_1 x10 b0 => J 10 (m10 x9_0 x9_1 x10 b0)) (fun x16 b0 => ag6 (mL6 x4 x9_0 x9_1 x10 x14 x15 x16 b0)) x4 x9_0 x9_1 x10 x14 x15 x16 b0 (fun z0 => k (.sl 0 0) [(.lst 59 (Ty.pair Zy2 (Ty.pair Zy2 Zy2)) z0 0 false)]) := by kernel_rfl
theorem l6_ag (k kp : KT) (ag3 : St → Prop) (ag6 : St → Prop) : agPL cfg 1000001 (JJ_3_6 k kp ag3 ag6) (LL_3_6 k kp ag3 ag6) [1, 1, 0, 1, 0, 0, 1, 1, 0, 0, 1, 1, 0, 0] body = agPR cfg 1000001 (pick none' [(3, ag3), (6, ag6)]) [1, 1, 0, 1, 0, 0, 1, 1, 0, 0, 1, 1, 0, 0] body (topK cfg Try.f50 k kp) := by kernel_rfl
theorem l6_raw (k kp : KT) (ag3 : St → Prop) (ag6 : St → Prop) (x4 : Int) (x9_0 x9_1 : LI) (x10 : Int) (x14 : LI) (x15 x16 : Int) (b0 : (List (Int × (Int × Int)))) : YL6 k kp ag3 ag6 (mL6 x4 x9_0 x9_1 x10 x14 x15 x16 b0) = l6 (fun x9_0 x9_1 x10 b0 => X10 k kp ag3 (m10 x9_0 x9_1 x10 b0)) (fun x16 b0 => ag6 (mL6 x4 x9_0 x9_1 x10 x14 x15 x16 b0)) x4 x9_0 x9_1 x10 x14 x15 x16 b0 (fun z0 => k (.sl 0 0) [(.lst 59 (Ty.pair Zy2 (Ty.pair Zy2 Zy2)) z0 0 false)]) :=
  Eq.mp (by kernel_rfl) ((atP_run (l6_ag k kp ag3 ag6) (mL6 x4 x9_0 x9_1 x10 x14 x15 x16 b0)).trans (l6_c k kp (JJ_3_6 k kp ag3 ag6) (LL_3_6 k kp ag3 ag6) ag3 ag6 x4 x9_0 x9_1 x10 x14 x15 x16 b0))
theorem l6_eq (k kp : KT) (ag3 : St → Prop) (x4 : Int) (x9_0 x9_1 : LI) (x10 : Int) (x14 : LI) (x15 x16 : Int) (b0 : (List (Int × (Int × Int)))) : XL6 k kp ag3 (mL6 x4 x9_0 x9_1 x10 x14 x15 x16 b0) = l6' (fun x10 b0 => ag3 (mL3 x9_0 x9_1 x10 b0)) x4 x9_0 x9_1 x10 x14 x15 x16 b0 (fun z0 => k (.sl 0 0) [(.lst 59 (Ty.pair Zy2 (Ty.pair Zy2 Zy2)) z0 0 false)]) :=
  loop_eq (mk := fun (s : Int × (List (Int × (Int × Int)))) => mL6 x4 x9_0 x9_1 x10 x14 x15 s.1 s.2) (fun again s => by rw [l6_raw k kp ag3 again x4 x9_0 x9_1 x10 x14 x15 s.1 s.2]; simp only [j10_eq]; first | done | rfl) (x16, b0)
theorem l3_c (k kp : KT) (J L : Nat → St → Prop) (ag3 : St → Prop) (x9_0 x9_1 : LI) (x10 : Int) (b0 : (List (Int × (Int × Int)))) : runC cfg 1000001 J L (pick none' [(3, ag3)]) [1, 1, 0, 1, 0, 0] body (topK cfg Try.f50 k kp) (mL3 x9_0 x9_1 x10 b0) = l3 (fun x4 x9_0 x9_1 x10 x14 x15 x16 b0 => L 6 (mL6 x4 x9_0 x9_1 x10 x14 x15 x16 b0)) (fun b0 => J 11 (m11 b0)) x9_0 x9_1 x10 b0 (fun z0 => k (.sl 0 0) [(.lst 59 (Ty.pair Zy2 (Ty.pair Zy2 Zy2)) z0 0 false)]) := by kernel_rfl
theorem l3_ag (k kp : KT) (ag3 : St → Prop) : agPL cfg 1000001 (JJ_3 k kp ag3) (LL_3 k kp ag3) [1, 1, 0, 1, 0, 0] body = agPR cfg 1000001 (pick none' [(3, ag3)]) [1, 1, 0, 1, 0, 0] body (topK cfg Try.f50 k kp) := by kernel_rfl
theorem l3_raw (k kp : KT) (ag3 : St → Prop) (x9_0 x9_1 : LI) (x10 : Int) (b0 : (List (Int × (Int × Int)))) : YL3 k kp ag3 (mL3 x9_0 x9_1 x10 b0) = l3 (fun x4 x9_0 x9_1 x10 x14 x15 x16 b0 => XL6 k kp ag3 (mL6 x4 x9_0 x9_1 x10 x14 x15 x16 b0)) (fun b0 => X11 k kp (m11 b0)) x9_0 x9_1 x10 b0 (fun z0 => k (.sl 0 0) [(.lst 59 (Ty.pair Zy2 (Ty.pair Zy2 Zy2)) z0 0 false)]) :=
  Eq.mp (by kernel_rfl) ((atP_run (l3_ag k kp ag3) (mL3 x9_0 x9_1 x10 b0)).trans (l3_c k kp (JJ_3 k kp ag3) (LL_3 k kp ag3) ag3 x9_0 x9_1 x10 b0))
theorem l3_eq (k kp : KT) (x9_0 x9_1 : LI) (x10 : Int) (b0 : (List (Int × (Int × Int)))) : XL3 k kp (mL3 x9_0 x9_1 x10 b0) = l3' x9_0 x9_1 x10 b0 (fun z0 => k (.sl 0 0) [(.lst 59 (Ty.pair Zy2 (Ty.pair Zy2 Zy2)) z0 0 false)]) :=
  loop_eq (mk := fun (s : Int × (List (Int × (Int × Int)))) => mL3 x9_0 x9_1 s.1 s.2) (fun again s => by rw [l3_raw k kp again x9_0 x9_1 s.1 s.2]; simp only [l6_eq, j11_eq]; first | done | rfl) (x10, b0)
theorem c_c (k kp : KT) (J L : Nat → St → Prop) (x0_0_0 x0_0_1 : Int) (x0_1_0 x0_1_1 : LI) (x0_2 : Int) : runC cfg 1000001 J L none'' [] body (topK cfg Try.f50 k kp) (st0 Try.f50 [(.agg [(.v (.int .i64 x0_0_0)), (.v (.int .i64 x0_0_1)), (.fz Zy2 x0_1_0), (.fz Zy2 x0_1_1), (.v (.int .i64 x0_2))])] []) = c (fun x9_0 x9_1 x10 b0 => L 3 (mL3 x9_0 x9_1 x10 b0)) x0_0_0 x0_0_1 x0_1_0 x0_1_1 x0_2 (fun z0 => k (.sl 0 0) [(.lst 59 (Ty.pair Zy2 (Ty.pair Zy2 Zy2)) z0 0 false)]) := by kernel_rfl
theorem c_ag (k kp : KT) : agPL cfg 1000001 (JJ k kp) (LL k kp) [] body = agPR cfg 1000001 none'' [] body (topK cfg Try.f50 k kp) := by kernel_rfl
theorem body_is : Try.f50.body = some body := by kernel_rfl
theorem c_raw (k kp : KT) (x0_0_0 x0_0_1 : Int) (x0_1_0 x0_1_1 : LI) (x0_2 : Int) : funW cfg Try.f50 [(.agg [(.v (.int .i64 x0_0_0)), (.v (.int .i64 x0_0_1)), (.fz Zy2 x0_1_0), (.fz Zy2 x0_1_1), (.v (.int .i64 x0_2))])] [] k kp = c (fun x9_0 x9_1 x10 b0 => XL3 k kp (mL3 x9_0 x9_1 x10 b0)) x0_0_0 x0_0_1 x0_1_0 x0_1_1 x0_2 (fun z0 => k (.sl 0 0) [(.lst 59 (Ty.pair Zy2 (Ty.pair Zy2 Zy2)) z0 0 false)]) :=
  Eq.mp (by kernel_rfl) ((funW_run (AG := none'') body_is (c_ag k kp) [(.agg [(.v (.int .i64 x0_0_0)), (.v (.int .i64 x0_0_1)), (.fz Zy2 x0_1_0), (.fz Zy2 x0_1_1), (.v (.int .i64 x0_2))])] []).trans (c_c k kp (JJ k kp) (LL k kp) x0_0_0 x0_0_1 x0_1_0 x0_1_1 x0_2))
theorem f_eq (k kp : KT) (x0_0_0 x0_0_1 : Int) (x0_1_0 x0_1_1 : LI) (x0_2 : Int) : funW cfg Try.f50 [(.agg [(.v (.int .i64 x0_0_0)), (.v (.int .i64 x0_0_1)), (.fz Zy2 x0_1_0), (.fz Zy2 x0_1_1), (.v (.int .i64 x0_2))])] [] k kp = f x0_0_0 x0_0_1 x0_1_0 x0_1_1 x0_2 (fun z0 => k (.sl 0 0) [(.lst 59 (Ty.pair Zy2 (Ty.pair Zy2 Zy2)) z0 0 false)]) := by
  rw [f_def, c_raw]; simp only [l3_eq]; first | done | rfl
noncomputable def ent0 : Entry := fun args blks k _ => match args, blks with
  | [d0], [] => aAgg 5 d0 fun l => aCons l fun d0_0 l => aCons l fun d0_1 l => aCons l fun d0_2 l => aCons l fun d0_3 l => aCons l fun d0_4 l => aNil l (aInt IntKind.i64 d0_0 fun x0_0_0 => aInt IntKind.i64 d0_1 fun x0_0_1 => aFz Zy2 d0_2 fun x0_1_0 => aFz Zy2 d0_3 fun x0_1_1 => aInt IntKind.i64 d0_4 fun x0_2 => f x0_0_0 x0_0_1 x0_1_0 x0_1_1 x0_2 (fun z0 => k (.sl 0 0) [(.lst 59 (Ty.pair Zy2 (Ty.pair Zy2 Zy2)) z0 0 false)]))
  | _, _ => False
noncomputable def ent : Entry := fun args blks k kp => ent0 (convB [.cells [none, none, some Zy2, some Zy2, none]] args) blks k kp
theorem ok : EntOk Try.prog 0 0 50 ent := by
  refine EntOk.convB (EntOk.of (funW_ok (cfg := cfg) (tyOk_of rfl rfl tyL_ok) (eqOk_of (P := Try.prog) rfl rfl (by kernel_rfl)) mixed_ok (tab_ok ?_) Try.func50 (by rfl) (by rfl)) ?_) _
  · intro p hp
    cases hp
  · intro args blks k kp h k' kp'
    match args, blks, h with
    | [d0], [], h =>
    dsimp only [ent0] at h
    have h9 := aAgg_elim h; clear h; obtain ⟨_, rfl, h⟩ := h9
    have h9 := aCons_elim h; clear h; obtain ⟨d0_0, _, rfl, h⟩ := h9
    have h9 := aCons_elim h; clear h; obtain ⟨d0_1, _, rfl, h⟩ := h9
    have h9 := aCons_elim h; clear h; obtain ⟨d0_2, _, rfl, h⟩ := h9
    have h9 := aCons_elim h; clear h; obtain ⟨d0_3, _, rfl, h⟩ := h9
    have h9 := aCons_elim h; clear h; obtain ⟨d0_4, _, rfl, h⟩ := h9
    have h9 := aNil_elim h; clear h; obtain ⟨rfl, h⟩ := h9
    have h9 := aInt_elim h; clear h; obtain ⟨x0_0_0, rfl, h⟩ := h9
    have h9 := aInt_elim h; clear h; obtain ⟨x0_0_1, rfl, h⟩ := h9
    have h9 := aFz_elim (t := Zy2) h; clear h; obtain ⟨x0_1_0, rfl, h⟩ := h9
    have h9 := aFz_elim (t := Zy2) h; clear h; obtain ⟨x0_1_1, rfl, h⟩ := h9
    have h9 := aInt_elim h; clear h; obtain ⟨x0_2, rfl, h⟩ := h9
    exact (f_eq k' kp' x0_0_0 x0_0_1 x0_1_0 x0_1_1 x0_2).symm
end N50
end Go.Proofs.Yh

namespace Go.Proofs.Yh
open Go Go.Aw Go.Proofs Go.RowKit
theorem put_s (n : Int) (hn : in64 n) (k : ByteArray → Prop) (h : k (bytesOf (putL n))) : N43.f n k := by
  unfold in64 at hn
  rw [N43.f_def]
  unfold N43.f0 N43.c N43.l5'
  refine loopS_of (fun s : Int × Int × List Int => ∃ a : Nat, s.1 = (a : Int) + 1 ∧ 1 ≤ a ∧ a < 20 ∧ s.2.2.length = 20 ∧ s.2.1.natAbs < 10 ^ a ∧ (n < 0 → s.2.1 ≤ 0) ∧ (0 ≤ n → 0 ≤ s.2.1) ∧ in64 s.2.1 ∧
    (dl (a + 1) s.2.1.natAbs).reverse ++ s.2.2.drop (a + 1) = (dl 20 n.natAbs).reverse) (fun s => s.1.toNat) ?_
    ⟨19, rfl, by omega, by omega, by simp, by show n.natAbs < 10 ^ 19; omega, fun h => Int.le_of_lt h, fun h => h, hn, by simp⟩
  rintro again ⟨x, m, b⟩ ⟨a, rfl, ha1, ha2, hlen, hm, hs1, hs2, hin, hd⟩ hag
  simp only at hlen hm hs1 hs2 hin hd hag ⊢
  unfold in64 at hin
  unfold N43.l5 N43.j8' N43.j8 N43.j11' N43.j11 N43.j4' N43.j4 N43.j14' N43.j14
  dsimp only
  have hmod := tmod10 m
  have hdiv := tdiv10 m
  have hdi : IntKind.i64.wrap (Int.tdiv m 10) = Int.tdiv m 10 := by rw [hdiv]; apply wrap_id <;> split <;> omega
  have ewa : IntKind.i64.wrap ((a : Int) + 1 - 1) = (a : Int) := by rw [wrap_id (by omega) (by omega)]; omega
  rw [hdi, ewa]
  simp only [Int.toNat_natCast]
  have main : ∀ d : Int, d = ((m.natAbs % 10 : Nat) : Int) → ((inB 0 (a : Int) (((20 : Nat) : Int) - 1)) ∧ (((10 : Int) ≠ 0) ∧ (br (Int.tdiv m 10 == (0 : Int))
      (br (decide (n < (0 : Int))) ((inB 0 (IntKind.i64.wrap ((a : Int) - (1 : Int))) (((20 : Nat) : Int) - 1)) ∧ ((inB (IntKind.i64.wrap ((a : Int) - (1 : Int))) (20 : Int) (20 : Int)) ∧ (((20 : Int) ≤ ((20 : Nat) : Int)) ∧ (k (bytesOf (List.drop (Int.toNat (IntKind.i64.wrap ((a : Int) - (1 : Int)))) (List.take (Int.toNat (20 : Int)) ((b.set a (IntKind.u8.wrap (IntKind.i64.wrap ((48 : Int) + d)))).set (Int.toNat (IntKind.i64.wrap ((a : Int) - (1 : Int)))) (45 : Int))))))))) ((inB (a : Int) (20 : Int) (20 : Int)) ∧ (((20 : Int) ≤ ((20 : Nat) : Int)) ∧ (k (bytesOf (List.drop a (List.take (Int.toNat (20 : Int)) (b.set a (IntKind.u8.wrap (IntKind.i64.wrap ((48 : Int) + d)))))))))))
      (((10 : Int) ≠ 0) ∧ again ((a : Int), Int.tdiv m 10, b.set a (IntKind.u8.wrap (IntKind.i64.wrap ((48 : Int) + d)))))))) := by
    rintro d rfl
    have ed : IntKind.u8.wrap (IntKind.i64.wrap ((48 : Int) + ((m.natAbs % 10 : Nat) : Int))) = ((48 + m.natAbs % 10 : Nat) : Int) := by
      rw [wrap_id (by omega) (by omega), wu8_eq]; omega
    rw [ed]
    have hset := drop_set_self (x := ((48 + m.natAbs % 10 : Nat) : Int)) (by omega : a < b.length)
    rw [dl_succ a] at hd
    have hlen' : (b.set a ((48 + m.natAbs % 10 : Nat) : Int)).length = 20 := by simpa using hlen
    generalize hb' : b.set a ((48 + m.natAbs % 10 : Nat) : Int) = b' at *
    refine ⟨⟨by omega, by omega, by omega⟩, by decide, ?_⟩
    have e20 : Int.toNat 20 = 20 := rfl
    rw [e20]
    by_cases hz : m.natAbs / 10 = 0
    · have : Int.tdiv m 10 = 0 := by rw [hdiv, hz]; split <;> rfl
      rw [this]
      simp only [beq_self_eq_true, br_true]
      rw [if_pos hz] at hd
      have hres : b'.drop a = (dl 20 n.natAbs).reverse := by rw [hset, ← hd]; simp
      simp only [br_dec]
      split
      · rename_i hn0
        have ew : IntKind.i64.wrap ((a : Int) - 1) = ((a - 1 : Nat) : Int) := by rw [wrap_id (by omega) (by omega)]; omega
        rw [ew]
        refine ⟨⟨by omega, by omega, by omega⟩, ⟨by omega, by omega, by omega⟩, by decide, ?_⟩
        rw [Int.toNat_natCast, List.take_of_length_le (by simp; omega), drop_set_self (by omega), show a - 1 + 1 = a by omega, hres]
        have : putL n = 45 :: (dl 20 n.natAbs).reverse := by unfold putL; rw [if_pos hn0]; rfl
        rw [← this]; exact h
      · rename_i hn0
        refine ⟨⟨by omega, by omega, by omega⟩, by decide, ?_⟩
        rw [List.take_of_length_le (by omega), hres]
        have : putL n = (dl 20 n.natAbs).reverse := by unfold putL; rw [if_neg hn0]; rfl
        rw [← this]; exact h
    · have hne : Int.tdiv m 10 ≠ 0 := by rw [hdiv]; split <;> omega
      have hnb : (Int.tdiv m 10 == 0) = false := by simpa using hne
      rw [hnb]
      simp only [br_false]
      rw [if_neg hz] at hd
      obtain ⟨c, rfl⟩ : ∃ c, a = c + 1 := ⟨a - 1, by omega⟩
      have hm' : m.natAbs / 10 < 10 ^ c := by rw [Nat.pow_succ] at hm; omega
      have hc : 1 ≤ c := by
        rcases Nat.eq_zero_or_pos c with h0 | h0
        · subst h0; simp at hm'; omega
        · exact h0
      have hab : (Int.tdiv m 10).natAbs = m.natAbs / 10 := by rw [hdiv]; split <;> omega
      refine ⟨by decide, hag _ ⟨c, rfl, hc, by omega, hlen', by rw [hab]; exact hm', fun h0 => ?_, fun h0 => ?_, ?_, ?_⟩ (by simp <;> omega)⟩
      · have := hs1 h0
        show Int.tdiv m 10 ≤ 0
        rw [hdiv]; split <;> omega
      · have := hs2 h0
        show 0 ≤ Int.tdiv m 10
        rw [hdiv]; split <;> omega
      · show in64 (Int.tdiv m 10)
        unfold in64
        rw [hdiv]; split <;> omega
      · show (dl (c + 1) (Int.tdiv m 10).natAbs).reverse ++ b'.drop (c + 1) = _
        rw [hab, hset, ← hd]
        simp
  refine ⟨by decide, br_of (fun hneg => ?_) (fun hneg => ?_)⟩
  · have hneg : Int.tmod m 10 < 0 := by simpa using hneg
    have e : IntKind.i64.wrap (0 - Int.tmod m 10) = ((m.natAbs % 10 : Nat) : Int) := by
      rw [wrap_id (by rw [hmod] at *; split at hneg <;> omega) (by rw [hmod] at *; split at hneg <;> omega)]
      rw [hmod] at *; split at hneg <;> rename_i hh <;> (try rw [if_pos hh]) <;> omega
    rw [e]
    exact main _ rfl
  · have hneg : ¬ Int.tmod m 10 < 0 := by simpa using hneg
    refine main _ ?_
    rw [hmod] at *
    split at hneg <;> rename_i hh <;> (try rw [if_pos hh]) <;> (try rw [if_neg hh]) <;> omega
theorem u64neg (n : Int) (hn : in64 n) : IntKind.u64.wrap (if n < 0 then 0 - IntKind.u64.wrap n else n) = (n.natAbs : Int) := by
  unfold in64 at hn
  simp only [wu64_eq]
  split <;> omega
theorem wu64_id' {n : Int} (h1 : 0 ≤ n) (h2 : n < 18446744073709551616) : IntKind.u64.wrap n = n := by rw [wu64_eq]; omega
theorem digits_s (U : Nat) (hU : U < 10 ^ 20) (hU2 : U < 2 ^ 64) (k : List Int → Prop) (h : k (dl 20 U)) : N56.f (U : Int) k := by
  rw [N56.f_def]
  unfold N56.f0 N56.c N56.l2'
  refine loopS_of (fun s : Int × List Int => ∃ u : Nat, s.1 = u ∧ u < 2 ^ 64 ∧ ((s.2 ≠ [] ∧ u = 0 ∧ s.2 = dl 20 U) ∨ (∃ f, u < 10 ^ f ∧ s.2.length + f = 20 ∧ 1 ≤ f ∧ (s.2 = [] ∨ u ≠ 0) ∧ s.2 ++ dl f u = dl 20 U))) (fun s => 2 * s.1.toNat + (if s.2 = [] then 1 else 0)) ?_
    ⟨U, rfl, hU2, .inr ⟨20, hU, rfl, by decide, .inl rfl, rfl⟩⟩
  rintro again ⟨x, b⟩ ⟨u, rfl, hu, hcase⟩ hag
  simp only at hcase hag ⊢
  unfold N56.l2 N56.j3' N56.j3 N56.j5' N56.j5
  dsimp only
  have emod : Int.tmod (u : Int) 10 = ((u % 10 : Nat) : Int) := by norm_cast
  have ediv : Int.tdiv (u : Int) 10 = ((u / 10 : Nat) : Int) := by norm_cast
  have go : (b = [] ∨ u ≠ 0) → (((10 : Int) ≠ 0) ∧ ((room (b.length + (([(IntKind.u8.wrap (IntKind.u64.wrap ((48 : Int) + (Int.tmod (u : Int) (10 : Int)))))] : List Int)).length) 1) ∧ (((10 : Int) ≠ 0) ∧
      (again (IntKind.u64.wrap (Int.tdiv (u : Int) (10 : Int)), b ++ ([(IntKind.u8.wrap (IntKind.u64.wrap ((48 : Int) + (Int.tmod (u : Int) (10 : Int)))))] : List Int)))))) := by
    intro hbu
    rw [emod, ediv]
    have ed : IntKind.u8.wrap (IntKind.u64.wrap ((48 : Int) + ((u % 10 : Nat) : Int))) = ((48 + u % 10 : Nat) : Int) := by
      rw [wu64_id' (by omega) (by omega), wu8_eq]; omega
    rw [ed, wu64_id' (by omega) (by omega)]
    have hc2 : ∃ f, u < 10 ^ f ∧ b.length + f = 20 ∧ 1 ≤ f ∧ b ++ dl f u = dl 20 U := by
      rcases hcase with ⟨h1, h2, h3⟩ | ⟨f, h1, h2, h3, _, h5⟩
      · rcases hbu with h | h
        · exact absurd h h1
        · exact absurd h2 h
      · exact ⟨f, h1, h2, h3, h5⟩
    obtain ⟨f, h1, h2, h3, h5⟩ := hc2
    obtain ⟨g, rfl⟩ : ∃ g, f = g + 1 := ⟨f - 1, by omega⟩
    refine ⟨by decide, ?_, by decide, hag _ ⟨u / 10, rfl, by omega, ?_⟩ ?_⟩
    · unfold room; simp; omega
    · rw [dl_succ g] at h5
      have hg : u / 10 < 10 ^ g := by rw [Nat.pow_succ] at h1; omega
      by_cases hz : u / 10 = 0
      · rw [if_pos hz] at h5
        exact .inl ⟨by simp, hz, h5⟩
      · rw [if_neg hz] at h5
        refine .inr ⟨g, hg, by simp; omega, ?_, .inr hz, by rw [← h5]; simp⟩
        rcases Nat.eq_zero_or_pos g with h0 | h0
        · subst h0; simp at hg; omega
        · exact h0
    · simp only [Int.toNat_natCast]
      rw [if_neg (by simp)]
      rcases hbu with h | h
      · rw [if_pos h]; omega
      · split <;> omega
  refine br_of (fun h0 => ?_) (fun h0 => ?_)
  · have h0 : 0 < u := by simp at h0; omega
    exact go (.inr (by omega))
  · have h0 : u = 0 := by simp at h0; omega
    refine br_of (fun hb => ?_) (fun hb => ?_)
    · have hb : b = [] := by simpa using hb
      exact go (.inl hb)
    · have hb : b ≠ [] := by simpa using hb
      rcases hcase with ⟨h1, h2, h3⟩ | ⟨f, h1, h2, h3, h4, h5⟩
      · rw [h3]; exact h
      · rcases h4 with h4 | h4
        · exact absurd h4 hb
        · exact absurd h0 h4
theorem putr_s (n : Int) (hn : in64 n) (k : ByteArray → Prop) (h : k (bytesOf (putL n))) : N34.f n k := by
  have hn' := hn
  unfold in64 at hn'
  rw [N34.f_def]
  unfold N34.f0 N34.c
  have tail : ∀ s0 : List Int, s0 ++ (dl 20 n.natAbs).reverse = putL n → s0.length ≤ 1 → N34.j6' (n.natAbs : Int) (bytesOf s0) k := by
    intro s0 hs0 hl0
    unfold N34.j6' N34.j6
    refine digits_s _ (by omega) (by omega) _ ?_
    unfold N34.l8'
    have hlen := dl_len_le 20 n.natAbs
    have ew : IntKind.i64.wrap ((((dl 20 n.natAbs).length : Nat) : Int) - 1) = (((dl 20 n.natAbs).length : Nat) : Int) - 1 := wrap_id (by omega) (by omega)
    rw [ew]
    generalize hD : dl 20 n.natAbs = D at *
    refine loopS_of (fun s : ByteArray × Int × List Int => ∃ i : Nat, s.2.1 = (i : Int) - 1 ∧ i ≤ D.length ∧ s.2.2 = D ∧ s.1 = bytesOf (s0 ++ (D.drop i).reverse)) (fun s => (s.2.1 + 1).toNat) ?_
      ⟨D.length, rfl, Nat.le_refl _, rfl, by simp⟩
    rintro again ⟨t, x, b⟩ ⟨i, e1, hi, e2, e3⟩ hag
    simp only at e1 e2 e3
    subst e1; subst e2; subst e3
    simp only at hag ⊢
    unfold N34.l8 N34.j11' N34.j11
    dsimp only
    refine br_of (fun hlt => ?_) (fun hge => ?_)
    · obtain ⟨m, rfl⟩ : ∃ m, i = m + 1 := ⟨i - 1, by simp at hlt; omega⟩
      have ei : ((m + 1 : Nat) : Int) - 1 = (m : Int) := by omega
      rw [ei]
      have ewm : IntKind.i64.wrap ((m : Int) - 1) = (m : Int) - 1 := wrap_id (by omega) (by omega)
      rw [ewm, Int.toNat_natCast]
      refine ⟨⟨by omega, by omega, by omega⟩, ?_, ?_⟩
      · rw [bytesOf_size, bytesOf_size]; simp; omega
      · rw [← bytesOf_append]
        refine hag _ ⟨m, rfl, by omega, rfl, ?_⟩ (by simp <;> omega)
        rw [drop_get (d := 0) (by omega : m < b.length)]
        simp
    · have : i = 0 := by simp at hge; omega
      subst this
      simp only [List.drop_zero]
      rw [hs0]; exact h
  refine br_of (fun hneg => ?_) (fun hneg => ?_)
  · have hneg : n < 0 := by simpa using hneg
    have e : IntKind.u64.wrap (0 - IntKind.u64.wrap n) = (n.natAbs : Int) := by simp only [wu64_eq]; omega
    rw [e]
    exact tail [45] (by unfold putL; rw [if_pos hneg]) (by simp)
  · have hneg : ¬ n < 0 := by simpa using hneg
    have e : IntKind.u64.wrap n = (n.natAbs : Int) := by simp only [wu64_eq]; omega
    rw [e]
    exact tail [] (by unfold putL; rw [if_neg hneg]) (by simp)
theorem letter_s (c : Int) (k : ByteArray → Prop) (h : k (letterL c)) : N49.f c k := by
  rw [N49.f_def]
  unfold N49.f0 N49.c N49.j2000002' N49.j2000002 N49.j3' N49.j3
  dsimp only
  unfold letterL at h
  have no : (c < 0 ∨ 2 ≤ c) → k (ByteArray.mk #[]) := by
    intro hc
    rw [if_neg (by omega), if_neg (by omega)] at h
    exact h
  refine br_of (fun h0 => ?_) (fun h0 => br_of (fun h1 => ?_) (fun h1 => ?_))
  · exact no (.inl (of_decide_eq_true h0))
  · exact no (.inr (of_decide_eq_true h1))
  · have h0 := of_decide_eq_false h0
    have h1 := of_decide_eq_false h1
    have hs : (ByteArray.mk #[103, 120]).size = 2 := rfl
    rw [wrap_id (by omega) (by omega)]
    refine ⟨⟨by omega, by omega, by rw [hs]; omega⟩, ?_⟩
    rcases (by omega : c = 0 ∨ c = 1) with rfl | rfl
    · exact h
    · exact h
theorem name_s (kind cl n : Int) (hn : in64 n) (k : ByteArray → Prop) (h : k (nameI kind cl n)) : N45.f kind cl n k := by
  obtain ⟨p1, p2⟩ := putL_len n
  rw [N45.f_def]
  unfold N45.f0 N45.c N45.j2000002' N45.j2000002 N45.j5' N45.j5
  unfold nameI at h
  simp only [br_beq]
  by_cases k2 : kind = 2
  · rw [if_pos k2]
    refine letter_s _ _ ?_
    rw [letter_no]
    by_cases h01 : cl = 0 ∨ cl = 1
    · have : (!(!(decide (cl = 0) || decide (cl = 1)))) = true := by simpa using h01
      rw [this]
      simp only [br_true]
      refine letter_s _ _ ?_
      rw [if_neg (by omega)] at h
      rcases h01 with rfl | rfl
      · rw [if_pos ⟨k2, rfl⟩] at h
        have e : letterL 0 = bytesOf [103] := rfl
        have e2 : ByteArray.mk #[36] = bytesOf [36] := rfl
        rw [e, e2]
        refine ⟨by decide, put_s n hn _ ⟨?_, ?_⟩⟩
        · rw [← bytesOf_append, bytesOf_size, bytesOf_size]; simp; omega
        · rw [← bytesOf_append, ← bytesOf_append]; exact h
      · rw [if_neg (by omega), if_pos ⟨k2, rfl⟩] at h
        have e : letterL 1 = bytesOf [120] := rfl
        have e2 : ByteArray.mk #[36] = bytesOf [36] := rfl
        rw [e, e2]
        refine ⟨by decide, put_s n hn _ ⟨?_, ?_⟩⟩
        · rw [← bytesOf_append, bytesOf_size, bytesOf_size]; simp; omega
        · rw [← bytesOf_append, ← bytesOf_append]; exact h
    · have : (!(!(decide (cl = 0) || decide (cl = 1)))) = false := by simpa using h01
      rw [this]
      simp only [br_false]
      rw [if_neg (by omega)]
      rw [if_neg (by omega), if_neg (by omega), if_neg (by omega)] at h
      exact h
  · rw [if_neg k2]
    simp only [br_false]
    by_cases k3 : kind = 3
    · rw [if_pos k3]
      rw [if_pos k3] at h
      have e2 : ByteArray.mk #[35] = bytesOf [35] := rfl
      rw [e2]
      refine put_s n hn _ ⟨?_, ?_⟩
      · rw [bytesOf_size, bytesOf_size]; simp; omega
      · rw [← bytesOf_append]; exact h
    · rw [if_neg k3]
      rw [if_neg k3, if_neg (by omega), if_neg (by omega)] at h
      exact h
theorem namer_s (kind cl n : Int) (hn : in64 n) (k : ByteArray → Prop) (h : k (nameI kind cl n)) : N46.f kind cl n k := by
  obtain ⟨p1, p2⟩ := putL_len n
  rw [N46.f_def]
  unfold N46.f0 N46.c N46.j2000004' N46.j2000004 N46.j5' N46.j5 N46.j2000006' N46.j2000006 N46.j7' N46.j7
  unfold nameI at h
  dsimp only
  simp only [br_beq, br_false]
  by_cases k3 : kind = 3
  · rw [if_pos k3]
    rw [if_pos k3] at h
    have e2 : ByteArray.mk #[35] = bytesOf [35] := rfl
    rw [e2]
    refine putr_s n hn _ ⟨?_, ?_⟩
    · rw [bytesOf_size, bytesOf_size]; simp; omega
    · rw [← bytesOf_append]; exact h
  · rw [if_neg k3]
    rw [if_neg k3] at h
    by_cases k2 : kind = 2
    · rw [if_pos k2]
      by_cases h0 : cl = 0
      · rw [if_pos h0]
        rw [if_pos ⟨k2, h0⟩] at h
        have e2 : ByteArray.mk #[36, 103] = bytesOf [36, 103] := rfl
        rw [e2]
        refine putr_s n hn _ ⟨?_, ?_⟩
        · rw [bytesOf_size, bytesOf_size]; simp; omega
        · rw [← bytesOf_append]; exact h
      · rw [if_neg h0, if_pos k2]
        rw [if_neg (by omega)] at h
        by_cases h1 : cl = 1
        · rw [if_pos h1]
          rw [if_pos ⟨k2, h1⟩] at h
          have e2 : ByteArray.mk #[36, 120] = bytesOf [36, 120] := rfl
          rw [e2]
          refine putr_s n hn _ ⟨?_, ?_⟩
          · rw [bytesOf_size, bytesOf_size]; simp; omega
          · rw [← bytesOf_append]; exact h
        · rw [if_neg h1]
          rw [if_neg (by omega)] at h
          exact h
    · rw [if_neg k2, if_neg k2]
      rw [if_neg (by omega), if_neg (by omega)] at h
      exact h
theorem locs_s (ag : Int → List (Int × (Int × Int)) → Prop) (c : Int) (c0 c1 l : List Int) (x10 : Int) (b : List (Int × (Int × Int))) (hl : b.length + l.length < 2 ^ 40) (k : List (Int × (Int × Int)) → Prop)
    (h : ag (IntKind.i64.wrap (x10 + 1)) (b ++ locs c l)) : N50.l6' ag c c0 c1 x10 l ((l.length : Nat) : Int) 0 b k := by
  unfold N50.l6'
  refine loopS_of (fun s : Int × List (Int × (Int × Int)) => ∃ i : Nat, s = ((i : Int), b ++ locs c (l.take i)) ∧ i ≤ l.length) (fun s => (l.length - s.1).toNat) ?_ ⟨0, by simp [locs], Nat.zero_le _⟩
  rintro again s ⟨i, rfl, hi⟩ hag
  simp only at hag ⊢
  unfold N50.l6 N50.j10' N50.j10
  dsimp only
  refine br_of (fun hlt => ?_) (fun hge => ?_)
  · have hlt := of_decide_eq_true hlt
    have hil : i < l.length := by omega
    have ew : IntKind.i64.wrap ((i : Int) + 1) = ((i + 1 : Nat) : Int) := by rw [wrap_id (by omega) (by omega)]; omega
    rw [ew, Int.toNat_natCast]
    refine ⟨⟨by omega, by omega, by omega⟩, ?_, hag _ ⟨i + 1, ?_, by omega⟩ (by simp; omega)⟩
    · unfold room locs; simp; omega
    · have : l.take (i + 1) = l.take i ++ [l.getD i 0] := by
        rw [List.take_succ_eq_append_getElem hil]; simp [List.getD, List.getElem?_eq_getElem hil]
      rw [this]
      simp [locs]
  · have hge := of_decide_eq_false hge
    have : l.take i = l := List.take_of_length_le (by omega)
    rw [this]; exact h
theorem spoilt_s (r0 r1 : Int) (c0 c1 : List Int) (slots : Int) (h0 : c0.length + c1.length < 2 ^ 40) (k : List (Int × (Int × Int)) → Prop) (h : k (locs 0 c0 ++ locs 1 c1)) : N50.f r0 r1 c0 c1 slots k := by
  rw [N50.f_def]
  unfold N50.f0 N50.c N50.l3'
  refine loopS_of (fun s : Int × List (Int × (Int × Int)) => s = (0, []) ∨ s = (1, locs 0 c0) ∨ s = (2, locs 0 c0 ++ locs 1 c1)) (fun s => (2 - s.1).toNat) ?_ (.inl rfl)
  rintro again s hs hag
  unfold N50.l3 N50.j11' N50.j11
  dsimp only
  rcases hs with rfl | rfl | rfl
  · have d1 : decide ((0 : Int) < 2) = true := by decide
    have d2 : decide ((0 : Int) = ((0 : Nat) : Int)) = true := by decide
    simp only [d1, d2, br_true]
    refine locs_s _ 0 c0 c1 c0 0 [] (by simp; omega) k ?_
    exact hag _ (.inr (.inl rfl)) (by show (2 - IntKind.i64.wrap (0 + 1)).toNat < (2 - 0 : Int).toNat; decide)
  · have d1 : decide ((1 : Int) < 2) = true := by decide
    have d2 : decide ((1 : Int) = ((0 : Nat) : Int)) = false := by decide
    have d3 : decide ((1 : Int) = ((1 : Nat) : Int)) = true := by decide
    simp only [d1, d2, d3, br_true, br_false]
    refine locs_s _ 1 c0 c1 c1 1 (locs 0 c0) (by simp [locs]; omega) k ?_
    exact hag _ (.inr (.inr rfl)) (by show (2 - IntKind.i64.wrap (1 + 1)).toNat < (2 - 1 : Int).toNat; decide)
  · have d1 : decide ((2 : Int) < 2) = false := by decide
    simp only [d1, br_false]
    exact h
end Go.Proofs.Yh

namespace Go.Proofs.Yh
open Go Go.Aw Go.Proofs
set_option maxRecDepth 100000
set_option maxHeartbeats 4000000
namespace N16
noncomputable def cfg : Cfg := { P := Try.prog, ty := tys, E := tab [(43, N43.ent)], atSeq := tab [], atLoop := tab [], outs := [], eqT := tab [], bT := tab [] }
noncomputable def body : Code := bodyOf Try.f16
def c (x0 : Int) (k : BA → Prop) : Prop :=
  (N43.f x0 (fun (y0_0 : BA) => ((((ByteArray.mk #[37])).size + (y0_0).size ≤ 9223372036854775807) ∧ (k ((ByteArray.mk #[37]) ++ y0_0)))))
def f0 (x0 : Int) (k : BA → Prop) : Prop := c x0 k
theorem f_ex : ∃ g, g = f0 := ⟨_, rfl⟩
noncomputable def f := Classical.choose f_ex
theorem f_def : f = f0 := Classical.choose_spec f_ex
noncomputable def JJ (k kp : KT) : Nat → St → Prop := pick none' []
noncomputable def LL (k kp : KT) : Nat → St → Prop := pick none' []
theorem c_c (k kp : KT) (J L : Nat → St → Prop) (x0 : Int) : runC cfg 1000001 J L none'' [] body (topK cfg Try.f16 k kp) (st0 Try.f16 [(.v (.int .i64 x0))] []) = c x0 (fun y0 => k (.v (.string y0)) []) := by kernel_rfl
theorem c_ag (k kp : KT) : agPL cfg 1000001 (JJ k kp) (LL k kp) [] body = agPR cfg 1000001 none'' [] body (topK cfg Try.f16 k kp) := by kernel_rfl
theorem body_is : Try.f16.body = some body := by kernel_rfl
theorem c_raw (k kp : KT) (x0 : Int) : funW cfg Try.f16 [(.v (.int .i64 x0))] [] k kp = c x0 (fun y0 => k (.v (.string y0)) []) :=
  Eq.mp (by kernel_rfl) ((funW_run (AG := none'') body_is (c_ag k kp) [(.v (.int .i64 x0))] []).trans (c_c k kp (JJ k kp) (LL k kp) x0))
theorem f_eq (k kp : KT) (x0 : Int) : funW cfg Try.f16 [(.v (.int .i64 x0))] [] k kp = f x0 (fun y0 => k (.v (.string y0)) []) := by
  rw [f_def, c_raw]; rfl
noncomputable def ent0 : Entry := fun args blks k _ => match args, blks with
  | [d0], [] => aInt IntKind.i64 d0 fun x0 => f x0 (fun y0 => k (.v (.string y0)) [])
  | _, _ => False
noncomputable def ent : Entry := fun args blks k kp => ent0 (convB [.no] args) blks k kp
theorem ok : EntOk Try.prog 0 0 16 ent := by
  refine EntOk.convB (EntOk.of (funW_ok (cfg := cfg) (tyOk_of rfl rfl tyL_ok) (eqOk_of (P := Try.prog) rfl rfl (by kernel_rfl)) mixed_ok (tab_ok ?_) Try.func16 (by rfl) (by rfl)) ?_) _
  · intro p hp
    simp only [List.mem_cons, List.not_mem_nil, or_false] at hp
    rcases hp with rfl
    · exact N43.ok
  · intro args blks k kp h k' kp'
    match args, blks, h with
    | [d0], [], h =>
    dsimp only [ent0] at h
    have h9 := aInt_elim h; clear h; obtain ⟨x0, rfl, h⟩ := h9
    exact (f_eq k' kp' x0).symm
end N16
end Go.Proofs.Yh

namespace Go.Proofs.Yh
open Go Go.Aw Go.Proofs
set_option maxRecDepth 100000
set_option maxHeartbeats 4000000
namespace N22
noncomputable def cfg : Cfg := { P := Try.prog, ty := tys, E := tab [(49, N49.ent), (43, N43.ent), (50, N50.ent), (45, N45.ent), (51, N51.ent)], atSeq := tab [(7, ⟨[(1, .keep), (3, .keep)]⟩), (16, ⟨[(3, .keep)]⟩)], atLoop := tab [(3, ⟨[(1, .keep), (3, .keep), (11, .keep), (12, .keep)]⟩), (12, ⟨[(3, .keep), (38, .keep), (39, .keep), (40, .keep)]⟩)], outs := [], eqT := tab [], bT := tab [], fzB := [1] }
noncomputable def body : Code := bodyOf Try.f22
def l3 (j7 : Int → Int → LI → LI → Int → LB → Prop) (ag3 : Int → LB → Prop) (x1_0 x1_1 : Int) (x1_2 x1_3 : LI) (x1_4 x11_0 : Int) (x11_1 x12 : Int) (b0 : LB) (k : BA → Prop) : Prop :=
  (br (decide (x12 < (2 : Int))) (br (decide (x12 = ((0 : Nat) : Int))) (N49.f x12 (fun (y0_0 : BA) => (N43.f x11_0 (fun (y0_1 : BA) => ((room ((b0).length + (([y0_0, y0_1] : List BA)).length) 16) ∧ (ag3 (IntKind.i64.wrap (x12 + (1 : Int))) (b0 ++ ([y0_0, y0_1] : List BA)))))))) (br (decide (x12 = ((1 : Nat) : Int))) (N49.f x12 (fun (y0_2 : BA) => (N43.f x11_1 (fun (y0_3 : BA) => ((room ((b0).length + (([y0_2, y0_3] : List BA)).length) 16) ∧ (ag3 (IntKind.i64.wrap (x12 + (1 : Int))) (b0 ++ ([y0_2, y0_3] : List BA)))))))) False)) (j7 x1_0 x1_1 x1_2 x1_3 x1_4 b0))
def j7 (l12 : Int → Int → LB → (List (Int × (Int × Int))) → Prop) (j16 : LB → Prop) (x1_0 x1_1 : Int) (x1_2 x1_3 : LI) (x1_4 : Int) (b0 : LB) (k : BA → Prop) : Prop :=
  (N43.f x1_4 (fun (y0_4 : BA) => ((room ((b0).length + (([(ByteArray.mk #[115, 108, 111, 116, 115]), y0_4] : List BA)).length) 16) ∧ (N50.f x1_0 x1_1 x1_2 x1_3 x1_4 (fun (z0_5 : (List (Int × (Int × Int)))) => (br (decide (((((z0_5).length : Nat) : Int)) > (0 : Int))) ((room (((b0 ++ ([(ByteArray.mk #[115, 108, 111, 116, 115]), y0_4] : List BA))).length + (([(ByteArray.mk #[99, 108, 111, 98, 98, 101, 114])] : List BA)).length) 16) ∧ (l12 ((((z0_5).length : Nat) : Int)) (0 : Int) ((b0 ++ ([(ByteArray.mk #[115, 108, 111, 116, 115]), y0_4] : List BA)) ++ ([(ByteArray.mk #[99, 108, 111, 98, 98, 101, 114])] : List BA)) z0_5)) (j16 (b0 ++ ([(ByteArray.mk #[115, 108, 111, 116, 115]), y0_4] : List BA)))))))))
def l12 (j16 : LB → Prop) (ag12 : Int → LB → (List (Int × (Int × Int))) → Prop) (x39 x40 : Int) (b0 : LB) (b1 : (List (Int × (Int × Int)))) (k : BA → Prop) : Prop :=
  (br (decide (x40 < x39)) ((inB 0 x40 ((((b1).length : Nat) : Int) - 1)) ∧ (N45.f (b1.getD (Int.toNat x40) ((0, (0, 0)))).1 (b1.getD (Int.toNat x40) ((0, (0, 0)))).2.1 (b1.getD (Int.toNat x40) ((0, (0, 0)))).2.2 (fun (y0_6 : BA) => ((room ((b0).length + (([y0_6] : List BA)).length) 16) ∧ (ag12 (IntKind.i64.wrap (x40 + (1 : Int))) (b0 ++ ([y0_6] : List BA)) b1))))) (j16 b0))
def j16 (b0 : LB) (k : BA → Prop) : Prop :=
  (jn b0 (ByteArray.mk #[32]) (fun (y_7 : BA) => (((y_7).size + ((ByteArray.mk #[59, 10])).size ≤ 9223372036854775807) ∧ (k (y_7 ++ (ByteArray.mk #[59, 10]))))))
def c (l3 : Int → Int → LI → LI → Int → Int → Int → Int → LB → Prop) (x0_0_0 x0_0_1 : Int) (x0_1_0 x0_1_1 : LI) (x0_2 : Int) (k : BA → Prop) : Prop :=
  (l3 x0_0_0 x0_0_1 x0_1_0 x0_1_1 x0_2 x0_0_0 x0_0_1 (0 : Int) ([(ByteArray.mk #[116, 97, 114, 103, 101, 116])] : List BA))
def j16' (b0 : LB) (k : BA → Prop) : Prop := j16 b0 k
def l12' (x39 x40 : Int) (b0 : LB) (b1 : (List (Int × (Int × Int)))) (k : BA → Prop) : Prop := ∃ n, loopS (fun (ag : (Int × LB × (List (Int × (Int × Int)))) → Prop) (s : Int × LB × (List (Int × (Int × Int)))) => l12 (fun b0 => j16' b0 k) (fun x40 b0 b1 => ag (x40, b0, b1)) x39 s.1 s.2.1 s.2.2 k) n (x40, b0, b1)
def j7' (x1_0 x1_1 : Int) (x1_2 x1_3 : LI) (x1_4 : Int) (b0 : LB) (k : BA → Prop) : Prop := j7 (fun x39 x40 b0 b1 => l12' x39 x40 b0 b1 k) (fun b0 => j16' b0 k) x1_0 x1_1 x1_2 x1_3 x1_4 b0 k
def l3' (x1_0 x1_1 : Int) (x1_2 x1_3 : LI) (x1_4 x11_0 : Int) (x11_1 x12 : Int) (b0 : LB) (k : BA → Prop) : Prop := ∃ n, loopS (fun (ag : (Int × LB) → Prop) (s : Int × LB) => l3 (fun x1_0 x1_1 x1_2 x1_3 x1_4 b0 => j7' x1_0 x1_1 x1_2 x1_3 x1_4 b0 k) (fun x12 b0 => ag (x12, b0)) x1_0 x1_1 x1_2 x1_3 x1_4 x11_0 x11_1 s.1 s.2 k) n (x12, b0)
def f0 (x0_0_0 x0_0_1 : Int) (x0_1_0 x0_1_1 : LI) (x0_2 : Int) (k : BA → Prop) : Prop := c (fun x1_0 x1_1 x1_2 x1_3 x1_4 x11_0 x11_1 x12 b0 => l3' x1_0 x1_1 x1_2 x1_3 x1_4 x11_0 x11_1 x12 b0 k) x0_0_0 x0_0_1 x0_1_0 x0_1_1 x0_2 k
theorem f_ex : ∃ g, g = f0 := ⟨_, rfl⟩
noncomputable def f := Classical.choose f_ex
theorem f_def : f = f0 := Classical.choose_spec f_ex
def mL3 (x1_0 x1_1 : Int) (x1_2 x1_3 : LI) (x1_4 x11_0 : Int) (x11_1 x12 : Int) (b0 : LB) : St := { tmps := mkT 53 0 [(1, (.fp [(.v (.int .i64 x1_0)), (.v (.int .i64 x1_1)), (.fz Zy2 x1_2), (.fz Zy2 x1_3), (.v (.int .i64 x1_4))])), (3, (.sl 0 0)), (11, (.agg [(.v (.int .i64 x11_0)), (.v (.int .i64 x11_1))])), (12, (.v (.int .i64 x12)))], hp := [(.lst 9 Ty.str b0 0 false)], m := 0 }
def m7 (x1_0 x1_1 : Int) (x1_2 x1_3 : LI) (x1_4 : Int) (b0 : LB) : St := { tmps := mkT 53 0 [(1, (.fp [(.v (.int .i64 x1_0)), (.v (.int .i64 x1_1)), (.fz Zy2 x1_2), (.fz Zy2 x1_3), (.v (.int .i64 x1_4))])), (3, (.sl 0 0))], hp := [(.lst 9 Ty.str b0 0 false)], m := 0 }
def mL12 (x39 x40 : Int) (b0 : LB) (b1 : (List (Int × (Int × Int)))) : St := { tmps := mkT 53 0 [(3, (.sl 0 0)), (38, (.sl 1 0)), (39, (.v (.int .i64 x39))), (40, (.v (.int .i64 x40)))], hp := [(.lst 9 Ty.str b0 0 false), (.lst 59 (Ty.pair Zy2 (Ty.pair Zy2 Zy2)) b1 0 false)], m := 0 }
def m16 (b0 : LB) : St := { tmps := mkT 53 0 [(3, (.sl 0 0))], hp := [(.lst 9 Ty.str b0 0 false)], m := 0 }
noncomputable def YL3 (k kp : KT) : (St → Prop) → St → Prop := loopB cfg (sub [1, 1, 0, 1, 0, 0] body) (contK cfg (pick none' []) [1, 1, 0, 1, 0] body (topK cfg Try.f22 k kp))
noncomputable def XL3 (k kp : KT) : St → Prop := fun st => ∃ n, loopN (YL3 k kp) n st
noncomputable def X7 (k kp : KT) : St → Prop := atP cfg (pick none' []) [1, 1, 1] body (topK cfg Try.f22 k kp)
noncomputable def YL12 (k kp : KT) : (St → Prop) → St → Prop := loopB cfg (sub [1, 1, 1, 1, 0, 1, 1, 0, 1, 1, 0, 0] body) (contK cfg (pick none' []) [1, 1, 1, 1, 0, 1, 1, 0, 1, 1, 0] body (topK cfg Try.f22 k kp))
noncomputable def XL12 (k kp : KT) : St → Prop := fun st => ∃ n, loopN (YL12 k kp) n st
noncomputable def X16 (k kp : KT) : St → Prop := atP cfg (pick none' []) [1, 1, 1, 1, 1] body (topK cfg Try.f22 k kp)
noncomputable def JJ_3 (k kp : KT) (ag3 : St → Prop) : Nat → St → Prop := pick none' [(7, X7 k kp), (16, X16 k kp)]
noncomputable def LL_3 (k kp : KT) (ag3 : St → Prop) : Nat → St → Prop := pick none' [(3, XL3 k kp), (12, XL12 k kp)]
noncomputable def JJ (k kp : KT) : Nat → St → Prop := pick none' [(7, X7 k kp), (16, X16 k kp)]
noncomputable def LL (k kp : KT) : Nat → St → Prop := pick none' [(3, XL3 k kp), (12, XL12 k kp)]
noncomputable def JJ_12 (k kp : KT) (ag12 : St → Prop) : Nat → St → Prop := pick none' [(7, X7 k kp), (16, X16 k kp)]
noncomputable def LL_12 (k kp : KT) (ag12 : St → Prop) : Nat → St → Prop := pick none' [(3, XL3 k kp), (12, XL12 k kp)]
theorem j16_c (k kp : KT) (J L : Nat → St → Prop) (b0 : LB) : runC cfg 16 J L (pick none' []) [1, 1, 1, 1, 1] body (topK cfg Try.f22 k kp) (m16 b0) = j16 b0 (fun y0 => k (.v (.string y0)) []) := by kernel_rfl
theorem j16_ag (k kp : KT) : agPL cfg 16 (JJ k kp) (LL k kp) [1, 1, 1, 1, 1] body = agPR cfg 16 (pick none' []) [1, 1, 1, 1, 1] body (topK cfg Try.f22 k kp) := by kernel_rfl
theorem j16_raw (k kp : KT) (b0 : LB) : X16 k kp (m16 b0) = j16 b0 (fun y0 => k (.v (.string y0)) []) :=
  Eq.mp (by kernel_rfl) ((atP_run (j16_ag k kp) (m16 b0)).trans (j16_c k kp (JJ k kp) (LL k kp) b0))
theorem j16_eq (k kp : KT) (b0 : LB) : X16 k kp (m16 b0) = j16' b0 (fun y0 => k (.v (.string y0)) []) := by
  rw [j16_raw]; rfl
theorem l12_c (k kp : KT) (J L : Nat → St → Prop) (ag12 : St → Prop) (x39 x40 : Int) (b0 : LB) (b1 : (List (Int × (Int × Int)))) : runC cfg 1000001 J L (pick none' [(12, ag12)]) [1, 1, 1, 1, 0, 1, 1, 0, 1, 1, 0, 0] body (topK cfg Try.f22 k kp) (mL12 x39 x40 b0 b1) = l12 (fun b0 => J 16 (m16 b0)) (fun x40 b0 b1 => ag12 (mL12 x39 x40 b0 b1)) x39 x40 b0 b1 (fun y0 => k (.v (.string y0)) []) := by kernel_rfl
theorem l12_ag (k kp : KT) (ag12 : St → Prop) : agPL cfg 1000001 (JJ_12 k kp ag12) (LL_12 k kp ag12) [1, 1, 1, 1, 0, 1, 1, 0, 1, 1, 0, 0] body = agPR cfg 1000001 (pick none' [(12, ag12)]) [1, 1, 1, 1, 0, 1, 1, 0, 1, 1, 0, 0] body (topK cfg Try.f22 k kp) := by kernel_rfl
theorem l12_raw (k kp : KT) (ag12 : St → Prop) (x39 x40 : Int) (b0 : LB) (b1 : (List (Int × (Int × Int)))) : YL12 k kp ag12 (mL12 x39 x40 b0 b1) = l12 (fun b0 => X16 k kp (m16 b0)) (fun x40 b0 b1 => ag12 (mL12 x39 x40 b0 b1)) x39 x40 b0 b1 (fun y0 => k (.v (.string y0)) []) :=
  Eq.mp (by kernel_rfl) ((atP_run (l12_ag k kp ag12) (mL12 x39 x40 b0 b1)).trans (l12_c k kp (JJ_12 k kp ag12) (LL_12 k kp ag12) ag12 x39 x40 b0 b1))
theorem l12_eq (k kp : KT) (x39 x40 : Int) (b0 : LB) (b1 : (List (Int × (Int × Int)))) : XL12 k kp (mL12 x39 x40 b0 b1) = l12' x39 x40 b0 b1 (fun y0 => k (.v (.string y0)) []) :=
  loop_eq (mk := fun (s : Int × LB × (List (Int × (Int × Int)))) => mL12 x39 s.1 s.2.1 s.2.2) (fun again s => by rw [l12_raw k kp again x39 s.1 s.2.1 s.2.2]; simp only [j16_eq]; first | done | rfl) (x40, b0, b1)
theorem j7_c (k kp : KT) (J L : Nat → St → Prop) (x1_0 x1_1 : Int) (x1_2 x1_3 : LI) (x1_4 : Int) (b0 : LB) : runC cfg 7 J L (pick none' []) [1, 1, 1] body (topK cfg Try.f22 k kp) (m7 x1_0 x1_1 x1_2 x1_3 x1_4 b0) = j7 (fun x39 x40 b0 b1 => L 12 (mL12 x39 x40 b0 b1)) (fun b0 => J 16 (m16 b0)) x1_0 x1_1 x1_2 x1_3 x1_4 b0 (fun y0 => k (.v (.string y0)) []) := by kernel_rfl
theorem j7_ag (k kp : KT) : agPL cfg 7 (JJ k kp) (LL k kp) [1, 1, 1] body = agPR cfg 7 (pick none' []) [1, 1, 1] body (topK cfg Try.f22 k kp) := by kernel_rfl
theorem j7_raw (k kp : KT) (x1_0 x1_1 : Int) (x1_2 x1_3 : LI) (x1_4 : Int) (b0 : LB) : X7 k kp (m7 x1_0 x1_1 x1_2 x1_3 x1_4 b0) = j7 (fun x39 x40 b0 b1 => XL12 k kp (mL12 x39 x40 b0 b1)) (fun b0 => X16 k kp (m16 b0)) x1_0 x1_1 x1_2 x1_3 x1_4 b0 (fun y0 => k (.v (.string y0)) []) :=
  Eq.mp (by kernel_rfl) ((atP_run (j7_ag k kp) (m7 x1_0 x1_1 x1_2 x1_3 x1_4 b0)).trans (j7_c k kp (JJ k kp) (LL k kp) x1_0 x1_1 x1_2 x1_3 x1_4 b0))
theorem j7_eq (k kp : KT) (x1_0 x1_1 : Int) (x1_2 x1_3 : LI) (x1_4 : Int) (b0 : LB) : X7 k kp (m7 x1_0 x1_1 x1_2 x1_3 x1_4 b0) = j7' x1_0 x1_1 x1_2 x1_3 x1_4 b0 (fun y0 => k (.v (.string y0)) []) := by
  rw [j7_raw]; simp only [l12_eq, j16_eq]; first | done | rfl
theorem l3_c (k kp : KT) (J L : Nat → St → Prop) (ag3 : St → Prop) (x1_0 x1_1 : Int) (x1_2 x1_3 : LI) (x1_4 x11_0 : Int) (x11_1 x12 : Int) (b0 : LB) : runC cfg 1000001 J L (pick none' [(3, ag3)]) [1, 1, 0, 1, 0, 0] body (topK cfg Try.f22 k kp) (mL3 x1_0 x1_1 x1_2 x1_3 x1_4 x11_0 x11_1 x12 b0) = l3 (fun x1_0 x1_1 x1_2 x1_3 x1_4 b0 => J 7 (m7 x1_0 x1_1 x1_2 x1_3 x1_4 b0)) (fun x12 b0 => ag3 (mL3 x1_0 x1_1 x1_2 x1_3 x1_4 x11_0 x11_1 x12 b0)) x1_0 x1_1 x1_2 x1_3 x1_4 x11_0 x11_1 x12 b0 (fun y0 => k (.v (.string y0)) []) := by kernel_rfl
theorem l3_ag (k kp : KT) (ag3 : St → Prop) : agPL cfg 1000001 (JJ_3 k kp ag3) (LL_3 k kp ag3) [1, 1, 0, 1, 0, 0] body = agPR cfg 1000001 (pick none' [(3, ag3)]) [1, 1, 0, 1, 0, 0] body (topK cfg Try.f22 k kp) := by kernel_rfl
theorem l3_raw (k kp : KT) (ag3 : St → Prop) (x1_0 x1_1 : Int) (x1_2 x1_3 : LI) (x1_4 x11_0 : Int) (x11_1 x12 : Int) (b0 : LB) : YL3 k kp ag3 (mL3 x1_0 x1_1 x1_2 x1_3 x1_4 x11_0 x11_1 x12 b0) = l3 (fun x1_0 x1_1 x1_2 x1_3 x1_4 b0 => X7 k kp (m7 x1_0 x1_1 x1_2 x1_3 x1_4 b0)) (fun x12 b0 => ag3 (mL3 x1_0 x1_1 x1_2 x1_3 x1_4 x11_0 x11_1 x12 b0)) x1_0 x1_1 x1_2 x1_3 x1_4 x11_0 x11_1 x12 b0 (fun y0 => k (.v (.string y0)) []) :=
  Eq.mp (by kernel_rfl) ((atP_run (l3_ag k kp ag3) (mL3 x1_0 x1_1 x1_2 x1_3 x1_4 x11_0 x11_1 x12 b0)).trans (l3_c k kp (JJ_3 k kp ag3) (LL_3 k kp ag3) ag3 x1_0 x1_1 x1_2 x1_3 x1_4 x11_0 x11_1 x12 b0))
theorem l3_eq (k kp : KT) (x1_0 x1_1 : Int) (x1_2 x1_3 : LI) (x1_4 x11_0 : Int) (x11_1 x12 : Int) (b0 : LB) : XL3 k kp (mL3 x1_0 x1_1 x1_2 x1_3 x1_4 x11_0 x11_1 x12 b0) = l3' x1_0 x1_1 x1_2 x1_3 x1_4 x11_0 x11_1 x12 b0 (fun y0 => k (.v (.string y0)) []) :=
  loop_eq (mk := fun (s : Int × LB) => mL3 x1_0 x1_1 x1_2 x1_3 x1_4 x11_0 x11_1 s.1 s.2) (fun again s => by rw [l3_raw k kp again x1_0 x1_1 x1_2 x1_3 x1_4 x11_0 x11_1 s.1 s.2]; simp only [j7_eq]; first | done | rfl) (x12, b0)
theorem c_c (k kp : KT) (J L : Nat → St → Prop) (x0_0_0 x0_0_1 : Int) (x0_1_0 x0_1_1 : LI) (x0_2 : Int) : runC cfg 1000001 J L none'' [] body (topK cfg Try.f22 k kp) (st0 Try.f22 [(.agg [(.v (.int .i64 x0_0_0)), (.v (.int .i64 x0_0_1)), (.fz Zy2 x0_1_0), (.fz Zy2 x0_1_1), (.v (.int .i64 x0_2))])] []) = c (fun x1_0 x1_1 x1_2 x1_3 x1_4 x11_0 x11_1 x12 b0 => L 3 (mL3 x1_0 x1_1 x1_2 x1_3 x1_4 x11_0 x11_1 x12 b0)) x0_0_0 x0_0_1 x0_1_0 x0_1_1 x0_2 (fun y0 => k (.v (.string y0)) []) := by kernel_rfl
theorem c_ag (k kp : KT) : agPL cfg 1000001 (JJ k kp) (LL k kp) [] body = agPR cfg 1000001 none'' [] body (topK cfg Try.f22 k kp) := by kernel_rfl
theorem body_is : Try.f22.body = some body := by kernel_rfl
theorem c_raw (k kp : KT) (x0_0_0 x0_0_1 : Int) (x0_1_0 x0_1_1 : LI) (x0_2 : Int) : funW cfg Try.f22 [(.agg [(.v (.int .i64 x0_0_0)), (.v (.int .i64 x0_0_1)), (.fz Zy2 x0_1_0), (.fz Zy2 x0_1_1), (.v (.int .i64 x0_2))])] [] k kp = c (fun x1_0 x1_1 x1_2 x1_3 x1_4 x11_0 x11_1 x12 b0 => XL3 k kp (mL3 x1_0 x1_1 x1_2 x1_3 x1_4 x11_0 x11_1 x12 b0)) x0_0_0 x0_0_1 x0_1_0 x0_1_1 x0_2 (fun y0 => k (.v (.string y0)) []) :=
  Eq.mp (by kernel_rfl) ((funW_run (AG := none'') body_is (c_ag k kp) [(.agg [(.v (.int .i64 x0_0_0)), (.v (.int .i64 x0_0_1)), (.fz Zy2 x0_1_0), (.fz Zy2 x0_1_1), (.v (.int .i64 x0_2))])] []).trans (c_c k kp (JJ k kp) (LL k kp) x0_0_0 x0_0_1 x0_1_0 x0_1_1 x0_2))
theorem f_eq (k kp : KT) (x0_0_0 x0_0_1 : Int) (x0_1_0 x0_1_1 : LI) (x0_2 : Int) : funW cfg Try.f22 [(.agg [(.v (.int .i64 x0_0_0)), (.v (.int .i64 x0_0_1)), (.fz Zy2 x0_1_0), (.fz Zy2 x0_1_1), (.v (.int .i64 x0_2))])] [] k kp = f x0_0_0 x0_0_1 x0_1_0 x0_1_1 x0_2 (fun y0 => k (.v (.string y0)) []) := by
  rw [f_def, c_raw]; simp only [l3_eq]; first | done | rfl
noncomputable def ent0 : Entry := fun args blks k _ => match args, blks with
  | [d0], [] => aAgg 5 d0 fun l => aCons l fun d0_0 l => aCons l fun d0_1 l => aCons l fun d0_2 l => aCons l fun d0_3 l => aCons l fun d0_4 l => aNil l (aInt IntKind.i64 d0_0 fun x0_0_0 => aInt IntKind.i64 d0_1 fun x0_0_1 => aFz Zy2 d0_2 fun x0_1_0 => aFz Zy2 d0_3 fun x0_1_1 => aInt IntKind.i64 d0_4 fun x0_2 => f x0_0_0 x0_0_1 x0_1_0 x0_1_1 x0_2 (fun y0 => k (.v (.string y0)) []))
  | _, _ => False
noncomputable def ent : Entry := fun args blks k kp => ent0 (convB [.cells [none, none, some Zy2, some Zy2, none]] args) blks k kp
theorem ok : EntOk Try.prog 0 0 22 ent := by
  refine EntOk.convB (EntOk.of (funW_ok (cfg := cfg) (tyOk_of rfl rfl tyL_ok) (eqOk_of (P := Try.prog) rfl rfl (by kernel_rfl)) mixed_ok (tab_ok ?_) Try.func22 (by rfl) (by rfl)) ?_) _
  · intro p hp
    simp only [List.mem_cons, List.not_mem_nil, or_false] at hp
    rcases hp with rfl | rfl | rfl | rfl | rfl
    · exact N49.ok
    · exact N43.ok
    · exact N50.ok
    · exact N45.ok
    · exact N51.ok
  · intro args blks k kp h k' kp'
    match args, blks, h with
    | [d0], [], h =>
    dsimp only [ent0] at h
    have h9 := aAgg_elim h; clear h; obtain ⟨_, rfl, h⟩ := h9
    have h9 := aCons_elim h; clear h; obtain ⟨d0_0, _, rfl, h⟩ := h9
    have h9 := aCons_elim h; clear h; obtain ⟨d0_1, _, rfl, h⟩ := h9
    have h9 := aCons_elim h; clear h; obtain ⟨d0_2, _, rfl, h⟩ := h9
    have h9 := aCons_elim h; clear h; obtain ⟨d0_3, _, rfl, h⟩ := h9
    have h9 := aCons_elim h; clear h; obtain ⟨d0_4, _, rfl, h⟩ := h9
    have h9 := aNil_elim h; clear h; obtain ⟨rfl, h⟩ := h9
    have h9 := aInt_elim h; clear h; obtain ⟨x0_0_0, rfl, h⟩ := h9
    have h9 := aInt_elim h; clear h; obtain ⟨x0_0_1, rfl, h⟩ := h9
    have h9 := aFz_elim (t := Zy2) h; clear h; obtain ⟨x0_1_0, rfl, h⟩ := h9
    have h9 := aFz_elim (t := Zy2) h; clear h; obtain ⟨x0_1_1, rfl, h⟩ := h9
    have h9 := aInt_elim h; clear h; obtain ⟨x0_2, rfl, h⟩ := h9
    exact (f_eq k' kp' x0_0_0 x0_0_1 x0_1_0 x0_1_1 x0_2).symm
end N22
end Go.Proofs.Yh

namespace Go.Proofs.Yh
open Go Go.Aw Go.Proofs
set_option maxRecDepth 100000
set_option maxHeartbeats 4000000
namespace N26
noncomputable def cfg : Cfg := { P := Try.prog, ty := tys, E := tab [(43, N43.ent), (45, N45.ent)], atSeq := tab [], atLoop := tab [], outs := [], eqT := tab [], bT := tab [], fzB := [1] }
noncomputable def body : Code := bodyOf Try.f26
def c (x0_0 x0_1 : Int) (x0_2 x0_3_0 : Int) (x0_3_1 x0_3_2 : Int) (k : BA → Prop) : Prop :=
  (N43.f x0_1 (fun (y0_0 : BA) => (((y0_0).size + ((ByteArray.mk #[46, 46])).size ≤ 9223372036854775807) ∧ (N43.f x0_2 (fun (y0_1 : BA) => ((((y0_0 ++ (ByteArray.mk #[46, 46]))).size + (y0_1).size ≤ 9223372036854775807) ∧ (((((y0_0 ++ (ByteArray.mk #[46, 46])) ++ y0_1)).size + ((ByteArray.mk #[32])).size ≤ 9223372036854775807) ∧ (N45.f x0_3_0 x0_3_1 x0_3_2 (fun (y0_2 : BA) => ((((((y0_0 ++ (ByteArray.mk #[46, 46])) ++ y0_1) ++ (ByteArray.mk #[32]))).size + (y0_2).size ≤ 9223372036854775807) ∧ (k ((((y0_0 ++ (ByteArray.mk #[46, 46])) ++ y0_1) ++ (ByteArray.mk #[32])) ++ y0_2))))))))))))
def f0 (x0_0 x0_1 : Int) (x0_2 x0_3_0 : Int) (x0_3_1 x0_3_2 : Int) (k : BA → Prop) : Prop := c x0_0 x0_1 x0_2 x0_3_0 x0_3_1 x0_3_2 k
theorem f_ex : ∃ g, g = f0 := ⟨_, rfl⟩
noncomputable def f := Classical.choose f_ex
theorem f_def : f = f0 := Classical.choose_spec f_ex
noncomputable def JJ (k kp : KT) : Nat → St → Prop := pick none' []
noncomputable def LL (k kp : KT) : Nat → St → Prop := pick none' []
theorem c_c (k kp : KT) (J L : Nat → St → Prop) (x0_0 x0_1 : Int) (x0_2 x0_3_0 : Int) (x0_3_1 x0_3_2 : Int) : runC cfg 1000001 J L none'' [] body (topK cfg Try.f26 k kp) (st0 Try.f26 [(.agg [(.v (.int .i64 x0_0)), (.v (.int .i64 x0_1)), (.v (.int .i64 x0_2)), (.v (.int .i64 x0_3_0)), (.v (.int .i64 x0_3_1)), (.v (.int .i64 x0_3_2))])] []) = c x0_0 x0_1 x0_2 x0_3_0 x0_3_1 x0_3_2 (fun y0 => k (.v (.string y0)) []) := by kernel_rfl
theorem c_ag (k kp : KT) : agPL cfg 1000001 (JJ k kp) (LL k kp) [] body = agPR cfg 1000001 none'' [] body (topK cfg Try.f26 k kp) := by kernel_rfl
theorem body_is : Try.f26.body = some body := by kernel_rfl
theorem c_raw (k kp : KT) (x0_0 x0_1 : Int) (x0_2 x0_3_0 : Int) (x0_3_1 x0_3_2 : Int) : funW cfg Try.f26 [(.agg [(.v (.int .i64 x0_0)), (.v (.int .i64 x0_1)), (.v (.int .i64 x0_2)), (.v (.int .i64 x0_3_0)), (.v (.int .i64 x0_3_1)), (.v (.int .i64 x0_3_2))])] [] k kp = c x0_0 x0_1 x0_2 x0_3_0 x0_3_1 x0_3_2 (fun y0 => k (.v (.string y0)) []) :=
  Eq.mp (by kernel_rfl) ((funW_run (AG := none'') body_is (c_ag k kp) [(.agg [(.v (.int .i64 x0_0)), (.v (.int .i64 x0_1)), (.v (.int .i64 x0_2)), (.v (.int .i64 x0_3_0)), (.v (.int .i64 x0_3_1)), (.v (.int .i64 x0_3_2))])] []).trans (c_c k kp (JJ k kp) (LL k kp) x0_0 x0_1 x0_2 x0_3_0 x0_3_1 x0_3_2))
theorem f_eq (k kp : KT) (x0_0 x0_1 : Int) (x0_2 x0_3_0 : Int) (x0_3_1 x0_3_2 : Int) : funW cfg Try.f26 [(.agg [(.v (.int .i64 x0_0)), (.v (.int .i64 x0_1)), (.v (.int .i64 x0_2)), (.v (.int .i64 x0_3_0)), (.v (.int .i64 x0_3_1)), (.v (.int .i64 x0_3_2))])] [] k kp = f x0_0 x0_1 x0_2 x0_3_0 x0_3_1 x0_3_2 (fun y0 => k (.v (.string y0)) []) := by
  rw [f_def, c_raw]; rfl
noncomputable def ent0 : Entry := fun args blks k _ => match args, blks with
  | [d0], [] => aAgg 6 d0 fun l => aCons l fun d0_0 l => aCons l fun d0_1 l => aCons l fun d0_2 l => aCons l fun d0_3 l => aCons l fun d0_4 l => aCons l fun d0_5 l => aNil l (aInt IntKind.i64 d0_0 fun x0_0 => aInt IntKind.i64 d0_1 fun x0_1 => aInt IntKind.i64 d0_2 fun x0_2 => aInt IntKind.i64 d0_3 fun x0_3_0 => aInt IntKind.i64 d0_4 fun x0_3_1 => aInt IntKind.i64 d0_5 fun x0_3_2 => f x0_0 x0_1 x0_2 x0_3_0 x0_3_1 x0_3_2 (fun y0 => k (.v (.string y0)) []))
  | _, _ => False
noncomputable def ent : Entry := fun args blks k kp => ent0 (convB [.no] args) blks k kp
theorem ok : EntOk Try.prog 0 0 26 ent := by
  refine EntOk.convB (EntOk.of (funW_ok (cfg := cfg) (tyOk_of rfl rfl tyL_ok) (eqOk_of (P := Try.prog) rfl rfl (by kernel_rfl)) mixed_ok (tab_ok ?_) Try.func26 (by rfl) (by rfl)) ?_) _
  · intro p hp
    simp only [List.mem_cons, List.not_mem_nil, or_false] at hp
    rcases hp with rfl | rfl
    · exact N43.ok
    · exact N45.ok
  · intro args blks k kp h k' kp'
    match args, blks, h with
    | [d0], [], h =>
    dsimp only [ent0] at h
    have h9 := aAgg_elim h; clear h; obtain ⟨_, rfl, h⟩ := h9
    have h9 := aCons_elim h; clear h; obtain ⟨d0_0, _, rfl, h⟩ := h9
    have h9 := aCons_elim h; clear h; obtain ⟨d0_1, _, rfl, h⟩ := h9
    have h9 := aCons_elim h; clear h; obtain ⟨d0_2, _, rfl, h⟩ := h9
    have h9 := aCons_elim h; clear h; obtain ⟨d0_3, _, rfl, h⟩ := h9
    have h9 := aCons_elim h; clear h; obtain ⟨d0_4, _, rfl, h⟩ := h9
    have h9 := aCons_elim h; clear h; obtain ⟨d0_5, _, rfl, h⟩ := h9
    have h9 := aNil_elim h; clear h; obtain ⟨rfl, h⟩ := h9
    have h9 := aInt_elim h; clear h; obtain ⟨x0_0, rfl, h⟩ := h9
    have h9 := aInt_elim h; clear h; obtain ⟨x0_1, rfl, h⟩ := h9
    have h9 := aInt_elim h; clear h; obtain ⟨x0_2, rfl, h⟩ := h9
    have h9 := aInt_elim h; clear h; obtain ⟨x0_3_0, rfl, h⟩ := h9
    have h9 := aInt_elim h; clear h; obtain ⟨x0_3_1, rfl, h⟩ := h9
    have h9 := aInt_elim h; clear h; obtain ⟨x0_3_2, rfl, h⟩ := h9
    exact (f_eq k' kp' x0_0 x0_1 x0_2 x0_3_0 x0_3_1 x0_3_2).symm
end N26
end Go.Proofs.Yh

namespace Go.Proofs.Yh
open Go Go.Aw Go.Proofs
set_option maxRecDepth 100000
set_option maxHeartbeats 4000000
namespace N52
noncomputable def cfg : Cfg := { P := Try.prog, ty := tys, E := tab [(43, N43.ent), (27, N27.ent)], atSeq := tab [], atLoop := tab [], outs := [], eqT := tab [], bT := tab [] }
noncomputable def body : Code := bodyOf Try.f52
def c (x1 : BA) (x2 : Int) (b0 : BA) (k : BA → Prop) : Prop :=
  (N43.f x2 (fun (y0_0 : BA) => (((x1).size + (y0_0).size ≤ 9223372036854775807) ∧ (ws (x1 ++ y0_0) b0 (fun (y_1 : Int) (z_1 : BA) => (k z_1))))))
def f0 (x1 : BA) (x2 : Int) (b0 : BA) (k : BA → Prop) : Prop := c x1 x2 b0 k
theorem f_ex : ∃ g, g = f0 := ⟨_, rfl⟩
noncomputable def f := Classical.choose f_ex
theorem f_def : f = f0 := Classical.choose_spec f_ex
noncomputable def JJ (k kp : KT) : Nat → St → Prop := pick none' []
noncomputable def LL (k kp : KT) : Nat → St → Prop := pick none' []
theorem c_c (k kp : KT) (J L : Nat → St → Prop) (x1 : BA) (x2 : Int) (b0 : BA) : runC cfg 1000001 J L none'' [] body (topK cfg Try.f52 k kp) (st0 Try.f52 [(.ptr 0 0), (.v (.string x1)), (.v (.int .i64 x2))] [(.bld 97 5 b0)]) = c x1 x2 b0 (fun z0 => k (.tup []) [(.bld 97 5 z0)]) := by kernel_rfl
theorem c_ag (k kp : KT) : agPL cfg 1000001 (JJ k kp) (LL k kp) [] body = agPR cfg 1000001 none'' [] body (topK cfg Try.f52 k kp) := by kernel_rfl
theorem body_is : Try.f52.body = some body := by kernel_rfl
theorem c_raw (k kp : KT) (x1 : BA) (x2 : Int) (b0 : BA) : funW cfg Try.f52 [(.ptr 0 0), (.v (.string x1)), (.v (.int .i64 x2))] [(.bld 97 5 b0)] k kp = c x1 x2 b0 (fun z0 => k (.tup []) [(.bld 97 5 z0)]) :=
  Eq.mp (by kernel_rfl) ((funW_run (AG := none'') body_is (c_ag k kp) [(.ptr 0 0), (.v (.string x1)), (.v (.int .i64 x2))] [(.bld 97 5 b0)]).trans (c_c k kp (JJ k kp) (LL k kp) x1 x2 b0))
theorem f_eq (k kp : KT) (x1 : BA) (x2 : Int) (b0 : BA) : funW cfg Try.f52 [(.ptr 0 0), (.v (.string x1)), (.v (.int .i64 x2))] [(.bld 97 5 b0)] k kp = f x1 x2 b0 (fun z0 => k (.tup []) [(.bld 97 5 z0)]) := by
  rw [f_def, c_raw]; rfl
noncomputable def ent0 : Entry := fun args blks k _ => match args, blks with
  | [d0, d1, d2], [e0] => aPtr 0 0 d0 (aStr d1 fun x1 => aInt IntKind.i64 d2 fun x2 => aBld 97 5 e0 fun b0 => f x1 x2 b0 (fun z0 => k (.tup []) [(.bld 97 5 z0)]))
  | _, _ => False
noncomputable def ent : Entry := fun args blks k kp => ent0 (convB [.no, .no, .no] args) blks k kp
theorem ok : EntOk Try.prog 0 0 52 ent := by
  refine EntOk.convB (EntOk.of (funW_ok (cfg := cfg) (tyOk_of rfl rfl tyL_ok) (eqOk_of (P := Try.prog) rfl rfl (by kernel_rfl)) mixed_ok (tab_ok ?_) Try.func52 (by rfl) (by rfl)) ?_) _
  · intro p hp
    simp only [List.mem_cons, List.not_mem_nil, or_false] at hp
    rcases hp with rfl | rfl
    · exact N43.ok
    · exact N27.ok
  · intro args blks k kp h k' kp'
    match args, blks, h with
    | [d0, d1, d2], [e0], h =>
    dsimp only [ent0] at h
    have h9 := aPtr_elim h; clear h; obtain ⟨rfl, h⟩ := h9
    have h9 := aStr_elim h; clear h; obtain ⟨x1, rfl, h⟩ := h9
    have h9 := aInt_elim h; clear h; obtain ⟨x2, rfl, h⟩ := h9
    have h9 := aBld_elim h; clear h; obtain ⟨b0, rfl, h⟩ := h9
    exact (f_eq k' kp' x1 x2 b0).symm
end N52
end Go.Proofs.Yh

namespace Go.Proofs.Yh
open Go Go.Aw Go.Proofs
set_option maxRecDepth 100000
set_option maxHeartbeats 4000000
namespace N24
noncomputable def cfg : Cfg := { P := Try.prog, ty := tys, E := tab [(52, N52.ent), (27, N27.ent), (53, N53.ent), (16, N16.ent), (31, N31.ent), (26, N26.ent)], atSeq := tab [(17, ⟨[(3, .keep)]⟩), (13, ⟨[(3, .keep), (7, .keep), (15, .keep), (16, .keep), (17, .keep), (30, .keep), (31, .keep), (32, .keep)]⟩), (15, ⟨[(3, .keep), (15, .keep), (16, .keep), (17, .keep)]⟩), (14, ⟨[(3, .keep), (15, .keep), (16, .keep), (17, .keep), (30, .keep), (31, .keep), (32, .keep)]⟩), (16, ⟨[(3, .keep), (15, .keep), (16, .keep), (17, .keep)]⟩)], atLoop := tab [(5, ⟨[(3, .keep), (15, .keep), (16, .keep), (17, .keep)]⟩), (9, ⟨[(3, .keep), (15, .keep), (16, .keep), (17, .keep), (30, .keep), (31, .keep), (32, .keep)]⟩)], outs := [], eqT := tab [], bT := tab [(97, 5)], fzB := [1] }
noncomputable def body : Code := bodyOf Try.f24
def l5 (l9 : (List Zq3) → Int → Int → Zq3 → Int → Int → BA → Prop) (j17 : BA → Prop) (x15 : (List Zq3)) (x16 x17 : Int) (b0 : BA) (k : BA → Prop) : Prop :=
  (br (decide (x17 < x16)) ((inB 0 x17 ((((x15).length : Nat) : Int) - 1)) ∧ ((inB 0 (0 : Int) (((((x15.getD (Int.toNat x17) (([] : List (Int × (Int × Zq1)))))).length : Nat) : Int) - 1)) ∧ (N16.f ((x15.getD (Int.toNat x17) (([] : List (Int × (Int × Zq1))))).getD (Int.toNat (0 : Int)) ((0, (0, (0, (0, (0, 0))))))).1 (fun (y0_2 : BA) => ((((ByteArray.mk #[32, 32])).size + (y0_2).size ≤ 9223372036854775807) ∧ (((((ByteArray.mk #[32, 32]) ++ y0_2)).size + ((ByteArray.mk #[58, 32])).size ≤ 9223372036854775807) ∧ (ws (((ByteArray.mk #[32, 32]) ++ y0_2) ++ (ByteArray.mk #[58, 32])) b0 (fun (y_3 : Int) (z_3 : BA) => (l9 x15 x16 x17 (x15.getD (Int.toNat x17) (([] : List (Int × (Int × Zq1))))) (((((x15.getD (Int.toNat x17) (([] : List (Int × (Int × Zq1)))))).length : Nat) : Int)) (0 : Int) z_3))))))))) (j17 b0))
def l9 (j13 : (List Zq3) → Int → Int → Zq3 → Int → Int → BA → Int → Int → Int → Int → Int → Int → Prop) (j15 : (List Zq3) → Int → Int → BA → Prop) (x15 : (List Zq3)) (x16 x17 : Int) (x30 : Zq3) (x31 x32 : Int) (b0 : BA) (k : BA → Prop) : Prop :=
  (br (decide (x32 < x31)) ((inB 0 x32 ((((x30).length : Nat) : Int) - 1)) ∧ (br (decide (x32 > (0 : Int))) (ws (ByteArray.mk #[44, 32]) b0 (fun (y_4 : Int) (z_4 : BA) => (j13 x15 x16 x17 x30 x31 x32 z_4 (x30.getD (Int.toNat x32) ((0, (0, (0, (0, (0, 0))))))).1 (x30.getD (Int.toNat x32) ((0, (0, (0, (0, (0, 0))))))).2.1 (x30.getD (Int.toNat x32) ((0, (0, (0, (0, (0, 0))))))).2.2.1 (x30.getD (Int.toNat x32) ((0, (0, (0, (0, (0, 0))))))).2.2.2.1 (x30.getD (Int.toNat x32) ((0, (0, (0, (0, (0, 0))))))).2.2.2.2.1 (x30.getD (Int.toNat x32) ((0, (0, (0, (0, (0, 0))))))).2.2.2.2.2))) (j13 x15 x16 x17 x30 x31 x32 b0 (x30.getD (Int.toNat x32) ((0, (0, (0, (0, (0, 0))))))).1 (x30.getD (Int.toNat x32) ((0, (0, (0, (0, (0, 0))))))).2.1 (x30.getD (Int.toNat x32) ((0, (0, (0, (0, (0, 0))))))).2.2.1 (x30.getD (Int.toNat x32) ((0, (0, (0, (0, (0, 0))))))).2.2.2.1 (x30.getD (Int.toNat x32) ((0, (0, (0, (0, (0, 0))))))).2.2.2.2.1 (x30.getD (Int.toNat x32) ((0, (0, (0, (0, (0, 0))))))).2.2.2.2.2))) (j15 x15 x16 x17 b0))
def j17 (b0 : BA) (k : BA → Prop) : Prop :=
  (ws (ByteArray.mk #[125, 10]) b0 (fun (y_5 : Int) (z_5 : BA) => (bs z_5 (fun (y_6 : BA) => (k y_6)))))
def j13 (j14 : (List Zq3) → Int → Int → Zq3 → Int → Int → BA → Prop) (x15 : (List Zq3)) (x16 x17 : Int) (x30 : Zq3) (x31 x32 : Int) (b0 : BA) (b1_0 b1_1 : Int) (b1_2 b1_3 : Int) (b1_4 b1_5 : Int) (k : BA → Prop) : Prop :=
  (N26.f b1_0 b1_1 b1_2 b1_3 b1_4 b1_5 (fun (y0_7 : BA) => (ws y0_7 b0 (fun (y_8 : Int) (z_8 : BA) => (j14 x15 x16 x17 x30 x31 x32 z_8)))))
def j15 (j16 : (List Zq3) → Int → Int → BA → Prop) (x15 : (List Zq3)) (x16 x17 : Int) (b0 : BA) (k : BA → Prop) : Prop :=
  (ws (ByteArray.mk #[59, 10]) b0 (fun (y_9 : Int) (z_9 : BA) => (j16 x15 x16 x17 z_9)))
def j14 (ag9 : Int → BA → Prop) (x15 : (List Zq3)) (x16 x17 : Int) (x30 : Zq3) (x31 x32 : Int) (b0 : BA) (k : BA → Prop) : Prop :=
  (ag9 (IntKind.i64.wrap (x32 + (1 : Int))) b0)
def j16 (ag5 : Int → BA → Prop) (x15 : (List Zq3)) (x16 x17 : Int) (b0 : BA) (k : BA → Prop) : Prop :=
  (ag5 (IntKind.i64.wrap (x17 + (1 : Int))) b0)
def c (l5 : (List Zq3) → Int → Int → BA → Prop) (x0_0 : Int) (x0_1 : Zq3) (k : BA → Prop) : Prop :=
  (N52.f (ByteArray.mk #[97, 108, 108, 111, 99, 32, 115, 108, 111, 116, 115, 32]) x0_0 ByteArray.empty (fun (z0_0 : BA) => (ws (ByteArray.mk #[32, 123, 10]) z0_0 (fun (y_1 : Int) (z_1 : BA) => (((x0_1).length ≤ 1000000) ∧ (l5 (rowsOf Prod.fst x0_1) (((((rowsOf Prod.fst x0_1)).length : Nat) : Int)) (0 : Int) z_1))))))
def j17' (b0 : BA) (k : BA → Prop) : Prop := j17 b0 k
def j14' (ag9 : Int → BA → Prop) (x15 : (List Zq3)) (x16 x17 : Int) (x30 : Zq3) (x31 x32 : Int) (b0 : BA) (k : BA → Prop) : Prop := j14 ag9 x15 x16 x17 x30 x31 x32 b0 k
def j16' (ag5 : Int → BA → Prop) (x15 : (List Zq3)) (x16 x17 : Int) (b0 : BA) (k : BA → Prop) : Prop := j16 ag5 x15 x16 x17 b0 k
def j13' (ag9 : Int → BA → Prop) (x15 : (List Zq3)) (x16 x17 : Int) (x30 : Zq3) (x31 x32 : Int) (b0 : BA) (b1_0 b1_1 : Int) (b1_2 b1_3 : Int) (b1_4 b1_5 : Int) (k : BA → Prop) : Prop := j13 (fun x15 x16 x17 x30 x31 x32 b0 => j14' ag9 x15 x16 x17 x30 x31 x32 b0 k) x15 x16 x17 x30 x31 x32 b0 b1_0 b1_1 b1_2 b1_3 b1_4 b1_5 k
def j15' (ag5 : Int → BA → Prop) (x15 : (List Zq3)) (x16 x17 : Int) (b0 : BA) (k : BA → Prop) : Prop := j15 (fun x15 x16 x17 b0 => j16' ag5 x15 x16 x17 b0 k) x15 x16 x17 b0 k
def l9' (ag5 : Int → BA → Prop) (x15 : (List Zq3)) (x16 x17 : Int) (x30 : Zq3) (x31 x32 : Int) (b0 : BA) (k : BA → Prop) : Prop := ∃ n, loopS (fun (ag : (Int × BA) → Prop) (s : Int × BA) => l9 (fun x15 x16 x17 x30 x31 x32 b0 b1_0 b1_1 b1_2 b1_3 b1_4 b1_5 => j13' (fun x32 b0 => ag (x32, b0)) x15 x16 x17 x30 x31 x32 b0 b1_0 b1_1 b1_2 b1_3 b1_4 b1_5 k) (fun x15 x16 x17 b0 => j15' ag5 x15 x16 x17 b0 k) x15 x16 x17 x30 x31 s.1 s.2 k) n (x32, b0)
def l5' (x15 : (List Zq3)) (x16 x17 : Int) (b0 : BA) (k : BA → Prop) : Prop := ∃ n, loopS (fun (ag : (Int × BA) → Prop) (s : Int × BA) => l5 (fun x15 x16 x17 x30 x31 x32 b0 => l9' (fun x17 b0 => ag (x17, b0)) x15 x16 x17 x30 x31 x32 b0 k) (fun b0 => j17' b0 k) x15 x16 s.1 s.2 k) n (x17, b0)
def f0 (x0_0 : Int) (x0_1 : Zq3) (k : BA → Prop) : Prop := c (fun x15 x16 x17 b0 => l5' x15 x16 x17 b0 k) x0_0 x0_1 k
theorem f_ex : ∃ g, g = f0 := ⟨_, rfl⟩
noncomputable def f := Classical.choose f_ex
theorem f_def : f = f0 := Classical.choose_spec f_ex
def mL5 (x15 : (List Zq3)) (x16 x17 : Int) (b0 : BA) : St := { tmps := mkT 53 0 [(3, (.ptr 0 0)), (15, (.fz (Ty.list Zy4) x15)), (16, (.v (.int .i64 x16))), (17, (.v (.int .i64 x17)))], hp := [(.bld 97 5 b0)], m := 0 }
def mL9 (x15 : (List Zq3)) (x16 x17 : Int) (x30 : Zq3) (x31 x32 : Int) (b0 : BA) : St := { tmps := mkT 53 0 [(3, (.ptr 0 0)), (15, (.fz (Ty.list Zy4) x15)), (16, (.v (.int .i64 x16))), (17, (.v (.int .i64 x17))), (30, (.fz Zy4 x30)), (31, (.v (.int .i64 x31))), (32, (.v (.int .i64 x32)))], hp := [(.bld 97 5 b0)], m := 0 }
def m17 (b0 : BA) : St := { tmps := mkT 53 0 [(3, (.ptr 0 0))], hp := [(.bld 97 5 b0)], m := 0 }
def m13 (x15 : (List Zq3)) (x16 x17 : Int) (x30 : Zq3) (x31 x32 : Int) (b0 : BA) (b1_0 b1_1 : Int) (b1_2 b1_3 : Int) (b1_4 b1_5 : Int) : St := { tmps := mkT 53 0 [(3, (.ptr 0 0)), (7, (.ptr 1 0)), (15, (.fz (Ty.list Zy4) x15)), (16, (.v (.int .i64 x16))), (17, (.v (.int .i64 x17))), (30, (.fz Zy4 x30)), (31, (.v (.int .i64 x31))), (32, (.v (.int .i64 x32)))], hp := [(.bld 97 5 b0), (.box 61 [(.v (.int .i64 b1_0)), (.v (.int .i64 b1_1)), (.v (.int .i64 b1_2)), (.v (.int .i64 b1_3)), (.v (.int .i64 b1_4)), (.v (.int .i64 b1_5))])], m := 0 }
def m15 (x15 : (List Zq3)) (x16 x17 : Int) (b0 : BA) : St := { tmps := mkT 53 0 [(3, (.ptr 0 0)), (15, (.fz (Ty.list Zy4) x15)), (16, (.v (.int .i64 x16))), (17, (.v (.int .i64 x17)))], hp := [(.bld 97 5 b0)], m := 0 }
def m14 (x15 : (List Zq3)) (x16 x17 : Int) (x30 : Zq3) (x31 x32 : Int) (b0 : BA) : St := { tmps := mkT 53 0 [(3, (.ptr 0 0)), (15, (.fz (Ty.list Zy4) x15)), (16, (.v (.int .i64 x16))), (17, (.v (.int .i64 x17))), (30, (.fz Zy4 x30)), (31, (.v (.int .i64 x31))), (32, (.v (.int .i64 x32)))], hp := [(.bld 97 5 b0)], m := 0 }
def m16 (x15 : (List Zq3)) (x16 x17 : Int) (b0 : BA) : St := { tmps := mkT 53 0 [(3, (.ptr 0 0)), (15, (.fz (Ty.list Zy4) x15)), (16, (.v (.int .i64 x16))), (17, (.v (.int .i64 x17)))], hp := [(.bld 97 5 b0)], m := 0 }
noncomputable def YL5 (k kp : KT) : (St → Prop) → St → Prop := loopB cfg (sub [1, 1, 1, 1, 0, 1, 0, 0] body) (contK cfg (pick none' []) [1, 1, 1, 1, 0, 1, 0] body (topK cfg Try.f24 k kp))
noncomputable def XL5 (k kp : KT) : St → Prop := fun st => ∃ n, loopN (YL5 k kp) n st
noncomputable def YL9 (k kp : KT) (ag5 : St → Prop) : (St → Prop) → St → Prop := loopB cfg (sub [1, 1, 1, 1, 0, 1, 0, 0, 1, 1, 0, 0, 1, 1, 0, 1, 0, 0] body) (contK cfg (pick none' [(5, ag5)]) [1, 1, 1, 1, 0, 1, 0, 0, 1, 1, 0, 0, 1, 1, 0, 1, 0] body (topK cfg Try.f24 k kp))
noncomputable def XL9 (k kp : KT) (ag5 : St → Prop) : St → Prop := fun st => ∃ n, loopN (YL9 k kp ag5) n st
noncomputable def X17 (k kp : KT) : St → Prop := atP cfg (pick none' []) [1, 1, 1, 1, 1] body (topK cfg Try.f24 k kp)
noncomputable def X13 (k kp : KT) (ag5 : St → Prop) (ag9 : St → Prop) : St → Prop := atP cfg (pick none' [(5, ag5), (9, ag9)]) [1, 1, 1, 1, 0, 1, 0, 0, 1, 1, 0, 0, 1, 1, 0, 1, 0, 0, 1, 1, 0, 0, 1, 1] body (topK cfg Try.f24 k kp)
noncomputable def X15 (k kp : KT) (ag5 : St → Prop) : St → Prop := atP cfg (pick none' [(5, ag5)]) [1, 1, 1, 1, 0, 1, 0, 0, 1, 1, 0, 0, 1, 1, 1] body (topK cfg Try.f24 k kp)
noncomputable def X14 (k kp : KT) (ag5 : St → Prop) (ag9 : St → Prop) : St → Prop := atP cfg (pick none' [(5, ag5), (9, ag9)]) [1, 1, 1, 1, 0, 1, 0, 0, 1, 1, 0, 0, 1, 1, 0, 1, 0, 0, 1, 1, 1] body (topK cfg Try.f24 k kp)
noncomputable def X16 (k kp : KT) (ag5 : St → Prop) : St → Prop := atP cfg (pick none' [(5, ag5)]) [1, 1, 1, 1, 0, 1, 0, 0, 1, 1, 1] body (topK cfg Try.f24 k kp)
noncomputable def JJ_5 (k kp : KT) (ag5 : St → Prop) : Nat → St → Prop := pick none' [(17, X17 k kp), (15, X15 k kp ag5), (16, X16 k kp ag5)]
noncomputable def LL_5 (k kp : KT) (ag5 : St → Prop) : Nat → St → Prop := pick none' [(5, XL5 k kp), (9, XL9 k kp ag5)]
noncomputable def JJ_5_9 (k kp : KT) (ag5 : St → Prop) (ag9 : St → Prop) : Nat → St → Prop := pick none' [(17, X17 k kp), (13, X13 k kp ag5 ag9), (15, X15 k kp ag5), (14, X14 k kp ag5 ag9), (16, X16 k kp ag5)]
noncomputable def LL_5_9 (k kp : KT) (ag5 : St → Prop) (ag9 : St → Prop) : Nat → St → Prop := pick none' [(5, XL5 k kp), (9, XL9 k kp ag5)]
noncomputable def JJ (k kp : KT) : Nat → St → Prop := pick none' [(17, X17 k kp)]
noncomputable def LL (k kp : KT) : Nat → St → Prop := pick none' [(5, XL5 k kp)]
theorem j17_c (k kp : KT) (J L : Nat → St → Prop) (b0 : BA) : runC cfg 17 J L (pick none' []) [1, 1, 1, 1, 1] body (topK cfg Try.f24 k kp) (m17 b0) = j17 b0 (fun y0 => k (.v (.string y0)) []) := by kernel_rfl
theorem j17_ag (k kp : KT) : agPL cfg 17 (JJ k kp) (LL k kp) [1, 1, 1, 1, 1] body = agPR cfg 17 (pick none' []) [1, 1, 1, 1, 1] body (topK cfg Try.f24 k kp) := by kernel_rfl
theorem j17_raw (k kp : KT) (b0 : BA) : X17 k kp (m17 b0) = j17 b0 (fun y0 => k (.v (.string y0)) []) :=
  Eq.mp (by kernel_rfl) ((atP_run (j17_ag k kp) (m17 b0)).trans (j17_c k kp (JJ k kp) (LL k kp) b0))
theorem j17_eq (k kp : KT) (b0 : BA) : X17 k kp (m17 b0) = j17' b0 (fun y0 => k (.v (.string y0)) []) := by
  rw [j17_raw]; rfl
theorem j14_c (k kp : KT) (J L : Nat → St → Prop) (ag5 : St → Prop) (ag9 : St → Prop) (x15 : (List Zq3)) (x16 x17 : Int) (x30 : Zq3) (x31 x32 : Int) (b0 : BA) : runC cfg 14 J L (pick none' [(5, ag5), (9, ag9)]) [1, 1, 1, 1, 0, 1, 0, 0, 1, 1, 0, 0, 1, 1, 0, 1, 0, 0, 1, 1, 1] body (topK cfg Try.f24 k kp) (m14 x15 x16 x17 x30 x31 x32 b0) = j14 (fun x32 b0 => ag9 (mL9 x15 x16 x17 x30 x31 x32 b0)) x15 x16 x17 x30 x31 x32 b0 (fun y0 => k (.v (.string y0)) []) := by kernel_rfl
theorem j14_ag (k kp : KT) (ag5 : St → Prop) (ag9 : St → Prop) : agPL cfg 14 (JJ_5_9 k kp ag5 ag9) (LL_5_9 k kp ag5 ag9) [1, 1, 1, 1, 0, 1, 0, 0, 1, 1, 0, 0, 1, 1, 0, 1, 0, 0, 1, 1, 1] body = agPR cfg 14 (pick none' [(5, ag5), (9, ag9)]) [1, 1, 1, 1, 0, 1, 0, 0, 1, 1, 0, 0, 1, 1, 0, 1, 0, 0, 1, 1, 1] body (topK cfg Try.f24 k kp) := by kernel_rfl
theorem j14_raw (k kp : KT) (ag5 : St → Prop) (ag9 : St → Prop) (x15 : (List Zq3)) (x16 x17 : Int) (x30 : Zq3) (x31 x32 : Int) (b0 : BA) : X14 k kp ag5 ag9 (m14 x15 x16 x17 x30 x31 x32 b0) = j14 (fun x32 b0 => ag9 (mL9 x15 x16 x17 x30 x31 x32 b0)) x15 x16 x17 x30 x31 x32 b0 (fun y0 => k (.v (.string y0)) []) :=
  Eq.mp (by kernel_rfl) ((atP_run (j14_ag k kp ag5 ag9) (m14 x15 x16 x17 x30 x31 x32 b0)).trans (j14_c k kp (JJ_5_9 k kp ag5 ag9) (LL_5_9 k kp ag5 ag9) ag5 ag9 x15 x16 x17 x30 x31 x32 b0))
theorem j14_eq (k kp : KT) (ag5 : St → Prop) (ag9 : St → Prop) (x15 : (List Zq3)) (x16 x17 : Int) (x30 : Zq3) (x31 x32 : Int) (b0 : BA) : X14 k kp ag5 ag9 (m14 x15 x16 x17 x30 x31 x32 b0) = j14' (fun x32 b0 => ag9 (mL9 x15 x16 x17 x30 x31 x32 b0)) x15 x16 x17 x30 x31 x32 b0 (fun y0 => k (.v (.string y0)) []) := by
  rw [j14_raw]; rfl
theorem j16_c (k kp : KT) (J L : Nat → St → Prop) (ag5 : St → Prop) (x15 : (List Zq3)) (x16 x17 : Int) (b0 : BA) : runC cfg 16 J L (pick none' [(5, ag5)]) [1, 1, 1, 1, 0, 1, 0, 0, 1, 1, 1] body (topK cfg Try.f24 k kp) (m16 x15 x16 x17 b0) = j16 (fun x17 b0 => ag5 (mL5 x15 x16 x17 b0)) x15 x16 x17 b0 (fun y0 => k (.v (.string y0)) []) := by kernel_rfl
theorem j16_ag (k kp : KT) (ag5 : St → Prop) : agPL cfg 16 (JJ_5 k kp ag5) (LL_5 k kp ag5) [1, 1, 1, 1, 0, 1, 0, 0, 1, 1, 1] body = agPR cfg 16 (pick none' [(5, ag5)]) [1, 1, 1, 1, 0, 1, 0, 0, 1, 1, 1] body (topK cfg Try.f24 k kp) := by kernel_rfl
theorem j16_raw (k kp : KT) (ag5 : St → Prop) (x15 : (List Zq3)) (x16 x17 : Int) (b0 : BA) : X16 k kp ag5 (m16 x15 x16 x17 b0) = j16 (fun x17 b0 => ag5 (mL5 x15 x16 x17 b0)) x15 x16 x17 b0 (fun y0 => k (.v (.string y0)) []) :=
  Eq.mp (by kernel_rfl) ((atP_run (j16_ag k kp ag5) (m16 x15 x16 x17 b0)).trans (j16_c k kp (JJ_5 k kp ag5) (LL_5 k kp ag5) ag5 x15 x16 x17 b0))
theorem j16_eq (k kp : KT) (ag5 : St → Prop) (x15 : (List Zq3)) (x16 x17 : Int) (b0 : BA) : X16 k kp ag5 (m16 x15 x16 x17 b0) = j16' (fun x17 b0 => ag5 (mL5 x15 x16 x17 b0)) x15 x16 x17 b0 (fun y0 => k (.v (.string y0)) []) := by
  rw [j16_raw]; rfl
theorem j13_c (k kp : KT) (J L : Nat → St → Prop) (ag5 : St → Prop) (ag9 : St → Prop) (x15 : (List Zq3)) (x16 x17 : Int) (x30 : Zq3) (x31 x32 : Int) (b0 : BA) (b1_0 b1_1 : Int) (b1_2 b1_3 : Int) (b1_4 b1_5 : Int) : runC cfg 13 J L (pick none' [(5, ag5), (9, ag9)]) [1, 1, 1, 1, 0, 1, 0, 0, 1, 1, 0, 0, 1, 1, 0, 1, 0, 0, 1, 1, 0, 0, 1, 1] body (topK cfg Try.f24 k kp) (m13 x15 x16 x17 x30 x31 x32 b0 b1_0 b1_1 b1_2 b1_3 b1_4 b1_5) = j13 (fun x15 x16 x17 x30 x31 x32 b0 => J 14 (m14 x15 x16 x17 x30 x31 x32 b0)) x15 x16 x17 x30 x31 x32 b0 b1_0 b1_1 b1_2 b1_3 b1_4 b1_5 (fun y0 => k (.v (.string y0)) []) := by kernel_rfl
theorem j13_ag (k kp : KT) (ag5 : St → Prop) (ag9 : St → Prop) : agPL cfg 13 (JJ_5_9 k kp ag5 ag9) (LL_5_9 k kp ag5 ag9) [1, 1, 1, 1, 0, 1, 0, 0, 1, 1, 0, 0, 1, 1, 0, 1, 0, 0, 1, 1, 0, 0, 1, 1] body = agPR cfg 13 (pick none' [(5, ag5), (9, ag9)]) [1, 1, 1, 1, 0, 1, 0, 0, 1, 1, 0, 0, 1, 1, 0, 1, 0, 0, 1, 1, 0, 0, 1, 1] body (topK cfg Try.f24 k kp) := by kernel_rfl
theorem j13_raw (k kp : KT) (ag5 : St → Prop) (ag9 : St → Prop) (x15 : (List Zq3)) (x16 x17 : Int) (x30 : Zq3) (x31 x32 : Int) (b0 : BA) (b1_0 b1_1 : Int) (b1_2 b1_3 : Int) (b1_4 b1_5 : Int) : X13 k kp ag5 ag9 (m13 x15 x16 x17 x30 x31 x32 b0 b1_0 b1_1 b1_2 b1_3 b1_4 b1_5) = j13 (fun x15 x16 x17 x30 x31 x32 b0 => X14 k kp ag5 ag9 (m14 x15 x16 x17 x30 x31 x32 b0)) x15 x16 x17 x30 x31 x32 b0 b1_0 b1_1 b1_2 b1_3 b1_4 b1_5 (fun y0 => k (.v (.string y0)) []) :=
  Eq.mp (by kernel_rfl) ((atP_run (j13_ag k kp ag5 ag9) (m13 x15 x16 x17 x30 x31 x32 b0 b1_0 b1_1 b1_2 b1_3 b1_4 b1_5)).trans (j13_c k kp (JJ_5_9 k kp ag5 ag9) (LL_5_9 k kp ag5 ag9) ag5 ag9 x15 x16 x17 x30 x31 x32 b0 b1_0 b1_1 b1_2 b1_3 b1_4 b1_5))
theorem j13_eq (k kp : KT) (ag5 : St → Prop) (ag9 : St → Prop) (x15 : (List Zq3)) (x16 x17 : Int) (x30 : Zq3) (x31 x32 : Int) (b0 : BA) (b1_0 b1_1 : Int) (b1_2 b1_3 : Int) (b1_4 b1_5 : Int) : X13 k kp ag5 ag9 (m13 x15 x16 x17 x30 x31 x32 b0 b1_0 b1_1 b1_2 b1_3 b1_4 b1_5) = j13' (fun x32 b0 => ag9 (mL9 x15 x16 x17 x30 x31 x32 b0)) x15 x16 x17 x30 x31 x32 b0 b1_0 b1_1 b1_2 b1_3 b1_4 b1_5 (fun y0 => k (.v (.string y0)) []) := by
  rw [j13_raw]; simp only [j14_eq]; first | done | rfl
theorem j15_c (k kp : KT) (J L : Nat → St → Prop) (ag5 : St → Prop) (x15 : (List Zq3)) (x16 x17 : Int) (b0 : BA) : runC cfg 15 J L (pick none' [(5, ag5)]) [1, 1, 1, 1, 0, 1, 0, 0, 1, 1, 0, 0, 1, 1, 1] body (topK cfg Try.f24 k kp) (m15 x15 x16 x17 b0) = j15 (fun x15 x16 x17 b0 => J 16 (m16 x15 x16 x17 b0)) x15 x16 x17 b0 (fun y0 => k (.v (.string y0)) []) := by kernel_rfl
theorem j15_ag (k kp : KT) (ag5 : St → Prop) : agPL cfg 15 (JJ_5 k kp ag5) (LL_5 k kp ag5) [1, 1, 1, 1, 0, 1, 0, 0, 1, 1, 0, 0, 1, 1, 1] body = agPR cfg 15 (pick none' [(5, ag5)]) [1, 1, 1, 1, 0, 1, 0, 0, 1, 1, 0, 0, 1, 1, 1] body (topK cfg Try.f24 k kp) := by kernel_rfl
theorem j15_raw (k kp : KT) (ag5 : St → Prop) (x15 : (List Zq3)) (x16 x17 : Int) (b0 : BA) : X15 k kp ag5 (m15 x15 x16 x17 b0) = j15 (fun x15 x16 x17 b0 => X16 k kp ag5 (m16 x15 x16 x17 b0)) x15 x16 x17 b0 (fun y0 => k (.v (.string y0)) []) :=
  Eq.mp (by kernel_rfl) ((atP_run (j15_ag k kp ag5) (m15 x15 x16 x17 b0)).trans (j15_c k kp (JJ_5 k kp ag5) (LL_5 k kp ag5) ag5 x15 x16 x17 b0))
theorem j15_eq (k kp : KT) (ag5 : St → Prop) (x15 : (List Zq3)) (x16 x17 : Int) (b0 : BA) : X15 k kp ag5 (m15 x15 x16 x17 b0) = j15' (fun x17 b0 => ag5 (mL5 x15 x16 x17 b0)) x15 x16 x17 b0 (fun y0 => k (.v (.string y0)) []) := by
  rw [j15_raw]; simp only [j16_eq]; first | done | rfl
theorem l9_c (k kp : KT) (J L : Nat → St → Prop) (ag5 : St → Prop) (ag9 : St → Prop) (x15 : (List Zq3)) (x16 x17 : Int) (x30 : Zq3) (x31 x32 : Int) (b0 : BA) : runC cfg 1000001 J L (pick none' [(5, ag5), (9, ag9)]) [1, 1, 1, 1, 0, 1, 0, 0, 1, 1, 0, 0, 1, 1, 0, 1, 0, 0] body (topK cfg Try.f24 k kp) (mL9 x15 x16 x17 x30 x31 x32 b0) = l9 (fun x15 x16 x17 x30 x31 x32 b0 b1_0 b1_1 b1_2 b1_3 b1_4 b1_5 => J 13 (m13 x15 x16 x17 x30 x31 x32 b0 b1_0 b1_1 b1_2 b1_3 b1_4 b1_5)) (fun x15 x16 x17 b0 => J 15 (m15 x15 x16 x17 b0)) x15 x16 x17 x30 x31 x32 b0 (fun y0 => k (.v (.string y0)) []) := by kernel_rfl
theorem l9_ag (k kp : KT) (ag5 : St → Prop) (ag9 : St → Prop) : agPL cfg 1000001 (JJ_5_9 k kp ag5 ag9) (LL_5_9 k kp ag5 ag9) [1, 1, 1, 1, 0, 1, 0, 0, 1, 1, 0, 0, 1, 1, 0, 1, 0, 0] body = agPR cfg 1000001 (pick none' [(5, ag5), (9, ag9)]) [1, 1, 1, 1, 0, 1, 0, 0, 1, 1, 0, 0, 1, 1, 0, 1, 0, 0] body (topK cfg Try.f24 k kp) := by kernel_rfl
theorem l9_raw (k kp : KT) (ag5 : St → Prop) (ag9 : St → Prop) (x15 : (List Zq3)) (x16 x17 : Int) (x30 : Zq3) (x31 x32 : Int) (b0 : BA) : YL9 k kp ag5 ag9 (mL9 x15 x16 x17 x30 x31 x32 b0) = l9 (fun x15 x16 x17 x30 x31 x32 b0 b1_0 b1_1 b1_2 b1_3 b1_4 b1_5 => X13 k kp ag5 ag9 (m13 x15 x16 x17 x30 x31 x32 b0 b1_0 b1_1 b1_2 b1_3 b1_4 b1_5)) (fun x15 x16 x17 b0 => X15 k kp ag5 (m15 x15 x16 x17 b0)) x15 x16 x17 x30 x31 x32 b0 (fun y0 => k (.v (.string y0)) []) :=
  Eq.mp (by kernel_rfl) ((atP_run (l9_ag k kp ag5 ag9) (mL9 x15 x16 x17 x30 x31 x32 b0)).trans (l9_c k kp (JJ_5_9 k kp ag5 ag9) (LL_5_9 k kp ag5 ag9) ag5 ag9 x15 x16 x17 x30 x31 x32 b0))
theorem l9_eq (k kp : KT) (ag5 : St → Prop) (x15 : (List Zq3)) (x16 x17 : Int) (x30 : Zq3) (x31 x32 : Int) (b0 : BA) : XL9 k kp ag5 (mL9 x15 x16 x17 x30 x31 x32 b0) = l9' (fun x17 b0 => ag5 (mL5 x15 x16 x17 b0)) x15 x16 x17 x30 x31 x32 b0 (fun y0 => k (.v (.string y0)) []) :=
  loop_eq (mk := fun (s : Int × BA) => mL9 x15 x16 x17 x30 x31 s.1 s.2) (fun again s => by rw [l9_raw k kp ag5 again x15 x16 x17 x30 x31 s.1 s.2]; simp only [j13_eq, j15_eq]; first | done | rfl) (x32, b0)
theorem l5_c (k kp : KT) (J L : Nat → St → Prop) (ag5 : St → Prop) (x15 : (List Zq3)) (x16 x17 : Int) (b0 : BA) : runC cfg 1000001 J L (pick none' [(5, ag5)]) [1, 1, 1, 1, 0, 1, 0, 0] body (topK cfg Try.f24 k kp) (mL5 x15 x16 x17 b0) = l5 (fun x15 x16 x17 x30 x31 x32 b0 => L 9 (mL9 x15 x16 x17 x30 x31 x32 b0)) (fun b0 => J 17 (m17 b0)) x15 x16 x17 b0 (fun y0 => k (.v (.string y0)) []) := by kernel_rfl
theorem l5_ag (k kp : KT) (ag5 : St → Prop) : agPL cfg 1000001 (JJ_5 k kp ag5) (LL_5 k kp ag5) [1, 1, 1, 1, 0, 1, 0, 0] body = agPR cfg 1000001 (pick none' [(5, ag5)]) [1, 1, 1, 1, 0, 1, 0, 0] body (topK cfg Try.f24 k kp) := by kernel_rfl
theorem l5_raw (k kp : KT) (ag5 : St → Prop) (x15 : (List Zq3)) (x16 x17 : Int) (b0 : BA) : YL5 k kp ag5 (mL5 x15 x16 x17 b0) = l5 (fun x15 x16 x17 x30 x31 x32 b0 => XL9 k kp ag5 (mL9 x15 x16 x17 x30 x31 x32 b0)) (fun b0 => X17 k kp (m17 b0)) x15 x16 x17 b0 (fun y0 => k (.v (.string y0)) []) :=
  Eq.mp (by kernel_rfl) ((atP_run (l5_ag k kp ag5) (mL5 x15 x16 x17 b0)).trans (l5_c k kp (JJ_5 k kp ag5) (LL_5 k kp ag5) ag5 x15 x16 x17 b0))
theorem l5_eq (k kp : KT) (x15 : (List Zq3)) (x16 x17 : Int) (b0 : BA) : XL5 k kp (mL5 x15 x16 x17 b0) = l5' x15 x16 x17 b0 (fun y0 => k (.v (.string y0)) []) :=
  loop_eq (mk := fun (s : Int × BA) => mL5 x15 x16 s.1 s.2) (fun again s => by rw [l5_raw k kp again x15 x16 s.1 s.2]; simp only [l9_eq, j17_eq]; first | done | rfl) (x17, b0)
theorem c_c (k kp : KT) (J L : Nat → St → Prop) (x0_0 : Int) (x0_1 : Zq3) : runC cfg 1000001 J L none'' [] body (topK cfg Try.f24 k kp) (st0 Try.f24 [(.agg [(.v (.int .i64 x0_0)), (.fz Zy4 x0_1)])] []) = c (fun x15 x16 x17 b0 => L 5 (mL5 x15 x16 x17 b0)) x0_0 x0_1 (fun y0 => k (.v (.string y0)) []) := by kernel_rfl
theorem c_ag (k kp : KT) : agPL cfg 1000001 (JJ k kp) (LL k kp) [] body = agPR cfg 1000001 none'' [] body (topK cfg Try.f24 k kp) := by kernel_rfl
theorem body_is : Try.f24.body = some body := by kernel_rfl
theorem c_raw (k kp : KT) (x0_0 : Int) (x0_1 : Zq3) : funW cfg Try.f24 [(.agg [(.v (.int .i64 x0_0)), (.fz Zy4 x0_1)])] [] k kp = c (fun x15 x16 x17 b0 => XL5 k kp (mL5 x15 x16 x17 b0)) x0_0 x0_1 (fun y0 => k (.v (.string y0)) []) :=
  Eq.mp (by kernel_rfl) ((funW_run (AG := none'') body_is (c_ag k kp) [(.agg [(.v (.int .i64 x0_0)), (.fz Zy4 x0_1)])] []).trans (c_c k kp (JJ k kp) (LL k kp) x0_0 x0_1))
theorem f_eq (k kp : KT) (x0_0 : Int) (x0_1 : Zq3) : funW cfg Try.f24 [(.agg [(.v (.int .i64 x0_0)), (.fz Zy4 x0_1)])] [] k kp = f x0_0 x0_1 (fun y0 => k (.v (.string y0)) []) := by
  rw [f_def, c_raw]; simp only [l5_eq]; first | done | rfl
noncomputable def ent0 : Entry := fun args blks k _ => match args, blks with
  | [d0], [] => aAgg 2 d0 fun l => aCons l fun d0_0 l => aCons l fun d0_1 l => aNil l (aInt IntKind.i64 d0_0 fun x0_0 => aFz Zy4 d0_1 fun x0_1 => f x0_0 x0_1 (fun y0 => k (.v (.string y0)) []))
  | _, _ => False
noncomputable def ent : Entry := fun args blks k kp => ent0 (convB [.cells [none, some Zy4]] args) blks k kp
theorem ok : EntOk Try.prog 0 0 24 ent := by
  refine EntOk.convB (EntOk.of (funW_ok (cfg := cfg) (tyOk_of rfl rfl tyL_ok) (eqOk_of (P := Try.prog) rfl rfl (by kernel_rfl)) mixed_ok (tab_ok ?_) Try.func24 (by rfl) (by rfl)) ?_) _
  · intro p hp
    simp only [List.mem_cons, List.not_mem_nil, or_false] at hp
    rcases hp with rfl | rfl | rfl | rfl | rfl | rfl
    · exact N52.ok
    · exact N27.ok
    · exact N53.ok
    · exact N16.ok
    · exact N31.ok
    · exact N26.ok
  · intro args blks k kp h k' kp'
    match args, blks, h with
    | [d0], [], h =>
    dsimp only [ent0] at h
    have h9 := aAgg_elim h; clear h; obtain ⟨_, rfl, h⟩ := h9
    have h9 := aCons_elim h; clear h; obtain ⟨d0_0, _, rfl, h⟩ := h9
    have h9 := aCons_elim h; clear h; obtain ⟨d0_1, _, rfl, h⟩ := h9
    have h9 := aNil_elim h; clear h; obtain ⟨rfl, h⟩ := h9
    have h9 := aInt_elim h; clear h; obtain ⟨x0_0, rfl, h⟩ := h9
    have h9 := aFz_elim (t := Zy4) h; clear h; obtain ⟨x0_1, rfl, h⟩ := h9
    exact (f_eq k' kp' x0_0 x0_1).symm
end N24
end Go.Proofs.Yh

namespace Go.Proofs.Yh
open Go Go.Aw Go.Proofs
set_option maxRecDepth 100000
set_option maxHeartbeats 4000000
namespace N48
noncomputable def cfg : Cfg := { P := Try.prog, ty := tys, E := tab [(43, N43.ent), (51, N51.ent)], atSeq := tab [(7, ⟨[(1, .keep), (3, .keep)]⟩)], atLoop := tab [(3, ⟨[(1, .keep), (3, .own 9 Ty.str), (7, .keep), (8, .keep), (9, .keep)]⟩)], outs := [], eqT := tab [], bT := tab [], fzB := [1] }
noncomputable def body : Code := bodyOf Try.f48
def l3 (j7 : BA → LI → LB → Prop) (ag3 : Int → LB → Prop) (x1_0 : BA) (x1_1 x7 : LI) (x8 x9 : Int) (b0 : LB) (k : BA → Prop) : Prop :=
  (br (decide (x9 < x8)) ((inB 0 x9 ((((x7).length : Nat) : Int) - 1)) ∧ (N43.f (x7.getD (Int.toNat x9) (0)) (fun (y0_0 : BA) => ((room ((b0).length + (([y0_0] : List BA)).length) 16) ∧ (ag3 (IntKind.i64.wrap (x9 + (1 : Int))) (b0 ++ ([y0_0] : List BA))))))) (j7 x1_0 x1_1 b0))
def j7 (x1_0 : BA) (x1_1 : LI) (b0 : LB) (k : BA → Prop) : Prop :=
  (((x1_0).size + ((ByteArray.mk #[40])).size ≤ 9223372036854775807) ∧ (jn b0 (ByteArray.mk #[44, 32]) (fun (y_1 : BA) => ((((x1_0 ++ (ByteArray.mk #[40]))).size + (y_1).size ≤ 9223372036854775807) ∧ (((((x1_0 ++ (ByteArray.mk #[40])) ++ y_1)).size + ((ByteArray.mk #[41])).size ≤ 9223372036854775807) ∧ (k (((x1_0 ++ (ByteArray.mk #[40])) ++ y_1) ++ (ByteArray.mk #[41]))))))))
def c (l3 : BA → LI → LI → Int → Int → LB → Prop) (x0_0 : BA) (x0_1 : LI) (k : BA → Prop) : Prop :=
  (l3 x0_0 x0_1 x0_1 ((((x0_1).length : Nat) : Int)) (0 : Int) ([] : List BA))
def j7' (x1_0 : BA) (x1_1 : LI) (b0 : LB) (k : BA → Prop) : Prop := j7 x1_0 x1_1 b0 k
def l3' (x1_0 : BA) (x1_1 x7 : LI) (x8 x9 : Int) (b0 : LB) (k : BA → Prop) : Prop := ∃ n, loopS (fun (ag : (Int × LB) → Prop) (s : Int × LB) => l3 (fun x1_0 x1_1 b0 => j7' x1_0 x1_1 b0 k) (fun x9 b0 => ag (x9, b0)) x1_0 x1_1 x7 x8 s.1 s.2 k) n (x9, b0)
def f0 (x0_0 : BA) (x0_1 : LI) (k : BA → Prop) : Prop := c (fun x1_0 x1_1 x7 x8 x9 b0 => l3' x1_0 x1_1 x7 x8 x9 b0 k) x0_0 x0_1 k
theorem f_ex : ∃ g, g = f0 := ⟨_, rfl⟩
noncomputable def f := Classical.choose f_ex
theorem f_def : f = f0 := Classical.choose_spec f_ex
def mL3 (x1_0 : BA) (x1_1 x7 : LI) (x8 x9 : Int) (b0 : LB) : St := { tmps := mkT 26 0 [(1, (.fp [(.v (.string x1_0)), (.fz Zy2 x1_1)])), (3, (.sl 0 0)), (7, (.fz Zy2 x7)), (8, (.v (.int .i64 x8))), (9, (.v (.int .i64 x9)))], hp := [(.lst 9 Ty.str b0 0 false)], m := 0 }
def m7 (x1_0 : BA) (x1_1 : LI) (b0 : LB) : St := { tmps := mkT 26 0 [(1, (.fp [(.v (.string x1_0)), (.fz Zy2 x1_1)])), (3, (.sl 0 0))], hp := [(.lst 9 Ty.str b0 0 false)], m := 0 }
noncomputable def YL3 (k kp : KT) : (St → Prop) → St → Prop := loopB cfg (sub [1, 1, 0, 1, 0, 0] body) (contK cfg (pick none' []) [1, 1, 0, 1, 0] body (topK cfg Try.f48 k kp))
noncomputable def XL3 (k kp : KT) : St → Prop := fun st => ∃ n, loopN (YL3 k kp) n st
noncomputable def X7 (k kp : KT) : St → Prop := atP cfg (pick none' []) [1, 1, 1] body (topK cfg Try.f48 k kp)
noncomputable def JJ_3 (k kp : KT) (ag3 : St → Prop) : Nat → St → Prop := pick none' [(7, X7 k kp)]
noncomputable def LL_3 (k kp : KT) (ag3 : St → Prop) : Nat → St → Prop := pick none' [(3, XL3 k kp)]
noncomputable def JJ (k kp : KT) : Nat → St → Prop := pick none' [(7, X7 k kp)]
noncomputable def LL (k kp : KT) : Nat → St → Prop := pick none' [(3, XL3 k kp)]
theorem j7_c (k kp : KT) (J L : Nat → St → Prop) (x1_0 : BA) (x1_1 : LI) (b0 : LB) : runC cfg 7 J L (pick none' []) [1, 1, 1] body (topK cfg Try.f48 k kp) (m7 x1_0 x1_1 b0) = j7 x1_0 x1_1 b0 (fun y0 => k (.v (.string y0)) []) := by kernel_rfl
theorem j7_ag (k kp : KT) : agPL cfg 7 (JJ k kp) (LL k kp) [1, 1, 1] body = agPR cfg 7 (pick none' []) [1, 1, 1] body (topK cfg Try.f48 k kp) := by kernel_rfl
theorem j7_raw (k kp : KT) (x1_0 : BA) (x1_1 : LI) (b0 : LB) : X7 k kp (m7 x1_0 x1_1 b0) = j7 x1_0 x1_1 b0 (fun y0 => k (.v (.string y0)) []) :=
  Eq.mp (by kernel_rfl) ((atP_run (j7_ag k kp) (m7 x1_0 x1_1 b0)).trans (j7_c k kp (JJ k kp) (LL k kp) x1_0 x1_1 b0))
theorem j7_eq (k kp : KT) (x1_0 : BA) (x1_1 : LI) (b0 : LB) : X7 k kp (m7 x1_0 x1_1 b0) = j7' x1_0 x1_1 b0 (fun y0 => k (.v (.string y0)) []) := by
  rw [j7_raw]; rfl
theorem l3_c (k kp : KT) (J L : Nat → St → Prop) (ag3 : St → Prop) (x1_0 : BA) (x1_1 x7 : LI) (x8 x9 : Int) (b0 : LB) : runC cfg 1000001 J L (pick none' [(3, ag3)]) [1, 1, 0, 1, 0, 0] body (topK cfg Try.f48 k kp) (mL3 x1_0 x1_1 x7 x8 x9 b0) = l3 (fun x1_0 x1_1 b0 => J 7 (m7 x1_0 x1_1 b0)) (fun x9 b0 => ag3 (mL3 x1_0 x1_1 x7 x8 x9 b0)) x1_0 x1_1 x7 x8 x9 b0 (fun y0 => k (.v (.string y0)) []) := by kernel_rfl
theorem l3_ag (k kp : KT) (ag3 : St → Prop) : agPL cfg 1000001 (JJ_3 k kp ag3) (LL_3 k kp ag3) [1, 1, 0, 1, 0, 0] body = agPR cfg 1000001 (pick none' [(3, ag3)]) [1, 1, 0, 1, 0, 0] body (topK cfg Try.f48 k kp) := by kernel_rfl
theorem l3_raw (k kp : KT) (ag3 : St → Prop) (x1_0 : BA) (x1_1 x7 : LI) (x8 x9 : Int) (b0 : LB) : YL3 k kp ag3 (mL3 x1_0 x1_1 x7 x8 x9 b0) = l3 (fun x1_0 x1_1 b0 => X7 k kp (m7 x1_0 x1_1 b0)) (fun x9 b0 => ag3 (mL3 x1_0 x1_1 x7 x8 x9 b0)) x1_0 x1_1 x7 x8 x9 b0 (fun y0 => k (.v (.string y0)) []) :=
  Eq.mp (by kernel_rfl) ((atP_run (l3_ag k kp ag3) (mL3 x1_0 x1_1 x7 x8 x9 b0)).trans (l3_c k kp (JJ_3 k kp ag3) (LL_3 k kp ag3) ag3 x1_0 x1_1 x7 x8 x9 b0))
theorem l3_eq (k kp : KT) (x1_0 : BA) (x1_1 x7 : LI) (x8 x9 : Int) (b0 : LB) : XL3 k kp (mL3 x1_0 x1_1 x7 x8 x9 b0) = l3' x1_0 x1_1 x7 x8 x9 b0 (fun y0 => k (.v (.string y0)) []) :=
  loop_eq (mk := fun (s : Int × LB) => mL3 x1_0 x1_1 x7 x8 s.1 s.2) (fun again s => by rw [l3_raw k kp again x1_0 x1_1 x7 x8 s.1 s.2]; simp only [j7_eq]; first | done | rfl) (x9, b0)
theorem c_c (k kp : KT) (J L : Nat → St → Prop) (x0_0 : BA) (x0_1 : LI) : runC cfg 1000001 J L none'' [] body (topK cfg Try.f48 k kp) (st0 Try.f48 [(.agg [(.v (.string x0_0)), (.fz Zy2 x0_1)])] []) = c (fun x1_0 x1_1 x7 x8 x9 b0 => L 3 (mL3 x1_0 x1_1 x7 x8 x9 b0)) x0_0 x0_1 (fun y0 => k (.v (.string y0)) []) := by kernel_rfl
theorem c_ag (k kp : KT) : agPL cfg 1000001 (JJ k kp) (LL k kp) [] body = agPR cfg 1000001 none'' [] body (topK cfg Try.f48 k kp) := by kernel_rfl
theorem body_is : Try.f48.body = some body := by kernel_rfl
theorem c_raw (k kp : KT) (x0_0 : BA) (x0_1 : LI) : funW cfg Try.f48 [(.agg [(.v (.string x0_0)), (.fz Zy2 x0_1)])] [] k kp = c (fun x1_0 x1_1 x7 x8 x9 b0 => XL3 k kp (mL3 x1_0 x1_1 x7 x8 x9 b0)) x0_0 x0_1 (fun y0 => k (.v (.string y0)) []) :=
  Eq.mp (by kernel_rfl) ((funW_run (AG := none'') body_is (c_ag k kp) [(.agg [(.v (.string x0_0)), (.fz Zy2 x0_1)])] []).trans (c_c k kp (JJ k kp) (LL k kp) x0_0 x0_1))
theorem f_eq (k kp : KT) (x0_0 : BA) (x0_1 : LI) : funW cfg Try.f48 [(.agg [(.v (.string x0_0)), (.fz Zy2 x0_1)])] [] k kp = f x0_0 x0_1 (fun y0 => k (.v (.string y0)) []) := by
  rw [f_def, c_raw]; simp only [l3_eq]; first | done | rfl
noncomputable def ent0 : Entry := fun args blks k _ => match args, blks with
  | [d0], [] => aAgg 2 d0 fun l => aCons l fun d0_0 l => aCons l fun d0_1 l => aNil l (aStr d0_0 fun x0_0 => aFz Zy2 d0_1 fun x0_1 => f x0_0 x0_1 (fun y0 => k (.v (.string y0)) []))
  | _, _ => False
noncomputable def ent : Entry := fun args blks k kp => ent0 (convB [.cells [none, some Zy2]] args) blks k kp
theorem ok : EntOk Try.prog 0 0 48 ent := by
  refine EntOk.convB (EntOk.of (funW_ok (cfg := cfg) (tyOk_of rfl rfl tyL_ok) (eqOk_of (P := Try.prog) rfl rfl (by kernel_rfl)) mixed_ok (tab_ok ?_) Try.func48 (by rfl) (by rfl)) ?_) _
  · intro p hp
    simp only [List.mem_cons, List.not_mem_nil, or_false] at hp
    rcases hp with rfl | rfl
    · exact N43.ok
    · exact N51.ok
  · intro args blks k kp h k' kp'
    match args, blks, h with
    | [d0], [], h =>
    dsimp only [ent0] at h
    have h9 := aAgg_elim h; clear h; obtain ⟨_, rfl, h⟩ := h9
    have h9 := aCons_elim h; clear h; obtain ⟨d0_0, _, rfl, h⟩ := h9
    have h9 := aCons_elim h; clear h; obtain ⟨d0_1, _, rfl, h⟩ := h9
    have h9 := aNil_elim h; clear h; obtain ⟨rfl, h⟩ := h9
    have h9 := aStr_elim h; clear h; obtain ⟨x0_0, rfl, h⟩ := h9
    have h9 := aFz_elim (t := Zy2) h; clear h; obtain ⟨x0_1, rfl, h⟩ := h9
    exact (f_eq k' kp' x0_0 x0_1).symm
end N48
end Go.Proofs.Yh

namespace Go.Proofs.Yh
open Go Go.Aw Go.Proofs
set_option maxRecDepth 100000
set_option maxHeartbeats 4000000
namespace N19
noncomputable def cfg : Cfg := { P := Try.prog, ty := tys, E := tab [(22, N22.ent), (26, N26.ent), (24, N24.ent), (48, N48.ent)], atSeq := tab [], atLoop := tab [], outs := [], eqT := tab [], bT := tab [] }
noncomputable def body : Code := bodyOf Try.f19
def c (k : Bool → Prop) : Prop :=
  (N22.f (8 : Int) (4 : Int) ([(1 : Int)] : List Int) ([(0 : Int)] : List Int) (64 : Int) (fun (y0_0 : BA) => (br (beqS y0_0 (ByteArray.mk #[116, 97, 114, 103, 101, 116, 32, 103, 32, 56, 32, 120, 32, 52, 32, 115, 108, 111, 116, 115, 32, 54, 52, 32, 99, 108, 111, 98, 98, 101, 114, 32, 36, 103, 49, 32, 36, 120, 48, 59, 10])) (N26.f (2 : Int) (0 : Int) (4 : Int) (2 : Int) (0 : Int) (1 : Int) (fun (y0_1 : BA) => (br (beqS y0_1 (ByteArray.mk #[48, 46, 46, 52, 32, 36, 103, 49])) (N24.f (1 : Int) ([((2 : Int), ((0 : Int), ((4 : Int), ((2 : Int), ((0 : Int), (1 : Int)))))), ((2 : Int), ((4 : Int), ((9 : Int), ((3 : Int), ((0 : Int), (0 : Int))))))] : List (Int × (Int × Zq1))) (fun (y0_2 : BA) => (br (beqS y0_2 (ByteArray.mk #[97, 108, 108, 111, 99, 32, 115, 108, 111, 116, 115, 32, 49, 32, 123, 10, 32, 32, 37, 50, 58, 32, 48, 46, 46, 52, 32, 36, 103, 49, 44, 32, 52, 46, 46, 57, 32, 35, 48, 59, 10, 125, 10])) (N48.f (ByteArray.mk #[102]) ([(1 : Int), (-2 : Int)] : List Int) (fun (y0_3 : BA) => (k (beqS y0_3 (ByteArray.mk #[102, 40, 49, 44, 32, 45, 50, 41]))))) (k false)))) (k false)))) (k false))))
def f0 (k : Bool → Prop) : Prop := c k
theorem f_ex : ∃ g, g = f0 := ⟨_, rfl⟩
noncomputable def f := Classical.choose f_ex
theorem f_def : f = f0 := Classical.choose_spec f_ex
noncomputable def JJ (k kp : KT) : Nat → St → Prop := pick none' []
noncomputable def LL (k kp : KT) : Nat → St → Prop := pick none' []
theorem c_c (k kp : KT) (J L : Nat → St → Prop) : runC cfg 1000001 J L none'' [] body (topK cfg Try.f19 k kp) (st0 Try.f19 [] []) = c (fun y0 => k (.v (.bool y0)) []) := by kernel_rfl
theorem c_ag (k kp : KT) : agPL cfg 1000001 (JJ k kp) (LL k kp) [] body = agPR cfg 1000001 none'' [] body (topK cfg Try.f19 k kp) := by kernel_rfl
theorem body_is : Try.f19.body = some body := by kernel_rfl
theorem c_raw (k kp : KT) : funW cfg Try.f19 [] [] k kp = c (fun y0 => k (.v (.bool y0)) []) :=
  Eq.mp (by kernel_rfl) ((funW_run (AG := none'') body_is (c_ag k kp) [] []).trans (c_c k kp (JJ k kp) (LL k kp)))
theorem f_eq (k kp : KT) : funW cfg Try.f19 [] [] k kp = f (fun y0 => k (.v (.bool y0)) []) := by
  rw [f_def, c_raw]; rfl
noncomputable def ent0 : Entry := fun args blks k _ => match args, blks with
  | [], [] => f (fun y0 => k (.v (.bool y0)) [])
  | _, _ => False
noncomputable def ent : Entry := fun args blks k kp => ent0 (convB [] args) blks k kp
theorem ok : EntOk Try.prog 0 0 19 ent := by
  refine EntOk.convB (EntOk.of (funW_ok (cfg := cfg) (tyOk_of rfl rfl tyL_ok) (eqOk_of (P := Try.prog) rfl rfl (by kernel_rfl)) mixed_ok (tab_ok ?_) Try.func19 (by rfl) (by rfl)) ?_) _
  · intro p hp
    simp only [List.mem_cons, List.not_mem_nil, or_false] at hp
    rcases hp with rfl | rfl | rfl | rfl
    · exact N22.ok
    · exact N26.ok
    · exact N24.ok
    · exact N48.ok
  · intro args blks k kp h k' kp'
    match args, blks, h with
    | [], [], h =>
    dsimp only [ent0] at h
    exact (f_eq k' kp').symm
end N19
end Go.Proofs.Yh

