/- Functions of the program as plain functions, each with the proof that the code comes to them. -/
import Derived.Test.YtidclggijmbffaaDoorT2
import Derived.Test.YtidclggijmbffaaDoorProg
import Derived.Test.YtidclggijmbffaaDoorT3
import Derived.WalkKit
import Derived.LaidEql
import Derived.Stop.Asserts
import Derived.RowKitTokens
import Derived.Elder7
import Derived.Test.YtidclggijmbffaaDoorRows
import Derived.ChangeSame
import Derived.ChangeVars
import Derived.JoinedOf
import Derived.RowKit
import Derived.LaidLaws
import Derived.LaidHandle
import Derived.Stop.Joined
set_option linter.unusedVariables false
set_option linter.unusedSimpArgs false
namespace Go.Aw
abbrev KT := D → List Blk → Prop
abbrev BA := ByteArray
abbrev LI := List Int
abbrev LB := List ByteArray
abbrev Zq0 := Int × (ByteArray × (Int × (Int × Int)))
abbrev Zy0 : Ty := Ty.pair (Ty.int IntKind.i64) (Ty.pair Ty.str (Ty.pair (Ty.int IntKind.i64) (Ty.pair (Ty.int IntKind.i64) (Ty.int IntKind.i64))))
end Go.Aw
namespace Go.Aw
open Go Go.RowKit
def putL (n : Int) : List Int := (if n < 0 then [45] else []) ++ (dl 20 n.natAbs).reverse
theorem putL_len (n : Int) : 1 ≤ (putL n).length ∧ (putL n).length ≤ 21 := by
  unfold putL
  have h1 := dl_len_le 20 n.natAbs
  have h2 : 0 < (dl 20 n.natAbs).length := dl_len_pos 19 n.natAbs
  rw [List.length_append, List.length_reverse]
  split <;> simp <;> omega
theorem putL_ch (n : Int) : ∀ x ∈ putL n, x = 45 ∨ isD x := by
  intro x hx
  unfold putL at hx
  rcases List.mem_append.1 hx with h | h
  · split at h
    · simp at h; exact .inl h
    · cases h
  · exact .inr (dl_isD 20 _ x (List.mem_reverse.1 h))
theorem putL_isB (n : Int) : ∀ x ∈ putL n, isB x := by
  intro x hx
  rcases putL_ch n x hx with rfl | h
  · exact ⟨by decide, by decide⟩
  · exact ⟨by have := h.1; omega, by have := h.2; omega⟩
theorem putL_inj {n m : Int} (hn : in64 n) (hm : in64 m) (h : putL n = putL m) : n = m := by
  unfold in64 at hn hm
  have v : ∀ n : Int, n.natAbs < 10 ^ 20 → val (dl 20 n.natAbs).reverse = n.natAbs := fun n hn => dl_val 20 n.natAbs hn
  have hd : ∀ n : Int, (dl 20 n.natAbs).reverse.head? ≠ some 45 := by
    intro n e
    have : (45 : Int) ∈ (dl 20 n.natAbs).reverse := List.mem_of_head? e
    have := dl_isD 20 _ 45 (List.mem_reverse.1 this)
    exact absurd this.1 (by decide)
  unfold putL at h
  have vn := v n (by omega)
  have vm := v m (by omega)
  by_cases h1 : n < 0 <;> by_cases h2 : m < 0
  · rw [if_pos h1, if_pos h2] at h
    have := congrArg val (List.append_cancel_left h)
    omega
  · rw [if_pos h1, if_neg h2] at h
    exact absurd (by rw [List.nil_append] at h; rw [← h]; rfl) (hd m)
  · rw [if_neg h1, if_pos h2] at h
    exact absurd (by rw [List.nil_append] at h; rw [h]; rfl) (hd n)
  · rw [if_neg h1, if_neg h2] at h
    have := congrArg val (List.append_cancel_left h)
    omega
end Go.Aw

namespace Go.Aw
open Go Go.RowKit
def isL (x : Int) : Bool := (decide (97 ≤ x) && decide (x ≤ 122)) || decide (x = 95)
def isS (x : Int) : Bool := isL x || (decide (48 ≤ x) && decide (x ≤ 57))
def runS : List Int → Nat
  | [] => 0
  | x :: r => if isS x then runS r + 1 else 0
theorem isS_of_isL {x : Int} (h : isL x = true) : isS x = true := by unfold isS; rw [h]; rfl
theorem isS_no {x : Int} (h : isL x = false) (h2 : x < 48 ∨ 57 < x) : isS x = false := by
  unfold isS; rw [h]; simp; omega
theorem isS_yes {x : Int} (h : 48 ≤ x) (h2 : x ≤ 57) : isS x = true := by
  unfold isS; simp [h, h2]
theorem isS_46 : isS 46 = false := by decide
theorem runS_le : ∀ (l : List Int), runS l ≤ l.length
  | [] => Nat.le_refl _
  | x :: r => by unfold runS; split <;> simp; have := runS_le r; omega
theorem runS_step {l : List Int} {i j : Nat} (h : runS (l.drop i) = j) (hj : i + j < l.length) : isS (l.getD (i + j) 0) = false := by
  induction j generalizing i with
  | zero =>
    rw [drop_get (d := 0) (by omega)] at h
    unfold runS at h
    split at h
    · omega
    · rename_i hn; simpa using hn
  | succ j ih =>
    have hi : i < l.length := by omega
    rw [drop_get (d := 0) hi] at h
    unfold runS at h
    split at h
    · have := ih (i := i + 1) (by omega) (by omega)
      rwa [show i + 1 + j = i + (j + 1) by omega] at this
    · omega
theorem runS_in {l : List Int} {i j : Nat} (hj : j < runS (l.drop i)) : isS (l.getD (i + j) 0) = true := by
  induction j generalizing i with
  | zero =>
    have hi : i < l.length := by have := runS_le (l.drop i); rw [List.length_drop] at this; omega
    rw [drop_get (d := 0) hi] at hj
    unfold runS at hj
    split at hj
    · rename_i h; exact h
    · omega
  | succ j ih =>
    have hi : i < l.length := by have := runS_le (l.drop i); rw [List.length_drop] at this; omega
    rw [drop_get (d := 0) hi] at hj
    unfold runS at hj
    split at hj
    · have := ih (i := i + 1) (by omega)
      rwa [show i + 1 + j = i + (j + 1) by omega] at this
    · omega
def scanN (l : List Int) (a : Int) : Int := if a < 0 ∨ a ≥ (l.length : Int) ∨ isL (l.getD a.toNat 0) = false then a else ((a.toNat + runS (l.drop a.toNat) : Nat) : Int)
theorem push_bytes (l : List Int) (x : Int) : (bytesOf l).push (UInt8.ofNat x.toNat) = bytesOf (l ++ [x]) := by
  apply ByteArray.ext
  unfold bytesOf
  rw [ByteArray.data_push]
  simp
def hexL (n : Int) : Int := if n < 10 then 48 + n else 87 + n
def oneL (c : Int) : List Int := if c = 10 then [92, 110] else if c = 9 then [92, 116] else if c = 34 then [92, 34] else if c = 92 then [92, 92] else if 32 ≤ c ∧ c ≤ 126 then [c] else [92, 120, hexL (c / 16), hexL (c % 16)]
def qputL (l : List Int) : List Int := 34 :: (l.flatMap oneL ++ [34])
theorem oneL_len (c : Int) : (oneL c).length ≤ 4 := by
  unfold oneL
  repeat' split
  all_goals simp
theorem flat_len : ∀ l : List Int, (l.flatMap oneL).length ≤ 4 * l.length
  | [] => by simp
  | c :: l => by
    rw [List.flatMap_cons, List.length_append, List.length_cons]
    have := oneL_len c
    have := flat_len l
    omega
theorem hexes_get (n : Int) (h0 : 0 ≤ n) (h1 : n < 16) : byteAt (ByteArray.mk #[48, 49, 50, 51, 52, 53, 54, 55, 56, 57, 97, 98, 99, 100, 101, 102]) n = hexL n := by
  obtain ⟨m, rfl⟩ : ∃ m : Nat, n = m := ⟨n.toNat, by omega⟩
  have hm : m < 16 := by omega
  have : ∀ j : Fin 16, byteAt (ByteArray.mk #[48, 49, 50, 51, 52, 53, 54, 55, 56, 57, 97, 98, 99, 100, 101, 102]) (j.val : Int) = hexL (j.val : Int) := by decide
  exact this ⟨m, hm⟩
theorem hexes_ext (n : Int) (h0 : 0 ≤ n) (h1 : n < 16) : ByteArray.extract (ByteArray.mk #[48, 49, 50, 51, 52, 53, 54, 55, 56, 57, 97, 98, 99, 100, 101, 102]) (Int.toNat n) (Int.toNat (n + 1)) = bytesOf [hexL n] := by
  obtain ⟨m, rfl⟩ : ∃ m : Nat, n = m := ⟨n.toNat, by omega⟩
  have hm : m < 16 := by omega
  have : ∀ j : Fin 16, ByteArray.extract (ByteArray.mk #[48, 49, 50, 51, 52, 53, 54, 55, 56, 57, 97, 98, 99, 100, 101, 102]) (Int.toNat (j.val : Int)) (Int.toNat ((j.val : Int) + 1)) = bytesOf [hexL (j.val : Int)] := by
    intro j
    apply eq_of_ofBytes
    revert j
    decide
  exact this ⟨m, hm⟩
theorem hexL_isB (n : Int) (h0 : 0 ≤ n) (h1 : n < 16) : isB (hexL n) := by
  unfold hexL isB; split <;> omega
theorem fdiv16 (c : Int) (hc : isB c) : Int.fdiv c (2 ^ min (Int.toNat (4 : Int)) 8) = c / 16 := by
  unfold isB at hc
  rw [show (2 : Int) ^ min (Int.toNat (4 : Int)) 8 = 16 from rfl, Int.fdiv_eq_ediv_of_nonneg _ (by decide)]
theorem and15 (c : Int) (hc : isB c) : andI IntKind.u8 c 15 = c % 16 := by
  unfold isB at hc
  obtain ⟨m, rfl⟩ : ∃ m : Nat, c = m := ⟨c.toNat, by omega⟩
  have hm : m < 256 := by omega
  have : ∀ j : Fin 256, andI IntKind.u8 (j.val : Int) 15 = (j.val : Int) % 16 := by decide +kernel
  exact this ⟨m, hm⟩
theorem take_flat {L : List Int} {i : Nat} (h : i < L.length) (f : Int → List Int) : (L.take (i + 1)).flatMap f = (L.take i).flatMap f ++ f (L.getD i 0) := by
  rw [List.take_succ_eq_append_getElem h, List.flatMap_append]
  simp [List.getD, List.getElem?_eq_getElem h]
def nibL (c : Int) : Option Int := if 48 ≤ c ∧ c ≤ 57 then some (c - 48) else if 97 ≤ c ∧ c ≤ 102 then some (c - 87) else if 65 ≤ c ∧ c ≤ 70 then some (c - 55) else none
def meantL (c : Int) : Option Int := if c = 110 then some 10 else if c = 116 then some 9 else if c = 34 ∨ c = 92 then some c else none
def hexEsc : List Int → Option (Int × Nat)
  | a :: b :: _ => match nibL a, nibL b with
    | some h, some l => some (16 * h + l, 3)
    | _, _ => none
  | _ => none
def escL : List Int → Option (Int × Nat)
  | [] => none
  | c :: r => match meantL c with
    | some v => some (v, 1)
    | none => if c = 120 then hexEsc r else none
def scanL (M : Nat) : Nat → List Int → Int → List Int → List Int × Int × Int
  | 0, _, i, _ => ([], i, 11)
  | f + 1, rest, i, out => match rest with
    | [] => ([], i, 11)
    | c :: r => if c = 10 then ([], i, 11) else if c = 34 then (out, i + 1, 0) else if out.length = M then ([], i, 3)
      else if c ≠ 92 then scanL M f r (i + 1) (out ++ [c]) else
        match escL r with
        | none => ([], i, 11)
        | some (v, n) => scanL M f (r.drop n) (i + 1 + n) (out ++ [v])
theorem nib_lt {c v : Int} (h : nibL c = some v) : 0 ≤ v ∧ v < 16 := by
  unfold nibL at h
  repeat' split at h
  all_goals first | (cases h; omega) | cases h
theorem or4 (h l : Int) (h0 : 0 ≤ h ∧ h < 16) (l0 : 0 ≤ l ∧ l < 16) : orI IntKind.u8 (IntKind.u8.wrap (h * 2 ^ min (Int.toNat (4 : Int)) 8)) l = 16 * h + l := by
  obtain ⟨m, rfl⟩ : ∃ m : Nat, h = m := ⟨h.toNat, by omega⟩
  obtain ⟨n, rfl⟩ : ∃ n : Nat, l = n := ⟨l.toNat, by omega⟩
  have : ∀ i j : Fin 16, orI IntKind.u8 (IntKind.u8.wrap ((i.val : Int) * 2 ^ min (Int.toNat (4 : Int)) 8)) (j.val : Int) = 16 * (i.val : Int) + (j.val : Int) := by decide +kernel
  exact this ⟨m, by omega⟩ ⟨n, by omega⟩
theorem bytesOf_nil (r : List Int) : beqS (bytesOf r) (ByteArray.mk #[]) = decide (r = []) := by
  cases r with
  | nil => rfl
  | cons a r =>
    have : beqS (bytesOf (a :: r)) (ByteArray.mk #[]) = false := by
      cases h : beqS (bytesOf (a :: r)) (ByteArray.mk #[]) with
      | false => rfl
      | true =>
        have := congrArg ByteArray.size ((beqS_iff _ _).1 h)
        rw [bytesOf_size] at this
        exact absurd this (by simp [ByteArray.size])
    rw [this]; simp
theorem byteAt_bytes {r : List Int} (h : ∀ x ∈ r, isB x) (i : Nat) : byteAt (bytesOf r) (i : Int) = r.getD i 0 := by
  rw [byteAt_eq, ofBytes_bytesOf h]
theorem esc_pos {r : List Int} {v : Int} {n : Nat} (h : escL r = some (v, n)) : 1 ≤ n ∧ n ≤ r.length := by
  unfold escL at h
  split at h
  · cases h
  · split at h
    · cases h; simp
    · split at h
      · unfold hexEsc at h
        split at h
        · split at h
          · cases h; simp
          · cases h
        · cases h
      · cases h
def noQuote (L : List Int) (at_ : Int) : Prop := at_ < 0 ∨ (L.length : Int) ≤ at_ ∨ L.getD at_.toNat 0 ≠ 34
theorem scan_one (M f : Nat) (c : Int) (hc : isB c) (r : List Int) (i : Int) (out : List Int) (hf : 1 ≤ f) (ho : out.length < M) :
    scanL M f (oneL c ++ r) i out = scanL M (f - 1) r (i + (oneL c).length) (out ++ [c]) := by
  obtain ⟨f, rfl⟩ : ∃ g, f = g + 1 := ⟨f - 1, by omega⟩
  unfold isB at hc
  rw [Nat.add_sub_cancel]
  have hne : ¬ out.length = M := by omega
  unfold oneL
  split
  · rename_i e; subst e; simp [scanL, escL, meantL, hne, Int.add_assoc]
  · split
    · rename_i e; subst e; simp [scanL, escL, meantL, hne, Int.add_assoc]
    · split
      · rename_i e; subst e; simp [scanL, escL, meantL, hne, Int.add_assoc]
      · split
        · rename_i e; subst e; simp [scanL, escL, meantL, hne, Int.add_assoc]
        · split
          · rename_i h10 h9 h34 h92 hp
            simp [scanL, h10, h34, h92, hne]
          · rename_i h10 h9 h34 h92 hp
            have nh : ∀ n : Int, 0 ≤ n → n < 16 → nibL (hexL n) = some n := by
              intro n h0 h1
              unfold nibL hexL
              split
              · rw [if_pos (by omega)]; congr 1; omega
              · rw [if_neg (by omega), if_pos (by omega)]; congr 1; omega
            have e16 : 16 * (c / 16) + c % 16 = c := by omega
            simp [scanL, escL, meantL, hexEsc, hne, nh (c / 16) (by omega) (by omega), nh (c % 16) (by omega) (by omega), e16]
            congr 1
            omega
theorem oneL_head (c : Int) (hc : isB c) : ∃ a r, oneL c = a :: r ∧ a ≠ 10 ∧ a ≠ 34 := by
  unfold isB at hc
  unfold oneL
  repeat' split
  all_goals exact ⟨_, _, rfl, by omega, by omega⟩
theorem scan_put (M : Nat) (B : List Int) : ∀ (l : List Int) (f : Nat) (i : Int) (out : List Int), (∀ x ∈ l, isB x) → l.length < f → out.length ≤ M →
    scanL M f (l.flatMap oneL ++ 34 :: B) i out = if out.length + l.length ≤ M then (out ++ l, i + (l.flatMap oneL).length + 1, 0) else ([], i + ((l.take (M - out.length)).flatMap oneL).length, 3)
  | [], f, i, out, hl, hf, ho => by
    obtain ⟨f, rfl⟩ : ∃ g, f = g + 1 := ⟨f - 1, by simp at hf; omega⟩
    simp [scanL, ho]
  | c :: l, f, i, out, hl, hf, ho => by
    simp only [List.length_cons] at hf
    rw [List.flatMap_cons, List.append_assoc]
    by_cases hM : out.length = M
    · rw [if_neg (by simp; omega)]
      obtain ⟨f, rfl⟩ : ∃ g, f = g + 1 := ⟨f - 1, by omega⟩
      obtain ⟨a, r, e, ha, hb⟩ := oneL_head c (hl c (by simp))
      rw [e, hM]
      simp [scanL, ha, hb, hM]
    · rw [scan_one M f c (hl c (by simp)) _ _ _ (by omega) (by omega), scan_put M B l (f - 1) _ (out ++ [c]) (fun x hx => hl x (by simp [hx])) (by omega) (by simp; omega)]
      have e1 : (out ++ [c]).length = out.length + 1 := by simp
      rw [e1]
      by_cases h : out.length + 1 + l.length ≤ M
      · rw [if_pos h, if_pos (by simp; omega)]
        simp [Int.add_assoc]
      · rw [if_neg h, if_neg (by simp; omega)]
        obtain ⟨d, hd⟩ : ∃ d, M - out.length = d + 1 := ⟨M - out.length - 1, by omega⟩
        rw [hd, show M - (out.length + 1) = d by omega]
        simp [Int.add_assoc]
theorem scan_res (M : Nat) : ∀ (f : Nat) (r : List Int) (i : Int) (out t : List Int) (e c : Int), (∀ x ∈ r, isB x) → (∀ x ∈ out, isB x) → out.length ≤ M → scanL M f r i out = (t, e, c) →
    (c = 0 ∧ t.length ≤ M ∧ (∀ x ∈ t, isB x) ∨ c ≠ 0 ∧ t = []) ∧ i ≤ e ∧ e ≤ i + r.length + 1
  | 0, r, i, out, t, e, c, hr, ho, hl, h => by
    unfold scanL at h; cases h
    exact ⟨.inr ⟨by decide, rfl⟩, by omega, by omega⟩
  | f + 1, r, i, out, t, e, c, hr, ho, hl, h => by
    unfold scanL at h
    split at h
    · cases h; exact ⟨.inr ⟨by decide, rfl⟩, by omega, by omega⟩
    · rename_i a r
      split at h
      · cases h; exact ⟨.inr ⟨by decide, rfl⟩, by omega, by simp; omega⟩
      · split at h
        · cases h; exact ⟨.inl ⟨rfl, hl, ho⟩, by omega, by simp; omega⟩
        · split at h
          · cases h; exact ⟨.inr ⟨by decide, rfl⟩, by omega, by simp; omega⟩
          · split at h
            · obtain ⟨h1, h2, h3⟩ := scan_res M f r _ _ t e c (fun x hx => hr x (by simp [hx])) (fun x hx => by
                rcases List.mem_append.1 hx with hx | hx
                · exact ho x hx
                · simp at hx; subst hx; exact hr _ (by simp)) (by simp; omega) h
              exact ⟨h1, by omega, by simp; omega⟩
            · split at h
              · cases h; exact ⟨.inr ⟨by decide, rfl⟩, by omega, by simp; omega⟩
              · rename_i v n hesc
                obtain ⟨hn1, hn2⟩ := esc_pos hesc
                have hv : isB v := by
                  unfold escL at hesc
                  split at hesc
                  · cases hesc
                  · rename_i c' r'
                    split at hesc
                    · rename_i v' hm
                      cases hesc
                      unfold meantL at hm
                      repeat' split at hm
                      all_goals first | (cases hm; first | exact ⟨by decide, by decide⟩ | exact hr _ (by simp)) | cases hm
                    · split at hesc
                      · unfold hexEsc at hesc
                        split at hesc
                        · split at hesc
                          · rename_i h1 h2
                            cases hesc
                            have := nib_lt h1
                            have := nib_lt h2
                            exact ⟨by omega, by omega⟩
                          · cases hesc
                        · cases hesc
                      · cases hesc
                obtain ⟨h1, h2, h3⟩ := scan_res M f (r.drop n) _ _ t e c (fun x hx => hr x (List.mem_cons_of_mem _ (List.mem_of_mem_drop hx))) (fun x hx => by
                  rcases List.mem_append.1 hx with hx | hx
                  · exact ho x hx
                  · simp at hx; subst hx; exact hv) (by simp; omega) h
                rw [List.length_drop] at h3
                exact ⟨h1, by omega, by simp; omega⟩
theorem qputL_inj {a b : List Int} (ha : ∀ x ∈ a, isB x) (hb : ∀ x ∈ b, isB x) (h : qputL a = qputL b) : a = b := by
  unfold qputL at h
  simp only [List.cons.injEq, true_and] at h
  have e1 := scan_put (a.length + b.length) [] a (a.length + b.length + 1) 0 [] ha (by omega) (by simp)
  have e2 := scan_put (a.length + b.length) [] b (a.length + b.length + 1) 0 [] hb (by omega) (by simp)
  rw [h, e2] at e1
  rw [if_pos (by simp), if_pos (by simp)] at e1
  simp at e1
  exact e1.1.symm
theorem beqS_bytes {a b : List Int} (ha : ∀ x ∈ a, isB x) (hb : ∀ x ∈ b, isB x) : beqS (bytesOf a) (bytesOf b) = decide (a = b) := by
  by_cases h : a = b
  · subst h; simp [beqS_self]
  · have : beqS (bytesOf a) (bytesOf b) = false := by
      cases e : beqS (bytesOf a) (bytesOf b) with
      | false => rfl
      | true =>
        have := congrArg ofBytes ((beqS_iff _ _).1 e)
        rw [ofBytes_bytesOf ha, ofBytes_bytesOf hb] at this
        exact absurd this h
    rw [this]; simp [h]
theorem oneL_pr {c : Int} (hc : isB c) : ∀ x ∈ oneL c, 32 ≤ x ∧ x ≤ 126 := by
  unfold isB at hc
  unfold oneL
  repeat' split
  all_goals (intro x hx; simp at hx)
  · rcases hx with rfl | rfl <;> omega
  · rcases hx with rfl | rfl <;> omega
  · rcases hx with rfl | rfl <;> omega
  · omega
  · subst hx; omega
  · unfold hexL at hx
    rcases hx with rfl | rfl | rfl | rfl <;> (try split) <;> omega
theorem qputL_pr {l : List Int} (hl : ∀ x ∈ l, isB x) : ∀ x ∈ qputL l, 32 ≤ x ∧ x ≤ 126 := by
  intro x hx
  unfold qputL at hx
  simp only [List.mem_cons, List.mem_append, List.mem_flatMap, List.not_mem_nil, or_false] at hx
  rcases hx with rfl | ⟨c, hc, hx⟩ | rfl
  · omega
  · exact oneL_pr (hl c hc) x hx
  · omega
theorem qputL_isB {l : List Int} (hl : ∀ x ∈ l, isB x) : ∀ x ∈ qputL l, isB x := by
  intro x hx
  have := qputL_pr hl x hx
  exact ⟨by omega, by omega⟩
theorem qputL_len (l : List Int) : (qputL l).length ≤ 4 * l.length + 2 := by
  unfold qputL
  have := flat_len l
  simp [-List.length_flatMap]; omega
theorem scan_within (A B l : List Int) (hl : ∀ x ∈ l, isB x) : ¬ noQuote (A ++ qputL l ++ B) (A.length : Int) ∧
    scanL 64 ((A ++ qputL l ++ B).length + 1) ((A ++ qputL l ++ B).drop (A.length + 1)) ((A.length : Int) + 1) [] =
      if l.length ≤ 64 then (l, ((A ++ qputL l).length : Int), 0) else ([], (A.length : Int) + 1 + (((l.take 64).flatMap oneL).length : Int), 3) := by
  have e : A ++ qputL l ++ B = A ++ (34 :: (l.flatMap oneL ++ 34 :: B)) := by unfold qputL; simp
  constructor
  · unfold noQuote
    rw [e]
    simp
    omega
  · have hfl : l.length ≤ (l.flatMap oneL).length := by
      clear e hl
      induction l with
      | nil => simp
      | cons c l ih =>
        rw [List.flatMap_cons, List.length_append, List.length_cons]
        have : 1 ≤ (oneL c).length := by
          unfold oneL
          repeat' split
          all_goals simp
        omega
    have ed : (A ++ qputL l ++ B).drop (A.length + 1) = l.flatMap oneL ++ 34 :: B := by
      rw [e, List.drop_append]
      simp [-List.length_flatMap]
    rw [ed, scan_put 64 B l _ _ [] hl (by rw [e]; simp [-List.length_flatMap]; omega) (by simp)]
    simp only [List.length_nil, Nat.zero_add, List.nil_append, Nat.sub_zero]
    by_cases h : l.length ≤ 64
    · rw [if_pos h, if_pos h]
      congr 2
      unfold qputL
      simp [-List.length_flatMap]
      omega
    · rw [if_neg h, if_neg h]
end Go.Aw

namespace Go.Aw
open Go Go.RowKit
abbrev LTok := Int × (ByteArray × (Int × (Int × Int)))
def isW (c : Int) : Bool := decide (c = 32) || decide (c = 9) || decide (c = 13) || decide (c = 10)
def signs : List Int := [123, 125, 40, 41, 91, 93, 44, 58, 59, 61, 43, 45, 42, 46]
def lineN : List Int → Nat
  | [] => 0
  | c :: r => if c = 10 then 0 else lineN r + 1
structure Got where
  kind : Int
  text : List Int
  num : Int
  cls : Int
  len : Nat
  code : Int
  off : Int
deriving DecidableEq
def Got.bad (c : Int) (off : Int) : Got := ⟨0, [], 0, 0, 0, c, off⟩
def numS (kind : Int) (ahead : Nat) (cls : Int) (r : List Int) : Got :=
  let d := run (r.drop ahead)
  let v := val ((r.drop ahead).take d)
  if d = 0 ∨ (r.getD ahead 0 = 48 ∧ 1 < d) then .bad 12 0
  else if v > 2 ^ 63 ∨ (0 < ahead ∧ v > 2 ^ 31 - 1) then .bad 2 0
  else ⟨kind, r.take (ahead + d), w64 v, cls, ahead + d, 0, 0⟩
def tokS : List Int → Got
  | [] => .bad 10 0
  | c :: r =>
    if c = 34 then (match scanL 64 (r.length + 1) r 1 [] with
      | (t, e, code) => if code = 0 then ⟨3, t, 0, 0, e.toNat, 0, 0⟩ else .bad code e)
    else if isL c = true then (if runS (c :: r) > 24 then .bad 3 0 else ⟨1, (c :: r).take (runS (c :: r)), 0, 0, runS (c :: r), 0, 0⟩)
    else if c = 37 then numS 4 1 0 (c :: r)
    else if c = 35 then numS 6 1 0 (c :: r)
    else if c = 36 then (if r.head? = some 103 then numS 5 2 0 (c :: r) else if r.head? = some 120 then numS 5 2 1 (c :: r) else .bad 12 0)
    else if isD c then numS 2 0 0 (c :: r)
    else if c ∈ signs then (if c = 46 ∧ r.head? = some 46 then ⟨7, [46, 46], 0, 0, 2, 0, 0⟩ else ⟨7, [c], 0, 0, 1, 0, 0⟩)
    else .bad 10 0
def lexS : Nat → List Int → Int → List LTok → List LTok × Int × Int
  | 0, _, at_, _ => ([], 10, at_)
  | f + 1, l, at_, out => match l with
    | [] => (out ++ [(0, ByteArray.mk #[], 0, 0, at_)], 0, 0)
    | c :: r =>
      if isW c = true then lexS f r (at_ + 1) out
      else if c = 47 ∧ r.head? = some 47 then lexS f ((c :: r).drop (lineN (c :: r))) (at_ + lineN (c :: r)) out
      else if (tokS (c :: r)).code ≠ 0 then ([], (tokS (c :: r)).code, at_ + (tokS (c :: r)).off)
      else lexS f ((c :: r).drop (tokS (c :: r)).len) (at_ + (tokS (c :: r)).len) (out ++ [((tokS (c :: r)).kind, bytesOf (tokS (c :: r)).text, (tokS (c :: r)).num, (tokS (c :: r)).cls, at_)])
def lexAll (l : List Int) : List LTok × Int × Int := if l.length > 65536 then ([], 3, 0) else lexS (l.length + 1) l 0 []
theorem lineN_le : ∀ l : List Int, lineN l ≤ l.length
  | [] => Nat.le_refl _
  | c :: r => by unfold lineN; split <;> simp; have := lineN_le r; omega
theorem runS_pos {c : Int} {r : List Int} (h : isL c = true) : 1 ≤ runS (c :: r) := by
  unfold runS; rw [if_pos (isS_of_isL h)]; omega
theorem numS_len {kind cls : Int} {ahead : Nat} {r : List Int} (h : (numS kind ahead cls r).code = 0) : 1 ≤ (numS kind ahead cls r).len ∧ (numS kind ahead cls r).len ≤ r.length := by
  unfold numS at *
  dsimp only at *
  split at h
  · simp [Got.bad] at h
  · rename_i h1
    split at h
    · simp [Got.bad] at h
    · rename_i h2
      rw [if_neg h1, if_neg h2]
      dsimp only
      have := run_le (r.drop ahead)
      rw [List.length_drop] at this
      constructor <;> omega
theorem scan_end (M : Nat) : ∀ (f : Nat) (r : List Int) (i : Int) (out t : List Int) (e : Int), scanL M f r i out = (t, e, 0) → e ≤ i + r.length ∧ i < e
  | 0, r, i, out, t, e, h => by unfold scanL at h; simp at h
  | f + 1, r, i, out, t, e, h => by
    unfold scanL at h
    split at h
    · simp at h
    · rename_i a r
      simp only [List.length_cons]
      split at h
      · simp at h
      · split at h
        · simp at h; omega
        · split at h
          · simp at h
          · split at h
            · have := scan_end M f r _ _ t e h
              omega
            · split at h
              · simp at h
              · rename_i v n hesc
                have := scan_end M f (r.drop n) _ _ t e h
                have := esc_pos hesc
                rw [List.length_drop] at *
                omega
theorem isL_iff {c : Int} : isL c = true ↔ (97 ≤ c ∧ c ≤ 122) ∨ c = 95 := by unfold isL; simp
theorem tokS_34 (r : List Int) : tokS (34 :: r) = (match scanL 64 (r.length + 1) r 1 [] with
      | (t, e, code) => if code = 0 then ⟨3, t, 0, 0, e.toNat, 0, 0⟩ else .bad code e) := by
  unfold tokS; dsimp only; rw [if_pos rfl]
theorem tokS_L {c : Int} (r : List Int) (h : isL c = true) : tokS (c :: r) = if runS (c :: r) > 24 then .bad 3 0 else ⟨1, (c :: r).take (runS (c :: r)), 0, 0, runS (c :: r), 0, 0⟩ := by
  have := isL_iff.1 h
  unfold tokS; dsimp only; rw [if_neg (by omega), if_pos h]
theorem tokS_37 (r : List Int) : tokS (37 :: r) = numS 4 1 0 (37 :: r) := by
  unfold tokS; dsimp only; rw [if_neg (by decide), if_neg (by decide), if_pos rfl]
theorem tokS_35 (r : List Int) : tokS (35 :: r) = numS 6 1 0 (35 :: r) := by
  unfold tokS; dsimp only; rw [if_neg (by decide), if_neg (by decide), if_neg (by decide), if_pos rfl]
theorem tokS_36 (r : List Int) : tokS (36 :: r) = if r.head? = some 103 then numS 5 2 0 (36 :: r) else if r.head? = some 120 then numS 5 2 1 (36 :: r) else .bad 12 0 := by
  unfold tokS; dsimp only; rw [if_neg (by decide), if_neg (by decide), if_neg (by decide), if_neg (by decide), if_pos rfl]
theorem tokS_D {c : Int} (r : List Int) (h : isD c) : tokS (c :: r) = numS 2 0 0 (c :: r) := by
  have h' := h
  unfold isD at h'
  unfold tokS; dsimp only; rw [if_neg (by omega), if_neg (by rw [isL_iff]; omega), if_neg (by omega), if_neg (by omega), if_neg (by omega), if_pos h]
theorem tokS_S {c : Int} (r : List Int) (h : c ∈ signs) : tokS (c :: r) = if c = 46 ∧ r.head? = some 46 then ⟨7, [46, 46], 0, 0, 2, 0, 0⟩ else ⟨7, [c], 0, 0, 1, 0, 0⟩ := by
  have h' := h
  simp only [signs, List.mem_cons, List.not_mem_nil, or_false] at h'
  unfold tokS; dsimp only; rw [if_neg (by omega), if_neg (by rw [isL_iff]; omega), if_neg (by omega), if_neg (by omega), if_neg (by omega), if_neg (by unfold isD; omega), if_pos h]
theorem tokS_no {c : Int} (r : List Int) (h1 : c ≠ 34) (h2 : isL c = false) (h3 : c ≠ 37) (h4 : c ≠ 35) (h5 : c ≠ 36) (h6 : ¬ isD c) (h7 : c ∉ signs) : tokS (c :: r) = .bad 10 0 := by
  unfold tokS; dsimp only; rw [if_neg h1, if_neg (by rw [h2]; decide), if_neg h3, if_neg h4, if_neg h5, if_neg h6, if_neg h7]
theorem tokS_cases (c : Int) : c = 34 ∨ isL c = true ∨ c = 37 ∨ c = 35 ∨ c = 36 ∨ isD c ∨ c ∈ signs ∨ (c ≠ 34 ∧ isL c = false ∧ c ≠ 37 ∧ c ≠ 35 ∧ c ≠ 36 ∧ ¬ isD c ∧ c ∉ signs) := by
  by_cases h1 : c = 34
  · exact .inl h1
  · by_cases h2 : isL c = true
    · exact .inr (.inl h2)
    · by_cases h3 : c = 37
      · exact .inr (.inr (.inl h3))
      · by_cases h4 : c = 35
        · exact .inr (.inr (.inr (.inl h4)))
        · by_cases h5 : c = 36
          · exact .inr (.inr (.inr (.inr (.inl h5))))
          · by_cases h6 : isD c
            · exact .inr (.inr (.inr (.inr (.inr (.inl h6)))))
            · by_cases h7 : c ∈ signs
              · exact .inr (.inr (.inr (.inr (.inr (.inr (.inl h7))))))
              · exact .inr (.inr (.inr (.inr (.inr (.inr (.inr ⟨h1, by simpa using h2, h3, h4, h5, h6, h7⟩))))))
theorem tokS_len {l : List Int} (h : (tokS l).code = 0) : 1 ≤ (tokS l).len ∧ (tokS l).len ≤ l.length := by
  cases l with
  | nil => simp [tokS, Got.bad] at h
  | cons c r =>
    rcases tokS_cases c with rfl | hL | rfl | rfl | rfl | hD | hS | ⟨h1, h2, h3, h4, h5, h6, h7⟩
    · rw [tokS_34] at *
      cases hs : scanL 64 (r.length + 1) r 1 [] with
      | mk t ec =>
        obtain ⟨e, code⟩ := ec
        rw [hs] at h
        dsimp only at *
        split at h
        · rename_i h0
          rw [if_pos h0]
          subst h0
          have := scan_end 64 (r.length + 1) r 1 [] t e hs
          simp only [List.length_cons]
          omega
        · simp [Got.bad] at h; contradiction
    · rw [tokS_L r hL] at *
      split at h
      · simp [Got.bad] at h
      · rename_i h24
        rw [if_neg h24]
        exact ⟨runS_pos hL, runS_le _⟩
    · rw [tokS_37] at *; exact numS_len h
    · rw [tokS_35] at *; exact numS_len h
    · rw [tokS_36] at *
      split at h
      · rename_i h1; rw [if_pos h1]; exact numS_len h
      · rename_i h1; rw [if_neg h1]
        split at h
        · rename_i h1; rw [if_pos h1]; exact numS_len h
        · simp [Got.bad] at h
    · rw [tokS_D r hD] at *; exact numS_len h
    · rw [tokS_S r hS] at *
      split
      · rename_i hh
        obtain ⟨_, hh⟩ := hh
        cases r with
        | nil => simp at hh
        | cons a r => simp
      · simp
    · rw [tokS_no r h1 h2 h3 h4 h5 h6 h7] at h; simp [Got.bad] at h
end Go.Aw

namespace Go.Aw
open Go Go.RowKit
theorem lexS_fuel : ∀ (f g : Nat) (l : List Int) (a : Int) (out : List LTok), l.length < f → l.length < g → lexS f l a out = lexS g l a out
  | 0, _, _, _, _, h, _ => by omega
  | _, 0, _, _, _, _, h => by omega
  | f + 1, g + 1, l, a, out, h1, h2 => by
    unfold lexS
    cases l with
    | nil => rfl
    | cons c r =>
      simp only [List.length_cons] at h1 h2
      dsimp only
      split
      · exact lexS_fuel f g r _ out (by omega) (by omega)
      · split
        · rename_i hr
          have hl : 1 ≤ lineN (c :: r) := by
            unfold lineN; rw [if_neg (by omega)]; omega
          exact lexS_fuel f g _ _ out (by simp [List.length_drop]; omega) (by simp [List.length_drop]; omega)
        · split
          · rfl
          · rename_i h0
            have := tokS_len (l := c :: r) (by simpa using h0)
            exact lexS_fuel f g _ _ _ (by simp [List.length_drop]; omega) (by simp [List.length_drop]; omega)
def lexW (l : List Int) (a : Int) (out : List LTok) : List LTok × Int × Int := lexS (l.length + 1) l a out
theorem lexW_nil (a : Int) (out : List LTok) : lexW [] a out = (out ++ [(0, ByteArray.mk #[], 0, 0, a)], 0, 0) := rfl
theorem lexW_blank {c : Int} {r : List Int} (a : Int) (out : List LTok) (h : isW c = true) : lexW (c :: r) a out = lexW r (a + 1) out := by
  unfold lexW
  conv => lhs; unfold lexS
  dsimp only
  rw [if_pos h]
  rfl
theorem lexW_remark {r : List Int} (a : Int) (out : List LTok) (h : r.head? = some 47) : lexW (47 :: r) a out = lexW ((47 :: r).drop (lineN (47 :: r))) (a + lineN (47 :: r)) out := by
  unfold lexW
  conv => lhs; unfold lexS
  dsimp only
  rw [if_neg (by decide), if_pos ⟨rfl, h⟩]
  have hl : 1 ≤ lineN (47 :: r) := by unfold lineN; rw [if_neg (by decide)]; omega
  exact lexS_fuel _ _ _ _ _ (by simp [List.length_drop]; omega) (by omega)
def stopAt (l : List Int) : Prop := match l with
  | [] => True
  | c :: r => isW c = false ∧ ¬ (c = 47 ∧ r.head? = some 47)
theorem lexW_tok {c : Int} {r : List Int} (a : Int) (out : List LTok) (h : stopAt (c :: r)) :
    lexW (c :: r) a out = if (tokS (c :: r)).code ≠ 0 then ([], (tokS (c :: r)).code, a + (tokS (c :: r)).off)
      else lexW ((c :: r).drop (tokS (c :: r)).len) (a + (tokS (c :: r)).len) (out ++ [((tokS (c :: r)).kind, bytesOf (tokS (c :: r)).text, (tokS (c :: r)).num, (tokS (c :: r)).cls, a)]) := by
  unfold lexW
  conv => lhs; unfold lexS
  dsimp only
  rw [if_neg (by rw [h.1]; decide), if_neg h.2]
  split
  · rfl
  · rename_i h0
    have := tokS_len (l := c :: r) (by simpa using h0)
    exact lexS_fuel _ _ _ _ _ (by simp [List.length_drop]; omega) (by omega)
theorem lexAll_eq (l : List Int) : lexAll l = if l.length > 65536 then ([], 3, 0) else lexW l 0 [] := rfl
theorem lineN_in {l : List Int} {i : Nat} (h : i < lineN l) : l.getD i 0 ≠ 10 := by
  induction l generalizing i with
  | nil => simp [lineN] at h
  | cons c r ih =>
    unfold lineN at h
    split at h
    · omega
    · cases i with
      | zero => simpa using by assumption
      | succ i => simpa using ih (by omega)
theorem lineN_end {l : List Int} (h : lineN l < l.length) : l.getD (lineN l) 0 = 10 := by
  induction l with
  | nil => simp at h
  | cons c r ih =>
    rw [lineN] at h ⊢
    split
    · rename_i hc; simpa using hc
    · rename_i hc
      rw [if_neg hc] at h
      have h' : lineN r < r.length := by simpa using h
      simpa using ih h'
theorem lineN_eq {l : List Int} {j : Nat} (hj : j ≤ l.length) (h1 : ∀ i, i < j → l.getD i 0 ≠ 10) (h2 : j < l.length → l.getD j 0 = 10) : lineN l = j := by
  rcases Nat.lt_trichotomy (lineN l) j with h | h | h
  · exact absurd (lineN_end (by omega)) (h1 _ h)
  · exact h
  · have := lineN_le l
    exact absurd (h2 (by omega)) (lineN_in h)
theorem run_take : ∀ (l : List Int) (n : Nat), run (l.take n) = min n (run l)
  | [], n => by simp [run]
  | x :: r, 0 => by simp [run]
  | x :: r, n + 1 => by
    simp only [List.take_succ_cons, run]
    split
    · rw [run_take r n]; omega
    · omega
theorem foldl_ge : ∀ (l : List Int) (a : Nat), a * 10 ^ l.length ≤ l.foldl (fun a d => 10 * a + (d - 48).toNat) a
  | [], a => by simp
  | d :: l, a => by
    simp only [List.foldl_cons, List.length_cons]
    refine Nat.le_trans ?_ (foldl_ge l _)
    rw [Nat.pow_succ, show a * (10 ^ l.length * 10) = (10 * a) * 10 ^ l.length by rw [Nat.mul_comm (10 ^ l.length) 10, ← Nat.mul_assoc, Nat.mul_comm a 10]]
    exact Nat.mul_le_mul_right _ (by omega)
theorem val_ge {c : Int} {l : List Int} (h : 49 ≤ c) : 10 ^ l.length ≤ val (c :: l) := by
  unfold val
  simp only [List.foldl_cons]
  refine Nat.le_trans ?_ (foldl_ge l _)
  have : 1 ≤ 10 * 0 + (c - 48).toNat := by omega
  exact Nat.le_trans (by omega) (Nat.mul_le_mul_right _ this)
def digC (r : List Int) : Int := if run r = 0 ∨ (r.getD 0 0 = 48 ∧ 1 < run r) then 12 else if val (r.take (run r)) > 2 ^ 63 then 2 else 0
theorem numS_eq (kind cls : Int) (ahead : Nat) (r : List Int) : numS kind ahead cls r = if digC (r.drop ahead) ≠ 0 then .bad (digC (r.drop ahead)) 0 else
    if 0 < ahead ∧ val ((r.drop ahead).take (run (r.drop ahead))) > 2 ^ 31 - 1 then .bad 2 0 else ⟨kind, r.take (ahead + run (r.drop ahead)), w64 (val ((r.drop ahead).take (run (r.drop ahead)))), cls, ahead + run (r.drop ahead), 0, 0⟩ := by
  unfold numS digC
  dsimp only
  have e : (r.drop ahead).getD 0 0 = r.getD ahead 0 := by simp [List.getD, List.getElem?_drop]
  rw [e]
  split
  · rfl
  · split
    · rename_i h1 h2
      split
      · simp
      · rename_i h3
        rw [if_neg (by simp), if_pos (by omega)]
    · rename_i h1 h2
      rw [if_neg (show ¬ val (List.take (run (List.drop ahead r)) (List.drop ahead r)) > 2 ^ 63 from fun h => h2 (.inl h)), if_neg (by decide), if_neg (fun h => h2 (.inr h))]
theorem scan_minus (r : List Int) : scanI (45 :: r.take 24) 0 = if run r = 0 ∨ r.getD 0 0 = 48 then (0, 0, 12) else if val (r.take (run r)) > 2 ^ 63 then (0, 0, 2) else (-(val (r.take (run r)) : Int), ((1 + run r : Nat) : Int), 0) := by
  unfold scanI
  rw [if_neg (by simp; omega)]
  dsimp only
  simp only [List.getD_cons_zero, List.length_cons, Int.toNat_zero, Nat.zero_lt_succ, decide_true, beq_self_eq_true, Bool.and_true, Bool.toNat_true, Nat.zero_add, List.drop_succ_cons, List.drop_zero, List.getD_cons_succ, or_true, and_true, Bool.true_eq_false, and_false, or_false, if_true]
  rw [run_take]
  have e0 : (r.take 24).getD 0 0 = r.getD 0 0 := by cases r <;> rfl
  rw [e0]
  by_cases h1 : run r = 0 ∨ r.getD 0 0 = 48
  · rw [if_pos h1, if_pos (by omega)]
  · rw [if_neg h1, if_neg (by omega)]
    rcases Nat.lt_or_ge 24 (run r) with hb | hb
    · have hrl := run_le r
      have big : ∀ n : Nat, 24 ≤ n → n ≤ run r → val (r.take n) > 2 ^ 63 := by
        intro n h24 hn
        cases r with
        | nil => simp [run] at hb
        | cons c r =>
          have hc : isD c := run_isD (c :: r) c (by
            obtain ⟨m, hm⟩ : ∃ m, run (c :: r) = m + 1 := ⟨run (c :: r) - 1, by omega⟩
            rw [hm]; simp)
          simp only [List.getD_cons_zero] at h1
          obtain ⟨m, rfl⟩ : ∃ m, n = m + 1 := ⟨n - 1, by omega⟩
          simp only [List.length_cons] at hrl
          rw [List.take_succ_cons]
          refine Nat.lt_of_lt_of_le ?_ (val_ge (by unfold isD at hc; omega))
          rw [List.length_take, Nat.min_eq_left (by omega)]
          exact Nat.lt_of_lt_of_le (by decide : 2 ^ 63 < 10 ^ 23) (Nat.pow_le_pow_right (by decide) (by omega))
      rw [Nat.min_eq_left (by omega), List.take_take, if_pos (by have := big 24 (by omega) (by omega); simpa using this), if_pos (big _ (by omega) (Nat.le_refl _))]
    · rw [Nat.min_eq_right (by omega), List.take_take, Nat.min_eq_left (by omega)]
theorem val_zero {r : List Int} (h : run r ≠ 0) (hv : val (r.take (run r)) = 0) : r.getD 0 0 = 48 := by
  cases r with
  | nil => simp [run] at h
  | cons c r =>
    have hc : isD c := run_isD (c :: r) c (by
      obtain ⟨m, hm⟩ : ∃ m, run (c :: r) = m + 1 := ⟨run (c :: r) - 1, by omega⟩
      rw [hm]; simp)
    obtain ⟨m, hm⟩ : ∃ m, run (c :: r) = m + 1 := ⟨run (c :: r) - 1, by omega⟩
    rw [hm, List.take_succ_cons] at hv
    rcases Int.lt_or_le c 49 with h1 | h1
    · unfold isD at hc; simp; omega
    · have := val_ge (c := c) (l := r.take m) h1
      have := Nat.pow_pos (n := (r.take m).length) (by decide : 0 < 10)
      omega
def idxI : List Int → Int → Int
  | [], _ => -1
  | x :: l, c => if x = c then 0 else if idxI l c = -1 then -1 else idxI l c + 1
theorem idxI_ge : ∀ (l : List Int) (c : Int), -1 ≤ idxI l c
  | [], _ => by simp [idxI]
  | x :: l, c => by
    unfold idxI
    have := idxI_ge l c
    repeat' split
    all_goals omega
theorem idxI_mem : ∀ (l : List Int) (c : Int), 0 ≤ idxI l c ↔ c ∈ l
  | [], _ => by simp [idxI]
  | x :: l, c => by
    unfold idxI
    have h1 := idxI_ge l c
    have h2 := idxI_mem l c
    simp only [List.mem_cons]
    split
    · rename_i h; subst h; simp
    · rename_i h
      split
      · rename_i h3
        constructor
        · intro hh; omega
        · rintro (hh | hh)
          · exact absurd hh.symm h
          · have := h2.2 hh; omega
      · constructor
        · intro _; exact .inr (h2.1 (by omega))
        · intro _; omega
theorem idxI_line : ∀ l : List Int, idxI l 10 = if lineN l < l.length then (lineN l : Int) else -1
  | [] => by simp [idxI, lineN]
  | x :: l => by
    unfold idxI
    rw [idxI_line l]
    rw [lineN]
    by_cases h : x = 10
    · rw [if_pos h, if_pos h]; simp
    · rw [if_neg h, if_neg h]
      by_cases h2 : lineN l < l.length
      · rw [if_pos h2, if_neg (by omega), if_pos (by simp; omega)]; simp
      · rw [if_neg h2, if_pos rfl, if_neg (by simp; omega)]
theorem indexByte_map : ∀ (l : List UInt8) (b : UInt8), Lib.indexByte l b = idxI (l.map fun x => ((x.toNat : Nat) : Int)) ((b.toNat : Nat) : Int)
  | [], b => rfl
  | x :: l, b => by
    simp only [Lib.indexByte, List.map_cons, idxI]
    rw [indexByte_map l b]
    have e : (x == b) = decide (((x.toNat : Nat) : Int) = ((b.toNat : Nat) : Int)) := by
      rw [Bool.eq_iff_iff, beq_iff_eq, decide_eq_true_eq]
      constructor
      · intro h; rw [h]
      · intro h; exact UInt8.toNat_inj.1 (by exact_mod_cast h)
    rw [e]
    simp [BEq.beq]
theorem indexB_eq (s : ByteArray) {c : Int} (hc : isB c) : indexB s c = idxI (ofBytes s) c := by
  unfold indexB
  rw [indexByte_map]
  have : (c.toNat.toUInt8.toNat : Int) = c := by
    unfold isB at hc
    simp; omega
  rw [this]
  rfl
theorem isW_iff {c : Int} : isW c = true ↔ c = 32 ∨ c = 9 ∨ c = 13 ∨ c = 10 := by unfold isW; simp [or_assoc]
theorem indexB_blank {c : Int} (hc : isB c) : (0 ≤ indexB (ByteArray.mk #[32, 9, 13, 10]) c) ↔ isW c = true := by
  rw [indexB_eq _ hc, idxI_mem, isW_iff, show ofBytes (ByteArray.mk #[32, 9, 13, 10]) = [32, 9, 13, 10] from rfl]
  simp
theorem indexB_signs {c : Int} (hc : isB c) : (0 ≤ indexB (ByteArray.mk #[123, 125, 40, 41, 91, 93, 44, 58, 59, 61, 43, 45, 42, 46]) c) ↔ c ∈ signs := by
  rw [indexB_eq _ hc, idxI_mem, show ofBytes (ByteArray.mk #[123, 125, 40, 41, 91, 93, 44, 58, 59, 61, 43, 45, 42, 46]) = signs from rfl]
end Go.Aw
namespace Go.Aw
theorem numS_off (kind cls : Int) (a : Nat) (r : List Int) : (numS kind a cls r).off = 0 := by
  unfold numS
  dsimp only
  split
  · rfl
  · split <;> rfl
theorem tokS_off {c : Int} {r : List Int} (h : c ≠ 34) : (tokS (c :: r)).off = 0 := by
  rcases tokS_cases c with hc | hL | rfl | rfl | rfl | hD | hS | ⟨h1, h2, h3, h4, h5, h6, h7⟩
  · exact absurd hc h
  · rw [tokS_L r hL]; split <;> rfl
  · rw [tokS_37]; exact numS_off _ _ _ _
  · rw [tokS_35]; exact numS_off _ _ _ _
  · rw [tokS_36]
    split
    · exact numS_off _ _ _ _
    · split
      · exact numS_off _ _ _ _
      · rfl
  · rw [tokS_D r hD]; exact numS_off _ _ _ _
  · rw [tokS_S r hS]; split <;> rfl
  · rw [tokS_no r h1 h2 h3 h4 h5 h6 h7]; rfl
end Go.Aw
namespace Go.Aw
theorem lexS_ok : ∀ (f : Nat) (l : List Int) (a : Int) (out : List LTok), (lexS f l a out).2.1 = 0 → (lexS f l a out).2.2 = 0
  | 0, l, a, out, h => by simp [lexS] at h
  | f + 1, l, a, out, h => by
    unfold lexS at h ⊢
    cases l with
    | nil => rfl
    | cons c r =>
      dsimp only at h ⊢
      split at h
      · rename_i h1; rw [if_pos h1]; exact lexS_ok f _ _ _ h
      · rename_i h1; rw [if_neg h1]
        split at h
        · rename_i h2; rw [if_pos h2]; exact lexS_ok f _ _ _ h
        · rename_i h2; rw [if_neg h2]
          split at h
          · rename_i h3; exact absurd h h3
          · rename_i h3; rw [if_neg h3]; exact lexS_ok f _ _ _ h
theorem lexAll_ok {l : List Int} (h : (lexAll l).2.1 = 0) : (lexAll l).2.2 = 0 := by
  unfold lexAll at *
  split
  · rfl
  · rename_i h1; rw [if_neg h1] at h; exact lexS_ok _ _ _ _ h
theorem lexS_bad : ∀ (f : Nat) (l : List Int) (a : Int) (out : List LTok), (lexS f l a out).2.1 ≠ 0 → (lexS f l a out).1 = []
  | 0, l, a, out, h => rfl
  | f + 1, l, a, out, h => by
    unfold lexS at h ⊢
    cases l with
    | nil => exact absurd rfl h
    | cons c r =>
      dsimp only at h ⊢
      split at h
      · rename_i h1; rw [if_pos h1]; exact lexS_bad f _ _ _ h
      · rename_i h1; rw [if_neg h1]
        split at h
        · rename_i h2; rw [if_pos h2]; exact lexS_bad f _ _ _ h
        · rename_i h2; rw [if_neg h2]
          split at h
          · rename_i h3; rw [if_pos h3]
          · rename_i h3; rw [if_neg h3]; exact lexS_bad f _ _ _ h
theorem lexAll_bad {l : List Int} (h : (lexAll l).2.1 ≠ 0) : (lexAll l).1 = [] := by
  unfold lexAll at *
  split
  · rfl
  · rename_i h1; rw [if_neg h1] at h; exact lexS_bad _ _ _ _ h
theorem putL_dig {n : Int} (h0 : 0 ≤ n) (hn : in64 n) : (∀ x ∈ putL n, isD x) ∧ val (putL n) = n.toNat ∧ ((putL n).getD 0 0 = 48 → (putL n).length = 1) := by
  have hp : putL n = (dl 20 n.natAbs).reverse := by unfold putL; rw [if_neg (by omega)]; rfl
  have hlt : n.natAbs < 10 ^ 20 := by unfold in64 at hn; omega
  rw [hp]
  refine ⟨fun x hx => dl_isD _ _ x (List.mem_reverse.1 hx), by rw [dl_val _ _ hlt]; omega, fun h => ?_⟩
  have h1 : (dl 20 n.natAbs).getLast? = some 48 := by
    have hne : (dl 20 n.natAbs).reverse ≠ [] := by simp [dl_ne]
    rw [← List.head?_reverse]
    cases hc : (dl 20 n.natAbs).reverse with
    | nil => exact absurd hc hne
    | cons a r => rw [hc] at h; simp at h; simp [h]
  rw [dl_top _ _ hlt h1]
  rfl
theorem numS_put {n : Int} (h0 : 0 ≤ n) (hn : in64 n) (kind cls : Int) (pre : List Int) (rest : List Int) (hr : ∀ x, rest.head? = some x → ¬ isD x) :
    numS kind pre.length cls (pre ++ putL n ++ rest) = if 0 < pre.length ∧ n > 2147483647 then .bad 2 0 else ⟨kind, pre ++ putL n, n, cls, (pre ++ putL n).length, 0, 0⟩ := by
  obtain ⟨h1, h2, h3⟩ := putL_dig h0 hn
  have hl := putL_len n
  have hd : (pre ++ putL n ++ rest).drop pre.length = putL n ++ rest := by rw [List.append_assoc, List.drop_left]
  have hrun : run (putL n ++ rest) = (putL n).length := run_app _ _ h1 hr
  have htk : (putL n ++ rest).take (putL n).length = putL n := List.take_left
  have hg : (putL n ++ rest).getD 0 0 = (putL n).getD 0 0 := by
    cases hc : putL n with
    | nil => rw [hc] at hl; simp at hl
    | cons a r => rfl
  rw [numS_eq, hd]
  have hC : digC (putL n ++ rest) = 0 := by
    unfold digC
    rw [hrun, htk, h2, hg]
    rw [if_neg (by
      rintro (g | ⟨g1, g2⟩)
      · omega
      · have := h3 g1; omega), if_neg (by unfold in64 at hn; omega)]
  rw [hC, if_neg (by decide), hrun, htk, h2]
  have e : ((n.toNat : Nat) : Int) = n := by omega
  rw [e, w64_id hn]
  by_cases g : 0 < pre.length ∧ n > 2147483647
  · rw [if_pos g, if_pos ⟨g.1, by omega⟩]
  · rw [if_neg g, if_neg (fun h => g ⟨h.1, by omega⟩)]
    congr 1
    · rw [← List.length_append, List.take_left]
    · rw [List.length_append]
end Go.Aw

namespace Go.Aw
open Go Go.RowKit
def LTok.kind (t : LTok) : Int := t.1
def LTok.text (t : LTok) : ByteArray := t.2.1
def LTok.num (t : LTok) : Int := t.2.2.1
def LTok.cls (t : LTok) : Int := t.2.2.2.1
def LTok.pos (t : LTok) : Int := t.2.2.2.2
def noTok : LTok := (0, ByteArray.empty, 0, 0, 0)
def tokAt (l : List LTok) (i : Nat) : LTok := l.getD i noTok
def isTk (t : LTok) (s : ByteArray) : Bool := (decide (t.kind = 1) || decide (t.kind = 7)) && beqS t.text s
abbrev sOpen : ByteArray := ByteArray.mk #[40]
abbrev sClose : ByteArray := ByteArray.mk #[41]
abbrev sMinus : ByteArray := ByteArray.mk #[45]
abbrev sPlus : ByteArray := ByteArray.mk #[43]
abbrev sTimes : ByteArray := ByteArray.mk #[42]
structure FRes where
  n : Int
  at_ : Int
  code : Int
  pos : Int
deriving DecidableEq, Inhabited
def FRes.ok (n at_ : Int) : FRes := ⟨n, at_, 0, 0⟩
def FRes.bad (code : Int) (t : LTok) : FRes := ⟨0, 0, code, t.pos⟩
structure Fr where
  sum : Int
  add : Int
  prod : Int
  times : Bool
  minus : Bool
deriving DecidableEq, Inhabited
def Fr.fresh : Fr := ⟨0, 1, 0, false, false⟩
def doF (op a b : Int) : Int := if op = 1 then w64 (a + b) else if op = 2 then w64 (a - b) else w64 (a * b)
def Fr.number (f : Fr) (n : Int) : Fr :=
  let n := if f.minus = true then w64 (0 - n) else n
  let n := if f.times = true then w64 (f.prod * n) else n
  ⟨f.sum, f.add, n, false, false⟩
def Fr.close (f : Fr) : Int := doF f.add f.sum f.prod
def Fr.sign (f : Fr) (t : LTok) : Option Fr :=
  if isTk t sTimes = true then some { f with times := true }
  else if isTk t sPlus = true then some { f with sum := f.close, add := 1 }
  else if isTk t sMinus = true then some { f with sum := f.close, add := 2 }
  else none
def foldM (l : List LTok) : Nat → Bool → List Fr → Int → Nat → FRes
  | 0, _, _, _, _ => default
  | k + 1, true, st, n, at_ =>
    if isTk (tokAt l at_) sOpen = true then
      if st.length = 32 then .bad 21 (tokAt l at_) else foldM l k true (Fr.fresh :: st) 0 (at_ + 1)
    else match st with
    | [] => default
    | f :: r =>
      if isTk (tokAt l at_) sMinus = true ∧ f.minus = false then foldM l k true ({ f with minus := true } :: r) 0 (at_ + 1)
      else if (tokAt l at_).kind ≠ 2 then .bad 20 (tokAt l at_)
      else if (tokAt l at_).num < 0 ∧ f.minus = false then .bad 2 (tokAt l at_)
      else foldM l k false (f :: r) (tokAt l at_).num (at_ + 1)
  | k + 1, false, [], _, _ => default
  | k + 1, false, f :: r, n, at_ =>
    match (f.number n).sign (tokAt l at_) with
    | some f' => foldM l k true (f' :: r) 0 (at_ + 1)
    | none => if isTk (tokAt l at_) sClose = false then .bad 20 (tokAt l at_)
      else if r = [] then .ok (f.number n).close (at_ + 1 : Nat) else foldM l k false r (f.number n).close (at_ + 1)
def plainF (l : List LTok) (at_ : Nat) : FRes :=
  let m := isTk (tokAt l at_) sMinus
  let at_ := if m = true then at_ + 1 else at_
  let t := tokAt l at_
  if t.kind ≠ 2 then .bad 20 t
  else if m = true then .ok (w64 (0 - t.num)) (at_ + 1 : Nat)
  else if t.num < 0 then .bad 2 t
  else .ok t.num (at_ + 1 : Nat)
def lastKind (l : List LTok) : Int := (tokAt l (l.length - 1)).kind
def foldV (l : List LTok) (at_ : Int) : FRes :=
  if at_ < 0 ∨ at_ ≥ (l.length : Int) ∨ lastKind l ≠ 0 then ⟨0, 0, 1, 0⟩
  else if isTk (tokAt l at_.toNat) sOpen = false then plainF l at_.toNat
  else foldM l (l.length + 1 - at_.toNat) true [] 0 at_.toNat
mutual
def factorS (l : List LTok) : Nat → Nat → Nat → FRes
  | 0, _, _ => default
  | k + 1, at_, deep =>
    let m := isTk (tokAt l at_) sMinus
    let a := if m = true then at_ + 1 else at_
    let t := tokAt l a
    if isTk t sOpen = true ∧ deep > 0 then
      if deep ≥ 32 then .bad 21 t
      else
        let x := sumS l k (a + 1) (deep + 1)
        if x.code ≠ 0 then x else .ok (if m = true then w64 (0 - x.n) else x.n) x.at_
    else if t.kind ≠ 2 then .bad 20 t
    else if t.num < 0 ∧ m = false then .bad 2 t
    else .ok (if m = true then w64 (0 - t.num) else t.num) (a + 1 : Nat)
def moreP (l : List LTok) : Nat → FRes → Nat → FRes
  | 0, _, _ => default
  | k + 1, x, deep =>
    if x.code = 0 ∧ isTk (tokAt l x.at_.toNat) sTimes = true then
      let y := factorS l k (x.at_.toNat + 1) deep
      if y.code ≠ 0 then y else moreP l k (.ok (w64 (x.n * y.n)) y.at_) deep
    else x
def productS (l : List LTok) : Nat → Nat → Nat → FRes
  | 0, _, _ => default
  | k + 1, at_, deep => moreP l k (factorS l k at_ deep) deep
def moreS (l : List LTok) : Nat → FRes → Nat → FRes
  | 0, _, _ => default
  | k + 1, x, deep =>
    if x.code = 0 ∧ (isTk (tokAt l x.at_.toNat) sPlus = true ∨ isTk (tokAt l x.at_.toNat) sMinus = true) then
      let y := productS l k (x.at_.toNat + 1) deep
      if y.code ≠ 0 then y
      else moreS l k (.ok (w64 (x.n + if isTk (tokAt l x.at_.toNat) sMinus = true then w64 (0 - y.n) else y.n)) y.at_) deep
    else x
def sumS (l : List LTok) : Nat → Nat → Nat → FRes
  | 0, _, _ => default
  | k + 1, at_, deep =>
    let x := moreS l k (productS l k at_ deep) deep
    if x.code ≠ 0 then x
    else if isTk (tokAt l x.at_.toNat) sClose = false then .bad 20 (tokAt l x.at_.toNat)
    else { x with at_ := x.at_ + 1 }
end
end Go.Aw

namespace Go.Aw
open Go Go.RowKit
theorem tokAt_none {l : List LTok} {i : Nat} (h : l.length ≤ i) : tokAt l i = noTok := by
  unfold tokAt
  rw [List.getD, List.getElem?_eq_none h]; rfl
theorem isTk_lt {l : List LTok} {i : Nat} {s : ByteArray} (h : isTk (tokAt l i) s = true) : i < l.length := by
  by_cases hi : i < l.length
  · exact hi
  · rw [tokAt_none (by omega)] at h
    exact absurd h (by simp [isTk, noTok, LTok.kind])
theorem num_lt {l : List LTok} {i : Nat} (h : (tokAt l i).kind = 2) : i < l.length := by
  by_cases hi : i < l.length
  · exact hi
  · rw [tokAt_none (by omega)] at h
    exact absurd h (by decide)
theorem isTk_kind {t : LTok} {s : ByteArray} (h : isTk t s = true) : t.kind ≠ 2 := by
  intro e
  unfold isTk at h
  rw [e] at h
  simp at h
theorem isTk_two {t : LTok} {s u : ByteArray} (h : isTk t s = true) (hne : beqS s u = false) : isTk t u = false := by
  unfold isTk at *
  rw [Bool.and_eq_true] at h
  have e : t.text = s := (beqS_iff _ _).1 h.2
  rw [e, hne, Bool.and_false]
def frN (f : Fr) (n : Int) : Fr := ⟨f.sum, f.add, n, false, false⟩
theorem number_plain (f : Fr) (n : Int) (h1 : f.minus = false) (h2 : f.times = false) : f.number n = frN f n := by
  unfold Fr.number
  rw [h1, h2]; rfl
theorem number_times (f : Fr) (n : Int) (h1 : f.minus = false) : ({ f with times := true } : Fr).number n = frN f (w64 (f.prod * n)) := by
  unfold Fr.number
  dsimp only
  rw [h1]; rfl
theorem number_minus (f : Fr) (n : Int) (h1 : f.minus = false) : ({ f with minus := true } : Fr).number n = f.number (w64 (0 - n)) := by
  unfold Fr.number
  dsimp only
  rw [h1]; rfl
theorem w64_add0 {n : Int} (h : in64 n) : w64 (0 + n) = n := by rw [Int.zero_add]; exact w64_id h
theorem w64_sub (a b : Int) : w64 (a - b) = w64 (a + w64 (0 - b)) := by
  rw [w64_eq, w64_eq, w64_eq (0 - b), Int.add_bmod_bmod]
  congr 1; omega
def FM (l : List LTok) (m : Bool) (st : List Fr) (n : Int) (a : Nat) : FRes := foldM l (l.length + 1 - a) m st n a
def aft (l : List LTok) (f : Fr) (r : List Fr) (a : Nat) : FRes :=
  match f.sign (tokAt l a) with
  | some f' => FM l true (f' :: r) 0 (a + 1)
  | none => if isTk (tokAt l a) sClose = false then .bad 20 (tokAt l a)
    else if r = [] then .ok f.close (a + 1 : Nat) else FM l false r f.close (a + 1)
theorem FM_true {l : List LTok} {f : Fr} {r : List Fr} {n : Int} {a : Nat} (h : a ≤ l.length) : FM l true (f :: r) n a =
    if isTk (tokAt l a) sOpen = true then
      if (f :: r).length = 32 then .bad 21 (tokAt l a) else FM l true (Fr.fresh :: f :: r) 0 (a + 1)
    else if isTk (tokAt l a) sMinus = true ∧ f.minus = false then FM l true ({ f with minus := true } :: r) 0 (a + 1)
      else if (tokAt l a).kind ≠ 2 then .bad 20 (tokAt l a)
      else if (tokAt l a).num < 0 ∧ f.minus = false then .bad 2 (tokAt l a)
      else FM l false (f :: r) (tokAt l a).num (a + 1) := by
  unfold FM
  rw [show l.length + 1 - a = (l.length + 1 - (a + 1)) + 1 by omega, foldM]
theorem FM_false {l : List LTok} {f : Fr} {r : List Fr} {n : Int} {a : Nat} (h : a ≤ l.length) : FM l false (f :: r) n a = aft l (f.number n) r a := by
  unfold aft FM
  rw [show l.length + 1 - a = (l.length + 1 - (a + 1)) + 1 by omega, foldM]
  all_goals rfl
def thenF (x : FRes) (k : Int → Nat → FRes) : FRes := if x.code ≠ 0 then x else k x.n x.at_.toNat
theorem thenF_ok (n : Int) (a : Nat) (k : Int → Nat → FRes) : thenF (.ok n (a : Int)) k = k n a := by
  unfold thenF FRes.ok; simp
theorem thenF_bad {x : FRes} (h : x.code ≠ 0) (k : Int → Nat → FRes) : thenF x k = x := by
  unfold thenF; rw [if_pos h]
def Fine (l : List LTok) (a : Nat) (x : FRes) : Prop := x.code = 0 → ∃ (n : Int) (b : Nat), x = .ok n b ∧ in64 n ∧ a < b ∧ b ≤ l.length
theorem fine_bad (l : List LTok) (a : Nat) {x : FRes} (hc : x.code ≠ 0) : Fine l a x := fun h => absurd h hc
theorem fine_ok {l : List LTok} {a b : Nat} {n : Int} (h : in64 n) (h1 : a < b) (h2 : b ≤ l.length) : Fine l a (.ok n b) := fun _ => ⟨n, b, rfl, h, h1, h2⟩
theorem Fine.mono {l : List LTok} {a a' : Nat} {x : FRes} (h : Fine l a x) (hl : a' ≤ a) : Fine l a' x := fun hc => by
  obtain ⟨n, b, e, h1, h2, h3⟩ := h hc
  exact ⟨n, b, e, h1, by omega, h3⟩
theorem moreS_bad (l : List LTok) (k : Nat) (x : FRes) (d : Nat) (h : x.code ≠ 0) : moreS l (k + 1) x d = x := by
  rw [moreS, if_neg (fun h' => h h'.1)]
theorem ok_inj {n m : Int} {a b : Nat} (h : FRes.ok n (a : Int) = FRes.ok m (b : Int)) : n = m ∧ a = b := by
  unfold FRes.ok at h
  simp at h
  exact ⟨h.1, by omega⟩
theorem ok_at (n : Int) (a : Nat) : (FRes.ok n (a : Int)).at_.toNat = a := by simp [FRes.ok]
def Fac (l : List LTok) (N : Nat) : Prop := ∀ (a : Nat), a ≤ l.length → l.length - a < N → ∀ (f : Fr) (r : List Fr) (n : Int) (k : Nat), f.minus = false → r.length < 32 → 4 * (l.length - a) + 1 ≤ k →
  Fine l a (factorS l k a (r.length + 1)) ∧ FM l true (f :: r) n a = thenF (factorS l k a (r.length + 1)) fun v b => aft l (f.number v) r b
def SumS (l : List LTok) (N : Nat) : Prop := ∀ (a : Nat), a ≤ l.length → l.length - a < N → ∀ (r : List Fr) (n : Int) (k : Nat), r.length < 32 → 4 * (l.length - a) + 4 ≤ k →
  Fine l a (sumS l k a (r.length + 1)) ∧ FM l true (Fr.fresh :: r) n a = thenF (sumS l k a (r.length + 1)) fun v b => if r = [] then .ok v b else FM l false r v b
theorem aft_times {l : List LTok} {f : Fr} {r : List Fr} {a : Nat} (h : isTk (tokAt l a) sTimes = true) : aft l f r a = FM l true ({ f with times := true } :: r) 0 (a + 1) := by
  unfold aft Fr.sign
  rw [if_pos h]
theorem more_p {l : List LTok} {N : Nat} (H : Fac l N) : ∀ (m a : Nat), a ≤ l.length → l.length - a ≤ m → l.length - a ≤ N → ∀ (f : Fr) (r : List Fr) (k : Nat), f.minus = false → f.times = false → in64 f.prod → r.length < 32 → 4 * (l.length - a) + 1 ≤ k →
    (∀ a0, a0 < a → Fine l a0 (moreP l k (.ok f.prod a) (r.length + 1))) ∧
    (aft l f r a = thenF (moreP l k (.ok f.prod a) (r.length + 1)) fun v b => aft l (frN f v) r b) ∧ ∀ v (b : Nat), moreP l k (.ok f.prod a) (r.length + 1) = .ok v b → isTk (tokAt l b) sTimes = false
  | m, a, ha, hm, hN, f, r, k, h1, h2, hp, hr, hk => by
    obtain ⟨k, rfl⟩ : ∃ j, k = j + 1 := ⟨k - 1, by omega⟩
    rw [moreP]
    have ef : frN f f.prod = f := by cases f; simp at h1 h2; subst h1; subst h2; rfl
    have en : (FRes.ok f.prod (a : Int)).n = f.prod := rfl
    by_cases ht : isTk (tokAt l a) sTimes = true
    · rw [if_pos ⟨rfl, by rw [ok_at]; exact ht⟩]
      rw [ok_at, en]
      have hlt := isTk_lt ht
      obtain ⟨m, rfl⟩ : ∃ j, m = j + 1 := ⟨m - 1, by omega⟩
      obtain ⟨g1, g2⟩ := H (a + 1) (by omega) (by omega) { f with times := true } r 0 k h1 hr (by omega)
      rw [aft_times ht, g2]
      dsimp only
      by_cases hc : (factorS l k (a + 1) (r.length + 1)).code = 0
      · obtain ⟨v, b, e, hv, hb1, hb2⟩ := g1 hc
        rw [e, thenF_ok, number_times f v h1, if_neg (by simp [FRes.ok])]
        obtain ⟨g3, g4, g5⟩ := more_p H m b (by omega) (by omega) (by omega) (frN f (w64 (f.prod * v))) r k rfl rfl (w64_in _) hr (by omega)
        exact ⟨fun a0 h0 => g3 a0 (by omega), g4, g5⟩
      · rw [if_pos hc]
        refine ⟨fun a0 _ => fine_bad l a0 hc, ?_, fun v b e => absurd (by rw [e]; rfl) hc⟩
        rw [thenF_bad hc, thenF_bad hc]
    · rw [if_neg (fun h => ht (by rw [ok_at] at h; exact h.2))]
      refine ⟨fun a0 h0 => fine_ok hp h0 ha, ?_, ?_⟩
      · rw [thenF_ok, ef]
      · intro v b e
        obtain ⟨_, rfl⟩ := ok_inj e
        simpa using ht
theorem prod_s {l : List LTok} {N : Nat} (H : Fac l N) (a : Nat) (ha : a ≤ l.length) (hN : l.length - a < N) (f : Fr) (r : List Fr) (n : Int) (k : Nat) (h1 : f.minus = false) (h2 : f.times = false) (hr : r.length < 32) (hk : 4 * (l.length - a) + 2 ≤ k) :
    Fine l a (productS l k a (r.length + 1)) ∧
    (FM l true (f :: r) n a = thenF (productS l k a (r.length + 1)) fun v b => aft l (frN f v) r b) ∧ ∀ v (b : Nat), productS l k a (r.length + 1) = .ok v b → isTk (tokAt l b) sTimes = false := by
  obtain ⟨k, rfl⟩ : ∃ j, k = j + 1 := ⟨k - 1, by omega⟩
  rw [productS]
  obtain ⟨g1, g2⟩ := H a ha hN f r n k h1 hr (by omega)
  rw [g2]
  by_cases hc : (factorS l k a (r.length + 1)).code = 0
  · obtain ⟨v, b, e, hv, hb1, hb2⟩ := g1 hc
    rw [e, thenF_ok, number_plain f v h1 h2]
    obtain ⟨g3, g4, g5⟩ := more_p H (l.length - b) b hb2 (Nat.le_refl _) (by omega) (frN f v) r k rfl rfl hv hr (by omega)
    exact ⟨g3 a hb1, g4, g5⟩
  · obtain ⟨k, rfl⟩ : ∃ j, k = j + 1 := ⟨k - 1, by omega⟩
    rw [thenF_bad hc, moreP, if_neg (fun h => hc h.1), thenF_bad hc]
    exact ⟨fine_bad l a hc, rfl, fun v b e => absurd (by rw [e]; rfl) hc⟩
def behS (l : List LTok) (r : List Fr) (x : FRes) : FRes := thenF x fun v b => if isTk (tokAt l b) sClose = false then .bad 20 (tokAt l b) else if r = [] then .ok v (b + 1 : Nat) else FM l false r v (b + 1)
theorem more_s {l : List LTok} {N : Nat} (H : Fac l N) : ∀ (m a : Nat), a ≤ l.length → l.length - a ≤ m → l.length - a ≤ N → ∀ (f : Fr) (r : List Fr) (k : Nat) (s : Int), f.minus = false → f.times = false → f.close = s → in64 s → isTk (tokAt l a) sTimes = false → r.length < 32 → 4 * (l.length - a) + 1 ≤ k →
    (∀ a0, a0 < a → Fine l a0 (moreS l k (.ok s a) (r.length + 1))) ∧
    (aft l f r a = behS l r (moreS l k (.ok s a) (r.length + 1)))
  | m, a, ha, hm, hN, f, r, k, s, h1, h2, hs, hi, ht, hr, hk => by
    obtain ⟨k, rfl⟩ : ∃ j, k = j + 1 := ⟨k - 1, by omega⟩
    rw [moreS]
    have en : (FRes.ok s (a : Int)).n = s := rfl
    by_cases hpm : isTk (tokAt l a) sPlus = true ∨ isTk (tokAt l a) sMinus = true
    · rw [if_pos ⟨rfl, by rw [ok_at]; exact hpm⟩]
      rw [ok_at, en]
      have hlt : a < l.length := hpm.elim isTk_lt isTk_lt
      obtain ⟨m, rfl⟩ : ∃ j, m = j + 1 := ⟨m - 1, by omega⟩
      have go : ∀ (op : Int) (g : Int → Int), (∀ y, in64 y → doF op s y = g y) → (∀ y, in64 (g y)) → aft l f r a = FM l true ({ f with sum := s, add := op } :: r) 0 (a + 1) →
          (∀ a0, a0 < a → Fine l a0 (if (productS l k (a + 1) (r.length + 1)).code ≠ 0 then productS l k (a + 1) (r.length + 1) else moreS l k (.ok (g (productS l k (a + 1) (r.length + 1)).n) (productS l k (a + 1) (r.length + 1)).at_) (r.length + 1))) ∧
          (aft l f r a = behS l r (if (productS l k (a + 1) (r.length + 1)).code ≠ 0 then productS l k (a + 1) (r.length + 1) else moreS l k (.ok (g (productS l k (a + 1) (r.length + 1)).n) (productS l k (a + 1) (r.length + 1)).at_) (r.length + 1))) := by
        intro op g hg hgi he
        obtain ⟨g1, g2, g3⟩ := prod_s H (a + 1) (by omega) (by omega) { f with sum := s, add := op } r 0 k h1 h2 hr (by omega)
        rw [he, g2]
        by_cases hc : (productS l k (a + 1) (r.length + 1)).code = 0
        · obtain ⟨v, b, e, hv, hb1, hb2⟩ := g1 hc
          have g3' := g3 v b e
          rw [e, thenF_ok, if_neg (by simp [FRes.ok])]
          obtain ⟨g4, g5⟩ := more_s H m b (by omega) (by omega) (by omega) (frN { f with sum := s, add := op } v) r k (g v) rfl rfl (by rw [← hg v hv]; rfl) (hgi v) g3' hr (by omega)
          exact ⟨fun a0 h0 => g4 a0 (by omega), g5⟩
        · rw [if_pos hc, thenF_bad hc]
          refine ⟨fun a0 _ => fine_bad l a0 hc, ?_⟩
          unfold behS
          rw [thenF_bad hc]
      by_cases hp : isTk (tokAt l a) sPlus = true
      · have hnm := isTk_two (u := sMinus) hp (by decide)
        simp only [hnm, if_neg (Bool.false_ne_true)]
        refine go 1 (fun y => w64 (s + y)) (fun y _ => rfl) (fun y => w64_in _) ?_
        unfold aft Fr.sign
        rw [if_neg (by rw [ht]; decide), if_pos hp, hs]
      · have hmn := hpm.resolve_left hp
        simp only [hmn, if_true]
        refine go 2 (fun y => w64 (s + w64 (0 - y))) (fun y _ => (w64_sub s y)) (fun y => w64_in _) ?_
        unfold aft Fr.sign
        rw [if_neg (by rw [ht]; decide), if_neg hp, if_pos hmn, hs]
    · rw [if_neg (fun h => hpm (by rw [ok_at] at h; exact h.2))]
      refine ⟨fun a0 h0 => fine_ok hi h0 ha, ?_⟩
      unfold behS
      rw [thenF_ok]
      unfold aft Fr.sign
      rw [if_neg (by rw [ht]; decide), if_neg (fun h => hpm (.inl h)), if_neg (fun h => hpm (.inr h)), hs]
theorem sum_s {l : List LTok} {N : Nat} (H : Fac l N) : SumS l N := by
  intro a ha hN r n k hr hk
  obtain ⟨k, rfl⟩ : ∃ j, k = j + 1 := ⟨k - 1, by omega⟩
  rw [sumS]
  obtain ⟨g1, g2, g3⟩ := prod_s H a ha hN Fr.fresh r n k rfl rfl hr (by omega)
  rw [g2]
  by_cases hc : (productS l k a (r.length + 1)).code = 0
  · obtain ⟨v, b, e, hv, hb1, hb2⟩ := g1 hc
    have g3' := g3 v b e
    rw [e, thenF_ok]
    obtain ⟨g4, g5⟩ := more_s H (l.length - b) b hb2 (Nat.le_refl _) (by omega) (frN Fr.fresh v) r k v rfl rfl (w64_add0 hv) hv g3' hr (by omega)
    rw [g5]
    have g6 := g4 a hb1
    generalize moreS l k (.ok v b) (r.length + 1) = x at *
    unfold behS
    by_cases hx : x.code = 0
    · obtain ⟨w, c, rfl, hw, hc1, hc2⟩ := g6 hx
      rw [thenF_ok, if_neg (by simp [FRes.ok]), ok_at]
      by_cases hcl : isTk (tokAt l c) sClose = false
      · rw [if_pos hcl, if_pos hcl]
        have hb : (FRes.bad 20 (tokAt l c)).code ≠ 0 := by simp [FRes.bad]
        exact ⟨fine_bad l a hb, (thenF_bad hb _).symm⟩
      · rw [if_neg hcl, if_neg hcl]
        have e1 : ({ FRes.ok w (c : Int) with at_ := (FRes.ok w (c : Int)).at_ + 1 } : FRes) = .ok w ((c + 1 : Nat) : Int) := rfl
        rw [e1, thenF_ok]
        have := isTk_lt (by simpa using hcl)
        exact ⟨fine_ok hw (by omega) (by omega), rfl⟩
    · rw [thenF_bad hx, if_pos hx, thenF_bad hx]
      exact ⟨fine_bad l a hx, rfl⟩
  · obtain ⟨k, rfl⟩ : ∃ j, k = j + 1 := ⟨k - 1, by omega⟩
    rw [thenF_bad hc, moreS_bad l k _ _ hc, if_pos hc, thenF_bad hc]
    exact ⟨fine_bad l a hc, rfl⟩
def facB (l : List LTok) (k b : Nat) (d : Nat) (m : Bool) : FRes :=
  if isTk (tokAt l b) sOpen = true ∧ d > 0 then
    if d ≥ 32 then .bad 21 (tokAt l b)
    else
      if (sumS l k (b + 1) (d + 1)).code ≠ 0 then sumS l k (b + 1) (d + 1) else .ok (if m = true then w64 (0 - (sumS l k (b + 1) (d + 1)).n) else (sumS l k (b + 1) (d + 1)).n) (sumS l k (b + 1) (d + 1)).at_
  else if (tokAt l b).kind ≠ 2 then .bad 20 (tokAt l b)
  else if (tokAt l b).num < 0 ∧ m = false then .bad 2 (tokAt l b)
  else .ok (if m = true then w64 (0 - (tokAt l b).num) else (tokAt l b).num) (b + 1 : Nat)
theorem factorS_eq (l : List LTok) (k a d : Nat) : factorS l (k + 1) a d = if isTk (tokAt l a) sMinus = true then facB l k (a + 1) d true else facB l k a d false := by
  rw [factorS]
  unfold facB
  by_cases hm : isTk (tokAt l a) sMinus = true
  · rw [if_pos hm]
    simp only [hm, if_true]
  · have hm' : isTk (tokAt l a) sMinus = false := by simpa using hm
    rw [if_neg hm]
    simp only [hm', Bool.false_eq_true, if_false]
theorem facB_s {l : List LTok} (hl : ∀ i, in64 (tokAt l i).num) {N : Nat} (H : SumS l N) (b : Nat) (hb : b ≤ l.length) (hN : l.length - b < N + 1) (f g : Fr) (r : List Fr) (n : Int) (k : Nat) (hr : r.length < 32) (hk : 4 * (l.length - b) ≤ k)
    (hg : ∀ v, g.number v = f.number (if g.minus = true then w64 (0 - v) else v)) (hnm : ¬ (isTk (tokAt l b) sMinus = true ∧ g.minus = false)) :
    Fine l b (facB l k b (r.length + 1) g.minus) ∧ FM l true (g :: r) n b = thenF (facB l k b (r.length + 1) g.minus) fun v b => aft l (f.number v) r b := by
  have hci : ∀ v, in64 v → in64 (if g.minus = true then w64 (0 - v) else v) := by
    intro v hv
    split
    · exact w64_in _
    · exact hv
  unfold facB
  rw [FM_true hb]
  by_cases ho : isTk (tokAt l b) sOpen = true
  · have hlt := isTk_lt ho
    have hd0 : isTk (tokAt l b) sOpen = true ∧ r.length + 1 > 0 := ⟨ho, by omega⟩
    rw [if_pos ho, if_pos hd0]
    by_cases hd : r.length + 1 ≥ 32
    · have hd2 : (g :: r).length = 32 := by rw [List.length_cons]; omega
      rw [if_pos hd, if_pos hd2]
      have hb : (FRes.bad 21 (tokAt l b)).code ≠ 0 := by simp [FRes.bad]
      exact ⟨fine_bad l b hb, (thenF_bad hb _).symm⟩
    · have hd2 : ¬ (g :: r).length = 32 := by rw [List.length_cons]; omega
      rw [if_neg hd, if_neg hd2]
      obtain ⟨g1, g2⟩ := H (b + 1) (by omega) (by omega) (g :: r) 0 k (by rw [List.length_cons]; omega) (by omega)
      rw [List.length_cons] at g1 g2
      rw [g2]
      by_cases hc : (sumS l k (b + 1) (r.length + 1 + 1)).code = 0
      · obtain ⟨v, e, he, hv, he1, he2⟩ := g1 hc
        have hx : ¬ (FRes.ok v (e : Int)).code ≠ 0 := by simp [FRes.ok]
        have hcons : ¬ (g :: r) = [] := by simp
        rw [he, if_neg hx, thenF_ok, if_neg hcons, FM_false (by omega), hg v]
        show Fine l b (.ok (if g.minus = true then w64 (0 - v) else v) (e : Int)) ∧ _ = thenF (.ok (if g.minus = true then w64 (0 - v) else v) (e : Int)) _
        rw [thenF_ok]
        exact ⟨fine_ok (hci v hv) (by omega) he2, rfl⟩
      · rw [if_pos hc, thenF_bad hc, thenF_bad hc]
        exact ⟨fine_bad l b hc, rfl⟩
  · have hd0 : ¬ (isTk (tokAt l b) sOpen = true ∧ r.length + 1 > 0) := fun h => ho h.1
    rw [if_neg ho, if_neg hd0, if_neg hnm]
    by_cases hk2 : (tokAt l b).kind ≠ 2
    · rw [if_pos hk2, if_pos hk2]
      have hb : (FRes.bad 20 (tokAt l b)).code ≠ 0 := by simp [FRes.bad]
      exact ⟨fine_bad l b hb, (thenF_bad hb _).symm⟩
    · have hlt := num_lt (by simpa using hk2)
      rw [if_neg hk2, if_neg hk2]
      by_cases hn : (tokAt l b).num < 0 ∧ g.minus = false
      · rw [if_pos hn, if_pos hn]
        have hb : (FRes.bad 2 (tokAt l b)).code ≠ 0 := by simp [FRes.bad]
        exact ⟨fine_bad l b hb, (thenF_bad hb _).symm⟩
      · rw [if_neg hn, if_neg hn, thenF_ok, FM_false (by omega), hg]
        exact ⟨fine_ok (hci _ (hl b)) (by omega) (by omega), rfl⟩
theorem fac_s {l : List LTok} (hl : ∀ i, in64 (tokAt l i).num) {N : Nat} (H : SumS l N) : Fac l (N + 1) := by
  intro a ha hN f r n k h1 hr hk
  obtain ⟨k, rfl⟩ : ∃ j, k = j + 1 := ⟨k - 1, by omega⟩
  rw [factorS_eq]
  by_cases hm : isTk (tokAt l a) sMinus = true
  · have hlt := isTk_lt hm
    have no := isTk_two (u := sOpen) hm (by decide)
    have hno : ¬ isTk (tokAt l a) sOpen = true := by rw [no]; decide
    rw [if_pos hm, FM_true ha, if_neg hno, if_pos ⟨hm, h1⟩]
    obtain ⟨g1, g2⟩ := facB_s hl H (a + 1) (by omega) (by omega) f { f with minus := true } r 0 k hr (by omega) (fun v => by rw [if_pos rfl]; exact number_minus f v h1) (fun h => absurd h.2 (by simp))
    exact ⟨Fine.mono g1 (by omega), g2⟩
  · rw [if_neg hm]
    have := facB_s hl H a ha hN f f r n k hr (by omega) (fun v => by rw [h1, if_neg (by decide)]) (fun h => hm h.1)
    rw [h1] at this
    exact this
theorem fac_all {l : List LTok} (hl : ∀ i, in64 (tokAt l i).num) : ∀ N, Fac l N
  | 0 => fun a ha hN => absurd hN (by omega)
  | N + 1 => fac_s hl (sum_s (fac_all hl N))
theorem FM_sum {l : List LTok} (hl : ∀ i, in64 (tokAt l i).num) {a : Nat} (ha : a ≤ l.length) {k : Nat} (hk : 4 * (l.length - a) + 4 ≤ k) (n : Int) :
    FM l true [Fr.fresh] n a = sumS l k a 1 ∧ Fine l a (sumS l k a 1) := by
  obtain ⟨g1, g2⟩ := sum_s (fac_all hl (l.length + 1)) a ha (by omega) [] n k (by simp) hk
  refine ⟨?_, g1⟩
  rw [g2]
  show thenF (sumS l k a 1) _ = _
  have g1 : Fine l a (sumS l k a 1) := g1
  generalize sumS l k a 1 = x at *
  by_cases hc : x.code = 0
  · obtain ⟨v, b, rfl, _⟩ := g1 hc
    rw [thenF_ok, if_pos rfl]
  · rw [thenF_bad hc]
end Go.Aw

namespace Go.Aw
open Go Go.RowKit
def digs (m : Nat) : List Int := (dl 20 m).reverse
theorem putL_pos {n : Int} (h : 0 ≤ n) : putL n = digs n.natAbs := by unfold putL digs; rw [if_neg (by omega)]; rfl
theorem putL_neg {n : Int} (h : n < 0) : putL n = 45 :: digs n.natAbs := by unfold putL digs; rw [if_pos h]; rfl
theorem digs_props {m : Nat} (hm : m < 10 ^ 20) : (∀ x ∈ digs m, isD x) ∧ val (digs m) = m ∧ ((digs m).getD 0 0 = 48 → (digs m).length = 1) := by
  unfold digs
  refine ⟨fun x hx => dl_isD _ _ x (List.mem_reverse.1 hx), dl_val _ _ hm, fun h => ?_⟩
  have h1 : (dl 20 m).getLast? = some 48 := by
    have hne : (dl 20 m).reverse ≠ [] := by simp [dl_ne]
    rw [← List.head?_reverse]
    cases hc : (dl 20 m).reverse with
    | nil => exact absurd hc hne
    | cons a r => rw [hc] at h; simp at h; simp [h]
  rw [dl_top _ _ hm h1]
  rfl
theorem digs_len (m : Nat) : 1 ≤ (digs m).length ∧ (digs m).length ≤ 20 := by
  unfold digs
  rw [List.length_reverse]
  exact ⟨dl_len_pos 19 m, dl_len_le 20 m⟩
theorem numS_digs {m : Nat} (hm : m ≤ 2 ^ 63) (kind cls : Int) (pre : List Int) (rest : List Int) (hr : ∀ x, rest.head? = some x → ¬ isD x) :
    numS kind pre.length cls (pre ++ digs m ++ rest) = if 0 < pre.length ∧ m > 2147483647 then .bad 2 0 else ⟨kind, pre ++ digs m, w64 m, cls, (pre ++ digs m).length, 0, 0⟩ := by
  obtain ⟨h1, h2, h3⟩ := digs_props (m := m) (by omega)
  have hl := digs_len m
  have hd : (pre ++ digs m ++ rest).drop pre.length = digs m ++ rest := by rw [List.append_assoc, List.drop_left]
  have hrun : run (digs m ++ rest) = (digs m).length := run_app _ _ h1 hr
  have htk : (digs m ++ rest).take (digs m).length = digs m := List.take_left
  have hg : (digs m ++ rest).getD 0 0 = (digs m).getD 0 0 := by
    cases hc : digs m with
    | nil => rw [hc] at hl; simp at hl
    | cons a r => rfl
  rw [numS_eq, hd]
  have hC : digC (digs m ++ rest) = 0 := by
    unfold digC
    rw [hrun, htk, h2, hg]
    rw [if_neg (by
      rintro (g | ⟨g1, g2⟩)
      · omega
      · have := h3 g1; omega), if_neg (by omega)]
  rw [hC, if_neg (by decide), hrun, htk, h2]
  by_cases g : 0 < pre.length ∧ m > 2147483647
  · rw [if_pos g, if_pos ⟨g.1, by omega⟩]
  · rw [if_neg g, if_neg (fun h => g ⟨h.1, by omega⟩)]
    congr 1
    · rw [← List.length_append, List.take_left]
    · rw [List.length_append]
inductive Pc where
  | ws (c : Int) | sg (c : Int) | dd | wd (s : List Int) | nm (j m : Nat) | st (s : List Int) | rem (s : List Int)
deriving DecidableEq
def hdS : List (List Int × Int × Int) := [([], 2, 0), ([37], 4, 0), ([35], 6, 0), ([36, 103], 5, 0), ([36, 120], 5, 1)]
def hdT (j : Nat) : List Int := (hdS.getD j ([], 0, 0)).1
def hdK (j : Nat) : Int := (hdS.getD j ([], 0, 0)).2.1
def hdC (j : Nat) : Int := (hdS.getD j ([], 0, 0)).2.2
def Pc.text : Pc → List Int
  | ws c => [c] | sg c => [c] | dd => [46, 46] | wd s => s | nm j m => hdT j ++ digs m | st s => qputL s | rem s => 47 :: 47 :: (s ++ [10])
def Pc.tok (a : Int) : Pc → List LTok
  | ws _ => [] | rem _ => []
  | sg c => [(7, bytesOf [c], 0, 0, a)]
  | dd => [(7, bytesOf [46, 46], 0, 0, a)]
  | wd s => [(1, bytesOf s, 0, 0, a)]
  | nm j m => [(hdK j, bytesOf (hdT j ++ digs m), w64 m, hdC j, a)]
  | st s => [(3, bytesOf s, 0, 0, a)]
def Pc.good (nx : Option Int) : Pc → Prop
  | ws c => isW c = true
  | sg c => c ∈ signs ∧ (c = 46 → nx ≠ some 46)
  | dd => True
  | wd s => (∃ c r, s = c :: r ∧ isL c = true ∧ ∀ x ∈ r, isS x = true) ∧ s.length ≤ 24 ∧ ∀ x, nx = some x → isS x = false
  | nm j m => j < 5 ∧ m ≤ 2 ^ 63 ∧ (0 < j → m ≤ 2147483647) ∧ ∀ x, nx = some x → ¬ isD x
  | st s => (∀ x ∈ s, isB x) ∧ s.length ≤ 64
  | rem s => (∀ x ∈ s, x ≠ 10)
theorem runS_app : ∀ (l m : List Int), (∀ x ∈ l, isS x = true) → (∀ x, m.head? = some x → isS x = false) → runS (l ++ m) = l.length
  | [], m, _, h => by
    cases m with
    | nil => rfl
    | cons a r =>
      have := h a rfl
      show runS (a :: r) = 0
      unfold runS
      rw [if_neg (by rw [this]; decide)]
  | x :: l, m, h1, h2 => by
    show runS (x :: (l ++ m)) = _
    unfold runS
    rw [if_pos (h1 x (by simp)), runS_app l m (fun y hy => h1 y (by simp [hy])) h2]
    rfl
theorem stop_of {c : Int} {r : List Int} (h : isW c = false) (h2 : c ≠ 47) : stopAt (c :: r) := ⟨h, fun h => h2 h.1⟩
theorem digs_cons (m : Nat) : ∃ d ds, digs m = d :: ds := by
  have := digs_len m
  cases h : digs m with
  | nil => rw [h] at this; simp at this
  | cons d ds => exact ⟨d, ds, rfl⟩
def Pc.got : Pc → Got
  | ws _ => .bad 0 0 | rem _ => .bad 0 0
  | sg c => ⟨7, [c], 0, 0, 1, 0, 0⟩
  | dd => ⟨7, [46, 46], 0, 0, 2, 0, 0⟩
  | wd s => ⟨1, s, 0, 0, s.length, 0, 0⟩
  | nm j m => ⟨hdK j, hdT j ++ digs m, w64 m, hdC j, (hdT j ++ digs m).length, 0, 0⟩
  | st s => ⟨3, s, 0, 0, (qputL s).length, 0, 0⟩
theorem hdT_pos {j : Nat} (h0 : 0 < j) (h : j < 5) : 0 < (hdT j).length := by
  rcases (by omega : j = 1 ∨ j = 2 ∨ j = 3 ∨ j = 4) with rfl | rfl | rfl | rfl <;> decide
theorem isD_stop {d : Int} (h : isD d) : isW d = false ∧ d ≠ 47 := by
  unfold isD at h
  exact ⟨by rw [← Bool.not_eq_true, isW_iff]; omega, by omega⟩
theorem isL_stop {d : Int} (h : isL d = true) : isW d = false ∧ d ≠ 47 := by
  rw [isL_iff] at h
  exact ⟨by rw [← Bool.not_eq_true, isW_iff]; omega, by omega⟩
theorem sign_stop {d : Int} (h : d ∈ signs) : isW d = false ∧ d ≠ 47 := by
  simp only [signs, List.mem_cons, List.not_mem_nil, or_false] at h
  exact ⟨by rw [← Bool.not_eq_true, isW_iff]; omega, by omega⟩
theorem flat_ge : ∀ s : List Int, s.length ≤ (s.flatMap oneL).length
  | [] => by simp
  | c :: s => by
    rw [List.flatMap_cons, List.length_append, List.length_cons]
    have h1 : 1 ≤ (oneL c).length := by
      unfold oneL
      repeat' split
      all_goals simp
    have := flat_ge s
    omega
theorem pc_read {p : Pc} {rest : List Int} (hg : p.good rest.head?) (hw : ∀ c, p ≠ .ws c) (hr : ∀ s, p ≠ .rem s) : stopAt (p.text ++ rest) ∧ tokS (p.text ++ rest) = p.got := by
  cases p with
  | ws c => exact absurd rfl (hw c)
  | rem s => exact absurd rfl (hr s)
  | sg c =>
    obtain ⟨h1, h2⟩ := hg
    have hs := sign_stop h1
    refine ⟨stop_of hs.1 hs.2, ?_⟩
    show tokS (c :: rest) = _
    rw [tokS_S _ h1]
    rw [if_neg (fun h => h2 h.1 h.2)]
    rfl
  | dd =>
    refine ⟨stop_of (by decide) (by decide), ?_⟩
    show tokS (46 :: 46 :: rest) = _
    rw [tokS_S _ (by decide), if_pos ⟨rfl, rfl⟩]
    rfl
  | wd s =>
    obtain ⟨⟨c, r, rfl, hc, hr'⟩, hl, hn⟩ := hg
    have hs := isL_stop hc
    refine ⟨stop_of hs.1 hs.2, ?_⟩
    show tokS (c :: (r ++ rest)) = _
    have hrun : runS ((c :: r) ++ rest) = (c :: r).length := runS_app _ _ (by
      intro x hx
      rcases List.mem_cons.1 hx with rfl | hx
      · exact isS_of_isL hc
      · exact hr' x hx) hn
    have hrun : runS (c :: (r ++ rest)) = (c :: r).length := hrun
    rw [tokS_L _ hc, hrun, if_neg (by omega)]
    have : (c :: (r ++ rest)).take (c :: r).length = c :: r := by
      show ((c :: r) ++ rest).take (c :: r).length = _
      exact List.take_left
    rw [this]
    rfl
  | nm j m =>
    obtain ⟨hj, hm, hm2, hn⟩ := hg
    obtain ⟨d, ds, hd⟩ := digs_cons m
    have hdD : isD d := (digs_props (m := m) (by omega)).1 d (by rw [hd]; simp)
    have e := fun kind cls pre => numS_digs hm kind cls pre rest hn
    show stopAt (hdT j ++ digs m ++ rest) ∧ tokS (hdT j ++ digs m ++ rest) = ⟨hdK j, hdT j ++ digs m, w64 m, hdC j, (hdT j ++ digs m).length, 0, 0⟩
    rcases (by omega : j = 0 ∨ j = 1 ∨ j = 2 ∨ j = 3 ∨ j = 4) with rfl | rfl | rfl | rfl | rfl
    · have := e 2 0 []
      simp only [List.length_nil, List.nil_append] at this
      rw [if_neg (by omega)] at this
      have hs := isD_stop hdD
      refine ⟨?_, ?_⟩
      · show stopAt ([] ++ digs m ++ rest)
        rw [hd]; exact stop_of hs.1 hs.2
      · show tokS ([] ++ digs m ++ rest) = _
        have e2 : tokS (digs m ++ rest) = numS 2 0 0 (digs m ++ rest) := by rw [hd]; exact tokS_D _ hdD
        rw [List.nil_append, e2, this]; rfl
    · have := e 4 0 [37]
      rw [if_neg (fun h => by have := hm2 (by decide); omega)] at this
      refine ⟨stop_of (by decide) (by decide), ?_⟩
      show tokS (37 :: (digs m ++ rest)) = _
      rw [tokS_37]
      exact this
    · have := e 6 0 [35]
      rw [if_neg (fun h => by have := hm2 (by decide); omega)] at this
      refine ⟨stop_of (by decide) (by decide), ?_⟩
      show tokS (35 :: (digs m ++ rest)) = _
      rw [tokS_35]
      exact this
    · have := e 5 0 [36, 103]
      rw [if_neg (fun h => by have := hm2 (by decide); omega)] at this
      refine ⟨stop_of (by decide) (by decide), ?_⟩
      show tokS (36 :: (103 :: (digs m ++ rest))) = _
      rw [tokS_36, if_pos (show (103 :: (digs m ++ rest)).head? = some 103 from rfl)]
      exact this
    · have := e 5 1 [36, 120]
      rw [if_neg (fun h => by have := hm2 (by decide); omega)] at this
      refine ⟨stop_of (by decide) (by decide), ?_⟩
      show tokS (36 :: (120 :: (digs m ++ rest))) = _
      rw [tokS_36, if_neg (show ¬ (120 :: (digs m ++ rest)).head? = some 103 from fun h => absurd (Option.some.inj h) (by decide)), if_pos (show (120 :: (digs m ++ rest)).head? = some 120 from rfl)]
      exact this
  | st s =>
    obtain ⟨h1, h2⟩ := hg
    refine ⟨stop_of (by decide) (by decide), ?_⟩
    have e : (Pc.st s).text ++ rest = 34 :: (s.flatMap oneL ++ 34 :: rest) := by show qputL s ++ rest = _; unfold qputL; simp
    rw [e, tokS_34]
    have hfl := flat_ge s
    rw [scan_put 64 rest s _ 1 [] h1 (by simp only [List.length_append, List.length_cons]; omega) (by simp), if_pos (by simpa using h2)]
    dsimp only
    rw [if_pos rfl]
    unfold Pc.got qputL
    congr 1
    simp only [List.length_cons, List.length_append, List.length_nil]
    omega
def rdL (ps : List Pc) : List Int := ps.flatMap Pc.text
def tkL : List Pc → Int → List LTok
  | [], _ => []
  | p :: r, a => p.tok a ++ tkL r (a + p.text.length)
def goodL : List Pc → List Int → Prop
  | [], _ => True
  | p :: r, rest => p.good (rdL r ++ rest).head? ∧ goodL r rest
theorem rdL_cons (p : Pc) (r : List Pc) : rdL (p :: r) = p.text ++ rdL r := rfl
theorem rdL_append (p q : List Pc) : rdL (p ++ q) = rdL p ++ rdL q := List.flatMap_append
theorem tkL_append : ∀ (p q : List Pc) (a : Int), tkL (p ++ q) a = tkL p a ++ tkL q (a + (rdL p).length)
  | [], q, a => by simp [tkL, rdL]
  | x :: p, q, a => by
    rw [List.cons_append, tkL, tkL, tkL_append p q, rdL_cons, List.append_assoc, List.length_append]
    congr 3
    omega
theorem goodL_append : ∀ (p q : List Pc) (rest : List Int), goodL (p ++ q) rest ↔ goodL p (rdL q ++ rest) ∧ goodL q rest
  | [], q, rest => by simp [goodL]
  | x :: p, q, rest => by
    rw [List.cons_append, goodL, goodL, goodL_append p q rest, rdL_append, List.append_assoc, and_assoc]
theorem text_pos {p : Pc} {nx : Option Int} (h : p.good nx) : p.text ≠ [] := by
  cases p with
  | ws c => simp [Pc.text]
  | sg c => simp [Pc.text]
  | dd => simp [Pc.text]
  | wd s => obtain ⟨⟨c, r, rfl, _⟩, _⟩ := h; simp [Pc.text]
  | nm j m =>
    obtain ⟨d, ds, hd⟩ := digs_cons m
    simp [Pc.text, hd]
  | st s => simp [Pc.text, qputL]
  | rem s => simp [Pc.text]
theorem lineN_app : ∀ (s rest : List Int), (∀ x ∈ s, x ≠ 10) → lineN (s ++ 10 :: rest) = s.length
  | [], rest, _ => by simp [lineN]
  | x :: s, rest, h => by
    show lineN (x :: (s ++ 10 :: rest)) = _
    unfold lineN
    rw [if_neg (h x (by simp)), lineN_app s rest (fun y hy => h y (by simp [hy]))]
    rfl
theorem lexW_pcs : ∀ (ps : List Pc) (rest : List Int) (a : Int) (out : List LTok), goodL ps rest → lexW (rdL ps ++ rest) a out = lexW rest (a + (rdL ps).length) (out ++ tkL ps a)
  | [], rest, a, out, _ => by simp [rdL, tkL]
  | p :: ps, rest, a, out, h => by
    obtain ⟨hg, hr⟩ := h
    rw [rdL_cons, List.append_assoc]
    have go : lexW (p.text ++ (rdL ps ++ rest)) a out = lexW (rdL ps ++ rest) (a + p.text.length) (out ++ p.tok a) → lexW (p.text ++ (rdL ps ++ rest)) a out = lexW rest (a + ((p.text ++ rdL ps).length : Nat)) (out ++ tkL (p :: ps) a) := by
      intro e
      rw [e, lexW_pcs ps rest _ _ hr, tkL, List.append_assoc, List.length_append]
      congr 1
      omega
    refine go ?_
    by_cases hw : ∃ c, p = .ws c
    · obtain ⟨c, rfl⟩ := hw
      show lexW (c :: (rdL ps ++ rest)) a out = _
      rw [lexW_blank a out hg]
      simp [Pc.tok, Pc.text]
    · by_cases hrm : ∃ s, p = .rem s
      · obtain ⟨s, rfl⟩ := hrm
        show lexW (47 :: 47 :: ((s ++ [10]) ++ (rdL ps ++ rest))) a out = _
        rw [lexW_remark a out rfl]
        have el : lineN (47 :: 47 :: ((s ++ [10]) ++ (rdL ps ++ rest))) = s.length + 2 := by
          have := lineN_app (47 :: 47 :: s) (rdL ps ++ rest) (by
            intro x hx
            simp only [List.mem_cons] at hx
            rcases hx with rfl | rfl | hx
            · decide
            · decide
            · exact hg x hx)
          simpa using this
        rw [el]
        have ed : (47 :: 47 :: ((s ++ [10]) ++ (rdL ps ++ rest))).drop (s.length + 2) = 10 :: (rdL ps ++ rest) := by
          simp
        rw [ed, lexW_blank _ _ (by decide)]
        simp [Pc.tok, Pc.text]
        congr 1
        omega
      · have hw' : ∀ c, p ≠ .ws c := fun c e => hw ⟨c, e⟩
        have hr' : ∀ s, p ≠ .rem s := fun s e => hrm ⟨s, e⟩
        obtain ⟨h1, h2⟩ := pc_read hg hw' hr'
        obtain ⟨c, r, hc⟩ : ∃ c r, p.text ++ (rdL ps ++ rest) = c :: r := by
          cases ht : p.text with
          | nil => exact absurd ht (text_pos hg)
          | cons c r => exact ⟨c, _, rfl⟩
        have hlen : p.got.len = p.text.length := by
          cases p <;> first | rfl | exact absurd rfl (hw' _) | exact absurd rfl (hr' _)
        have hcode : p.got.code = 0 := by cases p <;> rfl
        have htok : [((p.got).kind, bytesOf (p.got).text, (p.got).num, (p.got).cls, a)] = p.tok a := by
          cases p <;> first | rfl | exact absurd rfl (hw' _) | exact absurd rfl (hr' _)
        rw [hc] at h1 h2 ⊢
        rw [lexW_tok a out h1, h2, hcode, if_neg (by decide), hlen, htok, ← hc, List.drop_left]
theorem lexAll_pcs (ps : List Pc) (h : goodL ps []) (hl : (rdL ps).length ≤ 65536) : lexAll (rdL ps) = (tkL ps 0 ++ [(0, ByteArray.mk #[], 0, 0, ((rdL ps).length : Int))], 0, 0) := by
  rw [lexAll_eq, if_neg (by omega)]
  have := lexW_pcs ps [] 0 [] h
  rw [List.append_nil] at this
  rw [this, lexW_nil, List.nil_append, Int.zero_add]
end Go.Aw

namespace Go.Aw
open Go Go.RowKit
theorem digs_of {l : List Int} (hd : ∀ x ∈ l, isD x) (hne : l ≠ []) (h0 : l.head? = some 48 → l = [48]) (hv : val l ≤ 2 ^ 63) : digs (val l) = l := by
  have hlen : l.length ≤ 20 := by
    cases l with
    | nil => exact absurd rfl hne
    | cons c r =>
      by_cases hc : c = 48
      · have := h0 (by rw [hc]; rfl)
        rw [this]; decide
      · have hcD := hd c (by simp)
        unfold isD at hcD
        have := val_ge (c := c) (l := r) (by omega)
        rcases Nat.lt_or_ge r.length 20 with h | h
        · simp; omega
        · exfalso
          have h2 : 10 ^ 20 ≤ 10 ^ r.length := Nat.pow_le_pow_right (by decide) h
          have : (10 : Nat) ^ 20 ≤ 2 ^ 63 := Nat.le_trans h2 (Nat.le_trans this hv)
          exact absurd this (by decide)
  have := (dl_of_val l 20 hlen hd hne h0).2
  unfold digs
  rw [this, List.reverse_reverse]
def Told (t : LTok) : Prop := ∃ p : Pc, p.good (some 32) ∧ p.tok t.pos = [t] ∧ (∀ c, p ≠ .ws c) ∧ (∀ s, p ≠ .rem s)
theorem isD_32 : ¬ isD (32 : Int) := by unfold isD; omega
theorem isS_32 : isS (32 : Int) = false := by decide
theorem numS_told {kind cls : Int} {j : Nat} {r : List Int} (hj : j < 5) (hk : hdK j = kind) (hc : hdC j = cls) (hp : r.take (hdT j).length = hdT j) (h : (numS kind (hdT j).length cls r).code = 0) (a : Int) :
    Told ((numS kind (hdT j).length cls r).kind, bytesOf (numS kind (hdT j).length cls r).text, (numS kind (hdT j).length cls r).num, (numS kind (hdT j).length cls r).cls, a) := by
  unfold numS at *
  dsimp only at *
  split at h
  · simp [Got.bad] at h
  · rename_i h1
    split at h
    · simp [Got.bad] at h
    · rename_i h2
      rw [if_neg h1, if_neg h2]
      dsimp only
      generalize hd : r.drop (hdT j).length = d at *
      have hrd : (d.take (run d)).length = run d := by rw [List.length_take]; have := run_le d; omega
      have hget : r.getD (hdT j).length 0 = d.getD 0 0 := by rw [← hd]; simp [List.getD, List.getElem?_drop]
      have hne : d.take (run d) ≠ [] := by
        intro e
        rw [e] at hrd
        simp at hrd
        exact h1 (.inl hrd.symm)
      have hh0 : (d.take (run d)).head? = some 48 → d.take (run d) = [48] := by
        intro e
        cases hdd : d with
        | nil => rw [hdd] at hne; simp at hne
        | cons x xs =>
          have hrp : 0 < run d := by
            rcases Nat.eq_zero_or_pos (run d) with hz | hz
            · exact absurd (.inl hz) h1
            · exact hz
          rw [hdd] at e hrp hrd
          obtain ⟨m, hm⟩ : ∃ m, run (x :: xs) = m + 1 := ⟨run (x :: xs) - 1, by omega⟩
          rw [hm] at e ⊢
          simp at e
          subst e
          have : ¬ 1 < run ((48 : Int) :: xs) := fun h => h1 (.inr ⟨by rw [hget, hdd]; rfl, by rw [hdd]; exact h⟩)
          have : m = 0 := by omega
          subst this
          rfl
      have hv : val (d.take (run d)) ≤ 2 ^ 63 := by
        rcases Nat.lt_or_ge (2 ^ 63) (val (d.take (run d))) with h | h
        · exact absurd (.inl h) h2
        · exact h
      have hdg := digs_of (run_isD d) hne hh0 hv
      refine ⟨.nm j (val (d.take (run d))), ⟨hj, hv, fun hj0 => ?_, fun x hx => by cases hx; exact isD_32⟩, ?_, fun c h => Pc.noConfusion h, fun s h => Pc.noConfusion h⟩
      · rcases Nat.lt_or_ge (2147483647) (val (d.take (run d))) with h | h
        · exact absurd (.inr ⟨hdT_pos hj0 hj, by omega⟩) h2
        · exact h
      · show [(hdK j, bytesOf (hdT j ++ digs (val (d.take (run d)))), w64 (val (d.take (run d))), hdC j, a)] = _
        rw [hdg, hk, hc]
        have : r.take ((hdT j).length + run d) = hdT j ++ d.take (run d) := by
          rw [List.take_add, hp, hd]
        rw [this]
theorem tokS_told {l : List Int} (hl : ∀ x ∈ l, isB x) (h : (tokS l).code = 0) (a : Int) : Told ((tokS l).kind, bytesOf (tokS l).text, (tokS l).num, (tokS l).cls, a) := by
  cases l with
  | nil => simp [tokS, Got.bad] at h
  | cons c r =>
    rcases tokS_cases c with rfl | hL | rfl | rfl | rfl | hD | hS | ⟨h1, h2, h3, h4, h5, h6, h7⟩
    · rw [tokS_34] at *
      cases hs : scanL 64 (r.length + 1) r 1 [] with
      | mk t ec =>
        obtain ⟨e, code⟩ := ec
        rw [hs] at h
        dsimp only at *
        split at h
        · rename_i h0
          rw [if_pos h0]
          subst h0
          obtain ⟨g, -, -⟩ := scan_res 64 (r.length + 1) r 1 [] t e 0 (fun x hx => hl x (by simp [hx])) (by simp) (by simp) hs
          rcases g with ⟨_, g1, g2⟩ | ⟨g1, _⟩
          · exact ⟨.st t, ⟨g2, g1⟩, rfl, fun c h => Pc.noConfusion h, fun s h => Pc.noConfusion h⟩
          · exact absurd rfl g1
        · simp [Got.bad] at h; contradiction
    · rw [tokS_L r hL] at *
      split at h
      · simp [Got.bad] at h
      · rename_i h24
        rw [if_neg h24]
        dsimp only
        have hr := runS_le (c :: r)
        have hp := runS_pos (c := c) (r := r) hL
        refine ⟨.wd ((c :: r).take (runS (c :: r))), ⟨?_, ?_, fun x hx => by cases hx; exact isS_32⟩, rfl, fun c h => Pc.noConfusion h, fun s h => Pc.noConfusion h⟩
        · obtain ⟨m, hm⟩ : ∃ m, runS (c :: r) = m + 1 := ⟨runS (c :: r) - 1, by omega⟩
          refine ⟨c, r.take m, by rw [hm]; rfl, hL, fun x hx => ?_⟩
          obtain ⟨i, hi, rfl⟩ := List.getElem_of_mem hx
          rw [List.length_take] at hi
          have := runS_in (l := c :: r) (i := 0) (j := i + 1) (by rw [List.drop_zero]; omega)
          rw [Nat.zero_add] at this
          rw [List.getElem_take]
          simpa [List.getD, List.getElem?_eq_getElem (show i < r.length by omega)] using this
        · rw [List.length_take]; omega
    · rw [tokS_37] at *; exact numS_told (j := 1) (by decide) rfl rfl rfl h a
    · rw [tokS_35] at *; exact numS_told (j := 2) (by decide) rfl rfl rfl h a
    · rw [tokS_36] at *
      split at h
      · rename_i h1; rw [if_pos h1]
        obtain ⟨r, rfl⟩ : ∃ q, r = 103 :: q := by
          cases r with
          | nil => simp at h1
          | cons x q => simp at h1; subst h1; exact ⟨q, rfl⟩
        exact numS_told (j := 3) (by decide) rfl rfl rfl h a
      · rename_i h1; rw [if_neg h1]
        split at h
        · rename_i h1; rw [if_pos h1]
          obtain ⟨r, rfl⟩ : ∃ q, r = 120 :: q := by
            cases r with
            | nil => simp at h1
            | cons x q => simp at h1; subst h1; exact ⟨q, rfl⟩
          exact numS_told (j := 4) (by decide) rfl rfl rfl h a
        · simp [Got.bad] at h
    · rw [tokS_D r hD] at *; exact numS_told (j := 0) (by decide) rfl rfl rfl h a
    · rw [tokS_S r hS] at *
      split
      · exact ⟨.dd, trivial, rfl, fun c h => Pc.noConfusion h, fun s h => Pc.noConfusion h⟩
      · exact ⟨.sg c, ⟨hS, fun _ => by decide⟩, rfl, fun c h => Pc.noConfusion h, fun s h => Pc.noConfusion h⟩
    · rw [tokS_no r h1 h2 h3 h4 h5 h6 h7] at h; simp [Got.bad] at h
theorem lexS_told : ∀ (f : Nat) (l : List Int) (a : Int) (out : List LTok), (∀ x ∈ l, isB x) → (lexS f l a out).2.1 = 0 → ∃ ts p, (lexS f l a out).1 = out ++ ts ++ [(0, ByteArray.mk #[], 0, 0, p)] ∧ ∀ t ∈ ts, Told t
  | 0, l, a, out, _, h => by unfold lexS at h; exact absurd h (by simp)
  | f + 1, l, a, out, hl, h => by
    unfold lexS at h ⊢
    cases l with
    | nil => exact ⟨[], a, by simp, fun t ht => by cases ht⟩
    | cons c r =>
      dsimp only at h ⊢
      split at h
      · rename_i h1; rw [if_pos h1]; exact lexS_told f r _ _ (fun x hx => hl x (by simp [hx])) h
      · rename_i h1; rw [if_neg h1]
        split at h
        · rename_i h2; rw [if_pos h2]; exact lexS_told f _ _ _ (fun x hx => hl x (List.mem_of_mem_drop hx)) h
        · rename_i h2; rw [if_neg h2]
          split at h
          · rename_i h3; exact absurd h h3
          · rename_i h3; rw [if_neg h3]
            obtain ⟨ts, p, e, ht⟩ := lexS_told f _ _ _ (fun x hx => hl x (List.mem_of_mem_drop hx)) h
            refine ⟨_ :: ts, p, by rw [e]; simp only [List.append_assoc, List.singleton_append, List.cons_append]; rfl, fun t htt => ?_⟩
            rcases List.mem_cons.1 htt with rfl | htt
            · exact tokS_told hl (by simpa using h3) a
            · exact ht t htt
theorem lexAll_told {l : List Int} (hl : ∀ x ∈ l, isB x) (h : (lexAll l).2.1 = 0) : ∃ ts p, (lexAll l).1 = ts ++ [(0, ByteArray.mk #[], 0, 0, p)] ∧ ∀ t ∈ ts, Told t := by
  unfold lexAll at *
  split at h
  · exact absurd h (by simp)
  · rename_i h1
    rw [if_neg h1]
    obtain ⟨ts, p, e, ht⟩ := lexS_told _ _ _ _ hl h
    exact ⟨ts, p, by simpa using e, ht⟩
end Go.Aw

namespace Go.Aw
open Go Go.RowKit
theorem rest_eq (s : ByteArray) (p : Nat) (hp : p ≤ s.size) : ByteArray.extract s (Int.toNat (p : Int)) (Int.toNat ((s.size : Nat) : Int)) = bytesOf ((ofBytes s).drop p) := by
  apply eq_of_ofBytes
  rw [ofBytes_extract, ofBytes_bytesOf (fun y hy => ofBytes_isB s y (List.mem_of_mem_drop hy)), Int.toNat_natCast, Int.toNat_natCast, List.take_of_length_le (by rw [ofBytes_length]; exact Nat.le_refl _)]
theorem part_eq (s : ByteArray) (p n : Nat) : ByteArray.extract s (Int.toNat (p : Int)) (Int.toNat ((p + n : Nat) : Int)) = bytesOf (((ofBytes s).drop p).take n) := by
  apply eq_of_ofBytes
  rw [ofBytes_extract, ofBytes_bytesOf (fun y hy => ofBytes_isB s y (List.mem_of_mem_drop (List.mem_of_mem_take hy))), Int.toNat_natCast, Int.toNat_natCast, List.drop_take]
  congr 1; omega
theorem scanL_off (M : Nat) : ∀ (f : Nat) (r : List Int) (i d : Int) (out t : List Int) (e c : Int), scanL M f r i out = (t, e, c) → scanL M f r (i + d) out = (t, e + d, c)
  | 0, r, i, d, out, t, e, c, h => by unfold scanL at *; cases h; rfl
  | f + 1, r, i, d, out, t, e, c, h => by
    unfold scanL at h ⊢
    split at h
    · cases h; rfl
    · split
      · rename_i h1; rw [if_pos h1] at h; cases h; rfl
      · rename_i h1; rw [if_neg h1] at h
        split
        · rename_i h2; rw [if_pos h2] at h; cases h; congr 1; congr 1; omega
        · rename_i h2; rw [if_neg h2] at h
          split
          · rename_i h3; rw [if_pos h3] at h; cases h; rfl
          · rename_i h3; rw [if_neg h3] at h
            split
            · rename_i h4; rw [if_pos h4] at h
              have := scanL_off M f _ _ d _ t e c h
              rw [show i + 1 + d = i + d + 1 by omega] at this
              exact this
            · rename_i h4; rw [if_neg h4] at h
              split
              · rename_i h5; rw [h5] at h; cases h; rfl
              · rename_i v n h5; rw [h5] at h
                have := scanL_off M f _ _ d _ t e c h
                rw [show i + 1 + (n : Int) + d = i + d + 1 + n by omega] at this
                exact this
theorem scanL_fuel (M : Nat) : ∀ (f g : Nat) (r : List Int) (i : Int) (out : List Int), r.length < f → r.length < g → scanL M f r i out = scanL M g r i out
  | 0, _, _, _, _, h, _ => by omega
  | _, 0, _, _, _, _, h => by omega
  | f + 1, g + 1, r, i, out, h1, h2 => by
    unfold scanL
    cases r with
    | nil => rfl
    | cons c r =>
      simp only [List.length_cons] at h1 h2
      dsimp only
      rw [scanL_fuel M f g r (i + 1) (out ++ [c]) (by omega) (by omega)]
      cases hesc : escL r with
      | none => rfl
      | some vn =>
        obtain ⟨v, n⟩ := vn
        dsimp only
        have := esc_pos hesc
        rw [scanL_fuel M f g (r.drop n) (i + 1 + n) (out ++ [v]) (by simp [List.length_drop]; omega) (by simp [List.length_drop]; omega)]
theorem tokS_quote (L : List Int) (p : Nat) (hp : p < L.length) (hq : L.getD p 0 = 34) {t : List Int} {e c : Int} (h : scanL 64 (L.length + 1) (L.drop (p + 1)) (p + 1) [] = (t, e, c)) :
    tokS (L.drop p) = if c = 0 then ⟨3, t, 0, 0, (e - p).toNat, 0, 0⟩ else .bad c (e - p) := by
  rw [drop_get (d := 0) hp, hq, tokS_34]
  have h2 := scanL_off 64 _ _ _ (-(p : Int)) _ _ _ _ h
  rw [scanL_fuel 64 (L.length + 1) ((L.drop (p + 1)).length + 1) _ _ _ (by rw [List.length_drop]; omega) (by omega), show (p : Int) + 1 + -(p : Int) = 1 by omega] at h2
  rw [h2]
  rfl
end Go.Aw

namespace Go.Proofs.Ye
open Go Go.Proofs Go.Shelf
set_option maxRecDepth 100000
def ren : Go.Shelf.Ren := ⟨fun | 217 => 57 | 266 => 70 | _ => 0, fun | 0 => 0 | 3 => 3 | 4 => 4 | 5 => 5 | 9 => 9 | 20 => 20 | _ => 0, fun  | _ => 0⟩
theorem lays217 : Lays.n217 Tryd.prog ren where
  mixed := by kernel_rfl
  f217 := by kernel_rfl
  f266 := by kernel_rfl
  t3 := Tryd.underlying3
  a3 := Tryd.isAgg3
  z3 := Tryd.sizeOf3
  v3 := Tryd.zeroValue3
  t5 := Tryd.underlying5
  a5 := Tryd.isAgg5
  z5 := Tryd.sizeOf5
  v5 := Tryd.zeroValue5
  t9 := Tryd.underlying9
  a9 := Tryd.isAgg9
  z9 := Tryd.sizeOf9
  v9 := Tryd.zeroValue9
namespace N57
noncomputable def ent : Go.Aw.Entry := Go.Aw.ibEnt
theorem ok : Go.Aw.EntOk Tryd.prog 49 0 57 ent := Go.Aw.ib_ok lays217 rfl
end N57
end Go.Proofs.Ye

namespace Go.Proofs.Ye
open Go Go.Aw Go.Proofs Go.RowKit Go.Extern.Stop Go.Stop Go.Extern
theorem F.new_run (c a : Int) (w : World) : Calls Tryd.prog 22 #[.int .i64 c, .int .i64 a] w fun e w' => if c = 0 then e = .returned .nilIface ∧ w' = w else e = .returned (.iface 49 (.pointer (some ⟨w.heap.size, 0, none⟩))) ∧ w' = w.alloc (.cells #[.int .i64 c, .int .i64 a] 52) := by
  go_enter Tryd.func22, Tryd.ntmps22
  by_cases hc : c = 0
  · subst hc
    go_wp2
    go_ret
    exact ⟨rfl, rfl⟩
  · go_wp2
    go_ret
    exact ⟨rfl, rfl⟩
namespace N22
noncomputable def ent : Entry := newEnt
theorem ok : EntOk Tryd.prog 49 0 22 ent := new_ok Tryd.func22 (by kernel_rfl) (by kernel_rfl) F.new_run
end N22
theorem F.hdl : hdlOf Tryd.prog = some (0, .iface 108 (.agg #[.pointer (some ⟨2, 25, none⟩)])) := by kernel_rfl
theorem F.valueOfPF (t : Addr) (w : World) : (ReflectliteValue.unpack (.iface 76 (.pointer (some t)))).run Tryd.prog w
    = .ok (.agg #[.pointer (some ⟨2, 76, none⟩), .pointer (some ⟨w.heap.size, 0, none⟩), .int .u64 150]) (w.alloc (.cells #[.pointer (some t)] 76)) := by kernel_rfl
theorem F.typePF (a : Addr) (w : World) : (ReflectliteValue.methodAny (ReflectliteValue.valueError "reflectlite.Value.Type" 0) (fun t _ _ _ => ReflectliteType.toType t) #[.agg #[.pointer (some ⟨2, 76, none⟩), .pointer (some a), .int .u64 150]]).run Tryd.prog w
    = .ok (.iface 108 (.agg #[.pointer (some ⟨2, 76, none⟩)])) w := by kernel_rfl
theorem F.methodKind (h : Value) (w : World) : (Go.method 262 108 (.agg #[h]) "Kind").run Tryd.prog w = .ok (97, h) w := by kernel_rfl
theorem F.kindPF (w : World) : ((ReflectliteType.abiMethod fun t => (fun a : Nat => Value.int IntKind.u8 (a : Int)) <$> Rtype.kind t) #[.pointer (some ⟨2, 76, none⟩)]).run Tryd.prog w = .ok (.int .u8 22) w := by kernel_rfl
theorem F.kindF (w : World) : ((ReflectliteType.abiMethod fun t => (fun a : Nat => Value.int IntKind.u8 (a : Int)) <$> Rtype.kind t) #[.pointer (some ⟨2, 49, none⟩)]).run Tryd.prog w = .ok (.int .u8 22) w := by kernel_rfl
theorem F.rlm (z : Sem Value) (f : TypeId → Addr → Nat → Nat → Sem Value) (v : Value) :
    ReflectliteValue.method z f #[v] = (do match ← ReflectliteValue.parts v with | none => z | some (t, a, fl) => f t a fl (fl % 32)) := rfl
theorem F.partsPF (a : Addr) (w : World) : (ReflectliteValue.parts (.agg #[.pointer (some ⟨2, 76, none⟩), .pointer (some a), .int .u64 150])).run Tryd.prog w = .ok (some (76, a, 150)) w := by kernel_rfl
theorem F.isNilPF (a p : Addr) (W : World) (ha : W.cell? a = some (.pointer (some p))) :
    (ReflectliteValue.method (ReflectliteValue.valueError "reflectlite.Value.IsNil" 0) ReflectliteValue.isNil #[.agg #[.pointer (some ⟨2, 76, none⟩), .pointer (some a), .int .u64 150]]).run Tryd.prog W = .ok (.bool false) W := by
  rw [F.rlm]
  simp only [Sem.run_bind, F.partsPF, Result.andThen]
  simp [ReflectliteValue.isNil, loadVar, isAgg, underlying, Tryd.underlying76, ha, Result.andThen]
theorem F.methodElem (h : Value) (w : World) : (Go.method 262 108 (.agg #[h]) "Elem").run Tryd.prog w = .ok (107, .agg #[h]) w := by kernel_rfl
theorem F.methodImplements (h : Value) (w : World) : (Go.method 262 108 (.agg #[h]) "Implements").run Tryd.prog w = .ok (108, .agg #[h]) w := by kernel_rfl
theorem F.methodAssignableTo (h : Value) (w : World) : (Go.method 262 108 (.agg #[h]) "AssignableTo").run Tryd.prog w = .ok (105, .agg #[h]) w := by kernel_rfl
theorem F.elemPF (w : World) : (ReflectliteType.method ReflectliteType.elem #[.agg #[.pointer (some ⟨2, 76, none⟩)]]).run Tryd.prog w = .ok (.iface 108 (.agg #[.pointer (some ⟨2, 49, none⟩)])) w := by kernel_rfl
theorem F.implementsF (w : World) : (ReflectliteType.relation "Implements" ReflectliteType.implements_ #[.agg #[.pointer (some ⟨2, 49, none⟩)], .iface 108 (.agg #[.pointer (some ⟨2, 25, none⟩)])]).run Tryd.prog w = .ok (.bool true) w := by kernel_rfl
theorem F.typeOfF (v : Value) (w : World) : (ReflectliteType.typeOf #[.iface 49 v]).run Tryd.prog w = .ok (.iface 108 (.agg #[.pointer (some ⟨2, 49, none⟩)])) w := by kernel_rfl
theorem F.assignableF (w : World) : (ReflectliteType.relation "AssignableTo" ReflectliteType.assignableTo #[.agg #[.pointer (some ⟨2, 49, none⟩)], .iface 108 (.agg #[.pointer (some ⟨2, 49, none⟩)])]).run Tryd.prog w = .ok (.bool true) w := by kernel_rfl
theorem F.valueOfF (e : Addr) (w : World) : (ReflectliteValue.unpack (.iface 49 (.pointer (some e)))).run Tryd.prog w
    = .ok (.agg #[.pointer (some ⟨2, 49, none⟩), .pointer (some ⟨w.heap.size, 0, none⟩), .int .u64 150]) (w.alloc (.cells #[.pointer (some e)] 49)) := by kernel_rfl
theorem F.elemOfPF (w : World) : (Rtype.elem? 76).run Tryd.prog w = .ok (some 49) w := by kernel_rfl
theorem F.mkF (p : Addr) (w : World) : (ReflectliteValue.mk 49 p ReflectliteValue.flagAddr).run Tryd.prog w = .ok (.agg #[.pointer (some ⟨2, 49, none⟩), .pointer (some p), .int .u64 406]) w := by kernel_rfl
theorem F.elemVPF (a p : Addr) (W : World) (ha : W.cell? a = some (.pointer (some p))) :
    (ReflectliteValue.method (ReflectliteValue.valueError "reflectlite.Value.Elem" 0) ReflectliteValue.elem #[.agg #[.pointer (some ⟨2, 76, none⟩), .pointer (some a), .int .u64 150]]).run Tryd.prog W
      = .ok (.agg #[.pointer (some ⟨2, 49, none⟩), .pointer (some p), .int .u64 406]) W := by
  rw [F.rlm]
  simp only [Sem.run_bind, F.partsPF, Result.andThen]
  simp [ReflectliteValue.elem, loadVar, isAgg, underlying, Tryd.underlying76, ha, Result.andThen, F.elemOfPF, F.mkF]
theorem F.rls (v x : Value) : ReflectliteValue.set #[v, x] = (do
    let (some (dst, a, fl), some (src, b, _)) := (← ReflectliteValue.parts v, ← ReflectliteValue.parts x)
      | unsupported (.noEntry "extern/(internal/reflectlite.Value).Set.zeroValue")
    if fl / ReflectliteValue.flagAddr % 2 == 0 then unsupported (.noEntry "extern/(internal/reflectlite.Value).Set.unaddressable")
    let val ← loadVar src b
    if ← Rtype.directlyAssignable dst src then storeVar dst a val
    else if ← Rtype.implements dst src then
      if (← Rtype.kind src) == 20 then
        match val with
        | .nilIface => unsupported (.noEntry "extern/reflectlite: a nil value of one interface type handed on as a value of another")
        | _ => storeVar dst a val
      else storeVar dst a (.iface src val)
    else panicString ("reflectlite.Set: value of type " ++ (← Rtype.spelt src) ++ " is not assignable to type " ++ (← Rtype.spelt dst))
    pure (.tuple #[])) := rfl
theorem F.partsFa (a : Addr) (w : World) : (ReflectliteValue.parts (.agg #[.pointer (some ⟨2, 49, none⟩), .pointer (some a), .int .u64 406])).run Tryd.prog w = .ok (some (49, a, 406)) w := by kernel_rfl
theorem F.partsF (a : Addr) (w : World) : (ReflectliteValue.parts (.agg #[.pointer (some ⟨2, 49, none⟩), .pointer (some a), .int .u64 150])).run Tryd.prog w = .ok (some (49, a, 150)) w := by kernel_rfl
theorem F.directF (w : World) : (Rtype.directlyAssignable 49 49).run Tryd.prog w = .ok true w := by kernel_rfl
theorem F.sizeF (w : World) : (sizeOf 49).run Tryd.prog w = .ok 1 w := by kernel_rfl
theorem F.setF (ta b e : Addr) (old : Value) (W : World) (hb : W.cell? b = some (.pointer (some e))) (ht : W.cell? ta = some old) (hf : W.frozen? ta = false) :
    (ReflectliteValue.set #[.agg #[.pointer (some ⟨2, 49, none⟩), .pointer (some ta), .int .u64 406], .agg #[.pointer (some ⟨2, 49, none⟩), .pointer (some b), .int .u64 150]]).run Tryd.prog W
      = .ok (.tuple #[]) (W.setCell ta (.pointer (some e))) := by
  rw [F.rls]
  simp only [Sem.run_bind, F.partsFa, F.partsF, Result.andThen]
  simp [ReflectliteValue.flagAddr, loadVar, isAgg, underlying, Tryd.underlying49, hb, Result.andThen, F.directF, storeVar, Value.cells, storeCells, Addr.add]
  rw [run_store Tryd.prog W ta _ _ (by rfl)]
  simp [ht, hf]
abbrev ChainF (B : Nat) (W : World) (u : Value) (e : Err) : Prop := RepE W (fun a => a.block < B) 49 0 e u ∧ flatE e = true
open Classical in
noncomputable def chainLen (B : Nat) (W : World) (u : Value) : Nat := if h : ∃ e, ChainF B W u e then depthE h.choose else 0
theorem chainLen_eq {B : Nat} {W : World} {u : Value} {e : Err} (h : ChainF B W u e) : chainLen B W u = depthE e := by
  unfold chainLen
  rw [dif_pos ⟨e, h⟩]
  have hc := Exists.choose_spec (p := fun e => ChainF B W u e) ⟨e, h⟩
  rw [RepE.unique (by decide) hc.1 (flatE_plain hc.2) h.1 (flatE_plain h.2)]
abbrev hF : Value := .pointer (some ⟨2, 49, none⟩)
abbrev hPF : Value := .pointer (some ⟨2, 76, none⟩)
abbrev asB (W : World) (tv : Addr) : World := W.alloc (.cells #[hPF, .pointer (some tv), .int .u64 150] 89)
def asPost (W : World) (tv t : Addr) (B : Nat) (o : Option (Int × Int)) (ev : Ending) (w' : World) : Prop := match o with
  | none => ev = .returned (.bool false) ∧ w' = asB W tv
  | some (c, a) => ∃ pb po, (W.cell? ⟨pb, po, none⟩ = some (.int .i64 c) ∧ W.cell? ⟨pb, po + 1, none⟩ = some (.int .i64 a) ∧ pb < B) ∧ ev = .returned (.bool true) ∧
      w' = ((asB W tv).alloc (.cells #[.pointer (some ⟨pb, po, none⟩)] 49)).setCell t (.pointer (some ⟨pb, po, none⟩))
set_option maxHeartbeats 4000000 in
set_option maxRecDepth 1000000 in
theorem F.as_chain (W : World) (t tv : Addr) (old : Value) (ht : W.cell? t = some old) (hf : W.frozen? t = false) (hv : W.cell? tv = some (.pointer (some t))) (B : Nat) (hB : B ≤ W.heap.size) (e : Err) (u : Value) (hch : ChainF B W u e) (hnil : e.isNil = false) :
    Calls Tryd.prog 56 #[u, .iface 76 (.pointer (some t)), .agg #[hPF, .pointer (some tv), .int .u64 150], .iface 108 (.agg #[hF])] W fun ev w' =>
      asPost W tv t B (rootE e) ev w' := by
  have h6 := @run_callFunc_extern Tryd.prog 53 _ (fun args => ReflectliteValue.unpack (args.getD 0 (.tuple #[]))) Tryd.func53 (by kernel_rfl) (by kernel_rfl) (by kernel_rfl) (by kernel_rfl)
  have h10 := @run_callFunc_extern Tryd.prog 67 _ ReflectliteType.typeOf Tryd.func67 (by kernel_rfl) (by kernel_rfl) (by kernel_rfl) (by kernel_rfl)
  have h35 := @run_callFunc_extern Tryd.prog 105 _ (ReflectliteType.relation "AssignableTo" ReflectliteType.assignableTo) Tryd.func105 (by kernel_rfl) (by kernel_rfl) (by kernel_rfl) (by kernel_rfl)
  have h11 := @run_callFunc_extern Tryd.prog 68 _ (ReflectliteValue.method (ReflectliteValue.valueError "reflectlite.Value.Elem" 0) ReflectliteValue.elem) Tryd.func68 (by kernel_rfl) (by kernel_rfl) (by kernel_rfl) (by kernel_rfl)
  have h12 := @run_callFunc_extern Tryd.prog 69 _ ReflectliteValue.set Tryd.func69 (by kernel_rfl) (by kernel_rfl) (by kernel_rfl) (by kernel_rfl)
  have tO := F.typeOfF
  have mA := F.methodAssignableTo
  have aF := F.assignableF
  have vF := F.valueOfF
  have htl : t.block < W.heap.size := World.block_lt_of_cell? W t ht
  have hvl : tv.block < W.heap.size := World.block_lt_of_cell? W tv hv
  have keep : ∀ a : Addr, a.block < W.heap.size → (asB W tv).cell? a = W.cell? a := fun a ha => World.cell?_alloc_lt _ _ a ha
  have el := F.elemVPF tv t (asB W tv) (by rw [keep tv hvl]; exact hv)
  go_enter Tryd.func56, Tryd.ntmps56
  go_wp2
  go_loopw [0] (fun E' wl => wl = asB W tv ∧ ∃ e', ChainF B W E' e' ∧ e'.isNil = false ∧ rootE e' = rootE e) (fun E' _ => chainLen B W E')
  case atStart => exact ⟨rfl, e, hch, hnil, rfl⟩
  case round =>
    obtain ⟨rfl, e', ⟨hc', hp'⟩, hn', hre⟩ := hrel
    cases e' with
    | nil => cases hn'
    | wrg q i => cases hp'
    | flt c a =>
      obtain ⟨p, rfl, hat⟩ := hc'
      obtain ⟨pb, po, rfl, hpb, h0, h1⟩ := hat.flat2
      have st := F.setF t ⟨W.heap.size + 1, 0, none⟩ ⟨pb, po, none⟩ old ((asB W tv).alloc (.cells #[.pointer (some ⟨pb, po, none⟩)] 49)) (by simp)
        (by rw [World.cell?_alloc_lt _ _ t (by simp; omega), keep t htl]; exact ht)
        (by rw [World.frozen?_alloc_old _ _ t (by simp; omega), World.frozen?_alloc_old _ _ t (by omega)]; exact hf)
      clear hat hch
      go_wp2
      go_ret
      rw [← hre]
      exact ⟨pb, po, ⟨h0, h1, hpb⟩, rfl, rfl⟩
    | win s i => cases hp'
theorem F.As_nil (t : Value) (w : World) : Calls Tryd.prog 35 #[.nilIface, t] w fun e w' => e = .returned (.bool false) ∧ w' = w := by
  go_enter Tryd.func35, Tryd.ntmps35
  go_wp2
  go_ret
  exact ⟨rfl, rfl⟩
abbrev asW0 (w : World) (t : Addr) : World := (w.alloc (.cells #[.pointer (some t)] 76)).alloc (.cells #[hPF, .pointer (some ⟨w.heap.size, 0, none⟩), .int .u64 150] 89)
abbrev asW (w : World) (t : Addr) : World := (asW0 w t).alloc (.cells #[hPF, .pointer (some ⟨w.heap.size, 0, none⟩), .int .u64 150] 89)
def asPostW (w : World) (t : Addr) (B : Nat) (o : Option (Int × Int)) (ev : Ending) (w' : World) : Prop := match o with
  | none => ev = .returned (.bool false) ∧ w' = asW w t
  | some (c, a) => ∃ pb po, (w.cell? ⟨pb, po, none⟩ = some (.int .i64 c) ∧ w.cell? ⟨pb, po + 1, none⟩ = some (.int .i64 a) ∧ pb < B) ∧ ev = .returned (.bool true) ∧
      w' = ((asW w t).alloc (.cells #[.pointer (some ⟨pb, po, none⟩)] 49)).setCell t (.pointer (some ⟨pb, po, none⟩))
abbrev rtW (w : World) : World := w.alloc (.cells #[.pointer none] 49)
set_option maxHeartbeats 4000000 in
set_option maxRecDepth 1000000 in
theorem F.As_run (w : World) (t : Addr) (old : Value) (hg : w.cell? ⟨0, 0, none⟩ = some (.iface 108 (.agg #[.pointer (some ⟨2, 25, none⟩)]))) (ht : w.cell? t = some old) (hf : w.frozen? t = false) (B : Nat) (hB : B ≤ w.heap.size) (e : Err) (ty : TypeId) (x : Value) (hch : ChainF B w (.iface ty x) e) :
    Calls Tryd.prog 35 #[.iface ty x, .iface 76 (.pointer (some t))] w fun ev w' =>
      asPostW w t B (rootE e) ev w' := by
  have h6 := @run_callFunc_extern Tryd.prog 53 _ (fun args => ReflectliteValue.unpack (args.getD 0 (.tuple #[]))) Tryd.func53 (by kernel_rfl) (by kernel_rfl) (by kernel_rfl) (by kernel_rfl)
  have h7 := @run_callFunc_extern Tryd.prog 54 _ (ReflectliteValue.methodAny (ReflectliteValue.valueError "reflectlite.Value.Type" 0) (fun t _ _ _ => ReflectliteType.toType t)) Tryd.func54 (by kernel_rfl) (by kernel_rfl) (by kernel_rfl) (by kernel_rfl)
  have h8 := @run_callFunc_extern Tryd.prog 55 _ (ReflectliteValue.method (ReflectliteValue.valueError "reflectlite.Value.IsNil" 0) ReflectliteValue.isNil) Tryd.func55 (by kernel_rfl) (by kernel_rfl) (by kernel_rfl) (by kernel_rfl)
  have h27 := @run_callFunc_extern Tryd.prog 97 _ (ReflectliteType.abiMethod fun t => do pure (.int .u8 (← Rtype.kind t))) Tryd.func97 (by kernel_rfl) (by kernel_rfl) (by kernel_rfl) (by kernel_rfl)
  have h37 := @run_callFunc_extern Tryd.prog 107 _ (ReflectliteType.method ReflectliteType.elem) Tryd.func107 (by kernel_rfl) (by kernel_rfl) (by kernel_rfl) (by kernel_rfl)
  have h38 := @run_callFunc_extern Tryd.prog 108 _ (ReflectliteType.relation "Implements" ReflectliteType.implements_) Tryd.func108 (by kernel_rfl) (by kernel_rfl) (by kernel_rfl) (by kernel_rfl)
  have f6 := F.valueOfPF
  have f7 := F.typePF
  have mK := F.methodKind
  have mE := F.methodElem
  have mI := F.methodImplements
  have k27 := F.kindPF
  have k25 := F.kindF
  have e27 := F.elemPF
  have i25 := F.implementsF
  have n8 := F.isNilPF ⟨w.heap.size, 0, none⟩ t (asW0 w t) (by simp)
  have hlt : 0 < w.heap.size := World.block_lt_of_cell? w ⟨0, 0, none⟩ hg
  have htl : t.block < w.heap.size := World.block_lt_of_cell? w t ht
  have old0 : ∀ a : Addr, a.block < w.heap.size → (asW0 w t).cell? a = w.cell? a := fun a ha => by
    rw [World.cell?_alloc_lt _ _ a (by simp; omega), World.cell?_alloc_lt _ _ a ha]
  have hg2 : (asW0 w t).cell? ⟨0, 0, none⟩ = some (.iface 108 (.agg #[.pointer (some ⟨2, 25, none⟩)])) := by rw [old0 _ hlt]; exact hg
  have hni : e.isNil = false := by
    rcases hch.1.isNil with ⟨_, h⟩ | ⟨h, _⟩
    · cases h
    · exact h
  have hchain := F.as_chain (asW0 w t) t ⟨w.heap.size, 0, none⟩ old (by rw [old0 t htl]; exact ht)
    (by rw [World.frozen?_alloc_old _ _ t (by simp; omega), World.frozen?_alloc_old _ _ t (Nat.ne_of_lt htl)]; exact hf) (by simp) B (by simp; omega) e (.iface ty x)
    ⟨hch.1.ext fun a ha => ⟨ha, old0 a (Nat.lt_of_lt_of_le ha hB)⟩, hch.2⟩ hni
  clear hch
  cases hr : rootE e with
  | none =>
    simp only [hr, asPost] at hchain
    go_enter Tryd.func35, Tryd.ntmps35
    go_wp2_with (go_at_call 56; refine hchain.mono ?_; rintro ev w' ⟨rfl, rfl⟩)
    go_ret
    exact ⟨rfl, rfl⟩
  | some ca =>
    obtain ⟨c, a⟩ := ca
    simp only [hr, asPost] at hchain
    go_enter Tryd.func35, Tryd.ntmps35
    go_wp2_with (go_at_call 56; refine hchain.mono ?_; rintro ev w' ⟨pb, po, ⟨h1, h2, h3⟩, rfl, rfl⟩)
    go_ret
    rw [old0 _ (Nat.lt_of_lt_of_le h3 hB)] at h1
    rw [old0 _ (Nat.lt_of_lt_of_le h3 hB)] at h2
    exact ⟨pb, po, ⟨h1, h2, h3⟩, rfl, rfl⟩
theorem F.root_none (w : World) (hg : w.cell? ⟨0, 0, none⟩ = some (.iface 108 (.agg #[.pointer (some ⟨2, 25, none⟩)]))) (e : Err) (u : Value) (hch : ChainF w.heap.size w u e) (hr : rootE e = none) :
    Calls Tryd.prog 20 #[u] w fun ev w' => ev = .returned (.pointer none) ∧ Below w.heap.size w w' := by
  have hlt : 0 < w.heap.size := World.block_lt_of_cell? w ⟨0, 0, none⟩ hg
  have old1 : ∀ a : Addr, a.block < w.heap.size → (rtW w).cell? a = w.cell? a := fun a ha => World.cell?_alloc_lt _ _ a ha
  have hb1 : Below w.heap.size w (rtW w) := (Below.refl _ _).alloc (Nat.le_refl _) _
  rcases hch.1.isNil with ⟨rfl, rfl⟩ | ⟨hni, ty, x, rfl⟩
  · have h0 := F.As_nil (.iface 76 (.pointer (some ⟨w.heap.size, 0, none⟩))) (rtW w)
    clear hch
    go_enter Tryd.func20, Tryd.ntmps20
    go_wp2_with (go_at_call 35; refine h0.mono ?_; rintro ev w' ⟨rfl, rfl⟩)
    go_ret
    exact ⟨rfl, hb1⟩
  · have h0 := F.As_run (rtW w) ⟨w.heap.size, 0, none⟩ (.pointer none) (by rw [old1 _ hlt]; exact hg) (by simp) (by simp) w.heap.size (by simp) e ty x
      ⟨hch.1.ext fun a ha => ⟨ha, old1 a ha⟩, hch.2⟩
    simp only [hr, asPostW] at h0
    clear hch
    go_enter Tryd.func20, Tryd.ntmps20
    go_wp2_with (go_at_call 35; refine h0.mono ?_; rintro ev w' ⟨rfl, rfl⟩)
    go_ret
    exact ⟨rfl, ((hb1.alloc (by simp) _).alloc (by simp; omega) _).alloc (by simp; omega) _⟩
set_option maxHeartbeats 1000000 in
theorem F.root_some (w : World) (hg : w.cell? ⟨0, 0, none⟩ = some (.iface 108 (.agg #[.pointer (some ⟨2, 25, none⟩)]))) (e : Err) (u : Value) (hch : ChainF w.heap.size w u e) (c a : Int) (hr : rootE e = some (c, a)) :
    Calls Tryd.prog 20 #[u] w fun ev w' => ∃ pb po, ev = .returned (.pointer (some ⟨pb, po, none⟩)) ∧ w'.cell? ⟨pb, po, none⟩ = some (.int .i64 c) ∧ w'.cell? ⟨pb, po + 1, none⟩ = some (.int .i64 a) ∧ Below w.heap.size w w' := by
  have hlt : 0 < w.heap.size := World.block_lt_of_cell? w ⟨0, 0, none⟩ hg
  have old1 : ∀ a : Addr, a.block < w.heap.size → (rtW w).cell? a = w.cell? a := fun a ha => World.cell?_alloc_lt _ _ a ha
  have hb1 : Below w.heap.size w (rtW w) := (Below.refl _ _).alloc (Nat.le_refl _) _
  rcases hch.1.isNil with ⟨rfl, rfl⟩ | ⟨hni, ty, x, rfl⟩
  · cases hr
  · have h0 := F.As_run (rtW w) ⟨w.heap.size, 0, none⟩ (.pointer none) (by rw [old1 _ hlt]; exact hg) (by simp) (by simp) w.heap.size (by simp) e ty x
      ⟨hch.1.ext fun a ha => ⟨ha, old1 a ha⟩, hch.2⟩
    simp only [hr, asPostW] at h0
    have h1 : Calls Tryd.prog 35 #[.iface ty x, .iface 76 (.pointer (some ⟨w.heap.size, 0, none⟩))] (rtW w) fun ev w' => ∃ pb po, ev = .returned (.bool true) ∧ w'.cell? ⟨w.heap.size, 0, none⟩ = some (.pointer (some ⟨pb, po, none⟩)) ∧
        w'.cell? ⟨pb, po, none⟩ = some (.int .i64 c) ∧ w'.cell? ⟨pb, po + 1, none⟩ = some (.int .i64 a) ∧ Below w.heap.size w w' := by
      refine h0.mono ?_
      rintro ev w' ⟨pb, po, ⟨h1, h2, h3⟩, rfl, hw⟩
      have hb3 : Below w.heap.size w w' := by
        rw [hw]
        exact ((((hb1.alloc (by simp) _).alloc (by simp; omega) _).alloc (by simp; omega) _).alloc (by simp; omega) _).setCell (Nat.le_refl _) _
      rw [old1 _ h3] at h1
      rw [old1 _ h3] at h2
      refine ⟨pb, po, rfl, ?_, ?_, ?_, hb3⟩
      · rw [hw]
        have hin : ∃ v, ((asW (rtW w) ⟨w.heap.size, 0, none⟩).alloc (.cells #[.pointer (some ⟨pb, po, none⟩)] 49)).cell? ⟨w.heap.size, 0, none⟩ = some v := by
          refine ⟨.pointer none, ?_⟩
          rw [World.cell?_alloc_lt _ _ _ (by simp; omega), World.cell?_alloc_lt _ _ _ (by simp; omega), World.cell?_alloc_lt _ _ _ (by simp; omega), World.cell?_alloc_lt _ _ _ (by simp)]
          simp
        obtain ⟨v, hv⟩ := hin
        exact World.cell?_setCell_same _ _ _ hv
      · rw [hb3.cell h3]; exact h1
      · rw [hb3.cell h3]; exact h2
    clear hch h0
    go_enter Tryd.func20, Tryd.ntmps20
    go_wp2_with (go_at_call 35; refine h1.mono ?_; rintro ev w' ⟨pb, po, rfl, g1, g2, g3, g4⟩)
    go_ret
    exact ⟨pb, po, rfl, g2, g3, g4⟩
theorem F.of_run (w : World) (hg : w.cell? ⟨0, 0, none⟩ = some (.iface 108 (.agg #[.pointer (some ⟨2, 25, none⟩)]))) (e : Err) (u : Value) (hch : ChainF w.heap.size w u e) :
    Calls Tryd.prog 11 #[u] w fun ev w' => ev = .returned (.int .i64 (ofE e)) ∧ Below w.heap.size w w' := by
  unfold ofE
  cases hr : rootE e with
  | none =>
    have h0 := F.root_none w hg e u hch hr
    clear hch
    go_enter Tryd.func11, Tryd.ntmps11
    go_wp2_with (go_at_call 20; refine h0.mono ?_; rintro ev w' ⟨rfl, hb⟩)
    go_ret
    exact ⟨rfl, hb⟩
  | some ca =>
    obtain ⟨c, a⟩ := ca
    have h0 := F.root_some w hg e u hch c a hr
    clear hch
    go_enter Tryd.func11, Tryd.ntmps11
    go_wp2_with (go_at_call 20; refine h0.mono ?_; rintro ev w' ⟨pb, po, rfl, g1, g2, hb⟩)
    go_ret
    exact ⟨rfl, hb⟩
namespace N11
noncomputable def ent : Entry := erEntT (fun e => flatE e = true) fun e => .int .i64 (ofE e)
theorem ok : EntOk Tryd.prog 49 0 11 ent := er_okT Tryd.func11 (by kernel_rfl) (by kernel_rfl) fun e u w hg hr hp => F.of_run w (hg _ _ F.hdl) e u ⟨hr, hp⟩
end N11
theorem F.at_run (w : World) (hg : w.cell? ⟨0, 0, none⟩ = some (.iface 108 (.agg #[.pointer (some ⟨2, 25, none⟩)]))) (e : Err) (u : Value) (hch : ChainF w.heap.size w u e) :
    Calls Tryd.prog 12 #[u] w fun ev w' => ev = .returned (.int .i64 (atE e)) ∧ Below w.heap.size w w' := by
  unfold atE
  cases hr : rootE e with
  | none =>
    have h0 := F.root_none w hg e u hch hr
    clear hch
    go_enter Tryd.func12, Tryd.ntmps12
    go_wp2_with (go_at_call 20; refine h0.mono ?_; rintro ev w' ⟨rfl, hb⟩)
    go_ret
    exact ⟨rfl, hb⟩
  | some ca =>
    obtain ⟨c, a⟩ := ca
    have h0 := F.root_some w hg e u hch c a hr
    clear hch
    go_enter Tryd.func12, Tryd.ntmps12
    go_wp2_with (go_at_call 20; refine h0.mono ?_; rintro ev w' ⟨pb, po, rfl, g1, g2, hb⟩)
    go_ret
    exact ⟨rfl, hb⟩
namespace N12
noncomputable def ent : Entry := erEntT (fun e => flatE e = true) fun e => .int .i64 (atE e)
theorem ok : EntOk Tryd.prog 49 0 12 ent := er_okT Tryd.func12 (by kernel_rfl) (by kernel_rfl) fun e u w hg hr hp => F.at_run w (hg _ _ F.hdl) e u ⟨hr, hp⟩
end N12
end Go.Proofs.Ye

namespace Go.Proofs.Ye
open Go Go.Aw Go.Proofs Go.Proofs.YtidclggijmbffaaDoor Go.ChangeShapes Go.WideShapes Go.RowKit
theorem Tryd.et : Tryd.prog.globalNamed "errors.errorType" = some 0 := by kernel_rfl
theorem Tryd.rt : (Tryd.prog.cutTypes.find? (·.1 == "internal/reflectlite.rtype")).map (·.2) = some 108 := by kernel_rfl
theorem Tryd.oneRow : ((List.range 162).filter fun t => Tryd.prog.rowNamed t [101, 114, 114, 111, 114]) = [25] := by kernel_rfl
theorem Tryd.typesSize : Tryd.prog.types.size = 162 := by kernel_rfl
theorem handle_of_laid {W : World} (h : laidMetH Tryd.prog [("errors.errorType", Rows.laid_errors_errorType)] W) : W.cell? ⟨0, 0, none⟩ = some (.iface 108 (.agg #[.pointer (some ⟨2, 25, none⟩)])) := by
  have h' : laidMet Tryd.prog [] W ∧ handlesMet Tryd.prog [("errors.errorType", Rows.laid_errors_errorType)] W := h
  obtain ⟨name, u, ty, e1, e2, e3, e4, e5⟩ := h'.2 _ (List.mem_singleton.2 rfl)
  have en : name = [101, 114, 114, 111, 114] := (Option.some.inj e1).symm
  subst en
  obtain rfl := Option.some.inj (Tryd.rt.symm.trans e2)
  have hm : ty ∈ (List.range 162).filter fun t => Tryd.prog.rowNamed t [101, 114, 114, 111, 114] := List.mem_filter.2 ⟨List.mem_range.2 (by rw [← Tryd.typesSize]; exact e3), e4⟩
  rw [Tryd.oneRow] at hm
  obtain rfl := List.mem_singleton.1 hm
  have hh : typeHandle Tryd.prog 25 = .pointer (some ⟨2, 25, none⟩) := by kernel_rfl
  rw [hh] at e5
  simpa using World.var?_cell Tryd.et e5 0
theorem hand {W : World} (h : laidMetH Tryd.prog [("errors.errorType", Rows.laid_errors_errorType)] W) : ∀ g v, hdlOf Tryd.prog = some (g, v) → W.cell? ⟨g, 0, none⟩ = some v := by
  intro g v hg
  rw [F.hdl] at hg
  cases hg
  exact handle_of_laid h
noncomputable def laidWorld (os : Os) : World :=
  let w0 := World.holding Tryd.prog os ⟨#[], #[], []⟩
  { w0 with heap := w0.heap.modify 0 fun
      | .cells _ t frozen => .cells #[.iface 108 (.agg #[.pointer (some ⟨2, 25, none⟩)])] t frozen
      | o => o }
theorem laid_met (os : Os) (args : Array Value) : laidMetH Tryd.prog [("errors.errorType", Rows.laid_errors_errorType)] ((laidWorld os).forCall (fun _ _ => 0) ⟨#[], args, []⟩).memory :=
  laidMetH_of_parts (laidMet_nil _ _) (by kernel_rfl)
end Go.Proofs.Ye

namespace Go.Proofs.Ye
open Go.Aw Go.Proofs
set_option maxRecDepth 100000
set_option maxHeartbeats 4000000
def tyL : List (Nat × Ty) := [(5, (Ty.int IntKind.u8)), (42, Zy0), (9, Ty.str)]
def tys : Nat → Option Ty := tab tyL
theorem mixed_ok : Tryd.prog.follows .mixedOrders = true := by kernel_rfl
theorem tyL_ok : tyL.all (tyRight Tryd.prog) = true := by kernel_rfl
end Go.Proofs.Ye

namespace Go.Proofs.Ye
open Go Go.Aw Go.Proofs
set_option maxRecDepth 100000
set_option maxHeartbeats 4000000
namespace N18
noncomputable def cfg : Cfg := { P := Tryd.prog, tf := 49, tw := 0, ty := tys, E := tab [], atSeq := tab [(3, ⟨[(0, .keep), (3, .keep)]⟩), (5, ⟨[(3, .keep)]⟩)], atLoop := tab [(2, ⟨[(0, .keep), (3, .own 5 (Ty.int IntKind.u8))]⟩)], outs := [], eqT := tab [], bT := tab [] }
noncomputable def body : Code := bodyOf Tryd.f18
def l2 (j3 : Int → LI → Prop) (j5 : LI → Prop) (x0 : Int) (b0 : LI) (k : LI → Prop) : Prop :=
  (br (decide (x0 > (0 : Int))) (j3 x0 b0) (br (((((b0).length : Nat) : Int)) == (0 : Int)) (j3 x0 b0) (j5 b0)))
def j3 (ag2 : Int → LI → Prop) (x0 : Int) (b0 : LI) (k : LI → Prop) : Prop :=
  (((10 : Int) ≠ 0) ∧ ((room ((b0).length + (([(IntKind.u8.wrap (IntKind.u64.wrap ((48 : Int) + (Int.tmod x0 (10 : Int)))))] : List Int)).length) 1) ∧ (((10 : Int) ≠ 0) ∧ (ag2 (IntKind.u64.wrap (Int.tdiv x0 (10 : Int))) (b0 ++ ([(IntKind.u8.wrap (IntKind.u64.wrap ((48 : Int) + (Int.tmod x0 (10 : Int)))))] : List Int))))))
def j5 (b0 : LI) (k : LI → Prop) : Prop :=
  (k b0)
def c (l2 : Int → LI → Prop) (x0 : Int) (k : LI → Prop) : Prop :=
  (l2 x0 ([] : List Int))
def j3' (ag2 : Int → LI → Prop) (x0 : Int) (b0 : LI) (k : LI → Prop) : Prop := j3 ag2 x0 b0 k
def j5' (b0 : LI) (k : LI → Prop) : Prop := j5 b0 k
def l2' (x0 : Int) (b0 : LI) (k : LI → Prop) : Prop := ∃ n, loopS (fun (ag : (Int × LI) → Prop) (s : Int × LI) => l2 (fun x0 b0 => j3' (fun x0 b0 => ag (x0, b0)) x0 b0 k) (fun b0 => j5' b0 k) s.1 s.2 k) n (x0, b0)
def f0 (x0 : Int) (k : LI → Prop) : Prop := c (fun x0 b0 => l2' x0 b0 k) x0 k
theorem f_ex : ∃ g, g = f0 := ⟨_, rfl⟩
noncomputable def f := Classical.choose f_ex
theorem f_def : f = f0 := Classical.choose_spec f_ex
def mL2 (x0 : Int) (b0 : LI) : St := { tmps := mkT 21 0 [(0, (.v (.int IntKind.u64 x0))), (3, (.sl 0 0))], hp := [(.lst 5 (Ty.int IntKind.u8) b0 0 false)], m := 0 }
def m3 (x0 : Int) (b0 : LI) : St := { tmps := mkT 21 0 [(0, (.v (.int IntKind.u64 x0))), (3, (.sl 0 0))], hp := [(.lst 5 (Ty.int IntKind.u8) b0 0 false)], m := 0 }
def m5 (b0 : LI) : St := { tmps := mkT 21 0 [(3, (.sl 0 0))], hp := [(.lst 5 (Ty.int IntKind.u8) b0 0 false)], m := 0 }
noncomputable def YL2 (k kp : KT) : (St → Prop) → St → Prop := loopB cfg (sub [1, 1, 0, 0, 0] body) (contK cfg (pick none' []) [1, 1, 0, 0] body (topK cfg Tryd.f18 k kp))
noncomputable def XL2 (k kp : KT) : St → Prop := fun st => ∃ n, loopN (YL2 k kp) n st
noncomputable def X3 (k kp : KT) (ag2 : St → Prop) : St → Prop := atP cfg (pick none' [(2, ag2)]) [1, 1, 0, 0, 0, 1] body (topK cfg Tryd.f18 k kp)
noncomputable def X5 (k kp : KT) : St → Prop := atP cfg (pick none' []) [1, 1, 1] body (topK cfg Tryd.f18 k kp)
noncomputable def JJ_2 (k kp : KT) (ag2 : St → Prop) : Nat → St → Prop := pick none' [(3, X3 k kp ag2), (5, X5 k kp)]
noncomputable def LL_2 (k kp : KT) (ag2 : St → Prop) : Nat → St → Prop := pick none' [(2, XL2 k kp)]
noncomputable def JJ (k kp : KT) : Nat → St → Prop := pick none' [(5, X5 k kp)]
noncomputable def LL (k kp : KT) : Nat → St → Prop := pick none' [(2, XL2 k kp)]
theorem j3_c (k kp : KT) (J L : Nat → St → Prop) (ag2 : St → Prop) (x0 : Int) (b0 : LI) : runC cfg 3 J L (pick none' [(2, ag2)]) [1, 1, 0, 0, 0, 1] body (topK cfg Tryd.f18 k kp) (m3 x0 b0) = j3 (fun x0 b0 => ag2 (mL2 x0 b0)) x0 b0 (fun z0 => k (.sl 0 0) [(.lst 5 (Ty.int IntKind.u8) z0 0 false)]) := by kernel_rfl
theorem j3_ag (k kp : KT) (ag2 : St → Prop) : agPL cfg 3 (JJ_2 k kp ag2) (LL_2 k kp ag2) [1, 1, 0, 0, 0, 1] body = agPR cfg 3 (pick none' [(2, ag2)]) [1, 1, 0, 0, 0, 1] body (topK cfg Tryd.f18 k kp) := by kernel_rfl
theorem j3_raw (k kp : KT) (ag2 : St → Prop) (x0 : Int) (b0 : LI) : X3 k kp ag2 (m3 x0 b0) = j3 (fun x0 b0 => ag2 (mL2 x0 b0)) x0 b0 (fun z0 => k (.sl 0 0) [(.lst 5 (Ty.int IntKind.u8) z0 0 false)]) :=
  Eq.mp (by kernel_rfl) ((atP_run (j3_ag k kp ag2) (m3 x0 b0)).trans (j3_c k kp (JJ_2 k kp ag2) (LL_2 k kp ag2) ag2 x0 b0))
theorem j3_eq (k kp : KT) (ag2 : St → Prop) (x0 : Int) (b0 : LI) : X3 k kp ag2 (m3 x0 b0) = j3' (fun x0 b0 => ag2 (mL2 x0 b0)) x0 b0 (fun z0 => k (.sl 0 0) [(.lst 5 (Ty.int IntKind.u8) z0 0 false)]) := by
  rw [j3_raw]; rfl
theorem j5_c (k kp : KT) (J L : Nat → St → Prop) (b0 : LI) : runC cfg 5 J L (pick none' []) [1, 1, 1] body (topK cfg Tryd.f18 k kp) (m5 b0) = j5 b0 (fun z0 => k (.sl 0 0) [(.lst 5 (Ty.int IntKind.u8) z0 0 false)]) := by kernel_rfl
theorem j5_ag (k kp : KT) : agPL cfg 5 (JJ k kp) (LL k kp) [1, 1, 1] body = agPR cfg 5 (pick none' []) [1, 1, 1] body (topK cfg Tryd.f18 k kp) := by kernel_rfl
theorem j5_raw (k kp : KT) (b0 : LI) : X5 k kp (m5 b0) = j5 b0 (fun z0 => k (.sl 0 0) [(.lst 5 (Ty.int IntKind.u8) z0 0 false)]) :=
  Eq.mp (by kernel_rfl) ((atP_run (j5_ag k kp) (m5 b0)).trans (j5_c k kp (JJ k kp) (LL k kp) b0))
theorem j5_eq (k kp : KT) (b0 : LI) : X5 k kp (m5 b0) = j5' b0 (fun z0 => k (.sl 0 0) [(.lst 5 (Ty.int IntKind.u8) z0 0 false)]) := by
  rw [j5_raw]; rfl
theorem l2_c (k kp : KT) (J L : Nat → St → Prop) (ag2 : St → Prop) (x0 : Int) (b0 : LI) : runC cfg 1000001 J L (pick none' [(2, ag2)]) [1, 1, 0, 0, 0] body (topK cfg Tryd.f18 k kp) (mL2 x0 b0) = l2 (fun x0 b0 => J 3 (m3 x0 b0)) (fun b0 => J 5 (m5 b0)) x0 b0 (fun z0 => k (.sl 0 0) [(.lst 5 (Ty.int IntKind.u8) z0 0 false)]) := by kernel_rfl
theorem l2_ag (k kp : KT) (ag2 : St → Prop) : agPL cfg 1000001 (JJ_2 k kp ag2) (LL_2 k kp ag2) [1, 1, 0, 0, 0] body = agPR cfg 1000001 (pick none' [(2, ag2)]) [1, 1, 0, 0, 0] body (topK cfg Tryd.f18 k kp) := by kernel_rfl
theorem l2_raw (k kp : KT) (ag2 : St → Prop) (x0 : Int) (b0 : LI) : YL2 k kp ag2 (mL2 x0 b0) = l2 (fun x0 b0 => X3 k kp ag2 (m3 x0 b0)) (fun b0 => X5 k kp (m5 b0)) x0 b0 (fun z0 => k (.sl 0 0) [(.lst 5 (Ty.int IntKind.u8) z0 0 false)]) :=
  Eq.mp (by kernel_rfl) ((atP_run (l2_ag k kp ag2) (mL2 x0 b0)).trans (l2_c k kp (JJ_2 k kp ag2) (LL_2 k kp ag2) ag2 x0 b0))
theorem l2_eq (k kp : KT) (x0 : Int) (b0 : LI) : XL2 k kp (mL2 x0 b0) = l2' x0 b0 (fun z0 => k (.sl 0 0) [(.lst 5 (Ty.int IntKind.u8) z0 0 false)]) :=
  loop_eq (mk := fun (s : Int × LI) => mL2 s.1 s.2) (fun again s => by rw [l2_raw k kp again s.1 s.2]; simp only [j3_eq, j5_eq]; first | done | rfl) (x0, b0)
theorem c_c (k kp : KT) (J L : Nat → St → Prop) (x0 : Int) : runC cfg 1000001 J L none'' [] body (topK cfg Tryd.f18 k kp) (st0 Tryd.f18 [(.v (.int IntKind.u64 x0))] []) = c (fun x0 b0 => L 2 (mL2 x0 b0)) x0 (fun z0 => k (.sl 0 0) [(.lst 5 (Ty.int IntKind.u8) z0 0 false)]) := by kernel_rfl
theorem c_ag (k kp : KT) : agPL cfg 1000001 (JJ k kp) (LL k kp) [] body = agPR cfg 1000001 none'' [] body (topK cfg Tryd.f18 k kp) := by kernel_rfl
theorem body_is : Tryd.f18.body = some body := by kernel_rfl
theorem c_raw (k kp : KT) (x0 : Int) : funW cfg Tryd.f18 [(.v (.int IntKind.u64 x0))] [] k kp = c (fun x0 b0 => XL2 k kp (mL2 x0 b0)) x0 (fun z0 => k (.sl 0 0) [(.lst 5 (Ty.int IntKind.u8) z0 0 false)]) :=
  Eq.mp (by kernel_rfl) ((funW_run (AG := none'') body_is (c_ag k kp) [(.v (.int IntKind.u64 x0))] []).trans (c_c k kp (JJ k kp) (LL k kp) x0))
theorem f_eq (k kp : KT) (x0 : Int) : funW cfg Tryd.f18 [(.v (.int IntKind.u64 x0))] [] k kp = f x0 (fun z0 => k (.sl 0 0) [(.lst 5 (Ty.int IntKind.u8) z0 0 false)]) := by
  rw [f_def, c_raw]; simp only [l2_eq]; first | done | rfl
noncomputable def ent0 : Entry := fun args blks k _ => match args, blks with
  | [d0], [] => aInt IntKind.u64 d0 fun x0 => f x0 (fun z0 => k (.sl 0 0) [(.lst 5 (Ty.int IntKind.u8) z0 0 false)])
  | _, _ => False
noncomputable def ent : Entry := fun args blks k kp => ent0 (convB [.no] args) blks k kp
theorem ok : EntOk Tryd.prog 49 0 18 ent := by
  refine EntOk.convB (EntOk.of (funW_ok (cfg := cfg) (tyOk_of rfl rfl tyL_ok) (eqOk_of (P := Tryd.prog) rfl rfl (by kernel_rfl)) mixed_ok (tab_ok ?_) Tryd.func18 (by rfl) (by rfl)) ?_) _
  · intro p hp
    cases hp
  · intro args blks k kp h k' kp'
    match args, blks, h with
    | [d0], [], h =>
    dsimp only [ent0] at h
    have h9 := aInt_elim h; clear h; obtain ⟨x0, rfl, h⟩ := h9
    exact (f_eq k' kp' x0).symm
end N18
end Go.Proofs.Ye

namespace Go.Proofs.Ye
open Go Go.Aw Go.Proofs
set_option maxRecDepth 100000
set_option maxHeartbeats 4000000
namespace N9
noncomputable def cfg : Cfg := { P := Tryd.prog, tf := 49, tw := 0, ty := tys, E := tab [(18, N18.ent)], atSeq := tab [(6, ⟨[(3, .keep), (4, .keep)]⟩), (11, ⟨[(4, .keep)]⟩)], atLoop := tab [(8, ⟨[(4, .keep), (5, .keep), (6, .keep)]⟩)], outs := [], eqT := tab [], bT := tab [] }
noncomputable def body : Code := bodyOf Tryd.f9
def j6 (l8 : BA → Int → LI → Prop) (x3 : Int) (x4 : BA) (k : BA → Prop) : Prop :=
  (N18.f x3 (fun (z0_0 : LI) => (l8 x4 (IntKind.i64.wrap (((((z0_0).length : Nat) : Int)) - (1 : Int))) z0_0)))
def l8 (j11 : BA → Prop) (ag8 : BA → Int → LI → Prop) (x4 : BA) (x6 : Int) (b0 : LI) (k : BA → Prop) : Prop :=
  (br (decide (x6 ≥ (0 : Int))) ((inB 0 x6 ((((b0).length : Nat) : Int) - 1)) ∧ (((x4).size + ((bytesOf ([(b0.getD (Int.toNat x6) (0))] : List Int))).size ≤ 9223372036854775807) ∧ (ag8 (x4 ++ (bytesOf ([(b0.getD (Int.toNat x6) (0))] : List Int))) (IntKind.i64.wrap (x6 - (1 : Int))) b0))) (j11 x4))
def j11 (x4 : BA) (k : BA → Prop) : Prop :=
  (k x4)
def c (j6 : Int → BA → Prop) (x0 : Int) (k : BA → Prop) : Prop :=
  (br (decide (x0 < (0 : Int))) (j6 (IntKind.u64.wrap (0 - (IntKind.u64.wrap x0))) (ByteArray.mk #[45])) (j6 (IntKind.u64.wrap x0) (ByteArray.mk #[])))
def j11' (x4 : BA) (k : BA → Prop) : Prop := j11 x4 k
def l8' (x4 : BA) (x6 : Int) (b0 : LI) (k : BA → Prop) : Prop := ∃ n, loopS (fun (ag : (BA × Int × LI) → Prop) (s : BA × Int × LI) => l8 (fun x4 => j11' x4 k) (fun x4 x6 b0 => ag (x4, x6, b0)) s.1 s.2.1 s.2.2 k) n (x4, x6, b0)
def j6' (x3 : Int) (x4 : BA) (k : BA → Prop) : Prop := j6 (fun x4 x6 b0 => l8' x4 x6 b0 k) x3 x4 k
def f0 (x0 : Int) (k : BA → Prop) : Prop := c (fun x3 x4 => j6' x3 x4 k) x0 k
theorem f_ex : ∃ g, g = f0 := ⟨_, rfl⟩
noncomputable def f := Classical.choose f_ex
theorem f_def : f = f0 := Classical.choose_spec f_ex
def m6 (x3 : Int) (x4 : BA) : St := { tmps := mkT 31 0 [(3, (.v (.int IntKind.u64 x3))), (4, (.v (.string x4)))], hp := [], m := 0 }
def mL8 (x4 : BA) (x6 : Int) (b0 : LI) : St := { tmps := mkT 31 0 [(4, (.v (.string x4))), (5, (.sl 0 0)), (6, (.v (.int .i64 x6)))], hp := [(.lst 5 (Ty.int IntKind.u8) b0 0 false)], m := 0 }
def m11 (x4 : BA) : St := { tmps := mkT 31 0 [(4, (.v (.string x4)))], hp := [], m := 0 }
noncomputable def X6 (k kp : KT) : St → Prop := atP cfg (pick none' []) [1, 1, 1, 1] body (topK cfg Tryd.f9 k kp)
noncomputable def YL8 (k kp : KT) : (St → Prop) → St → Prop := loopB cfg (sub [1, 1, 1, 1, 1, 0, 1, 0, 0] body) (contK cfg (pick none' []) [1, 1, 1, 1, 1, 0, 1, 0] body (topK cfg Tryd.f9 k kp))
noncomputable def XL8 (k kp : KT) : St → Prop := fun st => ∃ n, loopN (YL8 k kp) n st
noncomputable def X11 (k kp : KT) : St → Prop := atP cfg (pick none' []) [1, 1, 1, 1, 1, 1] body (topK cfg Tryd.f9 k kp)
noncomputable def JJ (k kp : KT) : Nat → St → Prop := pick none' [(6, X6 k kp), (11, X11 k kp)]
noncomputable def LL (k kp : KT) : Nat → St → Prop := pick none' [(8, XL8 k kp)]
noncomputable def JJ_8 (k kp : KT) (ag8 : St → Prop) : Nat → St → Prop := pick none' [(6, X6 k kp), (11, X11 k kp)]
noncomputable def LL_8 (k kp : KT) (ag8 : St → Prop) : Nat → St → Prop := pick none' [(8, XL8 k kp)]
theorem j11_c (k kp : KT) (J L : Nat → St → Prop) (x4 : BA) : runC cfg 11 J L (pick none' []) [1, 1, 1, 1, 1, 1] body (topK cfg Tryd.f9 k kp) (m11 x4) = j11 x4 (fun y0 => k (.v (.string y0)) []) := by kernel_rfl
theorem j11_ag (k kp : KT) : agPL cfg 11 (JJ k kp) (LL k kp) [1, 1, 1, 1, 1, 1] body = agPR cfg 11 (pick none' []) [1, 1, 1, 1, 1, 1] body (topK cfg Tryd.f9 k kp) := by kernel_rfl
theorem j11_raw (k kp : KT) (x4 : BA) : X11 k kp (m11 x4) = j11 x4 (fun y0 => k (.v (.string y0)) []) :=
  Eq.mp (by kernel_rfl) ((atP_run (j11_ag k kp) (m11 x4)).trans (j11_c k kp (JJ k kp) (LL k kp) x4))
theorem j11_eq (k kp : KT) (x4 : BA) : X11 k kp (m11 x4) = j11' x4 (fun y0 => k (.v (.string y0)) []) := by
  rw [j11_raw]; rfl
theorem l8_c (k kp : KT) (J L : Nat → St → Prop) (ag8 : St → Prop) (x4 : BA) (x6 : Int) (b0 : LI) : runC cfg 1000001 J L (pick none' [(8, ag8)]) [1, 1, 1, 1, 1, 0, 1, 0, 0] body (topK cfg Tryd.f9 k kp) (mL8 x4 x6 b0) = l8 (fun x4 => J 11 (m11 x4)) (fun x4 x6 b0 => ag8 (mL8 x4 x6 b0)) x4 x6 b0 (fun y0 => k (.v (.string y0)) []) := by kernel_rfl
theorem l8_ag (k kp : KT) (ag8 : St → Prop) : agPL cfg 1000001 (JJ_8 k kp ag8) (LL_8 k kp ag8) [1, 1, 1, 1, 1, 0, 1, 0, 0] body = agPR cfg 1000001 (pick none' [(8, ag8)]) [1, 1, 1, 1, 1, 0, 1, 0, 0] body (topK cfg Tryd.f9 k kp) := by kernel_rfl
theorem l8_raw (k kp : KT) (ag8 : St → Prop) (x4 : BA) (x6 : Int) (b0 : LI) : YL8 k kp ag8 (mL8 x4 x6 b0) = l8 (fun x4 => X11 k kp (m11 x4)) (fun x4 x6 b0 => ag8 (mL8 x4 x6 b0)) x4 x6 b0 (fun y0 => k (.v (.string y0)) []) :=
  Eq.mp (by kernel_rfl) ((atP_run (l8_ag k kp ag8) (mL8 x4 x6 b0)).trans (l8_c k kp (JJ_8 k kp ag8) (LL_8 k kp ag8) ag8 x4 x6 b0))
theorem l8_eq (k kp : KT) (x4 : BA) (x6 : Int) (b0 : LI) : XL8 k kp (mL8 x4 x6 b0) = l8' x4 x6 b0 (fun y0 => k (.v (.string y0)) []) :=
  loop_eq (mk := fun (s : BA × Int × LI) => mL8 s.1 s.2.1 s.2.2) (fun again s => by rw [l8_raw k kp again s.1 s.2.1 s.2.2]; simp only [j11_eq]; first | done | rfl) (x4, x6, b0)
theorem j6_c (k kp : KT) (J L : Nat → St → Prop) (x3 : Int) (x4 : BA) : runC cfg 6 J L (pick none' []) [1, 1, 1, 1] body (topK cfg Tryd.f9 k kp) (m6 x3 x4) = j6 (fun x4 x6 b0 => L 8 (mL8 x4 x6 b0)) x3 x4 (fun y0 => k (.v (.string y0)) []) := by kernel_rfl
theorem j6_ag (k kp : KT) : agPL cfg 6 (JJ k kp) (LL k kp) [1, 1, 1, 1] body = agPR cfg 6 (pick none' []) [1, 1, 1, 1] body (topK cfg Tryd.f9 k kp) := by kernel_rfl
theorem j6_raw (k kp : KT) (x3 : Int) (x4 : BA) : X6 k kp (m6 x3 x4) = j6 (fun x4 x6 b0 => XL8 k kp (mL8 x4 x6 b0)) x3 x4 (fun y0 => k (.v (.string y0)) []) :=
  Eq.mp (by kernel_rfl) ((atP_run (j6_ag k kp) (m6 x3 x4)).trans (j6_c k kp (JJ k kp) (LL k kp) x3 x4))
theorem j6_eq (k kp : KT) (x3 : Int) (x4 : BA) : X6 k kp (m6 x3 x4) = j6' x3 x4 (fun y0 => k (.v (.string y0)) []) := by
  rw [j6_raw]; simp only [l8_eq]; first | done | rfl
theorem c_c (k kp : KT) (J L : Nat → St → Prop) (x0 : Int) : runC cfg 1000001 J L none'' [] body (topK cfg Tryd.f9 k kp) (st0 Tryd.f9 [(.v (.int .i64 x0))] []) = c (fun x3 x4 => J 6 (m6 x3 x4)) x0 (fun y0 => k (.v (.string y0)) []) := by kernel_rfl
theorem c_ag (k kp : KT) : agPL cfg 1000001 (JJ k kp) (LL k kp) [] body = agPR cfg 1000001 none'' [] body (topK cfg Tryd.f9 k kp) := by kernel_rfl
theorem body_is : Tryd.f9.body = some body := by kernel_rfl
theorem c_raw (k kp : KT) (x0 : Int) : funW cfg Tryd.f9 [(.v (.int .i64 x0))] [] k kp = c (fun x3 x4 => X6 k kp (m6 x3 x4)) x0 (fun y0 => k (.v (.string y0)) []) :=
  Eq.mp (by kernel_rfl) ((funW_run (AG := none'') body_is (c_ag k kp) [(.v (.int .i64 x0))] []).trans (c_c k kp (JJ k kp) (LL k kp) x0))
theorem f_eq (k kp : KT) (x0 : Int) : funW cfg Tryd.f9 [(.v (.int .i64 x0))] [] k kp = f x0 (fun y0 => k (.v (.string y0)) []) := by
  rw [f_def, c_raw]; simp only [j6_eq]; first | done | rfl
noncomputable def ent0 : Entry := fun args blks k _ => match args, blks with
  | [d0], [] => aInt IntKind.i64 d0 fun x0 => f x0 (fun y0 => k (.v (.string y0)) [])
  | _, _ => False
noncomputable def ent : Entry := fun args blks k kp => ent0 (convB [.no] args) blks k kp
theorem ok : EntOk Tryd.prog 49 0 9 ent := by
  refine EntOk.convB (EntOk.of (funW_ok (cfg := cfg) (tyOk_of rfl rfl tyL_ok) (eqOk_of (P := Tryd.prog) rfl rfl (by kernel_rfl)) mixed_ok (tab_ok ?_) Tryd.func9 (by rfl) (by rfl)) ?_) _
  · intro p hp
    simp only [List.mem_cons, List.not_mem_nil, or_false] at hp
    rcases hp with rfl
    · exact N18.ok
  · intro args blks k kp h k' kp'
    match args, blks, h with
    | [d0], [], h =>
    dsimp only [ent0] at h
    have h9 := aInt_elim h; clear h; obtain ⟨x0, rfl, h⟩ := h9
    exact (f_eq k' kp' x0).symm
end N9
end Go.Proofs.Ye

namespace Go.Proofs.Ye
open Go Go.Aw Go.Proofs
set_option maxRecDepth 100000
set_option maxHeartbeats 4000000
namespace N82
noncomputable def cfg : Cfg := { P := Tryd.prog, tf := 49, tw := 0, ty := tys, E := tab [], atSeq := tab [], atLoop := tab [], outs := [], eqT := tab [], bT := tab [] }
noncomputable def body : Code := bodyOf Tryd.f82
def c (x0 : Int) (k : Int → Bool → Prop) : Prop :=
  (br (decide ((IntKind.i64.wrap ((IntKind.i64.wrap x0) - (48 : Int))) ≥ (0 : Int))) (k (IntKind.i64.wrap ((IntKind.i64.wrap x0) - (48 : Int))) (decide ((IntKind.i64.wrap ((IntKind.i64.wrap x0) - (48 : Int))) < (10 : Int)))) (k (IntKind.i64.wrap ((IntKind.i64.wrap x0) - (48 : Int))) false))
def f0 (x0 : Int) (k : Int → Bool → Prop) : Prop := c x0 k
theorem f_ex : ∃ g, g = f0 := ⟨_, rfl⟩
noncomputable def f := Classical.choose f_ex
theorem f_def : f = f0 := Classical.choose_spec f_ex
noncomputable def JJ (k kp : KT) : Nat → St → Prop := pick none' []
noncomputable def LL (k kp : KT) : Nat → St → Prop := pick none' []
theorem c_c (k kp : KT) (J L : Nat → St → Prop) (x0 : Int) : runC cfg 1000001 J L none'' [] body (topK cfg Tryd.f82 k kp) (st0 Tryd.f82 [(.v (.int IntKind.u8 x0))] []) = c x0 (fun y0 y1 => k (.tup [(.v (.int .i64 y0)), (.v (.bool y1))]) []) := by kernel_rfl
theorem c_ag (k kp : KT) : agPL cfg 1000001 (JJ k kp) (LL k kp) [] body = agPR cfg 1000001 none'' [] body (topK cfg Tryd.f82 k kp) := by kernel_rfl
theorem body_is : Tryd.f82.body = some body := by kernel_rfl
theorem c_raw (k kp : KT) (x0 : Int) : funW cfg Tryd.f82 [(.v (.int IntKind.u8 x0))] [] k kp = c x0 (fun y0 y1 => k (.tup [(.v (.int .i64 y0)), (.v (.bool y1))]) []) :=
  Eq.mp (by kernel_rfl) ((funW_run (AG := none'') body_is (c_ag k kp) [(.v (.int IntKind.u8 x0))] []).trans (c_c k kp (JJ k kp) (LL k kp) x0))
theorem f_eq (k kp : KT) (x0 : Int) : funW cfg Tryd.f82 [(.v (.int IntKind.u8 x0))] [] k kp = f x0 (fun y0 y1 => k (.tup [(.v (.int .i64 y0)), (.v (.bool y1))]) []) := by
  rw [f_def, c_raw]; rfl
noncomputable def ent0 : Entry := fun args blks k _ => match args, blks with
  | [d0], [] => aInt IntKind.u8 d0 fun x0 => f x0 (fun y0 y1 => k (.tup [(.v (.int .i64 y0)), (.v (.bool y1))]) [])
  | _, _ => False
noncomputable def ent : Entry := fun args blks k kp => ent0 (convB [.no] args) blks k kp
theorem ok : EntOk Tryd.prog 49 0 82 ent := by
  refine EntOk.convB (EntOk.of (funW_ok (cfg := cfg) (tyOk_of rfl rfl tyL_ok) (eqOk_of (P := Tryd.prog) rfl rfl (by kernel_rfl)) mixed_ok (tab_ok ?_) Tryd.func82 (by rfl) (by rfl)) ?_) _
  · intro p hp
    cases hp
  · intro args blks k kp h k' kp'
    match args, blks, h with
    | [d0], [], h =>
    dsimp only [ent0] at h
    have h9 := aInt_elim h; clear h; obtain ⟨x0, rfl, h⟩ := h9
    exact (f_eq k' kp' x0).symm
end N82
end Go.Proofs.Ye

namespace Go.Proofs.Ye
open Go Go.Aw Go.Proofs
set_option maxRecDepth 100000
set_option maxHeartbeats 4000000
namespace N79
noncomputable def cfg : Cfg := { P := Tryd.prog, tf := 49, tw := 0, ty := tys, E := tab [(82, N82.ent)], atSeq := tab [(2000003, ⟨[(0, .keep), (4, .keep), (6, .keep), (19, .keep)]⟩), (5, ⟨[(0, .keep), (4, .keep), (6, .keep)]⟩), (10, ⟨[(4, .keep), (5, .keep), (6, .keep)]⟩)], atLoop := tab [(6, ⟨[(0, .keep), (4, .keep), (5, .keep), (6, .keep)]⟩)], outs := [], eqT := tab [], bT := tab [] }
noncomputable def body : Code := bodyOf Tryd.f79
def j2000003 (j5 : BA → Int → Bool → Prop) (x0 : BA) (x4 : Int) (x6 x19 : Bool) (k : Int → Int → Bool → Prop) : Prop :=
  (br x19 (j5 x0 (IntKind.i64.wrap (x4 + (1 : Int))) true) (j5 x0 x4 x6))
def j5 (l6 : BA → Int → Int → Bool → Prop) (x0 : BA) (x4 : Int) (x6 : Bool) (k : Int → Int → Bool → Prop) : Prop :=
  (l6 x0 x4 x4 x6)
def l6 (j10 : Int → Int → Bool → Prop) (ag6 : Int → Prop) (x0 : BA) (x4 x5 : Int) (x6 : Bool) (k : Int → Int → Bool → Prop) : Prop :=
  (br (decide (x5 < ((((x0).size : Nat) : Int)))) ((inB 0 x5 ((((x0).size : Nat) : Int) - 1)) ∧ (N82.f (byteAt x0 x5) (fun (y0_0 : Int) (y1_0 : Bool) => (br (!y1_0) (j10 x4 x5 x6) (ag6 (IntKind.i64.wrap (x5 + (1 : Int)))))))) (j10 x4 x5 x6))
def j10 (x4 x5 : Int) (x6 : Bool) (k : Int → Int → Bool → Prop) : Prop :=
  (k x4 x5 x6)
def c (j2000003 : BA → Int → Bool → Bool → Prop) (x0 : BA) (x1 : Int) (k : Int → Int → Bool → Prop) : Prop :=
  (br (decide (x1 < ((((x0).size : Nat) : Int)))) ((inB 0 x1 ((((x0).size : Nat) : Int) - 1)) ∧ (j2000003 x0 x1 false ((byteAt x0 x1) == (45 : Int)))) (j2000003 x0 x1 false false))
def j10' (x4 x5 : Int) (x6 : Bool) (k : Int → Int → Bool → Prop) : Prop := j10 x4 x5 x6 k
def l6' (x0 : BA) (x4 x5 : Int) (x6 : Bool) (k : Int → Int → Bool → Prop) : Prop := ∃ n, loopS (fun (ag : (Int) → Prop) (s : Int) => l6 (fun x4 x5 x6 => j10' x4 x5 x6 k) (fun x5 => ag (x5)) x0 x4 s x6 k) n (x5)
def j5' (x0 : BA) (x4 : Int) (x6 : Bool) (k : Int → Int → Bool → Prop) : Prop := j5 (fun x0 x4 x5 x6 => l6' x0 x4 x5 x6 k) x0 x4 x6 k
def j2000003' (x0 : BA) (x4 : Int) (x6 x19 : Bool) (k : Int → Int → Bool → Prop) : Prop := j2000003 (fun x0 x4 x6 => j5' x0 x4 x6 k) x0 x4 x6 x19 k
def f0 (x0 : BA) (x1 : Int) (k : Int → Int → Bool → Prop) : Prop := c (fun x0 x4 x6 x19 => j2000003' x0 x4 x6 x19 k) x0 x1 k
theorem f_ex : ∃ g, g = f0 := ⟨_, rfl⟩
noncomputable def f := Classical.choose f_ex
theorem f_def : f = f0 := Classical.choose_spec f_ex
def m2000003 (x0 : BA) (x4 : Int) (x6 x19 : Bool) : St := { tmps := mkT 41 0 [(0, (.v (.string x0))), (4, (.v (.int .i64 x4))), (6, (.v (.bool x6))), (19, (.v (.bool x19)))], hp := [], m := 0 }
def m5 (x0 : BA) (x4 : Int) (x6 : Bool) : St := { tmps := mkT 41 0 [(0, (.v (.string x0))), (4, (.v (.int .i64 x4))), (6, (.v (.bool x6)))], hp := [], m := 0 }
def mL6 (x0 : BA) (x4 x5 : Int) (x6 : Bool) : St := { tmps := mkT 41 0 [(0, (.v (.string x0))), (4, (.v (.int .i64 x4))), (5, (.v (.int .i64 x5))), (6, (.v (.bool x6)))], hp := [], m := 0 }
def m10 (x4 x5 : Int) (x6 : Bool) : St := { tmps := mkT 41 0 [(4, (.v (.int .i64 x4))), (5, (.v (.int .i64 x5))), (6, (.v (.bool x6)))], hp := [], m := 0 }
noncomputable def X2000003 (k kp : KT) : St → Prop := atP cfg (pick none' []) [1, 1, 0, 1] body (topK cfg Tryd.f79 k kp)
noncomputable def X5 (k kp : KT) : St → Prop := atP cfg (pick none' []) [1, 1, 1] body (topK cfg Tryd.f79 k kp)
noncomputable def YL6 (k kp : KT) : (St → Prop) → St → Prop := loopB cfg (sub [1, 1, 1, 1, 0, 0, 0] body) (contK cfg (pick none' []) [1, 1, 1, 1, 0, 0] body (topK cfg Tryd.f79 k kp))
noncomputable def XL6 (k kp : KT) : St → Prop := fun st => ∃ n, loopN (YL6 k kp) n st
noncomputable def X10 (k kp : KT) : St → Prop := atP cfg (pick none' []) [1, 1, 1, 1, 1] body (topK cfg Tryd.f79 k kp)
noncomputable def JJ (k kp : KT) : Nat → St → Prop := pick none' [(2000003, X2000003 k kp), (5, X5 k kp), (10, X10 k kp)]
noncomputable def LL (k kp : KT) : Nat → St → Prop := pick none' [(6, XL6 k kp)]
noncomputable def JJ_6 (k kp : KT) (ag6 : St → Prop) : Nat → St → Prop := pick none' [(2000003, X2000003 k kp), (5, X5 k kp), (10, X10 k kp)]
noncomputable def LL_6 (k kp : KT) (ag6 : St → Prop) : Nat → St → Prop := pick none' [(6, XL6 k kp)]
theorem j10_c (k kp : KT) (J L : Nat → St → Prop) (x4 x5 : Int) (x6 : Bool) : runC cfg 10 J L (pick none' []) [1, 1, 1, 1, 1] body (topK cfg Tryd.f79 k kp) (m10 x4 x5 x6) = j10 x4 x5 x6 (fun y0 y1 y2 => k (.tup [(.v (.int .i64 y0)), (.v (.int .i64 y1)), (.v (.bool y2))]) []) := by kernel_rfl
theorem j10_ag (k kp : KT) : agPL cfg 10 (JJ k kp) (LL k kp) [1, 1, 1, 1, 1] body = agPR cfg 10 (pick none' []) [1, 1, 1, 1, 1] body (topK cfg Tryd.f79 k kp) := by kernel_rfl
theorem j10_raw (k kp : KT) (x4 x5 : Int) (x6 : Bool) : X10 k kp (m10 x4 x5 x6) = j10 x4 x5 x6 (fun y0 y1 y2 => k (.tup [(.v (.int .i64 y0)), (.v (.int .i64 y1)), (.v (.bool y2))]) []) :=
  Eq.mp (by kernel_rfl) ((atP_run (j10_ag k kp) (m10 x4 x5 x6)).trans (j10_c k kp (JJ k kp) (LL k kp) x4 x5 x6))
theorem j10_eq (k kp : KT) (x4 x5 : Int) (x6 : Bool) : X10 k kp (m10 x4 x5 x6) = j10' x4 x5 x6 (fun y0 y1 y2 => k (.tup [(.v (.int .i64 y0)), (.v (.int .i64 y1)), (.v (.bool y2))]) []) := by
  rw [j10_raw]; rfl
theorem l6_c (k kp : KT) (J L : Nat → St → Prop) (ag6 : St → Prop) (x0 : BA) (x4 x5 : Int) (x6 : Bool) : runC cfg 1000001 J L (pick none' [(6, ag6)]) [1, 1, 1, 1, 0, 0, 0] body (topK cfg Tryd.f79 k kp) (mL6 x0 x4 x5 x6) = l6 (fun x4 x5 x6 => J 10 (m10 x4 x5 x6)) (fun x5 => ag6 (mL6 x0 x4 x5 x6)) x0 x4 x5 x6 (fun y0 y1 y2 => k (.tup [(.v (.int .i64 y0)), (.v (.int .i64 y1)), (.v (.bool y2))]) []) := by kernel_rfl
theorem l6_ag (k kp : KT) (ag6 : St → Prop) : agPL cfg 1000001 (JJ_6 k kp ag6) (LL_6 k kp ag6) [1, 1, 1, 1, 0, 0, 0] body = agPR cfg 1000001 (pick none' [(6, ag6)]) [1, 1, 1, 1, 0, 0, 0] body (topK cfg Tryd.f79 k kp) := by kernel_rfl
theorem l6_raw (k kp : KT) (ag6 : St → Prop) (x0 : BA) (x4 x5 : Int) (x6 : Bool) : YL6 k kp ag6 (mL6 x0 x4 x5 x6) = l6 (fun x4 x5 x6 => X10 k kp (m10 x4 x5 x6)) (fun x5 => ag6 (mL6 x0 x4 x5 x6)) x0 x4 x5 x6 (fun y0 y1 y2 => k (.tup [(.v (.int .i64 y0)), (.v (.int .i64 y1)), (.v (.bool y2))]) []) :=
  Eq.mp (by kernel_rfl) ((atP_run (l6_ag k kp ag6) (mL6 x0 x4 x5 x6)).trans (l6_c k kp (JJ_6 k kp ag6) (LL_6 k kp ag6) ag6 x0 x4 x5 x6))
theorem l6_eq (k kp : KT) (x0 : BA) (x4 x5 : Int) (x6 : Bool) : XL6 k kp (mL6 x0 x4 x5 x6) = l6' x0 x4 x5 x6 (fun y0 y1 y2 => k (.tup [(.v (.int .i64 y0)), (.v (.int .i64 y1)), (.v (.bool y2))]) []) :=
  loop_eq (mk := fun (s : Int) => mL6 x0 x4 s x6) (fun again s => by rw [l6_raw k kp again x0 x4 s x6]; simp only [j10_eq]; first | done | rfl) (x5)
theorem j5_c (k kp : KT) (J L : Nat → St → Prop) (x0 : BA) (x4 : Int) (x6 : Bool) : runC cfg 5 J L (pick none' []) [1, 1, 1] body (topK cfg Tryd.f79 k kp) (m5 x0 x4 x6) = j5 (fun x0 x4 x5 x6 => L 6 (mL6 x0 x4 x5 x6)) x0 x4 x6 (fun y0 y1 y2 => k (.tup [(.v (.int .i64 y0)), (.v (.int .i64 y1)), (.v (.bool y2))]) []) := by kernel_rfl
theorem j5_ag (k kp : KT) : agPL cfg 5 (JJ k kp) (LL k kp) [1, 1, 1] body = agPR cfg 5 (pick none' []) [1, 1, 1] body (topK cfg Tryd.f79 k kp) := by kernel_rfl
theorem j5_raw (k kp : KT) (x0 : BA) (x4 : Int) (x6 : Bool) : X5 k kp (m5 x0 x4 x6) = j5 (fun x0 x4 x5 x6 => XL6 k kp (mL6 x0 x4 x5 x6)) x0 x4 x6 (fun y0 y1 y2 => k (.tup [(.v (.int .i64 y0)), (.v (.int .i64 y1)), (.v (.bool y2))]) []) :=
  Eq.mp (by kernel_rfl) ((atP_run (j5_ag k kp) (m5 x0 x4 x6)).trans (j5_c k kp (JJ k kp) (LL k kp) x0 x4 x6))
theorem j5_eq (k kp : KT) (x0 : BA) (x4 : Int) (x6 : Bool) : X5 k kp (m5 x0 x4 x6) = j5' x0 x4 x6 (fun y0 y1 y2 => k (.tup [(.v (.int .i64 y0)), (.v (.int .i64 y1)), (.v (.bool y2))]) []) := by
  rw [j5_raw]; simp only [l6_eq]; first | done | rfl
theorem j2000003_c (k kp : KT) (J L : Nat → St → Prop) (x0 : BA) (x4 : Int) (x6 x19 : Bool) : runC cfg 2000003 J L (pick none' []) [1, 1, 0, 1] body (topK cfg Tryd.f79 k kp) (m2000003 x0 x4 x6 x19) = j2000003 (fun x0 x4 x6 => J 5 (m5 x0 x4 x6)) x0 x4 x6 x19 (fun y0 y1 y2 => k (.tup [(.v (.int .i64 y0)), (.v (.int .i64 y1)), (.v (.bool y2))]) []) := by kernel_rfl
theorem j2000003_ag (k kp : KT) : agPL cfg 2000003 (JJ k kp) (LL k kp) [1, 1, 0, 1] body = agPR cfg 2000003 (pick none' []) [1, 1, 0, 1] body (topK cfg Tryd.f79 k kp) := by kernel_rfl
theorem j2000003_raw (k kp : KT) (x0 : BA) (x4 : Int) (x6 x19 : Bool) : X2000003 k kp (m2000003 x0 x4 x6 x19) = j2000003 (fun x0 x4 x6 => X5 k kp (m5 x0 x4 x6)) x0 x4 x6 x19 (fun y0 y1 y2 => k (.tup [(.v (.int .i64 y0)), (.v (.int .i64 y1)), (.v (.bool y2))]) []) :=
  Eq.mp (by kernel_rfl) ((atP_run (j2000003_ag k kp) (m2000003 x0 x4 x6 x19)).trans (j2000003_c k kp (JJ k kp) (LL k kp) x0 x4 x6 x19))
theorem j2000003_eq (k kp : KT) (x0 : BA) (x4 : Int) (x6 x19 : Bool) : X2000003 k kp (m2000003 x0 x4 x6 x19) = j2000003' x0 x4 x6 x19 (fun y0 y1 y2 => k (.tup [(.v (.int .i64 y0)), (.v (.int .i64 y1)), (.v (.bool y2))]) []) := by
  rw [j2000003_raw]; simp only [j5_eq]; first | done | rfl
theorem c_c (k kp : KT) (J L : Nat → St → Prop) (x0 : BA) (x1 : Int) : runC cfg 1000001 J L none'' [] body (topK cfg Tryd.f79 k kp) (st0 Tryd.f79 [(.v (.string x0)), (.v (.int .i64 x1))] []) = c (fun x0 x4 x6 x19 => J 2000003 (m2000003 x0 x4 x6 x19)) x0 x1 (fun y0 y1 y2 => k (.tup [(.v (.int .i64 y0)), (.v (.int .i64 y1)), (.v (.bool y2))]) []) := by kernel_rfl
theorem c_ag (k kp : KT) : agPL cfg 1000001 (JJ k kp) (LL k kp) [] body = agPR cfg 1000001 none'' [] body (topK cfg Tryd.f79 k kp) := by kernel_rfl
theorem body_is : Tryd.f79.body = some body := by kernel_rfl
theorem c_raw (k kp : KT) (x0 : BA) (x1 : Int) : funW cfg Tryd.f79 [(.v (.string x0)), (.v (.int .i64 x1))] [] k kp = c (fun x0 x4 x6 x19 => X2000003 k kp (m2000003 x0 x4 x6 x19)) x0 x1 (fun y0 y1 y2 => k (.tup [(.v (.int .i64 y0)), (.v (.int .i64 y1)), (.v (.bool y2))]) []) :=
  Eq.mp (by kernel_rfl) ((funW_run (AG := none'') body_is (c_ag k kp) [(.v (.string x0)), (.v (.int .i64 x1))] []).trans (c_c k kp (JJ k kp) (LL k kp) x0 x1))
theorem f_eq (k kp : KT) (x0 : BA) (x1 : Int) : funW cfg Tryd.f79 [(.v (.string x0)), (.v (.int .i64 x1))] [] k kp = f x0 x1 (fun y0 y1 y2 => k (.tup [(.v (.int .i64 y0)), (.v (.int .i64 y1)), (.v (.bool y2))]) []) := by
  rw [f_def, c_raw]; simp only [j2000003_eq]; first | done | rfl
noncomputable def ent0 : Entry := fun args blks k _ => match args, blks with
  | [d0, d1], [] => aStr d0 fun x0 => aInt IntKind.i64 d1 fun x1 => f x0 x1 (fun y0 y1 y2 => k (.tup [(.v (.int .i64 y0)), (.v (.int .i64 y1)), (.v (.bool y2))]) [])
  | _, _ => False
noncomputable def ent : Entry := fun args blks k kp => ent0 (convB [.no, .no] args) blks k kp
theorem ok : EntOk Tryd.prog 49 0 79 ent := by
  refine EntOk.convB (EntOk.of (funW_ok (cfg := cfg) (tyOk_of rfl rfl tyL_ok) (eqOk_of (P := Tryd.prog) rfl rfl (by kernel_rfl)) mixed_ok (tab_ok ?_) Tryd.func79 (by rfl) (by rfl)) ?_) _
  · intro p hp
    simp only [List.mem_cons, List.not_mem_nil, or_false] at hp
    rcases hp with rfl
    · exact N82.ok
  · intro args blks k kp h k' kp'
    match args, blks, h with
    | [d0, d1], [], h =>
    dsimp only [ent0] at h
    have h9 := aStr_elim h; clear h; obtain ⟨x0, rfl, h⟩ := h9
    have h9 := aInt_elim h; clear h; obtain ⟨x1, rfl, h⟩ := h9
    exact (f_eq k' kp' x0 x1).symm
end N79
end Go.Proofs.Ye

namespace Go.Proofs.Ye
open Go Go.Aw Go.Proofs
set_option maxRecDepth 100000
set_option maxHeartbeats 4000000
namespace N80
noncomputable def cfg : Cfg := { P := Tryd.prog, tf := 49, tw := 0, ty := tys, E := tab [(82, N82.ent)], atSeq := tab [(10, ⟨[(1, .keep), (6, .keep)]⟩)], atLoop := tab [(3, ⟨[(0, .keep), (1, .keep), (6, .keep), (11, .keep), (12, .keep)]⟩)], outs := [], eqT := tab [], bT := tab [] }
noncomputable def body : Code := bodyOf Tryd.f80
def l3 (j10 : Bool → Int → Prop) (ag3 : Int → Int → Prop) (x0 : BA) (x1 : Bool) (x6 x11 x12 : Int) (k : Int → Bool → Prop) : Prop :=
  (br (decide (x12 < x11)) ((inB 0 x12 ((((x0).size : Nat) : Int) - 1)) ∧ (N82.f (byteAt x0 x12) (fun (y0_0 : Int) (y1_0 : Bool) => (((10 : Int) ≠ 0) ∧ (br (decide (x6 < (IntKind.i64.wrap (Int.tdiv (IntKind.i64.wrap ((-9223372036854775808 : Int) + y0_0)) (10 : Int))))) (k (0 : Int) false) (ag3 (IntKind.i64.wrap ((IntKind.i64.wrap (x6 * (10 : Int))) - y0_0)) (IntKind.i64.wrap (x12 + (1 : Int))))))))) (j10 x1 x6))
def j10 (x1 : Bool) (x6 : Int) (k : Int → Bool → Prop) : Prop :=
  (br x1 (k x6 true) (k (IntKind.i64.wrap (0 - x6)) (decide (x6 ≥ (-9223372036854775807 : Int)))))
def c (l3 : BA → Bool → Int → Int → Int → Prop) (x0 : BA) (x1 : Bool) (k : Int → Bool → Prop) : Prop :=
  (l3 x0 x1 (0 : Int) ((((x0).size : Nat) : Int)) (0 : Int))
def j10' (x1 : Bool) (x6 : Int) (k : Int → Bool → Prop) : Prop := j10 x1 x6 k
def l3' (x0 : BA) (x1 : Bool) (x6 x11 x12 : Int) (k : Int → Bool → Prop) : Prop := ∃ n, loopS (fun (ag : (Int × Int) → Prop) (s : Int × Int) => l3 (fun x1 x6 => j10' x1 x6 k) (fun x6 x12 => ag (x6, x12)) x0 x1 s.1 x11 s.2 k) n (x6, x12)
def f0 (x0 : BA) (x1 : Bool) (k : Int → Bool → Prop) : Prop := c (fun x0 x1 x6 x11 x12 => l3' x0 x1 x6 x11 x12 k) x0 x1 k
theorem f_ex : ∃ g, g = f0 := ⟨_, rfl⟩
noncomputable def f := Classical.choose f_ex
theorem f_def : f = f0 := Classical.choose_spec f_ex
def mL3 (x0 : BA) (x1 : Bool) (x6 x11 x12 : Int) : St := { tmps := mkT 38 0 [(0, (.v (.string x0))), (1, (.v (.bool x1))), (6, (.v (.int .i64 x6))), (11, (.v (.int .i64 x11))), (12, (.v (.int .i64 x12)))], hp := [], m := 0 }
def m10 (x1 : Bool) (x6 : Int) : St := { tmps := mkT 38 0 [(1, (.v (.bool x1))), (6, (.v (.int .i64 x6)))], hp := [], m := 0 }
noncomputable def YL3 (k kp : KT) : (St → Prop) → St → Prop := loopB cfg (sub [1, 1, 0, 1, 0, 0] body) (contK cfg (pick none' []) [1, 1, 0, 1, 0] body (topK cfg Tryd.f80 k kp))
noncomputable def XL3 (k kp : KT) : St → Prop := fun st => ∃ n, loopN (YL3 k kp) n st
noncomputable def X10 (k kp : KT) : St → Prop := atP cfg (pick none' []) [1, 1, 1] body (topK cfg Tryd.f80 k kp)
noncomputable def JJ_3 (k kp : KT) (ag3 : St → Prop) : Nat → St → Prop := pick none' [(10, X10 k kp)]
noncomputable def LL_3 (k kp : KT) (ag3 : St → Prop) : Nat → St → Prop := pick none' [(3, XL3 k kp)]
noncomputable def JJ (k kp : KT) : Nat → St → Prop := pick none' [(10, X10 k kp)]
noncomputable def LL (k kp : KT) : Nat → St → Prop := pick none' [(3, XL3 k kp)]
theorem j10_c (k kp : KT) (J L : Nat → St → Prop) (x1 : Bool) (x6 : Int) : runC cfg 10 J L (pick none' []) [1, 1, 1] body (topK cfg Tryd.f80 k kp) (m10 x1 x6) = j10 x1 x6 (fun y0 y1 => k (.tup [(.v (.int .i64 y0)), (.v (.bool y1))]) []) := by kernel_rfl
theorem j10_ag (k kp : KT) : agPL cfg 10 (JJ k kp) (LL k kp) [1, 1, 1] body = agPR cfg 10 (pick none' []) [1, 1, 1] body (topK cfg Tryd.f80 k kp) := by kernel_rfl
theorem j10_raw (k kp : KT) (x1 : Bool) (x6 : Int) : X10 k kp (m10 x1 x6) = j10 x1 x6 (fun y0 y1 => k (.tup [(.v (.int .i64 y0)), (.v (.bool y1))]) []) :=
  Eq.mp (by kernel_rfl) ((atP_run (j10_ag k kp) (m10 x1 x6)).trans (j10_c k kp (JJ k kp) (LL k kp) x1 x6))
theorem j10_eq (k kp : KT) (x1 : Bool) (x6 : Int) : X10 k kp (m10 x1 x6) = j10' x1 x6 (fun y0 y1 => k (.tup [(.v (.int .i64 y0)), (.v (.bool y1))]) []) := by
  rw [j10_raw]; rfl
theorem l3_c (k kp : KT) (J L : Nat → St → Prop) (ag3 : St → Prop) (x0 : BA) (x1 : Bool) (x6 x11 x12 : Int) : runC cfg 1000001 J L (pick none' [(3, ag3)]) [1, 1, 0, 1, 0, 0] body (topK cfg Tryd.f80 k kp) (mL3 x0 x1 x6 x11 x12) = l3 (fun x1 x6 => J 10 (m10 x1 x6)) (fun x6 x12 => ag3 (mL3 x0 x1 x6 x11 x12)) x0 x1 x6 x11 x12 (fun y0 y1 => k (.tup [(.v (.int .i64 y0)), (.v (.bool y1))]) []) := by kernel_rfl
theorem l3_ag (k kp : KT) (ag3 : St → Prop) : agPL cfg 1000001 (JJ_3 k kp ag3) (LL_3 k kp ag3) [1, 1, 0, 1, 0, 0] body = agPR cfg 1000001 (pick none' [(3, ag3)]) [1, 1, 0, 1, 0, 0] body (topK cfg Tryd.f80 k kp) := by kernel_rfl
theorem l3_raw (k kp : KT) (ag3 : St → Prop) (x0 : BA) (x1 : Bool) (x6 x11 x12 : Int) : YL3 k kp ag3 (mL3 x0 x1 x6 x11 x12) = l3 (fun x1 x6 => X10 k kp (m10 x1 x6)) (fun x6 x12 => ag3 (mL3 x0 x1 x6 x11 x12)) x0 x1 x6 x11 x12 (fun y0 y1 => k (.tup [(.v (.int .i64 y0)), (.v (.bool y1))]) []) :=
  Eq.mp (by kernel_rfl) ((atP_run (l3_ag k kp ag3) (mL3 x0 x1 x6 x11 x12)).trans (l3_c k kp (JJ_3 k kp ag3) (LL_3 k kp ag3) ag3 x0 x1 x6 x11 x12))
theorem l3_eq (k kp : KT) (x0 : BA) (x1 : Bool) (x6 x11 x12 : Int) : XL3 k kp (mL3 x0 x1 x6 x11 x12) = l3' x0 x1 x6 x11 x12 (fun y0 y1 => k (.tup [(.v (.int .i64 y0)), (.v (.bool y1))]) []) :=
  loop_eq (mk := fun (s : Int × Int) => mL3 x0 x1 s.1 x11 s.2) (fun again s => by rw [l3_raw k kp again x0 x1 s.1 x11 s.2]; simp only [j10_eq]; first | done | rfl) (x6, x12)
theorem c_c (k kp : KT) (J L : Nat → St → Prop) (x0 : BA) (x1 : Bool) : runC cfg 1000001 J L none'' [] body (topK cfg Tryd.f80 k kp) (st0 Tryd.f80 [(.v (.string x0)), (.v (.bool x1))] []) = c (fun x0 x1 x6 x11 x12 => L 3 (mL3 x0 x1 x6 x11 x12)) x0 x1 (fun y0 y1 => k (.tup [(.v (.int .i64 y0)), (.v (.bool y1))]) []) := by kernel_rfl
theorem c_ag (k kp : KT) : agPL cfg 1000001 (JJ k kp) (LL k kp) [] body = agPR cfg 1000001 none'' [] body (topK cfg Tryd.f80 k kp) := by kernel_rfl
theorem body_is : Tryd.f80.body = some body := by kernel_rfl
theorem c_raw (k kp : KT) (x0 : BA) (x1 : Bool) : funW cfg Tryd.f80 [(.v (.string x0)), (.v (.bool x1))] [] k kp = c (fun x0 x1 x6 x11 x12 => XL3 k kp (mL3 x0 x1 x6 x11 x12)) x0 x1 (fun y0 y1 => k (.tup [(.v (.int .i64 y0)), (.v (.bool y1))]) []) :=
  Eq.mp (by kernel_rfl) ((funW_run (AG := none'') body_is (c_ag k kp) [(.v (.string x0)), (.v (.bool x1))] []).trans (c_c k kp (JJ k kp) (LL k kp) x0 x1))
theorem f_eq (k kp : KT) (x0 : BA) (x1 : Bool) : funW cfg Tryd.f80 [(.v (.string x0)), (.v (.bool x1))] [] k kp = f x0 x1 (fun y0 y1 => k (.tup [(.v (.int .i64 y0)), (.v (.bool y1))]) []) := by
  rw [f_def, c_raw]; simp only [l3_eq]; first | done | rfl
noncomputable def ent0 : Entry := fun args blks k _ => match args, blks with
  | [d0, d1], [] => aStr d0 fun x0 => aBool d1 fun x1 => f x0 x1 (fun y0 y1 => k (.tup [(.v (.int .i64 y0)), (.v (.bool y1))]) [])
  | _, _ => False
noncomputable def ent : Entry := fun args blks k kp => ent0 (convB [.no, .no] args) blks k kp
theorem ok : EntOk Tryd.prog 49 0 80 ent := by
  refine EntOk.convB (EntOk.of (funW_ok (cfg := cfg) (tyOk_of rfl rfl tyL_ok) (eqOk_of (P := Tryd.prog) rfl rfl (by kernel_rfl)) mixed_ok (tab_ok ?_) Tryd.func80 (by rfl) (by rfl)) ?_) _
  · intro p hp
    simp only [List.mem_cons, List.not_mem_nil, or_false] at hp
    rcases hp with rfl
    · exact N82.ok
  · intro args blks k kp h k' kp'
    match args, blks, h with
    | [d0, d1], [], h =>
    dsimp only [ent0] at h
    have h9 := aStr_elim h; clear h; obtain ⟨x0, rfl, h⟩ := h9
    have h9 := aBool_elim h; clear h; obtain ⟨x1, rfl, h⟩ := h9
    exact (f_eq k' kp' x0 x1).symm
end N80
end Go.Proofs.Ye

namespace Go.Proofs.Ye
open Go Go.Aw Go.Proofs
set_option maxRecDepth 100000
set_option maxHeartbeats 4000000
namespace N73
noncomputable def cfg : Cfg := { P := Tryd.prog, tf := 49, tw := 0, ty := tys, E := tab [(79, N79.ent), (80, N80.ent)], atSeq := tab [(2000002, ⟨[(0, .keep), (1, .keep), (19, .keep)]⟩), (3, ⟨[(0, .keep), (1, .keep)]⟩), (2000006, ⟨[(0, .keep), (7, .keep), (8, .keep), (9, .keep), (27, .keep)]⟩), (7, ⟨[(0, .keep), (7, .keep), (8, .keep), (9, .keep)]⟩)], atLoop := tab [], outs := [], eqT := tab [], bT := tab [] }
noncomputable def body : Code := bodyOf Tryd.f73
def j2000002 (j3 : BA → Int → Prop) (x0 : BA) (x1 : Int) (x19 : Bool) (k : Int → Int → Int → Prop) : Prop :=
  (br x19 (k (0 : Int) (0 : Int) (1 : Int)) (j3 x0 x1))
def j3 (j2000006 : BA → Int → Int → Bool → Bool → Prop) (x0 : BA) (x1 : Int) (k : Int → Int → Int → Prop) : Prop :=
  (N79.f x0 x1 (fun (y0_0 y1_0 : Int) (y2_0 : Bool) => (br (y1_0 == y0_0) (j2000006 x0 y0_0 y1_0 y2_0 (y1_0 == y0_0)) ((inB 0 y0_0 ((((x0).size : Nat) : Int) - 1)) ∧ (br ((byteAt x0 y0_0) == (48 : Int)) (br (decide (y1_0 > (IntKind.i64.wrap (y0_0 + (1 : Int))))) (j2000006 x0 y0_0 y1_0 y2_0 true) (j2000006 x0 y0_0 y1_0 y2_0 y2_0)) (j2000006 x0 y0_0 y1_0 y2_0 false))))))
def j2000006 (j7 : BA → Int → Int → Bool → Prop) (x0 : BA) (x7 x8 : Int) (x9 x27 : Bool) (k : Int → Int → Int → Prop) : Prop :=
  (br x27 (k (0 : Int) (0 : Int) (12 : Int)) (j7 x0 x7 x8 x9))
def j7 (x0 : BA) (x7 x8 : Int) (x9 : Bool) (k : Int → Int → Int → Prop) : Prop :=
  ((inB x7 x8 (((x0).size : Nat) : Int)) ∧ (N80.f (ByteArray.extract x0 (Int.toNat x7) (Int.toNat x8)) x9 (fun (y0_1 : Int) (y1_1 : Bool) => (br (!y1_1) (k (0 : Int) (0 : Int) (2 : Int)) (k y0_1 x8 (0 : Int))))))
def c (j2000002 : BA → Int → Bool → Prop) (x0 : BA) (x1 : Int) (k : Int → Int → Int → Prop) : Prop :=
  (br (decide (x1 < (0 : Int))) (j2000002 x0 x1 true) (j2000002 x0 x1 (decide (x1 > ((((x0).size : Nat) : Int))))))
def j7' (x0 : BA) (x7 x8 : Int) (x9 : Bool) (k : Int → Int → Int → Prop) : Prop := j7 x0 x7 x8 x9 k
def j2000006' (x0 : BA) (x7 x8 : Int) (x9 x27 : Bool) (k : Int → Int → Int → Prop) : Prop := j2000006 (fun x0 x7 x8 x9 => j7' x0 x7 x8 x9 k) x0 x7 x8 x9 x27 k
def j3' (x0 : BA) (x1 : Int) (k : Int → Int → Int → Prop) : Prop := j3 (fun x0 x7 x8 x9 x27 => j2000006' x0 x7 x8 x9 x27 k) x0 x1 k
def j2000002' (x0 : BA) (x1 : Int) (x19 : Bool) (k : Int → Int → Int → Prop) : Prop := j2000002 (fun x0 x1 => j3' x0 x1 k) x0 x1 x19 k
def f0 (x0 : BA) (x1 : Int) (k : Int → Int → Int → Prop) : Prop := c (fun x0 x1 x19 => j2000002' x0 x1 x19 k) x0 x1 k
theorem f_ex : ∃ g, g = f0 := ⟨_, rfl⟩
noncomputable def f := Classical.choose f_ex
theorem f_def : f = f0 := Classical.choose_spec f_ex
def m2000002 (x0 : BA) (x1 : Int) (x19 : Bool) : St := { tmps := mkT 57 0 [(0, (.v (.string x0))), (1, (.v (.int .i64 x1))), (19, (.v (.bool x19)))], hp := [], m := 0 }
def m3 (x0 : BA) (x1 : Int) : St := { tmps := mkT 57 0 [(0, (.v (.string x0))), (1, (.v (.int .i64 x1)))], hp := [], m := 0 }
def m2000006 (x0 : BA) (x7 x8 : Int) (x9 x27 : Bool) : St := { tmps := mkT 57 0 [(0, (.v (.string x0))), (7, (.v (.int .i64 x7))), (8, (.v (.int .i64 x8))), (9, (.v (.bool x9))), (27, (.v (.bool x27)))], hp := [], m := 0 }
def m7 (x0 : BA) (x7 x8 : Int) (x9 : Bool) : St := { tmps := mkT 57 0 [(0, (.v (.string x0))), (7, (.v (.int .i64 x7))), (8, (.v (.int .i64 x8))), (9, (.v (.bool x9)))], hp := [], m := 0 }
noncomputable def X2000002 (k kp : KT) : St → Prop := atP cfg (pick none' []) [1, 0, 1] body (topK cfg Tryd.f73 k kp)
noncomputable def X3 (k kp : KT) : St → Prop := atP cfg (pick none' []) [1, 1] body (topK cfg Tryd.f73 k kp)
noncomputable def X2000006 (k kp : KT) : St → Prop := atP cfg (pick none' []) [1, 1, 1, 0, 0, 1] body (topK cfg Tryd.f73 k kp)
noncomputable def X7 (k kp : KT) : St → Prop := atP cfg (pick none' []) [1, 1, 1, 1] body (topK cfg Tryd.f73 k kp)
noncomputable def JJ (k kp : KT) : Nat → St → Prop := pick none' [(2000002, X2000002 k kp), (3, X3 k kp), (2000006, X2000006 k kp), (7, X7 k kp)]
noncomputable def LL (k kp : KT) : Nat → St → Prop := pick none' []
theorem j7_c (k kp : KT) (J L : Nat → St → Prop) (x0 : BA) (x7 x8 : Int) (x9 : Bool) : runC cfg 7 J L (pick none' []) [1, 1, 1, 1] body (topK cfg Tryd.f73 k kp) (m7 x0 x7 x8 x9) = j7 x0 x7 x8 x9 (fun y0 y1 y2 => k (.tup [(.v (.int .i64 y0)), (.v (.int .i64 y1)), (.v (.int .i64 y2))]) []) := by kernel_rfl
theorem j7_ag (k kp : KT) : agPL cfg 7 (JJ k kp) (LL k kp) [1, 1, 1, 1] body = agPR cfg 7 (pick none' []) [1, 1, 1, 1] body (topK cfg Tryd.f73 k kp) := by kernel_rfl
theorem j7_raw (k kp : KT) (x0 : BA) (x7 x8 : Int) (x9 : Bool) : X7 k kp (m7 x0 x7 x8 x9) = j7 x0 x7 x8 x9 (fun y0 y1 y2 => k (.tup [(.v (.int .i64 y0)), (.v (.int .i64 y1)), (.v (.int .i64 y2))]) []) :=
  Eq.mp (by kernel_rfl) ((atP_run (j7_ag k kp) (m7 x0 x7 x8 x9)).trans (j7_c k kp (JJ k kp) (LL k kp) x0 x7 x8 x9))
theorem j7_eq (k kp : KT) (x0 : BA) (x7 x8 : Int) (x9 : Bool) : X7 k kp (m7 x0 x7 x8 x9) = j7' x0 x7 x8 x9 (fun y0 y1 y2 => k (.tup [(.v (.int .i64 y0)), (.v (.int .i64 y1)), (.v (.int .i64 y2))]) []) := by
  rw [j7_raw]; rfl
theorem j2000006_c (k kp : KT) (J L : Nat → St → Prop) (x0 : BA) (x7 x8 : Int) (x9 x27 : Bool) : runC cfg 2000006 J L (pick none' []) [1, 1, 1, 0, 0, 1] body (topK cfg Tryd.f73 k kp) (m2000006 x0 x7 x8 x9 x27) = j2000006 (fun x0 x7 x8 x9 => J 7 (m7 x0 x7 x8 x9)) x0 x7 x8 x9 x27 (fun y0 y1 y2 => k (.tup [(.v (.int .i64 y0)), (.v (.int .i64 y1)), (.v (.int .i64 y2))]) []) := by kernel_rfl
theorem j2000006_ag (k kp : KT) : agPL cfg 2000006 (JJ k kp) (LL k kp) [1, 1, 1, 0, 0, 1] body = agPR cfg 2000006 (pick none' []) [1, 1, 1, 0, 0, 1] body (topK cfg Tryd.f73 k kp) := by kernel_rfl
theorem j2000006_raw (k kp : KT) (x0 : BA) (x7 x8 : Int) (x9 x27 : Bool) : X2000006 k kp (m2000006 x0 x7 x8 x9 x27) = j2000006 (fun x0 x7 x8 x9 => X7 k kp (m7 x0 x7 x8 x9)) x0 x7 x8 x9 x27 (fun y0 y1 y2 => k (.tup [(.v (.int .i64 y0)), (.v (.int .i64 y1)), (.v (.int .i64 y2))]) []) :=
  Eq.mp (by kernel_rfl) ((atP_run (j2000006_ag k kp) (m2000006 x0 x7 x8 x9 x27)).trans (j2000006_c k kp (JJ k kp) (LL k kp) x0 x7 x8 x9 x27))
theorem j2000006_eq (k kp : KT) (x0 : BA) (x7 x8 : Int) (x9 x27 : Bool) : X2000006 k kp (m2000006 x0 x7 x8 x9 x27) = j2000006' x0 x7 x8 x9 x27 (fun y0 y1 y2 => k (.tup [(.v (.int .i64 y0)), (.v (.int .i64 y1)), (.v (.int .i64 y2))]) []) := by
  rw [j2000006_raw]; simp only [j7_eq]; first | done | rfl
theorem j3_c (k kp : KT) (J L : Nat → St → Prop) (x0 : BA) (x1 : Int) : runC cfg 3 J L (pick none' []) [1, 1] body (topK cfg Tryd.f73 k kp) (m3 x0 x1) = j3 (fun x0 x7 x8 x9 x27 => J 2000006 (m2000006 x0 x7 x8 x9 x27)) x0 x1 (fun y0 y1 y2 => k (.tup [(.v (.int .i64 y0)), (.v (.int .i64 y1)), (.v (.int .i64 y2))]) []) := by kernel_rfl
theorem j3_ag (k kp : KT) : agPL cfg 3 (JJ k kp) (LL k kp) [1, 1] body = agPR cfg 3 (pick none' []) [1, 1] body (topK cfg Tryd.f73 k kp) := by kernel_rfl
theorem j3_raw (k kp : KT) (x0 : BA) (x1 : Int) : X3 k kp (m3 x0 x1) = j3 (fun x0 x7 x8 x9 x27 => X2000006 k kp (m2000006 x0 x7 x8 x9 x27)) x0 x1 (fun y0 y1 y2 => k (.tup [(.v (.int .i64 y0)), (.v (.int .i64 y1)), (.v (.int .i64 y2))]) []) :=
  Eq.mp (by kernel_rfl) ((atP_run (j3_ag k kp) (m3 x0 x1)).trans (j3_c k kp (JJ k kp) (LL k kp) x0 x1))
theorem j3_eq (k kp : KT) (x0 : BA) (x1 : Int) : X3 k kp (m3 x0 x1) = j3' x0 x1 (fun y0 y1 y2 => k (.tup [(.v (.int .i64 y0)), (.v (.int .i64 y1)), (.v (.int .i64 y2))]) []) := by
  rw [j3_raw]; simp only [j2000006_eq]; first | done | rfl
theorem j2000002_c (k kp : KT) (J L : Nat → St → Prop) (x0 : BA) (x1 : Int) (x19 : Bool) : runC cfg 2000002 J L (pick none' []) [1, 0, 1] body (topK cfg Tryd.f73 k kp) (m2000002 x0 x1 x19) = j2000002 (fun x0 x1 => J 3 (m3 x0 x1)) x0 x1 x19 (fun y0 y1 y2 => k (.tup [(.v (.int .i64 y0)), (.v (.int .i64 y1)), (.v (.int .i64 y2))]) []) := by kernel_rfl
theorem j2000002_ag (k kp : KT) : agPL cfg 2000002 (JJ k kp) (LL k kp) [1, 0, 1] body = agPR cfg 2000002 (pick none' []) [1, 0, 1] body (topK cfg Tryd.f73 k kp) := by kernel_rfl
theorem j2000002_raw (k kp : KT) (x0 : BA) (x1 : Int) (x19 : Bool) : X2000002 k kp (m2000002 x0 x1 x19) = j2000002 (fun x0 x1 => X3 k kp (m3 x0 x1)) x0 x1 x19 (fun y0 y1 y2 => k (.tup [(.v (.int .i64 y0)), (.v (.int .i64 y1)), (.v (.int .i64 y2))]) []) :=
  Eq.mp (by kernel_rfl) ((atP_run (j2000002_ag k kp) (m2000002 x0 x1 x19)).trans (j2000002_c k kp (JJ k kp) (LL k kp) x0 x1 x19))
theorem j2000002_eq (k kp : KT) (x0 : BA) (x1 : Int) (x19 : Bool) : X2000002 k kp (m2000002 x0 x1 x19) = j2000002' x0 x1 x19 (fun y0 y1 y2 => k (.tup [(.v (.int .i64 y0)), (.v (.int .i64 y1)), (.v (.int .i64 y2))]) []) := by
  rw [j2000002_raw]; simp only [j3_eq]; first | done | rfl
theorem c_c (k kp : KT) (J L : Nat → St → Prop) (x0 : BA) (x1 : Int) : runC cfg 1000001 J L none'' [] body (topK cfg Tryd.f73 k kp) (st0 Tryd.f73 [(.v (.string x0)), (.v (.int .i64 x1))] []) = c (fun x0 x1 x19 => J 2000002 (m2000002 x0 x1 x19)) x0 x1 (fun y0 y1 y2 => k (.tup [(.v (.int .i64 y0)), (.v (.int .i64 y1)), (.v (.int .i64 y2))]) []) := by kernel_rfl
theorem c_ag (k kp : KT) : agPL cfg 1000001 (JJ k kp) (LL k kp) [] body = agPR cfg 1000001 none'' [] body (topK cfg Tryd.f73 k kp) := by kernel_rfl
theorem body_is : Tryd.f73.body = some body := by kernel_rfl
theorem c_raw (k kp : KT) (x0 : BA) (x1 : Int) : funW cfg Tryd.f73 [(.v (.string x0)), (.v (.int .i64 x1))] [] k kp = c (fun x0 x1 x19 => X2000002 k kp (m2000002 x0 x1 x19)) x0 x1 (fun y0 y1 y2 => k (.tup [(.v (.int .i64 y0)), (.v (.int .i64 y1)), (.v (.int .i64 y2))]) []) :=
  Eq.mp (by kernel_rfl) ((funW_run (AG := none'') body_is (c_ag k kp) [(.v (.string x0)), (.v (.int .i64 x1))] []).trans (c_c k kp (JJ k kp) (LL k kp) x0 x1))
theorem f_eq (k kp : KT) (x0 : BA) (x1 : Int) : funW cfg Tryd.f73 [(.v (.string x0)), (.v (.int .i64 x1))] [] k kp = f x0 x1 (fun y0 y1 y2 => k (.tup [(.v (.int .i64 y0)), (.v (.int .i64 y1)), (.v (.int .i64 y2))]) []) := by
  rw [f_def, c_raw]; simp only [j2000002_eq]; first | done | rfl
noncomputable def ent0 : Entry := fun args blks k _ => match args, blks with
  | [d0, d1], [] => aStr d0 fun x0 => aInt IntKind.i64 d1 fun x1 => f x0 x1 (fun y0 y1 y2 => k (.tup [(.v (.int .i64 y0)), (.v (.int .i64 y1)), (.v (.int .i64 y2))]) [])
  | _, _ => False
noncomputable def ent : Entry := fun args blks k kp => ent0 (convB [.no, .no] args) blks k kp
theorem ok : EntOk Tryd.prog 49 0 73 ent := by
  refine EntOk.convB (EntOk.of (funW_ok (cfg := cfg) (tyOk_of rfl rfl tyL_ok) (eqOk_of (P := Tryd.prog) rfl rfl (by kernel_rfl)) mixed_ok (tab_ok ?_) Tryd.func73 (by rfl) (by rfl)) ?_) _
  · intro p hp
    simp only [List.mem_cons, List.not_mem_nil, or_false] at hp
    rcases hp with rfl | rfl
    · exact N79.ok
    · exact N80.ok
  · intro args blks k kp h k' kp'
    match args, blks, h with
    | [d0, d1], [], h =>
    dsimp only [ent0] at h
    have h9 := aStr_elim h; clear h; obtain ⟨x0, rfl, h⟩ := h9
    have h9 := aInt_elim h; clear h; obtain ⟨x1, rfl, h⟩ := h9
    exact (f_eq k' kp' x0 x1).symm
end N73
end Go.Proofs.Ye

namespace Go.Proofs.Ye
open Go Go.Aw Go.Proofs Go.RowKit
theorem digit_s (x : Int) (hx : isB x) (k : Int → Bool → Prop) (h : k (x - 48) (decide (isD x))) : N82.f x k := by
  obtain ⟨h1, h2⟩ := hx
  rw [N82.f_def]
  unfold N82.f0 N82.c
  have e : IntKind.i64.wrap (IntKind.i64.wrap x - 48) = x - 48 := by
    rw [wrap_id (n := x) (by omega) (by omega), wrap_id (by omega) (by omega)]
  simp only [e]
  simp only [br_dec]
  split
  · rename_i h0
    have : decide (x - 48 < 10) = decide (isD x) := by rw [Bool.eq_iff_iff, decide_eq_true_eq, decide_eq_true_eq]; unfold isD; omega
    rw [this]; exact h
  · rename_i h0
    have : decide (isD x) = false := by rw [decide_eq_false_iff_not]; unfold isD; omega
    rw [this] at h; exact h
theorem span_s (s : ByteArray) (hs : s.size ≤ reachBytes) (p : Nat) (hp : p ≤ s.size) (k : Int → Int → Bool → Prop)
    (h : ∀ minus fr, minus = (decide (p < (ofBytes s).length) && ((ofBytes s).getD p 0 == 45)) → fr = p + minus.toNat → k (fr : Int) ((fr + run ((ofBytes s).drop fr) : Nat) : Int) minus) : N79.f s (p : Int) k := by
  have hr : reachBytes < 2 ^ 47 := reachBytes_lt
  have hl := ofBytes_length s
  rw [N79.f_def]
  unfold N79.f0 N79.c
  have tail : ∀ minus fr, minus = (decide (p < (ofBytes s).length) && ((ofBytes s).getD p 0 == 45)) → fr = p + minus.toNat → fr ≤ s.size → N79.j5' s (fr : Int) minus k := by
    intro minus fr hm hf hfs
    have hk := h minus fr hm hf
    unfold N79.j5' N79.j5 N79.l6'
    have hrl := run_le ((ofBytes s).drop fr)
    rw [List.length_drop, hl] at hrl
    refine loopS_of (fun x : Int => ∃ j : Nat, x = ((fr + j : Nat) : Int) ∧ j ≤ run ((ofBytes s).drop fr)) (fun x => (s.size - x).toNat) ?_ ⟨0, rfl, Nat.zero_le _⟩
    rintro again x ⟨j, rfl, hj⟩ hag
    unfold N79.l6 N79.j10' N79.j10
    dsimp only
    refine br_of (fun hlt => ?_) (fun hge => ?_)
    · have hlt : fr + j < s.size := by simp at hlt; omega
      refine ⟨⟨by omega, by omega, by omega⟩, digit_s _ ?_ _ ?_⟩
      · rw [byteAt_eq]; exact getD_isB _ _
      · rw [byteAt_eq]
        have ew : IntKind.i64.wrap (((fr + j : Nat) : Int) + 1) = ((fr + (j + 1) : Nat) : Int) := by rw [wrap_id (by omega) (by omega)]; omega
        rw [ew]
        simp only [br_not, br_dec]
        split
        · rename_i hd
          refine hag _ ⟨j + 1, rfl, ?_⟩ (by omega)
          rcases Nat.lt_or_ge j (run ((ofBytes s).drop fr)) with hh | hh
          · omega
          · exact absurd hd (run_step (by omega) (by omega))
        · rename_i hd
          have : j = run ((ofBytes s).drop fr) := by
            rcases Nat.lt_or_ge j (run ((ofBytes s).drop fr)) with hh | hh
            · exact absurd (runIn hh) hd
            · omega
          rw [this]; exact hk
    · have hge : ¬ fr + j < s.size := by simp at hge; omega
      have : j = run ((ofBytes s).drop fr) := by omega
      rw [this]; exact hk
  unfold N79.j2000003' N79.j2000003
  refine br_of (fun hlt => ?_) (fun hge => ?_)
  · have hlt : p < s.size := by simp at hlt; omega
    refine ⟨⟨by omega, by omega, by omega⟩, ?_⟩
    rw [byteAt_eq]
    have ew : IntKind.i64.wrap ((p : Int) + 1) = ((p + 1 : Nat) : Int) := by rw [wrap_id (by omega) (by omega)]; omega
    refine br_of (fun h45 => ?_) (fun h45 => ?_)
    · rw [ew]
      exact tail true (p + 1) (by rw [h45, hl]; simp [hlt]) rfl (by omega)
    · exact tail false p (by rw [h45]; simp) rfl hp
  · have hge : ¬ p < s.size := by simp at hge; omega
    exact tail false p (by rw [hl]; simp [hge]) rfl hp
theorem value_s (s : ByteArray) (hs : s.size ≤ reachBytes) (hd : ∀ x ∈ ofBytes s, isD x) (minus : Bool) (k : Int → Bool → Prop)
    (h : if val (ofBytes s) > 2 ^ 63 then k 0 false else if minus = true then k (-(val (ofBytes s) : Int)) true else k (w64 (val (ofBytes s))) (decide (val (ofBytes s) < 2 ^ 63))) : N80.f s minus k := by
  have hr : reachBytes < 2 ^ 47 := reachBytes_lt
  have hl := ofBytes_length s
  rw [N80.f_def]
  unfold N80.f0 N80.c N80.l3'
  refine loopS_of (fun x : Int × Int => ∃ i : Nat, x.2 = i ∧ i ≤ s.size ∧ x.1 = -(val ((ofBytes s).take i) : Int) ∧ val ((ofBytes s).take i) ≤ 2 ^ 63) (fun x => (s.size - x.2).toNat) ?_ ⟨0, rfl, Nat.zero_le _, rfl, by show val [] ≤ _; decide⟩
  rintro again ⟨x, j⟩ ⟨i, rfl, hi, rfl, hv⟩ hag
  simp only at hag hv ⊢
  unfold N80.l3 N80.j10' N80.j10
  dsimp only
  refine br_of (fun hlt => ?_) (fun hge => ?_)
  · have hlt : i < s.size := by simp at hlt; omega
    have hD : isD ((ofBytes s).getD i 0) := by
      have hi2 : i < (ofBytes s).length := by omega
      simp only [List.getD, List.getElem?_eq_getElem hi2, Option.getD_some]
      exact hd _ (List.getElem_mem hi2)
    have hv2 := val_take_succ (by omega : i < (ofBytes s).length)
    have hv3 := val_take (ofBytes s) (i + 1)
    rw [byteAt_eq]
    refine ⟨⟨by omega, by omega, by omega⟩, digit_s _ (getD_isB _ _) _ ⟨by decide, ?_⟩⟩
    obtain ⟨d1, d2⟩ := hD
    generalize (ofBytes s).getD i 0 = c at *
    generalize hV : val ((ofBytes s).take i) = V at *
    have e1 : IntKind.i64.wrap (Int.tdiv (IntKind.i64.wrap (-9223372036854775808 + (c - 48))) 10) = -(((9223372036854775808 - (c - 48)) / 10)) := by
      rw [wrap_id (n := -9223372036854775808 + (c - 48)) (by omega) (by omega), tdiv10, if_pos (by omega), wrap_id (by omega) (by omega)]
      omega
    rw [e1]
    refine br_of (fun hov => ?_) (fun hov => ?_)
    · have hov : -(V : Int) < -((9223372036854775808 - (c - 48)) / 10) := by simpa using hov
      rw [if_pos (by omega)] at h
      exact h
    · have hov : ¬ -(V : Int) < -((9223372036854775808 - (c - 48)) / 10) := by simpa using hov
      have e2 : IntKind.i64.wrap (IntKind.i64.wrap (-(V : Int) * 10) - (c - 48)) = -((10 * V + (c - 48).toNat : Nat) : Int) := by
        rw [wrap_id (n := -(V : Int) * 10) (by omega) (by omega), wrap_id (by omega) (by omega)]
        omega
      have e3 : IntKind.i64.wrap ((i : Int) + 1) = ((i + 1 : Nat) : Int) := by rw [wrap_id (by omega) (by omega)]; omega
      rw [e2, e3]
      exact hag _ ⟨i + 1, rfl, by omega, by rw [hv2], by rw [hv2]; omega⟩ (by simp; omega)
  · have hge : i = s.size := by simp at hge; omega
    subst hge
    rw [List.take_of_length_le (by omega)] at hv ⊢
    rw [if_neg (by omega)] at h
    generalize val (ofBytes s) = V at *
    cases minus with
    | true => simpa using h
    | false =>
      simp only [br_false]
      have e1 : decide (-(V : Int) ≥ -9223372036854775807) = decide (V < 2 ^ 63) := by rw [Bool.eq_iff_iff]; simp; omega
      have e2 : (0 - -(V : Int)) = (V : Int) := by omega
      rw [e1, e2]
      simpa using h
theorem dscan_s (s : ByteArray) (hs : s.size ≤ reachBytes) (at_ : Int) (k : Int → Int → Int → Prop) (h : k (scanI (ofBytes s) at_).1 (scanI (ofBytes s) at_).2.1 (scanI (ofBytes s) at_).2.2) : N73.f s at_ k := by
  have hr : reachBytes < 2 ^ 47 := reachBytes_lt
  have hl := ofBytes_length s
  rw [N73.f_def]
  unfold N73.f0 N73.c N73.j2000002' N73.j2000002 N73.j3' N73.j3 N73.j2000006' N73.j2000006 N73.j7' N73.j7
  dsimp only
  unfold scanI at h
  dsimp only at h
  rw [hl] at h
  by_cases hout : at_ < 0 ∨ at_ > (s.size : Int)
  · rw [if_pos hout] at h
    refine br_of (fun h1 => h) (fun h1 => ?_)
    have h1 : ¬ at_ < 0 := by simpa using h1
    have : decide (at_ > (s.size : Int)) = true := by simp; omega
    rw [this]; exact h
  · rw [if_neg hout] at h
    have e1 : decide (at_ < 0) = false := by simp; omega
    have e2 : decide (at_ > (s.size : Int)) = false := by simp; omega
    rw [e1, e2]
    simp only [br_false]
    obtain ⟨p, rfl⟩ : ∃ p : Nat, at_ = p := ⟨at_.toNat, by omega⟩
    rw [Int.toNat_natCast] at h
    refine span_s s hs p (by omega) _ ?_
    intro minus fr hm hf
    rw [hl] at hm
    rw [← hm, ← hf] at h
    have hfr : fr ≤ s.size := by
      cases minus with
      | false => simp at hf; omega
      | true =>
        have : p < s.size := by
          by_cases hh : p < s.size
          · exact hh
          · simp [hh] at hm
        simp at hf; omega
    have hrl := run_le ((ofBytes s).drop fr)
    rw [List.length_drop, hl] at hrl
    generalize hR : run ((ofBytes s).drop fr) = r at *
    rw [byteAt_eq]
    have eqr : ((((fr + r : Nat) : Int)) == (fr : Int)) = decide (r = 0) := by rw [Bool.eq_iff_iff]; simp; omega
    rw [eqr]
    have good : ¬ (r = 0 ∨ ((ofBytes s).getD fr 0 = 48 ∧ (1 < r ∨ minus = true))) → ((inB (fr : Int) ((fr + r : Nat) : Int) (((s).size : Nat) : Int)) ∧ (N80.f (ByteArray.extract s (Int.toNat (fr : Int)) (Int.toNat ((fr + r : Nat) : Int))) minus (fun (y0_1 : Int) (y1_1 : Bool) => (br (!y1_1) (k (0 : Int) (0 : Int) (2 : Int)) (k y0_1 ((fr + r : Nat) : Int) (0 : Int)))))) := by
      intro hg
      rw [if_neg hg] at h
      refine ⟨⟨by omega, by omega, by omega⟩, ?_⟩
      rw [Int.toNat_natCast, Int.toNat_natCast]
      have hex : ofBytes (s.extract fr (fr + r)) = ((ofBytes s).drop fr).take r := by
        rw [ofBytes_extract, List.drop_take]; congr 1; omega
      have hsz : (s.extract fr (fr + r)).size ≤ reachBytes := by rw [ByteArray.size_extract]; omega
      refine value_s _ hsz ?_ _ _ ?_
      · rw [hex, ← hR]; exact run_isD _
      · rw [hex]
        generalize val (((ofBytes s).drop fr).take r) = V at *
        by_cases h1 : V > 2 ^ 63
        · rw [if_pos h1]
          rw [if_pos (.inl h1)] at h
          exact h
        · rw [if_neg h1]
          cases minus with
          | true =>
            rw [if_neg (by simp; omega)] at h
            simpa using h
          | false =>
            simp only [Bool.false_eq_true, if_false]
            by_cases h2 : V < 2 ^ 63
            · rw [if_neg (by simp; omega)] at h
              have : decide (V < 2 ^ 63) = true := by simpa using h2
              rw [this, w64_id ⟨by omega, by omega⟩]
              simpa using h
            · have : decide (V < 2 ^ 63) = false := by simpa using h2
              rw [if_pos (.inr ⟨by omega, rfl⟩)] at h
              rw [this]; exact h
    by_cases hr0 : r = 0
    · rw [if_pos (.inl hr0)] at h
      have : decide (r = 0) = true := by simpa using hr0
      rw [this]; exact h
    · have : decide (r = 0) = false := by simpa using hr0
      rw [this]
      simp only [br_false]
      refine ⟨⟨by omega, by omega, by omega⟩, ?_⟩
      have ew : IntKind.i64.wrap ((fr : Int) + 1) = (fr : Int) + 1 := wrap_id (by omega) (by omega)
      rw [ew]
      simp only [br_beq, br_dec]
      split
      · rename_i h48
        split
        · rename_i h1
          rw [if_pos (.inr ⟨h48, .inl (by omega)⟩)] at h
          exact h
        · rename_i h1
          refine br_of (fun hmt => ?_) (fun hmt => ?_)
          · rw [if_pos (.inr ⟨h48, .inr hmt⟩)] at h
            exact h
          · exact good (by rintro (h3 | ⟨_, h3 | h3⟩) <;> first | omega | (rw [hmt] at h3; cases h3))
      · rename_i h48
        exact good (by rintro (h3 | ⟨h3, _⟩) <;> first | omega | exact h48 h3)
theorem u64neg (n : Int) (hn : in64 n) : IntKind.u64.wrap (if n < 0 then 0 - IntKind.u64.wrap n else n) = (n.natAbs : Int) := by
  unfold in64 at hn
  simp only [wu64_eq]
  split <;> omega
theorem wu64_id' {n : Int} (h1 : 0 ≤ n) (h2 : n < 18446744073709551616) : IntKind.u64.wrap n = n := by rw [wu64_eq]; omega
theorem digits_s (U : Nat) (hU : U < 10 ^ 20) (hU2 : U < 2 ^ 64) (k : List Int → Prop) (h : k (dl 20 U)) : N18.f (U : Int) k := by
  rw [N18.f_def]
  unfold N18.f0 N18.c N18.l2'
  refine loopS_of (fun s : Int × List Int => ∃ u : Nat, s.1 = u ∧ u < 2 ^ 64 ∧ ((s.2 ≠ [] ∧ u = 0 ∧ s.2 = dl 20 U) ∨ (∃ f, u < 10 ^ f ∧ s.2.length + f = 20 ∧ 1 ≤ f ∧ (s.2 = [] ∨ u ≠ 0) ∧ s.2 ++ dl f u = dl 20 U))) (fun s => 2 * s.1.toNat + (if s.2 = [] then 1 else 0)) ?_
    ⟨U, rfl, hU2, .inr ⟨20, hU, rfl, by decide, .inl rfl, rfl⟩⟩
  rintro again ⟨x, b⟩ ⟨u, rfl, hu, hcase⟩ hag
  simp only at hcase hag ⊢
  unfold N18.l2 N18.j3' N18.j3 N18.j5' N18.j5
  dsimp only
  have emod : Int.tmod (u : Int) 10 = ((u % 10 : Nat) : Int) := by norm_cast
  have ediv : Int.tdiv (u : Int) 10 = ((u / 10 : Nat) : Int) := by norm_cast
  have go : (b = [] ∨ u ≠ 0) → (((10 : Int) ≠ 0) ∧ ((room (b.length + (([(IntKind.u8.wrap (IntKind.u64.wrap ((48 : Int) + (Int.tmod (u : Int) (10 : Int)))))] : List Int)).length) 1) ∧ (((10 : Int) ≠ 0) ∧
      (again (IntKind.u64.wrap (Int.tdiv (u : Int) (10 : Int)), b ++ ([(IntKind.u8.wrap (IntKind.u64.wrap ((48 : Int) + (Int.tmod (u : Int) (10 : Int)))))] : List Int)))))) := by
    intro hbu
    rw [emod, ediv]
    have ed : IntKind.u8.wrap (IntKind.u64.wrap ((48 : Int) + ((u % 10 : Nat) : Int))) = ((48 + u % 10 : Nat) : Int) := by
      rw [wu64_id' (by omega) (by omega), wu8_eq]; omega
    rw [ed, wu64_id' (by omega) (by omega)]
    have hc2 : ∃ f, u < 10 ^ f ∧ b.length + f = 20 ∧ 1 ≤ f ∧ b ++ dl f u = dl 20 U := by
      rcases hcase with ⟨h1, h2, h3⟩ | ⟨f, h1, h2, h3, _, h5⟩
      · rcases hbu with h | h
        · exact absurd h h1
        · exact absurd h2 h
      · exact ⟨f, h1, h2, h3, h5⟩
    obtain ⟨f, h1, h2, h3, h5⟩ := hc2
    obtain ⟨g, rfl⟩ : ∃ g, f = g + 1 := ⟨f - 1, by omega⟩
    refine ⟨by decide, ?_, by decide, hag _ ⟨u / 10, rfl, by omega, ?_⟩ ?_⟩
    · unfold room; simp; omega
    · rw [dl_succ g] at h5
      have hg : u / 10 < 10 ^ g := by rw [Nat.pow_succ] at h1; omega
      by_cases hz : u / 10 = 0
      · rw [if_pos hz] at h5
        exact .inl ⟨by simp, hz, h5⟩
      · rw [if_neg hz] at h5
        refine .inr ⟨g, hg, by simp; omega, ?_, .inr hz, by rw [← h5]; simp⟩
        rcases Nat.eq_zero_or_pos g with h0 | h0
        · subst h0; simp at hg; omega
        · exact h0
    · simp only [Int.toNat_natCast]
      rw [if_neg (by simp)]
      rcases hbu with h | h
      · rw [if_pos h]; omega
      · split <;> omega
  refine br_of (fun h0 => ?_) (fun h0 => ?_)
  · have h0 : 0 < u := by simp at h0; omega
    exact go (.inr (by omega))
  · have h0 : u = 0 := by simp at h0; omega
    refine br_of (fun hb => ?_) (fun hb => ?_)
    · have hb : b = [] := by simpa using hb
      exact go (.inl hb)
    · have hb : b ≠ [] := by simpa using hb
      rcases hcase with ⟨h1, h2, h3⟩ | ⟨f, h1, h2, h3, h4, h5⟩
      · rw [h3]; exact h
      · rcases h4 with h4 | h4
        · exact absurd h4 hb
        · exact absurd h0 h4
theorem putr_s (n : Int) (hn : in64 n) (k : ByteArray → Prop) (h : k (bytesOf (putL n))) : N9.f n k := by
  have hn' := hn
  unfold in64 at hn'
  rw [N9.f_def]
  unfold N9.f0 N9.c
  have tail : ∀ s0 : List Int, s0 ++ (dl 20 n.natAbs).reverse = putL n → s0.length ≤ 1 → N9.j6' (n.natAbs : Int) (bytesOf s0) k := by
    intro s0 hs0 hl0
    unfold N9.j6' N9.j6
    refine digits_s _ (by omega) (by omega) _ ?_
    unfold N9.l8'
    have hlen := dl_len_le 20 n.natAbs
    have ew : IntKind.i64.wrap ((((dl 20 n.natAbs).length : Nat) : Int) - 1) = (((dl 20 n.natAbs).length : Nat) : Int) - 1 := wrap_id (by omega) (by omega)
    rw [ew]
    generalize hD : dl 20 n.natAbs = D at *
    refine loopS_of (fun s : ByteArray × Int × List Int => ∃ i : Nat, s.2.1 = (i : Int) - 1 ∧ i ≤ D.length ∧ s.2.2 = D ∧ s.1 = bytesOf (s0 ++ (D.drop i).reverse)) (fun s => (s.2.1 + 1).toNat) ?_
      ⟨D.length, rfl, Nat.le_refl _, rfl, by simp⟩
    rintro again ⟨t, x, b⟩ ⟨i, e1, hi, e2, e3⟩ hag
    simp only at e1 e2 e3
    subst e1; subst e2; subst e3
    simp only at hag ⊢
    unfold N9.l8 N9.j11' N9.j11
    dsimp only
    refine br_of (fun hlt => ?_) (fun hge => ?_)
    · obtain ⟨m, rfl⟩ : ∃ m, i = m + 1 := ⟨i - 1, by simp at hlt; omega⟩
      have ei : ((m + 1 : Nat) : Int) - 1 = (m : Int) := by omega
      rw [ei]
      have ewm : IntKind.i64.wrap ((m : Int) - 1) = (m : Int) - 1 := wrap_id (by omega) (by omega)
      rw [ewm, Int.toNat_natCast]
      refine ⟨⟨by omega, by omega, by omega⟩, ?_, ?_⟩
      · rw [bytesOf_size, bytesOf_size]; simp; omega
      · rw [← bytesOf_append]
        refine hag _ ⟨m, rfl, by omega, rfl, ?_⟩ (by simp <;> omega)
        rw [drop_get (d := 0) (by omega : m < b.length)]
        simp
    · have : i = 0 := by simp at hge; omega
      subst this
      simp only [List.drop_zero]
      rw [hs0]; exact h
  refine br_of (fun hneg => ?_) (fun hneg => ?_)
  · have hneg : n < 0 := by simpa using hneg
    have e : IntKind.u64.wrap (0 - IntKind.u64.wrap n) = (n.natAbs : Int) := by simp only [wu64_eq]; omega
    rw [e]
    exact tail [45] (by unfold putL; rw [if_pos hneg]) (by simp)
  · have hneg : ¬ n < 0 := by simpa using hneg
    have e : IntKind.u64.wrap n = (n.natAbs : Int) := by simp only [wu64_eq]; omega
    rw [e]
    exact tail [] (by unfold putL; rw [if_neg hneg]) (by simp)
end Go.Proofs.Ye

namespace Go.Proofs.Ye
open Go Go.Aw Go.Proofs
set_option maxRecDepth 100000
set_option maxHeartbeats 4000000
namespace N41
noncomputable def cfg : Cfg := { P := Tryd.prog, tf := 49, tw := 0, ty := tys, E := tab [], atSeq := tab [], atLoop := tab [], outs := [], eqT := tab [], bT := tab [] }
noncomputable def body : Code := bodyOf Tryd.f41
def c (x0 : Int) (k : Bool → Prop) : Prop :=
  (br (decide (x0 ≥ (97 : Int))) (br (decide (x0 ≤ (122 : Int))) (k true) (k (x0 == (95 : Int)))) (k (x0 == (95 : Int))))
def f0 (x0 : Int) (k : Bool → Prop) : Prop := c x0 k
theorem f_ex : ∃ g, g = f0 := ⟨_, rfl⟩
noncomputable def f := Classical.choose f_ex
theorem f_def : f = f0 := Classical.choose_spec f_ex
noncomputable def JJ (k kp : KT) : Nat → St → Prop := pick none' []
noncomputable def LL (k kp : KT) : Nat → St → Prop := pick none' []
theorem c_c (k kp : KT) (J L : Nat → St → Prop) (x0 : Int) : runC cfg 1000001 J L none'' [] body (topK cfg Tryd.f41 k kp) (st0 Tryd.f41 [(.v (.int IntKind.u8 x0))] []) = c x0 (fun y0 => k (.v (.bool y0)) []) := by kernel_rfl
theorem c_ag (k kp : KT) : agPL cfg 1000001 (JJ k kp) (LL k kp) [] body = agPR cfg 1000001 none'' [] body (topK cfg Tryd.f41 k kp) := by kernel_rfl
theorem body_is : Tryd.f41.body = some body := by kernel_rfl
theorem c_raw (k kp : KT) (x0 : Int) : funW cfg Tryd.f41 [(.v (.int IntKind.u8 x0))] [] k kp = c x0 (fun y0 => k (.v (.bool y0)) []) :=
  Eq.mp (by kernel_rfl) ((funW_run (AG := none'') body_is (c_ag k kp) [(.v (.int IntKind.u8 x0))] []).trans (c_c k kp (JJ k kp) (LL k kp) x0))
theorem f_eq (k kp : KT) (x0 : Int) : funW cfg Tryd.f41 [(.v (.int IntKind.u8 x0))] [] k kp = f x0 (fun y0 => k (.v (.bool y0)) []) := by
  rw [f_def, c_raw]; rfl
noncomputable def ent0 : Entry := fun args blks k _ => match args, blks with
  | [d0], [] => aInt IntKind.u8 d0 fun x0 => f x0 (fun y0 => k (.v (.bool y0)) [])
  | _, _ => False
noncomputable def ent : Entry := fun args blks k kp => ent0 (convB [.no] args) blks k kp
theorem ok : EntOk Tryd.prog 49 0 41 ent := by
  refine EntOk.convB (EntOk.of (funW_ok (cfg := cfg) (tyOk_of rfl rfl tyL_ok) (eqOk_of (P := Tryd.prog) rfl rfl (by kernel_rfl)) mixed_ok (tab_ok ?_) Tryd.func41 (by rfl) (by rfl)) ?_) _
  · intro p hp
    cases hp
  · intro args blks k kp h k' kp'
    match args, blks, h with
    | [d0], [], h =>
    dsimp only [ent0] at h
    have h9 := aInt_elim h; clear h; obtain ⟨x0, rfl, h⟩ := h9
    exact (f_eq k' kp' x0).symm
end N41
end Go.Proofs.Ye

namespace Go.Proofs.Ye
open Go Go.Aw Go.Proofs
set_option maxRecDepth 100000
set_option maxHeartbeats 4000000
namespace N65
noncomputable def cfg : Cfg := { P := Tryd.prog, tf := 49, tw := 0, ty := tys, E := tab [], atSeq := tab [], atLoop := tab [], outs := [], eqT := tab [], bT := tab [] }
noncomputable def body : Code := bodyOf Tryd.f65
def c (x0 : Int) (k : Bool → Prop) : Prop :=
  (br (decide (x0 ≥ (97 : Int))) (br (decide (x0 ≤ (122 : Int))) (k true) (k (x0 == (95 : Int)))) (k (x0 == (95 : Int))))
def f0 (x0 : Int) (k : Bool → Prop) : Prop := c x0 k
theorem f_ex : ∃ g, g = f0 := ⟨_, rfl⟩
noncomputable def f := Classical.choose f_ex
theorem f_def : f = f0 := Classical.choose_spec f_ex
noncomputable def JJ (k kp : KT) : Nat → St → Prop := pick none' []
noncomputable def LL (k kp : KT) : Nat → St → Prop := pick none' []
theorem c_c (k kp : KT) (J L : Nat → St → Prop) (x0 : Int) : runC cfg 1000001 J L none'' [] body (topK cfg Tryd.f65 k kp) (st0 Tryd.f65 [(.v (.int IntKind.u8 x0))] []) = c x0 (fun y0 => k (.v (.bool y0)) []) := by kernel_rfl
theorem c_ag (k kp : KT) : agPL cfg 1000001 (JJ k kp) (LL k kp) [] body = agPR cfg 1000001 none'' [] body (topK cfg Tryd.f65 k kp) := by kernel_rfl
theorem body_is : Tryd.f65.body = some body := by kernel_rfl
theorem c_raw (k kp : KT) (x0 : Int) : funW cfg Tryd.f65 [(.v (.int IntKind.u8 x0))] [] k kp = c x0 (fun y0 => k (.v (.bool y0)) []) :=
  Eq.mp (by kernel_rfl) ((funW_run (AG := none'') body_is (c_ag k kp) [(.v (.int IntKind.u8 x0))] []).trans (c_c k kp (JJ k kp) (LL k kp) x0))
theorem f_eq (k kp : KT) (x0 : Int) : funW cfg Tryd.f65 [(.v (.int IntKind.u8 x0))] [] k kp = f x0 (fun y0 => k (.v (.bool y0)) []) := by
  rw [f_def, c_raw]; rfl
noncomputable def ent0 : Entry := fun args blks k _ => match args, blks with
  | [d0], [] => aInt IntKind.u8 d0 fun x0 => f x0 (fun y0 => k (.v (.bool y0)) [])
  | _, _ => False
noncomputable def ent : Entry := fun args blks k kp => ent0 (convB [.no] args) blks k kp
theorem ok : EntOk Tryd.prog 49 0 65 ent := by
  refine EntOk.convB (EntOk.of (funW_ok (cfg := cfg) (tyOk_of rfl rfl tyL_ok) (eqOk_of (P := Tryd.prog) rfl rfl (by kernel_rfl)) mixed_ok (tab_ok ?_) Tryd.func65 (by rfl) (by rfl)) ?_) _
  · intro p hp
    cases hp
  · intro args blks k kp h k' kp'
    match args, blks, h with
    | [d0], [], h =>
    dsimp only [ent0] at h
    have h9 := aInt_elim h; clear h; obtain ⟨x0, rfl, h⟩ := h9
    exact (f_eq k' kp' x0).symm
end N65
end Go.Proofs.Ye

namespace Go.Proofs.Ye
open Go Go.Aw Go.Proofs
set_option maxRecDepth 100000
set_option maxHeartbeats 4000000
namespace N48
noncomputable def cfg : Cfg := { P := Tryd.prog, tf := 49, tw := 0, ty := tys, E := tab [(65, N65.ent)], atSeq := tab [(2000002, ⟨[(0, .keep), (1, .keep), (20, .keep)]⟩), (3, ⟨[(0, .keep), (1, .keep)]⟩), (5, ⟨[(0, .keep), (5, .keep)]⟩), (6, ⟨[(5, .keep)]⟩)], atLoop := tab [(4, ⟨[(0, .keep), (5, .keep)]⟩)], outs := [], eqT := tab [], bT := tab [] }
noncomputable def body : Code := bodyOf Tryd.f48
def j2000002 (j3 : BA → Int → Prop) (x0 : BA) (x1 : Int) (x20 : Bool) (k : Int → Prop) : Prop :=
  (br x20 (k x1) (j3 x0 x1))
def j3 (l4 : BA → Int → Prop) (x0 : BA) (x1 : Int) (k : Int → Prop) : Prop :=
  (l4 x0 (IntKind.i64.wrap (x1 + (1 : Int))))
def l4 (j5 : BA → Int → Prop) (j6 : Int → Prop) (x0 : BA) (x5 : Int) (k : Int → Prop) : Prop :=
  (br (decide (x5 < ((((x0).size : Nat) : Int)))) ((inB 0 x5 ((((x0).size : Nat) : Int) - 1)) ∧ (N65.f (byteAt x0 x5) (fun (y0_1 : Bool) => (br y0_1 (j5 x0 x5) ((inB 0 x5 ((((x0).size : Nat) : Int) - 1)) ∧ (br (decide ((byteAt x0 x5) ≥ (48 : Int))) ((inB 0 x5 ((((x0).size : Nat) : Int) - 1)) ∧ (br (decide ((byteAt x0 x5) ≤ (57 : Int))) (j5 x0 x5) (j6 x5))) (j6 x5))))))) (j6 x5))
def j5 (ag4 : Int → Prop) (x0 : BA) (x5 : Int) (k : Int → Prop) : Prop :=
  (ag4 (IntKind.i64.wrap (x5 + (1 : Int))))
def j6 (x5 : Int) (k : Int → Prop) : Prop :=
  (k x5)
def c (j2000002 : BA → Int → Bool → Prop) (x0 : BA) (x1 : Int) (k : Int → Prop) : Prop :=
  (br (decide (x1 < (0 : Int))) (j2000002 x0 x1 true) (br (decide (x1 ≥ ((((x0).size : Nat) : Int)))) (j2000002 x0 x1 true) ((inB 0 x1 ((((x0).size : Nat) : Int) - 1)) ∧ (N65.f (byteAt x0 x1) (fun (y0_0 : Bool) => (j2000002 x0 x1 (!y0_0)))))))
def j5' (ag4 : Int → Prop) (x0 : BA) (x5 : Int) (k : Int → Prop) : Prop := j5 ag4 x0 x5 k
def j6' (x5 : Int) (k : Int → Prop) : Prop := j6 x5 k
def l4' (x0 : BA) (x5 : Int) (k : Int → Prop) : Prop := ∃ n, loopS (fun (ag : (Int) → Prop) (s : Int) => l4 (fun x0 x5 => j5' (fun x5 => ag (x5)) x0 x5 k) (fun x5 => j6' x5 k) x0 s k) n (x5)
def j3' (x0 : BA) (x1 : Int) (k : Int → Prop) : Prop := j3 (fun x0 x5 => l4' x0 x5 k) x0 x1 k
def j2000002' (x0 : BA) (x1 : Int) (x20 : Bool) (k : Int → Prop) : Prop := j2000002 (fun x0 x1 => j3' x0 x1 k) x0 x1 x20 k
def f0 (x0 : BA) (x1 : Int) (k : Int → Prop) : Prop := c (fun x0 x1 x20 => j2000002' x0 x1 x20 k) x0 x1 k
theorem f_ex : ∃ g, g = f0 := ⟨_, rfl⟩
noncomputable def f := Classical.choose f_ex
theorem f_def : f = f0 := Classical.choose_spec f_ex
def m2000002 (x0 : BA) (x1 : Int) (x20 : Bool) : St := { tmps := mkT 49 0 [(0, (.v (.string x0))), (1, (.v (.int .i64 x1))), (20, (.v (.bool x20)))], hp := [], m := 0 }
def m3 (x0 : BA) (x1 : Int) : St := { tmps := mkT 49 0 [(0, (.v (.string x0))), (1, (.v (.int .i64 x1)))], hp := [], m := 0 }
def mL4 (x0 : BA) (x5 : Int) : St := { tmps := mkT 49 0 [(0, (.v (.string x0))), (5, (.v (.int .i64 x5)))], hp := [], m := 0 }
def m5 (x0 : BA) (x5 : Int) : St := { tmps := mkT 49 0 [(0, (.v (.string x0))), (5, (.v (.int .i64 x5)))], hp := [], m := 0 }
def m6 (x5 : Int) : St := { tmps := mkT 49 0 [(5, (.v (.int .i64 x5)))], hp := [], m := 0 }
noncomputable def X2000002 (k kp : KT) : St → Prop := atP cfg (pick none' []) [1, 0, 1] body (topK cfg Tryd.f48 k kp)
noncomputable def X3 (k kp : KT) : St → Prop := atP cfg (pick none' []) [1, 1] body (topK cfg Tryd.f48 k kp)
noncomputable def YL4 (k kp : KT) : (St → Prop) → St → Prop := loopB cfg (sub [1, 1, 1, 0, 0, 0] body) (contK cfg (pick none' []) [1, 1, 1, 0, 0] body (topK cfg Tryd.f48 k kp))
noncomputable def XL4 (k kp : KT) : St → Prop := fun st => ∃ n, loopN (YL4 k kp) n st
noncomputable def X5 (k kp : KT) (ag4 : St → Prop) : St → Prop := atP cfg (pick none' [(4, ag4)]) [1, 1, 1, 0, 0, 0, 1] body (topK cfg Tryd.f48 k kp)
noncomputable def X6 (k kp : KT) : St → Prop := atP cfg (pick none' []) [1, 1, 1, 1] body (topK cfg Tryd.f48 k kp)
noncomputable def JJ (k kp : KT) : Nat → St → Prop := pick none' [(2000002, X2000002 k kp), (3, X3 k kp), (6, X6 k kp)]
noncomputable def LL (k kp : KT) : Nat → St → Prop := pick none' [(4, XL4 k kp)]
noncomputable def JJ_4 (k kp : KT) (ag4 : St → Prop) : Nat → St → Prop := pick none' [(2000002, X2000002 k kp), (3, X3 k kp), (5, X5 k kp ag4), (6, X6 k kp)]
noncomputable def LL_4 (k kp : KT) (ag4 : St → Prop) : Nat → St → Prop := pick none' [(4, XL4 k kp)]
theorem j5_c (k kp : KT) (J L : Nat → St → Prop) (ag4 : St → Prop) (x0 : BA) (x5 : Int) : runC cfg 5 J L (pick none' [(4, ag4)]) [1, 1, 1, 0, 0, 0, 1] body (topK cfg Tryd.f48 k kp) (m5 x0 x5) = j5 (fun x5 => ag4 (mL4 x0 x5)) x0 x5 (fun y0 => k (.v (.int .i64 y0)) []) := by kernel_rfl
theorem j5_ag (k kp : KT) (ag4 : St → Prop) : agPL cfg 5 (JJ_4 k kp ag4) (LL_4 k kp ag4) [1, 1, 1, 0, 0, 0, 1] body = agPR cfg 5 (pick none' [(4, ag4)]) [1, 1, 1, 0, 0, 0, 1] body (topK cfg Tryd.f48 k kp) := by kernel_rfl
theorem j5_raw (k kp : KT) (ag4 : St → Prop) (x0 : BA) (x5 : Int) : X5 k kp ag4 (m5 x0 x5) = j5 (fun x5 => ag4 (mL4 x0 x5)) x0 x5 (fun y0 => k (.v (.int .i64 y0)) []) :=
  Eq.mp (by kernel_rfl) ((atP_run (j5_ag k kp ag4) (m5 x0 x5)).trans (j5_c k kp (JJ_4 k kp ag4) (LL_4 k kp ag4) ag4 x0 x5))
theorem j5_eq (k kp : KT) (ag4 : St → Prop) (x0 : BA) (x5 : Int) : X5 k kp ag4 (m5 x0 x5) = j5' (fun x5 => ag4 (mL4 x0 x5)) x0 x5 (fun y0 => k (.v (.int .i64 y0)) []) := by
  rw [j5_raw]; rfl
theorem j6_c (k kp : KT) (J L : Nat → St → Prop) (x5 : Int) : runC cfg 6 J L (pick none' []) [1, 1, 1, 1] body (topK cfg Tryd.f48 k kp) (m6 x5) = j6 x5 (fun y0 => k (.v (.int .i64 y0)) []) := by kernel_rfl
theorem j6_ag (k kp : KT) : agPL cfg 6 (JJ k kp) (LL k kp) [1, 1, 1, 1] body = agPR cfg 6 (pick none' []) [1, 1, 1, 1] body (topK cfg Tryd.f48 k kp) := by kernel_rfl
theorem j6_raw (k kp : KT) (x5 : Int) : X6 k kp (m6 x5) = j6 x5 (fun y0 => k (.v (.int .i64 y0)) []) :=
  Eq.mp (by kernel_rfl) ((atP_run (j6_ag k kp) (m6 x5)).trans (j6_c k kp (JJ k kp) (LL k kp) x5))
theorem j6_eq (k kp : KT) (x5 : Int) : X6 k kp (m6 x5) = j6' x5 (fun y0 => k (.v (.int .i64 y0)) []) := by
  rw [j6_raw]; rfl
theorem l4_c (k kp : KT) (J L : Nat → St → Prop) (ag4 : St → Prop) (x0 : BA) (x5 : Int) : runC cfg 1000001 J L (pick none' [(4, ag4)]) [1, 1, 1, 0, 0, 0] body (topK cfg Tryd.f48 k kp) (mL4 x0 x5) = l4 (fun x0 x5 => J 5 (m5 x0 x5)) (fun x5 => J 6 (m6 x5)) x0 x5 (fun y0 => k (.v (.int .i64 y0)) []) := by kernel_rfl
theorem l4_ag (k kp : KT) (ag4 : St → Prop) : agPL cfg 1000001 (JJ_4 k kp ag4) (LL_4 k kp ag4) [1, 1, 1, 0, 0, 0] body = agPR cfg 1000001 (pick none' [(4, ag4)]) [1, 1, 1, 0, 0, 0] body (topK cfg Tryd.f48 k kp) := by kernel_rfl
theorem l4_raw (k kp : KT) (ag4 : St → Prop) (x0 : BA) (x5 : Int) : YL4 k kp ag4 (mL4 x0 x5) = l4 (fun x0 x5 => X5 k kp ag4 (m5 x0 x5)) (fun x5 => X6 k kp (m6 x5)) x0 x5 (fun y0 => k (.v (.int .i64 y0)) []) :=
  Eq.mp (by kernel_rfl) ((atP_run (l4_ag k kp ag4) (mL4 x0 x5)).trans (l4_c k kp (JJ_4 k kp ag4) (LL_4 k kp ag4) ag4 x0 x5))
theorem l4_eq (k kp : KT) (x0 : BA) (x5 : Int) : XL4 k kp (mL4 x0 x5) = l4' x0 x5 (fun y0 => k (.v (.int .i64 y0)) []) :=
  loop_eq (mk := fun (s : Int) => mL4 x0 s) (fun again s => by rw [l4_raw k kp again x0 s]; simp only [j5_eq, j6_eq]; first | done | rfl) (x5)
theorem j3_c (k kp : KT) (J L : Nat → St → Prop) (x0 : BA) (x1 : Int) : runC cfg 3 J L (pick none' []) [1, 1] body (topK cfg Tryd.f48 k kp) (m3 x0 x1) = j3 (fun x0 x5 => L 4 (mL4 x0 x5)) x0 x1 (fun y0 => k (.v (.int .i64 y0)) []) := by kernel_rfl
theorem j3_ag (k kp : KT) : agPL cfg 3 (JJ k kp) (LL k kp) [1, 1] body = agPR cfg 3 (pick none' []) [1, 1] body (topK cfg Tryd.f48 k kp) := by kernel_rfl
theorem j3_raw (k kp : KT) (x0 : BA) (x1 : Int) : X3 k kp (m3 x0 x1) = j3 (fun x0 x5 => XL4 k kp (mL4 x0 x5)) x0 x1 (fun y0 => k (.v (.int .i64 y0)) []) :=
  Eq.mp (by kernel_rfl) ((atP_run (j3_ag k kp) (m3 x0 x1)).trans (j3_c k kp (JJ k kp) (LL k kp) x0 x1))
theorem j3_eq (k kp : KT) (x0 : BA) (x1 : Int) : X3 k kp (m3 x0 x1) = j3' x0 x1 (fun y0 => k (.v (.int .i64 y0)) []) := by
  rw [j3_raw]; simp only [l4_eq]; first | done | rfl
theorem j2000002_c (k kp : KT) (J L : Nat → St → Prop) (x0 : BA) (x1 : Int) (x20 : Bool) : runC cfg 2000002 J L (pick none' []) [1, 0, 1] body (topK cfg Tryd.f48 k kp) (m2000002 x0 x1 x20) = j2000002 (fun x0 x1 => J 3 (m3 x0 x1)) x0 x1 x20 (fun y0 => k (.v (.int .i64 y0)) []) := by kernel_rfl
theorem j2000002_ag (k kp : KT) : agPL cfg 2000002 (JJ k kp) (LL k kp) [1, 0, 1] body = agPR cfg 2000002 (pick none' []) [1, 0, 1] body (topK cfg Tryd.f48 k kp) := by kernel_rfl
theorem j2000002_raw (k kp : KT) (x0 : BA) (x1 : Int) (x20 : Bool) : X2000002 k kp (m2000002 x0 x1 x20) = j2000002 (fun x0 x1 => X3 k kp (m3 x0 x1)) x0 x1 x20 (fun y0 => k (.v (.int .i64 y0)) []) :=
  Eq.mp (by kernel_rfl) ((atP_run (j2000002_ag k kp) (m2000002 x0 x1 x20)).trans (j2000002_c k kp (JJ k kp) (LL k kp) x0 x1 x20))
theorem j2000002_eq (k kp : KT) (x0 : BA) (x1 : Int) (x20 : Bool) : X2000002 k kp (m2000002 x0 x1 x20) = j2000002' x0 x1 x20 (fun y0 => k (.v (.int .i64 y0)) []) := by
  rw [j2000002_raw]; simp only [j3_eq]; first | done | rfl
theorem c_c (k kp : KT) (J L : Nat → St → Prop) (x0 : BA) (x1 : Int) : runC cfg 1000001 J L none'' [] body (topK cfg Tryd.f48 k kp) (st0 Tryd.f48 [(.v (.string x0)), (.v (.int .i64 x1))] []) = c (fun x0 x1 x20 => J 2000002 (m2000002 x0 x1 x20)) x0 x1 (fun y0 => k (.v (.int .i64 y0)) []) := by kernel_rfl
theorem c_ag (k kp : KT) : agPL cfg 1000001 (JJ k kp) (LL k kp) [] body = agPR cfg 1000001 none'' [] body (topK cfg Tryd.f48 k kp) := by kernel_rfl
theorem body_is : Tryd.f48.body = some body := by kernel_rfl
theorem c_raw (k kp : KT) (x0 : BA) (x1 : Int) : funW cfg Tryd.f48 [(.v (.string x0)), (.v (.int .i64 x1))] [] k kp = c (fun x0 x1 x20 => X2000002 k kp (m2000002 x0 x1 x20)) x0 x1 (fun y0 => k (.v (.int .i64 y0)) []) :=
  Eq.mp (by kernel_rfl) ((funW_run (AG := none'') body_is (c_ag k kp) [(.v (.string x0)), (.v (.int .i64 x1))] []).trans (c_c k kp (JJ k kp) (LL k kp) x0 x1))
theorem f_eq (k kp : KT) (x0 : BA) (x1 : Int) : funW cfg Tryd.f48 [(.v (.string x0)), (.v (.int .i64 x1))] [] k kp = f x0 x1 (fun y0 => k (.v (.int .i64 y0)) []) := by
  rw [f_def, c_raw]; simp only [j2000002_eq]; first | done | rfl
noncomputable def ent0 : Entry := fun args blks k _ => match args, blks with
  | [d0, d1], [] => aStr d0 fun x0 => aInt IntKind.i64 d1 fun x1 => f x0 x1 (fun y0 => k (.v (.int .i64 y0)) [])
  | _, _ => False
noncomputable def ent : Entry := fun args blks k kp => ent0 (convB [.no, .no] args) blks k kp
theorem ok : EntOk Tryd.prog 49 0 48 ent := by
  refine EntOk.convB (EntOk.of (funW_ok (cfg := cfg) (tyOk_of rfl rfl tyL_ok) (eqOk_of (P := Tryd.prog) rfl rfl (by kernel_rfl)) mixed_ok (tab_ok ?_) Tryd.func48 (by rfl) (by rfl)) ?_) _
  · intro p hp
    simp only [List.mem_cons, List.not_mem_nil, or_false] at hp
    rcases hp with rfl
    · exact N65.ok
  · intro args blks k kp h k' kp'
    match args, blks, h with
    | [d0, d1], [], h =>
    dsimp only [ent0] at h
    have h9 := aStr_elim h; clear h; obtain ⟨x0, rfl, h⟩ := h9
    have h9 := aInt_elim h; clear h; obtain ⟨x1, rfl, h⟩ := h9
    exact (f_eq k' kp' x0 x1).symm
end N48
end Go.Proofs.Ye

namespace Go.Proofs.Ye
open Go Go.Aw Go.Proofs
set_option maxRecDepth 100000
set_option maxHeartbeats 4000000
namespace N74
noncomputable def cfg : Cfg := { P := Tryd.prog, tf := 49, tw := 0, ty := tys, E := tab [(41, N41.ent)], atSeq := tab [], atLoop := tab [], outs := [], eqT := tab [], bT := tab [] }
noncomputable def body : Code := bodyOf Tryd.f74
def c (x0 : Int) (k : Bool → Prop) : Prop :=
  (N41.f x0 (fun (y0_0 : Bool) => (br y0_0 (k true) (br (decide (x0 ≥ (48 : Int))) (k (decide (x0 ≤ (57 : Int)))) (k false)))))
def f0 (x0 : Int) (k : Bool → Prop) : Prop := c x0 k
theorem f_ex : ∃ g, g = f0 := ⟨_, rfl⟩
noncomputable def f := Classical.choose f_ex
theorem f_def : f = f0 := Classical.choose_spec f_ex
noncomputable def JJ (k kp : KT) : Nat → St → Prop := pick none' []
noncomputable def LL (k kp : KT) : Nat → St → Prop := pick none' []
theorem c_c (k kp : KT) (J L : Nat → St → Prop) (x0 : Int) : runC cfg 1000001 J L none'' [] body (topK cfg Tryd.f74 k kp) (st0 Tryd.f74 [(.v (.int IntKind.u8 x0))] []) = c x0 (fun y0 => k (.v (.bool y0)) []) := by kernel_rfl
theorem c_ag (k kp : KT) : agPL cfg 1000001 (JJ k kp) (LL k kp) [] body = agPR cfg 1000001 none'' [] body (topK cfg Tryd.f74 k kp) := by kernel_rfl
theorem body_is : Tryd.f74.body = some body := by kernel_rfl
theorem c_raw (k kp : KT) (x0 : Int) : funW cfg Tryd.f74 [(.v (.int IntKind.u8 x0))] [] k kp = c x0 (fun y0 => k (.v (.bool y0)) []) :=
  Eq.mp (by kernel_rfl) ((funW_run (AG := none'') body_is (c_ag k kp) [(.v (.int IntKind.u8 x0))] []).trans (c_c k kp (JJ k kp) (LL k kp) x0))
theorem f_eq (k kp : KT) (x0 : Int) : funW cfg Tryd.f74 [(.v (.int IntKind.u8 x0))] [] k kp = f x0 (fun y0 => k (.v (.bool y0)) []) := by
  rw [f_def, c_raw]; rfl
noncomputable def ent0 : Entry := fun args blks k _ => match args, blks with
  | [d0], [] => aInt IntKind.u8 d0 fun x0 => f x0 (fun y0 => k (.v (.bool y0)) [])
  | _, _ => False
noncomputable def ent : Entry := fun args blks k kp => ent0 (convB [.no] args) blks k kp
theorem ok : EntOk Tryd.prog 49 0 74 ent := by
  refine EntOk.convB (EntOk.of (funW_ok (cfg := cfg) (tyOk_of rfl rfl tyL_ok) (eqOk_of (P := Tryd.prog) rfl rfl (by kernel_rfl)) mixed_ok (tab_ok ?_) Tryd.func74 (by rfl) (by rfl)) ?_) _
  · intro p hp
    simp only [List.mem_cons, List.not_mem_nil, or_false] at hp
    rcases hp with rfl
    · exact N41.ok
  · intro args blks k kp h k' kp'
    match args, blks, h with
    | [d0], [], h =>
    dsimp only [ent0] at h
    have h9 := aInt_elim h; clear h; obtain ⟨x0, rfl, h⟩ := h9
    exact (f_eq k' kp' x0).symm
end N74
end Go.Proofs.Ye

namespace Go.Proofs.Ye
open Go Go.Aw Go.Proofs
set_option maxRecDepth 100000
set_option maxHeartbeats 4000000
namespace N62
noncomputable def cfg : Cfg := { P := Tryd.prog, tf := 49, tw := 0, ty := tys, E := tab [(41, N41.ent), (74, N74.ent)], atSeq := tab [(2000002, ⟨[(0, .keep), (1, .keep), (19, .keep)]⟩), (3, ⟨[(0, .keep), (1, .keep)]⟩), (4, ⟨[(0, .keep), (1, .keep)]⟩), (5, ⟨[(1, .keep)]⟩)], atLoop := tab [(3, ⟨[(0, .keep), (1, .keep)]⟩)], outs := [], eqT := tab [], bT := tab [] }
noncomputable def body : Code := bodyOf Tryd.f62
def j2000002 (j3 : BA → Int → Prop) (x0 : BA) (x1 : Int) (x19 : Bool) (k : Int → Prop) : Prop :=
  (br x19 (k x1) (j3 x0 x1))
def j3 (l3 : BA → Int → Prop) (x0 : BA) (x1 : Int) (k : Int → Prop) : Prop :=
  (l3 x0 x1)
def l3 (j4 : BA → Int → Prop) (j5 : Int → Prop) (x0 : BA) (x1 : Int) (k : Int → Prop) : Prop :=
  (br (decide (x1 < ((((x0).size : Nat) : Int)))) ((inB 0 x1 ((((x0).size : Nat) : Int) - 1)) ∧ (N74.f (byteAt x0 x1) (fun (y0_1 : Bool) => (br y0_1 (j4 x0 x1) (j5 x1))))) (j5 x1))
def j4 (ag3 : Int → Prop) (x0 : BA) (x1 : Int) (k : Int → Prop) : Prop :=
  (ag3 (IntKind.i64.wrap (x1 + (1 : Int))))
def j5 (x1 : Int) (k : Int → Prop) : Prop :=
  (k x1)
def c (j2000002 : BA → Int → Bool → Prop) (x0 : BA) (x1 : Int) (k : Int → Prop) : Prop :=
  (br (decide (x1 < (0 : Int))) (j2000002 x0 x1 true) (br (decide (x1 ≥ ((((x0).size : Nat) : Int)))) (j2000002 x0 x1 true) ((inB 0 x1 ((((x0).size : Nat) : Int) - 1)) ∧ (N41.f (byteAt x0 x1) (fun (y0_0 : Bool) => (j2000002 x0 x1 (!y0_0)))))))
def j4' (ag3 : Int → Prop) (x0 : BA) (x1 : Int) (k : Int → Prop) : Prop := j4 ag3 x0 x1 k
def j5' (x1 : Int) (k : Int → Prop) : Prop := j5 x1 k
def l3' (x0 : BA) (x1 : Int) (k : Int → Prop) : Prop := ∃ n, loopS (fun (ag : (Int) → Prop) (s : Int) => l3 (fun x0 x1 => j4' (fun x1 => ag (x1)) x0 x1 k) (fun x1 => j5' x1 k) x0 s k) n (x1)
def j3' (x0 : BA) (x1 : Int) (k : Int → Prop) : Prop := j3 (fun x0 x1 => l3' x0 x1 k) x0 x1 k
def j2000002' (x0 : BA) (x1 : Int) (x19 : Bool) (k : Int → Prop) : Prop := j2000002 (fun x0 x1 => j3' x0 x1 k) x0 x1 x19 k
def f0 (x0 : BA) (x1 : Int) (k : Int → Prop) : Prop := c (fun x0 x1 x19 => j2000002' x0 x1 x19 k) x0 x1 k
theorem f_ex : ∃ g, g = f0 := ⟨_, rfl⟩
noncomputable def f := Classical.choose f_ex
theorem f_def : f = f0 := Classical.choose_spec f_ex
def m2000002 (x0 : BA) (x1 : Int) (x19 : Bool) : St := { tmps := mkT 34 0 [(0, (.v (.string x0))), (1, (.v (.int .i64 x1))), (19, (.v (.bool x19)))], hp := [], m := 0 }
def m3 (x0 : BA) (x1 : Int) : St := { tmps := mkT 34 0 [(0, (.v (.string x0))), (1, (.v (.int .i64 x1)))], hp := [], m := 0 }
def mL3 (x0 : BA) (x1 : Int) : St := { tmps := mkT 34 0 [(0, (.v (.string x0))), (1, (.v (.int .i64 x1)))], hp := [], m := 0 }
def m4 (x0 : BA) (x1 : Int) : St := { tmps := mkT 34 0 [(0, (.v (.string x0))), (1, (.v (.int .i64 x1)))], hp := [], m := 0 }
def m5 (x1 : Int) : St := { tmps := mkT 34 0 [(1, (.v (.int .i64 x1)))], hp := [], m := 0 }
noncomputable def X2000002 (k kp : KT) : St → Prop := atP cfg (pick none' []) [1, 0, 1] body (topK cfg Tryd.f62 k kp)
noncomputable def X3 (k kp : KT) : St → Prop := atP cfg (pick none' []) [1, 1] body (topK cfg Tryd.f62 k kp)
noncomputable def YL3 (k kp : KT) : (St → Prop) → St → Prop := loopB cfg (sub [1, 1, 0, 0, 0] body) (contK cfg (pick none' []) [1, 1, 0, 0] body (topK cfg Tryd.f62 k kp))
noncomputable def XL3 (k kp : KT) : St → Prop := fun st => ∃ n, loopN (YL3 k kp) n st
noncomputable def X4 (k kp : KT) (ag3 : St → Prop) : St → Prop := atP cfg (pick none' [(3, ag3)]) [1, 1, 0, 0, 0, 1] body (topK cfg Tryd.f62 k kp)
noncomputable def X5 (k kp : KT) : St → Prop := atP cfg (pick none' []) [1, 1, 1] body (topK cfg Tryd.f62 k kp)
noncomputable def JJ (k kp : KT) : Nat → St → Prop := pick none' [(2000002, X2000002 k kp), (3, X3 k kp), (5, X5 k kp)]
noncomputable def LL (k kp : KT) : Nat → St → Prop := pick none' [(3, XL3 k kp)]
noncomputable def JJ_3 (k kp : KT) (ag3 : St → Prop) : Nat → St → Prop := pick none' [(2000002, X2000002 k kp), (3, X3 k kp), (4, X4 k kp ag3), (5, X5 k kp)]
noncomputable def LL_3 (k kp : KT) (ag3 : St → Prop) : Nat → St → Prop := pick none' [(3, XL3 k kp)]
theorem j4_c (k kp : KT) (J L : Nat → St → Prop) (ag3 : St → Prop) (x0 : BA) (x1 : Int) : runC cfg 4 J L (pick none' [(3, ag3)]) [1, 1, 0, 0, 0, 1] body (topK cfg Tryd.f62 k kp) (m4 x0 x1) = j4 (fun x1 => ag3 (mL3 x0 x1)) x0 x1 (fun y0 => k (.v (.int .i64 y0)) []) := by kernel_rfl
theorem j4_ag (k kp : KT) (ag3 : St → Prop) : agPL cfg 4 (JJ_3 k kp ag3) (LL_3 k kp ag3) [1, 1, 0, 0, 0, 1] body = agPR cfg 4 (pick none' [(3, ag3)]) [1, 1, 0, 0, 0, 1] body (topK cfg Tryd.f62 k kp) := by kernel_rfl
theorem j4_raw (k kp : KT) (ag3 : St → Prop) (x0 : BA) (x1 : Int) : X4 k kp ag3 (m4 x0 x1) = j4 (fun x1 => ag3 (mL3 x0 x1)) x0 x1 (fun y0 => k (.v (.int .i64 y0)) []) :=
  Eq.mp (by kernel_rfl) ((atP_run (j4_ag k kp ag3) (m4 x0 x1)).trans (j4_c k kp (JJ_3 k kp ag3) (LL_3 k kp ag3) ag3 x0 x1))
theorem j4_eq (k kp : KT) (ag3 : St → Prop) (x0 : BA) (x1 : Int) : X4 k kp ag3 (m4 x0 x1) = j4' (fun x1 => ag3 (mL3 x0 x1)) x0 x1 (fun y0 => k (.v (.int .i64 y0)) []) := by
  rw [j4_raw]; rfl
theorem j5_c (k kp : KT) (J L : Nat → St → Prop) (x1 : Int) : runC cfg 5 J L (pick none' []) [1, 1, 1] body (topK cfg Tryd.f62 k kp) (m5 x1) = j5 x1 (fun y0 => k (.v (.int .i64 y0)) []) := by kernel_rfl
theorem j5_ag (k kp : KT) : agPL cfg 5 (JJ k kp) (LL k kp) [1, 1, 1] body = agPR cfg 5 (pick none' []) [1, 1, 1] body (topK cfg Tryd.f62 k kp) := by kernel_rfl
theorem j5_raw (k kp : KT) (x1 : Int) : X5 k kp (m5 x1) = j5 x1 (fun y0 => k (.v (.int .i64 y0)) []) :=
  Eq.mp (by kernel_rfl) ((atP_run (j5_ag k kp) (m5 x1)).trans (j5_c k kp (JJ k kp) (LL k kp) x1))
theorem j5_eq (k kp : KT) (x1 : Int) : X5 k kp (m5 x1) = j5' x1 (fun y0 => k (.v (.int .i64 y0)) []) := by
  rw [j5_raw]; rfl
theorem l3_c (k kp : KT) (J L : Nat → St → Prop) (ag3 : St → Prop) (x0 : BA) (x1 : Int) : runC cfg 1000001 J L (pick none' [(3, ag3)]) [1, 1, 0, 0, 0] body (topK cfg Tryd.f62 k kp) (mL3 x0 x1) = l3 (fun x0 x1 => J 4 (m4 x0 x1)) (fun x1 => J 5 (m5 x1)) x0 x1 (fun y0 => k (.v (.int .i64 y0)) []) := by kernel_rfl
theorem l3_ag (k kp : KT) (ag3 : St → Prop) : agPL cfg 1000001 (JJ_3 k kp ag3) (LL_3 k kp ag3) [1, 1, 0, 0, 0] body = agPR cfg 1000001 (pick none' [(3, ag3)]) [1, 1, 0, 0, 0] body (topK cfg Tryd.f62 k kp) := by kernel_rfl
theorem l3_raw (k kp : KT) (ag3 : St → Prop) (x0 : BA) (x1 : Int) : YL3 k kp ag3 (mL3 x0 x1) = l3 (fun x0 x1 => X4 k kp ag3 (m4 x0 x1)) (fun x1 => X5 k kp (m5 x1)) x0 x1 (fun y0 => k (.v (.int .i64 y0)) []) :=
  Eq.mp (by kernel_rfl) ((atP_run (l3_ag k kp ag3) (mL3 x0 x1)).trans (l3_c k kp (JJ_3 k kp ag3) (LL_3 k kp ag3) ag3 x0 x1))
theorem l3_eq (k kp : KT) (x0 : BA) (x1 : Int) : XL3 k kp (mL3 x0 x1) = l3' x0 x1 (fun y0 => k (.v (.int .i64 y0)) []) :=
  loop_eq (mk := fun (s : Int) => mL3 x0 s) (fun again s => by rw [l3_raw k kp again x0 s]; simp only [j4_eq, j5_eq]; first | done | rfl) (x1)
theorem j3_c (k kp : KT) (J L : Nat → St → Prop) (x0 : BA) (x1 : Int) : runC cfg 3 J L (pick none' []) [1, 1] body (topK cfg Tryd.f62 k kp) (m3 x0 x1) = j3 (fun x0 x1 => L 3 (mL3 x0 x1)) x0 x1 (fun y0 => k (.v (.int .i64 y0)) []) := by kernel_rfl
theorem j3_ag (k kp : KT) : agPL cfg 3 (JJ k kp) (LL k kp) [1, 1] body = agPR cfg 3 (pick none' []) [1, 1] body (topK cfg Tryd.f62 k kp) := by kernel_rfl
theorem j3_raw (k kp : KT) (x0 : BA) (x1 : Int) : X3 k kp (m3 x0 x1) = j3 (fun x0 x1 => XL3 k kp (mL3 x0 x1)) x0 x1 (fun y0 => k (.v (.int .i64 y0)) []) :=
  Eq.mp (by kernel_rfl) ((atP_run (j3_ag k kp) (m3 x0 x1)).trans (j3_c k kp (JJ k kp) (LL k kp) x0 x1))
theorem j3_eq (k kp : KT) (x0 : BA) (x1 : Int) : X3 k kp (m3 x0 x1) = j3' x0 x1 (fun y0 => k (.v (.int .i64 y0)) []) := by
  rw [j3_raw]; simp only [l3_eq]; first | done | rfl
theorem j2000002_c (k kp : KT) (J L : Nat → St → Prop) (x0 : BA) (x1 : Int) (x19 : Bool) : runC cfg 2000002 J L (pick none' []) [1, 0, 1] body (topK cfg Tryd.f62 k kp) (m2000002 x0 x1 x19) = j2000002 (fun x0 x1 => J 3 (m3 x0 x1)) x0 x1 x19 (fun y0 => k (.v (.int .i64 y0)) []) := by kernel_rfl
theorem j2000002_ag (k kp : KT) : agPL cfg 2000002 (JJ k kp) (LL k kp) [1, 0, 1] body = agPR cfg 2000002 (pick none' []) [1, 0, 1] body (topK cfg Tryd.f62 k kp) := by kernel_rfl
theorem j2000002_raw (k kp : KT) (x0 : BA) (x1 : Int) (x19 : Bool) : X2000002 k kp (m2000002 x0 x1 x19) = j2000002 (fun x0 x1 => X3 k kp (m3 x0 x1)) x0 x1 x19 (fun y0 => k (.v (.int .i64 y0)) []) :=
  Eq.mp (by kernel_rfl) ((atP_run (j2000002_ag k kp) (m2000002 x0 x1 x19)).trans (j2000002_c k kp (JJ k kp) (LL k kp) x0 x1 x19))
theorem j2000002_eq (k kp : KT) (x0 : BA) (x1 : Int) (x19 : Bool) : X2000002 k kp (m2000002 x0 x1 x19) = j2000002' x0 x1 x19 (fun y0 => k (.v (.int .i64 y0)) []) := by
  rw [j2000002_raw]; simp only [j3_eq]; first | done | rfl
theorem c_c (k kp : KT) (J L : Nat → St → Prop) (x0 : BA) (x1 : Int) : runC cfg 1000001 J L none'' [] body (topK cfg Tryd.f62 k kp) (st0 Tryd.f62 [(.v (.string x0)), (.v (.int .i64 x1))] []) = c (fun x0 x1 x19 => J 2000002 (m2000002 x0 x1 x19)) x0 x1 (fun y0 => k (.v (.int .i64 y0)) []) := by kernel_rfl
theorem c_ag (k kp : KT) : agPL cfg 1000001 (JJ k kp) (LL k kp) [] body = agPR cfg 1000001 none'' [] body (topK cfg Tryd.f62 k kp) := by kernel_rfl
theorem body_is : Tryd.f62.body = some body := by kernel_rfl
theorem c_raw (k kp : KT) (x0 : BA) (x1 : Int) : funW cfg Tryd.f62 [(.v (.string x0)), (.v (.int .i64 x1))] [] k kp = c (fun x0 x1 x19 => X2000002 k kp (m2000002 x0 x1 x19)) x0 x1 (fun y0 => k (.v (.int .i64 y0)) []) :=
  Eq.mp (by kernel_rfl) ((funW_run (AG := none'') body_is (c_ag k kp) [(.v (.string x0)), (.v (.int .i64 x1))] []).trans (c_c k kp (JJ k kp) (LL k kp) x0 x1))
theorem f_eq (k kp : KT) (x0 : BA) (x1 : Int) : funW cfg Tryd.f62 [(.v (.string x0)), (.v (.int .i64 x1))] [] k kp = f x0 x1 (fun y0 => k (.v (.int .i64 y0)) []) := by
  rw [f_def, c_raw]; simp only [j2000002_eq]; first | done | rfl
noncomputable def ent0 : Entry := fun args blks k _ => match args, blks with
  | [d0, d1], [] => aStr d0 fun x0 => aInt IntKind.i64 d1 fun x1 => f x0 x1 (fun y0 => k (.v (.int .i64 y0)) [])
  | _, _ => False
noncomputable def ent : Entry := fun args blks k kp => ent0 (convB [.no, .no] args) blks k kp
theorem ok : EntOk Tryd.prog 49 0 62 ent := by
  refine EntOk.convB (EntOk.of (funW_ok (cfg := cfg) (tyOk_of rfl rfl tyL_ok) (eqOk_of (P := Tryd.prog) rfl rfl (by kernel_rfl)) mixed_ok (tab_ok ?_) Tryd.func62 (by rfl) (by rfl)) ?_) _
  · intro p hp
    simp only [List.mem_cons, List.not_mem_nil, or_false] at hp
    rcases hp with rfl | rfl
    · exact N41.ok
    · exact N74.ok
  · intro args blks k kp h k' kp'
    match args, blks, h with
    | [d0, d1], [], h =>
    dsimp only [ent0] at h
    have h9 := aStr_elim h; clear h; obtain ⟨x0, rfl, h⟩ := h9
    have h9 := aInt_elim h; clear h; obtain ⟨x1, rfl, h⟩ := h9
    exact (f_eq k' kp' x0 x1).symm
end N62
end Go.Proofs.Ye

