/- Functions of the program as plain functions, each with the proof that the code comes to them. -/
import Derived.Test.YtlmojaagfmhejaaGreatDoorT2
import Derived.Test.YtlmojaagfmhejaaGreatDoorT3
import Derived.Test.YtlmojaagfmhejaaGreatDoorProg
import Derived.WalkKit
import Derived.LaidEql
import Derived.Stop.Asserts
import Derived.RowKitTokens
import Derived.Elder7
import Derived.Test.YtlmojaagfmhejaaGreatDoorRows
import Derived.ChangeSame
import Derived.ChangeVars
import Derived.JoinedOf
import Derived.RowKit
import Derived.LaidLaws
import Derived.LaidHandle
import Derived.Stop.Joined
import Derived.WalkSmall
import Derived.ScopeJumps
import Derived.Deep.RegionHeld3
import Derived.Deep.AppendLies
import Derived.Deep.RegionLaw
import Derived.Deep.RegionWith
import Derived.WalkMore
set_option linter.unusedVariables false
set_option linter.unusedSimpArgs false
set_option linter.unusedSectionVars false
set_option maxRecDepth 100000
set_option maxHeartbeats 4000000
namespace Go.Aw
abbrev BA := ByteArray
abbrev LI := List Int
abbrev LB := List ByteArray
abbrev Zq0 := List (Int × (ByteArray × (Int × (Int × Int))))
abbrev Zq1 := Int × ((Int × (Int × (Int × Int))) × ((List (Int × (Int × (Int × Int)))) × (ByteArray × (Int × ((List ByteArray) × (List Int))))))
abbrev Zq2 := List (Int × (Int × (Int × Int)))
abbrev Zq3 := List (ByteArray × (Bool × (Zq2 × (List Zq1))))
abbrev Zy0 : Ty := Ty.pair (Ty.int IntKind.i64) (Ty.pair (Ty.int IntKind.i64) (Ty.int IntKind.i64))
abbrev Zy1 : Ty := Ty.pair (Ty.int IntKind.i64) (Ty.pair Ty.str Zy0)
abbrev Zy2 : Ty := Ty.pair Ty.str (Ty.pair Ty.bool (Ty.pair (Ty.list (Ty.pair (Ty.int IntKind.i64) Zy0)) (Ty.list (Ty.pair (Ty.int IntKind.i64) (Ty.pair (Ty.pair (Ty.int IntKind.i64) Zy0) (Ty.pair (Ty.list (Ty.pair (Ty.int IntKind.i64) Zy0)) (Ty.pair Ty.str (Ty.pair (Ty.int IntKind.i64) (Ty.pair (Ty.list Ty.str) (Ty.list (Ty.int IntKind.i64)))))))))))
abbrev Zy3 : Ty := Ty.int IntKind.i64
end Go.Aw
namespace Go.Aw
open Go Go.RowKit
def isL (x : Int) : Bool := (decide (97 ≤ x) && decide (x ≤ 122)) || decide (x = 95)
def isS (x : Int) : Bool := isL x || (decide (48 ≤ x) && decide (x ≤ 57))
def runS : List Int → Nat
 | [] => 0
 | x :: r => if isS x then runS r + 1 else 0
theorem isS_of_isL {x : Int} (h : isL x = true) : isS x = true := by unfold isS; rw [h]; rfl
theorem runS_le : ∀ (l : List Int), runS l ≤ l.length
 | [] => Nat.le_refl _
 | x :: r => by unfold runS; split <;> simp; have := runS_le r; omega
theorem runS_step {l : List Int} {i j : Nat} (h : runS (l.drop i) = j) (hj : i + j < l.length) : isS (l.getD (i + j) 0) = false := by
 induction j generalizing i with
 | zero =>
   rw [drop_get (d := 0) (by omega)] at h
   unfold runS at h
   split at h
   ·omega
   ·rename_i hn; simpa using hn
 | succ j ih =>
   have hi : i < l.length := by omega
   rw [drop_get (d := 0) hi] at h
   unfold runS at h
   split at h
   ·have := ih (i := i + 1) (by omega) (by omega)
    rwa [show i + 1 + j = i + (j + 1) by omega] at this
   ·omega
theorem runS_in {l : List Int} {i j : Nat} (hj : j < runS (l.drop i)) : isS (l.getD (i + j) 0) = true := by
 induction j generalizing i with
 | zero =>
   have hi : i < l.length := by have := runS_le (l.drop i); rw [List.length_drop] at this; omega
   rw [drop_get (d := 0) hi] at hj
   unfold runS at hj
   split at hj
   ·rename_i h; exact h
   ·omega
 | succ j ih =>
   have hi : i < l.length := by have := runS_le (l.drop i); rw [List.length_drop] at this; omega
   rw [drop_get (d := 0) hi] at hj
   unfold runS at hj
   split at hj
   ·have := ih (i := i + 1) (by omega)
    rwa [show i + 1 + j = i + (j + 1) by omega] at this
   ·omega
def scanN (l : List Int) (a : Int) : Int := if a < 0 ∨ a ≥ (l.length : Int) ∨ isL (l.getD a.toNat 0) = false then a else ((a.toNat + runS (l.drop a.toNat) : Nat) : Int)
def hexL (n : Int) : Int := if n < 10 then 48 + n else 87 + n
def oneL (c : Int) : List Int := if c = 10 then [92, 110] else if c = 9 then [92, 116] else if c = 34 then [92, 34] else if c = 92 then [92, 92] else if 32 ≤ c ∧ c ≤ 126 then [c] else [92, 120, hexL (c / 16), hexL (c % 16)]
def qputL (l : List Int) : List Int := 34 :: (l.flatMap oneL ++ [34])
def nibL (c : Int) : Option Int := if 48 ≤ c ∧ c ≤ 57 then some (c - 48) else if 97 ≤ c ∧ c ≤ 102 then some (c - 87) else if 65 ≤ c ∧ c ≤ 70 then some (c - 55) else none
def meantL (c : Int) : Option Int := if c = 110 then some 10 else if c = 116 then some 9 else if c = 34 ∨ c = 92 then some c else none
def hexEsc : List Int → Option (Int × Nat)
 | a :: b :: _ => match nibL a, nibL b with
   | some h, some l => some (16 * h + l, 3)
   | _, _ => none
 | _ => none
def escL : List Int → Option (Int × Nat)
 | [] => none
 | c :: r => match meantL c with
   | some v => some (v, 1)
   | none => if c = 120 then hexEsc r else none
def scanL (M : Nat) : Nat → List Int → Int → List Int → List Int × Int × Int
 | 0, _, i, _ => ([], i, 11)
 | f + 1, rest, i, out => match rest with
   | [] => ([], i, 11)
   | c :: r => if c = 10 then ([], i, 11) else if c = 34 then (out, i + 1, 0) else if out.length = M then ([], i, 3)
     else if c ≠ 92 then scanL M f r (i + 1) (out ++ [c]) else
      match escL r with
      | none => ([], i, 11)
      | some (v, n) => scanL M f (r.drop n) (i + 1 + n) (out ++ [v])
theorem nib_lt {c v : Int} (h : nibL c = some v) : 0 ≤ v ∧ v < 16 := by
 unfold nibL at h
 repeat' split at h
 all_goals first | (cases h; omega) | cases h
theorem or4 (h l : Int) (h0 : 0 ≤ h ∧ h < 16) (l0 : 0 ≤ l ∧ l < 16) : orI IntKind.u8 (IntKind.u8.wrap (h * 2 ^ min (Int.toNat (4 : Int)) 8)) l = 16 * h + l := by
 obtain ⟨m, rfl⟩ : ∃ m : Nat, h = m := ⟨h.toNat, by omega⟩
 obtain ⟨n, rfl⟩ : ∃ n : Nat, l = n := ⟨l.toNat, by omega⟩
 have : ∀ i j : Fin 16, orI IntKind.u8 (IntKind.u8.wrap ((i.val : Int) * 2 ^ min (Int.toNat (4 : Int)) 8)) (j.val : Int) = 16 * (i.val : Int) + (j.val : Int) := by decide +kernel
 exact this ⟨m, by omega⟩ ⟨n, by omega⟩
theorem bytesOf_nil (r : List Int) : beqS (bytesOf r) (ByteArray.mk #[]) = decide (r = []) := by
 cases r with
 | nil => rfl
 | cons a r =>
   have : beqS (bytesOf (a :: r)) (ByteArray.mk #[]) = false := by
    cases h : beqS (bytesOf (a :: r)) (ByteArray.mk #[]) with
    | false => rfl
    | true =>
      have := congrArg ByteArray.size ((beqS_iff _ _).1 h)
      rw [bytesOf_size] at this
      exact absurd this (by simp [ByteArray.size])
   rw [this]; simp
theorem byteAt_bytes {r : List Int} (h : ∀ x ∈ r, isB x) (i : Nat) : byteAt (bytesOf r) (i : Int) = r.getD i 0 := by
 rw [byteAt_eq, ofBytes_bytesOf h]
theorem esc_pos {r : List Int} {v : Int} {n : Nat} (h : escL r = some (v, n)) : 1 ≤ n ∧ n ≤ r.length := by
 unfold escL at h
 split at h
 ·cases h
 ·split at h
  ·cases h; simp
  ·split at h
   ·unfold hexEsc at h
    split at h
    ·split at h
     ·cases h; simp
     ·cases h
    ·cases h
   ·cases h
def noQuote (L : List Int) (at_ : Int) : Prop := at_ < 0 ∨ (L.length : Int) ≤ at_ ∨ L.getD at_.toNat 0 ≠ 34
theorem scan_res (M : Nat) : ∀ (f : Nat) (r : List Int) (i : Int) (out t : List Int) (e c : Int), (∀ x ∈ r, isB x) → (∀ x ∈ out, isB x) → out.length ≤ M → scanL M f r i out = (t, e, c) →
 (c = 0 ∧ t.length ≤ M ∧ (∀ x ∈ t, isB x) ∨ c ≠ 0 ∧ t = []) ∧ i ≤ e ∧ e ≤ i + r.length + 1
 | 0, r, i, out, t, e, c, hr, ho, hl, h => by
   unfold scanL at h; cases h
   exact ⟨.inr ⟨by decide, rfl⟩, by omega, by omega⟩
 | f + 1, r, i, out, t, e, c, hr, ho, hl, h => by
   unfold scanL at h
   split at h
   ·cases h; exact ⟨.inr ⟨by decide, rfl⟩, by omega, by omega⟩
   ·rename_i a r
    split at h
    ·cases h; exact ⟨.inr ⟨by decide, rfl⟩, by omega, by simp; omega⟩
    ·split at h
     ·cases h; exact ⟨.inl ⟨rfl, hl, ho⟩, by omega, by simp; omega⟩
     ·split at h
      ·cases h; exact ⟨.inr ⟨by decide, rfl⟩, by omega, by simp; omega⟩
      ·split at h
       ·obtain ⟨h1, h2, h3⟩ := scan_res M f r _ _ t e c (fun x hx => hr x (by simp [hx])) (fun x hx => by
         rcases List.mem_append.1 hx with hx | hx
         ·exact ho x hx
         ·simp at hx; subst hx; exact hr _ (by simp)) (by simp; omega) h
        exact ⟨h1, by omega, by simp; omega⟩
       ·split at h
        ·cases h; exact ⟨.inr ⟨by decide, rfl⟩, by omega, by simp; omega⟩
        ·rename_i v n hesc
         obtain ⟨hn1, hn2⟩ := esc_pos hesc
         have hv : isB v := by
          unfold escL at hesc
          split at hesc
          ·cases hesc
          ·rename_i c' r'
           split at hesc
           ·rename_i v' hm
            cases hesc
            unfold meantL at hm
            repeat' split at hm
            all_goals first | (cases hm; first | exact ⟨by decide, by decide⟩ | exact hr _ (by simp)) | cases hm
           ·split at hesc
            ·unfold hexEsc at hesc
             split at hesc
             ·split at hesc
              ·rename_i h1 h2
               cases hesc
               have := nib_lt h1
               have := nib_lt h2
               exact ⟨by omega, by omega⟩
              ·cases hesc
             ·cases hesc
            ·cases hesc
         obtain ⟨h1, h2, h3⟩ := scan_res M f (r.drop n) _ _ t e c (fun x hx => hr x (List.mem_cons_of_mem _ (List.mem_of_mem_drop hx))) (fun x hx => by
          rcases List.mem_append.1 hx with hx | hx
          ·exact ho x hx
          ·simp at hx; subst hx; exact hv) (by simp; omega) h
         rw [List.length_drop] at h3
         exact ⟨h1, by omega, by simp; omega⟩
abbrev LTok := Int × (ByteArray × (Int × (Int × Int)))
def isW (c : Int) : Bool := decide (c = 32) || decide (c = 9) || decide (c = 13) || decide (c = 10)
def signs : List Int := [123, 125, 40, 41, 91, 93, 44, 58, 59, 61, 43, 45, 42, 46]
def lineN : List Int → Nat
 | [] => 0
 | c :: r => if c = 10 then 0 else lineN r + 1
structure Got where
 kind : Int
 text : List Int
 num : Int
 cls : Int
 len : Nat
 code : Int
 off : Int
deriving DecidableEq
def Got.bad (c : Int) (off : Int) : Got := ⟨0, [], 0, 0, 0, c, off⟩
def numS (kind : Int) (ahead : Nat) (cls : Int) (r : List Int) : Got :=
 let d := run (r.drop ahead)
 let v := val ((r.drop ahead).take d)
 if d = 0 ∨ (r.getD ahead 0 = 48 ∧ 1 < d) then .bad 12 0
 else if v > 2 ^ 63 ∨ (0 < ahead ∧ v > 2 ^ 31 - 1) then .bad 2 0
 else ⟨kind, r.take (ahead + d), w64 v, cls, ahead + d, 0, 0⟩
def tokS : List Int → Got
 | [] => .bad 10 0
 | c :: r =>
   if c = 34 then (match scanL 64 (r.length + 1) r 1 [] with
    | (t, e, code) => if code = 0 then ⟨3, t, 0, 0, e.toNat, 0, 0⟩ else .bad code e)
   else if isL c = true then (if runS (c :: r) > 24 then .bad 3 0 else ⟨1, (c :: r).take (runS (c :: r)), 0, 0, runS (c :: r), 0, 0⟩)
   else if c = 37 then numS 4 1 0 (c :: r)
   else if c = 35 then numS 6 1 0 (c :: r)
   else if c = 36 then (if r.head? = some 103 then numS 5 2 0 (c :: r) else if r.head? = some 120 then numS 5 2 1 (c :: r) else .bad 12 0)
   else if isD c then numS 2 0 0 (c :: r)
   else if c ∈ signs then (if c = 46 ∧ r.head? = some 46 then ⟨7, [46, 46], 0, 0, 2, 0, 0⟩ else ⟨7, [c], 0, 0, 1, 0, 0⟩)
   else .bad 10 0
def lexS : Nat → List Int → Int → List LTok → List LTok × Int × Int
 | 0, _, at_, _ => ([], 10, at_)
 | f + 1, l, at_, out => match l with
   | [] => (out ++ [(0, ByteArray.mk #[], 0, 0, at_)], 0, 0)
   | c :: r =>
     if isW c = true then lexS f r (at_ + 1) out
     else if c = 47 ∧ r.head? = some 47 then lexS f ((c :: r).drop (lineN (c :: r))) (at_ + lineN (c :: r)) out
     else if (tokS (c :: r)).code ≠ 0 then ([], (tokS (c :: r)).code, at_ + (tokS (c :: r)).off)
     else lexS f ((c :: r).drop (tokS (c :: r)).len) (at_ + (tokS (c :: r)).len) (out ++ [((tokS (c :: r)).kind, bytesOf (tokS (c :: r)).text, (tokS (c :: r)).num, (tokS (c :: r)).cls, at_)])
def lexAll (l : List Int) : List LTok × Int × Int := if l.length > 65536 then ([], 3, 0) else lexS (l.length + 1) l 0 []
theorem lineN_le : ∀ l : List Int, lineN l ≤ l.length
 | [] => Nat.le_refl _
 | c :: r => by unfold lineN; split <;> simp; have := lineN_le r; omega
theorem runS_pos {c : Int} {r : List Int} (h : isL c = true) : 1 ≤ runS (c :: r) := by
 unfold runS; rw [if_pos (isS_of_isL h)]; omega
theorem numS_len {kind cls : Int} {ahead : Nat} {r : List Int} (h : (numS kind ahead cls r).code = 0) : 1 ≤ (numS kind ahead cls r).len ∧ (numS kind ahead cls r).len ≤ r.length := by
 unfold numS at *
 dsimp only at *
 split at h
 ·simp [Got.bad] at h
 ·rename_i h1
  split at h
  ·simp [Got.bad] at h
  ·rename_i h2
   rw [if_neg h1, if_neg h2]
   dsimp only
   have := run_le (r.drop ahead)
   rw [List.length_drop] at this
   constructor <;> omega
theorem scan_end (M : Nat) : ∀ (f : Nat) (r : List Int) (i : Int) (out t : List Int) (e : Int), scanL M f r i out = (t, e, 0) → e ≤ i + r.length ∧ i < e
 | 0, r, i, out, t, e, h => by unfold scanL at h; simp at h
 | f + 1, r, i, out, t, e, h => by
   unfold scanL at h
   split at h
   ·simp at h
   ·rename_i a r
    simp only [List.length_cons]
    split at h
    ·simp at h
    ·split at h
     ·simp at h; omega
     ·split at h
      ·simp at h
      ·split at h
       ·have := scan_end M f r _ _ t e h
        omega
       ·split at h
        ·simp at h
        ·rename_i v n hesc
         have := scan_end M f (r.drop n) _ _ t e h
         have := esc_pos hesc
         rw [List.length_drop] at *
         omega
theorem isL_iff {c : Int} : isL c = true ↔ (97 ≤ c ∧ c ≤ 122) ∨ c = 95 := by unfold isL; simp
theorem tokS_34 (r : List Int) : tokS (34 :: r) = (match scanL 64 (r.length + 1) r 1 [] with
 | (t, e, code) => if code = 0 then ⟨3, t, 0, 0, e.toNat, 0, 0⟩ else .bad code e) := by
 unfold tokS; dsimp only; rw [if_pos rfl]
theorem tokS_L {c : Int} (r : List Int) (h : isL c = true) : tokS (c :: r) = if runS (c :: r) > 24 then .bad 3 0 else ⟨1, (c :: r).take (runS (c :: r)), 0, 0, runS (c :: r), 0, 0⟩ := by
 have := isL_iff.1 h
 unfold tokS; dsimp only; rw [if_neg (by omega), if_pos h]
theorem tokS_37 (r : List Int) : tokS (37 :: r) = numS 4 1 0 (37 :: r) := by
 unfold tokS; dsimp only; rw [if_neg (by decide), if_neg (by decide), if_pos rfl]
theorem tokS_35 (r : List Int) : tokS (35 :: r) = numS 6 1 0 (35 :: r) := by
 unfold tokS; dsimp only; rw [if_neg (by decide), if_neg (by decide), if_neg (by decide), if_pos rfl]
theorem tokS_36 (r : List Int) : tokS (36 :: r) = if r.head? = some 103 then numS 5 2 0 (36 :: r) else if r.head? = some 120 then numS 5 2 1 (36 :: r) else .bad 12 0 := by
 unfold tokS; dsimp only; rw [if_neg (by decide), if_neg (by decide), if_neg (by decide), if_neg (by decide), if_pos rfl]
theorem tokS_D {c : Int} (r : List Int) (h : isD c) : tokS (c :: r) = numS 2 0 0 (c :: r) := by
 have h' := h
 unfold isD at h'
 unfold tokS; dsimp only; rw [if_neg (by omega), if_neg (by rw [isL_iff]; omega), if_neg (by omega), if_neg (by omega), if_neg (by omega), if_pos h]
theorem tokS_S {c : Int} (r : List Int) (h : c ∈ signs) : tokS (c :: r) = if c = 46 ∧ r.head? = some 46 then ⟨7, [46, 46], 0, 0, 2, 0, 0⟩ else ⟨7, [c], 0, 0, 1, 0, 0⟩ := by
 have h' := h
 simp only [signs, List.mem_cons, List.not_mem_nil, or_false] at h'
 unfold tokS; dsimp only; rw [if_neg (by omega), if_neg (by rw [isL_iff]; omega), if_neg (by omega), if_neg (by omega), if_neg (by omega), if_neg (by unfold isD; omega), if_pos h]
theorem tokS_no {c : Int} (r : List Int) (h1 : c ≠ 34) (h2 : isL c = false) (h3 : c ≠ 37) (h4 : c ≠ 35) (h5 : c ≠ 36) (h6 : ¬ isD c) (h7 : c ∉ signs) : tokS (c :: r) = .bad 10 0 := by
 unfold tokS; dsimp only; rw [if_neg h1, if_neg (by rw [h2]; decide), if_neg h3, if_neg h4, if_neg h5, if_neg h6, if_neg h7]
theorem tokS_cases (c : Int) : c = 34 ∨ isL c = true ∨ c = 37 ∨ c = 35 ∨ c = 36 ∨ isD c ∨ c ∈ signs ∨ (c ≠ 34 ∧ isL c = false ∧ c ≠ 37 ∧ c ≠ 35 ∧ c ≠ 36 ∧ ¬ isD c ∧ c ∉ signs) := by
 by_cases h1 : c = 34
 ·exact .inl h1
 ·by_cases h2 : isL c = true
  ·exact .inr (.inl h2)
  ·by_cases h3 : c = 37
   ·exact .inr (.inr (.inl h3))
   ·by_cases h4 : c = 35
    ·exact .inr (.inr (.inr (.inl h4)))
    ·by_cases h5 : c = 36
     ·exact .inr (.inr (.inr (.inr (.inl h5))))
     ·by_cases h6 : isD c
      ·exact .inr (.inr (.inr (.inr (.inr (.inl h6)))))
      ·by_cases h7 : c ∈ signs
       ·exact .inr (.inr (.inr (.inr (.inr (.inr (.inl h7))))))
       ·exact .inr (.inr (.inr (.inr (.inr (.inr (.inr ⟨h1, by simpa using h2, h3, h4, h5, h6, h7⟩))))))
theorem tokS_len {l : List Int} (h : (tokS l).code = 0) : 1 ≤ (tokS l).len ∧ (tokS l).len ≤ l.length := by
 cases l with
 | nil => simp [tokS, Got.bad] at h
 | cons c r =>
   rcases tokS_cases c with rfl | hL | rfl | rfl | rfl | hD | hS | ⟨h1, h2, h3, h4, h5, h6, h7⟩
   ·rw [tokS_34] at *
    cases hs : scanL 64 (r.length + 1) r 1 [] with
    | mk t ec =>
      obtain ⟨e, code⟩ := ec
      rw [hs] at h
      dsimp only at *
      split at h
      ·rename_i h0
       rw [if_pos h0]
       subst h0
       have := scan_end 64 (r.length + 1) r 1 [] t e hs
       simp only [List.length_cons]
       omega
      ·simp [Got.bad] at h; contradiction
   ·rw [tokS_L r hL] at *
    split at h
    ·simp [Got.bad] at h
    ·rename_i h24
     rw [if_neg h24]
     exact ⟨runS_pos hL, runS_le _⟩
   ·rw [tokS_37] at *; exact numS_len h
   ·rw [tokS_35] at *; exact numS_len h
   ·rw [tokS_36] at *
    split at h
    ·rename_i h1; rw [if_pos h1]; exact numS_len h
    ·rename_i h1; rw [if_neg h1]
     split at h
     ·rename_i h1; rw [if_pos h1]; exact numS_len h
     ·simp [Got.bad] at h
   ·rw [tokS_D r hD] at *; exact numS_len h
   ·rw [tokS_S r hS] at *
    split
    ·rename_i hh
     obtain ⟨_, hh⟩ := hh
     cases r with
     | nil => simp at hh
     | cons a r => simp
    ·simp
   ·rw [tokS_no r h1 h2 h3 h4 h5 h6 h7] at h; simp [Got.bad] at h
theorem lexS_fuel : ∀ (f g : Nat) (l : List Int) (a : Int) (out : List LTok), l.length < f → l.length < g → lexS f l a out = lexS g l a out
 | 0, _, _, _, _, h, _ => by omega
 | _, 0, _, _, _, _, h => by omega
 | f + 1, g + 1, l, a, out, h1, h2 => by
   unfold lexS
   cases l with
   | nil => rfl
   | cons c r =>
     simp only [List.length_cons] at h1 h2
     dsimp only
     split
     ·exact lexS_fuel f g r _ out (by omega) (by omega)
     ·split
      ·rename_i hr
       have hl : 1 ≤ lineN (c :: r) := by
        unfold lineN; rw [if_neg (by omega)]; omega
       exact lexS_fuel f g _ _ out (by simp [List.length_drop]; omega) (by simp [List.length_drop]; omega)
      ·split
       ·rfl
       ·rename_i h0
        have := tokS_len (l := c :: r) (by simpa using h0)
        exact lexS_fuel f g _ _ _ (by simp [List.length_drop]; omega) (by simp [List.length_drop]; omega)
def lexW (l : List Int) (a : Int) (out : List LTok) : List LTok × Int × Int := lexS (l.length + 1) l a out
theorem lexW_nil (a : Int) (out : List LTok) : lexW [] a out = (out ++ [(0, ByteArray.mk #[], 0, 0, a)], 0, 0) := rfl
theorem lexW_blank {c : Int} {r : List Int} (a : Int) (out : List LTok) (h : isW c = true) : lexW (c :: r) a out = lexW r (a + 1) out := by
 unfold lexW
 conv => lhs; unfold lexS
 dsimp only
 rw [if_pos h]
 rfl
theorem lexW_remark {r : List Int} (a : Int) (out : List LTok) (h : r.head? = some 47) : lexW (47 :: r) a out = lexW ((47 :: r).drop (lineN (47 :: r))) (a + lineN (47 :: r)) out := by
 unfold lexW
 conv => lhs; unfold lexS
 dsimp only
 rw [if_neg (by decide), if_pos ⟨rfl, h⟩]
 have hl : 1 ≤ lineN (47 :: r) := by unfold lineN; rw [if_neg (by decide)]; omega
 exact lexS_fuel _ _ _ _ _ (by simp [List.length_drop]; omega) (by omega)
def stopAt (l : List Int) : Prop := match l with
 | [] => True
 | c :: r => isW c = false ∧ ¬ (c = 47 ∧ r.head? = some 47)
theorem lexW_tok {c : Int} {r : List Int} (a : Int) (out : List LTok) (h : stopAt (c :: r)) :
 lexW (c :: r) a out = if (tokS (c :: r)).code ≠ 0 then ([], (tokS (c :: r)).code, a + (tokS (c :: r)).off)
  else lexW ((c :: r).drop (tokS (c :: r)).len) (a + (tokS (c :: r)).len) (out ++ [((tokS (c :: r)).kind, bytesOf (tokS (c :: r)).text, (tokS (c :: r)).num, (tokS (c :: r)).cls, a)]) := by
 unfold lexW
 conv => lhs; unfold lexS
 dsimp only
 rw [if_neg (by rw [h.1]; decide), if_neg h.2]
 split
 ·rfl
 ·rename_i h0
  have := tokS_len (l := c :: r) (by simpa using h0)
  exact lexS_fuel _ _ _ _ _ (by simp [List.length_drop]; omega) (by omega)
theorem lexAll_eq (l : List Int) : lexAll l = if l.length > 65536 then ([], 3, 0) else lexW l 0 [] := rfl
theorem run_take : ∀ (l : List Int) (n : Nat), run (l.take n) = min n (run l)
 | [], n => by simp [run]
 | x :: r, 0 => by simp [run]
 | x :: r, n + 1 => by
   simp only [List.take_succ_cons, run]
   split
   ·rw [run_take r n]; omega
   ·omega
theorem foldl_ge : ∀ (l : List Int) (a : Nat), a * 10 ^ l.length ≤ l.foldl (fun a d => 10 * a + (d - 48).toNat) a
 | [], a => by simp
 | d :: l, a => by
   simp only [List.foldl_cons, List.length_cons]
   refine Nat.le_trans ?_ (foldl_ge l _)
   rw [Nat.pow_succ, show a * (10 ^ l.length * 10) = (10 * a) * 10 ^ l.length by rw [Nat.mul_comm (10 ^ l.length) 10, ← Nat.mul_assoc, Nat.mul_comm a 10]]
   exact Nat.mul_le_mul_right _ (by omega)
theorem val_ge {c : Int} {l : List Int} (h : 49 ≤ c) : 10 ^ l.length ≤ val (c :: l) := by
 unfold val
 simp only [List.foldl_cons]
 refine Nat.le_trans ?_ (foldl_ge l _)
 have : 1 ≤ 10 * 0 + (c - 48).toNat := by omega
 exact Nat.le_trans (by omega) (Nat.mul_le_mul_right _ this)
def digC (r : List Int) : Int := if run r = 0 ∨ (r.getD 0 0 = 48 ∧ 1 < run r) then 12 else if val (r.take (run r)) > 2 ^ 63 then 2 else 0
theorem numS_eq (kind cls : Int) (ahead : Nat) (r : List Int) : numS kind ahead cls r = if digC (r.drop ahead) ≠ 0 then .bad (digC (r.drop ahead)) 0 else
 if 0 < ahead ∧ val ((r.drop ahead).take (run (r.drop ahead))) > 2 ^ 31 - 1 then .bad 2 0 else ⟨kind, r.take (ahead + run (r.drop ahead)), w64 (val ((r.drop ahead).take (run (r.drop ahead)))), cls, ahead + run (r.drop ahead), 0, 0⟩ := by
 unfold numS digC
 dsimp only
 have e : (r.drop ahead).getD 0 0 = r.getD ahead 0 := by simp [List.getD, List.getElem?_drop]
 rw [e]
 split
 ·rfl
 ·split
  ·rename_i h1 h2
   split
   ·simp
   ·rename_i h3
    rw [if_neg (by simp), if_pos (by omega)]
  ·rename_i h1 h2
   rw [if_neg (show ¬ val (List.take (run (List.drop ahead r)) (List.drop ahead r)) > 2 ^ 63 from fun h => h2 (.inl h)), if_neg (by decide), if_neg (fun h => h2 (.inr h))]
theorem scan_minus (r : List Int) : scanI (45 :: r.take 24) 0 = if run r = 0 ∨ r.getD 0 0 = 48 then (0, 0, 12) else if val (r.take (run r)) > 2 ^ 63 then (0, 0, 2) else (-(val (r.take (run r)) : Int), ((1 + run r : Nat) : Int), 0) := by
 unfold scanI
 rw [if_neg (by simp; omega)]
 dsimp only
 simp only [List.getD_cons_zero, List.length_cons, Int.toNat_zero, Nat.zero_lt_succ, decide_true, beq_self_eq_true, Bool.and_true, Bool.toNat_true, Nat.zero_add, List.drop_succ_cons, List.drop_zero, List.getD_cons_succ, or_true, and_true, Bool.true_eq_false, and_false, or_false, if_true]
 rw [run_take]
 have e0 : (r.take 24).getD 0 0 = r.getD 0 0 := by cases r <;> rfl
 rw [e0]
 by_cases h1 : run r = 0 ∨ r.getD 0 0 = 48
 ·rw [if_pos h1, if_pos (by omega)]
 ·rw [if_neg h1, if_neg (by omega)]
  rcases Nat.lt_or_ge 24 (run r) with hb | hb
  ·have hrl := run_le r
   have big : ∀ n : Nat, 24 ≤ n → n ≤ run r → val (r.take n) > 2 ^ 63 := by
    intro n h24 hn
    cases r with
    | nil => simp [run] at hb
    | cons c r =>
      have hc : isD c := run_isD (c :: r) c (by
       obtain ⟨m, hm⟩ : ∃ m, run (c :: r) = m + 1 := ⟨run (c :: r) - 1, by omega⟩
       rw [hm]; simp)
      simp only [List.getD_cons_zero] at h1
      obtain ⟨m, rfl⟩ : ∃ m, n = m + 1 := ⟨n - 1, by omega⟩
      simp only [List.length_cons] at hrl
      rw [List.take_succ_cons]
      refine Nat.lt_of_lt_of_le ?_ (val_ge (by unfold isD at hc; omega))
      rw [List.length_take, Nat.min_eq_left (by omega)]
      exact Nat.lt_of_lt_of_le (by decide : 2 ^ 63 < 10 ^ 23) (Nat.pow_le_pow_right (by decide) (by omega))
   rw [Nat.min_eq_left (by omega), List.take_take, if_pos (by have := big 24 (by omega) (by omega); simpa using this), if_pos (big _ (by omega) (Nat.le_refl _))]
  ·rw [Nat.min_eq_right (by omega), List.take_take, Nat.min_eq_left (by omega)]
theorem val_zero {r : List Int} (h : run r ≠ 0) (hv : val (r.take (run r)) = 0) : r.getD 0 0 = 48 := by
 cases r with
 | nil => simp [run] at h
 | cons c r =>
   have hc : isD c := run_isD (c :: r) c (by
    obtain ⟨m, hm⟩ : ∃ m, run (c :: r) = m + 1 := ⟨run (c :: r) - 1, by omega⟩
    rw [hm]; simp)
   obtain ⟨m, hm⟩ : ∃ m, run (c :: r) = m + 1 := ⟨run (c :: r) - 1, by omega⟩
   rw [hm, List.take_succ_cons] at hv
   rcases Int.lt_or_le c 49 with h1 | h1
   ·unfold isD at hc; simp; omega
   ·have := val_ge (c := c) (l := r.take m) h1
    have := Nat.pow_pos (n := (r.take m).length) (by decide : 0 < 10)
    omega
def idxI : List Int → Int → Int
 | [], _ => -1
 | x :: l, c => if x = c then 0 else if idxI l c = -1 then -1 else idxI l c + 1
theorem idxI_ge : ∀ (l : List Int) (c : Int), -1 ≤ idxI l c
 | [], _ => by simp [idxI]
 | x :: l, c => by
   unfold idxI
   have := idxI_ge l c
   repeat' split
   all_goals omega
theorem idxI_mem : ∀ (l : List Int) (c : Int), 0 ≤ idxI l c ↔ c ∈ l
 | [], _ => by simp [idxI]
 | x :: l, c => by
   unfold idxI
   have h1 := idxI_ge l c
   have h2 := idxI_mem l c
   simp only [List.mem_cons]
   split
   ·rename_i h; subst h; simp
   ·rename_i h
    split
    ·rename_i h3
     constructor
     ·intro hh; omega
     ·rintro (hh | hh)
      ·exact absurd hh.symm h
      ·have := h2.2 hh; omega
    ·constructor
     ·intro _; exact .inr (h2.1 (by omega))
     ·intro _; omega
theorem idxI_line : ∀ l : List Int, idxI l 10 = if lineN l < l.length then (lineN l : Int) else -1
 | [] => by simp [idxI, lineN]
 | x :: l => by
   unfold idxI
   rw [idxI_line l]
   rw [lineN]
   by_cases h : x = 10
   ·rw [if_pos h, if_pos h]; simp
   ·rw [if_neg h, if_neg h]
    by_cases h2 : lineN l < l.length
    ·rw [if_pos h2, if_neg (by omega), if_pos (by simp; omega)]; simp
    ·rw [if_neg h2, if_pos rfl, if_neg (by simp; omega)]
theorem indexByte_map : ∀ (l : List UInt8) (b : UInt8), Lib.indexByte l b = idxI (l.map fun x => ((x.toNat : Nat) : Int)) ((b.toNat : Nat) : Int)
 | [], b => rfl
 | x :: l, b => by
   simp only [Lib.indexByte, List.map_cons, idxI]
   rw [indexByte_map l b]
   have e : (x == b) = decide (((x.toNat : Nat) : Int) = ((b.toNat : Nat) : Int)) := by
    rw [Bool.eq_iff_iff, beq_iff_eq, decide_eq_true_eq]
    constructor
    ·intro h; rw [h]
    ·intro h; exact UInt8.toNat_inj.1 (by exact_mod_cast h)
   rw [e]
   simp [BEq.beq]
theorem indexB_eq (s : ByteArray) {c : Int} (hc : isB c) : indexB s c = idxI (ofBytes s) c := by
 unfold indexB
 rw [indexByte_map]
 have : (c.toNat.toUInt8.toNat : Int) = c := by
  unfold isB at hc
  simp; omega
 rw [this]
 rfl
theorem isW_iff {c : Int} : isW c = true ↔ c = 32 ∨ c = 9 ∨ c = 13 ∨ c = 10 := by unfold isW; simp [or_assoc]
theorem indexB_blank {c : Int} (hc : isB c) : (0 ≤ indexB (ByteArray.mk #[32, 9, 13, 10]) c) ↔ isW c = true := by
 rw [indexB_eq _ hc, idxI_mem, isW_iff, show ofBytes (ByteArray.mk #[32, 9, 13, 10]) = [32, 9, 13, 10] from rfl]
 simp
theorem indexB_signs {c : Int} (hc : isB c) : (0 ≤ indexB (ByteArray.mk #[123, 125, 40, 41, 91, 93, 44, 58, 59, 61, 43, 45, 42, 46]) c) ↔ c ∈ signs := by
 rw [indexB_eq _ hc, idxI_mem, show ofBytes (ByteArray.mk #[123, 125, 40, 41, 91, 93, 44, 58, 59, 61, 43, 45, 42, 46]) = signs from rfl]
theorem numS_off (kind cls : Int) (a : Nat) (r : List Int) : (numS kind a cls r).off = 0 := by
 unfold numS
 dsimp only
 split
 ·rfl
 ·split <;> rfl
theorem tokS_off {c : Int} {r : List Int} (h : c ≠ 34) : (tokS (c :: r)).off = 0 := by
 rcases tokS_cases c with hc | hL | rfl | rfl | rfl | hD | hS | ⟨h1, h2, h3, h4, h5, h6, h7⟩
 ·exact absurd hc h
 ·rw [tokS_L r hL]; split <;> rfl
 ·rw [tokS_37]; exact numS_off _ _ _ _
 ·rw [tokS_35]; exact numS_off _ _ _ _
 ·rw [tokS_36]
  split
  ·exact numS_off _ _ _ _
  ·split
   ·exact numS_off _ _ _ _
   ·rfl
 ·rw [tokS_D r hD]; exact numS_off _ _ _ _
 ·rw [tokS_S r hS]; split <;> rfl
 ·rw [tokS_no r h1 h2 h3 h4 h5 h6 h7]; rfl
def LTok.kind (t : LTok) : Int := t.1
def LTok.text (t : LTok) : ByteArray := t.2.1
def LTok.num (t : LTok) : Int := t.2.2.1
def LTok.cls (t : LTok) : Int := t.2.2.2.1
def LTok.pos (t : LTok) : Int := t.2.2.2.2
def noTok : LTok := (0, ByteArray.empty, 0, 0, 0)
def tokAt (l : List LTok) (i : Nat) : LTok := l.getD i noTok
def isTk (t : LTok) (s : ByteArray) : Bool := (decide (t.kind = 1) || decide (t.kind = 7)) && beqS t.text s
abbrev sOpen : ByteArray := ByteArray.mk #[40]
abbrev sClose : ByteArray := ByteArray.mk #[41]
abbrev sMinus : ByteArray := ByteArray.mk #[45]
abbrev sPlus : ByteArray := ByteArray.mk #[43]
abbrev sTimes : ByteArray := ByteArray.mk #[42]
structure FRes where
 n : Int
 at_ : Int
 code : Int
 pos : Int
deriving DecidableEq, Inhabited
def FRes.ok (n at_ : Int) : FRes := ⟨n, at_, 0, 0⟩
def FRes.bad (code : Int) (t : LTok) : FRes := ⟨0, 0, code, t.pos⟩
structure Fr where
 sum : Int
 add : Int
 prod : Int
 times : Bool
 minus : Bool
deriving DecidableEq, Inhabited
def Fr.fresh : Fr := ⟨0, 1, 0, false, false⟩
def doF (op a b : Int) : Int := if op = 1 then w64 (a + b) else if op = 2 then w64 (a - b) else w64 (a * b)
def Fr.number (f : Fr) (n : Int) : Fr :=
 let n := if f.minus = true then w64 (0 - n) else n
 let n := if f.times = true then w64 (f.prod * n) else n
 ⟨f.sum, f.add, n, false, false⟩
def Fr.close (f : Fr) : Int := doF f.add f.sum f.prod
def Fr.sign (f : Fr) (t : LTok) : Option Fr :=
 if isTk t sTimes = true then some { f with times := true }
 else if isTk t sPlus = true then some { f with sum := f.close, add := 1 }
 else if isTk t sMinus = true then some { f with sum := f.close, add := 2 }
 else none
def foldM (l : List LTok) : Nat → Bool → List Fr → Int → Nat → FRes
 | 0, _, _, _, _ => default
 | k + 1, true, st, n, at_ =>
   if isTk (tokAt l at_) sOpen = true then
    if st.length = 32 then .bad 21 (tokAt l at_) else foldM l k true (Fr.fresh :: st) 0 (at_ + 1)
   else match st with
   | [] => default
   | f :: r =>
     if isTk (tokAt l at_) sMinus = true ∧ f.minus = false then foldM l k true ({ f with minus := true } :: r) 0 (at_ + 1)
     else if (tokAt l at_).kind ≠ 2 then .bad 20 (tokAt l at_)
     else if (tokAt l at_).num < 0 ∧ f.minus = false then .bad 2 (tokAt l at_)
     else foldM l k false (f :: r) (tokAt l at_).num (at_ + 1)
 | k + 1, false, [], _, _ => default
 | k + 1, false, f :: r, n, at_ =>
   match (f.number n).sign (tokAt l at_) with
   | some f' => foldM l k true (f' :: r) 0 (at_ + 1)
   | none => if isTk (tokAt l at_) sClose = false then .bad 20 (tokAt l at_)
     else if r = [] then .ok (f.number n).close (at_ + 1 : Nat) else foldM l k false r (f.number n).close (at_ + 1)
def plainF (l : List LTok) (at_ : Nat) : FRes :=
 let m := isTk (tokAt l at_) sMinus
 let at_ := if m = true then at_ + 1 else at_
 let t := tokAt l at_
 if t.kind ≠ 2 then .bad 20 t
 else if m = true then .ok (w64 (0 - t.num)) (at_ + 1 : Nat)
 else if t.num < 0 then .bad 2 t
 else .ok t.num (at_ + 1 : Nat)
def lastKind (l : List LTok) : Int := (tokAt l (l.length - 1)).kind
def foldV (l : List LTok) (at_ : Int) : FRes :=
 if at_ < 0 ∨ at_ ≥ (l.length : Int) ∨ lastKind l ≠ 0 then ⟨0, 0, 1, 0⟩
 else if isTk (tokAt l at_.toNat) sOpen = false then plainF l at_.toNat
 else foldM l (l.length + 1 - at_.toNat) true [] 0 at_.toNat
mutual
def factorS (l : List LTok) : Nat → Nat → Nat → FRes
 | 0, _, _ => default
 | k + 1, at_, deep =>
   let m := isTk (tokAt l at_) sMinus
   let a := if m = true then at_ + 1 else at_
   let t := tokAt l a
   if isTk t sOpen = true ∧ deep > 0 then
    if deep ≥ 32 then .bad 21 t
    else
     let x := sumS l k (a + 1) (deep + 1)
     if x.code ≠ 0 then x else .ok (if m = true then w64 (0 - x.n) else x.n) x.at_
   else if t.kind ≠ 2 then .bad 20 t
   else if t.num < 0 ∧ m = false then .bad 2 t
   else .ok (if m = true then w64 (0 - t.num) else t.num) (a + 1 : Nat)
def moreP (l : List LTok) : Nat → FRes → Nat → FRes
 | 0, _, _ => default
 | k + 1, x, deep =>
   if x.code = 0 ∧ isTk (tokAt l x.at_.toNat) sTimes = true then
    let y := factorS l k (x.at_.toNat + 1) deep
    if y.code ≠ 0 then y else moreP l k (.ok (w64 (x.n * y.n)) y.at_) deep
   else x
def productS (l : List LTok) : Nat → Nat → Nat → FRes
 | 0, _, _ => default
 | k + 1, at_, deep => moreP l k (factorS l k at_ deep) deep
def moreS (l : List LTok) : Nat → FRes → Nat → FRes
 | 0, _, _ => default
 | k + 1, x, deep =>
   if x.code = 0 ∧ (isTk (tokAt l x.at_.toNat) sPlus = true ∨ isTk (tokAt l x.at_.toNat) sMinus = true) then
    let y := productS l k (x.at_.toNat + 1) deep
    if y.code ≠ 0 then y
    else moreS l k (.ok (w64 (x.n + if isTk (tokAt l x.at_.toNat) sMinus = true then w64 (0 - y.n) else y.n)) y.at_) deep
   else x
def sumS (l : List LTok) : Nat → Nat → Nat → FRes
 | 0, _, _ => default
 | k + 1, at_, deep =>
   let x := moreS l k (productS l k at_ deep) deep
   if x.code ≠ 0 then x
   else if isTk (tokAt l x.at_.toNat) sClose = false then .bad 20 (tokAt l x.at_.toNat)
   else { x with at_ := x.at_ + 1 }
end
abbrev OpT := Int × Int × Int × Int
abbrev InT := Int × OpT × List OpT × ByteArray × Int × List ByteArray × List Int
abbrev BkT := ByteArray × Bool × List OpT × List InT
abbrev FuT := Bool × ByteArray × List (Int × Int) × List OpT × List BkT
inductive PR (α : Type) where
 | ok (a : α) (i : Nat)
 | bad (c p : Int)
abbrev Psr (α : Type) := List LTok → Nat → PR α
variable {α β : Type}
def PR.go (r : PR α) (k : α → Nat → Prop) (kp : Int → Int → Prop) : Prop := match r with
 | .ok a i => k a i
 | .bad c p => kp c p
def Psr.ret (a : α) : Psr α := fun _ i => .ok a i
def Psr.bind (p : Psr α) (f : α → Psr β) : Psr β := fun l i => match p l i with
 | .ok a j => f a l j
 | .bad c q => .bad c q
theorem PR.go_ok (a : α) (i : Nat) (k : α → Nat → Prop) (kp : Int → Int → Prop) : (PR.ok a i).go k kp = k a i := rfl
theorem PR.go_bad (c p : Int) (k : α → Nat → Prop) (kp : Int → Int → Prop) : (PR.bad c p : PR α).go k kp = kp c p := rfl
theorem go_ret (a : α) (l : List LTok) (i : Nat) (k : α → Nat → Prop) (kp : Int → Int → Prop) : (Psr.ret a l i).go k kp = k a i := rfl
theorem go_bind (p : Psr α) (f : α → Psr β) (l : List LTok) (i : Nat) (k : β → Nat → Prop) (kp : Int → Int → Prop) : (p.bind f l i).go k kp = (p l i).go (fun a j => (f a l j).go k kp) kp := by
 unfold Psr.bind
 cases p l i <;> rfl
theorem PR.go_mono {r : PR α} {k k' : α → Nat → Prop} {kp kp' : Int → Int → Prop} (h : r.go k kp) (h1 : ∀ a i, r = .ok a i → k a i → k' a i) (h2 : ∀ c p, r = .bad c p → kp c p → kp' c p) : r.go k' kp' := by
 cases r with
 | ok a i => exact h1 a i rfl h
 | bad c p => exact h2 c p rfl h
abbrev sColon : ByteArray := ByteArray.mk #[58]
abbrev sComma : ByteArray := ByteArray.mk #[44]
abbrev sSemi : ByteArray := ByteArray.mk #[59]
abbrev sDot : ByteArray := ByteArray.mk #[46]
abbrev sNone : ByteArray := ByteArray.mk #[95]
abbrev sEq : ByteArray := ByteArray.mk #[61]
abbrev sLB : ByteArray := ByteArray.mk #[91]
abbrev sRB : ByteArray := ByteArray.mk #[93]
abbrev sLC : ByteArray := ByteArray.mk #[123]
abbrev sRC : ByteArray := ByteArray.mk #[125]
abbrev sElse : ByteArray := ByteArray.mk #[101, 108, 115, 101]
abbrev sEdge : ByteArray := ByteArray.mk #[101, 100, 103, 101]
abbrev sRegs : ByteArray := ByteArray.mk #[114, 101, 103, 115]
abbrev sFunc : ByteArray := ByteArray.mk #[102, 117, 110, 99]
abbrev sMach : ByteArray := ByteArray.mk #[109, 97, 99, 104, 105, 110, 101]
abbrev sG : ByteArray := ByteArray.mk #[103]
abbrev sX : ByteArray := ByteArray.mk #[120]
def opNames : List ByteArray := [⟨#[97, 100, 100]⟩, ⟨#[115, 117, 98]⟩, ⟨#[109, 117, 108]⟩, ⟨#[97, 110, 100]⟩, ⟨#[111, 114]⟩, ⟨#[120, 111, 114]⟩, ⟨#[115, 104, 108]⟩, ⟨#[115, 104, 114]⟩, ⟨#[115, 97, 114]⟩, ⟨#[100, 105, 118]⟩, ⟨#[114, 101, 109]⟩, ⟨#[101, 113]⟩, ⟨#[110, 101]⟩, ⟨#[108, 116]⟩, ⟨#[108, 101]⟩, ⟨#[99, 111, 112, 121]⟩, ⟨#[108, 111, 97, 100]⟩, ⟨#[115, 116, 111, 114, 101]⟩, ⟨#[99, 97, 108, 108]⟩, ⟨#[98, 114]⟩, ⟨#[98, 114, 105, 102]⟩, ⟨#[115, 119, 105, 116, 99, 104]⟩, ⟨#[114, 101, 116]⟩, ⟨#[109, 111, 118, 101]⟩, ⟨#[115, 112, 105, 108, 108]⟩, ⟨#[114, 101, 108, 111, 97, 100]⟩, ⟨#[115, 119, 97, 112]⟩]
def opFindL (s : ByteArray) : List ByteArray → Int → Int
 | [], _ => 0
 | a :: r, i => if beqS a s = true then i else opFindL s r (i + 1)
def opFind (s : ByteArray) : Int := opFindL s opNames 1
def opArgs (o : Int) : Nat := if o = 19 ∨ o = 20 then 0 else if o ≤ 15 ∨ o = 18 ∨ o = 27 then 2 else 1
def signP (s : ByteArray) : Psr Unit := fun l i => if isTk (tokAt l i) s = true then .ok () (i + 1) else .bad 20 (tokAt l i).pos
def takeP (s : ByteArray) : Psr Bool := fun l i => if isTk (tokAt l i) s = true then .ok true (i + 1) else .ok false i
def kindP (k : Int) : Psr LTok := fun l i => if (tokAt l i).kind = k then .ok (tokAt l i) (i + 1) else .bad 20 (tokAt l i).pos
def valueP : Psr Int := fun l i => if (foldV l i).code = 0 then .ok (foldV l i).n (foldV l i).at_.toNat else .bad (foldV l i).code (foldV l i).pos
def bhd (l : List LTok) (i : Nat) : LTok := tokAt l (min (i + 1) (l.length - 1))
def locP : Psr (Int × Int × Int) := fun l i => let t := tokAt l i
 if t.kind = 5 then .ok (2, t.cls, t.num) (i + 1) else if t.kind = 6 then .ok (3, 0, t.num) (i + 1) else .bad 20 t.pos
def opndP : Psr OpT := fun l i =>
 if (tokAt l i).kind = 4 then .ok (1, 0, (tokAt l i).num, 0) (i + 1)
 else if (tokAt l i).kind = 5 ∨ (tokAt l i).kind = 6 then (locP.bind fun p => (signP sColon).bind fun _ => (kindP 4).bind fun v => .ret (p.1, p.2.1, p.2.2, v.num)) l i
 else if isTk (tokAt l i) sNone = true then .ok (0, 0, 0, 0) (i + 1)
 else (valueP.bind fun n => .ret (4, 0, n, 0)) l i
def manyF (c : Psr Bool) (p : Psr α) : Nat → Psr (List α)
 | 0 => fun _ _ => .bad 0 0
 | n + 1 => c.bind fun b => if b = true then p.bind fun a => (manyF c p n).bind fun r => .ret (a :: r) else .ret []
def manyP (c : Psr Bool) (p : Psr α) : Psr (List α) := fun l i => manyF c p (l.length - i) l i
def someP : Psr (List OpT) := opndP.bind fun a => (manyP (takeP sComma) opndP).bind fun r => .ret (a :: r)
def anyP (e : ByteArray) : Psr (List OpT) := (takeP e).bind fun b => if b = true then .ret [] else someP.bind fun r => (signP e).bind fun _ => .ret r
def labelP : Psr ByteArray := (kindP 1).bind fun t => (takeP sDot).bind fun b => if b = true then (kindP 1).bind fun u => .ret (t.text ++ sDot ++ u.text) else .ret t.text
def notIs (s : ByteArray) : Psr Bool := fun l i => .ok (!isTk (tokAt l i) s) i
def caseP : Psr (Int × ByteArray) := valueP.bind fun n => (signP sColon).bind fun _ => labelP.bind fun s => (signP sComma).bind fun _ => .ret (n, s)
def casesP : Psr (List Int × List ByteArray) := (signP sLB).bind fun _ => (manyP (notIs sElse) caseP).bind fun r => (signP sElse).bind fun _ => (signP sColon).bind fun _ => labelP.bind fun s => (signP sRB).bind fun _ => .ret (r.map (·.1), r.map (·.2) ++ [s])
def placesP : Nat → Psr (List OpT)
 | 0 => .ret []
 | n + 1 => opndP.bind fun a => (if n = 0 then .ret () else signP sComma).bind fun _ => (placesP n).bind fun r => .ret (a :: r)
def offP : Psr Int := (takeP sPlus).bind fun b => if b = true then valueP else .ret 0
def restP (o : Int) (d : OpT) : Psr InT :=
 if o = 19 then (kindP 3).bind fun t => (signP sOpen).bind fun _ => (anyP sClose).bind fun a => .ret (o, d, a, t.text, 0, [], [])
 else (placesP (opArgs o)).bind fun a =>
  if o = 17 ∨ o = 18 then offP.bind fun n => .ret (o, d, a, ByteArray.empty, n, [], [])
  else if o = 20 then labelP.bind fun s => .ret (o, d, a, ByteArray.empty, 0, [s], [])
  else if o = 21 then (signP sComma).bind fun _ => labelP.bind fun s => (signP sComma).bind fun _ => labelP.bind fun t => .ret (o, d, a, ByteArray.empty, 0, [s, t], [])
  else if o = 22 then casesP.bind fun c => .ret (o, d, a, ByteArray.empty, 0, c.2, c.1)
  else .ret (o, d, a, ByteArray.empty, 0, [], [])
def opP (gives : Bool) : Psr Int := fun l i =>
 if (tokAt l i).kind = 1 ∧ opFind (tokAt l i).text ≠ 0 then .ok (opFind (tokAt l i).text) (i + 1)
 else .bad 20 (tokAt l (if gives = true then i else i + 1)).pos
def dstP : Psr (Bool × OpT) := fun l i =>
 if (tokAt l i).kind = 1 then .ok (false, 0, 0, 0, 0) i
 else if (tokAt l i).kind = 4 ∨ (tokAt l i).kind = 5 ∨ (tokAt l i).kind = 6 then (opndP.bind fun a => (signP sEq).bind fun _ => .ret (true, a)) l i
 else .bad 20 (tokAt l i).pos
def instrP : Psr InT := dstP.bind fun d => (opP d.1).bind fun o => (restP o d.2).bind fun x => (signP sSemi).bind fun _ => .ret x
def headB (l : List LTok) (i : Nat) : Bool := decide ((tokAt l i).kind = 1) && (isTk (bhd l i) sColon || isTk (bhd l i) sLB || (isTk (tokAt l i) sEdge && decide ((bhd l i).kind = 1)))
def edgeP : Psr Bool := fun l i => if isTk (tokAt l i) sEdge = true ∧ (bhd l i).kind = 1 then .ok true (i + 1) else .ok false i
def inP : Psr (List OpT) := (takeP sLB).bind fun b => if b = true then someP.bind fun r => (signP sRB).bind fun _ => .ret r else .ret []
def moreB : Psr Bool := fun l i => .ok (!isTk (tokAt l i) sRC && !headB l i) i
def nameP (e : Bool) : Psr ByteArray := (kindP 1).bind fun t => if e = true then (signP sDot).bind fun _ => (kindP 1).bind fun u => .ret (t.text ++ sDot ++ u.text) else .ret t.text
def blockP : Psr BkT := edgeP.bind fun e => (nameP e).bind fun s => inP.bind fun a => (signP sColon).bind fun _ => (manyP moreB instrP).bind fun c => .ret (s, e, a, c)
def classP : Psr Int := fun l i => if (tokAt l i).kind = 1 ∧ beqS (tokAt l i).text sG = true then .ok 0 (i + 1) else if (tokAt l i).kind = 1 ∧ beqS (tokAt l i).text sX = true then .ok 1 (i + 1) else .bad 20 (tokAt l i).pos
def regP : Psr (Int × Int) := (kindP 4).bind fun v => (signP sColon).bind fun _ => classP.bind fun c => .ret (v.num, c)
def isKind (k : Int) : Psr Bool := fun l i => .ok (decide ((tokAt l i).kind = k)) i
def regsP : Psr (List (Int × Int)) := (signP sRegs).bind fun _ => regP.bind fun a => (manyP (isKind 4) regP).bind fun r => (signP sSemi).bind fun _ => .ret (a :: r)
def hasRegs : Psr Bool := fun l i => .ok (isTk (tokAt l i) sRegs && decide ((bhd l i).kind = 4)) i
def machP : Psr Bool := (takeP sMach).bind fun b => if b = true then .ret true else (signP sFunc).bind fun _ => .ret false
def optRegs : Psr (List (Int × Int)) := hasRegs.bind fun b => if b = true then regsP else .ret []
def funcP : Psr FuT := machP.bind fun m => (kindP 1).bind fun t => (signP sOpen).bind fun _ => (anyP sClose).bind fun a => (signP sLC).bind fun _ =>
 optRegs.bind fun g => (manyP (notIs sRC) blockP).bind fun bs => (signP sRC).bind fun _ => .ret (m, t.text, g, a, bs)
theorem tokAt_none {l : List LTok} {i : Nat} (h : l.length ≤ i) : tokAt l i = noTok := by
 unfold tokAt
 rw [List.getD, List.getElem?_eq_none h]; rfl
theorem isTk_lt {l : List LTok} {i : Nat} {s : ByteArray} (h : isTk (tokAt l i) s = true) : i < l.length := by
 by_cases hi : i < l.length
 ·exact hi
 ·rw [tokAt_none (by omega)] at h
  exact absurd h (by simp [isTk, noTok, LTok.kind])
theorem num_lt {l : List LTok} {i : Nat} (h : (tokAt l i).kind = 2) : i < l.length := by
 by_cases hi : i < l.length
 ·exact hi
 ·rw [tokAt_none (by omega)] at h
  exact absurd h (by decide)
theorem isTk_kind {t : LTok} {s : ByteArray} (h : isTk t s = true) : t.kind ≠ 2 := by
 intro e
 unfold isTk at h
 rw [e] at h
 simp at h
theorem isTk_two {t : LTok} {s u : ByteArray} (h : isTk t s = true) (hne : beqS s u = false) : isTk t u = false := by
 unfold isTk at *
 rw [Bool.and_eq_true] at h
 have e : t.text = s := (beqS_iff _ _).1 h.2
 rw [e, hne, Bool.and_false]
def frN (f : Fr) (n : Int) : Fr := ⟨f.sum, f.add, n, false, false⟩
theorem number_plain (f : Fr) (n : Int) (h1 : f.minus = false) (h2 : f.times = false) : f.number n = frN f n := by
 unfold Fr.number
 rw [h1, h2]; rfl
theorem number_times (f : Fr) (n : Int) (h1 : f.minus = false) : ({ f with times := true } : Fr).number n = frN f (w64 (f.prod * n)) := by
 unfold Fr.number
 dsimp only
 rw [h1]; rfl
theorem number_minus (f : Fr) (n : Int) (h1 : f.minus = false) : ({ f with minus := true } : Fr).number n = f.number (w64 (0 - n)) := by
 unfold Fr.number
 dsimp only
 rw [h1]; rfl
theorem w64_add0 {n : Int} (h : in64 n) : w64 (0 + n) = n := by rw [Int.zero_add]; exact w64_id h
theorem w64_sub (a b : Int) : w64 (a - b) = w64 (a + w64 (0 - b)) := by
 rw [w64_eq, w64_eq, w64_eq (0 - b), Int.add_bmod_bmod]
 congr 1; omega
def FM (l : List LTok) (m : Bool) (st : List Fr) (n : Int) (a : Nat) : FRes := foldM l (l.length + 1 - a) m st n a
def aft (l : List LTok) (f : Fr) (r : List Fr) (a : Nat) : FRes :=
 match f.sign (tokAt l a) with
 | some f' => FM l true (f' :: r) 0 (a + 1)
 | none => if isTk (tokAt l a) sClose = false then .bad 20 (tokAt l a)
   else if r = [] then .ok f.close (a + 1 : Nat) else FM l false r f.close (a + 1)
theorem FM_true {l : List LTok} {f : Fr} {r : List Fr} {n : Int} {a : Nat} (h : a ≤ l.length) : FM l true (f :: r) n a =
 if isTk (tokAt l a) sOpen = true then
  if (f :: r).length = 32 then .bad 21 (tokAt l a) else FM l true (Fr.fresh :: f :: r) 0 (a + 1)
 else if isTk (tokAt l a) sMinus = true ∧ f.minus = false then FM l true ({ f with minus := true } :: r) 0 (a + 1)
  else if (tokAt l a).kind ≠ 2 then .bad 20 (tokAt l a)
  else if (tokAt l a).num < 0 ∧ f.minus = false then .bad 2 (tokAt l a)
  else FM l false (f :: r) (tokAt l a).num (a + 1) := by
 unfold FM
 rw [show l.length + 1 - a = (l.length + 1 - (a + 1)) + 1 by omega, foldM]
theorem FM_false {l : List LTok} {f : Fr} {r : List Fr} {n : Int} {a : Nat} (h : a ≤ l.length) : FM l false (f :: r) n a = aft l (f.number n) r a := by
 unfold aft FM
 rw [show l.length + 1 - a = (l.length + 1 - (a + 1)) + 1 by omega, foldM]
 all_goals rfl
def thenF (x : FRes) (k : Int → Nat → FRes) : FRes := if x.code ≠ 0 then x else k x.n x.at_.toNat
theorem thenF_ok (n : Int) (a : Nat) (k : Int → Nat → FRes) : thenF (.ok n (a : Int)) k = k n a := by
 unfold thenF FRes.ok; simp
theorem thenF_bad {x : FRes} (h : x.code ≠ 0) (k : Int → Nat → FRes) : thenF x k = x := by
 unfold thenF; rw [if_pos h]
def Fine (l : List LTok) (a : Nat) (x : FRes) : Prop := x.code = 0 → ∃ (n : Int) (b : Nat), x = .ok n b ∧ in64 n ∧ a < b ∧ b ≤ l.length
theorem fine_bad (l : List LTok) (a : Nat) {x : FRes} (hc : x.code ≠ 0) : Fine l a x := fun h => absurd h hc
theorem fine_ok {l : List LTok} {a b : Nat} {n : Int} (h : in64 n) (h1 : a < b) (h2 : b ≤ l.length) : Fine l a (.ok n b) := fun _ => ⟨n, b, rfl, h, h1, h2⟩
theorem Fine.mono {l : List LTok} {a a' : Nat} {x : FRes} (h : Fine l a x) (hl : a' ≤ a) : Fine l a' x := fun hc => by
 obtain ⟨n, b, e, h1, h2, h3⟩ := h hc
 exact ⟨n, b, e, h1, by omega, h3⟩
theorem moreS_bad (l : List LTok) (k : Nat) (x : FRes) (d : Nat) (h : x.code ≠ 0) : moreS l (k + 1) x d = x := by
 rw [moreS, if_neg (fun h' => h h'.1)]
theorem ok_inj {n m : Int} {a b : Nat} (h : FRes.ok n (a : Int) = FRes.ok m (b : Int)) : n = m ∧ a = b := by
 unfold FRes.ok at h
 simp at h
 exact ⟨h.1, by omega⟩
theorem ok_at (n : Int) (a : Nat) : (FRes.ok n (a : Int)).at_.toNat = a := by simp [FRes.ok]
def Fac (l : List LTok) (N : Nat) : Prop := ∀ (a : Nat), a ≤ l.length → l.length - a < N → ∀ (f : Fr) (r : List Fr) (n : Int) (k : Nat), f.minus = false → r.length < 32 → 4 * (l.length - a) + 1 ≤ k →
 Fine l a (factorS l k a (r.length + 1)) ∧ FM l true (f :: r) n a = thenF (factorS l k a (r.length + 1)) fun v b => aft l (f.number v) r b
def SumS (l : List LTok) (N : Nat) : Prop := ∀ (a : Nat), a ≤ l.length → l.length - a < N → ∀ (r : List Fr) (n : Int) (k : Nat), r.length < 32 → 4 * (l.length - a) + 4 ≤ k →
 Fine l a (sumS l k a (r.length + 1)) ∧ FM l true (Fr.fresh :: r) n a = thenF (sumS l k a (r.length + 1)) fun v b => if r = [] then .ok v b else FM l false r v b
theorem aft_times {l : List LTok} {f : Fr} {r : List Fr} {a : Nat} (h : isTk (tokAt l a) sTimes = true) : aft l f r a = FM l true ({ f with times := true } :: r) 0 (a + 1) := by
 unfold aft Fr.sign
 rw [if_pos h]
theorem more_p {l : List LTok} {N : Nat} (H : Fac l N) : ∀ (m a : Nat), a ≤ l.length → l.length - a ≤ m → l.length - a ≤ N → ∀ (f : Fr) (r : List Fr) (k : Nat), f.minus = false → f.times = false → in64 f.prod → r.length < 32 → 4 * (l.length - a) + 1 ≤ k →
 (∀ a0, a0 < a → Fine l a0 (moreP l k (.ok f.prod a) (r.length + 1))) ∧
 (aft l f r a = thenF (moreP l k (.ok f.prod a) (r.length + 1)) fun v b => aft l (frN f v) r b) ∧ ∀ v (b : Nat), moreP l k (.ok f.prod a) (r.length + 1) = .ok v b → isTk (tokAt l b) sTimes = false
 | m, a, ha, hm, hN, f, r, k, h1, h2, hp, hr, hk => by
   obtain ⟨k, rfl⟩ : ∃ j, k = j + 1 := ⟨k - 1, by omega⟩
   rw [moreP]
   have ef : frN f f.prod = f := by cases f; simp at h1 h2; subst h1; subst h2; rfl
   have en : (FRes.ok f.prod (a : Int)).n = f.prod := rfl
   by_cases ht : isTk (tokAt l a) sTimes = true
   ·rw [if_pos ⟨rfl, by rw [ok_at]; exact ht⟩]
    rw [ok_at, en]
    have hlt := isTk_lt ht
    obtain ⟨m, rfl⟩ : ∃ j, m = j + 1 := ⟨m - 1, by omega⟩
    obtain ⟨g1, g2⟩ := H (a + 1) (by omega) (by omega) { f with times := true } r 0 k h1 hr (by omega)
    rw [aft_times ht, g2]
    dsimp only
    by_cases hc : (factorS l k (a + 1) (r.length + 1)).code = 0
    ·obtain ⟨v, b, e, hv, hb1, hb2⟩ := g1 hc
     rw [e, thenF_ok, number_times f v h1, if_neg (by simp [FRes.ok])]
     obtain ⟨g3, g4, g5⟩ := more_p H m b (by omega) (by omega) (by omega) (frN f (w64 (f.prod * v))) r k rfl rfl (w64_in _) hr (by omega)
     exact ⟨fun a0 h0 => g3 a0 (by omega), g4, g5⟩
    ·rw [if_pos hc]
     refine ⟨fun a0 _ => fine_bad l a0 hc, ?_, fun v b e => absurd (by rw [e]; rfl) hc⟩
     rw [thenF_bad hc, thenF_bad hc]
   ·rw [if_neg (fun h => ht (by rw [ok_at] at h; exact h.2))]
    refine ⟨fun a0 h0 => fine_ok hp h0 ha, ?_, ?_⟩
    ·rw [thenF_ok, ef]
    ·intro v b e
     obtain ⟨_, rfl⟩ := ok_inj e
     simpa using ht
theorem prod_s {l : List LTok} {N : Nat} (H : Fac l N) (a : Nat) (ha : a ≤ l.length) (hN : l.length - a < N) (f : Fr) (r : List Fr) (n : Int) (k : Nat) (h1 : f.minus = false) (h2 : f.times = false) (hr : r.length < 32) (hk : 4 * (l.length - a) + 2 ≤ k) :
 Fine l a (productS l k a (r.length + 1)) ∧
 (FM l true (f :: r) n a = thenF (productS l k a (r.length + 1)) fun v b => aft l (frN f v) r b) ∧ ∀ v (b : Nat), productS l k a (r.length + 1) = .ok v b → isTk (tokAt l b) sTimes = false := by
 obtain ⟨k, rfl⟩ : ∃ j, k = j + 1 := ⟨k - 1, by omega⟩
 rw [productS]
 obtain ⟨g1, g2⟩ := H a ha hN f r n k h1 hr (by omega)
 rw [g2]
 by_cases hc : (factorS l k a (r.length + 1)).code = 0
 ·obtain ⟨v, b, e, hv, hb1, hb2⟩ := g1 hc
  rw [e, thenF_ok, number_plain f v h1 h2]
  obtain ⟨g3, g4, g5⟩ := more_p H (l.length - b) b hb2 (Nat.le_refl _) (by omega) (frN f v) r k rfl rfl hv hr (by omega)
  exact ⟨g3 a hb1, g4, g5⟩
 ·obtain ⟨k, rfl⟩ : ∃ j, k = j + 1 := ⟨k - 1, by omega⟩
  rw [thenF_bad hc, moreP, if_neg (fun h => hc h.1), thenF_bad hc]
  exact ⟨fine_bad l a hc, rfl, fun v b e => absurd (by rw [e]; rfl) hc⟩
def behS (l : List LTok) (r : List Fr) (x : FRes) : FRes := thenF x fun v b => if isTk (tokAt l b) sClose = false then .bad 20 (tokAt l b) else if r = [] then .ok v (b + 1 : Nat) else FM l false r v (b + 1)
theorem more_s {l : List LTok} {N : Nat} (H : Fac l N) : ∀ (m a : Nat), a ≤ l.length → l.length - a ≤ m → l.length - a ≤ N → ∀ (f : Fr) (r : List Fr) (k : Nat) (s : Int), f.minus = false → f.times = false → f.close = s → in64 s → isTk (tokAt l a) sTimes = false → r.length < 32 → 4 * (l.length - a) + 1 ≤ k →
 (∀ a0, a0 < a → Fine l a0 (moreS l k (.ok s a) (r.length + 1))) ∧
 (aft l f r a = behS l r (moreS l k (.ok s a) (r.length + 1)))
 | m, a, ha, hm, hN, f, r, k, s, h1, h2, hs, hi, ht, hr, hk => by
   obtain ⟨k, rfl⟩ : ∃ j, k = j + 1 := ⟨k - 1, by omega⟩
   rw [moreS]
   have en : (FRes.ok s (a : Int)).n = s := rfl
   by_cases hpm : isTk (tokAt l a) sPlus = true ∨ isTk (tokAt l a) sMinus = true
   ·rw [if_pos ⟨rfl, by rw [ok_at]; exact hpm⟩]
    rw [ok_at, en]
    have hlt : a < l.length := hpm.elim isTk_lt isTk_lt
    obtain ⟨m, rfl⟩ : ∃ j, m = j + 1 := ⟨m - 1, by omega⟩
    have go : ∀ (op : Int) (g : Int → Int), (∀ y, in64 y → doF op s y = g y) → (∀ y, in64 (g y)) → aft l f r a = FM l true ({ f with sum := s, add := op } :: r) 0 (a + 1) →
     (∀ a0, a0 < a → Fine l a0 (if (productS l k (a + 1) (r.length + 1)).code ≠ 0 then productS l k (a + 1) (r.length + 1) else moreS l k (.ok (g (productS l k (a + 1) (r.length + 1)).n) (productS l k (a + 1) (r.length + 1)).at_) (r.length + 1))) ∧
     (aft l f r a = behS l r (if (productS l k (a + 1) (r.length + 1)).code ≠ 0 then productS l k (a + 1) (r.length + 1) else moreS l k (.ok (g (productS l k (a + 1) (r.length + 1)).n) (productS l k (a + 1) (r.length + 1)).at_) (r.length + 1))) := by
     intro op g hg hgi he
     obtain ⟨g1, g2, g3⟩ := prod_s H (a + 1) (by omega) (by omega) { f with sum := s, add := op } r 0 k h1 h2 hr (by omega)
     rw [he, g2]
     by_cases hc : (productS l k (a + 1) (r.length + 1)).code = 0
     ·obtain ⟨v, b, e, hv, hb1, hb2⟩ := g1 hc
      have g3' := g3 v b e
      rw [e, thenF_ok, if_neg (by simp [FRes.ok])]
      obtain ⟨g4, g5⟩ := more_s H m b (by omega) (by omega) (by omega) (frN { f with sum := s, add := op } v) r k (g v) rfl rfl (by rw [← hg v hv]; rfl) (hgi v) g3' hr (by omega)
      exact ⟨fun a0 h0 => g4 a0 (by omega), g5⟩
     ·rw [if_pos hc, thenF_bad hc]
      refine ⟨fun a0 _ => fine_bad l a0 hc, ?_⟩
      unfold behS
      rw [thenF_bad hc]
    by_cases hp : isTk (tokAt l a) sPlus = true
    ·have hnm := isTk_two (u := sMinus) hp (by decide)
     simp only [hnm, if_neg (Bool.false_ne_true)]
     refine go 1 (fun y => w64 (s + y)) (fun y _ => rfl) (fun y => w64_in _) ?_
     unfold aft Fr.sign
     rw [if_neg (by rw [ht]; decide), if_pos hp, hs]
    ·have hmn := hpm.resolve_left hp
     simp only [hmn, if_true]
     refine go 2 (fun y => w64 (s + w64 (0 - y))) (fun y _ => (w64_sub s y)) (fun y => w64_in _) ?_
     unfold aft Fr.sign
     rw [if_neg (by rw [ht]; decide), if_neg hp, if_pos hmn, hs]
   ·rw [if_neg (fun h => hpm (by rw [ok_at] at h; exact h.2))]
    refine ⟨fun a0 h0 => fine_ok hi h0 ha, ?_⟩
    unfold behS
    rw [thenF_ok]
    unfold aft Fr.sign
    rw [if_neg (by rw [ht]; decide), if_neg (fun h => hpm (.inl h)), if_neg (fun h => hpm (.inr h)), hs]
theorem sum_s {l : List LTok} {N : Nat} (H : Fac l N) : SumS l N := by
 intro a ha hN r n k hr hk
 obtain ⟨k, rfl⟩ : ∃ j, k = j + 1 := ⟨k - 1, by omega⟩
 rw [sumS]
 obtain ⟨g1, g2, g3⟩ := prod_s H a ha hN Fr.fresh r n k rfl rfl hr (by omega)
 rw [g2]
 by_cases hc : (productS l k a (r.length + 1)).code = 0
 ·obtain ⟨v, b, e, hv, hb1, hb2⟩ := g1 hc
  have g3' := g3 v b e
  rw [e, thenF_ok]
  obtain ⟨g4, g5⟩ := more_s H (l.length - b) b hb2 (Nat.le_refl _) (by omega) (frN Fr.fresh v) r k v rfl rfl (w64_add0 hv) hv g3' hr (by omega)
  rw [g5]
  have g6 := g4 a hb1
  generalize moreS l k (.ok v b) (r.length + 1) = x at *
  unfold behS
  by_cases hx : x.code = 0
  ·obtain ⟨w, c, rfl, hw, hc1, hc2⟩ := g6 hx
   rw [thenF_ok, if_neg (by simp [FRes.ok]), ok_at]
   by_cases hcl : isTk (tokAt l c) sClose = false
   ·rw [if_pos hcl, if_pos hcl]
    have hb : (FRes.bad 20 (tokAt l c)).code ≠ 0 := by simp [FRes.bad]
    exact ⟨fine_bad l a hb, (thenF_bad hb _).symm⟩
   ·rw [if_neg hcl, if_neg hcl]
    have e1 : ({ FRes.ok w (c : Int) with at_ := (FRes.ok w (c : Int)).at_ + 1 } : FRes) = .ok w ((c + 1 : Nat) : Int) := rfl
    rw [e1, thenF_ok]
    have := isTk_lt (by simpa using hcl)
    exact ⟨fine_ok hw (by omega) (by omega), rfl⟩
  ·rw [thenF_bad hx, if_pos hx, thenF_bad hx]
   exact ⟨fine_bad l a hx, rfl⟩
 ·obtain ⟨k, rfl⟩ : ∃ j, k = j + 1 := ⟨k - 1, by omega⟩
  rw [thenF_bad hc, moreS_bad l k _ _ hc, if_pos hc, thenF_bad hc]
  exact ⟨fine_bad l a hc, rfl⟩
def facB (l : List LTok) (k b : Nat) (d : Nat) (m : Bool) : FRes :=
 if isTk (tokAt l b) sOpen = true ∧ d > 0 then
  if d ≥ 32 then .bad 21 (tokAt l b)
  else
   if (sumS l k (b + 1) (d + 1)).code ≠ 0 then sumS l k (b + 1) (d + 1) else .ok (if m = true then w64 (0 - (sumS l k (b + 1) (d + 1)).n) else (sumS l k (b + 1) (d + 1)).n) (sumS l k (b + 1) (d + 1)).at_
 else if (tokAt l b).kind ≠ 2 then .bad 20 (tokAt l b)
 else if (tokAt l b).num < 0 ∧ m = false then .bad 2 (tokAt l b)
 else .ok (if m = true then w64 (0 - (tokAt l b).num) else (tokAt l b).num) (b + 1 : Nat)
theorem factorS_eq (l : List LTok) (k a d : Nat) : factorS l (k + 1) a d = if isTk (tokAt l a) sMinus = true then facB l k (a + 1) d true else facB l k a d false := by
 rw [factorS]
 unfold facB
 by_cases hm : isTk (tokAt l a) sMinus = true
 ·rw [if_pos hm]
  simp only [hm, if_true]
 ·have hm' : isTk (tokAt l a) sMinus = false := by simpa using hm
  rw [if_neg hm]
  simp only [hm', Bool.false_eq_true, if_false]
theorem facB_s {l : List LTok} (hl : ∀ i, in64 (tokAt l i).num) {N : Nat} (H : SumS l N) (b : Nat) (hb : b ≤ l.length) (hN : l.length - b < N + 1) (f g : Fr) (r : List Fr) (n : Int) (k : Nat) (hr : r.length < 32) (hk : 4 * (l.length - b) ≤ k)
 (hg : ∀ v, g.number v = f.number (if g.minus = true then w64 (0 - v) else v)) (hnm : ¬ (isTk (tokAt l b) sMinus = true ∧ g.minus = false)) :
 Fine l b (facB l k b (r.length + 1) g.minus) ∧ FM l true (g :: r) n b = thenF (facB l k b (r.length + 1) g.minus) fun v b => aft l (f.number v) r b := by
 have hci : ∀ v, in64 v → in64 (if g.minus = true then w64 (0 - v) else v) := by
  intro v hv
  split
  ·exact w64_in _
  ·exact hv
 unfold facB
 rw [FM_true hb]
 by_cases ho : isTk (tokAt l b) sOpen = true
 ·have hlt := isTk_lt ho
  have hd0 : isTk (tokAt l b) sOpen = true ∧ r.length + 1 > 0 := ⟨ho, by omega⟩
  rw [if_pos ho, if_pos hd0]
  by_cases hd : r.length + 1 ≥ 32
  ·have hd2 : (g :: r).length = 32 := by rw [List.length_cons]; omega
   rw [if_pos hd, if_pos hd2]
   have hb : (FRes.bad 21 (tokAt l b)).code ≠ 0 := by simp [FRes.bad]
   exact ⟨fine_bad l b hb, (thenF_bad hb _).symm⟩
  ·have hd2 : ¬ (g :: r).length = 32 := by rw [List.length_cons]; omega
   rw [if_neg hd, if_neg hd2]
   obtain ⟨g1, g2⟩ := H (b + 1) (by omega) (by omega) (g :: r) 0 k (by rw [List.length_cons]; omega) (by omega)
   rw [List.length_cons] at g1 g2
   rw [g2]
   by_cases hc : (sumS l k (b + 1) (r.length + 1 + 1)).code = 0
   ·obtain ⟨v, e, he, hv, he1, he2⟩ := g1 hc
    have hx : ¬ (FRes.ok v (e : Int)).code ≠ 0 := by simp [FRes.ok]
    have hcons : ¬ (g :: r) = [] := by simp
    rw [he, if_neg hx, thenF_ok, if_neg hcons, FM_false (by omega), hg v]
    show Fine l b (.ok (if g.minus = true then w64 (0 - v) else v) (e : Int)) ∧ _ = thenF (.ok (if g.minus = true then w64 (0 - v) else v) (e : Int)) _
    rw [thenF_ok]
    exact ⟨fine_ok (hci v hv) (by omega) he2, rfl⟩
   ·rw [if_pos hc, thenF_bad hc, thenF_bad hc]
    exact ⟨fine_bad l b hc, rfl⟩
 ·have hd0 : ¬ (isTk (tokAt l b) sOpen = true ∧ r.length + 1 > 0) := fun h => ho h.1
  rw [if_neg ho, if_neg hd0, if_neg hnm]
  by_cases hk2 : (tokAt l b).kind ≠ 2
  ·rw [if_pos hk2, if_pos hk2]
   have hb : (FRes.bad 20 (tokAt l b)).code ≠ 0 := by simp [FRes.bad]
   exact ⟨fine_bad l b hb, (thenF_bad hb _).symm⟩
  ·have hlt := num_lt (by simpa using hk2)
   rw [if_neg hk2, if_neg hk2]
   by_cases hn : (tokAt l b).num < 0 ∧ g.minus = false
   ·rw [if_pos hn, if_pos hn]
    have hb : (FRes.bad 2 (tokAt l b)).code ≠ 0 := by simp [FRes.bad]
    exact ⟨fine_bad l b hb, (thenF_bad hb _).symm⟩
   ·rw [if_neg hn, if_neg hn, thenF_ok, FM_false (by omega), hg]
    exact ⟨fine_ok (hci _ (hl b)) (by omega) (by omega), rfl⟩
theorem fac_s {l : List LTok} (hl : ∀ i, in64 (tokAt l i).num) {N : Nat} (H : SumS l N) : Fac l (N + 1) := by
 intro a ha hN f r n k h1 hr hk
 obtain ⟨k, rfl⟩ : ∃ j, k = j + 1 := ⟨k - 1, by omega⟩
 rw [factorS_eq]
 by_cases hm : isTk (tokAt l a) sMinus = true
 ·have hlt := isTk_lt hm
  have no := isTk_two (u := sOpen) hm (by decide)
  have hno : ¬ isTk (tokAt l a) sOpen = true := by rw [no]; decide
  rw [if_pos hm, FM_true ha, if_neg hno, if_pos ⟨hm, h1⟩]
  obtain ⟨g1, g2⟩ := facB_s hl H (a + 1) (by omega) (by omega) f { f with minus := true } r 0 k hr (by omega) (fun v => by rw [if_pos rfl]; exact number_minus f v h1) (fun h => absurd h.2 (by simp))
  exact ⟨Fine.mono g1 (by omega), g2⟩
 ·rw [if_neg hm]
  have := facB_s hl H a ha hN f f r n k hr (by omega) (fun v => by rw [h1, if_neg (by decide)]) (fun h => hm h.1)
  rw [h1] at this
  exact this
theorem fac_all {l : List LTok} (hl : ∀ i, in64 (tokAt l i).num) : ∀ N, Fac l N
 | 0 => fun a ha hN => absurd hN (by omega)
 | N + 1 => fac_s hl (sum_s (fac_all hl N))
theorem FM_sum {l : List LTok} (hl : ∀ i, in64 (tokAt l i).num) {a : Nat} (ha : a ≤ l.length) {k : Nat} (hk : 4 * (l.length - a) + 4 ≤ k) (n : Int) :
 FM l true [Fr.fresh] n a = sumS l k a 1 ∧ Fine l a (sumS l k a 1) := by
 obtain ⟨g1, g2⟩ := sum_s (fac_all hl (l.length + 1)) a ha (by omega) [] n k (by simp) hk
 refine ⟨?_, g1⟩
 rw [g2]
 show thenF (sumS l k a 1) _ = _
 have g1 : Fine l a (sumS l k a 1) := g1
 generalize sumS l k a 1 = x at *
 by_cases hc : x.code = 0
 ·obtain ⟨v, b, rfl, _⟩ := g1 hc
  rw [thenF_ok, if_pos rfl]
 ·rw [thenF_bad hc]
variable {α β : Type}
structure LexP (l : List LTok) : Prop where
 last : lastKind l = 0
 num : ∀ i, in64 (tokAt l i).num
 txt : ∀ i, (tokAt l i).text.size ≤ 65536
 len : l.length ≤ 1000000000
def Stay (p : Psr α) : Prop := ∀ l, LexP l → ∀ i a j, i < l.length → p l i = .ok a j → i ≤ j ∧ j < l.length
def Step (p : Psr α) : Prop := ∀ l, LexP l → ∀ i a j, i < l.length → p l i = .ok a j → i < j ∧ j < l.length
theorem Step.stay {p : Psr α} (h : Step p) : Stay p := fun l hl i a j hi hp => ⟨Nat.le_of_lt (h l hl i a j hi hp).1, (h l hl i a j hi hp).2⟩
theorem stay_ret (a : α) : Stay (Psr.ret a) := by
 intro l hl i b j hi hp
 cases hp
 exact ⟨Nat.le_refl _, hi⟩
theorem bind_ok {p : Psr α} {f : α → Psr β} {l : List LTok} {i j : Nat} {b : β} (h : p.bind f l i = .ok b j) : ∃ a m, p l i = .ok a m ∧ f a l m = .ok b j := by
 unfold Psr.bind at h
 split at h
 ·rename_i a m e
  exact ⟨a, m, e, h⟩
 ·cases h
theorem stay_bind {p : Psr α} {f : α → Psr β} (h : Stay p) (hf : ∀ a, Stay (f a)) : Stay (p.bind f) := by
 intro l hl i b j hi hp
 obtain ⟨a, m, h1, h2⟩ := bind_ok hp
 obtain ⟨g1, g2⟩ := h l hl i a m hi h1
 obtain ⟨g3, g4⟩ := hf a l hl m b j g2 h2
 exact ⟨Nat.le_trans g1 g3, g4⟩
theorem step_bind {p : Psr α} {f : α → Psr β} (h : Step p) (hf : ∀ a, Stay (f a)) : Step (p.bind f) := by
 intro l hl i b j hi hp
 obtain ⟨a, m, h1, h2⟩ := bind_ok hp
 obtain ⟨g1, g2⟩ := h l hl i a m hi h1
 obtain ⟨g3, g4⟩ := hf a l hl m b j g2 h2
 exact ⟨Nat.lt_of_lt_of_le g1 g3, g4⟩
theorem step_bind' {p : Psr α} {f : α → Psr β} (h : Stay p) (hf : ∀ a, Step (f a)) : Step (p.bind f) := by
 intro l hl i b j hi hp
 obtain ⟨a, m, h1, h2⟩ := bind_ok hp
 obtain ⟨g1, g2⟩ := h l hl i a m hi h1
 obtain ⟨g3, g4⟩ := hf a l hl m b j g2 h2
 exact ⟨Nat.lt_of_le_of_lt g1 g3, g4⟩
theorem not_last {l : List LTok} (h : lastKind l = 0) {i : Nat} (hi : i < l.length) (hk : (tokAt l i).kind ≠ 0) : i + 1 < l.length := by
 rcases Nat.lt_or_ge (i + 1) l.length with h1 | h1
 ·exact h1
 ·exfalso
  apply hk
  have : i = l.length - 1 := by omega
  rw [this]; exact h
theorem isTk_ne {t : LTok} {s : ByteArray} (h : isTk t s = true) : t.kind ≠ 0 := by
 unfold isTk at h
 rw [Bool.and_eq_true, Bool.or_eq_true, decide_eq_true_eq, decide_eq_true_eq] at h
 rcases h.1 with h | h <;> omega
theorem step_sign (s : ByteArray) : Step (signP s) := by
 intro l hl i a j hi hp
 unfold signP at hp
 split at hp
 ·rename_i h
  cases hp
  exact ⟨Nat.lt_succ_self _, not_last hl.last hi (isTk_ne h)⟩
 ·cases hp
theorem stay_take (s : ByteArray) : Stay (takeP s) := by
 intro l hl i a j hi hp
 unfold takeP at hp
 split at hp
 ·rename_i h
  cases hp
  exact ⟨Nat.le_succ _, not_last hl.last hi (isTk_ne h)⟩
 ·cases hp; exact ⟨Nat.le_refl _, hi⟩
theorem step_kind {k : Int} (hk : k ≠ 0) : Step (kindP k) := by
 intro l hl i a j hi hp
 unfold kindP at hp
 split at hp
 ·rename_i h
  cases hp
  exact ⟨Nat.lt_succ_self _, not_last hl.last hi (by rw [h]; exact hk)⟩
 ·cases hp
theorem plainF_m {l : List LTok} {i : Nat} (h : isTk (tokAt l i) sMinus = true) : plainF l i = if (tokAt l (i + 1)).kind ≠ 2 then .bad 20 (tokAt l (i + 1)) else .ok (w64 (0 - (tokAt l (i + 1)).num)) (i + 1 + 1 : Nat) := by
 unfold plainF
 simp only [h, if_true]
theorem plainF_n {l : List LTok} {i : Nat} (h : isTk (tokAt l i) sMinus = false) : plainF l i = if (tokAt l i).kind ≠ 2 then .bad 20 (tokAt l i) else if (tokAt l i).num < 0 then .bad 2 (tokAt l i) else .ok (tokAt l i).num (i + 1 : Nat) := by
 unfold plainF
 simp only [h, Bool.false_eq_true, if_false]
theorem foldV_in {l : List LTok} (hl : LexP l) {i : Nat} (hi : i < l.length) (h : (foldV l i).code = 0) : ∃ (n : Int) (b : Nat), foldV l i = .ok n b ∧ in64 n ∧ i < b ∧ b < l.length := by
 unfold foldV at h ⊢
 rw [if_neg (by rw [hl.last]; omega), Int.toNat_natCast] at h ⊢
 split at h
 ·rename_i ho
  rw [if_pos ho]
  have key : ∀ a, (tokAt l a).kind = 2 → a + 1 < l.length := fun a hk => not_last hl.last (num_lt hk) (by rw [hk]; decide)
  cases hm : isTk (tokAt l i) sMinus with
  | true =>
    rw [plainF_m hm] at h ⊢
    by_cases h2 : (tokAt l (i + 1)).kind = 2
    ·rw [if_neg (fun h => h h2)]
     exact ⟨_, _, rfl, w64_in _, by omega, key _ h2⟩
    ·rw [if_pos h2] at h; exact absurd (show (20 : Int) = 0 from h) (by decide)
  | false =>
    rw [plainF_n hm] at h ⊢
    by_cases h2 : (tokAt l i).kind = 2
    ·rw [if_neg (fun h => h h2)] at h ⊢
     by_cases h3 : (tokAt l i).num < 0
     ·rw [if_pos h3] at h; exact absurd (show (2 : Int) = 0 from h) (by decide)
     ·rw [if_neg h3]
      exact ⟨_, _, rfl, hl.num _, by omega, key _ h2⟩
    ·rw [if_pos h2] at h; exact absurd (show (20 : Int) = 0 from h) (by decide)
 ·rename_i ho
  have ho : isTk (tokAt l i) sOpen = true := by simpa using ho
  rw [if_neg (by rw [ho]; decide)]
  rw [show l.length + 1 - i = (l.length + 1 - (i + 1)) + 1 by omega, foldM, if_pos ho, if_neg (by simp)] at h ⊢
  obtain ⟨e, hF⟩ := FM_sum hl.num (a := i + 1) (by omega) (k := 4 * (l.length - (i + 1)) + 3 + 1) (by omega) 0
  rw [show foldM l (l.length + 1 - (i + 1)) true [Fr.fresh] 0 (i + 1) = FM l true [Fr.fresh] 0 (i + 1) from rfl] at h ⊢
  rw [e] at h ⊢
  obtain ⟨n, b, e1, h1, h2, h3⟩ := hF h
  refine ⟨n, b, e1, h1, by omega, ?_⟩
  rw [sumS] at e1
  split at e1
  ·rename_i hc
   rw [e1] at hc
   exact absurd rfl hc
  ·split at e1
   ·rename_i hc; cases e1
   ·rename_i hc hs
    have hs : isTk (tokAt l (moreS l (4 * (l.length - (i + 1)) + 3) (productS l (4 * (l.length - (i + 1)) + 3) (i + 1) 1) 1).at_.toNat) sClose = true := by simpa using hs
    generalize moreS l (4 * (l.length - (i + 1)) + 3) (productS l (4 * (l.length - (i + 1)) + 3) (i + 1) 1) 1 = x at *
    have e2 := congrArg FRes.at_ e1
    have e2 : x.at_ + 1 = (b : Int) := e2
    have := not_last hl.last (isTk_lt hs) (isTk_ne hs)
    omega
theorem step_value : Step valueP := by
 intro l hl i a j hi hp
 unfold valueP at hp
 split at hp
 ·rename_i h
  obtain ⟨n, b, e, _, h1, h2⟩ := foldV_in hl hi h
  rw [e] at hp
  cases hp
  rw [ok_at]
  exact ⟨h1, h2⟩
 ·cases hp
theorem step_loc : Step locP := by
 intro l hl i a j hi hp
 unfold locP at hp
 dsimp only at hp
 split at hp
 ·rename_i h; cases hp; exact ⟨Nat.lt_succ_self _, not_last hl.last hi (by rw [h]; decide)⟩
 ·split at hp
  ·rename_i h; cases hp; exact ⟨Nat.lt_succ_self _, not_last hl.last hi (by rw [h]; decide)⟩
  ·cases hp
theorem step_opnd : Step opndP := by
 intro l hl i a j hi hp
 unfold opndP at hp
 split at hp
 ·rename_i h; cases hp; exact ⟨Nat.lt_succ_self _, not_last hl.last hi (by rw [h]; decide)⟩
 ·split at hp
  ·exact step_bind step_loc (fun p => stay_bind (step_sign _).stay fun _ => stay_bind (step_kind (by decide)).stay fun _ => stay_ret _) l hl i a j hi hp
  ·split at hp
   ·rename_i h; cases hp; exact ⟨Nat.lt_succ_self _, not_last hl.last hi (isTk_ne h)⟩
   ·exact step_bind step_value (fun _ => stay_ret _) l hl i a j hi hp
theorem stay_many {c : Psr Bool} {p : Psr α} (hc : Stay c) (hp : Stay p) : ∀ n, Stay (manyF c p n)
 | 0 => fun l hl i a j hi h => by cases h
 | n + 1 => by
   unfold manyF
   refine stay_bind hc fun b => ?_
   split
   ·exact stay_bind hp fun a => stay_bind (stay_many hc hp n) fun r => stay_ret _
   ·exact stay_ret _
theorem stay_manyP {c : Psr Bool} {p : Psr α} (hc : Stay c) (hp : Stay p) : Stay (manyP c p) := fun l hl i a j hi h => stay_many hc hp _ l hl i a j hi h
theorem many_fuel {c : Psr Bool} {p : Psr α} (hc : Stay c) (hp : Step p) {l : List LTok} (hl : LexP l) : ∀ n m i, i < l.length → l.length - i ≤ n → l.length - i ≤ m → manyF c p n l i = manyF c p m l i
 | 0, _, i, hi, h1, _ => by omega
 | _, 0, i, hi, _, h2 => by omega
 | n + 1, m + 1, i, hi, h1, h2 => by
   unfold manyF
   unfold Psr.bind
   cases e : c l i with
   | bad q r => rfl
   | ok b j =>
     dsimp only
     obtain ⟨g1, g2⟩ := hc l hl i b j hi e
     cases b with
     | false => rfl
     | true =>
       simp only [if_true]
       cases e2 : p l j with
       | bad q r => rfl
       | ok a j2 =>
         dsimp only
         obtain ⟨g3, g4⟩ := hp l hl j a j2 g2 e2
         rw [many_fuel hc hp hl n m j2 g4 (by omega) (by omega)]
theorem manyF_succ (c : Psr Bool) (p : Psr α) (n : Nat) : manyF c p (n + 1) = c.bind fun b => if b = true then p.bind fun a => (manyF c p n).bind fun r => .ret (a :: r) else .ret [] := rfl
theorem many_eq {c : Psr Bool} {p : Psr α} (hc : Stay c) (hp : Step p) {l : List LTok} (hl : LexP l) {i : Nat} (hi : i < l.length) :
 manyP c p l i = (c.bind fun b => if b = true then p.bind fun a => (manyP c p).bind fun r => .ret (a :: r) else .ret []) l i := by
 unfold manyP
 obtain ⟨n, hn⟩ : ∃ n, l.length - i = n + 1 := ⟨l.length - i - 1, by omega⟩
 rw [hn, manyF_succ]
 unfold Psr.bind
 cases e : c l i with
 | bad q r => rfl
 | ok b j =>
   dsimp only
   obtain ⟨g1, g2⟩ := hc l hl i b j hi e
   cases b with
   | false => rfl
   | true =>
     simp only [if_true]
     cases e2 : p l j with
     | bad q r => rfl
     | ok a j2 =>
       dsimp only
       obtain ⟨g3, g4⟩ := hp l hl j a j2 g2 e2
       rw [many_fuel hc hp hl n (l.length - j2) j2 g4 (by omega) (by omega)]
theorem go_stay {p : Psr α} (h : Stay p) {l : List LTok} (hl : LexP l) {i : Nat} (hi : i < l.length) {k : α → Nat → Prop} {kp : Int → Int → Prop} (hg : (p l i).go k kp) : (p l i).go (fun a j => i ≤ j ∧ j < l.length ∧ k a j) kp :=
 PR.go_mono hg (fun a j e hk => ⟨(h l hl i a j hi e).1, (h l hl i a j hi e).2, hk⟩) fun _ _ _ h => h
theorem go_step {p : Psr α} (h : Step p) {l : List LTok} (hl : LexP l) {i : Nat} (hi : i < l.length) {k : α → Nat → Prop} {kp : Int → Int → Prop} (hg : (p l i).go k kp) : (p l i).go (fun a j => i < j ∧ j < l.length ∧ k a j) kp :=
 PR.go_mono hg (fun a j e hk => ⟨(h l hl i a j hi e).1, (h l hl i a j hi e).2, hk⟩) fun _ _ _ h => h
theorem step_some : Step someP := step_bind step_opnd fun _ => stay_bind (stay_manyP (stay_take _) step_opnd.stay) fun _ => stay_ret _
theorem stay_any (e : ByteArray) : Stay (anyP e) := by
 refine stay_bind (stay_take _) fun b => ?_
 split
 ·exact stay_ret _
 ·exact stay_bind step_some.stay fun _ => stay_bind (step_sign _).stay fun _ => stay_ret _
theorem step_label : Step labelP := by
 refine step_bind (step_kind (by decide)) fun t => stay_bind (stay_take _) fun b => ?_
 split
 ·exact stay_bind (step_kind (by decide)).stay fun _ => stay_ret _
 ·exact stay_ret _
theorem stay_notIs (s : ByteArray) : Stay (notIs s) := by
 intro l hl i a j hi h
 cases h; exact ⟨Nat.le_refl _, hi⟩
theorem step_case : Step caseP := step_bind step_value fun _ => stay_bind (step_sign _).stay fun _ => stay_bind step_label.stay fun _ => stay_bind (step_sign _).stay fun _ => stay_ret _
theorem step_cases : Step casesP := step_bind (step_sign _) fun _ => stay_bind (stay_manyP (stay_notIs _) step_case.stay) fun _ => stay_bind (step_sign _).stay fun _ => stay_bind (step_sign _).stay fun _ => stay_bind step_label.stay fun _ => stay_bind (step_sign _).stay fun _ => stay_ret _
theorem stay_places : ∀ n, Stay (placesP n)
 | 0 => stay_ret _
 | n + 1 => by
   unfold placesP
   refine stay_bind step_opnd.stay fun _ => stay_bind ?_ fun _ => stay_bind (stay_places n) fun _ => stay_ret _
   split
   ·exact stay_ret _
   ·exact (step_sign _).stay
theorem stay_off : Stay offP := by
 refine stay_bind (stay_take _) fun b => ?_
 split
 ·exact step_value.stay
 ·exact stay_ret _
theorem stay_rest (o : Int) (d : OpT) : Stay (restP o d) := by
 unfold restP
 split
 ·exact stay_bind (step_kind (by decide)).stay fun _ => stay_bind (step_sign _).stay fun _ => stay_bind (stay_any _) fun _ => stay_ret _
 ·refine stay_bind (stay_places _) fun _ => ?_
  split
  ·exact stay_bind stay_off fun _ => stay_ret _
  ·split
   ·exact stay_bind step_label.stay fun _ => stay_ret _
   ·split
    ·exact stay_bind (step_sign _).stay fun _ => stay_bind step_label.stay fun _ => stay_bind (step_sign _).stay fun _ => stay_bind step_label.stay fun _ => stay_ret _
    ·split
     ·exact stay_bind step_cases.stay fun _ => stay_ret _
     ·exact stay_ret _
theorem step_op (g : Bool) : Step (opP g) := by
 intro l hl i a j hi h
 unfold opP at h
 split at h
 ·rename_i h1
  cases h; exact ⟨Nat.lt_succ_self _, not_last hl.last hi (by rw [h1.1]; decide)⟩
 ·cases h
theorem stay_dst : Stay dstP := by
 intro l hl i a j hi h
 unfold dstP at h
 split at h
 ·cases h; exact ⟨Nat.le_refl _, hi⟩
 ·split at h
  ·exact stay_bind step_opnd.stay (fun _ => stay_bind (step_sign _).stay fun _ => stay_ret _) l hl i a j hi h
  ·cases h
theorem step_instr : Step instrP := step_bind' stay_dst fun _ => step_bind (step_op _) fun _ => stay_bind (stay_rest _ _) fun _ => stay_bind (step_sign _).stay fun _ => stay_ret _
theorem stay_edge : Stay edgeP := by
 intro l hl i a j hi h
 unfold edgeP at h
 split at h
 ·rename_i h1
  cases h; exact ⟨Nat.le_succ _, not_last hl.last hi (isTk_ne h1.1)⟩
 ·cases h; exact ⟨Nat.le_refl _, hi⟩
theorem stay_in : Stay inP := by
 refine stay_bind (stay_take _) fun b => ?_
 split
 ·exact stay_bind step_some.stay fun _ => stay_bind (step_sign _).stay fun _ => stay_ret _
 ·exact stay_ret _
theorem stay_moreB : Stay moreB := by
 intro l hl i a j hi h
 cases h; exact ⟨Nat.le_refl _, hi⟩
theorem step_name (e : Bool) : Step (nameP e) := by
 refine step_bind (step_kind (by decide)) fun t => ?_
 split
 ·exact stay_bind (step_sign _).stay fun _ => stay_bind (step_kind (by decide)).stay fun _ => stay_ret _
 ·exact stay_ret _
theorem step_block : Step blockP := step_bind' stay_edge fun _ => step_bind (step_name _) fun _ => stay_bind stay_in fun _ => stay_bind (step_sign _).stay fun _ => stay_bind (stay_manyP stay_moreB step_instr.stay) fun _ => stay_ret _
theorem step_class : Step classP := by
 intro l hl i a j hi h
 unfold classP at h
 split at h
 ·rename_i h1
  cases h; exact ⟨Nat.lt_succ_self _, not_last hl.last hi (by rw [h1.1]; decide)⟩
 ·split at h
  ·rename_i h1
   cases h; exact ⟨Nat.lt_succ_self _, not_last hl.last hi (by rw [h1.1]; decide)⟩
  ·cases h
theorem step_reg : Step regP := step_bind (step_kind (by decide)) fun _ => stay_bind (step_sign _).stay fun _ => stay_bind step_class.stay fun _ => stay_ret _
theorem stay_isKind (k : Int) : Stay (isKind k) := by
 intro l hl i a j hi h
 cases h; exact ⟨Nat.le_refl _, hi⟩
theorem stay_regs : Stay regsP := stay_bind (step_sign _).stay fun _ => stay_bind step_reg.stay fun _ => stay_bind (stay_manyP (stay_isKind _) step_reg.stay) fun _ => stay_bind (step_sign _).stay fun _ => stay_ret _
theorem stay_hasRegs : Stay hasRegs := by
 intro l hl i a j hi h
 cases h; exact ⟨Nat.le_refl _, hi⟩
theorem stay_mach : Stay machP := by
 refine stay_bind (stay_take _) fun b => ?_
 split
 ·exact stay_ret _
 ·exact stay_bind (step_sign _).stay fun _ => stay_ret _
theorem stay_optRegs : Stay optRegs := by
 refine stay_bind stay_hasRegs fun b => ?_
 split
 ·exact stay_regs
 ·exact stay_ret _
theorem step_func : Step funcP := by
 exact step_bind' stay_mach fun _ => step_bind (step_kind (by decide)) fun _ => stay_bind (step_sign _).stay fun _ => stay_bind (stay_any _) fun _ => stay_bind (step_sign _).stay fun _ => stay_bind stay_optRegs fun _ => stay_bind (stay_manyP (stay_notIs _) step_block.stay) fun _ => stay_bind (step_sign _).stay fun _ => stay_ret _
theorem opFind_pos : ∀ (s : ByteArray) (l : List ByteArray) (i : Int), 0 < i → opFindL s l i = 0 ∨ i ≤ opFindL s l i ∧ opFindL s l i < i + l.length
 | s, [], i, h => .inl rfl
 | s, a :: r, i, h => by
   unfold opFindL
   split
   ·exact .inr ⟨Int.le_refl _, by simp only [List.length_cons]; omega⟩
   ·rcases opFind_pos s r (i + 1) (by omega) with h1 | ⟨h1, h2⟩
    ·exact .inl h1
    ·exact .inr ⟨by omega, by simp only [List.length_cons]; omega⟩
theorem opFind_range (s : ByteArray) : opFind s = 0 ∨ 1 ≤ opFind s ∧ opFind s ≤ 27 := by
 rcases opFind_pos s opNames 1 (by decide) with h | ⟨h1, h2⟩
 ·exact .inl h
 ·have : opNames.length = 27 := rfl
  exact .inr ⟨h1, by unfold opFind; omega⟩
theorem bindgo {p : Psr α} {f : α → Psr β} (hp : Stay p) {l : List LTok} (T : LexP l) {i : Nat} (hi : i < l.length) {K : β → Nat → Prop} {kp : Int → Int → Prop} {G : α → Nat → Prop}
 (h : (p.bind f l i).go K kp) (hk : ∀ a j, i ≤ j → j < l.length → (f a l j).go K kp → G a j) : (p l i).go G kp := by
 rw [go_bind] at h
 exact PR.go_mono h (fun a j e h => hk a j (hp l T i a j hi e).1 (hp l T i a j hi e).2 h) fun _ _ _ h => h
theorem bindgo' {p : Psr α} {f : α → Psr β} (hp : Step p) {l : List LTok} (T : LexP l) {i : Nat} (hi : i < l.length) {K : β → Nat → Prop} {kp : Int → Int → Prop} {G : α → Nat → Prop}
 (h : (p.bind f l i).go K kp) (hk : ∀ a j, i < j → j < l.length → (f a l j).go K kp → G a j) : (p l i).go G kp := by
 rw [go_bind] at h
 exact PR.go_mono h (fun a j e h => hk a j (hp l T i a j hi e).1 (hp l T i a j hi e).2 h) fun _ _ _ h => h
end Go.Aw
namespace Go.Proofs.Yf
open Go Go.Proofs Go.Shelf
def ren : Go.Shelf.Ren := ⟨fun | 217 => 153 | 266 => 168 | _ => 0, fun | 0 => 0 | 3 => 3 | 4 => 4 | 5 => 5 | 9 => 9 | 20 => 20 | _ => 0, fun  | _ => 0⟩
theorem lays217 : Lays.n217 Tryz.prog ren where
 mixed := by kernel_rfl
 f217 := by kernel_rfl
 f266 := by kernel_rfl
 t3 := Tryz.underlying3
 a3 := Tryz.isAgg3
 z3 := Tryz.sizeOf3
 v3 := Tryz.zeroValue3
 t5 := Tryz.underlying5
 a5 := Tryz.isAgg5
 z5 := Tryz.sizeOf5
 v5 := Tryz.zeroValue5
 t9 := Tryz.underlying9
 a9 := Tryz.isAgg9
 z9 := Tryz.sizeOf9
 v9 := Tryz.zeroValue9
namespace N153
noncomputable def ent : Go.Aw.Entry := Go.Aw.ibEnt
theorem ok : Go.Aw.EntOk Tryz.prog 112 157 153 ent := Go.Aw.ib_ok lays217 rfl
end N153
end Go.Proofs.Yf
namespace Go.Proofs.Yf
open Go Go.Aw Go.Proofs Go.RowKit Go.Extern.Stop Go.Stop Go.Extern
theorem F.new_run (c a : Int) (w : World) : Calls Tryz.prog 37 #[.int .i64 c, .int .i64 a] w fun e w' => if c = 0 then e = .returned .nilIface ∧ w' = w else e = .returned (.iface 112 (.pointer (some ⟨w.heap.size, 0, none⟩))) ∧ w' = w.alloc (.cells #[.int .i64 c, .int .i64 a] 115) := by
 go_enter Tryz.func37, Tryz.ntmps37
 by_cases hc : c = 0
 ·subst hc
  go_wp2
  go_ret
  exact ⟨rfl, rfl⟩
 ·go_wp2
  go_ret
  exact ⟨rfl, rfl⟩
namespace N37
noncomputable def ent : Entry := newEnt
theorem ok : EntOk Tryz.prog 112 157 37 ent := new_ok Tryz.func37 (by kernel_rfl) (by kernel_rfl) F.new_run
end N37
theorem F.in_nil (s : ByteArray) (w : World) : Calls Tryz.prog 36 #[.string s, .nilIface] w fun e w' => e = .returned .nilIface ∧ w' = w := by
 go_enter Tryz.func36, Tryz.ntmps36
 go_wp2
 go_ret
 exact ⟨rfl, rfl⟩
theorem F.in_run (s : ByteArray) (t : TypeId) (v : Value) (w : World) : Calls Tryz.prog 36 #[.string s, .iface t v] w fun e w' => e = .returned (.iface 157 (.pointer (some ⟨w.heap.size, 0, none⟩))) ∧ w' = w.alloc (.cells #[.string s, .iface t v] 159) := by
 go_enter Tryz.func36, Tryz.ntmps36
 go_wp2
 go_ret
 exact ⟨rfl, rfl⟩
namespace N36
noncomputable def ent : Entry := inEnt
theorem ok : EntOk Tryz.prog 112 157 36 ent := in_ok Tryz.func36 (by kernel_rfl) (by kernel_rfl) F.in_nil F.in_run
end N36
theorem F.hdl : hdlOf Tryz.prog = some (0, .iface 225 (.agg #[.pointer (some ⟨2, 34, none⟩)])) := by kernel_rfl
theorem F.valueOfPF (t : Addr) (w : World) : (ReflectliteValue.unpack (.iface 174 (.pointer (some t)))).run Tryz.prog w
 = .ok (.agg #[.pointer (some ⟨2, 174, none⟩), .pointer (some ⟨w.heap.size, 0, none⟩), .int .u64 150]) (w.alloc (.cells #[.pointer (some t)] 174)) := by kernel_rfl
theorem F.typePF (a : Addr) (w : World) : (ReflectliteValue.methodAny (ReflectliteValue.valueError "reflectlite.Value.Type" 0) (fun t _ _ _ => ReflectliteType.toType t) #[.agg #[.pointer (some ⟨2, 174, none⟩), .pointer (some a), .int .u64 150]]).run Tryz.prog w
 = .ok (.iface 225 (.agg #[.pointer (some ⟨2, 174, none⟩)])) w := by kernel_rfl
theorem F.methodKind (h : Value) (w : World) : (Go.method 425 225 (.agg #[h]) "Kind").run Tryz.prog w = .ok (229, h) w := by kernel_rfl
theorem F.kindPF (w : World) : ((ReflectliteType.abiMethod fun t => (fun a : Nat => Value.int IntKind.u8 (a : Int)) <$> Rtype.kind t) #[.pointer (some ⟨2, 174, none⟩)]).run Tryz.prog w = .ok (.int .u8 22) w := by kernel_rfl
theorem F.kindF (w : World) : ((ReflectliteType.abiMethod fun t => (fun a : Nat => Value.int IntKind.u8 (a : Int)) <$> Rtype.kind t) #[.pointer (some ⟨2, 112, none⟩)]).run Tryz.prog w = .ok (.int .u8 22) w := by kernel_rfl
theorem F.rlm (z : Sem Value) (f : TypeId → Addr → Nat → Nat → Sem Value) (v : Value) :
 ReflectliteValue.method z f #[v] = (do match ← ReflectliteValue.parts v with | none => z | some (t, a, fl) => f t a fl (fl % 32)) := rfl
theorem F.partsPF (a : Addr) (w : World) : (ReflectliteValue.parts (.agg #[.pointer (some ⟨2, 174, none⟩), .pointer (some a), .int .u64 150])).run Tryz.prog w = .ok (some (174, a, 150)) w := by kernel_rfl
theorem F.isNilPF (a p : Addr) (W : World) (ha : W.cell? a = some (.pointer (some p))) :
 (ReflectliteValue.method (ReflectliteValue.valueError "reflectlite.Value.IsNil" 0) ReflectliteValue.isNil #[.agg #[.pointer (some ⟨2, 174, none⟩), .pointer (some a), .int .u64 150]]).run Tryz.prog W = .ok (.bool false) W := by
 rw [F.rlm]
 simp only [Sem.run_bind, F.partsPF, Result.andThen]
 simp [ReflectliteValue.isNil, loadVar, isAgg, underlying, Tryz.underlying174, ha, Result.andThen]
theorem F.methodElem (h : Value) (w : World) : (Go.method 425 225 (.agg #[h]) "Elem").run Tryz.prog w = .ok (244, .agg #[h]) w := by kernel_rfl
theorem F.methodImplements (h : Value) (w : World) : (Go.method 425 225 (.agg #[h]) "Implements").run Tryz.prog w = .ok (245, .agg #[h]) w := by kernel_rfl
theorem F.methodAssignableTo (h : Value) (w : World) : (Go.method 425 225 (.agg #[h]) "AssignableTo").run Tryz.prog w = .ok (242, .agg #[h]) w := by kernel_rfl
theorem F.elemPF (w : World) : (ReflectliteType.method ReflectliteType.elem #[.agg #[.pointer (some ⟨2, 174, none⟩)]]).run Tryz.prog w = .ok (.iface 225 (.agg #[.pointer (some ⟨2, 112, none⟩)])) w := by kernel_rfl
theorem F.implementsF (w : World) : (ReflectliteType.relation "Implements" ReflectliteType.implements_ #[.agg #[.pointer (some ⟨2, 112, none⟩)], .iface 225 (.agg #[.pointer (some ⟨2, 34, none⟩)])]).run Tryz.prog w = .ok (.bool true) w := by kernel_rfl
theorem F.typeOfF (v : Value) (w : World) : (ReflectliteType.typeOf #[.iface 112 v]).run Tryz.prog w = .ok (.iface 225 (.agg #[.pointer (some ⟨2, 112, none⟩)])) w := by kernel_rfl
theorem F.typeOfW (v : Value) (w : World) : (ReflectliteType.typeOf #[.iface 157 v]).run Tryz.prog w = .ok (.iface 225 (.agg #[.pointer (some ⟨2, 157, none⟩)])) w := by kernel_rfl
theorem F.assignableF (w : World) : (ReflectliteType.relation "AssignableTo" ReflectliteType.assignableTo #[.agg #[.pointer (some ⟨2, 112, none⟩)], .iface 225 (.agg #[.pointer (some ⟨2, 112, none⟩)])]).run Tryz.prog w = .ok (.bool true) w := by kernel_rfl
theorem F.assignableW (w : World) : (ReflectliteType.relation "AssignableTo" ReflectliteType.assignableTo #[.agg #[.pointer (some ⟨2, 157, none⟩)], .iface 225 (.agg #[.pointer (some ⟨2, 112, none⟩)])]).run Tryz.prog w = .ok (.bool false) w := by kernel_rfl
theorem F.valueOfF (e : Addr) (w : World) : (ReflectliteValue.unpack (.iface 112 (.pointer (some e)))).run Tryz.prog w
 = .ok (.agg #[.pointer (some ⟨2, 112, none⟩), .pointer (some ⟨w.heap.size, 0, none⟩), .int .u64 150]) (w.alloc (.cells #[.pointer (some e)] 112)) := by kernel_rfl
theorem F.elemOfPF (w : World) : (Rtype.elem? 174).run Tryz.prog w = .ok (some 112) w := by kernel_rfl
theorem F.mkF (p : Addr) (w : World) : (ReflectliteValue.mk 112 p ReflectliteValue.flagAddr).run Tryz.prog w = .ok (.agg #[.pointer (some ⟨2, 112, none⟩), .pointer (some p), .int .u64 406]) w := by kernel_rfl
theorem F.elemVPF (a p : Addr) (W : World) (ha : W.cell? a = some (.pointer (some p))) :
 (ReflectliteValue.method (ReflectliteValue.valueError "reflectlite.Value.Elem" 0) ReflectliteValue.elem #[.agg #[.pointer (some ⟨2, 174, none⟩), .pointer (some a), .int .u64 150]]).run Tryz.prog W
   = .ok (.agg #[.pointer (some ⟨2, 112, none⟩), .pointer (some p), .int .u64 406]) W := by
 rw [F.rlm]
 simp only [Sem.run_bind, F.partsPF, Result.andThen]
 simp [ReflectliteValue.elem, loadVar, isAgg, underlying, Tryz.underlying174, ha, Result.andThen, F.elemOfPF, F.mkF]
theorem F.rls (v x : Value) : ReflectliteValue.set #[v, x] = (do
 let (some (dst, a, fl), some (src, b, _)) := (← ReflectliteValue.parts v, ← ReflectliteValue.parts x)
  | unsupported (.noEntry "extern/(internal/reflectlite.Value).Set.zeroValue")
 if fl / ReflectliteValue.flagAddr % 2 == 0 then unsupported (.noEntry "extern/(internal/reflectlite.Value).Set.unaddressable")
 let val ← loadVar src b
 if ← Rtype.directlyAssignable dst src then storeVar dst a val
 else if ← Rtype.implements dst src then
  if (← Rtype.kind src) == 20 then
   match val with
   | .nilIface => unsupported (.noEntry "extern/reflectlite: a nil value of one interface type handed on as a value of another")
   | _ => storeVar dst a val
  else storeVar dst a (.iface src val)
 else panicString ("reflectlite.Set: value of type " ++ (← Rtype.spelt src) ++ " is not assignable to type " ++ (← Rtype.spelt dst))
 pure (.tuple #[])) := rfl
theorem F.partsFa (a : Addr) (w : World) : (ReflectliteValue.parts (.agg #[.pointer (some ⟨2, 112, none⟩), .pointer (some a), .int .u64 406])).run Tryz.prog w = .ok (some (112, a, 406)) w := by kernel_rfl
theorem F.partsF (a : Addr) (w : World) : (ReflectliteValue.parts (.agg #[.pointer (some ⟨2, 112, none⟩), .pointer (some a), .int .u64 150])).run Tryz.prog w = .ok (some (112, a, 150)) w := by kernel_rfl
theorem F.directF (w : World) : (Rtype.directlyAssignable 112 112).run Tryz.prog w = .ok true w := by kernel_rfl
theorem F.setF (ta b e : Addr) (old : Value) (W : World) (hb : W.cell? b = some (.pointer (some e))) (ht : W.cell? ta = some old) (hf : W.frozen? ta = false) :
 (ReflectliteValue.set #[.agg #[.pointer (some ⟨2, 112, none⟩), .pointer (some ta), .int .u64 406], .agg #[.pointer (some ⟨2, 112, none⟩), .pointer (some b), .int .u64 150]]).run Tryz.prog W
   = .ok (.tuple #[]) (W.setCell ta (.pointer (some e))) := by
 rw [F.rls]
 simp only [Sem.run_bind, F.partsFa, F.partsF, Result.andThen]
 simp [ReflectliteValue.flagAddr, loadVar, isAgg, underlying, Tryz.underlying112, hb, Result.andThen, F.directF, storeVar, Value.cells, storeCells, Addr.add]
 rw [run_store Tryz.prog W ta _ _ (by rfl)]
 simp [ht, hf]
theorem F.noAsW (v : Value) (xT : TypeId) (w : World) : (Instr.typeAssert (.iface 157 v) xT 244 true).run Tryz.prog w = .ok (.tuple #[.nilIface, .bool false]) w := run_typeAssert_lacksB Tryz.underlying244 (by kernel_rfl) (by kernel_rfl) v xT w
theorem F.hasUnwrapW (v : Value) (xT : TypeId) (w : World) : (Instr.typeAssert (.iface 157 v) xT 230 true).run Tryz.prog w = .ok (.tuple #[.iface 157 v, .bool true]) w := run_typeAssert_hasB Tryz.underlying230 (by kernel_rfl) v xT w
theorem F.methodUnwrap (v : Value) (w : World) : (Go.method 425 157 v "Unwrap").run Tryz.prog w = .ok (237, v) w := by kernel_rfl
abbrev ChainF (B : Nat) (W : World) (u : Value) (e : Err) : Prop := RepE W (fun a => a.block < B) 112 157 e u ∧ plainE e = true
open Classical in
noncomputable def chainLen (B : Nat) (W : World) (u : Value) : Nat := if h : ∃ e, ChainF B W u e then depthE h.choose else 0
theorem chainLen_eq {B : Nat} {W : World} {u : Value} {e : Err} (h : ChainF B W u e) : chainLen B W u = depthE e := by
 unfold chainLen
 rw [dif_pos ⟨e, h⟩]
 have hc := Exists.choose_spec (p := fun e => ChainF B W u e) ⟨e, h⟩
 rw [RepE.unique (by decide) hc.1 ( hc.2) h.1 ( h.2)]
abbrev hF : Value := .pointer (some ⟨2, 112, none⟩)
abbrev hPF : Value := .pointer (some ⟨2, 174, none⟩)
abbrev asB (W : World) (tv : Addr) : World := W.alloc (.cells #[hPF, .pointer (some tv), .int .u64 150] 211)
def asPost (W : World) (tv t : Addr) (B : Nat) (o : Option (Int × Int)) (ev : Ending) (w' : World) : Prop := match o with
 | none => ev = .returned (.bool false) ∧ w' = asB W tv
 | some (c, a) => ∃ pb po, (W.cell? ⟨pb, po, none⟩ = some (.int .i64 c) ∧ W.cell? ⟨pb, po + 1, none⟩ = some (.int .i64 a) ∧ pb < B) ∧ ev = .returned (.bool true) ∧
    w' = ((asB W tv).alloc (.cells #[.pointer (some ⟨pb, po, none⟩)] 112)).setCell t (.pointer (some ⟨pb, po, none⟩))
set_option maxHeartbeats 4000000 in
set_option maxRecDepth 1000000 in
theorem F.as_chain (W : World) (t tv : Addr) (old : Value) (ht : W.cell? t = some old) (hf : W.frozen? t = false) (hv : W.cell? tv = some (.pointer (some t))) (B : Nat) (hB : B ≤ W.heap.size) (e : Err) (u : Value) (hch : ChainF B W u e) (hnil : e.isNil = false) :
 Calls Tryz.prog 140 #[u, .iface 174 (.pointer (some t)), .agg #[hPF, .pointer (some tv), .int .u64 150], .iface 225 (.agg #[hF])] W fun ev w' =>
  asPost W tv t B (rootE e) ev w' := by
 have h6 := @run_callFunc_extern Tryz.prog 137 _ (fun args => ReflectliteValue.unpack (args.getD 0 (.tuple #[]))) Tryz.func137 (by kernel_rfl) (by kernel_rfl) (by kernel_rfl) (by kernel_rfl)
 have h10 := @run_callFunc_extern Tryz.prog 106 _ ReflectliteType.typeOf Tryz.func106 (by kernel_rfl) (by kernel_rfl) (by kernel_rfl) (by kernel_rfl)
 have h35 := @run_callFunc_extern Tryz.prog 242 _ (ReflectliteType.relation "AssignableTo" ReflectliteType.assignableTo) Tryz.func242 (by kernel_rfl) (by kernel_rfl) (by kernel_rfl) (by kernel_rfl)
 have h11 := @run_callFunc_extern Tryz.prog 161 _ (ReflectliteValue.method (ReflectliteValue.valueError "reflectlite.Value.Elem" 0) ReflectliteValue.elem) Tryz.func161 (by kernel_rfl) (by kernel_rfl) (by kernel_rfl) (by kernel_rfl)
 have h12 := @run_callFunc_extern Tryz.prog 162 _ ReflectliteValue.set Tryz.func162 (by kernel_rfl) (by kernel_rfl) (by kernel_rfl) (by kernel_rfl)
 have tO := F.typeOfF
 have tW := F.typeOfW
 have mA := F.methodAssignableTo
 have aF := F.assignableF
 have aW := F.assignableW
 have vF := F.valueOfF
 have nA := F.noAsW
 have hU := F.hasUnwrapW
 have mU := F.methodUnwrap
 have htl : t.block < W.heap.size := World.block_lt_of_cell? W t ht
 have hvl : tv.block < W.heap.size := World.block_lt_of_cell? W tv hv
 have keep : ∀ a : Addr, a.block < W.heap.size → (asB W tv).cell? a = W.cell? a := fun a ha => World.cell?_alloc_lt _ _ a ha
 have el := F.elemVPF tv t (asB W tv) (by rw [keep tv hvl]; exact hv)
 go_enter Tryz.func140, Tryz.ntmps140
 go_wp2
 go_loopw [0] (fun E' wl => wl = asB W tv ∧ ∃ e', ChainF B W E' e' ∧ e'.isNil = false ∧ rootE e' = rootE e) (fun E' _ => chainLen B W E')
 case atStart => exact ⟨rfl, e, hch, hnil, rfl⟩
 case round =>
  obtain ⟨rfl, e', ⟨hc', hp'⟩, hn', hre⟩ := hrel
  cases e' with
  | nil => cases hn'
  | wrg q i => cases hp'
  | flt c a =>
    obtain ⟨p, rfl, hat⟩ := hc'
    obtain ⟨pb, po, rfl, hpb, h0, h1⟩ := hat.flat2
    have st := F.setF t ⟨W.heap.size + 1, 0, none⟩ ⟨pb, po, none⟩ old ((asB W tv).alloc (.cells #[.pointer (some ⟨pb, po, none⟩)] 112)) (by simp)
     (by rw [World.cell?_alloc_lt _ _ t (by simp; omega), keep t htl]; exact ht)
     (by rw [World.frozen?_alloc_old _ _ t (by simp; omega), World.frozen?_alloc_old _ _ t (by omega)]; exact hf)
    clear hat hch
    go_wp2
    go_ret
    rw [← hre]
    exact ⟨pb, po, ⟨h0, h1, hpb⟩, rfl, rfl⟩
  | win s i =>
    obtain ⟨p, v, rfl, hat, hin⟩ := hc'
    obtain ⟨pb, po, rfl, hpb, h0, h1⟩ := hat.flat2
    have hp1 : (asB W tv).cell? ⟨pb, po + 1, none⟩ = some v := by rw [keep _ (Nat.lt_of_lt_of_le hpb hB)]; exact h1
    rcases hin.isNil with ⟨rfl, rfl⟩ | ⟨hni, u1, v1, rfl⟩
    ·clear hat hin hch
     go_wp2
     go_ret
     rw [← hre]
     exact ⟨rfl, rfl⟩
    ·have hlen := chainLen_eq (B := B) (W := W) ⟨hin, hp'⟩
     have hlen0 := chainLen_eq (B := B) (W := W) (e := .win s i) ⟨⟨_, _, rfl, hat, hin⟩, hp'⟩
     have HC : Hid (ChainF B W (.iface u1 v1) i) := ⟨hin, hp'⟩
     clear hin hat hch
     go_wp2
     go_roundw
     case rel => exact ⟨trivial, i, HC.out, hni, hre⟩
     case measure =>
      show chainLen B W (.iface u1 v1) < _
      rw [hlen, hlen0]; exact Nat.lt_succ_self _
theorem F.As_nil (t : Value) (w : World) : Calls Tryz.prog 89 #[.nilIface, t] w fun e w' => e = .returned (.bool false) ∧ w' = w := by
 go_enter Tryz.func89, Tryz.ntmps89
 go_wp2
 go_ret
 exact ⟨rfl, rfl⟩
abbrev asW0 (w : World) (t : Addr) : World := (w.alloc (.cells #[.pointer (some t)] 174)).alloc (.cells #[hPF, .pointer (some ⟨w.heap.size, 0, none⟩), .int .u64 150] 211)
abbrev asW (w : World) (t : Addr) : World := (asW0 w t).alloc (.cells #[hPF, .pointer (some ⟨w.heap.size, 0, none⟩), .int .u64 150] 211)
def asPostW (w : World) (t : Addr) (B : Nat) (o : Option (Int × Int)) (ev : Ending) (w' : World) : Prop := match o with
 | none => ev = .returned (.bool false) ∧ w' = asW w t
 | some (c, a) => ∃ pb po, (w.cell? ⟨pb, po, none⟩ = some (.int .i64 c) ∧ w.cell? ⟨pb, po + 1, none⟩ = some (.int .i64 a) ∧ pb < B) ∧ ev = .returned (.bool true) ∧
    w' = ((asW w t).alloc (.cells #[.pointer (some ⟨pb, po, none⟩)] 112)).setCell t (.pointer (some ⟨pb, po, none⟩))
abbrev rtW (w : World) : World := w.alloc (.cells #[.pointer none] 112)
set_option maxHeartbeats 4000000 in
set_option maxRecDepth 1000000 in
theorem F.As_run (w : World) (t : Addr) (old : Value) (hg : w.cell? ⟨0, 0, none⟩ = some (.iface 225 (.agg #[.pointer (some ⟨2, 34, none⟩)]))) (ht : w.cell? t = some old) (hf : w.frozen? t = false) (B : Nat) (hB : B ≤ w.heap.size) (e : Err) (ty : TypeId) (x : Value) (hch : ChainF B w (.iface ty x) e) :
 Calls Tryz.prog 89 #[.iface ty x, .iface 174 (.pointer (some t))] w fun ev w' =>
  asPostW w t B (rootE e) ev w' := by
 have h6 := @run_callFunc_extern Tryz.prog 137 _ (fun args => ReflectliteValue.unpack (args.getD 0 (.tuple #[]))) Tryz.func137 (by kernel_rfl) (by kernel_rfl) (by kernel_rfl) (by kernel_rfl)
 have h7 := @run_callFunc_extern Tryz.prog 138 _ (ReflectliteValue.methodAny (ReflectliteValue.valueError "reflectlite.Value.Type" 0) (fun t _ _ _ => ReflectliteType.toType t)) Tryz.func138 (by kernel_rfl) (by kernel_rfl) (by kernel_rfl) (by kernel_rfl)
 have h8 := @run_callFunc_extern Tryz.prog 139 _ (ReflectliteValue.method (ReflectliteValue.valueError "reflectlite.Value.IsNil" 0) ReflectliteValue.isNil) Tryz.func139 (by kernel_rfl) (by kernel_rfl) (by kernel_rfl) (by kernel_rfl)
 have h27 := @run_callFunc_extern Tryz.prog 229 _ (ReflectliteType.abiMethod fun t => do pure (.int .u8 (← Rtype.kind t))) Tryz.func229 (by kernel_rfl) (by kernel_rfl) (by kernel_rfl) (by kernel_rfl)
 have h37 := @run_callFunc_extern Tryz.prog 244 _ (ReflectliteType.method ReflectliteType.elem) Tryz.func244 (by kernel_rfl) (by kernel_rfl) (by kernel_rfl) (by kernel_rfl)
 have h38 := @run_callFunc_extern Tryz.prog 245 _ (ReflectliteType.relation "Implements" ReflectliteType.implements_) Tryz.func245 (by kernel_rfl) (by kernel_rfl) (by kernel_rfl) (by kernel_rfl)
 have f6 := F.valueOfPF
 have f7 := F.typePF
 have mK := F.methodKind
 have mE := F.methodElem
 have mI := F.methodImplements
 have k27 := F.kindPF
 have k25 := F.kindF
 have e27 := F.elemPF
 have i25 := F.implementsF
 have n8 := F.isNilPF ⟨w.heap.size, 0, none⟩ t (asW0 w t) (by simp)
 have hlt : 0 < w.heap.size := World.block_lt_of_cell? w ⟨0, 0, none⟩ hg
 have htl : t.block < w.heap.size := World.block_lt_of_cell? w t ht
 have old0 : ∀ a : Addr, a.block < w.heap.size → (asW0 w t).cell? a = w.cell? a := fun a ha => by
  rw [World.cell?_alloc_lt _ _ a (by simp; omega), World.cell?_alloc_lt _ _ a ha]
 have hg2 : (asW0 w t).cell? ⟨0, 0, none⟩ = some (.iface 225 (.agg #[.pointer (some ⟨2, 34, none⟩)])) := by rw [old0 _ hlt]; exact hg
 have hni : e.isNil = false := by
  rcases hch.1.isNil with ⟨_, h⟩ | ⟨h, _⟩
  ·cases h
  ·exact h
 have hchain := F.as_chain (asW0 w t) t ⟨w.heap.size, 0, none⟩ old (by rw [old0 t htl]; exact ht)
  (by rw [World.frozen?_alloc_old _ _ t (by simp; omega), World.frozen?_alloc_old _ _ t (Nat.ne_of_lt htl)]; exact hf) (by simp) B (by simp; omega) e (.iface ty x)
  ⟨hch.1.ext fun a ha => ⟨ha, old0 a (Nat.lt_of_lt_of_le ha hB)⟩, hch.2⟩ hni
 clear hch
 cases hr : rootE e with
 | none =>
   simp only [hr, asPost] at hchain
   go_enter Tryz.func89, Tryz.ntmps89
   go_wp2_with (go_at_call 140; refine hchain.mono ?_; rintro ev w' ⟨rfl, rfl⟩)
   go_ret
   exact ⟨rfl, rfl⟩
 | some ca =>
   obtain ⟨c, a⟩ := ca
   simp only [hr, asPost] at hchain
   go_enter Tryz.func89, Tryz.ntmps89
   go_wp2_with (go_at_call 140; refine hchain.mono ?_; rintro ev w' ⟨pb, po, ⟨h1, h2, h3⟩, rfl, rfl⟩)
   go_ret
   rw [old0 _ (Nat.lt_of_lt_of_le h3 hB)] at h1
   rw [old0 _ (Nat.lt_of_lt_of_le h3 hB)] at h2
   exact ⟨pb, po, ⟨h1, h2, h3⟩, rfl, rfl⟩
theorem F.root_none (w : World) (hg : w.cell? ⟨0, 0, none⟩ = some (.iface 225 (.agg #[.pointer (some ⟨2, 34, none⟩)]))) (e : Err) (u : Value) (hch : ChainF w.heap.size w u e) (hr : rootE e = none) :
 Calls Tryz.prog 47 #[u] w fun ev w' => ev = .returned (.pointer none) ∧ Below w.heap.size w w' := by
 have hlt : 0 < w.heap.size := World.block_lt_of_cell? w ⟨0, 0, none⟩ hg
 have old1 : ∀ a : Addr, a.block < w.heap.size → (rtW w).cell? a = w.cell? a := fun a ha => World.cell?_alloc_lt _ _ a ha
 have hb1 : Below w.heap.size w (rtW w) := (Below.refl _ _).alloc (Nat.le_refl _) _
 rcases hch.1.isNil with ⟨rfl, rfl⟩ | ⟨hni, ty, x, rfl⟩
 ·have h0 := F.As_nil (.iface 174 (.pointer (some ⟨w.heap.size, 0, none⟩))) (rtW w)
  clear hch
  go_enter Tryz.func47, Tryz.ntmps47
  go_wp2_with (go_at_call 89; refine h0.mono ?_; rintro ev w' ⟨rfl, rfl⟩)
  go_ret
  exact ⟨rfl, hb1⟩
 ·have h0 := F.As_run (rtW w) ⟨w.heap.size, 0, none⟩ (.pointer none) (by rw [old1 _ hlt]; exact hg) (by simp) (by simp) w.heap.size (by simp) e ty x
   ⟨hch.1.ext fun a ha => ⟨ha, old1 a ha⟩, hch.2⟩
  simp only [hr, asPostW] at h0
  clear hch
  go_enter Tryz.func47, Tryz.ntmps47
  go_wp2_with (go_at_call 89; refine h0.mono ?_; rintro ev w' ⟨rfl, rfl⟩)
  go_ret
  exact ⟨rfl, ((hb1.alloc (by simp) _).alloc (by simp; omega) _).alloc (by simp; omega) _⟩
set_option maxHeartbeats 1000000 in
theorem F.root_some (w : World) (hg : w.cell? ⟨0, 0, none⟩ = some (.iface 225 (.agg #[.pointer (some ⟨2, 34, none⟩)]))) (e : Err) (u : Value) (hch : ChainF w.heap.size w u e) (c a : Int) (hr : rootE e = some (c, a)) :
 Calls Tryz.prog 47 #[u] w fun ev w' => ∃ pb po, ev = .returned (.pointer (some ⟨pb, po, none⟩)) ∧ w'.cell? ⟨pb, po, none⟩ = some (.int .i64 c) ∧ w'.cell? ⟨pb, po + 1, none⟩ = some (.int .i64 a) ∧ Below w.heap.size w w' := by
 have hlt : 0 < w.heap.size := World.block_lt_of_cell? w ⟨0, 0, none⟩ hg
 have old1 : ∀ a : Addr, a.block < w.heap.size → (rtW w).cell? a = w.cell? a := fun a ha => World.cell?_alloc_lt _ _ a ha
 have hb1 : Below w.heap.size w (rtW w) := (Below.refl _ _).alloc (Nat.le_refl _) _
 rcases hch.1.isNil with ⟨rfl, rfl⟩ | ⟨hni, ty, x, rfl⟩
 ·cases hr
 ·have h0 := F.As_run (rtW w) ⟨w.heap.size, 0, none⟩ (.pointer none) (by rw [old1 _ hlt]; exact hg) (by simp) (by simp) w.heap.size (by simp) e ty x
   ⟨hch.1.ext fun a ha => ⟨ha, old1 a ha⟩, hch.2⟩
  simp only [hr, asPostW] at h0
  have h1 : Calls Tryz.prog 89 #[.iface ty x, .iface 174 (.pointer (some ⟨w.heap.size, 0, none⟩))] (rtW w) fun ev w' => ∃ pb po, ev = .returned (.bool true) ∧ w'.cell? ⟨w.heap.size, 0, none⟩ = some (.pointer (some ⟨pb, po, none⟩)) ∧
   w'.cell? ⟨pb, po, none⟩ = some (.int .i64 c) ∧ w'.cell? ⟨pb, po + 1, none⟩ = some (.int .i64 a) ∧ Below w.heap.size w w' := by
   refine h0.mono ?_
   rintro ev w' ⟨pb, po, ⟨h1, h2, h3⟩, rfl, hw⟩
   have hb3 : Below w.heap.size w w' := by
    rw [hw]
    exact ((((hb1.alloc (by simp) _).alloc (by simp; omega) _).alloc (by simp; omega) _).alloc (by simp; omega) _).setCell (Nat.le_refl _) _
   rw [old1 _ h3] at h1
   rw [old1 _ h3] at h2
   refine ⟨pb, po, rfl, ?_, ?_, ?_, hb3⟩
   ·rw [hw]
    have hin : ∃ v, ((asW (rtW w) ⟨w.heap.size, 0, none⟩).alloc (.cells #[.pointer (some ⟨pb, po, none⟩)] 112)).cell? ⟨w.heap.size, 0, none⟩ = some v := by
     refine ⟨.pointer none, ?_⟩
     rw [World.cell?_alloc_lt _ _ _ (by simp; omega), World.cell?_alloc_lt _ _ _ (by simp; omega), World.cell?_alloc_lt _ _ _ (by simp; omega), World.cell?_alloc_lt _ _ _ (by simp)]
     simp
    obtain ⟨v, hv⟩ := hin
    exact World.cell?_setCell_same _ _ _ hv
   ·rw [hb3.cell h3]; exact h1
   ·rw [hb3.cell h3]; exact h2
  clear hch h0
  go_enter Tryz.func47, Tryz.ntmps47
  go_wp2_with (go_at_call 89; refine h1.mono ?_; rintro ev w' ⟨pb, po, rfl, g1, g2, g3, g4⟩)
  go_ret
  exact ⟨pb, po, rfl, g2, g3, g4⟩
theorem F.of_run (w : World) (hg : w.cell? ⟨0, 0, none⟩ = some (.iface 225 (.agg #[.pointer (some ⟨2, 34, none⟩)]))) (e : Err) (u : Value) (hch : ChainF w.heap.size w u e) :
 Calls Tryz.prog 17 #[u] w fun ev w' => ev = .returned (.int .i64 (ofE e)) ∧ Below w.heap.size w w' := by
 unfold ofE
 cases hr : rootE e with
 | none =>
   have h0 := F.root_none w hg e u hch hr
   clear hch
   go_enter Tryz.func17, Tryz.ntmps17
   go_wp2_with (go_at_call 47; refine h0.mono ?_; rintro ev w' ⟨rfl, hb⟩)
   go_ret
   exact ⟨rfl, hb⟩
 | some ca =>
   obtain ⟨c, a⟩ := ca
   have h0 := F.root_some w hg e u hch c a hr
   clear hch
   go_enter Tryz.func17, Tryz.ntmps17
   go_wp2_with (go_at_call 47; refine h0.mono ?_; rintro ev w' ⟨pb, po, rfl, g1, g2, hb⟩)
   go_ret
   exact ⟨rfl, hb⟩
namespace N17
noncomputable def ent : Entry := erEnt fun e => .int .i64 (ofE e)
theorem ok : EntOk Tryz.prog 112 157 17 ent := er_ok Tryz.func17 (by kernel_rfl) (by kernel_rfl) fun e u w hg hr hp => F.of_run w (hg _ _ F.hdl) e u ⟨hr, hp⟩
end N17
theorem F.at_run (w : World) (hg : w.cell? ⟨0, 0, none⟩ = some (.iface 225 (.agg #[.pointer (some ⟨2, 34, none⟩)]))) (e : Err) (u : Value) (hch : ChainF w.heap.size w u e) :
 Calls Tryz.prog 18 #[u] w fun ev w' => ev = .returned (.int .i64 (atE e)) ∧ Below w.heap.size w w' := by
 unfold atE
 cases hr : rootE e with
 | none =>
   have h0 := F.root_none w hg e u hch hr
   clear hch
   go_enter Tryz.func18, Tryz.ntmps18
   go_wp2_with (go_at_call 47; refine h0.mono ?_; rintro ev w' ⟨rfl, hb⟩)
   go_ret
   exact ⟨rfl, hb⟩
 | some ca =>
   obtain ⟨c, a⟩ := ca
   have h0 := F.root_some w hg e u hch c a hr
   clear hch
   go_enter Tryz.func18, Tryz.ntmps18
   go_wp2_with (go_at_call 47; refine h0.mono ?_; rintro ev w' ⟨pb, po, rfl, g1, g2, hb⟩)
   go_ret
   exact ⟨rfl, hb⟩
namespace N18
noncomputable def ent : Entry := erEnt fun e => .int .i64 (atE e)
theorem ok : EntOk Tryz.prog 112 157 18 ent := er_ok Tryz.func18 (by kernel_rfl) (by kernel_rfl) fun e u w hg hr hp => F.at_run w (hg _ _ F.hdl) e u ⟨hr, hp⟩
end N18
theorem F.isTypeOf (v : Value) (w : World) : (ReflectliteType.typeOf #[.iface 130 v]).run Tryz.prog w = .ok (.iface 225 (.agg #[.pointer (some ⟨2, 130, none⟩)])) w := by kernel_rfl
theorem F.isComparable (w : World) : ((ReflectliteType.method fun t => do Rtype.noPackHeld "Comparable" t; (fun a => Value.bool a.comparable) <$> typeInfo t) #[.agg #[.pointer (some ⟨2, 130, none⟩)]]).run Tryz.prog w = .ok (.bool true) w := by kernel_rfl
theorem F.isMethodComparable (v : Value) (w : World) : (Go.method 425 225 v "Comparable").run Tryz.prog w = .ok (243, v) w := by kernel_rfl
theorem F.hasIsF (v : Value) (xT : TypeId) (w : World) : (Instr.typeAssert (.iface 112 v) xT 227 true).run Tryz.prog w = .ok (.tuple #[.iface 112 v, .bool true]) w := run_typeAssert_hasB Tryz.underlying227 (by kernel_rfl) v xT w
theorem F.noIsW (v : Value) (xT : TypeId) (w : World) : (Instr.typeAssert (.iface 157 v) xT 227 true).run Tryz.prog w = .ok (.tuple #[.nilIface, .bool false]) w := run_typeAssert_lacksB Tryz.underlying227 (by kernel_rfl) (by kernel_rfl) v xT w
theorem F.noUnwrapF (v : Value) (xT : TypeId) (w : World) : (Instr.typeAssert (.iface 112 v) xT 230 true).run Tryz.prog w = .ok (.tuple #[.nilIface, .bool false]) w := run_typeAssert_lacksB Tryz.underlying230 (by kernel_rfl) (by kernel_rfl) v xT w
theorem F.noUnwrapsF (v : Value) (xT : TypeId) (w : World) : (Instr.typeAssert (.iface 112 v) xT 232 true).run Tryz.prog w = .ok (.tuple #[.nilIface, .bool false]) w := run_typeAssert_lacksB Tryz.underlying232 (by kernel_rfl) (by kernel_rfl) v xT w
theorem F.hasUnwrapWi (v : Value) (xT : TypeId) (w : World) : (Instr.typeAssert (.iface 157 v) xT 230 true).run Tryz.prog w = .ok (.tuple #[.iface 157 v, .bool true]) w := run_typeAssert_hasB Tryz.underlying230 (by kernel_rfl) v xT w
theorem F.methodUnwrapi (v : Value) (w : World) : (Go.method 425 157 v "Unwrap").run Tryz.prog w = .ok (237, v) w := by kernel_rfl
theorem F.methodIs (v : Value) (w : World) : (Go.method 425 112 v "Is").run Tryz.prog w = .ok (233, v) w := by kernel_rfl
theorem F.assertK (v : Value) (xT : TypeId) (w : World) : (Instr.typeAssert (.iface 130 v) xT 130 true).run Tryz.prog w = .ok (.tuple #[v, .bool true]) w := by kernel_rfl
abbrev ChainI (B : Nat) (W : World) (u : Value) (e : Err) : Prop := RepE W (fun a => a.block < B) 112 157 e u ∧ plainE e = true
open Classical in
noncomputable def chainLenI (B : Nat) (W : World) (u : Value) : Nat := if h : ∃ e, ChainI B W u e then depthE h.choose else 0
theorem chainLenI_eq {B : Nat} {W : World} {u : Value} {e : Err} (h : ChainI B W u e) : chainLenI B W u = depthE e := by
 unfold chainLenI
 rw [dif_pos ⟨e, h⟩]
 have hc := Exists.choose_spec (p := fun e => ChainI B W u e) ⟨e, h⟩
 rw [RepE.unique (by decide) hc.1 ( hc.2) h.1 ( h.2)]
set_option maxHeartbeats 4000000 in
set_option maxRecDepth 1000000 in
theorem F.is_chain (W : World) (i : Int) (B : Nat) (e : Err) (u : Value) (hch : ChainI B W u e) (hnil : e.isNil = false) :
 Calls Tryz.prog 107 #[u, .iface 130 (.int .i64 i), .bool true] W fun ev w' => ev = .returned (.bool (hasE e i)) ∧ w' = W := by
 have nW := F.noIsW
 have hF := F.hasIsF
 have uF := F.noUnwrapF
 have vF := F.noUnwrapsF
 have uW := F.hasUnwrapWi
 have mU := F.methodUnwrapi
 have mI := F.methodIs
 have aK := F.assertK
 go_enter Tryz.func107, Tryz.ntmps107
 go_wp2
 go_loopw [0] (fun E' wl => wl = W ∧ ∃ e', ChainI B W E' e' ∧ e'.isNil = false ∧ rootE e' = rootE e) (fun E' _ => chainLenI B W E')
 case atStart => exact ⟨rfl, e, hch, hnil, rfl⟩
 case round =>
  obtain ⟨rfl, e', ⟨hc', hp'⟩, hn', hre⟩ := hrel
  cases e' with
  | nil => cases hn'
  | wrg q i => cases hp'
  | flt c a =>
    obtain ⟨p, rfl, hat⟩ := hc'
    obtain ⟨pb, po, rfl, hpb, h0, h1⟩ := hat.flat2
    have hty := run_eql_iface_types (P := Tryz.prog) 112 130 (.pointer (some ⟨pb, po, none⟩)) (.int .i64 i) Tryz.underlying34 (by decide) wr
    clear hat hch
    have hres : hasE e i = (c == i) := by unfold hasE; rw [← hre]; rfl
    by_cases hci : c = i
    ·subst hci
     go_wp2
     go_ret
     exact ⟨by rw [hres]; simp, rfl⟩
    ·have hci' : ¬ i = c := fun h => hci h.symm
     go_wp2
     go_ret
     exact ⟨by rw [hres]; simp [hci], rfl⟩
  | win s i' =>
    obtain ⟨p, v, rfl, hat, hin⟩ := hc'
    obtain ⟨pb, po, rfl, hpb, h0, h1⟩ := hat.flat2
    have hty := run_eql_iface_types (P := Tryz.prog) 157 130 (.pointer (some ⟨pb, po, none⟩)) (.int .i64 i) Tryz.underlying34 (by decide) wr
    clear hch
    rcases hin.isNil with ⟨rfl, rfl⟩ | ⟨hni, u1, v1, rfl⟩
    ·go_wp2
     go_ret
     refine ⟨?_, rfl⟩
     unfold hasE; rw [← hre]; rfl
    ·have hlen := chainLenI_eq (B := B) (W := wr) ⟨hin, hp'⟩
     have hlen0 := chainLenI_eq (B := B) (W := wr) (e := .win s i') ⟨⟨_, _, rfl, hat, hin⟩, hp'⟩
     have HC : Hid (ChainI B wr (.iface u1 v1) i') := ⟨hin, hp'⟩
     clear hin hat
     go_wp2
     go_roundw
     case rel => exact ⟨trivial, i', HC.out, hni, hre⟩
     case measure =>
      show chainLenI B wr (.iface u1 v1) < _
      rw [hlen, hlen0]; exact Nat.lt_succ_self _
set_option maxRecDepth 1000000 in
theorem F.Is_run (w : World) (i : Int) (B : Nat) (e : Err) (u : Value) (hch : ChainI B w u e) :
 Calls Tryz.prog 57 #[u, .iface 130 (.int .i64 i)] w fun ev w' => ev = .returned (.bool (hasE e i)) ∧ w' = w := by
 have h10 := @run_callFunc_extern Tryz.prog 106 _ ReflectliteType.typeOf Tryz.func106 (by kernel_rfl) (by kernel_rfl) (by kernel_rfl) (by kernel_rfl)
 have h30 := @run_callFunc_extern Tryz.prog 243 _ (ReflectliteType.method fun t => do Rtype.noPackHeld "Comparable" t; pure (.bool (← typeInfo t).comparable)) Tryz.func243 (by kernel_rfl) (by kernel_rfl) (by kernel_rfl) (by kernel_rfl)
 have tK := F.isTypeOf
 have cK := F.isComparable
 have mC := F.isMethodComparable
 rcases hch.1.isNil with ⟨rfl, rfl⟩ | ⟨hni, ty, x, rfl⟩
 ·have hnl := run_eql_iface_nil_left (P := Tryz.prog) (w := w) 130 (.int .i64 i) Tryz.underlying34
  go_enter Tryz.func57, Tryz.ntmps57
  go_wp2
  go_ret
  exact ⟨rfl, rfl⟩
 ·have h0 := F.is_chain w i B e (.iface ty x) hch hni
  clear hch
  go_enter Tryz.func57, Tryz.ntmps57
  go_wp2_with (go_at_call 107; refine h0.mono ?_; rintro ev w' ⟨rfl, rfl⟩)
  go_ret
  exact ⟨rfl, rfl⟩
theorem F.has_run (w : World) (i : Int) (e : Err) (u : Value) (hch : ChainI w.heap.size w u e) :
 Calls Tryz.prog 24 #[u, .int .i64 i] w fun ev w' => ev = .returned (.bool (hasE e i)) ∧ Below w.heap.size w w' := by
 have h0 := F.Is_run w i w.heap.size e u hch
 clear hch
 go_enter Tryz.func24, Tryz.ntmps24
 go_wp2_with (go_at_call 57; refine h0.mono ?_; rintro ev w' ⟨rfl, rfl⟩)
 go_ret
 exact ⟨rfl, Below.refl _ _⟩
namespace N24
noncomputable def ent : Entry := erEnt2 fun e i => .bool (hasE e i)
theorem ok : EntOk Tryz.prog 112 157 24 ent := er_ok2 Tryz.func24 (by kernel_rfl) (by kernel_rfl) fun e i u w hr hp => F.has_run w i e u ⟨hr, hp⟩
end N24
end Go.Proofs.Yf
namespace Go.Proofs.Yf
open Go Go.Aw Go.Proofs Go.Proofs.YtlmojaagfmhejaaGreatDoor Go.ChangeShapes Go.WideShapes Go.RowKit
theorem Tryz.et : Tryz.prog.globalNamed "errors.errorType" = some 0 := by kernel_rfl
theorem Tryz.rt : (Tryz.prog.cutTypes.find? (·.1 == "internal/reflectlite.rtype")).map (·.2) = some 225 := by kernel_rfl
theorem Tryz.oneRow : ((List.range 325).filter fun t => Tryz.prog.rowNamed t [101, 114, 114, 111, 114]) = [34] := by kernel_rfl
theorem Tryz.typesSize : Tryz.prog.types.size = 325 := by kernel_rfl
theorem handle_of_laid {W : World} (h : laidMetH Tryz.prog [("errors.errorType", Rows.laid_errors_errorType)] W) : W.cell? ⟨0, 0, none⟩ = some (.iface 225 (.agg #[.pointer (some ⟨2, 34, none⟩)])) := by
 have h' : laidMet Tryz.prog [] W ∧ handlesMet Tryz.prog [("errors.errorType", Rows.laid_errors_errorType)] W := h
 obtain ⟨name, u, ty, e1, e2, e3, e4, e5⟩ := h'.2 _ (List.mem_singleton.2 rfl)
 have en : name = [101, 114, 114, 111, 114] := (Option.some.inj e1).symm
 subst en
 obtain rfl := Option.some.inj (Tryz.rt.symm.trans e2)
 have hm : ty ∈ (List.range 325).filter fun t => Tryz.prog.rowNamed t [101, 114, 114, 111, 114] := List.mem_filter.2 ⟨List.mem_range.2 (by rw [← Tryz.typesSize]; exact e3), e4⟩
 rw [Tryz.oneRow] at hm
 obtain rfl := List.mem_singleton.1 hm
 have hh : typeHandle Tryz.prog 34 = .pointer (some ⟨2, 34, none⟩) := by kernel_rfl
 rw [hh] at e5
 simpa using World.var?_cell Tryz.et e5 0
theorem hand {W : World} (h : laidMetH Tryz.prog [("errors.errorType", Rows.laid_errors_errorType)] W) : ∀ g v, hdlOf Tryz.prog = some (g, v) → W.cell? ⟨g, 0, none⟩ = some v := by
 intro g v hg
 rw [F.hdl] at hg
 cases hg
 exact handle_of_laid h
noncomputable def laidWorld (os : Os) : World :=
 let w0 := World.holding Tryz.prog os ⟨#[], #[], []⟩
 { w0 with heap := w0.heap.modify 0 fun
  | .cells _ t frozen => .cells #[.iface 225 (.agg #[.pointer (some ⟨2, 34, none⟩)])] t frozen
  | o => o }
theorem laid_met (os : Os) (args : Array Value) : laidMetH Tryz.prog [("errors.errorType", Rows.laid_errors_errorType)] ((laidWorld os).forCall (fun _ _ => 0) ⟨#[], args, []⟩).memory :=
 laidMetH_of_parts (laidMet_nil _ _) (by kernel_rfl)
end Go.Proofs.Yf
namespace Go.Proofs.Yf
open Go.Aw Go.Proofs
def tyL : List (Nat × Ty) := [(5, (Ty.int IntKind.u8)), (102, Zy1), (82, (Ty.pair Zy3 Zy0)), (89, (Ty.pair Zy3 Zy3)), (9, Ty.str), (3, Zy3), (84, (Ty.pair Zy3 (Ty.pair (Ty.pair Zy3 Zy0) (Ty.pair (Ty.list (Ty.pair Zy3 Zy0)) (Ty.pair Ty.str (Ty.pair Zy3 (Ty.pair (Ty.list Ty.str) (Ty.list Zy3)))))))), (80, Zy2), (4, Ty.bool), (165, (Ty.pair Ty.str (Ty.pair Ty.str (Ty.pair (Ty.list Ty.str) (Ty.pair Zy3 Ty.bool)))))]
def tys : Nat → Option Ty := tab tyL
theorem mixed_ok : Tryz.prog.follows .mixedOrders = true := by kernel_rfl
theorem tyL_ok : tyL.all (tyRight Tryz.prog) = true := by kernel_rfl
noncomputable def sld {α : Type} (a : α) : α := Classical.choose (⟨a, rfl⟩ : ∃ g, g = a)
theorem sld_eq {α : Type} (a : α) : sld a = a := Classical.choose_spec (⟨a, rfl⟩ : ∃ g, g = a)
def ks (l : List Nat) : Canon := ⟨l.map fun s => (s, .keep)⟩
noncomputable def cb : Cfg := { P := Tryz.prog, tf := 112, tw := 157, ty := tys, E := tab [], eqT := tab [] }
theorem tab_n {P : Program} {a b : TypeId} : ∀ p ∈ ([] : List (Nat × Entry)), EntOk P a b p.1 p.2 := fun _ h => by cases h
theorem tab_c {P : Program} {a b : TypeId} {f : Nat} {en : Entry} {l : List (Nat × Entry)} (h : EntOk P a b f en) (r : ∀ p ∈ l, EntOk P a b p.1 p.2) : ∀ p ∈ (f, en) :: l, EntOk P a b p.1 p.2 :=
 List.forall_mem_cons.2 ⟨h, r⟩
def cvE (ts : List CV) (e : Entry) : Entry := fun args blks k kp => e (convB ts args) blks k kp
theorem fnOk {cfg : Cfg} {l : List (Nat × Entry)} {e : List (Nat × List Ty)} {f : FuncId} {fn : Func} {en : Entry} {ts : List CV} (hP : cfg.P = Tryz.prog) (ht : cfg.ty = tys) (he : cfg.eqT = tab e) (hE : cfg.E = tab l) (hl : e.all (eqRight Tryz.prog) = true)
 (h : ∀ p ∈ l, EntOk cfg.P cfg.tf cfg.tw p.1 p.2) (hf : Tryz.prog.funcs[f]? = some fn) (hn : (fn.name == "runtime.NumGoroutine") = false) (hb : fn.body.isNone = false)
 (sub : ∀ args blks k kp, en args blks k kp → ∀ k' kp', en args blks k' kp' = funW cfg fn args blks k' kp') : EntOk cfg.P cfg.tf cfg.tw f (cvE ts en) :=
 EntOk.convB (EntOk.of (funW_ok (tyOk_of hP ht tyL_ok) (eqOk_of hP he hl) (hP ▸ mixed_ok) (fun g en h' => by rw [hE] at h'; exact tab_ok h g en h') (hP ▸ hf) hn hb) sub) ts
end Go.Proofs.Yf
namespace Go.Proofs.Yf
open Go Go.Aw Go.Proofs
namespace N109
noncomputable def cfg : Cfg := { cb with E := tab [], fzB := [2] }
noncomputable def body : Code := bodyOf Tryz.f109
def c (aa : Int) (ab : BA) (ac ad ae : Int) (x1 : BA) (k : Bool → Prop) : Prop :=
 (br (aa == (1 : Int)) (k (beqS ab x1)) (br (aa == (7 : Int)) (k (beqS ab x1)) (k false)))
def f0 aa ab ac ad ae x1 k := c aa ab ac ad ae x1 k
noncomputable def f := sld f0
theorem f_def : f = f0 := sld_eq f0
def K0 (k : KT) (y0 : Bool) : Prop := k (.v (.bool y0)) []
noncomputable def T (k kp : KT) := topK cfg Tryz.f109 k kp
noncomputable def JJ (k kp : KT) : Nat → St → Prop := pick none' []
noncomputable def LL (k kp : KT) : Nat → St → Prop := pick none' []
def pa (aa : Int) (ab : BA) (ac ad ae : Int) (x1 : BA) : List D := [(.agg [(.v (.int .i64 aa)), (.v (.string ab)), (.v (.int .i64 ac)), (.v (.int .i64 ad)), (.v (.int .i64 ae))]), (.v (.string x1))]
def pb (aa : Int) (ab : BA) (ac ad ae : Int) (x1 : BA) : List Blk := []
theorem body_is : Tryz.f109.body = some body := by kernel_rfl
theorem f_eq (k kp aa ab ac ad ae x1) : funW cfg Tryz.f109 (pa aa ab ac ad ae x1) (pb aa ab ac ad ae x1) k kp = f aa ab ac ad ae x1 (K0 k) :=
 raw_fun (own := 1000001) none'' (JJ k kp) (LL k kp) (fun J L => c aa ab ac ad ae x1 (K0 k)) body_is (by kernel_rfl) (fun J L => by kernel_rfl) (by rw [f_def]; rfl)
noncomputable def ent0 : Entry := fun args blks k _ => match args, blks with
 | [d0, d1], [] => aAgg 5 d0 fun l => aCons l fun d0_0 l => aCons l fun d0_1 l => aCons l fun d0_2 l => aCons l fun d0_3 l => aCons l fun d0_4 l => aNil l (aInt IntKind.i64 d0_0 fun aa => aStr d0_1 fun ab => aInt IntKind.i64 d0_2 fun ac => aInt IntKind.i64 d0_3 fun ad => aInt IntKind.i64 d0_4 fun ae => aStr d1 fun x1 => f aa ab ac ad ae x1 (K0 k))
 | _, _ => False
noncomputable def ent : Entry := cvE [.no, .no] ent0
theorem ok : EntOk Tryz.prog 112 157 109 ent := by
 refine fnOk (cfg := cfg) rfl rfl rfl rfl (by kernel_rfl) ?_ Tryz.func109 (by rfl) (by rfl) ?_
 ·exact tab_n
 ·intro args blks k kp h k' kp'
  match args, blks, h with
  | [d0, d1], [], h =>
  dsimp only [ent0] at h
  repeat ((first|have q := aAgg_elim h|have q := aCons_elim h|have q := aNil_elim h|have q := aInt_elim h|have q := aStr_elim h); clear h; first|obtain ⟨rfl, h⟩ := q|obtain ⟨_, rfl, h⟩ := q|obtain ⟨_, _, rfl, h⟩ := q)
  exact (f_eq ..).symm
end N109
namespace N143
noncomputable def cfg : Cfg := { cb with E := tab [] }
noncomputable def body : Code := bodyOf Tryz.f143
def c (aa : Zq0) (ab : Int) (k : Int → BA → Int → Int → Int → Zq0 → Int → Prop) : Prop :=
 ((inB 0 ab ((((aa).length : Nat) : Int) - 1)) ∧ (k (aa.getD (Int.toNat ab) ((0, (ByteArray.empty, (0, (0, 0)))))).1 (aa.getD (Int.toNat ab) ((0, (ByteArray.empty, (0, (0, 0)))))).2.1 (aa.getD (Int.toNat ab) ((0, (ByteArray.empty, (0, (0, 0)))))).2.2.1 (aa.getD (Int.toNat ab) ((0, (ByteArray.empty, (0, (0, 0)))))).2.2.2.1 (aa.getD (Int.toNat ab) ((0, (ByteArray.empty, (0, (0, 0)))))).2.2.2.2 aa ab))
def f0 aa ab k := c aa ab k
noncomputable def f := sld f0
theorem f_def : f = f0 := sld_eq f0
def K0 (k : KT) (ac : Int) (ad : BA) (ae af ah : Int) (ai : Zq0) (aj : Int) : Prop := k (.agg [(.v (.int .i64 ac)), (.v (.string ad)), (.v (.int .i64 ae)), (.v (.int .i64 af)), (.v (.int .i64 ah))]) [(.box 124 [(.fz Zy1 ai), (.v (.int .i64 aj))])]
noncomputable def T (k kp : KT) := topK cfg Tryz.f143 k kp
noncomputable def JJ (k kp : KT) : Nat → St → Prop := pick none' []
noncomputable def LL (k kp : KT) : Nat → St → Prop := pick none' []
def pa (aa : Zq0) (ab : Int) : List D := [(.ptr 0 0)]
def pb (aa : Zq0) (ab : Int) : List Blk := [(.box 124 [(.fz Zy1 aa), (.v (.int .i64 ab))])]
theorem body_is : Tryz.f143.body = some body := by kernel_rfl
theorem f_eq (k kp aa ab) : funW cfg Tryz.f143 (pa aa ab) (pb aa ab) k kp = f aa ab (K0 k) :=
 raw_fun (own := 1000001) none'' (JJ k kp) (LL k kp) (fun J L => c aa ab (K0 k)) body_is (by kernel_rfl) (fun J L => by kernel_rfl) (by rw [f_def]; rfl)
noncomputable def ent0 : Entry := fun args blks k _ => match args, blks with
 | [d0], [e0] => aPtr 0 0 d0 (aBox 124 e0 fun l => aCons l fun ak l => aCons l fun al l => aNil l (aFz Zy1 ak fun aa => aInt IntKind.i64 al fun ab => f aa ab (K0 k)))
 | _, _ => False
noncomputable def ent : Entry := cvE [.no] ent0
theorem ok : EntOk Tryz.prog 112 157 143 ent := by
 refine fnOk (cfg := cfg) rfl rfl rfl rfl (by kernel_rfl) ?_ Tryz.func143 (by rfl) (by rfl) ?_
 ·exact tab_n
 ·intro args blks k kp h k' kp'
  match args, blks, h with
  | [d0], [e0], h =>
  dsimp only [ent0] at h
  repeat ((first|have q := aPtr_elim h|have q := aBox_elim h|have q := aCons_elim h|have q := aNil_elim h|have q := aFz_elim h|have q := aInt_elim h); clear h; first|obtain ⟨rfl, h⟩ := q|obtain ⟨_, rfl, h⟩ := q|obtain ⟨_, _, rfl, h⟩ := q)
  exact (f_eq ..).symm
end N143
namespace N98
noncomputable def cfg : Cfg := { cb with E := tab [(143, N143.ent), (109, N109.ent)] }
noncomputable def body : Code := bodyOf Tryz.f98
def c (x1 : BA) (aa : Zq0) (ab : Int) (k : Bool → Zq0 → Int → Prop) : Prop :=
 (N143.f aa ab (fun ac ad ae af ah ai aj => (N109.f ac ad ae af ah x1 (fun ak => (k ak ai aj)))))
def f0 x1 aa ab k := c x1 aa ab k
noncomputable def f := sld f0
theorem f_def : f = f0 := sld_eq f0
def K0 (k : KT) (y0 : Bool) (al : Zq0) (am : Int) : Prop := k (.v (.bool y0)) [(.box 124 [(.fz Zy1 al), (.v (.int .i64 am))])]
noncomputable def T (k kp : KT) := topK cfg Tryz.f98 k kp
noncomputable def JJ (k kp : KT) : Nat → St → Prop := pick none' []
noncomputable def LL (k kp : KT) : Nat → St → Prop := pick none' []
def pa (x1 : BA) (aa : Zq0) (ab : Int) : List D := [(.ptr 0 0), (.v (.string x1))]
def pb (x1 : BA) (aa : Zq0) (ab : Int) : List Blk := [(.box 124 [(.fz Zy1 aa), (.v (.int .i64 ab))])]
theorem body_is : Tryz.f98.body = some body := by kernel_rfl
theorem f_eq (k kp x1 aa ab) : funW cfg Tryz.f98 (pa x1 aa ab) (pb x1 aa ab) k kp = f x1 aa ab (K0 k) :=
 raw_fun (own := 1000001) none'' (JJ k kp) (LL k kp) (fun J L => c x1 aa ab (K0 k)) body_is (by kernel_rfl) (fun J L => by kernel_rfl) (by rw [f_def]; rfl)
noncomputable def ent0 : Entry := fun args blks k _ => match args, blks with
 | [d0, d1], [e0] => aPtr 0 0 d0 (aStr d1 fun x1 => aBox 124 e0 fun l => aCons l fun an l => aCons l fun ao l => aNil l (aFz Zy1 an fun aa => aInt IntKind.i64 ao fun ab => f x1 aa ab (K0 k)))
 | _, _ => False
noncomputable def ent : Entry := cvE [.no, .no] ent0
theorem ok : EntOk Tryz.prog 112 157 98 ent := by
 refine fnOk (cfg := cfg) rfl rfl rfl rfl (by kernel_rfl) ?_ Tryz.func98 (by rfl) (by rfl) ?_
 ·exact tab_c N143.ok <| tab_c N109.ok <| tab_n
 ·intro args blks k kp h k' kp'
  match args, blks, h with
  | [d0, d1], [e0], h =>
  dsimp only [ent0] at h
  repeat ((first|have q := aPtr_elim h|have q := aStr_elim h|have q := aBox_elim h|have q := aCons_elim h|have q := aNil_elim h|have q := aFz_elim h|have q := aInt_elim h); clear h; first|obtain ⟨rfl, h⟩ := q|obtain ⟨_, rfl, h⟩ := q|obtain ⟨_, _, rfl, h⟩ := q)
  exact (f_eq ..).symm
end N98
namespace N94
noncomputable def cfg : Cfg := { cb with E := tab [(98, N98.ent)] }
noncomputable def body : Code := bodyOf Tryz.f94
def c (x1 : BA) (aa : Zq0) (ab : Int) (k : Bool → Zq0 → Int → Prop) : Prop :=
 (N98.f x1 aa ab (fun ae ac ad => (br (!ae) (k false ac ad) (k true ac (IntKind.i64.wrap (ad + (1 : Int)))))))
def f0 x1 aa ab k := c x1 aa ab k
noncomputable def f := sld f0
theorem f_def : f = f0 := sld_eq f0
def K0 (k : KT) (y0 : Bool) (af : Zq0) (ah : Int) : Prop := k (.v (.bool y0)) [(.box 124 [(.fz Zy1 af), (.v (.int .i64 ah))])]
noncomputable def T (k kp : KT) := topK cfg Tryz.f94 k kp
noncomputable def JJ (k kp : KT) : Nat → St → Prop := pick none' []
noncomputable def LL (k kp : KT) : Nat → St → Prop := pick none' []
def pa (x1 : BA) (aa : Zq0) (ab : Int) : List D := [(.ptr 0 0), (.v (.string x1))]
def pb (x1 : BA) (aa : Zq0) (ab : Int) : List Blk := [(.box 124 [(.fz Zy1 aa), (.v (.int .i64 ab))])]
theorem body_is : Tryz.f94.body = some body := by kernel_rfl
theorem f_eq (k kp x1 aa ab) : funW cfg Tryz.f94 (pa x1 aa ab) (pb x1 aa ab) k kp = f x1 aa ab (K0 k) :=
 raw_fun (own := 1000001) none'' (JJ k kp) (LL k kp) (fun J L => c x1 aa ab (K0 k)) body_is (by kernel_rfl) (fun J L => by kernel_rfl) (by rw [f_def]; rfl)
noncomputable def ent0 : Entry := fun args blks k _ => match args, blks with
 | [d0, d1], [e0] => aPtr 0 0 d0 (aStr d1 fun x1 => aBox 124 e0 fun l => aCons l fun ai l => aCons l fun aj l => aNil l (aFz Zy1 ai fun aa => aInt IntKind.i64 aj fun ab => f x1 aa ab (K0 k)))
 | _, _ => False
noncomputable def ent : Entry := cvE [.no, .no] ent0
theorem ok : EntOk Tryz.prog 112 157 94 ent := by
 refine fnOk (cfg := cfg) rfl rfl rfl rfl (by kernel_rfl) ?_ Tryz.func94 (by rfl) (by rfl) ?_
 ·exact tab_c N98.ok <| tab_n
 ·intro args blks k kp h k' kp'
  match args, blks, h with
  | [d0, d1], [e0], h =>
  dsimp only [ent0] at h
  repeat ((first|have q := aPtr_elim h|have q := aStr_elim h|have q := aBox_elim h|have q := aCons_elim h|have q := aNil_elim h|have q := aFz_elim h|have q := aInt_elim h); clear h; first|obtain ⟨rfl, h⟩ := q|obtain ⟨_, rfl, h⟩ := q|obtain ⟨_, _, rfl, h⟩ := q)
  exact (f_eq ..).symm
end N94
namespace N142
noncomputable def cfg : Cfg := { cb with E := tab [(143, N143.ent), (37, N37.ent)] }
noncomputable def body : Code := bodyOf Tryz.f142
def c (x1 : Int) (aa : Zq0) (ab : Int) (kp : Err → Prop) : Prop :=
 (N143.f aa ab (fun ad ae af ah ac ai aj => (kp (Err.wrg 180 (newE x1 ac)))))
def f0 x1 aa ab kp := c x1 aa ab kp
noncomputable def f := sld f0
theorem f_def : f = f0 := sld_eq f0
def KE (kp : KT) (e : Err) : Prop := kp (.er e) (List.replicate 1 .dead)
noncomputable def T (k kp : KT) := topK cfg Tryz.f142 k kp
noncomputable def JJ (k kp : KT) : Nat → St → Prop := pick none' []
noncomputable def LL (k kp : KT) : Nat → St → Prop := pick none' []
def pa (x1 : Int) (aa : Zq0) (ab : Int) : List D := [(.ptr 0 0), (.v (.int .i64 x1))]
def pb (x1 : Int) (aa : Zq0) (ab : Int) : List Blk := [(.box 124 [(.fz Zy1 aa), (.v (.int .i64 ab))])]
theorem body_is : Tryz.f142.body = some body := by kernel_rfl
theorem f_eq (k kp x1 aa ab) : funW cfg Tryz.f142 (pa x1 aa ab) (pb x1 aa ab) k kp = f x1 aa ab  (KE kp) :=
 raw_fun (own := 1000001) none'' (JJ k kp) (LL k kp) (fun J L => c x1 aa ab  (KE kp)) body_is (by kernel_rfl) (fun J L => by kernel_rfl) (by rw [f_def]; rfl)
noncomputable def ent0 : Entry := fun args blks k kp => match args, blks with
 | [d0, d1], [e0] => aPtr 0 0 d0 (aInt IntKind.i64 d1 fun x1 => aBox 124 e0 fun l => aCons l fun ak l => aCons l fun al l => aNil l (aFz Zy1 ak fun aa => aInt IntKind.i64 al fun ab => f x1 aa ab  (KE kp)))
 | _, _ => False
noncomputable def ent : Entry := cvE [.no, .no] ent0
theorem ok : EntOk Tryz.prog 112 157 142 ent := by
 refine fnOk (cfg := cfg) rfl rfl rfl rfl (by kernel_rfl) ?_ Tryz.func142 (by rfl) (by rfl) ?_
 ·exact tab_c N143.ok <| tab_c N37.ok <| tab_n
 ·intro args blks k kp h k' kp'
  match args, blks, h with
  | [d0, d1], [e0], h =>
  dsimp only [ent0] at h
  repeat ((first|have q := aPtr_elim h|have q := aInt_elim h|have q := aBox_elim h|have q := aCons_elim h|have q := aNil_elim h|have q := aFz_elim h); clear h; first|obtain ⟨rfl, h⟩ := q|obtain ⟨_, rfl, h⟩ := q|obtain ⟨_, _, rfl, h⟩ := q)
  exact (f_eq ..).symm
end N142
namespace N95
noncomputable def cfg : Cfg := { cb with E := tab [(94, N94.ent), (142, N142.ent)] }
noncomputable def body : Code := bodyOf Tryz.f95
def c (x1 : BA) (aa : Zq0) (ab : Int) (k : Zq0 → Int → Prop) (kp : Err → Prop) : Prop :=
 (N94.f x1 aa ab (fun ae ac ad => (br (!ae) (N142.f (20 : Int) ac ad kp) (k ac ad))))
def f0 x1 aa ab k kp := c x1 aa ab k kp
noncomputable def f := sld f0
theorem f_def : f = f0 := sld_eq f0
def K0 (k : KT) (af : Zq0) (ah : Int) : Prop := k (.tup []) [(.box 124 [(.fz Zy1 af), (.v (.int .i64 ah))])]
def KE (kp : KT) (e : Err) : Prop := kp (.er e) (List.replicate 1 .dead)
noncomputable def T (k kp : KT) := topK cfg Tryz.f95 k kp
noncomputable def JJ (k kp : KT) : Nat → St → Prop := pick none' []
noncomputable def LL (k kp : KT) : Nat → St → Prop := pick none' []
def pa (x1 : BA) (aa : Zq0) (ab : Int) : List D := [(.ptr 0 0), (.v (.string x1))]
def pb (x1 : BA) (aa : Zq0) (ab : Int) : List Blk := [(.box 124 [(.fz Zy1 aa), (.v (.int .i64 ab))])]
theorem body_is : Tryz.f95.body = some body := by kernel_rfl
theorem f_eq (k kp x1 aa ab) : funW cfg Tryz.f95 (pa x1 aa ab) (pb x1 aa ab) k kp = f x1 aa ab (K0 k) (KE kp) :=
 raw_fun (own := 1000001) none'' (JJ k kp) (LL k kp) (fun J L => c x1 aa ab (K0 k) (KE kp)) body_is (by kernel_rfl) (fun J L => by kernel_rfl) (by rw [f_def]; rfl)
noncomputable def ent0 : Entry := fun args blks k kp => match args, blks with
 | [d0, d1], [e0] => aPtr 0 0 d0 (aStr d1 fun x1 => aBox 124 e0 fun l => aCons l fun ai l => aCons l fun aj l => aNil l (aFz Zy1 ai fun aa => aInt IntKind.i64 aj fun ab => f x1 aa ab (K0 k) (KE kp)))
 | _, _ => False
noncomputable def ent : Entry := cvE [.no, .no] ent0
theorem ok : EntOk Tryz.prog 112 157 95 ent := by
 refine fnOk (cfg := cfg) rfl rfl rfl rfl (by kernel_rfl) ?_ Tryz.func95 (by rfl) (by rfl) ?_
 ·exact tab_c N94.ok <| tab_c N142.ok <| tab_n
 ·intro args blks k kp h k' kp'
  match args, blks, h with
  | [d0, d1], [e0], h =>
  dsimp only [ent0] at h
  repeat ((first|have q := aPtr_elim h|have q := aStr_elim h|have q := aBox_elim h|have q := aCons_elim h|have q := aNil_elim h|have q := aFz_elim h|have q := aInt_elim h); clear h; first|obtain ⟨rfl, h⟩ := q|obtain ⟨_, rfl, h⟩ := q|obtain ⟨_, _, rfl, h⟩ := q)
  exact (f_eq ..).symm
end N95
namespace N96
noncomputable def cfg : Cfg := { cb with E := tab [(143, N143.ent), (142, N142.ent)], atSeq := tab [(4, ks [0, 4, 5])] }
noncomputable def body : Code := bodyOf Tryz.f96
def j4 (aa : Zq0) (ab ai : Int) (aj : BA) (ak al : Int) (am ac : Int) (ad : BA) (ae af ah : Int) (k : Int → BA → Int → Int → Int → Zq0 → Int → Prop) (kp : Err → Prop) : Prop :=
 (k ac ad ae af ah aa (IntKind.i64.wrap (ab + (1 : Int))))
def c (j4 : Zq0 → Int → Int → BA → Int → Int → Int → Int → BA → Int → Int → Int → Prop) (x1 : Int) (aa : Zq0) (ab : Int) (k : Int → BA → Int → Int → Int → Zq0 → Int → Prop) (kp : Err → Prop) : Prop :=
 (N143.f aa ab (fun an aq ar au av ao ap => (br (an != x1) (N142.f (20 : Int) ao ap kp) (j4 ao ap (0 : Int) (ByteArray.mk #[]) (0 : Int) (0 : Int) (0 : Int) an aq ar au av))))
def j4' aa ab ai aj ak al am ac ad ae af ah k kp := j4 aa ab ai aj ak al am ac ad ae af ah k kp
def f0 x1 aa ab k kp := c (fun aa ab ai aj ak al am ac ad ae af ah => j4' aa ab ai aj ak al am ac ad ae af ah k kp) x1 aa ab k kp
noncomputable def f := sld f0
theorem f_def : f = f0 := sld_eq f0
def m4 (aa : Zq0) (ab ai : Int) (aj : BA) (ak al : Int) (am ac : Int) (ad : BA) (ae af ah : Int) : St := { tmps := mkT 22 0 [(0, (.ptr 0 0)), (4, (.ptr 1 0)), (5, (.ptr 2 0))], hp := [(.box 124 [(.fz Zy1 aa), (.v (.int .i64 ab))]), (.box 102 [(.v (.int .i64 ai)), (.v (.string aj)), (.v (.int .i64 ak)), (.v (.int .i64 al)), (.v (.int .i64 am))]), (.box 102 [(.v (.int .i64 ac)), (.v (.string ad)), (.v (.int .i64 ae)), (.v (.int .i64 af)), (.v (.int .i64 ah))])], m := 1 }
def M4 (g : St → Prop) aa ab ai aj ak al am ac ad ae af ah := g (m4 aa ab ai aj ak al am ac ad ae af ah)
def K0 (k : KT) (aw : Int) (ax : BA) (ay az a0 : Int) (a1 : Zq0) (a2 : Int) : Prop := k (.agg [(.v (.int .i64 aw)), (.v (.string ax)), (.v (.int .i64 ay)), (.v (.int .i64 az)), (.v (.int .i64 a0))]) [(.box 124 [(.fz Zy1 a1), (.v (.int .i64 a2))])]
def KE (kp : KT) (e : Err) : Prop := kp (.er e) (List.replicate 1 .dead)
noncomputable def T (k kp : KT) := topK cfg Tryz.f96 k kp
noncomputable def X4 (k kp : KT) : St → Prop := atP cfg (pick none' []) [1, 1, 1] body (T k kp)
noncomputable def JJ (k kp : KT) : Nat → St → Prop := pick none' [(4, X4 k kp)]
noncomputable def LL (k kp : KT) : Nat → St → Prop := pick none' []
theorem j4_eq (k kp) : M4 (X4 k kp) = fun aa ab ai aj ak al am ac ad ae af ah => j4' aa ab ai aj ak al am ac ad ae af ah (K0 k) (KE kp) := by
 funext aa ab ai aj ak al am ac ad ae af ah
 exact raw_eq (own:=4) rfl (JJ k kp) (LL k kp) (fun J L => j4 aa ab ai aj ak al am ac ad ae af ah (K0 k) (KE kp)) (by kernel_rfl) (fun _ _ => by kernel_rfl) rfl
def pa (x1 : Int) (aa : Zq0) (ab : Int) : List D := [(.ptr 0 0), (.v (.int .i64 x1))]
def pb (x1 : Int) (aa : Zq0) (ab : Int) : List Blk := [(.box 124 [(.fz Zy1 aa), (.v (.int .i64 ab))])]
theorem body_is : Tryz.f96.body = some body := by kernel_rfl
theorem f_eq (k kp x1 aa ab) : funW cfg Tryz.f96 (pa x1 aa ab) (pb x1 aa ab) k kp = f x1 aa ab (K0 k) (KE kp) :=
 raw_fun (own := 1000001) none'' (JJ k kp) (LL k kp) (fun J L => c (M4 (J 4)) x1 aa ab (K0 k) (KE kp)) body_is (by kernel_rfl) (fun J L => by kernel_rfl) (by rw [f_def]; erw [j4_eq k kp] <;> rfl)
noncomputable def ent0 : Entry := fun args blks k kp => match args, blks with
 | [d0, d1], [e0] => aPtr 0 0 d0 (aInt IntKind.i64 d1 fun x1 => aBox 124 e0 fun l => aCons l fun a3 l => aCons l fun a4 l => aNil l (aFz Zy1 a3 fun aa => aInt IntKind.i64 a4 fun ab => f x1 aa ab (K0 k) (KE kp)))
 | _, _ => False
noncomputable def ent : Entry := cvE [.no, .no] ent0
theorem ok : EntOk Tryz.prog 112 157 96 ent := by
 refine fnOk (cfg := cfg) rfl rfl rfl rfl (by kernel_rfl) ?_ Tryz.func96 (by rfl) (by rfl) ?_
 ·exact tab_c N143.ok <| tab_c N142.ok <| tab_n
 ·intro args blks k kp h k' kp'
  match args, blks, h with
  | [d0, d1], [e0], h =>
  dsimp only [ent0] at h
  repeat ((first|have q := aPtr_elim h|have q := aInt_elim h|have q := aBox_elim h|have q := aCons_elim h|have q := aNil_elim h|have q := aFz_elim h); clear h; first|obtain ⟨rfl, h⟩ := q|obtain ⟨_, rfl, h⟩ := q|obtain ⟨_, _, rfl, h⟩ := q)
  exact (f_eq ..).symm
end N96
namespace N99
noncomputable def cfg : Cfg := { cb with E := tab [] }
noncomputable def body : Code := bodyOf Tryz.f99
def c (aa : Zq0) (ab : Int) (k : Int → BA → Int → Int → Int → Zq0 → Int → Prop) : Prop :=
 ((inB 0 (mmv false (IntKind.i64.wrap (ab + (1 : Int))) (IntKind.i64.wrap (((((aa).length : Nat) : Int)) - (1 : Int)))) ((((aa).length : Nat) : Int) - 1)) ∧ (k (aa.getD (Int.toNat (mmv false (IntKind.i64.wrap (ab + (1 : Int))) (IntKind.i64.wrap (((((aa).length : Nat) : Int)) - (1 : Int))))) ((0, (ByteArray.empty, (0, (0, 0)))))).1 (aa.getD (Int.toNat (mmv false (IntKind.i64.wrap (ab + (1 : Int))) (IntKind.i64.wrap (((((aa).length : Nat) : Int)) - (1 : Int))))) ((0, (ByteArray.empty, (0, (0, 0)))))).2.1 (aa.getD (Int.toNat (mmv false (IntKind.i64.wrap (ab + (1 : Int))) (IntKind.i64.wrap (((((aa).length : Nat) : Int)) - (1 : Int))))) ((0, (ByteArray.empty, (0, (0, 0)))))).2.2.1 (aa.getD (Int.toNat (mmv false (IntKind.i64.wrap (ab + (1 : Int))) (IntKind.i64.wrap (((((aa).length : Nat) : Int)) - (1 : Int))))) ((0, (ByteArray.empty, (0, (0, 0)))))).2.2.2.1 (aa.getD (Int.toNat (mmv false (IntKind.i64.wrap (ab + (1 : Int))) (IntKind.i64.wrap (((((aa).length : Nat) : Int)) - (1 : Int))))) ((0, (ByteArray.empty, (0, (0, 0)))))).2.2.2.2 aa ab))
def f0 aa ab k := c aa ab k
noncomputable def f := sld f0
theorem f_def : f = f0 := sld_eq f0
def K0 (k : KT) (ac : Int) (ad : BA) (ae af ah : Int) (ai : Zq0) (aj : Int) : Prop := k (.agg [(.v (.int .i64 ac)), (.v (.string ad)), (.v (.int .i64 ae)), (.v (.int .i64 af)), (.v (.int .i64 ah))]) [(.box 124 [(.fz Zy1 ai), (.v (.int .i64 aj))])]
noncomputable def T (k kp : KT) := topK cfg Tryz.f99 k kp
noncomputable def JJ (k kp : KT) : Nat → St → Prop := pick none' []
noncomputable def LL (k kp : KT) : Nat → St → Prop := pick none' []
def pa (aa : Zq0) (ab : Int) : List D := [(.ptr 0 0)]
def pb (aa : Zq0) (ab : Int) : List Blk := [(.box 124 [(.fz Zy1 aa), (.v (.int .i64 ab))])]
theorem body_is : Tryz.f99.body = some body := by kernel_rfl
theorem f_eq (k kp aa ab) : funW cfg Tryz.f99 (pa aa ab) (pb aa ab) k kp = f aa ab (K0 k) :=
 raw_fun (own := 1000001) none'' (JJ k kp) (LL k kp) (fun J L => c aa ab (K0 k)) body_is (by kernel_rfl) (fun J L => by kernel_rfl) (by rw [f_def]; rfl)
noncomputable def ent0 : Entry := fun args blks k _ => match args, blks with
 | [d0], [e0] => aPtr 0 0 d0 (aBox 124 e0 fun l => aCons l fun ak l => aCons l fun al l => aNil l (aFz Zy1 ak fun aa => aInt IntKind.i64 al fun ab => f aa ab (K0 k)))
 | _, _ => False
noncomputable def ent : Entry := cvE [.no] ent0
theorem ok : EntOk Tryz.prog 112 157 99 ent := by
 refine fnOk (cfg := cfg) rfl rfl rfl rfl (by kernel_rfl) ?_ Tryz.func99 (by rfl) (by rfl) ?_
 ·exact tab_n
 ·intro args blks k kp h k' kp'
  match args, blks, h with
  | [d0], [e0], h =>
  dsimp only [ent0] at h
  repeat ((first|have q := aPtr_elim h|have q := aBox_elim h|have q := aCons_elim h|have q := aNil_elim h|have q := aFz_elim h|have q := aInt_elim h); clear h; first|obtain ⟨rfl, h⟩ := q|obtain ⟨_, rfl, h⟩ := q|obtain ⟨_, _, rfl, h⟩ := q)
  exact (f_eq ..).symm
end N99
namespace N173
noncomputable def cfg : Cfg := { cb with E := tab [(143, N143.ent), (142, N142.ent)] }
noncomputable def body : Code := bodyOf Tryz.f173
def c (aa : Zq0) (ab : Int) (k : Int → Int → Int → Zq0 → Int → Prop) (kp : Err → Prop) : Prop :=
 (N143.f aa ab (fun ae ai af ah aj ac ad => (br (ae == (5 : Int)) (k (2 : Int) ah af ac (IntKind.i64.wrap (ad + (1 : Int)))) (br (ae == (6 : Int)) (k (3 : Int) (0 : Int) af ac (IntKind.i64.wrap (ad + (1 : Int)))) (N142.f (20 : Int) ac ad kp)))))
def f0 aa ab k kp := c aa ab k kp
noncomputable def f := sld f0
theorem f_def : f = f0 := sld_eq f0
def K0 (k : KT) (ak al am : Int) (an : Zq0) (ao : Int) : Prop := k (.agg [(.v (.int .i64 ak)), (.v (.int .i64 al)), (.v (.int .i64 am))]) [(.box 124 [(.fz Zy1 an), (.v (.int .i64 ao))])]
def KE (kp : KT) (e : Err) : Prop := kp (.er e) (List.replicate 1 .dead)
noncomputable def T (k kp : KT) := topK cfg Tryz.f173 k kp
noncomputable def JJ (k kp : KT) : Nat → St → Prop := pick none' []
noncomputable def LL (k kp : KT) : Nat → St → Prop := pick none' []
def pa (aa : Zq0) (ab : Int) : List D := [(.ptr 0 0)]
def pb (aa : Zq0) (ab : Int) : List Blk := [(.box 124 [(.fz Zy1 aa), (.v (.int .i64 ab))])]
theorem body_is : Tryz.f173.body = some body := by kernel_rfl
theorem f_eq (k kp aa ab) : funW cfg Tryz.f173 (pa aa ab) (pb aa ab) k kp = f aa ab (K0 k) (KE kp) :=
 raw_fun (own := 1000001) none'' (JJ k kp) (LL k kp) (fun J L => c aa ab (K0 k) (KE kp)) body_is (by kernel_rfl) (fun J L => by kernel_rfl) (by rw [f_def]; rfl)
noncomputable def ent0 : Entry := fun args blks k kp => match args, blks with
 | [d0], [e0] => aPtr 0 0 d0 (aBox 124 e0 fun l => aCons l fun ap l => aCons l fun aq l => aNil l (aFz Zy1 ap fun aa => aInt IntKind.i64 aq fun ab => f aa ab (K0 k) (KE kp)))
 | _, _ => False
noncomputable def ent : Entry := cvE [.no] ent0
theorem ok : EntOk Tryz.prog 112 157 173 ent := by
 refine fnOk (cfg := cfg) rfl rfl rfl rfl (by kernel_rfl) ?_ Tryz.func173 (by rfl) (by rfl) ?_
 ·exact tab_c N143.ok <| tab_c N142.ok <| tab_n
 ·intro args blks k kp h k' kp'
  match args, blks, h with
  | [d0], [e0], h =>
  dsimp only [ent0] at h
  repeat ((first|have q := aPtr_elim h|have q := aBox_elim h|have q := aCons_elim h|have q := aNil_elim h|have q := aFz_elim h|have q := aInt_elim h); clear h; first|obtain ⟨rfl, h⟩ := q|obtain ⟨_, rfl, h⟩ := q|obtain ⟨_, _, rfl, h⟩ := q)
  exact (f_eq ..).symm
end N173
end Go.Proofs.Yf
namespace Go.Aw
open Go Go.RowKit Go.Proofs
variable {P : Program} {tf tw : TypeId} {W : World}
def HdlAt (P : Program) (W : World) : Prop := ∀ g v, hdlOf P = some (g, v) → W.cell? ⟨g, 0, none⟩ = some v
theorem HdlAt.below {W' : World} {B : Nat} (h : HdlAt P W) (hb : Below B W W') (hB : ∀ g v, hdlOf P = some (g, v) → g < B) : HdlAt P W' := fun g v hg => by
 rw [hb.cell (hB g v hg)]; exact h g v hg
theorem run0 {f : FuncId} {en : Entry} (ok : EntOk P tf tw f en) {us : List Value} {ds : List D} (hG : HdlAt P W) (hr : RepL (cx tf tw W) ds us) {Q : D → Prop} (h : en ds [] (fun d _ => Q d) never) :
 Calls P f us.toArray W fun e W' => ∃ d r c', e = .returned r ∧ Q d ∧ Below W.heap.size W W' ∧ Rep c' d r ∧ c'.w = W' ∧ c'.tf = tf ∧ c'.tw = tw ∧ HRep c' ∧ (∀ a, c'.fr a → a.block < W'.heap.size) := by
 have hT : TOk P tf tw (cx tf tw W) := by
  refine ⟨⟨rfl, rfl⟩, fun g v hg => ?_⟩
  have hc := hG g v hg
  intro j u hj
  match j, hj with
  | 0, hj =>
    cases hj
    rw [add_zero]
    exact ⟨World.block_lt_of_cell? W _ hc, hc⟩
 refine (ok.sound (cx tf tw W) ds us _ never hT hr cx_ok h).mono fun e W' hp => ?_
 cases e with
 | returned v =>
   obtain ⟨d, c', rfl, hk, hrep, H', I⟩ := hp
   refine ⟨d, v, c', rfl, hk, ⟨I.os, I.tape, I.output, I.size, fun k hk => I.keep k hk ?_⟩, hrep, rfl, I.tf, I.tw, H', H'.frin⟩
   rintro ⟨b, hb, _⟩
   simp [cx] at hb
 | panicked ch =>
   obtain ⟨d, p, c', _, _, hk, _⟩ := hp
   exact hk.elim
 | outgrown => exact hp.elim
def tokV (t : LTok) : Value := .agg #[.int .i64 t.1, .string t.2.1, .int .i64 t.2.2.1, .int .i64 t.2.2.2.1, .int .i64 t.2.2.2.2]
def tokC (t : LTok) : List Value := [.int .i64 t.1, .string t.2.1, .int .i64 t.2.2.1, .int .i64 t.2.2.2.1, .int .i64 t.2.2.2.2]
def frC (f : Fr) : List Value := [.int .i64 f.sum, .int .i64 f.add, .int .i64 f.prod, .bool f.times, .bool f.minus]
theorem hid {p : Prop} (h : p) : Hid p := h
theorem unhid {p : Prop} (h : Hid p) : p := h
def boolE (b : Bool) : D → Prop := fun d => d = .v (.bool b)
def intE (n : Int) : D → Prop := fun d => d = .v (.int .i64 n)
theorem rep_bool {c : Cx} {d : D} {r : Value} {b : Bool} (h : boolE b d) (hr : Rep c d r) : r = .bool b := by
 unfold boolE at h; subst h; simpa only [Rep] using hr
theorem rep_int {c : Cx} {d : D} {r : Value} {n : Int} (h : intE n d) (hr : Rep c d r) : r = .int .i64 n := by
 unfold intE at h; subst h; simpa only [Rep] using hr
theorem last_cell {w : World} {B S g cap m : Nat} {ys : List Value} {zs : List Value} (h : w.ownsRow B S 5 (.slice (some ⟨g, 0, none⟩) m cap) m (ys ++ zs)) (hm : ys.length + 5 = m * 5) (j : Nat) (hj : j < 5) (hz : zs.length = 5) :
 w.cell? ⟨g, ys.length + j, none⟩ = zs[j]? := by
 rw [h.cellAt _ (by omega), List.getElem?_append_right (by omega), show ys.length + j - ys.length = j by omega]
theorem last_set {w : World} {B S g cap m : Nat} {ys : List Value} {zs : List Value} (h : w.ownsRow B S 5 (.slice (some ⟨g, 0, none⟩) m cap) m (ys ++ zs)) (j : Nat) (u : Value) :
 (w.setCell ⟨g, ys.length + j, none⟩ u).ownsRow B S 5 (.slice (some ⟨g, 0, none⟩) m cap) m (ys ++ zs.set j u) := by
 have := (h.stored (ys.length + j) u).1
 rwa [List.set_append_right _ _ (by omega), show ys.length + j - ys.length = j by omega] at this
theorem row_lo {w : World} {B S g cap m : Nat} {xs : List Value} (h : w.ownsRow B S 5 (.slice (some ⟨g, 0, none⟩) m cap) m xs) : B ≤ g ∧ g < w.heap.size := by
 exact h.lt g rfl
theorem row_below {w w' : World} {B b S : Nat} {v : Value} {n : Nat} {xs : List Value} (h : w.ownsRow B S 5 v n xs) (hb : Below b w w') (hs : w.heap.size ≤ b) : w'.ownsRow B S 5 v n xs :=
 own_keep h fun k hk => hb.block k (Nat.lt_of_lt_of_le (own_lt h hk) hs)
theorem row_cap {w : World} {B S g cap m : Nat} {xs : List Value} (h : w.ownsRow B S 5 (.slice (some ⟨g, 0, none⟩) m cap) m xs) : m ≤ cap := by
 rcases h.2 with ⟨h0, _⟩ | ⟨g', cap', cur, hv, _, _, hn, _⟩
 ·cases h0
 ·cases hv; exact hn
theorem bcellB {B : Nat} {W w1 : World} (hb : Below B W w1) : (∀ b o, b < B → w1.cell? ⟨b, o, none⟩ = W.cell? ⟨b, o, none⟩) ∧ (∀ b o, b < B → w1.frozen? ⟨b, o, none⟩ = W.frozen? ⟨b, o, none⟩) :=
 ⟨fun b o h => hb.cell (p := ⟨b, o, none⟩) h, fun b o h => hb.frozen (p := ⟨b, o, none⟩) h⟩
def _root_.Go.Exit.jumps (J : Nat → Act → World → Prop) (Q : Exit → Act → World → Prop) : Exit → Act → World → Prop
 | .goto l, a, w => J l a w
 | e, a, w => Q e a w
theorem wp_scope_labels {c : Code} {a : Act} {w : World} {Q : Exit → Act → World → Prop} (J : Nat → Act → World → Prop) (μ : Act → World → Nat)
 (pass : ∀ l a w, J l a w → ∃ rest, findLabel c l = some rest ∧ rest.wp P (Exit.jumps (fun l' a' w' => J l' a' w' ∧ μ a' w' < μ a w) Q) a w)
 (m : Nat) (first : c.wp P (Exit.jumps (fun l a w => J l a w ∧ μ a w < m) Q) a w) : (Code.scope c).wp P Q a w := by
 intro b k cs
 have key : ∀ n l a w, μ a w = n → J l a w → ∀ rest, findLabel c l = some rest → ∃ e a' w', Q e a' w' ∧ Arrives P (lone (b.at a (.code rest :: .inScope c :: k)) cs w) b k cs e a' w' := by
  intro n
  induction n using Nat.strongRecOn with
  | _ n ih =>
    intro l a w hn hJ rest hrest
    obtain ⟨rest', hr', hp⟩ := pass l a w hJ
    rw [hrest] at hr'
    cases hr'
    obtain ⟨e, a₁, w₁, hq, harr⟩ := hp b (.inScope c :: k) cs
    cases e with
    | normal => exact ⟨.normal, a₁, w₁, hq, Steps.trans harr (.one step_inScope)⟩
    | exit id => exact ⟨.exit id, a₁, w₁, hq, fun k' hk => harr k' (by simp [exitTo, hk])⟩
    | goto l' =>
      obtain ⟨hJ', hlt⟩ := hq
      obtain ⟨rest2, hr2, _⟩ := pass l' a₁ w₁ hJ'
      have hg : gotoIn l' (.inScope c :: k) = some (.code rest2 :: .inScope c :: k) := by simp [gotoIn, hr2]
      obtain ⟨e₂, a₂, w₂, hq₂, harr₂⟩ := ih _ (by omega) l' a₁ w₁ rfl hJ' rest2 hr2
      exact ⟨e₂, a₂, w₂, hq₂, .of_steps (harr _ hg) harr₂⟩
    | ret => exact ⟨_, a₁, w₁, hq, harr⟩
    | panic ch => exact ⟨_, a₁, w₁, hq, harr⟩
    | outgrown => exact ⟨_, a₁, w₁, hq, harr⟩
 obtain ⟨e, a₁, w₁, hq, harr⟩ := first b (.inScope c :: k) cs
 cases e with
 | normal => exact ⟨.normal, a₁, w₁, hq, .head step_scope (Steps.trans harr (.one step_inScope))⟩
 | exit id => exact ⟨.exit id, a₁, w₁, hq, fun k' hk => .head step_scope (harr k' (by simp [exitTo, hk]))⟩
 | goto l' =>
   have hJ' : J l' a₁ w₁ := hq.1
   obtain ⟨rest2, hr2, _⟩ := pass l' a₁ w₁ hJ'
   have hg : gotoIn l' (.inScope c :: k) = some (.code rest2 :: .inScope c :: k) := by simp [gotoIn, hr2]
   obtain ⟨e₂, a₂, w₂, hq₂, harr₂⟩ := key _ l' a₁ w₁ rfl hJ' rest2 hr2
   exact ⟨e₂, a₂, w₂, hq₂, .of_steps (.head step_scope (harr _ hg)) harr₂⟩
 | ret => exact ⟨_, a₁, w₁, hq, .of_steps (.one step_scope) harr⟩
 | panic ch => exact ⟨_, a₁, w₁, hq, .of_steps (.one step_scope) harr⟩
 | outgrown => exact ⟨_, a₁, w₁, hq, .of_steps (.one step_scope) harr⟩
theorem skip_seq {c : Code} {a : Act} {w : World} {Q : Exit → Act → World → Prop} (h : c.wp P Q a w) : (Code.seq .skip c).wp P Q a w := wp_seq (wp_skip h)
theorem wp_scope_two {c : Code} {a : Act} {w : World} {Q : Exit → Act → World → Prop} (J : Nat → Act → World → Prop) (μ : Act → World → Nat) {rest0 rest1 : Code} (h0 : findLabel c 0 = some (.seq .skip rest0)) (h1 : findLabel c 1 = some (.seq .skip rest1))
 (hJ : ∀ l a w, J l a w → l = 0 ∨ l = 1)
 (p1 : ∀ a w m, J 1 a w → μ a w ≤ m → rest1.wp P (Exit.jumps (fun l a' w' => J l a' w' ∧ μ a' w' < m) Q) a w)
 (p0 : (∀ a w m, J 1 a w → μ a w ≤ m → rest1.wp P (Exit.jumps (fun l a' w' => J l a' w' ∧ μ a' w' < m) Q) a w) → ∀ a w m, J 0 a w → μ a w ≤ m → rest0.wp P (Exit.jumps (fun l a' w' => J l a' w' ∧ μ a' w' < m) Q) a w)
 (m : Nat) (first : (∀ a w, J 0 a w → μ a w ≤ m → rest0.wp P (Exit.jumps (fun l a' w' => J l a' w' ∧ μ a' w' < m) Q) a w) → c.wp P (Exit.jumps (fun l a w => J l a w ∧ μ a w < m) Q) a w) : (Code.scope c).wp P Q a w := by
 refine wp_scope_labels J μ ?_ m (first fun a w h hm => p0 p1 a w m h hm)
 intro l a w h
 rcases hJ l a w h with rfl | rfl
 ·exact ⟨_, h0, skip_seq (p0 p1 a w _ h (Nat.le_refl _))⟩
 ·exact ⟨_, h1, skip_seq (p1 a w _ h (Nat.le_refl _))⟩
def LAt (w : World) (B : Nat) (A : Option Addr) (l : List LTok) : Prop := l ≠ [] → ∃ pb po, A = some ⟨pb, po, none⟩ ∧ pb < B ∧ ∀ (i : Nat) t, l[i]? = some t → ∀ (j : Nat) u, (tokC t)[j]? = some u → w.cell? ⟨pb, po + (i * 5 + j), none⟩ = some u
theorem LAt.below {w w' : World} {B b : Nat} {A : Option Addr} {l : List LTok} (h : LAt w B A l) (hb : Below b w w') (hB : B ≤ b) : LAt w' B A l := fun hne => by
 obtain ⟨pb, po, rfl, hp, hc⟩ := h hne
 exact ⟨pb, po, rfl, hp, fun i t hi j u hu => by rw [hb.cell (p := ⟨pb, po + (i * 5 + j), none⟩) (Nat.lt_of_lt_of_le hp hB)]; exact hc i t hi j u hu⟩
theorem LAt.mono {w : World} {B B' : Nat} {A : Option Addr} {l : List LTok} (h : LAt w B A l) (hB : B ≤ B') : LAt w B' A l := fun hne => by
 obtain ⟨pb, po, rfl, hp, hc⟩ := h hne
 exact ⟨pb, po, rfl, Nat.lt_of_lt_of_le hp hB, hc⟩
structure TokAt (w : World) (pb po i : Nat) (t : LTok) : Prop where
 c0 : w.cell? ⟨pb, po + i * 5, none⟩ = some (.int .i64 t.1)
 c1 : w.cell? ⟨pb, po + i * 5 + 1, none⟩ = some (.string t.2.1)
 c2 : w.cell? ⟨pb, po + i * 5 + 2, none⟩ = some (.int .i64 t.2.2.1)
 c3 : w.cell? ⟨pb, po + i * 5 + 3, none⟩ = some (.int .i64 t.2.2.2.1)
 c4 : w.cell? ⟨pb, po + i * 5 + 4, none⟩ = some (.int .i64 t.2.2.2.2)
theorem LAt.tok {w : World} {B : Nat} {A : Option Addr} {l : List LTok} (h : LAt w B A l) (hne : l ≠ []) : ∃ pb po, A = some ⟨pb, po, none⟩ ∧ pb < B ∧ ∀ i, i < l.length → TokAt w pb po i (tokAt l i) := by
 obtain ⟨pb, po, rfl, hp, hc⟩ := h hne
 refine ⟨pb, po, rfl, hp, fun i hi => ?_⟩
 have e : l[i]? = some (tokAt l i) := by
  unfold tokAt
  rw [List.getD, List.getElem?_eq_getElem hi]; rfl
 have c := hc i _ e
 exact ⟨c 0 _ rfl, c 1 _ rfl, c 2 _ rfl, c 3 _ rfl, c 4 _ rfl⟩
theorem LAt.tok' {w : World} {B pb po : Nat} {l : List LTok} (h : LAt w B (some ⟨pb, po, none⟩) l) {i : Nat} (hi : i < l.length) : TokAt w pb po i (tokAt l i) := by
 obtain ⟨pb', po', e, hp, ht⟩ := h.tok (fun h => by rw [h] at hi; simp at hi)
 cases e
 exact ht i hi
def ErrV (tf : TypeId) (B : Nat) (w' : World) (c a : Int) (v : Value) : Prop :=
 if c = 0 then v = .nilIface else ∃ b, v = .iface tf (.pointer (some ⟨b, 0, none⟩)) ∧ B ≤ b ∧ w'.cell? ⟨b, 0, none⟩ = some (.int .i64 c) ∧ w'.cell? ⟨b, 1, none⟩ = some (.int .i64 a)
theorem ErrV.mono {tf : TypeId} {B B' : Nat} {w' : World} {c a : Int} {v : Value} (h : ErrV tf B' w' c a v) (hB : B ≤ B') : ErrV tf B w' c a v := by
 unfold ErrV at *
 split at h
 ·rename_i hc; rw [if_pos hc]; exact h
 ·rename_i hc; rw [if_neg hc]
  obtain ⟨b, e, hb, h0, h1⟩ := h
  exact ⟨b, e, Nat.le_trans hB hb, h0, h1⟩
theorem errV_nil (tf : TypeId) (B : Nat) (w' : World) : ErrV tf B w' 0 0 .nilIface := by unfold ErrV; rw [if_pos rfl]
theorem errV_flt {tf : TypeId} {B : Nat} {w' : World} {c a : Int} {b : Nat} (hc : c ≠ 0) (h : B ≤ b) (h0 : w'.cell? ⟨b, 0, none⟩ = some (.int .i64 c)) (h1 : w'.cell? ⟨b, 1, none⟩ = some (.int .i64 a)) : ErrV tf B w' c a (.iface tf (.pointer (some ⟨b, 0, none⟩))) := by
 unfold ErrV; rw [if_neg hc]; exact ⟨b, rfl, h, h0, h1⟩
theorem errV_bad {tf : TypeId} {B : Nat} {w' : World} {t : LTok} {b : Nat} (c : Int) (hc : c ≠ 0) (h : B ≤ b) (h0 : w'.cell? ⟨b, 0, none⟩ = some (.int .i64 c)) (h1 : w'.cell? ⟨b, 1, none⟩ = some (.int .i64 t.2.2.2.2)) : ErrV tf B w' (FRes.bad c t).code (FRes.bad c t).pos (.iface tf (.pointer (some ⟨b, 0, none⟩))) :=
 errV_flt hc h h0 h1
def rowC (st : List Fr) : List Value := st.reverse.flatMap frC
theorem rowC_cons (f : Fr) (r : List Fr) : rowC (f :: r) = rowC r ++ frC f := by unfold rowC; simp
theorem rowC_len (r : List Fr) : (rowC r).length = r.length * 5 := by
 induction r with
 | nil => rfl
 | cons f r ih => rw [rowC_cons, List.length_append, ih, List.length_cons]; simp [frC]; omega
end Go.Aw
namespace Go.Proofs.Yf
open Go Go.Aw Go.Proofs
namespace N210
noncomputable def cfg : Cfg := { cb with E := tab [] }
noncomputable def body : Code := bodyOf Tryz.f210
def c (x0 x1 x2 : Int) (k : Int → Bool → Prop) : Prop :=
 (br (x2 == (0 : Int)) (k (0 : Int) false) (br (x0 == (10 : Int)) ((x2 ≠ 0) ∧ (k (IntKind.i64.wrap (Int.tdiv x1 x2)) true)) ((x2 ≠ 0) ∧ (k (Int.tmod x1 x2) true))))
def f0 x0 x1 x2 k := c x0 x1 x2 k
noncomputable def f := sld f0
theorem f_def : f = f0 := sld_eq f0
def K0 (k : KT) (y0 : Int) (y1 : Bool) : Prop := k (.tup [(.v (.int .i64 y0)), (.v (.bool y1))]) []
noncomputable def T (k kp : KT) := topK cfg Tryz.f210 k kp
noncomputable def JJ (k kp : KT) : Nat → St → Prop := pick none' []
noncomputable def LL (k kp : KT) : Nat → St → Prop := pick none' []
def pa (x0 x1 x2 : Int) : List D := [(.v (.int .i64 x0)), (.v (.int .i64 x1)), (.v (.int .i64 x2))]
def pb (x0 x1 x2 : Int) : List Blk := []
theorem body_is : Tryz.f210.body = some body := by kernel_rfl
theorem f_eq (k kp x0 x1 x2) : funW cfg Tryz.f210 (pa x0 x1 x2) (pb x0 x1 x2) k kp = f x0 x1 x2 (K0 k) :=
 raw_fun (own := 1000001) none'' (JJ k kp) (LL k kp) (fun J L => c x0 x1 x2 (K0 k)) body_is (by kernel_rfl) (fun J L => by kernel_rfl) (by rw [f_def]; rfl)
noncomputable def ent0 : Entry := fun args blks k _ => match args, blks with
 | [d0, d1, d2], [] => aInt IntKind.i64 d0 fun x0 => aInt IntKind.i64 d1 fun x1 => aInt IntKind.i64 d2 fun x2 => f x0 x1 x2 (K0 k)
 | _, _ => False
noncomputable def ent : Entry := cvE [.no, .no, .no] ent0
theorem ok : EntOk Tryz.prog 112 157 210 ent := by
 refine fnOk (cfg := cfg) rfl rfl rfl rfl (by kernel_rfl) ?_ Tryz.func210 (by rfl) (by rfl) ?_
 ·exact tab_n
 ·intro args blks k kp h k' kp'
  match args, blks, h with
  | [d0, d1, d2], [], h =>
  dsimp only [ent0] at h
  repeat ((first|have q := aInt_elim h); clear h; first|obtain ⟨rfl, h⟩ := q|obtain ⟨_, rfl, h⟩ := q|obtain ⟨_, _, rfl, h⟩ := q)
  exact (f_eq ..).symm
end N210
namespace N214
noncomputable def cfg : Cfg := { cb with E := tab [] }
noncomputable def body : Code := bodyOf Tryz.f214
def c (x0 : Int) (k : Int → Prop) : Prop :=
 (((64 : Int) ≠ 0) ∧ (k (IntKind.i64.wrap (Int.tmod (IntKind.u64.wrap x0) (64 : Int)))))
def f0 x0 k := c x0 k
noncomputable def f := sld f0
theorem f_def : f = f0 := sld_eq f0
def K0 (k : KT) (y0 : Int) : Prop := k (.v (.int .i64 y0)) []
noncomputable def T (k kp : KT) := topK cfg Tryz.f214 k kp
noncomputable def JJ (k kp : KT) : Nat → St → Prop := pick none' []
noncomputable def LL (k kp : KT) : Nat → St → Prop := pick none' []
def pa (x0 : Int) : List D := [(.v (.int .i64 x0))]
def pb (x0 : Int) : List Blk := []
theorem body_is : Tryz.f214.body = some body := by kernel_rfl
theorem f_eq (k kp x0) : funW cfg Tryz.f214 (pa x0) (pb x0) k kp = f x0 (K0 k) :=
 raw_fun (own := 1000001) none'' (JJ k kp) (LL k kp) (fun J L => c x0 (K0 k)) body_is (by kernel_rfl) (fun J L => by kernel_rfl) (by rw [f_def]; rfl)
noncomputable def ent0 : Entry := fun args blks k _ => match args, blks with
 | [d0], [] => aInt IntKind.i64 d0 fun x0 => f x0 (K0 k)
 | _, _ => False
noncomputable def ent : Entry := cvE [.no] ent0
theorem ok : EntOk Tryz.prog 112 157 214 ent := by
 refine fnOk (cfg := cfg) rfl rfl rfl rfl (by kernel_rfl) ?_ Tryz.func214 (by rfl) (by rfl) ?_
 ·exact tab_n
 ·intro args blks k kp h k' kp'
  match args, blks, h with
  | [d0], [], h =>
  dsimp only [ent0] at h
  repeat ((first|have q := aInt_elim h); clear h; first|obtain ⟨rfl, h⟩ := q|obtain ⟨_, rfl, h⟩ := q|obtain ⟨_, _, rfl, h⟩ := q)
  exact (f_eq ..).symm
end N214
namespace N211
noncomputable def cfg : Cfg := { cb with E := tab [(214, N214.ent)] }
noncomputable def body : Code := bodyOf Tryz.f211
def c (x0 x1 x2 : Int) (k : Int → Bool → Prop) : Prop :=
 (N214.f x2 (fun aa => (br (x0 == (7 : Int)) ((0 ≤ aa) ∧ (k (IntKind.i64.wrap (x1 * 2 ^ min (Int.toNat aa) 64)) true)) (br (x0 == (8 : Int)) ((0 ≤ aa) ∧ (k (IntKind.i64.wrap (Int.fdiv (IntKind.u64.wrap x1) (2 ^ min (Int.toNat aa) 64))) true)) (br (x0 == (9 : Int)) ((0 ≤ aa) ∧ (k (Int.fdiv x1 (2 ^ min (Int.toNat aa) 64)) true)) (k (0 : Int) false))))))
def f0 x0 x1 x2 k := c x0 x1 x2 k
noncomputable def f := sld f0
theorem f_def : f = f0 := sld_eq f0
def K0 (k : KT) (y0 : Int) (y1 : Bool) : Prop := k (.tup [(.v (.int .i64 y0)), (.v (.bool y1))]) []
noncomputable def T (k kp : KT) := topK cfg Tryz.f211 k kp
noncomputable def JJ (k kp : KT) : Nat → St → Prop := pick none' []
noncomputable def LL (k kp : KT) : Nat → St → Prop := pick none' []
def pa (x0 x1 x2 : Int) : List D := [(.v (.int .i64 x0)), (.v (.int .i64 x1)), (.v (.int .i64 x2))]
def pb (x0 x1 x2 : Int) : List Blk := []
theorem body_is : Tryz.f211.body = some body := by kernel_rfl
theorem f_eq (k kp x0 x1 x2) : funW cfg Tryz.f211 (pa x0 x1 x2) (pb x0 x1 x2) k kp = f x0 x1 x2 (K0 k) :=
 raw_fun (own := 1000001) none'' (JJ k kp) (LL k kp) (fun J L => c x0 x1 x2 (K0 k)) body_is (by kernel_rfl) (fun J L => by kernel_rfl) (by rw [f_def]; rfl)
noncomputable def ent0 : Entry := fun args blks k _ => match args, blks with
 | [d0, d1, d2], [] => aInt IntKind.i64 d0 fun x0 => aInt IntKind.i64 d1 fun x1 => aInt IntKind.i64 d2 fun x2 => f x0 x1 x2 (K0 k)
 | _, _ => False
noncomputable def ent : Entry := cvE [.no, .no, .no] ent0
theorem ok : EntOk Tryz.prog 112 157 211 ent := by
 refine fnOk (cfg := cfg) rfl rfl rfl rfl (by kernel_rfl) ?_ Tryz.func211 (by rfl) (by rfl) ?_
 ·exact tab_c N214.ok <| tab_n
 ·intro args blks k kp h k' kp'
  match args, blks, h with
  | [d0, d1, d2], [], h =>
  dsimp only [ent0] at h
  repeat ((first|have q := aInt_elim h); clear h; first|obtain ⟨rfl, h⟩ := q|obtain ⟨_, rfl, h⟩ := q|obtain ⟨_, _, rfl, h⟩ := q)
  exact (f_eq ..).symm
end N211
namespace N212
noncomputable def cfg : Cfg := { cb with E := tab [], atSeq := tab [(11, ks [8]), (12, ⟨[]⟩)] }
noncomputable def body : Code := bodyOf Tryz.f212
def j11 (x8 : Bool) (k : Bool → Bool → Prop) : Prop :=
 (k x8 true)
def j12 (k : Bool → Bool → Prop) : Prop :=
 (k false false)
def c (j11 : Bool → Prop) (j12 : Prop) (x0 x1 x2 : Int) (k : Bool → Bool → Prop) : Prop :=
 (br (x0 == (12 : Int)) (k (x1 == x2) true) (br (x0 == (13 : Int)) (k (!(x1 == x2)) true) (br (x0 == (15 : Int)) (br (x1 == x2) (k true true) (j11 (decide (x1 < x2)))) (br (x0 == (14 : Int)) (j11 (decide (x1 < x2))) (j12)))))
def j11' x8 k := j11 x8 k
def j12' k := j12 k
def f0 x0 x1 x2 k := c (fun x8 => j11' x8 k) (j12' k) x0 x1 x2 k
noncomputable def f := sld f0
theorem f_def : f = f0 := sld_eq f0
def m11 (x8 : Bool) : St := { tmps := mkT 30 0 [(8, (.v (.bool x8)))], hp := [], m := 0 }
def M11 (g : St → Prop) x8 := g (m11 x8)
def m12 : St := { tmps := mkT 30 0 [], hp := [], m := 0 }
def M12 (g : St → Prop) := g (m12)
def K0 (k : KT) (y0 y1 : Bool) : Prop := k (.tup [(.v (.bool y0)), (.v (.bool y1))]) []
noncomputable def T (k kp : KT) := topK cfg Tryz.f212 k kp
noncomputable def X11 (k kp : KT) : St → Prop := atP cfg (pick none' []) [1, 1, 0, 1, 0, 1] body (T k kp)
noncomputable def X12 (k kp : KT) : St → Prop := atP cfg (pick none' []) [1, 1, 1] body (T k kp)
noncomputable def JJ (k kp : KT) : Nat → St → Prop := pick none' [(11, X11 k kp), (12, X12 k kp)]
noncomputable def LL (k kp : KT) : Nat → St → Prop := pick none' []
theorem j11_eq (k kp) : M11 (X11 k kp) = fun x8 => j11' x8 (K0 k) := by
 funext x8
 exact raw_eq (own:=11) rfl (JJ k kp) (LL k kp) (fun J L => j11 x8 (K0 k)) (by kernel_rfl) (fun _ _ => by kernel_rfl) rfl
theorem j12_eq (k kp) : M12 (X12 k kp) = j12' (K0 k) := by
 exact raw_eq (own:=12) rfl (JJ k kp) (LL k kp) (fun J L => j12 (K0 k)) (by kernel_rfl) (fun _ _ => by kernel_rfl) rfl
def pa (x0 x1 x2 : Int) : List D := [(.v (.int .i64 x0)), (.v (.int .i64 x1)), (.v (.int .i64 x2))]
def pb (x0 x1 x2 : Int) : List Blk := []
theorem body_is : Tryz.f212.body = some body := by kernel_rfl
theorem f_eq (k kp x0 x1 x2) : funW cfg Tryz.f212 (pa x0 x1 x2) (pb x0 x1 x2) k kp = f x0 x1 x2 (K0 k) :=
 raw_fun (own := 1000001) none'' (JJ k kp) (LL k kp) (fun J L => c (M11 (J 11)) (M12 (J 12)) x0 x1 x2 (K0 k)) body_is (by kernel_rfl) (fun J L => by kernel_rfl) (by rw [f_def]; erw [j11_eq k kp, j12_eq k kp] <;> rfl)
noncomputable def ent0 : Entry := fun args blks k _ => match args, blks with
 | [d0, d1, d2], [] => aInt IntKind.i64 d0 fun x0 => aInt IntKind.i64 d1 fun x1 => aInt IntKind.i64 d2 fun x2 => f x0 x1 x2 (K0 k)
 | _, _ => False
noncomputable def ent : Entry := cvE [.no, .no, .no] ent0
theorem ok : EntOk Tryz.prog 112 157 212 ent := by
 refine fnOk (cfg := cfg) rfl rfl rfl rfl (by kernel_rfl) ?_ Tryz.func212 (by rfl) (by rfl) ?_
 ·exact tab_n
 ·intro args blks k kp h k' kp'
  match args, blks, h with
  | [d0, d1, d2], [], h =>
  dsimp only [ent0] at h
  repeat ((first|have q := aInt_elim h); clear h; first|obtain ⟨rfl, h⟩ := q|obtain ⟨_, rfl, h⟩ := q|obtain ⟨_, _, rfl, h⟩ := q)
  exact (f_eq ..).symm
end N212
namespace N213
noncomputable def cfg : Cfg := { cb with E := tab [] }
noncomputable def body : Code := bodyOf Tryz.f213
def c (x0 : Bool) (k : Int → Prop) : Prop :=
 (br x0 (k (1 : Int)) (k (0 : Int)))
def f0 x0 k := c x0 k
noncomputable def f := sld f0
theorem f_def : f = f0 := sld_eq f0
def K0 (k : KT) (y0 : Int) : Prop := k (.v (.int .i64 y0)) []
noncomputable def T (k kp : KT) := topK cfg Tryz.f213 k kp
noncomputable def JJ (k kp : KT) : Nat → St → Prop := pick none' []
noncomputable def LL (k kp : KT) : Nat → St → Prop := pick none' []
def pa (x0 : Bool) : List D := [(.v (.bool x0))]
def pb (x0 : Bool) : List Blk := []
theorem body_is : Tryz.f213.body = some body := by kernel_rfl
theorem f_eq (k kp x0) : funW cfg Tryz.f213 (pa x0) (pb x0) k kp = f x0 (K0 k) :=
 raw_fun (own := 1000001) none'' (JJ k kp) (LL k kp) (fun J L => c x0 (K0 k)) body_is (by kernel_rfl) (fun J L => by kernel_rfl) (by rw [f_def]; rfl)
noncomputable def ent0 : Entry := fun args blks k _ => match args, blks with
 | [d0], [] => aBool d0 fun x0 => f x0 (K0 k)
 | _, _ => False
noncomputable def ent : Entry := cvE [.no] ent0
theorem ok : EntOk Tryz.prog 112 157 213 ent := by
 refine fnOk (cfg := cfg) rfl rfl rfl rfl (by kernel_rfl) ?_ Tryz.func213 (by rfl) (by rfl) ?_
 ·exact tab_n
 ·intro args blks k kp h k' kp'
  match args, blks, h with
  | [d0], [], h =>
  dsimp only [ent0] at h
  repeat ((first|have q := aBool_elim h); clear h; first|obtain ⟨rfl, h⟩ := q|obtain ⟨_, rfl, h⟩ := q|obtain ⟨_, _, rfl, h⟩ := q)
  exact (f_eq ..).symm
end N213
namespace N209
noncomputable def cfg : Cfg := { cb with E := tab [(210, N210.ent), (211, N211.ent), (212, N212.ent), (213, N213.ent)], atSeq := tab [(2000016, ks [0, 1, 2, 43]), (17, ks [0, 1, 2])] }
noncomputable def body : Code := bodyOf Tryz.f209
def j2000016 (j17 : Int → Int → Int → Prop) (x0 x1 x2 : Int) (aa : Bool) (k : Int → Bool → Prop) : Prop :=
 (br aa (N210.f x0 x1 x2 (fun ab ac => (k ab ac))) (j17 x0 x1 x2))
def j17 (x0 x1 x2 : Int) (k : Int → Bool → Prop) : Prop :=
 (N211.f x0 x1 x2 (fun ad ae => (br ae (k ad true) (N212.f x0 x1 x2 (fun af ah => (N213.f af (fun ai => (k ai ah))))))))
def c (j2000016 : Int → Int → Int → Bool → Prop) (x0 x1 x2 : Int) (k : Int → Bool → Prop) : Prop :=
 (br (x0 == (1 : Int)) (k (IntKind.i64.wrap (x1 + x2)) true) (br (x0 == (2 : Int)) (k (IntKind.i64.wrap (x1 - x2)) true) (br (x0 == (3 : Int)) (k (IntKind.i64.wrap (x1 * x2)) true) (br (x0 == (4 : Int)) (k (andI IntKind.i64 x1 x2) true) (br (x0 == (5 : Int)) (k (orI IntKind.i64 x1 x2) true) (br (x0 == (6 : Int)) (k (xorI IntKind.i64 x1 x2) true) (br (x0 == (10 : Int)) (j2000016 x0 x1 x2 (x0 == (10 : Int))) (j2000016 x0 x1 x2 (x0 == (11 : Int))))))))))
def j17' x0 x1 x2 k := j17 x0 x1 x2 k
def j2000016' x0 x1 x2 aa k := j2000016 (fun x0 x1 x2 => j17' x0 x1 x2 k) x0 x1 x2 aa k
def f0 x0 x1 x2 k := c (fun x0 x1 x2 aa => j2000016' x0 x1 x2 aa k) x0 x1 x2 k
noncomputable def f := sld f0
theorem f_def : f = f0 := sld_eq f0
def m2000016 (x0 x1 x2 : Int) (aa : Bool) : St := { tmps := mkT 71 0 [(0, (.v (.int .i64 x0))), (1, (.v (.int .i64 x1))), (2, (.v (.int .i64 x2))), (43, (.v (.bool aa)))], hp := [], m := 0 }
def M2000016 (g : St → Prop) x0 x1 x2 aa := g (m2000016 x0 x1 x2 aa)
def m17 (x0 x1 x2 : Int) : St := { tmps := mkT 71 0 [(0, (.v (.int .i64 x0))), (1, (.v (.int .i64 x1))), (2, (.v (.int .i64 x2)))], hp := [], m := 0 }
def M17 (g : St → Prop) x0 x1 x2 := g (m17 x0 x1 x2)
def K0 (k : KT) (y0 : Int) (y1 : Bool) : Prop := k (.tup [(.v (.int .i64 y0)), (.v (.bool y1))]) []
noncomputable def T (k kp : KT) := topK cfg Tryz.f209 k kp
noncomputable def X2000016 (k kp : KT) : St → Prop := atP cfg (pick none' []) [1, 0, 1, 0, 1, 1, 1, 1, 1, 1, 1, 1, 1, 1, 1, 1, 1] body (T k kp)
noncomputable def X17 (k kp : KT) : St → Prop := atP cfg (pick none' []) [1, 1] body (T k kp)
noncomputable def JJ (k kp : KT) : Nat → St → Prop := pick none' [(2000016, X2000016 k kp), (17, X17 k kp)]
noncomputable def LL (k kp : KT) : Nat → St → Prop := pick none' []
theorem j17_eq (k kp) : M17 (X17 k kp) = fun x0 x1 x2 => j17' x0 x1 x2 (K0 k) := by
 funext x0 x1 x2
 exact raw_eq (own:=17) rfl (JJ k kp) (LL k kp) (fun J L => j17 x0 x1 x2 (K0 k)) (by kernel_rfl) (fun _ _ => by kernel_rfl) rfl
theorem j2000016_eq (k kp) : M2000016 (X2000016 k kp) = fun x0 x1 x2 aa => j2000016' x0 x1 x2 aa (K0 k) := by
 funext x0 x1 x2 aa
 exact raw_eq (own:=2000016) rfl (JJ k kp) (LL k kp) (fun J L => j2000016 (M17 (J 17)) x0 x1 x2 aa (K0 k)) (by kernel_rfl) (fun _ _ => by kernel_rfl) (by erw [j17_eq k kp] <;> rfl)
def pa (x0 x1 x2 : Int) : List D := [(.v (.int .i64 x0)), (.v (.int .i64 x1)), (.v (.int .i64 x2))]
def pb (x0 x1 x2 : Int) : List Blk := []
theorem body_is : Tryz.f209.body = some body := by kernel_rfl
theorem f_eq (k kp x0 x1 x2) : funW cfg Tryz.f209 (pa x0 x1 x2) (pb x0 x1 x2) k kp = f x0 x1 x2 (K0 k) :=
 raw_fun (own := 1000001) none'' (JJ k kp) (LL k kp) (fun J L => c (M2000016 (J 2000016)) x0 x1 x2 (K0 k)) body_is (by kernel_rfl) (fun J L => by kernel_rfl) (by rw [f_def]; erw [j2000016_eq k kp] <;> rfl)
noncomputable def ent0 : Entry := fun args blks k _ => match args, blks with
 | [d0, d1, d2], [] => aInt IntKind.i64 d0 fun x0 => aInt IntKind.i64 d1 fun x1 => aInt IntKind.i64 d2 fun x2 => f x0 x1 x2 (K0 k)
 | _, _ => False
noncomputable def ent : Entry := cvE [.no, .no, .no] ent0
theorem ok : EntOk Tryz.prog 112 157 209 ent := by
 refine fnOk (cfg := cfg) rfl rfl rfl rfl (by kernel_rfl) ?_ Tryz.func209 (by rfl) (by rfl) ?_
 ·exact tab_c N210.ok <| tab_c N211.ok <| tab_c N212.ok <| tab_c N213.ok <| tab_n
 ·intro args blks k kp h k' kp'
  match args, blks, h with
  | [d0, d1, d2], [], h =>
  dsimp only [ent0] at h
  repeat ((first|have q := aInt_elim h); clear h; first|obtain ⟨rfl, h⟩ := q|obtain ⟨_, rfl, h⟩ := q|obtain ⟨_, _, rfl, h⟩ := q)
  exact (f_eq ..).symm
end N209
namespace N201
noncomputable def cfg : Cfg := { cb with E := tab [(209, N209.ent)] }
noncomputable def body : Code := bodyOf Tryz.f201
def c (x0 x1 x2 : Int) (k : Int → Prop) : Prop :=
 (N209.f x0 x1 x2 (fun aa ab => (k aa)))
def f0 x0 x1 x2 k := c x0 x1 x2 k
noncomputable def f := sld f0
theorem f_def : f = f0 := sld_eq f0
def K0 (k : KT) (y0 : Int) : Prop := k (.v (.int .i64 y0)) []
noncomputable def T (k kp : KT) := topK cfg Tryz.f201 k kp
noncomputable def JJ (k kp : KT) : Nat → St → Prop := pick none' []
noncomputable def LL (k kp : KT) : Nat → St → Prop := pick none' []
def pa (x0 x1 x2 : Int) : List D := [(.v (.int .i64 x0)), (.v (.int .i64 x1)), (.v (.int .i64 x2))]
def pb (x0 x1 x2 : Int) : List Blk := []
theorem body_is : Tryz.f201.body = some body := by kernel_rfl
theorem f_eq (k kp x0 x1 x2) : funW cfg Tryz.f201 (pa x0 x1 x2) (pb x0 x1 x2) k kp = f x0 x1 x2 (K0 k) :=
 raw_fun (own := 1000001) none'' (JJ k kp) (LL k kp) (fun J L => c x0 x1 x2 (K0 k)) body_is (by kernel_rfl) (fun J L => by kernel_rfl) (by rw [f_def]; rfl)
noncomputable def ent0 : Entry := fun args blks k _ => match args, blks with
 | [d0, d1, d2], [] => aInt IntKind.i64 d0 fun x0 => aInt IntKind.i64 d1 fun x1 => aInt IntKind.i64 d2 fun x2 => f x0 x1 x2 (K0 k)
 | _, _ => False
noncomputable def ent : Entry := cvE [.no, .no, .no] ent0
theorem ok : EntOk Tryz.prog 112 157 201 ent := by
 refine fnOk (cfg := cfg) rfl rfl rfl rfl (by kernel_rfl) ?_ Tryz.func201 (by rfl) (by rfl) ?_
 ·exact tab_c N209.ok <| tab_n
 ·intro args blks k kp h k' kp'
  match args, blks, h with
  | [d0, d1, d2], [], h =>
  dsimp only [ent0] at h
  repeat ((first|have q := aInt_elim h); clear h; first|obtain ⟨rfl, h⟩ := q|obtain ⟨_, rfl, h⟩ := q|obtain ⟨_, _, rfl, h⟩ := q)
  exact (f_eq ..).symm
end N201
end Go.Proofs.Yf
namespace Go.Proofs.Yf
open Go Go.Aw Go.Proofs Go.RowKit Go.Extern
theorem G.hG : ∀ g v, hdlOf Tryz.prog = some (g, v) → g < 1 := by
 intro g v h
 have e : (match hdlOf Tryz.prog with | some p => Nat.ble p.1 0 | none => true) = true := by kernel_rfl
 rw [h] at e
 have := Nat.le_of_ble_eq_true e
 show g < 1
 omega
theorem G.is_s (t : LTok) (w : ByteArray) (k : Bool → Prop) (h : k (isTk t w)) : N109.f t.1 t.2.1 t.2.2.1 t.2.2.2.1 t.2.2.2.2 w k := by
 unfold isTk LTok.kind LTok.text at h
 rw [N109.f_def]
 unfold N109.f0 N109.c
 by_cases h1 : t.1 = 1
 ·rw [show (t.1 == 1) = true by simpa using h1]
  rw [show decide (t.1 = 1) = true by simpa using h1] at h
  exact h
 ·rw [show (t.1 == 1) = false by simpa using h1]
  rw [show decide (t.1 = 1) = false by simpa using h1] at h
  by_cases h7 : t.1 = 7
  ·rw [show (t.1 == 7) = true by simpa using h7]
   rw [show decide (t.1 = 7) = true by simpa using h7] at h
   exact h
  ·rw [show (t.1 == 7) = false by simpa using h7]
   rw [show decide (t.1 = 7) = false by simpa using h7] at h
   exact h
theorem G.is_run (t : LTok) (s : ByteArray) (w : World) (hG : HdlAt Tryz.prog w) : Calls Tryz.prog 109 #[tokV t, .string s] w fun e w' => e = .returned (.bool (isTk t s)) ∧ Below w.heap.size w w' := by
 have hr : RepL (cx 112 157 w) [.agg [.v (.int .i64 t.1), .v (.string t.2.1), .v (.int .i64 t.2.2.1), .v (.int .i64 t.2.2.2.1), .v (.int .i64 t.2.2.2.2)], .v (.string s)] [tokV t, .string s] := by
  simp only [RepL, Rep]
  exact ⟨_, _, rfl, ⟨_, rfl, _, _, rfl, rfl, _, _, rfl, rfl, _, _, rfl, rfl, _, _, rfl, rfl, _, _, rfl, rfl, rfl⟩, _, _, rfl, rfl, rfl⟩
 refine (run0 N109.ok hG hr (Q := boolE (isTk t s)) ?_).mono ?_
 ·show N109.f t.1 t.2.1 t.2.2.1 t.2.2.2.1 t.2.2.2.2 s _
  exact G.is_s t s _ rfl
 ·rintro e w' ⟨d, r, c', rfl, hq, hb, hrep, -⟩
  exact ⟨by rw [rep_bool hq hrep], hb⟩
theorem G.do_s (op a b : Int) (h : op = 1 ∨ op = 2 ∨ op = 3) (k : Int → Prop) (hk : k (doF op a b)) : N201.f op a b k := by
 rw [N201.f_def]
 unfold N201.f0 N201.c
 rw [N209.f_def]
 unfold N209.f0 N209.c
 rcases h with rfl | rfl | rfl <;> exact hk
theorem G.do_run (op a b : Int) (h : op = 1 ∨ op = 2 ∨ op = 3) (w : World) (hG : HdlAt Tryz.prog w) : Calls Tryz.prog 201 #[.int .i64 op, .int .i64 a, .int .i64 b] w fun e w' => e = .returned (.int .i64 (doF op a b)) ∧ Below w.heap.size w w' := by
 have hr : RepL (cx 112 157 w) [.v (.int .i64 op), .v (.int .i64 a), .v (.int .i64 b)] [.int .i64 op, .int .i64 a, .int .i64 b] := by
  simp only [RepL, Rep]
  exact ⟨_, _, rfl, rfl, _, _, rfl, rfl, _, _, rfl, rfl, rfl⟩
 refine (run0 N201.ok hG hr (Q := intE (doF op a b)) ?_).mono ?_
 ·show N201.f op a b _
  exact G.do_s op a b h _ rfl
 ·rintro e w' ⟨d, r, c', rfl, hq, hb, hrep, -⟩
  exact ⟨by rw [rep_int hq hrep], hb⟩
section
variable {w : World} {B g cap m : Nat} {ys : List Value} {f : Fr}
set_option maxHeartbeats 4000000 in
theorem G.close_run (h : w.ownsRow B 277 5 (.slice (some ⟨g, 0, none⟩) m cap) m (ys ++ frC f)) (hm : ys.length + 5 = m * 5) (hG : HdlAt Tryz.prog w) (hadd : f.add = 1 ∨ f.add = 2) :
 Calls Tryz.prog 197 #[.pointer (some ⟨g, ys.length, none⟩)] w fun e w' => e = .returned (.int .i64 f.close) ∧ Below w.heap.size w w' := by
 have c0 : w.cell? ⟨g, ys.length, none⟩ = some (.int .i64 f.sum) := last_cell h hm 0 (by omega) rfl
 have c1 : w.cell? ⟨g, ys.length + 1, none⟩ = some (.int .i64 f.add) := last_cell h hm 1 (by omega) rfl
 have c2 : w.cell? ⟨g, ys.length + 2, none⟩ = some (.int .i64 f.prod) := last_cell h hm 2 (by omega) rfl
 obtain ⟨hBg, hgl⟩ := row_lo h
 clear h
 generalize ys.length = o at *
 go_enter Tryz.func197, Tryz.ntmps197
 have hGd : HdlAt Tryz.prog w.drew := hG
 go_wp2
 go_region_with (go_at_call 201; refine (G.do_run _ _ _ (by omega) _ hGd).mono ?_; rintro e w1 ⟨rfl, hb1⟩)
 all_goals
  go_wp2
  go_ret
  exact ⟨rfl, ((Below.refl _ w).drew).trans hb1⟩
theorem G.bcell {W w1 : World} (hb : Below W.heap.size W w1) : (∀ b o, b < W.heap.size → w1.cell? ⟨b, o, none⟩ = W.cell? ⟨b, o, none⟩) ∧ (∀ b o, b < W.heap.size → w1.frozen? ⟨b, o, none⟩ = W.frozen? ⟨b, o, none⟩) :=
 ⟨fun b o h => hb.cell (p := ⟨b, o, none⟩) h, fun b o h => hb.frozen (p := ⟨b, o, none⟩) h⟩
theorem G.hset {u : Value} {o : Nat} (hG : HdlAt Tryz.prog w) (hBg : 0 < g) : HdlAt Tryz.prog (w.setCell ⟨g, o, none⟩ u) :=
 hG.below ((Below.refl 1 w).setCell (p := ⟨g, o, none⟩) hBg _) G.hG
theorem G.hbel {W w1 : World} {b : Nat} (hG : HdlAt Tryz.prog W) (hb : Below b W w1) (h : 0 < b) : HdlAt Tryz.prog w1 := hG.below hb fun g v hg => Nat.lt_of_lt_of_le (G.hG g v hg) h
set_option maxHeartbeats 4000000 in
theorem G.number_run (n : Int) (h : w.ownsRow B 277 5 (.slice (some ⟨g, 0, none⟩) m cap) m (ys ++ frC f)) (hm : ys.length + 5 = m * 5) (hG : HdlAt Tryz.prog w) (hB : 0 < B) :
 Calls Tryz.prog 195 #[.pointer (some ⟨g, ys.length, none⟩), .int .i64 n] w fun e w' => e = .returned (.tuple #[]) ∧ Below B w w' ∧ w'.ownsRow B 277 5 (.slice (some ⟨g, 0, none⟩) m cap) m (ys ++ frC (f.number n)) := by
 obtain ⟨hBg, hgl⟩ := row_lo h
 have c2 : w.cell? ⟨g, ys.length + 2, none⟩ = some (.int .i64 f.prod) := last_cell h hm 2 (by omega) rfl
 have c3 : w.cell? ⟨g, ys.length + 3, none⟩ = some (.bool f.times) := last_cell h hm 3 (by omega) rfl
 have c4 : w.cell? ⟨g, ys.length + 4, none⟩ = some (.bool f.minus) := last_cell h hm 4 (by omega) rfl
 have f2 := h.frozenAt (ys.length + 2)
 have f3 := h.frozenAt (ys.length + 3)
 have f4 := h.frozenAt (ys.length + 4)
 have H : Hid (w.ownsRow B 277 5 (.slice (some ⟨g, 0, none⟩) m cap) m (ys ++ frC f)) := h
 clear h
 have hw : 0 < w.heap.size := by omega
 obtain ⟨s, ad, p, ti, mi⟩ := f
 cases mi <;> cases ti
 ·go_enter Tryz.func195, Tryz.ntmps195
  go_wp2
  go_end0
  exact ⟨rfl, (Below.refl B w).setCell hBg _, last_set H 2 _⟩
 ·go_enter Tryz.func195, Tryz.ntmps195
  go_wp2_with (go_at_call 201; refine (G.do_run _ _ _ (by omega) _ hG).mono ?_; rintro e w1 ⟨rfl, hb1⟩; obtain ⟨hc, hf⟩ := G.bcell hb1)
  go_end0
  exact ⟨rfl, ((hb1.mono (by omega)).setCell hBg _).setCell hBg _, last_set (last_set (row_below H hb1 (Nat.le_refl _)) 3 _) 2 _⟩
 ·go_enter Tryz.func195, Tryz.ntmps195
  go_wp2_with (go_at_call 201; refine (G.do_run _ _ _ (by omega) _ hG).mono ?_; rintro e w1 ⟨rfl, hb1⟩; obtain ⟨hc, hf⟩ := G.bcell hb1)
  go_end0
  exact ⟨rfl, ((hb1.mono (by omega)).setCell hBg _).setCell hBg _, last_set (last_set (row_below H hb1 (Nat.le_refl _)) 4 _) 2 _⟩
 ·go_enter Tryz.func195, Tryz.ntmps195
  go_wp2_with (go_at_call 201; refine (G.do_run _ _ _ (by omega) _ hG).mono ?_; rintro e w1 ⟨rfl, hb1⟩; obtain ⟨hc, hf⟩ := G.bcell hb1; have hG1 := G.hset (g := g) (o := ys.length + 4) (u := .bool false) (G.hbel hG hb1 hw) (by omega); have hz : g < w1.heap.size := Nat.lt_of_lt_of_le hgl hb1.size)
  go_wp2_with (go_at_call 201; refine (G.do_run _ _ _ (by omega) _ hG1).mono ?_; rintro e w2 ⟨rfl, hb2⟩; obtain ⟨hc2, hf2⟩ := G.bcell hb2)
  go_end0
  have hs := (show (w1.setCell ⟨g, ys.length + 4, none⟩ (Value.bool false)).heap.size = w1.heap.size by simp)
  have hb3 : Below B w w2 := ((hb1.mono (by omega)).setCell (p := ⟨g, ys.length + 4, none⟩) hBg _).trans (hb2.mono (by omega))
  exact ⟨rfl, (hb3.setCell hBg _).setCell hBg _, last_set (last_set (row_below (last_set (row_below H hb1 (Nat.le_refl _)) 4 _) hb2 (Nat.le_refl _)) 3 _) 2 _⟩
end
end Go.Proofs.Yf
