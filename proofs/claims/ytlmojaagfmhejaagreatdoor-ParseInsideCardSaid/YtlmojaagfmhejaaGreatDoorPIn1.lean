/- Functions of the program as plain functions, each with the proof that the code comes to them. -/
import Derived.Test.YtlmojaagfmhejaaGreatDoorPIn0
import Derived.WalkKit
import Derived.LaidEql
import Derived.RowKitTokens
import Derived.Deep.RegionHeld3
import Derived.Deep.AppendLies
import Derived.Deep.RegionLaw
import Derived.Deep.RegionWith
import Derived.WalkMore
import Derived.Test.YtlmojaagfmhejaaGreatDoorT3
set_option linter.unusedVariables false
set_option linter.unusedSimpArgs false
set_option linter.unusedSectionVars false
set_option maxRecDepth 100000
set_option maxHeartbeats 4000000
namespace Go.Proofs.Yf
open Go Go.Aw Go.Proofs Go.RowKit Go.Extern
section
variable {w : World} {B g cap m : Nat} {ys : List Value} {f : Fr}
theorem G.is_run2 (t : LTok) (s : ByteArray) (b : Bool) (h : isTk t s = b) (w : World) (hG : HdlAt Tryz.prog w) : Calls Tryz.prog 109 #[tokV t, .string s] w fun e w' => e = .returned (.bool b) ∧ Below w.heap.size w w' := by
 subst h
 exact G.is_run t s w hG
theorem G.is_run3 (t : LTok) (s : ByteArray) (b : Bool) (h : isTk t s = b) (w : World) (hG : HdlAt Tryz.prog w) : Calls Tryz.prog 109 #[.agg #[.int .i64 t.1, .string t.2.1, .int .i64 t.2.2.1, .int .i64 t.2.2.2.1, .int .i64 t.2.2.2.2], .string s] w fun e w' => e = .returned (.bool b) ∧ Below w.heap.size w w' := G.is_run2 t s b h w hG
def G.sgF (f : Fr) (t : LTok) : Fr := match f.sign t with
 | some f' => f'
 | none => f
set_option maxHeartbeats 4000000 in
theorem G.sign_run (t : LTok) (h : w.ownsRow B 277 5 (.slice (some ⟨g, 0, none⟩) m cap) m (ys ++ frC f)) (hm : ys.length + 5 = m * 5) (hG : HdlAt Tryz.prog w) (hB : 0 < B) (hBw : B ≤ w.heap.size) (hadd : f.add = 1 ∨ f.add = 2) :
 Calls Tryz.prog 196 #[.pointer (some ⟨g, ys.length, none⟩), tokV t] w fun e w' => e = .returned (.bool (f.sign t).isSome) ∧ Below B w w' ∧ w'.ownsRow B 277 5 (.slice (some ⟨g, 0, none⟩) m cap) m (ys ++ frC (G.sgF f t)) := by
 obtain ⟨hBg, hgl⟩ := row_lo h
 have H : Hid (w.ownsRow B 277 5 (.slice (some ⟨g, 0, none⟩) m cap) m (ys ++ frC f)) := h
 have hw : 0 < w.heap.size := by omega
 have e1 : ∀ s : ByteArray, (isTk t s = true ∨ isTk t s = false) := fun s => by cases isTk t s <;> simp
 have c3 : w.frozen? ⟨g, ys.length + 3, none⟩ = false := h.frozenAt _
 have c4 : w.cell? ⟨g, ys.length + 3, none⟩ = some (.bool f.times) := last_cell h hm 3 (by omega) rfl
 have c5 : w.frozen? ⟨g, ys.length, none⟩ = false := h.frozenAt _
 have c6 : w.cell? ⟨g, ys.length, none⟩ = some (.int .i64 f.sum) := last_cell h hm 0 (by omega) rfl
 have c7 : w.frozen? ⟨g, ys.length + 1, none⟩ = false := h.frozenAt _
 have c8 : w.cell? ⟨g, ys.length + 1, none⟩ = some (.int .i64 f.add) := last_cell h hm 1 (by omega) rfl
 have q1 : ∀ (W : World) (u : Value), (W.setCell ⟨g, ys.length, none⟩ u).cell? ⟨g, ys.length + 1, none⟩ = W.cell? ⟨g, ys.length + 1, none⟩ := fun W u => World.cell?_setCell_other _ _ _ _ (by simp)
 have hGa : HdlAt Tryz.prog (w.alloc (.cells #[.int .i64 t.1, .string t.2.1, .int .i64 t.2.2.1, .int .i64 t.2.2.2.1, .int .i64 t.2.2.2.2] 102)) := G.hbel hG ((Below.refl w.heap.size w).alloc (Nat.le_refl _) _) hw
 have Ha : Hid ((w.alloc (.cells #[.int .i64 t.1, .string t.2.1, .int .i64 t.2.2.1, .int .i64 t.2.2.2.1, .int .i64 t.2.2.2.2] 102)).ownsRow B 277 5 (.slice (some ⟨g, 0, none⟩) m cap) m (ys ++ frC f)) := h.alloc _
 have hba : Below B w (w.alloc (.cells #[.int .i64 t.1, .string t.2.1, .int .i64 t.2.2.1, .int .i64 t.2.2.2.1, .int .i64 t.2.2.2.2] 102)) := (Below.refl B w).alloc hBw _
 have hsa : (w.alloc (.cells #[.int .i64 t.1, .string t.2.1, .int .i64 t.2.2.1, .int .i64 t.2.2.2.1, .int .i64 t.2.2.2.2] 102)).heap.size = w.heap.size + 1 := by simp
 clear h
 rcases e1 sTimes with s1 | s1
 ·have es : f.sign t = some { f with times := true } := by unfold Fr.sign; rw [if_pos s1]
  have ef : G.sgF f t = { f with times := true } := by unfold G.sgF; rw [es]
  rw [ef, es]
  unfold tokV
  go_enter Tryz.func196, Tryz.ntmps196
  go_wp2_with (go_at_call 109; (with_reducible refine (G.is_run3 t _ true (by exact s1) _ hGa).mono ?_); rintro e w1 ⟨rfl, hb1⟩; obtain ⟨hc, hf⟩ := G.bcell hb1)
  go_ret
  exact ⟨rfl, (hba.trans (hb1.mono (by omega))).setCell hBg _, last_set (row_below Ha hb1 (Nat.le_refl _)) 3 _⟩
 ·rcases e1 sPlus with s2 | s2
  ·have es : f.sign t = some { f with sum := f.close, add := 1 } := by unfold Fr.sign; rw [if_neg (by rw [s1]; decide), if_pos s2]
   have ef : G.sgF f t = { f with sum := f.close, add := 1 } := by unfold G.sgF; rw [es]
   rw [ef, es]
   unfold tokV
   go_enter Tryz.func196, Tryz.ntmps196
   go_wp2_with (go_at_call 109; (with_reducible refine (G.is_run3 t _ false (by exact s1) _ hGa).mono ?_); rintro e w1 ⟨rfl, hb1⟩; obtain ⟨hc, hf⟩ := G.bcell hb1; have hG1 := G.hbel hGa hb1 (by omega); have hz1 : w.heap.size < w1.heap.size := (by have := hb1.size; omega); have hy1 : g < w1.heap.size := (by omega); have H1 := hid (row_below Ha hb1 (Nat.le_refl _)))
   go_wp2_with (go_at_call 109; (with_reducible refine (G.is_run3 t _ true (by exact s2) _ hG1).mono ?_); rintro e w2 ⟨rfl, hb2⟩; obtain ⟨hc2, hf2⟩ := G.bcell hb2; have hG2 := G.hbel hG1 hb2 (by omega); have hz2 : w.heap.size < w2.heap.size := (by have := hb2.size; omega); have hy2 : g < w2.heap.size := (by omega); have H2 := hid (row_below H1 hb2 (Nat.le_refl _)))
   go_wp2_with (go_at_call 197; ((with_reducible refine (G.close_run (unhid H2) hm hG2 hadd).mono ?_); rintro e w9 ⟨rfl, hb9⟩; obtain ⟨hc9, hf9⟩ := G.bcell hb9))
   go_ret
   have hb : Below B w w9 := ((hba.trans (hb1.mono (by omega))).trans (hb2.mono (by omega))).trans (hb9.mono (by omega))
   exact ⟨rfl, (hb.setCell hBg _).setCell hBg _, last_set (last_set (row_below H2 hb9 (Nat.le_refl _)) 0 _) 1 _⟩
  ·rcases e1 sMinus with s3 | s3
   ·have es : f.sign t = some { f with sum := f.close, add := 2 } := by unfold Fr.sign; rw [if_neg (by rw [s1]; decide), if_neg (by rw [s2]; decide), if_pos s3]
    have ef : G.sgF f t = { f with sum := f.close, add := 2 } := by unfold G.sgF; rw [es]
    rw [ef, es]
    unfold tokV
    go_enter Tryz.func196, Tryz.ntmps196
    go_wp2_with (go_at_call 109; (with_reducible refine (G.is_run3 t _ false (by exact s1) _ hGa).mono ?_); rintro e w1 ⟨rfl, hb1⟩; obtain ⟨hc, hf⟩ := G.bcell hb1; have hG1 := G.hbel hGa hb1 (by omega); have hz1 : w.heap.size < w1.heap.size := (by have := hb1.size; omega); have hy1 : g < w1.heap.size := (by omega); have H1 := hid (row_below Ha hb1 (Nat.le_refl _)))
    go_wp2_with (go_at_call 109; (with_reducible refine (G.is_run3 t _ false (by exact s2) _ hG1).mono ?_); rintro e w2 ⟨rfl, hb2⟩; obtain ⟨hc2, hf2⟩ := G.bcell hb2; have hG2 := G.hbel hG1 hb2 (by omega); have hz2 : w.heap.size < w2.heap.size := (by have := hb2.size; omega); have hy2 : g < w2.heap.size := (by omega); have H2 := hid (row_below H1 hb2 (Nat.le_refl _)))
    go_wp2_with (go_at_call 109; (with_reducible refine (G.is_run3 t _ true (by exact s3) _ hG2).mono ?_); rintro e w3 ⟨rfl, hb3⟩; obtain ⟨hc3, hf3⟩ := G.bcell hb3; have hG3 := G.hbel hG2 hb3 (by omega); have hz3 : w.heap.size < w3.heap.size := (by have := hb3.size; omega); have hy3 : g < w3.heap.size := (by omega); have H3 := hid (row_below H2 hb3 (Nat.le_refl _)))
    go_wp2_with (go_at_call 197; (with_reducible refine (G.close_run (unhid H3) hm hG3 hadd).mono ?_); rintro e w9 ⟨rfl, hb9⟩; obtain ⟨hc9, hf9⟩ := G.bcell hb9)
    go_ret
    have hb : Below B w w9 := (((hba.trans (hb1.mono (by omega))).trans (hb2.mono (by omega))).trans (hb3.mono (by omega))).trans (hb9.mono (by omega))
    exact ⟨rfl, (hb.setCell hBg _).setCell hBg _, last_set (last_set (row_below H3 hb9 (Nat.le_refl _)) 0 _) 1 _⟩
   ·have es : f.sign t = none := by unfold Fr.sign; rw [if_neg (by rw [s1]; decide), if_neg (by rw [s2]; decide), if_neg (by rw [s3]; decide)]
    have ef : G.sgF f t = f := by unfold G.sgF; rw [es]
    rw [ef, es]
    unfold tokV
    go_enter Tryz.func196, Tryz.ntmps196
    go_wp2_with (go_at_call 109; (with_reducible refine (G.is_run3 t _ false (by exact s1) _ hGa).mono ?_); rintro e w1 ⟨rfl, hb1⟩; obtain ⟨hc, hf⟩ := G.bcell hb1; have hG1 := G.hbel hGa hb1 (by omega); have hz1 : w.heap.size < w1.heap.size := (by have := hb1.size; omega); have hy1 : g < w1.heap.size := (by omega); have H1 := hid (row_below Ha hb1 (Nat.le_refl _)))
    go_wp2_with (go_at_call 109; (with_reducible refine (G.is_run3 t _ false (by exact s2) _ hG1).mono ?_); rintro e w2 ⟨rfl, hb2⟩; obtain ⟨hc2, hf2⟩ := G.bcell hb2; have hG2 := G.hbel hG1 hb2 (by omega); have hz2 : w.heap.size < w2.heap.size := (by have := hb2.size; omega); have hy2 : g < w2.heap.size := (by omega); have H2 := hid (row_below H1 hb2 (Nat.le_refl _)))
    go_wp2_with (go_at_call 109; (with_reducible refine (G.is_run3 t _ false (by exact s3) _ hG2).mono ?_); rintro e w3 ⟨rfl, hb3⟩; obtain ⟨hc3, hf3⟩ := G.bcell hb3)
    go_ret
    exact ⟨rfl, ((hba.trans (hb1.mono (by omega))).trans (hb2.mono (by omega))).trans (hb3.mono (by omega)), row_below H2 hb3 (Nat.le_refl _)⟩
theorem G.fresh_run (w : World) : Calls Tryz.prog 193 #[] w fun e w' => e = .returned (.agg #[.int .i64 0, .int .i64 1, .int .i64 0, .bool false, .bool false]) ∧ Below w.heap.size w w' := by
 go_enter Tryz.func193, Tryz.ntmps193
 go_wp2
 exact bodyPost_ret (v := .agg #[.int .i64 0, .int .i64 1, .int .i64 0, .bool false, .bool false]) (by simp [results, Tryz.results193, go_sem]) rfl ⟨rfl, (Below.refl _ w).alloc (Nat.le_refl _) _⟩
theorem G.wrong_run (t : LTok) (w : World) : Calls Tryz.prog 194 #[.agg #[.int .i64 t.1, .string t.2.1, .int .i64 t.2.2.1, .int .i64 t.2.2.2.1, .int .i64 t.2.2.2.2]] w fun e w' => ∃ b, e = .returned (.iface 112 (.pointer (some ⟨b, 0, none⟩))) ∧ Below w.heap.size w w' ∧ w.heap.size ≤ b ∧ w'.cell? ⟨b, 0, none⟩ = some (.int .i64 20) ∧ w'.cell? ⟨b, 1, none⟩ = some (.int .i64 t.2.2.2.2) := by
 go_enter Tryz.func194, Tryz.ntmps194
 go_wp2_with (go_at_call 37; (with_reducible refine (F.new_run _ _ _).mono ?_); rintro e w1 he; rw [if_neg (by decide)] at he; obtain ⟨rfl, rfl⟩ := he)
 go_ret
 refine ⟨_, rfl, ((Below.refl _ w).alloc (Nat.le_refl _) _).alloc (by simp) _, by simp, by simp, by simp⟩
end
theorem G.last_kind {l : List LTok} (h : lastKind l = 0) {i : Nat} (hi : i < l.length) (hk : (tokAt l i).kind ≠ 0) : i + 1 < l.length := by
 rcases Nat.lt_or_ge (i + 1) l.length with h1 | h1
 ·exact h1
 ·have : i = l.length - 1 := by omega
  unfold lastKind at h
  rw [← this] at h
  exact absurd h hk
theorem G.tk_kind {t : LTok} {s : ByteArray} (h : isTk t s = true) : t.kind ≠ 0 := by
 intro e
 unfold isTk at h
 rw [e] at h
 simp at h
set_option maxHeartbeats 4000000 in
theorem G.plain_run (l : List LTok) (A : Option Addr) (cap i : Nat) (w : World) (hi : i < l.length) (hlast : lastKind l = 0) (hl : l.length ≤ 1000000000) (hA : LAt w w.heap.size A l) (hG : HdlAt Tryz.prog w) (hw : 0 < w.heap.size) :
 Calls Tryz.prog 192 #[.slice A l.length cap, .int .i64 i] w fun e w' => ∃ v, e = .returned (.tuple #[.int .i64 (plainF l i).n, .int .i64 (plainF l i).at_, v]) ∧ Below w.heap.size w w' ∧ ErrV 112 w.heap.size w' (plainF l i).code (plainF l i).pos v := by
 obtain ⟨pb, po, rfl, hp, ht⟩ := hA.tok (fun h => by rw [h] at hi; simp at hi)
 obtain ⟨a0, a1, a2, a3, a4⟩ := ht i hi
 by_cases hm : isTk (tokAt l i) sMinus = true
 ·have hi1 := G.last_kind hlast hi (G.tk_kind hm)
  obtain ⟨b0, b1, b2, b3, b4⟩ := ht (i + 1) hi1
  have ep : plainF l i = if (tokAt l (i + 1)).kind ≠ 2 then .bad 20 (tokAt l (i + 1)) else .ok (w64 (0 - (tokAt l (i + 1)).num)) (i + 1 + 1 : Nat) := by
   unfold plainF
   simp only [hm, if_true]
  rw [ep]
  clear ep ht
  generalize tokAt l (i + 1) = t at *
  generalize tokAt l i = s at *
  obtain ⟨k, x, n, c, p⟩ := t
  unfold LTok.kind LTok.num
  simp only at *
  by_cases hk : k = 2
  ·subst hk
   rw [if_neg (by decide)]
   go_enter Tryz.func192, Tryz.ntmps192
   go_wp2_with (go_at_call 109; (with_reducible refine (G.is_run3 s _ true hm _ hG).mono ?_); rintro e w1 ⟨rfl, hb1⟩; obtain ⟨hc, hf⟩ := G.bcell hb1; have hG1 := G.hbel hG hb1 hw; have hz1 := hb1.size)
   go_wp2_with (go_at_call 201; (with_reducible refine (G.do_run _ _ _ (by omega) _ (G.hbel hG1 ((Below.refl w1.heap.size w1).alloc (Nat.le_refl _) _) (by omega))).mono ?_); rintro e w2 ⟨rfl, hb2⟩)
   go_ret3
   simp at hb2
   exact ⟨_, rfl, hb1.trans ((((Below.refl w1.heap.size w1).alloc (Nat.le_refl _) _).trans (hb2.mono (by omega))).mono hz1), errV_nil _ _ _⟩
  ·rw [if_pos hk]
   have hk2 : (k == 2) = false := by simpa using hk
   go_enter Tryz.func192, Tryz.ntmps192
   go_wp2_with (go_at_call 109; (with_reducible refine (G.is_run3 s _ true hm _ hG).mono ?_); rintro e w1 ⟨rfl, hb1⟩; obtain ⟨hc, hf⟩ := G.bcell hb1; have hG1 := G.hbel hG hb1 hw; have hz1 := hb1.size)
   go_wp2_with (go_at_call 194; (with_reducible refine (G.wrong_run (k, x, n, c, p) _).mono ?_); rintro e w2 ⟨b, rfl, hb2, hge, hx0, hx1⟩)
   go_ret3
   simp at hb2 hge
   exact ⟨_, rfl, hb1.trans ((((Below.refl w1.heap.size w1).alloc (Nat.le_refl _) _).trans (hb2.mono (by omega))).mono hz1), errV_bad 20 (by decide) (by omega) hx0 hx1⟩
 ·have hm : isTk (tokAt l i) sMinus = false := by simpa using hm
  have ep : plainF l i = if (tokAt l i).kind ≠ 2 then .bad 20 (tokAt l i) else if (tokAt l i).num < 0 then .bad 2 (tokAt l i) else .ok (tokAt l i).num (i + 1 : Nat) := by
   unfold plainF
   simp only [hm, Bool.false_eq_true, if_false]
  rw [ep]
  clear ep ht
  generalize tokAt l i = s at *
  obtain ⟨k, x, n, c, p⟩ := s
  unfold LTok.kind LTok.num
  simp only at *
  by_cases hk : k = 2
  ·subst hk
   rw [if_neg (by decide)]
   by_cases hn : n < 0
   ·rw [if_pos hn]
    have hn2 : decide (n < 0) = true := by simpa using hn
    go_enter Tryz.func192, Tryz.ntmps192
    go_wp2_with (go_at_call 109; (with_reducible refine (G.is_run3 (2, x, n, c, p) _ false hm _ hG).mono ?_); rintro e w1 ⟨rfl, hb1⟩; obtain ⟨hc, hf⟩ := G.bcell hb1; have hG1 := G.hbel hG hb1 hw; have hz1 := hb1.size)
    go_wp2_with (go_at_call 37; (with_reducible refine (F.new_run _ _ _).mono ?_); rintro e w2 he; rw [if_neg (by decide)] at he; obtain ⟨rfl, rfl⟩ := he)
    go_ret3
    refine ⟨_, rfl, hb1.trans ((((Below.refl w1.heap.size w1).alloc (Nat.le_refl _) _).alloc (by simp) _).mono hz1), errV_bad 2 (by decide) (by first | omega | (simp; omega)) (by simp) (by simp)⟩
   ·rw [if_neg hn]
    have hn2 : decide (n < 0) = false := by simpa using hn
    go_enter Tryz.func192, Tryz.ntmps192
    go_wp2_with (go_at_call 109; (with_reducible refine (G.is_run3 (2, x, n, c, p) _ false hm _ hG).mono ?_); rintro e w1 ⟨rfl, hb1⟩; obtain ⟨hc, hf⟩ := G.bcell hb1; have hG1 := G.hbel hG hb1 hw; have hz1 := hb1.size)
    go_ret3
    exact ⟨_, rfl, hb1.trans (((Below.refl w1.heap.size w1).alloc (Nat.le_refl _) _).mono hz1), errV_nil _ _ _⟩
  ·rw [if_pos hk]
   have hk2 : (k == 2) = false := by simpa using hk
   go_enter Tryz.func192, Tryz.ntmps192
   go_wp2_with (go_at_call 109; (with_reducible refine (G.is_run3 (k, x, n, c, p) _ false hm _ hG).mono ?_); rintro e w1 ⟨rfl, hb1⟩; obtain ⟨hc, hf⟩ := G.bcell hb1; have hG1 := G.hbel hG hb1 hw; have hz1 := hb1.size)
   go_wp2_with (go_at_call 194; (with_reducible refine (G.wrong_run (k, x, n, c, p) _).mono ?_); rintro e w2 ⟨b, rfl, hb2, hge, hx0, hx1⟩)
   go_ret3
   simp at hb2 hge
   exact ⟨_, rfl, hb1.trans ((((Below.refl w1.heap.size w1).alloc (Nat.le_refl _) _).trans (hb2.mono (by omega))).mono hz1), errV_bad 20 (by decide) (by omega) hx0 hx1⟩
theorem G.sign_kind {f f' : Fr} {t : LTok} (h : f.sign t = some f') : t.kind ≠ 0 := by
 unfold Fr.sign at h
 split at h
 ·rename_i h1; exact G.tk_kind h1
 ·split at h
  ·rename_i h1; exact G.tk_kind h1
  ·split at h
   ·rename_i h1; exact G.tk_kind h1
   ·cases h
theorem G.sign_add {f f' : Fr} {t : LTok} (h : f.sign t = some f') (ha : f.add = 1 ∨ f.add = 2) : f'.add = 1 ∨ f'.add = 2 := by
 unfold Fr.sign at h
 split at h
 ·cases h; exact ha
 ·split at h
  ·cases h; exact .inl rfl
  ·split at h
   ·cases h; exact .inr rfl
   ·cases h
section
variable {w : World} {B g cap m : Nat} {ys : List Value} {f : Fr}
theorem G.number_at (n : Int) (o : Nat) (ho : ys.length = o) (h : w.ownsRow B 277 5 (.slice (some ⟨g, 0, none⟩) m cap) m (ys ++ frC f)) (hm : ys.length + 5 = m * 5) (hG : HdlAt Tryz.prog w) (hB : 0 < B) :
 Calls Tryz.prog 195 #[.pointer (some ⟨g, o, none⟩), .int .i64 n] w fun e w' => e = .returned (.tuple #[]) ∧ Below B w w' ∧ w'.ownsRow B 277 5 (.slice (some ⟨g, 0, none⟩) m cap) m (ys ++ frC (f.number n)) := by
 subst ho; exact G.number_run n h hm hG hB
theorem G.sign_at (t : LTok) (b : Bool) (f' : Fr) (hs : (f.sign t).isSome = b) (hf : G.sgF f t = f') (o : Nat) (ho : ys.length = o) (h : w.ownsRow B 277 5 (.slice (some ⟨g, 0, none⟩) m cap) m (ys ++ frC f)) (hm : ys.length + 5 = m * 5) (hG : HdlAt Tryz.prog w) (hB : 0 < B) (hBw : B ≤ w.heap.size) (hadd : f.add = 1 ∨ f.add = 2) :
 Calls Tryz.prog 196 #[.pointer (some ⟨g, o, none⟩), .agg #[.int .i64 t.1, .string t.2.1, .int .i64 t.2.2.1, .int .i64 t.2.2.2.1, .int .i64 t.2.2.2.2]] w fun e w' => e = .returned (.bool b) ∧ Below B w w' ∧ w'.ownsRow B 277 5 (.slice (some ⟨g, 0, none⟩) m cap) m (ys ++ frC f') := by
 subst ho; subst hs; subst hf
 exact G.sign_run t h hm hG hB hBw hadd
theorem G.close_at (o : Nat) (ho : ys.length = o) (h : w.ownsRow B 277 5 (.slice (some ⟨g, 0, none⟩) m cap) m (ys ++ frC f)) (hm : ys.length + 5 = m * 5) (hG : HdlAt Tryz.prog w) (hadd : f.add = 1 ∨ f.add = 2) :
 Calls Tryz.prog 197 #[.pointer (some ⟨g, o, none⟩)] w fun e w' => e = .returned (.int .i64 f.close) ∧ Below w.heap.size w w' := by
 subst ho; exact G.close_run h hm hG hadd
end
theorem G.infoFr : (Tryz.prog.info? 277).map (fun i => (i.zero, i.size, i.bytes)) = some (some (.agg #[.int .i64 0, .int .i64 0, .int .i64 0, .bool false, .bool false]), 5, 32) := by kernel_rfl
theorem G.FM_open {l : List LTok} {st : List Fr} {n : Int} {a : Nat} (h : a ≤ l.length) (ho : isTk (tokAt l a) sOpen = true) (hl : st.length ≠ 32) : FM l true st n a = FM l true (Fr.fresh :: st) 0 (a + 1) := by
 unfold FM
 rw [show l.length + 1 - a = (l.length + 1 - (a + 1)) + 1 by omega]
 cases st <;> rw [foldM, if_pos ho, if_neg hl]
theorem G.FM_deep {l : List LTok} {st : List Fr} {n : Int} {a : Nat} (h : a ≤ l.length) (ho : isTk (tokAt l a) sOpen = true) (hl : st.length = 32) : FM l true st n a = .bad 21 (tokAt l a) := by
 unfold FM
 rw [show l.length + 1 - a = (l.length + 1 - (a + 1)) + 1 by omega]
 cases st <;> rw [foldM, if_pos ho, if_pos hl]
structure G.St (w w' : World) (l : List LTok) (x : FRes) (m : Bool) (i : Nat) (st : List Fr) (v : Value) (n : Int) : Prop where
 lt : i < l.length
 len : st.length ≤ 32
 add : ∀ f ∈ st, f.add = 1 ∨ f.add = 2
 bel : Below w.heap.size w w'
 row : w'.ownsRow w.heap.size 277 5 v st.length (rowC st)
 val : x = FM l m st n i
 one : st = [] → m = true ∧ isTk (tokAt l i) sOpen = true
def G.J (w : World) (A : Option Addr) (cap : Nat) (l : List LTok) (x : FRes) : Nat → Act → World → Prop
 | 0, a, w' => ∃ (i : Nat) (st : List Fr) (v : Value) (u : Nat → Value), a = { tmps := #[.slice A l.length cap, .int .i64 i, u 2, u 3, u 4, u 5, u 6, v, u 8, u 9, u 10, u 11, u 12, u 13, u 14, u 15, u 16, u 17, u 18, u 19, u 20, u 21, u 22, u 23, u 24, u 25, u 26, u 27, u 28, u 29, u 30, u 31, u 32, u 33, u 34, u 35, u 36, u 37, u 38, u 39, u 40, u 41, u 42, u 43, u 44, u 45, u 46, u 47, u 48, u 49, u 50, u 51, u 52, u 53, u 54, u 55, u 56, u 57, u 58, u 59, u 60, u 61, u 62, u 63, u 64, u 65, u 66, u 67, u 68, u 69, u 70, u 71, u 72, u 73, u 74, u 75, u 76, u 77, u 78, u 79, u 80, u 81, u 82, u 83, u 84, u 85, u 86, u 87, u 88, u 89, u 90, u 91, u 92, u 93, u 94, u 95, u 96, u 97, u 98, u 99, u 100, u 101, u 102, u 103, u 104, u 105, u 106, u 107, u 108, u 109, u 110, u 111, u 112, u 113, u 114, u 115, u 116, u 117, u 118, u 119, u 120, u 121, u 122, u 123, u 124, u 125, u 126, u 127, u 128, u 129, u 130, u 131, u 132, u 133, u 134, u 135, u 136, u 137, u 138, u 139, u 140, u 141, u 142, u 143, u 144, u 145, u 146, u 147, u 148, u 149, u 150, u 151, u 152, u 153], defers := [] } ∧ G.St w w' l x true i st v 0
 | 1, a, w' => ∃ (i : Nat) (st : List Fr) (v : Value) (n : Int) (u : Nat → Value), a = { tmps := #[.slice A l.length cap, .int .i64 i, u 2, u 3, u 4, u 5, u 6, v, .int .i64 n, u 9, u 10, u 11, u 12, u 13, u 14, u 15, u 16, u 17, u 18, u 19, u 20, u 21, u 22, u 23, u 24, u 25, u 26, u 27, u 28, u 29, u 30, u 31, u 32, u 33, u 34, u 35, u 36, u 37, u 38, u 39, u 40, u 41, u 42, u 43, u 44, u 45, u 46, u 47, u 48, u 49, u 50, u 51, u 52, u 53, u 54, u 55, u 56, u 57, u 58, u 59, u 60, u 61, u 62, u 63, u 64, u 65, u 66, u 67, u 68, u 69, u 70, u 71, u 72, u 73, u 74, u 75, u 76, u 77, u 78, u 79, u 80, u 81, u 82, u 83, u 84, u 85, u 86, u 87, u 88, u 89, u 90, u 91, u 92, u 93, u 94, u 95, u 96, u 97, u 98, u 99, u 100, u 101, u 102, u 103, u 104, u 105, u 106, u 107, u 108, u 109, u 110, u 111, u 112, u 113, u 114, u 115, u 116, u 117, u 118, u 119, u 120, u 121, u 122, u 123, u 124, u 125, u 126, u 127, u 128, u 129, u 130, u 131, u 132, u 133, u 134, u 135, u 136, u 137, u 138, u 139, u 140, u 141, u 142, u 143, u 144, u 145, u 146, u 147, u 148, u 149, u 150, u 151, u 152, u 153], defers := [] } ∧ G.St w w' l x false i st v n
 | _, _, _ => False
theorem G.mkJ0 {w : World} {A : Option Addr} {cap : Nat} {l : List LTok} {x : FRes} {a : Act} {w' : World} (i : Nat) (st : List Fr) (v : Value) (u : Nat → Value) (hu : u = fun j => a.tmps.toList.getD j undef) (h : a = { tmps := #[.slice A l.length cap, .int .i64 i, u 2, u 3, u 4, u 5, u 6, v, u 8, u 9, u 10, u 11, u 12, u 13, u 14, u 15, u 16, u 17, u 18, u 19, u 20, u 21, u 22, u 23, u 24, u 25, u 26, u 27, u 28, u 29, u 30, u 31, u 32, u 33, u 34, u 35, u 36, u 37, u 38, u 39, u 40, u 41, u 42, u 43, u 44, u 45, u 46, u 47, u 48, u 49, u 50, u 51, u 52, u 53, u 54, u 55, u 56, u 57, u 58, u 59, u 60, u 61, u 62, u 63, u 64, u 65, u 66, u 67, u 68, u 69, u 70, u 71, u 72, u 73, u 74, u 75, u 76, u 77, u 78, u 79, u 80, u 81, u 82, u 83, u 84, u 85, u 86, u 87, u 88, u 89, u 90, u 91, u 92, u 93, u 94, u 95, u 96, u 97, u 98, u 99, u 100, u 101, u 102, u 103, u 104, u 105, u 106, u 107, u 108, u 109, u 110, u 111, u 112, u 113, u 114, u 115, u 116, u 117, u 118, u 119, u 120, u 121, u 122, u 123, u 124, u 125, u 126, u 127, u 128, u 129, u 130, u 131, u 132, u 133, u 134, u 135, u 136, u 137, u 138, u 139, u 140, u 141, u 142, u 143, u 144, u 145, u 146, u 147, u 148, u 149, u 150, u 151, u 152, u 153], defers := [] }) (hs : G.St w w' l x true i st v 0) : G.J w A cap l x 0 a w' :=
 ⟨i, st, v, u, h, hs⟩
theorem G.mkJ1 {w : World} {A : Option Addr} {cap : Nat} {l : List LTok} {x : FRes} {a : Act} {w' : World} (i : Nat) (st : List Fr) (v : Value) (n : Int) (u : Nat → Value) (hu : u = fun j => a.tmps.toList.getD j undef) (h : a = { tmps := #[.slice A l.length cap, .int .i64 i, u 2, u 3, u 4, u 5, u 6, v, .int .i64 n, u 9, u 10, u 11, u 12, u 13, u 14, u 15, u 16, u 17, u 18, u 19, u 20, u 21, u 22, u 23, u 24, u 25, u 26, u 27, u 28, u 29, u 30, u 31, u 32, u 33, u 34, u 35, u 36, u 37, u 38, u 39, u 40, u 41, u 42, u 43, u 44, u 45, u 46, u 47, u 48, u 49, u 50, u 51, u 52, u 53, u 54, u 55, u 56, u 57, u 58, u 59, u 60, u 61, u 62, u 63, u 64, u 65, u 66, u 67, u 68, u 69, u 70, u 71, u 72, u 73, u 74, u 75, u 76, u 77, u 78, u 79, u 80, u 81, u 82, u 83, u 84, u 85, u 86, u 87, u 88, u 89, u 90, u 91, u 92, u 93, u 94, u 95, u 96, u 97, u 98, u 99, u 100, u 101, u 102, u 103, u 104, u 105, u 106, u 107, u 108, u 109, u 110, u 111, u 112, u 113, u 114, u 115, u 116, u 117, u 118, u 119, u 120, u 121, u 122, u 123, u 124, u 125, u 126, u 127, u 128, u 129, u 130, u 131, u 132, u 133, u 134, u 135, u 136, u 137, u 138, u 139, u 140, u 141, u 142, u 143, u 144, u 145, u 146, u 147, u 148, u 149, u 150, u 151, u 152, u 153], defers := [] }) (hs : G.St w w' l x false i st v n) : G.J w A cap l x 1 a w' :=
 ⟨i, st, v, n, u, h, hs⟩
def G.Post (w : World) (x : FRes) : Ending → World → Prop := fun e w' => ∃ v, e = .returned (.tuple #[.int .i64 x.n, .int .i64 x.at_, v]) ∧ Below w.heap.size w w' ∧ ErrV 112 w.heap.size w' x.code x.pos v
def G.mu (l : List LTok) : Act → World → Nat := fun a _ => match a.tmps.getD 1 undef with
 | .int _ n => l.length - n.toNat
 | _ => 0
set_option maxHeartbeats 4000000 in
theorem G.value_run (l : List LTok) (A : Option Addr) (cap : Nat) (at_ : Int) (w : World) (hl : l.length ≤ 1000000000) (hA : LAt w w.heap.size A l) (hG : HdlAt Tryz.prog w) (hw : 0 < w.heap.size) :
 Calls Tryz.prog 185 #[.slice A l.length cap, .int .i64 at_] w (G.Post w (foldV l at_)) := by
 by_cases h0 : at_ < 0
 ·have e : foldV l at_ = ⟨0, 0, 1, 0⟩ := by unfold foldV; rw [if_pos (.inl h0)]
  have h02 : decide (at_ < 0) = true := by simpa using h0
  rw [e]
  go_enter Tryz.func185, Tryz.ntmps185
  go_wp2
  go_step3
  go_wp2_with (go_at_call 37; (with_reducible refine (F.new_run _ _ _).mono ?_); rintro e w2 he; rw [if_neg (by decide)] at he; obtain ⟨rfl, rfl⟩ := he)
  rw [Exit.noGoto_ret]
  go_ret3
  exact ⟨_, rfl, (Below.refl _ w).alloc (Nat.le_refl _) _, errV_flt (by decide) (by simp) (by simp) (by simp)⟩
 by_cases h1 : at_ ≥ (l.length : Int)
 ·have e : foldV l at_ = ⟨0, 0, 1, 0⟩ := by unfold foldV; rw [if_pos (.inr (.inl h1))]
  have h02 : decide (at_ < 0) = false := by simpa using h0
  have h12 : decide (at_ ≥ (l.length : Int)) = true := by simpa using h1
  rw [e]
  go_enter Tryz.func185, Tryz.ntmps185
  go_wp2
  go_step3
  go_wp2_with (go_at_call 37; (with_reducible refine (F.new_run _ _ _).mono ?_); rintro e w2 he; rw [if_neg (by decide)] at he; obtain ⟨rfl, rfl⟩ := he)
  rw [Exit.noGoto_ret]
  go_ret3
  exact ⟨_, rfl, (Below.refl _ w).alloc (Nat.le_refl _) _, errV_flt (by decide) (by simp) (by simp) (by simp)⟩
 obtain ⟨i, rfl⟩ : ∃ i : Nat, at_ = i := ⟨at_.toNat, by omega⟩
 have hi : i < l.length := by omega
 obtain ⟨pb, po, rfl, hp, ht⟩ := hA.tok (fun h => by rw [h] at hi; simp at hi)
 obtain ⟨z0, z1, z2, z3, z4⟩ := ht (l.length - 1) (by omega)
 have hlen1 : 0 < l.length := by omega
 have en1 : (l.length : Int) - 1 = ((l.length - 1 : Nat) : Int) := by omega
 have en2 : IntKind.i64.wrap ((l.length - 1 : Nat) : Int) = ((l.length - 1 : Nat) : Int) := wrap_id (by omega) (by omega)
 have en3 : ((l.length - 1 : Nat) : Int) < (l.length : Int) := by omega
 have en4 : l.length - 1 < l.length := by omega
 have g1 : decide ((i : Int) < 0) = false := by simp
 have g2 : decide (l.length ≤ i) = false := by simpa using hi
 by_cases h2 : lastKind l ≠ 0
 ·have e : foldV l i = ⟨0, 0, 1, 0⟩ := by unfold foldV; rw [if_pos (.inr (.inr h2))]
  have h22 : ((tokAt l (l.length - 1)).1 != 0) = true := by simpa [lastKind, LTok.kind] using h2
  rw [e]
  go_enter Tryz.func185, Tryz.ntmps185
  go_wp2
  go_step3
  go_wp2_with (go_at_call 37; (with_reducible refine (F.new_run _ _ _).mono ?_); rintro e w2 he; rw [if_neg (by decide)] at he; obtain ⟨rfl, rfl⟩ := he)
  rw [Exit.noGoto_ret]
  go_ret3
  exact ⟨_, rfl, (Below.refl _ w).alloc (Nat.le_refl _) _, errV_flt (by decide) (by simp) (by simp) (by simp)⟩
 have h2 : lastKind l = 0 := by simpa using h2
 have h22 : ((tokAt l (l.length - 1)).1 != 0) = false := by
  have : (tokAt l (l.length - 1)).1 = 0 := h2
  rw [this]; rfl
 obtain ⟨a0, a1, a2, a3, a4⟩ := ht i hi
 by_cases h3 : isTk (tokAt l i) sOpen = false
 ·have e : foldV l i = plainF l i := by unfold foldV; rw [if_neg (by omega), Int.toNat_natCast, if_pos h3]
  rw [e]
  have hb0 : Below w.heap.size w w := Below.refl _ _
  go_enter Tryz.func185, Tryz.ntmps185
  go_wp2
  go_step3
  go_wp2_with (go_at_call 109; (with_reducible refine (G.is_run3 _ _ false h3 _ hG).mono ?_); rintro e w1 ⟨rfl, hb1⟩; obtain ⟨hc, hf⟩ := G.bcell hb1; have hG1 := G.hbel hG hb1 hw; have hz1 := hb1.size; have hA1 := hA.below hb1 (Nat.le_refl _))
  have hp1 := G.plain_run l _ cap i w1 hi h2 hl (hA1.mono hz1) hG1 (Nat.lt_of_lt_of_le hw hz1)
  go_wp2_with (go_at_call 192; (with_reducible refine (hp1).mono ?_); rintro e w2 ⟨v, rfl, hb2, hev⟩)
  rw [Exit.noGoto_ret]
  go_ret3
  exact ⟨_, rfl, hb1.trans (hb2.mono hz1), hev.mono hz1⟩
 ·have h3 : isTk (tokAt l i) sOpen = true := by simpa using h3
  have e : foldV l i = FM l true [] 0 i := by unfold foldV; rw [if_neg (by omega), Int.toNat_natCast, if_neg (by rw [h3]; decide)]; rfl
  rw [e]
  generalize hx : FM l true [] 0 i = x
  go_enter Tryz.func185, Tryz.ntmps185
  go_wp2
  refine wp_scope_two (G.J w (some ⟨pb, po, none⟩) cap l x) (G.mu l) rfl rfl (fun l' a w' h => ?_) (fun a w' m hJ hm => ?_) (fun hbeh a w' m hJ hm => ?_) (l.length + 1) (fun hop => ?_)
  ·match l', h with
   | 0, _ => exact .inl rfl
   | 1, _ => exact .inr rfl
  ·obtain ⟨i', st, v, n, u, rfl, hs⟩ := hJ
   obtain ⟨hi', hsl, hadd, hbel, hrow, hval, hone⟩ := hs
   have hm' : l.length - i' ≤ m := hm
   clear hm z0 z1 z2 z3 z4 en1 en2 en3 en4 a0 a1 a2 a3 a4 g1 g2 h22
   obtain ⟨a0, a1, a2, a3, a4⟩ := (hA.below hbel (Nat.le_refl _)).tok' hi'
   match st, hone with
   | [], hone => exact absurd (hone rfl).1 (by decide)
   | f :: r, _ =>
   have hG' := G.hbel hG hbel hw
   have hBw : w.heap.size ≤ w'.heap.size := hbel.size
   have hB : 0 < w.heap.size := hw
   have hval2 : x = aft l (f.number n) r i' := by rw [hval, FM_false (Nat.le_of_lt hi')]
   rw [rowC_cons, List.length_cons] at hrow
   obtain ⟨g, capv, rfl, hgB, hgl⟩ := hrow.form (by omega)
   have hcap := row_cap hrow
   have hys : (rowC r).length = r.length * 5 := rowC_len r
   have hadd1 : (f.number n).add = 1 ∨ (f.number n).add = 2 := hadd f (by simp)
   have hr32 : r.length ≤ 31 := by simpa using hsl
   have k1 : ((r.length + 1 : Nat) : Int) - 1 = (r.length : Int) := by omega
   have k2 : (r.length : Int) + 1 - 1 = (r.length : Int) := by omega
   have k3 : IntKind.i64.wrap (r.length : Int) = (r.length : Int) := wrap_id (by omega) (by omega)
   have k4 : (r.length : Int) < (r.length : Int) + 1 := by omega
   have k5 : IntKind.i64.wrap ((i' : Int) + 1) = ((i' : Int) + 1) := wrap_id (by omega) (by omega)
   have HR : Hid (w'.ownsRow w.heap.size 277 5 (.slice (some ⟨g, 0, none⟩) (r.length + 1) capv) (r.length + 1) (rowC r ++ frC f)) := hrow
   have haddr : Hid (∀ f ∈ r, f.add = 1 ∨ f.add = 2) := fun f hf => hadd f (by simp [hf])
   clear hrow hadd hone hval hx hA ht
   generalize hyr : rowC r = ys at *
   generalize hkr : r.length = k at *
   have hm5 : ys.length + 5 = (k + 1) * 5 := by omega
   cases hsg : (f.number n).sign (tokAt l i') with
   | some f2 =>
     have hs1 : ((f.number n).sign (tokAt l i')).isSome = true := by rw [hsg]; rfl
     have hs2 : G.sgF (f.number n) (tokAt l i') = f2 := by unfold G.sgF; rw [hsg]
     go_wp2_with (go_at_call 195; (with_reducible refine (G.number_at n _ hys (unhid HR) hm5 hG' hB).mono ?_); rintro e w2 ⟨rfl, hb2, hr2⟩; obtain ⟨hc2, hf2⟩ := bcellB hb2; have hG2 := G.hbel hG' hb2 hw; have HR2 := hid hr2; have hz2 := hb2.size; clear hr2)
     have hG3 : HdlAt Tryz.prog w2.drew := hG2
     have HR3 : Hid (w2.drew.ownsRow w.heap.size 277 5 (.slice (some ⟨g, 0, none⟩) (k + 1) capv) (k + 1) (ys ++ frC (f.number n))) := HR2
     have hz3 : w.heap.size ≤ w2.drew.heap.size := Nat.le_trans hBw hz2
     go_region_with (go_at_call 196; (with_reducible refine (G.sign_at (tokAt l i') true f2 hs1 hs2 _ hys (unhid HR3) hm5 hG3 hB hz3 hadd1).mono ?_); rintro e w3 ⟨rfl, hb3, hr3⟩; have HR4 := hid hr3; clear hr3)
     go_wp2
     go_step3
     have hb4 : Below w.heap.size w w3 := (hbel.trans hb2).trans (Below.trans (Below.drew (Below.refl _ w2)) hb3)
     have hk1 := G.last_kind h2 hi' (G.sign_kind hsg)
     have e5 : (i' : Int) + 1 = ((i' + 1 : Nat) : Int) := by omega
     rw [e5]
     refine ⟨G.mkJ0 (i' + 1) (f2 :: r) _ _ rfl (by rfl) ⟨hk1, hsl, fun f0 hf0 => ?_, hb4, ?_, ?_, fun h => absurd h (by simp)⟩, ?_⟩
     ·rcases List.mem_cons.1 hf0 with rfl | hf0
      ·exact G.sign_add hsg hadd1
      ·exact haddr f0 hf0
     ·rw [rowC_cons, List.length_cons, hyr, hkr]; exact HR4
     ·rw [hval2]; unfold aft; rw [hsg]
     ·show l.length - (((i' + 1 : Nat) : Int)).toNat < m
      omega
   | none =>
     have hs1 : ((f.number n).sign (tokAt l i')).isSome = false := by rw [hsg]; rfl
     have hs2 : G.sgF (f.number n) (tokAt l i') = f.number n := by unfold G.sgF; rw [hsg]
     go_wp2_with (go_at_call 195; (with_reducible refine (G.number_at n _ hys (unhid HR) hm5 hG' hB).mono ?_); rintro e w2 ⟨rfl, hb2, hr2⟩; obtain ⟨hc2, hf2⟩ := bcellB hb2; have hG2 := G.hbel hG' hb2 hw; have HR2 := hid hr2; have hz2 := hb2.size; clear hr2)
     have hG3 : HdlAt Tryz.prog w2.drew := hG2
     have HR3 : Hid (w2.drew.ownsRow w.heap.size 277 5 (.slice (some ⟨g, 0, none⟩) (k + 1) capv) (k + 1) (ys ++ frC (f.number n))) := HR2
     have hz3 : w.heap.size ≤ w2.drew.heap.size := Nat.le_trans hBw hz2
     go_region_with (go_at_call 196; (with_reducible refine (G.sign_at (tokAt l i') false (f.number n) hs1 hs2 _ hys (unhid HR3) hm5 hG3 hB hz3 hadd1).mono ?_); rintro e w3 ⟨rfl, hb3, hr3⟩; have HR4 := hid hr3; clear hr3)
     have hb4 : Below w.heap.size w w3 := (hbel.trans hb2).trans (Below.trans (Below.drew (Below.refl _ w2)) hb3)
     have hb34 : Below w.heap.size w2 w3 := Below.trans (Below.drew (Below.refl _ w2)) hb3
     obtain ⟨hc3, hf3⟩ := bcellB hb34
     have hG4 := G.hbel hG2 hb34 hw
     have hw3 : w.heap.size ≤ w3.heap.size := Nat.le_trans hz3 hb34.size
     clear HR HR2 HR3 hG3 hz3
     by_cases hcl : isTk (tokAt l i') sClose = false
     ·have hx : x = .bad 20 (tokAt l i') := by rw [hval2]; unfold aft; rw [hsg]; dsimp only; rw [if_pos hcl]
      go_wp2_with (go_at_call 109; (with_reducible refine (G.is_run3 _ _ false hcl _ hG4).mono ?_); rintro e w5 ⟨rfl, hb5⟩; obtain ⟨hc5, hf5⟩ := G.bcell hb5; have hpz : pb < w3.heap.size := (Nat.lt_of_lt_of_le hp hw3))
      go_wp2_with (go_at_call 194; (with_reducible refine (G.wrong_run _ _).mono ?_); rintro e w6 ⟨b, rfl, hb6, hge, hx0, hx1⟩)
      simp only [Exit.jumps]
      go_ret3
      rw [hx]
      exact ⟨_, rfl, hb4.trans ((hb5.trans (hb6.mono hb5.size)).mono hw3), errV_bad 20 (by decide) (by have := hb5.size; omega) hx0 hx1⟩
     ·have hcl : isTk (tokAt l i') sClose = true := by simpa using hcl
      have hk1 := G.last_kind h2 hi' (G.tk_kind hcl)
      have k6 : (0 : Int) ≤ (k : Int) := by omega
      have k7 : k ≤ capv := by omega
      have hpz : pb < w3.heap.size := Nat.lt_of_lt_of_le hp hw3
      match hr : r, haddr, hyr, hkr, hval2 with
      | [], _, hyr, hkr, hval2 =>
        have kz : k = 0 := by simpa using hkr.symm
        have kz1 : decide (0 < k) = false := by rw [kz]; rfl
        clear hkr kz
        have hx : x = .ok (f.number n).close (i' + 1 : Nat) := by rw [hval2]; unfold aft; rw [hsg]; dsimp only; rw [if_neg (by rw [hcl]; decide), if_pos rfl]
        go_wp2_with (go_at_call 109; (with_reducible refine (G.is_run3 _ _ true hcl _ hG4).mono ?_); rintro e w5 ⟨rfl, hb5⟩; obtain ⟨hc5, hf5⟩ := G.bcell hb5; have hG5 := G.hbel hG4 hb5 (Nat.lt_of_lt_of_le hw hw3); have HR5 := hid (row_below (unhid HR4) hb5 (Nat.le_refl _)))
        go_wp2_with (go_at_call 197; (with_reducible refine (G.close_at _ hys (unhid HR5) hm5 hG5 hadd1).mono ?_); rintro e w6 ⟨rfl, hb6⟩)
        simp only [Exit.jumps]
        go_ret3
        rw [hx]
        have e5 : (i' : Int) + 1 = ((i' + 1 : Nat) : Int) := by omega
        exact ⟨_, by simp only [e5]; rfl, hb4.trans ((hb5.trans (hb6.mono hb5.size)).mono hw3), errV_nil _ _ _⟩
      | f3 :: r3, haddr, hyr, hkr, hval2 =>
        have kz : 0 < k := by rw [← hkr]; simp
        have kz1 : decide (0 < k) = true := by simpa using kz
        have hval3 : x = FM l false (f3 :: r3) (f.number n).close (i' + 1) := by rw [hval2]; unfold aft; rw [hsg]; dsimp only; rw [if_neg (by rw [hcl]; decide), if_neg (by simp)]
        clear hval2
        go_wp2_with (go_at_call 109; (with_reducible refine (G.is_run3 _ _ true hcl _ hG4).mono ?_); rintro e w5 ⟨rfl, hb5⟩; obtain ⟨hc5, hf5⟩ := G.bcell hb5; have hG5 := G.hbel hG4 hb5 (Nat.lt_of_lt_of_le hw hw3); have HR5 := hid (row_below (unhid HR4) hb5 (Nat.le_refl _)))
        go_wp2_with (go_at_call 197; (with_reducible refine (G.close_at _ hys (unhid HR5) hm5 hG5 hadd1).mono ?_); rintro e w6 ⟨rfl, hb6⟩)
        go_step3
        have e5 : (i' : Int) + 1 = ((i' + 1 : Nat) : Int) := by omega
        rw [e5]
        refine ⟨G.mkJ1 (i' + 1) (f3 :: r3) _ _ _ rfl (by rfl) ⟨hk1, by omega, fun f0 hf0 => haddr f0 hf0, hb4.trans ((hb5.trans (hb6.mono hb5.size)).mono hw3), ?_, hval3, fun h => absurd h (by simp)⟩, ?_⟩
        ·rw [hyr, hkr]
         exact ownsRow_pop (by rw [hys]) (row_below (unhid HR5) hb6 (Nat.le_refl _))
        ·show l.length - (((i' + 1 : Nat) : Int)).toNat < m
         omega
  ·obtain ⟨i', st, v, u, rfl, hs⟩ := hJ
   obtain ⟨hi', hsl, hadd, hbel, hrow, hval, hone⟩ := hs
   have hm' : l.length - i' ≤ m := hm
   clear hm z0 z1 z2 z3 z4 en1 en2 en3 en4 a0 a1 a2 a3 a4 g1 g2 h22
   obtain ⟨a0, a1, a2, a3, a4⟩ := (hA.below hbel (Nat.le_refl _)).tok' hi'
   have hG' := G.hbel hG hbel hw
   have hBw : w.heap.size ≤ w'.heap.size := hbel.size
   have k5 : IntKind.i64.wrap ((i' : Int) + 1) = ((i' : Int) + 1) := wrap_id (by omega) (by omega)
   obtain ⟨is, his, his0, his1, his2⟩ := info_parts G.infoFr
   have hpz : pb < w'.heap.size := Nat.lt_of_lt_of_le hp hBw
   clear hA ht hx
   by_cases ho : isTk (tokAt l i') sOpen = true
   ·have hk1 := G.last_kind h2 hi' (G.tk_kind ho)
    generalize htt : tokAt l i' = t at *
    have hGa : HdlAt Tryz.prog (w'.alloc (.cells #[.int .i64 t.1, .string t.2.1, .int .i64 t.2.2.1, .int .i64 t.2.2.2.1, .int .i64 t.2.2.2.2] 102)) := G.hbel hG' ((Below.refl w'.heap.size w').alloc (Nat.le_refl _) _) (by omega)
    have hRa := hid (hrow.alloc (.cells #[.int .i64 t.1, .string t.2.1, .int .i64 t.2.2.1, .int .i64 t.2.2.2.1, .int .i64 t.2.2.2.2] 102))
    have hsa : (w'.alloc (.cells #[.int .i64 t.1, .string t.2.1, .int .i64 t.2.2.1, .int .i64 t.2.2.2.1, .int .i64 t.2.2.2.2] 102)).heap.size = w'.heap.size + 1 := by simp
    have hba : Below w.heap.size w (w'.alloc (.cells #[.int .i64 t.1, .string t.2.1, .int .i64 t.2.2.1, .int .i64 t.2.2.2.1, .int .i64 t.2.2.2.2] 102)) := hbel.alloc hBw _
    rcases Nat.lt_or_ge st.length 32 with hlt | hge
    ·have hval2 : x = FM l true (Fr.fresh :: st) 0 (i' + 1) := by rw [hval]; exact G.FM_open (Nat.le_of_lt hi') (by rw [htt]; exact ho) (by omega)
     clear hval hone
     have hrl : (rowC st).length = st.length * 5 := rowC_len st
     have hv : ∃ ao c, v = .slice ao st.length c := by
      rcases hrow.2 with ⟨e, h0⟩ | ⟨g, c, cur, e, _⟩
      ·exact ⟨none, 0, by rw [e, h0]⟩
      ·exact ⟨_, c, e⟩
     obtain ⟨ao, c, rfl⟩ := hv
     clear hrow
     generalize hks : st.length = k at *
     have k32 : (k == 32) = false := by simp; omega
     have k33 : ((k : Int) == 32) = false := by simp; omega
     go_wp2_with (go_at_call 109; (with_reducible refine (G.is_run3 _ _ true ho _ hGa).mono ?_); rintro e w1 ⟨rfl, hb1⟩; obtain ⟨hc1, hf1⟩ := G.bcell hb1; have hG1 := G.hbel hGa hb1 (by omega); have hR1 := hid (row_below (unhid hRa) hb1 (Nat.le_refl _)); have hz1 := hb1.size)
     go_wp2_with (first
      | (go_at_call 193; (with_reducible refine (G.fresh_run _).mono ?_); rintro e w2 ⟨rfl, hb2⟩; obtain ⟨hc2, hf2⟩ := G.bcell hb2; have hR2 := hid ((row_below (unhid hR1) hb2 (Nat.le_refl _)).alloc (.cells #[.int .i64 0, .int .i64 1, .int .i64 0, .bool false, .bool false] 277)); have hz2 := hb2.size; have hzz : w.heap.size ≤ w2.heap.size := (by omega))
      | (refine wpList_append_lies _ (by rfl) _ _ _ (by rfl) w.heap.size 277 is _ 5 32 Tryz.underlying275 his his0 his1 his2 (by rfl) (by omega) (.slice ao k c) k (rowC st) (by rfl) (unhid hR2)
          ⟨w2.heap.size, 0, none⟩ 1 1 [.int .i64 0, .int .i64 1, .int .i64 0, .bool false, .bool false] (by rfl) (by rfl) (World.news_of_block (cs := #[.int .i64 0, .int .i64 1, .int .i64 0, .bool false, .bool false]) (t := 277) (fr := (0, 0)) (heap_alloc_new _ _)) (by simp [Value.oneCell'])
          (by omega) (by simp [maxLen]; omega) (by omega) (by simp; omega) (w2.heap.size + 1) (by simp) ?_; intro g capv w4 hown4 hgrow4 hat4 hlt4))
     go_step3
     have e5 : (i' : Int) + 1 = ((i' + 1 : Nat) : Int) := by omega
     rw [e5]
     have hb5 : Below w.heap.size w w4 := ((((hba.trans (hb1.mono (by omega))).trans (hb2.mono (by omega))).alloc hzz _).grown hgrow4 (by simp; omega) (fun k hk => ((unhid hR2).lt k hk).1))
     refine ⟨G.mkJ0 (i' + 1) (Fr.fresh :: st) _ _ rfl (by rfl) ⟨hk1, by rw [List.length_cons]; omega, fun f0 hf0 => ?_, hb5, ?_, hval2, fun h => absurd h (by simp)⟩, ?_⟩
     ·rcases List.mem_cons.1 hf0 with rfl | hf0
      ·exact .inl rfl
      ·exact hadd f0 hf0
     ·rw [rowC_cons, List.length_cons, hks]; exact hown4
     ·show l.length - (((i' + 1 : Nat) : Int)).toNat < m
      omega
    ·have h32 : st.length = 32 := by omega
     have hx : x = .bad 21 t := by rw [hval, ← htt]; exact G.FM_deep (Nat.le_of_lt hi') (by rw [htt]; exact ho) h32
     have hv : ∃ ao c, v = .slice ao 32 c := by
      rcases hrow.2 with ⟨e, h0⟩ | ⟨g, c, cur, e, _⟩
      ·omega
      ·exact ⟨_, c, by rw [e, h32]⟩
     obtain ⟨ao, c, rfl⟩ := hv
     clear hval hone
     have hw1 : 0 < w'.heap.size := by omega
     go_wp2_with (go_at_call 109; (with_reducible refine (G.is_run3 _ _ true ho _ hGa).mono ?_); rintro e w1 ⟨rfl, hb1⟩; obtain ⟨hc1, hf1⟩ := G.bcell hb1; have hz1 := hb1.size)
     go_wp2_with (go_at_call 37; (with_reducible refine (F.new_run _ _ _).mono ?_); rintro e w2 he; rw [if_neg (by decide)] at he; obtain ⟨rfl, rfl⟩ := he)
     simp only [Exit.jumps]
     go_ret3
     rw [hx]
     refine ⟨_, rfl, (hba.trans (hb1.mono (by omega))).alloc (by omega) _, errV_bad 21 (by decide) (by omega) (by simp) (by simp)⟩
   ·match st, hone with
    | [], hone => exact absurd (hone rfl).2 ho
    | f :: r, _ =>
    rw [rowC_cons, List.length_cons] at hrow
    obtain ⟨g, capv, rfl, hgB, hgl⟩ := hrow.form (by omega)
    have hys : (rowC r).length = r.length * 5 := rowC_len r
    have hr32 : r.length ≤ 31 := by simpa using hsl
    have hm5 : (rowC r).length + 5 = (r.length + 1) * 5 := by omega
    have hM : w'.cell? ⟨g, r.length * 5 + 4, none⟩ = some (.bool f.minus) := by rw [← hys]; exact last_cell hrow hm5 4 (by omega) rfl
    have hMf : w'.frozen? ⟨g, r.length * 5 + 4, none⟩ = false := hrow.frozenAt _
    have haddr : Hid (∀ f0 ∈ f :: r, f0.add = 1 ∨ f0.add = 2) := hadd
    have ho : isTk (tokAt l i') sOpen = false := by simpa using ho
    have hval2 := FM_true (f := f) (r := r) (n := 0) (Nat.le_of_lt hi') (l := l)
    rw [← hval, if_neg (by rw [ho]; decide)] at hval2
    have hnx : (tokAt l i').kind ≠ 0 → i' + 1 < l.length := G.last_kind h2 hi'
    generalize htt : tokAt l i' = t at *
    obtain ⟨tk, ts, tn, tc, tp⟩ := t
    unfold LTok.kind LTok.num at hval2
    unfold LTok.kind at hnx
    simp only at *
    have hGa : HdlAt Tryz.prog (w'.alloc (.cells #[.int .i64 tk, .string ts, .int .i64 tn, .int .i64 tc, .int .i64 tp] 102)) := G.hbel hG' ((Below.refl w'.heap.size w').alloc (Nat.le_refl _) _) (by omega)
    have hRa := hid (hrow.alloc (.cells #[.int .i64 tk, .string ts, .int .i64 tn, .int .i64 tc, .int .i64 tp] 102))
    have hsa : (w'.alloc (.cells #[.int .i64 tk, .string ts, .int .i64 tn, .int .i64 tc, .int .i64 tp] 102)).heap.size = w'.heap.size + 1 := by simp
    have hba : Below w.heap.size w (w'.alloc (.cells #[.int .i64 tk, .string ts, .int .i64 tn, .int .i64 tc, .int .i64 tp] 102)) := hbel.alloc hBw _
    clear hrow hval hadd
    have k1 : ((r.length + 1 : Nat) : Int) - 1 = (r.length : Int) := by omega
    have k2 : (r.length : Int) + 1 - 1 = (r.length : Int) := by omega
    have k3 : IntKind.i64.wrap (r.length : Int) = (r.length : Int) := wrap_id (by omega) (by omega)
    have k4 : (r.length : Int) < (r.length : Int) + 1 := by omega
    generalize hkr : r.length = k at *
    generalize hyr : rowC r = ys at *
    cases hmi : isTk ((tk, ts, tn, tc, tp) : LTok) sMinus with
    | true =>
      have hkz : ¬ tk = 2 := fun h => isTk_kind hmi h
      have htz : ¬ tk = 0 := fun h => G.tk_kind hmi h
      cases hfm : f.minus with
      | false =>
        rw [hfm] at hM
        have hx : x = FM l true ({ f with minus := true } :: r) 0 (i' + 1) := by rw [hval2, if_pos ⟨hmi, hfm⟩]
        clear hval2
        go_wp2_with (go_at_call 109; (with_reducible refine (G.is_run3 _ _ false ho _ hGa).mono ?_); rintro e w1 ⟨rfl, hb1⟩; obtain ⟨hc1, hf1⟩ := G.bcell hb1; have hz1 := hb1.size; have hG1 := G.hbel hGa hb1 (by omega); have hR1 := hid (row_below (unhid hRa) hb1 (Nat.le_refl _)); have hy1 : w'.heap.size < w1.heap.size := (by omega); have hx1 : g < w1.heap.size := (by omega))
        go_wp2_with (go_at_call 109; (with_reducible refine (G.is_run3 _ _ true hmi _ hG1).mono ?_); rintro e w2 ⟨rfl, hb2⟩; obtain ⟨hc2, hf2⟩ := G.bcell hb2; have hz2 := hb2.size; have hG2 := G.hbel hG1 hb2 (by omega); have hR2 := hid (row_below (unhid hR1) hb2 (Nat.le_refl _)); have hy2 : w'.heap.size < w2.heap.size := (by omega); have hx2 : g < w2.heap.size := (by omega))
        go_step3
        have e5 : (i' : Int) + 1 = ((i' + 1 : Nat) : Int) := by omega
        rw [e5]
        have hb5 : Below w.heap.size w w2 := (hba.trans (hb1.mono (by omega))).trans (hb2.mono (by omega))
        refine ⟨G.mkJ0 (i' + 1) ({ f with minus := true } :: r) _ _ rfl (by rfl) ⟨hnx htz, by rw [List.length_cons]; omega, fun f0 hf0 => ?_, hb5.setCell hgB _, ?_, hx, fun h => absurd h (by simp)⟩, ?_⟩
        ·rcases List.mem_cons.1 hf0 with rfl | hf0
         ·exact haddr f (by simp)
         ·exact haddr f0 (by simp [hf0])
        ·rw [rowC_cons, List.length_cons, hkr, hyr, ← hys]; exact last_set (unhid hR2) 4 _
        ·show l.length - (((i' + 1 : Nat) : Int)).toNat < m
         omega
      | true =>
        rw [hfm] at hM
        have hx : x = .bad 20 (tk, ts, tn, tc, tp) := by rw [hval2, if_neg (fun h => by rw [hfm] at h; exact absurd h.2 (by decide)), if_pos hkz]
        have hkb : (tk != 2) = true := by simpa using hkz
        clear hval2
        go_wp2_with (go_at_call 109; (with_reducible refine (G.is_run3 _ _ false ho _ hGa).mono ?_); rintro e w1 ⟨rfl, hb1⟩; obtain ⟨hc1, hf1⟩ := G.bcell hb1; have hz1 := hb1.size; have hG1 := G.hbel hGa hb1 (by omega); have hR1 := hid (row_below (unhid hRa) hb1 (Nat.le_refl _)); have hy1 : w'.heap.size < w1.heap.size := (by omega); have hx1 : g < w1.heap.size := (by omega))
        go_wp2_with (go_at_call 109; (with_reducible refine (G.is_run3 _ _ true hmi _ hG1).mono ?_); rintro e w2 ⟨rfl, hb2⟩; obtain ⟨hc2, hf2⟩ := G.bcell hb2; have hz2 := hb2.size; have hG2 := G.hbel hG1 hb2 (by omega); have hR2 := hid (row_below (unhid hR1) hb2 (Nat.le_refl _)); have hy2 : w'.heap.size < w2.heap.size := (by omega); have hx2 : g < w2.heap.size := (by omega))
        go_wp2_with (go_at_call 194; (with_reducible refine (G.wrong_run (tk, ts, tn, tc, tp) _).mono ?_); rintro e w3 ⟨b, rfl, hb3, hge, hx0, hx9⟩)
        simp only [Exit.jumps]
        go_ret3
        rw [hx]
        have hb5 : Below w.heap.size w w2 := (hba.trans (hb1.mono (by omega))).trans (hb2.mono (by omega))
        exact ⟨_, rfl, hb5.trans (hb3.mono (by omega)), errV_bad 20 (by decide) (by omega) hx0 hx9⟩
    | false =>
      have hval3 := hval2
      rw [if_neg (fun h => by rw [hmi] at h; exact absurd h.1 (by decide))] at hval3
      clear hval2
      by_cases hk2 : tk = 2
      ·subst hk2
       rw [if_neg (by decide)] at hval3
       by_cases hn0 : tn < 0
       ·have hnb : decide (tn < 0) = true := by simpa using hn0
        cases hfm : f.minus with
        | false =>
          rw [hfm] at hM
          have hx : x = .bad 2 (2, ts, tn, tc, tp) := by rw [hval3, if_pos ⟨hn0, hfm⟩]
          clear hval3
          go_wp2_with (go_at_call 109; (with_reducible refine (G.is_run3 _ _ false ho _ hGa).mono ?_); rintro e w1 ⟨rfl, hb1⟩; obtain ⟨hc1, hf1⟩ := G.bcell hb1; have hz1 := hb1.size; have hG1 := G.hbel hGa hb1 (by omega); have hR1 := hid (row_below (unhid hRa) hb1 (Nat.le_refl _)); have hy1 : w'.heap.size < w1.heap.size := (by omega); have hx1 : g < w1.heap.size := (by omega))
          go_wp2_with (go_at_call 109; (with_reducible refine (G.is_run3 _ _ false hmi _ hG1).mono ?_); rintro e w2 ⟨rfl, hb2⟩; obtain ⟨hc2, hf2⟩ := G.bcell hb2; have hz2 := hb2.size; have hG2 := G.hbel hG1 hb2 (by omega); have hR2 := hid (row_below (unhid hR1) hb2 (Nat.le_refl _)); have hy2 : w'.heap.size < w2.heap.size := (by omega); have hx2 : g < w2.heap.size := (by omega))
          go_wp2_with (go_at_call 37; (with_reducible refine (F.new_run _ _ _).mono ?_); rintro e w3 he; rw [if_neg (by decide)] at he; obtain ⟨rfl, rfl⟩ := he)
          simp only [Exit.jumps]
          go_ret3
          rw [hx]
          have hb5 : Below w.heap.size w w2 := (hba.trans (hb1.mono (by omega))).trans (hb2.mono (by omega))
          exact ⟨_, rfl, hb5.alloc (by omega) _, errV_bad 2 (by decide) (by omega) (by simp) (by simp)⟩
        | true =>
          rw [hfm] at hM
          have hx : x = FM l false (f :: r) tn (i' + 1) := by rw [hval3, if_neg (fun h => by rw [hfm] at h; exact absurd h.2 (by decide))]
          clear hval3
          go_wp2_with (go_at_call 109; (with_reducible refine (G.is_run3 _ _ false ho _ hGa).mono ?_); rintro e w1 ⟨rfl, hb1⟩; obtain ⟨hc1, hf1⟩ := G.bcell hb1; have hz1 := hb1.size; have hG1 := G.hbel hGa hb1 (by omega); have hR1 := hid (row_below (unhid hRa) hb1 (Nat.le_refl _)); have hy1 : w'.heap.size < w1.heap.size := (by omega); have hx1 : g < w1.heap.size := (by omega))
          go_wp2_with (go_at_call 109; (with_reducible refine (G.is_run3 _ _ false hmi _ hG1).mono ?_); rintro e w2 ⟨rfl, hb2⟩; obtain ⟨hc2, hf2⟩ := G.bcell hb2; have hz2 := hb2.size; have hG2 := G.hbel hG1 hb2 (by omega); have hR2 := hid (row_below (unhid hR1) hb2 (Nat.le_refl _)); have hy2 : w'.heap.size < w2.heap.size := (by omega); have hx2 : g < w2.heap.size := (by omega))
          go_step3
          rename_i QL KL hKL
          have hb5 : Below w.heap.size w w2 := (hba.trans (hb1.mono (by omega))).trans (hb2.mono (by omega))
          have e5 : (i' : Int) + 1 = ((i' + 1 : Nat) : Int) := by omega
          rw [e5]
          refine hKL _ _ (hbeh _ _ _ (G.mkJ1 (i' + 1) (f :: r) _ _ _ rfl (by rfl) ⟨hnx (by decide), by rw [List.length_cons]; omega, fun f0 hf0 => haddr f0 hf0, hb5, ?_, hx, fun h => absurd h (by simp)⟩) ?_)
          ·rw [rowC_cons, List.length_cons, hkr, hyr]; exact unhid hR2
          ·show l.length - (((i' + 1 : Nat) : Int)).toNat ≤ m
           omega
       ·have hnb : decide (tn < 0) = false := by simpa using hn0
        have hx : x = FM l false (f :: r) tn (i' + 1) := by rw [hval3, if_neg (fun h => hn0 h.1)]
        clear hval3
        go_wp2_with (go_at_call 109; (with_reducible refine (G.is_run3 _ _ false ho _ hGa).mono ?_); rintro e w1 ⟨rfl, hb1⟩; obtain ⟨hc1, hf1⟩ := G.bcell hb1; have hz1 := hb1.size; have hG1 := G.hbel hGa hb1 (by omega); have hR1 := hid (row_below (unhid hRa) hb1 (Nat.le_refl _)); have hy1 : w'.heap.size < w1.heap.size := (by omega); have hx1 : g < w1.heap.size := (by omega))
        go_wp2_with (go_at_call 109; (with_reducible refine (G.is_run3 _ _ false hmi _ hG1).mono ?_); rintro e w2 ⟨rfl, hb2⟩; obtain ⟨hc2, hf2⟩ := G.bcell hb2; have hz2 := hb2.size; have hG2 := G.hbel hG1 hb2 (by omega); have hR2 := hid (row_below (unhid hR1) hb2 (Nat.le_refl _)); have hy2 : w'.heap.size < w2.heap.size := (by omega); have hx2 : g < w2.heap.size := (by omega))
        go_step3
        rename_i QL KL hKL
        have hb5 : Below w.heap.size w w2 := (hba.trans (hb1.mono (by omega))).trans (hb2.mono (by omega))
        have e5 : (i' : Int) + 1 = ((i' + 1 : Nat) : Int) := by omega
        rw [e5]
        refine hKL _ _ (hbeh _ _ _ (G.mkJ1 (i' + 1) (f :: r) _ _ _ rfl (by rfl) ⟨hnx (by decide), by rw [List.length_cons]; omega, fun f0 hf0 => haddr f0 hf0, hb5, ?_, hx, fun h => absurd h (by simp)⟩) ?_)
        ·rw [rowC_cons, List.length_cons, hkr, hyr]; exact unhid hR2
        ·show l.length - (((i' + 1 : Nat) : Int)).toNat ≤ m
         omega
      ·rw [if_pos hk2] at hval3
       have hkb : (tk != 2) = true := by simpa using hk2
       have hx := hval3
       go_wp2_with (go_at_call 109; (with_reducible refine (G.is_run3 _ _ false ho _ hGa).mono ?_); rintro e w1 ⟨rfl, hb1⟩; obtain ⟨hc1, hf1⟩ := G.bcell hb1; have hz1 := hb1.size; have hG1 := G.hbel hGa hb1 (by omega); have hR1 := hid (row_below (unhid hRa) hb1 (Nat.le_refl _)); have hy1 : w'.heap.size < w1.heap.size := (by omega); have hx1 : g < w1.heap.size := (by omega))
       go_wp2_with (go_at_call 109; (with_reducible refine (G.is_run3 _ _ false hmi _ hG1).mono ?_); rintro e w2 ⟨rfl, hb2⟩; obtain ⟨hc2, hf2⟩ := G.bcell hb2; have hz2 := hb2.size; have hG2 := G.hbel hG1 hb2 (by omega); have hR2 := hid (row_below (unhid hR1) hb2 (Nat.le_refl _)); have hy2 : w'.heap.size < w2.heap.size := (by omega); have hx2 : g < w2.heap.size := (by omega))
       go_wp2_with (go_at_call 194; (with_reducible refine (G.wrong_run (tk, ts, tn, tc, tp) _).mono ?_); rintro e w3 ⟨b, rfl, hb3, hge, hx0, hx9⟩)
       simp only [Exit.jumps]
       go_ret3
       rw [hx]
       have hb5 : Below w.heap.size w w2 := (hba.trans (hb1.mono (by omega))).trans (hb2.mono (by omega))
       exact ⟨_, rfl, hb5.trans (hb3.mono (by omega)), errV_bad 20 (by decide) (by omega) hx0 hx9⟩
  ·go_wp2_with (go_at_call 109; (with_reducible refine (G.is_run3 _ _ true h3 _ hG).mono ?_); rintro e w1 ⟨rfl, hb1⟩; obtain ⟨hc, hf⟩ := G.bcell hb1; have hG1 := G.hbel hG hb1 hw; have hz1 := hb1.size; have hA1 := hA.below hb1 (Nat.le_refl _))
   go_step3
   rename_i QL KL hKL
   refine hKL _ _ (hop _ _ (G.mkJ0 i [] _ _ rfl (by rfl) ⟨hi, by simp, fun f hf => absurd hf (by simp), hb1, World.ownsRow_nil _ _ _ _, hx.symm, fun _ => ⟨rfl, h3⟩⟩) ?_)
   show l.length - _ ≤ _
   omega
end Go.Proofs.Yf
namespace Go.Aw
open Go Go.RowKit Go.Proofs
variable {P : Program} {tf tw : TypeId}
abbrev tokTy : Ty := .pair (.int .i64) (.pair .str (.pair (.int .i64) (.pair (.int .i64) (.int .i64))))
theorem tokC_rep {w : World} {fr : Addr → Prop} {x : LTok} {us : List Value} (h : RepT w fr tokTy x us) : us = tokC x := by
 obtain ⟨_, _, rfl, rfl, _, _, rfl, rfl, _, _, rfl, rfl, _, _, rfl, rfl, rfl⟩ := h
 rfl
def resF (x : FRes) : D := .tup [.v (.int .i64 x.n), .v (.int .i64 x.at_), .er (newE x.code x.pos)]
def foldEnt : Entry := fun args blks k _ => match args with
 | [d0, d1] => aFz tokTy d0 fun l => aInt .i64 d1 fun a => List.length (α := LTok) l ≤ 1000000000 ∧ k (resF (foldV l a)) blks
 | _ => False
theorem fold_ok {f : FuncId} {fn : Func} (hf : P.funcs[f]? = some fn) (hn : (fn.name == "runtime.NumGoroutine") = false) (hb : fn.body.isNone = false) (hg : ∀ g v, hdlOf P = some (g, v) → g < 1)
 (run : ∀ (l : List LTok) (A : Option Addr) (cap : Nat) (at_ : Int) (w : World) (hl : l.length ≤ 1000000000) (hA : LAt w w.heap.size A l) (hG : HdlAt P w) (hw : 0 < w.heap.size),
   Calls P f #[.slice A l.length cap, .int .i64 at_] w fun e w' => ∃ v, e = .returned (.tuple #[.int .i64 (foldV l at_).n, .int .i64 (foldV l at_).at_, v]) ∧ Below w.heap.size w w' ∧ ErrV tf w.heap.size w' (foldV l at_).code (foldV l at_).pos v)
 (run0 : ∀ (l : List LTok) (A : Option Addr) (cap : Nat) (at_ : Int) (w : World) (hw : w.heap.size = 0) (hl : l = []),
   Calls P f #[.slice A l.length cap, .int .i64 at_] w fun e w' => ∃ v, e = .returned (.tuple #[.int .i64 (foldV l at_).n, .int .i64 (foldV l at_).at_, v]) ∧ Below w.heap.size w w' ∧ ErrV tf w.heap.size w' (foldV l at_).code (foldV l at_).pos v) :
 EntOk P tf tw f foldEnt := by
 have elim : ∀ {args blks k kp}, foldEnt args blks k kp → ∃ (l : List LTok) (a : Int), args = [.fz tokTy l, .v (.int .i64 a)] ∧ l.length ≤ 1000000000 ∧ k (resF (foldV l a)) blks := by
  intro args blks k kp h
  unfold foldEnt at h
  split at h
  ·have h9 := aFz_elim h; clear h; obtain ⟨l, rfl, h⟩ := h9
   have h9 := aInt_elim h; clear h; obtain ⟨a, rfl, h⟩ := h9
   exact ⟨l, a, rfl, h.1, h.2⟩
  ·exact h.elim
 refine EntOk.made ?_ ⟨fn, hf, hn, hb⟩ ?_
 ·intro args blks k kp h
  have h9 := elim h; clear h; obtain ⟨l, a, rfl, hl, h⟩ := h9
  refine .inl ⟨_, _, h, fun k' kp' h' => ?_⟩
  unfold foldEnt aFz aInt
  exact ⟨hl, h'⟩
 ·intro c args us k kp hT hr H h
  have h9 := elim h; clear h; obtain ⟨l, a, rfl, hl, h⟩ := h9
  simp only [RepL] at hr
  obtain ⟨u0, _, rfl, r0, u1, _, rfl, r1, rfl⟩ := hr
  simp only [Rep] at r0 r1
  subst r1
  obtain ⟨A, cap, hu, hc, hel⟩ := r0
  cases hu
  have hG : HdlAt P c.w := fun g v hg' => by
   have := (hT.2 g v hg') 0 v rfl
   rw [add_zero] at this
   exact this.2
  have hA : LAt c.w c.w.heap.size A l := fun hne => by
   obtain ⟨a, rfl, hel2⟩ := hel hne
   clear hel
   obtain ⟨s0, hs0⟩ : ∃ s0, l[0]? = some s0 := by
    cases l with
    | nil => exact absurd rfl hne
    | cons x r => exact ⟨x, rfl⟩
   obtain ⟨us0, hrep0, hat0⟩ := hel2 0 s0 hs0
   have e0 := tokC_rep hrep0
   subst e0
   have h0 := hat0 0 _ rfl
   rw [add_zero, show (0 : Nat) * tokTy.size = 0 from Nat.zero_mul _, add_zero] at h0
   obtain ⟨e, _⟩ := spot_none h0.2
   have hlt := H.frin _ h0.1
   rw [e] at hel2 ⊢
   refine ⟨_, _, rfl, by rw [e] at hlt; exact hlt, fun i s hs j u hu => ?_⟩
   obtain ⟨us, hrep, hat⟩ := hel2 i s hs
   have e1 := tokC_rep hrep
   subst e1
   have := (hat j u hu).2
   rw [add_add, add_flat] at this
   exact this
  have hrun : Calls P f #[.slice A l.length cap, .int .i64 a] c.w fun e w' => ∃ v, e = .returned (.tuple #[.int .i64 (foldV l a).n, .int .i64 (foldV l a).at_, v]) ∧ Below c.w.heap.size c.w w' ∧ ErrV tf c.w.heap.size w' (foldV l a).code (foldV l a).pos v := by
   rcases Nat.eq_zero_or_pos c.w.heap.size with h0 | h0
   ·refine run0 l A cap a c.w h0 ?_
    cases l with
    | nil => rfl
    | cons x r =>
      obtain ⟨pb, _, _, hp, _⟩ := hA (by simp)
      omega
   ·exact run l A cap a c.w hl hA hG h0
  refine ⟨_, h, hrun.mono ?_⟩
  rintro ex w' ⟨v, rfl, hbl, hE⟩
  refine ⟨_, rfl, hbl, ?_⟩
  unfold resF
  simp only [Rep]
  refine ⟨_, rfl, ?_⟩
  simp only [RepL, Rep]
  refine ⟨_, _, rfl, rfl, _, _, rfl, rfl, v, _, rfl, ?_, rfl⟩
  unfold ErrV at hE
  split at hE
  ·rename_i h0
   unfold newE
   rw [if_pos h0]
   simp only [RepE]
   exact hE
  ·rename_i h0
   obtain ⟨b, rfl, hb, h0', h1'⟩ := hE
   unfold newE
   rw [if_neg h0]
   simp only [RepE]
   rw [hT.1.1]
   refine ⟨_, rfl, ?_⟩
   have hlt : b < w'.heap.size := World.block_lt_of_cell? _ _ h0'
   intro j u hj
   rw [add_plain]
   match j, hj with
   | 0, hj => cases hj; exact ⟨.inr ⟨hb, hlt⟩, h0'⟩
   | 1, hj => cases hj; exact ⟨.inr ⟨hb, hlt⟩, h1'⟩
end Go.Aw
namespace Go.Proofs.Yf
open Go Go.Aw Go.Proofs Go.RowKit Go.Extern
set_option maxHeartbeats 4000000 in
theorem G.value_nil (l : List LTok) (A : Option Addr) (cap : Nat) (at_ : Int) (w : World) (hw : w.heap.size = 0) (hl : l = []) :
 Calls Tryz.prog 185 #[.slice A l.length cap, .int .i64 at_] w (G.Post w (foldV l at_)) := by
 subst hl
 clear hw
 have e : foldV [] at_ = ⟨0, 0, 1, 0⟩ := by
  unfold foldV
  rw [if_pos]
  rcases Int.lt_or_le at_ 0 with h | h
  ·exact .inl h
  ·exact .inr (.inl h)
 rw [e]
 by_cases h0 : at_ < 0
 ·have h02 : decide (at_ < 0) = true := by simpa using h0
  go_enter Tryz.func185, Tryz.ntmps185
  go_wp2
  go_step3
  go_wp2_with (go_at_call 37; (with_reducible refine (F.new_run _ _ _).mono ?_); rintro e w2 he; rw [if_neg (by decide)] at he; obtain ⟨rfl, rfl⟩ := he)
  rw [Exit.noGoto_ret]
  go_ret3
  exact ⟨_, rfl, (Below.refl _ w).alloc (Nat.le_refl _) _, errV_flt (by decide) (by simp) (by simp) (by simp)⟩
 ·have h02 : decide (at_ < 0) = false := by simpa using h0
  have h12 : decide (at_ ≥ (0 : Int)) = true := by simp; omega
  go_enter Tryz.func185, Tryz.ntmps185
  go_wp2
  go_step3
  go_wp2_with (go_at_call 37; (with_reducible refine (F.new_run _ _ _).mono ?_); rintro e w2 he; rw [if_neg (by decide)] at he; obtain ⟨rfl, rfl⟩ := he)
  rw [Exit.noGoto_ret]
  go_ret3
  exact ⟨_, rfl, (Below.refl _ w).alloc (Nat.le_refl _) _, errV_flt (by decide) (by simp) (by simp) (by simp)⟩
namespace N185
noncomputable def ent : Entry := foldEnt
theorem ok : EntOk Tryz.prog 112 157 185 ent := fold_ok Tryz.func185 (by kernel_rfl) (by kernel_rfl) G.hG G.value_run G.value_nil
end N185
end Go.Proofs.Yf
namespace Go.Proofs.Yf
open Go Go.Aw Go.Proofs
namespace N174
noncomputable def cfg : Cfg := { cb with E := tab [(185, N185.ent)], atSeq := tab [(4, ks [0, 3, 4])] }
noncomputable def body : Code := bodyOf Tryz.f174
def j4 (x3 x4 : Int) (aa : Zq0) (ab : Int) (k : Int → Zq0 → Int → Prop) (kp : Err → Prop) : Prop :=
 (k x3 aa x4)
def c (j4 : Int → Int → Zq0 → Int → Prop) (aa : Zq0) (ab : Int) (k : Int → Zq0 → Int → Prop) (kp : Err → Prop) : Prop :=
 ((List.length aa ≤ 1000000000) ∧ (br (!((newE (foldV aa ab).code (foldV aa ab).pos)).isNil) (kp (Err.wrg 180 (newE (foldV aa ab).code (foldV aa ab).pos))) (j4 (foldV aa ab).n (foldV aa ab).at_ aa ab)))
def j4' x3 x4 aa ab k kp := j4 x3 x4 aa ab k kp
def f0 aa ab k kp := c (fun x3 x4 aa ab => j4' x3 x4 aa ab k kp) aa ab k kp
noncomputable def f := sld f0
theorem f_def : f = f0 := sld_eq f0
def m4 (x3 x4 : Int) (aa : Zq0) (ab : Int) : St := { tmps := mkT 29 0 [(0, (.ptr 0 0)), (3, (.v (.int .i64 x3))), (4, (.v (.int .i64 x4)))], hp := [(.box 124 [(.fz Zy1 aa), (.v (.int .i64 ab))])], m := 1 }
def M4 (g : St → Prop) x3 x4 aa ab := g (m4 x3 x4 aa ab)
def K0 (k : KT) (y0 : Int) (ac : Zq0) (ad : Int) : Prop := k (.v (.int .i64 y0)) [(.box 124 [(.fz Zy1 ac), (.v (.int .i64 ad))])]
def KE (kp : KT) (e : Err) : Prop := kp (.er e) (List.replicate 1 .dead)
noncomputable def T (k kp : KT) := topK cfg Tryz.f174 k kp
noncomputable def X4 (k kp : KT) : St → Prop := atP cfg (pick none' []) [1, 1, 1] body (T k kp)
noncomputable def JJ (k kp : KT) : Nat → St → Prop := pick none' [(4, X4 k kp)]
noncomputable def LL (k kp : KT) : Nat → St → Prop := pick none' []
theorem j4_eq (k kp) : M4 (X4 k kp) = fun x3 x4 aa ab => j4' x3 x4 aa ab (K0 k) (KE kp) := by
 funext x3 x4 aa ab
 exact raw_eq (own:=4) rfl (JJ k kp) (LL k kp) (fun J L => j4 x3 x4 aa ab (K0 k) (KE kp)) (by kernel_rfl) (fun _ _ => by kernel_rfl) rfl
def pa (aa : Zq0) (ab : Int) : List D := [(.ptr 0 0)]
def pb (aa : Zq0) (ab : Int) : List Blk := [(.box 124 [(.fz Zy1 aa), (.v (.int .i64 ab))])]
theorem body_is : Tryz.f174.body = some body := by kernel_rfl
theorem f_eq (k kp aa ab) : funW cfg Tryz.f174 (pa aa ab) (pb aa ab) k kp = f aa ab (K0 k) (KE kp) :=
 raw_fun (own := 1000001) none'' (JJ k kp) (LL k kp) (fun J L => c (M4 (J 4)) aa ab (K0 k) (KE kp)) body_is (by kernel_rfl) (fun J L => by kernel_rfl) (by rw [f_def]; erw [j4_eq k kp] <;> rfl)
noncomputable def ent0 : Entry := fun args blks k kp => match args, blks with
 | [d0], [e0] => aPtr 0 0 d0 (aBox 124 e0 fun l => aCons l fun ae l => aCons l fun af l => aNil l (aFz Zy1 ae fun aa => aInt IntKind.i64 af fun ab => f aa ab (K0 k) (KE kp)))
 | _, _ => False
noncomputable def ent : Entry := cvE [.no] ent0
theorem ok : EntOk Tryz.prog 112 157 174 ent := by
 refine fnOk (cfg := cfg) rfl rfl rfl rfl (by kernel_rfl) ?_ Tryz.func174 (by rfl) (by rfl) ?_
 ·exact tab_c N185.ok <| tab_n
 ·intro args blks k kp h k' kp'
  match args, blks, h with
  | [d0], [e0], h =>
  dsimp only [ent0] at h
  repeat ((first|have q := aPtr_elim h|have q := aBox_elim h|have q := aCons_elim h|have q := aNil_elim h|have q := aFz_elim h|have q := aInt_elim h); clear h; first|obtain ⟨rfl, h⟩ := q|obtain ⟨_, rfl, h⟩ := q|obtain ⟨_, _, rfl, h⟩ := q)
  exact (f_eq ..).symm
end N174
namespace N163
noncomputable def cfg : Cfg := { cb with E := tab [(143, N143.ent), (173, N173.ent), (95, N95.ent), (96, N96.ent), (94, N94.ent), (174, N174.ent)], atSeq := tab [(2000008, ks [0, 2, 21]), (11, ks [0, 2])], lt := [28, 29, 30, 31, 32, 33, 34, 36, 37], ms := [(29, 4), (31, 4), (33, 4)] }
noncomputable def body : Code := bodyOf Tryz.f163
def j2000008 (j11 : Zq0 → Int → Int → Int → Int → Int → Prop) (ak : Bool) (aa : Zq0) (ab ac : Int) (ad ae af : Int) (k : Int → Int → Int → Int → Zq0 → Int → Prop) (kp : Err → Prop) : Prop :=
 (br ak (N173.f aa ab (fun an ao ap aq ar => (N95.f (ByteArray.mk #[58]) aq ar (fun au av => (N96.f (4 : Int) au av (fun a2 a3 aw a4 a5 ax ay => (k an ao ap aw ax ay)) kp)) kp)) kp) (j11 aa ab ac ad ae af))
def j11 (aa : Zq0) (ab ac : Int) (ad ae af : Int) (k : Int → Int → Int → Int → Zq0 → Int → Prop) (kp : Err → Prop) : Prop :=
 (N94.f (ByteArray.mk #[95]) aa ab (fun a6 al am => (br a6 (k (0 : Int) (0 : Int) (0 : Int) (0 : Int) al am) (N174.f al am (fun a7 az a0 => (k (4 : Int) (0 : Int) a7 (0 : Int) az a0)) kp))))
def c (j2000008 : Bool → Zq0 → Int → Int → Int → Int → Int → Prop) (aa : Zq0) (ab : Int) (k : Int → Int → Int → Int → Zq0 → Int → Prop) (kp : Err → Prop) : Prop :=
 (N143.f aa ab (fun ah a8 a1 a9 ba ai aj => (br (ah == (4 : Int)) (k (1 : Int) (0 : Int) a1 (0 : Int) ai (IntKind.i64.wrap (aj + (1 : Int)))) (br (ah == (5 : Int)) (j2000008 (ah == (5 : Int)) ai aj (0 : Int) (0 : Int) (0 : Int) (0 : Int)) (j2000008 (ah == (6 : Int)) ai aj (0 : Int) (0 : Int) (0 : Int) (0 : Int))))))
def j11' aa ab ac ad ae af k kp := j11 aa ab ac ad ae af k kp
def j2000008' ak aa ab ac ad ae af k kp := j2000008 (fun aa ab ac ad ae af => j11' aa ab ac ad ae af k kp) ak aa ab ac ad ae af k kp
def f0 aa ab k kp := c (fun ak aa ab ac ad ae af => j2000008' ak aa ab ac ad ae af k kp) aa ab k kp
noncomputable def f := sld f0
theorem f_def : f = f0 := sld_eq f0
def m2000008 (ak : Bool) (aa : Zq0) (ab ac : Int) (ad ae af : Int) : St := { tmps := mkT 44 0 [(0, (.ptr 0 0)), (2, (.ptr 1 0)), (21, (.v (.bool ak)))], hp := [(.box 124 [(.fz Zy1 aa), (.v (.int .i64 ab))]), (.box 82 [(.v (.int .i64 ac)), (.v (.int .i64 ad)), (.v (.int .i64 ae)), (.v (.int .i64 af))])], m := 1 }
def M2000008 (g : St → Prop) ak aa ab ac ad ae af := g (m2000008 ak aa ab ac ad ae af)
def m11 (aa : Zq0) (ab ac : Int) (ad ae af : Int) : St := { tmps := mkT 44 0 [(0, (.ptr 0 0)), (2, (.ptr 1 0))], hp := [(.box 124 [(.fz Zy1 aa), (.v (.int .i64 ab))]), (.box 82 [(.v (.int .i64 ac)), (.v (.int .i64 ad)), (.v (.int .i64 ae)), (.v (.int .i64 af))])], m := 1 }
def M11 (g : St → Prop) aa ab ac ad ae af := g (m11 aa ab ac ad ae af)
def K0 (k : KT) (bb bc : Int) (bd bf : Int) (bg : Zq0) (bh : Int) : Prop := k (.agg [(.v (.int .i64 bb)), (.v (.int .i64 bc)), (.v (.int .i64 bd)), (.v (.int .i64 bf))]) [(.box 124 [(.fz Zy1 bg), (.v (.int .i64 bh))])]
def KE (kp : KT) (e : Err) : Prop := kp (.er e) (List.replicate 1 .dead)
noncomputable def T (k kp : KT) := topK cfg Tryz.f163 k kp
noncomputable def X2000008 (k kp : KT) : St → Prop := atP cfg (pick none' []) [1, 0, 1, 1, 0, 1, 1, 1] body (T k kp)
noncomputable def X11 (k kp : KT) : St → Prop := atP cfg (pick none' []) [1, 1] body (T k kp)
noncomputable def JJ (k kp : KT) : Nat → St → Prop := pick none' [(2000008, X2000008 k kp), (11, X11 k kp)]
noncomputable def LL (k kp : KT) : Nat → St → Prop := pick none' []
theorem j11_eq (k kp) : M11 (X11 k kp) = fun aa ab ac ad ae af => j11' aa ab ac ad ae af (K0 k) (KE kp) := by
 funext aa ab ac ad ae af
 exact raw_eq (own:=11) rfl (JJ k kp) (LL k kp) (fun J L => j11 aa ab ac ad ae af (K0 k) (KE kp)) (by kernel_rfl) (fun _ _ => by kernel_rfl) rfl
theorem j2000008_eq (k kp) : M2000008 (X2000008 k kp) = fun ak aa ab ac ad ae af => j2000008' ak aa ab ac ad ae af (K0 k) (KE kp) := by
 funext ak aa ab ac ad ae af
 exact raw_eq (own:=2000008) rfl (JJ k kp) (LL k kp) (fun J L => j2000008 (M11 (J 11)) ak aa ab ac ad ae af (K0 k) (KE kp)) (by kernel_rfl) (fun _ _ => by kernel_rfl) (by erw [j11_eq k kp] <;> rfl)
def pa (aa : Zq0) (ab : Int) : List D := [(.ptr 0 0)]
def pb (aa : Zq0) (ab : Int) : List Blk := [(.box 124 [(.fz Zy1 aa), (.v (.int .i64 ab))])]
theorem body_is : Tryz.f163.body = some body := by kernel_rfl
theorem f_eq (k kp aa ab) : funW cfg Tryz.f163 (pa aa ab) (pb aa ab) k kp = f aa ab (K0 k) (KE kp) :=
 raw_fun (own := 1000001) none'' (JJ k kp) (LL k kp) (fun J L => c (M2000008 (J 2000008)) aa ab (K0 k) (KE kp)) body_is (by kernel_rfl) (fun J L => by kernel_rfl) (by rw [f_def]; erw [j2000008_eq k kp] <;> rfl)
noncomputable def ent0 : Entry := fun args blks k kp => match args, blks with
 | [d0], [e0] => aPtr 0 0 d0 (aBox 124 e0 fun l => aCons l fun bi l => aCons l fun bj l => aNil l (aFz Zy1 bi fun aa => aInt IntKind.i64 bj fun ab => f aa ab (K0 k) (KE kp)))
 | _, _ => False
noncomputable def ent : Entry := cvE [.no] ent0
theorem ok : EntOk Tryz.prog 112 157 163 ent := by
 refine fnOk (cfg := cfg) rfl rfl rfl rfl (by kernel_rfl) ?_ Tryz.func163 (by rfl) (by rfl) ?_
 ·exact tab_c N143.ok <| tab_c N173.ok <| tab_c N95.ok <| tab_c N96.ok <| tab_c N94.ok <| tab_c N174.ok <| tab_n
 ·intro args blks k kp h k' kp'
  match args, blks, h with
  | [d0], [e0], h =>
  dsimp only [ent0] at h
  repeat ((first|have q := aPtr_elim h|have q := aBox_elim h|have q := aCons_elim h|have q := aNil_elim h|have q := aFz_elim h|have q := aInt_elim h); clear h; first|obtain ⟨rfl, h⟩ := q|obtain ⟨_, rfl, h⟩ := q|obtain ⟨_, _, rfl, h⟩ := q)
  exact (f_eq ..).symm
end N163
namespace N144
noncomputable def cfg : Cfg := { cb with E := tab [(163, N163.ent), (94, N94.ent)], atSeq := tab [(4, ks [3])], atLoop := tab [(2, ks [0, 3])] }
noncomputable def body : Code := bodyOf Tryz.f144
def l2 (j4 : Zq0 → Int → Zq2 → Prop) (ag2 : Zq0 → Int → Zq2 → Prop) (aa : Zq0) (ab : Int) (b1 : Zq2) (k : Zq0 → Int → Zq2 → Prop) (kp : Err → Prop) : Prop :=
 (N94.f (ByteArray.mk #[44]) aa ab (fun ar ac ad => (br ar (N163.f ac ad (fun ae af ah ai aj ak => ((room ((b1).length + (([(ae, (af, (ah, ai)))] : List (Int × (Int × (Int × Int))))).length) 32) ∧ (ag2 aj ak (b1 ++ ([(ae, (af, (ah, ai)))] : List (Int × (Int × (Int × Int)))))))) kp) (j4 ac ad b1))))
def j4 (aa : Zq0) (ab : Int) (b1 : Zq2) (k : Zq0 → Int → Zq2 → Prop) (kp : Err → Prop) : Prop :=
 (k aa ab b1)
def c (l2 : Zq0 → Int → Zq2 → Prop) (aa : Zq0) (ab : Int) (k : Zq0 → Int → Zq2 → Prop) (kp : Err → Prop) : Prop :=
 (N163.f aa ab (fun al am an ao ap aq => (l2 ap aq ([(al, (am, (an, ao)))] : List (Int × (Int × (Int × Int)))))) kp)
def j4' aa ab b1 k kp := j4 aa ab b1 k kp
def l2' (aa : Zq0) (ab : Int) (b1 : Zq2) (k : Zq0 → Int → Zq2 → Prop) (kp : Err → Prop) : Prop := ∃ n, loopS (fun ag (s : Zq0 × Int × Zq2) => l2 (fun aa ab b1 => j4' aa ab b1 k kp) (fun aa ab b1 => ag (aa, ab, b1)) s.1 s.2.1 s.2.2 k kp) n (aa, ab, b1)
def f0 aa ab k kp := c (fun aa ab b1 => l2' aa ab b1 k kp) aa ab k kp
noncomputable def f := sld f0
theorem f_def : f = f0 := sld_eq f0
def mL2 (aa : Zq0) (ab : Int) (b1 : Zq2) : St := { tmps := mkT 15 0 [(0, (.ptr 0 0)), (3, (.sl 1 0))], hp := [(.box 124 [(.fz Zy1 aa), (.v (.int .i64 ab))]), (.lst 82 (Ty.pair Zy3 Zy0) b1 0 false)], m := 1 }
def ML2 (g : St → Prop) aa ab b1 := g (mL2 aa ab b1)
def m4 (aa : Zq0) (ab : Int) (b1 : Zq2) : St := { tmps := mkT 15 0 [(3, (.sl 1 0))], hp := [(.box 124 [(.fz Zy1 aa), (.v (.int .i64 ab))]), (.lst 82 (Ty.pair Zy3 Zy0) b1 0 false)], m := 1 }
def M4 (g : St → Prop) aa ab b1 := g (m4 aa ab b1)
def K0 (k : KT) (au : Zq0) (av : Int) (z1 : Zq2) : Prop := k (.sl 1 0) [(.box 124 [(.fz Zy1 au), (.v (.int .i64 av))]), (.lst 82 (Ty.pair Zy3 Zy0) z1 0 false)]
def KE (kp : KT) (e : Err) : Prop := kp (.er e) (List.replicate 1 .dead)
noncomputable def T (k kp : KT) := topK cfg Tryz.f144 k kp
noncomputable def YL2 (k kp : KT) : (St → Prop) → St → Prop := loopB cfg (sub [1, 1, 0, 0, 0] body) (contK cfg (pick none' []) [1, 1, 0, 0] body (T k kp))
noncomputable def XL2 (k kp : KT) : St → Prop := fun st => ∃ n, loopN (YL2 k kp) n st
noncomputable def X4 (k kp : KT) : St → Prop := atP cfg (pick none' []) [1, 1, 1] body (T k kp)
noncomputable def JJ_2 (k kp : KT) (ag2 : St → Prop) : Nat → St → Prop := pick none' [(4, X4 k kp)]
noncomputable def LL_2 (k kp : KT) (ag2 : St → Prop) : Nat → St → Prop := pick none' [(2, XL2 k kp)]
noncomputable def JJ (k kp : KT) : Nat → St → Prop := pick none' [(4, X4 k kp)]
noncomputable def LL (k kp : KT) : Nat → St → Prop := pick none' [(2, XL2 k kp)]
theorem j4_eq (k kp) : M4 (X4 k kp) = fun aa ab b1 => j4' aa ab b1 (K0 k) (KE kp) := by
 funext aa ab b1
 exact raw_eq (own:=4) rfl (JJ k kp) (LL k kp) (fun J L => j4 aa ab b1 (K0 k) (KE kp)) (by kernel_rfl) (fun _ _ => by kernel_rfl) rfl
theorem l2_eq (k kp) : ML2 (XL2 k kp) = fun aa ab b1 => l2' aa ab b1 (K0 k) (KE kp) := by
 funext aa ab b1
 exact loop_eq (mk := fun (s : Zq0 × Int × Zq2) => match s with | (aa, ab, b1) => mL2 aa ab b1) (fun ag2 s => match s with | (aa, ab, b1) => raw_eq (own:=1000001) (cfg := cfg) (AG := (pick none' [(2, ag2)])) (p := [1, 1, 0, 0, 0]) (c := body) (K := (T k kp)) (st := mL2 aa ab b1) (by kernel_rfl) (JJ_2 k kp ag2) (LL_2 k kp ag2) (fun J L => l2 (M4 (J 4)) (fun aa ab b1 => ag2 (mL2 aa ab b1)) aa ab b1 (K0 k) (KE kp)) (by kernel_rfl) (fun _ _ => by kernel_rfl) (by erw [j4_eq k kp] <;> rfl)) (aa, ab, b1)
def pa (aa : Zq0) (ab : Int) : List D := [(.ptr 0 0)]
def pb (aa : Zq0) (ab : Int) : List Blk := [(.box 124 [(.fz Zy1 aa), (.v (.int .i64 ab))])]
theorem body_is : Tryz.f144.body = some body := by kernel_rfl
theorem f_eq (k kp aa ab) : funW cfg Tryz.f144 (pa aa ab) (pb aa ab) k kp = f aa ab (K0 k) (KE kp) :=
 raw_fun (own := 1000001) none'' (JJ k kp) (LL k kp) (fun J L => c (ML2 (L 2)) aa ab (K0 k) (KE kp)) body_is (by kernel_rfl) (fun J L => by kernel_rfl) (by rw [f_def]; erw [l2_eq k kp] <;> rfl)
noncomputable def ent0 : Entry := fun args blks k kp => match args, blks with
 | [d0], [e0] => aPtr 0 0 d0 (aBox 124 e0 fun l => aCons l fun aw l => aCons l fun ax l => aNil l (aFz Zy1 aw fun aa => aInt IntKind.i64 ax fun ab => f aa ab (K0 k) (KE kp)))
 | _, _ => False
noncomputable def ent : Entry := cvE [.no] ent0
theorem ok : EntOk Tryz.prog 112 157 144 ent := by
 refine fnOk (cfg := cfg) rfl rfl rfl rfl (by kernel_rfl) ?_ Tryz.func144 (by rfl) (by rfl) ?_
 ·exact tab_c N163.ok <| tab_c N94.ok <| tab_n
 ·intro args blks k kp h k' kp'
  match args, blks, h with
  | [d0], [e0], h =>
  dsimp only [ent0] at h
  repeat ((first|have q := aPtr_elim h|have q := aBox_elim h|have q := aCons_elim h|have q := aNil_elim h|have q := aFz_elim h|have q := aInt_elim h); clear h; first|obtain ⟨rfl, h⟩ := q|obtain ⟨_, rfl, h⟩ := q|obtain ⟨_, _, rfl, h⟩ := q)
  exact (f_eq ..).symm
end N144
namespace N146
noncomputable def cfg : Cfg := { cb with E := tab [] }
noncomputable def body : Code := bodyOf Tryz.f146
def c (x0 x1 : BA) (k : BA → Prop) : Prop :=
 (((x0).size + ((ByteArray.mk #[46])).size ≤ 9223372036854775807) ∧ ((((x0 ++ (ByteArray.mk #[46]))).size + (x1).size ≤ 9223372036854775807) ∧ (k ((x0 ++ (ByteArray.mk #[46])) ++ x1))))
def f0 x0 x1 k := c x0 x1 k
noncomputable def f := sld f0
theorem f_def : f = f0 := sld_eq f0
def K0 (k : KT) (y0 : BA) : Prop := k (.v (.string y0)) []
noncomputable def T (k kp : KT) := topK cfg Tryz.f146 k kp
noncomputable def JJ (k kp : KT) : Nat → St → Prop := pick none' []
noncomputable def LL (k kp : KT) : Nat → St → Prop := pick none' []
def pa (x0 x1 : BA) : List D := [(.v (.string x0)), (.v (.string x1))]
def pb (x0 x1 : BA) : List Blk := []
theorem body_is : Tryz.f146.body = some body := by kernel_rfl
theorem f_eq (k kp x0 x1) : funW cfg Tryz.f146 (pa x0 x1) (pb x0 x1) k kp = f x0 x1 (K0 k) :=
 raw_fun (own := 1000001) none'' (JJ k kp) (LL k kp) (fun J L => c x0 x1 (K0 k)) body_is (by kernel_rfl) (fun J L => by kernel_rfl) (by rw [f_def]; rfl)
noncomputable def ent0 : Entry := fun args blks k _ => match args, blks with
 | [d0, d1], [] => aStr d0 fun x0 => aStr d1 fun x1 => f x0 x1 (K0 k)
 | _, _ => False
noncomputable def ent : Entry := cvE [.no, .no] ent0
theorem ok : EntOk Tryz.prog 112 157 146 ent := by
 refine fnOk (cfg := cfg) rfl rfl rfl rfl (by kernel_rfl) ?_ Tryz.func146 (by rfl) (by rfl) ?_
 ·exact tab_n
 ·intro args blks k kp h k' kp'
  match args, blks, h with
  | [d0, d1], [], h =>
  dsimp only [ent0] at h
  repeat ((first|have q := aStr_elim h); clear h; first|obtain ⟨rfl, h⟩ := q|obtain ⟨_, rfl, h⟩ := q|obtain ⟨_, _, rfl, h⟩ := q)
  exact (f_eq ..).symm
end N146
namespace N147
noncomputable def cfg : Cfg := { cb with E := tab [(143, N143.ent), (99, N99.ent), (109, N109.ent), (98, N98.ent)] }
noncomputable def body : Code := bodyOf Tryz.f147
def c (aa : Zq0) (ab : Int) (k : Bool → Zq0 → Int → Prop) : Prop :=
 (N143.f aa ab (fun ao ap aq ar au af ah => (br (ao != (1 : Int)) (k false af ah) (N99.f af ah (fun ac ai aj ak al ad ae => (N109.f ac ai aj ak al (ByteArray.mk #[58]) (fun av => (br av (k true ad ae) (N109.f ac ai aj ak al (ByteArray.mk #[91]) (fun aw => (br aw (k true ad ae) (N98.f (ByteArray.mk #[101, 100, 103, 101]) ad ae (fun ax am an => (br ax (k (ac == (1 : Int)) am an) (k false am an)))))))))))))))
def f0 aa ab k := c aa ab k
noncomputable def f := sld f0
theorem f_def : f = f0 := sld_eq f0
def K0 (k : KT) (y0 : Bool) (ay : Zq0) (az : Int) : Prop := k (.v (.bool y0)) [(.box 124 [(.fz Zy1 ay), (.v (.int .i64 az))])]
noncomputable def T (k kp : KT) := topK cfg Tryz.f147 k kp
noncomputable def JJ (k kp : KT) : Nat → St → Prop := pick none' []
noncomputable def LL (k kp : KT) : Nat → St → Prop := pick none' []
def pa (aa : Zq0) (ab : Int) : List D := [(.ptr 0 0)]
def pb (aa : Zq0) (ab : Int) : List Blk := [(.box 124 [(.fz Zy1 aa), (.v (.int .i64 ab))])]
theorem body_is : Tryz.f147.body = some body := by kernel_rfl
theorem f_eq (k kp aa ab) : funW cfg Tryz.f147 (pa aa ab) (pb aa ab) k kp = f aa ab (K0 k) :=
 raw_fun (own := 1000001) none'' (JJ k kp) (LL k kp) (fun J L => c aa ab (K0 k)) body_is (by kernel_rfl) (fun J L => by kernel_rfl) (by rw [f_def]; rfl)
noncomputable def ent0 : Entry := fun args blks k _ => match args, blks with
 | [d0], [e0] => aPtr 0 0 d0 (aBox 124 e0 fun l => aCons l fun a0 l => aCons l fun a1 l => aNil l (aFz Zy1 a0 fun aa => aInt IntKind.i64 a1 fun ab => f aa ab (K0 k)))
 | _, _ => False
noncomputable def ent : Entry := cvE [.no] ent0
theorem ok : EntOk Tryz.prog 112 157 147 ent := by
 refine fnOk (cfg := cfg) rfl rfl rfl rfl (by kernel_rfl) ?_ Tryz.func147 (by rfl) (by rfl) ?_
 ·exact tab_c N143.ok <| tab_c N99.ok <| tab_c N109.ok <| tab_c N98.ok <| tab_n
 ·intro args blks k kp h k' kp'
  match args, blks, h with
  | [d0], [e0], h =>
  dsimp only [ent0] at h
  repeat ((first|have q := aPtr_elim h|have q := aBox_elim h|have q := aCons_elim h|have q := aNil_elim h|have q := aFz_elim h|have q := aInt_elim h); clear h; first|obtain ⟨rfl, h⟩ := q|obtain ⟨_, rfl, h⟩ := q|obtain ⟨_, _, rfl, h⟩ := q)
  exact (f_eq ..).symm
end N147
namespace N186
noncomputable def cfg : Cfg := { cb with E := tab [], atSeq := tab [(2000003, ks [0, 2, 4, 12]), (5, ks [0, 2])] }
noncomputable def body : Code := bodyOf Tryz.f186
def j2000003 (j5 : Int → BA → Int → Int → Int → Int → Bool → Prop) (x0 : Int) (an : Bool) (af : BA) (ah ai : Int) (aj ak : Int) (al : Bool) (am : BA) (aa ab : Int) (ac ad : Int) (ae : Bool) (k : BA → Int → Int → Int → Int → Bool → Bool → Prop) : Prop :=
 (br an (br (decide ((IntKind.i64.wrap (x0 - (1 : Int))) = ((0 : Nat) : Int))) (k (ByteArray.mk #[97, 100, 100]) aa ab ac ad ae true) (br (decide ((IntKind.i64.wrap (x0 - (1 : Int))) = ((1 : Nat) : Int))) (k (ByteArray.mk #[115, 117, 98]) aa ab ac ad ae true) (br (decide ((IntKind.i64.wrap (x0 - (1 : Int))) = ((2 : Nat) : Int))) (k (ByteArray.mk #[109, 117, 108]) aa ab ac ad ae true) (br (decide ((IntKind.i64.wrap (x0 - (1 : Int))) = ((3 : Nat) : Int))) (k (ByteArray.mk #[97, 110, 100]) aa ab ac ad ae true) (br (decide ((IntKind.i64.wrap (x0 - (1 : Int))) = ((4 : Nat) : Int))) (k (ByteArray.mk #[111, 114]) aa ab ac ad ae true) (br (decide ((IntKind.i64.wrap (x0 - (1 : Int))) = ((5 : Nat) : Int))) (k (ByteArray.mk #[120, 111, 114]) aa ab ac ad ae true) (br (decide ((IntKind.i64.wrap (x0 - (1 : Int))) = ((6 : Nat) : Int))) (k (ByteArray.mk #[115, 104, 108]) aa ab ac ad ae true) (br (decide ((IntKind.i64.wrap (x0 - (1 : Int))) = ((7 : Nat) : Int))) (k (ByteArray.mk #[115, 104, 114]) aa ab ac ad ae true) (br (decide ((IntKind.i64.wrap (x0 - (1 : Int))) = ((8 : Nat) : Int))) (k (ByteArray.mk #[115, 97, 114]) aa ab ac ad ae true) (br (decide ((IntKind.i64.wrap (x0 - (1 : Int))) = ((9 : Nat) : Int))) (k (ByteArray.mk #[100, 105, 118]) aa ab ac ad ae true) (br (decide ((IntKind.i64.wrap (x0 - (1 : Int))) = ((10 : Nat) : Int))) (k (ByteArray.mk #[114, 101, 109]) aa ab ac ad ae true) (br (decide ((IntKind.i64.wrap (x0 - (1 : Int))) = ((11 : Nat) : Int))) (k (ByteArray.mk #[101, 113]) aa ab ac ad ae true) (br (decide ((IntKind.i64.wrap (x0 - (1 : Int))) = ((12 : Nat) : Int))) (k (ByteArray.mk #[110, 101]) aa ab ac ad ae true) (br (decide ((IntKind.i64.wrap (x0 - (1 : Int))) = ((13 : Nat) : Int))) (k (ByteArray.mk #[108, 116]) aa ab ac ad ae true) (br (decide ((IntKind.i64.wrap (x0 - (1 : Int))) = ((14 : Nat) : Int))) (k (ByteArray.mk #[108, 101]) aa ab ac ad ae true) False))))))))))))))) (j5 x0 af ah ai aj ak al))
def j5 (x0 : Int) (af : BA) (ah ai : Int) (aj ak : Int) (al : Bool) (k : BA → Int → Int → Int → Int → Bool → Bool → Prop) : Prop :=
 (br (x0 == (16 : Int)) (k (ByteArray.mk #[99, 111, 112, 121]) (3 : Int) (7 : Int) (0 : Int) (0 : Int) false true) (br (x0 == (17 : Int)) (k (ByteArray.mk #[108, 111, 97, 100]) (1 : Int) (2 : Int) (0 : Int) (0 : Int) false true) (br (x0 == (18 : Int)) (k (ByteArray.mk #[115, 116, 111, 114, 101]) (0 : Int) (1 : Int) (2 : Int) (0 : Int) false true) (br (x0 == (19 : Int)) (k (ByteArray.mk #[99, 97, 108, 108]) (17 : Int) (13 : Int) (0 : Int) (0 : Int) false true) (br (x0 == (20 : Int)) (k (ByteArray.mk #[98, 114]) (0 : Int) (0 : Int) (0 : Int) (1 : Int) false true) (br (x0 == (21 : Int)) (k (ByteArray.mk #[98, 114, 105, 102]) (0 : Int) (1 : Int) (0 : Int) (2 : Int) false true) (br (x0 == (22 : Int)) (k (ByteArray.mk #[115, 119, 105, 116, 99, 104]) (0 : Int) (1 : Int) (0 : Int) (-1 : Int) false true) (br (x0 == (23 : Int)) (k (ByteArray.mk #[114, 101, 116]) (0 : Int) (5 : Int) (0 : Int) (0 : Int) false true) (br (x0 == (24 : Int)) (k (ByteArray.mk #[109, 111, 118, 101]) (3 : Int) (3 : Int) (0 : Int) (0 : Int) true true) (br (x0 == (25 : Int)) (k (ByteArray.mk #[115, 112, 105, 108, 108]) (8 : Int) (3 : Int) (0 : Int) (0 : Int) true true) (br (x0 == (26 : Int)) (k (ByteArray.mk #[114, 101, 108, 111, 97, 100]) (3 : Int) (8 : Int) (0 : Int) (0 : Int) true true) (br (x0 == (27 : Int)) (k (ByteArray.mk #[115, 119, 97, 112]) (0 : Int) (11 : Int) (11 : Int) (0 : Int) true true) (k (ByteArray.mk #[]) (0 : Int) (0 : Int) (0 : Int) (0 : Int) false false)))))))))))))
def c (j2000003 : Int → Bool → BA → Int → Int → Int → Int → Bool → BA → Int → Int → Int → Int → Bool → Prop) (x0 : Int) (k : BA → Int → Int → Int → Int → Bool → Bool → Prop) : Prop :=
 (br (decide (x0 ≥ (1 : Int))) (j2000003 x0 (decide (x0 ≤ (15 : Int))) (ByteArray.mk #[]) (0 : Int) (0 : Int) (0 : Int) (0 : Int) false (ByteArray.mk #[]) (1 : Int) (1 : Int) (5 : Int) (0 : Int) false) (j2000003 x0 false (ByteArray.mk #[]) (0 : Int) (0 : Int) (0 : Int) (0 : Int) false (ByteArray.mk #[]) (1 : Int) (1 : Int) (5 : Int) (0 : Int) false))
def j5' x0 af ah ai aj ak al k := j5 x0 af ah ai aj ak al k
def j2000003' x0 an af ah ai aj ak al am aa ab ac ad ae k := j2000003 (fun x0 af ah ai aj ak al => j5' x0 af ah ai aj ak al k) x0 an af ah ai aj ak al am aa ab ac ad ae k
def f0 x0 k := c (fun x0 an af ah ai aj ak al am aa ab ac ad ae => j2000003' x0 an af ah ai aj ak al am aa ab ac ad ae k) x0 k
noncomputable def f := sld f0
theorem f_def : f = f0 := sld_eq f0
def m2000003 (x0 : Int) (an : Bool) (af : BA) (ah ai : Int) (aj ak : Int) (al : Bool) (am : BA) (aa ab : Int) (ac ad : Int) (ae : Bool) : St := { tmps := mkT 68 0 [(0, (.v (.int .i64 x0))), (2, (.ptr 0 0)), (4, (.ptr 1 0)), (12, (.v (.bool an)))], hp := [(.box 268 [(.v (.string af)), (.v (.int .i64 ah)), (.v (.int .i64 ai)), (.v (.int .i64 aj)), (.v (.int .i64 ak)), (.v (.bool al))]), (.box 268 [(.v (.string am)), (.v (.int .i64 aa)), (.v (.int .i64 ab)), (.v (.int .i64 ac)), (.v (.int .i64 ad)), (.v (.bool ae))])], m := 0 }
def M2000003 (g : St → Prop) x0 an af ah ai aj ak al am aa ab ac ad ae := g (m2000003 x0 an af ah ai aj ak al am aa ab ac ad ae)
def m5 (x0 : Int) (af : BA) (ah ai : Int) (aj ak : Int) (al : Bool) : St := { tmps := mkT 68 0 [(0, (.v (.int .i64 x0))), (2, (.ptr 0 0))], hp := [(.box 268 [(.v (.string af)), (.v (.int .i64 ah)), (.v (.int .i64 ai)), (.v (.int .i64 aj)), (.v (.int .i64 ak)), (.v (.bool al))])], m := 0 }
def M5 (g : St → Prop) x0 af ah ai aj ak al := g (m5 x0 af ah ai aj ak al)
def K0 (k : KT) (ao : BA) (ap aq : Int) (ar au : Int) (av y1 : Bool) : Prop := k (.tup [(.agg [(.v (.string ao)), (.v (.int .i64 ap)), (.v (.int .i64 aq)), (.v (.int .i64 ar)), (.v (.int .i64 au)), (.v (.bool av))]), (.v (.bool y1))]) []
noncomputable def T (k kp : KT) := topK cfg Tryz.f186 k kp
noncomputable def X2000003 (k kp : KT) : St → Prop := atP cfg (pick none' []) [1, 1, 0, 1] body (T k kp)
noncomputable def X5 (k kp : KT) : St → Prop := atP cfg (pick none' []) [1, 1, 1] body (T k kp)
noncomputable def JJ (k kp : KT) : Nat → St → Prop := pick none' [(2000003, X2000003 k kp), (5, X5 k kp)]
noncomputable def LL (k kp : KT) : Nat → St → Prop := pick none' []
theorem j5_eq (k kp) : M5 (X5 k kp) = fun x0 af ah ai aj ak al => j5' x0 af ah ai aj ak al (K0 k) := by
 funext x0 af ah ai aj ak al
 exact raw_eq (own:=5) rfl (JJ k kp) (LL k kp) (fun J L => j5 x0 af ah ai aj ak al (K0 k)) (by kernel_rfl) (fun _ _ => by kernel_rfl) rfl
theorem j2000003_eq (k kp) : M2000003 (X2000003 k kp) = fun x0 an af ah ai aj ak al am aa ab ac ad ae => j2000003' x0 an af ah ai aj ak al am aa ab ac ad ae (K0 k) := by
 funext x0 an af ah ai aj ak al am aa ab ac ad ae
 exact raw_eq (own:=2000003) rfl (JJ k kp) (LL k kp) (fun J L => j2000003 (M5 (J 5)) x0 an af ah ai aj ak al am aa ab ac ad ae (K0 k)) (by kernel_rfl) (fun _ _ => by kernel_rfl) (by erw [j5_eq k kp] <;> rfl)
def pa (x0 : Int) : List D := [(.v (.int .i64 x0))]
def pb (x0 : Int) : List Blk := []
theorem body_is : Tryz.f186.body = some body := by kernel_rfl
theorem f_eq (k kp x0) : funW cfg Tryz.f186 (pa x0) (pb x0) k kp = f x0 (K0 k) :=
 raw_fun (own := 1000001) none'' (JJ k kp) (LL k kp) (fun J L => c (M2000003 (J 2000003)) x0 (K0 k)) body_is (by kernel_rfl) (fun J L => by kernel_rfl) (by rw [f_def]; erw [j2000003_eq k kp] <;> rfl)
noncomputable def ent0 : Entry := fun args blks k _ => match args, blks with
 | [d0], [] => aInt IntKind.i64 d0 fun x0 => f x0 (K0 k)
 | _, _ => False
noncomputable def ent : Entry := cvE [.no] ent0
theorem ok : EntOk Tryz.prog 112 157 186 ent := by
 refine fnOk (cfg := cfg) rfl rfl rfl rfl (by kernel_rfl) ?_ Tryz.func186 (by rfl) (by rfl) ?_
 ·exact tab_n
 ·intro args blks k kp h k' kp'
  match args, blks, h with
  | [d0], [], h =>
  dsimp only [ent0] at h
  repeat ((first|have q := aInt_elim h); clear h; first|obtain ⟨rfl, h⟩ := q|obtain ⟨_, rfl, h⟩ := q|obtain ⟨_, _, rfl, h⟩ := q)
  exact (f_eq ..).symm
end N186
namespace N175
noncomputable def cfg : Cfg := { cb with E := tab [(186, N186.ent)] }
noncomputable def body : Code := bodyOf Tryz.f175
def c (x0 : Int) (k : BA → Prop) : Prop :=
 (N186.f x0 (fun aa ab ac ad ae af ah => (k aa)))
def f0 x0 k := c x0 k
noncomputable def f := sld f0
theorem f_def : f = f0 := sld_eq f0
def K0 (k : KT) (y0 : BA) : Prop := k (.v (.string y0)) []
noncomputable def T (k kp : KT) := topK cfg Tryz.f175 k kp
noncomputable def JJ (k kp : KT) : Nat → St → Prop := pick none' []
noncomputable def LL (k kp : KT) : Nat → St → Prop := pick none' []
def pa (x0 : Int) : List D := [(.v (.int .i64 x0))]
def pb (x0 : Int) : List Blk := []
theorem body_is : Tryz.f175.body = some body := by kernel_rfl
theorem f_eq (k kp x0) : funW cfg Tryz.f175 (pa x0) (pb x0) k kp = f x0 (K0 k) :=
 raw_fun (own := 1000001) none'' (JJ k kp) (LL k kp) (fun J L => c x0 (K0 k)) body_is (by kernel_rfl) (fun J L => by kernel_rfl) (by rw [f_def]; rfl)
noncomputable def ent0 : Entry := fun args blks k _ => match args, blks with
 | [d0], [] => aInt IntKind.i64 d0 fun x0 => f x0 (K0 k)
 | _, _ => False
noncomputable def ent : Entry := cvE [.no] ent0
theorem ok : EntOk Tryz.prog 112 157 175 ent := by
 refine fnOk (cfg := cfg) rfl rfl rfl rfl (by kernel_rfl) ?_ Tryz.func175 (by rfl) (by rfl) ?_
 ·exact tab_c N186.ok <| tab_n
 ·intro args blks k kp h k' kp'
  match args, blks, h with
  | [d0], [], h =>
  dsimp only [ent0] at h
  repeat ((first|have q := aInt_elim h); clear h; first|obtain ⟨rfl, h⟩ := q|obtain ⟨_, rfl, h⟩ := q|obtain ⟨_, _, rfl, h⟩ := q)
  exact (f_eq ..).symm
end N175
namespace N164
noncomputable def cfg : Cfg := { cb with E := tab [(175, N175.ent)], atSeq := tab [(6, ⟨[]⟩)], atLoop := tab [(2, ks [0, 4])] }
noncomputable def body : Code := bodyOf Tryz.f164
def l2 (j6 : Prop) (ag2 : Int → Prop) (x0 : BA) (x4 : Int) (k : Int → Bool → Prop) : Prop :=
 (br (decide (x4 ≤ (27 : Int))) (N175.f x4 (fun aa => (br (beqS aa x0) (k x4 true) (ag2 (IntKind.i64.wrap (x4 + (1 : Int))))))) (j6))
def j6 (k : Int → Bool → Prop) : Prop :=
 (k (0 : Int) false)
def c (l2 : BA → Int → Prop) (x0 : BA) (k : Int → Bool → Prop) : Prop :=
 (l2 x0 (1 : Int))
def j6' k := j6 k
def l2' (x0 : BA) (x4 : Int) (k : Int → Bool → Prop) : Prop := ∃ n, loopS (fun ag (s : Int) => l2 (j6' k) (fun x4 => ag (x4)) x0 s k) n (x4)
def f0 x0 k := c (fun x0 x4 => l2' x0 x4 k) x0 k
noncomputable def f := sld f0
theorem f_def : f = f0 := sld_eq f0
def mL2 (x0 : BA) (x4 : Int) : St := { tmps := mkT 14 0 [(0, (.v (.string x0))), (4, (.v (.int .i64 x4)))], hp := [], m := 0 }
def ML2 (g : St → Prop) x0 x4 := g (mL2 x0 x4)
def m6 : St := { tmps := mkT 14 0 [], hp := [], m := 0 }
def M6 (g : St → Prop) := g (m6)
def K0 (k : KT) (y0 : Int) (y1 : Bool) : Prop := k (.tup [(.v (.int .i64 y0)), (.v (.bool y1))]) []
noncomputable def T (k kp : KT) := topK cfg Tryz.f164 k kp
noncomputable def YL2 (k kp : KT) : (St → Prop) → St → Prop := loopB cfg (sub [1, 0, 1, 0, 0] body) (contK cfg (pick none' []) [1, 0, 1, 0] body (T k kp))
noncomputable def XL2 (k kp : KT) : St → Prop := fun st => ∃ n, loopN (YL2 k kp) n st
noncomputable def X6 (k kp : KT) : St → Prop := atP cfg (pick none' []) [1, 1] body (T k kp)
noncomputable def JJ_2 (k kp : KT) (ag2 : St → Prop) : Nat → St → Prop := pick none' [(6, X6 k kp)]
noncomputable def LL_2 (k kp : KT) (ag2 : St → Prop) : Nat → St → Prop := pick none' [(2, XL2 k kp)]
noncomputable def JJ (k kp : KT) : Nat → St → Prop := pick none' [(6, X6 k kp)]
noncomputable def LL (k kp : KT) : Nat → St → Prop := pick none' [(2, XL2 k kp)]
theorem j6_eq (k kp) : M6 (X6 k kp) = j6' (K0 k) := by
 exact raw_eq (own:=6) rfl (JJ k kp) (LL k kp) (fun J L => j6 (K0 k)) (by kernel_rfl) (fun _ _ => by kernel_rfl) rfl
theorem l2_eq (k kp) : ML2 (XL2 k kp) = fun x0 x4 => l2' x0 x4 (K0 k) := by
 funext x0 x4
 exact loop_eq (mk := fun (s : Int) => match s with | x4 => mL2 x0 x4) (fun ag2 s => match s with | x4 => raw_eq (own:=1000001) (cfg := cfg) (AG := (pick none' [(2, ag2)])) (p := [1, 0, 1, 0, 0]) (c := body) (K := (T k kp)) (st := mL2 x0 x4) (by kernel_rfl) (JJ_2 k kp ag2) (LL_2 k kp ag2) (fun J L => l2 (M6 (J 6)) (fun x4 => ag2 (mL2 x0 x4)) x0 x4 (K0 k)) (by kernel_rfl) (fun _ _ => by kernel_rfl) (by erw [j6_eq k kp] <;> rfl)) (x4)
def pa (x0 : BA) : List D := [(.v (.string x0))]
def pb (x0 : BA) : List Blk := []
theorem body_is : Tryz.f164.body = some body := by kernel_rfl
theorem f_eq (k kp x0) : funW cfg Tryz.f164 (pa x0) (pb x0) k kp = f x0 (K0 k) :=
 raw_fun (own := 1000001) none'' (JJ k kp) (LL k kp) (fun J L => c (ML2 (L 2)) x0 (K0 k)) body_is (by kernel_rfl) (fun J L => by kernel_rfl) (by rw [f_def]; erw [l2_eq k kp] <;> rfl)
noncomputable def ent0 : Entry := fun args blks k _ => match args, blks with
 | [d0], [] => aStr d0 fun x0 => f x0 (K0 k)
 | _, _ => False
noncomputable def ent : Entry := cvE [.no] ent0
theorem ok : EntOk Tryz.prog 112 157 164 ent := by
 refine fnOk (cfg := cfg) rfl rfl rfl rfl (by kernel_rfl) ?_ Tryz.func164 (by rfl) (by rfl) ?_
 ·exact tab_c N175.ok <| tab_n
 ·intro args blks k kp h k' kp'
  match args, blks, h with
  | [d0], [], h =>
  dsimp only [ent0] at h
  repeat ((first|have q := aStr_elim h); clear h; first|obtain ⟨rfl, h⟩ := q|obtain ⟨_, rfl, h⟩ := q|obtain ⟨_, _, rfl, h⟩ := q)
  exact (f_eq ..).symm
end N164
namespace N97
noncomputable def cfg : Cfg := { cb with E := tab [(94, N94.ent), (144, N144.ent), (95, N95.ent)], outs := [.own 82 (Ty.pair Zy3 Zy0)] }
noncomputable def body : Code := bodyOf Tryz.f97
def c (x1 : BA) (aa : Zq0) (ab : Int) (k : Zq0 → Int → Zq2 → Prop) (kp : Err → Prop) : Prop :=
 (N94.f x1 aa ab (fun aj ac ad => (br aj (k ac ad ([] : List (Int × (Int × (Int × Int))))) (N144.f ac ad (fun ae af ak => (N95.f x1 ae af (fun ah ai => (k ah ai ak)) kp)) kp))))
def f0 x1 aa ab k kp := c x1 aa ab k kp
noncomputable def f := sld f0
theorem f_def : f = f0 := sld_eq f0
def K0 (k : KT) (al : Zq0) (am : Int) (z1 : Zq2) : Prop := k (.sl 1 0) [(.box 124 [(.fz Zy1 al), (.v (.int .i64 am))]), (.lst 82 (Ty.pair Zy3 Zy0) z1 0 false)]
def KE (kp : KT) (e : Err) : Prop := kp (.er e) (List.replicate 1 .dead)
noncomputable def T (k kp : KT) := topK cfg Tryz.f97 k kp
noncomputable def JJ (k kp : KT) : Nat → St → Prop := pick none' []
noncomputable def LL (k kp : KT) : Nat → St → Prop := pick none' []
def pa (x1 : BA) (aa : Zq0) (ab : Int) : List D := [(.ptr 0 0), (.v (.string x1))]
def pb (x1 : BA) (aa : Zq0) (ab : Int) : List Blk := [(.box 124 [(.fz Zy1 aa), (.v (.int .i64 ab))])]
theorem body_is : Tryz.f97.body = some body := by kernel_rfl
theorem f_eq (k kp x1 aa ab) : funW cfg Tryz.f97 (pa x1 aa ab) (pb x1 aa ab) k kp = f x1 aa ab (K0 k) (KE kp) :=
 raw_fun (own := 1000001) none'' (JJ k kp) (LL k kp) (fun J L => c x1 aa ab (K0 k) (KE kp)) body_is (by kernel_rfl) (fun J L => by kernel_rfl) (by rw [f_def]; rfl)
noncomputable def ent0 : Entry := fun args blks k kp => match args, blks with
 | [d0, d1], [e0] => aPtr 0 0 d0 (aStr d1 fun x1 => aBox 124 e0 fun l => aCons l fun an l => aCons l fun ao l => aNil l (aFz Zy1 an fun aa => aInt IntKind.i64 ao fun ab => f x1 aa ab (K0 k) (KE kp)))
 | _, _ => False
noncomputable def ent : Entry := cvE [.no, .no] ent0
theorem ok : EntOk Tryz.prog 112 157 97 ent := by
 refine fnOk (cfg := cfg) rfl rfl rfl rfl (by kernel_rfl) ?_ Tryz.func97 (by rfl) (by rfl) ?_
 ·exact tab_c N94.ok <| tab_c N144.ok <| tab_c N95.ok <| tab_n
 ·intro args blks k kp h k' kp'
  match args, blks, h with
  | [d0, d1], [e0], h =>
  dsimp only [ent0] at h
  repeat ((first|have q := aPtr_elim h|have q := aStr_elim h|have q := aBox_elim h|have q := aCons_elim h|have q := aNil_elim h|have q := aFz_elim h|have q := aInt_elim h); clear h; first|obtain ⟨rfl, h⟩ := q|obtain ⟨_, rfl, h⟩ := q|obtain ⟨_, _, rfl, h⟩ := q)
  exact (f_eq ..).symm
end N97
namespace N176
noncomputable def cfg : Cfg := { cb with E := tab [(186, N186.ent)], atSeq := tab [(8, ks [4, 6]), (9, ks [6])], atLoop := tab [(7, ks [4, 6])] }
noncomputable def body : Code := bodyOf Tryz.f176
def l7 (j8 : Int → BA → Int → Int → Int → Int → Bool → Prop) (j9 : Int → Prop) (x6 : Int) (ac : BA) (ad aa : Int) (ab ae : Int) (af : Bool) (k : Int → Int → Prop) : Prop :=
 (br (decide (x6 < (2 : Int))) (br (decide (x6 = ((0 : Nat) : Int))) (br (aa != (0 : Int)) (j8 x6 ac ad aa ab ae af) (j9 x6)) (br (decide (x6 = ((1 : Nat) : Int))) (br (ab != (0 : Int)) (j8 x6 ac ad aa ab ae af) (j9 x6)) False)) (j9 x6))
def j8 (ag7 : Int → BA → Int → Int → Int → Int → Bool → Prop) (x6 : Int) (ac : BA) (ad aa : Int) (ab ae : Int) (af : Bool) (k : Int → Int → Prop) : Prop :=
 (ag7 (IntKind.i64.wrap (x6 + (1 : Int))) ac ad aa ab ae af)
def j9 (x6 : Int) (k : Int → Int → Prop) : Prop :=
 (k x6 x6)
def c (l7 : Int → BA → Int → Int → Int → Int → Bool → Prop) (x0 : Int) (k : Int → Int → Prop) : Prop :=
 (N186.f x0 (fun ah ai aj ak al am an => (br (x0 == (19 : Int)) (k (0 : Int) (8 : Int)) (br (!an) (k (0 : Int) (0 : Int)) (l7 (0 : Int) ah ai aj ak al am)))))
def j8' ag7 x6 ac ad aa ab ae af k := j8 ag7 x6 ac ad aa ab ae af k
def j9' x6 k := j9 x6 k
def l7' (x6 : Int) (ac : BA) (ad aa : Int) (ab ae : Int) (af : Bool) (k : Int → Int → Prop) : Prop := ∃ n, loopS (fun ag (s : Int × BA × Int × Int × Int × Int × Bool) => l7 (fun x6 ac ad aa ab ae af => j8' (fun x6 ac ad aa ab ae af => ag (x6, ac, ad, aa, ab, ae, af)) x6 ac ad aa ab ae af k) (fun x6 => j9' x6 k) s.1 s.2.1 s.2.2.1 s.2.2.2.1 s.2.2.2.2.1 s.2.2.2.2.2.1 s.2.2.2.2.2.2 k) n (x6, ac, ad, aa, ab, ae, af)
def f0 x0 k := c (fun x6 ac ad aa ab ae af => l7' x6 ac ad aa ab ae af k) x0 k
noncomputable def f := sld f0
theorem f_def : f = f0 := sld_eq f0
def mL7 (x6 : Int) (ac : BA) (ad aa : Int) (ab ae : Int) (af : Bool) : St := { tmps := mkT 29 0 [(4, (.ptr 0 0)), (6, (.v (.int .i64 x6)))], hp := [(.box 268 [(.v (.string ac)), (.v (.int .i64 ad)), (.v (.int .i64 aa)), (.v (.int .i64 ab)), (.v (.int .i64 ae)), (.v (.bool af))])], m := 0 }
def ML7 (g : St → Prop) x6 ac ad aa ab ae af := g (mL7 x6 ac ad aa ab ae af)
def m8 (x6 : Int) (ac : BA) (ad aa : Int) (ab ae : Int) (af : Bool) : St := { tmps := mkT 29 0 [(4, (.ptr 0 0)), (6, (.v (.int .i64 x6)))], hp := [(.box 268 [(.v (.string ac)), (.v (.int .i64 ad)), (.v (.int .i64 aa)), (.v (.int .i64 ab)), (.v (.int .i64 ae)), (.v (.bool af))])], m := 0 }
def M8 (g : St → Prop) x6 ac ad aa ab ae af := g (m8 x6 ac ad aa ab ae af)
def m9 (x6 : Int) : St := { tmps := mkT 29 0 [(6, (.v (.int .i64 x6)))], hp := [], m := 0 }
def M9 (g : St → Prop) x6 := g (m9 x6)
def K0 (k : KT) (y0 y1 : Int) : Prop := k (.tup [(.v (.int .i64 y0)), (.v (.int .i64 y1))]) []
noncomputable def T (k kp : KT) := topK cfg Tryz.f176 k kp
noncomputable def YL7 (k kp : KT) : (St → Prop) → St → Prop := loopB cfg (sub [1, 1, 1, 1, 1, 0, 0, 0] body) (contK cfg (pick none' []) [1, 1, 1, 1, 1, 0, 0] body (T k kp))
noncomputable def XL7 (k kp : KT) : St → Prop := fun st => ∃ n, loopN (YL7 k kp) n st
noncomputable def X8 (k kp : KT) (ag7 : St → Prop) : St → Prop := atP cfg (pick none' [(7, ag7)]) [1, 1, 1, 1, 1, 0, 0, 0, 1] body (T k kp)
noncomputable def X9 (k kp : KT) : St → Prop := atP cfg (pick none' []) [1, 1, 1, 1, 1, 1] body (T k kp)
noncomputable def JJ_7 (k kp : KT) (ag7 : St → Prop) : Nat → St → Prop := pick none' [(8, X8 k kp ag7), (9, X9 k kp)]
noncomputable def LL_7 (k kp : KT) (ag7 : St → Prop) : Nat → St → Prop := pick none' [(7, XL7 k kp)]
noncomputable def JJ (k kp : KT) : Nat → St → Prop := pick none' [(9, X9 k kp)]
noncomputable def LL (k kp : KT) : Nat → St → Prop := pick none' [(7, XL7 k kp)]
theorem j8_eq (k kp ag7) : M8 (X8 k kp ag7) = fun x6 ac ad aa ab ae af => j8' (fun x6 ac ad aa ab ae af => ag7 (mL7 x6 ac ad aa ab ae af)) x6 ac ad aa ab ae af (K0 k) := by
 funext x6 ac ad aa ab ae af
 exact raw_eq (own:=8) rfl (JJ_7 k kp ag7) (LL_7 k kp ag7) (fun J L => j8 (fun x6 ac ad aa ab ae af => ag7 (mL7 x6 ac ad aa ab ae af)) x6 ac ad aa ab ae af (K0 k)) (by kernel_rfl) (fun _ _ => by kernel_rfl) rfl
theorem j9_eq (k kp) : M9 (X9 k kp) = fun x6 => j9' x6 (K0 k) := by
 funext x6
 exact raw_eq (own:=9) rfl (JJ k kp) (LL k kp) (fun J L => j9 x6 (K0 k)) (by kernel_rfl) (fun _ _ => by kernel_rfl) rfl
theorem l7_eq (k kp) : ML7 (XL7 k kp) = fun x6 ac ad aa ab ae af => l7' x6 ac ad aa ab ae af (K0 k) := by
 funext x6 ac ad aa ab ae af
 exact loop_eq (mk := fun (s : Int × BA × Int × Int × Int × Int × Bool) => match s with | (x6, ac, ad, aa, ab, ae, af) => mL7 x6 ac ad aa ab ae af) (fun ag7 s => match s with | (x6, ac, ad, aa, ab, ae, af) => raw_eq (own:=1000001) (cfg := cfg) (AG := (pick none' [(7, ag7)])) (p := [1, 1, 1, 1, 1, 0, 0, 0]) (c := body) (K := (T k kp)) (st := mL7 x6 ac ad aa ab ae af) (by kernel_rfl) (JJ_7 k kp ag7) (LL_7 k kp ag7) (fun J L => l7 (M8 (J 8)) (M9 (J 9)) x6 ac ad aa ab ae af (K0 k)) (by kernel_rfl) (fun _ _ => by kernel_rfl) (by erw [j8_eq k kp ag7, j9_eq k kp] <;> rfl)) (x6, ac, ad, aa, ab, ae, af)
def pa (x0 : Int) : List D := [(.v (.int .i64 x0))]
def pb (x0 : Int) : List Blk := []
theorem body_is : Tryz.f176.body = some body := by kernel_rfl
theorem f_eq (k kp x0) : funW cfg Tryz.f176 (pa x0) (pb x0) k kp = f x0 (K0 k) :=
 raw_fun (own := 1000001) none'' (JJ k kp) (LL k kp) (fun J L => c (ML7 (L 7)) x0 (K0 k)) body_is (by kernel_rfl) (fun J L => by kernel_rfl) (by rw [f_def]; erw [l7_eq k kp] <;> rfl)
noncomputable def ent0 : Entry := fun args blks k _ => match args, blks with
 | [d0], [] => aInt IntKind.i64 d0 fun x0 => f x0 (K0 k)
 | _, _ => False
noncomputable def ent : Entry := cvE [.no] ent0
theorem ok : EntOk Tryz.prog 112 157 176 ent := by
 refine fnOk (cfg := cfg) rfl rfl rfl rfl (by kernel_rfl) ?_ Tryz.func176 (by rfl) (by rfl) ?_
 ·exact tab_c N186.ok <| tab_n
 ·intro args blks k kp h k' kp'
  match args, blks, h with
  | [d0], [], h =>
  dsimp only [ent0] at h
  repeat ((first|have q := aInt_elim h); clear h; first|obtain ⟨rfl, h⟩ := q|obtain ⟨_, rfl, h⟩ := q|obtain ⟨_, _, rfl, h⟩ := q)
  exact (f_eq ..).symm
end N176
namespace N177
noncomputable def cfg : Cfg := { cb with E := tab [(95, N95.ent), (163, N163.ent)], atSeq := tab [(7, ks [0, 5, 7, 8]), (9, ks [5]), (8, ks [0, 5, 7, 8])], atLoop := tab [(3, ⟨[(0, .keep), (5, .own 82 (Ty.pair Zy3 Zy0)), (7, .keep), (8, .keep)]⟩)] }
noncomputable def body : Code := bodyOf Tryz.f177
def l3 (j7 : Int → Int → Zq0 → Int → Zq2 → Prop) (j9 : Zq0 → Int → Zq2 → Prop) (x7 x8 : Int) (aa : Zq0) (ab : Int) (b1 : Zq2) (k : Zq0 → Int → Zq2 → Prop) (kp : Err → Prop) : Prop :=
 (br (decide (x8 < x7)) (br (decide (x8 > (0 : Int))) (N95.f (ByteArray.mk #[44]) aa ab (fun ah ai => (j7 x7 x8 ah ai b1)) kp) (j7 x7 x8 aa ab b1)) (j9 aa ab b1))
def j7 (j8 : Int → Int → Zq0 → Int → Zq2 → Prop) (x7 x8 : Int) (aa : Zq0) (ab : Int) (b1 : Zq2) (k : Zq0 → Int → Zq2 → Prop) (kp : Err → Prop) : Prop :=
 (N163.f aa ab (fun ac ad ae af aj ak => ((room ((b1).length + (([(ac, (ad, (ae, af)))] : List (Int × (Int × (Int × Int))))).length) 32) ∧ (j8 x7 x8 aj ak (b1 ++ ([(ac, (ad, (ae, af)))] : List (Int × (Int × (Int × Int)))))))) kp)
def j9 (aa : Zq0) (ab : Int) (b1 : Zq2) (k : Zq0 → Int → Zq2 → Prop) (kp : Err → Prop) : Prop :=
 (k aa ab b1)
def j8 (ag3 : Int → Zq0 → Int → Zq2 → Prop) (x7 x8 : Int) (aa : Zq0) (ab : Int) (b1 : Zq2) (k : Zq0 → Int → Zq2 → Prop) (kp : Err → Prop) : Prop :=
 (ag3 (IntKind.i64.wrap (x8 + (1 : Int))) aa ab b1)
def c (l3 : Int → Int → Zq0 → Int → Zq2 → Prop) (x1 : Int) (aa : Zq0) (ab : Int) (k : Zq0 → Int → Zq2 → Prop) (kp : Err → Prop) : Prop :=
 (l3 x1 (0 : Int) aa ab ([] : List (Int × (Int × (Int × Int)))))
def j9' aa ab b1 k kp := j9 aa ab b1 k kp
def j8' ag3 x7 x8 aa ab b1 k kp := j8 ag3 x7 x8 aa ab b1 k kp
def j7' ag3 x7 x8 aa ab b1 k kp := j7 (fun x7 x8 aa ab b1 => j8' ag3 x7 x8 aa ab b1 k kp) x7 x8 aa ab b1 k kp
def l3' (x7 x8 : Int) (aa : Zq0) (ab : Int) (b1 : Zq2) (k : Zq0 → Int → Zq2 → Prop) (kp : Err → Prop) : Prop := ∃ n, loopS (fun ag (s : Int × Zq0 × Int × Zq2) => l3 (fun x7 x8 aa ab b1 => j7' (fun x8 aa ab b1 => ag (x8, aa, ab, b1)) x7 x8 aa ab b1 k kp) (fun aa ab b1 => j9' aa ab b1 k kp) x7 s.1 s.2.1 s.2.2.1 s.2.2.2 k kp) n (x8, aa, ab, b1)
def f0 x1 aa ab k kp := c (fun x7 x8 aa ab b1 => l3' x7 x8 aa ab b1 k kp) x1 aa ab k kp
noncomputable def f := sld f0
theorem f_def : f = f0 := sld_eq f0
def mL3 (x7 x8 : Int) (aa : Zq0) (ab : Int) (b1 : Zq2) : St := { tmps := mkT 22 0 [(0, (.ptr 0 0)), (5, (.sl 1 0)), (7, (.v (.int .i64 x7))), (8, (.v (.int .i64 x8)))], hp := [(.box 124 [(.fz Zy1 aa), (.v (.int .i64 ab))]), (.lst 82 (Ty.pair Zy3 Zy0) b1 0 false)], m := 1 }
def ML3 (g : St → Prop) x7 x8 aa ab b1 := g (mL3 x7 x8 aa ab b1)
def m7 (x7 x8 : Int) (aa : Zq0) (ab : Int) (b1 : Zq2) : St := { tmps := mkT 22 0 [(0, (.ptr 0 0)), (5, (.sl 1 0)), (7, (.v (.int .i64 x7))), (8, (.v (.int .i64 x8)))], hp := [(.box 124 [(.fz Zy1 aa), (.v (.int .i64 ab))]), (.lst 82 (Ty.pair Zy3 Zy0) b1 0 false)], m := 1 }
def M7 (g : St → Prop) x7 x8 aa ab b1 := g (m7 x7 x8 aa ab b1)
def m9 (aa : Zq0) (ab : Int) (b1 : Zq2) : St := { tmps := mkT 22 0 [(5, (.sl 1 0))], hp := [(.box 124 [(.fz Zy1 aa), (.v (.int .i64 ab))]), (.lst 82 (Ty.pair Zy3 Zy0) b1 0 false)], m := 1 }
def M9 (g : St → Prop) aa ab b1 := g (m9 aa ab b1)
def m8 (x7 x8 : Int) (aa : Zq0) (ab : Int) (b1 : Zq2) : St := { tmps := mkT 22 0 [(0, (.ptr 0 0)), (5, (.sl 1 0)), (7, (.v (.int .i64 x7))), (8, (.v (.int .i64 x8)))], hp := [(.box 124 [(.fz Zy1 aa), (.v (.int .i64 ab))]), (.lst 82 (Ty.pair Zy3 Zy0) b1 0 false)], m := 1 }
def M8 (g : St → Prop) x7 x8 aa ab b1 := g (m8 x7 x8 aa ab b1)
def K0 (k : KT) (al : Zq0) (am : Int) (z1 : Zq2) : Prop := k (.sl 1 0) [(.box 124 [(.fz Zy1 al), (.v (.int .i64 am))]), (.lst 82 (Ty.pair Zy3 Zy0) z1 0 false)]
def KE (kp : KT) (e : Err) : Prop := kp (.er e) (List.replicate 1 .dead)
noncomputable def T (k kp : KT) := topK cfg Tryz.f177 k kp
noncomputable def YL3 (k kp : KT) : (St → Prop) → St → Prop := loopB cfg (sub [1, 1, 0, 1, 0, 0] body) (contK cfg (pick none' []) [1, 1, 0, 1, 0] body (T k kp))
noncomputable def XL3 (k kp : KT) : St → Prop := fun st => ∃ n, loopN (YL3 k kp) n st
noncomputable def X7 (k kp : KT) (ag3 : St → Prop) : St → Prop := atP cfg (pick none' [(3, ag3)]) [1, 1, 0, 1, 0, 0, 1, 1, 0, 0, 1, 1] body (T k kp)
noncomputable def X9 (k kp : KT) : St → Prop := atP cfg (pick none' []) [1, 1, 1] body (T k kp)
noncomputable def X8 (k kp : KT) (ag3 : St → Prop) : St → Prop := atP cfg (pick none' [(3, ag3)]) [1, 1, 0, 1, 0, 0, 1, 1, 1] body (T k kp)
noncomputable def JJ_3 (k kp : KT) (ag3 : St → Prop) : Nat → St → Prop := pick none' [(7, X7 k kp ag3), (9, X9 k kp), (8, X8 k kp ag3)]
noncomputable def LL_3 (k kp : KT) (ag3 : St → Prop) : Nat → St → Prop := pick none' [(3, XL3 k kp)]
noncomputable def JJ (k kp : KT) : Nat → St → Prop := pick none' [(9, X9 k kp)]
noncomputable def LL (k kp : KT) : Nat → St → Prop := pick none' [(3, XL3 k kp)]
theorem j9_eq (k kp) : M9 (X9 k kp) = fun aa ab b1 => j9' aa ab b1 (K0 k) (KE kp) := by
 funext aa ab b1
 exact raw_eq (own:=9) rfl (JJ k kp) (LL k kp) (fun J L => j9 aa ab b1 (K0 k) (KE kp)) (by kernel_rfl) (fun _ _ => by kernel_rfl) rfl
theorem j8_eq (k kp ag3) : M8 (X8 k kp ag3) = fun x7 x8 aa ab b1 => j8' (fun x8 aa ab b1 => ag3 (mL3 x7 x8 aa ab b1)) x7 x8 aa ab b1 (K0 k) (KE kp) := by
 funext x7 x8 aa ab b1
 exact raw_eq (own:=8) rfl (JJ_3 k kp ag3) (LL_3 k kp ag3) (fun J L => j8 (fun x8 aa ab b1 => ag3 (mL3 x7 x8 aa ab b1)) x7 x8 aa ab b1 (K0 k) (KE kp)) (by kernel_rfl) (fun _ _ => by kernel_rfl) rfl
theorem j7_eq (k kp ag3) : M7 (X7 k kp ag3) = fun x7 x8 aa ab b1 => j7' (fun x8 aa ab b1 => ag3 (mL3 x7 x8 aa ab b1)) x7 x8 aa ab b1 (K0 k) (KE kp) := by
 funext x7 x8 aa ab b1
 exact raw_eq (own:=7) rfl (JJ_3 k kp ag3) (LL_3 k kp ag3) (fun J L => j7 (M8 (J 8)) x7 x8 aa ab b1 (K0 k) (KE kp)) (by kernel_rfl) (fun _ _ => by kernel_rfl) (by erw [j8_eq k kp ag3] <;> rfl)
theorem l3_eq (k kp) : ML3 (XL3 k kp) = fun x7 x8 aa ab b1 => l3' x7 x8 aa ab b1 (K0 k) (KE kp) := by
 funext x7 x8 aa ab b1
 exact loop_eq (mk := fun (s : Int × Zq0 × Int × Zq2) => match s with | (x8, aa, ab, b1) => mL3 x7 x8 aa ab b1) (fun ag3 s => match s with | (x8, aa, ab, b1) => raw_eq (own:=1000001) (cfg := cfg) (AG := (pick none' [(3, ag3)])) (p := [1, 1, 0, 1, 0, 0]) (c := body) (K := (T k kp)) (st := mL3 x7 x8 aa ab b1) (by kernel_rfl) (JJ_3 k kp ag3) (LL_3 k kp ag3) (fun J L => l3 (M7 (J 7)) (M9 (J 9)) x7 x8 aa ab b1 (K0 k) (KE kp)) (by kernel_rfl) (fun _ _ => by kernel_rfl) (by erw [j7_eq k kp ag3, j9_eq k kp] <;> rfl)) (x8, aa, ab, b1)
def pa (x1 : Int) (aa : Zq0) (ab : Int) : List D := [(.ptr 0 0), (.v (.int .i64 x1))]
def pb (x1 : Int) (aa : Zq0) (ab : Int) : List Blk := [(.box 124 [(.fz Zy1 aa), (.v (.int .i64 ab))])]
theorem body_is : Tryz.f177.body = some body := by kernel_rfl
theorem f_eq (k kp x1 aa ab) : funW cfg Tryz.f177 (pa x1 aa ab) (pb x1 aa ab) k kp = f x1 aa ab (K0 k) (KE kp) :=
 raw_fun (own := 1000001) none'' (JJ k kp) (LL k kp) (fun J L => c (ML3 (L 3)) x1 aa ab (K0 k) (KE kp)) body_is (by kernel_rfl) (fun J L => by kernel_rfl) (by rw [f_def]; erw [l3_eq k kp] <;> rfl)
noncomputable def ent0 : Entry := fun args blks k kp => match args, blks with
 | [d0, d1], [e0] => aPtr 0 0 d0 (aInt IntKind.i64 d1 fun x1 => aBox 124 e0 fun l => aCons l fun an l => aCons l fun ao l => aNil l (aFz Zy1 an fun aa => aInt IntKind.i64 ao fun ab => f x1 aa ab (K0 k) (KE kp)))
 | _, _ => False
noncomputable def ent : Entry := cvE [.no, .no] ent0
theorem ok : EntOk Tryz.prog 112 157 177 ent := by
 refine fnOk (cfg := cfg) rfl rfl rfl rfl (by kernel_rfl) ?_ Tryz.func177 (by rfl) (by rfl) ?_
 ·exact tab_c N95.ok <| tab_c N163.ok <| tab_n
 ·intro args blks k kp h k' kp'
  match args, blks, h with
  | [d0, d1], [e0], h =>
  dsimp only [ent0] at h
  repeat ((first|have q := aPtr_elim h|have q := aInt_elim h|have q := aBox_elim h|have q := aCons_elim h|have q := aNil_elim h|have q := aFz_elim h); clear h; first|obtain ⟨rfl, h⟩ := q|obtain ⟨_, rfl, h⟩ := q|obtain ⟨_, _, rfl, h⟩ := q)
  exact (f_eq ..).symm
end N177
namespace N178
noncomputable def cfg : Cfg := { cb with E := tab [(96, N96.ent), (94, N94.ent), (146, N146.ent)], atSeq := tab [(4, ks [3])] }
noncomputable def body : Code := bodyOf Tryz.f178
def j4 (x3 : BA) (aa : Zq0) (ab : Int) (k : BA → Zq0 → Int → Prop) (kp : Err → Prop) : Prop :=
 (k x3 aa ab)
def c (j4 : BA → Zq0 → Int → Prop) (aa : Zq0) (ab : Int) (k : BA → Zq0 → Int → Prop) (kp : Err → Prop) : Prop :=
 (N96.f (1 : Int) aa ab (fun al ac am an ao af ah => (N94.f (ByteArray.mk #[46]) af ah (fun ap ad ae => (br ap (N96.f (1 : Int) ad ae (fun aq ai ar au av aj ak => (N146.f ac ai (fun aw => (j4 aw aj ak)))) kp) (j4 ac ad ae))))) kp)
def j4' x3 aa ab k kp := j4 x3 aa ab k kp
def f0 aa ab k kp := c (fun x3 aa ab => j4' x3 aa ab k kp) aa ab k kp
noncomputable def f := sld f0
theorem f_def : f = f0 := sld_eq f0
def m4 (x3 : BA) (aa : Zq0) (ab : Int) : St := { tmps := mkT 15 0 [(3, (.v (.string x3)))], hp := [(.box 124 [(.fz Zy1 aa), (.v (.int .i64 ab))])], m := 1 }
def M4 (g : St → Prop) x3 aa ab := g (m4 x3 aa ab)
def K0 (k : KT) (y0 : BA) (ax : Zq0) (ay : Int) : Prop := k (.v (.string y0)) [(.box 124 [(.fz Zy1 ax), (.v (.int .i64 ay))])]
def KE (kp : KT) (e : Err) : Prop := kp (.er e) (List.replicate 1 .dead)
noncomputable def T (k kp : KT) := topK cfg Tryz.f178 k kp
noncomputable def X4 (k kp : KT) : St → Prop := atP cfg (pick none' []) [1, 1, 1] body (T k kp)
noncomputable def JJ (k kp : KT) : Nat → St → Prop := pick none' [(4, X4 k kp)]
noncomputable def LL (k kp : KT) : Nat → St → Prop := pick none' []
theorem j4_eq (k kp) : M4 (X4 k kp) = fun x3 aa ab => j4' x3 aa ab (K0 k) (KE kp) := by
 funext x3 aa ab
 exact raw_eq (own:=4) rfl (JJ k kp) (LL k kp) (fun J L => j4 x3 aa ab (K0 k) (KE kp)) (by kernel_rfl) (fun _ _ => by kernel_rfl) rfl
def pa (aa : Zq0) (ab : Int) : List D := [(.ptr 0 0)]
def pb (aa : Zq0) (ab : Int) : List Blk := [(.box 124 [(.fz Zy1 aa), (.v (.int .i64 ab))])]
theorem body_is : Tryz.f178.body = some body := by kernel_rfl
theorem f_eq (k kp aa ab) : funW cfg Tryz.f178 (pa aa ab) (pb aa ab) k kp = f aa ab (K0 k) (KE kp) :=
 raw_fun (own := 1000001) none'' (JJ k kp) (LL k kp) (fun J L => c (M4 (J 4)) aa ab (K0 k) (KE kp)) body_is (by kernel_rfl) (fun J L => by kernel_rfl) (by rw [f_def]; erw [j4_eq k kp] <;> rfl)
noncomputable def ent0 : Entry := fun args blks k kp => match args, blks with
 | [d0], [e0] => aPtr 0 0 d0 (aBox 124 e0 fun l => aCons l fun az l => aCons l fun a0 l => aNil l (aFz Zy1 az fun aa => aInt IntKind.i64 a0 fun ab => f aa ab (K0 k) (KE kp)))
 | _, _ => False
noncomputable def ent : Entry := cvE [.no] ent0
theorem ok : EntOk Tryz.prog 112 157 178 ent := by
 refine fnOk (cfg := cfg) rfl rfl rfl rfl (by kernel_rfl) ?_ Tryz.func178 (by rfl) (by rfl) ?_
 ·exact tab_c N96.ok <| tab_c N94.ok <| tab_c N146.ok <| tab_n
 ·intro args blks k kp h k' kp'
  match args, blks, h with
  | [d0], [e0], h =>
  dsimp only [ent0] at h
  repeat ((first|have q := aPtr_elim h|have q := aBox_elim h|have q := aCons_elim h|have q := aNil_elim h|have q := aFz_elim h|have q := aInt_elim h); clear h; first|obtain ⟨rfl, h⟩ := q|obtain ⟨_, rfl, h⟩ := q|obtain ⟨_, _, rfl, h⟩ := q)
  exact (f_eq ..).symm
end N178
namespace N179
noncomputable def cfg : Cfg := { cb with E := tab [(95, N95.ent), (98, N98.ent), (174, N174.ent), (178, N178.ent)], atSeq := tab [(7, ks [0, 2, 3])], atLoop := tab [(2, ⟨[(0, .keep), (2, .own 3 Zy3), (3, .own 9 Ty.str)]⟩)] }
noncomputable def body : Code := bodyOf Tryz.f179
def l2 (j7 : Zq0 → Int → LI → LB → Prop) (ag2 : Zq0 → Int → LI → LB → Prop) (aa : Zq0) (ab : Int) (b1 : LI) (b2 : LB) (k : Zq0 → Int → LI → LB → Prop) (kp : Err → Prop) : Prop :=
 (N98.f (ByteArray.mk #[101, 108, 115, 101]) aa ab (fun a2 ac ad => (br (!a2) (N174.f ac ad (fun az ae af => ((room ((b1).length + (([az] : List Int)).length) 8) ∧ (N95.f (ByteArray.mk #[58]) ae af (fun ah ai => (N178.f ah ai (fun a0 aj ak => ((room ((b2).length + (([a0] : List BA)).length) 16) ∧ (N95.f (ByteArray.mk #[44]) aj ak (fun al am => (ag2 al am (b1 ++ ([az] : List Int)) (b2 ++ ([a0] : List BA)))) kp))) kp)) kp))) kp) (j7 ac ad b1 b2))))
def j7 (aa : Zq0) (ab : Int) (b1 : LI) (b2 : LB) (k : Zq0 → Int → LI → LB → Prop) (kp : Err → Prop) : Prop :=
 (N95.f (ByteArray.mk #[101, 108, 115, 101]) aa ab (fun an ao => (N95.f (ByteArray.mk #[58]) an ao (fun ap aq => (N178.f ap aq (fun a1 ar au => ((room ((b2).length + (([a1] : List BA)).length) 16) ∧ (N95.f (ByteArray.mk #[93]) ar au (fun av aw => (k av aw b1 (b2 ++ ([a1] : List BA)))) kp))) kp)) kp)) kp)
def c (l2 : Zq0 → Int → LI → LB → Prop) (aa : Zq0) (ab : Int) (k : Zq0 → Int → LI → LB → Prop) (kp : Err → Prop) : Prop :=
 (N95.f (ByteArray.mk #[91]) aa ab (fun ax ay => (l2 ax ay ([] : List Int) ([] : List BA))) kp)
def j7' aa ab b1 b2 k kp := j7 aa ab b1 b2 k kp
def l2' (aa : Zq0) (ab : Int) (b1 : LI) (b2 : LB) (k : Zq0 → Int → LI → LB → Prop) (kp : Err → Prop) : Prop := ∃ n, loopS (fun ag (s : Zq0 × Int × LI × LB) => l2 (fun aa ab b1 b2 => j7' aa ab b1 b2 k kp) (fun aa ab b1 b2 => ag (aa, ab, b1, b2)) s.1 s.2.1 s.2.2.1 s.2.2.2 k kp) n (aa, ab, b1, b2)
def f0 aa ab k kp := c (fun aa ab b1 b2 => l2' aa ab b1 b2 k kp) aa ab k kp
noncomputable def f := sld f0
theorem f_def : f = f0 := sld_eq f0
def mL2 (aa : Zq0) (ab : Int) (b1 : LI) (b2 : LB) : St := { tmps := mkT 36 0 [(0, (.ptr 0 0)), (2, (.sl 1 0)), (3, (.sl 2 0))], hp := [(.box 124 [(.fz Zy1 aa), (.v (.int .i64 ab))]), (.lst 3 Zy3 b1 0 false), (.lst 9 Ty.str b2 0 false)], m := 1 }
def ML2 (g : St → Prop) aa ab b1 b2 := g (mL2 aa ab b1 b2)
def m7 (aa : Zq0) (ab : Int) (b1 : LI) (b2 : LB) : St := { tmps := mkT 36 0 [(0, (.ptr 0 0)), (2, (.sl 1 0)), (3, (.sl 2 0))], hp := [(.box 124 [(.fz Zy1 aa), (.v (.int .i64 ab))]), (.lst 3 Zy3 b1 0 false), (.lst 9 Ty.str b2 0 false)], m := 1 }
def M7 (g : St → Prop) aa ab b1 b2 := g (m7 aa ab b1 b2)
def K0 (k : KT) (a3 : Zq0) (a4 : Int) (z1 : LI) (z2 : LB) : Prop := k (.tup [(.sl 1 0), (.sl 2 0)]) [(.box 124 [(.fz Zy1 a3), (.v (.int .i64 a4))]), (.lst 3 Zy3 z1 0 false), (.lst 9 Ty.str z2 0 false)]
def KE (kp : KT) (e : Err) : Prop := kp (.er e) (List.replicate 1 .dead)
noncomputable def T (k kp : KT) := topK cfg Tryz.f179 k kp
noncomputable def YL2 (k kp : KT) : (St → Prop) → St → Prop := loopB cfg (sub [1, 1, 0, 0, 0] body) (contK cfg (pick none' []) [1, 1, 0, 0] body (T k kp))
noncomputable def XL2 (k kp : KT) : St → Prop := fun st => ∃ n, loopN (YL2 k kp) n st
noncomputable def X7 (k kp : KT) : St → Prop := atP cfg (pick none' []) [1, 1, 1] body (T k kp)
noncomputable def JJ_2 (k kp : KT) (ag2 : St → Prop) : Nat → St → Prop := pick none' [(7, X7 k kp)]
noncomputable def LL_2 (k kp : KT) (ag2 : St → Prop) : Nat → St → Prop := pick none' [(2, XL2 k kp)]
noncomputable def JJ (k kp : KT) : Nat → St → Prop := pick none' [(7, X7 k kp)]
noncomputable def LL (k kp : KT) : Nat → St → Prop := pick none' [(2, XL2 k kp)]
theorem j7_eq (k kp) : M7 (X7 k kp) = fun aa ab b1 b2 => j7' aa ab b1 b2 (K0 k) (KE kp) := by
 funext aa ab b1 b2
 exact raw_eq (own:=7) rfl (JJ k kp) (LL k kp) (fun J L => j7 aa ab b1 b2 (K0 k) (KE kp)) (by kernel_rfl) (fun _ _ => by kernel_rfl) rfl
theorem l2_eq (k kp) : ML2 (XL2 k kp) = fun aa ab b1 b2 => l2' aa ab b1 b2 (K0 k) (KE kp) := by
 funext aa ab b1 b2
 exact loop_eq (mk := fun (s : Zq0 × Int × LI × LB) => match s with | (aa, ab, b1, b2) => mL2 aa ab b1 b2) (fun ag2 s => match s with | (aa, ab, b1, b2) => raw_eq (own:=1000001) (cfg := cfg) (AG := (pick none' [(2, ag2)])) (p := [1, 1, 0, 0, 0]) (c := body) (K := (T k kp)) (st := mL2 aa ab b1 b2) (by kernel_rfl) (JJ_2 k kp ag2) (LL_2 k kp ag2) (fun J L => l2 (M7 (J 7)) (fun aa ab b1 b2 => ag2 (mL2 aa ab b1 b2)) aa ab b1 b2 (K0 k) (KE kp)) (by kernel_rfl) (fun _ _ => by kernel_rfl) (by erw [j7_eq k kp] <;> rfl)) (aa, ab, b1, b2)
def pa (aa : Zq0) (ab : Int) : List D := [(.ptr 0 0)]
def pb (aa : Zq0) (ab : Int) : List Blk := [(.box 124 [(.fz Zy1 aa), (.v (.int .i64 ab))])]
theorem body_is : Tryz.f179.body = some body := by kernel_rfl
theorem f_eq (k kp aa ab) : funW cfg Tryz.f179 (pa aa ab) (pb aa ab) k kp = f aa ab (K0 k) (KE kp) :=
 raw_fun (own := 1000001) none'' (JJ k kp) (LL k kp) (fun J L => c (ML2 (L 2)) aa ab (K0 k) (KE kp)) body_is (by kernel_rfl) (fun J L => by kernel_rfl) (by rw [f_def]; erw [l2_eq k kp] <;> rfl)
noncomputable def ent0 : Entry := fun args blks k kp => match args, blks with
 | [d0], [e0] => aPtr 0 0 d0 (aBox 124 e0 fun l => aCons l fun a5 l => aCons l fun a6 l => aNil l (aFz Zy1 a5 fun aa => aInt IntKind.i64 a6 fun ab => f aa ab (K0 k) (KE kp)))
 | _, _ => False
noncomputable def ent : Entry := cvE [.no] ent0
theorem ok : EntOk Tryz.prog 112 157 179 ent := by
 refine fnOk (cfg := cfg) rfl rfl rfl rfl (by kernel_rfl) ?_ Tryz.func179 (by rfl) (by rfl) ?_
 ·exact tab_c N95.ok <| tab_c N98.ok <| tab_c N174.ok <| tab_c N178.ok <| tab_n
 ·intro args blks k kp h k' kp'
  match args, blks, h with
  | [d0], [e0], h =>
  dsimp only [ent0] at h
  repeat ((first|have q := aPtr_elim h|have q := aBox_elim h|have q := aCons_elim h|have q := aNil_elim h|have q := aFz_elim h|have q := aInt_elim h); clear h; first|obtain ⟨rfl, h⟩ := q|obtain ⟨_, rfl, h⟩ := q|obtain ⟨_, _, rfl, h⟩ := q)
  exact (f_eq ..).symm
end N179
namespace N165
noncomputable def cfg : Cfg := { cb with E := tab [(96, N96.ent), (95, N95.ent), (97, N97.ent), (176, N176.ent), (177, N177.ent), (94, N94.ent), (174, N174.ent), (178, N178.ent), (179, N179.ent)], atSeq := tab [(2000009, ks [0, 1, 41, 42])], atLoop := tab [(15, ⟨[(0, .keep), (1, .cells [(8, some 9, Ty.str)]), (62, .keep)]⟩)], lt := [66, 67, 68, 69, 70, 71, 73, 75, 76], ms := [(70, 1)], ns := true }
noncomputable def body : Code := bodyOf Tryz.f165
def j2000009 (l15 : Int → Zq0 → Int → Int → Int → Int → Int → Int → BA → Int → Zq2 → LB → Prop) (aq : Int) (au : Bool) (ad : Zq0) (ae aa : Int) (af ah : Int) (ac ab : Int) (ai : BA) (aj : Int) (b2 : Zq2) (k : Zq0 → Int → Int → Int → Int → Int → Int → BA → Int → Zq2 → Prop) (k1 : Zq0 → Int → Int → Int → Int → Int → Int → BA → Int → Zq2 → LB → Prop) (k2 : Zq0 → Int → Int → Int → Int → Int → Int → BA → Int → Zq2 → LB → LI → Prop) (kp : Err → Prop) : Prop :=
 (br au (N94.f (ByteArray.mk #[43]) ad ae (fun bp av aw => (br bp (N174.f av aw (fun bq a9 ba => (k a9 ba aa af ah ac ab ai bq b2)) kp) (k av aw aa af ah ac ab ai aj b2)))) (br (aq == (20 : Int)) (N178.f ad ae (fun bs bb bc => (k1 bb bc aa af ah ac ab ai aj b2 ([bs] : List BA))) kp) (br (aq == (21 : Int)) (l15 (0 : Int) ad ae aa af ah ac ab ai aj b2 ([] : List BA)) (br (aq == (22 : Int)) (N179.f ad ae (fun bd bf bt bu => (k2 bd bf aa af ah ac ab ai aj b2 bu bt)) kp) (k ad ae aa af ah ac ab ai aj b2)))))
def l15 (ag15 : Int → Zq0 → Int → Int → Int → Int → Int → Int → BA → Int → Zq2 → LB → Prop) (ao : Int) (ad : Zq0) (ae aa : Int) (af ah : Int) (ac ab : Int) (ai : BA) (aj : Int) (b2 : Zq2) (b3 : LB) (k : Zq0 → Int → Int → Int → Int → Int → Int → BA → Int → Zq2 → Prop) (k1 : Zq0 → Int → Int → Int → Int → Int → Int → BA → Int → Zq2 → LB → Prop) (k2 : Zq0 → Int → Int → Int → Int → Int → Int → BA → Int → Zq2 → LB → LI → Prop) (kp : Err → Prop) : Prop :=
 (br (decide (ao < (2 : Int))) (N95.f (ByteArray.mk #[44]) ad ae (fun bg bh => (N178.f bg bh (fun a8 a6 a7 => ((room ((b3).length + (([a8] : List BA)).length) 16) ∧ (ag15 (IntKind.i64.wrap (ao + (1 : Int))) a6 a7 aa af ah ac ab ai aj b2 (b3 ++ ([a8] : List BA))))) kp)) kp) (k1 ad ae aa af ah ac ab ai aj b2 b3))
def c (j2000009 : Int → Bool → Zq0 → Int → Int → Int → Int → Int → Int → BA → Int → Zq2 → Prop) (ad : Zq0) (ae aa : Int) (ak al : Int) (am an : Int) (ac : BA) (ab : Int) (k : Zq0 → Int → Int → Int → Int → Int → Int → BA → Int → Zq2 → Prop) (k1 : Zq0 → Int → Int → Int → Int → Int → Int → BA → Int → Zq2 → LB → Prop) (k2 : Zq0 → Int → Int → Int → Int → Int → Int → BA → Int → Zq2 → LB → LI → Prop) (kp : Err → Prop) : Prop :=
 (br (aa == (19 : Int)) (N96.f (3 : Int) ad ae (fun bv bi bw bx bz bj bk => (N95.f (ByteArray.mk #[40]) bj bk (fun bl bm => (N97.f (ByteArray.mk #[41]) bl bm (fun bn bo ar => (k bn bo aa ak al am an bi ab ar)) kp)) kp)) kp) (N176.f aa (fun b0 gf => (N177.f b0 ad ae (fun ax ay ap => (br (aa == (17 : Int)) (j2000009 aa (aa == (17 : Int)) ax ay aa ak al am an ac ab ap) (j2000009 aa (aa == (18 : Int)) ax ay aa ak al am an ac ab ap))) kp))))
def l15' (ao : Int) (ad : Zq0) (ae aa : Int) (af ah : Int) (ac ab : Int) (ai : BA) (aj : Int) (b2 : Zq2) (b3 : LB) (k : Zq0 → Int → Int → Int → Int → Int → Int → BA → Int → Zq2 → Prop) (k1 : Zq0 → Int → Int → Int → Int → Int → Int → BA → Int → Zq2 → LB → Prop) (k2 : Zq0 → Int → Int → Int → Int → Int → Int → BA → Int → Zq2 → LB → LI → Prop) (kp : Err → Prop) : Prop := ∃ n, loopS (fun ag (s : Int × Zq0 × Int × Int × Int × Int × Int × Int × BA × Int × Zq2 × LB) => l15 (fun ao ad ae aa af ah ac ab ai aj b2 b3 => ag (ao, ad, ae, aa, af, ah, ac, ab, ai, aj, b2, b3)) s.1 s.2.1 s.2.2.1 s.2.2.2.1 s.2.2.2.2.1 s.2.2.2.2.2.1 s.2.2.2.2.2.2.1 s.2.2.2.2.2.2.2.1 s.2.2.2.2.2.2.2.2.1 s.2.2.2.2.2.2.2.2.2.1 s.2.2.2.2.2.2.2.2.2.2.1 s.2.2.2.2.2.2.2.2.2.2.2 k k1 k2 kp) n (ao, ad, ae, aa, af, ah, ac, ab, ai, aj, b2, b3)
def j2000009' aq au ad ae aa af ah ac ab ai aj b2 k k1 k2 kp := j2000009 (fun ao ad ae aa af ah ac ab ai aj b2 b3 => l15' ao ad ae aa af ah ac ab ai aj b2 b3 k k1 k2 kp) aq au ad ae aa af ah ac ab ai aj b2 k k1 k2 kp
def f0 ad ae aa ak al am an ac ab k k1 k2 kp := c (fun aq au ad ae aa af ah ac ab ai aj b2 => j2000009' aq au ad ae aa af ah ac ab ai aj b2 k k1 k2 kp) ad ae aa ak al am an ac ab k k1 k2 kp
noncomputable def f := sld f0
theorem f_def : f = f0 := sld_eq f0
def m2000009 (aq : Int) (au : Bool) (ad : Zq0) (ae aa : Int) (af ah : Int) (ac ab : Int) (ai : BA) (aj : Int) (b2 : Zq2) : St := { tmps := mkT 91 0 [(0, (.ptr 0 0)), (1, (.ptr 1 0)), (41, (.v (.int .i64 aq))), (42, (.v (.bool au)))], hp := [(.box 124 [(.fz Zy1 ad), (.v (.int .i64 ae))]), (.box 84 [(.v (.int .i64 aa)), (.v (.int .i64 af)), (.v (.int .i64 ah)), (.v (.int .i64 ac)), (.v (.int .i64 ab)), (.sl 2 0), (.v (.string ai)), (.v (.int .i64 aj)), (.v (Value.slice none 0 0)), (.v (Value.slice none 0 0))]), (.lst 82 (Ty.pair Zy3 Zy0) b2 0 false)], m := 2 }
def M2000009 (g : St → Prop) aq au ad ae aa af ah ac ab ai aj b2 := g (m2000009 aq au ad ae aa af ah ac ab ai aj b2)
def mL15 (ao : Int) (ad : Zq0) (ae aa : Int) (af ah : Int) (ac ab : Int) (ai : BA) (aj : Int) (b2 : Zq2) (b3 : LB) : St := { tmps := mkT 91 0 [(0, (.ptr 0 0)), (1, (.ptr 1 0)), (62, (.v (.int .i64 ao)))], hp := [(.box 124 [(.fz Zy1 ad), (.v (.int .i64 ae))]), (.box 84 [(.v (.int .i64 aa)), (.v (.int .i64 af)), (.v (.int .i64 ah)), (.v (.int .i64 ac)), (.v (.int .i64 ab)), (.sl 2 0), (.v (.string ai)), (.v (.int .i64 aj)), (.sl 3 0), (.v (Value.slice none 0 0))]), (.lst 82 (Ty.pair Zy3 Zy0) b2 0 false), (.lst 9 Ty.str b3 0 false)], m := 2 }
def ML15 (g : St → Prop) ao ad ae aa af ah ac ab ai aj b2 b3 := g (mL15 ao ad ae aa af ah ac ab ai aj b2 b3)
def K0 (k : KT) (az : Zq0) (a0 a1 : Int) (a2 ar : Int) (a3 ap : Int) (a4 : BA) (a5 : Int) (z2 : Zq2) : Prop := k (.tup []) [(.box 124 [(.fz Zy1 az), (.v (.int .i64 a0))]), (.box 84 [(.v (.int .i64 a1)), (.v (.int .i64 a2)), (.v (.int .i64 ar)), (.v (.int .i64 a3)), (.v (.int .i64 ap)), (.sl 2 0), (.v (.string a4)), (.v (.int .i64 a5)), (.v (Value.slice none 0 0)), (.v (Value.slice none 0 0))]), (.lst 82 (Ty.pair Zy3 Zy0) z2 0 false)]
def K1 (k : KT) (az : Zq0) (a0 a1 : Int) (a2 ar : Int) (a3 ap : Int) (a4 : BA) (a5 : Int) (z2 : Zq2) (z3 : LB) : Prop := k (.tup []) [(.box 124 [(.fz Zy1 az), (.v (.int .i64 a0))]), (.box 84 [(.v (.int .i64 a1)), (.v (.int .i64 a2)), (.v (.int .i64 ar)), (.v (.int .i64 a3)), (.v (.int .i64 ap)), (.sl 2 0), (.v (.string a4)), (.v (.int .i64 a5)), (.sl 3 0), (.v (Value.slice none 0 0))]), (.lst 82 (Ty.pair Zy3 Zy0) z2 0 false), (.lst 9 Ty.str z3 0 false)]
def K2 (k : KT) (az : Zq0) (a0 a1 : Int) (a2 ar : Int) (a3 ap : Int) (a4 : BA) (a5 : Int) (z2 : Zq2) (z3 : LB) (z4 : LI) : Prop := k (.tup []) [(.box 124 [(.fz Zy1 az), (.v (.int .i64 a0))]), (.box 84 [(.v (.int .i64 a1)), (.v (.int .i64 a2)), (.v (.int .i64 ar)), (.v (.int .i64 a3)), (.v (.int .i64 ap)), (.sl 2 0), (.v (.string a4)), (.v (.int .i64 a5)), (.sl 3 0), (.sl 4 0)]), (.lst 82 (Ty.pair Zy3 Zy0) z2 0 false), (.lst 9 Ty.str z3 0 false), (.lst 3 Zy3 z4 0 false)]
def KE (kp : KT) (e : Err) : Prop := kp (.er e) (List.replicate 2 .dead)
noncomputable def T (k kp : KT) := topK cfg Tryz.f165 k kp
noncomputable def X2000009 (k kp : KT) : St → Prop := atP cfg (pick none' []) [1, 1, 1, 1, 0, 1] body (T k kp)
noncomputable def YL15 (k kp : KT) : (St → Prop) → St → Prop := loopB cfg (sub [1, 1, 1, 1, 0, 1, 1, 1, 1, 1, 0, 1, 0, 0] body) (contK cfg (pick none' []) [1, 1, 1, 1, 0, 1, 1, 1, 1, 1, 0, 1, 0] body (T k kp))
noncomputable def XL15 (k kp : KT) : St → Prop := fun st => ∃ n, loopN (YL15 k kp) n st
noncomputable def JJ (k kp : KT) : Nat → St → Prop := pick none' [(2000009, X2000009 k kp)]
noncomputable def LL (k kp : KT) : Nat → St → Prop := pick none' [(15, XL15 k kp)]
noncomputable def JJ_15 (k kp : KT) (ag15 : St → Prop) : Nat → St → Prop := pick none' [(2000009, X2000009 k kp)]
noncomputable def LL_15 (k kp : KT) (ag15 : St → Prop) : Nat → St → Prop := pick none' [(15, XL15 k kp)]
theorem l15_eq (k kp) : ML15 (XL15 k kp) = fun ao ad ae aa af ah ac ab ai aj b2 b3 => l15' ao ad ae aa af ah ac ab ai aj b2 b3 (K0 k) (K1 k) (K2 k) (KE kp) := by
 funext ao ad ae aa af ah ac ab ai aj b2 b3
 exact loop_eq (mk := fun (s : Int × Zq0 × Int × Int × Int × Int × Int × Int × BA × Int × Zq2 × LB) => match s with | (ao, ad, ae, aa, af, ah, ac, ab, ai, aj, b2, b3) => mL15 ao ad ae aa af ah ac ab ai aj b2 b3) (fun ag15 s => match s with | (ao, ad, ae, aa, af, ah, ac, ab, ai, aj, b2, b3) => raw_eq (own:=1000001) (cfg := cfg) (AG := (pick none' [(15, ag15)])) (p := [1, 1, 1, 1, 0, 1, 1, 1, 1, 1, 0, 1, 0, 0]) (c := body) (K := (T k kp)) (st := mL15 ao ad ae aa af ah ac ab ai aj b2 b3) (by kernel_rfl) (JJ_15 k kp ag15) (LL_15 k kp ag15) (fun J L => l15 (fun ao ad ae aa af ah ac ab ai aj b2 b3 => ag15 (mL15 ao ad ae aa af ah ac ab ai aj b2 b3)) ao ad ae aa af ah ac ab ai aj b2 b3 (K0 k) (K1 k) (K2 k) (KE kp)) (by kernel_rfl) (fun _ _ => by kernel_rfl) rfl) (ao, ad, ae, aa, af, ah, ac, ab, ai, aj, b2, b3)
theorem j2000009_eq (k kp) : M2000009 (X2000009 k kp) = fun aq au ad ae aa af ah ac ab ai aj b2 => j2000009' aq au ad ae aa af ah ac ab ai aj b2 (K0 k) (K1 k) (K2 k) (KE kp) := by
 funext aq au ad ae aa af ah ac ab ai aj b2
 exact raw_eq (own:=2000009) rfl (JJ k kp) (LL k kp) (fun J L => j2000009 (ML15 (L 15)) aq au ad ae aa af ah ac ab ai aj b2 (K0 k) (K1 k) (K2 k) (KE kp)) (by kernel_rfl) (fun _ _ => by kernel_rfl) (by erw [l15_eq k kp] <;> rfl)
def pa (ad : Zq0) (ae aa : Int) (ak al : Int) (am an : Int) (ac : BA) (ab : Int) : List D := [(.ptr 0 0), (.ptr 1 0)]
def pb (ad : Zq0) (ae aa : Int) (ak al : Int) (am an : Int) (ac : BA) (ab : Int) : List Blk := [(.box 124 [(.fz Zy1 ad), (.v (.int .i64 ae))]), (.box 84 [(.v (.int .i64 aa)), (.v (.int .i64 ak)), (.v (.int .i64 al)), (.v (.int .i64 am)), (.v (.int .i64 an)), (.v (Value.slice none 0 0)), (.v (.string ac)), (.v (.int .i64 ab)), (.v (Value.slice none 0 0)), (.v (Value.slice none 0 0))])]
theorem body_is : Tryz.f165.body = some body := by kernel_rfl
theorem f_eq (k kp ad ae aa ak al am an ac ab) : funW cfg Tryz.f165 (pa ad ae aa ak al am an ac ab) (pb ad ae aa ak al am an ac ab) k kp = f ad ae aa ak al am an ac ab (K0 k) (K1 k) (K2 k) (KE kp) :=
 raw_fun (own := 1000001) none'' (JJ k kp) (LL k kp) (fun J L => c (M2000009 (J 2000009)) ad ae aa ak al am an ac ab (K0 k) (K1 k) (K2 k) (KE kp)) body_is (by kernel_rfl) (fun J L => by kernel_rfl) (by rw [f_def]; erw [j2000009_eq k kp] <;> rfl)
noncomputable def ent0 : Entry := fun args blks k kp => match args, blks with
 | [d0, d1], [e0, e1] => aPtr 0 0 d0 (aPtr 1 0 d1 (aBox 124 e0 fun l => aCons l fun b1 l => aCons l fun b4 l => aNil l (aFz Zy1 b1 fun ad => aInt IntKind.i64 b4 fun ae => aBox 84 e1 fun l => aCons l fun b5 l => aCons l fun b6 l => aCons l fun b7 l => aCons l fun b8 l => aCons l fun b9 l => aCons l fun ga l => aCons l fun gb l => aCons l fun gc l => aCons l fun gd l => aCons l fun ge l => aNil l (aInt IntKind.i64 b5 fun aa => aInt IntKind.i64 b6 fun ak => aInt IntKind.i64 b7 fun al => aInt IntKind.i64 b8 fun am => aInt IntKind.i64 b9 fun an => aNilS ga (aStr gb fun ac => aInt IntKind.i64 gc fun ab => aNilS gd (aNilS ge (f ad ae aa ak al am an ac ab (K0 k) (K1 k) (K2 k) (KE kp))))))))
 | _, _ => False
noncomputable def ent : Entry := cvE [.no, .no] ent0
theorem ok : EntOk Tryz.prog 112 157 165 ent := by
 refine fnOk (cfg := cfg) rfl rfl rfl rfl (by kernel_rfl) ?_ Tryz.func165 (by rfl) (by rfl) ?_
 ·exact tab_c N96.ok <| tab_c N95.ok <| tab_c N97.ok <| tab_c N176.ok <| tab_c N177.ok <| tab_c N94.ok <| tab_c N174.ok <| tab_c N178.ok <| tab_c N179.ok <| tab_n
 ·intro args blks k kp h k' kp'
  match args, blks, h with
  | [d0, d1], [e0, e1], h =>
  dsimp only [ent0] at h
  repeat ((first|have q := aPtr_elim h|have q := aBox_elim h|have q := aCons_elim h|have q := aNil_elim h|have q := aFz_elim h|have q := aInt_elim h|have q := aNilS_elim h|have q := aStr_elim h); clear h; first|obtain ⟨rfl, h⟩ := q|obtain ⟨_, rfl, h⟩ := q|obtain ⟨_, _, rfl, h⟩ := q)
  exact (f_eq ..).symm
end N165
namespace N148
noncomputable def cfg : Cfg := { cb with E := tab [(143, N143.ent), (142, N142.ent), (164, N164.ent), (163, N163.ent), (95, N95.ent), (165, N165.ent)], atSeq := tab [(2000006, ks [0, 2, 3, 4, 25]), (9, ks [0, 2, 3, 4]), (7, ks [0, 2, 3, 4]), (2000011, ks [0, 2, 3, 4, 6, 47]), (13, ks [0, 2, 3, 6]), (14, ks [0, 2, 3, 6])] }
noncomputable def body : Code := bodyOf Tryz.f148
def j2000006 (j7 : Bool → Zq0 → Int → Int → Int → Int → Int → Int → BA → Int → Int → Int → Int → Int → Int → BA → Int → Prop) (x4 ay : Bool) (aa : Zq0) (ab ae : Int) (af ah : Int) (ai aj : Int) (ak : BA) (al am : Int) (an ao : Int) (ap aq : Int) (ac : BA) (ad : Int) (k : Int → Int → Int → Int → Int → Zq2 → BA → Int → Zq0 → Int → Prop) (k1 : Int → Int → Int → Int → Int → Zq2 → BA → Int → LB → Zq0 → Int → Prop) (k2 : Int → Int → Int → Int → Int → Zq2 → BA → Int → LB → LI → Zq0 → Int → Prop) (kp : Err → Prop) : Prop :=
 (br ay (N142.f (20 : Int) aa ab kp) (j7 x4 aa ab ae af ah ai aj ak al am an ao ap aq ac ad))
def j9 (j2000011 : Bool → Int → Bool → Zq0 → Int → Int → Int → Int → Int → Int → BA → Int → Int → Int → Int → Int → Int → BA → Int → Prop) (x4 : Bool) (aa : Zq0) (ab ae : Int) (af ah : Int) (ai aj : Int) (ak : BA) (al am : Int) (an ao : Int) (ap aq : Int) (ac : BA) (ad : Int) (k : Int → Int → Int → Int → Int → Zq2 → BA → Int → Zq0 → Int → Prop) (k1 : Int → Int → Int → Int → Int → Zq2 → BA → Int → LB → Zq0 → Int → Prop) (k2 : Int → Int → Int → Int → Int → Zq2 → BA → Int → LB → LI → Zq0 → Int → Prop) (kp : Err → Prop) : Prop :=
 (N143.f aa ab (fun gu bs gv gw gx bt bu => (N164.f bs (fun au gy => (N143.f bt bu (fun bv gz g0 g1 g2 a0 a1 => (br (bv != (1 : Int)) (j2000011 x4 au true a0 a1 ae af ah ai aj ak al am an ao ap aq ac ad) (j2000011 x4 au (!gy) a0 a1 ae af ah ai aj ak al am an ao ap aq ac ad))))))))
def j7 (j9 : Bool → Zq0 → Int → Int → Int → Int → Int → Int → BA → Int → Int → Int → Int → Int → Int → BA → Int → Prop) (x4 : Bool) (aa : Zq0) (ab ae : Int) (af ah : Int) (ai aj : Int) (ak : BA) (al am : Int) (an ao : Int) (ap aq : Int) (ac : BA) (ad : Int) (k : Int → Int → Int → Int → Int → Zq2 → BA → Int → Zq0 → Int → Prop) (k1 : Int → Int → Int → Int → Int → Zq2 → BA → Int → LB → Zq0 → Int → Prop) (k2 : Int → Int → Int → Int → Int → Zq2 → BA → Int → LB → LI → Zq0 → Int → Prop) (kp : Err → Prop) : Prop :=
 (N163.f aa ab (fun bw bx bz b0 b1 b2 => (N95.f (ByteArray.mk #[61]) b1 b2 (fun b3 b4 => (j9 x4 b3 b4 ae af ah ai aj ak al am bw bx bz b0 ac ad)) kp)) kp)
def j2000011 (j13 : Int → Zq0 → Int → Int → Int → Int → Int → Int → BA → Int → Int → Int → Int → Int → Int → BA → Int → Prop) (j14 : Int → Zq0 → Int → Int → Int → Int → Int → Int → BA → Int → Int → Int → Int → Int → Int → BA → Int → Prop) (x4 : Bool) (x6 : Int) (az : Bool) (aa : Zq0) (ab ae : Int) (af ah : Int) (ai aj : Int) (ak : BA) (al am : Int) (an ao : Int) (ap aq : Int) (ac : BA) (ad : Int) (k : Int → Int → Int → Int → Int → Zq2 → BA → Int → Zq0 → Int → Prop) (k1 : Int → Int → Int → Int → Int → Zq2 → BA → Int → LB → Zq0 → Int → Prop) (k2 : Int → Int → Int → Int → Int → Zq2 → BA → Int → LB → LI → Zq0 → Int → Prop) (kp : Err → Prop) : Prop :=
 (br az (br (!x4) (j13 x6 aa (IntKind.i64.wrap (ab + (1 : Int))) ae af ah ai aj ak al am an ao ap aq ac ad) (j13 x6 aa ab ae af ah ai aj ak al am an ao ap aq ac ad)) (j14 x6 aa ab ae af ah ai aj ak al am an ao ap aq ac ad))
def j13 (x6 : Int) (aa : Zq0) (ab ae : Int) (af ah : Int) (ai aj : Int) (ak : BA) (al am : Int) (an ao : Int) (ap aq : Int) (ac : BA) (ad : Int) (k : Int → Int → Int → Int → Int → Zq2 → BA → Int → Zq0 → Int → Prop) (k1 : Int → Int → Int → Int → Int → Zq2 → BA → Int → LB → Zq0 → Int → Prop) (k2 : Int → Int → Int → Int → Int → Zq2 → BA → Int → LB → LI → Zq0 → Int → Prop) (kp : Err → Prop) : Prop :=
 (N142.f (20 : Int) aa ab kp)
def j14 (x6 : Int) (aa : Zq0) (ab ae : Int) (af ah : Int) (ai aj : Int) (ak : BA) (al am : Int) (an ao : Int) (ap aq : Int) (ac : BA) (ad : Int) (k : Int → Int → Int → Int → Int → Zq2 → BA → Int → Zq0 → Int → Prop) (k1 : Int → Int → Int → Int → Int → Zq2 → BA → Int → LB → Zq0 → Int → Prop) (k2 : Int → Int → Int → Int → Int → Zq2 → BA → Int → LB → LI → Zq0 → Int → Prop) (kp : Err → Prop) : Prop :=
 (N165.f aa (IntKind.i64.wrap (ab + (1 : Int))) x6 an ao ap aq ac ad (fun b5 b6 b7 b8 b9 ga gb gc gd g3 => (N95.f (ByteArray.mk #[59]) b5 b6 (fun ge gf => (k b7 b8 b9 ga gb g3 gc gd ge gf)) kp)) (fun gh gi gj gk gl gm gn go gp g4 g5 => (N95.f (ByteArray.mk #[59]) gh gi (fun bd bf => (k1 gj gk gl gm gn g4 go gp g5 bd bf)) kp)) (fun bg bh bi bj bk bl bm bn bo gr gs gt => (N95.f (ByteArray.mk #[59]) bg bh (fun bp bq => (k2 bi bj bk bl bm gr bn bo gs gt bp bq)) kp)) kp)
def c (j2000006 : Bool → Bool → Zq0 → Int → Int → Int → Int → Int → Int → BA → Int → Int → Int → Int → Int → Int → BA → Int → Prop) (j9 : Bool → Zq0 → Int → Int → Int → Int → Int → Int → BA → Int → Int → Int → Int → Int → Int → BA → Int → Prop) (aa : Zq0) (ab : Int) (k : Int → Int → Int → Int → Int → Zq2 → BA → Int → Zq0 → Int → Prop) (k1 : Int → Int → Int → Int → Int → Zq2 → BA → Int → LB → Zq0 → Int → Prop) (k2 : Int → Int → Int → Int → Int → Zq2 → BA → Int → LB → LI → Zq0 → Int → Prop) (kp : Err → Prop) : Prop :=
 (N143.f aa ab (fun ar g6 g7 g8 g9 a2 a3 => (br (ar != (1 : Int)) (N143.f a2 a3 (fun av pc pd pe pf aw ax => (br (av != (4 : Int)) (br (av != (5 : Int)) (j2000006 (ar != (1 : Int)) (av != (6 : Int)) aw ax (0 : Int) (0 : Int) (0 : Int) (0 : Int) (0 : Int) (ByteArray.mk #[]) (0 : Int) (0 : Int) (0 : Int) (0 : Int) (0 : Int) (0 : Int) (ByteArray.mk #[]) (0 : Int)) (j2000006 (ar != (1 : Int)) false aw ax (0 : Int) (0 : Int) (0 : Int) (0 : Int) (0 : Int) (ByteArray.mk #[]) (0 : Int) (0 : Int) (0 : Int) (0 : Int) (0 : Int) (0 : Int) (ByteArray.mk #[]) (0 : Int))) (j2000006 (ar != (1 : Int)) false aw ax (0 : Int) (0 : Int) (0 : Int) (0 : Int) (0 : Int) (ByteArray.mk #[]) (0 : Int) (0 : Int) (0 : Int) (0 : Int) (0 : Int) (0 : Int) (ByteArray.mk #[]) (0 : Int))))) (j9 (ar != (1 : Int)) a2 a3 (0 : Int) (0 : Int) (0 : Int) (0 : Int) (0 : Int) (ByteArray.mk #[]) (0 : Int) (0 : Int) (0 : Int) (0 : Int) (0 : Int) (0 : Int) (ByteArray.mk #[]) (0 : Int)))))
def j13' x6 aa ab ae af ah ai aj ak al am an ao ap aq ac ad k k1 k2 kp := j13 x6 aa ab ae af ah ai aj ak al am an ao ap aq ac ad k k1 k2 kp
def j14' x6 aa ab ae af ah ai aj ak al am an ao ap aq ac ad k k1 k2 kp := j14 x6 aa ab ae af ah ai aj ak al am an ao ap aq ac ad k k1 k2 kp
def j2000011' x4 x6 az aa ab ae af ah ai aj ak al am an ao ap aq ac ad k k1 k2 kp := j2000011 (fun x6 aa ab ae af ah ai aj ak al am an ao ap aq ac ad => j13' x6 aa ab ae af ah ai aj ak al am an ao ap aq ac ad k k1 k2 kp) (fun x6 aa ab ae af ah ai aj ak al am an ao ap aq ac ad => j14' x6 aa ab ae af ah ai aj ak al am an ao ap aq ac ad k k1 k2 kp) x4 x6 az aa ab ae af ah ai aj ak al am an ao ap aq ac ad k k1 k2 kp
def j9' x4 aa ab ae af ah ai aj ak al am an ao ap aq ac ad k k1 k2 kp := j9 (fun x4 x6 az aa ab ae af ah ai aj ak al am an ao ap aq ac ad => j2000011' x4 x6 az aa ab ae af ah ai aj ak al am an ao ap aq ac ad k k1 k2 kp) x4 aa ab ae af ah ai aj ak al am an ao ap aq ac ad k k1 k2 kp
def j7' x4 aa ab ae af ah ai aj ak al am an ao ap aq ac ad k k1 k2 kp := j7 (fun x4 aa ab ae af ah ai aj ak al am an ao ap aq ac ad => j9' x4 aa ab ae af ah ai aj ak al am an ao ap aq ac ad k k1 k2 kp) x4 aa ab ae af ah ai aj ak al am an ao ap aq ac ad k k1 k2 kp
def j2000006' x4 ay aa ab ae af ah ai aj ak al am an ao ap aq ac ad k k1 k2 kp := j2000006 (fun x4 aa ab ae af ah ai aj ak al am an ao ap aq ac ad => j7' x4 aa ab ae af ah ai aj ak al am an ao ap aq ac ad k k1 k2 kp) x4 ay aa ab ae af ah ai aj ak al am an ao ap aq ac ad k k1 k2 kp
def f0 aa ab k k1 k2 kp := c (fun x4 ay aa ab ae af ah ai aj ak al am an ao ap aq ac ad => j2000006' x4 ay aa ab ae af ah ai aj ak al am an ao ap aq ac ad k k1 k2 kp) (fun x4 aa ab ae af ah ai aj ak al am an ao ap aq ac ad => j9' x4 aa ab ae af ah ai aj ak al am an ao ap aq ac ad k k1 k2 kp) aa ab k k1 k2 kp
noncomputable def f := sld f0
theorem f_def : f = f0 := sld_eq f0
def m2000006 (x4 ay : Bool) (aa : Zq0) (ab ae : Int) (af ah : Int) (ai aj : Int) (ak : BA) (al am : Int) (an ao : Int) (ap aq : Int) (ac : BA) (ad : Int) : St := { tmps := mkT 73 0 [(0, (.ptr 0 0)), (2, (.ptr 1 0)), (3, (.ptr 2 0)), (4, (.v (.bool x4))), (25, (.v (.bool ay)))], hp := [(.box 124 [(.fz Zy1 aa), (.v (.int .i64 ab))]), (.box 84 [(.v (.int .i64 ae)), (.v (.int .i64 af)), (.v (.int .i64 ah)), (.v (.int .i64 ai)), (.v (.int .i64 aj)), (.v (Value.slice none 0 0)), (.v (.string ak)), (.v (.int .i64 al)), (.v (Value.slice none 0 0)), (.v (Value.slice none 0 0))]), (.box 84 [(.v (.int .i64 am)), (.v (.int .i64 an)), (.v (.int .i64 ao)), (.v (.int .i64 ap)), (.v (.int .i64 aq)), (.v (Value.slice none 0 0)), (.v (.string ac)), (.v (.int .i64 ad)), (.v (Value.slice none 0 0)), (.v (Value.slice none 0 0))])], m := 1 }
def M2000006 (g : St → Prop) x4 ay aa ab ae af ah ai aj ak al am an ao ap aq ac ad := g (m2000006 x4 ay aa ab ae af ah ai aj ak al am an ao ap aq ac ad)
def m9 (x4 : Bool) (aa : Zq0) (ab ae : Int) (af ah : Int) (ai aj : Int) (ak : BA) (al am : Int) (an ao : Int) (ap aq : Int) (ac : BA) (ad : Int) : St := { tmps := mkT 73 0 [(0, (.ptr 0 0)), (2, (.ptr 1 0)), (3, (.ptr 2 0)), (4, (.v (.bool x4)))], hp := [(.box 124 [(.fz Zy1 aa), (.v (.int .i64 ab))]), (.box 84 [(.v (.int .i64 ae)), (.v (.int .i64 af)), (.v (.int .i64 ah)), (.v (.int .i64 ai)), (.v (.int .i64 aj)), (.v (Value.slice none 0 0)), (.v (.string ak)), (.v (.int .i64 al)), (.v (Value.slice none 0 0)), (.v (Value.slice none 0 0))]), (.box 84 [(.v (.int .i64 am)), (.v (.int .i64 an)), (.v (.int .i64 ao)), (.v (.int .i64 ap)), (.v (.int .i64 aq)), (.v (Value.slice none 0 0)), (.v (.string ac)), (.v (.int .i64 ad)), (.v (Value.slice none 0 0)), (.v (Value.slice none 0 0))])], m := 1 }
def M9 (g : St → Prop) x4 aa ab ae af ah ai aj ak al am an ao ap aq ac ad := g (m9 x4 aa ab ae af ah ai aj ak al am an ao ap aq ac ad)
def m7 (x4 : Bool) (aa : Zq0) (ab ae : Int) (af ah : Int) (ai aj : Int) (ak : BA) (al am : Int) (an ao : Int) (ap aq : Int) (ac : BA) (ad : Int) : St := { tmps := mkT 73 0 [(0, (.ptr 0 0)), (2, (.ptr 1 0)), (3, (.ptr 2 0)), (4, (.v (.bool x4)))], hp := [(.box 124 [(.fz Zy1 aa), (.v (.int .i64 ab))]), (.box 84 [(.v (.int .i64 ae)), (.v (.int .i64 af)), (.v (.int .i64 ah)), (.v (.int .i64 ai)), (.v (.int .i64 aj)), (.v (Value.slice none 0 0)), (.v (.string ak)), (.v (.int .i64 al)), (.v (Value.slice none 0 0)), (.v (Value.slice none 0 0))]), (.box 84 [(.v (.int .i64 am)), (.v (.int .i64 an)), (.v (.int .i64 ao)), (.v (.int .i64 ap)), (.v (.int .i64 aq)), (.v (Value.slice none 0 0)), (.v (.string ac)), (.v (.int .i64 ad)), (.v (Value.slice none 0 0)), (.v (Value.slice none 0 0))])], m := 1 }
def M7 (g : St → Prop) x4 aa ab ae af ah ai aj ak al am an ao ap aq ac ad := g (m7 x4 aa ab ae af ah ai aj ak al am an ao ap aq ac ad)
def m2000011 (x4 : Bool) (x6 : Int) (az : Bool) (aa : Zq0) (ab ae : Int) (af ah : Int) (ai aj : Int) (ak : BA) (al am : Int) (an ao : Int) (ap aq : Int) (ac : BA) (ad : Int) : St := { tmps := mkT 73 0 [(0, (.ptr 0 0)), (2, (.ptr 1 0)), (3, (.ptr 2 0)), (4, (.v (.bool x4))), (6, (.v (.int .i64 x6))), (47, (.v (.bool az)))], hp := [(.box 124 [(.fz Zy1 aa), (.v (.int .i64 ab))]), (.box 84 [(.v (.int .i64 ae)), (.v (.int .i64 af)), (.v (.int .i64 ah)), (.v (.int .i64 ai)), (.v (.int .i64 aj)), (.v (Value.slice none 0 0)), (.v (.string ak)), (.v (.int .i64 al)), (.v (Value.slice none 0 0)), (.v (Value.slice none 0 0))]), (.box 84 [(.v (.int .i64 am)), (.v (.int .i64 an)), (.v (.int .i64 ao)), (.v (.int .i64 ap)), (.v (.int .i64 aq)), (.v (Value.slice none 0 0)), (.v (.string ac)), (.v (.int .i64 ad)), (.v (Value.slice none 0 0)), (.v (Value.slice none 0 0))])], m := 1 }
def M2000011 (g : St → Prop) x4 x6 az aa ab ae af ah ai aj ak al am an ao ap aq ac ad := g (m2000011 x4 x6 az aa ab ae af ah ai aj ak al am an ao ap aq ac ad)
def m13 (x6 : Int) (aa : Zq0) (ab ae : Int) (af ah : Int) (ai aj : Int) (ak : BA) (al am : Int) (an ao : Int) (ap aq : Int) (ac : BA) (ad : Int) : St := { tmps := mkT 73 0 [(0, (.ptr 0 0)), (2, (.ptr 1 0)), (3, (.ptr 2 0)), (6, (.v (.int .i64 x6)))], hp := [(.box 124 [(.fz Zy1 aa), (.v (.int .i64 ab))]), (.box 84 [(.v (.int .i64 ae)), (.v (.int .i64 af)), (.v (.int .i64 ah)), (.v (.int .i64 ai)), (.v (.int .i64 aj)), (.v (Value.slice none 0 0)), (.v (.string ak)), (.v (.int .i64 al)), (.v (Value.slice none 0 0)), (.v (Value.slice none 0 0))]), (.box 84 [(.v (.int .i64 am)), (.v (.int .i64 an)), (.v (.int .i64 ao)), (.v (.int .i64 ap)), (.v (.int .i64 aq)), (.v (Value.slice none 0 0)), (.v (.string ac)), (.v (.int .i64 ad)), (.v (Value.slice none 0 0)), (.v (Value.slice none 0 0))])], m := 1 }
def M13 (g : St → Prop) x6 aa ab ae af ah ai aj ak al am an ao ap aq ac ad := g (m13 x6 aa ab ae af ah ai aj ak al am an ao ap aq ac ad)
def m14 (x6 : Int) (aa : Zq0) (ab ae : Int) (af ah : Int) (ai aj : Int) (ak : BA) (al am : Int) (an ao : Int) (ap aq : Int) (ac : BA) (ad : Int) : St := { tmps := mkT 73 0 [(0, (.ptr 0 0)), (2, (.ptr 1 0)), (3, (.ptr 2 0)), (6, (.v (.int .i64 x6)))], hp := [(.box 124 [(.fz Zy1 aa), (.v (.int .i64 ab))]), (.box 84 [(.v (.int .i64 ae)), (.v (.int .i64 af)), (.v (.int .i64 ah)), (.v (.int .i64 ai)), (.v (.int .i64 aj)), (.v (Value.slice none 0 0)), (.v (.string ak)), (.v (.int .i64 al)), (.v (Value.slice none 0 0)), (.v (Value.slice none 0 0))]), (.box 84 [(.v (.int .i64 am)), (.v (.int .i64 an)), (.v (.int .i64 ao)), (.v (.int .i64 ap)), (.v (.int .i64 aq)), (.v (Value.slice none 0 0)), (.v (.string ac)), (.v (.int .i64 ad)), (.v (Value.slice none 0 0)), (.v (Value.slice none 0 0))])], m := 1 }
def M14 (g : St → Prop) x6 aa ab ae af ah ai aj ak al am an ao ap aq ac ad := g (m14 x6 aa ab ae af ah ai aj ak al am an ao ap aq ac ad)
def K0 (k : KT) (a4 a5 : Int) (a6 au a7 : Int) (a8 : Zq2) (a9 : BA) (ba : Int) (bb : Zq0) (bc : Int) : Prop := k (.agg [(.v (.int .i64 a4)), (.v (.int .i64 a5)), (.v (.int .i64 a6)), (.v (.int .i64 au)), (.v (.int .i64 a7)), (.fz (Ty.pair Zy3 Zy0) a8), (.v (.string a9)), (.v (.int .i64 ba)), (.v (Value.slice none 0 0)), (.v (Value.slice none 0 0))]) [(.box 124 [(.fz Zy1 bb), (.v (.int .i64 bc))])]
def K1 (k : KT) (a4 a5 : Int) (a6 au a7 : Int) (a8 : Zq2) (a9 : BA) (ba : Int) (gq : LB) (bb : Zq0) (bc : Int) : Prop := k (.agg [(.v (.int .i64 a4)), (.v (.int .i64 a5)), (.v (.int .i64 a6)), (.v (.int .i64 au)), (.v (.int .i64 a7)), (.fz (Ty.pair Zy3 Zy0) a8), (.v (.string a9)), (.v (.int .i64 ba)), (.fz Ty.str gq), (.v (Value.slice none 0 0))]) [(.box 124 [(.fz Zy1 bb), (.v (.int .i64 bc))])]
def K2 (k : KT) (a4 a5 : Int) (a6 au a7 : Int) (a8 : Zq2) (a9 : BA) (ba : Int) (gq : LB) (pg : LI) (bb : Zq0) (bc : Int) : Prop := k (.agg [(.v (.int .i64 a4)), (.v (.int .i64 a5)), (.v (.int .i64 a6)), (.v (.int .i64 au)), (.v (.int .i64 a7)), (.fz (Ty.pair Zy3 Zy0) a8), (.v (.string a9)), (.v (.int .i64 ba)), (.fz Ty.str gq), (.fz Zy3 pg)]) [(.box 124 [(.fz Zy1 bb), (.v (.int .i64 bc))])]
def KE (kp : KT) (e : Err) : Prop := kp (.er e) (List.replicate 1 .dead)
noncomputable def T (k kp : KT) := topK cfg Tryz.f148 k kp
noncomputable def X2000006 (k kp : KT) : St → Prop := atP cfg (pick none' []) [1, 1, 1, 0, 1, 0, 0, 1, 1] body (T k kp)
noncomputable def X9 (k kp : KT) : St → Prop := atP cfg (pick none' []) [1, 1, 1, 1] body (T k kp)
noncomputable def X7 (k kp : KT) : St → Prop := atP cfg (pick none' []) [1, 1, 1, 0, 1, 0, 1] body (T k kp)
noncomputable def X2000011 (k kp : KT) : St → Prop := atP cfg (pick none' []) [1, 1, 1, 1, 1, 0, 1] body (T k kp)
noncomputable def X13 (k kp : KT) : St → Prop := atP cfg (pick none' []) [1, 1, 1, 1, 1, 0, 1, 0, 1] body (T k kp)
noncomputable def X14 (k kp : KT) : St → Prop := atP cfg (pick none' []) [1, 1, 1, 1, 1, 1] body (T k kp)
noncomputable def JJ (k kp : KT) : Nat → St → Prop := pick none' [(2000006, X2000006 k kp), (9, X9 k kp), (7, X7 k kp), (2000011, X2000011 k kp), (13, X13 k kp), (14, X14 k kp)]
noncomputable def LL (k kp : KT) : Nat → St → Prop := pick none' []
theorem j13_eq (k kp) : M13 (X13 k kp) = fun x6 aa ab ae af ah ai aj ak al am an ao ap aq ac ad => j13' x6 aa ab ae af ah ai aj ak al am an ao ap aq ac ad (K0 k) (K1 k) (K2 k) (KE kp) := by
 funext x6 aa ab ae af ah ai aj ak al am an ao ap aq ac ad
 exact raw_eq (own:=13) rfl (JJ k kp) (LL k kp) (fun J L => j13 x6 aa ab ae af ah ai aj ak al am an ao ap aq ac ad (K0 k) (K1 k) (K2 k) (KE kp)) (by kernel_rfl) (fun _ _ => by kernel_rfl) rfl
theorem j14_eq (k kp) : M14 (X14 k kp) = fun x6 aa ab ae af ah ai aj ak al am an ao ap aq ac ad => j14' x6 aa ab ae af ah ai aj ak al am an ao ap aq ac ad (K0 k) (K1 k) (K2 k) (KE kp) := by
 funext x6 aa ab ae af ah ai aj ak al am an ao ap aq ac ad
 exact raw_eq (own:=14) rfl (JJ k kp) (LL k kp) (fun J L => j14 x6 aa ab ae af ah ai aj ak al am an ao ap aq ac ad (K0 k) (K1 k) (K2 k) (KE kp)) (by kernel_rfl) (fun _ _ => by kernel_rfl) rfl
theorem j2000011_eq (k kp) : M2000011 (X2000011 k kp) = fun x4 x6 az aa ab ae af ah ai aj ak al am an ao ap aq ac ad => j2000011' x4 x6 az aa ab ae af ah ai aj ak al am an ao ap aq ac ad (K0 k) (K1 k) (K2 k) (KE kp) := by
 funext x4 x6 az aa ab ae af ah ai aj ak al am an ao ap aq ac ad
 exact raw_eq (own:=2000011) rfl (JJ k kp) (LL k kp) (fun J L => j2000011 (M13 (J 13)) (M14 (J 14)) x4 x6 az aa ab ae af ah ai aj ak al am an ao ap aq ac ad (K0 k) (K1 k) (K2 k) (KE kp)) (by kernel_rfl) (fun _ _ => by kernel_rfl) (by erw [j13_eq k kp, j14_eq k kp] <;> rfl)
theorem j9_eq (k kp) : M9 (X9 k kp) = fun x4 aa ab ae af ah ai aj ak al am an ao ap aq ac ad => j9' x4 aa ab ae af ah ai aj ak al am an ao ap aq ac ad (K0 k) (K1 k) (K2 k) (KE kp) := by
 funext x4 aa ab ae af ah ai aj ak al am an ao ap aq ac ad
 exact raw_eq (own:=9) rfl (JJ k kp) (LL k kp) (fun J L => j9 (M2000011 (J 2000011)) x4 aa ab ae af ah ai aj ak al am an ao ap aq ac ad (K0 k) (K1 k) (K2 k) (KE kp)) (by kernel_rfl) (fun _ _ => by kernel_rfl) (by erw [j2000011_eq k kp] <;> rfl)
theorem j7_eq (k kp) : M7 (X7 k kp) = fun x4 aa ab ae af ah ai aj ak al am an ao ap aq ac ad => j7' x4 aa ab ae af ah ai aj ak al am an ao ap aq ac ad (K0 k) (K1 k) (K2 k) (KE kp) := by
 funext x4 aa ab ae af ah ai aj ak al am an ao ap aq ac ad
 exact raw_eq (own:=7) rfl (JJ k kp) (LL k kp) (fun J L => j7 (M9 (J 9)) x4 aa ab ae af ah ai aj ak al am an ao ap aq ac ad (K0 k) (K1 k) (K2 k) (KE kp)) (by kernel_rfl) (fun _ _ => by kernel_rfl) (by erw [j9_eq k kp] <;> rfl)
theorem j2000006_eq (k kp) : M2000006 (X2000006 k kp) = fun x4 ay aa ab ae af ah ai aj ak al am an ao ap aq ac ad => j2000006' x4 ay aa ab ae af ah ai aj ak al am an ao ap aq ac ad (K0 k) (K1 k) (K2 k) (KE kp) := by
 funext x4 ay aa ab ae af ah ai aj ak al am an ao ap aq ac ad
 exact raw_eq (own:=2000006) rfl (JJ k kp) (LL k kp) (fun J L => j2000006 (M7 (J 7)) x4 ay aa ab ae af ah ai aj ak al am an ao ap aq ac ad (K0 k) (K1 k) (K2 k) (KE kp)) (by kernel_rfl) (fun _ _ => by kernel_rfl) (by erw [j7_eq k kp] <;> rfl)
def pa (aa : Zq0) (ab : Int) : List D := [(.ptr 0 0)]
def pb (aa : Zq0) (ab : Int) : List Blk := [(.box 124 [(.fz Zy1 aa), (.v (.int .i64 ab))])]
theorem body_is : Tryz.f148.body = some body := by kernel_rfl
theorem f_eq (k kp aa ab) : funW cfg Tryz.f148 (pa aa ab) (pb aa ab) k kp = f aa ab (K0 k) (K1 k) (K2 k) (KE kp) :=
 raw_fun (own := 1000001) none'' (JJ k kp) (LL k kp) (fun J L => c (M2000006 (J 2000006)) (M9 (J 9)) aa ab (K0 k) (K1 k) (K2 k) (KE kp)) body_is (by kernel_rfl) (fun J L => by kernel_rfl) (by rw [f_def]; erw [j2000006_eq k kp, j9_eq k kp] <;> rfl)
noncomputable def ent0 : Entry := fun args blks k kp => match args, blks with
 | [d0], [e0] => aPtr 0 0 d0 (aBox 124 e0 fun l => aCons l fun ph l => aCons l fun pi l => aNil l (aFz Zy1 ph fun aa => aInt IntKind.i64 pi fun ab => f aa ab (K0 k) (K1 k) (K2 k) (KE kp)))
 | _, _ => False
noncomputable def ent : Entry := cvE [.no] ent0
theorem ok : EntOk Tryz.prog 112 157 148 ent := by
 refine fnOk (cfg := cfg) rfl rfl rfl rfl (by kernel_rfl) ?_ Tryz.func148 (by rfl) (by rfl) ?_
 ·exact tab_c N143.ok <| tab_c N142.ok <| tab_c N164.ok <| tab_c N163.ok <| tab_c N95.ok <| tab_c N165.ok <| tab_n
 ·intro args blks k kp h k' kp'
  match args, blks, h with
  | [d0], [e0], h =>
  dsimp only [ent0] at h
  repeat ((first|have q := aPtr_elim h|have q := aBox_elim h|have q := aCons_elim h|have q := aNil_elim h|have q := aFz_elim h|have q := aInt_elim h); clear h; first|obtain ⟨rfl, h⟩ := q|obtain ⟨_, rfl, h⟩ := q|obtain ⟨_, _, rfl, h⟩ := q)
  exact (f_eq ..).symm
end N148
end Go.Proofs.Yf
