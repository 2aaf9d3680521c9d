/- Sums and products of any numbers are the same in any order, and what is between parentheses is reckoned first; with no conditions. -/
import Derived.Test.YtidclggijmbffaaDoorFoL2
import Derived.Test.YtidclggijmbffaaDoorFoL0
import Derived.WalkKit
import Derived.LaidEql
import Derived.RowKitTokens
import Derived.Deep.RegionHeld3
import Derived.Deep.AppendLies
import Derived.Deep.RegionLaw
import Derived.Deep.RegionWith
import Derived.WalkMore
import Derived.Test.YtidclggijmbffaaDoorT2
import Derived.Test.YtidclggijmbffaaDoorCards
import Derived.Test.YtidclggijmbffaaDoorTie
import Derived.SevenTiedAt
import Derived.Deep.DeepHandedRow
import Derived.Test.YtidclggijmbffaaDoorRows
import Derived.ProofKit
import Derived.OpenShut
import Derived.ShutString
import Derived.ChangeOld
import Derived.Below
import Derived.SizedLaws
import Derived.Deep.CondSized
set_option linter.unusedVariables false
set_option linter.unusedSimpArgs false
namespace Go.Proofs.Ye
open Go Go.Aw Go.Proofs Go.RowKit Go.Extern
set_option maxRecDepth 100000
theorem G.infoFr : (Tryd.prog.info? 69).map (fun i => (i.zero, i.size, i.bytes)) = some (some (.agg #[.int .i64 0, .int .i64 0, .int .i64 0, .bool false, .bool false]), 5, 32) := by kernel_rfl
theorem G.FM_open {l : List LTok} {st : List Fr} {n : Int} {a : Nat} (h : a ≤ l.length) (ho : isTk (tokAt l a) sOpen = true) (hl : st.length ≠ 32) : FM l true st n a = FM l true (Fr.fresh :: st) 0 (a + 1) := by
  unfold FM
  rw [show l.length + 1 - a = (l.length + 1 - (a + 1)) + 1 by omega]
  cases st <;> rw [foldM, if_pos ho, if_neg hl]
theorem G.FM_deep {l : List LTok} {st : List Fr} {n : Int} {a : Nat} (h : a ≤ l.length) (ho : isTk (tokAt l a) sOpen = true) (hl : st.length = 32) : FM l true st n a = .bad 21 (tokAt l a) := by
  unfold FM
  rw [show l.length + 1 - a = (l.length + 1 - (a + 1)) + 1 by omega]
  cases st <;> rw [foldM, if_pos ho, if_pos hl]
structure G.St (w w' : World) (l : List LTok) (x : FRes) (m : Bool) (i : Nat) (st : List Fr) (v : Value) (n : Int) : Prop where
  lt : i < l.length
  len : st.length ≤ 32
  add : ∀ f ∈ st, f.add = 1 ∨ f.add = 2
  bel : Below w.heap.size w w'
  row : w'.ownsRow w.heap.size 69 5 v st.length (rowC st)
  val : x = FM l m st n i
  one : st = [] → m = true ∧ isTk (tokAt l i) sOpen = true
def G.J (w : World) (A : Option Addr) (cap : Nat) (l : List LTok) (x : FRes) : Nat → Act → World → Prop
  | 0, a, w' => ∃ (i : Nat) (st : List Fr) (v : Value) (u : Nat → Value), a = { tmps := #[.slice A l.length cap, .int .i64 i, u 2, u 3, u 4, u 5, u 6, v, u 8, u 9, u 10, u 11, u 12, u 13, u 14, u 15, u 16, u 17, u 18, u 19, u 20, u 21, u 22, u 23, u 24, u 25, u 26, u 27, u 28, u 29, u 30, u 31, u 32, u 33, u 34, u 35, u 36, u 37, u 38, u 39, u 40, u 41, u 42, u 43, u 44, u 45, u 46, u 47, u 48, u 49, u 50, u 51, u 52, u 53, u 54, u 55, u 56, u 57, u 58, u 59, u 60, u 61, u 62, u 63, u 64, u 65, u 66, u 67, u 68, u 69, u 70, u 71, u 72, u 73, u 74, u 75, u 76, u 77, u 78, u 79, u 80, u 81, u 82, u 83, u 84, u 85, u 86, u 87, u 88, u 89, u 90, u 91, u 92, u 93, u 94, u 95, u 96, u 97, u 98, u 99, u 100, u 101, u 102, u 103, u 104, u 105, u 106, u 107, u 108, u 109, u 110, u 111, u 112, u 113, u 114, u 115, u 116, u 117, u 118, u 119, u 120, u 121, u 122, u 123, u 124, u 125, u 126, u 127, u 128, u 129, u 130, u 131, u 132, u 133, u 134, u 135, u 136, u 137, u 138, u 139, u 140, u 141, u 142, u 143, u 144, u 145, u 146, u 147, u 148, u 149, u 150, u 151, u 152, u 153], defers := [] } ∧ G.St w w' l x true i st v 0
  | 1, a, w' => ∃ (i : Nat) (st : List Fr) (v : Value) (n : Int) (u : Nat → Value), a = { tmps := #[.slice A l.length cap, .int .i64 i, u 2, u 3, u 4, u 5, u 6, v, .int .i64 n, u 9, u 10, u 11, u 12, u 13, u 14, u 15, u 16, u 17, u 18, u 19, u 20, u 21, u 22, u 23, u 24, u 25, u 26, u 27, u 28, u 29, u 30, u 31, u 32, u 33, u 34, u 35, u 36, u 37, u 38, u 39, u 40, u 41, u 42, u 43, u 44, u 45, u 46, u 47, u 48, u 49, u 50, u 51, u 52, u 53, u 54, u 55, u 56, u 57, u 58, u 59, u 60, u 61, u 62, u 63, u 64, u 65, u 66, u 67, u 68, u 69, u 70, u 71, u 72, u 73, u 74, u 75, u 76, u 77, u 78, u 79, u 80, u 81, u 82, u 83, u 84, u 85, u 86, u 87, u 88, u 89, u 90, u 91, u 92, u 93, u 94, u 95, u 96, u 97, u 98, u 99, u 100, u 101, u 102, u 103, u 104, u 105, u 106, u 107, u 108, u 109, u 110, u 111, u 112, u 113, u 114, u 115, u 116, u 117, u 118, u 119, u 120, u 121, u 122, u 123, u 124, u 125, u 126, u 127, u 128, u 129, u 130, u 131, u 132, u 133, u 134, u 135, u 136, u 137, u 138, u 139, u 140, u 141, u 142, u 143, u 144, u 145, u 146, u 147, u 148, u 149, u 150, u 151, u 152, u 153], defers := [] } ∧ G.St w w' l x false i st v n
  | _, _, _ => False
theorem G.mkJ0 {w : World} {A : Option Addr} {cap : Nat} {l : List LTok} {x : FRes} {a : Act} {w' : World} (i : Nat) (st : List Fr) (v : Value) (u : Nat → Value) (hu : u = fun j => a.tmps.toList.getD j undef) (h : a = { tmps := #[.slice A l.length cap, .int .i64 i, u 2, u 3, u 4, u 5, u 6, v, u 8, u 9, u 10, u 11, u 12, u 13, u 14, u 15, u 16, u 17, u 18, u 19, u 20, u 21, u 22, u 23, u 24, u 25, u 26, u 27, u 28, u 29, u 30, u 31, u 32, u 33, u 34, u 35, u 36, u 37, u 38, u 39, u 40, u 41, u 42, u 43, u 44, u 45, u 46, u 47, u 48, u 49, u 50, u 51, u 52, u 53, u 54, u 55, u 56, u 57, u 58, u 59, u 60, u 61, u 62, u 63, u 64, u 65, u 66, u 67, u 68, u 69, u 70, u 71, u 72, u 73, u 74, u 75, u 76, u 77, u 78, u 79, u 80, u 81, u 82, u 83, u 84, u 85, u 86, u 87, u 88, u 89, u 90, u 91, u 92, u 93, u 94, u 95, u 96, u 97, u 98, u 99, u 100, u 101, u 102, u 103, u 104, u 105, u 106, u 107, u 108, u 109, u 110, u 111, u 112, u 113, u 114, u 115, u 116, u 117, u 118, u 119, u 120, u 121, u 122, u 123, u 124, u 125, u 126, u 127, u 128, u 129, u 130, u 131, u 132, u 133, u 134, u 135, u 136, u 137, u 138, u 139, u 140, u 141, u 142, u 143, u 144, u 145, u 146, u 147, u 148, u 149, u 150, u 151, u 152, u 153], defers := [] }) (hs : G.St w w' l x true i st v 0) : G.J w A cap l x 0 a w' :=
  ⟨i, st, v, u, h, hs⟩
theorem G.mkJ1 {w : World} {A : Option Addr} {cap : Nat} {l : List LTok} {x : FRes} {a : Act} {w' : World} (i : Nat) (st : List Fr) (v : Value) (n : Int) (u : Nat → Value) (hu : u = fun j => a.tmps.toList.getD j undef) (h : a = { tmps := #[.slice A l.length cap, .int .i64 i, u 2, u 3, u 4, u 5, u 6, v, .int .i64 n, u 9, u 10, u 11, u 12, u 13, u 14, u 15, u 16, u 17, u 18, u 19, u 20, u 21, u 22, u 23, u 24, u 25, u 26, u 27, u 28, u 29, u 30, u 31, u 32, u 33, u 34, u 35, u 36, u 37, u 38, u 39, u 40, u 41, u 42, u 43, u 44, u 45, u 46, u 47, u 48, u 49, u 50, u 51, u 52, u 53, u 54, u 55, u 56, u 57, u 58, u 59, u 60, u 61, u 62, u 63, u 64, u 65, u 66, u 67, u 68, u 69, u 70, u 71, u 72, u 73, u 74, u 75, u 76, u 77, u 78, u 79, u 80, u 81, u 82, u 83, u 84, u 85, u 86, u 87, u 88, u 89, u 90, u 91, u 92, u 93, u 94, u 95, u 96, u 97, u 98, u 99, u 100, u 101, u 102, u 103, u 104, u 105, u 106, u 107, u 108, u 109, u 110, u 111, u 112, u 113, u 114, u 115, u 116, u 117, u 118, u 119, u 120, u 121, u 122, u 123, u 124, u 125, u 126, u 127, u 128, u 129, u 130, u 131, u 132, u 133, u 134, u 135, u 136, u 137, u 138, u 139, u 140, u 141, u 142, u 143, u 144, u 145, u 146, u 147, u 148, u 149, u 150, u 151, u 152, u 153], defers := [] }) (hs : G.St w w' l x false i st v n) : G.J w A cap l x 1 a w' :=
  ⟨i, st, v, n, u, h, hs⟩
def G.Post (w : World) (x : FRes) : Ending → World → Prop := fun e w' => ∃ v, e = .returned (.tuple #[.int .i64 x.n, .int .i64 x.at_, v]) ∧ Below w.heap.size w w' ∧ ErrV 49 w.heap.size w' x.code x.pos v
def G.mu (l : List LTok) : Act → World → Nat := fun a _ => match a.tmps.getD 1 undef with
  | .int _ n => l.length - n.toNat
  | _ => 0
set_option maxHeartbeats 4000000 in
theorem G.value_run (l : List LTok) (A : Option Addr) (cap : Nat) (at_ : Int) (w : World) (hl : l.length ≤ 1000000000) (hA : LAt w w.heap.size A l) (hG : HdlAt Tryd.prog w) (hw : 0 < w.heap.size) :
    Calls Tryd.prog 19 #[.slice A l.length cap, .int .i64 at_] w (G.Post w (foldV l at_)) := by
  by_cases h0 : at_ < 0
  · have e : foldV l at_ = ⟨0, 0, 1, 0⟩ := by unfold foldV; rw [if_pos (.inl h0)]
    have h02 : decide (at_ < 0) = true := by simpa using h0
    rw [e]
    go_enter Tryd.func19, Tryd.ntmps19
    go_wp2
    go_step3
    go_wp2_with (go_at_call 22; (with_reducible refine (F.new_run _ _ _).mono ?_); rintro e w2 he; rw [if_neg (by decide)] at he; obtain ⟨rfl, rfl⟩ := he)
    rw [Exit.noGoto_ret]
    go_ret3
    exact ⟨_, rfl, (Below.refl _ w).alloc (Nat.le_refl _) _, errV_flt (by decide) (by simp) (by simp) (by simp)⟩
  by_cases h1 : at_ ≥ (l.length : Int)
  · have e : foldV l at_ = ⟨0, 0, 1, 0⟩ := by unfold foldV; rw [if_pos (.inr (.inl h1))]
    have h02 : decide (at_ < 0) = false := by simpa using h0
    have h12 : decide (at_ ≥ (l.length : Int)) = true := by simpa using h1
    rw [e]
    go_enter Tryd.func19, Tryd.ntmps19
    go_wp2
    go_step3
    go_wp2_with (go_at_call 22; (with_reducible refine (F.new_run _ _ _).mono ?_); rintro e w2 he; rw [if_neg (by decide)] at he; obtain ⟨rfl, rfl⟩ := he)
    rw [Exit.noGoto_ret]
    go_ret3
    exact ⟨_, rfl, (Below.refl _ w).alloc (Nat.le_refl _) _, errV_flt (by decide) (by simp) (by simp) (by simp)⟩
  obtain ⟨i, rfl⟩ : ∃ i : Nat, at_ = i := ⟨at_.toNat, by omega⟩
  have hi : i < l.length := by omega
  obtain ⟨pb, po, rfl, hp, ht⟩ := hA.tok (fun h => by rw [h] at hi; simp at hi)
  obtain ⟨z0, z1, z2, z3, z4⟩ := ht (l.length - 1) (by omega)
  have hlen1 : 0 < l.length := by omega
  have en1 : (l.length : Int) - 1 = ((l.length - 1 : Nat) : Int) := by omega
  have en2 : IntKind.i64.wrap ((l.length - 1 : Nat) : Int) = ((l.length - 1 : Nat) : Int) := wrap_id (by omega) (by omega)
  have en3 : ((l.length - 1 : Nat) : Int) < (l.length : Int) := by omega
  have en4 : l.length - 1 < l.length := by omega
  have g1 : decide ((i : Int) < 0) = false := by simp
  have g2 : decide (l.length ≤ i) = false := by simpa using hi
  by_cases h2 : lastKind l ≠ 0
  · have e : foldV l i = ⟨0, 0, 1, 0⟩ := by unfold foldV; rw [if_pos (.inr (.inr h2))]
    have h22 : ((tokAt l (l.length - 1)).1 != 0) = true := by simpa [lastKind, LTok.kind] using h2
    rw [e]
    go_enter Tryd.func19, Tryd.ntmps19
    go_wp2
    go_step3
    go_wp2_with (go_at_call 22; (with_reducible refine (F.new_run _ _ _).mono ?_); rintro e w2 he; rw [if_neg (by decide)] at he; obtain ⟨rfl, rfl⟩ := he)
    rw [Exit.noGoto_ret]
    go_ret3
    exact ⟨_, rfl, (Below.refl _ w).alloc (Nat.le_refl _) _, errV_flt (by decide) (by simp) (by simp) (by simp)⟩
  have h2 : lastKind l = 0 := by simpa using h2
  have h22 : ((tokAt l (l.length - 1)).1 != 0) = false := by
    have : (tokAt l (l.length - 1)).1 = 0 := h2
    rw [this]; rfl
  obtain ⟨a0, a1, a2, a3, a4⟩ := ht i hi
  by_cases h3 : isTk (tokAt l i) sOpen = false
  · have e : foldV l i = plainF l i := by unfold foldV; rw [if_neg (by omega), Int.toNat_natCast, if_pos h3]
    rw [e]
    have hb0 : Below w.heap.size w w := Below.refl _ _
    go_enter Tryd.func19, Tryd.ntmps19
    go_wp2
    go_step3
    go_wp2_with (go_at_call 21; (with_reducible refine (G.is_run3 _ _ false h3 _ hG).mono ?_); rintro e w1 ⟨rfl, hb1⟩; obtain ⟨hc, hf⟩ := G.bcell hb1; have hG1 := G.hbel hG hb1 hw; have hz1 := hb1.size; have hA1 := hA.below hb1 (Nat.le_refl _))
    have hp1 := G.plain_run l _ cap i w1 hi h2 hl (hA1.mono hz1) hG1 (Nat.lt_of_lt_of_le hw hz1)
    go_wp2_with (go_at_call 29; (with_reducible refine (hp1).mono ?_); rintro e w2 ⟨v, rfl, hb2, hev⟩)
    rw [Exit.noGoto_ret]
    go_ret3
    exact ⟨_, rfl, hb1.trans (hb2.mono hz1), hev.mono hz1⟩
  · have h3 : isTk (tokAt l i) sOpen = true := by simpa using h3
    have e : foldV l i = FM l true [] 0 i := by unfold foldV; rw [if_neg (by omega), Int.toNat_natCast, if_neg (by rw [h3]; decide)]; rfl
    rw [e]
    generalize hx : FM l true [] 0 i = x
    go_enter Tryd.func19, Tryd.ntmps19
    go_wp2
    refine wp_scope_two (G.J w (some ⟨pb, po, none⟩) cap l x) (G.mu l) rfl rfl (fun l' a w' h => ?_) (fun a w' m hJ hm => ?_) (fun hbeh a w' m hJ hm => ?_) (l.length + 1) (fun hop => ?_)
    · match l', h with
      | 0, _ => exact .inl rfl
      | 1, _ => exact .inr rfl
    · obtain ⟨i', st, v, n, u, rfl, hs⟩ := hJ
      obtain ⟨hi', hsl, hadd, hbel, hrow, hval, hone⟩ := hs
      have hm' : l.length - i' ≤ m := hm
      clear hm z0 z1 z2 z3 z4 en1 en2 en3 en4 a0 a1 a2 a3 a4 g1 g2 h22
      obtain ⟨a0, a1, a2, a3, a4⟩ := (hA.below hbel (Nat.le_refl _)).tok' hi'
      match st, hone with
      | [], hone => exact absurd (hone rfl).1 (by decide)
      | f :: r, _ =>
      have hG' := G.hbel hG hbel hw
      have hBw : w.heap.size ≤ w'.heap.size := hbel.size
      have hB : 0 < w.heap.size := hw
      have hval2 : x = aft l (f.number n) r i' := by rw [hval, FM_false (Nat.le_of_lt hi')]
      rw [rowC_cons, List.length_cons] at hrow
      obtain ⟨g, capv, rfl, hgB, hgl⟩ := hrow.form (by omega)
      have hcap := row_cap hrow
      have hys : (rowC r).length = r.length * 5 := rowC_len r
      have hadd1 : (f.number n).add = 1 ∨ (f.number n).add = 2 := hadd f (by simp)
      have hr32 : r.length ≤ 31 := by simpa using hsl
      have k1 : ((r.length + 1 : Nat) : Int) - 1 = (r.length : Int) := by omega
      have k2 : (r.length : Int) + 1 - 1 = (r.length : Int) := by omega
      have k3 : IntKind.i64.wrap (r.length : Int) = (r.length : Int) := wrap_id (by omega) (by omega)
      have k4 : (r.length : Int) < (r.length : Int) + 1 := by omega
      have k5 : IntKind.i64.wrap ((i' : Int) + 1) = ((i' : Int) + 1) := wrap_id (by omega) (by omega)
      have HR : Hid (w'.ownsRow w.heap.size 69 5 (.slice (some ⟨g, 0, none⟩) (r.length + 1) capv) (r.length + 1) (rowC r ++ frC f)) := hrow
      have haddr : Hid (∀ f ∈ r, f.add = 1 ∨ f.add = 2) := fun f hf => hadd f (by simp [hf])
      clear hrow hadd hone hval hx hA ht
      generalize hyr : rowC r = ys at *
      generalize hkr : r.length = k at *
      have hm5 : ys.length + 5 = (k + 1) * 5 := by omega
      cases hsg : (f.number n).sign (tokAt l i') with
      | some f2 =>
        have hs1 : ((f.number n).sign (tokAt l i')).isSome = true := by rw [hsg]; rfl
        have hs2 : G.sgF (f.number n) (tokAt l i') = f2 := by unfold G.sgF; rw [hsg]
        go_wp2_with (go_at_call 32; (with_reducible refine (G.number_at n _ hys (unhid HR) hm5 hG' hB).mono ?_); rintro e w2 ⟨rfl, hb2, hr2⟩; obtain ⟨hc2, hf2⟩ := bcellB hb2; have hG2 := G.hbel hG' hb2 hw; have HR2 := hid hr2; have hz2 := hb2.size; clear hr2)
        have hG3 : HdlAt Tryd.prog w2.drew := hG2
        have HR3 : Hid (w2.drew.ownsRow w.heap.size 69 5 (.slice (some ⟨g, 0, none⟩) (k + 1) capv) (k + 1) (ys ++ frC (f.number n))) := HR2
        have hz3 : w.heap.size ≤ w2.drew.heap.size := Nat.le_trans hBw hz2
        go_region_with (go_at_call 33; (with_reducible refine (G.sign_at (tokAt l i') true f2 hs1 hs2 _ hys (unhid HR3) hm5 hG3 hB hz3 hadd1).mono ?_); rintro e w3 ⟨rfl, hb3, hr3⟩; have HR4 := hid hr3; clear hr3)
        go_wp2
        go_step3
        have hb4 : Below w.heap.size w w3 := (hbel.trans hb2).trans (Below.trans (Below.drew (Below.refl _ w2)) hb3)
        have hk1 := G.last_kind h2 hi' (G.sign_kind hsg)
        have e5 : (i' : Int) + 1 = ((i' + 1 : Nat) : Int) := by omega
        rw [e5]
        refine ⟨G.mkJ0 (i' + 1) (f2 :: r) _ _ rfl (by rfl) ⟨hk1, hsl, fun f0 hf0 => ?_, hb4, ?_, ?_, fun h => absurd h (by simp)⟩, ?_⟩
        · rcases List.mem_cons.1 hf0 with rfl | hf0
          · exact G.sign_add hsg hadd1
          · exact haddr f0 hf0
        · rw [rowC_cons, List.length_cons, hyr, hkr]; exact HR4
        · rw [hval2]; unfold aft; rw [hsg]
        · show l.length - (((i' + 1 : Nat) : Int)).toNat < m
          omega
      | none =>
        have hs1 : ((f.number n).sign (tokAt l i')).isSome = false := by rw [hsg]; rfl
        have hs2 : G.sgF (f.number n) (tokAt l i') = f.number n := by unfold G.sgF; rw [hsg]
        go_wp2_with (go_at_call 32; (with_reducible refine (G.number_at n _ hys (unhid HR) hm5 hG' hB).mono ?_); rintro e w2 ⟨rfl, hb2, hr2⟩; obtain ⟨hc2, hf2⟩ := bcellB hb2; have hG2 := G.hbel hG' hb2 hw; have HR2 := hid hr2; have hz2 := hb2.size; clear hr2)
        have hG3 : HdlAt Tryd.prog w2.drew := hG2
        have HR3 : Hid (w2.drew.ownsRow w.heap.size 69 5 (.slice (some ⟨g, 0, none⟩) (k + 1) capv) (k + 1) (ys ++ frC (f.number n))) := HR2
        have hz3 : w.heap.size ≤ w2.drew.heap.size := Nat.le_trans hBw hz2
        go_region_with (go_at_call 33; (with_reducible refine (G.sign_at (tokAt l i') false (f.number n) hs1 hs2 _ hys (unhid HR3) hm5 hG3 hB hz3 hadd1).mono ?_); rintro e w3 ⟨rfl, hb3, hr3⟩; have HR4 := hid hr3; clear hr3)
        have hb4 : Below w.heap.size w w3 := (hbel.trans hb2).trans (Below.trans (Below.drew (Below.refl _ w2)) hb3)
        have hb34 : Below w.heap.size w2 w3 := Below.trans (Below.drew (Below.refl _ w2)) hb3
        obtain ⟨hc3, hf3⟩ := bcellB hb34
        have hG4 := G.hbel hG2 hb34 hw
        have hw3 : w.heap.size ≤ w3.heap.size := Nat.le_trans hz3 hb34.size
        clear HR HR2 HR3 hG3 hz3
        by_cases hcl : isTk (tokAt l i') sClose = false
        · have hx : x = .bad 20 (tokAt l i') := by rw [hval2]; unfold aft; rw [hsg]; dsimp only; rw [if_pos hcl]
          go_wp2_with (go_at_call 21; (with_reducible refine (G.is_run3 _ _ false hcl _ hG4).mono ?_); rintro e w5 ⟨rfl, hb5⟩; obtain ⟨hc5, hf5⟩ := G.bcell hb5; have hpz : pb < w3.heap.size := (Nat.lt_of_lt_of_le hp hw3))
          go_wp2_with (go_at_call 31; (with_reducible refine (G.wrong_run _ _).mono ?_); rintro e w6 ⟨b, rfl, hb6, hge, hx0, hx1⟩)
          simp only [Exit.jumps]
          go_ret3
          rw [hx]
          exact ⟨_, rfl, hb4.trans ((hb5.trans (hb6.mono hb5.size)).mono hw3), errV_bad 20 (by decide) (by have := hb5.size; omega) hx0 hx1⟩
        · have hcl : isTk (tokAt l i') sClose = true := by simpa using hcl
          have hk1 := G.last_kind h2 hi' (G.tk_kind hcl)
          have k6 : (0 : Int) ≤ (k : Int) := by omega
          have k7 : k ≤ capv := by omega
          have hpz : pb < w3.heap.size := Nat.lt_of_lt_of_le hp hw3
          match hr : r, haddr, hyr, hkr, hval2 with
          | [], _, hyr, hkr, hval2 =>
            have kz : k = 0 := by simpa using hkr.symm
            have kz1 : decide (0 < k) = false := by rw [kz]; rfl
            clear hkr kz
            have hx : x = .ok (f.number n).close (i' + 1 : Nat) := by rw [hval2]; unfold aft; rw [hsg]; dsimp only; rw [if_neg (by rw [hcl]; decide), if_pos rfl]
            go_wp2_with (go_at_call 21; (with_reducible refine (G.is_run3 _ _ true hcl _ hG4).mono ?_); rintro e w5 ⟨rfl, hb5⟩; obtain ⟨hc5, hf5⟩ := G.bcell hb5; have hG5 := G.hbel hG4 hb5 (Nat.lt_of_lt_of_le hw hw3); have HR5 := hid (row_below (unhid HR4) hb5 (Nat.le_refl _)))
            go_wp2_with (go_at_call 34; (with_reducible refine (G.close_at _ hys (unhid HR5) hm5 hG5 hadd1).mono ?_); rintro e w6 ⟨rfl, hb6⟩)
            simp only [Exit.jumps]
            go_ret3
            rw [hx]
            have e5 : (i' : Int) + 1 = ((i' + 1 : Nat) : Int) := by omega
            exact ⟨_, by simp only [e5]; rfl, hb4.trans ((hb5.trans (hb6.mono hb5.size)).mono hw3), errV_nil _ _ _⟩
          | f3 :: r3, haddr, hyr, hkr, hval2 =>
            have kz : 0 < k := by rw [← hkr]; simp
            have kz1 : decide (0 < k) = true := by simpa using kz
            have hval3 : x = FM l false (f3 :: r3) (f.number n).close (i' + 1) := by rw [hval2]; unfold aft; rw [hsg]; dsimp only; rw [if_neg (by rw [hcl]; decide), if_neg (by simp)]
            clear hval2
            go_wp2_with (go_at_call 21; (with_reducible refine (G.is_run3 _ _ true hcl _ hG4).mono ?_); rintro e w5 ⟨rfl, hb5⟩; obtain ⟨hc5, hf5⟩ := G.bcell hb5; have hG5 := G.hbel hG4 hb5 (Nat.lt_of_lt_of_le hw hw3); have HR5 := hid (row_below (unhid HR4) hb5 (Nat.le_refl _)))
            go_wp2_with (go_at_call 34; (with_reducible refine (G.close_at _ hys (unhid HR5) hm5 hG5 hadd1).mono ?_); rintro e w6 ⟨rfl, hb6⟩)
            go_step3
            have e5 : (i' : Int) + 1 = ((i' + 1 : Nat) : Int) := by omega
            rw [e5]
            refine ⟨G.mkJ1 (i' + 1) (f3 :: r3) _ _ _ rfl (by rfl) ⟨hk1, by omega, fun f0 hf0 => haddr f0 hf0, hb4.trans ((hb5.trans (hb6.mono hb5.size)).mono hw3), ?_, hval3, fun h => absurd h (by simp)⟩, ?_⟩
            · rw [hyr, hkr]
              exact ownsRow_pop (by rw [hys]) (row_below (unhid HR5) hb6 (Nat.le_refl _))
            · show l.length - (((i' + 1 : Nat) : Int)).toNat < m
              omega
    · obtain ⟨i', st, v, u, rfl, hs⟩ := hJ
      obtain ⟨hi', hsl, hadd, hbel, hrow, hval, hone⟩ := hs
      have hm' : l.length - i' ≤ m := hm
      clear hm z0 z1 z2 z3 z4 en1 en2 en3 en4 a0 a1 a2 a3 a4 g1 g2 h22
      obtain ⟨a0, a1, a2, a3, a4⟩ := (hA.below hbel (Nat.le_refl _)).tok' hi'
      have hG' := G.hbel hG hbel hw
      have hBw : w.heap.size ≤ w'.heap.size := hbel.size
      have k5 : IntKind.i64.wrap ((i' : Int) + 1) = ((i' : Int) + 1) := wrap_id (by omega) (by omega)
      obtain ⟨is, his, his0, his1, his2⟩ := info_parts G.infoFr
      have hpz : pb < w'.heap.size := Nat.lt_of_lt_of_le hp hBw
      clear hA ht hx
      by_cases ho : isTk (tokAt l i') sOpen = true
      · have hk1 := G.last_kind h2 hi' (G.tk_kind ho)
        generalize htt : tokAt l i' = t at *
        have hGa : HdlAt Tryd.prog (w'.alloc (.cells #[.int .i64 t.1, .string t.2.1, .int .i64 t.2.2.1, .int .i64 t.2.2.2.1, .int .i64 t.2.2.2.2] 42)) := G.hbel hG' ((Below.refl w'.heap.size w').alloc (Nat.le_refl _) _) (by omega)
        have hRa := hid (hrow.alloc (.cells #[.int .i64 t.1, .string t.2.1, .int .i64 t.2.2.1, .int .i64 t.2.2.2.1, .int .i64 t.2.2.2.2] 42))
        have hsa : (w'.alloc (.cells #[.int .i64 t.1, .string t.2.1, .int .i64 t.2.2.1, .int .i64 t.2.2.2.1, .int .i64 t.2.2.2.2] 42)).heap.size = w'.heap.size + 1 := by simp
        have hba : Below w.heap.size w (w'.alloc (.cells #[.int .i64 t.1, .string t.2.1, .int .i64 t.2.2.1, .int .i64 t.2.2.2.1, .int .i64 t.2.2.2.2] 42)) := hbel.alloc hBw _
        rcases Nat.lt_or_ge st.length 32 with hlt | hge
        · have hval2 : x = FM l true (Fr.fresh :: st) 0 (i' + 1) := by rw [hval]; exact G.FM_open (Nat.le_of_lt hi') (by rw [htt]; exact ho) (by omega)
          clear hval hone
          have hrl : (rowC st).length = st.length * 5 := rowC_len st
          have hv : ∃ ao c, v = .slice ao st.length c := by
            rcases hrow.2 with ⟨e, h0⟩ | ⟨g, c, cur, e, _⟩
            · exact ⟨none, 0, by rw [e, h0]⟩
            · exact ⟨_, c, e⟩
          obtain ⟨ao, c, rfl⟩ := hv
          clear hrow
          generalize hks : st.length = k at *
          have k32 : (k == 32) = false := by simp; omega
          have k33 : ((k : Int) == 32) = false := by simp; omega
          go_wp2_with (go_at_call 21; (with_reducible refine (G.is_run3 _ _ true ho _ hGa).mono ?_); rintro e w1 ⟨rfl, hb1⟩; obtain ⟨hc1, hf1⟩ := G.bcell hb1; have hG1 := G.hbel hGa hb1 (by omega); have hR1 := hid (row_below (unhid hRa) hb1 (Nat.le_refl _)); have hz1 := hb1.size)
          go_wp2_with (first
            | (go_at_call 30; (with_reducible refine (G.fresh_run _).mono ?_); rintro e w2 ⟨rfl, hb2⟩; obtain ⟨hc2, hf2⟩ := G.bcell hb2; have hR2 := hid ((row_below (unhid hR1) hb2 (Nat.le_refl _)).alloc (.cells #[.int .i64 0, .int .i64 1, .int .i64 0, .bool false, .bool false] 69)); have hz2 := hb2.size; have hzz : w.heap.size ≤ w2.heap.size := (by omega))
            | (refine wpList_append_lies _ (by rfl) _ _ _ (by rfl) w.heap.size 69 is _ 5 32 Tryd.underlying67 his his0 his1 his2 (by rfl) (by omega) (.slice ao k c) k (rowC st) (by rfl) (unhid hR2)
                ⟨w2.heap.size, 0, none⟩ 1 1 [.int .i64 0, .int .i64 1, .int .i64 0, .bool false, .bool false] (by rfl) (by rfl) (World.news_of_block (cs := #[.int .i64 0, .int .i64 1, .int .i64 0, .bool false, .bool false]) (t := 69) (fr := (0, 0)) (heap_alloc_new _ _)) (by simp [Value.oneCell'])
                (by omega) (by simp [maxLen]; omega) (by omega) (by simp; omega) (w2.heap.size + 1) (by simp) ?_; intro g capv w4 hown4 hgrow4 hat4 hlt4))
          go_step3
          have e5 : (i' : Int) + 1 = ((i' + 1 : Nat) : Int) := by omega
          rw [e5]
          have hb5 : Below w.heap.size w w4 := ((((hba.trans (hb1.mono (by omega))).trans (hb2.mono (by omega))).alloc hzz _).grown hgrow4 (by simp; omega) (fun k hk => ((unhid hR2).lt k hk).1))
          refine ⟨G.mkJ0 (i' + 1) (Fr.fresh :: st) _ _ rfl (by rfl) ⟨hk1, by rw [List.length_cons]; omega, fun f0 hf0 => ?_, hb5, ?_, hval2, fun h => absurd h (by simp)⟩, ?_⟩
          · rcases List.mem_cons.1 hf0 with rfl | hf0
            · exact .inl rfl
            · exact hadd f0 hf0
          · rw [rowC_cons, List.length_cons, hks]; exact hown4
          · show l.length - (((i' + 1 : Nat) : Int)).toNat < m
            omega
        · have h32 : st.length = 32 := by omega
          have hx : x = .bad 21 t := by rw [hval, ← htt]; exact G.FM_deep (Nat.le_of_lt hi') (by rw [htt]; exact ho) h32
          have hv : ∃ ao c, v = .slice ao 32 c := by
            rcases hrow.2 with ⟨e, h0⟩ | ⟨g, c, cur, e, _⟩
            · omega
            · exact ⟨_, c, by rw [e, h32]⟩
          obtain ⟨ao, c, rfl⟩ := hv
          clear hval hone
          have hw1 : 0 < w'.heap.size := by omega
          go_wp2_with (go_at_call 21; (with_reducible refine (G.is_run3 _ _ true ho _ hGa).mono ?_); rintro e w1 ⟨rfl, hb1⟩; obtain ⟨hc1, hf1⟩ := G.bcell hb1; have hz1 := hb1.size)
          go_wp2_with (go_at_call 22; (with_reducible refine (F.new_run _ _ _).mono ?_); rintro e w2 he; rw [if_neg (by decide)] at he; obtain ⟨rfl, rfl⟩ := he)
          simp only [Exit.jumps]
          go_ret3
          rw [hx]
          refine ⟨_, rfl, (hba.trans (hb1.mono (by omega))).alloc (by omega) _, errV_bad 21 (by decide) (by omega) (by simp) (by simp)⟩
      · match st, hone with
        | [], hone => exact absurd (hone rfl).2 ho
        | f :: r, _ =>
        rw [rowC_cons, List.length_cons] at hrow
        obtain ⟨g, capv, rfl, hgB, hgl⟩ := hrow.form (by omega)
        have hys : (rowC r).length = r.length * 5 := rowC_len r
        have hr32 : r.length ≤ 31 := by simpa using hsl
        have hm5 : (rowC r).length + 5 = (r.length + 1) * 5 := by omega
        have hM : w'.cell? ⟨g, r.length * 5 + 4, none⟩ = some (.bool f.minus) := by rw [← hys]; exact last_cell hrow hm5 4 (by omega) rfl
        have hMf : w'.frozen? ⟨g, r.length * 5 + 4, none⟩ = false := hrow.frozenAt _
        have haddr : Hid (∀ f0 ∈ f :: r, f0.add = 1 ∨ f0.add = 2) := hadd
        have ho : isTk (tokAt l i') sOpen = false := by simpa using ho
        have hval2 := FM_true (f := f) (r := r) (n := 0) (Nat.le_of_lt hi') (l := l)
        rw [← hval, if_neg (by rw [ho]; decide)] at hval2
        have hnx : (tokAt l i').kind ≠ 0 → i' + 1 < l.length := G.last_kind h2 hi'
        generalize htt : tokAt l i' = t at *
        obtain ⟨tk, ts, tn, tc, tp⟩ := t
        unfold LTok.kind LTok.num at hval2
        unfold LTok.kind at hnx
        simp only at *
        have hGa : HdlAt Tryd.prog (w'.alloc (.cells #[.int .i64 tk, .string ts, .int .i64 tn, .int .i64 tc, .int .i64 tp] 42)) := G.hbel hG' ((Below.refl w'.heap.size w').alloc (Nat.le_refl _) _) (by omega)
        have hRa := hid (hrow.alloc (.cells #[.int .i64 tk, .string ts, .int .i64 tn, .int .i64 tc, .int .i64 tp] 42))
        have hsa : (w'.alloc (.cells #[.int .i64 tk, .string ts, .int .i64 tn, .int .i64 tc, .int .i64 tp] 42)).heap.size = w'.heap.size + 1 := by simp
        have hba : Below w.heap.size w (w'.alloc (.cells #[.int .i64 tk, .string ts, .int .i64 tn, .int .i64 tc, .int .i64 tp] 42)) := hbel.alloc hBw _
        clear hrow hval hadd
        have k1 : ((r.length + 1 : Nat) : Int) - 1 = (r.length : Int) := by omega
        have k2 : (r.length : Int) + 1 - 1 = (r.length : Int) := by omega
        have k3 : IntKind.i64.wrap (r.length : Int) = (r.length : Int) := wrap_id (by omega) (by omega)
        have k4 : (r.length : Int) < (r.length : Int) + 1 := by omega
        generalize hkr : r.length = k at *
        generalize hyr : rowC r = ys at *
        cases hmi : isTk ((tk, ts, tn, tc, tp) : LTok) sMinus with
        | true =>
          have hkz : ¬ tk = 2 := fun h => isTk_kind hmi h
          have htz : ¬ tk = 0 := fun h => G.tk_kind hmi h
          cases hfm : f.minus with
          | false =>
            rw [hfm] at hM
            have hx : x = FM l true ({ f with minus := true } :: r) 0 (i' + 1) := by rw [hval2, if_pos ⟨hmi, hfm⟩]
            clear hval2
            go_wp2_with (go_at_call 21; (with_reducible refine (G.is_run3 _ _ false ho _ hGa).mono ?_); rintro e w1 ⟨rfl, hb1⟩; obtain ⟨hc1, hf1⟩ := G.bcell hb1; have hz1 := hb1.size; have hG1 := G.hbel hGa hb1 (by omega); have hR1 := hid (row_below (unhid hRa) hb1 (Nat.le_refl _)); have hy1 : w'.heap.size < w1.heap.size := (by omega); have hx1 : g < w1.heap.size := (by omega))
            go_wp2_with (go_at_call 21; (with_reducible refine (G.is_run3 _ _ true hmi _ hG1).mono ?_); rintro e w2 ⟨rfl, hb2⟩; obtain ⟨hc2, hf2⟩ := G.bcell hb2; have hz2 := hb2.size; have hG2 := G.hbel hG1 hb2 (by omega); have hR2 := hid (row_below (unhid hR1) hb2 (Nat.le_refl _)); have hy2 : w'.heap.size < w2.heap.size := (by omega); have hx2 : g < w2.heap.size := (by omega))
            go_step3
            have e5 : (i' : Int) + 1 = ((i' + 1 : Nat) : Int) := by omega
            rw [e5]
            have hb5 : Below w.heap.size w w2 := (hba.trans (hb1.mono (by omega))).trans (hb2.mono (by omega))
            refine ⟨G.mkJ0 (i' + 1) ({ f with minus := true } :: r) _ _ rfl (by rfl) ⟨hnx htz, by rw [List.length_cons]; omega, fun f0 hf0 => ?_, hb5.setCell hgB _, ?_, hx, fun h => absurd h (by simp)⟩, ?_⟩
            · rcases List.mem_cons.1 hf0 with rfl | hf0
              · exact haddr f (by simp)
              · exact haddr f0 (by simp [hf0])
            · rw [rowC_cons, List.length_cons, hkr, hyr, ← hys]; exact last_set (unhid hR2) 4 _
            · show l.length - (((i' + 1 : Nat) : Int)).toNat < m
              omega
          | true =>
            rw [hfm] at hM
            have hx : x = .bad 20 (tk, ts, tn, tc, tp) := by rw [hval2, if_neg (fun h => by rw [hfm] at h; exact absurd h.2 (by decide)), if_pos hkz]
            have hkb : (tk != 2) = true := by simpa using hkz
            clear hval2
            go_wp2_with (go_at_call 21; (with_reducible refine (G.is_run3 _ _ false ho _ hGa).mono ?_); rintro e w1 ⟨rfl, hb1⟩; obtain ⟨hc1, hf1⟩ := G.bcell hb1; have hz1 := hb1.size; have hG1 := G.hbel hGa hb1 (by omega); have hR1 := hid (row_below (unhid hRa) hb1 (Nat.le_refl _)); have hy1 : w'.heap.size < w1.heap.size := (by omega); have hx1 : g < w1.heap.size := (by omega))
            go_wp2_with (go_at_call 21; (with_reducible refine (G.is_run3 _ _ true hmi _ hG1).mono ?_); rintro e w2 ⟨rfl, hb2⟩; obtain ⟨hc2, hf2⟩ := G.bcell hb2; have hz2 := hb2.size; have hG2 := G.hbel hG1 hb2 (by omega); have hR2 := hid (row_below (unhid hR1) hb2 (Nat.le_refl _)); have hy2 : w'.heap.size < w2.heap.size := (by omega); have hx2 : g < w2.heap.size := (by omega))
            go_wp2_with (go_at_call 31; (with_reducible refine (G.wrong_run (tk, ts, tn, tc, tp) _).mono ?_); rintro e w3 ⟨b, rfl, hb3, hge, hx0, hx9⟩)
            simp only [Exit.jumps]
            go_ret3
            rw [hx]
            have hb5 : Below w.heap.size w w2 := (hba.trans (hb1.mono (by omega))).trans (hb2.mono (by omega))
            exact ⟨_, rfl, hb5.trans (hb3.mono (by omega)), errV_bad 20 (by decide) (by omega) hx0 hx9⟩
        | false =>
          have hval3 := hval2
          rw [if_neg (fun h => by rw [hmi] at h; exact absurd h.1 (by decide))] at hval3
          clear hval2
          by_cases hk2 : tk = 2
          · subst hk2
            rw [if_neg (by decide)] at hval3
            by_cases hn0 : tn < 0
            · have hnb : decide (tn < 0) = true := by simpa using hn0
              cases hfm : f.minus with
              | false =>
                rw [hfm] at hM
                have hx : x = .bad 2 (2, ts, tn, tc, tp) := by rw [hval3, if_pos ⟨hn0, hfm⟩]
                clear hval3
                go_wp2_with (go_at_call 21; (with_reducible refine (G.is_run3 _ _ false ho _ hGa).mono ?_); rintro e w1 ⟨rfl, hb1⟩; obtain ⟨hc1, hf1⟩ := G.bcell hb1; have hz1 := hb1.size; have hG1 := G.hbel hGa hb1 (by omega); have hR1 := hid (row_below (unhid hRa) hb1 (Nat.le_refl _)); have hy1 : w'.heap.size < w1.heap.size := (by omega); have hx1 : g < w1.heap.size := (by omega))
                go_wp2_with (go_at_call 21; (with_reducible refine (G.is_run3 _ _ false hmi _ hG1).mono ?_); rintro e w2 ⟨rfl, hb2⟩; obtain ⟨hc2, hf2⟩ := G.bcell hb2; have hz2 := hb2.size; have hG2 := G.hbel hG1 hb2 (by omega); have hR2 := hid (row_below (unhid hR1) hb2 (Nat.le_refl _)); have hy2 : w'.heap.size < w2.heap.size := (by omega); have hx2 : g < w2.heap.size := (by omega))
                go_wp2_with (go_at_call 22; (with_reducible refine (F.new_run _ _ _).mono ?_); rintro e w3 he; rw [if_neg (by decide)] at he; obtain ⟨rfl, rfl⟩ := he)
                simp only [Exit.jumps]
                go_ret3
                rw [hx]
                have hb5 : Below w.heap.size w w2 := (hba.trans (hb1.mono (by omega))).trans (hb2.mono (by omega))
                exact ⟨_, rfl, hb5.alloc (by omega) _, errV_bad 2 (by decide) (by omega) (by simp) (by simp)⟩
              | true =>
                rw [hfm] at hM
                have hx : x = FM l false (f :: r) tn (i' + 1) := by rw [hval3, if_neg (fun h => by rw [hfm] at h; exact absurd h.2 (by decide))]
                clear hval3
                go_wp2_with (go_at_call 21; (with_reducible refine (G.is_run3 _ _ false ho _ hGa).mono ?_); rintro e w1 ⟨rfl, hb1⟩; obtain ⟨hc1, hf1⟩ := G.bcell hb1; have hz1 := hb1.size; have hG1 := G.hbel hGa hb1 (by omega); have hR1 := hid (row_below (unhid hRa) hb1 (Nat.le_refl _)); have hy1 : w'.heap.size < w1.heap.size := (by omega); have hx1 : g < w1.heap.size := (by omega))
                go_wp2_with (go_at_call 21; (with_reducible refine (G.is_run3 _ _ false hmi _ hG1).mono ?_); rintro e w2 ⟨rfl, hb2⟩; obtain ⟨hc2, hf2⟩ := G.bcell hb2; have hz2 := hb2.size; have hG2 := G.hbel hG1 hb2 (by omega); have hR2 := hid (row_below (unhid hR1) hb2 (Nat.le_refl _)); have hy2 : w'.heap.size < w2.heap.size := (by omega); have hx2 : g < w2.heap.size := (by omega))
                go_step3
                rename_i QL KL hKL
                have hb5 : Below w.heap.size w w2 := (hba.trans (hb1.mono (by omega))).trans (hb2.mono (by omega))
                have e5 : (i' : Int) + 1 = ((i' + 1 : Nat) : Int) := by omega
                rw [e5]
                refine hKL _ _ (hbeh _ _ _ (G.mkJ1 (i' + 1) (f :: r) _ _ _ rfl (by rfl) ⟨hnx (by decide), by rw [List.length_cons]; omega, fun f0 hf0 => haddr f0 hf0, hb5, ?_, hx, fun h => absurd h (by simp)⟩) ?_)
                · rw [rowC_cons, List.length_cons, hkr, hyr]; exact unhid hR2
                · show l.length - (((i' + 1 : Nat) : Int)).toNat ≤ m
                  omega
            · have hnb : decide (tn < 0) = false := by simpa using hn0
              have hx : x = FM l false (f :: r) tn (i' + 1) := by rw [hval3, if_neg (fun h => hn0 h.1)]
              clear hval3
              go_wp2_with (go_at_call 21; (with_reducible refine (G.is_run3 _ _ false ho _ hGa).mono ?_); rintro e w1 ⟨rfl, hb1⟩; obtain ⟨hc1, hf1⟩ := G.bcell hb1; have hz1 := hb1.size; have hG1 := G.hbel hGa hb1 (by omega); have hR1 := hid (row_below (unhid hRa) hb1 (Nat.le_refl _)); have hy1 : w'.heap.size < w1.heap.size := (by omega); have hx1 : g < w1.heap.size := (by omega))
              go_wp2_with (go_at_call 21; (with_reducible refine (G.is_run3 _ _ false hmi _ hG1).mono ?_); rintro e w2 ⟨rfl, hb2⟩; obtain ⟨hc2, hf2⟩ := G.bcell hb2; have hz2 := hb2.size; have hG2 := G.hbel hG1 hb2 (by omega); have hR2 := hid (row_below (unhid hR1) hb2 (Nat.le_refl _)); have hy2 : w'.heap.size < w2.heap.size := (by omega); have hx2 : g < w2.heap.size := (by omega))
              go_step3
              rename_i QL KL hKL
              have hb5 : Below w.heap.size w w2 := (hba.trans (hb1.mono (by omega))).trans (hb2.mono (by omega))
              have e5 : (i' : Int) + 1 = ((i' + 1 : Nat) : Int) := by omega
              rw [e5]
              refine hKL _ _ (hbeh _ _ _ (G.mkJ1 (i' + 1) (f :: r) _ _ _ rfl (by rfl) ⟨hnx (by decide), by rw [List.length_cons]; omega, fun f0 hf0 => haddr f0 hf0, hb5, ?_, hx, fun h => absurd h (by simp)⟩) ?_)
              · rw [rowC_cons, List.length_cons, hkr, hyr]; exact unhid hR2
              · show l.length - (((i' + 1 : Nat) : Int)).toNat ≤ m
                omega
          · rw [if_pos hk2] at hval3
            have hkb : (tk != 2) = true := by simpa using hk2
            have hx := hval3
            go_wp2_with (go_at_call 21; (with_reducible refine (G.is_run3 _ _ false ho _ hGa).mono ?_); rintro e w1 ⟨rfl, hb1⟩; obtain ⟨hc1, hf1⟩ := G.bcell hb1; have hz1 := hb1.size; have hG1 := G.hbel hGa hb1 (by omega); have hR1 := hid (row_below (unhid hRa) hb1 (Nat.le_refl _)); have hy1 : w'.heap.size < w1.heap.size := (by omega); have hx1 : g < w1.heap.size := (by omega))
            go_wp2_with (go_at_call 21; (with_reducible refine (G.is_run3 _ _ false hmi _ hG1).mono ?_); rintro e w2 ⟨rfl, hb2⟩; obtain ⟨hc2, hf2⟩ := G.bcell hb2; have hz2 := hb2.size; have hG2 := G.hbel hG1 hb2 (by omega); have hR2 := hid (row_below (unhid hR1) hb2 (Nat.le_refl _)); have hy2 : w'.heap.size < w2.heap.size := (by omega); have hx2 : g < w2.heap.size := (by omega))
            go_wp2_with (go_at_call 31; (with_reducible refine (G.wrong_run (tk, ts, tn, tc, tp) _).mono ?_); rintro e w3 ⟨b, rfl, hb3, hge, hx0, hx9⟩)
            simp only [Exit.jumps]
            go_ret3
            rw [hx]
            have hb5 : Below w.heap.size w w2 := (hba.trans (hb1.mono (by omega))).trans (hb2.mono (by omega))
            exact ⟨_, rfl, hb5.trans (hb3.mono (by omega)), errV_bad 20 (by decide) (by omega) hx0 hx9⟩
    · go_wp2_with (go_at_call 21; (with_reducible refine (G.is_run3 _ _ true h3 _ hG).mono ?_); rintro e w1 ⟨rfl, hb1⟩; obtain ⟨hc, hf⟩ := G.bcell hb1; have hG1 := G.hbel hG hb1 hw; have hz1 := hb1.size; have hA1 := hA.below hb1 (Nat.le_refl _))
      go_step3
      rename_i QL KL hKL
      refine hKL _ _ (hop _ _ (G.mkJ0 i [] _ _ rfl (by rfl) ⟨hi, by simp, fun f hf => absurd hf (by simp), hb1, World.ownsRow_nil _ _ _ _, hx.symm, fun _ => ⟨rfl, h3⟩⟩) ?_)
      show l.length - _ ≤ _
      omega
end Go.Proofs.Ye

namespace Go.Aw
open Go Go.RowKit Go.Proofs
variable {P : Program} {tf tw : TypeId}
abbrev tokTy : Ty := .pair (.int .i64) (.pair .str (.pair (.int .i64) (.pair (.int .i64) (.int .i64))))
theorem tokC_rep {w : World} {fr : Addr → Prop} {x : LTok} {us : List Value} (h : RepT w fr tokTy x us) : us = tokC x := by
  obtain ⟨_, _, rfl, rfl, _, _, rfl, rfl, _, _, rfl, rfl, _, _, rfl, rfl, rfl⟩ := h
  rfl
def resF (x : FRes) : D := .tup [.v (.int .i64 x.n), .v (.int .i64 x.at_), .er (newE x.code x.pos)]
def foldEnt : Entry := fun args blks k _ => match args with
  | [d0, d1] => aFz tokTy d0 fun l => aInt .i64 d1 fun a => List.length (α := LTok) l ≤ 1000000000 ∧ k (resF (foldV l a)) blks
  | _ => False
theorem fold_ok {f : FuncId} {fn : Func} (hf : P.funcs[f]? = some fn) (hn : (fn.name == "runtime.NumGoroutine") = false) (hb : fn.body.isNone = false) (hg : ∀ g v, hdlOf P = some (g, v) → g < 1)
    (run : ∀ (l : List LTok) (A : Option Addr) (cap : Nat) (at_ : Int) (w : World) (hl : l.length ≤ 1000000000) (hA : LAt w w.heap.size A l) (hG : HdlAt P w) (hw : 0 < w.heap.size),
      Calls P f #[.slice A l.length cap, .int .i64 at_] w fun e w' => ∃ v, e = .returned (.tuple #[.int .i64 (foldV l at_).n, .int .i64 (foldV l at_).at_, v]) ∧ Below w.heap.size w w' ∧ ErrV tf w.heap.size w' (foldV l at_).code (foldV l at_).pos v)
    (run0 : ∀ (l : List LTok) (A : Option Addr) (cap : Nat) (at_ : Int) (w : World) (hw : w.heap.size = 0) (hl : l = []),
      Calls P f #[.slice A l.length cap, .int .i64 at_] w fun e w' => ∃ v, e = .returned (.tuple #[.int .i64 (foldV l at_).n, .int .i64 (foldV l at_).at_, v]) ∧ Below w.heap.size w w' ∧ ErrV tf w.heap.size w' (foldV l at_).code (foldV l at_).pos v) :
    EntOk P tf tw f foldEnt := by
  have elim : ∀ {args blks k kp}, foldEnt args blks k kp → ∃ (l : List LTok) (a : Int), args = [.fz tokTy l, .v (.int .i64 a)] ∧ l.length ≤ 1000000000 ∧ k (resF (foldV l a)) blks := by
    intro args blks k kp h
    unfold foldEnt at h
    split at h
    · have h9 := aFz_elim h; clear h; obtain ⟨l, rfl, h⟩ := h9
      have h9 := aInt_elim h; clear h; obtain ⟨a, rfl, h⟩ := h9
      exact ⟨l, a, rfl, h.1, h.2⟩
    · exact h.elim
  refine EntOk.made ?_ ⟨fn, hf, hn, hb⟩ ?_
  · intro args blks k kp h
    have h9 := elim h; clear h; obtain ⟨l, a, rfl, hl, h⟩ := h9
    refine .inl ⟨_, _, h, fun k' kp' h' => ?_⟩
    unfold foldEnt aFz aInt
    exact ⟨hl, h'⟩
  · intro c args us k kp hT hr H h
    have h9 := elim h; clear h; obtain ⟨l, a, rfl, hl, h⟩ := h9
    simp only [RepL] at hr
    obtain ⟨u0, _, rfl, r0, u1, _, rfl, r1, rfl⟩ := hr
    simp only [Rep] at r0 r1
    subst r1
    obtain ⟨A, cap, hu, hc, hel⟩ := r0
    cases hu
    have hG : HdlAt P c.w := fun g v hg' => by
      have := (hT.2 g v hg') 0 v rfl
      rw [add_zero] at this
      exact this.2
    have hA : LAt c.w c.w.heap.size A l := fun hne => by
      obtain ⟨a, rfl, hel2⟩ := hel hne
      clear hel
      obtain ⟨s0, hs0⟩ : ∃ s0, l[0]? = some s0 := by
        cases l with
        | nil => exact absurd rfl hne
        | cons x r => exact ⟨x, rfl⟩
      obtain ⟨us0, hrep0, hat0⟩ := hel2 0 s0 hs0
      have e0 := tokC_rep hrep0
      subst e0
      have h0 := hat0 0 _ rfl
      rw [add_zero, show (0 : Nat) * tokTy.size = 0 from Nat.zero_mul _, add_zero] at h0
      obtain ⟨e, _⟩ := spot_none h0.2
      have hlt := H.frin _ h0.1
      rw [e] at hel2 ⊢
      refine ⟨_, _, rfl, by rw [e] at hlt; exact hlt, fun i s hs j u hu => ?_⟩
      obtain ⟨us, hrep, hat⟩ := hel2 i s hs
      have e1 := tokC_rep hrep
      subst e1
      have := (hat j u hu).2
      rw [add_add, add_flat] at this
      exact this
    have hrun : Calls P f #[.slice A l.length cap, .int .i64 a] c.w fun e w' => ∃ v, e = .returned (.tuple #[.int .i64 (foldV l a).n, .int .i64 (foldV l a).at_, v]) ∧ Below c.w.heap.size c.w w' ∧ ErrV tf c.w.heap.size w' (foldV l a).code (foldV l a).pos v := by
      rcases Nat.eq_zero_or_pos c.w.heap.size with h0 | h0
      · refine run0 l A cap a c.w h0 ?_
        cases l with
        | nil => rfl
        | cons x r =>
          obtain ⟨pb, _, _, hp, _⟩ := hA (by simp)
          omega
      · exact run l A cap a c.w hl hA hG h0
    refine ⟨_, h, hrun.mono ?_⟩
    rintro ex w' ⟨v, rfl, hbl, hE⟩
    refine ⟨_, rfl, hbl, ?_⟩
    unfold resF
    simp only [Rep]
    refine ⟨_, rfl, ?_⟩
    simp only [RepL, Rep]
    refine ⟨_, _, rfl, rfl, _, _, rfl, rfl, v, _, rfl, ?_, rfl⟩
    unfold ErrV at hE
    split at hE
    · rename_i h0
      unfold newE
      rw [if_pos h0]
      simp only [RepE]
      exact hE
    · rename_i h0
      obtain ⟨b, rfl, hb, h0', h1'⟩ := hE
      unfold newE
      rw [if_neg h0]
      simp only [RepE]
      rw [hT.1.1]
      refine ⟨_, rfl, ?_⟩
      have hlt : b < w'.heap.size := World.block_lt_of_cell? _ _ h0'
      intro j u hj
      rw [add_plain]
      match j, hj with
      | 0, hj => cases hj; exact ⟨.inr ⟨hb, hlt⟩, h0'⟩
      | 1, hj => cases hj; exact ⟨.inr ⟨hb, hlt⟩, h1'⟩
end Go.Aw

namespace Go.Proofs.Ye
open Go Go.Aw Go.Proofs Go.RowKit Go.Extern
set_option maxRecDepth 100000
set_option maxHeartbeats 4000000 in
theorem G.value_nil (l : List LTok) (A : Option Addr) (cap : Nat) (at_ : Int) (w : World) (hw : w.heap.size = 0) (hl : l = []) :
    Calls Tryd.prog 19 #[.slice A l.length cap, .int .i64 at_] w (G.Post w (foldV l at_)) := by
  subst hl
  clear hw
  have e : foldV [] at_ = ⟨0, 0, 1, 0⟩ := by
    unfold foldV
    rw [if_pos]
    rcases Int.lt_or_le at_ 0 with h | h
    · exact .inl h
    · exact .inr (.inl h)
  rw [e]
  by_cases h0 : at_ < 0
  · have h02 : decide (at_ < 0) = true := by simpa using h0
    go_enter Tryd.func19, Tryd.ntmps19
    go_wp2
    go_step3
    go_wp2_with (go_at_call 22; (with_reducible refine (F.new_run _ _ _).mono ?_); rintro e w2 he; rw [if_neg (by decide)] at he; obtain ⟨rfl, rfl⟩ := he)
    rw [Exit.noGoto_ret]
    go_ret3
    exact ⟨_, rfl, (Below.refl _ w).alloc (Nat.le_refl _) _, errV_flt (by decide) (by simp) (by simp) (by simp)⟩
  · have h02 : decide (at_ < 0) = false := by simpa using h0
    have h12 : decide (at_ ≥ (0 : Int)) = true := by simp; omega
    go_enter Tryd.func19, Tryd.ntmps19
    go_wp2
    go_step3
    go_wp2_with (go_at_call 22; (with_reducible refine (F.new_run _ _ _).mono ?_); rintro e w2 he; rw [if_neg (by decide)] at he; obtain ⟨rfl, rfl⟩ := he)
    rw [Exit.noGoto_ret]
    go_ret3
    exact ⟨_, rfl, (Below.refl _ w).alloc (Nat.le_refl _) _, errV_flt (by decide) (by simp) (by simp) (by simp)⟩
namespace N19
noncomputable def ent : Entry := foldEnt
theorem ok : EntOk Tryd.prog 49 0 19 ent := fold_ok Tryd.func19 (by kernel_rfl) (by kernel_rfl) G.hG G.value_run G.value_nil
end N19
end Go.Proofs.Ye

namespace Go.Proofs.Ye
open Go Go.Aw Go.Proofs
set_option maxRecDepth 100000
set_option maxHeartbeats 4000000
namespace N10
noncomputable def cfg : Cfg := { P := Tryd.prog, tf := 49, tw := 0, ty := tys, E := tab [(15, N15.ent), (19, N19.ent)], atSeq := tab [], atLoop := tab [], outs := [], eqT := tab [], bT := tab [] }
noncomputable def body : Code := bodyOf Tryd.f10
def c (x0 : BA) (k : Int → Int → Err → Prop) : Prop :=
  (N15.f x0 (fun (y1_0 y2_0 : Int) (z0_0 : Zq0) => (br (y1_0 != (0 : Int)) (k (0 : Int) (0 : Int) Err.nil) ((List.length z0_0 ≤ 1000000000) ∧ (k (foldV z0_0 (0 : Int)).n (foldV z0_0 (0 : Int)).at_ (newE (foldV z0_0 (0 : Int)).code (foldV z0_0 (0 : Int)).pos))))))
def f0 (x0 : BA) (k : Int → Int → Err → Prop) : Prop := c x0 k
theorem f_ex : ∃ g, g = f0 := ⟨_, rfl⟩
noncomputable def f := Classical.choose f_ex
theorem f_def : f = f0 := Classical.choose_spec f_ex
noncomputable def JJ (k kp : KT) : Nat → St → Prop := pick none' []
noncomputable def LL (k kp : KT) : Nat → St → Prop := pick none' []
theorem c_c (k kp : KT) (J L : Nat → St → Prop) (x0 : BA) : runC cfg 1000001 J L none'' [] body (topK cfg Tryd.f10 k kp) (st0 Tryd.f10 [(.v (.string x0))] []) = c x0 (fun y0 y1 y2 => k (.tup [(.v (.int .i64 y0)), (.v (.int .i64 y1)), (.er y2)]) []) := by kernel_rfl
theorem c_ag (k kp : KT) : agPL cfg 1000001 (JJ k kp) (LL k kp) [] body = agPR cfg 1000001 none'' [] body (topK cfg Tryd.f10 k kp) := by kernel_rfl
theorem body_is : Tryd.f10.body = some body := by kernel_rfl
theorem c_raw (k kp : KT) (x0 : BA) : funW cfg Tryd.f10 [(.v (.string x0))] [] k kp = c x0 (fun y0 y1 y2 => k (.tup [(.v (.int .i64 y0)), (.v (.int .i64 y1)), (.er y2)]) []) :=
  Eq.mp (by kernel_rfl) ((funW_run (AG := none'') body_is (c_ag k kp) [(.v (.string x0))] []).trans (c_c k kp (JJ k kp) (LL k kp) x0))
theorem f_eq (k kp : KT) (x0 : BA) : funW cfg Tryd.f10 [(.v (.string x0))] [] k kp = f x0 (fun y0 y1 y2 => k (.tup [(.v (.int .i64 y0)), (.v (.int .i64 y1)), (.er y2)]) []) := by
  rw [f_def, c_raw]; rfl
noncomputable def ent0 : Entry := fun args blks k _ => match args, blks with
  | [d0], [] => aStr d0 fun x0 => f x0 (fun y0 y1 y2 => k (.tup [(.v (.int .i64 y0)), (.v (.int .i64 y1)), (.er y2)]) [])
  | _, _ => False
noncomputable def ent : Entry := fun args blks k kp => ent0 (convB [.no] args) blks k kp
theorem ok : EntOk Tryd.prog 49 0 10 ent := by
  refine EntOk.convB (EntOk.of (funW_ok (cfg := cfg) (tyOk_of rfl rfl tyL_ok) (eqOk_of (P := Tryd.prog) rfl rfl (by kernel_rfl)) mixed_ok (tab_ok ?_) Tryd.func10 (by rfl) (by rfl)) ?_) _
  · intro p hp
    simp only [List.mem_cons, List.not_mem_nil, or_false] at hp
    rcases hp with rfl | rfl
    · exact N15.ok
    · exact N19.ok
  · intro args blks k kp h k' kp'
    match args, blks, h with
    | [d0], [], h =>
    dsimp only [ent0] at h
    have h9 := aStr_elim h; clear h; obtain ⟨x0, rfl, h⟩ := h9
    exact (f_eq k' kp' x0).symm
end N10
end Go.Proofs.Ye

namespace Go.Proofs.Ye
open Go Go.Aw Go.Proofs
set_option maxRecDepth 100000
set_option maxHeartbeats 4000000
namespace N8
noncomputable def cfg : Cfg := { P := Tryd.prog, tf := 49, tw := 0, ty := tys, E := tab [(10, N10.ent), (11, N11.ent), (12, N12.ent)], atSeq := tab [], atLoop := tab [], outs := [], eqT := tab [], bT := tab [] }
noncomputable def body : Code := bodyOf Tryd.f8
def c (k : Bool → Prop) : Prop :=
  (N10.f (ByteArray.mk #[40, 49, 32, 43, 32, 50, 42, 45, 40, 51, 32, 45, 32, 53, 41, 41, 32, 57]) (fun (y0_0 y1_0 : Int) (y2_0 : Err) => (N10.f (ByteArray.mk #[40, 49, 32, 43, 32, 41]) (fun (y0_1 y1_1 : Int) (y2_1 : Err) => (br (y0_0 == (5 : Int)) (br (y1_0 == (12 : Int)) (br (y2_0).isNil ((flatE y2_1 = true) ∧ (br ((ofE y2_1) == (20 : Int)) ((flatE y2_1 = true) ∧ (k ((atE y2_1) == (5 : Int)))) (k false))) (k false)) (k false)) (k false))))))
def f0 (k : Bool → Prop) : Prop := c k
theorem f_ex : ∃ g, g = f0 := ⟨_, rfl⟩
noncomputable def f := Classical.choose f_ex
theorem f_def : f = f0 := Classical.choose_spec f_ex
noncomputable def JJ (k kp : KT) : Nat → St → Prop := pick none' []
noncomputable def LL (k kp : KT) : Nat → St → Prop := pick none' []
theorem c_c (k kp : KT) (J L : Nat → St → Prop) : runC cfg 1000001 J L none'' [] body (topK cfg Tryd.f8 k kp) (st0 Tryd.f8 [] []) = c (fun y0 => k (.v (.bool y0)) []) := by kernel_rfl
theorem c_ag (k kp : KT) : agPL cfg 1000001 (JJ k kp) (LL k kp) [] body = agPR cfg 1000001 none'' [] body (topK cfg Tryd.f8 k kp) := by kernel_rfl
theorem body_is : Tryd.f8.body = some body := by kernel_rfl
theorem c_raw (k kp : KT) : funW cfg Tryd.f8 [] [] k kp = c (fun y0 => k (.v (.bool y0)) []) :=
  Eq.mp (by kernel_rfl) ((funW_run (AG := none'') body_is (c_ag k kp) [] []).trans (c_c k kp (JJ k kp) (LL k kp)))
theorem f_eq (k kp : KT) : funW cfg Tryd.f8 [] [] k kp = f (fun y0 => k (.v (.bool y0)) []) := by
  rw [f_def, c_raw]; rfl
noncomputable def ent0 : Entry := fun args blks k _ => match args, blks with
  | [], [] => f (fun y0 => k (.v (.bool y0)) [])
  | _, _ => False
noncomputable def ent : Entry := fun args blks k kp => ent0 (convB [] args) blks k kp
theorem ok : EntOk Tryd.prog 49 0 8 ent := by
  refine EntOk.convB (EntOk.of (funW_ok (cfg := cfg) (tyOk_of rfl rfl tyL_ok) (eqOk_of (P := Tryd.prog) rfl rfl (by kernel_rfl)) mixed_ok (tab_ok ?_) Tryd.func8 (by rfl) (by rfl)) ?_) _
  · intro p hp
    simp only [List.mem_cons, List.not_mem_nil, or_false] at hp
    rcases hp with rfl | rfl | rfl
    · exact N10.ok
    · exact N11.ok
    · exact N12.ok
  · intro args blks k kp h k' kp'
    match args, blks, h with
    | [], [], h =>
    dsimp only [ent0] at h
    exact (f_eq k' kp').symm
end N8
end Go.Proofs.Ye

namespace Go.Proofs.Ye
open Go Go.Aw Go.Proofs Go.RowKit
theorem lexS_length' : ∀ (f : Nat) (l : List Int) (a : Int) (out : List LTok), (lexS f l a out).1.length ≤ out.length + l.length + 1
  | 0, l, a, out => by simp [lexS]
  | f + 1, l, a, out => by
    unfold lexS
    cases l with
    | nil => simp
    | cons c r =>
      dsimp only
      simp only [List.length_cons]
      split
      · have := lexS_length' f r (a + 1) out
        omega
      · split
        · have := lexS_length' f ((c :: r).drop (lineN (c :: r))) (a + lineN (c :: r)) out
          rw [List.length_drop, List.length_cons] at this
          omega
        · split
          · simp
          · rename_i h3
            have h := tokS_len (l := c :: r) (by simpa using h3)
            have := lexS_length' f ((c :: r).drop (tokS (c :: r)).len) (a + (tokS (c :: r)).len) (out ++ [((tokS (c :: r)).kind, bytesOf (tokS (c :: r)).text, (tokS (c :: r)).num, (tokS (c :: r)).cls, a)])
            simp only [List.length_drop, List.length_cons, List.length_append, List.length_nil] at this h
            omega
theorem lexAll_length' (l : List Int) : (lexAll l).1.length ≤ 65537 := by
  unfold lexAll
  split
  · simp
  · have := lexS_length' (l.length + 1) l 0 []
    simp at this
    omega
theorem value_fs (s : ByteArray) (hs : s.size ≤ reachBytes) (k : Int → Int → Err → Prop) (h : k (txtV (ofBytes s)).n (txtV (ofBytes s)).at_ (newE (txtV (ofBytes s)).code (txtV (ofBytes s)).pos)) : N10.f s k := by
  rw [N10.f_def]
  unfold N10.f0 N10.c
  refine allr_s s hs _ ?_
  unfold txtV at h
  by_cases hc : (lexAll (ofBytes s)).2.1 = 0
  · rw [if_neg (by rw [hc]; decide)] at h
    have e : ((lexAll (ofBytes s)).2.1 != 0) = false := by rw [hc]; rfl
    rw [e, br_false]
    exact ⟨by have := lexAll_length' (ofBytes s); omega, h⟩
  · rw [if_pos hc] at h
    have e : ((lexAll (ofBytes s)).2.1 != 0) = true := by simpa using hc
    rw [e, br_true]
    exact h
theorem foldA_eq : txtV [40, 49, 32, 43, 32, 50, 42, 45, 40, 51, 32, 45, 32, 53, 41, 41, 32, 57] = ⟨5, 12, 0, 0⟩ := by decide +kernel
theorem foldB_eq : txtV [40, 49, 32, 43, 32, 41] = ⟨0, 0, 20, 5⟩ := by decide +kernel
theorem fworks_s (k : Bool → Prop) (h : k true) : N8.f k := by
  have hr : (18 : Nat) ≤ reachBytes := by decide
  rw [N8.f_def]
  unfold N8.f0 N8.c
  have e1 : ofBytes (ByteArray.mk #[40, 49, 32, 43, 32, 50, 42, 45, 40, 51, 32, 45, 32, 53, 41, 41, 32, 57]) = [40, 49, 32, 43, 32, 50, 42, 45, 40, 51, 32, 45, 32, 53, 41, 41, 32, 57] := by decide
  have e2 : ofBytes (ByteArray.mk #[40, 49, 32, 43, 32, 41]) = [40, 49, 32, 43, 32, 41] := by decide
  refine value_fs (ByteArray.mk #[40, 49, 32, 43, 32, 50, 42, 45, 40, 51, 32, 45, 32, 53, 41, 41, 32, 57]) (show (18 : Nat) ≤ reachBytes from hr) _ (value_fs (ByteArray.mk #[40, 49, 32, 43, 32, 41]) (show (6 : Nat) ≤ reachBytes by omega) _ ?_)
  rw [e1, e2, foldA_eq, foldB_eq]
  show flatE (newE 20 5) = true ∧ _
  refine ⟨rfl, ?_⟩
  show flatE (newE 20 5) = true ∧ _
  exact ⟨rfl, h⟩
end Go.Proofs.Ye

namespace Go.Proofs.Ye
open Go Go.Aw Go.Proofs
set_option maxRecDepth 100000
set_option maxHeartbeats 4000000
namespace N4
noncomputable def cfg : Cfg := { P := Tryd.prog, tf := 49, tw := 0, ty := tys, E := tab [(9, N9.ent), (10, N10.ent), (8, N8.ent)], atSeq := tab [], atLoop := tab [], outs := [], eqT := tab [], bT := tab [] }
noncomputable def body : Code := bodyOf Tryd.f4
def c (x0 x1 x2 : Int) (k : Bool → Prop) : Prop :=
  (N9.f x0 (fun (y0_0 : BA) => (N9.f x1 (fun (y0_1 : BA) => (N9.f x2 (fun (y0_2 : BA) => ((((ByteArray.mk #[40])).size + (y0_0).size ≤ 9223372036854775807) ∧ (((((ByteArray.mk #[40]) ++ y0_0)).size + ((ByteArray.mk #[43])).size ≤ 9223372036854775807) ∧ ((((((ByteArray.mk #[40]) ++ y0_0) ++ (ByteArray.mk #[43]))).size + (y0_1).size ≤ 9223372036854775807) ∧ (((((((ByteArray.mk #[40]) ++ y0_0) ++ (ByteArray.mk #[43])) ++ y0_1)).size + ((ByteArray.mk #[42])).size ≤ 9223372036854775807) ∧ ((((((((ByteArray.mk #[40]) ++ y0_0) ++ (ByteArray.mk #[43])) ++ y0_1) ++ (ByteArray.mk #[42]))).size + (y0_2).size ≤ 9223372036854775807) ∧ (((((((((ByteArray.mk #[40]) ++ y0_0) ++ (ByteArray.mk #[43])) ++ y0_1) ++ (ByteArray.mk #[42])) ++ y0_2)).size + ((ByteArray.mk #[41])).size ≤ 9223372036854775807) ∧ (N10.f (((((((ByteArray.mk #[40]) ++ y0_0) ++ (ByteArray.mk #[43])) ++ y0_1) ++ (ByteArray.mk #[42])) ++ y0_2) ++ (ByteArray.mk #[41])) (fun (y0_3 y1_3 : Int) (y2_3 : Err) => ((((ByteArray.mk #[40])).size + (y0_2).size ≤ 9223372036854775807) ∧ (((((ByteArray.mk #[40]) ++ y0_2)).size + ((ByteArray.mk #[42])).size ≤ 9223372036854775807) ∧ ((((((ByteArray.mk #[40]) ++ y0_2) ++ (ByteArray.mk #[42]))).size + (y0_1).size ≤ 9223372036854775807) ∧ (((((((ByteArray.mk #[40]) ++ y0_2) ++ (ByteArray.mk #[42])) ++ y0_1)).size + ((ByteArray.mk #[43])).size ≤ 9223372036854775807) ∧ ((((((((ByteArray.mk #[40]) ++ y0_2) ++ (ByteArray.mk #[42])) ++ y0_1) ++ (ByteArray.mk #[43]))).size + (y0_0).size ≤ 9223372036854775807) ∧ (((((((((ByteArray.mk #[40]) ++ y0_2) ++ (ByteArray.mk #[42])) ++ y0_1) ++ (ByteArray.mk #[43])) ++ y0_0)).size + ((ByteArray.mk #[41])).size ≤ 9223372036854775807) ∧ (N10.f (((((((ByteArray.mk #[40]) ++ y0_2) ++ (ByteArray.mk #[42])) ++ y0_1) ++ (ByteArray.mk #[43])) ++ y0_0) ++ (ByteArray.mk #[41])) (fun (y0_4 y1_4 : Int) (y2_4 : Err) => ((((ByteArray.mk #[40])).size + (y0_0).size ≤ 9223372036854775807) ∧ (((((ByteArray.mk #[40]) ++ y0_0)).size + ((ByteArray.mk #[42, 40])).size ≤ 9223372036854775807) ∧ ((((((ByteArray.mk #[40]) ++ y0_0) ++ (ByteArray.mk #[42, 40]))).size + (y0_1).size ≤ 9223372036854775807) ∧ (((((((ByteArray.mk #[40]) ++ y0_0) ++ (ByteArray.mk #[42, 40])) ++ y0_1)).size + ((ByteArray.mk #[43])).size ≤ 9223372036854775807) ∧ ((((((((ByteArray.mk #[40]) ++ y0_0) ++ (ByteArray.mk #[42, 40])) ++ y0_1) ++ (ByteArray.mk #[43]))).size + (y0_2).size ≤ 9223372036854775807) ∧ (((((((((ByteArray.mk #[40]) ++ y0_0) ++ (ByteArray.mk #[42, 40])) ++ y0_1) ++ (ByteArray.mk #[43])) ++ y0_2)).size + ((ByteArray.mk #[41, 41])).size ≤ 9223372036854775807) ∧ (N10.f (((((((ByteArray.mk #[40]) ++ y0_0) ++ (ByteArray.mk #[42, 40])) ++ y0_1) ++ (ByteArray.mk #[43])) ++ y0_2) ++ (ByteArray.mk #[41, 41])) (fun (y0_5 y1_5 : Int) (y2_5 : Err) => ((((ByteArray.mk #[40])).size + (y0_0).size ≤ 9223372036854775807) ∧ (((((ByteArray.mk #[40]) ++ y0_0)).size + ((ByteArray.mk #[42])).size ≤ 9223372036854775807) ∧ ((((((ByteArray.mk #[40]) ++ y0_0) ++ (ByteArray.mk #[42]))).size + (y0_1).size ≤ 9223372036854775807) ∧ (((((((ByteArray.mk #[40]) ++ y0_0) ++ (ByteArray.mk #[42])) ++ y0_1)).size + ((ByteArray.mk #[43])).size ≤ 9223372036854775807) ∧ ((((((((ByteArray.mk #[40]) ++ y0_0) ++ (ByteArray.mk #[42])) ++ y0_1) ++ (ByteArray.mk #[43]))).size + (y0_0).size ≤ 9223372036854775807) ∧ (((((((((ByteArray.mk #[40]) ++ y0_0) ++ (ByteArray.mk #[42])) ++ y0_1) ++ (ByteArray.mk #[43])) ++ y0_0)).size + ((ByteArray.mk #[42])).size ≤ 9223372036854775807) ∧ ((((((((((ByteArray.mk #[40]) ++ y0_0) ++ (ByteArray.mk #[42])) ++ y0_1) ++ (ByteArray.mk #[43])) ++ y0_0) ++ (ByteArray.mk #[42]))).size + (y0_2).size ≤ 9223372036854775807) ∧ (((((((((((ByteArray.mk #[40]) ++ y0_0) ++ (ByteArray.mk #[42])) ++ y0_1) ++ (ByteArray.mk #[43])) ++ y0_0) ++ (ByteArray.mk #[42])) ++ y0_2)).size + ((ByteArray.mk #[41])).size ≤ 9223372036854775807) ∧ (N10.f (((((((((ByteArray.mk #[40]) ++ y0_0) ++ (ByteArray.mk #[42])) ++ y0_1) ++ (ByteArray.mk #[43])) ++ y0_0) ++ (ByteArray.mk #[42])) ++ y0_2) ++ (ByteArray.mk #[41])) (fun (y0_6 y1_6 : Int) (y2_6 : Err) => ((((ByteArray.mk #[40])).size + (y0_0).size ≤ 9223372036854775807) ∧ (((((ByteArray.mk #[40]) ++ y0_0)).size + ((ByteArray.mk #[45, 40])).size ≤ 9223372036854775807) ∧ ((((((ByteArray.mk #[40]) ++ y0_0) ++ (ByteArray.mk #[45, 40]))).size + (y0_1).size ≤ 9223372036854775807) ∧ (((((((ByteArray.mk #[40]) ++ y0_0) ++ (ByteArray.mk #[45, 40])) ++ y0_1)).size + ((ByteArray.mk #[45])).size ≤ 9223372036854775807) ∧ ((((((((ByteArray.mk #[40]) ++ y0_0) ++ (ByteArray.mk #[45, 40])) ++ y0_1) ++ (ByteArray.mk #[45]))).size + (y0_2).size ≤ 9223372036854775807) ∧ (((((((((ByteArray.mk #[40]) ++ y0_0) ++ (ByteArray.mk #[45, 40])) ++ y0_1) ++ (ByteArray.mk #[45])) ++ y0_2)).size + ((ByteArray.mk #[41, 43])).size ≤ 9223372036854775807) ∧ ((((((((((ByteArray.mk #[40]) ++ y0_0) ++ (ByteArray.mk #[45, 40])) ++ y0_1) ++ (ByteArray.mk #[45])) ++ y0_2) ++ (ByteArray.mk #[41, 43]))).size + (y0_1).size ≤ 9223372036854775807) ∧ (((((((((((ByteArray.mk #[40]) ++ y0_0) ++ (ByteArray.mk #[45, 40])) ++ y0_1) ++ (ByteArray.mk #[45])) ++ y0_2) ++ (ByteArray.mk #[41, 43])) ++ y0_1)).size + ((ByteArray.mk #[45])).size ≤ 9223372036854775807) ∧ ((((((((((((ByteArray.mk #[40]) ++ y0_0) ++ (ByteArray.mk #[45, 40])) ++ y0_1) ++ (ByteArray.mk #[45])) ++ y0_2) ++ (ByteArray.mk #[41, 43])) ++ y0_1) ++ (ByteArray.mk #[45]))).size + (y0_2).size ≤ 9223372036854775807) ∧ (((((((((((((ByteArray.mk #[40]) ++ y0_0) ++ (ByteArray.mk #[45, 40])) ++ y0_1) ++ (ByteArray.mk #[45])) ++ y0_2) ++ (ByteArray.mk #[41, 43])) ++ y0_1) ++ (ByteArray.mk #[45])) ++ y0_2)).size + ((ByteArray.mk #[41])).size ≤ 9223372036854775807) ∧ (N10.f (((((((((((ByteArray.mk #[40]) ++ y0_0) ++ (ByteArray.mk #[45, 40])) ++ y0_1) ++ (ByteArray.mk #[45])) ++ y0_2) ++ (ByteArray.mk #[41, 43])) ++ y0_1) ++ (ByteArray.mk #[45])) ++ y0_2) ++ (ByteArray.mk #[41])) (fun (y0_7 y1_7 : Int) (y2_7 : Err) => (br (y2_3).isNil (br (y2_4).isNil (br (y2_5).isNil (br (y2_6).isNil (br (y2_7).isNil (br (y0_3 == y0_4) (br (y0_5 == y0_6) (br (y0_7 == x0) (N8.f (fun (y0_8 : Bool) => (k y0_8))) (k false)) (k false)) (k false)) (k false)) (k false)) (k false)) (k false)) (k false))))))))))))))))))))))))))))))))))))))))))))))))))))))
def f0 (x0 x1 x2 : Int) (k : Bool → Prop) : Prop := c x0 x1 x2 k
theorem f_ex : ∃ g, g = f0 := ⟨_, rfl⟩
noncomputable def f := Classical.choose f_ex
theorem f_def : f = f0 := Classical.choose_spec f_ex
noncomputable def JJ (k kp : KT) : Nat → St → Prop := pick none' []
noncomputable def LL (k kp : KT) : Nat → St → Prop := pick none' []
theorem c_c (k kp : KT) (J L : Nat → St → Prop) (x0 x1 x2 : Int) : runC cfg 1000001 J L none'' [] body (topK cfg Tryd.f4 k kp) (st0 Tryd.f4 [(.v (.int .i64 x0)), (.v (.int .i64 x1)), (.v (.int .i64 x2))] []) = c x0 x1 x2 (fun y0 => k (.v (.bool y0)) []) := by kernel_rfl
theorem c_ag (k kp : KT) : agPL cfg 1000001 (JJ k kp) (LL k kp) [] body = agPR cfg 1000001 none'' [] body (topK cfg Tryd.f4 k kp) := by kernel_rfl
theorem body_is : Tryd.f4.body = some body := by kernel_rfl
theorem c_raw (k kp : KT) (x0 x1 x2 : Int) : funW cfg Tryd.f4 [(.v (.int .i64 x0)), (.v (.int .i64 x1)), (.v (.int .i64 x2))] [] k kp = c x0 x1 x2 (fun y0 => k (.v (.bool y0)) []) :=
  Eq.mp (by kernel_rfl) ((funW_run (AG := none'') body_is (c_ag k kp) [(.v (.int .i64 x0)), (.v (.int .i64 x1)), (.v (.int .i64 x2))] []).trans (c_c k kp (JJ k kp) (LL k kp) x0 x1 x2))
theorem f_eq (k kp : KT) (x0 x1 x2 : Int) : funW cfg Tryd.f4 [(.v (.int .i64 x0)), (.v (.int .i64 x1)), (.v (.int .i64 x2))] [] k kp = f x0 x1 x2 (fun y0 => k (.v (.bool y0)) []) := by
  rw [f_def, c_raw]; rfl
noncomputable def ent0 : Entry := fun args blks k _ => match args, blks with
  | [d0, d1, d2], [] => aInt IntKind.i64 d0 fun x0 => aInt IntKind.i64 d1 fun x1 => aInt IntKind.i64 d2 fun x2 => f x0 x1 x2 (fun y0 => k (.v (.bool y0)) [])
  | _, _ => False
noncomputable def ent : Entry := fun args blks k kp => ent0 (convB [.no, .no, .no] args) blks k kp
theorem ok : EntOk Tryd.prog 49 0 4 ent := by
  refine EntOk.convB (EntOk.of (funW_ok (cfg := cfg) (tyOk_of rfl rfl tyL_ok) (eqOk_of (P := Tryd.prog) rfl rfl (by kernel_rfl)) mixed_ok (tab_ok ?_) Tryd.func4 (by rfl) (by rfl)) ?_) _
  · intro p hp
    simp only [List.mem_cons, List.not_mem_nil, or_false] at hp
    rcases hp with rfl | rfl | rfl
    · exact N9.ok
    · exact N10.ok
    · exact N8.ok
  · intro args blks k kp h k' kp'
    match args, blks, h with
    | [d0, d1, d2], [], h =>
    dsimp only [ent0] at h
    have h9 := aInt_elim h; clear h; obtain ⟨x0, rfl, h⟩ := h9
    have h9 := aInt_elim h; clear h; obtain ⟨x1, rfl, h⟩ := h9
    have h9 := aInt_elim h; clear h; obtain ⟨x2, rfl, h⟩ := h9
    exact (f_eq k' kp' x0 x1 x2).symm
end N4
end Go.Proofs.Ye

namespace Go.Proofs.Ye.FoldLaws
open Go Go.Aw Go.Proofs Go.Proofs.YtidclggijmbffaaDoor Go.ChangeShapes Go.WideShapes Go.ChangeAt Go.RowKit
set_option maxRecDepth 100000
set_option maxHeartbeats 4000000
def Pure : Prop := ∀ (x0 : Int) (w0 : (Lit.int .i64 x0).wf = true) (x1 : Int) (w1 : (Lit.int .i64 x1).wf = true) (x2 : Int) (w2 : (Lit.int .i64 x2).wf = true), N4.f x0 x1 x2 (fun y0 => y0 = true)
theorem own : ownKnob Tryd.prog.godebug = none := by kernel_rfl
theorem laid : laidOutB Tryd.prog = true := by kernel_rfl
set_option maxRecDepth 100000 in
theorem lifted (pure : Pure) (os : Os) (started : os.Started) (H : Type) (enc : TypeId × Value → H) (F : Stop.Interp) :
    ReturnsInHanded {} Tryd.checked os 4 .any ((OpenSpec.ofChange Rows.foldLawsSpec).preRow enc Tryd.prog Tryd.f4 Rows.foldLawsRow.domain false Rows.foldLawsRow.laid) (((OpenSpec.ofChange Rows.foldLawsSpec).at F).post enc Tryd.prog Tryd.f4 false true false false) := by
  obtain ⟨places, hx⟩ : ∃ places, DataW.whole enc Tryd.prog ((laidWorld os).forCall (fun _ _ => 0) ⟨#[], #[.int .i64 0, .int .i64 0, .int .i64 0], []⟩).memory Tryd.f4.params.toList Rows.foldLawsSpec.vars false (#[.int .i64 0, .int .i64 0, .int .i64 0] : Array Value).toList 60 = some ([(.lit (.int .i64 0)), (.lit (.int .i64 0)), (.lit (.int .i64 0))], [], places) := ⟨[], by kernel_rfl⟩
  refine returnsInHanded_of_row (C := Tryd.checked) (s := (OpenSpec.ofChange Rows.foldLawsSpec)) own started (by kernel_rfl) Tryd.func4
    (witness_row_at (enc := enc) (C := Tryd.checked) false (laidWorld os) #[.int .i64 0, .int .i64 0, .int .i64 0] rfl (by kernel_rfl) (by kernel_rfl) (by kernel_rfl)
      (OpenSpec.preRow_of_cond 60 hx (by kernel_rfl) (fun k hk => by cases hk) (by kernel_rfl) (laid_met os _))) ?_
  intro W base args ds gs before hval0 hW hcnd hcond hsz0 hL _ _
  have hsz : (DataW.weightsEach Tryd.prog (Tryd.f4.params.toList ++ Rows.foldLawsSpec.plain.varTypes Tryd.prog) (ds ++ gs)).all (· ≤ reachBytes) = true := hsz0
  have hval : ∀ (j : Nat) t v, Tryd.f4.params[j]? = some t → args[j]? = some v → Value.okWide Tryd.prog W .any base t v := hval0
  have hW' := hW
  have hlt := hW.lt
  obtain ⟨p, q, hA0, hV, rfl, hfz, hnd⟩ := hW
  have hA : DataW.TrodAll enc Tryd.prog W 0 (fun _ => true) true Tryd.f4.params.toList args.toList ds p := hA0
  have hAk := hA
  rw [Tryd.params4] at hA hval hsz
  obtain ⟨v0, vs0, d0, ds0, p0, q0, hargs, rfl, rfl, h0, r0⟩ := trodAll_cons hA
  obtain ⟨v1, vs1, d1, ds1, p1, q1, rfl, rfl, rfl, h1, r1⟩ := trodAll_cons r0
  obtain ⟨v2, vs2, d2, ds2, p2, q2, rfl, rfl, rfl, h2, r2⟩ := trodAll_cons r1
  obtain ⟨rfl, rfl, rfl⟩ := trodAll_nil r2
  obtain rfl : args = #[v0, v1, v2] := by cases args; simp_all
  obtain ⟨rfl, rfl⟩ := trodVars_none hV
  obtain ⟨x0, k0, w0⟩ := arg_int (tf := 49) (tw := 0) (n := 1) (k := IntKind.i64) (by kernel_rfl) (hval 0 3 v0 rfl rfl) h0
  obtain ⟨x1, k1, w1⟩ := arg_int (tf := 49) (tw := 0) (n := 1) (k := IntKind.i64) (by kernel_rfl) (hval 1 3 v1 rfl rfl) h1
  obtain ⟨x2, k2, w2⟩ := arg_int (tf := 49) (tw := 0) (n := 1) (k := IntKind.i64) (by kernel_rfl) (hval 2 3 v2 rfl rfl) h2
  refine (law_ofG N4.ok (W := W) (hand hL) (us := [v0, v1, v2]) (ds := [.v (.int .i64 x0), .v (.int .i64 x1), .v (.int .i64 x2)]) ⟨_, _, rfl, k0, ⟨_, _, rfl, k1, ⟨_, _, rfl, k2, by simp only [RepL]⟩⟩⟩ (show N4.ent _ _ _ _ from pure x0 w0 x1 w1 x2 w2)).mono fun e W' ⟨he, bel⟩ => ?_
  subst he
  exact ⟨_, rfl, _, _, _, [], _, [], hW', trodAll_mk1 (shut_bool (by kernel_rfl) _), trodAll_below laid bel (by kernel_rfl) hAk (fun x hx => hlt x (by simpa using hx)), rfl, bel.frame _, fun h => by cases h⟩
theorem said (pure : Pure) : Rows.FoldLawsSaid :=
  OpenClaim.holds_of_cond 4 Tryd.f4 rfl rfl rfl rfl rfl rfl rfl ⟨rfl, rfl, rfl, rfl, rfl⟩ rfl rfl rfl rfl rfl (by kernel_rfl) Tryd.func4 (by kernel_rfl)
    (of_decide_eq_true (by kernel_rfl)) (by unfold Func.isWrapper; first | (rw [if_pos (by decide +kernel)]; kernel_rfl) | (rw [if_neg (by decide +kernel)]; exact ⟨rfl, rfl⟩))
    (fun os started H enc _ F => by rw [OpenClaim.pre_eq_preRow]; exact lifted pure os started H enc F)
theorem holds (pure : Pure) : Rows.FoldLawsCardSaid :=
  Claim7.holds_tied_plain_at .later [] _ _ _ _ (said pure) (fun _ h => by cases h) (by kernel_rfl) (fun _ h => by cases h) foldLaws_row_tie rfl ⟨rfl, rfl⟩ (by kernel_rfl) rfl
    (fun f fn hf hfn => by
      obtain rfl : f = 4 := Option.some.inj ((show Tryd.prog.funcNamed "dyehouse/dyehouselaw10.FoldLaws" = some 4 by kernel_rfl).symm.trans hf) |>.symm
      obtain rfl : fn = Tryd.f4 := (Option.some.inj (Tryd.func4.symm.trans hfn)).symm
      refine ⟨by kernel_rfl, fun j t ht => ?_⟩
      rw [Tryd.params4] at ht
      have hm : t ∈ ([3, 3, 3] : List TypeId) := by simpa using Array.mem_of_getElem? ht
      simp only [List.mem_cons, List.not_mem_nil, or_false] at hm
      rcases hm with rfl | rfl | rfl
      · exact (show Tryd.prog.wantsStandIn 3 = false by kernel_rfl)
      · exact (show Tryd.prog.wantsStandIn 3 = false by kernel_rfl)
      · exact (show Tryd.prog.wantsStandIn 3 = false by kernel_rfl)
    )
    (by kernel_rfl)
end Go.Proofs.Ye.FoldLaws

namespace Go.Proofs.Ye.FoldLaws
open Go Go.Aw Go.Proofs Go.RowKit
theorem et_isB : ∀ (l : List Et), etOk l → ∀ x ∈ etL l, isB x
  | [], _, x, hx => by simp [etL] at hx
  | .s c :: l, h, x, hx => by
    rcases List.mem_append.1 (show x ∈ [c] ++ etL l from hx) with hx | hx
    · simp at hx; subst hx
      have h1 := h.1
      simp only [List.mem_cons, List.not_mem_nil, or_false] at h1
      unfold isB
      omega
    · exact et_isB l h.2 x hx
  | .n n :: l, h, x, hx => by
    rcases List.mem_append.1 (show x ∈ putL n ++ etL l from hx) with hx | hx
    · exact putL_isB n x hx
    · exact et_isB l h.2.2 x hx
theorem value_e {l : List Et} {v : Int} {s : ByteArray} (he : etOk (.s 40 :: l)) (hs : s = bytesOf (etL (.s 40 :: l))) (hl : (etL (.s 40 :: l)).length ≤ 400) (hv : valE l Fr.fresh [] v) (k : Int → Int → Err → Prop) (h : ∀ b, k v b Err.nil) : N10.f s k := by
  have hr : (400 : Nat) ≤ reachBytes := by decide
  subst hs
  refine value_fs _ (by rw [bytesOf_size]; omega) _ ?_
  rw [ofBytes_bytesOf (et_isB _ he)]
  obtain ⟨b, e⟩ := txtV_val he (by omega) hv
  rw [e]
  exact h b
theorem pure : Pure := by
  intro x wx y wy z wz
  have hx := wf64 wx
  have hy := wf64 wy
  have hz := wf64 wz
  rw [N4.f_def]
  unfold N4.f0 N4.c
  refine putr_s x hx _ (putr_s y hy _ (putr_s z hz _ ?_))
  have lx := putL_len x
  have ly := putL_len y
  have lz := putL_len z
  have sX : (bytesOf (putL x)).size ≤ 21 := by rw [bytesOf_size]; omega
  have sY : (bytesOf (putL y)).size ≤ 21 := by rw [bytesOf_size]; omega
  have sZ : (bytesOf (putL z)).size ≤ 21 := by rw [bytesOf_size]; omega
  have m1 : (ByteArray.mk #[40]).size = 1 := rfl
  have m2 : (ByteArray.mk #[41]).size = 1 := rfl
  have m3 : (ByteArray.mk #[42]).size = 1 := rfl
  have m4 : (ByteArray.mk #[43]).size = 1 := rfl
  have m5 : (ByteArray.mk #[45]).size = 1 := rfl
  have m6 : (ByteArray.mk #[42, 40]).size = 2 := rfl
  have m7 : (ByteArray.mk #[45, 40]).size = 2 := rfl
  have m8 : (ByteArray.mk #[41, 43]).size = 2 := rfl
  have m9 : (ByteArray.mk #[41, 41]).size = 2 := rfl
  have b1 : ByteArray.mk #[40] = bytesOf [40] := rfl
  have b2 : ByteArray.mk #[41] = bytesOf [41] := rfl
  have b3 : ByteArray.mk #[42] = bytesOf [42] := rfl
  have b4 : ByteArray.mk #[43] = bytesOf [43] := rfl
  have b5 : ByteArray.mk #[45] = bytesOf [45] := rfl
  have b6 : ByteArray.mk #[42, 40] = bytesOf [42, 40] := rfl
  have b7 : ByteArray.mk #[45, 40] = bytesOf [45, 40] := rfl
  have b8 : ByteArray.mk #[41, 43] = bytesOf [41, 43] := rfl
  have b9 : ByteArray.mk #[41, 41] = bytesOf [41, 41] := rfl
  iterate 6 (refine ⟨by simp only [size_append, m1, m2, m3, m4, m5, m6, m7, m8, m9]; omega, ?_⟩)
  refine value_e (l := lawOne x y z) ⟨by decide, hx, ⟨_, _, rfl⟩, by decide, hy, ⟨_, _, rfl⟩, by decide, hz, ⟨_, _, rfl⟩, by decide, trivial⟩ (by simp only [b1, b2, b3, b4, ← bytesOf_append]; congr 1; simp [etL, lawOne, Et.text]) (by simp [etL, lawOne, Et.text]; omega) (law_one hx hy hz) _ (fun c1 => ?_)
  iterate 6 (refine ⟨by simp only [size_append, m1, m2, m3, m4, m5, m6, m7, m8, m9]; omega, ?_⟩)
  refine value_e (l := lawTwo x y z) ⟨by decide, hz, ⟨_, _, rfl⟩, by decide, hy, ⟨_, _, rfl⟩, by decide, hx, ⟨_, _, rfl⟩, by decide, trivial⟩ (by simp only [b1, b2, b3, b4, ← bytesOf_append]; congr 1; simp [etL, lawTwo, Et.text]) (by simp [etL, lawTwo, Et.text]; omega) (law_two hx hy hz) _ (fun c2 => ?_)
  iterate 6 (refine ⟨by simp only [size_append, m1, m2, m3, m4, m5, m6, m7, m8, m9]; omega, ?_⟩)
  refine value_e (l := lawThree x y z) ⟨by decide, hx, ⟨_, _, rfl⟩, by decide, by decide, hy, ⟨_, _, rfl⟩, by decide, hz, ⟨_, _, rfl⟩, by decide, by decide, trivial⟩ (by simp only [b1, b2, b3, b4, b6, b9, ← bytesOf_append]; congr 1; simp [etL, lawThree, Et.text]) (by simp [etL, lawThree, Et.text]; omega) (law_three hx hy hz) _ (fun c3 => ?_)
  iterate 8 (refine ⟨by simp only [size_append, m1, m2, m3, m4, m5, m6, m7, m8, m9]; omega, ?_⟩)
  refine value_e (l := lawFour x y z) ⟨by decide, hx, ⟨_, _, rfl⟩, by decide, hy, ⟨_, _, rfl⟩, by decide, hx, ⟨_, _, rfl⟩, by decide, hz, ⟨_, _, rfl⟩, by decide, trivial⟩ (by simp only [b1, b2, b3, b4, ← bytesOf_append]; congr 1; simp [etL, lawFour, Et.text]) (by simp [etL, lawFour, Et.text]; omega) (law_four hx hy hz) _ (fun c4 => ?_)
  iterate 10 (refine ⟨by simp only [size_append, m1, m2, m3, m4, m5, m6, m7, m8, m9]; omega, ?_⟩)
  refine value_e (l := lawFive x y z) ⟨by decide, hx, ⟨_, _, rfl⟩, by decide, by decide, hy, ⟨_, _, rfl⟩, by decide, hz, ⟨_, _, rfl⟩, by decide, by decide, hy, ⟨_, _, rfl⟩, by decide, hz, ⟨_, _, rfl⟩, by decide, trivial⟩ (by simp only [b1, b2, b5, b7, b8, ← bytesOf_append]; congr 1; simp [etL, lawFive, Et.text]) (by simp [etL, lawFive, Et.text]; omega) (law_five hx hy hz) _ (fun c5 => ?_)
  show br (w64 (x + y * z) == w64 (x + y * z)) (br (w64 (x * (y + z)) == w64 (x * (y + z))) (br (x == x) _ _) _) _
  rw [beq_self_eq_true, beq_self_eq_true, beq_self_eq_true, br_true, br_true, br_true]
  exact fworks_s _ rfl
theorem proved : Go.Proofs.YtidclggijmbffaaDoor.Rows.FoldLawsCardSaid := holds pure
end Go.Proofs.Ye.FoldLaws

namespace Go.Proofs.YtidclggijmbffaaDoor
/-- The statement. -/
theorem foldLawsCard_holds : Rows.FoldLawsCardSaid := Go.Proofs.Ye.FoldLaws.proved
#print axioms foldLawsCard_holds
end Go.Proofs.YtidclggijmbffaaDoor
