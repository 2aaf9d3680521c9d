/- Words for the proof of the statement: plain data in place of memory. -/
import Derived.Test.YtidclggijmbffaaDoorT1
import Derived.LoopN
import Derived.Scope
import Derived.ChangeKeysEq
import Derived.OpenShut
import Derived.SizedLaws
import Derived.Carry
import Derived.Deep.Slices
import Derived.Shelf.Strings.Builder1
import Derived.Shelf.Strings.OnBuilder
import Derived.Shelf.Strings.Count
import Derived.Shelf.Strings.Search2
import Derived.Shelf.Strings.Search1
set_option linter.unusedVariables false
set_option linter.unusedSimpArgs false
namespace Go.Aw
open Go.RowKit
theorem putBack_len : ∀ (ids : List Nat) (hp xs : List Blk), (putBack hp ids xs).length = hp.length
  | [], hp, xs => by unfold putBack; rfl
  | b :: r, hp, [] => by unfold putBack; rfl
  | b :: r, hp, x :: xs => by unfold putBack; rw [putBack_len r]; simp
theorem putBack_ne : ∀ (ids : List Nat) (hp xs : List Blk) {b : Nat}, b ∉ ids → getB (putBack hp ids xs) b = getB hp b
  | [], hp, xs, b, _ => by unfold putBack; rfl
  | b' :: r, hp, [], b, _ => by unfold putBack; rfl
  | b' :: r, hp, x :: xs, b, h => by
    simp only [List.mem_cons, not_or] at h
    unfold putBack
    rw [putBack_ne r _ xs h.2]
    simp only [getB, List.getD_eq_getElem?_getD, List.getElem?_set]
    rw [if_neg (Ne.symm h.1)]
theorem putBack_at : ∀ (ids : List Nat) (hp xs : List Blk) {j b : Nat} {x : Blk}, ids.Nodup → b < hp.length → ids[j]? = some b → xs[j]? = some x → getB (putBack hp ids xs) b = x
  | [], hp, xs, j, b, x, _, _, h, _ => by simp at h
  | b' :: r, hp, [], j, b, x, _, _, _, h => by simp at h
  | b' :: r, hp, y :: xs, 0, b, x, hn, hb, h, hx => by
    simp at h hx
    subst h; subst hx
    unfold putBack
    rw [putBack_ne r _ xs (List.nodup_cons.1 hn).1, getB_set _ hb, if_pos rfl]
  | b' :: r, hp, y :: xs, j + 1, b, x, hn, hb, h, hx => by
    unfold putBack
    exact putBack_at r _ xs (List.nodup_cons.1 hn).2 (by simpa using hb) (by simpa using h) (by simpa using hx)
def back (c1 cc : Cx) (hp2 : List Blk) (ids : List Nat) : Cx :=
  { cc with
    hp := putBack hp2 ids ((cc.hp.take ids.length).map (renB ids hp2.length)) ++ (cc.hp.drop ids.length).map (renB ids hp2.length)
    cv := fun b => match nthIdx b ids 0 with
      | some j => cc.cv j
      | none => if b < hp2.length then c1.cv b else cc.cv (ids.length + (b - hp2.length)) }
theorem nthIdx_in {b : Nat} : ∀ {ids : List Nat} {i j : Nat}, ids.Nodup → ids[j]? = some b → nthIdx b ids i = some (i + j)
  | [], i, j, _, h => by simp at h
  | y :: r, i, 0, _, h => by
    simp at h
    subst h
    unfold nthIdx
    rw [if_pos rfl, Nat.add_zero]
  | y :: r, i, j + 1, hn, h => by
    have h' : r[j]? = some b := by simpa using h
    have hne : y ≠ b := fun e => (List.nodup_cons.1 hn).1 (e ▸ List.mem_of_getElem? h')
    unfold nthIdx
    rw [if_neg hne, nthIdx_in (List.nodup_cons.1 hn).2 h']
    congr 1; omega
theorem nthIdx_no {b : Nat} : ∀ {ids : List Nat} {i : Nat}, b ∉ ids → nthIdx b ids i = none
  | [], i, _ => rfl
  | y :: r, i, h => by
    unfold nthIdx
    rw [if_neg (fun e => h (by rw [e]; exact List.mem_cons_self ..)), nthIdx_no (fun hm => h (List.mem_cons_of_mem _ hm))]
theorem renB_live (ids : List Nat) (N : Nat) (x : Blk) : live (renB ids N x) = live x := by cases x <;> rfl
theorem renB_lst (ids : List Nat) (N : Nat) (x : Blk) : isLst (renB ids N x) = isLst x := by cases x <;> rfl
theorem BLe.renB {u u' : Value} (ids : List Nat) (N : Nat) {x y : Blk} (h : BLe u u' x y) : BLe u u' x (renB ids N y) := by
  cases y with
  | box ty cs => cases x <;> simp only [BLe, Aw.renB, List.length_map] at h ⊢; exact h
  | _ => exact h
theorem BLe.nlst {u u' : Value} {x y : Blk} (h : BLe u u' x y) (hx : isLst x = false) : isLst y = false := by
  cases x <;> cases y <;> simp [BLe, isLst] at h hx ⊢
structure Ren (ids : List Nat) (N : Nat) (cc c3 : Cx) : Prop where
  w : c3.w = cc.w
  fr : c3.fr = cc.fr
  tf : c3.tf = cc.tf
  tw : c3.tw = cc.tw
  sig : ∀ j, j < cc.hp.length → ren ids N j < c3.hp.length ∧ getB c3.hp (ren ids N j) = renB ids N (getB cc.hp j) ∧ c3.cv (ren ids N j) = cc.cv j
theorem Ren.ren0 {ids : List Nat} {N : Nat} {cc c3 : Cx} (R : Ren ids N cc c3) : ∀ {d : D} {u : Value}, Rep cc d u → Rep c3 (ren0 ids N d) u
  | .v x, u, h => by simp only [Rep, Aw.ren0] at h ⊢; exact h
  | .fz t l, u, h => by simp only [Rep, Aw.ren0] at h ⊢; rw [R.w, R.fr]; exact h
  | .av t n l, u, h => by simp only [Rep, Aw.ren0] at h ⊢; rw [R.w, R.fr]; exact h
  | .er e, u, h => by simp only [Rep, Aw.ren0] at h ⊢; rw [R.w, R.fr, R.tf, R.tw]; exact h
  | .sl b ver, u, h => by
    simp only [Rep, Aw.ren0] at h ⊢
    obtain ⟨h1, h2, h3⟩ := R.sig b h.1
    rw [h2, h3]
    refine ⟨h1, h.2.1, ?_⟩
    have := h.2.2
    revert this
    cases getB cc.hp b <;> exact id
  | .ptr b off, u, h => by
    simp only [Rep, Aw.ren0] at h ⊢
    obtain ⟨h1, h2, h3⟩ := R.sig b h.1
    rw [h2, h3, renB_lst]
    exact ⟨h1, h.2⟩
  | .ep b ver i off, u, h => by
    simp only [Rep, Aw.ren0] at h ⊢
    obtain ⟨h1, h2, h3⟩ := R.sig b h.1
    rw [h2, h3]
    refine ⟨h1, h.2.1, ?_⟩
    have := h.2.2
    revert this
    cases getB cc.hp b <;> exact id
  | .agg _, _, _ | .tup _, _, _ | .fp _, _, _ | .clo _ _ _, _, _ | .bad, _, _ => by simp only [Aw.ren0, Rep]
theorem RepL_map {c c3 : Cx} {f : D → D} (hf : ∀ {d : D} {u : Value}, Rep c d u → Rep c3 (f d) u) : ∀ {ds : List D} {us : List Value}, RepL c ds us → RepL c3 (ds.map f) us
  | [], us, h => by simp only [RepL, List.map_nil] at h ⊢; exact h
  | d :: r, us, h => by
    simp only [RepL, List.map_cons] at h ⊢
    obtain ⟨u, us', rfl, h1, h2⟩ := h
    exact ⟨u, us', rfl, hf h1, RepL_map hf h2⟩
theorem Ren.renC {ids : List Nat} {N : Nat} {cc c3 : Cx} (R : Ren ids N cc c3) {d : D} {u : Value} (h : Rep cc d u) : Rep c3 (renC ids N d) u := by
  cases d with
  | agg cs =>
    simp only [Rep, Aw.renC] at h ⊢
    obtain ⟨us, rfl, h⟩ := h
    exact ⟨us, rfl, RepL_map R.ren0 h⟩
  | fp cs =>
    simp only [Rep, Aw.renC] at h ⊢
    obtain ⟨a, us, rfl, h, h'⟩ := h
    exact ⟨a, us, rfl, RepL_map R.ren0 h, by rw [R.w, R.fr]; exact h'⟩
  | clo f fs cs =>
    simp only [Rep, Aw.renC] at h ⊢
    obtain ⟨us, vs, rfl, h, h'⟩ := h
    exact ⟨us, vs, rfl, RepL_map R.ren0 h, RepL_map R.ren0 h'⟩
  | _ => exact R.ren0 h
theorem Ren.renR {ids : List Nat} {N : Nat} {cc c3 : Cx} (R : Ren ids N cc c3) {d : D} {u : Value} (h : Rep cc d u) : Rep c3 (renR ids N d) u := by
  cases d with
  | tup ds =>
    simp only [Rep, Aw.renR] at h ⊢
    obtain ⟨us, rfl, h⟩ := h
    exact ⟨us, rfl, RepL_map R.renC h⟩
  | _ => exact R.renC h
theorem Ren.blk {ids : List Nat} {N : Nat} {cc c3 : Cx} (R : Ren ids N cc c3) {j : Nat} (hj : j < cc.hp.length) (h : BRep cc j (getB cc.hp j)) : BRep c3 (ren ids N j) (getB c3.hp (ren ids N j)) := by
  obtain ⟨h1, h2, h3⟩ := R.sig j hj
  rw [h2]
  revert h
  cases getB cc.hp j with
  | box ty cs =>
    rintro ⟨B, us, g1, g2, g3, g4⟩
    exact ⟨B, us, h3.trans g1, by rw [R.w]; exact g2, RepL_map R.renC g3, by rw [R.fr]; exact g4⟩
  | lst e t l ver s =>
    intro h
    simp only [BRep, Aw.renB] at h ⊢
    rw [h3, R.w, R.fr]; exact h
  | arr ty n t l s =>
    intro h
    simp only [BRep, Aw.renB] at h ⊢
    rw [h3, R.w, R.fr]; exact h
  | bld ty e s =>
    intro h
    simp only [BRep, Aw.renB] at h ⊢
    rw [h3, R.w, R.fr]; exact h
  | itr s pos =>
    intro h
    simp only [BRep, Aw.renB] at h ⊢
    rw [h3, R.w, R.fr]; exact h
  | dead => intro _; trivial
theorem back_rep {c1 : Cx} (H1 : HRep c1) {ids ss : List Nat} {bs acc hp2 : List Blk} (C : Coll c1 hp2 acc ss) (hl : bs.length = ids.length) (hnd : ids.Nodup)
    (hb : ∀ (i : Nat) b x, ids[i]? = some b → bs[i]? = some x → ∀ j, (over2 c1 ids ss bs acc).cv j = c1.cv b → Same c1 (over2 c1 ids ss bs acc) b j x)
    {cc : Cx} (H : HRep cc) (I : Inv (over2 c1 ids ss bs acc) ids.length cc) :
    HRep (back c1 cc hp2 ids) ∧ Stp c1 (back c1 cc hp2 ids) ∧ ∀ {d : D} {v : Value}, Rep cc d v → Rep (back c1 cc hp2 ids) (renR ids hp2.length d) v := by
  obtain ⟨H0, Ow, Fr⟩ := over2_rep H1 C hl hnd hb
  let N := hp2.length
  let n := ids.length
  let c3 := back c1 cc hp2 ids
  have hN : hp2.length = c1.hp.length := C.hlen
  have hn : ids.length ≤ cc.hp.length := I.len
  have hcc0 : (over2 c1 ids ss bs acc).hp.length = ids.length + acc.length := by
    show (bs ++ acc).length = _
    rw [List.length_append, hl]
  have idat : ∀ j, j < ids.length → ∃ b, ids[j]? = some b ∧ ren ids hp2.length j = b ∧ b < hp2.length ∧ (over2 c1 ids ss bs acc).cv j = c1.cv b ∧ isLst (getB (over2 c1 ids ss bs acc).hp j) = false ∧
      isLst (getB c1.hp b) = false ∧ Aw.live (getB c1.hp b) = true ∧ ∀ u, BLe u u (getB c1.hp b) (getB (over2 c1 ids ss bs acc).hp j) := by
    intro j hj
    rcases Fr j (by omega) with ⟨_, b, h1, h2, h3, h4, h5, h6⟩ | ⟨h1, _⟩
    · refine ⟨b, h1, ?_, by omega, h2, h6, h4, h5, ?_⟩
      · simp only [ren, if_pos hj, List.getD_eq_getElem?_getD, h1, Option.getD_some]
      · have S := hb j b _ h1 (getB_of (by omega)) j h2
        rw [over2_low hl hj]; exact S.ble
    · omega
  have hlen3 : c3.hp.length = hp2.length + (cc.hp.length - ids.length) := by
    show (putBack _ _ _ ++ _).length = _
    rw [List.length_append, putBack_len]; simp
  have low3 : ∀ b, b < hp2.length → getB c3.hp b = getB (putBack hp2 ids ((cc.hp.take ids.length).map (renB ids hp2.length))) b := by
    intro b hb
    show getB (putBack _ _ _ ++ _) b = _
    simp only [getB, List.getD_eq_getElem?_getD]
    rw [List.getElem?_append_left (by rw [putBack_len]; exact hb)]
  have R : Ren ids hp2.length cc c3 := by
    refine ⟨rfl, rfl, rfl, rfl, fun j hj => ?_⟩
    rcases Nat.lt_or_ge j ids.length with h | h
    · obtain ⟨b, h1, h2, h3, h4, h5, _⟩ := idat j h
      rw [h2]
      refine ⟨by omega, ?_, ?_⟩
      · rw [low3 b h3]
        refine putBack_at ids hp2 _ hnd h3 h1 ?_
        rw [List.getElem?_map, List.getElem?_take, if_pos h, getB_of hj]
        rfl
      · show (match nthIdx b ids 0 with | some j => cc.cv j | none => _) = _
        rw [nthIdx_in hnd h1, Nat.zero_add]
    · have hr : ren ids hp2.length j = hp2.length + (j - ids.length) := by simp only [ren, if_neg (show ¬ j < ids.length by omega)]
      rw [hr]
      refine ⟨by omega, ?_, ?_⟩
      · show getB (putBack _ _ _ ++ _) _ = _
        simp only [getB, List.getD_eq_getElem?_getD]
        rw [List.getElem?_append_right (by rw [putBack_len]; omega), putBack_len, Nat.add_sub_cancel_left, List.getElem?_map, List.getElem?_drop, show ids.length + (j - ids.length) = j by omega]
        simp [List.getElem?_eq_getElem hj]
      · have hni : (hp2.length + (j - ids.length)) ∉ ids := by
          intro hm
          obtain ⟨i, hi, e⟩ := List.getElem_of_mem hm
          obtain ⟨b, h1, h2, h3, _⟩ := idat i hi
          rw [List.getElem?_eq_getElem hi, e] at h1
          cases h1
          omega
        show (match nthIdx _ ids 0 with | some j => cc.cv j | none => if _ then _ else _) = _
        rw [nthIdx_no hni]
        show (if _ then _ else _) = _
        rw [if_neg (by omega), Nat.add_sub_cancel_left, show ids.length + (j - ids.length) = j by omega]
  have cases_ : ∀ b, b < c3.hp.length → (∃ j, j < cc.hp.length ∧ b = ren ids hp2.length j) ∨ (b < hp2.length ∧ b ∉ ids ∧ getB c3.hp b = getB hp2 b ∧ c3.cv b = c1.cv b) := by
    intro b hb
    rcases Nat.lt_or_ge b hp2.length with h | h
    · by_cases hm : b ∈ ids
      · obtain ⟨j, hj, e⟩ := List.getElem_of_mem hm
        refine .inl ⟨j, by omega, ?_⟩
        simp only [ren, if_pos hj, List.getD_eq_getElem?_getD, List.getElem?_eq_getElem hj, Option.getD_some, e]
      · refine .inr ⟨h, hm, ?_, ?_⟩
        · rw [low3 b h, putBack_ne _ _ _ hm]
        · show (match nthIdx _ ids 0 with | some j => cc.cv j | none => if _ then _ else _) = _
          rw [nthIdx_no hm]
          exact if_pos h
    · refine .inl ⟨ids.length + (b - hp2.length), by omega, ?_⟩
      simp only [ren, if_neg (show ¬ ids.length + (b - hp2.length) < ids.length by omega), Nat.add_sub_cancel_left]
      omega
  have other : ∀ b, Aw.live (getB hp2 b) = true → b ∉ ss ∧ getB hp2 b = getB c1.hp b := by
    intro b h
    rw [C.hp] at h ⊢
    by_cases hs : b ∈ ss
    · rw [if_pos hs] at h; cases h
    · exact ⟨hs, if_neg hs⟩
  have notown : ∀ b B, b ∉ ids → Aw.live (getB hp2 b) = true → cb (c1.cv b) B → ¬ Own (over2 c1 ids ss bs acc) B := by
    rintro b B hid hlv hB ⟨j, hj, hl', hB'⟩
    obtain ⟨hs, he⟩ := other b hlv
    have hlv' : Aw.live (getB c1.hp b) = true := by rw [← he]; exact hlv
    rcases Fr j hj with ⟨_, b', g1, g2, g3, _, g5, _⟩ | ⟨_, b', g1, g2, g3, g4, _⟩
    · rw [g2] at hB'
      refine H1.apart b b' B (live_lt hlv') g3 (fun e => hid ?_) hlv' g5 hB hB'
      subst e
      exact List.mem_of_getElem? g1
    · rw [g2] at hB'
      refine H1.apart b b' B (live_lt hlv') g3 (fun e => hs ?_) hlv' ?_ hB hB'
      · subst e
        exact List.mem_of_getElem? g1
      · revert g4
        cases getB c1.hp b' <;> simp [isLst, Aw.live]
  have size_ : ∀ b B, Aw.live (getB hp2 b) = true → cb (c1.cv b) B → B < c1.w.heap.size := by
    intro b B hlv hB
    obtain ⟨_, he⟩ := other b hlv
    rw [he] at hlv
    exact BRep.lt hB hlv (H1.blk b (live_lt hlv))
  have hle : HpLe c1 c3 := by
    refine ⟨by omega, fun b hb => ?_, I.ext, I.tf, I.tw⟩
    rcases cases_ b (by omega) with ⟨j, hj, e⟩ | ⟨g1, g2, g3, g4⟩
    · obtain ⟨s1, s2, s3⟩ := R.sig j hj
      have hjn : j < ids.length := by
        rcases Nat.lt_or_ge j ids.length with h | h
        · exact h
        · simp only [ren, if_neg (show ¬ j < ids.length by omega)] at e; omega
      obtain ⟨b', i1, i2, i3, i4, i5, i6, i7, i8⟩ := idat j hjn
      rw [i2] at e s2 s3
      subst e
      rw [s2, s3]
      have := (i8 (c1.cv b)).trans (i4 ▸ I.same j hjn)
      exact this.renB ids hp2.length
    · rw [g3, g4, C.hp]
      by_cases hs : b ∈ ss
      · rw [if_pos hs]; exact BLe.dead _ _
      · rw [if_neg hs]; exact BLe.refl _ _
  have hI : ∀ j j', j < cc.hp.length → j' < cc.hp.length → ren ids hp2.length j = ren ids hp2.length j' → j = j' := by
    intro j j' hj hj' e
    rcases Nat.lt_or_ge j ids.length with h | h <;> rcases Nat.lt_or_ge j' ids.length with h' | h'
    · obtain ⟨b, i1, i2, _⟩ := idat j h
      obtain ⟨b', i1', i2', _⟩ := idat j' h'
      rw [i2, i2'] at e
      subst e
      exact (List.getElem?_inj h hnd).1 (i1.trans i1'.symm)
    · obtain ⟨b, i1, i2, i3, _⟩ := idat j h
      rw [i2] at e
      simp only [ren, if_neg (show ¬ j' < ids.length by omega)] at e
      omega
    · obtain ⟨b, i1, i2, i3, _⟩ := idat j' h'
      rw [i2] at e
      simp only [ren, if_neg (show ¬ j < ids.length by omega)] at e
      omega
    · simp only [ren, if_neg (show ¬ j < ids.length by omega), if_neg (show ¬ j' < ids.length by omega)] at e
      omega
  have ownIm : ∀ j B, j < cc.hp.length → Aw.live (getB c3.hp (ren ids hp2.length j)) = true → cb (c3.cv (ren ids hp2.length j)) B → Own cc B := by
    intro j B hj hlv hB
    obtain ⟨s1, s2, s3⟩ := R.sig j hj
    rw [s2, renB_live] at hlv
    rw [s3] at hB
    exact ⟨j, hj, hlv, hB⟩
  have clash : ∀ b B, b ∉ ids → Aw.live (getB hp2 b) = true → cb (c1.cv b) B → Own cc B → False := by
    intro b B h1 h2 h3 h4
    rcases I.fresh B h4 with h | h
    · have := size_ b B h2 h3
      exact absurd h (by show ¬ c1.w.heap.size ≤ B; omega)
    · exact notown b B h1 h2 h3 h
  refine ⟨⟨fun b hb => ?_, ?_, H.frin⟩, ⟨hle, I.os, I.tape, I.output, I.size, fun i hi hno => I.keep i hi (fun ho => hno (Ow i ho)), ?_, ?_⟩, fun h => R.renR h⟩
  · rcases cases_ b hb with ⟨j, hj, e⟩ | ⟨g1, g2, g3, g4⟩
    · rw [e]
      exact R.blk hj (H.blk j hj)
    · show BRep c3 b (getB c3.hp b)
      rw [g3]
      cases hlv : Aw.live (getB hp2 b) with
      | false =>
        revert hlv
        cases getB hp2 b <;> simp [Aw.live]
        trivial
      | true =>
        obtain ⟨hs, he⟩ := other b hlv
        rw [he]
        refine BRep.keep hle g4 (fun B hB => I.keep B (size_ b B hlv hB) (notown b B g2 hlv hB)) (fun a B hB ha hf => ?_) (H1.blk b (by omega))
        rcases I.frnew a hf with h | h | h
        · exact h
        · have := size_ b B hlv hB
          exact absurd h (by rw [ha]; show ¬ c1.w.heap.size ≤ B; omega)
        · rw [ha] at h
          exact absurd h (notown b B g2 hlv hB)
  · intro b b' B hb hb' hne hl1 hl2 hB hB'
    rcases cases_ b hb with ⟨j, hj, e⟩ | ⟨g1, g2, g3, g4⟩ <;> rcases cases_ b' hb' with ⟨j', hj', e'⟩ | ⟨g1', g2', g3', g4'⟩
    · subst e; subst e'
      obtain ⟨s1, s2, s3⟩ := R.sig j hj
      obtain ⟨s1', s2', s3'⟩ := R.sig j' hj'
      rw [show getB (back c1 cc hp2 ids).hp (ren ids hp2.length j) = _ from s2, renB_live] at hl1
      rw [show getB (back c1 cc hp2 ids).hp (ren ids hp2.length j') = _ from s2', renB_live] at hl2
      rw [show (back c1 cc hp2 ids).cv (ren ids hp2.length j) = _ from s3] at hB
      rw [show (back c1 cc hp2 ids).cv (ren ids hp2.length j') = _ from s3'] at hB'
      exact H.apart j j' B hj hj' (fun e => hne (by rw [e])) hl1 hl2 hB hB'
    · subst e
      rw [show getB (back c1 cc hp2 ids).hp b' = _ from g3'] at hl2
      rw [show (back c1 cc hp2 ids).cv b' = _ from g4'] at hB'
      exact clash b' B g2' hl2 hB' (ownIm j B hj hl1 hB)
    · subst e'
      rw [show getB (back c1 cc hp2 ids).hp b = _ from g3] at hl1
      rw [show (back c1 cc hp2 ids).cv b = _ from g4] at hB
      exact clash b B g2 hl1 hB (ownIm j' B hj' hl2 hB')
    · rw [show getB (back c1 cc hp2 ids).hp b = _ from g3] at hl1
      rw [show (back c1 cc hp2 ids).cv b = _ from g4] at hB
      rw [show getB (back c1 cc hp2 ids).hp b' = _ from g3'] at hl2
      rw [show (back c1 cc hp2 ids).cv b' = _ from g4'] at hB'
      have e1 := (other b hl1).2
      have e2 := (other b' hl2).2
      rw [e1] at hl1
      rw [e2] at hl2
      exact H1.apart b b' B (by omega) (by omega) hne hl1 hl2 hB hB'
  · rintro i ⟨b, hb, hlv, hi⟩
    rcases cases_ b hb with ⟨j, hj, e⟩ | ⟨g1, g2, g3, g4⟩
    · subst e
      rcases I.fresh i (ownIm j i hj hlv hi) with h | h
      · exact .inl h
      · exact .inr (Ow i h)
    · rw [show getB (back c1 cc hp2 ids).hp b = _ from g3] at hlv
      rw [show (back c1 cc hp2 ids).cv b = _ from g4] at hi
      have e1 := (other b hlv).2
      rw [e1] at hlv
      exact .inr ⟨b, by omega, hlv, hi⟩
  · intro a ha
    rcases I.frnew a ha with h | h | h
    · exact .inl h
    · exact .inr (.inl h)
    · exact .inr (.inr (Ow _ h))
end Go.Aw

namespace Go.Aw
open Go.RowKit
theorem nil_lst {c : Cx} (H : HRep c) (e : TypeId) (t : Ty) : ∃ c', c'.w = c.w ∧ c'.hp = c.hp ++ [.lst e t [] 0 false] ∧ HRep c' ∧ Stp c c' ∧ Rep c' (.sl c.hp.length 0) (.slice none 0 0) := by
  let c' : Cx := { c with hp := c.hp ++ [.lst e t [] 0 false], cv := fun b => if b = c.hp.length then .slice none 0 0 else c.cv b }
  have hg : ∀ b, getB c'.hp b = if b = c.hp.length then .lst e t [] 0 false else getB c.hp b := fun b => getB_app _
  have hcv : ∀ b, b ≠ c.hp.length → c'.cv b = c.cv b := fun b hb => if_neg hb
  have hcv0 : c'.cv c.hp.length = .slice none 0 0 := if_pos rfl
  have hlen : c'.hp.length = c.hp.length + 1 := by show (c.hp ++ _).length = _; simp
  have hle : HpLe c c' := by
    refine ⟨by omega, fun b hb => ?_, Ext.refl _ _, rfl, rfl⟩
    rw [hg, if_neg (by omega), hcv b (by omega)]
    exact BLe.refl _ _
  have none_ : ∀ b, b < c'.hp.length → live (getB c'.hp b) = true → ∀ B, cb (c'.cv b) B → b ≠ c.hp.length := by
    intro b _ _ B hB e
    subst e
    rw [hcv0] at hB; cases hB
  refine ⟨c', rfl, rfl, ⟨fun b hb => ?_, ?_, H.frin⟩, ⟨hle, rfl, rfl, rfl, Nat.le_refl _, fun _ _ _ => rfl, ?_, fun _ h => .inl h⟩, ?_⟩
  · by_cases e1 : b = c.hp.length
    · subst e1
      rw [hg, if_pos rfl]
      exact ⟨none, 0, hcv0, .inl ⟨rfl, rfl, rfl⟩⟩
    · rw [hg, if_neg e1]
      exact (H.blk b (by omega)).keep hle (hcv b e1) (fun _ _ => rfl) (fun _ _ _ _ h => h)
  · intro b b' B hb hb' hne hl hl' hB hB'
    have e1 := none_ b hb hl B hB
    have e2 := none_ b' hb' hl' B hB'
    rw [hg, if_neg e1] at hl
    rw [hg, if_neg e2] at hl'
    rw [hcv b e1] at hB
    rw [hcv b' e2] at hB'
    exact H.apart b b' B (by omega) (by omega) hne hl hl' hB hB'
  · rintro i ⟨b, hb, hl, hi⟩
    have e1 := none_ b hb hl i hi
    rw [hg, if_neg e1] at hl
    rw [hcv b e1] at hi
    exact .inr ⟨b, by omega, hl, hi⟩
  · simp only [Rep, hg, if_pos]
    exact ⟨by omega, rfl, Nat.le_refl _, fun _ => hcv0.symm⟩
theorem prepOwn_out {c : Cx} (H : HRep c) {e : TypeId} {t : Ty} {d d' : D} {hp' : List Blk} {u : Value} (h : prepOwn c.hp e t d = some (d', hp')) (hd : Rep c d u) :
    ∃ c', c'.w = c.w ∧ c'.hp = hp' ∧ HRep c' ∧ Stp c c' ∧ Rep c' d' u := by
  unfold prepOwn at h
  split at h
  · cases h
    simp only [Rep] at hd
    subst hd
    exact nil_lst H e t
  · split at h
    · split at h
      · cases h; exact ⟨c, rfl, rfl, H, Stp.refl c, hd⟩
      · cases h
    · cases h
  · cases h
theorem sealD_out {c : Cx} (H : HRep c) (d : D) : ∃ c', c'.w = c.w ∧ c'.hp = sealD c.hp d ∧ HRep c' ∧ Stp c c' := by
  unfold sealD
  split
  · rename_i b ver
    by_cases hb : b < c.hp.length
    · cases hg : getB c.hp b with
      | lst e t l ver s =>
        obtain ⟨c', e1, e2, e3, H', S', R'⟩ := seal_lst H hg hb
        exact ⟨c', e1, e2, H', S'⟩
      | _ => exact ⟨c, rfl, (set_same hg hb).symm, H, Stp.refl c⟩
    · exact ⟨c, rfl, by rw [List.set_eq_of_length_le (by omega)], H, Stp.refl c⟩
  · exact ⟨c, rfl, rfl, H, Stp.refl c⟩
theorem prepD0_out {c : Cx} (H : HRep c) {m : Mode} {d d' : D} {hp' : List Blk} {u : Value} (h : prepD0 c.hp m d = some (d', hp')) (hd : Rep c d u) :
    ∃ c', c'.w = c.w ∧ c'.hp = hp' ∧ HRep c' ∧ Stp c c' ∧ Rep c' d' u := by
  unfold prepD0 at h
  split at h
  · cases h; exact ⟨c, rfl, rfl, H, Stp.refl c, hd⟩
  · exact prepOwn_out H h hd
  · split at h
    · rename_i d1 hp1 h1
      cases h
      obtain ⟨c1, e1, e2, H1, S1, R1⟩ := prepOwn_out H h1 hd
      obtain ⟨c2, f1, f2, H2, S2⟩ := sealD_out H1 d'
      exact ⟨c2, f1.trans e1, by rw [f2, e2], H2, S1.trans S2, R1.mono S2.le⟩
    · cases h
  · cases h
    simp only [Rep] at hd
    subst hd
    refine ⟨c, rfl, rfl, H, Stp.refl c, ?_⟩
    simp only [Rep]
    exact ⟨none, 0, rfl, Nat.le_refl _, fun h => absurd rfl h⟩
  · split at h
    · cases h; exact ⟨c, rfl, rfl, H, Stp.refl c, hd⟩
    · cases h
  · rename_i t b ver
    split at h
    · rename_i e' t' l ver' s hg
      split at h
      · rename_i hv
        cases h
        simp only [Rep] at hd
        obtain ⟨h1, _, h3⟩ := hd
        rw [hg] at h3
        obtain ⟨c', e1, e2, e3, H', S', R'⟩ := seal_lst H hg h1
        exact ⟨c', e1, e2, H', S', by rw [h3.2 hv.1]; exact R'⟩
      · cases h
    · cases h
  · cases h
theorem getD_rep {c : Cx} {tmps : List D} {us : List Value} (R : RepL c tmps us) {s : Nat} {d : D} (h : tmps.getD s .bad = d) : (∃ u, us[s]? = some u ∧ Rep c d u) ∨ (us[s]? = none ∧ d = .bad ∧ tmps[s]? = none) := by
  rw [List.getD_eq_getElem?_getD] at h
  cases hx : tmps[s]? with
  | none =>
    rw [hx] at h
    refine .inr ⟨?_, h.symm, rfl⟩
    rw [List.getElem?_eq_none_iff] at hx ⊢
    rw [RepL_length R]; exact hx
  | some y =>
    rw [hx] at h
    have : y = d := h
    subst this
    exact .inl (RepL_get R hx)
theorem set_val {us : List Value} {s : Nat} {u : Value} (h : us[s]? = some u) : us.set s u = us := by
  apply List.ext_getElem?
  intro i
  rw [List.getElem?_set]
  by_cases e : s = i
  · subst e
    rw [if_pos rfl, if_pos (List.getElem?_eq_some_iff.1 h).1, h]
  · rw [if_neg e]
theorem recell {c : Cx} (H : HRep c) {b : Nat} {ty : TypeId} {cs cs' : List D} (hg : getB c.hp b = .box ty cs) (hb : b < c.hp.length) (hl : cs'.length = cs.length)
    (hr : ∀ B us, c.cv b = .pointer (some ⟨B, 0, none⟩) → c.w.heap[B]? = some (.cells us.toArray ty (0, 0)) → RepL c cs us → RepL c cs' us) :
    ∃ c', c'.w = c.w ∧ c'.hp = c.hp.set b (.box ty cs') ∧ HRep c' ∧ Stp c c' := by
  have hB := H.blk b hb
  rw [hg] at hB
  obtain ⟨B, us, h1, h2, h3, h4⟩ := hB
  let c' : Cx := { c with hp := c.hp.set b (.box ty cs') }
  have hg' : ∀ b', getB c'.hp b' = if b' = b then .box ty cs' else getB c.hp b' := fun b' => getB_set _ hb
  have hle : HpLe c c' := by
    refine ⟨by simp [c'], fun b' hb' => ?_, Ext.refl _ _, rfl, rfl⟩
    rw [hg' b']
    by_cases e' : b' = b
    · subst e'
      rw [if_pos rfl, hg]
      exact ⟨rfl, hl, rfl⟩
    · rw [if_neg e']; exact BLe.refl _ _
  have hnew : BRep c' b (.box ty cs') := ⟨B, us, h1, h2, (hr B us h1 h2 h3).mono hle, h4⟩
  have U : Upd c c' b := {
    lt := by simpa [c'] using hb
    len := fun b' hb' _ => by simpa [c'] using hb'
    oth := fun b' hb' hne => ⟨by rw [hg' b', if_neg hne], rfl⟩
    heap := fun i hi _ => rfl
    size := Nat.le_refl _
    os := rfl, tape := rfl, output := rfl
    fr := fun a ha => .inl ha
    frin := fun a ha => H.frin a ha
    new := by rw [hg' b, if_pos rfl]; exact hnew
    at_ := fun B' _ hB' => .inr ⟨hb, by rw [hg]; rfl, hB'⟩ }
  exact ⟨c', rfl, rfl, U.hrep H hle, U.stp hle⟩
theorem prepCells_out (b : Nat) : ∀ (l : List (Nat × Option TypeId × Ty)) {c : Cx} {hp' : List Blk}, HRep c → prepCells b l c.hp = some hp' → ∃ c', c'.w = c.w ∧ c'.hp = hp' ∧ HRep c' ∧ Stp c c'
  | [], c, hp', H, h => by
    cases h
    exact ⟨c, rfl, rfl, H, Stp.refl c⟩
  | (o, e, t) :: r, c, hp', H, h => by
    unfold prepCells at h
    split at h
    · rename_i ty cs hg
      have hb : b < c.hp.length := getB_lt fun e => by rw [e] at hg; cases hg
      split at h
      · rename_i d hp1 h1
        split at h
        · rename_i ty' cs' hg1
          have hB := H.blk b hb
          rw [hg] at hB
          obtain ⟨B, us, k1, k2, k3, k4⟩ := hB
          have key : ∃ c1, c1.w = c.w ∧ c1.hp = hp1 ∧ HRep c1 ∧ Stp c c1 ∧ (∀ u, us[o]? = some u → Rep c1 d u) := by
            rcases getD_rep k3 (s := o) rfl with ⟨u, hu, hd⟩ | ⟨hu, hbad, hn⟩
            · obtain ⟨c1, e1, e2, H1, S1, R1⟩ := prepD0_out H h1 hd
              exact ⟨c1, e1, e2, H1, S1, fun u' hu' => by rw [hu] at hu'; cases hu'; exact R1⟩
            · obtain ⟨c1, e1, e2, H1, S1, _⟩ := prepD0_out (u := undef) H h1 (by rw [hbad]; simp only [Rep])
              exact ⟨c1, e1, e2, H1, S1, fun u' hu' => by rw [hu] at hu'; cases hu'⟩
          obtain ⟨c1, e1, e2, H1, S1, R1⟩ := key
          have hg2 : getB c1.hp b = .box ty' cs' := by rw [e2]; exact hg1
          have ble := S1.le.blk b hb
          rw [hg, hg2] at ble
          obtain ⟨b1, b2, b3⟩ := ble
          have hb1 : b < c1.hp.length := Nat.lt_of_lt_of_le hb S1.le.len
          obtain ⟨c2, f1, f2, H2, S2⟩ := recell H1 (cs' := cs'.set o d) hg2 hb1 (by simp) (fun B' us' q1 q2 q3 => by
            rw [b3, k1] at q1
            cases q1
            rw [e1, k2] at q2
            have hus : us'.toArray = us.toArray := by
              have := Option.some.inj q2
              injection this with h5 _ _
              exact h5.symm
            have hus : us' = us := by simpa using hus
            subst hus
            cases hx : us'[o]? with
            | none =>
              have : o ≥ cs'.length := by
                rw [List.getElem?_eq_none_iff] at hx
                rw [← RepL_length q3]; exact hx
              rw [List.set_eq_of_length_le this]
              exact q3
            | some u =>
              have := RepL_set o q3 (R1 u hx)
              rwa [set_val hx] at this)
          rw [e2] at f2
          rw [← f2] at h
          obtain ⟨c3, g1, g2, H3, S3⟩ := prepCells_out b r H2 h
          exact ⟨c3, by rw [g1, f1, e1], g2, H3, (S1.trans S2).trans S3⟩
        · cases h
      · cases h
    · cases h
theorem prepD_out {c : Cx} (H : HRep c) {m : Mode} {d d' : D} {hp' : List Blk} {u : Value} (h : prepD c.hp m d = some (d', hp')) (hd : Rep c d u) :
    ∃ c', c'.w = c.w ∧ c'.hp = hp' ∧ HRep c' ∧ Stp c c' ∧ Rep c' d' u := by
  unfold prepD at h
  split at h
  · split at h
    · rename_i h1
      cases h
      obtain ⟨c1, e1, e2, H1, S1⟩ := prepCells_out _ _ H h1
      exact ⟨c1, e1, e2, H1, S1, hd.mono S1.le⟩
    · cases h
  · exact prepD0_out H h hd
theorem prepAll_out : ∀ (ms : List (Nat × Mode)) {c : Cx} {tmps tmps' : List D} {hp' : List Blk} {us : List Value}, HRep c → prepAll ms tmps c.hp = some (tmps', hp') → RepL c tmps us →
    ∃ c', c'.w = c.w ∧ c'.hp = hp' ∧ HRep c' ∧ Stp c c' ∧ RepL c' tmps' us
  | [], c, tmps, tmps', hp', us, H, h, hr => by
    cases h
    exact ⟨c, rfl, rfl, H, Stp.refl c, hr⟩
  | (s, m) :: r, c, tmps, tmps', hp', us, H, h, hr => by
    unfold prepAll at h
    split at h
    · rename_i d hp1 h1
      rcases getD_rep hr (s := s) rfl with ⟨u, hu, hd⟩ | ⟨hu, hb, hn⟩
      · obtain ⟨c1, e1, e2, H1, S1, R1⟩ := prepD_out H h1 hd
        rw [← e2] at h
        have R2 := RepL_set s (hr.mono S1.le) R1
        rw [set_val hu] at R2
        obtain ⟨c2, f1, f2, H2, S2, R3⟩ := prepAll_out r H1 h R2
        exact ⟨c2, f1.trans e1, f2, H2, S1.trans S2, R3⟩
      · rw [hb] at h1
        have hset : tmps.set s d = tmps := by
          apply List.ext_getElem?
          intro i
          rw [List.getElem?_set]
          by_cases e : s = i
          · subst e
            rw [if_pos rfl, if_neg (by rw [List.getElem?_eq_none_iff] at hn; omega), hn]
          · rw [if_neg e]
        rw [hset] at h
        obtain ⟨c1, e1, e2, H1, S1, _⟩ := prepD_out (u := undef) H h1 (by simp only [Rep])
        rw [← e2] at h
        obtain ⟨c2, f1, f2, H2, S2, R3⟩ := prepAll_out r H1 h (hr.mono S1.le)
        exact ⟨c2, f1.trans e1, f2, H2, S1.trans S2, R3⟩
    · cases h
theorem ptrIds0_spec : ∀ (ds : List D) {ids : List Nat}, ids <+: ptrIds0 ids ds ∧ (ids.Nodup → (ptrIds0 ids ds).Nodup)
  | [], ids => ⟨List.prefix_refl _, id⟩
  | d :: r, ids => by
    unfold ptrIds0
    split
    · rename_i heq; cases heq
    · rename_i b off r' heq
      cases heq
      obtain ⟨h1, h2, h3⟩ := idxOf_spec (x := b) (l := ids) rfl
      obtain ⟨g1, g2⟩ := ptrIds0_spec r (ids := (idxOf b ids).1)
      exact ⟨h1.trans g1, fun h => g2 (h3 h)⟩
    · rename_i heq
      cases heq
      exact ptrIds0_spec r
theorem ptrIds_spec (tmps : List D) : ∀ (ms : List (Nat × Mode)) {ids : List Nat}, ids <+: ptrIds ids tmps ms ∧ (ids.Nodup → (ptrIds ids tmps ms).Nodup)
  | [], ids => ⟨List.prefix_refl _, id⟩
  | (s, m) :: r, ids => by
    unfold ptrIds
    split
    · rename_i b off heq
      obtain ⟨h1, h2, h3⟩ := idxOf_spec (x := b) (l := ids) rfl
      obtain ⟨g1, g2⟩ := ptrIds_spec tmps r (ids := (idxOf b ids).1)
      exact ⟨h1.trans g1, fun h => g2 (h3 h)⟩
    · rename_i f fs cs heq
      obtain ⟨h1, h2⟩ := ptrIds0_spec fs (ids := ids)
      obtain ⟨k1, k2⟩ := ptrIds0_spec cs (ids := ptrIds0 ids fs)
      obtain ⟨g1, g2⟩ := ptrIds_spec tmps r (ids := ptrIds0 (ptrIds0 ids fs) cs)
      exact ⟨(h1.trans k1).trans g1, fun h => g2 (k2 (h2 h))⟩
    · exact ptrIds_spec tmps r
theorem capK_rep {ids : List Nat} {n : Nat} {c c2 : Cx} {acc : List Blk} {ss : List Nat} (I : Into n c acc ss c2) (M : Moved ids c c2) {d : D} {u : Value} (hd : Rep c d u) : Rep c2 (capK ids d) u := by
  have L : Low 0 c c2 := ⟨I.w, I.fr, I.tf, I.tw, Nat.zero_le _, fun b hb => by omega, fun b hb => by omega⟩
  unfold capK
  split
  · rename_i b off
    split
    · rename_i j hj
      obtain ⟨_, h2⟩ := nthIdx_spec hj
      rw [Nat.sub_zero] at h2
      obtain ⟨m1, m2, m3⟩ := M j b h2
      simp only [Rep] at hd ⊢
      obtain ⟨_, _, a, g1, g2⟩ := hd
      exact ⟨m1, m2, a, (congrArg adr m3).trans g1, g2⟩
    · simp only [Rep]
  · split
    · rename_i hb
      exact L.below hb hd
    · simp only [Rep]
theorem outK0_sound {n : Nat} {ids : List Nat} {c : Cx} (H : HRep c) {hp acc : List Blk} {ss : List Nat} (C : Coll c hp acc ss) {d d' : D} {hp' acc' : List Blk} {u : Value} (h : outK0 n ids hp acc d = some (d', hp', acc')) (hd : Rep c d u) :
    ∃ ss', Coll c hp' acc' ss' ∧ acc <+: acc' ∧ ss <+: ss' ∧ ∀ c2, Into n c acc' ss' c2 → Moved ids c c2 → Rep c2 d' u := by
  unfold outK0 at h
  split at h
  · cases h
    exact ⟨ss, C, List.prefix_refl _, List.prefix_refl _, fun c2 I M => capK_rep I M hd⟩
  · rename_i cs
    split at h
    · rename_i cs' hp1 acc1 g
      cases h
      simp only [Rep] at hd
      obtain ⟨us, rfl, hd⟩ := hd
      obtain ⟨ss', C', p1, p2, f⟩ := collAll_sound H C g hd
      exact ⟨ss', C', p1, p2, fun c2 I _ => by simp only [Rep]; exact ⟨us, rfl, f c2 I⟩⟩
    · cases h
  · cases h
    simp only [Rep] at hd
    obtain ⟨us, vs, rfl, h1, h2⟩ := hd
    refine ⟨ss, C, List.prefix_refl _, List.prefix_refl _, fun c2 I M => ?_⟩
    simp only [Rep]
    exact ⟨us, vs, rfl, RepL_map (fun h => capK_rep I M h) h1, RepL_map (fun h => capK_rep I M h) h2⟩
  · obtain ⟨ss', C', p1, p2, f⟩ := coll_sound H C h hd
    exact ⟨ss', C', p1, p2, fun c2 I _ => f c2 I⟩
theorem outK_sound {n : Nat} {ids : List Nat} {c : Cx} (H : HRep c) {hp acc : List Blk} {ss : List Nat} (C : Coll c hp acc ss) {m : Mode} {d d' : D} {hp' acc' : List Blk} {u : Value} (h : outK n ids hp acc m d = some (d', hp', acc')) (hd : Rep c d u) :
    ∃ ss', Coll c hp' acc' ss' ∧ acc <+: acc' ∧ ss <+: ss' ∧ ∀ c2, Into n c acc' ss' c2 → Moved ids c c2 → Rep c2 d' u := by
  unfold outK at h
  split at h
  · obtain ⟨ss', C', p1, p2, f⟩ := collOwn_sound (n := n) C h hd
    exact ⟨ss', C', p1, p2, fun c2 I _ => f c2 I⟩
  · obtain ⟨ss', C', p1, p2, f⟩ := collOwn_sound (n := n) C h hd
    exact ⟨ss', C', p1, p2, fun c2 I _ => f c2 I⟩
  · exact outK0_sound H C h hd
theorem outKeep_sound {n : Nat} {ids : List Nat} {c : Cx} (H : HRep c) {tmps : List D} {us : List Value} (R : RepL c tmps us) : ∀ (ms : List (Nat × Mode)) {hp acc : List Blk} {ss : List Nat} {res res' : List D} {acc' : List Blk}, Coll c hp acc ss → outKeep n ids tmps ms hp acc res = some (res', acc') →
    ∃ hp' ss', Coll c hp' acc' ss' ∧ acc <+: acc' ∧ ss <+: ss' ∧ ∀ c2, Into n c acc' ss' c2 → Moved ids c c2 → RepL c2 res us → RepL c2 res' us
  | [], hp, acc, ss, res, res', acc', C, h => by
    cases h
    exact ⟨hp, ss, C, List.prefix_refl _, List.prefix_refl _, fun c2 I M h => h⟩
  | (s, m) :: r, hp, acc, ss, res, res', acc', C, h => by
    unfold outKeep at h
    split at h
    · rename_i d hp1 acc1 h1
      rcases getD_rep R (s := s) rfl with ⟨u, hu, hd⟩ | ⟨hu, hb, hn⟩
      · obtain ⟨ss1, C1, p1, p2, f1⟩ := outK_sound H C h1 hd
        obtain ⟨hp2, ss2, C2, q1, q2, f2⟩ := outKeep_sound H R r C1 h
        refine ⟨hp2, ss2, C2, p1.trans q1, p2.trans q2, fun c2 I M hr => f2 c2 I M ?_⟩
        have := RepL_set s hr (f1 c2 (I.pre q1 q2) M)
        rwa [set_val hu] at this
      · rw [hb] at h1
        cases m <;> cases h1
    · cases h
end Go.Aw

namespace Go.Aw
open Go.RowKit
theorem bads_rep (c : Cx) : ∀ us : List Value, RepL c (List.replicate us.length .bad) us
  | [] => by simp only [List.length_nil, List.replicate_zero, RepL]
  | u :: us => by
    simp only [List.length_cons, List.replicate_succ, RepL, Rep]
    exact ⟨u, us, rfl, trivial, bads_rep c us⟩
theorem canonGo_sound {k : Canon} {st : St} {tmps : List D} {hp : List Blk} {K : St → Prop} {ids : List Nat} (h : canonGo k st.m tmps hp ids K) {c0 c : Cx} {a : Act} (hR : RepL c tmps a.tmps.toList) (hhp : c.hp = hp) (hda : a.defers = []) (H : HRep c) (I : Inv c0 st.m c)
    (hp0 : List.range st.m <+: ids) (hnd : ids.Nodup) : ∃ st' c', K st' ∧ st'.m = st.m ∧ c'.w = c.w ∧ SRep c' st' a ∧ HRep c' ∧ Inv c0 st.m c' := by
  unfold canonGo at h
  split at h
  · rename_i bs hp2 acc h2
    split at h
    · rename_i res acc' h3
      rw [← hhp] at h2
      obtain ⟨ss1, C1, _, _, hl, f1⟩ := lifts_sound H (Coll.start c) h2
      obtain ⟨hp3, ss2, C2, p1, p2, f2⟩ := outKeep_sound H hR k.slots C1 h3
      have In := over2_into (ids := ids) (bs := bs) C2 hl
      have Mv := over2_moved (c := c) (ids := ids) (ss := ss2) (acc := acc') hl (lifts_lst h2)
      have hb := fun i b x => f1 _ (In.pre p1 p2) Mv i b x
      obtain ⟨Hr, Ow, Fr⟩ := over2_rep H (ids := ids) C2 hl hnd hb
      have M : Moved ids c (over2 c ids ss2 bs acc') := by
        intro j b hj
        have hlt := (List.getElem?_eq_some_iff.1 hj).1
        have hlen : j < (over2 c ids ss2 bs acc').hp.length := by
          show j < (bs ++ acc').length
          rw [List.length_append, hl]; omega
        rcases Fr j hlen with ⟨_, b', g1, g2, _, _, _, g3⟩ | ⟨g, _⟩
        · rw [hj] at g1; cases g1
          exact ⟨hlen, g3, g2⟩
        · omega
      refine ⟨_, over2 c ids ss2 bs acc', h, rfl, rfl, ⟨f2 _ In M ?_, rfl, hda⟩, Hr, ?_⟩
      · rw [← RepL_length hR]
        exact bads_rep _ _
      · have hget : ∀ j, j < st.m → ids[j]? = some j := fun j hj => pre_get hp0 (by simp [hj])
        refine ⟨I.os, I.tape, I.output, I.size, I.keep, I.ext, fun i hi => I.fresh i (Ow i hi), I.frnew, ?_, fun b hb' => ?_, I.tf, I.tw⟩
        · show st.m ≤ (bs ++ acc').length
          have := hp0.length_le
          simp at this
          rw [List.length_append, hl]; omega
        · have hid := hget b hb'
          have hlt := (List.getElem?_eq_some_iff.1 hid).1
          have hcv := over2_cv (c := c) (ss := ss2) (bs := bs) (acc := acc') hid
          have S := hb b b _ hid (getB_of (by rw [hl]; exact hlt)) b hcv
          rw [hcv, over2_low hl hlt]
          exact (I.same b hb').trans (S.ble _)
    · exact h.elim
  · exact h.elim
theorem upto_eq : ∀ m, upto m = List.range m
  | 0 => rfl
  | m + 1 => by rw [List.range_succ, ← upto_eq m]; rfl
theorem canonW_sound {k : Option Canon} {st : St} {K : St → Prop} (h : canonW k st K) {c0 c : Cx} {a : Act} (S : SRep c st a) (H : HRep c) (I : Inv c0 st.m c) :
    ∃ st' c', K st' ∧ st'.m = st.m ∧ c'.w = c.w ∧ SRep c' st' a ∧ HRep c' ∧ Inv c0 st.m c' := by
  unfold canonW at h
  cases k with
  | none => exact ⟨st, c, h, rfl, rfl, S, H, I⟩
  | some k =>
    simp only at h
    split at h
    · rename_i tmps hp h1
      rw [← S.hp] at h1
      obtain ⟨c1, e1, e2, H1, S1, R1⟩ := prepAll_out k.slots H h1 S.tmps
      obtain ⟨g1, g2⟩ := ptrIds_spec tmps k.slots (ids := upto st.m)
      obtain ⟨st', c', f1, f2, f3, f4⟩ := canonGo_sound h R1 e2 S.defers H1 (I.step S1) (by rw [← upto_eq]; exact g1) (g2 (by rw [upto_eq]; exact List.nodup_range))
      exact ⟨st', c', f1, f2, f3.trans e1, f4⟩
    · exact h.elim
structure Goes (c0 : Cx) (m : Nat) (K : Ex → St → Prop) (Q : Exit → Act → World → Prop) : Prop where
  normal : ∀ st c a, K .normal st → st.m = m → SRep c st a → HRep c → Inv c0 m c → Q .normal a c.w
  exit : ∀ id st c a, K (.exit id) st → st.m = m → SRep c st a → HRep c → Inv c0 m c → Q (.exit id) a c.w
  ret : ∀ st c a, K .ret st → st.m = m → SRep c st a → HRep c → Inv c0 m c → Q .ret a c.w
  goto : ∀ l st c a, K (.goto l) st → st.m = m → SRep c st a → HRep c → Inv c0 m c → Q (.goto l) a c.w
  panic : ∀ d st c a p, K (.panic d) st → st.m = m → SRep c st a → HRep c → Inv c0 m c → Rep c d p → Q (.panic [{ v := p, recovered := false }]) a c.w
theorem codeW_sound {cfg : Cfg} (T : TblOk cfg) (hD : DetOk cfg) {c0 : Cx} (h0 : TOk cfg.P cfg.tf cfg.tw c0) {m : Nat} : ∀ (x : Code) {K : Ex → St → Prop} {Q : Exit → Act → World → Prop}, Goes c0 m K Q →
    ∀ {st : St} {c : Cx} {a : Act}, codeW cfg x K st → st.m = m → SRep c st a → HRep c → Inv c0 m c → x.wp cfg.P Q a c.w
  | .skip, K, Q, G, st, c, a, h, hm, S, H, I => wp_skip (G.normal _ _ _ h hm S H I)
  | .label _, K, Q, G, st, c, a, h, hm, S, H, I => wp_label (G.normal _ _ _ h hm S H I)
  | .region id ops draw, K, Q, G, st, c, a, h, hm, S, H, I => by
    subst hm
    exact regionW_sound T hD h0 (fun st' c' a' hk hm S' H' I' => G.normal _ _ _ hk hm S' H' I') (fun d st' c' a' p hk hm S' H' I' hd => G.panic _ _ _ _ _ hk hm S' H' I' hd) S H I h
  | .seq x y, K, Q, G, st, c, a, h, hm, S, H, I => by
    refine wp_seq (codeW_sound T hD h0 x (K := _) ?_ h hm S H I)
    refine ⟨fun st c a h hm S H I => ?_, fun id st c a h hm S H I => G.exit _ _ _ _ h hm S H I, fun st c a h hm S H I => G.ret _ _ _ h hm S H I, fun l st c a h hm S H I => G.goto _ _ _ _ h hm S H I, fun d st c a p h hm S H I hd => G.panic _ _ _ _ _ h hm S H I hd⟩
    subst hm
    obtain ⟨st', c', h', hm', hw, S', H', I'⟩ := canonW_sound h S H I
    show y.wp cfg.P Q a c.w
    rw [← hw]
    exact codeW_sound T hD h0 y G h' hm' S' H' I'
  | .cond o x y, K, Q, G, st, c, a, h, hm, S, H, I => by
    unfold codeW at h
    split at h
    · rename_i t ho
      have hv := opd_rep S.tmps o
      rw [ho] at hv
      simp only [Rep] at hv
      refine wp_cond hv ?_
      rcases br_elim h with ⟨rfl, h⟩ | ⟨rfl, h⟩
      · exact codeW_sound T hD h0 x G h hm S H I
      · exact codeW_sound T hD h0 y G h hm S H I
    · exact h.elim
  | .block id x, K, Q, G, st, c, a, h, hm, S, H, I => by
    refine wp_block (codeW_sound T hD h0 x (K := _) ?_ h hm S H I)
    refine ⟨fun st c a h hm S H I => G.normal _ _ _ h hm S H I, fun id' st c a h hm S H I => ?_, fun st c a h hm S H I => G.ret _ _ _ h hm S H I, fun l st c a h hm S H I => G.goto _ _ _ _ h hm S H I, fun d st c a p h hm S H I hd => G.panic _ _ _ _ _ h hm S H I hd⟩
    simp only [Exit.inBlock]
    simp only at h
    split at h
    · rename_i e
      rw [if_pos (Nat.eq_of_beq_eq_true e)]
      exact G.normal _ _ _ h hm S H I
    · rename_i e
      rw [if_neg (fun e' => by subst e'; rw [Nat.beq_refl] at e; cases e)]
      exact G.exit _ _ _ _ h hm S H I
  | .loop x, K, Q, G, st, c, a, h, hm, S, H, I => by
    have key : ∀ n (st : St) (c : Cx) (a : Act), loopN (fun again => codeW cfg x (fun e st' => match e with
        | .normal => canonW (cfg.atLoop (firstReg x)) st' again
        | e => K e st')) n st → st.m = m → SRep c st a → HRep c → Inv c0 m c → Code.rounds cfg.P x Q n a c.w := by
      intro n
      induction n with
      | zero => intro st c a h; exact h.elim
      | succ n ih =>
        intro st c a h hm S H I
        rw [rounds_succ]
        refine codeW_sound T hD h0 x (K := _) ?_ h hm S H I
        refine ⟨fun st c a h hm S H I => ?_, fun id st c a h hm S H I => G.exit _ _ _ _ h hm S H I, fun st c a h hm S H I => G.ret _ _ _ h hm S H I, fun l st c a h hm S H I => G.goto _ _ _ _ h hm S H I, fun d st c a p h hm S H I hd => G.panic _ _ _ _ _ h hm S H I hd⟩
        subst hm
        obtain ⟨st', c', h', hm', hw, S', H', I'⟩ := canonW_sound h S H I
        show Code.rounds cfg.P x Q n a c.w
        rw [← hw]
        exact ih _ _ _ h' hm' S' H' I'
    subst hm
    obtain ⟨st', c', ⟨n, hn⟩, hm', hw, S', H', I'⟩ := canonW_sound h S H I
    rw [← hw]
    exact wp_loop_rounds n (key n _ _ _ hn hm' S' H' I')
  | .exit id, K, Q, G, st, c, a, h, hm, S, H, I => by
    subst hm
    obtain ⟨st', c', h', hm', hw, S', H', I'⟩ := canonW_sound h S H I
    rw [← hw]
    exact wp_exit (G.exit _ _ _ _ h' hm' S' H' I')
  | .ret, K, Q, G, st, c, a, h, hm, S, H, I => wp_ret (G.ret _ _ _ h hm S H I)
  | .rangeFunc _ _ _ _, K, Q, G, st, c, a, h, hm, S, H, I => h.elim
  | .scope x, K, Q, G, st, c, a, h, hm, S, H, I => by
    refine wp_scope_straight (codeW_sound T hD h0 x (K := _) ?_ h hm S H I)
    exact ⟨fun st c a h hm S H I => G.normal _ _ _ h hm S H I, fun id st c a h hm S H I => G.exit _ _ _ _ h hm S H I, fun st c a h hm S H I => G.ret _ _ _ h hm S H I, fun l st c a h hm S H I => h.elim, fun d st c a p h hm S H I hd => G.panic _ _ _ _ _ h hm S H I hd⟩
  | .goto l, K, Q, G, st, c, a, h, hm, S, H, I => wp_goto (G.goto _ _ _ _ h hm S H I)
  | .refuse _, K, Q, G, st, c, a, h, hm, S, H, I => h.elim
end Go.Aw

namespace Go.Aw
open Go.RowKit
theorem outM_out {c : Cx} (H : HRep c) {m : Mode} {d d' : D} {hp' : List Blk} {u : Value} (h : outM c.hp m d = some (d', hp')) (hd : Rep c d u) :
    ∃ c', c'.w = c.w ∧ c'.hp = hp' ∧ HRep c' ∧ Stp c c' ∧ Rep c' d' u := by
  unfold outM at h
  split at h
  · unfold outF at h
    split at h
    · split at h
      · rename_i cs cs' hp2 h2
        cases h
        simp only [Rep] at hd
        obtain ⟨us, rfl, hd⟩ := hd
        obtain ⟨c1, e1, e2, H1, S1, R1⟩ := frzAll_out H h2 hd
        exact ⟨c1, e1, e2, H1, S1, by simp only [Rep]; exact ⟨us, rfl, R1⟩⟩
      · cases h
    · cases h
      exact ⟨c, rfl, rfl, H, Stp.refl c, hd⟩
  · exact prepD_out H h hd
theorem outFs_out : ∀ {ds : List D} {ms : List Mode} {ds' : List D} {c : Cx} {hp' : List Blk} {us : List Value}, HRep c → outFs c.hp ms ds = some (ds', hp') → RepL c ds us → ∃ c', c'.w = c.w ∧ c'.hp = hp' ∧ HRep c' ∧ Stp c c' ∧ RepL c' ds' us
  | [], ms, ds', c, hp', us, H, h, hr => by
    unfold outFs at h
    cases h
    exact ⟨c, rfl, rfl, H, Stp.refl c, hr⟩
  | d :: r, ms, ds', c, hp', us, H, h, hr => by
    simp only [RepL] at hr
    obtain ⟨u, us', rfl, hd, hr⟩ := hr
    simp only [outFs] at h
    split at h
    · rename_i d1 hp1 h1
      split at h
      · rename_i r1 hp2 h2
        cases h
        obtain ⟨c1, e1, e2, H1, S1, R1⟩ := outM_out H h1 hd
        obtain ⟨c2, f1, f2, H2, S2, R2⟩ := outFs_out H1 (by rw [e2]; exact h2) (hr.mono S1.le)
        refine ⟨c2, by rw [f1, e1], f2, H2, S1.trans S2, ?_⟩
        simp only [RepL]
        exact ⟨u, us', rfl, R1.mono S2.le, R2⟩
      · cases h
    · cases h
def Firsts (m : Nat) (c c2 : Cx) : Prop := ∀ j, j < m → c2.cv j = c.cv j ∧ j < c2.hp.length ∧ isLst (getB c2.hp j) = false
theorem capD_rep {m : Nat} {c c2 : Cx} (hw : c2.w = c.w) (hf : c2.fr = c.fr) (h1 : c2.tf = c.tf) (h2 : c2.tw = c.tw) (F : Firsts m c c2) : ∀ {d : D} {u : Value}, capD m d = true → Rep c d u → Rep c2 d u
  | .v x, u, _, h => by simp only [Rep] at h ⊢; exact h
  | .fz t l, u, _, h => by simp only [Rep] at h ⊢; rw [hw, hf]; exact h
  | .av t n l, u, _, h => by simp only [Rep] at h ⊢; rw [hw, hf]; exact h
  | .er e, u, _, h => by simp only [Rep] at h ⊢; rw [hw, hf, h1, h2]; exact h
  | .ptr j off, u, hb, h => by
    have hb : j < m := Nat.le_of_ble_eq_true hb
    simp only [Rep] at h ⊢
    obtain ⟨g1, g2, a, g3, g4⟩ := h
    obtain ⟨f1, f2, f3⟩ := F j hb
    exact ⟨f2, f3, a, (congrArg adr f1).trans g3, g4⟩
  | .sl _ _, _, hb, _ | .ep _ _ _ _, _, hb, _ | .agg _, _, hb, _ | .tup _, _, hb, _ | .fp _, _, hb, _ | .clo _ _ _, _, hb, _ | .bad, _, hb, _ => by cases hb
theorem outD_sound {m : Nat} {c : Cx} (H : HRep c) {hp acc : List Blk} {ss : List Nat} (C : Coll c hp acc ss) {d d' : D} {hp' acc' : List Blk} {u : Value} (h : outD m hp acc d = some (d', hp', acc')) (hd : Rep c d u) :
    ∃ ss', Coll c hp' acc' ss' ∧ acc <+: acc' ∧ ss <+: ss' ∧ ∀ c2, Into m c acc' ss' c2 → Firsts m c c2 → Rep c2 d' u := by
  unfold outD at h
  split at h
  · rename_i cs
    split at h
    · rename_i cs' hp1 acc1 g
      cases h
      simp only [Rep] at hd
      obtain ⟨us, rfl, hd⟩ := hd
      obtain ⟨ss', C', p1, p2, f⟩ := collAll_sound H C g hd
      exact ⟨ss', C', p1, p2, fun c2 I _ => by simp only [Rep]; exact ⟨us, rfl, f c2 I⟩⟩
    · cases h
  · rename_i j off
    split at h
    · rename_i hj
      cases h
      exact ⟨ss, C, List.prefix_refl _, List.prefix_refl _, fun c2 I F => capD_rep (m := m) I.w I.fr I.tf I.tw F (d := .ptr j off) hj hd⟩
    · cases h
  · rename_i f fs cs
    split at h
    · rename_i hb
      cases h
      simp only [Bool.and_eq_true] at hb
      simp only [Rep] at hd
      obtain ⟨us, vs, rfl, h1, h2⟩ := hd
      refine ⟨ss, C, List.prefix_refl _, List.prefix_refl _, fun c2 I F => ?_⟩
      simp only [Rep]
      exact ⟨us, vs, rfl, Low.list (n := 0) (fun g1 g2 => capD_rep I.w I.fr I.tf I.tw F g1 g2) hb.1 h1, Low.list (n := 0) (fun g1 g2 => capD_rep I.w I.fr I.tf I.tw F g1 g2) hb.2 h2⟩
    · cases h
  · obtain ⟨ss', C', p1, p2, f⟩ := coll_sound H C h hd
    exact ⟨ss', C', p1, p2, fun c2 I _ => f c2 I⟩
theorem outAll_sound {m : Nat} {c : Cx} (H : HRep c) : ∀ {ds : List D} {hp acc : List Blk} {ss : List Nat} {ds' : List D} {hp' acc' : List Blk} {us : List Value}, Coll c hp acc ss → outAll m hp acc ds = some (ds', hp', acc') → RepL c ds us →
    ∃ ss', Coll c hp' acc' ss' ∧ acc <+: acc' ∧ ss <+: ss' ∧ ∀ c2, Into m c acc' ss' c2 → Firsts m c c2 → RepL c2 ds' us
  | [], hp, acc, ss, ds', hp', acc', us, C, h, hd => by
    cases h
    simp only [RepL] at hd
    exact ⟨ss, C, List.prefix_refl _, List.prefix_refl _, fun c2 I _ => by simp only [RepL]; exact hd⟩
  | d :: r, hp, acc, ss, ds', hp', acc', us, C, h, hd => by
    simp only [RepL] at hd
    obtain ⟨u, us', rfl, h1, h2⟩ := hd
    simp only [outAll] at h
    split at h
    · rename_i d1 hp1 acc1 g1
      split at h
      · rename_i r1 hp2 acc2 g2
        cases h
        obtain ⟨ss1, C1, p1, p2, f1⟩ := outD_sound H C g1 h1
        obtain ⟨ss2, C2, q1, q2, f2⟩ := outAll_sound H C1 g2 h2
        refine ⟨ss2, C2, p1.trans q1, p2.trans q2, fun c2 I F => ?_⟩
        simp only [RepL]
        exact ⟨u, us', rfl, f1 c2 (I.pre q1 q2) F, f2 c2 I F⟩
      · cases h
    · cases h
theorem goW_sound {ms : List Mode} {st : St} {ds : List D} {k : List D → List Blk → Prop} (h : goW ms st ds k) {c0 c : Cx} {us : List Value} (hhp : c.hp = st.hp) (R : RepL c ds us) (H : HRep c) (I : Inv c0 st.m c) :
    ∃ ds' c', k ds' c'.hp ∧ c'.w = c.w ∧ RepL c' ds' us ∧ HRep c' ∧ Inv c0 st.m c' := by
  unfold goW at h
  split at h
  · rename_i ds1 hp1 h1
    split at h
    · rename_i bs hp2 acc h2
      split at h
      · rename_i ds' hp3 acc' h3
        rw [← hhp] at h1
        obtain ⟨c1, e1, e2, H1, S1, R1⟩ := outFs_out H h1 R
        rw [← e2] at h2
        have I1 := I.step S1
        rw [upto_eq] at h2
        obtain ⟨ss1, C1, _, _, hl, f1⟩ := lifts_sound H1 (Coll.start c1) h2
        obtain ⟨ss2, C2, p1, p2, f2⟩ := outAll_sound H1 C1 h3 R1
        have hlen : (List.range st.m).length = st.m := List.length_range
        have In := over2_into (ids := List.range st.m) (bs := bs) C2 hl
        rw [hlen] at In
        have Mv := over2_moved (c := c1) (ids := List.range st.m) (ss := ss2) (acc := acc') hl (lifts_lst h2)
        obtain ⟨Hr, Ow, Fr⟩ := over2_rep H1 (ids := List.range st.m) C2 hl List.nodup_range (fun i b x => f1 _ (In.pre p1 p2) Mv i b x)
        have hget : ∀ j, j < st.m → (List.range st.m)[j]? = some j := fun j hj => by simp [hj]
        refine ⟨ds', over2 c1 (List.range st.m) ss2 bs acc', h, e1, f2 _ In fun j hj => ?_, Hr, ?_⟩
        · rcases Fr j (by show j < (bs ++ acc').length; rw [List.length_append, hl, hlen]; omega) with ⟨_, b, g1, g2, _, _, _, g3⟩ | ⟨g, _⟩
          · rw [hget j hj] at g1
            cases g1
            exact ⟨g2, by show j < (bs ++ acc').length; rw [List.length_append, hl, hlen]; omega, g3⟩
          · rw [hlen] at g; omega
        · refine ⟨I1.os, I1.tape, I1.output, I1.size, I1.keep, I1.ext, fun i hi => I1.fresh i (Ow i hi), I1.frnew, ?_, fun b hb => ?_, I1.tf, I1.tw⟩
          · show st.m ≤ (bs ++ acc').length
            rw [List.length_append, hl, hlen]; omega
          · have hcv := over2_cv (c := c1) (ss := ss2) (bs := bs) (acc := acc') (hget b hb)
            have S := f1 _ (In.pre p1 p2) Mv b b _ (hget b hb) (getB_of (by rw [hl, hlen]; exact hb)) b hcv
            rw [hcv, over2_low hl (by rw [hlen]; exact hb)]
            exact (I1.same b hb).trans (S.ble _)
      · exact h.elim
    · exact h.elim
  · exact h.elim
theorem dead_all {c0 c : Cx} {m : Nat} (H : HRep c) (I : Inv c0 m c) : HRep { c with hp := List.replicate m .dead } ∧ Inv c0 m { c with hp := List.replicate m .dead } := by
  have hg : ∀ b, getB (List.replicate m Blk.dead) b = .dead := by
    intro b
    unfold getB
    by_cases hb : b < m
    · simp [List.getD, hb]
    · simp [List.getD, hb]
  refine ⟨⟨fun b hb => ?_, fun b b' B hb hb' hne hl => ?_, H.frin⟩, ⟨I.os, I.tape, I.output, I.size, I.keep, I.ext, fun i ho => ?_, I.frnew, by simp, fun b hb => ?_, I.tf, I.tw⟩⟩
  · show BRep _ b (getB (List.replicate m Blk.dead) b)
    rw [hg]
    trivial
  · replace hl : live (getB (List.replicate m Blk.dead) b) = true := hl
    rw [hg] at hl
    cases hl
  · obtain ⟨b, hb, hl, _⟩ := ho
    replace hl : live (getB (List.replicate m Blk.dead) b) = true := hl
    rw [hg] at hl
    cases hl
  · show BLe _ _ _ (getB (List.replicate m Blk.dead) b)
    rw [hg]
    exact (I.same b hb).trans (BLe.dead _ _)
def Post (c : Cx) (k kp : D → List Blk → Prop) : Ending → World → Prop
  | .returned v, w' => ∃ d c', c'.w = w' ∧ k d c'.hp ∧ Rep c' d v ∧ HRep c' ∧ Inv c (nBoxes c.hp) c'
  | .panicked ch, w' => ∃ d p c', ch = [{ v := p, recovered := false }] ∧ c'.w = w' ∧ kp d c'.hp ∧ Rep c' d p ∧ HRep c' ∧ Inv c (nBoxes c.hp) c'
  | .outgrown, _ => False
def SoundF (P : Program) (tf tw : TypeId) (f : FuncId) (en : Entry) : Prop :=
  ∀ (c : Cx) (args : List D) (us : List Value) (k kp : D → List Blk → Prop), TOk P tf tw c → RepL c args us → HRep c → en args c.hp k kp → Calls P f us.toArray c.w (Post c k kp)
theorem nBoxes_le : ∀ hp : List Blk, nBoxes hp ≤ hp.length
  | [] => Nat.le_refl _
  | b :: r => by
    unfold nBoxes
    split
    · exact Nat.zero_le _
    · exact Nat.succ_le_succ (nBoxes_le r)
theorem cell_run {P : Program} {w : World} {t : TypeId} {u v : Value} (h : (Instr.loadAt t u).run P w = .ok v w) : (do loadVar t (← asAddr u) : Sem Value).run P w = .ok v w := by
  unfold Instr.loadAt at h
  cases u with
  | pointer a =>
    cases a with
    | some a => simpa [Instr.sureAddr, asAddr] using h
    | none => simp [Instr.sureAddr, asAddr] at h
  | _ => simp [Instr.sureAddr, asAddr] at h
theorem results_run {c : Cx} (H : HRep c) {st : St} {tmps : Array Value} (R : RepL c st.tmps tmps.toList) (hhp : c.hp = st.hp) {P : Program} : ∀ (rs : List ResultVar) {K : List D → Prop}, resultsW P st rs K →
    ∃ ds us, K ds ∧ RepL c ds us ∧ ∀ g : ResultVar → Sem Value, (∀ t, g (.tmp t) = pure (tmps.getD t undef)) → (∀ t ty, g (.cell t ty) = (do loadVar ty (← asAddr (tmps.getD t undef)))) → (rs.mapM g).run P c.w = .ok us c.w
  | [], K, h => ⟨[], [], h, by simp only [RepL], fun g _ _ => rfl⟩
  | .tmp t :: r, K, h => by
    obtain ⟨ds, us, hk, g1, g2⟩ := results_run H R hhp (P := P) r h
    refine ⟨_, tmps.getD t undef :: us, hk, ?_, fun g hg hg' => ?_⟩
    · simp only [RepL]
      exact ⟨_, us, rfl, opd_rep (a := { tmps := tmps, defers := [] }) R (.tmp t), g1⟩
    · rw [List.mapM_cons, hg]
      simp [g2 g hg hg']
  | .cell t ty :: r, K, h => by
    have hv := opd_rep (a := { tmps := tmps, defers := [] }) R (.tmp t)
    have h : loadW P st.hp ty (st.opd (.tmp t)) _ := h
    rw [← hhp] at h
    obtain ⟨d, v, hk, hd, hr⟩ := loadW_run h hv H
    obtain ⟨ds, us, hk, g1, g2⟩ := results_run H R hhp (P := P) r hk
    refine ⟨_, v :: us, hk, ?_, fun g hg hg' => ?_⟩
    · simp only [RepL]
      exact ⟨_, us, rfl, hd, g1⟩
    · have hc : (g (.cell t ty)).run P c.w = .ok v c.w := by
        rw [hg']
        exact cell_run hr
      rw [List.mapM_cons]
      simp [hc, g2 g hg hg']
theorem funW_sound {cfg : Cfg} (T : TblOk cfg) (hD : DetOk cfg) {f : FuncId} {fn : Func} (hf : cfg.P.funcs[f]? = some fn) : SoundF cfg.P cfg.tf cfg.tw f (funW cfg fn) := by
  intro c args us k kp h0 R H h
  unfold funW at h
  cases hb : fn.body with
  | none => rw [hb] at h; exact h.elim
  | some code =>
    rw [hb] at h
    simp only at h
    refine calls_of_wp hf hb (codeW_sound T hD h0 (m := nBoxes c.hp) code (K := _) ?_ h rfl ?_ H (Inv.start c _ (nBoxes_le _)))
    · have ret : ∀ (st : St) (c' : Cx) (a : Act), retW cfg fn k st → st.m = nBoxes c.hp → SRep c' st a → HRep c' → Inv c (nBoxes c.hp) c' →
          a.defers = [] ∧ ∃ v, (Go.results fn a.tmps).run cfg.P c'.w = .ok v c'.w ∧ Post c k kp (.returned v) c'.w := by
        intro st c' a h hm S H' I'
        unfold retW at h
        · obtain ⟨ds, us, h, g1, g2⟩ := results_run H' S.tmps S.hp (P := cfg.P) _ h
          rw [← hm] at I'
          obtain ⟨ds', c2, f1, f2, f3, f4, f5⟩ := goW_sound h S.hp g1 H' I'
          have hrun : (Go.results fn a.tmps).run cfg.P c'.w = .ok (if h : us.toArray.size = 1 then us.toArray[0] else .tuple us.toArray) c'.w := by
            unfold Go.results
            rw [Array.mapM_eq_mapM_toList]
            simp
            rw [g2 _ (fun t => by simp) (fun t ty => by simp)]
            rfl
          refine ⟨S.defers, _, hrun, oneOf ds', c2, f2, f1, ?_, f4, by rw [← hm]; exact f5⟩
          have hl := RepL_length f3
          split
          · rename_i h1
            simp at h1
            obtain ⟨u, rfl⟩ := List.length_eq_one_iff.1 h1
            obtain ⟨d, rfl⟩ := List.length_eq_one_iff.1 (hl.symm.trans h1)
            simp only [RepL] at f3
            obtain ⟨u', us', e, f3, rfl⟩ := f3
            cases e
            exact f3
          · rename_i h1
            simp at h1
            have : oneOf ds' = .tup ds' := by
              unfold oneOf
              split
              · simp at hl; omega
              · rfl
            rw [this]
            simp only [Rep]
            exact ⟨us, rfl, f3⟩
      refine ⟨fun st c' a h hm S H' I' => ret st c' a h hm S H' I', fun id st c' a h => h.elim, fun st c' a h hm S H' I' => ret st c' a h hm S H' I', fun l st c' a h => h.elim, fun d st c' a p h hm S H' I' hd => ⟨S.defers, ?_⟩⟩
      have h : panW kp d st := h
      unfold panW at h
      rw [hm] at h
      obtain ⟨H2, I2⟩ := dead_all H' I'
      split at h
      · refine ⟨_, p, { c' with hp := List.replicate (nBoxes c.hp) .dead }, rfl, rfl, h, ?_, H2, I2⟩
        simp only [Rep] at hd ⊢
        exact hd
      · refine ⟨_, p, { c' with hp := List.replicate (nBoxes c.hp) .dead }, rfl, rfl, h, ?_, H2, I2⟩
        simp only [Rep] at hd ⊢
        exact hd
      · exact h.elim
    · refine ⟨?_, rfl, rfl⟩
      simp only [Array.toList_append, Array.toList_replicate, List.size_toArray]
      refine RepL_append R ?_
      rw [RepL_length R]
      have : ∀ n, RepL c (List.replicate n (D.v undef)) (List.replicate n undef) := by
        intro n
        induction n with
        | zero => simp [RepL]
        | succ n ih =>
          simp only [List.replicate_succ, RepL]
          exact ⟨_, _, rfl, undef_rep c, ih⟩
      exact this _
end Go.Aw

namespace Go.Aw
open Go.RowKit
def FuncOk (P : Program) (f : FuncId) : Prop := ∃ fn, P.funcs[f]? = some fn ∧ (fn.name == "runtime.NumGoroutine") = false ∧ fn.body.isNone = false
theorem run_enter {P : Program} {o : Oper} {a : Act} {cl : Call} {f : Operand} {fn : FuncId} {us vs : Array Value} {w : World} (h1 : o.op = .call cl) (h2 : cl.callee = .value f) (h3 : a.eval f = .func (.func fn) us vs) (hf : FuncOk P fn) :
    (execOp a.eval o).run P w = .ok (.enter fn (us ++ cl.args.map a.eval ++ vs)) w := by
  obtain ⟨g, g1, g2, g3⟩ := hf
  have hc : (callFunc fn (us ++ cl.args.map a.eval ++ vs)).run P w = .ok (.enter fn (us ++ cl.args.map a.eval ++ vs)) w := by
    unfold callFunc
    have n1 : ¬ g.name = "runtime.NumGoroutine" := by simpa using g2
    have n2 : ¬ g.body = none := by
      intro e; rw [e] at g3; cases g3
    simp [g1, n1, n2]
  unfold execOp
  simp only [h1, resolve, h2, Deferred.ofValue, h3, invoke]
  simpa using hc
theorem nBoxes_app : ∀ {bs acc : List Blk}, (∀ x ∈ bs, isLst x = false) → (∀ x ∈ acc, isLst x = true) → nBoxes (bs ++ acc) = bs.length
  | [], [], _, _ => rfl
  | [], x :: acc, _, h => by
    simp only [List.nil_append, nBoxes, h x (by simp), List.length_nil]
  | x :: bs, acc, h1, h2 => by
    simp only [List.cons_append, nBoxes, h1 x (by simp), List.length_cons]
    rw [nBoxes_app (fun y hy => h1 y (by simp [hy])) h2]
def Sl (hp hp' : List Blk) : Prop := ∀ j e t l ver s, getB hp j = .lst e t l ver s → ∃ s', getB hp' j = .lst e t l ver s'
theorem fixD_out {blks : List Blk} {c : Cx} (H : HRep c) (hs : Sl blks c.hp) {d d' : D} {u : Value} (h : fixD blks d = some d') (hd : Rep c d u) :
    ∃ c', c'.w = c.w ∧ HRep c' ∧ Stp c c' ∧ Sl blks c'.hp ∧ Rep c' d' u ∧ below 0 d' = true := by
  unfold fixD at h
  split at h
  · rename_i j ver
    split at h
    · rename_i e t l ver' s hg
      split at h
      · rename_i hv
        subst hv
        cases h
        obtain ⟨s', hg'⟩ := hs _ _ _ _ _ _ hg
        simp only [Rep] at hd
        obtain ⟨h1, _, h3⟩ := hd
        rw [hg'] at h3
        obtain ⟨c', e1, e2, e3, H', S', R'⟩ := seal_lst H hg' h1
        refine ⟨c', e1, H', S', fun j' e' t' l' ver'' s'' hj => ?_, by rw [h3.2 rfl]; exact R', rfl⟩
        rw [e2, getB_set _ h1]
        by_cases hjj : j' = j
        · subst hjj
          rw [hg] at hj
          cases hj
          exact ⟨true, if_pos rfl⟩
        · rw [if_neg hjj]; exact hs _ _ _ _ _ _ hj
      · cases h
    · cases h
  · split at h
    · rename_i hb
      cases h
      exact ⟨c, rfl, H, Stp.refl c, hs, hd, hb⟩
    · cases h
theorem fixAll_out {blks : List Blk} : ∀ {ds ds' : List D} {c : Cx} {us : List Value}, HRep c → Sl blks c.hp → fixAll blks ds = some ds' → RepL c ds us →
    ∃ c', c'.w = c.w ∧ HRep c' ∧ Stp c c' ∧ RepL c' ds' us ∧ ds'.all (below 0) = true
  | [], ds', c, us, H, hs, h, hr => by
    cases h
    exact ⟨c, rfl, H, Stp.refl c, hr, rfl⟩
  | d :: r, ds', c, us, H, hs, h, hr => by
    simp only [RepL] at hr
    obtain ⟨u, us', rfl, hd, hr⟩ := hr
    simp only [fixAll] at h
    split at h
    · rename_i d1 h1
      split at h
      · rename_i r1 h2
        cases h
        obtain ⟨c1, e1, H1, S1, s1, R1, b1⟩ := fixD_out H hs h1 hd
        obtain ⟨c2, e2, H2, S2, R2, b2⟩ := fixAll_out H1 s1 h2 (hr.mono S1.le)
        refine ⟨c2, e2.trans e1, H2, S1.trans S2, ?_, by simp only [List.all_cons, Bool.and_eq_true]; exact ⟨b1, b2⟩⟩
        simp only [RepL]
        exact ⟨u, us', rfl, R1.mono S2.le, R2⟩
      · cases h
    · cases h
theorem fixR_out {c : Cx} (H : HRep c) {d d' : D} {u : Value} (h : fixR c.hp d = some d') (hd : Rep c d u) :
    ∃ c', c'.w = c.w ∧ HRep c' ∧ Stp c c' ∧ ∀ c2 : Cx, Low 0 c' c2 → Rep c2 d' u := by
  have hs : Sl c.hp c.hp := fun _ _ _ _ _ s h => ⟨s, h⟩
  unfold fixR at h
  split at h
  · rename_i ds
    split at h
    · rename_i ds' h1
      cases h
      simp only [Rep] at hd
      obtain ⟨us, rfl, hd⟩ := hd
      obtain ⟨c', e1, H', S', R', b'⟩ := fixAll_out H hs h1 hd
      refine ⟨c', e1, H', S', fun c2 L => ?_⟩
      simp only [Rep]
      exact ⟨us, rfl, Low.list (n := 0) (fun g1 g2 => L.below g1 g2) b' R'⟩
    · cases h
  · obtain ⟨c', e1, H', S', _, R', b'⟩ := fixD_out H hs h hd
    exact ⟨c', e1, H', S', fun c2 L => L.below b' R'⟩
theorem frzQ_rep {c cc : Cx} (H : HRep c) (L : Low 0 c cc) {d d' : D} {u : Value} (h : frzQ c.hp d = some d') (hd : Rep c d u) : Rep cc d' u ∧ below 0 d' = true := by
  unfold frzQ at h
  split at h
  · cases h; exact ⟨L.below rfl hd, rfl⟩
  · cases h; exact ⟨L.below rfl hd, rfl⟩
  · cases h; exact ⟨L.below rfl hd, rfl⟩
  · cases h; exact ⟨L.below rfl hd, rfl⟩
  · split at h
    · rename_i hb
      cases h
      exact ⟨L.below hb hd, hb⟩
    · cases h
  · rename_i b ver
    split at h
    · rename_i e t l ver' hg
      split at h
      · rename_i hv
        subst hv
        cases h
        simp only [Rep] at hd
        obtain ⟨h1, _, h3⟩ := hd
        rw [hg] at h3
        have hB := H.blk b h1
        rw [hg] at hB
        have := lst_fz hB
        rw [← h3.2 rfl] at this
        exact ⟨L.below rfl this, rfl⟩
      · cases h
    · cases h
  · cases h
theorem frzQs_rep {c cc : Cx} (H : HRep c) (L : Low 0 c cc) : ∀ {ds ds' : List D} {us : List Value}, frzQs c.hp ds = some ds' → RepL c ds us → RepL cc ds' us
  | [], ds', us, h, hr => by
    cases h
    simp only [RepL] at hr ⊢
    exact hr
  | d :: r, ds', us, h, hr => by
    simp only [RepL] at hr
    obtain ⟨u, us', rfl, hd, hr⟩ := hr
    simp only [frzQs] at h
    split at h
    · rename_i d1 h1
      split at h
      · rename_i r1 h2
        cases h
        simp only [RepL]
        exact ⟨u, us', rfl, (frzQ_rep H L h1 hd).1, frzQs_rep H L h2 hr⟩
      · cases h
    · cases h
theorem argsQ_rep {c cc : Cx} (H : HRep c) (L : Low 0 c cc) : ∀ {ds ds' : List D} {us : List Value}, argsQ c.hp ds = some ds' → RepL c ds us → RepL cc ds' us
  | [], ds', us, h, hr => by
    cases h
    simp only [RepL] at hr ⊢
    exact hr
  | d :: r, ds', us, h, hr => by
    simp only [RepL] at hr
    obtain ⟨u, us', rfl, hd, hr⟩ := hr
    simp only [argsQ] at h
    split at h
    · rename_i d1 h1
      split at h
      · rename_i r1 h2
        cases h
        simp only [RepL]
        refine ⟨u, us', rfl, ?_, argsQ_rep H L h2 hr⟩
        unfold argQ at h1
        split at h1
        · split at h1
          · rename_i cs cs' h3
            cases h1
            simp only [Rep] at hd ⊢
            obtain ⟨us, rfl, hd⟩ := hd
            exact ⟨us, rfl, frzQs_rep H L h3 hd⟩
          · cases h1
        · split at h1
          · rename_i fs' h3
            split at h1
            · rename_i cs' h4
              cases h1
              simp only [Rep] at hd ⊢
              obtain ⟨us, vs, rfl, hd, hd'⟩ := hd
              exact ⟨us, vs, rfl, frzQs_rep H L h3 hd, frzQs_rep H L h4 hd'⟩
            · cases h1
          · cases h1
        · exact (frzQ_rep H L h1 hd).1
      · cases h
    · cases h
theorem callOk {cfg : Cfg} (hS : ∀ f en, cfg.E f = some en → SoundF cfg.P cfg.tf cfg.tw f en ∧ FuncOk cfg.P f) (q : Bool) : CallOk cfg q := by
  intro c o a cl st K KP f fn first caps h1 h2 h3 hT R hhp H h
  have hv := opd_rep R f
  rw [h3] at hv
  simp only [Rep] at hv
  obtain ⟨us, vs, hv, r1, r2⟩ := hv
  have RA := RepL_append (RepL_append r1 (opds_rep R cl.args.toList)) r2
  unfold callW at h
  cases he : cfg.E fn with
  | none => rw [he] at h; exact h.elim
  | some en =>
    rw [he] at h
    obtain ⟨hs, hfo⟩ := hS fn en he
    have hrun := run_enter (w := c.w) h1 h2 hv hfo
    have go : ∀ {Rp : Ending → World → Prop}, Calls cfg.P fn ((us ++ cl.args.toList.map a.eval ++ vs).toArray) c.w Rp →
        (∀ v w', Rp (.returned v) w' → NextO q c o a K (a.put o.dst v) w') → (∀ ch w', Rp (.panicked ch) w' → PanO c a KP (.panic ch) a w') → (∀ w', ¬ Rp .outgrown w') → o.wp cfg.P a c.w (NextO q c o a K) (PanO c a KP) := by
      intro Rp hc g1 g2 g3
      unfold Oper.wp
      rw [hrun, Oper.upon_enter]
      rw [show (us ++ cl.args.toList.map a.eval ++ vs).toArray = us.toArray ++ cl.args.map a.eval ++ vs.toArray by
        apply Array.ext'
        simp] at hc
      refine hc.mono fun e w' he => ?_
      cases e with
      | returned v => exact g1 v w' he
      | panicked ch => exact g2 ch w' he
      | outgrown => exact (g3 w' he).elim
    cases q with
    | true =>
      simp only at h
      split at h
      · exact h.elim
      · rename_i args' ha
        let cc : Cx := { c with hp := [], cv := fun _ => undef }
        have L : Low 0 c cc := ⟨rfl, rfl, rfl, rfl, Nat.zero_le _, fun b hb => by omega, fun b hb => by omega⟩
        rw [← hhp] at ha h
        have Hc : HRep cc := ⟨fun b hb => by simp [cc] at hb, fun b b' B hb => by simp [cc] at hb, H.frin⟩
        refine go (hs cc args' _ _ _ hT (argsQ_rep H L ha RA) Hc h) ?_ ?_ ?_
        · rintro v w' ⟨d, c', rfl, hk, hd, H', I'⟩
          split at hk
          · rename_i d' hf
            obtain ⟨c2, e2, H2, S2, hL⟩ := fixR_out H' hf hd
            have I2 := I'.step S2
            let c3 : Cx := { c2 with hp := c.hp, cv := c.cv }
            have noown : ∀ i, ¬ Own cc i := by
              rintro i ⟨b, hb, _⟩
              simp [cc] at hb
            have hkeep : ∀ i, i < c.w.heap.size → c2.w.heap[i]? = c.w.heap[i]? := fun i hi => I2.keep i hi (noown i)
            have hle : HpLe c c3 := ⟨Nat.le_refl _, fun b hb => BLe.refl _ _, I2.ext, I2.tf, I2.tw⟩
            have hfr : ∀ x, c2.fr x → c.fr x ∨ c.w.heap.size ≤ x.block := by
              intro x hx
              rcases I2.frnew x hx with g | g | g
              · exact .inl g
              · exact .inr g
              · exact (noown _ g).elim
            have H3 : HRep c3 := by
              refine ⟨fun b hb => ?_, H.apart, H2.frin⟩
              have hB := H.blk b hb
              show BRep c3 b (getB c.hp b)
              cases hlv : live (getB c.hp b) with
              | false =>
                revert hlv
                cases getB c.hp b <;> simp [live]
                trivial
              | true =>
                exact hB.keep hle rfl (fun B hBB => hkeep B (BRep.lt hBB hlv hB)) (fun x B hBB hx hf => (hfr x hf).resolve_right (by
                  have := BRep.lt hBB hlv hB
                  omega))
            refine ⟨v, rfl, d', c3, e2, hk, hL c3 ⟨rfl, rfl, rfl, rfl, Nat.zero_le _, fun b hb => by omega, fun b hb => by omega⟩, H3, ⟨hle, I2.os, I2.tape, I2.output, I2.size, fun i hi _ => hkeep i hi, fun i hi => .inr hi, fun x hx => (hfr x hx).imp id .inl⟩, fun _ => ⟨rfl, fun _ _ => rfl, hkeep⟩⟩
          · exact hk.elim
        · rintro ch w' ⟨_, _, _, _, _, hk, _⟩
          exact hk.elim
        · exact fun w' h => h
    | false =>
      simp only at h
      split at h
      · exact h.elim
      · rename_i args' hp1 ids ha
        split at h
        · exact h.elim
        · rename_i bs hp2 acc hli
          rw [← hhp] at ha
          obtain ⟨c1, ds1, e1, e2, H1, S1, R1, n1, _, nd⟩ := argsD_out H ha RA
          have hnd := nd List.nodup_nil
          rw [← e2] at hli
          obtain ⟨ss, C, _, _, hl, hb⟩ := lifts_sound H1 (Coll.start c1) hli
          have In := over2_into (ids := ids) (bs := bs) C hl
          have Mv := over2_moved (c := c1) (ids := ids) (ss := ss) (acc := acc) hl (lifts_lst hli)
          have hb' := hb _ In Mv
          obtain ⟨Hc, Ow, Fr⟩ := over2_rep H1 C hl hnd hb'
          have hat : ∀ (j : Nat) b, ids[j]? = some b → j < (over2 c1 ids ss bs acc).hp.length ∧ isLst (getB (over2 c1 ids ss bs acc).hp j) = false ∧ (over2 c1 ids ss bs acc).cv j = c1.cv b := by
            intro j b hj
            have hlt := (List.getElem?_eq_some_iff.1 hj).1
            have hlen : j < (over2 c1 ids ss bs acc).hp.length := by
              show j < (bs ++ acc).length
              rw [List.length_append, hl]; omega
            rcases Fr j hlen with ⟨_, b', g1, g2, _, _, _, g3⟩ | ⟨g, _⟩
            · rw [hj] at g1; cases g1
              exact ⟨hlen, g3, g2⟩
            · omega
          have hR : RepL (over2 c1 ids ss bs acc) args' _ := All2.rep (c := c1) (c2 := over2 c1 ids ss bs acc) (fun _ _ _ n g => Rn.rep (c := c1) (c2 := over2 c1 ids ss bs acc) rfl rfl rfl rfl hat n g) n1 R1
          have hnb : nBoxes (bs ++ acc) = ids.length := by
            rw [nBoxes_app, hl]
            · intro x hx
              obtain ⟨i, hi, e⟩ := List.getElem_of_mem hx
              have hid : ids[i]? = some ids[i] := by simp [show i < ids.length by omega]
              exact (hb' i _ x hid (by rw [← e]; simp [hi]) i (over2_cv hid)).lst
            · intro x hx
              obtain ⟨i, hi, e⟩ := List.getElem_of_mem hx
              have hss : ss[i]? = some (ss[i]'(by rw [← C.len]; exact hi)) := by simp [show i < ss.length by rw [← C.len]; exact hi]
              obtain ⟨_, _, _, _, _, _, g⟩ := C.blk i _ hss
              rw [List.getElem?_eq_getElem hi, e] at g
              cases g
              rfl
          have hcall := hs (over2 c1 ids ss bs acc) args' _ _ _ (hT.step S1.le.tf S1.le.tw S1.le.ext) hR Hc h
          rw [show (over2 c1 ids ss bs acc).w = c.w from e1] at hcall
          refine go hcall ?_ ?_ ?_
          · rintro v w' ⟨d, cc, rfl, hk, hd, H', I'⟩
            rw [show (over2 c1 ids ss bs acc).hp = bs ++ acc from rfl, hnb] at I'
            obtain ⟨H3, S3, R3⟩ := back_rep H1 C hl hnd hb' H' I'
            exact ⟨v, rfl, _, back c1 cc hp2 ids, rfl, hk, R3 hd, H3, S1.trans S3, fun e => by cases e⟩
          · rintro ch w' ⟨d, p, cc, rfl, rfl, hk, hd, H', I'⟩
            rw [show (over2 c1 ids ss bs acc).hp = bs ++ acc from rfl, hnb] at I'
            obtain ⟨H3, S3, R3⟩ := back_rep H1 C hl hnd hb' H' I'
            exact ⟨rfl, p, rfl, _, back c1 cc hp2 ids, rfl, hk, R3 hd, H3, S1.trans S3, fun e => by cases e⟩
          · exact fun w' h => h
end Go.Aw

namespace Go.Aw
open Go.RowKit
def OneX (F : (Ex → St → Prop) → Prop) : Prop := ∀ K, F K → ∃ e st, K e st ∧ ∀ K', K' e st → F K'
theorem canonW_one (k : Option Canon) (st : St) : One (canonW k st) := by
  intro K h
  unfold canonW at h ⊢
  cases k with
  | none => exact ⟨st, h, fun K' h => h⟩
  | some k =>
    simp only at h ⊢
    split at h
    · unfold canonGo at h ⊢
      split at h
      · split at h
        · exact ⟨_, h, fun K' h' => h'⟩
        · exact h.elim
      · exact h.elim
    · exact h.elim
theorem codeW_one {cfg : Cfg} (hD : DetOk cfg) : ∀ (x : Code) (st : St), OneX (fun K => codeW cfg x K st)
  | .skip, st => fun K h => ⟨_, _, h, fun _ h => h⟩
  | .label _, st => fun K h => ⟨_, _, h, fun _ h => h⟩
  | .region _ ops draw, st => by
    intro K h
    show ∃ e st', _
    have h : regionW cfg ops draw st (K .normal) (fun d st' => K (.panic d) st') := h
    have main : (∃ st', K .normal st' ∧ ∀ K' : Ex → St → Prop, K' .normal st' → regionW cfg ops draw st (K' .normal) (fun d st' => K' (.panic d) st')) ∨
        (∃ d st', K (.panic d) st' ∧ ∀ K' : Ex → St → Prop, K' (.panic d) st' → regionW cfg ops draw st (K' .normal) (fun d st' => K' (.panic d) st')) := by
      unfold regionW at h ⊢
      cases draw with
      | false =>
        simp only at h ⊢
        rcases opsW_two hD false ops _ st _ _ h with ⟨st', h1, _, _, h2⟩ | ⟨_, d, st', h1, _, h2⟩
        · exact .inl ⟨st', h1, fun K' h' => h2 _ _ h'⟩
        · exact .inr ⟨d, st', h1, fun K' h' => h2 _ _ h'⟩
      | true =>
        simp only at h ⊢
        split at h
        · cases ho : ordOk ops with
          | false => rw [ho] at h; exact h.elim
          | true =>
            rw [ho] at h
            simp only at h ⊢
            obtain ⟨st', h1, _, h2⟩ := opsD_two hD ops _ _ _ _ h
            exact .inl ⟨st', h1, fun K' h' => h2 _ h'⟩
        · rename_i hno
          cases ho : ordOkE cfg ops && pdOk cfg ops with
          | false => rw [ho] at h; exact h.elim
          | true =>
            rw [ho] at h
            simp only at h ⊢
            obtain ⟨st', h1, _, h2⟩ := opsE_two hD ops _ _ _ _ _ h
            exact .inl ⟨st', h1, fun K' h' => h2 _ h'⟩
    rcases main with ⟨st', h1, h2⟩ | ⟨d, st', h1, h2⟩
    · exact ⟨_, st', h1, fun K' h' => h2 K' h'⟩
    · exact ⟨_, st', h1, fun K' h' => h2 K' h'⟩
  | .seq a b, st => by
    intro K h
    obtain ⟨e, st1, h1, h2⟩ := codeW_one hD a st _ h
    cases e with
    | normal =>
      obtain ⟨st2, g1, g2⟩ := canonW_one _ _ _ h1
      obtain ⟨e, st3, k1, k2⟩ := codeW_one hD b st2 _ g1
      exact ⟨e, st3, k1, fun K' h' => h2 _ (g2 _ (k2 _ h'))⟩
    | exit id => exact ⟨_, st1, h1, fun K' h' => h2 _ h'⟩
    | ret => exact ⟨_, st1, h1, fun K' h' => h2 _ h'⟩
    | panic d => exact ⟨_, st1, h1, fun K' h' => h2 _ h'⟩
    | goto l => exact ⟨_, st1, h1, fun K' h' => h2 _ h'⟩
  | .cond o a b, st => by
    intro K h
    unfold codeW at h
    split at h
    · rename_i t ho
      cases t with
      | true =>
        obtain ⟨e, st1, h1, h2⟩ := codeW_one hD a st K h
        exact ⟨e, st1, h1, fun K' h' => by unfold codeW; rw [ho]; exact h2 K' h'⟩
      | false =>
        obtain ⟨e, st1, h1, h2⟩ := codeW_one hD b st K h
        exact ⟨e, st1, h1, fun K' h' => by unfold codeW; rw [ho]; exact h2 K' h'⟩
    · exact h.elim
  | .block id b, st => by
    intro K h
    obtain ⟨e, st1, h1, h2⟩ := codeW_one hD b st _ h
    cases e with
    | exit id' =>
      cases hb : Nat.beq id' id with
      | true =>
        simp only [hb] at h1
        exact ⟨_, st1, h1, fun K' h' => h2 _ (by simp only [hb]; exact h')⟩
      | false =>
        simp only [hb] at h1
        exact ⟨_, st1, h1, fun K' h' => h2 _ (by simp only [hb]; exact h')⟩
    | normal => exact ⟨_, st1, h1, fun K' h' => h2 _ h'⟩
    | ret => exact ⟨_, st1, h1, fun K' h' => h2 _ h'⟩
    | panic d => exact ⟨_, st1, h1, fun K' h' => h2 _ h'⟩
    | goto l => exact ⟨_, st1, h1, fun K' h' => h2 _ h'⟩
  | .loop x, st => by
    intro K h
    have key : ∀ n (st : St), OneX (fun K => loopN (fun again => codeW cfg x (fun e st' => match e with
        | .normal => canonW (cfg.atLoop (firstReg x)) st' again
        | e => K e st')) n st) := by
      intro n
      induction n with
      | zero => intro st K h; exact h.elim
      | succ n ih =>
        intro st K h
        obtain ⟨e, st1, h1, h2⟩ := codeW_one hD x st _ h
        cases e with
        | normal =>
          obtain ⟨st2, g1, g2⟩ := canonW_one _ _ _ h1
          obtain ⟨e, st3, k1, k2⟩ := ih st2 _ g1
          exact ⟨e, st3, k1, fun K' h' => h2 _ (g2 _ (k2 _ h'))⟩
        | exit id => exact ⟨_, st1, h1, fun K' h' => h2 _ h'⟩
        | ret => exact ⟨_, st1, h1, fun K' h' => h2 _ h'⟩
        | panic d => exact ⟨_, st1, h1, fun K' h' => h2 _ h'⟩
        | goto l => exact ⟨_, st1, h1, fun K' h' => h2 _ h'⟩
    have h : canonW (cfg.atLoop (firstReg x)) st _ := h
    obtain ⟨st1, ⟨n, hn⟩, h2⟩ := canonW_one _ _ _ h
    obtain ⟨e, st3, k1, k2⟩ := key n st1 _ hn
    exact ⟨e, st3, k1, fun K' h' => h2 _ ⟨n, k2 _ h'⟩⟩
  | .exit id, st => by
    intro K h
    obtain ⟨st1, h1, h2⟩ := canonW_one _ _ _ h
    exact ⟨_, st1, h1, fun K' h' => h2 _ h'⟩
  | .ret, st => fun K h => ⟨_, _, h, fun _ h => h⟩
  | .rangeFunc _ _ _ _, st => fun K h => h.elim
  | .scope b, st => by
    intro K h
    obtain ⟨e, st1, h1, h2⟩ := codeW_one hD b st _ h
    cases e with
    | goto l => exact h1.elim
    | normal => exact ⟨_, st1, h1, fun K' h' => h2 _ h'⟩
    | exit id => exact ⟨_, st1, h1, fun K' h' => h2 _ h'⟩
    | ret => exact ⟨_, st1, h1, fun K' h' => h2 _ h'⟩
    | panic d => exact ⟨_, st1, h1, fun K' h' => h2 _ h'⟩
  | .goto l, st => fun K h => ⟨_, _, h, fun _ h => h⟩
  | .refuse _, st => fun K h => h.elim
theorem goW_one {ms : List Mode} {st : St} {ds : List D} {k : List D → List Blk → Prop} (h : goW ms st ds k) : ∃ ds' bs, k ds' bs ∧ ∀ k' : List D → List Blk → Prop, k' ds' bs → goW ms st ds k' := by
  unfold goW at h ⊢
  split at h
  · rename_i ds1 hp1 h1
    split at h
    · rename_i bs hp' acc h2
      split at h
      · rename_i ds' hp3 acc' h3
        refine ⟨_, _, h, fun k' h' => ?_⟩
        exact h'
      · exact h.elim
    · exact h.elim
  · exact h.elim
theorem resultsW_one (P : Program) (st : St) : ∀ (rs : List ResultVar), One (resultsW P st rs)
  | [] => fun K h => ⟨_, h, fun _ h => h⟩
  | .tmp t :: r => fun K h => by
    obtain ⟨ds, h1, h2⟩ := resultsW_one P st r _ h
    exact ⟨_, h1, fun K' h' => h2 _ h'⟩
  | .cell t ty :: r => fun K h => by
    obtain ⟨d, h1, h2⟩ := loadW_one P st.hp ty _ _ h
    obtain ⟨ds, h3, h4⟩ := resultsW_one P st r _ h1
    exact ⟨_, h3, fun K' h' => h2 _ (h4 _ h')⟩
theorem funW_det {cfg : Cfg} (hD : DetOk cfg) (fn : Func) : DetE (funW cfg fn) := by
  intro args blks k kp h
  unfold funW at h ⊢
  cases hb : fn.body with
  | none => rw [hb] at h; exact h.elim
  | some code =>
    rw [hb] at h
    simp only at h ⊢
    obtain ⟨e, st, h1, h2⟩ := codeW_one hD code _ _ h
    have ret : ∀ {st : St}, retW cfg fn k st → ∃ d b, k d b ∧ ∀ k' : D → List Blk → Prop, k' d b → retW cfg fn k' st := by
      intro st h1
      unfold retW at h1 ⊢
      obtain ⟨ds, h1, hr⟩ := resultsW_one cfg.P st _ _ h1
      obtain ⟨ds', bs, g1, g2⟩ := goW_one h1
      exact ⟨_, _, g1, fun k' h' => hr _ (g2 _ h')⟩
    cases e with
    | normal =>
      obtain ⟨d, b, g1, g2⟩ := ret h1
      exact .inl ⟨d, b, g1, fun k' kp' h' => h2 _ (g2 _ h')⟩
    | ret =>
      obtain ⟨d, b, g1, g2⟩ := ret h1
      exact .inl ⟨d, b, g1, fun k' kp' h' => h2 _ (g2 _ h')⟩
    | panic d =>
      have h1 : panW kp d st := h1
      unfold panW at h1
      split at h1
      · exact .inr ⟨_, _, h1, fun k' kp' h' => h2 _ h'⟩
      · exact .inr ⟨_, _, h1, fun k' kp' h' => h2 _ h'⟩
      · exact h1.elim
    | exit id => exact h1.elim
    | goto l => exact h1.elim
structure EntOk (P : Program) (tf tw : TypeId) (f : FuncId) (en : Entry) : Prop where
  det : DetE en
  sound : SoundF P tf tw f en
  body : FuncOk P f
theorem funW_ok {cfg : Cfg} (hty : TyOk cfg) (heq : EqOk cfg) (hm : cfg.P.follows .mixedOrders = true) (hE : ∀ f en, cfg.E f = some en → EntOk cfg.P cfg.tf cfg.tw f en) {f : FuncId} {fn : Func}
    (hf : cfg.P.funcs[f]? = some fn) (hn : (fn.name == "runtime.NumGoroutine") = false) (hb : fn.body.isNone = false) : EntOk cfg.P cfg.tf cfg.tw f (funW cfg fn) := by
  have hD : DetOk cfg := fun f en h => (hE f en h).det
  exact ⟨funW_det hD fn, funW_sound ⟨hty, heq, callOk fun f en h => ⟨(hE f en h).sound, (hE f en h).body⟩, hm⟩ hD hf, fn, hf, hn, hb⟩
end Go.Aw

namespace Go.Aw
open Go.RowKit
def sub : List Nat → Code → Code
  | [], c => c
  | i :: p, .seq a b => match i with
    | 0 => sub p a
    | _ => sub p b
  | i :: p, .cond _ a b => match i with
    | 0 => sub p a
    | _ => sub p b
  | _ :: p, .block _ b => sub p b
  | _ :: p, .loop b => sub p b
  | _ :: p, .scope b => sub p b
  | _ :: _, c => c
def bodyOf (fn : Func) : Code := fn.body.getD .skip
def mkT : Nat → Nat → List (Nat × D) → List D
  | 0, _, _ => []
  | n + 1, i, (s, d) :: r => match Nat.beq s i with
    | true => d :: mkT n (i + 1) r
    | false => .bad :: mkT n (i + 1) ((s, d) :: r)
  | n + 1, i, [] => .bad :: mkT n (i + 1) []
def tab {α : Type} : List (Nat × α) → Nat → Option α
  | [], _ => none
  | (i, x) :: r, j => match Nat.beq i j with
    | true => some x
    | false => tab r j
theorem tab_mem {α : Type} : ∀ {l : List (Nat × α)} {j : Nat} {x : α}, tab l j = some x → (j, x) ∈ l
  | [], j, x, h => by cases h
  | (i, y) :: r, j, x, h => by
    unfold tab at h
    split at h
    · rename_i e
      cases h
      rw [Nat.eq_of_beq_eq_true e]
      exact List.mem_cons_self
    · exact List.mem_cons_of_mem _ (tab_mem h)
def loopS {σ : Type} (L : (σ → Prop) → σ → Prop) : Nat → σ → Prop
  | 0, _ => False
  | n + 1, s => L (loopS L n) s
def loopB (cfg : Cfg) (b : Code) (K : Ex → St → Prop) (again : St → Prop) : St → Prop := codeW cfg b (loopK cfg b again K)
theorem loop_eq {σ : Type} {body : (St → Prop) → St → Prop} {mk : σ → St} {L : (σ → Prop) → σ → Prop} (h : ∀ (again : St → Prop) s, body again (mk s) = L (fun s => again (mk s)) s) (s : σ) :
    (∃ n, loopN body n (mk s)) = ∃ n, loopS L n s := by
  have key : ∀ n s, loopN body n (mk s) = loopS L n s := by
    intro n
    induction n with
    | zero => intro s; rfl
    | succ n ih =>
      intro s
      show body (loopN body n) (mk s) = L (loopS L n) s
      rw [h]
      exact congrArg (fun g => L g s) (funext ih)
  exact congrArg Exists (funext fun n => key n s)
theorem loopS_of {σ : Type} {L : (σ → Prop) → σ → Prop} (I : σ → Prop) (μ : σ → Nat) (h : ∀ again s, I s → (∀ s', I s' → μ s' < μ s → again s') → L again s) {s : σ} (hs : I s) : ∃ n, loopS L n s := by
  have key : ∀ n s, I s → μ s < n → loopS L n s := by
    intro n
    induction n with
    | zero => intro s _ hm; omega
    | succ n ih =>
      intro s hI hm
      exact h _ s hI fun s' hI' hlt => ih s' hI' (by omega)
  exact ⟨μ s + 1, key _ s hs (Nat.lt_succ_self _)⟩
def aInt (k : IntKind) (d : D) (f : Int → Prop) : Prop := match d with
  | .v (.int k' x) => match k' == k with
    | true => f x
    | false => False
  | _ => False
def aBool (d : D) (f : Bool → Prop) : Prop := match d with
  | .v (.bool x) => f x
  | _ => False
def aStr (d : D) (f : ByteArray → Prop) : Prop := match d with
  | .v (.string x) => f x
  | _ => False
def aFz (t : Ty) (d : D) (f : List t.den → Prop) : Prop := match d with
  | .fz t' l => if h : t' = t then f (h ▸ l) else False
  | _ => False
theorem aInt_elim {k : IntKind} {d : D} {f : Int → Prop} (h : aInt k d f) : ∃ x, d = .v (.int k x) ∧ f x := by
  unfold aInt at h
  split at h
  · split at h
    · rename_i e
      exact ⟨_, by rw [eq_of_beq e], h⟩
    · exact h.elim
  · exact h.elim
theorem aBool_elim {d : D} {f : Bool → Prop} (h : aBool d f) : ∃ x, d = .v (.bool x) ∧ f x := by
  unfold aBool at h
  split at h
  · exact ⟨_, rfl, h⟩
  · exact h.elim
theorem aStr_elim {d : D} {f : ByteArray → Prop} (h : aStr d f) : ∃ x, d = .v (.string x) ∧ f x := by
  unfold aStr at h
  split at h
  · exact ⟨_, rfl, h⟩
  · exact h.elim
theorem aFz_elim {t : Ty} {d : D} {f : List t.den → Prop} (h : aFz t d f) : ∃ l, d = .fz t l ∧ f l := by
  unfold aFz at h
  split at h
  · split at h
    · rename_i e
      subst e
      exact ⟨_, rfl, h⟩
    · exact h.elim
  · exact h.elim
def aAv (t : Ty) (n : Nat) (d : D) (f : List t.den → Prop) : Prop := match d with
  | .av t' n' l => match Nat.beq n' n with
    | true => if h : t' = t then f (h ▸ l) else False
    | false => False
  | _ => False
def aEr (d : D) (f : Err → Prop) : Prop := match d with
  | .er e => f e
  | _ => False
def aPtr (j o : Nat) (d : D) (p : Prop) : Prop := match d with
  | .ptr j' o' => match Nat.beq j' j && Nat.beq o' o with
    | true => p
    | false => False
  | _ => False
def aAgg (n : Nat) (d : D) (f : List D → Prop) : Prop := match d with
  | .agg cs => match Nat.beq cs.length n with
    | true => f cs
    | false => False
  | _ => False
def aFp (n : Nat) (d : D) (f : List D → Prop) : Prop := match d with
  | .fp cs => match Nat.beq cs.length n with
    | true => f cs
    | false => False
  | _ => False
theorem aFp_elim {n : Nat} {d : D} {f : List D → Prop} (h : aFp n d f) : ∃ cs, d = .fp cs ∧ f cs := by
  unfold aFp at h
  split at h
  · split at h
    · exact ⟨_, rfl, h⟩
    · exact h.elim
  · exact h.elim
def aItr (b : Blk) (f : ByteArray → Nat → Prop) : Prop := match b with
  | .itr s pos => f s pos
  | _ => False
def aBox (ty : TypeId) (b : Blk) (f : List D → Prop) : Prop := match b with
  | .box ty' cs => match Nat.beq ty' ty with
    | true => f cs
    | false => False
  | _ => False
def aBld (ty e : TypeId) (b : Blk) (f : ByteArray → Prop) : Prop := match b with
  | .bld ty' e' s => match Nat.beq ty' ty && Nat.beq e' e with
    | true => f s
    | false => False
  | _ => False
def aCons (l : List D) (f : D → List D → Prop) : Prop := match l with
  | d :: r => f d r
  | [] => False
def aNil (l : List D) (p : Prop) : Prop := match l with
  | [] => p
  | _ :: _ => False
theorem aCons_elim {l : List D} {f : D → List D → Prop} (h : aCons l f) : ∃ d r, l = d :: r ∧ f d r := by
  unfold aCons at h
  split at h
  · exact ⟨_, _, rfl, h⟩
  · exact h.elim
theorem aNil_elim {l : List D} {p : Prop} (h : aNil l p) : l = [] ∧ p := by
  unfold aNil at h
  split at h
  · exact ⟨rfl, h⟩
  · exact h.elim
theorem aAv_elim {t : Ty} {n : Nat} {d : D} {f : List t.den → Prop} (h : aAv t n d f) : ∃ l, d = .av t n l ∧ f l := by
  unfold aAv at h
  split at h
  · split at h
    · rename_i e
      split at h
      · rename_i e'
        subst e'
        exact ⟨_, by rw [Nat.eq_of_beq_eq_true e], h⟩
      · exact h.elim
    · exact h.elim
  · exact h.elim
theorem aEr_elim {d : D} {f : Err → Prop} (h : aEr d f) : ∃ e, d = .er e ∧ f e := by
  unfold aEr at h
  split at h
  · exact ⟨_, rfl, h⟩
  · exact h.elim
def aClo (f : FuncId) (d : D) (p : Prop) : Prop := match d with
  | .clo f' [] [] => match Nat.beq f' f with
    | true => p
    | false => False
  | _ => False
theorem aClo_elim {f : FuncId} {d : D} {p : Prop} (h : aClo f d p) : d = .clo f [] [] ∧ p := by
  unfold aClo at h
  split at h
  · split at h
    · rename_i e
      exact ⟨by rw [Nat.eq_of_beq_eq_true e], h⟩
    · exact h.elim
  · exact h.elim
theorem aPtr_elim {j o : Nat} {d : D} {p : Prop} (h : aPtr j o d p) : d = .ptr j o ∧ p := by
  unfold aPtr at h
  split at h
  · split at h
    · rename_i e
      simp only [Bool.and_eq_true] at e
      exact ⟨by rw [Nat.eq_of_beq_eq_true e.1, Nat.eq_of_beq_eq_true e.2], h⟩
    · exact h.elim
  · exact h.elim
theorem aAgg_elim {n : Nat} {d : D} {f : List D → Prop} (h : aAgg n d f) : ∃ cs, d = .agg cs ∧ f cs := by
  unfold aAgg at h
  split at h
  · split at h
    · exact ⟨_, rfl, h⟩
    · exact h.elim
  · exact h.elim
theorem aBox_elim {ty : TypeId} {b : Blk} {f : List D → Prop} (h : aBox ty b f) : ∃ cs, b = .box ty cs ∧ f cs := by
  unfold aBox at h
  split at h
  · split at h
    · rename_i e
      exact ⟨_, by rw [Nat.eq_of_beq_eq_true e], h⟩
    · exact h.elim
  · exact h.elim
theorem aBld_elim {ty e : TypeId} {b : Blk} {f : ByteArray → Prop} (h : aBld ty e b f) : ∃ s, b = .bld ty e s ∧ f s := by
  unfold aBld at h
  split at h
  · split at h
    · rename_i g
      rw [Bool.and_eq_true] at g
      exact ⟨_, by rw [Nat.eq_of_beq_eq_true g.1, Nat.eq_of_beq_eq_true g.2], h⟩
    · exact h.elim
  · exact h.elim
def andI (k : IntKind) (a b : Int) : Int := k.wrap (BitVec.ofInt k.bits a &&& BitVec.ofInt k.bits b).toNat
def orI (k : IntKind) (a b : Int) : Int := k.wrap (BitVec.ofInt k.bits a ||| BitVec.ofInt k.bits b).toNat
def xorI (k : IntKind) (a b : Int) : Int := k.wrap (BitVec.ofInt k.bits a ^^^ BitVec.ofInt k.bits b).toNat
def andNotI (k : IntKind) (a b : Int) : Int := k.wrap (BitVec.ofInt k.bits a &&& ~~~ (BitVec.ofInt k.bits b)).toNat
def tyRight (P : Program) (p : Nat × Ty) : Bool := match P.info? p.1 with
  | some i => Nat.beq i.size p.2.size && Nat.blt 0 p.2.size && (match i.zero with
    | some z => Nat.beq z.cells.size p.2.size
    | none => false)
  | none => false
theorem tyOk_of {P : Program} {cfg : Cfg} {l : List (Nat × Ty)} (hP : cfg.P = P) (ht : cfg.ty = tab l) (h : l.all (tyRight P) = true) : TyOk cfg := by
  intro e t het
  rw [ht] at het
  have := List.all_eq_true.1 h _ (tab_mem het)
  unfold tyRight at this
  rw [hP]
  split at this
  · rename_i i hi
    simp only [Bool.and_eq_true] at this
    obtain ⟨⟨h1, h2⟩, h3⟩ := this
    split at h3
    · rename_i z hz
      exact ⟨i, z, hi, Nat.eq_of_beq_eq_true h1, hz, Nat.eq_of_beq_eq_true h3, Nat.le_of_ble_eq_true h2⟩
    · cases h3
  · cases this
theorem eqOk_none {cfg : Cfg} (h : cfg.eqT = fun _ => none) : EqOk cfg := by
  intro t n ht
  rw [h] at ht
  cases ht
theorem EntOk.of {P : Program} {tf tw : TypeId} {f : FuncId} {en0 en : Entry} (h : EntOk P tf tw f en0)
    (sub : ∀ args blks k kp, en args blks k kp → ∀ k' kp', en args blks k' kp' = en0 args blks k' kp') : EntOk P tf tw f en where
  det args blks k kp he := by
    have e := sub args blks k kp he
    rw [e] at he
    rcases h.det args blks k kp he with ⟨d, b, h1, h2⟩ | ⟨d, b, h1, h2⟩
    · exact .inl ⟨d, b, h1, fun k' kp' h' => by rw [e]; exact h2 k' kp' h'⟩
    · exact .inr ⟨d, b, h1, fun k' kp' h' => by rw [e]; exact h2 k' kp' h'⟩
  sound c args us k kp h1 h2 h3 he := h.sound c args us k kp h1 h2 h3 (by rw [← sub _ _ _ _ he]; exact he)
  body := h.body
def convA : List (Option Ty) → List D → List D
  | some t :: r, d :: ds => (match d with
    | .v (.slice none 0 0) => .fz t []
    | d => d) :: convA r ds
  | none :: r, d :: ds => d :: convA r ds
  | [], ds => ds
  | _, [] => []
theorem convA_rep {c : Cx} : ∀ (ts : List (Option Ty)) {ds : List D} {us : List Value}, RepL c ds us → RepL c (convA ts ds) us
  | [], ds, us, h => by
    unfold convA
    exact h
  | none :: r, [], us, h => by
    unfold convA
    exact h
  | some t :: r, [], us, h => by
    unfold convA
    exact h
  | none :: r, d :: ds, us, h => by
    unfold convA
    simp only [RepL] at h ⊢
    obtain ⟨u, us', rfl, h1, h2⟩ := h
    exact ⟨u, us', rfl, h1, convA_rep r h2⟩
  | some t :: r, d :: ds, us, h => by
    unfold convA
    simp only [RepL] at h ⊢
    obtain ⟨u, us', rfl, h1, h2⟩ := h
    refine ⟨u, us', rfl, ?_, convA_rep r h2⟩
    split
    · simp only [Rep] at h1 ⊢
      subst h1
      exact ⟨none, 0, rfl, Nat.le_refl _, fun h => absurd rfl h⟩
    · exact h1
theorem EntOk.conv {P : Program} {tf tw : TypeId} {f : FuncId} {en : Entry} (h : EntOk P tf tw f en) (ts : List (Option Ty)) : EntOk P tf tw f (fun args blks k kp => en (convA ts args) blks k kp) where
  det args blks k kp he := h.det _ blks k kp he
  sound c args us k kp h1 h2 h3 he := h.sound c _ us k kp h1 (convA_rep ts h2) h3 he
  body := h.body
inductive CV where
  | no
  | one (t : Ty)
  | cells (ts : List (Option Ty))
def convD : CV → D → D
  | .one t, .v (.slice none 0 0) => .fz t []
  | .cells ts, .agg cs => .agg (convA ts cs)
  | .cells ts, .fp cs => .fp (convA ts cs)
  | _, d => d
theorem convD_rep {c : Cx} (v : CV) {d : D} {u : Value} (h : Rep c d u) : Rep c (convD v d) u := by
  unfold convD
  split
  · simp only [Rep] at h ⊢
    subst h
    exact ⟨none, 0, rfl, Nat.le_refl _, fun h => absurd rfl h⟩
  · simp only [Rep] at h ⊢
    obtain ⟨us, rfl, h⟩ := h
    exact ⟨us, rfl, convA_rep _ h⟩
  · simp only [Rep] at h ⊢
    obtain ⟨a, us, rfl, h, h'⟩ := h
    exact ⟨a, us, rfl, convA_rep _ h, h'⟩
  · exact h
def convB : List CV → List D → List D
  | v :: r, d :: ds => convD v d :: convB r ds
  | [], ds => ds
  | _, [] => []
theorem convB_rep {c : Cx} : ∀ (ts : List CV) {ds : List D} {us : List Value}, RepL c ds us → RepL c (convB ts ds) us
  | [], ds, us, h => by
    unfold convB
    exact h
  | v :: r, [], us, h => by
    unfold convB
    exact h
  | v :: r, d :: ds, us, h => by
    unfold convB
    simp only [RepL] at h ⊢
    obtain ⟨u, us', rfl, h1, h2⟩ := h
    exact ⟨u, us', rfl, convD_rep v h1, convB_rep r h2⟩
theorem EntOk.convB {P : Program} {tf tw : TypeId} {f : FuncId} {en : Entry} (h : EntOk P tf tw f en) (ts : List CV) : EntOk P tf tw f (fun args blks k kp => en (convB ts args) blks k kp) where
  det args blks k kp he := h.det _ blks k kp he
  sound c args us k kp h1 h2 h3 he := h.sound c _ us k kp h1 (convB_rep ts h2) h3 he
  body := h.body
theorem tab_ok {P : Program} {tf tw : TypeId} {l : List (Nat × Entry)} (h : ∀ p ∈ l, EntOk P tf tw p.1 p.2) : ∀ f en, tab l f = some en → EntOk P tf tw f en :=
  fun f en he => h (f, en) (tab_mem he)
end Go.Aw

namespace Go.Aw
open Go.RowKit
def sclT (P : Program) (t : TypeId) (k : Ty) : Bool := match P.underlying t, k with
  | some (.int a), .int b => a == b
  | some .bool, .bool => true
  | some .string, .str => true
  | _, _ => false
def flatFs (P : Program) : Nat → List Field → List Ty → Bool
  | _, [], [] => true
  | off, f :: r, k :: ts => (f.name != "_") && Nat.beq f.offset off && sclT P f.type k && flatFs P (off + 1) r ts
  | _, _, _ => false
def eqRight (P : Program) (p : Nat × List Ty) : Bool := (!P.eqGuardType P.depth p.1) && (match P.underlying p.1 with
  | some (.struct fs) => (!P.stoodInHeld p.1) && flatFs P 0 fs.toList p.2
  | some (.array n e) => (match P.info? e with
    | some i => Nat.beq i.size 1 && Nat.beq p.2.length n && p.2.all (sclT P e)
    | none => false)
  | _ => false)
theorem sclT_plain {P : Program} {t : TypeId} {k : Ty} (h : sclT P t k = true) : P.plainKey t = true := by
  unfold sclT at h
  unfold Program.plainKey
  split at h <;> simp_all
theorem one_eq {P : Program} {t : TypeId} {k : Ty} {u v : Value} {us vs : List Value} {ts : List Ty} {b : Bool} (h : sclT P t k = true) (he : eqV (k :: ts) (u :: us) (v :: vs) = some b) (d : Nat) (w : World) :
    ∃ x y, (Op.equalIn (d + 1) t u v).run P w = .ok x w ∧ eqV ts us vs = some y ∧ b = (x && y) := by
  unfold eqV at he
  split at he
  · rename_i e _ _; cases e
  · rename_i e1 e2 e3; cases e1; cases e2; cases e3
    split at he
    · rename_i hk
      obtain ⟨rfl, rfl⟩ := hk
      obtain ⟨y, hy, rfl⟩ := Option.map_eq_some_iff.1 he
      unfold sclT at h
      split at h
      · rename_i hu e; cases e
        exact ⟨_, y, run_equalIn_int w d t _ _ _ _ hu, hy, rfl⟩
      · rename_i e; cases e
      · rename_i e; cases e
      · cases h
    · cases he
  · rename_i e1 e2 e3; cases e1; cases e2; cases e3
    obtain ⟨y, hy, rfl⟩ := Option.map_eq_some_iff.1 he
    unfold sclT at h
    split at h
    · rename_i e; cases e
    · rename_i hu _
      exact ⟨_, y, run_equalIn_bool' w d t _ _ hu, hy, rfl⟩
    · rename_i e; cases e
    · cases h
  · rename_i e1 e2 e3; cases e1; cases e2; cases e3
    obtain ⟨y, hy, rfl⟩ := Option.map_eq_some_iff.1 he
    unfold sclT at h
    split at h
    · rename_i e; cases e
    · rename_i e; cases e
    · rename_i hu _
      refine ⟨_, y, run_equalIn_string w d t _ _ hu, hy, ?_⟩
      unfold beqS
      rw [ByteArray.toList_eq, ByteArray.toList_eq]
    · cases h
  · cases he
theorem eqV_cons {k : Ty} {ts : List Ty} {us vs : List Value} {b : Bool} (h : eqV (k :: ts) us vs = some b) : ∃ u us' v vs', us = u :: us' ∧ vs = v :: vs' := by
  unfold eqV at h
  split at h
  · rename_i e; cases e
  · exact ⟨_, _, _, _, rfl, rfl⟩
  · exact ⟨_, _, _, _, rfl, rfl⟩
  · exact ⟨_, _, _, _, rfl, rfl⟩
  · cases h
theorem drop_head {us : List Value} {off : Nat} {u : Value} {us' : List Value} (h : us.drop off = u :: us') : us.toArray[off]? = some u ∧ us.drop (off + 1) = us' := by
  constructor
  · have : (us.drop off)[0]? = some u := by rw [h]; rfl
    simpa using this
  · rw [← List.drop_drop, h]; rfl
theorem eqFields_run {P : Program} {us vs : List Value} (d : Nat) (w : World) : ∀ (fs : List Field) (ts : List Ty) (off : Nat) (b : Bool), flatFs P off fs ts = true → eqV ts (us.drop off) (vs.drop off) = some b →
    (Op.eqFields (d + 1) us.toArray vs.toArray fs).run P w = .ok b w
  | [], [], off, b, _, h => by
    unfold eqV at h
    split at h
    · cases h; rfl
    · rename_i e _ _; cases e
    · rename_i e _ _; cases e
    · rename_i e _ _; cases e
    · cases h
  | [], _ :: _, off, b, hf, _ => by simp [flatFs] at hf
  | _ :: _, [], off, b, hf, _ => by simp [flatFs] at hf
  | f :: r, k :: ts, off, b, hf, h => by
    simp only [flatFs, Bool.and_eq_true, bne_iff_ne] at hf
    obtain ⟨⟨⟨hn, ho⟩, hk⟩, hr⟩ := hf
    have ho := Nat.eq_of_beq_eq_true ho
    obtain ⟨u, us', v, vs', e1, e2⟩ := eqV_cons h
    obtain ⟨a1, a2⟩ := drop_head e1
    obtain ⟨b1, b2⟩ := drop_head e2
    rw [e1, e2] at h
    obtain ⟨x, y, hx, hy, rfl⟩ := one_eq hk h d w
    rw [← a2, ← b2] at hy
    have ih := eqFields_run d w r ts (off + 1) y hr hy
    have p1 := run_part_plain (P := P) w (sclT_plain hk) a1
    have p2 := run_part_plain (P := P) w (sclT_plain hk) b1
    simp only [Op.eqFields, hn, ne_eq, not_false_eq_true, if_true, Sem.run_bind, ho, p1, p2, hx, Result.andThen_ok]
    cases x
    · simp
    · simpa using ih
theorem eqItems_run {P : Program} {us vs : List Value} {e : TypeId} (d : Nat) (w : World) : ∀ (ts : List Ty) (off : Nat) (b : Bool), ts.all (sclT P e) = true → eqV ts (us.drop off) (vs.drop off) = some b →
    (Op.eqItems (d + 1) e 1 us.toArray vs.toArray (List.range' off ts.length)).run P w = .ok b w
  | [], off, b, _, h => by
    unfold eqV at h
    split at h
    · cases h; rfl
    · rename_i e _ _; cases e
    · rename_i e _ _; cases e
    · rename_i e _ _; cases e
    · cases h
  | k :: ts, off, b, hf, h => by
    simp only [List.all_cons, Bool.and_eq_true] at hf
    obtain ⟨hk, hr⟩ := hf
    obtain ⟨u, us', v, vs', e1, e2⟩ := eqV_cons h
    obtain ⟨a1, a2⟩ := drop_head e1
    obtain ⟨b1, b2⟩ := drop_head e2
    rw [e1, e2] at h
    obtain ⟨x, y, hx, hy, rfl⟩ := one_eq hk h d w
    rw [← a2, ← b2] at hy
    have ih := eqItems_run d w ts (off + 1) y hr hy
    have p1 := run_part_plain (P := P) w (sclT_plain hk) a1
    have p2 := run_part_plain (P := P) w (sclT_plain hk) b1
    simp only [List.length_cons, List.range'_succ, Op.eqItems, Nat.mul_one, Sem.run_bind, p1, p2, hx, Result.andThen_ok]
    cases x
    · simp
    · simpa using ih
theorem eqOk_of {P : Program} {cfg : Cfg} {l : List (Nat × List Ty)} (hP : cfg.P = P) (ht : cfg.eqT = tab l) (h : l.all (eqRight P) = true) : EqOk cfg := by
  intro t ts het us vs b hv w
  rw [ht] at het
  have := List.all_eq_true.1 h _ (tab_mem het)
  unfold eqRight at this
  rw [hP]
  simp only [Bool.and_eq_true, Bool.not_eq_true'] at this
  obtain ⟨hg, this⟩ := this
  refine ⟨hg, ?_⟩
  have e0 : Op.equal t (.agg us.toArray) (.agg vs.toArray) = Op.equalIn (9998 + 1 + 1) t (.agg us.toArray) (.agg vs.toArray) := rfl
  rw [e0]
  split at this
  · rename_i fs hu
    simp only [Bool.and_eq_true, Bool.not_eq_true'] at this
    have hfs : P.fieldsOf t = fs := by unfold Program.fieldsOf; rw [hu]
    rw [run_equalIn_struct w (9998 + 1) t _ _ (by rw [hfs]; exact hu) this.1, hfs]
    exact eqFields_run 9998 w fs.toList ts 0 b this.2 (by simpa using hv)
  · rename_i n e hu
    split at this
    · rename_i i hi
      simp only [Bool.and_eq_true] at this
      obtain ⟨⟨h1, h2⟩, h3⟩ := this
      have h1 := Nat.eq_of_beq_eq_true h1
      have h2 := Nat.eq_of_beq_eq_true h2
      have hc : P.cellsOf e = 1 := by unfold Program.cellsOf; rw [hi]; exact h1
      rw [run_equalIn_array w (9998 + 1) _ _ hu hi, hc, ← h2, List.range_eq_range']
      exact eqItems_run 9998 w ts 0 b h3 (by simpa using hv)
    · cases this
  · cases this
end Go.Aw

namespace Go.Aw
def stops (cfg : Cfg) (own key : Nat) : Bool := match cfg.atSeq key with
  | some _ => !(Nat.beq key own)
  | none => false
def codeC (cfg : Cfg) (own : Nat) (J L : Nat → St → Prop) : Code → (Ex → St → Prop) → St → Prop
  | .skip, K, st => K .normal st
  | .label _, K, st => K .normal st
  | .region _ ops draw, K, st => regionW cfg ops draw st (K .normal) (fun d st' => K (.panic d) st')
  | .seq a b, K, st => codeC cfg own J L a (fun e st' => match e with
      | .normal => canonW (cfg.atSeq (firstReg b)) st' (match stops cfg own (firstReg b) with
        | true => J (firstReg b)
        | false => codeC cfg own J L b K)
      | e => K e st') st
  | .cond c a b, K, st => match st.opd c with
    | .v (.bool t) => br t (codeC cfg own J L a K st) (codeC cfg own J L b K st)
    | _ => False
  | .block id b, K, st => codeC cfg own J L b (fun e st' => match e with
      | .exit id' => (match Nat.beq id' id with | true => K .normal st' | false => K (.exit id') st')
      | e => K e st') st
  | .loop b, K, st => canonW (cfg.atLoop (firstReg b)) st (L (firstReg b))
  | .exit id, K, st => canonW (cfg.atExit id) st (K (.exit id))
  | .ret, K, st => K .ret st
  | .scope b, K, st => codeC cfg own J L b (scopeK K) st
  | .goto l, K, st => K (.goto l) st
  | _, _, _ => False
def seqC (cfg : Cfg) (own : Nat) (J L : Nat → St → Prop) (b : Code) (K : Ex → St → Prop) : Ex → St → Prop := fun e st' => match e with
  | .normal => canonW (cfg.atSeq (firstReg b)) st' (match stops cfg own (firstReg b) with
    | true => J (firstReg b)
    | false => codeC cfg own J L b K)
  | e => K e st'
def agL (cfg : Cfg) (own : Nat) (J L : Nat → St → Prop) : Code → List (St → Prop)
  | .seq a b => agL cfg own J L a ++ (match stops cfg own (firstReg b) with
    | true => [J (firstReg b)]
    | false => agL cfg own J L b)
  | .cond _ a b => agL cfg own J L a ++ agL cfg own J L b
  | .block _ b => agL cfg own J L b
  | .loop b => [L (firstReg b)]
  | .scope b => agL cfg own J L b
  | _ => []
def agR (cfg : Cfg) (own : Nat) : Code → (Ex → St → Prop) → List (St → Prop)
  | .seq a b, K => agR cfg own a (seqK cfg b K) ++ (match stops cfg own (firstReg b) with
    | true => [codeW cfg b K]
    | false => agR cfg own b K)
  | .cond _ a b, K => agR cfg own a K ++ agR cfg own b K
  | .block id b, K => agR cfg own b (blockK id K)
  | .loop b, K => [fun st => ∃ n, loopN (loopB cfg b K) n st]
  | .scope b, K => agR cfg own b (scopeK K)
  | _, _ => []
theorem ag_len {cfg : Cfg} {own : Nat} {J L : Nat → St → Prop} : ∀ (c : Code) (K : Ex → St → Prop), (agL cfg own J L c).length = (agR cfg own c K).length := by
  intro c
  induction c with
  | seq a b iha ihb =>
    intro K
    simp only [agL, agR, List.length_append, iha (seqK cfg b K)]
    cases stops cfg own (firstReg b) with
    | true => simp
    | false => simp only [ihb K]
  | cond x a b iha ihb => intro K; simp only [agL, agR, List.length_append, iha K, ihb K]
  | block id b ih => intro K; simp only [agL, agR]; exact ih _
  | loop b ih => intro K; simp [agL, agR]
  | scope b ih => intro K; simp only [agL, agR]; exact ih _
  | _ => intro K; simp [agL, agR]
theorem codeC_eq {cfg : Cfg} {own : Nat} {J L : Nat → St → Prop} : ∀ (c : Code) (K : Ex → St → Prop), agL cfg own J L c = agR cfg own c K → ∀ st, codeC cfg own J L c K st = codeW cfg c K st := by
  intro c
  induction c with
  | seq a b iha ihb =>
    intro K h st
    simp only [agL, agR] at h
    have h' := List.append_inj h (ag_len a _)
    have hK : (fun (e : Ex) (st' : St) => match e with
      | .normal => canonW (cfg.atSeq (firstReg b)) st' (match stops cfg own (firstReg b) with
        | true => J (firstReg b)
        | false => codeC cfg own J L b K)
      | e => K e st') = seqK cfg b K := by
      funext e st'
      cases e with
      | normal =>
        show canonW _ _ _ = canonW _ _ _
        congr 1
        have h2 := h'.2
        cases hs : stops cfg own (firstReg b) with
        | true =>
          rw [hs] at h2
          simpa using h2
        | false =>
          rw [hs] at h2
          exact funext fun s => ihb K h2 s
      | _ => rfl
    show codeC cfg own J L a _ st = codeW cfg a _ st
    rw [hK]
    exact iha _ h'.1 st
  | cond x a b iha ihb =>
    intro K h st
    simp only [agL, agR] at h
    have h' := List.append_inj h (ag_len a _)
    have ea : codeC cfg own J L a K = codeW cfg a K := funext fun s => iha K h'.1 s
    have eb : codeC cfg own J L b K = codeW cfg b K := funext fun s => ihb K h'.2 s
    simp only [codeC, codeW, ea, eb]
    generalize st.opd x = d
    cases d with
    | v v => cases v <;> rfl
    | _ => rfl
  | block id b ih =>
    intro K h st
    simp only [agL, agR] at h
    show codeC cfg own J L b _ st = codeW cfg b _ st
    exact ih _ h st
  | loop b ih =>
    intro K h st
    simp only [agL, agR] at h
    have h' : L (firstReg b) = fun st => ∃ n, loopN (loopB cfg b K) n st := by simpa using h
    show canonW _ _ _ = canonW _ _ _
    rw [h']
    rfl
  | scope b ih =>
    intro K h st
    simp only [agL, agR] at h
    show codeC cfg own J L b _ st = codeW cfg b _ st
    exact ih _ h st
  | _ => intro K h st; rfl
def runC (cfg : Cfg) (own : Nat) (J L AG : Nat → St → Prop) : List Nat → Code → (Ex → St → Prop) → St → Prop
  | [], c, K, st => codeC cfg own J L c K st
  | i :: p, .seq a b, K, st => match i with
    | 0 => runC cfg own J L AG p a (seqC cfg own J L b K) st
    | _ => runC cfg own J L AG p b K st
  | i :: p, .cond _ a b, K, st => match i with
    | 0 => runC cfg own J L AG p a K st
    | _ => runC cfg own J L AG p b K st
  | _ :: p, .block id b, K, st => runC cfg own J L AG p b (blockK id K) st
  | _ :: p, .loop b, K, st => runC cfg own J L AG p b (loopK cfg b (AG (firstReg b)) K) st
  | _ :: p, .scope b, K, st => runC cfg own J L AG p b (scopeK K) st
  | _ :: _, c, K, st => codeC cfg own J L c K st
def contK (cfg : Cfg) (AG : Nat → St → Prop) : List Nat → Code → (Ex → St → Prop) → Ex → St → Prop
  | [], c, K => K
  | i :: p, .seq a b, K => match i with
    | 0 => contK cfg AG p a (seqK cfg b K)
    | _ => contK cfg AG p b K
  | i :: p, .cond _ a b, K => match i with
    | 0 => contK cfg AG p a K
    | _ => contK cfg AG p b K
  | _ :: p, .block id b, K => contK cfg AG p b (blockK id K)
  | _ :: p, .loop b, K => contK cfg AG p b (loopK cfg b (AG (firstReg b)) K)
  | _ :: p, .scope b, K => contK cfg AG p b (scopeK K)
  | _ :: _, c, K => K
def agPL (cfg : Cfg) (own : Nat) (J L : Nat → St → Prop) : List Nat → Code → List (St → Prop)
  | [], c => agL cfg own J L c
  | i :: p, .seq a b => match i with
    | 0 => agPL cfg own J L p a ++ (match stops cfg own (firstReg b) with
      | true => [J (firstReg b)]
      | false => agL cfg own J L b)
    | _ => agPL cfg own J L p b
  | i :: p, .cond _ a b => match i with
    | 0 => agPL cfg own J L p a
    | _ => agPL cfg own J L p b
  | _ :: p, .block id b => agPL cfg own J L p b
  | _ :: p, .loop b => agPL cfg own J L p b
  | _ :: p, .scope b => agPL cfg own J L p b
  | _ :: _, c => agL cfg own J L c
def agPR (cfg : Cfg) (own : Nat) (AG : Nat → St → Prop) : List Nat → Code → (Ex → St → Prop) → List (St → Prop)
  | [], c, K => agR cfg own c K
  | i :: p, .seq a b, K => match i with
    | 0 => agPR cfg own AG p a (seqK cfg b K) ++ (match stops cfg own (firstReg b) with
      | true => [codeW cfg b K]
      | false => agR cfg own b K)
    | _ => agPR cfg own AG p b K
  | i :: p, .cond _ a b, K => match i with
    | 0 => agPR cfg own AG p a K
    | _ => agPR cfg own AG p b K
  | _ :: p, .block id b, K => agPR cfg own AG p b (blockK id K)
  | _ :: p, .loop b, K => agPR cfg own AG p b (loopK cfg b (AG (firstReg b)) K)
  | _ :: p, .scope b, K => agPR cfg own AG p b (scopeK K)
  | _ :: _, c, K => agR cfg own c K
theorem agP_len {cfg : Cfg} {own : Nat} {J L AG : Nat → St → Prop} : ∀ (p : List Nat) (c : Code) (K : Ex → St → Prop), (agPL cfg own J L p c).length = (agPR cfg own AG p c K).length := by
  intro p
  induction p with
  | nil => intro c K; exact ag_len c K
  | cons i p ih =>
    intro c K
    cases c with
    | seq a b =>
      cases i with
      | zero =>
        simp only [agPL, agPR, List.length_append, ih a (seqK cfg b K)]
        cases stops cfg own (firstReg b) with
        | true => simp
        | false => simp only [ag_len b K]
      | succ i => exact ih b K
    | cond x a b => cases i with
      | zero => exact ih a K
      | succ i => exact ih b K
    | block id b => exact ih b _
    | loop b => exact ih b _
    | scope b => exact ih b _
    | _ => exact ag_len _ K
theorem runC_eq {cfg : Cfg} {own : Nat} {J L AG : Nat → St → Prop} : ∀ (p : List Nat) (c : Code) (K : Ex → St → Prop), agPL cfg own J L p c = agPR cfg own AG p c K → ∀ st, runC cfg own J L AG p c K st = codeW cfg (sub p c) (contK cfg AG p c K) st := by
  intro p
  induction p with
  | nil => intro c K h st; exact codeC_eq c K h st
  | cons i p ih =>
    intro c K h st
    cases c with
    | seq a b =>
      cases i with
      | zero =>
        simp only [agPL, agPR] at h
        have h' := List.append_inj h (agP_len p a _)
        have hK : seqC cfg own J L b K = seqK cfg b K := by
          funext e st'
          cases e with
          | normal =>
            show canonW _ _ _ = canonW _ _ _
            congr 1
            have h2 := h'.2
            cases hs : stops cfg own (firstReg b) with
            | true =>
              rw [hs] at h2
              simpa using h2
            | false =>
              rw [hs] at h2
              exact funext fun s => codeC_eq b K h2 s
          | _ => rfl
        show runC cfg own J L AG p a (seqC cfg own J L b K) st = codeW cfg (sub p a) (contK cfg AG p a (seqK cfg b K)) st
        rw [hK]
        exact ih a _ h'.1 st
      | succ i => exact ih b K h st
    | cond x a b => cases i with
      | zero => exact ih a K h st
      | succ i => exact ih b K h st
    | block id b => exact ih b _ h st
    | loop b => exact ih b _ h st
    | scope b => exact ih b _ h st
    | _ => exact codeC_eq _ K h st
noncomputable abbrev pick {α : Type} (d : α) (l : List (Nat × α)) (j : Nat) : α :=
  @List.rec (Nat × α) (fun _ => α) d (fun p _ ih => @Bool.rec (fun _ => α) ih p.2 (Nat.beq p.1 j)) l
def none' : St → Prop := fun _ => False
def none'' : Nat → St → Prop := fun _ _ => False
def st0 (fn : Func) (args : List D) (blks : List Blk) : St := { tmps := args ++ List.replicate (fn.ntmps - args.length) (.v undef), hp := blks, m := nBoxes blks }
def atP (cfg : Cfg) (AG : Nat → St → Prop) (p : List Nat) (c : Code) (K : Ex → St → Prop) : St → Prop := codeW cfg (sub p c) (contK cfg AG p c K)
theorem atP_run {cfg : Cfg} {own : Nat} {J L AG : Nat → St → Prop} {p : List Nat} {c : Code} {K : Ex → St → Prop} (h : agPL cfg own J L p c = agPR cfg own AG p c K) (st : St) :
    atP cfg AG p c K st = runC cfg own J L AG p c K st := (runC_eq p c K h st).symm
theorem funW_run {cfg : Cfg} {fn : Func} {c : Code} {k kp : D → List Blk → Prop} {J L AG : Nat → St → Prop} {own : Nat} (hb : fn.body = some c)
    (h : agPL cfg own J L [] c = agPR cfg own AG [] c (topK cfg fn k kp)) (args : List D) (blks : List Blk) :
    funW cfg fn args blks k kp = runC cfg own J L AG [] c (topK cfg fn k kp) (st0 fn args blks) := by
  rw [runC_eq [] c _ h]
  unfold funW
  rw [hb]
  rfl
theorem EntOk.never' {P : Program} {tf tw : TypeId} {f : FuncId} {en : Entry} (hb : FuncOk P f) (h : ∀ args blks k kp, ¬ en args blks k kp) : EntOk P tf tw f en :=
  ⟨fun args blks k kp e => absurd e (h _ _ _ _), fun c args us k kp _ _ _ e => absurd e (h _ _ _ _), hb⟩
theorem EntOk.any {P : Program} {tf tw : TypeId} {f : FuncId} {en : Nat → Entry} {en' : Entry} (h : ∀ n, EntOk P tf tw f (en n)) (he : ∀ args blks k kp, en' args blks k kp ↔ ∃ n, en n args blks k kp) : EntOk P tf tw f en' where
  det args blks k kp e := by
    obtain ⟨n, e⟩ := (he _ _ _ _).1 e
    rcases (h n).det args blks k kp e with ⟨d, b, h1, h2⟩ | ⟨d, b, h1, h2⟩
    · exact .inl ⟨d, b, h1, fun k' kp' hk => (he _ _ _ _).2 ⟨n, h2 k' kp' hk⟩⟩
    · exact .inr ⟨d, b, h1, fun k' kp' hk => (he _ _ _ _).2 ⟨n, h2 k' kp' hk⟩⟩
  sound c args us k kp hT hr hH e := by
    obtain ⟨n, e⟩ := (he _ _ _ _).1 e
    exact (h n).sound c args us k kp hT hr hH e
  body := (h 0).body
end Go.Aw

namespace Go.Aw
open Go.RowKit
@[simp] theorem br_true (p q : Prop) : br true p q = p := rfl
@[simp] theorem br_false (p q : Prop) : br false p q = q := rfl
theorem br_of {b : Bool} {p q : Prop} (h1 : b = true → p) (h2 : b = false → q) : br b p q := by
  cases b
  · exact h2 rfl
  · exact h1 rfl
theorem br_iff {b : Bool} {p q : Prop} : br b p q ↔ (b = true → p) ∧ (b = false → q) := by cases b <;> simp
@[simp] theorem br_dec {c : Prop} [Decidable c] {p q : Prop} : br (decide c) p q = if c then p else q := by
  by_cases h : c <;> simp [h]
@[simp] theorem br_beq {α : Type} [BEq α] [LawfulBEq α] [DecidableEq α] {a b : α} {p q : Prop} : br (a == b) p q = if a = b then p else q := by
  by_cases h : a = b
  · simp [h]
  · rw [if_neg h, show (a == b) = false by simpa using h]; rfl
@[simp] theorem br_bne {α : Type} [BEq α] [LawfulBEq α] [DecidableEq α] {a b : α} {p q : Prop} : br (a != b) p q = if a = b then q else p := by
  by_cases h : a = b
  · simp [h]
  · rw [if_neg h, show (a != b) = true by simpa using h]; rfl
@[simp] theorem br_not {b : Bool} {p q : Prop} : br (!b) p q = br b q p := by cases b <;> rfl
theorem br_bif {α : Sort _} {b : Bool} {k : α → Prop} {x y : α} : br b (k x) (k y) = k (bif b then x else y) := by cases b <;> rfl
abbrev w64 (n : Int) : Int := IntKind.i64.wrap n
theorem w64_eq (n : Int) : w64 n = n.bmod (2 ^ 64) := by
  unfold w64 IntKind.wrap
  simp only [IntKind.bits, IntKind.signed]
  unfold Int.bmod
  simp
  split <;> split <;> omega
theorem wu64_eq (n : Int) : IntKind.u64.wrap n = n % 2 ^ 64 := by
  unfold IntKind.wrap
  simp [IntKind.bits, IntKind.signed]
theorem wu8_eq (n : Int) : IntKind.u8.wrap n = n % 256 := by
  unfold IntKind.wrap
  simp [IntKind.bits, IntKind.signed]
def in64 (n : Int) : Prop := -9223372036854775808 ≤ n ∧ n ≤ 9223372036854775807
theorem wf64 {n : Int} (h : (Lit.int .i64 n).wf = true) : in64 n := by
  simp [Lit.wf, IntKind.min, IntKind.max, IntKind.signed, IntKind.bits] at h
  exact h
theorem w64_id {n : Int} (h : in64 n) : w64 n = n := by
  unfold in64 at h
  rw [w64_eq]
  apply Int.bmod_eq_of_le <;> omega
theorem wrap_id {n : Int} (h1 : -9223372036854775808 ≤ n) (h2 : n ≤ 9223372036854775807) : IntKind.i64.wrap n = n := w64_id ⟨h1, h2⟩
theorem w64_in (n : Int) : in64 (w64 n) := by
  unfold in64
  rw [w64_eq]
  have h1 := @Int.le_bmod n (2 ^ 64) (by decide)
  have h2 := @Int.bmod_lt n (2 ^ 64) (by decide)
  omega
theorem drop_get {α : Type} {l : List α} {i : Nat} {d : α} (h : i < l.length) : l.drop i = l.getD i d :: l.drop (i + 1) := by
  rw [List.drop_eq_getElem_cons h]; simp [List.getD, List.getElem?_eq_getElem h]
end Go.Aw

namespace Go.Aw
theorem ba_append (a b : Array UInt8) : (ByteArray.mk a ++ ByteArray.mk b) = ByteArray.mk (a ++ b) := by
  apply ByteArray.ext
  simp
theorem bytesOf_append (a b : List Int) : bytesOf (a ++ b) = bytesOf a ++ bytesOf b := by
  unfold bytesOf
  rw [ba_append]
  simp
theorem size_append (a b : ByteArray) : (a ++ b).size = a.size + b.size := by simp
theorem bytesOf_size (l : List Int) : (bytesOf l).size = l.length := by
  unfold bytesOf
  simp [ByteArray.size]
theorem bytesOf_ofBytes (s : ByteArray) : bytesOf (ofBytes s) = s := by
  unfold bytesOf ofBytes
  apply ByteArray.ext
  simp [List.map_map]
  apply Array.ext'
  simp
  apply List.ext_getElem
  · simp
  · intro i h1 h2
    simp
theorem ofBytes_length (s : ByteArray) : (ofBytes s).length = s.size := by
  unfold ofBytes
  rw [List.length_map, Array.length_toList]; rfl
theorem beqS_self (a : ByteArray) : beqS a a = true := (beqS_iff a a).2 rfl
def isB (x : Int) : Prop := 0 ≤ x ∧ x < 256
theorem ofBytes_bytesOf {l : List Int} (h : ∀ x ∈ l, isB x) : ofBytes (bytesOf l) = l := by
  unfold ofBytes bytesOf
  simp only [List.map_map]
  conv => rhs; rw [← List.map_id l]
  apply List.map_congr_left
  intro x hx
  obtain ⟨h1, h2⟩ := h x hx
  simp
  omega
theorem ofBytes_isB (s : ByteArray) : ∀ x ∈ ofBytes s, isB x := by
  intro x hx
  unfold ofBytes at hx
  obtain ⟨b, _, rfl⟩ := List.mem_map.1 hx
  have := b.toNat_lt
  exact ⟨by omega, by omega⟩
theorem byteAt_eq (s : ByteArray) (i : Nat) : byteAt s i = (ofBytes s).getD i 0 := by
  unfold byteAt ofBytes
  simp only [Int.toNat_natCast, List.getD, List.getElem?_map, Array.getElem?_toList, Array.getD_eq_getD_getElem?]
  cases s.data[i]? <;> simp
theorem ofBytes_append (a b : ByteArray) : ofBytes (a ++ b) = ofBytes a ++ ofBytes b := by
  unfold ofBytes
  simp
theorem ofBytes_extract (s : ByteArray) (i j : Nat) : ofBytes (s.extract i j) = ((ofBytes s).take j).drop i := by
  unfold ofBytes
  rw [ByteArray.data_extract, Array.toList_extract, List.extract_eq_take_drop, List.map_take, List.map_drop, List.drop_take]
theorem eq_of_ofBytes {a b : ByteArray} (h : ofBytes a = ofBytes b) : a = b := by rw [← bytesOf_ofBytes a, ← bytesOf_ofBytes b, h]
theorem getD_isB (s : ByteArray) (i : Nat) : isB ((ofBytes s).getD i 0) := by
  by_cases h : i < (ofBytes s).length
  · simp only [List.getD, List.getElem?_eq_getElem h, Option.getD_some]
    exact ofBytes_isB s _ (List.getElem_mem h)
  · simp only [List.getD, List.getElem?_eq_none (by omega : (ofBytes s).length ≤ i), Option.getD_none]
    exact ⟨by decide, by decide⟩
def dl : Nat → Nat → List Int
  | 0, _ => []
  | f + 1, u => ((48 + u % 10 : Nat) : Int) :: if u / 10 = 0 then [] else dl f (u / 10)
theorem dl_succ (f u : Nat) : dl (f + 1) u = ((48 + u % 10 : Nat) : Int) :: if u / 10 = 0 then [] else dl f (u / 10) := rfl
def val (l : List Int) : Nat := l.foldl (fun a d => 10 * a + (d - 48).toNat) 0
def isD (x : Int) : Prop := 48 ≤ x ∧ x ≤ 57
instance (x : Int) : Decidable (isD x) := inferInstanceAs (Decidable (_ ∧ _))
theorem val_snoc (l : List Int) (d : Int) : val (l ++ [d]) = 10 * val l + (d - 48).toNat := by simp [val]
theorem dl_isD : ∀ (f u : Nat), ∀ x ∈ dl f u, isD x
  | 0, u, x, h => by cases h
  | f + 1, u, x, h => by
    unfold dl at h
    rcases List.mem_cons.1 h with rfl | h
    · exact ⟨by omega, by omega⟩
    · split at h
      · cases h
      · exact dl_isD f _ x h
theorem dl_val : ∀ (f u : Nat), u < 10 ^ f → val (dl f u).reverse = u
  | 0, u, h => by simp at h; subst h; rfl
  | f + 1, u, h => by
    unfold dl
    rw [List.reverse_cons, val_snoc]
    have e : (((48 + u % 10 : Nat) : Int) - 48).toNat = u % 10 := by omega
    rw [e]
    split
    · rename_i hz
      have : val ([] : List Int).reverse = 0 := rfl
      rw [this]; omega
    · rw [dl_val f (u / 10) (by rw [Nat.pow_succ] at h; omega)]; omega
theorem dl_ne (f u : Nat) : dl (f + 1) u ≠ [] := by unfold dl; simp
theorem dl_len_pos (f u : Nat) : 0 < (dl (f + 1) u).length := List.length_pos_iff.2 (dl_ne f u)
theorem dl_len_le : ∀ (f u : Nat), (dl f u).length ≤ f
  | 0, _ => by simp [dl]
  | f + 1, u => by
    unfold dl
    split
    · simp
    · have := dl_len_le f (u / 10); simp; omega
theorem dl_top : ∀ (f u : Nat), u < 10 ^ f → (dl f u).getLast? = some 48 → u = 0
  | 0, u, h, _ => by simp at h; exact h
  | f + 1, u, h, h2 => by
    unfold dl at h2
    split at h2
    · rename_i hz
      simp at h2
      omega
    · rename_i hz
      have h3 : u / 10 < 10 ^ f := by rw [Nat.pow_succ] at h; omega
      cases hd : dl f (u / 10) with
      | nil =>
        cases f with
        | zero => simp at h3; omega
        | succ f => exact absurd hd (dl_ne f _)
      | cons x r =>
        rw [hd] at h2
        have h4 : (x :: r).getLast? = some 48 := by simpa [List.getLast?_cons_cons] using h2
        rw [← hd] at h4
        have := dl_top f (u / 10) h3 h4
        omega
theorem dl_of_val : ∀ (l : List Int) (f : Nat), l.length ≤ f → (∀ x ∈ l, isD x) → l ≠ [] → (l.head? = some 48 → l = [48]) → val l < 10 ^ f ∧ dl f (val l) = l.reverse := by
  intro l
  induction h : l.length using Nat.strongRecOn generalizing l with
  | ind n ih =>
    intro f hf hd hne hz
    subst h
    obtain ⟨m, d, rfl⟩ : ∃ m d, l = m ++ [d] := ⟨l.dropLast, l.getLast hne, (List.dropLast_concat_getLast hne).symm⟩
    have hdd : isD d := hd d (by simp)
    obtain ⟨hd1, hd2⟩ := hdd
    rw [val_snoc]
    cases f with
    | zero => simp at hf
    | succ f =>
      by_cases hm : m = []
      · subst hm
        have e0 : val ([] : List Int) = 0 := rfl
        rw [e0]
        refine ⟨?_, ?_⟩
        · have : 1 ≤ 10 ^ f := Nat.one_le_pow _ _ (by decide)
          rw [Nat.pow_succ]; omega
        · unfold dl
          rw [if_pos (by omega)]
          simp
          omega
      · have hlen : m.length ≤ f := by simp at hf; omega
        have hz' : m.head? = some 48 → m = [48] := by
          intro h1
          have : (m ++ [d]).head? = some 48 := by
            cases m with
            | nil => exact absurd rfl hm
            | cons x r => simpa using h1
          have := hz this
          cases m with
          | nil => exact absurd rfl hm
          | cons x r => simp at this
        obtain ⟨h1, h2⟩ := ih m.length (by simp) m rfl f hlen (fun x hx => hd x (by simp [hx])) hm hz'
        have hpos : 0 < val m := by
          rcases Nat.eq_zero_or_pos (val m) with h0 | h0
          · exfalso
            have hh : m.head? = some 48 := by
              rw [h0] at h2
              cases f with
              | zero => simp at hlen; exact absurd hlen hm
              | succ f =>
                have : dl (f + 1) 0 = [48] := by unfold dl; simp
                rw [this] at h2
                have : m = [48] := by
                  have := congrArg List.reverse h2
                  simpa using this.symm
                subst this; rfl
            have : (m ++ [d]).head? = some 48 := by
              cases m with
              | nil => exact absurd rfl hm
              | cons x r => simpa using hh
            have := hz this
            cases m with
            | nil => exact absurd rfl hm
            | cons x r => simp at this
          · exact h0
        have e1 : (10 * val m + (d - 48).toNat) / 10 = val m := by omega
        have e2 : (10 * val m + (d - 48).toNat) % 10 = (d - 48).toNat := by omega
        refine ⟨by rw [Nat.pow_succ]; omega, ?_⟩
        unfold dl
        rw [e1, e2, if_neg (by omega), h2, List.reverse_append]
        simp
        omega
def run : List Int → Nat
  | [] => 0
  | x :: r => if isD x then run r + 1 else 0
theorem run_le : ∀ (l : List Int), run l ≤ l.length
  | [] => Nat.le_refl _
  | x :: r => by unfold run; split <;> simp; have := run_le r; omega
theorem run_isD : ∀ (l : List Int), ∀ x ∈ l.take (run l), isD x
  | [], x, h => by simp [run] at h
  | y :: r, x, h => by
    unfold run at h
    split at h
    · rename_i hy
      rcases List.mem_cons.1 (by simpa using h) with rfl | h
      · exact hy
      · exact run_isD r x h
    · simp at h
theorem run_app : ∀ (l m : List Int), (∀ x ∈ l, isD x) → (∀ x, m.head? = some x → ¬ isD x) → run (l ++ m) = l.length
  | [], [], _, _ => rfl
  | [], y :: m, _, h => by simp [run, h y rfl]
  | x :: l, m, h, h2 => by
    simp only [List.cons_append, run, List.length_cons]
    rw [if_pos (h x (by simp)), run_app l m (fun y hy => h y (by simp [hy])) h2]
theorem run_step {l : List Int} {i j : Nat} (h : run (l.drop i) = j) (hj : i + j < l.length) : ¬ isD (l.getD (i + j) 0) := by
  induction j generalizing i with
  | zero =>
    rw [drop_get (d := 0) (by omega)] at h
    unfold run at h
    split at h
    · omega
    · rename_i hn; simpa using hn
  | succ j ih =>
    have hi : i < l.length := by omega
    rw [drop_get (d := 0) hi] at h
    unfold run at h
    split at h
    · have := ih (i := i + 1) (by omega) (by omega)
      rwa [show i + 1 + j = i + (j + 1) by omega] at this
    · omega
theorem runIn {l : List Int} {i j : Nat} (hj : j < run (l.drop i)) : isD (l.getD (i + j) 0) := by
  have h := run_isD (l.drop i) ((l.drop i).getD j 0) (by
    have h1 := run_le (l.drop i)
    have h2 : j < (l.drop i).length := by omega
    have e : (l.drop i).getD j 0 = (l.drop i)[j] := by simp [List.getD, List.getElem?_eq_getElem h2]
    rw [e]
    exact List.mem_take_iff_getElem.2 ⟨j, by omega, rfl⟩)
  simpa [List.getD, List.getElem?_drop] using h
theorem drop_set_self {α : Type} {l : List α} {a : Nat} {x : α} (h : a < l.length) : (l.set a x).drop a = x :: l.drop (a + 1) := by
  rw [List.drop_set, if_neg (Nat.lt_irrefl _), Nat.sub_self, List.drop_eq_getElem_cons h]
  rfl
theorem tmod10 (m : Int) : Int.tmod m 10 = if m < 0 then -((m.natAbs % 10 : Nat) : Int) else ((m.natAbs % 10 : Nat) : Int) := by
  split
  · have : m = -(m.natAbs : Int) := by omega
    rw [this, Int.neg_tmod, Int.natAbs_neg, Int.natAbs_natCast]; norm_cast
  · have : m = (m.natAbs : Int) := by omega
    rw [this, Int.natAbs_natCast]; norm_cast
theorem tdiv10 (m : Int) : Int.tdiv m 10 = if m < 0 then -((m.natAbs / 10 : Nat) : Int) else ((m.natAbs / 10 : Nat) : Int) := by
  split
  · have : m = -(m.natAbs : Int) := by omega
    rw [this, Int.neg_tdiv, Int.natAbs_neg, Int.natAbs_natCast]; norm_cast
  · have : m = (m.natAbs : Int) := by omega
    rw [this, Int.natAbs_natCast]; norm_cast
theorem val_le_foldl : ∀ (m : List Int) (a : Nat), a ≤ m.foldl (fun a d => 10 * a + (d - 48).toNat) a
  | [], a => Nat.le_refl _
  | d :: m, a => by
    simp only [List.foldl_cons]
    exact Nat.le_trans (by omega) (val_le_foldl m _)
theorem val_take (l : List Int) (i : Nat) : val (l.take i) ≤ val l := by
  conv => rhs; rw [← List.take_append_drop i l]
  unfold val
  rw [List.foldl_append]
  exact val_le_foldl _ _
theorem val_take_succ {l : List Int} {i : Nat} (h : i < l.length) : val (l.take (i + 1)) = 10 * val (l.take i) + (l.getD i 0 - 48).toNat := by
  have : l.take (i + 1) = l.take i ++ [l.getD i 0] := by
    rw [List.take_succ_eq_append_getElem h]; simp [List.getD, List.getElem?_eq_getElem h]
  rw [this, val_snoc]
def scanI (l : List Int) (at_ : Int) : Int × Int × Int :=
  if at_ < 0 ∨ at_ > (l.length : Int) then (0, 0, 1) else
  let minus := decide (at_.toNat < l.length) && (l.getD at_.toNat 0 == 45)
  let fr := at_.toNat + minus.toNat
  let r := run (l.drop fr)
  if r = 0 ∨ (l.getD fr 0 = 48 ∧ (1 < r ∨ minus = true)) then (0, 0, 12) else
  let v := val ((l.drop fr).take r)
  if v > 2 ^ 63 ∨ (v = 2 ^ 63 ∧ minus = false) then (0, 0, 2) else (if minus = true then -(v : Int) else v, ((fr + r : Nat) : Int), 0)
def getI (l : List Int) : Int × Int := if (scanI l 0).2.2 ≠ 0 then (0, (scanI l 0).2.2) else if (scanI l 0).2.1 < (l.length : Int) then (0, 12) else ((scanI l 0).1, 0)
end Go.Aw

namespace Go.Aw
open Go.RowKit Go.ChangeShapes
def Ty.bytes : Ty → Nat
  | .int k => k.bits / 8
  | .bool => 1
  | .str => 16
  | .list _ => 24
  | .pair a b => a.bytes + b.bytes
def Ty.Wf : (t : Ty) → t.den → Prop
  | .int k, x => (Lit.int k x).wf = true
  | .bool, _ => True
  | .str, x => x.size ≤ reachBytes
  | .list t, l => @List.length t.den l * t.bytes ≤ reachBytes ∧ ∀ x : t.den, @List.Mem t.den x l → t.Wf x
  | .pair a b, x => a.Wf x.1 ∧ b.Wf x.2
def Ty.bulk : (t : Ty) → t.den → Nat
  | .int _, _ => 1
  | .bool, _ => 1
  | .str, x => x.size + 1
  | .list t, l => (@List.map t.den Nat t.bulk l).sum + 1
  | .pair a b, x => a.bulk x.1 + b.bulk x.2
structure BulkF {H : Type} (B : DataW H → Nat) : Prop where
  one : ∀ d, 1 ≤ B d
  str : ∀ bytes, bytes.length + 1 ≤ B (.lit (.string bytes))
  slice : ∀ es sp, (es.map B).sum + 1 ≤ B (.slice es sp)
  agg : ∀ ps, (ps.map B).sum ≤ B (.agg ps)
mutual
def isT (P : Program) : Nat → Ty → TypeId → Bool
  | 0, _, _ => false
  | n + 1, ty, t => Nat.beq (P.cellsOf t) ty.size && Nat.ble ty.bytes (P.bytesOf t) && (match P.underlying t with
    | some (.int k) => (match ty with | .int k' => k == k' | _ => false)
    | some .bool => (match ty with | .bool => true | _ => false)
    | some .string => (match ty with | .str => true | _ => false)
    | some (.slice e) => (match ty with | .list te => isT P n te e | _ => false)
    | some (.struct fs) => isFs P n ty 0 fs.toList
    | some (.array m e) => isAr P n ty 0 (P.cellsOf e) e m
    | _ => false)
def isFs (P : Program) : Nat → Ty → Nat → List Field → Bool
  | 0, _, _, _ => false
  | n + 1, ty, off, [] => false
  | n + 1, ty, off, [f] => Nat.beq f.offset off && isT P n ty f.type
  | n + 1, ty, off, f :: r => match ty with
    | .pair a b => Nat.beq f.offset off && isT P n a f.type && isFs P n b (off + a.size) r
    | _ => false
def isAr (P : Program) : Nat → Ty → Nat → Nat → TypeId → Nat → Bool
  | 0, _, _, _, _, _ => false
  | n + 1, ty, i, sz, e, 0 => false
  | n + 1, ty, i, sz, e, 1 => isT P n ty e
  | n + 1, ty, i, sz, e, m + 2 => match ty with
    | .pair a b => isT P n a e && isAr P n b (i + 1) sz e (m + 1)
    | _ => false
end
def inW (W : World) : Addr → Prop := fun a => a.block < W.heap.size
theorem cells_at {W : World} {a : Addr} {n : Nat} {cs : List Value} (h : W.cells? 0 a n = some cs) : At W (inW W) a cs := by
  unfold World.cells? at h
  rw [if_pos (Nat.zero_le _)] at h
  intro j u hj
  have hlen := mapM_some_length h
  have hjn : j < n := by
    have := List.getElem?_eq_some_iff.1 hj
    obtain ⟨h1, _⟩ := this
    simp at hlen
    omega
  have hc := mapM_some_get h j j (by simp [hjn])
  rw [hj] at hc
  refine ⟨?_, hc⟩
  unfold World.cell? at hc
  unfold inW
  by_cases hb : (a.add j).block < W.heap.size
  · exact hb
  · rw [Array.getElem?_eq_none (by omega)] at hc
    simp at hc
theorem choose_list {α β : Type} {R : α → β → Prop} : ∀ {n : Nat} (f : Nat → β), (∀ i, i < n → ∃ x, R x (f i)) → ∃ l : List α, l.length = n ∧ ∀ i x, l[i]? = some x → R x (f i)
  | 0, f, _ => ⟨[], rfl, fun i x h => by simp at h⟩
  | n + 1, f, h => by
    obtain ⟨x, hx⟩ := h 0 (Nat.succ_pos _)
    obtain ⟨l, hl, hr⟩ := choose_list (n := n) (fun i => f (i + 1)) fun i hi => h (i + 1) (by omega)
    refine ⟨x :: l, by simp [hl], fun i y hy => ?_⟩
    cases i with
    | zero => simp at hy; subst hy; exact hx
    | succ i => exact hr i y (by simpa using hy)
section
variable {H : Type} {enc : TypeId × Value → H} {P : Program} {W : World}
abbrev trd (enc : TypeId × Value → H) (P : Program) (W : World) (fuel : Nat) (t : TypeId) (cs : List Value) := DataW.trod enc P W 0 (fun _ => true) true fuel t cs
def Opens (enc : TypeId × Value → H) (P : Program) (W : World) (n : Nat) : Prop := ∀ (ty : Ty) (t : TypeId) (fuel : Nat) (cs : List Value) (d : DataW H) (ps : List MemPlace), isT P n ty t = true → trd enc P W fuel t cs = some (d, ps) →
  (∀ m ∈ d.weights P t, m ≤ reachBytes) → ∃ x : ty.den, RepT W (inW W) ty x cs ∧ ty.Wf x ∧ cs.length = ty.size ∧ ∀ B : DataW H → Nat, BulkF B → ty.bulk x ≤ B d
theorem weightsAll_mem {e : TypeId} {l : List (DataW H)} {d : DataW H} {m : Nat} (hd : d ∈ l) (hm : m ∈ d.weights P e) : m ∈ DataW.weightsAll P e l := by
  induction l with
  | nil => cases hd
  | cons x r ih =>
    simp only [DataW.weightsAll, List.mem_append]
    rcases List.mem_cons.1 hd with rfl | h
    · exact .inl hm
    · exact .inr (ih h)
theorem fields_open {n : Nat} (ih : ∀ m, m ≤ n → Opens enc P W m) : ∀ (fs : List Field) (k : Nat), k ≤ n + 1 → ∀ (ty : Ty) (off fuel : Nat) (cs : List Value) (xs : List (DataW H × List MemPlace)), isFs P k ty off fs = true →
    (∀ (i : Nat) (f : Field), fs[i]? = some f → trd enc P W fuel f.type ((cs.drop f.offset).take (P.cellsOf f.type)) = xs[i]?) → xs.length = fs.length → (∀ m ∈ DataW.weightsEach P (fs.map (·.type)) (xs.map (·.1)), m ≤ reachBytes) →
    cs.length = off + ty.size → ∃ x : ty.den, RepT W (inW W) ty x (cs.drop off) ∧ ty.Wf x ∧ ∀ B : DataW H → Nat, BulkF B → ty.bulk x ≤ (xs.map (fun y => B y.1)).sum
  | [], k, hk, ty, off, fuel, cs, xs, h, hm, hxl, hw, hl => by
    cases k with
    | zero => simp [isFs] at h
    | succ k => simp [isFs] at h
  | [f], k, hk, ty, off, fuel, cs, xs, h, hm, hxl, hw, hl => by
    cases k with
    | zero => simp [isFs] at h
    | succ k =>
      simp only [isFs, Bool.and_eq_true] at h
      obtain ⟨h1, h2⟩ := h
      have e1 : f.offset = off := Nat.eq_of_beq_eq_true h1
      have hy := hm 0 f rfl
      match xs, hxl, hy, hw with
      | [y], _, hy, hw =>
        obtain ⟨x, r, w, l, bk⟩ := ih k (by omega) ty f.type fuel _ y.1 y.2 h2 hy (fun m hm => hw m (by simp [DataW.weightsEach, hm]))
        rw [e1] at r l
        have : (cs.drop off).length = ty.size := by simp; omega
        have e2 : (cs.drop off).take (P.cellsOf f.type) = cs.drop off := by
          have hlt : ((cs.drop off).take (P.cellsOf f.type)).length = (cs.drop off).length := by rw [l, this]
          exact List.take_of_length_le (by rw [List.length_take] at hlt; omega)
        rw [e2] at r
        exact ⟨x, r, w, fun B hB => by simpa using bk B hB⟩
  | f :: g :: r, k, hk, ty, off, fuel, cs, xs, h, hm, hxl, hw, hl => by
    cases k with
    | zero => simp [isFs] at h
    | succ k =>
      cases ty with
      | pair a b =>
        simp only [isFs, Bool.and_eq_true] at h
        obtain ⟨⟨h1, h2⟩, h3⟩ := h
        have e1 : f.offset = off := Nat.eq_of_beq_eq_true h1
        match xs, hxl, hm, hw with
        | y :: ys, hxl, hm, hw =>
          obtain ⟨x, rx, wx, lx, bx⟩ := ih k (by omega) a f.type fuel _ y.1 y.2 h2 (hm 0 f rfl) (fun m hm => hw m (by simp [DataW.weightsEach, hm]))
          obtain ⟨z, rz, wz, bz⟩ := fields_open ih (g :: r) k (by omega) b (off + a.size) fuel cs ys h3 (fun i f' hf => hm (i + 1) f' hf) (by simpa using hxl) (fun m hm => hw m (by
            simp only [List.map_cons, DataW.weightsEach, List.mem_append] at hm ⊢
            exact .inr hm)) (by simp only [Ty.size] at hl; omega)
          have hc : P.cellsOf f.type = a.size := by
            cases k with
            | zero => simp [isT] at h2
            | succ k =>
              unfold isT at h2
              simp only [Bool.and_eq_true] at h2
              exact Nat.eq_of_beq_eq_true h2.1.1
          refine ⟨(x, z), ⟨(cs.drop off).take a.size, cs.drop (off + a.size), ?_, ?_, rz⟩, ⟨wx, wz⟩, fun B hB => by
            rw [List.map_cons, List.sum_cons]
            exact Nat.add_le_add (bx B hB) (bz B hB)⟩
          · rw [← List.drop_drop, List.take_append_drop]
          · rw [e1, hc] at rx
            exact rx
      | _ => simp [isFs] at h
theorem array_open {n : Nat} (ih : ∀ m, m ≤ n → Opens enc P W m) : ∀ (m : Nat) (k : Nat), k ≤ n + 1 → ∀ (ty : Ty) (i : Nat) (e : TypeId) (fuel : Nat) (cs : List Value) (xs : List (DataW H × List MemPlace)), isAr P k ty i (P.cellsOf e) e m = true →
    (∀ j, j < m → trd enc P W fuel e ((cs.drop ((i + j) * P.cellsOf e)).take (P.cellsOf e)) = xs[i + j]?) → xs.length = i + m → (∀ j, i ≤ j → ∀ y, xs[j]? = some y → ∀ m ∈ y.1.weights P e, m ≤ reachBytes) →
    cs.length = i * P.cellsOf e + ty.size → ∃ x : ty.den, RepT W (inW W) ty x (cs.drop (i * P.cellsOf e)) ∧ ty.Wf x ∧ ∀ B : DataW H → Nat, BulkF B → ty.bulk x ≤ ((xs.drop i).map (fun y => B y.1)).sum
  | 0, k, hk, ty, i, e, fuel, cs, xs, h, hm, hx, hw, hl => by
    cases k with
    | zero => simp [isAr] at h
    | succ k => simp [isAr] at h
  | 1, k, hk, ty, i, e, fuel, cs, xs, h, hm, hx, hw, hl => by
    cases k with
    | zero => simp [isAr] at h
    | succ k =>
      simp only [isAr] at h
      have hy := hm 0 (by omega)
      rw [Nat.add_zero, List.getElem?_eq_getElem (by omega)] at hy
      obtain ⟨x, r, w, l, bk⟩ := ih k (by omega) ty e fuel _ xs[i].1 xs[i].2 h hy (fun m hm => hw i (Nat.le_refl _) xs[i] (List.getElem?_eq_getElem _) m hm)
      have : (cs.drop (i * P.cellsOf e)).length = ty.size := by simp; omega
      have e2 : (cs.drop (i * P.cellsOf e)).take (P.cellsOf e) = cs.drop (i * P.cellsOf e) := by
        have hlt : ((cs.drop (i * P.cellsOf e)).take (P.cellsOf e)).length = (cs.drop (i * P.cellsOf e)).length := by rw [l, this]
        exact List.take_of_length_le (by rw [List.length_take] at hlt; omega)
      rw [e2] at r
      exact ⟨x, r, w, fun B hB => by
        rw [List.drop_eq_getElem_cons (by omega : i < xs.length), List.map_cons, List.sum_cons]
        exact Nat.le_trans (bk B hB) (Nat.le_add_right _ _)⟩
  | m + 2, k, hk, ty, i, e, fuel, cs, xs, h, hm, hx, hw, hl => by
    cases k with
    | zero => simp [isAr] at h
    | succ k =>
      cases ty with
      | pair a b =>
        simp only [isAr, Bool.and_eq_true] at h
        obtain ⟨h2, h3⟩ := h
        have hy := hm 0 (by omega)
        rw [Nat.add_zero, List.getElem?_eq_getElem (by omega)] at hy
        obtain ⟨x, rx, wx, lx, bx⟩ := ih k (by omega) a e fuel _ xs[i].1 xs[i].2 h2 hy (fun m hm => hw i (Nat.le_refl _) xs[i] (List.getElem?_eq_getElem _) m hm)
        have hc : P.cellsOf e = a.size := by
          cases k with
          | zero => simp [isT] at h2
          | succ k =>
            unfold isT at h2
            simp only [Bool.and_eq_true] at h2
            exact Nat.eq_of_beq_eq_true h2.1.1
        obtain ⟨z, rz, wz, bz⟩ := array_open ih (m + 1) k (by omega) b (i + 1) e fuel cs xs h3 (fun j hj => by rw [show i + 1 + j = i + (j + 1) by omega]; exact hm (j + 1) (by omega)) (by omega) (fun j hj => hw j (by omega)) (by
          rw [Nat.add_mul]
          simp only [Ty.size] at hl
          omega)
        refine ⟨(x, z), ⟨(cs.drop (i * P.cellsOf e)).take a.size, cs.drop ((i + 1) * P.cellsOf e), ?_, ?_, rz⟩, ⟨wx, wz⟩, fun B hB => by
          rw [List.drop_eq_getElem_cons (by omega : i < xs.length), List.map_cons, List.sum_cons]
          exact Nat.add_le_add (bx B hB) (bz B hB)⟩
        · rw [Nat.add_mul, Nat.one_mul, ← List.drop_drop, hc, List.take_append_drop]
        · rw [hc] at rx ⊢
          exact rx
      | _ => simp [isAr] at h
theorem opens : ∀ n, Opens enc P W n := by
  intro n
  induction n using Nat.strongRecOn with
  | ind n ih =>
    intro ty t fuel cs d ps h ht hw
    cases n with
    | zero => simp [isT] at h
    | succ n =>
      have ih' : ∀ m, m ≤ n → Opens enc P W m := fun m hm => ih m (by omega)
      unfold isT at h
      simp only [Bool.and_eq_true] at h
      obtain ⟨⟨hsz, hby⟩, h⟩ := h
      have hsz' := Nat.eq_of_beq_eq_true hsz
      split at h
      · rename_i k hu
        split at h
        · rename_i k'
          obtain ⟨x, rfl, hx, wx⟩ := DataW.trod_int hu ht
          have : k = k' := by simpa using h
          subst this
          exact ⟨x, rfl, wx, rfl, fun B hB => hB.one _⟩
        · cases h
      · rename_i hu
        split at h
        · obtain ⟨b, rfl, hx⟩ := DataW.trod_bool hu ht
          exact ⟨b, rfl, trivial, rfl, fun B hB => hB.one _⟩
        · cases h
      · rename_i hu
        split at h
        · obtain ⟨s, rfl, hx, hs⟩ := DataW.trod_string hu ht
          simp only [Prod.mk.injEq] at hx
          refine ⟨s, rfl, ?_, rfl, fun B hB => ?_⟩
          case refine_2 =>
            rw [hx.1]
            have := hB.str s.data.toList
            rw [Array.length_toList] at this
            exact this
          rw [hx.1] at hw
          have := hw s.data.toList.length (by simp [DataW.weights])
          show s.size ≤ reachBytes
          simpa using this
        · cases h
      · rename_i e hu
        split at h
        · rename_i te
          rcases Go.Deep.open_slice hu ht with ⟨rfl, hx⟩ | ⟨a, len, cap, m, q, D, Pl, rfl, hb, hl, hcm, hmm, hx, hel⟩
          · exact ⟨([] : List te.den), ⟨none, 0, rfl, Nat.le_refl _, fun h => absurd rfl h⟩, ⟨by simp, fun x hx => by cases hx⟩, rfl, fun B hB => hB.one _⟩
          · simp only [if_true] at hmm
            subst hmm
            simp only [Prod.mk.injEq] at hx
            rw [hx.1] at hw
            have hlen : (len + (m - len)) * P.bytesOf e ≤ reachBytes := hw _ (by simp [DataW.weights, hu])
            have hsz1 : P.cellsOf e = te.size := by
              cases n with
              | zero => simp [isT] at h
              | succ n =>
                unfold isT at h
                simp only [Bool.and_eq_true] at h
                exact Nat.eq_of_beq_eq_true h.1.1
            have hby1 : te.bytes ≤ P.bytesOf e := by
              cases n with
              | zero => simp [isT] at h
              | succ n =>
                unfold isT at h
                simp only [Bool.and_eq_true] at h
                exact Nat.le_of_ble_eq_true h.1.2
            obtain ⟨l, hll, hr⟩ := choose_list (α := te.den) (β := Nat) (n := len) (R := fun x i => (te.Wf x ∧ ∀ B : DataW H → Nat, BulkF B → te.bulk x ≤ B (D i)) ∧ ∃ us, RepT W (inW W) te x us ∧ At W (inW W) (a.add (i * te.size)) us) id (fun i hi => by
              obtain ⟨cs', hc, ht'⟩ := hel i (by omega)
              obtain ⟨x, r, w, _, bx⟩ := ih' n (Nat.le_refl _) te e q cs' (D i) (Pl i) h ht' (fun m' hm' => hw m' (by
                simp only [DataW.weights, hu, List.mem_cons, List.mem_append]
                refine .inr (.inl (weightsAll_mem (d := D i) ?_ hm'))
                exact List.mem_map.2 ⟨i, by simp [hi], rfl⟩))
              refine ⟨x, ⟨w, bx⟩, cs', r, ?_⟩
              rw [← hsz1]
              exact cells_at hc)
            subst hll
            refine ⟨l, ⟨some a, m, rfl, hl, fun _ => ⟨a, rfl, fun i x hx => (hr i x hx).2⟩⟩, ⟨?_, fun x hx => ?_⟩, rfl, fun B hB => ?_⟩
            · refine Nat.le_trans (Nat.mul_le_mul (by omega : l.length ≤ l.length + (m - l.length)) hby1) hlen
            · obtain ⟨i, hi, rfl⟩ := List.getElem_of_mem hx
              exact (hr i _ (List.getElem?_eq_getElem hi)).1.1
            · rw [hx.1]
              refine Nat.le_trans (Nat.succ_le_succ ?_) (hB.slice _ _)
              have key : ∀ (l : List te.den) (g : Nat → Nat), (∀ i x, l[i]? = some x → te.bulk x ≤ g i) → (@List.map te.den Nat te.bulk l).sum ≤ ((List.range l.length).map g).sum := by
                intro l
                induction l with
                | nil => intro g _; exact Nat.le_refl _
                | cons x l ih =>
                  intro g hg
                  rw [List.map_cons, List.sum_cons, List.length_cons, List.range_succ_eq_map, List.map_cons, List.sum_cons, List.map_map]
                  exact Nat.add_le_add (hg 0 x rfl) (ih _ fun i y hy => hg (i + 1) y (by simpa using hy))
              have := key l (fun i => B (D i)) (fun i x hx => (hr i x hx).1.2 B hB)
              rw [List.map_map]
              exact this
        · cases h
      · rename_i fs hu
        obtain ⟨xs, q, _, hx, hcl, hp⟩ := DataW.trod_struct hu ht
        simp only [Prod.mk.injEq] at hx
        rw [hx.1] at hw
        obtain ⟨x, r, w, bk⟩ := fields_open ih' fs.toList n (by omega) ty 0 q cs xs h (fun i f hf => hp.2 i f (by simpa using hf)) (by simpa using hp.1) (fun m hm => hw m (by simpa only [DataW.weights, hu] using hm)) (by rw [hcl, hsz']; omega)
        exact ⟨x, by simpa using r, w, by rw [hcl, hsz'], fun B hB => by
          rw [hx.1]
          refine Nat.le_trans (bk B hB) ?_
          have := hB.agg (xs.map (·.1))
          rw [List.map_map] at this
          exact this⟩
      · rename_i m e hu
        obtain ⟨xs, q, _, hx, hcl, hxl, hp⟩ := DataW.trod_array hu ht
        simp only [Prod.mk.injEq] at hx
        rw [hx.1] at hw
        obtain ⟨x, r, w, bk⟩ := array_open ih' m n (by omega) ty 0 e q cs xs h (fun j hj => by simpa using hp j hj) (by omega) (fun j _ y hy m hm => hw m (by
          simp only [DataW.weights, hu]
          exact weightsAll_mem (d := y.1) (List.mem_map.2 ⟨y, List.mem_of_getElem? hy, rfl⟩) hm)) (by rw [hcl, hsz']; omega)
        exact ⟨x, by simpa using r, w, by rw [hcl, hsz'], fun B hB => by
          rw [hx.1]
          refine Nat.le_trans (bk B hB) ?_
          have := hB.agg (xs.map (·.1))
          rw [List.map_map] at this
          exact this⟩
      · cases h
def cx (tf tw : TypeId) (W : World) : Cx := { w := W, fr := inW W, cv := fun _ => undef, hp := [], tf := tf, tw := tw }
theorem cx_ok {tf tw : TypeId} : HRep (cx tf tw W) where
  blk b hb := by simp [cx] at hb
  apart b b' B hb := by simp [cx] at hb
  frin a ha := ha
theorem arg_int {tf tw : TypeId} {n : Nat} {k : IntKind} {t : TypeId} {v : Value} {d : DataW H} {ps : List MemPlace} {r : Reach} {b0 : Nat} (hu : P.underlying t = some (.int k)) (hval : Value.okWide P W r b0 t v)
    (ht : DataW.Trod enc P W 0 (fun _ => true) true t v d ps) : ∃ x : Int, Rep (cx tf tw W) (.v (.int k x)) v ∧ (Lit.int k x).wf = true := by
  obtain ⟨x, rfl, _, _, w⟩ := open_int hu hval ht
  exact ⟨x, by simp only [Rep], w⟩
theorem arg_bool {tf tw : TypeId} {t : TypeId} {v : Value} {r : Reach} {b0 : Nat} (hu : P.underlying t = some .bool) (hval : Value.okWide P W r b0 t v) :
    ∃ x : Bool, Rep (cx tf tw W) (.v (.bool x)) v := by
  obtain ⟨x, rfl⟩ := WideShapes.okWide_bool hu hval
  exact ⟨x, by simp only [Rep]⟩
theorem arg_str {tf tw : TypeId} {t : TypeId} {v : Value} {d : DataW H} {ps : List MemPlace} {r : Reach} {b0 : Nat} (hu : P.underlying t = some .string) (hval : Value.okWide P W r b0 t v)
    (ht : DataW.Trod enc P W 0 (fun _ => true) true t v d ps) (hw : ∀ m ∈ d.weights P t, m ≤ reachBytes) : ∃ x : ByteArray, Rep (cx tf tw W) (.v (.string x)) v ∧ x.size ≤ reachBytes ∧ ∀ B : DataW H → Nat, BulkF B → Ty.bulk .str x ≤ B d := by
  obtain ⟨x, rfl, rfl, _, _⟩ := ChangeMaps.open_string hu hval ht
  refine ⟨x, by simp only [Rep], ?_, fun B hB => ?_⟩
  · have := hw x.data.toList.length (by simp [DataW.weights])
    simpa using this
  · have := hB.str x.data.toList
    rw [Array.length_toList] at this
    exact this
theorem arg_list {tf tw : TypeId} {n : Nat} {te : Ty} {t e : TypeId} {v : Value} {d : DataW H} {ps : List MemPlace} {r : Reach} {b0 : Nat} (hu : P.underlying t = some (.slice e)) (hval : Value.okWide P W r b0 t v)
    (h : isT P n (.list te) t = true) (ht : DataW.Trod enc P W 0 (fun _ => true) true t v d ps) (hw : ∀ m ∈ d.weights P t, m ≤ reachBytes) :
    ∃ x : List te.den, Rep (cx tf tw W) (.fz te x) v ∧ Ty.Wf (.list te) x ∧ ∀ B : DataW H → Nat, BulkF B → Ty.bulk (.list te) x ≤ B d := by
  obtain ⟨a, len, cap, rfl⟩ := WideShapes.okWide_slice hu hval
  obtain ⟨fuel, hf⟩ := ht
  obtain ⟨x, r, w, _, bk⟩ := opens n (.list te) t fuel _ d ps h hf hw
  exact ⟨x, by simp only [Rep]; exact r, w, bk⟩
theorem arg_agg {tf tw : TypeId} {n : Nat} {ty : Ty} {t : TypeId} {v : Value} {d : DataW H} {ps : List MemPlace} {r : Reach} {b0 : Nat} (hu : (∃ fs, P.underlying t = some (.struct fs)) ∨ ∃ m e, P.underlying t = some (.array m e)) (hval : Value.okWide P W r b0 t v)
    (h : isT P n ty t = true) (ht : DataW.Trod enc P W 0 (fun _ => true) true t v d ps) (hw : ∀ m ∈ d.weights P t, m ≤ reachBytes) :
    ∃ x : ty.den, Rep (cx tf tw W) (.agg (expand ty x)) v ∧ ty.Wf x ∧ ∀ B : DataW H → Nat, BulkF B → ty.bulk x ≤ B d := by
  have hv : ∃ cs, v = .agg cs := by
    rcases hu with ⟨fs, hu⟩ | ⟨m, e, hu⟩
    · simp only [Value.okWide, hu] at hval
      obtain ⟨cs, rfl, _⟩ := hval
      exact ⟨cs, rfl⟩
    · simp only [Value.okWide, hu] at hval
      obtain ⟨cs, rfl, _⟩ := hval
      exact ⟨cs, rfl⟩
  obtain ⟨cs, rfl⟩ := hv
  obtain ⟨fuel, hf⟩ := ht
  obtain ⟨x, r, w, _, bk⟩ := opens n ty t fuel _ d ps h hf hw
  refine ⟨x, ?_, w, bk⟩
  simp only [Rep]
  refine ⟨cs.toList, by simp, ?_⟩
  exact RepT.expand (c := cx tf tw W) r
def isTrue : D → List Blk → Prop := fun d _ => match d with
  | .v (.bool b) => b = true
  | _ => False
def never : D → List Blk → Prop := fun _ _ => False
theorem law_ofG {tf tw : TypeId} {f : FuncId} {en : Entry} (ok : EntOk P tf tw f en) {us : List Value} {ds : List D} (hG : ∀ g v, hdlOf P = some (g, v) → W.cell? ⟨g, 0, none⟩ = some v) (hr : RepL (cx tf tw W) ds us) (h : en ds [] isTrue never) :
    Calls P f us.toArray W fun e W' => e = .returned (.bool true) ∧ Below W.heap.size W W' := by
  have hT : TOk P tf tw (cx tf tw W) := by
    refine ⟨⟨rfl, rfl⟩, fun g v hg => ?_⟩
    have hc := hG g v hg
    intro j u hj
    match j, hj with
    | 0, hj =>
      cases hj
      rw [add_zero]
      exact ⟨World.block_lt_of_cell? W _ hc, hc⟩
  refine (ok.sound (cx tf tw W) ds us isTrue never hT hr cx_ok h).mono fun e W' hp => ?_
  cases e with
  | returned v =>
    obtain ⟨d, c', rfl, hk, hrep, _, I⟩ := hp
    have hb : ∃ b, d = .v (.bool b) ∧ b = true := by
      unfold isTrue at hk
      split at hk
      · exact ⟨_, rfl, hk⟩
      · exact hk.elim
    obtain ⟨b, rfl, rfl⟩ := hb
    simp only [Rep] at hrep
    refine ⟨by rw [hrep], I.os, I.tape, I.output, I.size, fun k hk => I.keep k hk ?_⟩
    rintro ⟨b, hb, _⟩
    simp [cx] at hb
  | panicked ch =>
    obtain ⟨d, p, c', _, _, hk, _⟩ := hp
    exact hk.elim
  | outgrown => exact hp.elim
theorem law_of {tf tw : TypeId} {f : FuncId} {en : Entry} (ok : EntOk P tf tw f en) {us : List Value} {ds : List D} (hr : RepL (cx tf tw W) ds us) (h : en ds [] isTrue never) (hn : hdlOf P = none := by kernel_rfl) :
    Calls P f us.toArray W fun e W' => e = .returned (.bool true) ∧ Below W.heap.size W W' := law_ofG ok (fun g v hg => by rw [hn] at hg; cases hg) hr h
theorem trodAll_below (hl : laidOutB P = true) {W' : World} (hb : Below W.heap.size W W') : ∀ {ts : List TypeId} {vs : List Value} {ds : List (DataW H)} {ps : List MemPlace}, ts.all (fun t => P.readableRec t && Nat.blt t P.types.size) = true →
    DataW.TrodAll enc P W 0 (fun _ => true) true ts vs ds ps → (∀ x ∈ ps, x.block < W.heap.size) → DataW.TrodAll enc P W' 0 (fun b => decide (b < W.heap.size)) true ts vs ds ps
  | [], [], [], ps, _, h, _ => h
  | t :: ts, v :: vs, d :: ds, ps, hr, ⟨p, q, h1, h2, e⟩, hlt => by
    simp only [List.all_cons, Bool.and_eq_true] at hr
    subst e
    exact ⟨p, q, Below.trod hl hr.1.1 (Nat.le_of_ble_eq_true hr.1.2) h1 hb (fun x hx => hlt x (List.mem_append_left _ hx)), trodAll_below hl hb hr.2 h2 (fun x hx => hlt x (List.mem_append_right _ hx)), rfl⟩
  | [], _ :: _, _, _, _, h, _ => h.elim
  | [], [], _ :: _, _, _, h, _ => h.elim
  | _ :: _, [], _, _, _, h, _ => h.elim
  | _ :: _, _ :: _, [], _, _, h, _ => h.elim
end
end Go.Aw

namespace Go.Aw
open Go.Shelf Go.RowKit Go.Proofs
variable {P : Program} {ρ : Go.Shelf.Ren}
structure BldX (P : Program) (ρ : Go.Shelf.Ren) (T : TypeId) : Prop where
  sizeBuilder : (P.info? (ρ.t 72)).map (·.size) = some 2
  lies : liesAt P P.depth T (2 / P.cellsOf T) 0 (ρ.t 72) 1 = true
set_option maxHeartbeats 1000000 in
set_option maxRecDepth 100000 in
theorem bld_fresh {T : TypeId} (L : Lays.n240 P ρ) (X : BldX P ρ T) (b : Nat) (w : World) (h0 : w.cell? ⟨b, 0, none⟩ = some (.pointer none)) (hsh : w.shape? b = some (T, 2)) (hfz : w.frozen? ⟨b, 0, none⟩ = false) :
    Calls P (ρ.f 240) #[.pointer (some ⟨b, 0, none⟩)] w fun e w' => e = .returned (.tuple #[]) ∧ w' = w.setCell ⟨b, 0, none⟩ (.pointer (some ⟨b, 0, none⟩)) := by
  obtain ⟨j, hj, hjs⟩ := Option.map_eq_some_iff.1 X.sizeBuilder
  have mixed := L.mixed
  have t72 := L.t72; have a72 := L.a72; have z72 := L.z72; have v72 := L.v72; have u72 := run_underlying L.t72
  have t70 := L.t70; have a70 := L.a70; have z70 := L.z70; have v70 := L.v70; have u70 := run_underlying L.t70
  have t9 := L.t9; have a9 := L.a9; have z9 := L.z9; have v9 := L.v9; have u9 := run_underlying L.t9
  have t4 := L.t4; have a4 := L.a4; have z4 := L.z4; have v4 := L.v4; have u4 := run_underlying L.t4
  have t164 := L.t164; have a164 := L.a164; have z164 := L.z164; have v164 := L.v164; have u164 := run_underlying L.t164
  go_enter L.f240, Body.n240_ntmps ρ
  go_wp2
  rw [Lib.run_to_unsafe w ⟨b, 0, none⟩ L.t70 L.t164 hj (by rw [hjs]; decide) hsh (Nat.zero_lt_succ 1)]
  simp only [Result.andThen]
  rw [Oper.upon_value]
  go_wp2
  rw [run_callFunc_extern L.f276 (by kernel_rfl) (by kernel_rfl) (by kernel_rfl) (e := Extern.AbiNoEscape.same) (by kernel_rfl)]
  rw [Lib.run_noEscape]
  simp only [Result.andThen]
  rw [Oper.upon_value]
  go_wp2
  rw [Lib.run_from_unsafe w ⟨b, 0, none⟩ L.t164 L.t70 hj hsh X.lies]
  simp only [Result.andThen]
  rw [Oper.upon_value]
  go_wp2
  go_end0
  exact ⟨rfl, rfl⟩
structure Chg (w w' : World) (b : Nat) (row : Option Nat) : Prop where
  os : w'.os = w.os
  tape : w'.tape = w.tape
  output : w'.output = w.output
  size : w.heap.size ≤ w'.heap.size
  block : ∀ k, k < w.heap.size → k ≠ b → some k ≠ row → w'.heap[k]? = w.heap[k]?
theorem Chg.refl (w : World) (b : Nat) (r : Option Nat) : Chg w w b r := ⟨rfl, rfl, rfl, Nat.le_refl _, fun _ _ _ _ => rfl⟩
theorem setCell_heap {w : World} {b : Nat} {cs : Array Value} {T : TypeId} (h : w.heap[b]? = some (.cells cs T (0, 0))) (j : Nat) (u : Value) (k : Nat) :
    (w.setCell ⟨b, j, none⟩ u).heap[k]? = if k = b then some (.cells (cs.setIfInBounds j u) T (0, 0)) else w.heap[k]? := by
  unfold World.setCell
  simp only [Array.getElem?_modify]
  by_cases e : k = b
  · subst e
    rw [if_pos rfl, if_pos rfl, h]
    rfl
  · rw [if_neg (Ne.symm e), if_neg e]
theorem Chg.setCell {w w' : World} {b : Nat} {r : Option Nat} (h : Chg w w' b r) (j : Nat) (u : Value) : Chg w (w'.setCell ⟨b, j, none⟩ u) b r where
  os := h.os
  tape := h.tape
  output := h.output
  size := by
    show w.heap.size ≤ (w'.heap.modify _ _).size
    rw [Array.size_modify]; exact h.size
  block k hk hb hr := by
    refine Eq.trans ?_ (h.block k hk hb hr)
    show (w'.heap.modify _ _)[k]? = _
    rw [Array.getElem?_modify, if_neg (Ne.symm hb)]
def BldAt (T e : TypeId) (b : Nat) (p v : Value) (xs : List Value) (w : World) : Prop :=
  w.heap[b]? = some (.cells #[p, v] T (0, 0)) ∧ w.ownsRow 0 e 1 v xs.length xs ∧ v.ownBlock ≠ some b ∧ (p = .pointer none ∨ p = .pointer (some ⟨b, 0, none⟩))
theorem bld_check {T : TypeId} (L : Lays.n240 P ρ) (X : BldX P ρ T) (X0 : Builder.X72 P ρ) {e : TypeId} (b : Nat) (p v : Value) (xs : List Value) (w : World) (h : BldAt T e b p v xs w) :
    Calls P (ρ.f 240) #[.pointer (some ⟨b, 0, none⟩)] w fun ex w' => ex = .returned (.tuple #[]) ∧ BldAt T e b (.pointer (some ⟨b, 0, none⟩)) v xs w' ∧ Chg w w' b v.ownBlock ∧ w'.heap.size = w.heap.size := by
  obtain ⟨h1, h2, h3, rfl | rfl⟩ := h
  · refine (bld_fresh L X b w (by rw [Lib.cell_of_heap h1]; rfl) (by simp [World.shape?, h1]) (Lib.frozen_of_heap h1 0)).mono ?_
    rintro ex w' ⟨rfl, rfl⟩
    refine ⟨rfl, ⟨by rw [setCell_heap h1, if_pos rfl]; rfl, ?_, h3, .inr rfl⟩, (Chg.refl w b _).setCell 0 _, Array.size_modify ..⟩
    refine ⟨h2.1, h2.2.imp id ?_⟩
    rintro ⟨g, cap, cur, k1, k2, k3, k4⟩
    refine ⟨g, cap, cur, k1, k2, ?_, k4⟩
    rw [setCell_heap h1, if_neg (fun e => h3 (by rw [k1, e]; rfl))]
    exact k3
  · refine (Any.Builder_copyCheck_used L X0 b w (by rw [Lib.cell_of_heap h1]; rfl)).mono ?_
    rintro ex w' ⟨rfl, rfl⟩
    exact ⟨rfl, ⟨h1, h2, h3, .inr rfl⟩, Chg.refl _ _ _, rfl⟩
theorem Chg.trans {w w1 w2 : World} {b : Nat} {r r' : Option Nat} (h : Chg w w1 b r) (k : Chg w1 w2 b r') (hr : r' = r ∨ ∃ j, r' = some j ∧ w.heap.size ≤ j) : Chg w w2 b r where
  os := k.os.trans h.os
  tape := k.tape.trans h.tape
  output := k.output.trans h.output
  size := Nat.le_trans h.size k.size
  block i hi hb hr' := (k.block i (Nat.lt_of_lt_of_le hi h.size) hb (fun e => by
    rcases hr with rfl | ⟨j, rfl, hj⟩
    · exact hr' e
    · cases e; omega)).trans (h.block i hi hb hr')
theorem Chg.grown {w w1 w2 : World} {b : Nat} {r : Option Nat} (h : Chg w w1 b r) (k : w1.grownBy w2 r) : Chg w w2 b r where
  os := k.os.trans h.os
  tape := k.tape.trans h.tape
  output := k.output.trans h.output
  size := Nat.le_trans h.size k.size
  block i hi hb hr := (k.block i (Nat.lt_of_lt_of_le hi h.size) hr).trans (h.block i hi hb hr)
theorem Chg.alloc {w w1 : World} {b : Nat} {r : Option Nat} (h : Chg w w1 b r) (o : Obj) : Chg w (w1.alloc o) b r where
  os := h.os
  tape := h.tape
  output := h.output
  size := Nat.le_trans h.size (by simp)
  block i hi hb hr := (Below.heap_alloc _ _ _ (Nat.lt_of_lt_of_le hi h.size)).trans (h.block i hi hb hr)
def Fresh (w : World) (v v' : Value) : Prop := v'.ownBlock = v.ownBlock ∨ ∃ k, v'.ownBlock = some k ∧ w.heap.size ≤ k
theorem wpList_append_f {ops : Array Oper} {rest : List Oper} {o : Oper} {a : Act} {w : World} {Q : Exit → Act → World → Prop} (hgd : o.guard = none) (s x : Operand) (t : TypeId)
    (ho : o.op = .call { callee := .builtin .append, args := #[s, x], argTypes := #[t, t] })
    (e : TypeId) (i : TypeInfo) (z : Value) (ht : P.underlying t = some (.slice e)) (hi : P.info? e = some i) (hz : i.zero = some z)
    (hsize : i.size = 1) (hby : i.bytes = 1) (hzs : z.cells.size = 1)
    (v : Value) (n : Nat) (xs : List Value) (hs : a.eval s = v) (hown : w.ownsRow 0 e 1 v n xs)
    (ad : Addr) (m c : Nat) (news : List Value) (hx : a.eval x = .slice (some ad) m c) (hl : news.length = m * 1) (hnews : ∀ j u, news[j]? = some u → w.cell? (ad.add j) = some u) (h1 : ∀ u ∈ news, u.oneCell' = true)
    (h63 : n + m ≤ maxLen) (hbytes : (n + m) * 1 ≤ 140737488355328)
    (h : ∀ v' w', w'.ownsRow 0 e 1 v' (n + m) (xs ++ news) → w.grownBy w' v.ownBlock → Fresh w v v' → wpList P ops Q rest (a.put o.dst v') w') : wpList P ops Q (o :: rest) a w := by
  refine wpList_plain hgd fun K hK => ?_
  obtain ⟨v', w', hr, h2, h3, h4⟩ := run_append_own (P := P) w 0 t o.type e i z 1 1 ht hi hz hsize hby hzs (by decide) v n xs hown ad m c news hl hnews h1 h63 hbytes (Nat.zero_le _)
  have hf : Fresh w v v' := by
    rcases hown.2 with ⟨rfl, rfl⟩ | ⟨g, cap, cur, rfl, hbg, hg, hnc, hcm, hcs, htake⟩
    · obtain ⟨v2, w2, hr2, k2, _, _⟩ := run_append_own (P := P) w w.heap.size t o.type e i z 1 1 ht hi hz hsize hby hzs (by decide) (.slice none 0 0) 0 xs ⟨hown.1, .inl ⟨rfl, rfl⟩⟩ ad m c news hl hnews h1 h63 hbytes (Nat.le_refl _)
      rw [hr] at hr2
      cases hr2
      cases hv : v'.ownBlock with
      | none => exact .inl hv
      | some k => exact .inr ⟨k, hv, (k2.lt k hv).1⟩
    · by_cases hroom : n + m ≤ cap
      · have hr2 := run_append_room (P := P) w t o.type e i ht hi g n cap cur hg ad m c news (by rw [hsize]; exact hl) hnews h1 hroom (by rw [hsize, hl, hcs]; omega)
        rw [hr] at hr2
        cases hr2
        exact .inl rfl
      · have hr2 := run_append_grow (P := P) w t o.type e i z ht hi hz ⟨g, 0, none⟩ n cap xs (by rw [hsize]; exact hown.1) (hown.cells (g := g) rfl) ad m c news (by rw [hsize]; exact hl) hnews (by omega) (by unfold maxLen at h63; omega) (by rw [hby]; exact growslice_fits (by omega) hbytes)
        rw [hr] at hr2
        cases hr2
        exact .inr ⟨_, rfl, Nat.le_refl _⟩
  unfold Oper.wp execOp
  simp only [ho, resolve, invoke, builtin, Sem.run_bind, Sem.run_pure, Result.andThen_ok, List.map_toArray, List.map_cons, List.map_nil, hs, hx, hr]
  exact hK _ _ (h v' w' h2 h3 hf)
theorem wpList_append_string_f {ops : Array Oper} {rest : List Oper} {o : Oper} {a : Act} {w : World} {Q : Exit → Act → World → Prop} (hgd : o.guard = none) (sl x : Operand) (t u : TypeId)
    (ho : o.op = .call { callee := .builtin .append, args := #[sl, x], argTypes := #[t, u] })
    (e : TypeId) (i : TypeInfo) (ht : P.underlying t = some (.slice e)) (hu : P.underlying u = some .string) (hi : P.info? e = some i) (hz : i.zero = some (.int .u8 0))
    (hsize : i.size = 1) (hby : i.bytes = 1)
    (v : Value) (n : Nat) (xs : List Value) (hs : a.eval sl = v) (hown : w.ownsRow 0 e 1 v n xs) (s : ByteArray) (hx : a.eval x = .string s)
    (h63 : n + s.size ≤ maxLen) (hbytes : n + s.size ≤ 140737488355328)
    (h : ∀ v' w', w'.ownsRow 0 e 1 v' (n + s.size) (xs ++ Lib.strCells s) → w.grownBy w' v.ownBlock → Fresh w v v' → wpList P ops Q rest (a.put o.dst v') w') : wpList P ops Q (o :: rest) a w := by
  refine wpList_plain hgd fun K hK => ?_
  obtain ⟨v', w', hr, h2, h3, h4⟩ := Lib.run_append_own_string (P := P) w 0 t u o.type e i ht hu hi hz hsize hby v n xs hown s h63 hbytes (Nat.zero_le _)
  have hf : Fresh w v v' := by
    rcases hown.2 with ⟨rfl, rfl⟩ | ⟨g, cap, cur, rfl, hbg, hg, hnc, hcm, hcs, htake⟩
    · obtain ⟨v2, w2, hr2, k2, _, _⟩ := Lib.run_append_own_string (P := P) w w.heap.size t u o.type e i ht hu hi hz hsize hby (.slice none 0 0) 0 xs ⟨hown.1, .inl ⟨rfl, rfl⟩⟩ s h63 hbytes (Nat.le_refl _)
      rw [hr] at hr2
      cases hr2
      cases hv : v'.ownBlock with
      | none => exact .inl hv
      | some k => exact .inr ⟨k, hv, (k2.lt k hv).1⟩
    · by_cases hroom : n + s.size ≤ cap
      · have hr2 := Lib.run_append_room_string (P := P) w t u o.type e i ht hu hi hsize g n cap cur hg s hroom (by rw [hcs]; omega)
        rw [hr] at hr2
        cases hr2
        exact .inl rfl
      · have hr2 := Lib.run_append_grow_string (P := P) w t u o.type e i (.int .u8 0) ht hu hi hz ⟨g, 0, none⟩ n cap xs (by rw [hsize]; exact hown.1) (hown.cells (g := g) rfl) s (by omega) (by unfold maxLen at h63; omega) (by rw [hby]; exact growslice_fits (by omega) (by omega))
        rw [hr] at hr2
        cases hr2
        exact .inr ⟨_, rfl, Nat.le_refl _⟩
  unfold Oper.wp execOp
  simp only [ho, resolve, invoke, builtin, Sem.run_bind, Sem.run_pure, Result.andThen_ok, List.map_toArray, List.map_cons, List.map_nil, hs, hx, hr]
  exact hK _ _ (h v' w' h2 h3 hf)
theorem bld_put {T e : TypeId} {b : Nat} {p v v' : Value} {xs : List Value} {w1 w2 : World} (hb : w2.heap[b]? = some (.cells #[p, v] T (0, 0))) (hp : p = .pointer none ∨ p = .pointer (some ⟨b, 0, none⟩)) (hown : w2.ownsRow 0 e 1 v' xs.length xs)
    (hne : v.ownBlock ≠ some b) (hlt : b < w1.heap.size) (hf : Fresh w1 v v') : BldAt T e b p v' xs (w2.setCell ⟨b, 1, none⟩ v') := by
  have hne' : v'.ownBlock ≠ some b := by
    rcases hf with h | ⟨k, h, hk⟩
    · rw [h]; exact hne
    · rw [h]; intro e; cases e; omega
  refine ⟨by rw [setCell_heap hb, if_pos rfl]; rfl, ⟨hown.1, hown.2.imp id ?_⟩, hne', hp⟩
  rintro ⟨g, cap, cur, k1, k2, k3, k4⟩
  refine ⟨g, cap, cur, k1, k2, ?_, k4⟩
  rw [setCell_heap hb, if_neg (fun e => hne' (by rw [k1, e]; rfl))]
  exact k3
set_option maxHeartbeats 2000000 in
set_option maxRecDepth 100000 in
theorem bld_writeByte {T : TypeId} (L : Lays.n167 P ρ) (X : Builder.Extra P ρ) (XT : BldX P ρ T) (b : Nat) (p v : Value) (xs : List Value) (c : Int) (w : World) (h : BldAt T (ρ.t 5) b p v xs w) (hlen : xs.length + 1 ≤ 140737488355328) :
    Calls P (ρ.f 167) #[.pointer (some ⟨b, 0, none⟩), .int .u8 c] w fun ex w' => ex = .returned .nilIface ∧ ∃ v', BldAt T (ρ.t 5) b (.pointer (some ⟨b, 0, none⟩)) v' (xs ++ [.int .u8 c]) w' ∧ Chg w w' b v.ownBlock ∧ Fresh w v v' := by
  obtain ⟨i0, hi, hz0, hz1, hz2⟩ := info_parts X.infoByte
  have mixed := L.mixed
  have t72 := L.t72; have a72 := L.a72; have z72 := L.z72; have v72 := L.v72; have u72 := run_underlying L.t72
  have t70 := L.t70; have a70 := L.a70; have z70 := L.z70; have v70 := L.v70; have u70 := run_underlying L.t70
  have t5 := L.t5; have a5 := L.a5; have z5 := L.z5; have v5 := L.v5; have u5 := run_underlying L.t5
  have t37 := L.t37; have a37 := L.a37; have z37 := L.z37; have v37 := L.v37; have u37 := run_underlying L.t37
  have t9 := L.t9; have a9 := L.a9; have z9 := L.z9; have v9 := L.v9; have u9 := run_underlying L.t9
  have t4 := L.t4; have a4 := L.a4; have z4 := L.z4; have v4 := L.v4; have u4 := run_underlying L.t4
  have t164 := L.t164; have a164 := L.a164; have z164 := L.z164; have v164 := L.v164; have u164 := run_underlying L.t164
  have e240 : ∀ args w, (callFunc (ρ.f 240) args).run P w = .ok (.enter (ρ.f 240) args) w := enters_of L.f240 (by kernel_rfl) rfl
  go_enter L.f167, Body.n167_ntmps ρ
  go_wp2_with (go_at_fn (ρ.f 240); refine (bld_check (T := T) { L with } XT X.toX72 b p v xs _ h).mono ?_)
  rintro e w1 ⟨rfl, ⟨hbk, hown, hne, -⟩, hb1, hs0⟩
  have hs1 : Hid (w1.heap.size = w.heap.size) := hs0
  clear hs0
  have c0 : w1.cell? ⟨b, 0, none⟩ = some (.pointer (some ⟨b, 0, none⟩)) := by rw [Lib.cell_of_heap hbk]; rfl
  have c1 : w1.cell? ⟨b, 1, none⟩ = some v := by rw [Lib.cell_of_heap hbk]; rfl
  go_wp2_with (at_builtin; refine wpList_append_f rfl _ _ (ρ.t 37) rfl (ρ.t 5) i0 (.int .u8 0) L.t37 hi hz0 hz1 hz2 rfl _ _ _ rfl (hown.alloc _) ⟨w1.heap.size, 0, none⟩ 1 1 [.int .u8 c] rfl rfl ?c1 ?c2 ?c3 ?c4 ?_)
  case c1 =>
    intro j u hj
    match j, hj with
    | 0, hj => simp at hj; subst hj; simp [Addr.add]
  case c2 => intro u hu; simp at hu; subst hu; rfl
  case c3 => unfold maxLen; omega
  case c4 => omega
  intro v' w2 hown' hgrow hf
  have hlt : b < w1.heap.size := by
    rcases Nat.lt_or_ge b w1.heap.size with h' | h'
    · exact h'
    · simp [Array.getElem?_eq_none h'] at hbk
  have hb2 : w2.heap[b]? = some (.cells #[.pointer (some ⟨b, 0, none⟩), v] T (0, 0)) := by
    rw [hgrow.block b (by simp; omega) (fun e => hne e.symm), Lib.alloc_old w1 _ b hlt]
    exact hbk
  have d0 : w2.cell? ⟨b, 0, none⟩ = some (.pointer (some ⟨b, 0, none⟩)) := by rw [Lib.cell_of_heap hb2]; rfl
  have d1 : w2.cell? ⟨b, 1, none⟩ = some v := by rw [Lib.cell_of_heap hb2]; rfl
  have f1 : w2.frozen? ⟨b, 1, none⟩ = false := Lib.frozen_of_heap hb2 1
  have hf1 : Fresh w1 v v' := by
    rcases hf with hf | ⟨k, hf, hk⟩
    · exact .inl hf
    · exact .inr ⟨k, hf, by simp at hk; omega⟩
  have hf0 : Fresh w v v' := by rw [Fresh, ← hs1.out]; exact hf1
  obtain ⟨g, cap, rfl⟩ : ∃ g cap, v' = .slice (some ⟨g, 0, none⟩) (xs.length + 1) cap := by
    rcases hown'.2 with ⟨_, h0⟩ | ⟨g, cap, cur, hv, _⟩
    · omega
    · exact ⟨g, cap, hv⟩
  go_wp2
  go_ret
  refine ⟨rfl, _, bld_put (w1 := w1) hb2 (.inr rfl) (by simpa using hown') hne hlt hf1, ?_, hf0⟩
  exact ((hb1.alloc _).grown hgrow).setCell 1 _
set_option maxHeartbeats 2000000 in
set_option maxRecDepth 100000 in
theorem bld_writeString {T : TypeId} (L : Lays.n166 P ρ) (X : Builder.Extra P ρ) (XT : BldX P ρ T) (b : Nat) (p v : Value) (xs : List Value) (s : ByteArray) (w : World) (h : BldAt T (ρ.t 5) b p v xs w) (hlen : xs.length + s.size ≤ 140737488355328) :
    Calls P (ρ.f 166) #[.pointer (some ⟨b, 0, none⟩), .string s] w fun ex w' => ex = .returned (.tuple #[.int .i64 s.size, .nilIface]) ∧ ∃ v', BldAt T (ρ.t 5) b (.pointer (some ⟨b, 0, none⟩)) v' (xs ++ Lib.strCells s) w' ∧ Chg w w' b v.ownBlock ∧ Fresh w v v' := by
  obtain ⟨i0, hi, hz0, hz1, hz2⟩ := info_parts X.infoByte
  have mixed := L.mixed
  have t72 := L.t72; have a72 := L.a72; have z72 := L.z72; have v72 := L.v72; have u72 := run_underlying L.t72
  have t70 := L.t70; have a70 := L.a70; have z70 := L.z70; have v70 := L.v70; have u70 := run_underlying L.t70
  have t37 := L.t37; have a37 := L.a37; have z37 := L.z37; have v37 := L.v37; have u37 := run_underlying L.t37
  have t3 := L.t3; have a3 := L.a3; have z3 := L.z3; have v3 := L.v3; have u3 := run_underlying L.t3
  have t9 := L.t9; have a9 := L.a9; have z9 := L.z9; have v9 := L.v9; have u9 := run_underlying L.t9
  have t4 := L.t4; have a4 := L.a4; have z4 := L.z4; have v4 := L.v4; have u4 := run_underlying L.t4
  have t164 := L.t164; have a164 := L.a164; have z164 := L.z164; have v164 := L.v164; have u164 := run_underlying L.t164
  have t5 := X.t5; have a5 := X.a5; have z5 := X.z5; have v5 := X.v5; have u5 := run_underlying X.t5
  have e240 : ∀ args w, (callFunc (ρ.f 240) args).run P w = .ok (.enter (ρ.f 240) args) w := enters_of L.f240 (by kernel_rfl) rfl
  go_enter L.f166, Body.n166_ntmps ρ
  go_wp2_with (go_at_fn (ρ.f 240); refine (bld_check (T := T) { L with } XT X.toX72 b p v xs _ h).mono ?_)
  rintro e w1 ⟨rfl, ⟨hbk, hown, hne, -⟩, hb1, hs0⟩
  have hs1 : Hid (w1.heap.size = w.heap.size) := hs0
  clear hs0
  have c0 : w1.cell? ⟨b, 0, none⟩ = some (.pointer (some ⟨b, 0, none⟩)) := by rw [Lib.cell_of_heap hbk]; rfl
  have c1 : w1.cell? ⟨b, 1, none⟩ = some v := by rw [Lib.cell_of_heap hbk]; rfl
  go_wp2_with (at_builtin; refine wpList_append_string_f rfl _ _ (ρ.t 37) (ρ.t 9) rfl (ρ.t 5) i0 L.t37 L.t9 hi hz0 hz1 hz2 _ _ _ rfl hown s rfl ?c3 ?c4 ?_)
  case c3 => unfold maxLen; omega
  case c4 => omega
  intro v' w2 hown' hgrow hf1
  have hlt : b < w1.heap.size := by
    rcases Nat.lt_or_ge b w1.heap.size with h' | h'
    · exact h'
    · simp [Array.getElem?_eq_none h'] at hbk
  have hb2 : w2.heap[b]? = some (.cells #[.pointer (some ⟨b, 0, none⟩), v] T (0, 0)) := by
    rw [hgrow.block b hlt (fun e => hne e.symm)]
    exact hbk
  have d0 : w2.cell? ⟨b, 0, none⟩ = some (.pointer (some ⟨b, 0, none⟩)) := by rw [Lib.cell_of_heap hb2]; rfl
  have d1 : w2.cell? ⟨b, 1, none⟩ = some v := by rw [Lib.cell_of_heap hb2]; rfl
  have f1 : w2.frozen? ⟨b, 1, none⟩ = false := Lib.frozen_of_heap hb2 1
  have hf0 : Fresh w v v' := by rw [Fresh, ← hs1.out]; exact hf1
  obtain ⟨ao, n', cap, rfl⟩ : ∃ ao n' cap, v' = .slice ao n' cap := by
    rcases hown'.2 with ⟨hv, _⟩ | ⟨g, cap, cur, hv, _⟩
    · exact ⟨_, _, _, hv⟩
    · exact ⟨_, _, _, hv⟩
  go_wp2
  go_ret2
  refine ⟨rfl, _, bld_put (w1 := w1) hb2 (.inr rfl) (by simpa [Lib.strCells_length] using hown') hne hlt hf1, ?_, hf0⟩
  exact (hb1.grown hgrow).setCell 1 _
theorem Chg.drew {w w1 : World} {b : Nat} {r : Option Nat} (h : Chg w w1 b r) : Chg w w1.drew b r := ⟨h.os, h.tape, h.output, h.size, h.block⟩
theorem Chg.freeze {w w1 : World} {b : Nat} {r : Option Nat} (h : Chg w w1 b r) {g : Nat} (hg : r = some g) (n : Nat) : Chg w (w1.freeze ⟨g, 0, none⟩ n) b r := by
  unfold World.freeze
  split
  · exact h
  · refine ⟨h.os, h.tape, h.output, Nat.le_trans h.size (by simp), fun k hk hb hr => Eq.trans ?_ (h.block k hk hb hr)⟩
    simp only [Array.getElem?_modify]
    rw [if_neg (fun e => hr (by rw [hg, ← e]))]
set_option maxHeartbeats 2000000 in
set_option maxRecDepth 100000 in
theorem bld_string_some {T : TypeId} (L : Lays.n169 P ρ) (X : Builder.Extra P ρ) (b : Nat) (p v : Value) (l : List UInt8) (w : World) (h : BldAt T (ρ.t 5) b p v (Lib.byteCells l) w) (h0 : l ≠ []) :
    Calls P (ρ.f 169) #[.pointer (some ⟨b, 0, none⟩)] w fun ex w' => ex = .returned (.string ⟨l.toArray⟩) ∧ Chg w w' b v.ownBlock := by
  obtain ⟨hbk, hown, hne, -⟩ := h
  have hl0 : l.length ≠ 0 := by simpa using h0
  rw [Lib.byteCells_length] at hown
  obtain ⟨g, cap, cur, rfl, hbg, hg, hnc, hcm, hcs, htake⟩ : ∃ g cap cur, v = .slice (some ⟨g, 0, none⟩) l.length cap ∧ 0 ≤ g ∧ w.heap[g]? = some (.cells cur (ρ.t 5) (0, 0)) ∧ l.length ≤ cap ∧ cap ≤ maxLen ∧ cur.size = cap * 1 ∧ cur.toList.take (l.length * 1) = Lib.byteCells l := by
    rcases hown.2 with ⟨_, hz⟩ | ⟨g, cap, cur, hv, r⟩
    · exact absurd hz hl0
    · exact ⟨g, cap, cur, hv, r⟩
  have c1 : w.drew.cell? ⟨b, 1, none⟩ = some (.slice (some ⟨g, 0, none⟩) l.length cap) := by
    have : w.drew.heap[b]? = some (.cells #[p, .slice (some ⟨g, 0, none⟩) l.length cap] T (0, 0)) := hbk
    rw [Lib.cell_of_heap this]; rfl
  have hSD : (Builtin.unsafeSliceData_ #[(ρ.t 37)] (ρ.t 127) #[.slice (some ⟨g, 0, none⟩) l.length cap]).run P w.drew = .ok (.pointer (some ⟨g, 0, none⟩)) w.drew :=
    Lib.run_unsafeSliceData_row _ _ _ _ _ _ (by omega)
  have hUS : (Builtin.unsafeString_ #[(ρ.t 127), (ρ.t 3)] (ρ.t 9) #[.pointer (some ⟨g, 0, none⟩), .int .i64 l.length]).run P w.drew = .ok (.string ⟨l.toArray⟩) (w.drew.freeze ⟨g, 0, none⟩ l.length) := by
    refine Lib.run_unsafeString_row w.drew (ρ.t 127) (ρ.t 3) (ρ.t 9) (ρ.t 5) L.t127 X.cellsByte g cur.size (by have hg' : w.drew.heap[g]? = some (.cells cur (ρ.t 5) (0, 0)) := hg; simp [World.shape?, hg']) l h0 (by omega) (by unfold maxLen at hcm; omega) ?_
    intro j x hx
    exact hown.cells (g := g) rfl j (.int .u8 x.toNat) (by simp [Lib.byteCells, hx])
  have mixed := L.mixed
  have t72 := L.t72; have a72 := L.a72; have z72 := L.z72; have v72 := L.v72; have u72 := run_underlying L.t72
  have t70 := L.t70; have a70 := L.a70; have z70 := L.z70; have v70 := L.v70; have u70 := run_underlying L.t70
  have t37 := L.t37; have a37 := L.a37; have z37 := L.z37; have v37 := L.v37; have u37 := run_underlying L.t37
  have t127 := L.t127; have a127 := L.a127; have z127 := L.z127; have v127 := L.v127; have u127 := run_underlying L.t127
  have t3 := L.t3; have a3 := L.a3; have z3 := L.z3; have v3 := L.v3; have u3 := run_underlying L.t3
  have t9 := L.t9; have a9 := L.a9; have z9 := L.z9; have v9 := L.v9; have u9 := run_underlying L.t9
  have t5 := X.t5; have a5 := X.a5; have z5 := X.z5; have v5 := X.v5; have u5 := run_underlying X.t5
  go_enter L.f169, Body.n169_ntmps ρ
  go_wp2
  go_region_o
  all_goals (go_wp2; go_ret; exact ⟨rfl, (Chg.refl w b _).drew.freeze rfl _⟩)
set_option maxHeartbeats 2000000 in
set_option maxRecDepth 100000 in
theorem bld_string_nil {T : TypeId} (L : Lays.n169 P ρ) (X : Builder.Extra P ρ) (b : Nat) (p : Value) (r : Option Nat) (w : World) (hbk : w.heap[b]? = some (.cells #[p, .slice none 0 0] T (0, 0))) :
    Calls P (ρ.f 169) #[.pointer (some ⟨b, 0, none⟩)] w fun ex w' => ex = .returned (.string ⟨#[]⟩) ∧ Chg w w' b r := by
  have hUS := Any.unsafeString_none L X
  have c1 : w.drew.cell? ⟨b, 1, none⟩ = some (.slice none 0 0) := by
    have : w.drew.heap[b]? = some (.cells #[p, .slice none 0 0] T (0, 0)) := hbk
    rw [Lib.cell_of_heap this]; rfl
  have hSD : (Builtin.unsafeSliceData_ #[(ρ.t 37)] (ρ.t 127) #[.slice none 0 0]).run P w.drew = .ok (.pointer none) w.drew := rfl
  have mixed := L.mixed
  have t72 := L.t72; have a72 := L.a72; have z72 := L.z72; have v72 := L.v72; have u72 := run_underlying L.t72
  have t70 := L.t70; have a70 := L.a70; have z70 := L.z70; have v70 := L.v70; have u70 := run_underlying L.t70
  have t37 := L.t37; have a37 := L.a37; have z37 := L.z37; have v37 := L.v37; have u37 := run_underlying L.t37
  have t127 := L.t127; have a127 := L.a127; have z127 := L.z127; have v127 := L.v127; have u127 := run_underlying L.t127
  have t3 := L.t3; have a3 := L.a3; have z3 := L.z3; have v3 := L.v3; have u3 := run_underlying L.t3
  have t9 := L.t9; have a9 := L.a9; have z9 := L.z9; have v9 := L.v9; have u9 := run_underlying L.t9
  have t5 := X.t5; have a5 := X.a5; have z5 := X.z5; have v5 := X.v5; have u5 := run_underlying X.t5
  go_enter L.f169, Body.n169_ntmps ρ
  go_wp2
  go_region_o
  all_goals (go_wp2; go_ret; exact ⟨rfl, (Chg.refl w b _).drew⟩)
set_option maxHeartbeats 2000000 in
set_option maxRecDepth 100000 in
theorem bld_string_noroom {T : TypeId} (L : Lays.n169 P ρ) (X : Builder.Extra P ρ) (b g : Nat) (p : Value) (r : Option Nat) (cur : Array Value) (w : World) (hbk : w.heap[b]? = some (.cells #[p, .slice (some ⟨g, 0, none⟩) 0 0] T (0, 0))) (hg : w.heap[g]? = some (.cells cur (ρ.t 5) (0, 0))) :
    Calls P (ρ.f 169) #[.pointer (some ⟨b, 0, none⟩)] w fun ex w' => ex = .returned (.string ⟨#[]⟩) ∧ Chg w w' b r := by
  have hUS := Any.unsafeString_none L X
  have hlt : b < w.heap.size := by
    rcases Nat.lt_or_ge b w.heap.size with h' | h'
    · exact h'
    · simp [Array.getElem?_eq_none h'] at hbk
  have c1 : w.drew.cell? ⟨b, 1, none⟩ = some (.slice (some ⟨g, 0, none⟩) 0 0) := by
    have : w.drew.heap[b]? = some (.cells #[p, .slice (some ⟨g, 0, none⟩) 0 0] T (0, 0)) := hbk
    rw [Lib.cell_of_heap this]; rfl
  have hSD : (Builtin.unsafeSliceData_ #[(ρ.t 37)] (ρ.t 127) #[.slice (some ⟨g, 0, none⟩) 0 0]).run P w.drew = .ok (.pointer (some ⟨w.drew.heap.size, 0, none⟩)) (w.drew.alloc (.view ⟨g, 0, none⟩ (ρ.t 5))) :=
    Lib.run_unsafeSliceData_zero w.drew _ _ (ρ.t 5) L.t127 ⟨g, 0, none⟩ 0 ((ρ.t 5), cur.size) (by have hg' : w.drew.heap[g]? = some (.cells cur (ρ.t 5) (0, 0)) := hg; simp [World.shape?, hg'])
  have c2 : (w.drew.alloc (.view ⟨g, 0, none⟩ (ρ.t 5))).cell? ⟨b, 1, none⟩ = some (.slice (some ⟨g, 0, none⟩) 0 0) := by
    have : (w.drew.alloc (.view ⟨g, 0, none⟩ (ρ.t 5))).heap[b]? = _ := (Lib.alloc_old w.drew _ b hlt).trans hbk
    rw [Lib.cell_of_heap this]; rfl
  have c3 : (w.alloc (.view ⟨g, 0, none⟩ (ρ.t 5))).drew.cell? ⟨b, 1, none⟩ = some (.slice (some ⟨g, 0, none⟩) 0 0) := c2
  have c0 : w.cell? ⟨b, 1, none⟩ = some (.slice (some ⟨g, 0, none⟩) 0 0) := c1
  have mixed := L.mixed
  have t72 := L.t72; have a72 := L.a72; have z72 := L.z72; have v72 := L.v72; have u72 := run_underlying L.t72
  have t70 := L.t70; have a70 := L.a70; have z70 := L.z70; have v70 := L.v70; have u70 := run_underlying L.t70
  have t37 := L.t37; have a37 := L.a37; have z37 := L.z37; have v37 := L.v37; have u37 := run_underlying L.t37
  have t127 := L.t127; have a127 := L.a127; have z127 := L.z127; have v127 := L.v127; have u127 := run_underlying L.t127
  have t3 := L.t3; have a3 := L.a3; have z3 := L.z3; have v3 := L.v3; have u3 := run_underlying L.t3
  have t9 := L.t9; have a9 := L.a9; have z9 := L.z9; have v9 := L.v9; have u9 := run_underlying L.t9
  have t5 := X.t5; have a5 := X.a5; have z5 := X.z5; have v5 := X.v5; have u5 := run_underlying X.t5
  go_enter L.f169, Body.n169_ntmps ρ
  go_wp2
  go_region_o
  all_goals (go_wp2; go_ret; exact ⟨rfl, (Chg.refl w b _).drew.alloc _⟩)
set_option maxHeartbeats 2000000 in
set_option maxRecDepth 100000 in
theorem bld_string_room {T : TypeId} (L : Lays.n169 P ρ) (X : Builder.Extra P ρ) (b g cap : Nat) (p : Value) (r : Option Nat) (w : World) (hc0 : cap ≠ 0) (hbk : w.heap[b]? = some (.cells #[p, .slice (some ⟨g, 0, none⟩) 0 cap] T (0, 0))) :
    Calls P (ρ.f 169) #[.pointer (some ⟨b, 0, none⟩)] w fun ex w' => ex = .returned (.string ⟨#[]⟩) ∧ Chg w w' b r := by
  have hUS := Any.unsafeString_none L X
  have c1 : w.drew.cell? ⟨b, 1, none⟩ = some (.slice (some ⟨g, 0, none⟩) 0 cap) := by
    have : w.drew.heap[b]? = some (.cells #[p, .slice (some ⟨g, 0, none⟩) 0 cap] T (0, 0)) := hbk
    rw [Lib.cell_of_heap this]; rfl
  have hSD : (Builtin.unsafeSliceData_ #[(ρ.t 37)] (ρ.t 127) #[.slice (some ⟨g, 0, none⟩) 0 cap]).run P w.drew = .ok (.pointer (some ⟨g, 0, none⟩)) w.drew :=
    Lib.run_unsafeSliceData_row _ _ _ _ _ _ hc0
  clear hc0
  have mixed := L.mixed
  have t72 := L.t72; have a72 := L.a72; have z72 := L.z72; have v72 := L.v72; have u72 := run_underlying L.t72
  have t70 := L.t70; have a70 := L.a70; have z70 := L.z70; have v70 := L.v70; have u70 := run_underlying L.t70
  have t37 := L.t37; have a37 := L.a37; have z37 := L.z37; have v37 := L.v37; have u37 := run_underlying L.t37
  have t127 := L.t127; have a127 := L.a127; have z127 := L.z127; have v127 := L.v127; have u127 := run_underlying L.t127
  have t3 := L.t3; have a3 := L.a3; have z3 := L.z3; have v3 := L.v3; have u3 := run_underlying L.t3
  have t9 := L.t9; have a9 := L.a9; have z9 := L.z9; have v9 := L.v9; have u9 := run_underlying L.t9
  have t5 := X.t5; have a5 := X.a5; have z5 := X.z5; have v5 := X.v5; have u5 := run_underlying X.t5
  go_enter L.f169, Body.n169_ntmps ρ
  go_wp2
  go_region_o
  all_goals (go_wp2; go_ret; exact ⟨rfl, (Chg.refl w b _).drew⟩)
theorem bld_string {T : TypeId} (L : Lays.n169 P ρ) (X : Builder.Extra P ρ) (b : Nat) (p v : Value) (l : List UInt8) (w : World) (h : BldAt T (ρ.t 5) b p v (Lib.byteCells l) w) :
    Calls P (ρ.f 169) #[.pointer (some ⟨b, 0, none⟩)] w fun ex w' => ex = .returned (.string ⟨l.toArray⟩) ∧ Chg w w' b v.ownBlock := by
  cases l with
  | cons x r => exact bld_string_some L X b p v (x :: r) w h (by simp)
  | nil =>
    obtain ⟨hbk, hown, hne, -⟩ := h
    rcases hown.2 with ⟨rfl, _⟩ | ⟨g, cap, cur, rfl, hbg, hg, _, _, _, _⟩
    · exact bld_string_nil L X b p _ w hbk
    · by_cases hc0 : cap = 0
      · subst hc0
        exact bld_string_noroom L X b g p _ cur w hbk hg
      · exact bld_string_room L X b g cap p _ w hc0 hbk
set_option maxHeartbeats 1000000 in
set_option maxRecDepth 100000 in
theorem bld_len {T : TypeId} (L : Lays.n170 P ρ) (b : Nat) (p v : Value) (xs : List Value) (w : World) (h : BldAt T (ρ.t 5) b p v xs w) :
    Calls P (ρ.f 170) #[.pointer (some ⟨b, 0, none⟩)] w fun ex w' => ex = .returned (.int .i64 xs.length) ∧ w' = w := by
  obtain ⟨hbk, hown, hne, -⟩ := h
  obtain ⟨ao, cap, rfl⟩ : ∃ ao cap, v = .slice ao xs.length cap := by
    rcases hown.2 with ⟨hv, h0⟩ | ⟨g, cap, cur, hv, _⟩
    · exact ⟨none, 0, by rw [hv, h0]⟩
    · exact ⟨_, _, hv⟩
  have c1 : w.cell? ⟨b, 1, none⟩ = some (.slice ao xs.length cap) := by rw [Lib.cell_of_heap hbk]; rfl
  have mixed := L.mixed
  have t72 := L.t72; have a72 := L.a72; have z72 := L.z72; have v72 := L.v72; have u72 := run_underlying L.t72
  have t70 := L.t70; have a70 := L.a70; have z70 := L.z70; have v70 := L.v70; have u70 := run_underlying L.t70
  have t37 := L.t37; have a37 := L.a37; have z37 := L.z37; have v37 := L.v37; have u37 := run_underlying L.t37
  have t3 := L.t3; have a3 := L.a3; have z3 := L.z3; have v3 := L.v3; have u3 := run_underlying L.t3
  go_enter L.f170, Body.n170_ntmps ρ
  go_wp2
  go_ret
  exact ⟨rfl, rfl⟩
theorem repA_ints {w : World} {fr : Addr → Prop} {k : IntKind} : ∀ {l : List Int} {us : List Value}, RepA w fr (.int k) l us ↔ us = l.map (Value.int k)
  | [], us => Iff.rfl
  | x :: l, us => by
    constructor
    · rintro ⟨u, v, rfl, h1, h2⟩
      cases h1
      rw [repA_ints.1 h2]
      rfl
    · rintro rfl
      exact ⟨[_], _, rfl, rfl, repA_ints.2 rfl⟩
theorem strCells_of (s : ByteArray) : Lib.strCells s = (ofBytes s).map (Value.int .u8) := by
  unfold Lib.strCells ofBytes
  rw [List.map_map]
  rfl
theorem ofBytes_len (s : ByteArray) : (ofBytes s).length = s.size := by
  unfold ofBytes
  rw [List.length_map, Array.length_toList]
  rfl
theorem BRep.bldAt {c : Cx} {b : Nat} {ty e : TypeId} {s : ByteArray} (h : BRep c b (.bld ty e s)) : ∃ B p v, adr (c.cv b) = some ⟨B, 0, none⟩ ∧ BldAt ty e B p v (Lib.strCells s) c.w ∧
    (∀ i, i = B ∨ v.ownBlock = some i → cb (c.cv b) i) ∧ (∀ a, a.block = B → ¬ c.fr a) ∧ (∀ a R, v.ownBlock = some R → a.block = R → ¬ c.fr a) := by
  obtain ⟨B, r, p, A, cap, h1, h2, h3, h4, h5⟩ := h
  refine ⟨B, p, .slice A s.size cap, by rw [h1]; rfl, ⟨h2, ?_, ?_, h4.imp (·.1) id⟩, ?_, h3, ?_⟩
  · refine ⟨by rw [Nat.mul_one], ?_⟩
    rw [Lib.strCells_length]
    rcases h5 with ⟨_, rfl, rfl, h0⟩ | ⟨R, us, vs, _, _, rfl, k3, k4, k5, k6, _⟩
    · exact .inl ⟨by rw [h0], h0⟩
    · refine .inr ⟨R, cap, (us ++ vs).toArray, rfl, Nat.zero_le _, k3, k4, k5.2, by simp; omega, ?_⟩
      have := repA_ints.1 k6
      have hl : us.length = s.size := by rw [this, List.length_map, ofBytes_len]
      rw [Nat.mul_one, List.take_append_of_le_length (by omega), List.take_of_length_le (by omega), strCells_of, this]
  · rcases h5 with ⟨_, rfl, rfl, h0⟩ | ⟨R, us, vs, _, hR, rfl, _⟩
    · intro e; cases e
    · intro e; cases e; exact hR rfl
  · rw [h1]
    rintro i (rfl | hi)
    · exact .inl rfl
    · rcases h5 with ⟨_, rfl, rfl, h0⟩ | ⟨R, us, vs, hr, hR, rfl, _⟩
      · cases hi
      · cases hi; exact .inr hr
  · intro a R hv ha
    rcases h5 with ⟨_, rfl, rfl, h0⟩ | ⟨R', us, vs, hr, hR, rfl, _, _, _, _, k7⟩
    · cases hv
    · cases hv; exact k7 a ha
def bldCx (c : Cx) (b : Nat) (ty e : TypeId) (s' : ByteArray) (v' : Value) (w' : World) (B : Nat) : Cx :=
  { c with
    w := w'
    hp := c.hp.set b (.bld ty e s')
    cv := fun j => if j = b then .iface (match v'.ownBlock with | some R => R + 1 | none => 0) (.pointer (some ⟨B, 0, none⟩)) else c.cv j }
theorem bld_new {c : Cx} {b B : Nat} {ty e : TypeId} {s' : ByteArray} {v v' : Value} {w' : World} (hfr : ∀ a, a.block = B → ¬ c.fr a) (hfr' : ∀ a R, v'.ownBlock = some R → a.block = R → ¬ c.fr a)
    (h : BldAt ty e B (.pointer (some ⟨B, 0, none⟩)) v' (Lib.strCells s') w') : BRep (bldCx c b ty e s' v' w' B) b (.bld ty e s') := by
  obtain ⟨h1, h2, h3, -⟩ := h
  have hl := Lib.strCells_length s'
  rcases h2.2 with ⟨rfl, h0⟩ | ⟨g, cap, cur, rfl, -, hg, hn, hm, hc, ht⟩
  · refine ⟨B, 0, _, none, 0, by simp [bldCx, Value.ownBlock], ?_, hfr, .inr rfl, .inl ⟨rfl, rfl, rfl, by omega⟩⟩
    rw [show s'.size = 0 by omega]
    exact h1
  · refine ⟨B, g + 1, _, some ⟨g, 0, none⟩, cap, by simp [bldCx, Value.ownBlock], ?_, hfr, .inr rfl, .inr ⟨g, cur.toList.take s'.size, cur.toList.drop s'.size, rfl, ?_, rfl, ?_, ?_, ⟨?_, hm⟩, ?_, fun a ha => hfr' a g rfl ha⟩⟩
    · rw [← hl]; exact h1
    · intro e; exact h3 (by rw [e]; rfl)
    · rw [List.take_append_drop, Array.toArray_toList]; exact hg
    · omega
    · rw [← List.length_append, List.take_append_drop, Array.length_toList]; omega
    · rw [hl, Nat.mul_one] at ht
      rw [ht, strCells_of]
      exact repA_ints.2 rfl
theorem bld_upd {c : Cx} (H : HRep c) {b B : Nat} {ty e : TypeId} {s s' : ByteArray} {v v' : Value} {w' : World} (hb : b < c.hp.length) (hx : getB c.hp b = .bld ty e s)
    (ha : adr (c.cv b) = some ⟨B, 0, none⟩) (hcb : ∀ i, i = B ∨ v.ownBlock = some i → cb (c.cv b) i) (hfr : ∀ a, a.block = B → ¬ c.fr a) (hfr' : ∀ a R, v.ownBlock = some R → a.block = R → ¬ c.fr a)
    (h : BldAt ty e B (.pointer (some ⟨B, 0, none⟩)) v' (Lib.strCells s') w') (hC : Chg c.w w' B v.ownBlock) (hF : Fresh c.w v v') :
    HRep (bldCx c b ty e s' v' w' B) ∧ Stp c (bldCx c b ty e s' v' w' B) := by
  have hlive : live (getB c.hp b) = true := by rw [hx]; rfl
  have hset : ∀ j, getB (c.hp.set b (.bld ty e s')) j = if j = b then .bld ty e s' else getB c.hp j := fun j => getB_set _ hb
  have hext : Ext c.w c.fr w' c.fr := by
    intro a hf
    refine ⟨hf, World.cell?_of_block (hC.block a.block (H.frin a hf) (fun e => hfr a e hf) (fun e => hfr' a _ e.symm rfl hf))⟩
  have hfrn : ∀ a R, v'.ownBlock = some R → a.block = R → ¬ c.fr a := by
    intro a R hv he hf
    rcases hF with h1 | ⟨k, h1, hk⟩
    · exact hfr' a R (h1 ▸ hv) he hf
    · rw [hv] at h1
      cases h1
      have := H.frin a hf
      omega
  have hle : HpLe c (bldCx c b ty e s' v' w' B) := by
    refine ⟨by simp [bldCx], fun j hj => ?_, hext, rfl, rfl⟩
    show BLe (c.cv j) (if j = b then _ else c.cv j) (getB c.hp j) (getB (c.hp.set b _) j)
    rw [hset]
    by_cases e : j = b
    · subst e
      rw [if_pos rfl, if_pos rfl, hx]
      exact ⟨rfl, rfl, by rw [ha]; rfl⟩
    · rw [if_neg e, if_neg e]; exact BLe.refl _ _
  have U : Upd c (bldCx c b ty e s' v' w' B) b := by
    refine ⟨by simp [bldCx, hb], fun j hj hne => by simpa [bldCx] using hj, fun j hj hne => ⟨by rw [bldCx, hset, if_neg hne], if_neg hne⟩, fun i hi hn => ?_, hC.size, hC.os, hC.tape, hC.output, fun a hf => .inl hf, fun a hf => Nat.lt_of_lt_of_le (H.frin a hf) hC.size, ?_, ?_⟩
    · have := hn hb hlive
      exact hC.block i hi (fun e => this (hcb i (.inl e))) (fun e => this (hcb i (.inr e.symm)))
    · show BRep _ b (getB (c.hp.set b _) b)
      rw [hset, if_pos rfl]
      exact bld_new (v := v) hfr hfrn h
    · intro i _ hi
      replace hi : cb (if b = b then _ else c.cv b) i := hi
      rw [if_pos rfl] at hi
      rcases hi with hi | hi
      · exact .inr ⟨hb, hlive, hcb i (.inl hi.symm)⟩
      · rcases hF with h1 | ⟨k, h1, hk⟩
        · cases hv : v'.ownBlock with
          | none => rw [hv] at hi; exact absurd hi (Nat.succ_ne_zero i).symm
          | some R =>
            rw [hv] at hi
            have : R = i := Nat.succ.inj hi
            subst this
            exact .inr ⟨hb, hlive, hcb R (.inr (by rw [← h1, hv]))⟩
        · rw [h1] at hi
          have : k = i := Nat.succ.inj hi
          subst this
          exact .inl hk
  exact ⟨U.hrep H hle, U.stp hle⟩
end Go.Aw

namespace Go.Aw
open Go.Shelf Go.RowKit Go.Proofs
variable {P : Program} {ρ : Go.Shelf.Ren} {tf tw : TypeId}
theorem memN_mem {x : Nat} : ∀ {l : List Nat}, memN x l = true → x ∈ l
  | [], h => by cases h
  | y :: r, h => by
    unfold memN at h
    split at h
    · rename_i e
      rw [Nat.eq_of_beq_eq_true e]; exact List.mem_cons_self ..
    · exact List.mem_cons_of_mem _ (memN_mem h)
def aBldT (l : List TypeId) (e : TypeId) (b : Blk) (f : TypeId → ByteArray → Prop) : Prop := match b with
  | .bld ty e' s => match memN ty l && Nat.beq e' e with
    | true => f ty s
    | false => False
  | _ => False
theorem aBldT_elim {l : List TypeId} {e : TypeId} {b : Blk} {f : TypeId → ByteArray → Prop} (h : aBldT l e b f) : ∃ ty s, b = .bld ty e s ∧ ty ∈ l ∧ memN ty l = true ∧ f ty s := by
  unfold aBldT at h
  split at h
  · split at h
    · rename_i g
      rw [Bool.and_eq_true] at g
      rw [Nat.eq_of_beq_eq_true g.2]
      exact ⟨_, _, rfl, memN_mem g.1, g.1, h⟩
    · exact h.elim
  · exact h.elim
theorem aBldT_mk {l : List TypeId} {e ty : TypeId} {s : ByteArray} {f : TypeId → ByteArray → Prop} (h : memN ty l = true) (hf : f ty s) : aBldT l e (.bld ty e s) f := by
  unfold aBldT
  simp only [h, Nat.beq_refl, Bool.and_self]
  exact hf
theorem getB_one (x : Blk) : getB [x] 0 = x := rfl
theorem bld_post {c : Cx} {k kp : D → List Blk → Prop} {ty e : TypeId} {s s' : ByteArray} (H : HRep c) (hh : c.hp = [.bld ty e s]) {B : Nat} {v v' r : Value} {d : D} {w' : World}
    (ha : adr (c.cv 0) = some ⟨B, 0, none⟩) (hcb : ∀ i, i = B ∨ v.ownBlock = some i → cb (c.cv 0) i) (hfr : ∀ a, a.block = B → ¬ c.fr a) (hfr' : ∀ a R, v.ownBlock = some R → a.block = R → ¬ c.fr a)
    (h : BldAt ty e B (.pointer (some ⟨B, 0, none⟩)) v' (Lib.strCells s') w') (hC : Chg c.w w' B v.ownBlock) (hF : Fresh c.w v v') (hd : ∀ c', Rep c' d r) (hk : k d [.bld ty e s']) : Post c k kp (.returned r) w' := by
  have hl : 0 < c.hp.length := by rw [hh]; exact Nat.zero_lt_one
  have hg : getB c.hp 0 = .bld ty e s := by rw [hh]; rfl
  obtain ⟨H', S'⟩ := bld_upd H hl hg ha hcb hfr hfr' h hC hF
  refine ⟨d, bldCx c 0 ty e s' v' w' B, rfl, ?_, hd _, H', (Inv.start c _ (nBoxes_le _)).step S'⟩
  show k d (c.hp.set 0 _)
  rw [hh]
  exact hk
theorem bld_dead {c : Cx} (H : HRep c) {b B : Nat} {ty e : TypeId} {s : ByteArray} {row : Option Nat} {w' : World} (hb : b < c.hp.length) (hx : getB c.hp b = .bld ty e s)
    (hcb : ∀ i, i = B ∨ row = some i → cb (c.cv b) i) (hfr : ∀ a, a.block = B → ¬ c.fr a) (hfr' : ∀ a R, row = some R → a.block = R → ¬ c.fr a) (hC : Chg c.w w' B row) :
    HRep { c with w := w', hp := c.hp.set b .dead } ∧ Stp c { c with w := w', hp := c.hp.set b .dead } := by
  have hlive : live (getB c.hp b) = true := by rw [hx]; rfl
  have hset : ∀ j, getB (c.hp.set b .dead) j = if j = b then .dead else getB c.hp j := fun j => getB_set _ hb
  have hext : Ext c.w c.fr w' c.fr := by
    intro a hf
    exact ⟨hf, World.cell?_of_block (hC.block a.block (H.frin a hf) (fun e => hfr a e hf) (fun e => hfr' a _ e.symm rfl hf))⟩
  have hle : HpLe c { c with w := w', hp := c.hp.set b .dead } := by
    refine ⟨by simp, fun j hj => ?_, hext, rfl, rfl⟩
    show BLe (c.cv j) (c.cv j) (getB c.hp j) (getB (c.hp.set b .dead) j)
    rw [hset]
    by_cases e : j = b
    · subst e
      rw [if_pos rfl]
      exact BLe.dead _ _
    · rw [if_neg e]; exact BLe.refl _ _
  have U : Upd c { c with w := w', hp := c.hp.set b .dead } b := by
    refine ⟨by simpa using hb, fun j hj hne => by simpa using hj, fun j hj hne => ⟨by rw [hset, if_neg hne], rfl⟩, fun i hi hn => ?_, hC.size, hC.os, hC.tape, hC.output, fun a hf => .inl hf, fun a hf => Nat.lt_of_lt_of_le (H.frin a hf) hC.size, ?_, ?_⟩
    · have := hn hb hlive
      exact hC.block i hi (fun e => this (hcb i (.inl e))) (fun e => this (hcb i (.inr e.symm)))
    · show BRep _ b (getB (c.hp.set b .dead) b)
      rw [hset, if_pos rfl]
      trivial
    · intro i hl _
      replace hl : live (getB (c.hp.set b .dead) b) = true := hl
      rw [hset, if_pos rfl] at hl
      cases hl
  exact ⟨U.hrep H hle, U.stp hle⟩
def wb0 (x : Int) (s : ByteArray) (k : ByteArray → Prop) : Prop := (0 ≤ x ∧ x < 256) ∧ s.size + 1 ≤ 140737488355328 ∧ k (s.push (UInt8.ofNat x.toNat))
theorem wb_ex : ∃ g : Int → ByteArray → (ByteArray → Prop) → Prop, g = wb0 := ⟨_, rfl⟩
noncomputable def wb : Int → ByteArray → (ByteArray → Prop) → Prop := Classical.choose wb_ex
theorem wb_def : wb = wb0 := Classical.choose_spec wb_ex
noncomputable def wbEnt (l : List TypeId) (e : TypeId) : Entry := fun args blks k _ => match args, blks with
  | [d0, d1], [e0] => aPtr 0 0 d0 (aInt .u8 d1 fun x => aBldT l e e0 fun ty b => wb x b fun z => k (.v .nilIface) [.bld ty e z])
  | _, _ => False
def ws0 (t s : ByteArray) (k : Int → ByteArray → Prop) : Prop := s.size + t.size ≤ 140737488355328 ∧ k t.size (s ++ t)
theorem ws_ex : ∃ g : ByteArray → ByteArray → (Int → ByteArray → Prop) → Prop, g = ws0 := ⟨_, rfl⟩
noncomputable def ws : ByteArray → ByteArray → (Int → ByteArray → Prop) → Prop := Classical.choose ws_ex
theorem ws_def : ws = ws0 := Classical.choose_spec ws_ex
noncomputable def wsEnt (l : List TypeId) (e : TypeId) : Entry := fun args blks k _ => match args, blks with
  | [d0, d1], [e0] => aPtr 0 0 d0 (aStr d1 fun x => aBldT l e e0 fun ty b => ws x b fun y z => k (.tup [.v (.int .i64 y), .v .nilIface]) [.bld ty e z])
  | _, _ => False
def bs0 (s : ByteArray) (k : ByteArray → Prop) : Prop := k s
theorem bs_ex : ∃ g : ByteArray → (ByteArray → Prop) → Prop, g = bs0 := ⟨_, rfl⟩
noncomputable def bs : ByteArray → (ByteArray → Prop) → Prop := Classical.choose bs_ex
theorem bs_def : bs = bs0 := Classical.choose_spec bs_ex
noncomputable def bsEnt (l : List TypeId) (e : TypeId) : Entry := fun args blks k _ => match args, blks with
  | [d0], [e0] => aPtr 0 0 d0 (aBldT l e e0 fun ty b => bs b fun y => k (.v (.string y)) [.dead])
  | _, _ => False
theorem strCells_push (s : ByteArray) (x : Int) (h0 : 0 ≤ x) (h1 : x < 256) : Lib.strCells (s.push (UInt8.ofNat x.toNat)) = Lib.strCells s ++ [.int .u8 x] := by
  unfold Lib.strCells
  rw [show (s.push (UInt8.ofNat x.toNat)).data = s.data.push (UInt8.ofNat x.toNat) from rfl, Array.toList_push, List.map_append]
  simp only [List.map_cons, List.map_nil, UInt8.toNat_ofNat']
  rw [show ((x.toNat % 2 ^ 8 : Nat) : Int) = x by omega]
theorem strCells_add (s t : ByteArray) : Lib.strCells (s ++ t) = Lib.strCells s ++ Lib.strCells t := by
  unfold Lib.strCells
  rw [ByteArray.data_append, Array.toList_append, List.map_append]
theorem rep_ptr0 {c : Cx} {u : Value} {B : Nat} (ha : adr (c.cv 0) = some ⟨B, 0, none⟩) (h : Rep c (.ptr 0 0) u) : u = .pointer (some ⟨B, 0, none⟩) := by
  simp only [Rep] at h
  obtain ⟨_, _, a, h1, rfl⟩ := h
  rw [ha] at h1
  cases h1
  rfl
theorem funcOk_of {f : FuncId} {fn : Func} (h : P.funcs[f]? = some fn) (h1 : (fn.name == "runtime.NumGoroutine") = false) (h2 : fn.body.isNone = false) : FuncOk P f := ⟨fn, h, h1, h2⟩
theorem wb_ok (L : Lays.n167 P ρ) (X : Builder.Extra P ρ) {l : List TypeId} (hl : ∀ T ∈ l, BldX P ρ T) {f : FuncId} {e : TypeId} (hf : ρ.f 167 = f) (he : ρ.t 5 = e) : EntOk P tf tw f (wbEnt l e) := by
  subst hf; subst he
  have elim : ∀ {args blks k kp}, wbEnt l (ρ.t 5) args blks k kp → ∃ x ty s, args = [.ptr 0 0, .v (.int .u8 x)] ∧ blks = [.bld ty (ρ.t 5) s] ∧ ty ∈ l ∧ memN ty l = true ∧ wb x s fun z => k (.v .nilIface) [.bld ty (ρ.t 5) z] := by
    intro args blks k kp h
    unfold wbEnt at h
    split at h
    · obtain ⟨rfl, h⟩ := aPtr_elim h
      obtain ⟨x, rfl, h⟩ := aInt_elim h
      obtain ⟨ty, s, rfl, h1, h2, h⟩ := aBldT_elim h
      exact ⟨x, ty, s, rfl, rfl, h1, h2, h⟩
    · exact h.elim
  refine ⟨?_, ?_, funcOk_of L.f167 (by kernel_rfl) (by kernel_rfl)⟩
  · intro args blks k kp h
    obtain ⟨x, ty, s, rfl, rfl, h1, h2, h⟩ := elim h
    rw [wb_def] at h
    refine .inl ⟨_, _, h.2.2, fun k' kp' h' => ?_⟩
    unfold wbEnt
    dsimp only [aPtr, aInt]
    exact aBldT_mk h2 (by rw [wb_def]; exact ⟨h.1, h.2.1, h'⟩)
  · intro c args us k kp _ hr H h
    obtain ⟨x, ty, s, rfl, hh, h1, h2, h⟩ := elim h
    rw [wb_def] at h
    obtain ⟨⟨g0, g1⟩, g2, hk⟩ := h
    simp only [RepL] at hr
    obtain ⟨u0, _, rfl, r0, u1, _, rfl, r1, rfl⟩ := hr
    simp only [Rep.eq_1] at r1
    subst r1
    have hB := H.blk 0 (by rw [hh]; exact Nat.zero_lt_one)
    rw [hh] at hB
    obtain ⟨B, p, v, ha, hat, hcb, hfr, hfr'⟩ := BRep.bldAt (show BRep c 0 (.bld ty (ρ.t 5) s) from hB)
    have hu := rep_ptr0 ha r0
    subst hu
    refine (bld_writeByte L X (hl ty h1) B p v _ x c.w hat (by rw [Lib.strCells_length]; exact g2)).mono ?_
    rintro ex w' ⟨rfl, v', hb, hC, hF⟩
    rw [← strCells_push s x g0 g1] at hb
    exact bld_post H hh ha hcb hfr hfr' hb hC hF (fun c' => by simp only [Rep]) hk
theorem ws_ok (L : Lays.n166 P ρ) (X : Builder.Extra P ρ) {l : List TypeId} (hl : ∀ T ∈ l, BldX P ρ T) {f : FuncId} {e : TypeId} (hf : ρ.f 166 = f) (he : ρ.t 5 = e) : EntOk P tf tw f (wsEnt l e) := by
  subst hf; subst he
  have elim : ∀ {args blks k kp}, wsEnt l (ρ.t 5) args blks k kp → ∃ x ty s, args = [.ptr 0 0, .v (.string x)] ∧ blks = [.bld ty (ρ.t 5) s] ∧ ty ∈ l ∧ memN ty l = true ∧ ws x s fun y z => k (.tup [.v (.int .i64 y), .v .nilIface]) [.bld ty (ρ.t 5) z] := by
    intro args blks k kp h
    unfold wsEnt at h
    split at h
    · obtain ⟨rfl, h⟩ := aPtr_elim h
      obtain ⟨x, rfl, h⟩ := aStr_elim h
      obtain ⟨ty, s, rfl, h1, h2, h⟩ := aBldT_elim h
      exact ⟨x, ty, s, rfl, rfl, h1, h2, h⟩
    · exact h.elim
  refine ⟨?_, ?_, funcOk_of L.f166 (by kernel_rfl) (by kernel_rfl)⟩
  · intro args blks k kp h
    obtain ⟨x, ty, s, rfl, rfl, h1, h2, h⟩ := elim h
    rw [ws_def] at h
    refine .inl ⟨_, _, h.2, fun k' kp' h' => ?_⟩
    unfold wsEnt
    dsimp only [aPtr, aStr]
    exact aBldT_mk h2 (by rw [ws_def]; exact ⟨h.1, h'⟩)
  · intro c args us k kp _ hr H h
    obtain ⟨x, ty, s, rfl, hh, h1, h2, h⟩ := elim h
    rw [ws_def] at h
    obtain ⟨g2, hk⟩ := h
    simp only [RepL] at hr
    obtain ⟨u0, _, rfl, r0, u1, _, rfl, r1, rfl⟩ := hr
    simp only [Rep.eq_1] at r1
    subst r1
    have hB := H.blk 0 (by rw [hh]; exact Nat.zero_lt_one)
    rw [hh] at hB
    obtain ⟨B, p, v, ha, hat, hcb, hfr, hfr'⟩ := BRep.bldAt (show BRep c 0 (.bld ty (ρ.t 5) s) from hB)
    have hu := rep_ptr0 ha r0
    subst hu
    refine (bld_writeString L X (hl ty h1) B p v _ x c.w hat (by rw [Lib.strCells_length]; exact g2)).mono ?_
    rintro ex w' ⟨rfl, v', hb, hC, hF⟩
    rw [← strCells_add s x] at hb
    refine bld_post H hh ha hcb hfr hfr' hb hC hF (fun c' => ?_) hk
    simp only [Rep, RepL]
    exact ⟨_, rfl, _, _, rfl, rfl, _, _, rfl, rfl, rfl⟩
theorem bs_ok (L : Lays.n169 P ρ) (X : Builder.Extra P ρ) {l : List TypeId} {f : FuncId} {e : TypeId} (hf : ρ.f 169 = f) (he : ρ.t 5 = e) : EntOk P tf tw f (bsEnt l e) := by
  subst hf; subst he
  have elim : ∀ {args blks k kp}, bsEnt l (ρ.t 5) args blks k kp → ∃ ty s, args = [.ptr 0 0] ∧ blks = [.bld ty (ρ.t 5) s] ∧ ty ∈ l ∧ memN ty l = true ∧ bs s fun y => k (.v (.string y)) [.dead] := by
    intro args blks k kp h
    unfold bsEnt at h
    split at h
    · obtain ⟨rfl, h⟩ := aPtr_elim h
      obtain ⟨ty, s, rfl, h1, h2, h⟩ := aBldT_elim h
      exact ⟨ty, s, rfl, rfl, h1, h2, h⟩
    · exact h.elim
  refine ⟨?_, ?_, funcOk_of L.f169 (by kernel_rfl) (by kernel_rfl)⟩
  · intro args blks k kp h
    obtain ⟨ty, s, rfl, rfl, h1, h2, h⟩ := elim h
    rw [bs_def] at h
    refine .inl ⟨_, _, h, fun k' kp' h' => ?_⟩
    unfold bsEnt
    dsimp only [aPtr]
    exact aBldT_mk h2 (by rw [bs_def]; exact h')
  · intro c args us k kp _ hr H h
    obtain ⟨ty, s, rfl, hh, h1, h2, h⟩ := elim h
    rw [bs_def] at h
    simp only [RepL] at hr
    obtain ⟨u0, _, rfl, r0, rfl⟩ := hr
    have hB := H.blk 0 (by rw [hh]; exact Nat.zero_lt_one)
    rw [hh] at hB
    obtain ⟨B, p, v, ha, hat, hcb, hfr, hfr'⟩ := BRep.bldAt (show BRep c 0 (.bld ty (ρ.t 5) s) from hB)
    have hu := rep_ptr0 ha r0
    subst hu
    rw [Lib.strCells_eq] at hat
    refine (bld_string L X B p v _ c.w hat).mono ?_
    rintro ex w' ⟨rfl, hC⟩
    obtain ⟨H', S'⟩ := bld_dead (b := 0) H (by rw [hh]; exact Nat.zero_lt_one) (by rw [hh]; rfl) hcb hfr hfr' hC
    refine ⟨.v (.string s), _, rfl, ?_, ?_, H', (Inv.start c _ (nBoxes_le _)).step S'⟩
    · show k _ (c.hp.set 0 _)
      rw [hh]
      exact h
    · simp only [Rep]
end Go.Aw

namespace Go.Aw
open Go.Shelf Go.RowKit Go.Proofs
variable {P : Program} {ρ : Go.Shelf.Ren} {tf tw : TypeId}
theorem below_cx {c : Cx} (H : HRep c) {w' : World} (hb : Below c.w.heap.size c.w w') : HRep { c with w := w' } ∧ Stp c { c with w := w' } := by
  have hext : Ext c.w c.fr w' c.fr := fun a hf => ⟨hf, World.cell?_of_block (hb.block a.block (H.frin a hf))⟩
  have hle : HpLe c { c with w := w' } := ⟨Nat.le_refl _, fun _ _ => BLe.refl _ _, hext, rfl, rfl⟩
  exact ⟨HRep.grow H hle rfl (fun _ _ => rfl) hb.block hb.size (fun a ha => .inl ha) (fun a ha => Nat.lt_of_lt_of_le (H.frin a ha) hb.size),
    Stp.grow hle rfl (fun _ _ => rfl) hb.block hb.size (fun a ha => .inl ha) hb.os hb.tape hb.output⟩
theorem EntOk.pure {tf tw : TypeId} {f : FuncId} {en : Entry} (hd : DetE en) (hb : FuncOk P f)
    (h : ∀ (c : Cx) (args : List D) (us : List Value) (k kp : D → List Blk → Prop), RepL c args us → HRep c → en args c.hp k kp →
      ∃ d r, k d c.hp ∧ (∀ c' : Cx, Rep c' d r) ∧ Calls P f us.toArray c.w fun ex w' => ex = .returned r ∧ Below c.w.heap.size c.w w') : EntOk P tf tw f en := by
  refine ⟨hd, ?_, hb⟩
  intro c args us k kp _ hr H he
  obtain ⟨d, r, hk, hd, hc⟩ := h c args us k kp hr H he
  refine hc.mono ?_
  rintro ex w' ⟨rfl, hbl⟩
  obtain ⟨H', S'⟩ := below_cx H hbl
  exact ⟨d, { c with w := w' }, rfl, hk, hd _, H', (Inv.start c _ (nBoxes_le _)).step S'⟩
theorem spot_none {w : World} {a : Addr} {u : Value} (h : w.cell? a = some u) : a = ⟨a.block, a.off, none⟩ ∧ a.block < w.heap.size := by
  have hlt := World.block_lt_of_cell? w a h
  refine ⟨?_, hlt⟩
  obtain ⟨b, o, s⟩ := a
  cases s with
  | none => rfl
  | some s =>
    exfalso
    unfold World.cell? at h
    simp only [Option.isSome_some, if_true] at h
    split at h <;> cases h
theorem add_flat (b o j : Nat) : (⟨b, o, none⟩ : Addr).add j = ⟨b, o + j, none⟩ := by unfold Addr.add; split <;> simp_all
def joinB (xs : List ByteArray) (sep : ByteArray) : ByteArray := ⟨(Lib.join (xs.map (·.data.toList)) sep.data.toList).toArray⟩
def jn0 (xs : List ByteArray) (sep : ByteArray) (k : ByteArray → Prop) : Prop := xs.length ≤ 140737488355328 ∧ (joinB xs sep).size ≤ 140737488355328 ∧ k (joinB xs sep)
theorem jn_ex : ∃ g : List ByteArray → ByteArray → (ByteArray → Prop) → Prop, g = jn0 := ⟨_, rfl⟩
noncomputable def jn : List ByteArray → ByteArray → (ByteArray → Prop) → Prop := Classical.choose jn_ex
theorem jn_def : jn = jn0 := Classical.choose_spec jn_ex
noncomputable def jnEnt0 : Entry := fun args blks k _ => match args, blks with
  | [d0, d1], [] => aFz .str d0 fun xs => aStr d1 fun sep => jn xs sep fun y => k (.v (.string y)) []
  | _, _ => False
noncomputable def jnEnt : Entry := fun args blks k kp => jnEnt0 (convA [some .str, none] args) blks k kp
theorem jn_ok (L : Lays.n156 P ρ) (X : Builder.Extra P ρ) {f : FuncId} (hf : ρ.f 156 = f) : EntOk P tf tw f jnEnt := by
  subst hf
  refine EntOk.conv ?_ _
  have elim : ∀ {args blks k kp}, jnEnt0 args blks k kp → ∃ xs sep, args = [.fz .str xs, .v (.string sep)] ∧ blks = [] ∧ jn xs sep fun y => k (.v (.string y)) [] := by
    intro args blks k kp h
    unfold jnEnt0 at h
    split at h
    · have h9 := aFz_elim (t := .str) h; clear h; obtain ⟨x, rfl, h⟩ := h9
      have h9 := aStr_elim h; clear h; obtain ⟨s, rfl, h⟩ := h9
      exact ⟨x, s, rfl, rfl, h⟩
    · exact h.elim
  refine EntOk.pure ?_ (funcOk_of L.f156 (by kernel_rfl) (by kernel_rfl)) ?_
  · intro args blks k kp h
    have h9 := elim h; clear h; obtain ⟨xs, sep, rfl, rfl, h⟩ := h9
    rw [jn_def] at h
    refine .inl ⟨_, _, h.2.2, fun k' kp' h' => ?_⟩
    unfold jnEnt0
    dsimp only [aFz, aStr, dif_pos]
    rw [jn_def]
    exact ⟨h.1, h.2.1, h'⟩
  · intro c args us k kp hr H h
    have h9 := elim h; clear h; obtain ⟨xs, sep, rfl, hh, h⟩ := h9
    rw [jn_def] at h
    obtain ⟨h1, h2, hk⟩ := h
    simp only [RepL] at hr
    obtain ⟨u0, _, rfl, r0, u1, _, rfl, r1, rfl⟩ := hr
    simp only [Rep.eq_1] at r1
    subst r1
    simp only [Rep] at r0
    obtain ⟨A, cap, e0, hcap, hc⟩ := r0
    cases e0
    refine ⟨.v (.string (joinB xs sep)), .string (joinB xs sep), by rw [hh]; exact hk, fun c' => by simp only [Rep], ?_⟩
    have h2' : (Lib.join (xs.map (·.data.toList)) sep.data.toList).length ≤ 140737488355328 := by
      have : (joinB xs sep).size = (Lib.join (xs.map (·.data.toList)) sep.data.toList).length := by unfold joinB; simp [ByteArray.size]; rfl
      omega
    cases xs with
    | nil =>
      refine (Any.strings_Join_none L X A cap sep c.w).mono ?_
      rintro ex w' ⟨rfl, rfl⟩
      exact ⟨rfl, Below.refl _ _⟩
    | cons x r =>
      obtain ⟨a, rfl, hcell⟩ := hc (by simp)
      have cell : ∀ (i : Nat) y, (x :: r)[i]? = some y → c.w.cell? (a.add i) = some (.string y) := by
        intro i y hy
        obtain ⟨us, h3, h4⟩ := hcell i y hy
        cases h3
        have := (h4 0 _ rfl).2
        rw [add_zero, show i * Ty.str.size = i from Nat.mul_one i] at this
        exact this
      obtain ⟨ha, hlt⟩ := spot_none ((add_zero a) ▸ cell 0 x rfl)
      rw [ha] at cell ⊢
      exact Any.strings_Join L X a.block a.off cap (x :: r) sep c.w (fun j y hy => by rw [← add_flat]; exact cell j y hy) hlt h1 hcap h2'
def ct0 (s t : ByteArray) (k : Int → Prop) : Prop := t.size = 1 ∧ k ((Lib.countByte s.data.toList (t.data.getD 0 0) : Nat) : Int)
theorem ct_ex : ∃ g : ByteArray → ByteArray → (Int → Prop) → Prop, g = ct0 := ⟨_, rfl⟩
noncomputable def ct : ByteArray → ByteArray → (Int → Prop) → Prop := Classical.choose ct_ex
theorem ct_def : ct = ct0 := Classical.choose_spec ct_ex
noncomputable def ctEnt : Entry := fun args blks k _ => match args, blks with
  | [d0, d1], [] => aStr d0 fun s => aStr d1 fun t => ct s t fun y => k (.v (.int .i64 y)) []
  | _, _ => False
def ix0 (s t : ByteArray) (k : Int → Prop) : Prop := t.size = 1 ∧ k (Lib.indexByte s.data.toList (t.data.getD 0 0))
theorem ix_ex : ∃ g : ByteArray → ByteArray → (Int → Prop) → Prop, g = ix0 := ⟨_, rfl⟩
noncomputable def ix : ByteArray → ByteArray → (Int → Prop) → Prop := Classical.choose ix_ex
theorem ix_def : ix = ix0 := Classical.choose_spec ix_ex
noncomputable def ixEnt : Entry := fun args blks k _ => match args, blks with
  | [d0, d1], [] => aStr d0 fun s => aStr d1 fun t => ix s t fun y => k (.v (.int .i64 y)) []
  | _, _ => False
theorem one_byte {t : ByteArray} (h : t.size = 1) : t = ⟨#[t.data.getD 0 0]⟩ := by
  obtain ⟨d⟩ := t
  obtain ⟨l⟩ := d
  match l, h with
  | [x], _ => rfl
  | [], h => cases h
  | _ :: _ :: _, h => simp [ByteArray.size] at h
theorem ss_ok {f : FuncId} {g g0 : ByteArray → ByteArray → (Int → Prop) → Prop} (hg : g = g0) (hb : FuncOk P f)
    (h1 : ∀ s t k, g0 s t k → ∃ y, k y ∧ (∀ k', k' y → g0 s t k') ∧ ∀ w, Calls P f #[.string s, .string t] w fun ex w' => ex = .returned (.int .i64 y) ∧ w' = w) :
    EntOk P tf tw f (fun args blks k _ => match args, blks with
      | [d0, d1], [] => aStr d0 fun s => aStr d1 fun t => g s t fun y => k (.v (.int .i64 y)) []
      | _, _ => False) := by
  subst hg
  have elim : ∀ {args : List D} {blks : List Blk} {k : D → List Blk → Prop}, (match args, blks with
      | [d0, d1], [] => aStr d0 fun s => aStr d1 fun t => g s t fun y => k (.v (.int .i64 y)) []
      | _, _ => False) → ∃ s t, args = [.v (.string s), .v (.string t)] ∧ blks = [] ∧ g s t fun y => k (.v (.int .i64 y)) [] := by
    intro args blks k h
    split at h
    · have h9 := aStr_elim h; clear h; obtain ⟨x, rfl, h⟩ := h9
      have h9 := aStr_elim h; clear h; obtain ⟨s, rfl, h⟩ := h9
      exact ⟨x, s, rfl, rfl, h⟩
    · exact h.elim
  refine EntOk.pure ?_ hb ?_
  · intro args blks k kp h
    have h9 := elim h; clear h; obtain ⟨s, t, rfl, rfl, h⟩ := h9
    obtain ⟨y, hk, hy, _⟩ := h1 _ _ _ h
    exact .inl ⟨_, _, hk, fun k' kp' h' => hy _ h'⟩
  · intro c args us k kp hr H h
    have h9 := elim h; clear h; obtain ⟨s, t, rfl, hh, h⟩ := h9
    obtain ⟨y, hk, _, hc⟩ := h1 _ _ _ h
    simp only [RepL] at hr
    obtain ⟨u0, _, rfl, r0, u1, _, rfl, r1, rfl⟩ := hr
    simp only [Rep.eq_1] at r0 r1
    subst r0; subst r1
    refine ⟨_, .int .i64 y, by rw [hh]; exact hk, fun c' => by simp only [Rep], (hc c.w).mono ?_⟩
    rintro ex w' ⟨rfl, rfl⟩
    exact ⟨rfl, Below.refl _ _⟩
theorem ct_ok (L : Lays.n138 P ρ) {f : FuncId} (hf : ρ.f 138 = f) : EntOk P tf tw f ctEnt := by
  subst hf
  refine ss_ok ct_def (funcOk_of L.f138 (by kernel_rfl) (by kernel_rfl)) ?_
  rintro s t k ⟨h1, hk⟩
  refine ⟨_, hk, fun k' h' => ⟨h1, h'⟩, fun w => ?_⟩
  have := Any.strings_Count_one L s (t.data.getD 0 0) w
  rw [← one_byte h1] at this
  exact this
theorem ix_ok (L : Lays.n219 P ρ) {f : FuncId} (hf : ρ.f 219 = f) : EntOk P tf tw f ixEnt := by
  subst hf
  refine ss_ok ix_def (funcOk_of L.f219 (by kernel_rfl) (by kernel_rfl)) ?_
  rintro s t k ⟨h1, hk⟩
  refine ⟨_, hk, fun k' h' => ⟨h1, h'⟩, fun w => ?_⟩
  have := Any.stringslite_Index_one L s (t.data.getD 0 0) w
  rw [← one_byte h1] at this
  exact this
def indexB (s : ByteArray) (c : Int) : Int := Lib.indexByte s.data.toList c.toNat.toUInt8
def ibEnt : Entry := fun args blks k _ => match args with
  | [d0, d1] => aStr d0 fun s => aInt .u8 d1 fun c => k (.v (.int .i64 (indexB s c))) blks
  | _ => False
theorem ib_ok (L : Lays.n217 P ρ) {f : FuncId} (hf : ρ.f 217 = f) : EntOk P tf tw f ibEnt := by
  subst hf
  have elim : ∀ {args blks k kp}, ibEnt args blks k kp → ∃ s c, args = [.v (.string s), .v (.int .u8 c)] ∧ k (.v (.int .i64 (indexB s c))) blks := by
    intro args blks k kp h
    unfold ibEnt at h
    split at h
    · have h9 := aStr_elim h; clear h; obtain ⟨x, rfl, h⟩ := h9
      have h9 := aInt_elim h; clear h; obtain ⟨s, rfl, h⟩ := h9
      exact ⟨x, s, rfl, h⟩
    · exact h.elim
  refine EntOk.pure ?_ (funcOk_of L.f217 (by kernel_rfl) (by kernel_rfl)) ?_
  · intro args blks k kp h
    have h9 := elim h; clear h; obtain ⟨x, s, rfl, h⟩ := h9
    exact .inl ⟨_, _, h, fun k' kp' h' => h'⟩
  · intro c args us k kp hr H h
    have h9 := elim h; clear h; obtain ⟨s, b, rfl, h⟩ := h9
    simp only [RepL] at hr
    obtain ⟨u0, _, rfl, r0, u1, _, rfl, r1, rfl⟩ := hr
    simp only [Rep.eq_1] at r0 r1
    subst r0; subst r1
    refine ⟨_, .int .i64 (indexB s b), h, fun c' => by simp only [Rep], (Any.stringslite_IndexByte L s b c.w).mono ?_⟩
    rintro ex w' ⟨rfl, rfl⟩
    exact ⟨rfl, Below.refl _ _⟩
end Go.Aw

namespace Go.Aw
open Go.Shelf Go.RowKit Go.Proofs
variable {P : Program} {tf tw : TypeId}
theorem pureT_cx {c : Cx} (H : HRep c) {w' : World} (hb : Below c.w.heap.size c.w w') : HRep { c with w := w', fr := fun a => c.fr a ∨ (c.w.heap.size ≤ a.block ∧ a.block < w'.heap.size) } ∧ Stp c { c with w := w', fr := fun a => c.fr a ∨ (c.w.heap.size ≤ a.block ∧ a.block < w'.heap.size) } := by
  have hext : Ext c.w c.fr w' (fun a => c.fr a ∨ (c.w.heap.size ≤ a.block ∧ a.block < w'.heap.size)) := fun a hf => ⟨.inl hf, World.cell?_of_block (hb.block a.block (H.frin a hf))⟩
  have hle : HpLe c { c with w := w', fr := fun a => c.fr a ∨ (c.w.heap.size ≤ a.block ∧ a.block < w'.heap.size) } := ⟨Nat.le_refl _, fun _ _ => BLe.refl _ _, hext, rfl, rfl⟩
  have hnew : ∀ a, (c.fr a ∨ (c.w.heap.size ≤ a.block ∧ a.block < w'.heap.size)) → c.fr a ∨ c.w.heap.size ≤ a.block := fun a ha => ha.imp id (·.1)
  exact ⟨HRep.grow H hle rfl (fun _ _ => rfl) hb.block hb.size hnew (fun a ha => ha.elim (fun h => Nat.lt_of_lt_of_le (H.frin a h) hb.size) (·.2)),
    Stp.grow hle rfl (fun _ _ => rfl) hb.block hb.size hnew hb.os hb.tape hb.output⟩
theorem EntOk.made {f : FuncId} {en : Entry} (hd : DetE en) (hb : FuncOk P f)
    (h : ∀ (c : Cx) (args : List D) (us : List Value) (k kp : D → List Blk → Prop), TOk P tf tw c → RepL c args us → HRep c → en args c.hp k kp →
      ∃ d, k d c.hp ∧ Calls P f us.toArray c.w fun ex w' => ∃ r, ex = .returned r ∧ Below c.w.heap.size c.w w' ∧ Rep { c with w := w', fr := fun a => c.fr a ∨ (c.w.heap.size ≤ a.block ∧ a.block < w'.heap.size) } d r) : EntOk P tf tw f en := by
  refine ⟨hd, ?_, hb⟩
  intro c args us k kp hT hr H he
  obtain ⟨d, hk, hc⟩ := h c args us k kp hT hr H he
  refine hc.mono ?_
  rintro ex w' ⟨r, rfl, hbl, hrep⟩
  obtain ⟨H', S'⟩ := pureT_cx H hbl
  exact ⟨d, { c with w := w', fr := fun a => c.fr a ∨ (c.w.heap.size ≤ a.block ∧ a.block < w'.heap.size) }, rfl, hk, hrep, H', (Inv.start c _ (nBoxes_le _)).step S'⟩
end Go.Aw

namespace Go.Aw
open Go.Shelf Go.RowKit Go.Proofs
variable {P : Program} {tf tw : TypeId}
def plainE : Err → Bool
  | .nil | .flt _ _ => true
  | .win _ e => plainE e
  | .wrg _ _ => false
def flatE : Err → Bool
  | .nil | .flt _ _ => true
  | _ => false
theorem flatE_plain {e : Err} (h : flatE e = true) : plainE e = true := by cases e <;> first | rfl | cases h
def depthE : Err → Nat
  | .win _ e => depthE e + 1
  | _ => 0
def rootE : Err → Option (Int × Int)
  | .flt c a => some (c, a)
  | .win _ e => rootE e
  | _ => none
def ofE (e : Err) : Int := match rootE e with
  | some x => x.1
  | none => 0
def atE (e : Err) : Int := match rootE e with
  | some x => x.2
  | none => 0
def hasE (e : Err) (c : Int) : Bool := match rootE e with
  | some x => x.1 == c
  | none => false
def pathE : Err → List ByteArray
  | .win s e => s :: pathE e
  | _ => []
def newE (c a : Int) : Err := if c = 0 then .nil else .flt c a
def inE (s : ByteArray) (e : Err) : Err := match e with
  | .nil => .nil
  | e => .win s e
theorem newE_plain (c a : Int) : plainE (newE c a) = true := by unfold newE; split <;> rfl
theorem inE_plain {s : ByteArray} {e : Err} (h : plainE e = true) : plainE (inE s e) = true := by cases e <;> first | rfl | exact h
theorem At.two {w : World} {fr fr' : Addr → Prop} {p : Addr} {a b a' b' : Value} (h : At w fr p [a, b]) (h' : At w fr' p [a', b']) : a = a' ∧ b = b' :=
  ⟨Option.some.inj ((h 0 _ rfl).2.symm.trans (h' 0 _ rfl).2), Option.some.inj ((h 1 _ rfl).2.symm.trans (h' 1 _ rfl).2)⟩
theorem At.flat2 {w : World} {B : Nat} {p : Addr} {a b : Value} (h : At w (fun a => a.block < B) p [a, b]) : ∃ pb po, p = ⟨pb, po, none⟩ ∧ pb < B ∧ w.cell? ⟨pb, po, none⟩ = some a ∧ w.cell? ⟨pb, po + 1, none⟩ = some b := by
  have h0 := h 0 _ rfl
  have h1 := h 1 _ rfl
  rw [add_zero] at h0
  obtain ⟨e, _⟩ := spot_none h0.2
  rw [e] at h0 h1 ⊢
  rw [add_flat] at h1
  exact ⟨_, _, rfl, h0.1, h0.2, h1.2⟩
theorem RepE.unique {w : World} {fr fr' : Addr → Prop} {tf tw : TypeId} (hne : tf ≠ tw) : ∀ {e e' : Err} {u : Value}, RepE w fr tf tw e u → plainE e = true → RepE w fr' tf tw e' u → plainE e' = true → e = e' := by
  intro e
  induction e with
  | nil =>
    intro e' u h _ h' hp
    cases e' with
    | nil => rfl
    | flt c a => obtain ⟨p, rfl, _⟩ := h'; cases h
    | win s i => obtain ⟨p, v, rfl, _⟩ := h'; cases h
    | wrg t i => cases hp
  | flt c a =>
    intro e' u h _ h' hp
    obtain ⟨p, rfl, hat⟩ := h
    cases e' with
    | nil => cases h'
    | flt c' a' =>
      obtain ⟨p', e1, hat'⟩ := h'
      cases e1
      obtain ⟨e1, e2⟩ := hat.two hat'
      cases e1; cases e2; rfl
    | win s i =>
      obtain ⟨p', v, e1, _⟩ := h'
      simp only [Value.iface.injEq] at e1
      exact absurd e1.1 hne
    | wrg t i => cases hp
  | win s i ih =>
    intro e' u h hq h' hp
    obtain ⟨p, v, rfl, hat, hin⟩ := h
    cases e' with
    | nil => cases h'
    | flt c' a' =>
      obtain ⟨p', e1, hat'⟩ := h'
      simp only [Value.iface.injEq] at e1
      exact absurd e1.1.symm hne
    | win s' i' =>
      obtain ⟨p', v', e1, hat', hin'⟩ := h'
      cases e1
      obtain ⟨e1, e2⟩ := hat.two hat'
      cases e1; cases e2
      rw [ih hin hq hin' hp]
    | wrg t i => cases hp
  | wrg t i => intro e' u h hq; cases hq
theorem At.new {w : World} {fr : Addr → Prop} {vs : List Value} {ty : TypeId} {B : Nat} (hB : w.heap[B]? = some (.cells vs.toArray ty (0, 0))) (hf : ∀ a : Addr, a.block = B → fr a) : At w fr ⟨B, 0, none⟩ vs := by
  intro j u hj
  refine ⟨hf _ (add_block _ _), ?_⟩
  rw [add_flat, Nat.zero_add]
  simp [World.cell?, hB, hj]
def newEnt : Entry := fun args blks k _ => match args with
  | [d0, d1] => aInt .i64 d0 fun c => aInt .i64 d1 fun a => k (.er (newE c a)) blks
  | _ => False
def asEr : D → D
  | .v .nilIface => .er .nil
  | d => d
theorem asEr_rep {c : Cx} {d : D} {u : Value} (h : Rep c d u) : Rep c (asEr d) u := by
  unfold asEr
  split
  · simp only [Rep] at h ⊢
    exact h
  · exact h
def inEnt : Entry := fun args blks k _ => match args with
  | [d0, d1] => aStr d0 fun s => aEr (asEr d1) fun e => k (.er (inE s e)) blks
  | _ => False
theorem heap_new (w : World) (o : Obj) : (w.alloc o).heap[w.heap.size]? = some o := by
  show (w.heap.push o)[w.heap.size]? = _
  rw [Array.getElem?_push, if_pos rfl]
theorem size_new (w : World) (o : Obj) : w.heap.size < (w.alloc o).heap.size := by simp
theorem new_ok {f : FuncId} {fn : Func} {fs : TypeId} (hf : P.funcs[f]? = some fn) (hn : (fn.name == "runtime.NumGoroutine") = false) (hb : fn.body.isNone = false)
    (run : ∀ (c a : Int) (w : World), Calls P f #[.int .i64 c, .int .i64 a] w fun e w' => if c = 0 then e = .returned .nilIface ∧ w' = w else e = .returned (.iface tf (.pointer (some ⟨w.heap.size, 0, none⟩))) ∧ w' = w.alloc (.cells #[.int .i64 c, .int .i64 a] fs)) :
    EntOk P tf tw f newEnt := by
  have elim : ∀ {args blks k kp}, newEnt args blks k kp → ∃ c a, args = [.v (.int .i64 c), .v (.int .i64 a)] ∧ k (.er (newE c a)) blks := by
    intro args blks k kp h
    unfold newEnt at h
    split at h
    · have h9 := aInt_elim h; clear h; obtain ⟨x, rfl, h⟩ := h9
      have h9 := aInt_elim h; clear h; obtain ⟨s, rfl, h⟩ := h9
      exact ⟨x, s, rfl, h⟩
    · exact h.elim
  refine EntOk.made ?_ ⟨fn, hf, hn, hb⟩ ?_
  · intro args blks k kp h
    have h9 := elim h; clear h; obtain ⟨x, s, rfl, h⟩ := h9
    exact .inl ⟨_, _, h, fun k' kp' h' => h'⟩
  · intro c args us k kp hT hr H h
    have h9 := elim h; clear h; obtain ⟨x, a, rfl, h⟩ := h9
    simp only [RepL] at hr
    obtain ⟨u0, _, rfl, r0, u1, _, rfl, r1, rfl⟩ := hr
    simp only [Rep.eq_1] at r0 r1
    subst r0; subst r1
    refine ⟨_, h, (run x a c.w).mono ?_⟩
    intro ex w' hw
    by_cases hx : x = 0
    · rw [if_pos hx] at hw
      obtain ⟨rfl, rfl⟩ := hw
      refine ⟨_, rfl, Below.refl _ _, ?_⟩
      simp only [Rep, newE, if_pos hx, RepE]
    · rw [if_neg hx] at hw
      obtain ⟨rfl, rfl⟩ := hw
      refine ⟨_, rfl, (Below.refl _ _).alloc (Nat.le_refl _) _, ?_⟩
      simp only [Rep, newE, if_neg hx, RepE]
      refine ⟨_, by rw [hT.1.1], At.new (B := c.w.heap.size) (heap_new _ _) fun a ha => .inr ?_⟩
      rw [ha]
      exact ⟨Nat.le_refl _, size_new _ _⟩
theorem in_ok {f : FuncId} {fn : Func} {fs : TypeId} (hf : P.funcs[f]? = some fn) (hn : (fn.name == "runtime.NumGoroutine") = false) (hb : fn.body.isNone = false)
    (run0 : ∀ (s : ByteArray) (w : World), Calls P f #[.string s, .nilIface] w fun e w' => e = .returned .nilIface ∧ w' = w)
    (run : ∀ (s : ByteArray) (t : TypeId) (v : Value) (w : World), Calls P f #[.string s, .iface t v] w fun e w' => e = .returned (.iface tw (.pointer (some ⟨w.heap.size, 0, none⟩))) ∧ w' = w.alloc (.cells #[.string s, .iface t v] fs)) :
    EntOk P tf tw f inEnt := by
  have elim : ∀ {args blks k kp}, inEnt args blks k kp → ∃ s d e, args = [.v (.string s), d] ∧ asEr d = .er e ∧ k (.er (inE s e)) blks := by
    intro args blks k kp h
    unfold inEnt at h
    split at h
    · have h9 := aStr_elim h; clear h; obtain ⟨x, rfl, h⟩ := h9
      have h9 := aEr_elim h; clear h; obtain ⟨e, he, h⟩ := h9
      exact ⟨x, _, e, rfl, he, h⟩
    · exact h.elim
  refine EntOk.made ?_ ⟨fn, hf, hn, hb⟩ ?_
  · intro args blks k kp h
    have h9 := elim h; clear h; obtain ⟨x, d, e, rfl, he, h⟩ := h9
    refine .inl ⟨_, _, h, fun k' kp' h' => ?_⟩
    unfold inEnt
    dsimp only [aStr]
    rw [he]
    exact h'
  · intro c args us k kp hT hr H h
    have h9 := elim h; clear h; obtain ⟨s, d, e, rfl, he, h⟩ := h9
    simp only [RepL] at hr
    obtain ⟨u0, _, rfl, r0, u1, _, rfl, r1, rfl⟩ := hr
    simp only [Rep.eq_1] at r0
    subst r0
    replace r1 := asEr_rep r1
    rw [he] at r1
    simp only [Rep] at r1
    refine ⟨_, h, ?_⟩
    rcases r1.isNil with ⟨rfl, rfl⟩ | ⟨hni, t, v, rfl⟩
    · refine (run0 s c.w).mono ?_
      rintro ex w' ⟨rfl, rfl⟩
      refine ⟨_, rfl, Below.refl _ _, ?_⟩
      simp only [Rep, inE, RepE]
    · refine (run s t v c.w).mono ?_
      rintro ex w' ⟨rfl, rfl⟩
      refine ⟨_, rfl, (Below.refl _ _).alloc (Nat.le_refl _) _, ?_⟩
      have hin : inE s e = .win s e := by cases e <;> first | rfl | cases hni
      rw [hin]
      simp only [Rep, RepE]
      refine ⟨_, _, by rw [hT.1.2], At.new (B := c.w.heap.size) (heap_new _ _) fun a ha => .inr ?_, r1.ext ?_⟩
      · rw [ha]
        exact ⟨Nat.le_refl _, size_new _ _⟩
      · intro a ha
        exact ⟨.inl ha, World.cell?_alloc_lt _ _ a (H.frin a ha)⟩
def erEnt (g : Err → Value) : Entry := fun args blks k _ => match args with
  | [d0] => aEr (asEr d0) fun e => plainE e = true ∧ k (.v (g e)) blks
  | _ => False
def erEnt2 (g : Err → Int → Value) : Entry := fun args blks k _ => match args with
  | [d0, d1] => aEr (asEr d0) fun e => aInt .i64 d1 fun c => plainE e = true ∧ k (.v (g e c)) blks
  | _ => False
theorem er_ok {f : FuncId} {fn : Func} {g : Err → Value} (hf : P.funcs[f]? = some fn) (hn : (fn.name == "runtime.NumGoroutine") = false) (hb : fn.body.isNone = false)
    (run : ∀ (e : Err) (u : Value) (w : World), (∀ g v, hdlOf P = some (g, v) → w.cell? ⟨g, 0, none⟩ = some v) → RepE w (fun a => a.block < w.heap.size) tf tw e u → plainE e = true → Calls P f #[u] w fun ex w' => ex = .returned (g e) ∧ Below w.heap.size w w') :
    EntOk P tf tw f (erEnt g) := by
  have elim : ∀ {args blks k kp}, erEnt g args blks k kp → ∃ d e, args = [d] ∧ asEr d = .er e ∧ plainE e = true ∧ k (.v (g e)) blks := by
    intro args blks k kp h
    unfold erEnt at h
    split at h
    · have h9 := aEr_elim h; clear h; obtain ⟨e, he, h⟩ := h9
      exact ⟨_, e, rfl, he, h⟩
    · exact h.elim
  refine EntOk.made ?_ ⟨fn, hf, hn, hb⟩ ?_
  · intro args blks k kp h
    have h9 := elim h; clear h; obtain ⟨d, e, rfl, he, hp, h⟩ := h9
    refine .inl ⟨_, _, h, fun k' kp' h' => ?_⟩
    unfold erEnt
    dsimp only
    rw [he]
    exact ⟨hp, h'⟩
  · intro c args us k kp hT hr H h
    have h9 := elim h; clear h; obtain ⟨d, e, rfl, he, hp, h⟩ := h9
    simp only [RepL] at hr
    obtain ⟨u0, _, rfl, r0, rfl⟩ := hr
    replace r0 := asEr_rep r0
    rw [he] at r0
    simp only [Rep] at r0
    rw [hT.1.1, hT.1.2] at r0
    refine ⟨_, h, (run e u0 c.w (fun g v hg => by have := (hT.2 g v hg) 0 v rfl; rw [add_zero] at this; exact this.2) (r0.ext fun a ha => ⟨H.frin a ha, rfl⟩) hp).mono ?_⟩
    rintro ex w' ⟨rfl, hbl⟩
    exact ⟨_, rfl, hbl, by simp only [Rep]⟩
theorem er_ok2 {f : FuncId} {fn : Func} {g : Err → Int → Value} (hf : P.funcs[f]? = some fn) (hn : (fn.name == "runtime.NumGoroutine") = false) (hb : fn.body.isNone = false)
    (run : ∀ (e : Err) (i : Int) (u : Value) (w : World), RepE w (fun a => a.block < w.heap.size) tf tw e u → plainE e = true → Calls P f #[u, .int .i64 i] w fun ex w' => ex = .returned (g e i) ∧ Below w.heap.size w w') :
    EntOk P tf tw f (erEnt2 g) := by
  have elim : ∀ {args blks k kp}, erEnt2 g args blks k kp → ∃ d e i, args = [d, .v (.int .i64 i)] ∧ asEr d = .er e ∧ plainE e = true ∧ k (.v (g e i)) blks := by
    intro args blks k kp h
    unfold erEnt2 at h
    split at h
    · have h9 := aEr_elim h; clear h; obtain ⟨e, he, h⟩ := h9
      have h9 := aInt_elim h; clear h; obtain ⟨i, rfl, h⟩ := h9
      exact ⟨_, e, i, rfl, he, h⟩
    · exact h.elim
  refine EntOk.made ?_ ⟨fn, hf, hn, hb⟩ ?_
  · intro args blks k kp h
    have h9 := elim h; clear h; obtain ⟨d, e, i, rfl, he, hp, h⟩ := h9
    refine .inl ⟨_, _, h, fun k' kp' h' => ?_⟩
    unfold erEnt2
    dsimp only
    rw [he]
    exact ⟨hp, h'⟩
  · intro c args us k kp hT hr H h
    have h9 := elim h; clear h; obtain ⟨d, e, i, rfl, he, hp, h⟩ := h9
    simp only [RepL] at hr
    obtain ⟨u0, _, rfl, r0, u1, _, rfl, r1, rfl⟩ := hr
    simp only [Rep.eq_1] at r1
    subst r1
    replace r0 := asEr_rep r0
    rw [he] at r0
    simp only [Rep] at r0
    rw [hT.1.1, hT.1.2] at r0
    refine ⟨_, h, (run e i u0 c.w (r0.ext fun a ha => ⟨H.frin a ha, rfl⟩) hp).mono ?_⟩
    rintro ex w' ⟨rfl, hbl⟩
    exact ⟨_, rfl, hbl, by simp only [Rep]⟩
def erEntL (g : Err → List ByteArray) : Entry := fun args blks k _ => match args with
  | [d0] => aEr (asEr d0) fun e => plainE e = true ∧ (g e).length ≤ 1000000 ∧ k (.fz .str (g e)) blks
  | _ => False
theorem er_okL {f : FuncId} {fn : Func} {g : Err → List ByteArray} (hf : P.funcs[f]? = some fn) (hn : (fn.name == "runtime.NumGoroutine") = false) (hb : fn.body.isNone = false)
    (run : ∀ (e : Err) (u : Value) (w : World), RepE w (fun a => a.block < w.heap.size) tf tw e u → plainE e = true → (g e).length ≤ 1000000 → Calls P f #[u] w fun ex w' => ∃ v, ex = .returned v ∧ Below w.heap.size w w' ∧ RepT w' (fun a => w.heap.size ≤ a.block ∧ a.block < w'.heap.size) (.list .str) (g e) [v]) :
    EntOk P tf tw f (erEntL g) := by
  have elim : ∀ {args blks k kp}, erEntL g args blks k kp → ∃ d e, args = [d] ∧ asEr d = .er e ∧ plainE e = true ∧ (g e).length ≤ 1000000 ∧ k (.fz .str (g e)) blks := by
    intro args blks k kp h
    unfold erEntL at h
    split at h
    · have h9 := aEr_elim h; clear h; obtain ⟨e, he, h⟩ := h9
      exact ⟨_, e, rfl, he, h⟩
    · exact h.elim
  refine EntOk.made ?_ ⟨fn, hf, hn, hb⟩ ?_
  · intro args blks k kp h
    have h9 := elim h; clear h; obtain ⟨d, e, rfl, he, hp, hl, h⟩ := h9
    refine .inl ⟨_, _, h, fun k' kp' h' => ?_⟩
    unfold erEntL
    dsimp only
    rw [he]
    exact ⟨hp, hl, h'⟩
  · intro c args us k kp hT hr H h
    have h9 := elim h; clear h; obtain ⟨d, e, rfl, he, hp, hl, h⟩ := h9
    simp only [RepL] at hr
    obtain ⟨u0, _, rfl, r0, rfl⟩ := hr
    replace r0 := asEr_rep r0
    rw [he] at r0
    simp only [Rep] at r0
    rw [hT.1.1, hT.1.2] at r0
    refine ⟨_, h, (run e u0 c.w (r0.ext fun a ha => ⟨H.frin a ha, rfl⟩) hp hl).mono ?_⟩
    rintro ex w' ⟨v, rfl, hbl, hv⟩
    refine ⟨_, rfl, hbl, ?_⟩
    simp only [Rep]
    exact hv.ext fun a ha => ⟨.inr ha, rfl⟩
end Go.Aw

