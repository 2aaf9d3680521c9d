/- Words for the proof of the statement: plain data in place of memory. -/
import Derived.Test.YtidclggijmbffaaDoorT2
set_option linter.unusedVariables false
set_option linter.unusedSimpArgs false
namespace Go.Aw
open Go.Shelf Go.RowKit Go.Proofs
variable {P : Program} {tf tw : TypeId}
theorem calls_of {tf tw : TypeId} {f : FuncId} {en : Entry} (ok : EntOk P tf tw f en) {us : List Value} {ds : List D} {W : World} (hG : ∀ g v, hdlOf P = some (g, v) → W.cell? ⟨g, 0, none⟩ = some v) (hr : RepL (cx tf tw W) ds us) (x : Value) (h : en ds [] (fun d _ => d = .v x) never) :
    Calls P f us.toArray W fun e W' => e = .returned x ∧ Below W.heap.size W W' := by
  have hT : TOk P tf tw (cx tf tw W) := by
    refine ⟨⟨rfl, rfl⟩, fun g v hg => ?_⟩
    have hc := hG g v hg
    intro j u hj
    match j, hj with
    | 0, hj =>
      cases hj
      rw [add_zero]
      exact ⟨World.block_lt_of_cell? W _ hc, hc⟩
  refine (ok.sound (cx tf tw W) ds us _ never hT hr cx_ok h).mono fun e W' hp => ?_
  cases e with
  | returned v =>
    obtain ⟨d, c', rfl, hk, hrep, _, I⟩ := hp
    subst hk
    simp only [Rep] at hrep
    refine ⟨by rw [hrep], I.os, I.tape, I.output, I.size, fun k hk => I.keep k hk ?_⟩
    rintro ⟨b, hb, _⟩
    simp [cx] at hb
  | panicked ch =>
    obtain ⟨d, p, c', _, _, hk, _⟩ := hp
    exact hk.elim
  | outgrown => exact hp.elim
def putZ (n : Int) : List Int := (if n < 0 then [45] else []) ++ (dl 20 n.natAbs).reverse
theorem putZ_len (n : Int) : 1 ≤ (putZ n).length ∧ (putZ n).length ≤ 21 := by
  unfold putZ
  have h1 : 0 < (dl 20 n.natAbs).length := dl_len_pos 19 n.natAbs
  have h2 : (dl 20 n.natAbs).length ≤ 20 := dl_len_le 20 n.natAbs
  rw [List.length_append, List.length_reverse]
  split <;> simp <;> omega
def textL : Err → List Int
  | .flt c a => putZ c ++ [32, 97, 116, 32] ++ putZ a
  | .win s e => ofBytes s ++ [58, 32] ++ textL e
  | _ => []
def textB (e : Err) : ByteArray := bytesOf (textL e)
def solidE : Err → Prop
  | .flt c a => in64 c ∧ in64 a
  | .win _ e => solidE e
  | _ => False
def textOk (e : Err) : Prop := (e = .nil ∨ solidE e) ∧ (textL e).length ≤ 9223372036854775807
theorem solidE_plain : ∀ {e : Err}, solidE e → plainE e = true
  | .flt _ _, _ => rfl
  | .win _ e, h => solidE_plain (e := e) h
  | .nil, h => h.elim
  | .wrg _ _, h => h.elim
def erEntT (q : Err → Prop) (g : Err → Value) : Entry := fun args blks k _ => match args with
  | [d0] => aEr (asEr d0) fun e => q e ∧ k (.v (g e)) blks
  | _ => False
theorem er_okT {f : FuncId} {fn : Func} {q : Err → Prop} {g : Err → Value} (hf : P.funcs[f]? = some fn) (hn : (fn.name == "runtime.NumGoroutine") = false) (hb : fn.body.isNone = false)
    (run : ∀ (e : Err) (u : Value) (w : World), (∀ g v, hdlOf P = some (g, v) → w.cell? ⟨g, 0, none⟩ = some v) → RepE w (fun a => a.block < w.heap.size) tf tw e u → q e → Calls P f #[u] w fun ex w' => ex = .returned (g e) ∧ Below w.heap.size w w') :
    EntOk P tf tw f (erEntT q g) := by
  have elim : ∀ {args blks k kp}, erEntT q g args blks k kp → ∃ d e, args = [d] ∧ asEr d = .er e ∧ q e ∧ k (.v (g e)) blks := by
    intro args blks k kp h
    unfold erEntT at h
    split at h
    · have h9 := aEr_elim h; clear h; obtain ⟨e, he, h⟩ := h9
      exact ⟨_, e, rfl, he, h⟩
    · exact h.elim
  refine EntOk.made ?_ ⟨fn, hf, hn, hb⟩ ?_
  · intro args blks k kp h
    have h9 := elim h; clear h; obtain ⟨d, e, rfl, he, hp, h⟩ := h9
    refine .inl ⟨_, _, h, fun k' kp' h' => ?_⟩
    unfold erEntT
    dsimp only
    rw [he]
    exact ⟨hp, h'⟩
  · intro c args us k kp hT hr H h
    have h9 := elim h; clear h; obtain ⟨d, e, rfl, he, hp, h⟩ := h9
    simp only [RepL] at hr
    obtain ⟨u0, _, rfl, r0, rfl⟩ := hr
    replace r0 := asEr_rep r0
    rw [he] at r0
    simp only [Rep] at r0
    rw [hT.1.1, hT.1.2] at r0
    refine ⟨_, h, (run e u0 c.w (fun g v hg => by have := (hT.2 g v hg) 0 v rfl; rw [add_zero] at this; exact this.2) (r0.ext fun a ha => ⟨H.frin a ha, rfl⟩) hp).mono ?_⟩
    rintro ex w' ⟨rfl, hbl⟩
    exact ⟨_, rfl, hbl, by simp only [Rep]⟩
end Go.Aw

