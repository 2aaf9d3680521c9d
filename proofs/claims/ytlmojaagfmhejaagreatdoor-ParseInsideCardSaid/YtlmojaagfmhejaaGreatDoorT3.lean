/- Words for the proof of the statement: plain data in place of memory. -/
import Derived.Test.YtlmojaagfmhejaaGreatDoorT2
import Derived.Shelf.Strings.Builder1
import Derived.Shelf.Strings.OnBuilder
import Derived.Shelf.Strings.Count
import Derived.Shelf.Strings.Search2
import Derived.Shelf.Strings.Search1
import Derived.Below
import Derived.Laws.OwnMore
import Derived.OwnWalk
import Derived.OneCell
import Derived.Deep.AppendLies
import Derived.Defers
import Derived.Recover
set_option linter.unusedVariables false
set_option linter.unusedSimpArgs false
set_option linter.unusedSectionVars false
set_option maxRecDepth 100000
set_option maxHeartbeats 4000000
namespace Go.Aw
open Go.Shelf Go.RowKit Go.Proofs
variable {P : Program} {ρ : Go.Shelf.Ren}
structure Chg (w w' : World) (b : Nat) (row : Option Nat) : Prop where
 os : w'.os = w.os
 tape : w'.tape = w.tape
 output : w'.output = w.output
 size : w.heap.size ≤ w'.heap.size
 block : ∀ k, k < w.heap.size → k ≠ b → some k ≠ row → w'.heap[k]? = w.heap[k]?
theorem Chg.refl (w : World) (b : Nat) (r : Option Nat) : Chg w w b r := ⟨rfl, rfl, rfl, Nat.le_refl _, fun _ _ _ _ => rfl⟩
theorem Chg.setCell {w w' : World} {b : Nat} {r : Option Nat} (h : Chg w w' b r) (j : Nat) (u : Value) : Chg w (w'.setCell ⟨b, j, none⟩ u) b r where
 os := h.os
 tape := h.tape
 output := h.output
 size := by
  show w.heap.size ≤ (w'.heap.modify _ _).size
  rw [Array.size_modify]; exact h.size
 block k hk hb hr := by
  refine Eq.trans ?_ (h.block k hk hb hr)
  show (w'.heap.modify _ _)[k]? = _
  rw [Array.getElem?_modify, if_neg (Ne.symm hb)]
theorem Chg.trans {w w1 w2 : World} {b : Nat} {r r' : Option Nat} (h : Chg w w1 b r) (k : Chg w1 w2 b r') (hr : r' = r ∨ ∃ j, r' = some j ∧ w.heap.size ≤ j) : Chg w w2 b r where
 os := k.os.trans h.os
 tape := k.tape.trans h.tape
 output := k.output.trans h.output
 size := Nat.le_trans h.size k.size
 block i hi hb hr' := (k.block i (Nat.lt_of_lt_of_le hi h.size) hb (fun e => by
  rcases hr with rfl | ⟨j, rfl, hj⟩
  ·exact hr' e
  ·cases e; omega)).trans (h.block i hi hb hr')
theorem Chg.grown {w w1 w2 : World} {b : Nat} {r : Option Nat} (h : Chg w w1 b r) (k : w1.grownBy w2 r) : Chg w w2 b r where
 os := k.os.trans h.os
 tape := k.tape.trans h.tape
 output := k.output.trans h.output
 size := Nat.le_trans h.size k.size
 block i hi hb hr := (k.block i (Nat.lt_of_lt_of_le hi h.size) hr).trans (h.block i hi hb hr)
theorem Chg.alloc {w w1 : World} {b : Nat} {r : Option Nat} (h : Chg w w1 b r) (o : Obj) : Chg w (w1.alloc o) b r where
 os := h.os
 tape := h.tape
 output := h.output
 size := Nat.le_trans h.size (by simp)
 block i hi hb hr := (Below.heap_alloc _ _ _ (Nat.lt_of_lt_of_le hi h.size)).trans (h.block i hi hb hr)
theorem Chg.drew {w w1 : World} {b : Nat} {r : Option Nat} (h : Chg w w1 b r) : Chg w w1.drew b r := ⟨h.os, h.tape, h.output, h.size, h.block⟩
variable {P : Program} {ρ : Go.Shelf.Ren} {tf tw : TypeId}
def ws0 (t s : ByteArray) (k : Int → ByteArray → Prop) : Prop := s.size + t.size ≤ 140737488355328 ∧ k t.size (s ++ t)
theorem ws_ex : ∃ g : ByteArray → ByteArray → (Int → ByteArray → Prop) → Prop, g = ws0 := ⟨_, rfl⟩
noncomputable def ws : ByteArray → ByteArray → (Int → ByteArray → Prop) → Prop := Classical.choose ws_ex
def bs0 (s : ByteArray) (k : ByteArray → Prop) : Prop := k s
theorem bs_ex : ∃ g : ByteArray → (ByteArray → Prop) → Prop, g = bs0 := ⟨_, rfl⟩
noncomputable def bs : ByteArray → (ByteArray → Prop) → Prop := Classical.choose bs_ex
theorem funcOk_of {f : FuncId} {fn : Func} (h : P.funcs[f]? = some fn) (h1 : (fn.name == "runtime.NumGoroutine") = false) (h2 : fn.body.isNone = false) : FuncOk P f := ⟨fn, h, h1, h2⟩
variable {P : Program} {ρ : Go.Shelf.Ren} {tf tw : TypeId}
theorem below_cx {c : Cx} (H : HRep c) {w' : World} (hb : Below c.w.heap.size c.w w') : HRep { c with w := w' } ∧ Stp c { c with w := w' } := by
 have hext : Ext c.w c.fr w' c.fr := fun a hf => ⟨hf, World.cell?_of_block (hb.block a.block (H.frin a hf))⟩
 have hle : HpLe c { c with w := w' } := ⟨Nat.le_refl _, fun _ _ => BLe.refl _ _, hext, rfl, rfl⟩
 exact ⟨HRep.grow H hle rfl (fun _ _ => rfl) hb.block hb.size (fun a ha => .inl ha) (fun a ha => Nat.lt_of_lt_of_le (H.frin a ha) hb.size),
  Stp.grow hle rfl (fun _ _ => rfl) hb.block hb.size (fun a ha => .inl ha) hb.os hb.tape hb.output⟩
theorem EntOk.pure {tf tw : TypeId} {f : FuncId} {en : Entry} (hd : DetE en) (hb : FuncOk P f)
 (h : ∀ (c : Cx) (args : List D) (us : List Value) (k kp : D → List Blk → Prop), RepL c args us → HRep c → en args c.hp k kp →
   ∃ d r, k d c.hp ∧ (∀ c' : Cx, Rep c' d r) ∧ Calls P f us.toArray c.w fun ex w' => ex = .returned r ∧ Below c.w.heap.size c.w w') : EntOk P tf tw f en := by
 refine ⟨hd, ?_, hb⟩
 intro c args us k kp _ hr H he
 obtain ⟨d, r, hk, hd, hc⟩ := h c args us k kp hr H he
 refine hc.mono ?_
 rintro ex w' ⟨rfl, hbl⟩
 obtain ⟨H', S'⟩ := below_cx H hbl
 exact ⟨d, { c with w := w' }, rfl, hk, hd _, H', (Inv.start c _ (nBoxes_le _)).step S'⟩
theorem spot_none {w : World} {a : Addr} {u : Value} (h : w.cell? a = some u) : a = ⟨a.block, a.off, none⟩ ∧ a.block < w.heap.size := by
 have hlt := World.block_lt_of_cell? w a h
 refine ⟨?_, hlt⟩
 obtain ⟨b, o, s⟩ := a
 cases s with
 | none => rfl
 | some s =>
   exfalso
   unfold World.cell? at h
   simp only [Option.isSome_some, if_true] at h
   split at h <;> cases h
theorem add_flat (b o j : Nat) : (⟨b, o, none⟩ : Addr).add j = ⟨b, o + j, none⟩ := by unfold Addr.add; split <;> simp_all
def ix0 (s t : ByteArray) (k : Int → Prop) : Prop := t.size = 1 ∧ k (Lib.indexByte s.data.toList (t.data.getD 0 0))
theorem ix_ex : ∃ g : ByteArray → ByteArray → (Int → Prop) → Prop, g = ix0 := ⟨_, rfl⟩
noncomputable def ix : ByteArray → ByteArray → (Int → Prop) → Prop := Classical.choose ix_ex
def indexB (s : ByteArray) (c : Int) : Int := Lib.indexByte s.data.toList c.toNat.toUInt8
def ibEnt : Entry := fun args blks k _ => match args with
 | [d0, d1] => aStr d0 fun s => aInt .u8 d1 fun c => k (.v (.int .i64 (indexB s c))) blks
 | _ => False
theorem ib_ok (L : Lays.n217 P ρ) {f : FuncId} (hf : ρ.f 217 = f) : EntOk P tf tw f ibEnt := by
 subst hf
 have elim : ∀ {args blks k kp}, ibEnt args blks k kp → ∃ s c, args = [.v (.string s), .v (.int .u8 c)] ∧ k (.v (.int .i64 (indexB s c))) blks := by
  intro args blks k kp h
  unfold ibEnt at h
  split at h
  ·have h9 := aStr_elim h; clear h; obtain ⟨x, rfl, h⟩ := h9
   have h9 := aInt_elim h; clear h; obtain ⟨s, rfl, h⟩ := h9
   exact ⟨x, s, rfl, h⟩
  ·exact h.elim
 refine EntOk.pure ?_ (funcOk_of L.f217 (by kernel_rfl) (by kernel_rfl)) ?_
 ·intro args blks k kp h
  have h9 := elim h; clear h; obtain ⟨x, s, rfl, h⟩ := h9
  exact .inl ⟨_, _, h, fun k' kp' h' => h'⟩
 ·intro c args us k kp hr H h
  have h9 := elim h; clear h; obtain ⟨s, b, rfl, h⟩ := h9
  simp only [RepL] at hr
  obtain ⟨u0, _, rfl, r0, u1, _, rfl, r1, rfl⟩ := hr
  simp only [Rep.eq_1] at r0 r1
  subst r0; subst r1
  refine ⟨_, .int .i64 (indexB s b), h, fun c' => by simp only [Rep], (Any.stringslite_IndexByte L s b c.w).mono ?_⟩
  rintro ex w' ⟨rfl, rfl⟩
  exact ⟨rfl, Below.refl _ _⟩
variable {P : Program} {tf tw : TypeId}
theorem pureT_cx {c : Cx} (H : HRep c) {w' : World} (hb : Below c.w.heap.size c.w w') : HRep { c with w := w', fr := fun a => c.fr a ∨ (c.w.heap.size ≤ a.block ∧ a.block < w'.heap.size) } ∧ Stp c { c with w := w', fr := fun a => c.fr a ∨ (c.w.heap.size ≤ a.block ∧ a.block < w'.heap.size) } := by
 have hext : Ext c.w c.fr w' (fun a => c.fr a ∨ (c.w.heap.size ≤ a.block ∧ a.block < w'.heap.size)) := fun a hf => ⟨.inl hf, World.cell?_of_block (hb.block a.block (H.frin a hf))⟩
 have hle : HpLe c { c with w := w', fr := fun a => c.fr a ∨ (c.w.heap.size ≤ a.block ∧ a.block < w'.heap.size) } := ⟨Nat.le_refl _, fun _ _ => BLe.refl _ _, hext, rfl, rfl⟩
 have hnew : ∀ a, (c.fr a ∨ (c.w.heap.size ≤ a.block ∧ a.block < w'.heap.size)) → c.fr a ∨ c.w.heap.size ≤ a.block := fun a ha => ha.imp id (·.1)
 exact ⟨HRep.grow H hle rfl (fun _ _ => rfl) hb.block hb.size hnew (fun a ha => ha.elim (fun h => Nat.lt_of_lt_of_le (H.frin a h) hb.size) (·.2)),
  Stp.grow hle rfl (fun _ _ => rfl) hb.block hb.size hnew hb.os hb.tape hb.output⟩
theorem EntOk.made {f : FuncId} {en : Entry} (hd : DetE en) (hb : FuncOk P f)
 (h : ∀ (c : Cx) (args : List D) (us : List Value) (k kp : D → List Blk → Prop), TOk P tf tw c → RepL c args us → HRep c → en args c.hp k kp →
   ∃ d, k d c.hp ∧ Calls P f us.toArray c.w fun ex w' => ∃ r, ex = .returned r ∧ Below c.w.heap.size c.w w' ∧ Rep { c with w := w', fr := fun a => c.fr a ∨ (c.w.heap.size ≤ a.block ∧ a.block < w'.heap.size) } d r) : EntOk P tf tw f en := by
 refine ⟨hd, ?_, hb⟩
 intro c args us k kp hT hr H he
 obtain ⟨d, hk, hc⟩ := h c args us k kp hT hr H he
 refine hc.mono ?_
 rintro ex w' ⟨r, rfl, hbl, hrep⟩
 obtain ⟨H', S'⟩ := pureT_cx H hbl
 exact ⟨d, { c with w := w', fr := fun a => c.fr a ∨ (c.w.heap.size ≤ a.block ∧ a.block < w'.heap.size) }, rfl, hk, hrep, H', (Inv.start c _ (nBoxes_le _)).step S'⟩
variable {P : Program} {tf tw : TypeId}
def plainE : Err → Bool
 | .nil | .flt _ _ => true
 | .win _ e => plainE e
 | .wrg _ _ => false
def depthE : Err → Nat
 | .win _ e => depthE e + 1
 | _ => 0
def rootE : Err → Option (Int × Int)
 | .flt c a => some (c, a)
 | .win _ e => rootE e
 | _ => none
def ofE (e : Err) : Int := match rootE e with
 | some x => x.1
 | none => 0
def atE (e : Err) : Int := match rootE e with
 | some x => x.2
 | none => 0
def hasE (e : Err) (c : Int) : Bool := match rootE e with
 | some x => x.1 == c
 | none => false
def newE (c a : Int) : Err := if c = 0 then .nil else .flt c a
def inE (s : ByteArray) (e : Err) : Err := match e with
 | .nil => .nil
 | e => .win s e
theorem At.two {w : World} {fr fr' : Addr → Prop} {p : Addr} {a b a' b' : Value} (h : At w fr p [a, b]) (h' : At w fr' p [a', b']) : a = a' ∧ b = b' :=
 ⟨Option.some.inj ((h 0 _ rfl).2.symm.trans (h' 0 _ rfl).2), Option.some.inj ((h 1 _ rfl).2.symm.trans (h' 1 _ rfl).2)⟩
theorem At.flat2 {w : World} {B : Nat} {p : Addr} {a b : Value} (h : At w (fun a => a.block < B) p [a, b]) : ∃ pb po, p = ⟨pb, po, none⟩ ∧ pb < B ∧ w.cell? ⟨pb, po, none⟩ = some a ∧ w.cell? ⟨pb, po + 1, none⟩ = some b := by
 have h0 := h 0 _ rfl
 have h1 := h 1 _ rfl
 rw [add_zero] at h0
 obtain ⟨e, _⟩ := spot_none h0.2
 rw [e] at h0 h1 ⊢
 rw [add_flat] at h1
 exact ⟨_, _, rfl, h0.1, h0.2, h1.2⟩
theorem RepE.unique {w : World} {fr fr' : Addr → Prop} {tf tw : TypeId} (hne : tf ≠ tw) : ∀ {e e' : Err} {u : Value}, RepE w fr tf tw e u → plainE e = true → RepE w fr' tf tw e' u → plainE e' = true → e = e' := by
 intro e
 induction e with
 | nil =>
   intro e' u h _ h' hp
   cases e' with
   | nil => rfl
   | flt c a => obtain ⟨p, rfl, _⟩ := h'; cases h
   | win s i => obtain ⟨p, v, rfl, _⟩ := h'; cases h
   | wrg t i => cases hp
 | flt c a =>
   intro e' u h _ h' hp
   obtain ⟨p, rfl, hat⟩ := h
   cases e' with
   | nil => cases h'
   | flt c' a' =>
     obtain ⟨p', e1, hat'⟩ := h'
     cases e1
     obtain ⟨e1, e2⟩ := hat.two hat'
     cases e1; cases e2; rfl
   | win s i =>
     obtain ⟨p', v, e1, _⟩ := h'
     simp only [Value.iface.injEq] at e1
     exact absurd e1.1 hne
   | wrg t i => cases hp
 | win s i ih =>
   intro e' u h hq h' hp
   obtain ⟨p, v, rfl, hat, hin⟩ := h
   cases e' with
   | nil => cases h'
   | flt c' a' =>
     obtain ⟨p', e1, hat'⟩ := h'
     simp only [Value.iface.injEq] at e1
     exact absurd e1.1.symm hne
   | win s' i' =>
     obtain ⟨p', v', e1, hat', hin'⟩ := h'
     cases e1
     obtain ⟨e1, e2⟩ := hat.two hat'
     cases e1; cases e2
     rw [ih hin hq hin' hp]
   | wrg t i => cases hp
 | wrg t i => intro e' u h hq; cases hq
theorem At.new {w : World} {fr : Addr → Prop} {vs : List Value} {ty : TypeId} {B : Nat} (hB : w.heap[B]? = some (.cells vs.toArray ty (0, 0))) (hf : ∀ a : Addr, a.block = B → fr a) : At w fr ⟨B, 0, none⟩ vs := by
 intro j u hj
 refine ⟨hf _ (add_block _ _), ?_⟩
 rw [add_flat, Nat.zero_add]
 simp [World.cell?, hB, hj]
def newEnt : Entry := fun args blks k _ => match args with
 | [d0, d1] => aInt .i64 d0 fun c => aInt .i64 d1 fun a => k (.er (newE c a)) blks
 | _ => False
def asEr : D → D
 | .v .nilIface => .er .nil
 | d => d
theorem asEr_rep {c : Cx} {d : D} {u : Value} (h : Rep c d u) : Rep c (asEr d) u := by
 unfold asEr
 split
 ·simp only [Rep] at h ⊢
  exact h
 ·exact h
def inEnt : Entry := fun args blks k _ => match args with
 | [d0, d1] => aStr d0 fun s => aEr (asEr d1) fun e => k (.er (inE s e)) blks
 | _ => False
theorem heap_new (w : World) (o : Obj) : (w.alloc o).heap[w.heap.size]? = some o := by
 show (w.heap.push o)[w.heap.size]? = _
 rw [Array.getElem?_push, if_pos rfl]
theorem size_new (w : World) (o : Obj) : w.heap.size < (w.alloc o).heap.size := by simp
theorem new_ok {f : FuncId} {fn : Func} {fs : TypeId} (hf : P.funcs[f]? = some fn) (hn : (fn.name == "runtime.NumGoroutine") = false) (hb : fn.body.isNone = false)
 (run : ∀ (c a : Int) (w : World), Calls P f #[.int .i64 c, .int .i64 a] w fun e w' => if c = 0 then e = .returned .nilIface ∧ w' = w else e = .returned (.iface tf (.pointer (some ⟨w.heap.size, 0, none⟩))) ∧ w' = w.alloc (.cells #[.int .i64 c, .int .i64 a] fs)) :
 EntOk P tf tw f newEnt := by
 have elim : ∀ {args blks k kp}, newEnt args blks k kp → ∃ c a, args = [.v (.int .i64 c), .v (.int .i64 a)] ∧ k (.er (newE c a)) blks := by
  intro args blks k kp h
  unfold newEnt at h
  split at h
  ·have h9 := aInt_elim h; clear h; obtain ⟨x, rfl, h⟩ := h9
   have h9 := aInt_elim h; clear h; obtain ⟨s, rfl, h⟩ := h9
   exact ⟨x, s, rfl, h⟩
  ·exact h.elim
 refine EntOk.made ?_ ⟨fn, hf, hn, hb⟩ ?_
 ·intro args blks k kp h
  have h9 := elim h; clear h; obtain ⟨x, s, rfl, h⟩ := h9
  exact .inl ⟨_, _, h, fun k' kp' h' => h'⟩
 ·intro c args us k kp hT hr H h
  have h9 := elim h; clear h; obtain ⟨x, a, rfl, h⟩ := h9
  simp only [RepL] at hr
  obtain ⟨u0, _, rfl, r0, u1, _, rfl, r1, rfl⟩ := hr
  simp only [Rep.eq_1] at r0 r1
  subst r0; subst r1
  refine ⟨_, h, (run x a c.w).mono ?_⟩
  intro ex w' hw
  by_cases hx : x = 0
  ·rw [if_pos hx] at hw
   obtain ⟨rfl, rfl⟩ := hw
   refine ⟨_, rfl, Below.refl _ _, ?_⟩
   simp only [Rep, newE, if_pos hx, RepE]
  ·rw [if_neg hx] at hw
   obtain ⟨rfl, rfl⟩ := hw
   refine ⟨_, rfl, (Below.refl _ _).alloc (Nat.le_refl _) _, ?_⟩
   simp only [Rep, newE, if_neg hx, RepE]
   refine ⟨_, by rw [hT.1.1], At.new (B := c.w.heap.size) (heap_new _ _) fun a ha => .inr ?_⟩
   rw [ha]
   exact ⟨Nat.le_refl _, size_new _ _⟩
theorem in_ok {f : FuncId} {fn : Func} {fs : TypeId} (hf : P.funcs[f]? = some fn) (hn : (fn.name == "runtime.NumGoroutine") = false) (hb : fn.body.isNone = false)
 (run0 : ∀ (s : ByteArray) (w : World), Calls P f #[.string s, .nilIface] w fun e w' => e = .returned .nilIface ∧ w' = w)
 (run : ∀ (s : ByteArray) (t : TypeId) (v : Value) (w : World), Calls P f #[.string s, .iface t v] w fun e w' => e = .returned (.iface tw (.pointer (some ⟨w.heap.size, 0, none⟩))) ∧ w' = w.alloc (.cells #[.string s, .iface t v] fs)) :
 EntOk P tf tw f inEnt := by
 have elim : ∀ {args blks k kp}, inEnt args blks k kp → ∃ s d e, args = [.v (.string s), d] ∧ asEr d = .er e ∧ k (.er (inE s e)) blks := by
  intro args blks k kp h
  unfold inEnt at h
  split at h
  ·have h9 := aStr_elim h; clear h; obtain ⟨x, rfl, h⟩ := h9
   have h9 := aEr_elim h; clear h; obtain ⟨e, he, h⟩ := h9
   exact ⟨x, _, e, rfl, he, h⟩
  ·exact h.elim
 refine EntOk.made ?_ ⟨fn, hf, hn, hb⟩ ?_
 ·intro args blks k kp h
  have h9 := elim h; clear h; obtain ⟨x, d, e, rfl, he, h⟩ := h9
  refine .inl ⟨_, _, h, fun k' kp' h' => ?_⟩
  unfold inEnt
  dsimp only [aStr]
  rw [he]
  exact h'
 ·intro c args us k kp hT hr H h
  have h9 := elim h; clear h; obtain ⟨s, d, e, rfl, he, h⟩ := h9
  simp only [RepL] at hr
  obtain ⟨u0, _, rfl, r0, u1, _, rfl, r1, rfl⟩ := hr
  simp only [Rep.eq_1] at r0
  subst r0
  replace r1 := asEr_rep r1
  rw [he] at r1
  simp only [Rep] at r1
  refine ⟨_, h, ?_⟩
  rcases r1.isNil with ⟨rfl, rfl⟩ | ⟨hni, t, v, rfl⟩
  ·refine (run0 s c.w).mono ?_
   rintro ex w' ⟨rfl, rfl⟩
   refine ⟨_, rfl, Below.refl _ _, ?_⟩
   simp only [Rep, inE, RepE]
  ·refine (run s t v c.w).mono ?_
   rintro ex w' ⟨rfl, rfl⟩
   refine ⟨_, rfl, (Below.refl _ _).alloc (Nat.le_refl _) _, ?_⟩
   have hin : inE s e = .win s e := by cases e <;> first | rfl | cases hni
   rw [hin]
   simp only [Rep, RepE]
   refine ⟨_, _, by rw [hT.1.2], At.new (B := c.w.heap.size) (heap_new _ _) fun a ha => .inr ?_, r1.ext ?_⟩
   ·rw [ha]
    exact ⟨Nat.le_refl _, size_new _ _⟩
   ·intro a ha
    exact ⟨.inl ha, World.cell?_alloc_lt _ _ a (H.frin a ha)⟩
def erEnt (g : Err → Value) : Entry := fun args blks k _ => match args with
 | [d0] => aEr (asEr d0) fun e => plainE e = true ∧ k (.v (g e)) blks
 | _ => False
def erEnt2 (g : Err → Int → Value) : Entry := fun args blks k _ => match args with
 | [d0, d1] => aEr (asEr d0) fun e => aInt .i64 d1 fun c => plainE e = true ∧ k (.v (g e c)) blks
 | _ => False
theorem er_ok {f : FuncId} {fn : Func} {g : Err → Value} (hf : P.funcs[f]? = some fn) (hn : (fn.name == "runtime.NumGoroutine") = false) (hb : fn.body.isNone = false)
 (run : ∀ (e : Err) (u : Value) (w : World), (∀ g v, hdlOf P = some (g, v) → w.cell? ⟨g, 0, none⟩ = some v) → RepE w (fun a => a.block < w.heap.size) tf tw e u → plainE e = true → Calls P f #[u] w fun ex w' => ex = .returned (g e) ∧ Below w.heap.size w w') :
 EntOk P tf tw f (erEnt g) := by
 have elim : ∀ {args blks k kp}, erEnt g args blks k kp → ∃ d e, args = [d] ∧ asEr d = .er e ∧ plainE e = true ∧ k (.v (g e)) blks := by
  intro args blks k kp h
  unfold erEnt at h
  split at h
  ·have h9 := aEr_elim h; clear h; obtain ⟨e, he, h⟩ := h9
   exact ⟨_, e, rfl, he, h⟩
  ·exact h.elim
 refine EntOk.made ?_ ⟨fn, hf, hn, hb⟩ ?_
 ·intro args blks k kp h
  have h9 := elim h; clear h; obtain ⟨d, e, rfl, he, hp, h⟩ := h9
  refine .inl ⟨_, _, h, fun k' kp' h' => ?_⟩
  unfold erEnt
  dsimp only
  rw [he]
  exact ⟨hp, h'⟩
 ·intro c args us k kp hT hr H h
  have h9 := elim h; clear h; obtain ⟨d, e, rfl, he, hp, h⟩ := h9
  simp only [RepL] at hr
  obtain ⟨u0, _, rfl, r0, rfl⟩ := hr
  replace r0 := asEr_rep r0
  rw [he] at r0
  simp only [Rep] at r0
  rw [hT.1.1, hT.1.2] at r0
  refine ⟨_, h, (run e u0 c.w (fun g v hg => by have := (hT.2 g v hg) 0 v rfl; rw [add_zero] at this; exact this.2) (r0.ext fun a ha => ⟨H.frin a ha, rfl⟩) hp).mono ?_⟩
  rintro ex w' ⟨rfl, hbl⟩
  exact ⟨_, rfl, hbl, by simp only [Rep]⟩
theorem er_ok2 {f : FuncId} {fn : Func} {g : Err → Int → Value} (hf : P.funcs[f]? = some fn) (hn : (fn.name == "runtime.NumGoroutine") = false) (hb : fn.body.isNone = false)
 (run : ∀ (e : Err) (i : Int) (u : Value) (w : World), RepE w (fun a => a.block < w.heap.size) tf tw e u → plainE e = true → Calls P f #[u, .int .i64 i] w fun ex w' => ex = .returned (g e i) ∧ Below w.heap.size w w') :
 EntOk P tf tw f (erEnt2 g) := by
 have elim : ∀ {args blks k kp}, erEnt2 g args blks k kp → ∃ d e i, args = [d, .v (.int .i64 i)] ∧ asEr d = .er e ∧ plainE e = true ∧ k (.v (g e i)) blks := by
  intro args blks k kp h
  unfold erEnt2 at h
  split at h
  ·have h9 := aEr_elim h; clear h; obtain ⟨e, he, h⟩ := h9
   have h9 := aInt_elim h; clear h; obtain ⟨i, rfl, h⟩ := h9
   exact ⟨_, e, i, rfl, he, h⟩
  ·exact h.elim
 refine EntOk.made ?_ ⟨fn, hf, hn, hb⟩ ?_
 ·intro args blks k kp h
  have h9 := elim h; clear h; obtain ⟨d, e, i, rfl, he, hp, h⟩ := h9
  refine .inl ⟨_, _, h, fun k' kp' h' => ?_⟩
  unfold erEnt2
  dsimp only
  rw [he]
  exact ⟨hp, h'⟩
 ·intro c args us k kp hT hr H h
  have h9 := elim h; clear h; obtain ⟨d, e, i, rfl, he, hp, h⟩ := h9
  simp only [RepL] at hr
  obtain ⟨u0, _, rfl, r0, u1, _, rfl, r1, rfl⟩ := hr
  simp only [Rep.eq_1] at r1
  subst r1
  replace r0 := asEr_rep r0
  rw [he] at r0
  simp only [Rep] at r0
  rw [hT.1.1, hT.1.2] at r0
  refine ⟨_, h, (run e i u0 c.w (r0.ext fun a ha => ⟨H.frin a ha, rfl⟩) hp).mono ?_⟩
  rintro ex w' ⟨rfl, hbl⟩
  exact ⟨_, rfl, hbl, by simp only [Rep]⟩
variable {P : Program} {tf tw : TypeId}
end Go.Aw
namespace Go.Aw
open Go
theorem own_lt {w : World} {B : Nat} {e : TypeId} {sz : Nat} {v : Value} {n : Nat} {xs : List Value} (h : w.ownsRow B e sz v n xs) {k : Nat} (hk : v.ownBlock = some k) : k < w.heap.size := (h.lt k hk).2
theorem own_keep {w w' : World} {B : Nat} {e : TypeId} {sz : Nat} {v : Value} {n : Nat} {xs : List Value} (h : w.ownsRow B e sz v n xs) (hb : ∀ k, v.ownBlock = some k → w'.heap[k]? = w.heap[k]?) : w'.ownsRow B e sz v n xs := by
 refine ⟨h.1, ?_⟩
 rcases h.2 with hn | ⟨g, cap, cur, rfl, h1, h2, h3⟩
 ·exact .inl hn
 ·exact .inr ⟨g, cap, cur, rfl, h1, by rw [hb g rfl]; exact h2, h3⟩
end Go.Aw
namespace Go.Aw
open Go Go.RowKit
def isDefer : Code → Bool
 | .region _ ops false => match ops.toList with
   | [o] => match o.op with
     | .defer _ => true
     | _ => false
   | _ => false
 | _ => false
def preW (cfg : Cfg) (kr : St → Prop) (next : Code → Code → St → Prop) : Code → St → Prop
 | .seq x y, st => match isDefer x with
   | true => next x y st
   | false => codeW cfg x (fun e st' => match e with
     | .normal => canonW (cfg.atSeq (firstReg y)) st' (preW cfg kr next y)
     | .ret => kr st'
     | _ => False) st
 | _, _ => False
def opsOf : Code → Option (Array Oper)
 | .region _ ops false => some ops
 | _ => none
theorem opsOf_some {x : Code} {ops : Array Oper} (h : opsOf x = some ops) : ∃ id, x = .region id ops false := by
 unfold opsOf at h
 split at h
 ·cases h; exact ⟨_, rfl⟩
 ·cases h
def endW (cfg : Cfg) (kr : St → Prop) (y : Code) (st : St) : Prop := codeW cfg y (fun e st' => match e with
 | .normal | .ret => kr st'
 | _ => False) st
def dstNe (p : Tmp) : Option Tmp → Bool
 | none => true
 | some d => !Nat.beq d p
def lateW (cfg : Cfg) (p : Tmp) (kr : St → Prop) (KP : D → St → Prop) : Code → St → Prop
 | .seq x y, st => match opsOf x with
   | some ops => match ops.toList.all fun o => dstNe p o.dst with
     | true => opsW cfg false ops ops.toList st (fun st' => lateW cfg p kr KP y st') KP
     | false => False
   | none => endW cfg kr (.seq x y) st
 | y, st => endW cfg kr y st
def spine : Code → List Code
 | .seq x y => x :: spine y
 | _ => []
def opPuts (g p : Nat) : Code → Bool
 | .region _ ops false => match ops.toList with
   | [o] => match o.op with
     | .defer cl => (match cl.callee with
       | .value (.func f) => Nat.beq f g
       | _ => false) && (match cl.args.toList with
       | [.tmp t] => Nat.beq t p
       | _ => false) && o.dst.isNone && o.guard.isNone
     | _ => false
   | _ => false
 | _ => false
def wrgE (tx : TypeId) (f : Err → Prop) (e : Err) : Prop := match e with
 | .wrg t i => match Nat.beq t tx with
   | true => f i
   | false => False
 | _ => False
def catW (P : Program) (ty tx : TypeId) (p : Tmp) (kr : St → Prop) (d : D) (st : St) : Prop := match d with
 | .er (.wrg t e) => match Nat.beq t tx with
   | true => storeW P st.hp ty (st.opd (.tmp p)) (.er e) fun hp => kr { st with hp := hp }
   | false => False
 | _ => False
def funD (cfg : Cfg) (fn : Func) (ty tx : TypeId) (p : Tmp) : Entry := fun args blks k kp => match fn.body with
 | none => False
 | some c => preW cfg (retW cfg fn k) (fun _ y st => lateW cfg p (retW cfg fn k) (catW cfg.P ty tx p (retW cfg fn k)) y st) c { tmps := args ++ List.replicate (fn.ntmps - args.length) (.v undef), hp := blks, m := nBoxes blks }
theorem put_ne {p : Tmp} {o : Option Tmp} (h : dstNe p o = true) (a : Act) (v : Value) : (a.put o v).eval (.tmp p) = a.eval (.tmp p) ∧ (a.put o v).defers = a.defers := by
 unfold dstNe at h
 unfold Act.put
 split at h
 ·exact ⟨rfl, rfl⟩
 ·rename_i d
  have hne : d ≠ p := by
   intro e; subst e
   rw [Nat.beq_refl] at h; cases h
  refine ⟨?_, rfl⟩
  show (a.tmps.setIfInBounds d v).getD p undef = a.tmps.getD p undef
  rw [Array.getD_eq_getD_getElem?, Array.getD_eq_getD_getElem?, Array.getElem?_setIfInBounds_ne hne]
section
variable [Inhabited Dfr] {cfg : Cfg} {c0 : Cx} {m : Nat}
theorem preW_sound (T : TblOk cfg) (hD : DetOk cfg) (h0 : TOk cfg.P cfg.tf cfg.tw c0) {kr : St → Prop} {next : Code → Code → St → Prop} {Q : Exit → Act → World → Prop}
 (hR : ∀ st c a, kr st → st.m = m → SRep c st a → HRep c → Inv c0 m c → Q .ret a c.w)
 {F : Code → Prop} (hN : ∀ x y st c a, F x → isDefer x = true → next x y st → st.m = m → SRep c st a → HRep c → Inv c0 m c → (Code.seq x y).wp cfg.P Q a c.w) :
 ∀ (x : Code) (hF : ∀ z ∈ spine x, F z) {st : St} {c : Cx} {a : Act}, preW cfg kr next x st → st.m = m → SRep c st a → HRep c → Inv c0 m c → x.wp cfg.P Q a c.w
 | .seq x y, hF, st, c, a, h, hm, S, H, I => by
   simp only [preW] at h
   cases hx : isDefer x with
   | true =>
     rw [hx] at h
     exact hN x y st c a (hF x (by simp [spine])) hx h hm S H I
   | false =>
     rw [hx] at h
     simp only at h
     refine wp_seq (codeW_sound T hD h0 x (K := _) ?_ h hm S H I)
     refine ⟨fun st c a h hm S H I => ?_, fun id st c a h => h.elim, fun st c a h hm S H I => hR st c a h hm S H I, fun l st c a h => h.elim, fun d st c a p h => h.elim, fun d st tmps h => h.elim⟩
     obtain ⟨st', c', h', hm', hw, S', H', I'⟩ := canonW_sound h S H (show Inv c0 st.m c by rw [hm]; exact I)
     rw [hm] at I'
     show y.wp cfg.P Q a c.w
     rw [← hw]
     exact preW_sound T hD h0 hR hN y (fun z hz => hF z (by simp [spine, hz])) h' (hm'.trans hm) S' H' I'
 | .skip, _, st, c, a, h, _, _, _, _ | .label _, _, st, c, a, h, _, _, _, _ | .region _ _ _, _, st, c, a, h, _, _, _, _ | .cond _ _ _, _, st, c, a, h, _, _, _, _ | .block _ _, _, st, c, a, h, _, _, _, _ | .loop _, _, st, c, a, h, _, _, _, _
 | .exit _, _, st, c, a, h, _, _, _, _ | .ret, _, st, c, a, h, _, _, _, _ | .rangeFunc _ _ _ _, _, st, c, a, h, _, _, _, _ | .scope _, _, st, c, a, h, _, _, _, _ | .goto _, _, st, c, a, h, _, _, _, _ | .refuse _, _, st, c, a, h, _, _, _, _ => by
   simp only [preW] at h
theorem opsW_soundJ (T : TblOk cfg) {q : Bool} {ops : Array Oper} {J : Act → Prop} (hJ : ∀ o ∈ ops.toList, ∀ a v, J a → J (a.put o.dst v)) {K : St → Prop} {KP : D → St → Prop} {Q : Exit → Act → World → Prop} (h0 : TOk cfg.P cfg.tf cfg.tw c0)
 (hQ : ∀ st' c' a', K st' → J a' → SRep c' st' a' → HRep c' → Inv c0 m c' → Q .normal a' c'.w)
 (hP : ∀ d st' c' a' p, KP d st' → J a' → SRep c' st' a' → HRep c' → Inv c0 m c' → Rep c' d p → Q (.panic [{ v := p, recovered := false }]) a' c'.w) :
 ∀ (r : List Oper) (k : Nat) {st : St} {c : Cx} {a : Act}, ops.toList.drop k = r → J a → SRep c st a → HRep c → Inv c0 m c → opsW cfg q ops r st K KP → wpOps cfg.P ops Q (List.range' k r.length) a c.w
 | [], k, st, c, a, hk, Ja, S, H, I, h => by
   simp only [List.length_nil, List.range'_zero, wpOps]
   exact hQ st c a h Ja S H I
 | o :: r, k, st, c, a, hk, Ja, S, H, I, h => by
   have hok : ops[k]? = some o := by
    have : ops.toList[k]? = some o := by
     have h1 : (ops.toList.drop k)[0]? = some o := by rw [hk]; rfl
     rwa [List.getElem?_drop, Nat.add_zero] at h1
    simpa using this
   have hmem : o ∈ ops.toList := List.mem_of_mem_drop (i := k) (by rw [hk]; simp)
   have hk' : ops.toList.drop (k + 1) = r := by
    rw [← List.drop_drop, hk]; rfl
   simp only [List.length_cons, List.range'_succ, wpOps, hok]
   have key := operW_sound2 T (h0.step I.tf I.tw I.ext) S H h (wpOps cfg.P ops Q (List.range' (k + 1) r.length)) Q
    (fun st' c' a' hk2 S' H' St' hv => by
      obtain ⟨v, rfl⟩ := hv
      exact opsW_soundJ T hJ h0 hQ hP r (k + 1) hk' (hJ o hmem _ _ Ja) S' H' (I.step St') hk2)
    (fun d st' c' p hk2 S' H' St' hd => hP d st' c' a p hk2 Ja S' H' (I.step St') hd)
   split
   ·rename_i hw
    rw [if_pos hw] at key
    exact .inl key
   ·rename_i hw
    rw [if_neg hw] at key
    exact key
theorem late_code (T : TblOk cfg) (hD : DetOk cfg) (h0 : TOk cfg.P cfg.tf cfg.tw c0) {kr : St → Prop} {Q : Exit → Act → World → Prop}
 (hR : ∀ st c a, kr st → st.m = m → SRep c st a → HRep c → Inv c0 m c → Q .normal a c.w ∧ Q .ret a c.w) (y : Code) {st : St} {c : Cx} {a : Act}
 (h : endW cfg kr y st) (hm : st.m = m) (S : SRep c st a) (H : HRep c) (I : Inv c0 m c) : y.wp cfg.P Q a c.w :=
 codeW_sound T hD h0 y (K := _) ⟨fun st c a h hm S H I => (hR st c a h hm S H I).1, fun id st c a h => h.elim, fun st c a h hm S H I => (hR st c a h hm S H I).2, fun l st c a h => h.elim, fun d st c a p h => h.elim, fun d st tmps h => h.elim⟩ h hm S H I
theorem lateW_sound (T : TblOk cfg) (hD : DetOk cfg) (h0 : TOk cfg.P cfg.tf cfg.tw c0) {p : Tmp} {u : Value} {kr : St → Prop} {KP : D → St → Prop} {Q : Exit → Act → World → Prop}
 (hR : ∀ st c a, kr st → st.m = m → SRep c st a → HRep c → Inv c0 m c → Q .normal a c.w ∧ Q .ret a c.w)
 (hP : ∀ d st c a x, KP d st → st.m = m → a.eval (.tmp p) = u → SRep c st a → HRep c → Inv c0 m c → Rep c d x → Q (.panic [{ v := x, recovered := false }]) a c.w) :
 ∀ (x : Code) {st : St} {c : Cx} {a : Act}, lateW cfg p kr KP x st → st.m = m → a.eval (.tmp p) = u → SRep c st a → HRep c → Inv c0 m c → x.wp cfg.P Q a c.w
 | .seq x y, st, c, a, h, hm, hu, S, H, I => by
   simp only [lateW] at h
   cases hx : opsOf x with
   | some ops =>
     rw [hx] at h
     simp only at h
     obtain ⟨id, rfl⟩ := opsOf_some hx
     cases hall : (ops.toList.all fun o => dstNe p o.dst) with
     | false => rw [hall] at h; exact h.elim
     | true =>
       rw [hall] at h
       simp only at h
       have hJ : ∀ o ∈ ops.toList, ∀ (a : Act) v, a.eval (.tmp p) = u → (a.put o.dst v).eval (.tmp p) = u := fun o ho a v e => ((put_ne (List.all_eq_true.1 hall o ho) a v).1).trans e
       have := opsW_soundJ T (J := fun a => a.eval (.tmp p) = u) hJ (K := fun st' => lateW cfg p kr KP y st' ∧ st'.m = st.m) (KP := fun d st' => KP d st' ∧ st'.m = st.m) (c0 := c0) (m := m) (Q := Exit.then (y.wp cfg.P Q) Q) h0
        (fun st' c' a' hk hu' S' H' I' => lateW_sound T hD h0 hR hP y hk.1 (hk.2.trans hm) hu' S' H' I') (fun d st' c' a' p hk hu' S' H' I' hd => hP d st' c' a' p hk.1 (hk.2.trans hm) hu' S' H' I' hd) ops.toList 0 (by simp) hu S H I (opsW_m hD _ _ _ h)
       refine wp_seq (wp_region ?_)
       rw [List.range_eq_range']
       simpa using this
   | none =>
     rw [hx] at h
     exact late_code T hD h0 hR _ h hm S H I
 | .skip, st, c, a, h, hm, hu, S, H, I | .label _, st, c, a, h, hm, hu, S, H, I | .region _ _ _, st, c, a, h, hm, hu, S, H, I | .cond _ _ _, st, c, a, h, hm, hu, S, H, I | .block _ _, st, c, a, h, hm, hu, S, H, I | .loop _, st, c, a, h, hm, hu, S, H, I
 | .exit _, st, c, a, h, hm, hu, S, H, I | .ret, st, c, a, h, hm, hu, S, H, I | .rangeFunc _ _ _ _, st, c, a, h, hm, hu, S, H, I | .scope _, st, c, a, h, hm, hu, S, H, I | .goto _, st, c, a, h, hm, hu, S, H, I | .refuse _, st, c, a, h, hm, hu, S, H, I => by
   simp only [lateW] at h
   exact late_code T hD h0 hR _ h hm S H I
end
theorem ret_run {cfg : Cfg} {fn : Func} {c0 c : Cx} {k kp : D → List Blk → Prop} {m : Nat} (hm0 : m = nBoxes c0.hp) {st : St} {tmps : Array Value} (h : retW cfg fn k st) (hm : st.m = m) (R : RepL c st.tmps tmps.toList) (hh : c.hp = st.hp) (H : HRep c) (I : Inv c0 m c) :
 ∃ v, (Go.results fn tmps).run cfg.P c.w = .ok v c.w ∧ Post c0 k kp (.returned v) c.w := by
 subst hm0
 unfold retW at h
 obtain ⟨ds, us, h, g1, g2⟩ := results_run H R hh (P := cfg.P) _ h
 rw [← hm] at I
 obtain ⟨ds', c2, f1, f2, f3, f4, f5⟩ := goW_sound h hh g1 H I
 have hrun : (Go.results fn tmps).run cfg.P c.w = .ok (if h : us.toArray.size = 1 then us.toArray[0] else .tuple us.toArray) c.w := by
  unfold Go.results
  rw [Array.mapM_eq_mapM_toList]
  simp
  rw [g2 _ (fun t => by simp) (fun t ty => by simp)]
  rfl
 refine ⟨_, hrun, oneOf ds', c2, f2, f1, ?_, f4, by rw [← hm]; exact f5⟩
 have hl := RepL_length f3
 split
 ·rename_i h1
  simp at h1
  obtain ⟨u, rfl⟩ := List.length_eq_one_iff.1 h1
  obtain ⟨d, rfl⟩ := List.length_eq_one_iff.1 (hl.symm.trans h1)
  simp only [RepL] at f3
  obtain ⟨u', us', e, f3, rfl⟩ := f3
  cases e
  exact f3
 ·rename_i h1
  simp at h1
  have : oneOf ds' = .tup ds' := by
   unfold oneOf
   split
   ·simp at hl; omega
   ·rfl
  rw [this]
  simp only [Rep]
  exact ⟨us, rfl, f3⟩
structure Catch (P : Program) (f : FuncId) (ty tx : TypeId) : Prop where
 idle : ∀ (u : Value) (w : World), CallsD P f #[u] .returning w fun e u' w' => e = .returned (.tuple #[]) ∧ u' = .returning ∧ w' = w
 got : ∀ (u v : Value) (w : World), (v = .nilIface ∨ ∃ t x, v = .iface t x) → ∃ w1, Below w.heap.size w w1 ∧ ∀ w', (Instr.storeAt ty u v).run P w1 = .ok () w' →
  CallsD P f #[u] (.panicking [{ v := .iface tx (.agg #[v]), recovered := false }]) w fun e u' w2 => e = .returned (.tuple #[]) ∧ u' = .panicking [{ v := .iface tx (.agg #[v]), recovered := true }] ∧ w2 = w'
def Puts (P : Program) (f : FuncId) (p : Tmp) (x : Code) : Prop := ∀ (Q : Exit → Act → World → Prop) (a : Act) (w : World), a.defers = [] → Q .normal { a with defers := [⟨.fn (.func f) #[], #[a.eval (.tmp p)]⟩] } w → x.wp P Q a w
theorem puts_of {P : Program} {g : FuncId} {p : Tmp} {x : Code} (h : opPuts g p x = true) : Puts P g p x := by
 unfold opPuts at h
 split at h
 ·rename_i id ops
  split at h
  ·rename_i o ho
   split at h
   ·rename_i cl hcl
    simp only [Bool.and_eq_true] at h
    obtain ⟨⟨⟨h1, h2⟩, h3⟩, h4⟩ := h
    split at h1
    ·rename_i f hf
     split at h2
     ·rename_i tt ht
      have h1 := Nat.eq_of_beq_eq_true h1
      have h2 := Nat.eq_of_beq_eq_true h2
      subst h1; subst h2
      intro Q a w hd hq
      refine wp_region ?_
      have hs : ops = #[o] := by
       apply Array.ext'
       simpa using ho
      subst hs
      have hw : o.guard = none := by simpa using h4
      have hdst : o.dst = none := by simpa using h3
      have hargs : cl.args = #[.tmp tt] := by
       apply Array.ext'
       simpa using ht
      have hrun : (execOp a.eval o).run P w = .ok (.defer ⟨.fn (.func f) #[], #[a.eval (.tmp tt)]⟩) w := by
       unfold execOp
       simp [hcl, resolve, hf, Deferred.ofValue, hargs, Act.eval]
      have hput : ({ a with defers := ⟨.fn (.func f) #[], #[a.eval (.tmp tt)]⟩ :: a.defers } : Act).put o.dst undef = { a with defers := [⟨.fn (.func f) #[], #[a.eval (.tmp tt)]⟩] } := by
       rw [hdst, hd]; rfl
      show wpOps P #[o] Q [0] a w
      unfold wpOps
      have h0 : (#[o] : Array Oper)[0]? = some o := rfl
      rw [h0]
      simp only [Region.wanted, hw, if_true]
      refine .inl ?_
      unfold Oper.wp
      rw [hrun, Oper.upon_defer, hput]
      exact hq
     ·cases h2
    ·cases h1
   ·cases h
  ·cases h
 ·cases h
theorem funD_sound {cfg : Cfg} (T : TblOk cfg) (hD : DetOk cfg) {f g : FuncId} {fn : Func} (hf : cfg.P.funcs[f]? = some fn) {ty tx : TypeId} {p : Tmp} (hC : Catch cfg.P g ty tx) (hg : FuncOk cfg.P g)
 (hd : ∀ c, fn.body = some c → ((spine c).all fun x => !isDefer x || opPuts g p x) = true) : SoundF cfg.P cfg.tf cfg.tw f (funD cfg fn ty tx p) := by
 intro c args us k kp h0 R H h
 unfold funD at h
 cases hb : fn.body with
 | none => rw [hb] at h; exact h.elim
 | some code =>
   rw [hb] at h
   simp only at h
   have S0 : @SRep ⟨⟨[]⟩⟩ c { tmps := args ++ List.replicate (fn.ntmps - args.length) (.v undef), hp := c.hp, m := nBoxes c.hp } { tmps := us.toArray ++ Array.replicate (fn.ntmps - us.toArray.size) undef, defers := [] } := by
    refine @SRep.mk ⟨⟨[]⟩⟩ _ _ _ ?_ rfl rfl
    simp only [Array.toList_append, Array.toList_replicate, List.size_toArray]
    refine RepL_append R ?_
    rw [RepL_length R]
    have : ∀ n, RepL c (List.replicate n (D.v undef)) (List.replicate n undef) := by
     intro n
     induction n with
     | zero => simp [RepL]
     | succ n ih =>
       simp only [List.replicate_succ, RepL]
       exact ⟨_, _, rfl, undef_rep c, ih⟩
    exact this _
   refine calls_of_wp_defers hf hb ?_
   refine @preW_sound ⟨⟨[]⟩⟩ cfg c (nBoxes c.hp) T hD h0 _ _ _ ?_ (fun x => (!isDefer x || opPuts g p x) = true) ?_ code (List.all_eq_true.1 (hd _ hb)) _ _ _ h rfl S0 H (Inv.start c _ (nBoxes_le _))
   ·intro st c' a h hm S H' I'
    letI : Inhabited Dfr := ⟨⟨[]⟩⟩
    have e : a.defers = [] := S.defers
    obtain ⟨v, h1, h2⟩ := ret_run (kp := kp) rfl h hm S.tmps S.hp H' I'
    show Leaves cfg.P fn a.tmps _ a.defers .returning c'.w
    rw [e]
    exact ⟨v, h1, h2⟩
   ·intro x y st c' a hF hx h hm S H' I'
    have hput : Puts cfg.P g p x := puts_of (by rw [hx] at hF; simpa using hF)
    have e : a.defers = [] := @SRep.defers ⟨⟨[]⟩⟩ _ _ _ S
    have St := @SRep.tmps ⟨⟨[]⟩⟩ _ _ _ S
    have Sh := @SRep.hp ⟨⟨[]⟩⟩ _ _ _ S
    refine wp_seq (hput _ _ _ e ?_)
    obtain ⟨gn, hg1, hg2, hg3⟩ := hg
    let ds : List Deferred := [⟨.fn (.func g) #[], #[a.eval (.tmp p)]⟩]
    have hinv : ∀ (u : Value) (w : World), (invoke (.fn (.func g) #[]) #[u]).run cfg.P w = .ok (.enter g #[u]) w := by
     intro u w
     have n1 : ¬ gn.name = "runtime.NumGoroutine" := by simpa using hg2
     have n2 : ¬ gn.body = none := by
      intro e; rw [e] at hg3; cases hg3
     simp [invoke, callFunc, hg1, n1, n2]
    have S1 : @SRep ⟨⟨ds⟩⟩ c' st { a with defers := ds } := @SRep.mk ⟨⟨ds⟩⟩ _ _ _ St Sh rfl
    letI : Inhabited Dfr := ⟨⟨ds⟩⟩
    refine @lateW_sound ⟨⟨ds⟩⟩ cfg c (nBoxes c.hp) T hD h0 p (a.eval (.tmp p)) _ _ _ ?_ ?_ y _ _ _ h hm rfl S1 H' I'
    ·intro st2 c2 a2 h hm S2 H2 I2
     have e2 : a2.defers = ds := S2.defers
     obtain ⟨v, h1, h2⟩ := ret_run (kp := kp) rfl h hm S2.tmps S2.hp H2 I2
     have : Leaves cfg.P fn a2.tmps (Post c k kp) a2.defers .returning c2.w := by
      rw [e2]
      refine leaves_cons (by simp) (hinv _ _) ((hC.idle _ _).mono ?_)
      rintro e u' w' ⟨rfl, rfl, rfl⟩
      exact ⟨v, h1, h2⟩
     exact ⟨this, this⟩
    ·intro d st2 c2 a2 pv hk hm hu S2 H2 I2 hd2
     have e2 : a2.defers = ds := S2.defers
     unfold catW at hk
     split at hk
     ·rename_i t er
      split at hk
      ·rename_i ht
       have ht := Nat.eq_of_beq_eq_true ht
       subst ht
       simp only [Rep, RepE] at hd2
       obtain ⟨v, rfl, hv⟩ := hd2
       obtain ⟨w1, hb1, hc1⟩ := hC.got (a.eval (.tmp p)) v c2.w (by
        rcases hv.isNil with ⟨_, h⟩ | ⟨_, t, x, h⟩
        ·exact .inl h
        ·exact .inr ⟨t, x, h⟩)
       obtain ⟨H3, S3⟩ := pureT_cx H2 hb1
       have hp := opd_rep S2.tmps (.tmp p)
       rw [hu] at hp
       obtain ⟨c4, r4, h4, H4, S4⟩ := storeW_out (by rw [← S2.hp] at hk; exact hk) (hp.mono S3.le) (show Rep _ (.er er) v by simp only [Rep]; exact (show Rep c2 (.er er) v by simp only [Rep]; exact hv).mono S3.le) H3
       have I4 := (I2.step S3).step S4
       obtain ⟨v5, h5, h6⟩ := ret_run (kp := kp) (tmps := a2.tmps) rfl h4 hm ((S2.tmps.mono S3.le).mono S4.le) rfl H4 I4
       show Leaves cfg.P fn a2.tmps _ a2.defers _ c2.w
       rw [e2]
       refine leaves_cons (by simp) (hinv _ _) ((hc1 _ r4).mono ?_)
       rintro e u' w' ⟨rfl, rfl, rfl⟩
       exact ⟨v5, h5, h6⟩
      ·exact hk.elim
     ·exact hk.elim
theorem funD_det {cfg : Cfg} (hD : DetOk cfg) (fn : Func) (ty tx : TypeId) (p : Tmp) : DetE (funD cfg fn ty tx p) := by
 intro args blks k kp h
 unfold funD at h ⊢
 cases hb : fn.body with
 | none => rw [hb] at h; exact h.elim
 | some code =>
   rw [hb] at h
   simp only at h ⊢
   have ret : ∀ {st : St}, retW cfg fn k st → ∃ d b, k d b ∧ ∀ k' : D → List Blk → Prop, k' d b → retW cfg fn k' st := by
    intro st h1
    unfold retW at h1 ⊢
    obtain ⟨ds, h1, hr⟩ := resultsW_one cfg.P st _ _ h1
    obtain ⟨ds', bs, g1, g2⟩ := goW_one h1
    exact ⟨_, _, g1, fun k' h' => hr _ (g2 _ h')⟩
   have fin : ∀ (y : Code) (st : St), endW cfg (retW cfg fn k) y st → ∃ d b, k d b ∧ ∀ k' : D → List Blk → Prop, k' d b → endW cfg (retW cfg fn k') y st := by
    intro y st h
    obtain ⟨e, st1, h1, h2⟩ := codeW_one hD y st _ h
    cases e with
    | normal => obtain ⟨d, b, g1, g2⟩ := ret h1; exact ⟨d, b, g1, fun k' h' => h2 _ (g2 _ h')⟩
    | ret => obtain ⟨d, b, g1, g2⟩ := ret h1; exact ⟨d, b, g1, fun k' h' => h2 _ (g2 _ h')⟩
    | panic d => exact h1.elim
    | exit id => exact h1.elim
    | goto l => exact h1.elim
   have late : ∀ (y : Code) (st : St), lateW cfg p (retW cfg fn k) (catW cfg.P ty tx p (retW cfg fn k)) y st → ∃ d b, k d b ∧ ∀ k' : D → List Blk → Prop, k' d b → lateW cfg p (retW cfg fn k') (catW cfg.P ty tx p (retW cfg fn k')) y st := by
    intro y
    induction y with
    | seq x y _ ih =>
      intro st h
      simp only [lateW] at h ⊢
      cases hx : opsOf x with
      | none => rw [hx] at h; simp only at h ⊢; exact fin _ _ h
      | some ops =>
        rw [hx] at h
        simp only at h ⊢
        cases hall : (ops.toList.all fun o => dstNe p o.dst) with
        | false => rw [hall] at h; exact h.elim
        | true =>
          rw [hall] at h
          simp only at h ⊢
          rcases opsW_two hD false ops _ st _ _ h with ⟨st', h1, _, _, h2⟩ | ⟨_, d, st', h1, _, h2⟩
          ·obtain ⟨d, b, g1, g2⟩ := ih _ h1
           exact ⟨d, b, g1, fun k' h' => h2 _ _ (g2 _ h')⟩
          ·unfold catW at h1
           split at h1
           ·rename_i t er
            split at h1
            ·rename_i ht
             obtain ⟨hp, g1, g2⟩ := storeW_one _ _ _ _ _ _ h1
             obtain ⟨d, b, k1, k2⟩ := ret g1
             refine ⟨d, b, k1, fun k' h' => h2 _ _ ?_⟩
             unfold catW
             simp only [ht]
             exact g2 _ (k2 _ h')
            ·exact h1.elim
           ·exact h1.elim
    | _ => intro st h; simp only [lateW] at h ⊢; exact fin _ _ h
   suffices ∀ (x : Code) (st : St), preW cfg (retW cfg fn k) (fun _ y st => lateW cfg p (retW cfg fn k) (catW cfg.P ty tx p (retW cfg fn k)) y st) x st →
    ∃ d b, k d b ∧ ∀ k' : D → List Blk → Prop, k' d b → preW cfg (retW cfg fn k') (fun _ y st => lateW cfg p (retW cfg fn k') (catW cfg.P ty tx p (retW cfg fn k')) y st) x st by
    obtain ⟨d, b, g1, g2⟩ := this _ _ h
    exact .inl ⟨d, b, g1, fun k' kp' h' => g2 _ h'⟩
   intro x
   induction x with
   | seq x y _ ih =>
     intro st h
     simp only [preW] at h ⊢
     cases hx : isDefer x with
     | true => rw [hx] at h; simp only at h ⊢; exact late _ _ h
     | false =>
       rw [hx] at h
       simp only at h ⊢
       obtain ⟨e, st1, h1, h2⟩ := codeW_one hD x st _ h
       cases e with
       | normal =>
         obtain ⟨st2, c1, c2⟩ := canonW_one _ _ _ h1
         obtain ⟨d, b, g1, g2⟩ := ih _ c1; exact ⟨d, b, g1, fun k' h' => h2 _ (c2 _ (g2 _ h'))⟩
       | ret => obtain ⟨d, b, g1, g2⟩ := ret h1; exact ⟨d, b, g1, fun k' h' => h2 _ (g2 _ h')⟩
       | panic d => exact h1.elim
       | exit id => exact h1.elim
       | goto l => exact h1.elim
   | _ => intro st h; simp only [preW] at h
theorem funD_ok {cfg : Cfg} (hty : TyOk cfg) (heq : EqOk cfg) (hm : cfg.P.follows .mixedOrders = true) (hE : ∀ f en, cfg.E f = some en → EntOk cfg.P cfg.tf cfg.tw f en) {f g : FuncId} {fn : Func} {ty tx : TypeId} {p : Tmp}
 (hf : cfg.P.funcs[f]? = some fn) (hn : (fn.name == "runtime.NumGoroutine") = false) (hb : fn.body.isNone = false) (hC : Catch cfg.P g ty tx) (hg : FuncOk cfg.P g)
 (hd : ∀ c, fn.body = some c → ((spine c).all fun x => !isDefer x || opPuts g p x) = true) : EntOk cfg.P cfg.tf cfg.tw f (funD cfg fn ty tx p) := by
 have hD : DetOk cfg := fun f en h => (hE f en h).det
 exact ⟨funD_det hD fn ty tx p, funD_sound ⟨hty, heq, callOk fun f en h => ⟨(hE f en h).sound, (hE f en h).body⟩, hm⟩ hD hf hC hg hd, fn, hf, hn, hb⟩
end Go.Aw
