/- ParseInside: what is wrong with a text stands at a place of it, and what stands ahead of that can be gone on with. -/
import Derived.Test.YtlmojaagfmhejaaGreatDoorPIn3
import Derived.Test.YtlmojaagfmhejaaGreatDoorPIn0
import Derived.Test.YtlmojaagfmhejaaGreatDoorPIn1
import Derived.Test.YtlmojaagfmhejaaGreatDoorT3
import Derived.Tactics
import Derived.Tactics2
import Derived.Test.YtlmojaagfmhejaaGreatDoorPIn2
import Derived.Test.YtlmojaagfmhejaaGreatDoorCards
import Derived.Test.YtlmojaagfmhejaaGreatDoorTie
import Derived.SevenTiedAt
import Derived.Deep.DeepHandedRow
import Derived.Test.YtlmojaagfmhejaaGreatDoorRows
import Derived.Test.YtlmojaagfmhejaaGreatDoorT2
import Derived.WalkKit
import Derived.ProofKit
import Derived.OpenShut
import Derived.ShutString
import Derived.ChangeOld
import Derived.Below
import Derived.SizedLaws
import Derived.Deep.CondSized
set_option linter.unusedVariables false
set_option linter.unusedSimpArgs false
set_option linter.unusedSectionVars false
set_option maxRecDepth 100000
set_option maxHeartbeats 4000000
namespace Go.Aw
open Go Go.RowKit
variable {α β : Type}
theorem bind_eq (p : Psr α) (f : α → Psr β) (l : List LTok) (i : Nat) : p.bind f l i = match p l i with
 | .ok a j => f a l j
 | .bad c q => .bad c q := rfl
theorem late_many {c : Psr Bool} {p : Psr α} (hc : Stay c) (hcl : Late c) (hp : Step p) (hpl : Late p) : Late (manyP c p) := by
 intro l T
 have key : ∀ (n i : Nat), l.length - i ≤ n → ∀ e q, i < l.length → manyP c p l i = .bad e q → e ≠ 0 ∧ ∃ r, i ≤ r ∧ r < l.length ∧ q = (tokAt l r).pos := by
  intro n
  induction n with
  | zero => intro i h1 e q h2; omega
  | succ n ih =>
    intro i h1 e q hi h
    rw [many_eq hc hp T hi] at h
    rcases bind_bad h with h | ⟨b, j, h2, h⟩
    ·exact hcl l T i e q hi h
    ·obtain ⟨g1, g2⟩ := hc l T i b j hi h2
     cases b with
     | false => cases h
     | true =>
       simp only [if_true] at h
       rcases bind_bad h with h | ⟨a, m, h3, h⟩
       ·obtain ⟨k1, r, k2, k3⟩ := hpl l T j e q g2 h
        exact ⟨k1, r, Nat.le_trans g1 k2, k3⟩
       ·obtain ⟨g3, g4⟩ := hp l T j a m g2 h3
        rcases bind_bad h with h | ⟨_, _, _, h⟩
        ·obtain ⟨k1, r, k2, k3⟩ := ih m (by omega) e q g4 h
         exact ⟨k1, r, by omega, k3⟩
        ·cases h
 exact fun i e q hi h => key _ i (Nat.le_refl _) e q hi h
def UL (c : Psr Bool) (p : Psr α) : Prop := ∀ l, LexP l → Inc l → ∀ j i, j < l.length → i ≤ j →
 c (cut l j) i = c l i ∨ c (cut l j) i = .bad 20 (tokAt l j).pos ∨ (∃ m, i ≤ m ∧ m ≤ j ∧ c (cut l j) i = .ok true m ∧ p (cut l j) m = .bad 20 (tokAt l j).pos) ∨ Beyond l j (c l i) ∨ ∃ m, m < l.length ∧ c l i = .ok true m ∧ Beyond l j (p l m)
theorem pre_many {c : Psr Bool} {p : Psr α} (hc : Stay c) (hcl : Late c) (hp : Step p) (hpl : Late p) (hP : Pre p) (U : UL c p) : Pre (manyP c p) := by
 intro l T hI j
 have LM := late_many hc hcl hp hpl
 have SM := stay_manyP hc hp.stay
 have SF : ∀ a, Stay ((manyP c p).bind fun r => Psr.ret (a :: r)) := fun a => stay_bind SM fun _ => stay_ret _
 have LF : ∀ a, Late ((manyP c p).bind fun r => Psr.ret (a :: r)) := fun a => late_bind SM LM fun _ => late_ret _
 have SG : ∀ b : Bool, Stay (if b = true then p.bind fun a => (manyP c p).bind fun r => Psr.ret (a :: r) else Psr.ret []) := fun b => by
  split
  ·exact stay_bind hp.stay SF
  ·exact stay_ret _
 have LG : ∀ b : Bool, Late (if b = true then p.bind fun a => (manyP c p).bind fun r => Psr.ret (a :: r) else Psr.ret []) := fun b => by
  split
  ·exact late_bind hp.stay hpl LF
  ·exact late_ret _
 have key : ∀ (n i : Nat), j - i ≤ n → j < l.length → i ≤ j → manyP c p (cut l j) i = .bad 20 (tokAt l j).pos ∨ manyP c p (cut l j) i = manyP c p l i ∨ Beyond l j (manyP c p l i) := by
  intro n
  induction n with
  | zero =>
    intro i h1 hj hij
    have : i = j := by omega
    subst this
    have hcl2 := cut_len hj
    rw [many_eq hc hp (cut_ok T hj) (by omega), many_eq hc hp T (show i < l.length by omega)]
    rcases U l T hI i i hj hij with h | h | ⟨m, h0, h0', h, h2⟩ | h | ⟨m, h0, h, h2⟩
    ·cases e : c l i with
     | bad q r => right; left; rw [bind_eq, bind_eq, h, e]
     | ok b m =>
       have e' := h.trans e
       have hm := hc _ (cut_ok T hj) i b m (by omega) e'
       rw [bind_eq, bind_eq, e', e]
       dsimp only
       cases b with
       | false => right; left; rfl
       | true =>
         simp only [if_true]
         have hmi : m = i := by omega
         subst hmi
         rcases hP l T hI m m hj (Nat.le_refl _) with k | k | k
         ·left; rw [bind_eq, k]
         ·cases ep : p l m with
          | bad q r => right; left; rw [bind_eq, bind_eq, k, ep]
          | ok a m2 =>
            have := hp _ (cut_ok T hj) m a m2 (by omega) (k.trans ep)
            omega
         ·right; right; exact beyond_bind SF LF hp.stay T hI hj k
    ·left; rw [bind_eq, h]
    ·left
     rw [bind_eq, h]
     dsimp only
     rw [if_pos rfl, bind_eq, h2]
    ·right; right; exact beyond_bind SG LG hc T hI hj h
    ·right; right
     rw [bind_eq, h]
     dsimp only
     rw [if_pos rfl]
     exact beyond_bind SF LF hp.stay T hI h0 h2
  | succ n ih =>
    intro i h1 hj hij
    have hcl2 := cut_len hj
    rw [many_eq hc hp (cut_ok T hj) (by omega), many_eq hc hp T (show i < l.length by omega)]
    rcases U l T hI j i hj hij with h | h | ⟨m, h0, h0', h, h2⟩ | h | ⟨m, h0, h, h2⟩
    ·cases e : c l i with
     | bad q r => right; left; rw [bind_eq, bind_eq, h, e]
     | ok b m =>
       have e' := h.trans e
       have hm := hc _ (cut_ok T hj) i b m (by omega) e'
       rw [bind_eq, bind_eq, e', e]
       dsimp only
       cases b with
       | false => right; left; rfl
       | true =>
         simp only [if_true]
         rcases hP l T hI j m hj (by omega) with k | k | k
         ·left; rw [bind_eq, k]
         ·cases ep : p l m with
          | bad q r => right; left; rw [bind_eq, bind_eq, k, ep]
          | ok a m2 =>
            have ep' := k.trans ep
            have hm2 := hp _ (cut_ok T hj) m a m2 (by omega) ep'
            rw [bind_eq, bind_eq, ep', ep]
            dsimp only
            rcases ih m2 (by omega) hj (by omega) with g | g | g
            ·left; rw [bind_eq, g]
            ·right; left
             rw [bind_eq, bind_eq, g]
             cases manyP c p l m2 <;> rfl
            ·right; right; exact beyond_bind (fun _ => stay_ret _) (fun _ => late_ret _) SM T hI (by omega) g
         ·right; right; exact beyond_bind SF LF hp.stay T hI (by omega) k
    ·left; rw [bind_eq, h]
    ·left
     rw [bind_eq, h]
     dsimp only
     rw [if_pos rfl, bind_eq, h2]
    ·right; right; exact beyond_bind SG LG hc T hI (by omega) h
    ·right; right
     rw [bind_eq, h]
     dsimp only
     rw [if_pos rfl]
     exact beyond_bind SF LF hp.stay T hI h0 h2
 exact fun i hj hij => key _ i (Nat.le_refl _) hj hij
theorem ul_take (s : ByteArray) (p : Psr α) : UL (takeP s) p := by
 intro l T hI j i hj hij
 rcases pre_take s l T hI j i hj hij with h | h | h
 ·exact .inr (.inl h)
 ·exact .inl h
 ·exact .inr (.inr (.inr (.inl h)))
theorem ul_notIs (s : ByteArray) {p : Psr α} (hp : Hard p) : UL (notIs s) p := by
 intro l T hI j i hj hij
 rcases at_or hij with h | rfl
 ·left; unfold notIs; rw [cut_at hj h]
 ·right; right; left
  refine ⟨i, Nat.le_refl _, Nat.le_refl _, ?_, hp l i T hj⟩
  unfold notIs; rw [cut_is hj]; rfl
theorem late_notIs (s : ByteArray) : Late (notIs s) := fun l T i c q hlt h => by cases h
theorem late_isKind (k : Int) : Late (isKind k) := fun l T i c q hlt h => by cases h
theorem late_moreB : Late moreB := fun l T i c q hlt h => by cases h
theorem late_hasRegs : Late hasRegs := fun l T i c q hlt h => by cases h
theorem late_edge : Late edgeP := fun l T i c q hlt h => by
 unfold edgeP at h
 split at h <;> cases h
theorem late_some : Late someP := late_bind step_opnd.stay late_opnd fun _ => late_bind (stay_manyP (stay_take _) step_opnd.stay) (late_many (stay_take _) (late_take _) step_opnd late_opnd) fun _ => late_ret _
theorem pre_some : Pre someP :=
 pre_bind step_opnd.stay pre_opnd (fun _ => stay_bind (stay_manyP (stay_take _) step_opnd.stay) fun _ => stay_ret _) (fun _ => late_bind (stay_manyP (stay_take _) step_opnd.stay) (late_many (stay_take _) (late_take _) step_opnd late_opnd) fun _ => late_ret _)
  fun _ => pre_bind (stay_manyP (stay_take _) step_opnd.stay) (pre_many (stay_take _) (late_take _) step_opnd late_opnd pre_opnd (ul_take _ _)) (fun _ => stay_ret _) (fun _ => late_ret _) fun _ => pre_ret _
structure Fine3 (p : Psr α) : Prop where
 stay : Stay p
 late : Late p
 pre : Pre p
theorem f3_bind {p : Psr α} {f : α → Psr β} (h : Fine3 p) (hf : ∀ a, Fine3 (f a)) : Fine3 (p.bind f) :=
 ⟨stay_bind h.stay fun a => (hf a).stay, late_bind h.stay h.late fun a => (hf a).late, pre_bind h.stay h.pre (fun a => (hf a).stay) (fun a => (hf a).late) fun a => (hf a).pre⟩
theorem f3_ret (a : α) : Fine3 (Psr.ret a) := ⟨stay_ret a, late_ret a, pre_ret a⟩
theorem f3_sign (s : ByteArray) : Fine3 (signP s) := ⟨(step_sign s).stay, late_sign s, pre_sign s⟩
theorem f3_take (s : ByteArray) : Fine3 (takeP s) := ⟨stay_take s, late_take s, pre_take s⟩
theorem f3_kind {k : Int} (hk : k ≠ 0) : Fine3 (kindP k) := ⟨(step_kind hk).stay, late_kind k, pre_kind hk⟩
theorem f3_value : Fine3 valueP := ⟨step_value.stay, late_value, pre_value⟩
theorem f3_opnd : Fine3 opndP := ⟨step_opnd.stay, late_opnd, pre_opnd⟩
theorem f3_some : Fine3 someP := ⟨step_some.stay, late_some, pre_some⟩
theorem f3_ite {b : Bool} {p q : Psr α} (hp : Fine3 p) (hq : Fine3 q) : Fine3 (if b = true then p else q) := by
 split
 ·exact hp
 ·exact hq
theorem f3_any (e : ByteArray) : Fine3 (anyP e) := f3_bind (f3_take _) fun b => f3_ite (f3_ret _) (f3_bind f3_some fun _ => f3_bind (f3_sign _) fun _ => f3_ret _)
theorem f3_label : Fine3 labelP := f3_bind (f3_kind (by decide)) fun t => f3_bind (f3_take _) fun b => f3_ite (f3_bind (f3_kind (by decide)) fun _ => f3_ret _) (f3_ret _)
theorem hard_label : Hard labelP := hard_bind (hard_kind (by decide))
theorem f3_case : Fine3 caseP := f3_bind f3_value fun _ => f3_bind (f3_sign _) fun _ => f3_bind f3_label fun _ => f3_bind (f3_sign _) fun _ => f3_ret _
theorem f3_many {c : Psr Bool} {p : Psr α} (hc : Stay c) (hcl : Late c) (hs : Step p) (hp : Fine3 p) (U : UL c p) : Fine3 (manyP c p) := ⟨stay_manyP hc hp.stay, late_many hc hcl hs hp.late, pre_many hc hcl hs hp.late hp.pre U⟩
theorem f3_cases : Fine3 casesP := f3_bind (f3_sign _) fun _ => f3_bind (f3_many (stay_notIs _) (late_notIs _) step_case f3_case (ul_notIs _ (hard_bind hard_value))) fun _ => f3_bind (f3_sign _) fun _ => f3_bind (f3_sign _) fun _ => f3_bind f3_label fun _ => f3_bind (f3_sign _) fun _ => f3_ret _
theorem f3_places : ∀ n, Fine3 (placesP n)
 | 0 => f3_ret _
 | n + 1 => by
   unfold placesP
   refine f3_bind f3_opnd fun _ => f3_bind ?_ fun _ => f3_bind (f3_places n) fun _ => f3_ret _
   split
   ·exact f3_ret _
   ·exact f3_sign _
theorem hard_places (n : Nat) : Hard (placesP (n + 1)) := by
 unfold placesP
 exact hard_bind hard_opnd
theorem f3_off : Fine3 offP := f3_bind (f3_take _) fun b => f3_ite f3_value (f3_ret _)
theorem f3_rest (o : Int) (d : OpT) : Fine3 (restP o d) := by
 unfold restP
 split
 ·exact f3_bind (f3_kind (by decide)) fun _ => f3_bind (f3_sign _) fun _ => f3_bind (f3_any _) fun _ => f3_ret _
 ·refine f3_bind (f3_places _) fun _ => ?_
  split
  ·exact f3_bind f3_off fun _ => f3_ret _
  ·split
   ·exact f3_bind f3_label fun _ => f3_ret _
   ·split
    ·exact f3_bind (f3_sign _) fun _ => f3_bind f3_label fun _ => f3_bind (f3_sign _) fun _ => f3_bind f3_label fun _ => f3_ret _
    ·split
     ·exact f3_bind f3_cases fun _ => f3_ret _
     ·exact f3_ret _
theorem hard_rest {o : Int} (h1 : 1 ≤ o) (h2 : o ≤ 27) (d : OpT) : Hard (restP o d) := by
 unfold restP
 split
 ·exact hard_bind (hard_kind (by decide))
 ·rename_i h19
  by_cases h20 : o = 20
  ·subst h20
   intro l j hl hj
   show ((placesP 0).bind _) (cut l j) j = _
   unfold placesP
   rw [bind_eq]
   show (labelP.bind _) (cut l j) j = _
   exact hard_bind hard_label l j hl hj
  ·have : ∃ n, opArgs o = n + 1 := by
    unfold opArgs
    rw [if_neg (by omega)]
    split
    ·exact ⟨1, rfl⟩
    ·exact ⟨0, rfl⟩
   obtain ⟨n, hn⟩ := this
   rw [hn]
   exact hard_bind (hard_places n)
variable {α β : Type}
theorem late_dst : Late dstP := by
 intro l T i c q hlt h
 unfold dstP at h
 split at h
 ·cases h
 ·split at h
  ·exact (f3_bind f3_opnd fun _ => f3_bind (f3_sign _) fun _ => f3_ret _).late l T i c q hlt h
  ·cases h; exact ⟨by decide, i, Nat.le_refl _, hlt, rfl⟩
theorem hard_dst : Hard dstP := by
 intro l j T hj
 unfold dstP
 rw [cut_kind hj, if_neg (by decide), if_neg (by decide), cut_pos hj (Nat.le_refl _)]
theorem pre_dst : Pre dstP := by
 intro l T hI j i hj hij
 rcases at_or hij with h | rfl
 ·unfold dstP
  rw [cut_at hj h]
  split
  ·exact .inr (.inl rfl)
  ·split
   ·exact (f3_bind f3_opnd fun _ => f3_bind (f3_sign _) fun _ => f3_ret _).pre l T hI j i hj hij
   ·exact .inr (.inl rfl)
 ·left; exact hard_dst l i T hj
def insP (d : Bool × OpT) : Psr InT := (opP d.1).bind fun o => (restP o d.2).bind fun x => (signP sSemi).bind fun _ => .ret x
theorem op_in {g : Bool} {l : List LTok} {i j : Nat} {o : Int} (h : opP g l i = .ok o j) : 1 ≤ o ∧ o ≤ 27 ∧ j = i + 1 ∧ (tokAt l i).kind = 1 := by
 unfold opP at h
 split at h
 ·rename_i h1
  cases h
  obtain ⟨k1, k2⟩ := h1
  have : opFind (tokAt l i).text = 0 ∨ 1 ≤ opFind (tokAt l i).text ∧ opFind (tokAt l i).text ≤ 27 := opFind_range _
  have := this.resolve_left k2
  exact ⟨this.1, this.2, rfl, k1⟩
 ·cases h
theorem late_op {g : Bool} {l : List LTok} (T : LexP l) {i : Nat} (hi : i < l.length) (hg : g = true ∨ (tokAt l i).kind = 1) {c q : Int} (h : opP g l i = .bad c q) : c ≠ 0 ∧ ∃ r, i ≤ r ∧ r < l.length ∧ q = (tokAt l r).pos := by
 unfold opP at h
 split at h
 ·cases h
 ·cases h
  refine ⟨by decide, ?_⟩
  cases g with
  | true => exact ⟨i, Nat.le_refl _, hi, rfl⟩
  | false => exact ⟨i + 1, Nat.le_succ _, not_last T.last hi (by rw [hg.resolve_left (by decide)]; decide), rfl⟩
theorem f3_behind (o : Int) (d : OpT) : Fine3 ((restP o d).bind fun x => (signP sSemi).bind fun _ => .ret x) := f3_bind (f3_rest o d) fun _ => f3_bind (f3_sign _) fun _ => f3_ret _
theorem late_ins {d : Bool × OpT} {l : List LTok} (T : LexP l) {i : Nat} (hi : i < l.length) (hg : d.1 = true ∨ (tokAt l i).kind = 1) {c q : Int} (h : insP d l i = .bad c q) : c ≠ 0 ∧ ∃ r, i ≤ r ∧ r < l.length ∧ q = (tokAt l r).pos := by
 rcases bind_bad h with h | ⟨o, j, h1, h2⟩
 ·exact late_op T hi hg h
 ·obtain ⟨g1, g2⟩ := step_op d.1 l T i o j hi h1
  obtain ⟨k1, r, k2, k3⟩ := (f3_behind o d.2).late l T j c q g2 h2
  exact ⟨k1, r, by omega, k3⟩
theorem dst_kind {l : List LTok} {i j : Nat} {d : Bool × OpT} (h : dstP l i = .ok d j) : d.1 = true ∨ (tokAt l j).kind = 1 := by
 unfold dstP at h
 split at h
 ·rename_i h1
  cases h; exact .inr h1
 ·split at h
  ·obtain ⟨a, m, h1, h2⟩ := bind_ok h
   obtain ⟨b, m2, h3, h4⟩ := bind_ok h2
   cases h4; exact .inl rfl
  ·cases h
theorem late_instr : Late instrP := by
 intro l T i c q hi h
 rcases bind_bad h with h | ⟨d, j, h1, h2⟩
 ·exact late_dst l T i c q hi h
 ·obtain ⟨g1, g2⟩ := stay_dst l T i d j hi h1
  obtain ⟨k1, r, k2, k3⟩ := late_ins T g2 (dst_kind h1) h2
  exact ⟨k1, r, by omega, k3⟩
theorem ins_word {l : List LTok} (T : LexP l) {j i : Nat} (hj : j < l.length) (hi : i + 1 = j) (d : Bool × OpT) (hd : d.1 = false) : (tokAt l i).kind = 1 → insP d (cut l j) i = .bad 20 (tokAt l j).pos := by
 intro hk
 have hc := cut_at hj (show i < j by omega)
 unfold insP
 rw [bind_eq]
 cases e : opP d.1 (cut l j) i with
 | bad c q =>
   unfold opP at e
   rw [hd, hi] at e
   split at e
   ·cases e
   ·cases e
    dsimp only
    rw [if_neg (by decide), cut_pos hj (Nat.le_refl _)]
 | ok o m =>
   obtain ⟨h1, h2, h3, _⟩ := op_in e
   dsimp only
   rw [h3, hi]
   exact hard_bind (hard_rest h1 h2 _) l j T hj
theorem pre_ins {d : Bool × OpT} {l : List LTok} (T : LexP l) (hI : Inc l) {j i : Nat} (hj : j < l.length) (hij : i ≤ j) (hg : d.1 = true ∨ (tokAt (cut l j) i).kind = 1) :
 insP d (cut l j) i = .bad 20 (tokAt l j).pos ∨ insP d (cut l j) i = insP d l i ∨ Beyond l j (insP d l i) := by
 have hcl := cut_len hj
 rcases at_or hij with h | rfl
 ·have hc := cut_at hj h
  have key : opP d.1 (cut l j) i = opP d.1 l i := by
   unfold opP
   rw [hc]
   split
   ·rfl
   ·congr 1
    split
    ·rw [hc]
    ·exact cut_pos hj (by omega)
  unfold insP
  cases e : opP d.1 l i with
  | bad c q => right; left; rw [bind_eq, bind_eq, key, e]
  | ok o m =>
    obtain ⟨h1, h2, h3, _⟩ := op_in e
    have := (f3_behind o d.2).pre l T hI j m hj (by omega)
    rw [bind_eq, bind_eq, key, e]
    exact this
 ·left
  have h1 : d.1 = true := hg.resolve_right (by rw [cut_kind hj]; decide)
  unfold insP
  rw [bind_eq]
  unfold opP
  rw [if_neg (by rw [cut_kind hj]; exact fun h => absurd h.1 (by decide)), h1]
  dsimp only
  rw [if_pos rfl, cut_pos hj (Nat.le_refl _)]
theorem instr_eq : instrP = dstP.bind insP := rfl
theorem hard_instr : Hard instrP := hard_bind hard_dst
theorem pre_instr : Pre instrP := by
 intro l T hI j i hj hij
 have hcl := cut_len hj
 rw [instr_eq]
 rcases pre_dst l T hI j i hj hij with h | h | h
 ·left; rw [bind_eq, h]
 ·cases e : dstP l i with
  | bad c q => right; left; rw [bind_eq, bind_eq, h, e]
  | ok d m =>
    have e' := h.trans e
    have hm := stay_dst _ (cut_ok T hj) i d m (by omega) e'
    rw [bind_eq, bind_eq, e', e]
    exact pre_ins T hI hj (by omega) (dst_kind e')
 ·right; right
  rw [bind_eq]
  cases e : dstP l i with
  | bad c q => rw [e] at h; exact h
  | ok d m =>
    rw [e] at h
    have h : j < m := h
    have hm := stay_dst _ T i d m (by omega) e
    dsimp only
    cases e2 : insP d l m with
    | ok x m2 =>
      obtain ⟨o, m3, k1, k2⟩ := bind_ok e2
      have := step_op d.1 l T m o m3 hm.2 k1
      have := (f3_behind o d.2).stay l T m3 x m2 this.2 k2
      show j < m2
      omega
    | bad c q =>
      obtain ⟨_, r, r1, r2, rfl⟩ := late_ins T hm.2 (dst_kind e) e2
      exact Int.lt_of_lt_of_le (hI _ _ h hm.2) (inc_le hI r1 r2)
theorem f3_instr : Fine3 instrP := ⟨step_instr.stay, late_instr, pre_instr⟩
theorem bhd_in {l : List LTok} {i : Nat} (h : i + 1 < l.length) : bhd l i = tokAt l (i + 1) := by
 unfold bhd; rw [Nat.min_eq_left (by omega)]
theorem bhd_cut {l : List LTok} {j i : Nat} (hj : j < l.length) (h : i + 1 ≤ j) : bhd (cut l j) i = tokAt (cut l j) (i + 1) := bhd_in (by rw [cut_len hj]; omega)
theorem ul_moreB : UL moreB instrP := by
 intro l T hI j i hj hij
 rcases at_or hij with h | rfl
 ·have hc := cut_at hj h
  rcases at_or h with h2 | h2
  ·left
   unfold moreB headB
   rw [hc, bhd_cut hj h, bhd_in (by omega), cut_at hj h2]
  ·have h2 : i + 1 = j := h2
   have hb : headB (cut l j) i = false := by
    unfold headB
    rw [bhd_cut hj h, h2, cut_is hj, cut_is hj, cut_kind hj]
    simp
   by_cases hl : headB l i = false
   ·left
    unfold moreB
    rw [hb, hl, hc]
   ·have hl : headB l i = true := by simpa using hl
    have hk : (tokAt l i).kind = 1 := by
     unfold headB at hl
     rw [Bool.and_eq_true, decide_eq_true_eq] at hl
     exact hl.1
    by_cases hs : isTk (tokAt l i) sRC = true
    ·left
     unfold moreB
     rw [hc, hs]; rfl
    ·have hs : isTk (tokAt l i) sRC = false := by simpa using hs
     right; right; left
     refine ⟨i, Nat.le_refl _, by omega, ?_, ?_⟩
     ·unfold moreB
      rw [hc, hs, hb]; rfl
     ·rw [instr_eq, bind_eq]
      have e : dstP (cut l j) i = .ok (false, 0, 0, 0, 0) i := by
       unfold dstP
       rw [hc, if_pos hk]
      rw [e]
      exact ins_word T hj h2 _ rfl hk
 ·right; right; left
  refine ⟨i, Nat.le_refl _, Nat.le_refl _, ?_, hard_instr l i T hj⟩
  unfold moreB headB
  rw [cut_is hj, cut_kind hj]; rfl
theorem f3_in : Fine3 inP := f3_bind (f3_take _) fun b => f3_ite (f3_bind f3_some fun _ => f3_bind (f3_sign _) fun _ => f3_ret _) (f3_ret _)
theorem f3_name (e : Bool) : Fine3 (nameP e) := f3_bind (f3_kind (by decide)) fun t => f3_ite (f3_bind (f3_sign _) fun _ => f3_bind (f3_kind (by decide)) fun _ => f3_ret _) (f3_ret _)
def blkP (e : Bool) : Psr BkT := (nameP e).bind fun s => inP.bind fun a => (signP sColon).bind fun _ => (manyP moreB instrP).bind fun c => .ret (s, e, a, c)
theorem f3_blk (e : Bool) : Fine3 (blkP e) := f3_bind (f3_name e) fun _ => f3_bind f3_in fun _ => f3_bind (f3_sign _) fun _ => f3_bind (f3_many stay_moreB late_moreB step_instr f3_instr ul_moreB) fun _ => f3_ret _
theorem block_eq : blockP = edgeP.bind blkP := rfl
theorem late_block : Late blockP := late_bind stay_edge late_edge fun e => (f3_blk e).late
theorem hard_block : Hard blockP := by
 intro l j T hj
 rw [block_eq, bind_eq]
 have e : edgeP (cut l j) j = .ok false j := by
  unfold edgeP
  rw [if_neg (by rw [cut_is hj]; simp)]
 rw [e]
 exact hard_bind (hard_bind (hard_kind (by decide))) l j T hj
theorem pre_block : Pre blockP := by
 intro l T hI j i hj hij
 rcases at_or hij with h | rfl
 ·have hc := cut_at hj h
  rw [block_eq]
  have same : edgeP (cut l j) i = edgeP l i → blockP (cut l j) i = .bad 20 (tokAt l j).pos ∨ blockP (cut l j) i = blockP l i ∨ Beyond l j (blockP l i) := by
   intro e
   rw [block_eq, bind_eq, bind_eq, e]
   cases e2 : edgeP l i with
   | bad c q => exact .inr (.inl rfl)
   | ok b m =>
     have hm : m ≤ j := by
      unfold edgeP at e2
      split at e2 <;> (cases e2; omega)
     exact (f3_blk b).pre l T hI j m hj hm
  rcases at_or h with h2 | h2
  ·refine same ?_
   unfold edgeP
   rw [hc, bhd_cut hj h, bhd_in (by omega), cut_at hj h2]
  ·have h2 : i + 1 = j := h2
   by_cases he : isTk (tokAt l i) sEdge = true ∧ (bhd l i).kind = 1
   ·
    right; right
    rw [bind_eq]
    have e : edgeP l i = .ok true j := by
     unfold edgeP
     rw [if_pos he, h2]
    rw [e]
    dsimp only
    have hk : (tokAt l j).kind = 1 := by rw [← h2, ← bhd_in (by omega)]; exact he.2
    have hj1 := not_last T.last hj (by rw [hk]; decide)
    show Beyond l j (((nameP true).bind _) l j)
    refine beyond_bind (fun _ => (f3_bind f3_in fun _ => f3_bind (f3_sign _) fun _ => f3_bind (f3_many stay_moreB late_moreB step_instr f3_instr ul_moreB) fun _ => f3_ret _).stay) (fun _ => (f3_bind f3_in fun _ => f3_bind (f3_sign _) fun _ => f3_bind (f3_many stay_moreB late_moreB step_instr f3_instr ul_moreB) fun _ => f3_ret _).late) (f3_name true).stay T hI hj ?_
    show Beyond l j (((kindP 1).bind _) l j)
    refine beyond_bind (fun t => (f3_ite (f3_bind (f3_sign _) fun _ => f3_bind (f3_kind (by decide)) fun _ => f3_ret _) (f3_ret _)).stay) (fun t => (f3_ite (f3_bind (f3_sign _) fun _ => f3_bind (f3_kind (by decide)) fun _ => f3_ret _) (f3_ret _)).late) (f3_kind (by decide)).stay T hI hj ?_
    unfold kindP
    rw [if_pos hk]
    exact Nat.lt_succ_self _
   ·refine same ?_
    unfold edgeP
    rw [if_neg he, if_neg]
    rw [bhd_cut hj h, h2, cut_kind hj]
    exact fun h => absurd h.2 (by decide)
 ·left; exact hard_block l i T hj
theorem f3_block : Fine3 blockP := ⟨Aw.step_block.stay, late_block, pre_block⟩
theorem f3_class : Fine3 classP := by
 refine ⟨step_class.stay, fun l T i c q hlt h => ?_, fun l T hI j i hj hij => ?_⟩
 ·unfold classP at h
  split at h
  ·cases h
  ·split at h
   ·cases h
   ·cases h; exact ⟨by decide, i, Nat.le_refl _, hlt, rfl⟩
 ·unfold classP
  rcases at_or hij with h | rfl
  ·rw [cut_at hj h]; exact .inr (.inl rfl)
  ·left
   rw [if_neg (by rw [cut_kind hj]; exact fun h => absurd h.1 (by decide)), if_neg (by rw [cut_kind hj]; exact fun h => absurd h.1 (by decide)), cut_pos hj (Nat.le_refl _)]
theorem f3_reg : Fine3 regP := f3_bind (f3_kind (by decide)) fun _ => f3_bind (f3_sign _) fun _ => f3_bind f3_class fun _ => f3_ret _
theorem reg_beyond {l : List LTok} (T : LexP l) (hI : Inc l) {j : Nat} (hj : j < l.length) (hk : (tokAt l j).kind = 4) : Beyond l j (regP l j) := by
 show Beyond l j (((kindP 4).bind _) l j)
 refine beyond_bind (fun _ => (f3_bind (f3_sign _) fun _ => f3_bind f3_class fun _ => f3_ret _).stay) (fun _ => (f3_bind (f3_sign _) fun _ => f3_bind f3_class fun _ => f3_ret _).late) (f3_kind (by decide)).stay T hI hj ?_
 unfold kindP
 rw [if_pos hk]
 exact Nat.lt_succ_self _
theorem ul_reg : UL (isKind 4) regP := by
 intro l T hI j i hj hij
 rcases at_or hij with h | rfl
 ·left; unfold isKind; rw [cut_at hj h]
 ·by_cases hk : (tokAt l i).kind = 4
  ·right; right; right; right
   exact ⟨i, hj, by unfold isKind; rw [decide_eq_true hk], reg_beyond T hI hj hk⟩
  ·left
   unfold isKind
   rw [cut_kind hj, decide_eq_false hk]; rfl
theorem f3_regs : Fine3 regsP := f3_bind (f3_sign _) fun _ => f3_bind f3_reg fun _ => f3_bind (f3_many (stay_isKind _) (late_isKind _) step_reg f3_reg ul_reg) fun _ => f3_bind (f3_sign _) fun _ => f3_ret _
theorem late_optRegs : Late optRegs := late_bind stay_hasRegs late_hasRegs fun b => (f3_ite f3_regs (f3_ret _)).late
theorem pre_optRegs : Pre optRegs := by
 intro l T hI j i hj hij
 have same : hasRegs (cut l j) i = hasRegs l i → optRegs (cut l j) i = .bad 20 (tokAt l j).pos ∨ optRegs (cut l j) i = optRegs l i ∨ Beyond l j (optRegs l i) := by
  intro e
  unfold optRegs
  rw [bind_eq, bind_eq, e]
  cases e2 : hasRegs l i with
  | bad c q => exact .inr (.inl rfl)
  | ok b m =>
    have hm : m = i := by unfold hasRegs at e2; cases e2; rfl
    subst hm
    exact (f3_ite f3_regs (f3_ret _)).pre l T hI j m hj hij
 rcases at_or hij with h | rfl
 ·have hc := cut_at hj h
  rcases at_or h with h2 | h2
  ·refine same ?_
   unfold hasRegs
   rw [hc, bhd_cut hj h, bhd_in (by omega), cut_at hj h2]
  ·have h2 : i + 1 = j := h2
   by_cases hr : isTk (tokAt l i) sRegs = true ∧ (bhd l i).kind = 4
   ·right; right
    unfold optRegs
    rw [bind_eq]
    have e : hasRegs l i = .ok true i := by
     unfold hasRegs
     rw [hr.1, decide_eq_true hr.2]; rfl
    rw [e]
    dsimp only
    rw [if_pos rfl]
    have hk : (tokAt l j).kind = 4 := by rw [← h2, ← bhd_in (by omega)]; exact hr.2
    unfold regsP
    rw [bind_eq]
    have e2 : signP sRegs l i = .ok () j := by
     unfold signP
     rw [if_pos hr.1, h2]
    rw [e2]
    exact beyond_bind (fun _ => (f3_bind (f3_many (stay_isKind _) (late_isKind _) step_reg f3_reg ul_reg) fun _ => f3_bind (f3_sign _) fun _ => f3_ret _).stay) (fun _ => (f3_bind (f3_many (stay_isKind _) (late_isKind _) step_reg f3_reg ul_reg) fun _ => f3_bind (f3_sign _) fun _ => f3_ret _).late) f3_reg.stay T hI hj (reg_beyond T hI hj hk)
   ·refine same ?_
    unfold hasRegs
    have e1 : (isTk (tokAt l i) sRegs && decide ((bhd l i).kind = 4)) = false := by
     rw [Bool.eq_false_iff]; intro h'; apply hr
     rw [Bool.and_eq_true, decide_eq_true_eq] at h'; exact h'
    rw [e1, bhd_cut hj h, h2, cut_kind hj]
    simp
 ·by_cases hr : isTk (tokAt l i) sRegs = true
  ·by_cases hb : (bhd l i).kind = 4
   ·right; right
    unfold optRegs
    rw [bind_eq]
    have e : hasRegs l i = .ok true i := by
     unfold hasRegs
     rw [hr, decide_eq_true hb]; rfl
    rw [e]
    dsimp only
    rw [if_pos rfl]
    show Beyond l i (((signP sRegs).bind _) l i)
    refine beyond_bind (fun _ => (f3_bind f3_reg fun _ => f3_bind (f3_many (stay_isKind _) (late_isKind _) step_reg f3_reg ul_reg) fun _ => f3_bind (f3_sign _) fun _ => f3_ret _).stay) (fun _ => (f3_bind f3_reg fun _ => f3_bind (f3_many (stay_isKind _) (late_isKind _) step_reg f3_reg ul_reg) fun _ => f3_bind (f3_sign _) fun _ => f3_ret _).late) (f3_sign _).stay T hI hj ?_
    unfold signP
    rw [if_pos hr]
    exact Nat.lt_succ_self _
   ·refine same ?_
    unfold hasRegs
    rw [cut_is hj, decide_eq_false hb, Bool.and_false, Bool.false_and]
  ·refine same ?_
   have hr : isTk (tokAt l i) sRegs = false := by simpa using hr
   unfold hasRegs
   rw [cut_is hj, hr, Bool.false_and, Bool.false_and]
theorem f3_optRegs : Fine3 optRegs := ⟨stay_optRegs, late_optRegs, pre_optRegs⟩
theorem f3_mach : Fine3 machP := f3_bind (f3_take _) fun b => f3_ite (f3_ret _) (f3_bind (f3_sign _) fun _ => f3_ret _)
theorem f3_func : Fine3 funcP := f3_bind f3_mach fun _ => f3_bind (f3_kind (by decide)) fun _ => f3_bind (f3_sign _) fun _ => f3_bind (f3_any _) fun _ => f3_bind (f3_sign _) fun _ => f3_bind f3_optRegs fun _ =>
 f3_bind (f3_many (stay_notIs _) (late_notIs _) Aw.step_block f3_block (ul_notIs _ hard_block)) fun _ => f3_bind (f3_sign _) fun _ => f3_ret _
def digs (m : Nat) : List Int := (dl 20 m).reverse
theorem digs_len (m : Nat) : 1 ≤ (digs m).length ∧ (digs m).length ≤ 20 := by
 unfold digs
 rw [List.length_reverse]
 exact ⟨dl_len_pos 19 m, dl_len_le 20 m⟩
inductive Pc where
 | ws (c : Int) | sg (c : Int) | dd | wd (s : List Int) | nm (j m : Nat) | st (s : List Int) | rem (s : List Int)
deriving DecidableEq
def hdS : List (List Int × Int × Int) := [([], 2, 0), ([37], 4, 0), ([35], 6, 0), ([36, 103], 5, 0), ([36, 120], 5, 1)]
def hdT (j : Nat) : List Int := (hdS.getD j ([], 0, 0)).1
def hdK (j : Nat) : Int := (hdS.getD j ([], 0, 0)).2.1
def hdC (j : Nat) : Int := (hdS.getD j ([], 0, 0)).2.2
def Pc.text : Pc → List Int
 | ws c => [c] | sg c => [c] | dd => [46, 46] | wd s => s | nm j m => hdT j ++ digs m | st s => qputL s | rem s => 47 :: 47 :: (s ++ [10])
def Pc.tok (a : Int) : Pc → List LTok
 | ws _ => [] | rem _ => []
 | sg c => [(7, bytesOf [c], 0, 0, a)]
 | dd => [(7, bytesOf [46, 46], 0, 0, a)]
 | wd s => [(1, bytesOf s, 0, 0, a)]
 | nm j m => [(hdK j, bytesOf (hdT j ++ digs m), w64 m, hdC j, a)]
 | st s => [(3, bytesOf s, 0, 0, a)]
def Pc.good (nx : Option Int) : Pc → Prop
 | ws c => isW c = true
 | sg c => c ∈ signs ∧ (c = 46 → nx ≠ some 46)
 | dd => True
 | wd s => (∃ c r, s = c :: r ∧ isL c = true ∧ ∀ x ∈ r, isS x = true) ∧ s.length ≤ 24 ∧ ∀ x, nx = some x → isS x = false
 | nm j m => j < 5 ∧ m ≤ 2 ^ 63 ∧ (0 < j → m ≤ 2147483647) ∧ ∀ x, nx = some x → ¬ isD x
 | st s => (∀ x ∈ s, isB x) ∧ s.length ≤ 64
 | rem s => (∀ x ∈ s, x ≠ 10)
def Pc.got : Pc → Got
 | ws _ => .bad 0 0 | rem _ => .bad 0 0
 | sg c => ⟨7, [c], 0, 0, 1, 0, 0⟩
 | dd => ⟨7, [46, 46], 0, 0, 2, 0, 0⟩
 | wd s => ⟨1, s, 0, 0, s.length, 0, 0⟩
 | nm j m => ⟨hdK j, hdT j ++ digs m, w64 m, hdC j, (hdT j ++ digs m).length, 0, 0⟩
 | st s => ⟨3, s, 0, 0, (qputL s).length, 0, 0⟩
theorem hdT_pos {j : Nat} (h0 : 0 < j) (h : j < 5) : 0 < (hdT j).length := by
 rcases (by omega : j = 1 ∨ j = 2 ∨ j = 3 ∨ j = 4) with rfl | rfl | rfl | rfl <;> decide
theorem digs_of {l : List Int} (hd : ∀ x ∈ l, isD x) (hne : l ≠ []) (h0 : l.head? = some 48 → l = [48]) (hv : val l ≤ 2 ^ 63) : digs (val l) = l := by
 have hlen : l.length ≤ 20 := by
  cases l with
  | nil => exact absurd rfl hne
  | cons c r =>
    by_cases hc : c = 48
    ·have := h0 (by rw [hc]; rfl)
     rw [this]; decide
    ·have hcD := hd c (by simp)
     unfold isD at hcD
     have := val_ge (c := c) (l := r) (by omega)
     rcases Nat.lt_or_ge r.length 20 with h | h
     ·simp; omega
     ·exfalso
      have h2 : 10 ^ 20 ≤ 10 ^ r.length := Nat.pow_le_pow_right (by decide) h
      have : (10 : Nat) ^ 20 ≤ 2 ^ 63 := Nat.le_trans h2 (Nat.le_trans this hv)
      exact absurd this (by decide)
 have := (dl_of_val l 20 hlen hd hne h0).2
 unfold digs
 rw [this, List.reverse_reverse]
def Told (t : LTok) : Prop := ∃ p : Pc, p.good (some 32) ∧ p.tok t.pos = [t] ∧ (∀ c, p ≠ .ws c) ∧ (∀ s, p ≠ .rem s)
theorem isD_32 : ¬ isD (32 : Int) := by unfold isD; omega
theorem isS_32 : isS (32 : Int) = false := by decide
theorem numS_told {kind cls : Int} {j : Nat} {r : List Int} (hj : j < 5) (hk : hdK j = kind) (hc : hdC j = cls) (hp : r.take (hdT j).length = hdT j) (h : (numS kind (hdT j).length cls r).code = 0) (a : Int) :
 Told ((numS kind (hdT j).length cls r).kind, bytesOf (numS kind (hdT j).length cls r).text, (numS kind (hdT j).length cls r).num, (numS kind (hdT j).length cls r).cls, a) := by
 unfold numS at *
 dsimp only at *
 split at h
 ·simp [Got.bad] at h
 ·rename_i h1
  split at h
  ·simp [Got.bad] at h
  ·rename_i h2
   rw [if_neg h1, if_neg h2]
   dsimp only
   generalize hd : r.drop (hdT j).length = d at *
   have hrd : (d.take (run d)).length = run d := by rw [List.length_take]; have := run_le d; omega
   have hget : r.getD (hdT j).length 0 = d.getD 0 0 := by rw [← hd]; simp [List.getD, List.getElem?_drop]
   have hne : d.take (run d) ≠ [] := by
    intro e
    rw [e] at hrd
    simp at hrd
    exact h1 (.inl hrd.symm)
   have hh0 : (d.take (run d)).head? = some 48 → d.take (run d) = [48] := by
    intro e
    cases hdd : d with
    | nil => rw [hdd] at hne; simp at hne
    | cons x xs =>
      have hrp : 0 < run d := by
       rcases Nat.eq_zero_or_pos (run d) with hz | hz
       ·exact absurd (.inl hz) h1
       ·exact hz
      rw [hdd] at e hrp hrd
      obtain ⟨m, hm⟩ : ∃ m, run (x :: xs) = m + 1 := ⟨run (x :: xs) - 1, by omega⟩
      rw [hm] at e ⊢
      simp at e
      subst e
      have : ¬ 1 < run ((48 : Int) :: xs) := fun h => h1 (.inr ⟨by rw [hget, hdd]; rfl, by rw [hdd]; exact h⟩)
      have : m = 0 := by omega
      subst this
      rfl
   have hv : val (d.take (run d)) ≤ 2 ^ 63 := by
    rcases Nat.lt_or_ge (2 ^ 63) (val (d.take (run d))) with h | h
    ·exact absurd (.inl h) h2
    ·exact h
   have hdg := digs_of (run_isD d) hne hh0 hv
   refine ⟨.nm j (val (d.take (run d))), ⟨hj, hv, fun hj0 => ?_, fun x hx => by cases hx; exact isD_32⟩, ?_, fun c h => Pc.noConfusion h, fun s h => Pc.noConfusion h⟩
   ·rcases Nat.lt_or_ge (2147483647) (val (d.take (run d))) with h | h
    ·exact absurd (.inr ⟨hdT_pos hj0 hj, by omega⟩) h2
    ·exact h
   ·show [(hdK j, bytesOf (hdT j ++ digs (val (d.take (run d)))), w64 (val (d.take (run d))), hdC j, a)] = _
    rw [hdg, hk, hc]
    have : r.take ((hdT j).length + run d) = hdT j ++ d.take (run d) := by
     rw [List.take_add, hp, hd]
    rw [this]
theorem tokS_told {l : List Int} (hl : ∀ x ∈ l, isB x) (h : (tokS l).code = 0) (a : Int) : Told ((tokS l).kind, bytesOf (tokS l).text, (tokS l).num, (tokS l).cls, a) := by
 cases l with
 | nil => simp [tokS, Got.bad] at h
 | cons c r =>
   rcases tokS_cases c with rfl | hL | rfl | rfl | rfl | hD | hS | ⟨h1, h2, h3, h4, h5, h6, h7⟩
   ·rw [tokS_34] at *
    cases hs : scanL 64 (r.length + 1) r 1 [] with
    | mk t ec =>
      obtain ⟨e, code⟩ := ec
      rw [hs] at h
      dsimp only at *
      split at h
      ·rename_i h0
       rw [if_pos h0]
       subst h0
       obtain ⟨g, -, -⟩ := scan_res 64 (r.length + 1) r 1 [] t e 0 (fun x hx => hl x (by simp [hx])) (by simp) (by simp) hs
       rcases g with ⟨_, g1, g2⟩ | ⟨g1, _⟩
       ·exact ⟨.st t, ⟨g2, g1⟩, rfl, fun c h => Pc.noConfusion h, fun s h => Pc.noConfusion h⟩
       ·exact absurd rfl g1
      ·simp [Got.bad] at h; contradiction
   ·rw [tokS_L r hL] at *
    split at h
    ·simp [Got.bad] at h
    ·rename_i h24
     rw [if_neg h24]
     dsimp only
     have hr := runS_le (c :: r)
     have hp := runS_pos (c := c) (r := r) hL
     refine ⟨.wd ((c :: r).take (runS (c :: r))), ⟨?_, ?_, fun x hx => by cases hx; exact isS_32⟩, rfl, fun c h => Pc.noConfusion h, fun s h => Pc.noConfusion h⟩
     ·obtain ⟨m, hm⟩ : ∃ m, runS (c :: r) = m + 1 := ⟨runS (c :: r) - 1, by omega⟩
      refine ⟨c, r.take m, by rw [hm]; rfl, hL, fun x hx => ?_⟩
      obtain ⟨i, hi, rfl⟩ := List.getElem_of_mem hx
      rw [List.length_take] at hi
      have := runS_in (l := c :: r) (i := 0) (j := i + 1) (by rw [List.drop_zero]; omega)
      rw [Nat.zero_add] at this
      rw [List.getElem_take]
      simpa [List.getD, List.getElem?_eq_getElem (show i < r.length by omega)] using this
     ·rw [List.length_take]; omega
   ·rw [tokS_37] at *; exact numS_told (j := 1) (by decide) rfl rfl rfl h a
   ·rw [tokS_35] at *; exact numS_told (j := 2) (by decide) rfl rfl rfl h a
   ·rw [tokS_36] at *
    split at h
    ·rename_i h1; rw [if_pos h1]
     obtain ⟨r, rfl⟩ : ∃ q, r = 103 :: q := by
      cases r with
      | nil => simp at h1
      | cons x q => simp at h1; subst h1; exact ⟨q, rfl⟩
     exact numS_told (j := 3) (by decide) rfl rfl rfl h a
    ·rename_i h1; rw [if_neg h1]
     split at h
     ·rename_i h1; rw [if_pos h1]
      obtain ⟨r, rfl⟩ : ∃ q, r = 120 :: q := by
       cases r with
       | nil => simp at h1
       | cons x q => simp at h1; subst h1; exact ⟨q, rfl⟩
      exact numS_told (j := 4) (by decide) rfl rfl rfl h a
     ·simp [Got.bad] at h
   ·rw [tokS_D r hD] at *; exact numS_told (j := 0) (by decide) rfl rfl rfl h a
   ·rw [tokS_S r hS] at *
    split
    ·exact ⟨.dd, trivial, rfl, fun c h => Pc.noConfusion h, fun s h => Pc.noConfusion h⟩
    ·exact ⟨.sg c, ⟨hS, fun _ => by decide⟩, rfl, fun c h => Pc.noConfusion h, fun s h => Pc.noConfusion h⟩
   ·rw [tokS_no r h1 h2 h3 h4 h5 h6 h7] at h; simp [Got.bad] at h
theorem lexS_told : ∀ (f : Nat) (l : List Int) (a : Int) (out : List LTok), (∀ x ∈ l, isB x) → (lexS f l a out).2.1 = 0 → ∃ ts p, (lexS f l a out).1 = out ++ ts ++ [(0, ByteArray.mk #[], 0, 0, p)] ∧ ∀ t ∈ ts, Told t
 | 0, l, a, out, _, h => by unfold lexS at h; exact absurd h (by simp)
 | f + 1, l, a, out, hl, h => by
   unfold lexS at h ⊢
   cases l with
   | nil => exact ⟨[], a, by simp, fun t ht => by cases ht⟩
   | cons c r =>
     dsimp only at h ⊢
     split at h
     ·rename_i h1; rw [if_pos h1]; exact lexS_told f r _ _ (fun x hx => hl x (by simp [hx])) h
     ·rename_i h1; rw [if_neg h1]
      split at h
      ·rename_i h2; rw [if_pos h2]; exact lexS_told f _ _ _ (fun x hx => hl x (List.mem_of_mem_drop hx)) h
      ·rename_i h2; rw [if_neg h2]
       split at h
       ·rename_i h3; exact absurd h h3
       ·rename_i h3; rw [if_neg h3]
        obtain ⟨ts, p, e, ht⟩ := lexS_told f _ _ _ (fun x hx => hl x (List.mem_of_mem_drop hx)) h
        refine ⟨_ :: ts, p, by rw [e]; simp only [List.append_assoc, List.singleton_append, List.cons_append]; rfl, fun t htt => ?_⟩
        rcases List.mem_cons.1 htt with rfl | htt
        ·exact tokS_told hl (by simpa using h3) a
        ·exact ht t htt
theorem lexAll_told {l : List Int} (hl : ∀ x ∈ l, isB x) (h : (lexAll l).2.1 = 0) : ∃ ts p, (lexAll l).1 = ts ++ [(0, ByteArray.mk #[], 0, 0, p)] ∧ ∀ t ∈ ts, Told t := by
 unfold lexAll at *
 split at h
 ·exact absurd h (by simp)
 ·rename_i h1
  rw [if_neg h1]
  obtain ⟨ts, p, e, ht⟩ := lexS_told _ _ _ _ hl h
  exact ⟨ts, p, by simpa using e, ht⟩
end Go.Aw
namespace Go.Aw
open Go Go.RowKit Go.Proofs
variable {P : Program} {tf tw : TypeId}
end Go.Aw
namespace Go.Aw
open Go Go.RowKit
structure TokOk (t : LTok) : Prop where
 kind : t.kind ≠ 0
 num : in64 t.num
 txt : t.text.size ≤ 64
 word : t.kind = 1 → ∃ c r, t.text = bytesOf (c :: r) ∧ isL c = true ∧ ∀ x ∈ r, isS x = true
theorem told_ok {t : LTok} (h : Told t) : TokOk t := by
 obtain ⟨p, hg, ht, h1, h2⟩ := h
 generalize t.pos = a at ht
 cases p with
 | ws c => exact absurd rfl (h1 c)
 | rem s => exact absurd rfl (h2 s)
 | sg c =>
   simp only [Pc.tok, List.cons.injEq, and_true] at ht
   subst ht
   exact ⟨show (7 : Int) ≠ 0 by decide, (show in64 0 from ⟨by decide, by decide⟩), by show (bytesOf [c]).size ≤ 64; rw [bytesOf_size]; exact show (1 : Nat) ≤ 64 by decide, fun h => absurd (show (7 : Int) = 1 from h) (by decide)⟩
 | dd =>
   simp only [Pc.tok, List.cons.injEq, and_true] at ht
   subst ht
   exact ⟨show (7 : Int) ≠ 0 by decide, (show in64 0 from ⟨by decide, by decide⟩), show (bytesOf [46, 46]).size ≤ 64 by decide, fun h => absurd (show (7 : Int) = 1 from h) (by decide)⟩
 | wd s =>
   simp only [Pc.tok, List.cons.injEq, and_true] at ht
   subst ht
   obtain ⟨⟨c, r, rfl, hc, hr⟩, hl, _⟩ := hg
   exact ⟨show (1 : Int) ≠ 0 by decide, (show in64 0 from ⟨by decide, by decide⟩), by show (bytesOf (c :: r)).size ≤ 64; rw [bytesOf_size]; omega, fun _ => ⟨c, r, rfl, hc, hr⟩⟩
 | nm j m =>
   simp only [Pc.tok, List.cons.injEq, and_true] at ht
   subst ht
   obtain ⟨hj, hm, _, _⟩ := hg
   have h3 : (hdT j).length ≤ 2 ∧ hdK j ≠ 0 ∧ hdK j ≠ 1 := by
    match j, hj with
    | 0, _ | 1, _ | 2, _ | 3, _ | 4, _ => decide
    | j + 5, h => omega
   have h4 := (digs_len m).2
   refine ⟨h3.2.1, w64_in _, ?_, fun h => absurd h h3.2.2⟩
   show (bytesOf (hdT j ++ digs m)).size ≤ 64
   rw [bytesOf_size, List.length_append]; omega
 | st s =>
   simp only [Pc.tok, List.cons.injEq, and_true] at ht
   subst ht
   exact ⟨show (3 : Int) ≠ 0 by decide, (show in64 0 from ⟨by decide, by decide⟩), by show (bytesOf s).size ≤ 64; rw [bytesOf_size]; exact hg.2, fun h => absurd (show (3 : Int) = 1 from h) (by decide)⟩
theorem lexS_len : ∀ (f : Nat) (l : List Int) (a : Int) (out : List LTok), (lexS f l a out).1.length ≤ out.length + l.length + 1
 | 0, l, a, out => by simp [lexS]
 | f + 1, l, a, out => by
   unfold lexS
   cases l with
   | nil => simp
   | cons c r =>
     dsimp only
     simp only [List.length_cons]
     split
     ·have := lexS_len f r (a + 1) out
      omega
     ·split
      ·have := lexS_len f ((c :: r).drop (lineN (c :: r))) (a + lineN (c :: r)) out
       rw [List.length_drop, List.length_cons] at this
       omega
      ·split
       ·simp
       ·rename_i h3
        have h := tokS_len (l := c :: r) (by simpa using h3)
        have := lexS_len f ((c :: r).drop (tokS (c :: r)).len) (a + (tokS (c :: r)).len) (out ++ [((tokS (c :: r)).kind, bytesOf (tokS (c :: r)).text, (tokS (c :: r)).num, (tokS (c :: r)).cls, a)])
        simp only [List.length_drop, List.length_cons, List.length_append, List.length_nil] at this h
        omega
theorem lexAll_len (l : List Int) : (lexAll l).1.length ≤ 65537 := by
 unfold lexAll
 split
 ·simp
 ·have := lexS_len (l.length + 1) l 0 []
  simp at this
  omega
theorem lexAll_tok {l : List Int} (hl : ∀ x ∈ l, isB x) (h : (lexAll l).2.1 = 0) : ∃ ts p, (lexAll l).1 = ts ++ [(0, ByteArray.mk #[], 0, 0, p)] ∧ ∀ t ∈ ts, TokOk t := by
 obtain ⟨ts, p, h1, h2⟩ := lexAll_told hl h
 exact ⟨ts, p, h1, fun t ht => told_ok (h2 t ht)⟩
theorem tok_cases {ts : List LTok} {p : Int} (h : ∀ t ∈ ts, TokOk t) (i : Nat) : TokOk (tokAt (ts ++ [(0, ByteArray.mk #[], 0, 0, p)]) i) ∧ i < ts.length ∨ ts.length ≤ i ∧ (tokAt (ts ++ [(0, ByteArray.mk #[], 0, 0, p)]) i).kind = 0 ∧ (tokAt (ts ++ [(0, ByteArray.mk #[], 0, 0, p)]) i).num = 0 ∧ (tokAt (ts ++ [(0, ByteArray.mk #[], 0, 0, p)]) i).text.size = 0 := by
 rcases Nat.lt_or_ge i ts.length with hi | hi
 ·left
  refine ⟨?_, hi⟩
  unfold tokAt
  rw [List.getD_eq_getElem?_getD, List.getElem?_append_left hi, List.getElem?_eq_getElem hi]
  exact h _ (List.getElem_mem _)
 ·right
  refine ⟨hi, ?_⟩
  rcases Nat.lt_or_ge ts.length i with h2 | h2
  ·rw [tokAt_none (by simp; omega)]
   exact ⟨rfl, rfl, rfl⟩
  ·have : i = ts.length := by omega
   subst this
   unfold tokAt
   rw [List.getD_eq_getElem?_getD, List.getElem?_append_right (Nat.le_refl _), Nat.sub_self]
   exact ⟨rfl, rfl, rfl⟩
theorem lexP {l : List Int} (hl : ∀ x ∈ l, isB x) (h : (lexAll l).2.1 = 0) : LexP (lexAll l).1 := by
 obtain ⟨ts, p, e, ht⟩ := lexAll_tok hl h
 have hlen := lexAll_len l
 rw [e] at hlen ⊢
 refine ⟨?_, fun i => ?_, fun i => ?_, by omega⟩
 ·unfold lastKind
  rw [List.length_append]
  rcases tok_cases (p := p) ht (ts.length + [(0, ByteArray.mk #[], 0, 0, p)].length - 1) with ⟨_, h⟩ | ⟨_, h, _⟩
  ·simp at h
  ·exact h
 ·rcases tok_cases (p := p) ht i with ⟨h, _⟩ | ⟨_, _, h, _⟩
  ·exact h.num
  ·rw [h]; exact ⟨by decide, by decide⟩
 ·rcases tok_cases (p := p) ht i with ⟨h, _⟩ | ⟨_, _, _, h⟩
  ·have := h.txt; omega
  ·omega
theorem scan_err (M : Nat) : ∀ (f : Nat) (r : List Int) (i : Int) (out t : List Int) (e c : Int), scanL M f r i out = (t, e, c) → c ≠ 20 ∧ i ≤ e ∧ e ≤ i + r.length
 | 0, r, i, out, t, e, c, h => by
   simp only [scanL, Prod.mk.injEq] at h
   obtain ⟨_, rfl, rfl⟩ := h
   exact ⟨by decide, Int.le_refl _, by omega⟩
 | f + 1, r, i, out, t, e, c, h => by
   cases r with
   | nil =>
     simp only [scanL, Prod.mk.injEq] at h
     obtain ⟨_, rfl, rfl⟩ := h
     exact ⟨by decide, Int.le_refl _, by simp⟩
   | cons x r =>
     unfold scanL at h
     dsimp only at h
     simp only [List.length_cons]
     split at h
     ·simp only [Prod.mk.injEq] at h
      obtain ⟨_, rfl, rfl⟩ := h
      exact ⟨by decide, Int.le_refl _, by omega⟩
     ·split at h
      ·simp only [Prod.mk.injEq] at h
       obtain ⟨_, rfl, rfl⟩ := h
       exact ⟨by decide, by omega, by omega⟩
      ·split at h
       ·simp only [Prod.mk.injEq] at h
        obtain ⟨_, rfl, rfl⟩ := h
        exact ⟨by decide, Int.le_refl _, by omega⟩
       ·split at h
        ·have := scan_err M f r _ _ t e c h
         exact ⟨this.1, by omega, by omega⟩
        ·cases hesc : escL r with
         | none =>
           rw [hesc] at h
           simp only [Prod.mk.injEq] at h
           obtain ⟨_, rfl, rfl⟩ := h
           exact ⟨by decide, Int.le_refl _, by omega⟩
         | some vn =>
           obtain ⟨v, n⟩ := vn
           rw [hesc] at h
           dsimp only at h
           have := scan_err M f (r.drop n) _ _ t e c h
           have hp := esc_pos hesc
           rw [List.length_drop] at this
           exact ⟨this.1, by omega, by omega⟩
theorem numS_err (kind cls : Int) (a : Nat) (r : List Int) : (numS kind a cls r).code ≠ 20 := by
 unfold numS
 dsimp only
 split
 ·exact fun h => absurd (show (12 : Int) = 20 from h) (by decide)
 ·split
  ·exact fun h => absurd (show (2 : Int) = 20 from h) (by decide)
  ·exact fun h => absurd (show (0 : Int) = 20 from h) (by decide)
theorem tokS_err (c : Int) (r : List Int) : (tokS (c :: r)).code ≠ 20 ∧ 0 ≤ (tokS (c :: r)).off ∧ (tokS (c :: r)).off ≤ (c :: r).length := by
 have hb : ∀ x y : Int, x ≠ 20 → (Got.bad x y).code ≠ 20 := fun x y h => h
 rcases tokS_cases c with rfl | hL | rfl | rfl | rfl | hD | hS | ⟨h1, h2, h3, h4, h5, h6, h7⟩
 ·rw [tokS_34]
  cases hs : scanL 64 (r.length + 1) r 1 [] with
  | mk t ec =>
    obtain ⟨e, code⟩ := ec
    have := scan_err 64 _ _ _ _ _ _ _ hs
    dsimp only
    simp only [List.length_cons]
    split
    ·exact ⟨show (0 : Int) ≠ 20 by decide, Int.le_refl _, by show (0 : Int) ≤ _; omega⟩
    ·exact ⟨this.1, by show 0 ≤ e; omega, by show e ≤ _; omega⟩
 ·have h34 : c ≠ 34 := by rintro rfl; exact absurd hL (by decide)
  rw [tokS_off h34]
  refine ⟨?_, Int.le_refl _, by omega⟩
  rw [tokS_L _ hL]
  split
  ·exact hb _ _ (by decide)
  ·exact show (0 : Int) ≠ 20 by decide
 ·rw [tokS_off (by decide)]
  exact ⟨by rw [tokS_37]; exact numS_err _ _ _ _, Int.le_refl _, by omega⟩
 ·rw [tokS_off (by decide)]
  exact ⟨by rw [tokS_35]; exact numS_err _ _ _ _, Int.le_refl _, by omega⟩
 ·rw [tokS_off (by decide)]
  refine ⟨?_, Int.le_refl _, by omega⟩
  rw [tokS_36]
  split
  ·exact numS_err _ _ _ _
  ·split
   ·exact numS_err _ _ _ _
   ·exact hb _ _ (by decide)
 ·have h34 : c ≠ 34 := by rintro rfl; revert hD; unfold isD; omega
  rw [tokS_off h34]
  exact ⟨by rw [tokS_D _ hD]; exact numS_err _ _ _ _, Int.le_refl _, by omega⟩
 ·have h34 : c ≠ 34 := by rintro rfl; revert hS; decide
  rw [tokS_off h34]
  refine ⟨?_, Int.le_refl _, by omega⟩
  rw [tokS_S _ hS]
  split <;> exact show (0 : Int) ≠ 20 by decide
 ·rw [tokS_off h1]
  exact ⟨by rw [tokS_no _ h1 h2 h3 h4 h5 h6 h7]; exact hb _ _ (by decide), Int.le_refl _, by omega⟩
theorem lexS_err : ∀ (f : Nat) (l : List Int) (a : Int) (out : List LTok), (lexS f l a out).2.1 ≠ 0 → (lexS f l a out).2.1 ≠ 20 ∧ a ≤ (lexS f l a out).2.2 ∧ (lexS f l a out).2.2 ≤ a + l.length
 | 0, l, a, out, h => ⟨show (10 : Int) ≠ 20 by decide, Int.le_refl _, by show a ≤ _; omega⟩
 | f + 1, l, a, out, h => by
   unfold lexS at h ⊢
   cases l with
   | nil => exact absurd rfl h
   | cons c r =>
     dsimp only at h ⊢
     split at h
     ·rename_i h1
      rw [if_pos h1]
      have := lexS_err f r (a + 1) out h
      simp only [List.length_cons]
      exact ⟨this.1, by omega, by omega⟩
     ·rename_i h1
      rw [if_neg h1]
      split at h
      ·rename_i h2
       rw [if_pos h2]
       have := lexS_err f ((c :: r).drop (lineN (c :: r))) (a + lineN (c :: r)) out h
       have hle := lineN_le (c :: r)
       rw [List.length_drop] at this
       exact ⟨this.1, by omega, by omega⟩
      ·rename_i h2
       rw [if_neg h2]
       split at h
       ·rename_i h3
        rw [if_pos h3]
        have := tokS_err c r
        exact ⟨this.1, by show a ≤ a + _; omega, by show a + _ ≤ _; omega⟩
       ·rename_i h3
        rw [if_neg h3]
        have := lexS_err f ((c :: r).drop (tokS (c :: r)).len) (a + (tokS (c :: r)).len) _ h
        have hle := tokS_len (l := c :: r) (by simpa using h3)
        rw [List.length_drop] at this
        exact ⟨this.1, by omega, by omega⟩
theorem lexAll_err {l : List Int} (h : (lexAll l).2.1 ≠ 0) : (lexAll l).2.1 ≠ 20 ∧ 0 ≤ (lexAll l).2.2 ∧ (lexAll l).2.2 ≤ l.length := by
 unfold lexAll at h ⊢
 split at h
 ·rename_i h1
  rw [if_pos h1]
  exact ⟨show (3 : Int) ≠ 20 by decide, Int.le_refl _, by show (0 : Int) ≤ _; omega⟩
 ·rename_i h1
  rw [if_neg h1]
  have := lexS_err _ _ _ _ h
  exact ⟨this.1, this.2.1, by omega⟩
instance dec1 : DecidableEq (ByteArray × Int × List ByteArray × List Int) := inferInstance
instance dec2 : DecidableEq InT := instDecidableEqProd
instance dec3 : DecidableEq (List OpT × List InT) := inferInstance
instance dec4 : DecidableEq BkT := inferInstance
instance dec5 : DecidableEq (List OpT × List BkT) := inferInstance
instance dec6 : DecidableEq (List (Int × Int) × List OpT × List BkT) := inferInstance
instance dec7 : DecidableEq FuT := inferInstance
inductive TR where
 | ok (f : FuT)
 | bad (lex : Bool) (c p : Int)
deriving DecidableEq
abbrev wText : ByteArray := ByteArray.mk #[116, 101, 120, 116]
abbrev wFunc : ByteArray := ByteArray.mk #[102, 117, 110, 99]
def textR (s : List Int) : TR :=
 if (lexAll s).2.1 ≠ 0 then .bad true (lexAll s).2.1 (lexAll s).2.2
 else match funcP (lexAll s).1 0 with
  | .bad c p => .bad false c p
  | .ok f j => if (tokAt (lexAll s).1 j).kind ≠ 0 then .bad false 20 (tokAt (lexAll s).1 j).pos else .ok f
theorem lexAll_pos {s : List Int} (h : (lexAll s).2.1 = 0) : 0 < (lexAll s).1.length := by
 obtain ⟨k, _⟩ := lexR_all h
 cases hT : (lexAll s).1 with
 | nil =>
   rw [hT] at k
   exfalso
   have : ∀ {l : List Int} {a : Int} {T : List LTok}, LexR l a T → T ≠ [] := by
    intro l a T k
    induction k with
    | nil a => simp
    | blank h k ih => exact ih
    | remark h k ih => exact ih
    | tok h hc k ih => simp
   exact this k rfl
 | cons t T => simp
theorem textR_in {s : List Int} (hs : ∀ x ∈ s, isB x) {w : Bool} {c p : Int} (h : textR s = .bad w c p) : c ≠ 0 ∧ 0 ≤ p ∧ p ≤ s.length := by
 unfold textR at h
 split at h
 ·rename_i h1
  cases h
  have := lexAll_err h1
  exact ⟨h1, this.2⟩
 ·rename_i h1
  have h1 := Decidable.not_not.1 h1
  have T := lexP hs h1
  obtain ⟨k, _⟩ := lexR_all h1
  have h0 := lexAll_pos h1
  split at h
  ·rename_i c' p' e
   cases h
   obtain ⟨k1, r, k2, k3, rfl⟩ := f3_func.late _ T 0 _ _ h0 e
   have := k.pos k3
   exact ⟨k1, by omega, by omega⟩
  ·rename_i f j e
   split at h
   ·cases h
    have hj := (step_func _ T 0 f j h0 e).2
    have := k.pos hj
    exact ⟨by decide, by omega, by omega⟩
   ·cases h
theorem textR_cut {s : List Int} (hs : ∀ x ∈ s, isB x) {w : Bool} {p : Int} (h : textR s = .bad w 20 p) : (∃ f, textR (s.take p.toNat) = .ok f) ∨ textR (s.take p.toNat) = .bad false 20 p := by
 unfold textR at h
 split at h
 ·rename_i h1
  simp only [TR.bad.injEq] at h
  exact absurd h.2.1 (lexAll_err h1).1
 ·rename_i h1
  have h1 := Decidable.not_not.1 h1
  have T := lexP hs h1
  obtain ⟨k, _⟩ := lexR_all h1
  have h0 := lexAll_pos h1
  have hI := k.inc
  have key : ∀ j, j < (lexAll s).1.length → (tokAt (lexAll s).1 j).pos = p → (funcP (lexAll s).1 0 = .bad 20 p ∨ ∃ f, funcP (lexAll s).1 0 = .ok f j) → (∃ f, textR (s.take p.toNat) = .ok f) ∨ textR (s.take p.toNat) = .bad false 20 p := by
   intro j hj hp hr
   obtain ⟨d, d1, d2, d3⟩ := lexAll_cut h1 hj
   have hd : p.toNat = d := by omega
   rw [hd]
   unfold textR
   rw [d3]
   simp only [ne_eq, not_true, if_false]
   rcases f3_func.pre _ T hI j 0 hj (Nat.zero_le _) with h | h | h
   ·right; rw [h, hp]
   ·rw [h]
    rcases hr with hr | ⟨f, hr⟩
    ·right; rw [hr]
    ·left
     rw [hr]
     dsimp only
     rw [cut_kind hj]
     exact ⟨f, by simp⟩
   ·exfalso
    rcases hr with hr | ⟨f, hr⟩
    ·rw [hr] at h
     have h : (tokAt (lexAll s).1 j).pos < p := h
     omega
    ·rw [hr] at h
     exact absurd (show j < j from h) (Nat.lt_irrefl _)
  split at h
  ·rename_i c' p' e
   cases h
   obtain ⟨k1, r, k2, k3, rfl⟩ := f3_func.late _ T 0 _ _ h0 e
   exact key r k3 rfl (.inl e)
  ·rename_i f j e
   split at h
   ·cases h
    have hj := (step_func _ T 0 f j h0 e).2
    exact key j hj rfl (.inr ⟨f, e⟩)
   ·cases h
end Go.Aw
namespace Go.Proofs.Yf
open Go Go.Aw Go.Proofs Go.RowKit
namespace N50
theorem ntmps : Tryz.f50.ntmps = 15 := by kernel_rfl
theorem nres : Tryz.f50.results = #[] := by kernel_rfl
theorem func_ok : FuncOk Tryz.prog 50 := ⟨_, Tryz.func50, by rfl, by rfl⟩
theorem catch_ok : Catch Tryz.prog 50 34 180 := by
 constructor
 ·intro u w
  refine callsD_of_wpS Tryz.func50 rfl fun c₀ cs hu => ?_
  apply wpS_seq
  apply wpS_region
  simp [wpOpsS, go_sem, recoverD, hu, ntmps, Exit.thenS]
  refine wpS_of_wp ?_
  refine wp_block ?_
  go_wp2
  cases c₀
  simp_all [bodyPostS, results, nres]
 ·intro u v w hv
  have hta : ∀ (v : Value) (w : World), (Instr.typeAssert (.iface 180 v) 20 180 true).run Tryz.prog w = .ok (.tuple #[v, .bool true]) w := by intro v w; kernel_rfl
  refine ⟨w.alloc (.cells #[v] 180), (Below.refl _ _).alloc (Nat.le_refl _) _, fun w' hs => ?_⟩
  obtain ⟨p, rfl⟩ : ∃ p, u = .pointer (some p) := by
   unfold Instr.storeAt at hs
   cases u with
   | pointer a =>
     cases a with
     | some a => exact ⟨a, rfl⟩
     | none => simp [Instr.sureAddr] at hs
   | _ => simp [Instr.sureAddr] at hs
  have hst : (store { block := w.heap.size, off := 0 } v).run Tryz.prog (w.alloc (.cells #[.nilIface] 180)) = .ok () (w.alloc (.cells #[v] 180)) := by
   rcases hv with rfl | ⟨t, x, rfl⟩ <;> simp [go_sem]
  have hs2 : (store p v).run Tryz.prog (w.alloc (.cells #[v] 180)) = .ok () w' := by
   revert hs
   unfold Instr.storeAt
   rcases hv with rfl | ⟨t, x, rfl⟩ <;> simp [go_sem, Instr.sureAddr]
  have hs3 : (storeCells p [v]).run Tryz.prog (w.alloc (.cells #[v] 180)) = .ok () w' := by
   first
   | exact hs2
   | simpa [storeCells] using hs2
   | (rcases hv with rfl | ⟨t, x, rfl⟩ <;> simp [storeCells, go_sem] at hs2 ⊢ <;> exact hs2)
  clear hs hv
  refine callsD_of_wpS Tryz.func50 rfl fun c₀ cs hu => ?_
  apply wpS_seq
  apply wpS_region
  simp [wpOpsS, go_sem, recoverD, hu, ntmps, Exit.thenS]
  refine wpS_of_wp ?_
  refine wp_block ?_
  go_wp2
  rw [hs3]
  go_wp2
  cases c₀
  simp_all [bodyPostS, results, nres]
end N50
end Go.Proofs.Yf
namespace Go.Proofs.Yf
open Go Go.Aw Go.Proofs
namespace N20
noncomputable def cfg : Cfg := { cb with E := tab [(37, N37.ent), (51, N51.ent)], atSeq := tab [(2000002, ks [0, 1, 4, 5, 6, 26]), (3, ks [0, 1, 4, 5, 6])], lt := [35, 36, 37, 38, 39], ms := [(35, 8), (39, 7)] }
def j2000002 (j3 : Zq0 → Int → Int → Bool → BA → Err → Prop) (x0 : Zq0) (x1 x5 : Int) (am aa : Bool) (ab : BA) (ac : Err) (k : Bool → BA → Int → Err → Prop) (k1 : Bool → BA → (List (Int × Int)) → Zq2 → Zq3 → Int → Err → Prop) : Prop :=
 (br am (k false (ByteArray.mk #[]) (0 : Int) (newE (1 : Int) (0 : Int))) (j3 x0 x1 x5 aa ab ac))
def j3 (x0 : Zq0) (x1 x5 : Int) (aa : Bool) (ab : BA) (ac : Err) (k : Bool → BA → Int → Err → Prop) (k1 : Bool → BA → (List (Int × Int)) → Zq2 → Zq3 → Int → Err → Prop) : Prop :=
 (N51.f x0 x1 (fun ad ae af ah ai an aj => (k1 ad ae af ah ai aj Err.nil)) (wrgE 180 (fun e9 => (k false (ByteArray.mk #[]) (0 : Int) e9))))
def c (j2000002 : Zq0 → Int → Int → Bool → Bool → BA → Err → Prop) (x0 : Zq0) (x1 : Int) (k : Bool → BA → Int → Err → Prop) (k1 : Bool → BA → (List (Int × Int)) → Zq2 → Zq3 → Int → Err → Prop) : Prop :=
 (br (decide (x1 < (0 : Int))) (j2000002 x0 x1 (0 : Int) true false (ByteArray.mk #[]) Err.nil) (br (decide (x1 ≥ ((((x0).length : Nat) : Int)))) (j2000002 x0 x1 (0 : Int) true false (ByteArray.mk #[]) Err.nil) ((inB 0 (IntKind.i64.wrap (((((x0).length : Nat) : Int)) - (1 : Int))) ((((x0).length : Nat) : Int) - 1)) ∧ (j2000002 x0 x1 (0 : Int) ((x0.getD (Int.toNat (IntKind.i64.wrap (((((x0).length : Nat) : Int)) - (1 : Int)))) ((0, (ByteArray.empty, (0, (0, 0)))))).1 != (0 : Int)) false (ByteArray.mk #[]) Err.nil))))
def j3' x0 x1 x5 aa ab ac k k1 := j3 x0 x1 x5 aa ab ac k k1
def j2000002' x0 x1 x5 am aa ab ac k k1 := j2000002 (fun x0 x1 x5 aa ab ac => j3' x0 x1 x5 aa ab ac k k1) x0 x1 x5 am aa ab ac k k1
def f0 x0 x1 k k1 := c (fun x0 x1 x5 am aa ab ac => j2000002' x0 x1 x5 am aa ab ac k k1) x0 x1 k k1
noncomputable def f := sld f0
theorem f_def : f = f0 := sld_eq f0
def K0 (k : KT) (ak : Bool) (al : BA) (y1 : Int) (y2 : Err) : Prop := k (.tup [(.agg [(.v (.bool ak)), (.v (.string al)), (.v (Value.slice none 0 0)), (.v (Value.slice none 0 0)), (.v (Value.slice none 0 0))]), (.v (.int .i64 y1)), (.er y2)]) []
def K1 (k : KT) (ak : Bool) (al : BA) (ao : (List (Int × Int))) (ap : Zq2) (aq : Zq3) (y1 : Int) (y2 : Err) : Prop := k (.tup [(.agg [(.v (.bool ak)), (.v (.string al)), (.fz (Ty.pair Zy3 Zy3) ao), (.fz (Ty.pair Zy3 Zy0) ap), (.fz Zy2 aq)]), (.v (.int .i64 y1)), (.er y2)]) []
def pa (x0 : Zq0) (x1 : Int) : List D := [(.fz Zy1 x0), (.v (.int .i64 x1))]
def pb (x0 : Zq0) (x1 : Int) : List Blk := []
theorem f_eq (k kp x0 x1) : funD cfg Tryz.f20 34 180 6 (pa x0 x1) (pb x0 x1) k kp = f x0 x1 (K0 k) (K1 k) := by
 rw [f_def]
 kernel_rfl
noncomputable def ent0 : Entry := fun args blks k _ => match args, blks with
 | [d0, d1], [] => aFz Zy1 d0 fun x0 => aInt IntKind.i64 d1 fun x1 => f x0 x1 (K0 k) (K1 k)
 | _, _ => False
noncomputable def ent : Entry := cvE [.one Zy1, .no] ent0
theorem ok : EntOk Tryz.prog 112 157 20 ent := by
 refine EntOk.convB (EntOk.of (funD_ok (cfg := cfg) (p := 6) (tyOk_of rfl rfl tyL_ok) (eqOk_of (P := Tryz.prog) rfl rfl (by kernel_rfl)) mixed_ok (tab_ok ?_) Tryz.func20 (by rfl) (by rfl) N50.catch_ok N50.func_ok (fun c hc => by cases hc; kernel_rfl)) ?_) _
 ·exact tab_c N37.ok <| tab_c N51.ok <| tab_n
 ·intro args blks k kp h k' kp'
  match args, blks, h with
  | [d0, d1], [], h =>
  dsimp only [ent0] at h
  repeat ((first|have q := aFz_elim h|have q := aInt_elim h); clear h; first|obtain ⟨rfl, h⟩ := q|obtain ⟨_, rfl, h⟩ := q|obtain ⟨_, _, rfl, h⟩ := q)
  exact (f_eq ..).symm
end N20
namespace N12
noncomputable def cfg : Cfg := { cb with E := tab [(35, N35.ent), (36, N36.ent), (20, N20.ent), (37, N37.ent)], atSeq := tab [(2000006, ⟨[(2, .keep), (4, .keep), (5, .keep), (6, .cells [(2, none, (Ty.pair Zy3 Zy3)), (3, none, (Ty.pair Zy3 Zy0)), (4, none, Zy2)]), (7, .keep), (33, .keep)]⟩), (7, ⟨[(2, .keep), (5, .keep), (6, .cells [(2, none, (Ty.pair Zy3 Zy3)), (3, none, (Ty.pair Zy3 Zy0)), (4, none, Zy2)])]⟩)] }
noncomputable def body : Code := bodyOf Tryz.f12
def j2000006 (j7 : Err → Bool → BA → Bool → BA → (List (Int × Int)) → Zq2 → Zq3 → Prop) (x4 : Zq0) (x5 : Err) (x7 : Int) (aj aa : Bool) (ab : BA) (ac : Bool) (ad : BA) (ae : (List (Int × Int))) (af : Zq2) (ah : Zq3) (k : Bool → BA → Err → Prop) (k1 : Bool → BA → (List (Int × Int)) → Zq2 → Zq3 → Err → Prop) : Prop :=
 (br aj ((inB 0 x7 ((((x4).length : Nat) : Int) - 1)) ∧ (j7 (newE (20 : Int) (x4.getD (Int.toNat x7) ((0, (ByteArray.empty, (0, (0, 0)))))).2.2.2.2) aa ab false (ByteArray.mk #[]) ([] : List (Int × Int)) ([] : List (Int × (Int × (Int × Int)))) ([] : List (BA × (Bool × (Zq2 × (List Zq1))))))) (j7 x5 aa ab ac ad ae af ah))
def j7 (x5 : Err) (aa : Bool) (ab : BA) (ac : Bool) (ad : BA) (ae : (List (Int × Int))) (af : Zq2) (ah : Zq3) (k : Bool → BA → Err → Prop) (k1 : Bool → BA → (List (Int × Int)) → Zq2 → Zq3 → Err → Prop) : Prop :=
 (k1 ac ad ae af ah (inE (ByteArray.mk #[102, 117, 110, 99]) x5))
def c (j2000006 : Zq0 → Err → Int → Bool → Bool → BA → Bool → BA → (List (Int × Int)) → Zq2 → Zq3 → Prop) (x0 : BA) (k : Bool → BA → Err → Prop) (k1 : Bool → BA → (List (Int × Int)) → Zq2 → Zq3 → Err → Prop) : Prop :=
 (N35.f x0 (fun az ai => (br (!(az).isNil) (k false (ByteArray.mk #[]) (inE (ByteArray.mk #[116, 101, 120, 116]) az)) (N20.f ai (0 : Int) (fun ak al ar av => (br (av).isNil ((inB 0 ar ((((ai).length : Nat) : Int) - 1)) ∧ (j2000006 ai av ar ((ai.getD (Int.toNat ar) ((0, (ByteArray.empty, (0, (0, 0)))))).1 != (0 : Int)) false (ByteArray.mk #[]) ak al ([] : List (Int × Int)) ([] : List (Int × (Int × (Int × Int)))) ([] : List (BA × (Bool × (Zq2 × (List Zq1))))))) (j2000006 ai av ar false false (ByteArray.mk #[]) ak al ([] : List (Int × Int)) ([] : List (Int × (Int × (Int × Int)))) ([] : List (BA × (Bool × (Zq2 × (List Zq1)))))))) (fun am an ao ap aq au aw => (br (aw).isNil ((inB 0 au ((((ai).length : Nat) : Int) - 1)) ∧ (j2000006 ai aw au ((ai.getD (Int.toNat au) ((0, (ByteArray.empty, (0, (0, 0)))))).1 != (0 : Int)) false (ByteArray.mk #[]) am an ao ap aq)) (j2000006 ai aw au false false (ByteArray.mk #[]) am an ao ap aq)))))))
def j7' x5 aa ab ac ad ae af ah k k1 := j7 x5 aa ab ac ad ae af ah k k1
def j2000006' x4 x5 x7 aj aa ab ac ad ae af ah k k1 := j2000006 (fun x5 aa ab ac ad ae af ah => j7' x5 aa ab ac ad ae af ah k k1) x4 x5 x7 aj aa ab ac ad ae af ah k k1
def f0 x0 k k1 := c (fun x4 x5 x7 aj aa ab ac ad ae af ah => j2000006' x4 x5 x7 aj aa ab ac ad ae af ah k k1) x0 k k1
noncomputable def f := sld f0
theorem f_def : f = f0 := sld_eq f0
def m2000006 (x4 : Zq0) (x5 : Err) (x7 : Int) (aj aa : Bool) (ab : BA) (ac : Bool) (ad : BA) (ae : (List (Int × Int))) (af : Zq2) (ah : Zq3) : St := { tmps := mkT 44 0 [(2, (.ptr 0 0)), (4, (.fz Zy1 x4)), (5, (.er x5)), (6, (.ptr 1 0)), (7, (.v (.int .i64 x7))), (33, (.v (.bool aj)))], hp := [(.box 31 [(.v (.bool aa)), (.v (.string ab)), (.v (Value.slice none 0 0)), (.v (Value.slice none 0 0)), (.v (Value.slice none 0 0))]), (.box 31 [(.v (.bool ac)), (.v (.string ad)), (.fz (Ty.pair Zy3 Zy3) ae), (.fz (Ty.pair Zy3 Zy0) af), (.fz Zy2 ah)])], m := 0 }
def M2000006 (g : St → Prop) x4 x5 x7 aj aa ab ac ad ae af ah := g (m2000006 x4 x5 x7 aj aa ab ac ad ae af ah)
def m7 (x5 : Err) (aa : Bool) (ab : BA) (ac : Bool) (ad : BA) (ae : (List (Int × Int))) (af : Zq2) (ah : Zq3) : St := { tmps := mkT 44 0 [(2, (.ptr 0 0)), (5, (.er x5)), (6, (.ptr 1 0))], hp := [(.box 31 [(.v (.bool aa)), (.v (.string ab)), (.v (Value.slice none 0 0)), (.v (Value.slice none 0 0)), (.v (Value.slice none 0 0))]), (.box 31 [(.v (.bool ac)), (.v (.string ad)), (.fz (Ty.pair Zy3 Zy3) ae), (.fz (Ty.pair Zy3 Zy0) af), (.fz Zy2 ah)])], m := 0 }
def M7 (g : St → Prop) x5 aa ab ac ad ae af ah := g (m7 x5 aa ab ac ad ae af ah)
def K0 (k : KT) (ax : Bool) (ay : BA) (y1 : Err) : Prop := k (.tup [(.agg [(.v (.bool ax)), (.v (.string ay)), (.v (Value.slice none 0 0)), (.v (Value.slice none 0 0)), (.v (Value.slice none 0 0))]), (.er y1)]) []
def K1 (k : KT) (ax : Bool) (ay : BA) (a0 : (List (Int × Int))) (a1 : Zq2) (a2 : Zq3) (y1 : Err) : Prop := k (.tup [(.agg [(.v (.bool ax)), (.v (.string ay)), (.fz (Ty.pair Zy3 Zy3) a0), (.fz (Ty.pair Zy3 Zy0) a1), (.fz Zy2 a2)]), (.er y1)]) []
noncomputable def T (k kp : KT) := topK cfg Tryz.f12 k kp
noncomputable def X2000006 (k kp : KT) : St → Prop := atP cfg (pick none' []) [1, 1, 1, 1, 0, 1] body (T k kp)
noncomputable def X7 (k kp : KT) : St → Prop := atP cfg (pick none' []) [1, 1, 1, 1, 1] body (T k kp)
noncomputable def JJ (k kp : KT) : Nat → St → Prop := pick none' [(2000006, X2000006 k kp), (7, X7 k kp)]
noncomputable def LL (k kp : KT) : Nat → St → Prop := pick none' []
theorem j7_eq (k kp) : M7 (X7 k kp) = fun x5 aa ab ac ad ae af ah => j7' x5 aa ab ac ad ae af ah (K0 k) (K1 k) := by
 funext x5 aa ab ac ad ae af ah
 exact raw_eq (own:=7) rfl (JJ k kp) (LL k kp) (fun J L => j7 x5 aa ab ac ad ae af ah (K0 k) (K1 k)) (by kernel_rfl) (fun _ _ => by kernel_rfl) rfl
theorem j2000006_eq (k kp) : M2000006 (X2000006 k kp) = fun x4 x5 x7 aj aa ab ac ad ae af ah => j2000006' x4 x5 x7 aj aa ab ac ad ae af ah (K0 k) (K1 k) := by
 funext x4 x5 x7 aj aa ab ac ad ae af ah
 exact raw_eq (own:=2000006) rfl (JJ k kp) (LL k kp) (fun J L => j2000006 (M7 (J 7)) x4 x5 x7 aj aa ab ac ad ae af ah (K0 k) (K1 k)) (by kernel_rfl) (fun _ _ => by kernel_rfl) (by erw [j7_eq k kp] <;> rfl)
def pa (x0 : BA) : List D := [(.v (.string x0))]
def pb (x0 : BA) : List Blk := []
theorem body_is : Tryz.f12.body = some body := by kernel_rfl
theorem f_eq (k kp x0) : funW cfg Tryz.f12 (pa x0) (pb x0) k kp = f x0 (K0 k) (K1 k) :=
 raw_fun (own := 1000001) none'' (JJ k kp) (LL k kp) (fun J L => c (M2000006 (J 2000006)) x0 (K0 k) (K1 k)) body_is (by kernel_rfl) (fun J L => by kernel_rfl) (by rw [f_def]; erw [j2000006_eq k kp] <;> rfl)
noncomputable def ent0 : Entry := fun args blks k _ => match args, blks with
 | [d0], [] => aStr d0 fun x0 => f x0 (K0 k) (K1 k)
 | _, _ => False
noncomputable def ent : Entry := cvE [.no] ent0
theorem ok : EntOk Tryz.prog 112 157 12 ent := by
 refine fnOk (cfg := cfg) rfl rfl rfl rfl (by kernel_rfl) ?_ Tryz.func12 (by rfl) (by rfl) ?_
 ·exact tab_c N35.ok <| tab_c N36.ok <| tab_c N20.ok <| tab_c N37.ok <| tab_n
 ·intro args blks k kp h k' kp'
  match args, blks, h with
  | [d0], [], h =>
  dsimp only [ent0] at h
  repeat ((first|have q := aStr_elim h); clear h; first|obtain ⟨rfl, h⟩ := q|obtain ⟨_, rfl, h⟩ := q|obtain ⟨_, _, rfl, h⟩ := q)
  exact (f_eq ..).symm
end N12
namespace N9
noncomputable def cfg : Cfg := { cb with E := tab [(12, N12.ent), (17, N17.ent), (18, N18.ent)], atSeq := tab [(2000005, ⟨[(1, .cells [(2, none, (Ty.pair Zy3 Zy3)), (3, none, (Ty.pair Zy3 Zy0)), (4, none, Zy2)]), (4, .keep), (6, .keep), (45, .keep)]⟩), (6, ks [1, 4, 6])] }
noncomputable def body : Code := bodyOf Tryz.f9
def j2000005 (j6 : Err → Err → Bool → BA → (List (Int × Int)) → Zq2 → Zq3 → Prop) (x4 x6 : Err) (au ai : Bool) (aj : BA) (ah : (List (Int × Int))) (ak : Zq2) (ab : Zq3) (k : Bool → Prop) : Prop :=
 (br au (k false) (j6 x4 x6 ai aj ah ak ab))
def j6 (x4 x6 : Err) (ai : Bool) (aj : BA) (ah : (List (Int × Int))) (ak : Zq2) (ab : Zq3) (k : Bool → Prop) : Prop :=
 ((inB 0 (0 : Int) ((((ab).length : Nat) : Int) - 1)) ∧ ((inB 0 (0 : Int) (((((ab.getD (Int.toNat (0 : Int)) ((ByteArray.empty, (false, (([] : List (Int × (Int × (Int × Int)))), ([] : List Zq1)))))).2.2.2).length : Nat) : Int) - 1)) ∧ (br (((((ah).length : Nat) : Int)) == (2 : Int)) (br (((ab.getD (Int.toNat (0 : Int)) ((ByteArray.empty, (false, (([] : List (Int × (Int × (Int × Int)))), ([] : List Zq1)))))).2.2.2.getD (Int.toNat (0 : Int)) ((0, ((0, (0, (0, 0))), (([] : List (Int × (Int × (Int × Int)))), (ByteArray.empty, (0, (([] : List BA), ([] : List Int))))))))).2.2.2.2.1 == (-8 : Int)) ((inB 0 (1 : Int) ((((ab).length : Nat) : Int) - 1)) ∧ (br (ab.getD (Int.toNat (1 : Int)) ((ByteArray.empty, (false, (([] : List (Int × (Int × (Int × Int)))), ([] : List Zq1)))))).2.1 ((inB 0 (1 : Int) ((((ab).length : Nat) : Int) - 1)) ∧ ((inB 0 (0 : Int) (((((ab.getD (Int.toNat (1 : Int)) ((ByteArray.empty, (false, (([] : List (Int × (Int × (Int × Int)))), ([] : List Zq1)))))).2.2.2).length : Nat) : Int) - 1)) ∧ ((inB 0 (0 : Int) ((((((ab.getD (Int.toNat (1 : Int)) ((ByteArray.empty, (false, (([] : List (Int × (Int × (Int × Int)))), ([] : List Zq1)))))).2.2.2.getD (Int.toNat (0 : Int)) ((0, ((0, (0, (0, 0))), (([] : List (Int × (Int × (Int × Int)))), (ByteArray.empty, (0, (([] : List BA), ([] : List Int))))))))).2.2.1).length : Nat) : Int) - 1)) ∧ (br ((((ab.getD (Int.toNat (1 : Int)) ((ByteArray.empty, (false, (([] : List (Int × (Int × (Int × Int)))), ([] : List Zq1)))))).2.2.2.getD (Int.toNat (0 : Int)) ((0, ((0, (0, (0, 0))), (([] : List (Int × (Int × (Int × Int)))), (ByteArray.empty, (0, (([] : List BA), ([] : List Int))))))))).2.2.1.getD (Int.toNat (0 : Int)) ((0, (0, (0, 0))))).2.2.1 == (3 : Int)) ((plainE x4 = true) ∧ (br ((ofE x4) == (20 : Int)) ((plainE x4 = true) ∧ (br ((atE x4) == (20 : Int)) ((plainE x6 = true) ∧ (k ((atE x6) == (18 : Int)))) (k false))) (k false))) (k false))))) (k false))) (k false)) (k false))))
def c (j2000005 : Err → Err → Bool → Bool → BA → (List (Int × Int)) → Zq2 → Zq3 → Prop) (k : Bool → Prop) : Prop :=
 (N12.f (ByteArray.mk #[102, 117, 110, 99, 32, 102, 40, 37, 48, 41, 32, 123, 32, 114, 101, 103, 115, 32, 37, 48, 58, 103, 32, 37, 50, 58, 120, 59, 32, 97, 58, 32, 37, 48, 32, 61, 32, 108, 111, 97, 100, 32, 37, 50, 32, 43, 32, 45, 56, 59, 32, 115, 119, 105, 116, 99, 104, 32, 37, 48, 32, 91, 49, 58, 32, 97, 44, 32, 101, 108, 115, 101, 58, 32, 98, 46, 99, 93, 32, 59, 32, 101, 100, 103, 101, 32, 98, 46, 99, 58, 32, 114, 101, 116, 32, 40, 49, 43, 50, 41, 59, 32, 125]) (fun al am av => (N12.f (ByteArray.mk #[102, 117, 110, 99, 32, 102, 40, 41, 32, 123, 32, 97, 58, 32, 97, 100, 100, 32, 37, 49, 59, 32, 125]) (fun bm bn aw => (N12.f (ByteArray.mk #[102, 117, 110, 99, 32, 102, 40, 41, 32, 123, 32, 97, 58, 32, 102, 111, 111, 32, 98, 97, 114, 32, 125]) (fun bo bp a0 => (br (!(av).isNil) (j2000005 aw a0 true al am ([] : List (Int × Int)) ([] : List (Int × (Int × (Int × Int)))) ([] : List (BA × (Bool × (Zq2 × (List Zq1)))))) (j2000005 aw a0 true al am ([] : List (Int × Int)) ([] : List (Int × (Int × (Int × Int)))) ([] : List (BA × (Bool × (Zq2 × (List Zq1)))))))) (fun bq bs bt bu bv a1 => (br (!(av).isNil) (j2000005 aw a1 true al am ([] : List (Int × Int)) ([] : List (Int × (Int × (Int × Int)))) ([] : List (BA × (Bool × (Zq2 × (List Zq1)))))) (j2000005 aw a1 true al am ([] : List (Int × Int)) ([] : List (Int × (Int × (Int × Int)))) ([] : List (BA × (Bool × (Zq2 × (List Zq1)))))))))) (fun bw bx bz b0 b1 ax => (N12.f (ByteArray.mk #[102, 117, 110, 99, 32, 102, 40, 41, 32, 123, 32, 97, 58, 32, 102, 111, 111, 32, 98, 97, 114, 32, 125]) (fun b2 b3 a2 => (br (!(av).isNil) (j2000005 ax a2 true al am ([] : List (Int × Int)) ([] : List (Int × (Int × (Int × Int)))) ([] : List (BA × (Bool × (Zq2 × (List Zq1)))))) (j2000005 ax a2 true al am ([] : List (Int × Int)) ([] : List (Int × (Int × (Int × Int)))) ([] : List (BA × (Bool × (Zq2 × (List Zq1)))))))) (fun b4 b5 b6 b7 b8 a3 => (br (!(av).isNil) (j2000005 ax a3 true al am ([] : List (Int × Int)) ([] : List (Int × (Int × (Int × Int)))) ([] : List (BA × (Bool × (Zq2 × (List Zq1)))))) (j2000005 ax a3 true al am ([] : List (Int × Int)) ([] : List (Int × (Int × (Int × Int)))) ([] : List (BA × (Bool × (Zq2 × (List Zq1)))))))))))) (fun ac ad ae af aa ay => (N12.f (ByteArray.mk #[102, 117, 110, 99, 32, 102, 40, 41, 32, 123, 32, 97, 58, 32, 97, 100, 100, 32, 37, 49, 59, 32, 125]) (fun b9 ga ao => (N12.f (ByteArray.mk #[102, 117, 110, 99, 32, 102, 40, 41, 32, 123, 32, 97, 58, 32, 102, 111, 111, 32, 98, 97, 114, 32, 125]) (fun gb gc az => (br (!(ay).isNil) (j2000005 ao az true ac ad ae af aa) (br (((((aa).length : Nat) : Int)) != (2 : Int)) (j2000005 ao az true ac ad ae af aa) ((inB 0 (0 : Int) ((((aa).length : Nat) : Int) - 1)) ∧ (br ((((((aa.getD (Int.toNat (0 : Int)) ((ByteArray.empty, (false, (([] : List (Int × (Int × (Int × Int)))), ([] : List Zq1)))))).2.2.2).length : Nat) : Int)) != (2 : Int)) (j2000005 ao az true ac ad ae af aa) ((inB 0 (1 : Int) ((((aa).length : Nat) : Int) - 1)) ∧ (j2000005 ao az ((((((aa.getD (Int.toNat (1 : Int)) ((ByteArray.empty, (false, (([] : List (Int × (Int × (Int × Int)))), ([] : List Zq1)))))).2.2.2).length : Nat) : Int)) != (1 : Int)) ac ad ae af aa))))))) (fun a4 a5 a6 a7 a8 ap => (br (!(ay).isNil) (j2000005 ao ap true ac ad ae af aa) (br (((((aa).length : Nat) : Int)) != (2 : Int)) (j2000005 ao ap true ac ad ae af aa) ((inB 0 (0 : Int) ((((aa).length : Nat) : Int) - 1)) ∧ (br ((((((aa.getD (Int.toNat (0 : Int)) ((ByteArray.empty, (false, (([] : List (Int × (Int × (Int × Int)))), ([] : List Zq1)))))).2.2.2).length : Nat) : Int)) != (2 : Int)) (j2000005 ao ap true ac ad ae af aa) ((inB 0 (1 : Int) ((((aa).length : Nat) : Int) - 1)) ∧ (j2000005 ao ap ((((((aa.getD (Int.toNat (1 : Int)) ((ByteArray.empty, (false, (([] : List (Int × (Int × (Int × Int)))), ([] : List Zq1)))))).2.2.2).length : Nat) : Int)) != (1 : Int)) ac ad ae af aa))))))))) (fun a9 ba bb bc bd an => (N12.f (ByteArray.mk #[102, 117, 110, 99, 32, 102, 40, 41, 32, 123, 32, 97, 58, 32, 102, 111, 111, 32, 98, 97, 114, 32, 125]) (fun bf bg aq => (br (!(ay).isNil) (j2000005 an aq true ac ad ae af aa) (br (((((aa).length : Nat) : Int)) != (2 : Int)) (j2000005 an aq true ac ad ae af aa) ((inB 0 (0 : Int) ((((aa).length : Nat) : Int) - 1)) ∧ (br ((((((aa.getD (Int.toNat (0 : Int)) ((ByteArray.empty, (false, (([] : List (Int × (Int × (Int × Int)))), ([] : List Zq1)))))).2.2.2).length : Nat) : Int)) != (2 : Int)) (j2000005 an aq true ac ad ae af aa) ((inB 0 (1 : Int) ((((aa).length : Nat) : Int) - 1)) ∧ (j2000005 an aq ((((((aa.getD (Int.toNat (1 : Int)) ((ByteArray.empty, (false, (([] : List (Int × (Int × (Int × Int)))), ([] : List Zq1)))))).2.2.2).length : Nat) : Int)) != (1 : Int)) ac ad ae af aa))))))) (fun bh bi bj bk bl ar => (br (!(ay).isNil) (j2000005 an ar true ac ad ae af aa) (br (((((aa).length : Nat) : Int)) != (2 : Int)) (j2000005 an ar true ac ad ae af aa) ((inB 0 (0 : Int) ((((aa).length : Nat) : Int) - 1)) ∧ (br ((((((aa.getD (Int.toNat (0 : Int)) ((ByteArray.empty, (false, (([] : List (Int × (Int × (Int × Int)))), ([] : List Zq1)))))).2.2.2).length : Nat) : Int)) != (2 : Int)) (j2000005 an ar true ac ad ae af aa) ((inB 0 (1 : Int) ((((aa).length : Nat) : Int) - 1)) ∧ (j2000005 an ar ((((((aa.getD (Int.toNat (1 : Int)) ((ByteArray.empty, (false, (([] : List (Int × (Int × (Int × Int)))), ([] : List Zq1)))))).2.2.2).length : Nat) : Int)) != (1 : Int)) ac ad ae af aa))))))))))))
def j6' x4 x6 ai aj ah ak ab k := j6 x4 x6 ai aj ah ak ab k
def j2000005' x4 x6 au ai aj ah ak ab k := j2000005 (fun x4 x6 ai aj ah ak ab => j6' x4 x6 ai aj ah ak ab k) x4 x6 au ai aj ah ak ab k
def f0 k := c (fun x4 x6 au ai aj ah ak ab => j2000005' x4 x6 au ai aj ah ak ab k) k
noncomputable def f := sld f0
theorem f_def : f = f0 := sld_eq f0
def m2000005 (x4 x6 : Err) (au ai : Bool) (aj : BA) (ah : (List (Int × Int))) (ak : Zq2) (ab : Zq3) : St := { tmps := mkT 98 0 [(1, (.ptr 0 0)), (4, (.er x4)), (6, (.er x6)), (45, (.v (.bool au)))], hp := [(.box 31 [(.v (.bool ai)), (.v (.string aj)), (.fz (Ty.pair Zy3 Zy3) ah), (.fz (Ty.pair Zy3 Zy0) ak), (.fz Zy2 ab)])], m := 0 }
def M2000005 (g : St → Prop) x4 x6 au ai aj ah ak ab := g (m2000005 x4 x6 au ai aj ah ak ab)
def m6 (x4 x6 : Err) (ai : Bool) (aj : BA) (ah : (List (Int × Int))) (ak : Zq2) (ab : Zq3) : St := { tmps := mkT 98 0 [(1, (.ptr 0 0)), (4, (.er x4)), (6, (.er x6))], hp := [(.box 31 [(.v (.bool ai)), (.v (.string aj)), (.fz (Ty.pair Zy3 Zy3) ah), (.fz (Ty.pair Zy3 Zy0) ak), (.fz Zy2 ab)])], m := 0 }
def M6 (g : St → Prop) x4 x6 ai aj ah ak ab := g (m6 x4 x6 ai aj ah ak ab)
def K0 (k : KT) (y0 : Bool) : Prop := k (.v (.bool y0)) []
noncomputable def T (k kp : KT) := topK cfg Tryz.f9 k kp
noncomputable def X2000005 (k kp : KT) : St → Prop := atP cfg (pick none' []) [1, 1, 1, 1, 0, 1] body (T k kp)
noncomputable def X6 (k kp : KT) : St → Prop := atP cfg (pick none' []) [1, 1, 1, 1, 1] body (T k kp)
noncomputable def JJ (k kp : KT) : Nat → St → Prop := pick none' [(2000005, X2000005 k kp), (6, X6 k kp)]
noncomputable def LL (k kp : KT) : Nat → St → Prop := pick none' []
theorem j6_eq (k kp) : M6 (X6 k kp) = fun x4 x6 ai aj ah ak ab => j6' x4 x6 ai aj ah ak ab (K0 k) := by
 funext x4 x6 ai aj ah ak ab
 exact raw_eq (own:=6) rfl (JJ k kp) (LL k kp) (fun J L => j6 x4 x6 ai aj ah ak ab (K0 k)) (by kernel_rfl) (fun _ _ => by kernel_rfl) rfl
theorem j2000005_eq (k kp) : M2000005 (X2000005 k kp) = fun x4 x6 au ai aj ah ak ab => j2000005' x4 x6 au ai aj ah ak ab (K0 k) := by
 funext x4 x6 au ai aj ah ak ab
 exact raw_eq (own:=2000005) rfl (JJ k kp) (LL k kp) (fun J L => j2000005 (M6 (J 6)) x4 x6 au ai aj ah ak ab (K0 k)) (by kernel_rfl) (fun _ _ => by kernel_rfl) (by erw [j6_eq k kp] <;> rfl)
def pa : List D := []
def pb : List Blk := []
theorem body_is : Tryz.f9.body = some body := by kernel_rfl
theorem f_eq (k kp) : funW cfg Tryz.f9 (pa) (pb) k kp = f (K0 k) :=
 raw_fun (own := 1000001) none'' (JJ k kp) (LL k kp) (fun J L => c (M2000005 (J 2000005)) (K0 k)) body_is (by kernel_rfl) (fun J L => by kernel_rfl) (by rw [f_def]; erw [j2000005_eq k kp] <;> rfl)
noncomputable def ent0 : Entry := fun args blks k _ => match args, blks with
 | [], [] => f (K0 k)
 | _, _ => False
noncomputable def ent : Entry := cvE [] ent0
theorem ok : EntOk Tryz.prog 112 157 9 ent := by
 refine fnOk (cfg := cfg) rfl rfl rfl rfl (by kernel_rfl) ?_ Tryz.func9 (by rfl) (by rfl) ?_
 ·exact tab_c N12.ok <| tab_c N17.ok <| tab_c N18.ok <| tab_n
 ·intro args blks k kp h k' kp'
  match args, blks, h with
  | [], [], h =>
  dsimp only [ent0] at h
  exact (f_eq k' kp').symm
end N9
end Go.Proofs.Yf
namespace Go.Proofs.Yf
open Go Go.Aw Go.Proofs Go.RowKit
theorem Func_c {l : List LTok} (T : LexP l) (a : Int) (k : Bool → ByteArray → Int → Err → Prop) (k1 : Bool → ByteArray → List (Int × Int) → List OpT → List BkT → Int → Err → Prop)
 (h : if a < 0 ∨ a ≥ (l.length : Int) then k false (ByteArray.mk #[]) 0 (newE 1 0) else (funcP l a.toNat).go (fun f j => k1 f.1 f.2.1 f.2.2.1 f.2.2.2.1 f.2.2.2.2 j Err.nil) (fun c p => k false (ByteArray.mk #[]) 0 (newE c p))) : N20.f l a k k1 := by
 have hlen := T.len
 rw [N20.f_def]
 unfold N20.f0 N20.c
 refine br_of (fun h1 => ?_) (fun h1 => ?_)
 ·have h1 := of_decide_eq_true h1
  rw [if_pos (.inl h1)] at h
  unfold N20.j2000002' N20.j2000002
  dsimp only
  rw [br_true]; exact h
 ·have h1 := of_decide_eq_false h1
  refine br_of (fun h2 => ?_) (fun h2 => ?_)
  ·have h2 := of_decide_eq_true h2
   rw [if_pos (.inr h2)] at h
   unfold N20.j2000002' N20.j2000002
   dsimp only
   rw [br_true]; exact h
  ·have h2 := of_decide_eq_false h2
   rw [if_neg (by omega)] at h
   obtain ⟨i, rfl⟩ := Int.eq_ofNat_of_zero_le (show 0 ≤ a by omega)
   have hi : i < l.length := by omega
   rw [Int.toNat_natCast] at h
   have hw : IntKind.i64.wrap (((l.length : Nat) : Int) - 1) = ((l.length - 1 : Nat) : Int) := by rw [wrap_id (by omega) (by omega)]; omega
   rw [hw, Int.toNat_natCast]
   refine ⟨⟨by omega, by omega, by omega⟩, ?_⟩
   have hk : ((l.getD (l.length - 1) (0, (ByteArray.empty, (0, (0, 0))))).1 != 0) = false := bne_eq_false_iff_eq.2 T.last
   rw [hk]
   unfold N20.j2000002' N20.j2000002 N20.j3' N20.j3
   dsimp only
   rw [br_false]
   exact func_c T hi _ _ h
theorem Text_c (s : ByteArray) (hs : s.size ≤ reachBytes) (k : Bool → ByteArray → Err → Prop) (k1 : Bool → ByteArray → List (Int × Int) → List OpT → List BkT → Err → Prop)
 (h : match textR (ofBytes s) with
   | .ok f => k1 f.1 f.2.1 f.2.2.1 f.2.2.2.1 f.2.2.2.2 Err.nil
   | .bad true c p => k false (ByteArray.mk #[]) (.win wText (.flt c p))
   | .bad false c p => k1 false (ByteArray.mk #[]) [] [] [] (.win wFunc (.flt c p))) : N12.f s k k1 := by
 have hB : ∀ x ∈ ofBytes s, isB x := ofBytes_isB s
 have hin : ∀ {w c p}, textR (ofBytes s) = .bad w c p → c ≠ 0 := fun e => (textR_in hB e).1
 rw [N12.f_def]
 unfold N12.f0 N12.c
 refine all_s s hs _ ?_
 unfold textR at h hin
 rw [err_nil]
 by_cases hc : (lexAll (ofBytes s)).2.1 = 0
 ·rw [if_neg (fun h => h hc)] at h hin
  have T := lexP hB hc
  have h0 := lexAll_pos hc
  rw [show (!decide ((lexAll (ofBytes s)).2.1 = 0)) = false by rw [decide_eq_true hc]; rfl, br_false]
  refine Func_c T 0 _ _ ?_
  rw [if_neg (by omega)]
  show (funcP (lexAll (ofBytes s)).1 0).go _ _
  cases e : funcP (lexAll (ofBytes s)).1 0 with
  | bad c p =>
    rw [e] at h hin
    dsimp only at h hin
    have hcn := hin rfl
    rw [PR.go_bad]
    dsimp only
    rw [ofN c p hcn, show (Err.flt c p).isNil = false from rfl, br_false]
    unfold N12.j2000006' N12.j2000006 N12.j7' N12.j7
    dsimp only
    rw [br_false]
    exact h
  | ok f j =>
    rw [e] at h
    dsimp only at h
    have hj := (step_func _ T 0 f j h0 e).2
    rw [PR.go_ok]
    dsimp only
    rw [show Err.nil.isNil = true from rfl, br_true, Int.toNat_natCast]
    have hin : inB 0 (j : Int) ((((lexAll (ofBytes s)).1.length : Nat) : Int) - 1) := ⟨by omega, by omega, by omega⟩
    refine ⟨hin, ?_⟩
    unfold N12.j2000006' N12.j2000006 N12.j7' N12.j7
    dsimp only
    refine br_of (fun h1 => ?_) (fun h1 => ?_)
    ·have h1 : (tokAt (lexAll (ofBytes s)).1 j).kind ≠ 0 := bne_iff_ne.1 h1
     rw [if_pos h1] at h
     refine ⟨hin, ?_⟩
     rw [Int.toNat_natCast, ofN 20 _ (by decide)]
     exact h
    ·have h1 : (tokAt (lexAll (ofBytes s)).1 j).kind = 0 := bne_eq_false_iff_eq.1 h1
     rw [if_neg (fun h => h h1)] at h
     exact h
 ·rw [if_pos hc] at h
  rw [show (!decide ((lexAll (ofBytes s)).2.1 = 0)) = true by rw [decide_eq_false hc]; rfl, br_true, ofN _ _ hc]
  exact h
def pwA : ByteArray := ByteArray.mk #[102, 117, 110, 99, 32, 102, 40, 37, 48, 41, 32, 123, 32, 114, 101, 103, 115, 32, 37, 48, 58, 103, 32, 37, 50, 58, 120, 59, 32, 97, 58, 32, 37, 48, 32, 61, 32, 108, 111, 97, 100, 32, 37, 50, 32, 43, 32, 45, 56, 59, 32, 115, 119, 105, 116, 99, 104, 32, 37, 48, 32, 91, 49, 58, 32, 97, 44, 32, 101, 108, 115, 101, 58, 32, 98, 46, 99, 93, 32, 59, 32, 101, 100, 103, 101, 32, 98, 46, 99, 58, 32, 114, 101, 116, 32, 40, 49, 43, 50, 41, 59, 32, 125]
def pwB : ByteArray := ByteArray.mk #[102, 117, 110, 99, 32, 102, 40, 41, 32, 123, 32, 97, 58, 32, 97, 100, 100, 32, 37, 49, 59, 32, 125]
def pwC : ByteArray := ByteArray.mk #[102, 117, 110, 99, 32, 102, 40, 41, 32, 123, 32, 97, 58, 32, 102, 111, 111, 32, 98, 97, 114, 32, 125]
def pwF : FuT := (false, ⟨#[102]⟩, [(0, 0), (2, 1)], [(1, 0, 0, 0)], [(⟨#[97]⟩, false, [], [(17, (1, 0, 0, 0), [(1, 0, 2, 0)], ⟨#[]⟩, -8, [], []), (22, (0, 0, 0, 0), [(1, 0, 0, 0)], ⟨#[]⟩, 0, [⟨#[97]⟩, ⟨#[98, 46, 99]⟩], [1])]), (⟨#[98, 46, 99]⟩, true, [], [(23, (0, 0, 0, 0), [(4, 0, 3, 0)], ⟨#[]⟩, 0, [], [])])])
theorem pwA_eq : textR (ofBytes pwA) = .ok pwF := by decide +kernel
theorem pwB_eq : textR (ofBytes pwB) = .bad false 20 20 := by decide +kernel
theorem pwC_eq : textR (ofBytes pwC) = .bad false 20 18 := by decide +kernel
theorem pworks_c (k : Bool → Prop) (h : k true) : N9.f k := by
 have hr : (200 : Nat) ≤ reachBytes := by decide
 have s1 : pwA.size ≤ 200 := by decide +kernel
 have s2 : pwB.size ≤ 200 := by decide +kernel
 have s3 : pwC.size ≤ 200 := by decide +kernel
 have B : ∀ (i n : Int), 0 ≤ i → i ≤ n - 1 → n ≤ 1000 → inB 0 i (n - 1) := fun i n h1 h2 h3 => ⟨by omega, by omega, by omega⟩
 rw [N9.f_def]
 unfold N9.f0 N9.c
 refine Text_c pwA (Nat.le_trans s1 hr) _ _ ?_
 rw [pwA_eq]
 dsimp only
 refine Text_c pwB (Nat.le_trans s2 hr) _ _ ?_
 rw [pwB_eq]
 dsimp only
 refine Text_c pwC (Nat.le_trans s3 hr) _ _ ?_
 rw [pwC_eq]
 dsimp only
 rw [show (!Err.isNil Err.nil) = false from rfl, br_false]
 have L : pwF.2.2.2.2.length = 2 := rfl
 have c1 : ((pwF.2.2.2.2.length : Int) != 2) = false := rfl
 rw [c1, br_false]
 refine ⟨B 0 _ (by omega) (by rw [L]; decide) (by rw [L]; decide), ?_⟩
 have c2 : (((pwF.2.2.2.2.getD (Int.toNat 0) (ByteArray.empty, false, [], [])).2.2.2.length : Int) != 2) = false := rfl
 rw [c2, br_false]
 refine ⟨B 1 _ (by omega) (by rw [L]; decide) (by rw [L]; decide), ?_⟩
 have c3 : (((pwF.2.2.2.2.getD (Int.toNat 1) (ByteArray.empty, false, [], [])).2.2.2.length : Int) != 1) = false := rfl
 rw [c3]
 unfold N9.j2000005' N9.j2000005 N9.j6' N9.j6
 dsimp only
 rw [br_false]
 refine ⟨B 0 _ (by omega) (by rw [L]; decide) (by rw [L]; decide), B 0 _ (by omega) (show (0 : Int) ≤ 2 - 1 by decide) (show (2 : Int) ≤ 1000 by decide), ?_⟩
 have no : ∀ {p : Prop}, true = false → p := fun h => Bool.noConfusion h
 refine br_of (fun _ => ?_) (fun hf => no hf)
 refine br_of (fun _ => ?_) (fun hf => no hf)
 refine ⟨B 1 _ (by omega) (by rw [L]; decide) (by rw [L]; decide), ?_⟩
 refine br_of (fun _ => ?_) (fun hf => no hf)
 refine ⟨B 1 _ (by omega) (by rw [L]; decide) (by rw [L]; decide), B 0 _ (by omega) (show (0 : Int) ≤ 1 - 1 by decide) (show (1 : Int) ≤ 1000 by decide), B 0 _ (by omega) (show (0 : Int) ≤ 1 - 1 by decide) (show (1 : Int) ≤ 1000 by decide), ?_⟩
 refine br_of (fun _ => ?_) (fun hf => no hf)
 refine ⟨rfl, br_of (fun _ => ?_) (fun hf => no hf)⟩
 refine ⟨rfl, br_of (fun _ => ?_) (fun hf => no hf)⟩
 exact ⟨rfl, h⟩
end Go.Proofs.Yf
namespace Go.Proofs.Yf
open Go Go.Aw Go.Proofs
namespace N6
noncomputable def cfg : Cfg := { cb with E := tab [(9, N9.ent), (12, N12.ent), (18, N18.ent), (24, N24.ent), (17, N17.ent)], atSeq := tab [(2000008, ks [0, 4, 5, 29]), (9, ks [0, 4, 5])] }
noncomputable def body : Code := bodyOf Tryz.f6
def j2000008 (j9 : BA → Err → Int → Prop) (x0 : BA) (x4 : Err) (x5 : Int) (ac : Bool) (k : Bool → Prop) : Prop :=
 (br ac (k false) (j9 x0 x4 x5))
def j9 (x0 : BA) (x4 : Err) (x5 : Int) (k : Bool → Prop) : Prop :=
 ((plainE x4 = true) ∧ (br (!(hasE x4 (20 : Int))) (N9.f (fun ai => (k ai))) ((inB 0 x5 (((x0).size : Nat) : Int)) ∧ (N12.f (ByteArray.extract x0 (Int.toNat 0) (Int.toNat x5)) (fun aj ak ad => (br (ad).isNil (N9.f (fun al => (k al))) ((plainE ad = true) ∧ (br ((ofE ad) == (20 : Int)) ((plainE ad = true) ∧ (br ((atE ad) == x5) (N9.f (fun am => (k am))) (k false))) (k false))))) (fun an ao ap aq ar ae => (br (ae).isNil (N9.f (fun af => (k af))) ((plainE ae = true) ∧ (br ((ofE ae) == (20 : Int)) ((plainE ae = true) ∧ (br ((atE ae) == x5) (N9.f (fun ah => (k ah))) (k false))) (k false)))))))))
def c (j2000008 : BA → Err → Int → Bool → Prop) (x0 : BA) (k : Bool → Prop) : Prop :=
 (br (decide (((((x0).size : Nat) : Int)) > (2000 : Int))) (N9.f (fun au => (k au))) (N12.f x0 (fun av aw aa => (br (aa).isNil (N9.f (fun ax => (k ax))) ((plainE aa = true) ∧ (br (decide ((atE aa) < (0 : Int))) (j2000008 x0 aa (atE aa) true) (j2000008 x0 aa (atE aa) (decide ((atE aa) > ((((x0).size : Nat) : Int))))))))) (fun ay az a0 a1 a2 ab => (br (ab).isNil (N9.f (fun a3 => (k a3))) ((plainE ab = true) ∧ (br (decide ((atE ab) < (0 : Int))) (j2000008 x0 ab (atE ab) true) (j2000008 x0 ab (atE ab) (decide ((atE ab) > ((((x0).size : Nat) : Int)))))))))))
def j9' x0 x4 x5 k := j9 x0 x4 x5 k
def j2000008' x0 x4 x5 ac k := j2000008 (fun x0 x4 x5 => j9' x0 x4 x5 k) x0 x4 x5 ac k
def f0 x0 k := c (fun x0 x4 x5 ac => j2000008' x0 x4 x5 ac k) x0 k
noncomputable def f := sld f0
theorem f_def : f = f0 := sld_eq f0
def m2000008 (x0 : BA) (x4 : Err) (x5 : Int) (ac : Bool) : St := { tmps := mkT 57 0 [(0, (.v (.string x0))), (4, (.er x4)), (5, (.v (.int .i64 x5))), (29, (.v (.bool ac)))], hp := [], m := 0 }
def M2000008 (g : St → Prop) x0 x4 x5 ac := g (m2000008 x0 x4 x5 ac)
def m9 (x0 : BA) (x4 : Err) (x5 : Int) : St := { tmps := mkT 57 0 [(0, (.v (.string x0))), (4, (.er x4)), (5, (.v (.int .i64 x5)))], hp := [], m := 0 }
def M9 (g : St → Prop) x0 x4 x5 := g (m9 x0 x4 x5)
def K0 (k : KT) (y0 : Bool) : Prop := k (.v (.bool y0)) []
noncomputable def T (k kp : KT) := topK cfg Tryz.f6 k kp
noncomputable def X2000008 (k kp : KT) : St → Prop := atP cfg (pick none' []) [1, 1, 1, 1, 1, 0, 1] body (T k kp)
noncomputable def X9 (k kp : KT) : St → Prop := atP cfg (pick none' []) [1, 1, 1, 1, 1, 1] body (T k kp)
noncomputable def JJ (k kp : KT) : Nat → St → Prop := pick none' [(2000008, X2000008 k kp), (9, X9 k kp)]
noncomputable def LL (k kp : KT) : Nat → St → Prop := pick none' []
theorem j9_eq (k kp) : M9 (X9 k kp) = fun x0 x4 x5 => j9' x0 x4 x5 (K0 k) := by
 funext x0 x4 x5
 exact raw_eq (own:=9) rfl (JJ k kp) (LL k kp) (fun J L => j9 x0 x4 x5 (K0 k)) (by kernel_rfl) (fun _ _ => by kernel_rfl) rfl
theorem j2000008_eq (k kp) : M2000008 (X2000008 k kp) = fun x0 x4 x5 ac => j2000008' x0 x4 x5 ac (K0 k) := by
 funext x0 x4 x5 ac
 exact raw_eq (own:=2000008) rfl (JJ k kp) (LL k kp) (fun J L => j2000008 (M9 (J 9)) x0 x4 x5 ac (K0 k)) (by kernel_rfl) (fun _ _ => by kernel_rfl) (by erw [j9_eq k kp] <;> rfl)
def pa (x0 : BA) : List D := [(.v (.string x0))]
def pb (x0 : BA) : List Blk := []
theorem body_is : Tryz.f6.body = some body := by kernel_rfl
theorem f_eq (k kp x0) : funW cfg Tryz.f6 (pa x0) (pb x0) k kp = f x0 (K0 k) :=
 raw_fun (own := 1000001) none'' (JJ k kp) (LL k kp) (fun J L => c (M2000008 (J 2000008)) x0 (K0 k)) body_is (by kernel_rfl) (fun J L => by kernel_rfl) (by rw [f_def]; erw [j2000008_eq k kp] <;> rfl)
noncomputable def ent0 : Entry := fun args blks k _ => match args, blks with
 | [d0], [] => aStr d0 fun x0 => f x0 (K0 k)
 | _, _ => False
noncomputable def ent : Entry := cvE [.no] ent0
theorem ok : EntOk Tryz.prog 112 157 6 ent := by
 refine fnOk (cfg := cfg) rfl rfl rfl rfl (by kernel_rfl) ?_ Tryz.func6 (by rfl) (by rfl) ?_
 ·exact tab_c N9.ok <| tab_c N12.ok <| tab_c N18.ok <| tab_c N24.ok <| tab_c N17.ok <| tab_n
 ·intro args blks k kp h k' kp'
  match args, blks, h with
  | [d0], [], h =>
  dsimp only [ent0] at h
  repeat ((first|have q := aStr_elim h); clear h; first|obtain ⟨rfl, h⟩ := q|obtain ⟨_, rfl, h⟩ := q|obtain ⟨_, _, rfl, h⟩ := q)
  exact (f_eq ..).symm
end N6
end Go.Proofs.Yf
namespace Go.Proofs.Yf.ParseInside
open Go Go.Aw Go.Proofs Go.Proofs.YtlmojaagfmhejaaGreatDoor Go.ChangeShapes Go.WideShapes Go.ChangeAt Go.RowKit
def Pure : Prop := ∀ (x0 : ByteArray) (w0 : x0.size ≤ reachBytes), N6.f x0 (fun y0 => y0 = true)
theorem own : ownKnob Tryz.prog.godebug = none := by kernel_rfl
theorem laid : laidOutB Tryz.prog = true := by kernel_rfl
set_option maxRecDepth 100000 in
theorem lifted (pure : Pure) (os : Os) (started : os.Started) (H : Type) (enc : TypeId × Value → H) (F : Stop.Interp) :
 ReturnsInHanded {} Tryz.checked os 6 .any ((OpenSpec.ofChange Rows.parseInsideSpec).preRow enc Tryz.prog Tryz.f6 Rows.parseInsideRow.domain false Rows.parseInsideRow.laid) (((OpenSpec.ofChange Rows.parseInsideSpec).at F).post enc Tryz.prog Tryz.f6 false true false false) := by
 obtain ⟨places, hx⟩ : ∃ places, DataW.whole enc Tryz.prog ((laidWorld os).forCall (fun _ _ => 0) ⟨#[], #[.string ⟨#[]⟩], []⟩).memory Tryz.f6.params.toList Rows.parseInsideSpec.vars false (#[.string ⟨#[]⟩] : Array Value).toList 60 = some ([(.lit (.string []))], [], places) := ⟨[], by kernel_rfl⟩
 refine returnsInHanded_of_row (C := Tryz.checked) (s := (OpenSpec.ofChange Rows.parseInsideSpec)) own started (by kernel_rfl) Tryz.func6
  (witness_row_at (enc := enc) (C := Tryz.checked) false (laidWorld os) #[.string ⟨#[]⟩] rfl (by kernel_rfl) (by kernel_rfl) (by kernel_rfl)
    (OpenSpec.preRow_of_cond 60 hx (by kernel_rfl) (fun k hk => by cases hk) (by kernel_rfl) (laid_met os _))) ?_
 intro W base args ds gs before hval0 hW hcnd hcond hsz0 hL _ _
 have hsz : (DataW.weightsEach Tryz.prog (Tryz.f6.params.toList ++ Rows.parseInsideSpec.plain.varTypes Tryz.prog) (ds ++ gs)).all (· ≤ reachBytes) = true := hsz0
 have hval : ∀ (j : Nat) t v, Tryz.f6.params[j]? = some t → args[j]? = some v → Value.okWide Tryz.prog W .any base t v := hval0
 have hW' := hW
 have hlt := hW.lt
 obtain ⟨p, q, hA0, hV, rfl, hfz, hnd⟩ := hW
 have hA : DataW.TrodAll enc Tryz.prog W 0 (fun _ => true) true Tryz.f6.params.toList args.toList ds p := hA0
 have hAk := hA
 rw [Tryz.params6] at hA hval hsz
 obtain ⟨v0, vs0, d0, ds0, p0, q0, hargs, rfl, rfl, h0, r0⟩ := trodAll_cons hA
 obtain ⟨rfl, rfl, rfl⟩ := trodAll_nil r0
 obtain rfl : args = #[v0] := by cases args; simp_all
 obtain ⟨rfl, rfl⟩ := trodVars_none hV
 obtain ⟨x0, k0, w0, q0⟩ := arg_str (tf := 112) (tw := 157) (by kernel_rfl) (hval 0 9 v0 rfl rfl) h0 (fun m hm => of_decide_eq_true (List.all_eq_true.1 hsz m (DataW.weights_mem_each (j := 0) rfl rfl m hm)))
 refine (law_ofG N6.ok (W := W) (hand hL) (us := [v0]) (ds := [.v (.string x0)]) ⟨_, _, rfl, k0, by simp only [RepL]⟩ (show N6.ent _ _ _ _ from pure x0 w0)).mono fun e W' ⟨he, bel⟩ => ?_
 subst he
 exact ⟨_, rfl, _, _, _, [], _, [], hW', trodAll_mk1 (shut_bool (by kernel_rfl) _), trodAll_below laid bel (by kernel_rfl) hAk (fun x hx => hlt x (by simpa using hx)), rfl, bel.frame _, fun h => by cases h⟩
theorem said (pure : Pure) : Rows.ParseInsideSaid :=
 OpenClaim.holds_of_cond 6 Tryz.f6 rfl rfl rfl rfl rfl rfl rfl ⟨rfl, rfl, rfl, rfl, rfl⟩ rfl rfl rfl rfl rfl (by kernel_rfl) Tryz.func6 (by kernel_rfl)
  (of_decide_eq_true (by kernel_rfl)) (by unfold Func.isWrapper; first | (rw [if_pos (by decide +kernel)]; kernel_rfl) | (rw [if_neg (by decide +kernel)]; exact ⟨rfl, rfl⟩))
  (fun os started H enc _ F => by rw [OpenClaim.pre_eq_preRow]; exact lifted pure os started H enc F)
theorem holds (pure : Pure) : Rows.ParseInsideCardSaid :=
 Claim7.holds_tied_plain_at .later [] _ _ _ _ (said pure) (fun _ h => by cases h) (by kernel_rfl) (fun _ h => by cases h) parseInside_row_tie rfl ⟨rfl, rfl⟩ (by kernel_rfl) rfl
  (fun f fn hf hfn => by
    obtain rfl : f = 6 := Option.some.inj ((show Tryz.prog.funcNamed "dyehouse/dyehouselaw16.ParseInside" = some 6 by kernel_rfl).symm.trans hf) |>.symm
    obtain rfl : fn = Tryz.f6 := (Option.some.inj (Tryz.func6.symm.trans hfn)).symm
    refine ⟨by kernel_rfl, fun j t ht => ?_⟩
    rw [Tryz.params6] at ht
    have hm : t ∈ ([9] : List TypeId) := by simpa using Array.mem_of_getElem? ht
    simp only [List.mem_cons, List.not_mem_nil, or_false] at hm
    rcases hm with rfl
    ·exact (show Tryz.prog.wantsStandIn 9 = false by kernel_rfl)
  )
  (by kernel_rfl)
end Go.Proofs.Yf.ParseInside
namespace Go.Proofs.Yf.ParseInside
open Go Go.Aw Go.Proofs Go.Proofs.Yf Go.RowKit
theorem pure : Pure := by
 intro s hs
 have hB : ∀ x ∈ ofBytes s, isB x := ofBytes_isB s
 have hlen := ofBytes_length s
 have W : N9.f (fun y => y = true) := pworks_c _ rfl
 rw [N6.f_def]
 unfold N6.f0 N6.c
 refine br_of (fun _ => W) (fun h0 => ?_)
 have bad : ∀ (w : Bool) (c p : Int) (e : Err), textR (ofBytes s) = .bad w c p → (e = .win wText (.flt c p) ∨ e = .win wFunc (.flt c p)) →
  br e.isNil (N9.f fun y => y = true) (plainE e = true ∧ br (decide (atE e < 0)) (N6.j2000008' s e (atE e) true fun y => y = true) (N6.j2000008' s e (atE e) (decide (atE e > ((s.size : Nat) : Int))) fun y => y = true)) := by
  intro w c p e hR he
  obtain ⟨hc, hp0, hp1⟩ := textR_in hB hR
  have e1 : e.isNil = false ∧ plainE e = true ∧ atE e = p ∧ hasE e 20 = (c == 20) := by
   rcases he with rfl | rfl <;> exact ⟨rfl, rfl, rfl, rfl⟩
  obtain ⟨e1, e2, e3, e4⟩ := e1
  rw [e1, br_false, e3]
  refine ⟨e2, ?_⟩
  rw [decide_eq_false (show ¬ p < 0 by omega), br_false, decide_eq_false (show ¬ p > ((s.size : Nat) : Int) by omega)]
  unfold N6.j2000008' N6.j2000008 N6.j9' N6.j9
  dsimp only
  rw [br_false]
  refine ⟨e2, ?_⟩
  rw [e4]
  refine br_of (fun _ => W) (fun h20 => ?_)
  have h20 : c = 20 := by simpa using h20
  subst h20
  refine ⟨⟨by omega, by omega, by omega⟩, ?_⟩
  have hx : ofBytes (ByteArray.extract s (Int.toNat 0) (Int.toNat p)) = (ofBytes s).take p.toNat := by
   rw [ofBytes_extract]; simp
  have hsz : (ByteArray.extract s (Int.toNat 0) (Int.toNat p)).size ≤ reachBytes := by
   rw [← ofBytes_length, hx, List.length_take]; omega
  refine Text_c _ hsz _ _ ?_
  rw [hx]
  rcases textR_cut hB hR with ⟨f, h⟩ | h
  ·rw [h]
   exact W
  ·rw [h]
   dsimp only
   refine ⟨rfl, ?_⟩
   refine br_of (fun _ => ?_) (fun hf => Bool.noConfusion (show true = false from hf))
   refine ⟨rfl, ?_⟩
   rw [show (atE (Err.win wFunc (Err.flt 20 p)) == p) = true from by show (p == p) = true; simp, br_true]
   exact W
 refine Text_c s hs _ _ ?_
 cases hR : textR (ofBytes s) with
 | ok f => exact W
 | bad w c p =>
   cases w with
   | true => exact bad true c p _ hR (.inl rfl)
   | false => exact bad false c p _ hR (.inr rfl)
theorem proved : Go.Proofs.YtlmojaagfmhejaaGreatDoor.Rows.ParseInsideCardSaid := holds pure
end Go.Proofs.Yf.ParseInside
namespace Go.Proofs.YtlmojaagfmhejaaGreatDoor
/-- The statement. -/
theorem parseInsideCard_holds : Rows.ParseInsideCardSaid := Go.Proofs.Yf.ParseInside.proved
#print axioms parseInsideCard_holds
end Go.Proofs.YtlmojaagfmhejaaGreatDoor
