/- Words for the proof of the statement: plain data in place of memory. -/
import Derived.Test.YtlmojaagfmhejaaGreatDoorT1
import Derived.LoopN
import Derived.Scope
import Derived.ChangeKeysEq
import Derived.OpenShut
import Derived.SizedLaws
import Derived.Carry
import Derived.Deep.Slices
set_option linter.unusedVariables false
set_option linter.unusedSimpArgs false
set_option linter.unusedSectionVars false
set_option maxRecDepth 100000
set_option maxHeartbeats 4000000
namespace Go.Aw
open Go.RowKit
theorem any_pan [Inhabited Dfr] {cfg : Cfg} (T : TblOk cfg) (hD : DetOk cfg) {ops : Array Oper} {M : List Blk} (hM : Boxy M) (ho : ordOkE cfg ops = true) (hpd : pdOk cfg ops = true) {KP : D → St → Prop} {Q : Exit → Act → World → Prop} {c0 : Cx} {m : Nat} (h0 : TOk cfg.P cfg.tf cfg.tw c0)
 (hQP : ∀ d st' c' a' p, KP d st' → SRep c' st' a' → HRep c' → Inv c0 m c' → Rep c' d p → Q (.panic [{ v := p, recovered := false }]) a' c'.w)
 (hins : ∀ d st tmps, KP d st → KP d { st with tmps := tmps })
 {st : St} {c : Cx} {a : Act} (hA : Agree M st.hp) (S : SRep c st a) (H : HRep c) (I : Inv c0 m c) (h : PanWay cfg ops M (barsE cfg ops) ⟨fun _ => [], fun _ => .bad, fun _ => []⟩ st 0 KP) :
 wpAny cfg.P .any ops Q ops.size (Array.replicate ops.size false) a c.w := by
 obtain ⟨o1, o2⟩ := ordOkE_spec ho
 obtain ⟨pd1, pd2⟩ := pdOk_spec hpd
 obtain ⟨N, E, oN, _, _, hal, hoN, hbN, hPN, htr⟩ := h
 let B : Nat → Bool := turnB cfg ops (barsE cfg ops)
 let X : Array Bool → Nat → Bool := fun l j => l.getD j false
 have wx : ∀ j o' t, ops[j]? = some o' → wr E j o' t → o'.dst = some t ∨ ∃ ty, (t, ty) ∈ adoptsAt cfg ops j := by
  intro j o' t hj hw
  rcases hw with hw | hw
  ·exact .inl hw
  ·obtain ⟨x, hx⟩ := Option.isSome_iff_exists.1 hw
   rcases Nat.lt_or_ge j N with hjN | hjN
   ·exact .inr ((htr j o' (Nat.zero_le _) hjN hj).2.1 t x hx).2
   ·rw [hal j hjN] at hx
    cases hx
 have named : ∀ (j : Nat) (o' : Oper) (t : Nat), ops[j]? = some o' → wr E j o' t → t ∈ namesOf ops o' := by
  intro j o' t hj hw
  rcases wx j o' t hj hw with hw | ⟨ty, hw⟩
  ·exact List.mem_append_left _ (by rw [hw]; simp)
  ·obtain ⟨_, _, _, o2, h5, h6⟩ := adopts_is hw
   rw [hj] at h5
   cases h5
   exact List.mem_append_right _ (List.mem_append_left _ h6)
 have key : ∀ (fuel : Nat) (l : Array Bool) (c : Cx) (a : Act), l.size = ops.size → (∀ j, X l j = true → j < N) → (∀ (j : Nat) (o : Oper), X l j = true → ops[j]? = some o → ∀ e ∈ o.after, Region.binds .any e = true → X l e.on = true) →
  SRep c (yieldsE ops B E (X l) st ops.size) a → HRep c → Inv c0 m c → (∃ f, Pi cfg ops B (X l) c0 c a f) → (List.range ops.size).countP (fun j => !X l j) ≤ fuel → wpAny cfg.P .any ops Q fuel l a c.w := by
  intro fuel
  induction fuel with
  | zero =>
    intro l c a hl hN hdn S H I hP hf
    have all : ∀ j, j < ops.size → X l j = true := by
     intro j hj
     have := List.countP_eq_zero.1 (Nat.le_zero.1 hf) j (List.mem_range.2 hj)
     simpa using this
    exact absurd (hN N (all N (Array.getElem?_eq_some_iff.1 hoN).1)) (Nat.lt_irrefl _)
  | succ fuel ih =>
    intro l c a hl hN hdn S H I hP hf
    refine ⟨fun hr => ?_, fun i hi => ?_⟩
    ·have all : ∀ j, j < ops.size → X l j = true := by
      intro j
      induction j using Nat.strongRecOn with
      | _ j ihj =>
        intro hj
        cases hx : X l j with
        | true => rfl
        | false =>
          have hmem : j ∈ Region.ready .any ops l := by
           refine mem_ready.2 ⟨?_, ops[j], by simp [hj], fun e he hb => ?_⟩
           ·have : X l j = false := hx
            simp only [X, Array.getD_eq_getD_getElem?] at this
            rw [Array.getElem?_eq_getElem (by omega)] at this
            rw [Array.getD_eq_getD_getElem?, Array.getElem?_eq_getElem (by omega)]
            simpa using this
           ·have hlt := o1 j ops[j] (by simp [hj]) e he hb
            exact ihj e.on hlt (by omega)
          rw [hr] at hmem
          cases hmem
     exact absurd (hN N (all N (Array.getElem?_eq_some_iff.1 hoN).1)) (Nat.lt_irrefl _)
    ·obtain ⟨h1, o, h2, h3⟩ := mem_ready.1 hi
     have hlt : i < ops.size := (Array.getElem?_eq_some_iff.1 h2).1
     have hxi : X l i = false := by
      simp only [X, Array.getD_eq_getD_getElem?]
      rw [Array.getD_eq_getD_getElem?] at h1
      rw [Array.getElem?_eq_getElem (by omega)] at h1 ⊢
      simpa using h1
     have up : ∀ j, X l j = true → X (l.setIfInBounds i true) j = true := fun j hj => getD_set_true hj
     have hne : ∀ j, j ≠ i → X (l.setIfInBounds i true) j = X l j := fun j hj => getD_set_ne false (Ne.symm hj)
     have hii : X (l.setIfInBounds i true) i = true := by
      simp only [X, Array.getD_eq_getD_getElem?]
      rw [Array.getElem?_setIfInBounds]
      simp [show i < l.size by omega]
     have later : ∀ (j : Nat) (o' : Oper) (t : Nat), ops[j]? = some o' → (o'.dst = some t ∨ ∃ ty, (t, ty) ∈ adoptsAt cfg ops j) → t ∈ namesOf ops o → i < j → X l j = true → False := by
      intro j o' t g1 g2 g3 g4 g5
      rcases o2 i o j o' t h2 g1 g2 g3 with g | g
      ·omega
      ·rw [Nat.max_eq_left (Nat.le_of_lt g4), Nat.min_eq_right (Nat.le_of_lt g4)] at g
       have := before_in (ops := ops) (fun x => X l x = true) hdn j g1 (fun e he hb => hdn j o' g5 g1 e he hb) g
       rw [this] at hxi
       cases hxi
     have earlier : ∀ (j : Nat) (o' : Oper) (t : Nat), ops[j]? = some o' → (o'.dst = some t ∨ ∃ ty, (t, ty) ∈ adoptsAt cfg ops j) → t ∈ namesOf ops o → j < i → X l j = true := by
      intro j o' t g1 g2 g3 g4
      rcases o2 i o j o' t h2 g1 g2 g3 with g | g
      ·omega
      ·rw [Nat.max_eq_right (Nat.le_of_lt g4), Nat.min_eq_left (Nat.le_of_lt g4)] at g
       exact before_in (ops := ops) (fun x => X l x = true) hdn i h2 h3 g
     have hnames : ∀ t, t ∈ o.looksAt ops → t ∈ namesOf ops o := fun t ht => List.mem_append_right _ ht
     have hag : agree (o.looksAt ops) (yieldsE ops B E (fun _ => true) st i) (yieldsE ops B E (X l) st ops.size) := by
      intro t ht
      refine getD_of (yieldE_same (fun j o' g1 g2 g3 _ => ⟨(Array.getElem?_eq_some_iff.1 g2).1, earlier j o' t g2 (wx j o' t g2 g3) (hnames t ht) g1⟩) (fun j o' g1 g2 g3 g4 => ⟨?_, rfl⟩))
      rcases Nat.lt_trichotomy j i with g | g | g
      ·exact g
      ·subst g; rw [g4] at hxi; cases hxi
      ·exact (later j o' t g2 (wx j o' t g2 g3) (hnames t ht) g g4).elim
     have bearlier : asideO cfg o = false → ∀ j, j < ops.size → B j = true → j < i → X l j = true := by
      intro ha j g1 g2 g3
      have g := barsE_spec (turnB_is g2).1 h2 ha (by omega)
      rw [Nat.max_eq_left (Nat.le_of_lt g3), Nat.min_eq_right (Nat.le_of_lt g3)] at g
      exact before_in (ops := ops) (fun x => X l x = true) hdn i h2 h3 g
     have blater : asideO cfg o = false → ∀ (j : Nat) (o' : Oper), ops[j]? = some o' → B j = true → i < j → X l j = true → False := by
      intro ha j o' g1 g2 g4 g5
      have g := barsE_spec (turnB_is g2).1 h2 ha (by omega)
      rw [Nat.max_eq_right (Nat.le_of_lt g4), Nat.min_eq_left (Nat.le_of_lt g4)] at g
      have := before_in (ops := ops) (fun x => X l x = true) hdn j g1 (fun e he hb => hdn j o' g5 g1 e he hb) g
      rw [this] at hxi
      cases hxi
     have baside : B i = true → asideO cfg o = false := by
      intro g
      obtain ⟨_, o', q1, q2⟩ := turnB_is g
      rw [h2] at q1
      cases q1
      exact q2
     have hhp : asideO cfg o = false → (yieldsE ops B E (X l) st ops.size).hp = (yieldsE ops B E (fun _ => true) st i).hp := by
      intro ha
      refine yieldE_hp (fun j o' g1 g2 g3 g4 => ⟨?_, rfl⟩) (fun j o' g1 g2 g3 _ => ⟨(Array.getElem?_eq_some_iff.1 g2).1, bearlier ha j (Array.getElem?_eq_some_iff.1 g2).1 g3 g1⟩)
      rcases Nat.lt_trichotomy j i with g | g | g
      ·exact g
      ·subst g; rw [g4] at hxi; cases hxi
      ·exact (blater ha j o' g2 g3 g g4).elim
     have hlenX : ∀ Z, (yieldsE ops B E Z st ops.size).m = st.m ∧ (yieldsE ops B E Z st ops.size).tmps.length = st.tmps.length := fun Z => yieldE_len ops B E Z st ops.size
     rcases Nat.lt_trichotomy i N with hiN | hiN | hiN
     case inr.inr =>
      have g := hPN.ok
      unfold panOk at g
      simp only [List.all_eq_true, List.mem_range] at g
      have g1 := g i hlt
      rw [Bool.or_eq_true] at g1
      rcases g1 with g1 | g1
      ·exact absurd (Nat.le_of_ble_eq_true g1) (by omega)
      ·have := before_in (ops := ops) (fun x => X l x = true) hdn i h2 h3 g1
       exact absurd (hN N this) (Nat.lt_irrefl _)
     case inr.inl =>
      subst hiN
      rw [hoN] at h2
      cases h2
      have h2 := hoN
      have ha : asideO cfg oN = false := by unfold asideO; rw [hPN.light, hPN.pend]; rfl
      obtain ⟨d, hp, tmps, hkp, hrun⟩ := hPN.run
      obtain ⟨st2, had, hop⟩ := hrun (yieldsE ops B E (X l) st ops.size) (hhp ha) ((hlenX _).2.trans (yieldE_len ops B E (fun _ => true) st i).2.symm) hag
      obtain ⟨f, hP⟩ := hP
      have wl : ∀ p ∈ adoptsAt cfg ops i, Wa cfg ops B (X l) p.1 p.2 := by
       rintro ⟨t, ty⟩ hp
       obtain ⟨r1, ⟨j, o', r2, r3⟩, r4, r5⟩ := adopts_is hp
       obtain ⟨ty', r6⟩ := isPend_is r3
       obtain ⟨s1, s2, s3, s4⟩ := pendO_is r6
       rw [pendTy_of pd1 r1] at s4
       cases s4
       obtain ⟨_, u2, u3⟩ := pd2 j o' t ty r2 s3 (pendTy_of pd1 r1)
       have hji := u3 i r4
       obtain ⟨o3, v1, v2⟩ := r5
       rw [h2] at v1
       cases v1
       refine ⟨j, o', r2, r6, earlier j o' t r2 (.inl s3) (List.mem_append_right _ (List.mem_append_left _ v2)) hji, fun i' q5 q6 => ?_⟩
       obtain ⟨_, _, q7, _⟩ := adopts_is q5
       rw [r4] at q7
       cases q7
       exact hxi
      obtain ⟨c1, e1, e2, e3, e4, S1, H1, I1, own1⟩ := adoptAll f (adoptsAt cfg ops i) H S I (fun p hp => hP.wt p.1 p.2 (wl p hp)) (List.Nodup.sublist (List.Sublist.map _ (List.filter_sublist)) pd1) (fun p hp q hq hne' => hP.inj p.1 p.2 q.1 q.2 (wl p hp) (wl q hq) hne') had
      have hm : st2.m = (yieldsE ops B E (fun _ => true) st i).m := by
       rw [adoptL_eq] at had
       cases hz : zeroBoxes cfg (adoptsAt cfg ops i) with
       | none => rw [hz] at had; cases had
       | some bs =>
         rw [hz] at had
         simp only [Option.map_some, Option.some.injEq] at had
         subst had
         exact (hlenX _).1.trans (yieldE_len ops B E (fun _ => true) st i).1.symm
      have := operW_sound2 T (K := fun _ => False) (KP := fun d' s => d' = d ∧ s = { st2 with hp }) (h0.step I1.tf I1.tw I1.ext) S1 H1 (hop _ ⟨rfl, rfl⟩) (wpAny cfg.P .any ops Q fuel (l.setIfInBounds i true)) Q (fun st' c' a' e S' H' St' hv => e.elim)
       (fun d' st' c' p e S' H' St' hr => by
         obtain ⟨rfl, rfl⟩ := e
         refine hQP d' _ c' a p ?_ S' H' (I1.step St') hr
         have := hins d' _ st2.tmps hkp
         rw [← hm] at this
         exact this)
      rw [e1] at this
      unfold wpOp
      simp only [h2]
      split
      ·rename_i hw
       rw [if_pos hw] at this
       exact .inl this
      ·rename_i hw
       rw [if_neg hw] at this
       exact this
     have hnext : ((yieldsE ops B E (X l) st ops.size).up (E.al i)).put o.dst (E.ds i) (match B i with | true => E.hs i | false => (yieldsE ops B E (X l) st ops.size).hp) = yieldsE ops B E (X (l.setIfInBounds i true)) st ops.size := by
      have ext : ∀ s s' : St, (∀ t : Nat, s.tmps[t]? = s'.tmps[t]?) → s.hp = s'.hp → s.m = s'.m → s = s' := by
       intro s s' e1 e2 e3
       cases s; cases s'
       simp at e1 e2 e3 ⊢
       exact ⟨List.ext_getElem? e1, e2, e3⟩
      refine ext _ _ (fun t => ?_) ?_ (by
       have : ∀ (s : St) (dst : Option Tmp) d hp, (s.put dst d hp).m = s.m := by intro s dst d hp; cases dst <;> rfl
       rw [this, (hlenX _).1]
       exact (hlenX _).1)
      case refine_2 =>
       rw [put_hp]
       cases hBi : B i with
       | true =>
         have ha := baside hBi
         have e1 : (yieldsE ops B E (X (l.setIfInBounds i true)) st ops.size).hp = (yieldsE ops B E (fun _ => true) st (i + 1)).hp := by
          refine yieldE_hp (fun j o' g1 g2 g3 g4 => ⟨?_, rfl⟩) (fun j o' g1 g2 g3 _ => ⟨(Array.getElem?_eq_some_iff.1 g2).1, ?_⟩)
          ·rcases Nat.lt_or_ge i j with g | g
           ·rw [hne j (by omega)] at g4
            exact (blater ha j o' g2 g3 g g4).elim
           ·omega
          ·rcases Nat.lt_or_ge j i with g | g
           ·exact up j (bearlier ha j (Array.getElem?_eq_some_iff.1 g2).1 g3 g)
           ·have : j = i := by omega
            subst this; exact hii
         rw [e1, yieldsE_succ, h2]
         simp only
         rw [put_hp, hBi]
       | false =>
         refine yieldE_hp (fun j o' g1 g2 g3 g4 => ⟨g1, up j g4⟩) (fun j o' g1 g2 g3 g4 => ⟨g1, ?_⟩)
         rw [← hne j (fun e => by subst e; rw [hBi] at g3; cases g3)]
         exact g4
      by_cases hd : wr E i o t
      ·have hd' : t ∈ namesOf ops o := named i o t h2 hd
       have e1 : (yieldsE ops B E (X (l.setIfInBounds i true)) st ops.size).tmps[t]? = (yieldsE ops B E (fun _ => true) st (i + 1)).tmps[t]? := by
        refine yieldE_same (fun j o' g1 g2 g3 g4 => ⟨?_, rfl⟩) (fun j o' g1 g2 g3 _ => ⟨(Array.getElem?_eq_some_iff.1 g2).1, ?_⟩)
        ·rcases Nat.lt_or_ge i j with g | g
         ·rw [hne j (by omega)] at g4
          exact (later j o' t g2 (wx j o' t g2 g3) hd' g g4).elim
         ·omega
        ·rcases Nat.lt_or_ge j i with g | g
         ·exact up j (earlier j o' t g2 (wx j o' t g2 g3) hd' g)
         ·have : j = i := by omega
          subst this; exact hii
       rw [e1, yieldsE_succ, h2]
       simp only
       rw [up_put_get, up_put_get, (hlenX _).2, (yieldE_len ops B E (fun _ => true) st i).2]
       rcases hd with hd | hd
       ·rw [if_pos hd, if_pos hd]
       ·obtain ⟨x, hx⟩ := Option.isSome_iff_exists.1 hd
        rw [hx]
      ·have hd1 : ¬ o.dst = some t := fun e => hd (.inl e)
       have hd2 : valL t (E.al i) = none := by
        cases hv : valL t (E.al i) with
        | none => rfl
        | some x => exact absurd (.inr (by rw [hv]; rfl)) hd
       rw [up_put_get, if_neg hd1, hd2]
       refine yieldE_same (fun j o' g1 g2 g3 g4 => ⟨g1, up j g4⟩) (fun j o' g1 g2 g3 g4 => ⟨g1, ?_⟩)
       rw [← hne j (fun e => by subst e; rw [h2] at g2; cases g2; exact hd g3)]
       exact g4
     have hop := (htr i o (Nat.zero_le _) hiN h2).2.2 (yieldsE ops B E (X l) st ops.size) hhp (hlenX _).2 hag
      (fun s => s = yieldsE ops B E (X (l.setIfInBounds i true)) st ops.size) hnext
     have hcount : (List.range ops.size).countP (fun j => !X (l.setIfInBounds i true) j) ≤ fuel := by
      have gen : ∀ (ls : List Nat), ls.Nodup → i ∈ ls → ls.countP (fun j => !X (l.setIfInBounds i true) j) < ls.countP (fun j => !X l j) := by
       intro ls
       have mono : ∀ (ls : List Nat), ls.countP (fun j => !X (l.setIfInBounds i true) j) ≤ ls.countP (fun j => !X l j) := fun ls =>
        List.countP_mono_left fun j _ hj => by
         simp only [Bool.not_eq_true'] at hj ⊢
         cases hx : X l j with
         | false => rfl
         | true => rw [up j hx] at hj; cases hj
       induction ls with
       | nil => intro _ h; cases h
       | cons x ls ih =>
         intro hnd hmem
         rw [List.countP_cons, List.countP_cons]
         by_cases hxi' : x = i
         ·subst hxi'
          have := mono ls
          simp only [hii, hxi]
          simp
          omega
         ·have hm : i ∈ ls := by
           rcases List.mem_cons.1 hmem with e | e
           ·exact absurd e.symm hxi'
           ·exact e
          have := ih (List.nodup_cons.1 hnd).2 hm
          rw [hne x hxi']
          omega
      have := gen (List.range ops.size) List.nodup_range (List.mem_range.2 hlt)
      omega
     have fin : ∀ (st' : St) (c' : Cx) (a' : Act), st' = yieldsE ops B E (X (l.setIfInBounds i true)) st ops.size → SRep c' st' a' → HRep c' → Inv c0 m c' → (∃ f, Pi cfg ops B (X (l.setIfInBounds i true)) c0 c' a' f) →
      wpAny cfg.P .any ops Q fuel (l.setIfInBounds i true) a' c'.w := by
      intro st' c' a' e S' H' I' P'
      subst e
      refine ih _ c' a' (by simpa using hl) (fun j g => ?_) (fun j o' g1 g2 e he hb => ?_) S' H' I' P' hcount
      ·by_cases hj : j = i
       ·omega
       ·rw [hne j hj] at g
        exact hN j g
      by_cases hj : j = i
      ·subst hj
       rw [h2] at g2
       cases g2
       exact up _ (h3 e he hb)
      ·rw [hne j hj] at g1
       exact up _ (hdn j o' g1 g2 e he hb)
     obtain ⟨f, hP⟩ := hP
     have waited : pendO cfg o = none → ∀ t ty, Wa cfg ops B (X (l.setIfInBounds i true)) t ty → Wa cfg ops B (X l) t ty ∧ o.dst ≠ some t ∧ (B i = true → (t, ty) ∉ adoptsAt cfg ops i) := by
      rintro hno t ty ⟨j, o', q1, q2, q3, q4⟩
      have hji : j ≠ i := by
       intro e
       subst e
       rw [h2] at q1
       cases q1
       rw [hno] at q2
       cases q2
      refine ⟨⟨j, o', q1, q2, by rw [← hne j hji]; exact q3, fun i' q5 q6 => ?_⟩, fun e => ?_, fun e e' => ?_⟩
      ·have := q4 i' q5 q6
       cases hx : X l i' with
       | false => rfl
       | true => rw [up i' hx] at this; cases this
      ·obtain ⟨_, _, e3, e4⟩ := pendO_is q2
       obtain ⟨p1, _, _⟩ := pd2 i o t ty h2 e e4
       obtain ⟨ty', p2⟩ := isPend_is p1
       rw [hno] at p2
       cases p2
      ·have := q4 i e' e
       rw [hii] at this
       cases this
     have go : ∀ (c1 : Cx) (st1 : St) (q : Bool), c1.w = c.w → SRep c1 st1 a → HRep c1 → Inv c0 m c1 → pendO cfg o = none →
      (∀ t ty, Wa cfg ops B (X (l.setIfInBounds i true)) t ty → Wt cfg c0 c1 a t ty (f t)) →
      operW cfg q ops o st1 (fun s => s = yieldsE ops B E (X (l.setIfInBounds i true)) st ops.size) (fun _ _ => False) → wpOp cfg.P ops Q i (wpAny cfg.P .any ops Q fuel (l.setIfInBounds i true)) a c.w := by
      intro c1 st1 q hw S1 H1 I1 hno hW hop
      have := operW_sound2 T (K := fun s => s = yieldsE ops B E (X (l.setIfInBounds i true)) st ops.size) (KP := fun _ _ => False) (h0.step I1.tf I1.tw I1.ext) S1 H1 hop (wpAny cfg.P .any ops Q fuel (l.setIfInBounds i true)) (fun _ _ _ => False) (fun st' c' a' e S' H' St' hv => by
       obtain ⟨v, rfl⟩ := hv
       refine fin st' c' _ e S' H' (I1.step St') ⟨f, fun t ty hwa => ?_, fun t ty t' ty' hwa hwa' hne' => ?_⟩
       ·exact (hW t ty hwa).step St' (put_tmps_ne (waited hno t ty hwa).2.1)
       ·exact hP.inj t ty t' ty' (waited hno t ty hwa).1 (waited hno t' ty' hwa').1 hne') (fun d st' c' p h => h.elim)
      rw [hw] at this
      unfold wpOp
      simp only [h2]
      split
      ·rename_i hw
       rw [if_pos hw] at this
       exact .inl (Oper.wp_monoQ (fun _ _ h => h) (fun _ _ _ h => h.elim) this)
      ·rename_i hw
       rw [if_neg hw] at this
       exact this
     unfold stepE at hop
     cases hl1 : lightO cfg o with
     | true =>
       rw [hl1] at hop
       simp only at hop
       have agr : ∀ n, n ≤ ops.size → Agree M (yieldsE ops B E (X l) st n).hp := by
        intro n
        induction n with
        | zero => intro _; exact hA
        | succ n ihn =>
          intro hn
          have ih1 := ihn (by omega)
          rw [yieldsE_succ]
          cases hx : X l n with
          | false => exact ih1
          | true =>
            cases hon : ops[n]? with
            | none => exact ih1
            | some on =>
              simp only
              rw [put_hp]
              cases hBn : B n with
              | false => exact ih1
              | true =>
                simp only
                obtain ⟨b1, on', b2, b3⟩ := turnB_is hBn
                rw [hon] at b2
                cases b2
                rcases (htr n on (Nat.zero_le _) (hN n hx) hon).1 hM hBn with hlate | hkeep
                ·obtain ⟨g1, g2⟩ := lateOk_spec hlate h2 hl1
                 have := before_in (ops := ops) (fun x => X l x = true) hdn n hon (fun e he hb => hdn n on hx hon e he hb) g2
                 rw [this] at hxi
                 cases hxi
                ·refine hkeep ?_
                 have e1 : (yieldsE ops B E (fun _ => true) st n).hp = (yieldsE ops B E (X l) st n).hp := by
                  refine yieldE_hp (fun j o' g1 g2 g3 g4 => ⟨g1, ?_⟩) (fun j o' g1 g2 g3 g4 => ⟨g1, rfl⟩)
                  have g := barsE_spec (turnB_is g3).1 hon b3 (show n ≠ j by omega)
                  rw [Nat.max_eq_left (Nat.le_of_lt g1), Nat.min_eq_right (Nat.le_of_lt g1)] at g
                  exact before_in (ops := ops) (fun x => X l x = true) hdn n hon (fun e he hb => hdn n on hx hon e he hb) g
                 show Agree M (yieldsE ops B E (fun _ => true) st n).hp
                 rw [e1]
                 exact ih1
       exact go c _ true rfl S H I (light_no hl1) (fun t ty hwa => hP.wt t ty (waited (light_no hl1) t ty hwa).1) (operW_light hD (light_op hl1) (agr ops.size (Nat.le_refl _)) hop)
     | false =>
       rw [hl1] at hop
       simp only at hop
       cases hpo : pendO cfg o with
       | some p =>
         obtain ⟨t, ty⟩ := p
         rw [hpo] at hop
         simp only at hop
         cases hz : zeroBox cfg ty with
         | none => rw [hz] at hop; exact hop.elim
         | some b =>
           rw [hz] at hop
           simp only at hop
           cases hlt2 : Nat.blt t (yieldsE ops B E (X l) st ops.size).tmps.length with
           | false => rw [hlt2] at hop; exact hop.elim
           | true =>
             rw [hlt2] at hop
             simp only at hop
             obtain ⟨z, d, hz1, _, _, _, rfl⟩ := zeroBox_is hz
             obtain ⟨q1, q2, q3, q4⟩ := pendO_is hpo
             obtain ⟨H', S'⟩ := mk_free H ty z.cells
             have htl : t < a.tmps.size := by
              have e1 : t < (yieldsE ops B E (X l) st ops.size).tmps.length := Nat.lt_of_succ_le (Nat.le_of_ble_eq_true hlt2)
              have e2 := RepL_length S.tmps
              rw [Array.length_toList] at e2
              omega
             have uniq : ∀ t' ty', Wa cfg ops B (X (l.setIfInBounds i true)) t' ty' → (t' = t ∧ ty' = ty) ∨ (t' ≠ t ∧ Wa cfg ops B (X l) t' ty') := by
              rintro t' ty' ⟨j, o', r1, r2, r3, r4⟩
              obtain ⟨s1, s2, s3, s4⟩ := pendO_is r2
              by_cases hji : j = i
              ·subst hji
               rw [h2] at r1
               cases r1
               rw [hpo] at r2
               cases r2
               exact .inl ⟨rfl, rfl⟩
              ·refine .inr ⟨fun e => ?_, j, o', r1, r2, by rw [← hne j hji]; exact r3, fun i' q5 q6 => ?_⟩
               ·subst e
                exact hji ((pd2 i o t' ty h2 q3 q4).2.1 j o' r1 s3)
               ·have := r4 i' q5 q6
                cases hx : X l i' with
                | false => rfl
                | true => rw [up i' hx] at this; cases this
             have hwant : Region.wanted o (yielded ops a.tmps) = true := by
              simp only [Region.wanted, q2]
             unfold wpOp
             simp only [h2]
             rw [if_pos hwant]
             refine .inl (alloc_wp q1 q3 hz1 ?_)
             refine fin _ { c with w := c.w.alloc (.cells z.cells ty) } _ hop ?_ H' (I.step S') ⟨fun s => if s = t then c.w.heap.size else f s, fun t' ty' hwa => ?_, fun t1 ty1 t2 ty2 hw1 hw2 hne' => ?_⟩
             ·have := put_rep (dst := some t) S S'.le (d := .bad) (v := .pointer (some ⟨c.w.heap.size, 0, none⟩)) (by simp only [Rep])
              rw [← S.hp]
              exact this
             ·rcases uniq t' ty' hwa with ⟨e1, e2⟩ | ⟨e1, hwa'⟩
              ·subst e1; subst e2
               rw [if_pos rfl]
               refine ⟨?_, ⟨z, hz1, ?_⟩, fun ho => ?_, fun x hx hf => ?_, I.size⟩
               ·show (a.tmps.setIfInBounds t' _)[t']? = _
                rw [Array.getElem?_setIfInBounds, if_pos rfl, if_pos htl]
               ·show (c.w.alloc (.cells z.cells ty')).heap[c.w.heap.size]? = _
                rw [alloc_new]
               ·obtain ⟨b, hb, hlv, hcb⟩ := ho
                have := BRep.lt (c := c) hcb hlv (H.blk b hb)
                omega
               ·have := H.frin x hf
                omega
              ·rw [if_neg e1]
               exact (hP.wt t' ty' hwa').step S' (put_tmps_ne (fun e => e1 (Option.some.inj e).symm))
             ·rcases uniq t1 ty1 hw1 with ⟨e1, e2⟩ | ⟨e1, hwa1⟩ <;> rcases uniq t2 ty2 hw2 with ⟨e3, e4⟩ | ⟨e3, hwa2⟩
              ·exact absurd (e1.trans e3.symm) hne'
              ·rw [if_pos e1, if_neg e3]
               have := (hP.wt t2 ty2 hwa2).lt
               omega
              ·rw [if_neg e1, if_pos e3]
               have := (hP.wt t1 ty1 hwa1).lt
               omega
              ·rw [if_neg e1, if_neg e3]
               exact hP.inj t1 ty1 t2 ty2 hwa1 hwa2 hne'
       | none =>
         rw [hpo] at hop
         simp only at hop
         cases hbar : (barsE cfg ops).getD i false with
         | false =>
           rw [hbar] at hop
           simp only at hop
           exact go c _ true rfl S H I hpo (fun t ty hwa => hP.wt t ty (waited hpo t ty hwa).1) hop
         | true =>
           rw [hbar] at hop
           simp only at hop
           have ha : asideO cfg o = false := by unfold asideO; rw [hl1, hpo]; rfl
           have hBi : B i = true := by
            show turnB cfg ops (barsE cfg ops) i = true
            unfold turnB
            rw [h2]
            simp only [turns, hbar, ha]
            rfl
           split at hop
           ·rename_i st2 had
            cases hkp : keepOk cfg ops M i st2 o with
            | false => rw [hkp] at hop; exact hop.elim
            | true =>
            rw [hkp] at hop
            simp only at hop
            have wl : ∀ p ∈ adoptsAt cfg ops i, Wa cfg ops B (X l) p.1 p.2 := by
             rintro ⟨t, ty⟩ hp
             obtain ⟨r1, ⟨j, o', r2, r3⟩, r4, r5⟩ := adopts_is hp
             obtain ⟨ty', r6⟩ := isPend_is r3
             obtain ⟨s1, s2, s3, s4⟩ := pendO_is r6
             rw [pendTy_of pd1 r1] at s4
             cases s4
             obtain ⟨_, u2, u3⟩ := pd2 j o' t ty r2 s3 (pendTy_of pd1 r1)
             have hji := u3 i r4
             obtain ⟨o3, v1, v2⟩ := r5
             rw [h2] at v1
             cases v1
             refine ⟨j, o', r2, r6, earlier j o' t r2 (.inl s3) (List.mem_append_right _ (List.mem_append_left _ v2)) hji, fun i' q5 q6 => ?_⟩
             obtain ⟨_, _, q7, _⟩ := adopts_is q5
             rw [r4] at q7
             cases q7
             exact hxi
            obtain ⟨c1, e1, e2, e3, e4, S1, H1, I1, own1⟩ := adoptAll f (adoptsAt cfg ops i) H S I (fun p hp => hP.wt p.1 p.2 (wl p hp)) (List.Nodup.sublist (List.Sublist.map _ (List.filter_sublist)) pd1) (fun p hp q hq hne' => hP.inj p.1 p.2 q.1 q.2 (wl p hp) (wl q hq) hne') had
            refine go c1 st2 false e1 S1 H1 I1 hpo (fun t ty hwa => ?_) hop
            obtain ⟨w1, w2, w3⟩ := waited hpo t ty hwa
            have W := hP.wt t ty w1
            refine ⟨W.ptr, by rw [e1]; exact W.heap, fun hown => ?_, by rw [e2]; exact W.fr, W.new⟩
            rcases own1 _ hown with hown | ⟨p, hp, hown⟩
            ·exact W.own hown
            ·have hpt : p.1 ≠ t := by
              intro e
              refine w3 hBi ?_
              obtain ⟨p1, p2⟩ := p
              simp only at e
              subst e
              obtain ⟨j1, o1', a1, a2, a3, _⟩ := w1
              obtain ⟨j2, o2', b1, b2, b3, _⟩ := wl _ hp
              obtain ⟨_, _, _, a4⟩ := pendO_is a2
              obtain ⟨_, _, _, b4⟩ := pendO_is b2
              rw [a4] at b4
              cases b4
              exact hp
             exact hP.inj p.1 p.2 t ty (wl p hp) w1 hpt hown.symm
           ·exact hop.elim
 refine key ops.size _ c a (by simp) (fun j hj => ?_) (fun j o hj => ?_) ?_ H I ⟨fun _ => 0, fun t ty hwa => ?_, fun t ty t' ty' hwa => ?_⟩ ?_
 ·simp only [X, Array.getD_eq_getD_getElem?, Array.getElem?_replicate] at hj
  split at hj <;> simp at hj
 ·simp only [X, Array.getD_eq_getD_getElem?, Array.getElem?_replicate] at hj
  split at hj <;> simp at hj
 ·have : ∀ n, yieldsE ops B E (X (Array.replicate ops.size false)) st n = st := by
   intro n
   induction n with
   | zero => rfl
   | succ n ih =>
     have hx : X (Array.replicate ops.size false) n = false := by
      simp only [X, Array.getD_eq_getD_getElem?, Array.getElem?_replicate]
      split <;> rfl
     rw [yieldsE_succ, hx]
     exact ih
  rw [this]; exact S
 ·obtain ⟨j, o, _, _, q, _⟩ := hwa
  simp only [X, Array.getD_eq_getD_getElem?, Array.getElem?_replicate] at q
  split at q <;> simp at q
 ·obtain ⟨j, o, _, _, q, _⟩ := hwa
  simp only [X, Array.getD_eq_getD_getElem?, Array.getElem?_replicate] at q
  split at q <;> simp at q
 ·exact Nat.le_trans List.countP_le_length (by simp)
theorem map_seal_step (hp : List Blk) (n : Nat) (hn : n < hp.length) : ((hp.take n).map sealB ++ hp.drop n).set n (sealB (getB hp n)) = (hp.take (n + 1)).map sealB ++ hp.drop (n + 1) := by
 have hg : getB hp n = hp[n] := by simp [getB, List.getD_eq_getElem?_getD, hn]
 rw [List.set_append_right _ _ (by simp; omega), List.drop_eq_getElem_cons hn, hg]
 rw [List.take_succ_eq_append_getElem hn, List.map_append, List.length_map, List.length_take, Nat.min_eq_left (Nat.le_of_lt hn), Nat.sub_self, List.append_assoc]
 rfl
theorem seal_all {c : Cx} (H : HRep c) : ∃ c', c'.w = c.w ∧ c'.hp = c.hp.map sealB ∧ HRep c' ∧ Stp c c' := by
 have key : ∀ n, n ≤ c.hp.length → ∃ c', c'.w = c.w ∧ c'.hp = (c.hp.take n).map sealB ++ c.hp.drop n ∧ HRep c' ∧ Stp c c' := by
  intro n
  induction n with
  | zero => intro _; exact ⟨c, rfl, by simp, H, Stp.refl c⟩
  | succ n ih =>
    intro hn
    obtain ⟨c1, h1, h2, H1, S1⟩ := ih (by omega)
    have hg : getB c1.hp n = getB c.hp n := by
     rw [h2]
     simp only [getB, List.getD_eq_getElem?_getD]
     rw [List.getElem?_append_right (by simp; omega)]
     simp [Nat.min_eq_left (show n ≤ c.hp.length by omega)]
    have hlen : n < c1.hp.length := by rw [h2]; simp; omega
    have step := map_seal_step c.hp n (by omega)
    cases hb : getB c.hp n with
    | lst e t l ver s =>
      obtain ⟨c2, g1, g2, _, H2, S2, _⟩ := seal_lst H1 (hg.trans hb) hlen
      refine ⟨c2, g1.trans h1, ?_, H2, S1.trans S2⟩
      rw [g2, h2, ← step, hb]; rfl
    | _ =>
      refine ⟨c1, h1, ?_, H1, S1⟩
      rw [← step, hb, ← h2]
      exact (set_same (hg.trans hb) hlen).symm
 obtain ⟨c', h1, h2, H', S'⟩ := key c.hp.length (Nat.le_refl _)
 exact ⟨c', h1, by simpa using h2, H', S'⟩
theorem drawn_rep {c : Cx} (H : HRep c) (n : Nat) : HRep { c with w := { c.w with drawn := n } } ∧ Stp c { c with w := { c.w with drawn := n } } := by
 have hl : HpLe c { c with w := { c.w with drawn := n } } := ⟨Nat.le_refl _, fun _ _ => BLe.refl _ _, fun a h => ⟨h, rfl⟩, rfl, rfl⟩
 refine ⟨⟨fun b hb => (H.blk b hb).keep hl rfl (fun _ _ => rfl) (fun _ _ _ _ h => h), H.apart, H.frin⟩, hl, rfl, rfl, rfl, Nat.le_refl _, fun _ _ _ => rfl, fun i h => .inr h, fun a h => .inl h⟩
theorem regionW_sound [Inhabited Dfr] {cfg : Cfg} (T : TblOk cfg) (hD : DetOk cfg) {id : Nat} {ops : Array Oper} {draw : Bool} {K : St → Prop} {KP : D → St → Prop} {Q : Exit → Act → World → Prop} {c0 : Cx} (h0 : TOk cfg.P cfg.tf cfg.tw c0) {st : St} {c : Cx} {a : Act}
 (hQ : ∀ st' c' a', K st' → st'.m = st.m → SRep c' st' a' → HRep c' → Inv c0 st.m c' → Q .normal a' c'.w)
 (hP : ∀ d st' c' a' p, KP d st' → st'.m = st.m → SRep c' st' a' → HRep c' → Inv c0 st.m c' → Rep c' d p → Q (.panic [{ v := p, recovered := false }]) a' c'.w)
 (hins : ∀ d st tmps, KP d st → KP d { st with tmps := tmps })
 (S : SRep c st a) (H : HRep c) (I : Inv c0 st.m c) (h : regionW cfg ops draw st K KP) : (Code.region id ops draw).wp cfg.P Q a c.w := by
 unfold regionW at h
 cases draw with
 | false =>
   simp only at h
   have := opsW_sound T (K := fun st' => K st' ∧ st'.m = st.m) (KP := fun d st' => KP d st' ∧ st'.m = st.m) (c0 := c0) (m := st.m) (Q := Q) h0 (fun st' c' a' hk => hQ st' c' a' hk.1 hk.2) (fun d st' c' a' p hk => hP d st' c' a' p hk.1 hk.2) ops.toList 0 (by simp) S H I (opsW_m hD _ _ _ h)
   refine wp_region ?_
   rw [List.range_eq_range']
   simpa using this
 | true =>
   simp only at h
   have sealed : ∃ c', c'.w = c.w ∧ c'.hp = (match callsIn cfg ops with | true => st.hp.map sealB | false => st.hp) ∧ HRep c' ∧ Stp c c' := by
    cases callsIn cfg ops with
    | true => rw [← S.hp]; exact seal_all H
    | false => exact ⟨c, rfl, S.hp, H, Stp.refl c⟩
   obtain ⟨c1, e1, e2, H1, S1⟩ := sealed
   obtain ⟨H2, S2⟩ := drawn_rep H1 (c.w.drawn + 1)
   have SS := S1.trans S2
   refine wp_region_any T.mixed ?_
   have more : (match ordOkE cfg ops && pdOk cfg ops with
    | true => (fun s0 : St => opsP cfg ops (maskB cfg ops s0) ops.toList 0 (barsE cfg ops) s0 K KP) { st with hp := match callsIn cfg ops with | true => st.hp.map sealB | false => st.hp }
    | false => False) → wpAny cfg.P .any ops Q ops.size (Array.replicate ops.size false) a { c.w with drawn := c.w.drawn + 1 } := by
    intro h
    cases ho : ordOkE cfg ops && pdOk cfg ops with
    | false => rw [ho] at h; exact h.elim
    | true =>
      rw [ho] at h
      simp only at h
      simp only [Bool.and_eq_true] at ho
      have h := opsP_m hD _ _ _ _ _ h
      rcases traceP hD (bl := barsE cfg ops) ops.toList 0 (E := ⟨fun _ => [], fun _ => .bad, fun _ => []⟩) _ (by simp) rfl h with h | h
      case inr =>
       have := any_pan T hD (mask_boxy cfg ops _) ho.1 ho.2 (KP := fun d st' => KP d st' ∧ st'.m = st.m) (c0 := c0) (m := st.m) (Q := Q) h0 (fun d st' c' a' p hk => hP d st' c' a' p hk.1 hk.2) (fun d st' tmps hk => ⟨hins d st' tmps hk.1, hk.2⟩)
        (st := { st with hp := (match callsIn cfg ops with | true => st.hp.map sealB | false => st.hp) }) (c := { c1 with w := { c1.w with drawn := c.w.drawn + 1 } }) (a := a) (mask_agree cfg ops _)
        ⟨S.tmps.mono SS.le, e2, S.defers⟩ H2 (I.step SS) h
       rw [e1] at this
       exact this
      have := any_sound2 T hD (mask_boxy cfg ops _) ho.1 ho.2 (K := fun st' => K st' ∧ st'.m = st.m) (c0 := c0) (m := st.m) (Q := Q) h0 (fun st' c' a' hk => hQ st' c' a' hk.1 hk.2)
       (st := { st with hp := (match callsIn cfg ops with | true => st.hp.map sealB | false => st.hp) }) (c := { c1 with w := { c1.w with drawn := c.w.drawn + 1 } }) (a := a) (mask_agree cfg ops _)
       ⟨S.tmps.mono SS.le, e2, S.defers⟩ H2 (I.step SS) h
      rw [e1] at this
      exact this
   split at h
   ·cases ho : ordOk ops with
    | false => rw [ho] at h; exact h.elim
    | true =>
      rw [ho] at h
      simp only at h
      have := any_sound T hD ho (K := fun st' => K st' ∧ st'.m = st.m) (c0 := c0) (m := st.m) (Q := Q) h0 (fun st' c' a' hk => hQ st' c' a' hk.1 hk.2)
       (st := { st with hp := (match callsIn cfg ops with | true => st.hp.map sealB | false => st.hp) }) (c := { c1 with w := { c1.w with drawn := c.w.drawn + 1 } }) (a := a)
       ⟨S.tmps.mono SS.le, e2, S.defers⟩ H2 (I.step SS) (opsD_m hD _ _ _ h)
      rw [e1] at this
      exact this
   ·exact more h
structure Low (n : Nat) (c c' : Cx) : Prop where
 w : c'.w = c.w
 fr : c'.fr = c.fr
 tf : c'.tf = c.tf
 tw : c'.tw = c.tw
 len : n ≤ c'.hp.length
 hp : ∀ b, b < n → getB c'.hp b = getB c.hp b
 cv : ∀ b, b < n → c'.cv b = c.cv b
theorem Low.below0 {n : Nat} {c c' : Cx} (L : Low n c c') : ∀ {d : D} {u : Value}, below0 n d = true → Rep c d u → Rep c' d u
 | .v x, u, _, h => by simp only [Rep] at h ⊢; exact h
 | .fz t l, u, _, h => by simp only [Rep] at h ⊢; rw [L.w, L.fr]; exact h
 | .av t n l, u, _, h => by simp only [Rep] at h ⊢; rw [L.w, L.fr]; exact h
 | .er e, u, _, h => by simp only [Rep] at h ⊢; rw [L.w, L.fr, L.tf, L.tw]; exact h
 | .sl b ver, u, hb, h => by
   have hb : b < n := Nat.le_of_ble_eq_true hb
   simp only [Rep] at h ⊢
   rw [L.hp b hb, L.cv b hb]
   exact ⟨Nat.lt_of_lt_of_le hb L.len, h.2⟩
 | .ptr b off, u, hb, h => by
   have hb : b < n := Nat.le_of_ble_eq_true hb
   simp only [Rep] at h ⊢
   rw [L.hp b hb, L.cv b hb]
   exact ⟨Nat.lt_of_lt_of_le hb L.len, h.2⟩
 | .ep b ver i off, u, hb, h => by
   have hb : b < n := Nat.le_of_ble_eq_true hb
   simp only [Rep] at h ⊢
   rw [L.hp b hb, L.cv b hb]
   exact ⟨Nat.lt_of_lt_of_le hb L.len, h.2⟩
 | .agg _, _, hb, _ | .tup _, _, hb, _ | .fp _, _, hb, _ | .clo _ _ _, _, hb, _ | .bad, _, hb, _ => by cases hb
theorem Low.list {n : Nat} {c c' : Cx} {f : D → Bool} (hf : ∀ {d : D} {u : Value}, f d = true → Rep c d u → Rep c' d u) : ∀ {ds : List D} {us : List Value}, ds.all f = true → RepL c ds us → RepL c' ds us
 | [], us, _, h => by simp only [RepL] at h ⊢; exact h
 | d :: r, us, hb, h => by
   simp only [List.all_cons, Bool.and_eq_true] at hb
   simp only [RepL] at h ⊢
   obtain ⟨u, us', rfl, h1, h2⟩ := h
   exact ⟨u, us', rfl, hf hb.1 h1, Low.list (n := n) hf hb.2 h2⟩
theorem Low.below {n : Nat} {c c' : Cx} (L : Low n c c') {d : D} {u : Value} (hb : below n d = true) (h : Rep c d u) : Rep c' d u := by
 have hl : ∀ {ds : List D} {us : List Value}, ds.all (Aw.below0 n) = true → RepL c ds us → RepL c' ds us := fun h1 h2 => Low.list (n := n) (fun g1 g2 => L.below0 g1 g2) h1 h2
 cases d with
 | agg cs =>
   simp only [Rep] at h ⊢
   obtain ⟨us, rfl, h⟩ := h
   exact ⟨us, rfl, hl hb h⟩
 | fp cs =>
   simp only [Rep] at h ⊢
   obtain ⟨a, us, rfl, h, h'⟩ := h
   exact ⟨a, us, rfl, hl hb h, by rw [L.w, L.fr]; exact h'⟩
 | clo f fs cs =>
   simp only [Rep] at h ⊢
   simp only [Aw.below, Bool.and_eq_true] at hb
   obtain ⟨us, vs, rfl, h, h'⟩ := h
   exact ⟨us, vs, rfl, hl hb.1 h, hl hb.2 h'⟩
 | _ => exact L.below0 hb h
theorem Low.refs {n : Nat} {c c' : Cx} (L : Low n c c') {d : D} {u : Value} (hb : refs n d = true) (h : Rep c d u) : Rep c' d u := by
 have hl : ∀ {ds : List D} {us : List Value}, ds.all (Aw.below n) = true → RepL c ds us → RepL c' ds us := fun h1 h2 => Low.list (n := n) (fun g1 g2 => L.below g1 g2) h1 h2
 cases d with
 | agg cs =>
   simp only [Rep] at h ⊢
   obtain ⟨us, rfl, h⟩ := h
   exact ⟨us, rfl, hl hb h⟩
 | tup cs =>
   simp only [Rep] at h ⊢
   obtain ⟨us, rfl, h⟩ := h
   exact ⟨us, rfl, hl hb h⟩
 | fp cs =>
   simp only [Rep] at h ⊢
   obtain ⟨a, us, rfl, h, h'⟩ := h
   exact ⟨a, us, rfl, hl hb h, by rw [L.w, L.fr]; exact h'⟩
 | clo f fs cs =>
   simp only [Rep] at h ⊢
   simp only [Aw.refs, Bool.and_eq_true] at hb
   obtain ⟨us, vs, rfl, h, h'⟩ := h
   exact ⟨us, vs, rfl, hl hb.1 h, hl hb.2 h'⟩
 | _ => exact L.below0 hb h
theorem Low.blk {n : Nat} {c c' : Cx} (L : Low n c c') {b : Nat} (hb : b < n) (hbox : ∀ ty cs, getB c.hp b = .box ty cs → cs.all (Aw.refs n) = true) (h : BRep c b (getB c.hp b)) : BRep c' b (getB c'.hp b) := by
 rw [L.hp b hb]
 revert h hbox
 cases getB c.hp b with
 | box ty cs =>
   intro hbox h
   obtain ⟨B, us, h1, h2, h3, h4⟩ := h
   exact ⟨B, us, (L.cv b hb).trans h1, by rw [L.w]; exact h2, Low.list (n := n) (fun g1 g2 => L.refs g1 g2) (hbox ty cs rfl) h3, by rw [L.fr]; exact h4⟩
 | lst e t l ver s =>
   intro _ h
   simp only [BRep] at h ⊢
   rw [L.cv b hb, L.w, L.fr]; exact h
 | arr ty m t l s =>
   intro _ h
   simp only [BRep] at h ⊢
   rw [L.cv b hb, L.w, L.fr]; exact h
 | bld ty e s =>
   intro _ h
   simp only [BRep] at h ⊢
   rw [L.cv b hb, L.w, L.fr]; exact h
 | itr s pos =>
   intro _ h
   simp only [BRep] at h ⊢
   rw [L.cv b hb, L.w, L.fr]; exact h
 | dead => intro _ h; trivial
theorem live_lt {hp : List Blk} {b : Nat} (h : live (getB hp b) = true) : b < hp.length := getB_lt fun e => by rw [e] at h; cases h
structure Coll (c : Cx) (hp acc : List Blk) (ss : List Nat) : Prop where
 len : acc.length = ss.length
 blk : ∀ (i : Nat) b, ss[i]? = some b → ∃ e t l ver s, getB c.hp b = .lst e t l ver s ∧ acc[i]? = some (.lst e t l 0 s)
 nodup : ss.Nodup
 hlen : hp.length = c.hp.length
 hp : ∀ b, getB hp b = if b ∈ ss then .dead else getB c.hp b
theorem Coll.start (c : Cx) : Coll c c.hp [] [] :=
 ⟨rfl, fun i b h => by simp at h, List.nodup_nil, rfl, fun b => by simp⟩
structure Into (n : Nat) (c : Cx) (acc : List Blk) (ss : List Nat) (c2 : Cx) : Prop where
 w : c2.w = c.w
 fr : c2.fr = c.fr
 tf : c2.tf = c.tf
 tw : c2.tw = c.tw
 hp : ∀ (i : Nat) x, acc[i]? = some x → n + i < c2.hp.length ∧ getB c2.hp (n + i) = x
 cv : ∀ (i : Nat) b, ss[i]? = some b → c2.cv (n + i) = c.cv b
theorem pre_get {α : Type} {l l' : List α} (h : l <+: l') {i : Nat} {x : α} (hx : l[i]? = some x) : l'[i]? = some x := by
 obtain ⟨t, rfl⟩ := h
 rw [List.getElem?_append_left (List.getElem?_eq_some_iff.1 hx).1]; exact hx
theorem Into.pre {n : Nat} {c c2 : Cx} {acc acc' : List Blk} {ss ss' : List Nat} (I : Into n c acc' ss' c2) (h : acc <+: acc') (h' : ss <+: ss') : Into n c acc ss c2 :=
 ⟨I.w, I.fr, I.tf, I.tw, fun i x hx => I.hp i x (pre_get h hx), fun i b hb => I.cv i b (pre_get h' hb)⟩
theorem move_sound {n : Nat} {c : Cx} {hp acc : List Blk} {ss : List Nat} (C : Coll c hp acc ss) {b ver : Nat} {e : TypeId} {t : Ty} {l : List t.den} {s : Bool} {u : Value} (hg : getB hp b = .lst e t l ver s) (hd : Rep c (.sl b ver) u) :
 ∃ ss', Coll c (hp.set b .dead) (acc ++ [.lst e t l 0 s]) ss' ∧ acc <+: acc ++ [.lst e t l 0 s] ∧ ss <+: ss' ∧ ∀ c2, Into n c (acc ++ [.lst e t l 0 s]) ss' c2 → Rep c2 (.sl (n + acc.length) 0) u := by
 simp only [Rep] at hd
 obtain ⟨h1, h2, h3⟩ := hd
 have hb : b ∉ ss := by
  intro hb
  rw [C.hp, if_pos hb] at hg
  cases hg
 have hg' : getB c.hp b = .lst e t l ver s := by rw [C.hp, if_neg hb] at hg; exact hg
 rw [hg'] at h3
 refine ⟨ss ++ [b], ⟨by simp [C.len], fun i b' hi => ?_, ?_, by simpa using C.hlen, fun b' => ?_⟩, List.prefix_append _ _, List.prefix_append _ _, fun c2 I => ?_⟩
 ·rcases Nat.lt_or_ge i ss.length with hlt | hge
  ·rw [List.getElem?_append_left hlt] at hi
   obtain ⟨e, t, l, ver, s, g1, g2⟩ := C.blk i b' hi
   exact ⟨e, t, l, ver, s, g1, by rw [List.getElem?_append_left (by rw [C.len]; exact hlt)]; exact g2⟩
  ·rw [List.getElem?_append_right hge] at hi
   have hi0 : i - ss.length = 0 := by
    have := (List.getElem?_eq_some_iff.1 hi).1
    simp at this
    omega
   rw [hi0] at hi
   simp at hi
   subst hi
   refine ⟨e, t, l, ver, s, hg', ?_⟩
   rw [List.getElem?_append_right (by rw [C.len]; exact hge), C.len, hi0]
   rfl
 ·rw [List.nodup_append]
  refine ⟨C.nodup, by simp, fun x hx y hy => ?_⟩
  simp at hy; subst hy
  intro e; subst e; exact hb hx
 ·rw [getB_set _ (by rw [C.hlen]; exact h1), C.hp]
  simp only [List.mem_append, List.mem_singleton]
  by_cases e1 : b' = b <;> by_cases e2 : b' ∈ ss <;> simp [e1, e2]
 ·obtain ⟨i1, i2⟩ := I.hp acc.length (.lst e t l 0 s) (by simp)
  have i3 := I.cv acc.length b (by rw [C.len]; simp)
  simp only [Rep, i2]
  exact ⟨i1, h2, Nat.le_refl _, fun _ => (h3.2 rfl).trans i3.symm⟩
theorem collOwn_sound {n : Nat} {c : Cx} {hp acc : List Blk} {ss : List Nat} (C : Coll c hp acc ss) {d d' : D} {hp' acc' : List Blk} {u : Value} (h : collOwn n hp acc d = some (d', hp', acc')) (hd : Rep c d u) :
 ∃ ss', Coll c hp' acc' ss' ∧ acc <+: acc' ∧ ss <+: ss' ∧ ∀ c2, Into n c acc' ss' c2 → Rep c2 d' u := by
 unfold collOwn at h
 split at h
 ·rename_i b ver
  split at h
  ·rename_i e t l ver' s hg
   split at h
   ·rename_i hv
    subst hv
    cases h
    exact move_sound C hg hd
   ·cases h
  ·cases h
 ·cases h
theorem coll_sound {n : Nat} {c : Cx} (H : HRep c) {hp acc : List Blk} {ss : List Nat} (C : Coll c hp acc ss) {d d' : D} {hp' acc' : List Blk} {u : Value} (h : coll n hp acc d = some (d', hp', acc')) (hd : Rep c d u) :
 ∃ ss', Coll c hp' acc' ss' ∧ acc <+: acc' ∧ ss <+: ss' ∧ ∀ c2, Into n c acc' ss' c2 → Rep c2 d' u := by
 have same : ∀ {d : D}, (∀ c2 : Cx, c2.w = c.w → c2.fr = c.fr → c2.tf = c.tf → c2.tw = c.tw → Rep c2 d u) → some (d, hp, acc) = some (d', hp', acc') →
  ∃ ss', Coll c hp' acc' ss' ∧ acc <+: acc' ∧ ss <+: ss' ∧ ∀ c2, Into n c acc' ss' c2 → Rep c2 d' u := by
  intro d hd h
  cases h
  exact ⟨ss, C, List.prefix_refl _, List.prefix_refl _, fun c2 I => hd c2 I.w I.fr I.tf I.tw⟩
 unfold coll at h
 split at h
 ·rename_i b ver
  have hd0 := hd
  simp only [Rep] at hd
  obtain ⟨h1, h2, h3⟩ := hd
  split at h
  ·rename_i e t l ver' hg
   split at h
   ·rename_i hv
    subst hv
    cases h
    exact move_sound C hg hd0
   ·cases h
  ·rename_i e t l ver' hg
   split at h
   ·rename_i hv
    subst hv
    have hb : b ∉ ss := by
     intro hb
     rw [C.hp, if_pos hb] at hg
     cases hg
    have hg' : getB c.hp b = .lst e t l ver' true := by rw [C.hp, if_neg hb] at hg; exact hg
    rw [hg'] at h3
    have hB := H.blk b h1
    rw [hg'] at hB
    have := lst_fz hB
    rw [← h3.2 rfl] at this
    refine same (fun c2 e1 e2 e3 e4 => ?_) h
    simp only [Rep] at this ⊢
    rw [e1, e2]; exact this
   ·cases h
  ·cases h
 ·exact same (fun c2 e1 e2 e3 e4 => by simp only [Rep] at hd ⊢; exact hd) h
 ·exact same (fun c2 e1 e2 e3 e4 => by simp only [Rep] at hd ⊢; rw [e1, e2]; exact hd) h
 ·exact same (fun c2 e1 e2 e3 e4 => by simp only [Rep] at hd ⊢; rw [e1, e2]; exact hd) h
 ·exact same (fun c2 e1 e2 e3 e4 => by simp only [Rep] at hd ⊢; rw [e1, e2, e3, e4]; exact hd) h
 ·rename_i cs
  split at h
  ·rename_i hb
   exact same (fun c2 e1 e2 e3 e4 => Low.below (n := 0) (d := .fp cs) ⟨e1, e2, e3, e4, Nat.zero_le _, fun b hb => by omega, fun b hb => by omega⟩ hb hd) h
  ·cases h
 ·cases h
theorem collAll_sound {n : Nat} {c : Cx} (H : HRep c) : ∀ {ds : List D} {hp acc : List Blk} {ss : List Nat} {ds' : List D} {hp' acc' : List Blk} {us : List Value}, Coll c hp acc ss → collAll n hp acc ds = some (ds', hp', acc') → RepL c ds us →
 ∃ ss', Coll c hp' acc' ss' ∧ acc <+: acc' ∧ ss <+: ss' ∧ ∀ c2, Into n c acc' ss' c2 → RepL c2 ds' us
 | [], hp, acc, ss, ds', hp', acc', us, C, h, hd => by
   cases h
   simp only [RepL] at hd
   exact ⟨ss, C, List.prefix_refl _, List.prefix_refl _, fun c2 I => by simp only [RepL]; exact hd⟩
 | d :: r, hp, acc, ss, ds', hp', acc', us, C, h, hd => by
   simp only [RepL] at hd
   obtain ⟨u, us', rfl, h1, h2⟩ := hd
   simp only [collAll] at h
   split at h
   ·rename_i d1 hp1 acc1 g1
    split at h
    ·rename_i r1 hp2 acc2 g2
     cases h
     obtain ⟨ss1, C1, p1, p2, f1⟩ := coll_sound H C g1 h1
     obtain ⟨ss2, C2, q1, q2, f2⟩ := collAll_sound H C1 g2 h2
     refine ⟨ss2, C2, p1.trans q1, p2.trans q2, fun c2 I => ?_⟩
     simp only [RepL]
     exact ⟨u, us', rfl, f1 c2 (I.pre q1 q2), f2 c2 I⟩
    ·cases h
   ·cases h
theorem nthIdx_spec {x : Nat} : ∀ {l : List Nat} {i k : Nat}, nthIdx x l i = some k → i ≤ k ∧ l[k - i]? = some x
 | [], i, k, h => by cases h
 | y :: r, i, k, h => by
   unfold nthIdx at h
   split at h
   ·rename_i e
    cases h
    subst e
    exact ⟨Nat.le_refl _, by simp⟩
   ·obtain ⟨h1, h2⟩ := nthIdx_spec h
    refine ⟨by omega, ?_⟩
    rw [show k - i = (k - (i + 1)) + 1 by omega]
    simpa using h2
def Moved (ids : List Nat) (c c2 : Cx) : Prop := ∀ (j : Nat) b, ids[j]? = some b → j < c2.hp.length ∧ isLst (getB c2.hp j) = false ∧ c2.cv j = c.cv b
theorem collP_sound {n : Nat} {ids : List Nat} {c : Cx} (H : HRep c) {hp acc : List Blk} {ss : List Nat} (C : Coll c hp acc ss) {d d' : D} {hp' acc' : List Blk} {u : Value} (h : collP n ids hp acc d = some (d', hp', acc')) (hd : Rep c d u) :
 ∃ ss', Coll c hp' acc' ss' ∧ acc <+: acc' ∧ ss <+: ss' ∧ ∀ c2, Into n c acc' ss' c2 → Moved ids c c2 → Rep c2 d' u := by
 unfold collP at h
 split at h
 ·rename_i b off
  split at h
  ·rename_i j hj
   cases h
   obtain ⟨_, h2⟩ := nthIdx_spec hj
   rw [Nat.sub_zero] at h2
   refine ⟨ss, C, List.prefix_refl _, List.prefix_refl _, fun c2 I M => ?_⟩
   obtain ⟨m1, m2, m3⟩ := M j b h2
   simp only [Rep] at hd ⊢
   obtain ⟨_, _, a, g1, g2⟩ := hd
   exact ⟨m1, m2, a, (congrArg adr m3).trans g1, g2⟩
  ·cases h
 ·obtain ⟨ss', C', p1, p2, f⟩ := coll_sound H C h hd
  exact ⟨ss', C', p1, p2, fun c2 I _ => f c2 I⟩
theorem collPs_sound {n : Nat} {ids : List Nat} {c : Cx} (H : HRep c) : ∀ {ds : List D} {hp acc : List Blk} {ss : List Nat} {ds' : List D} {hp' acc' : List Blk} {us : List Value}, Coll c hp acc ss → collPs n ids hp acc ds = some (ds', hp', acc') → RepL c ds us →
 ∃ ss', Coll c hp' acc' ss' ∧ acc <+: acc' ∧ ss <+: ss' ∧ ∀ c2, Into n c acc' ss' c2 → Moved ids c c2 → RepL c2 ds' us
 | [], hp, acc, ss, ds', hp', acc', us, C, h, hd => by
   cases h
   simp only [RepL] at hd
   subst hd
   exact ⟨ss, C, List.prefix_refl _, List.prefix_refl _, fun c2 I M => by simp only [RepL]⟩
 | d :: r, hp, acc, ss, ds', hp', acc', us, C, h, hd => by
   simp only [RepL] at hd
   obtain ⟨u, us', rfl, h1, h2⟩ := hd
   simp only [collPs] at h
   split at h
   ·rename_i d1 hp1 acc1 g1
    split at h
    ·rename_i r1 hp2 acc2 g2
     cases h
     obtain ⟨ss1, C1, p1, p2, f1⟩ := collP_sound H C g1 h1
     obtain ⟨ss2, C2, q1, q2, f2⟩ := collPs_sound H C1 g2 h2
     refine ⟨ss2, C2, p1.trans q1, p2.trans q2, fun c2 I M => ?_⟩
     simp only [RepL]
     exact ⟨u, us', rfl, f1 c2 (I.pre q1 q2) M, f2 c2 I M⟩
    ·cases h
   ·cases h
theorem collPs_len {n : Nat} {ids : List Nat} : ∀ {ds : List D} {hp acc : List Blk} {ds' : List D} {hp' acc' : List Blk}, collPs n ids hp acc ds = some (ds', hp', acc') → ds'.length = ds.length
 | [], hp, acc, ds', hp', acc', h => by cases h; rfl
 | d :: r, hp, acc, ds', hp', acc', h => by
   simp only [collPs] at h
   split at h
   ·split at h
    ·rename_i g2
     cases h
     simp [collPs_len g2]
    ·cases h
   ·cases h
structure Same (c c2 : Cx) (b j : Nat) (x : Blk) : Prop where
 lst : isLst x = false
 live : live x = true
 src : b < c.hp.length ∧ Aw.live (getB c.hp b) = true ∧ isLst (getB c.hp b) = false
 ble : ∀ u, BLe u u (getB c.hp b) x
 rep : BRep c2 j x
theorem lift_sound {n : Nat} {ids : List Nat} {c : Cx} (H : HRep c) {hp acc : List Blk} {ss : List Nat} (C : Coll c hp acc ss) {b : Nat} {x : Blk} {hp' acc' : List Blk} (h : lift n ids hp acc b = some (x, hp', acc')) :
 ∃ ss', Coll c hp' acc' ss' ∧ acc <+: acc' ∧ ss <+: ss' ∧ ∀ c2, Into n c acc' ss' c2 → Moved ids c c2 → ∀ j, c2.cv j = c.cv b → Same c c2 b j x := by
 have get : ∀ y, getB hp b = y → y ≠ .dead → getB c.hp b = y ∧ b < c.hp.length := by
  intro y hy hne
  have : b ∉ ss := by
   intro hb
   rw [C.hp, if_pos hb] at hy
   exact hne hy.symm
  rw [C.hp, if_neg this] at hy
  exact ⟨hy, getB_lt (by rw [hy]; exact hne)⟩
 unfold lift at h
 split at h
 ·rename_i ty cs hg
  obtain ⟨hg', hb⟩ := get _ hg (by simp)
  have hB := H.blk b hb
  rw [hg'] at hB
  obtain ⟨B, us, h1, h2, h3, h4⟩ := hB
  split at h
  ·rename_i cs' hp1 acc1 g1
   cases h
   obtain ⟨ss1, C1, p1, p2, f1⟩ := collPs_sound H C g1 h3
   refine ⟨ss1, C1, p1, p2, fun c2 I M j hj => ⟨rfl, rfl, ⟨hb, by rw [hg']; rfl, by rw [hg']; rfl⟩, fun u => ?_, ⟨B, us, hj.trans h1, by rw [I.w]; exact h2, f1 c2 I M, by rw [I.fr]; exact h4⟩⟩⟩
   rw [hg']
   exact ⟨rfl, collPs_len g1, rfl⟩
  ·cases h
 ·rename_i ty e t l s hg
  obtain ⟨hg', hb⟩ := get _ hg (by simp)
  have hB := H.blk b hb
  rw [hg'] at hB
  cases h
  refine ⟨ss, C, List.prefix_refl _, List.prefix_refl _, fun c2 I _ j hj => ⟨rfl, rfl, ⟨hb, by rw [hg']; rfl, by rw [hg']; rfl⟩, fun u => by rw [hg']; exact BLe.refl _ _, ?_⟩⟩
  simp only [BRep] at hB ⊢
  rw [hj, I.w, I.fr]; exact hB
 ·rename_i ty e s hg
  obtain ⟨hg', hb⟩ := get _ hg (by simp)
  have hB := H.blk b hb
  rw [hg'] at hB
  cases h
  refine ⟨ss, C, List.prefix_refl _, List.prefix_refl _, fun c2 I _ j hj => ⟨rfl, rfl, ⟨hb, by rw [hg']; rfl, by rw [hg']; rfl⟩, fun u => by rw [hg']; exact BLe.refl _ _, ?_⟩⟩
  simp only [BRep] at hB ⊢
  rw [hj, I.w, I.fr]; exact hB
 ·rename_i s pos hg
  obtain ⟨hg', hb⟩ := get _ hg (by simp)
  have hB := H.blk b hb
  rw [hg'] at hB
  cases h
  refine ⟨ss, C, List.prefix_refl _, List.prefix_refl _, fun c2 I _ j hj => ⟨rfl, rfl, ⟨hb, by rw [hg']; rfl, by rw [hg']; rfl⟩, fun u => by rw [hg']; exact BLe.refl _ _, ?_⟩⟩
  simp only [BRep] at hB ⊢
  rw [hj, I.w, I.fr]; exact hB
 ·cases h
theorem lifts_sound {n : Nat} {ids0 : List Nat} {c : Cx} (H : HRep c) : ∀ {ids : List Nat} {hp acc : List Blk} {ss : List Nat} {bs hp' acc' : List Blk}, Coll c hp acc ss → lifts n ids0 hp acc ids = some (bs, hp', acc') →
 ∃ ss', Coll c hp' acc' ss' ∧ acc <+: acc' ∧ ss <+: ss' ∧ bs.length = ids.length ∧ ∀ c2, Into n c acc' ss' c2 → Moved ids0 c c2 → ∀ (i : Nat) b x, ids[i]? = some b → bs[i]? = some x → ∀ j, c2.cv j = c.cv b → Same c c2 b j x
 | [], hp, acc, ss, bs, hp', acc', C, h => by
   cases h
   exact ⟨ss, C, List.prefix_refl _, List.prefix_refl _, rfl, fun c2 I _ i b x h => by simp at h⟩
 | b :: r, hp, acc, ss, bs, hp', acc', C, h => by
   simp only [lifts] at h
   split at h
   ·rename_i x1 hp1 acc1 g1
    split at h
    ·rename_i xs hp2 acc2 g2
     cases h
     obtain ⟨ss1, C1, p1, p2, f1⟩ := lift_sound H C g1
     obtain ⟨ss2, C2, q1, q2, hl, f2⟩ := lifts_sound H C1 g2
     refine ⟨ss2, C2, p1.trans q1, p2.trans q2, by simp [hl], fun c2 I M i b' x hb hx j hj => ?_⟩
     cases i with
     | zero =>
       simp at hb hx
       subst hb; subst hx
       exact f1 c2 (I.pre q1 q2) M j hj
     | succ i => exact f2 c2 I M i b' x (by simpa using hb) (by simpa using hx) j hj
    ·cases h
   ·cases h
theorem lifts_lst {n : Nat} {ids0 : List Nat} : ∀ {ids : List Nat} {hp acc bs hp' acc' : List Blk}, lifts n ids0 hp acc ids = some (bs, hp', acc') → ∀ x ∈ bs, isLst x = false
 | [], hp, acc, bs, hp', acc', h => by
   cases h
   intro x hx; cases hx
 | b :: r, hp, acc, bs, hp', acc', h => by
   simp only [lifts] at h
   split at h
   ·rename_i x1 hp1 acc1 g1
    split at h
    ·rename_i xs hp2 acc2 g2
     cases h
     intro x hx
     rcases List.mem_cons.1 hx with rfl | hx
     ·unfold lift at g1
      split at g1
      ·split at g1
       ·cases g1; rfl
       ·cases g1
      ·cases g1; rfl
      ·cases g1; rfl
      ·cases g1; rfl
      ·cases g1
     ·exact lifts_lst g2 x hx
    ·cases h
   ·cases h
def over2 (c : Cx) (ids ss : List Nat) (bs acc : List Blk) : Cx :=
 { c with hp := bs ++ acc, cv := fun j => if j < ids.length then c.cv (ids.getD j 0) else c.cv (ss.getD (j - ids.length) 0) }
theorem over2_into {c : Cx} {ids ss : List Nat} {bs acc hp : List Blk} (C : Coll c hp acc ss) (hl : bs.length = ids.length) : Into ids.length c acc ss (over2 c ids ss bs acc) where
 w := rfl
 fr := rfl
 tf := rfl
 tw := rfl
 hp i x hx := by
  have hi := (List.getElem?_eq_some_iff.1 hx).1
  refine ⟨?_, ?_⟩
  ·show _ < (bs ++ acc).length
   rw [List.length_append, hl]; omega
  ·show getB (bs ++ acc) _ = x
   simp only [getB, List.getD_eq_getElem?_getD]
   rw [List.getElem?_append_right (by omega), hl, Nat.add_sub_cancel_left, hx]
   rfl
 cv i b hb := by
  show (if _ then _ else _) = _
  rw [if_neg (by omega), Nat.add_sub_cancel_left, List.getD_eq_getElem?_getD, hb]
  rfl
theorem over2_cv {c : Cx} {ids ss : List Nat} {bs acc : List Blk} {j b : Nat} (h : ids[j]? = some b) : (over2 c ids ss bs acc).cv j = c.cv b := by
 show (if _ then _ else _) = _
 rw [if_pos (List.getElem?_eq_some_iff.1 h).1, List.getD_eq_getElem?_getD, h]
 rfl
theorem over2_low {c : Cx} {ids ss : List Nat} {bs acc : List Blk} {j : Nat} (hl : bs.length = ids.length) (h : j < ids.length) : getB (over2 c ids ss bs acc).hp j = getB bs j := by
 show getB (bs ++ acc) j = _
 simp only [getB, List.getD_eq_getElem?_getD]
 rw [List.getElem?_append_left (by omega)]
theorem over2_moved {c : Cx} {ids ss : List Nat} {bs acc : List Blk} (hl : bs.length = ids.length) (hb : ∀ x ∈ bs, isLst x = false) : Moved ids c (over2 c ids ss bs acc) := by
 intro j b hj
 have hlt := (List.getElem?_eq_some_iff.1 hj).1
 refine ⟨by show j < (bs ++ acc).length; rw [List.length_append, hl]; omega, ?_, over2_cv hj⟩
 rw [over2_low hl hlt]
 have h1 : j < bs.length := by omega
 have : getB bs j = bs[j] := by simp [getB, List.getD_eq_getElem?_getD, h1]
 rw [this]
 exact hb _ (List.getElem_mem h1)
theorem getB_of {bs : List Blk} {j : Nat} (h : j < bs.length) : bs[j]? = some (getB bs j) := by
 simp [getB, List.getD_eq_getElem?_getD, h]
theorem over2_rep {c : Cx} (H : HRep c) {ids ss : List Nat} {bs acc hp : List Blk} (C : Coll c hp acc ss) (hl : bs.length = ids.length) (hnd : ids.Nodup)
 (hb : ∀ (i : Nat) b x, ids[i]? = some b → bs[i]? = some x → ∀ j, (over2 c ids ss bs acc).cv j = c.cv b → Same c (over2 c ids ss bs acc) b j x) :
 HRep (over2 c ids ss bs acc) ∧ (∀ i, Own (over2 c ids ss bs acc) i → Own c i) ∧
  ∀ j, j < (over2 c ids ss bs acc).hp.length → (j < ids.length ∧ ∃ b, ids[j]? = some b ∧ (over2 c ids ss bs acc).cv j = c.cv b ∧ b < c.hp.length ∧ isLst (getB c.hp b) = false ∧ Aw.live (getB c.hp b) = true ∧ isLst (getB (over2 c ids ss bs acc).hp j) = false) ∨
   (ids.length ≤ j ∧ ∃ b, ss[j - ids.length]? = some b ∧ (over2 c ids ss bs acc).cv j = c.cv b ∧ b < c.hp.length ∧ isLst (getB c.hp b) = true ∧ isLst (getB (over2 c ids ss bs acc).hp j) = true) := by
 have I := over2_into (ids := ids) (bs := bs) C hl
 have from_ : ∀ j, j < (over2 c ids ss bs acc).hp.length → (j < ids.length ∧ ∃ b, ids[j]? = some b ∧ (over2 c ids ss bs acc).cv j = c.cv b ∧ b < c.hp.length ∧ isLst (getB c.hp b) = false ∧ Aw.live (getB c.hp b) = true ∧ isLst (getB (over2 c ids ss bs acc).hp j) = false) ∨
  (ids.length ≤ j ∧ ∃ b, ss[j - ids.length]? = some b ∧ (over2 c ids ss bs acc).cv j = c.cv b ∧ b < c.hp.length ∧ isLst (getB c.hp b) = true ∧ isLst (getB (over2 c ids ss bs acc).hp j) = true) := by
  intro j hj
  rcases Nat.lt_or_ge j ids.length with h | h
  ·have hi : ids[j]? = some ids[j] := by simp [h]
   have S := hb j _ _ hi (getB_of (by omega)) j (over2_cv hi)
   exact .inl ⟨h, _, hi, over2_cv hi, S.src.1, S.src.2.2, S.src.2.1, by rw [over2_low hl h]; exact S.lst⟩
  ·have hlen : (over2 c ids ss bs acc).hp.length = ids.length + acc.length := by
    show (bs ++ acc).length = _
    rw [List.length_append, hl]
   have hj' : j - ids.length < ss.length := by rw [← C.len]; omega
   have hi : ss[j - ids.length]? = some ss[j - ids.length] := by simp [hj']
   obtain ⟨e, t, l, ver, s, g1, g2⟩ := C.blk _ _ hi
   have h1 := I.cv _ _ hi
   have h2 := (I.hp _ _ g2).2
   rw [show ids.length + (j - ids.length) = j by omega] at h1 h2
   exact .inr ⟨h, _, hi, h1, live_lt (by rw [g1]; rfl), by rw [g1]; rfl, by rw [h2]; rfl⟩
 have live_ : ∀ b, isLst (getB c.hp b) = true → Aw.live (getB c.hp b) = true := by
  intro b h
  revert h
  cases getB c.hp b <;> simp [isLst, Aw.live]
 refine ⟨⟨fun j hj => ?_, ?_, H.frin⟩, ?_, from_⟩
 ·rcases Nat.lt_or_ge j ids.length with h | h
  ·have hi : ids[j]? = some ids[j] := by simp [h]
   have S := hb j _ _ hi (getB_of (by omega)) j (over2_cv hi)
   rw [over2_low hl h]; exact S.rep
  ·have hlen : (over2 c ids ss bs acc).hp.length = ids.length + acc.length := by
    show (bs ++ acc).length = _
    rw [List.length_append, hl]
   have hj' : j - ids.length < ss.length := by rw [← C.len]; omega
   have hi : ss[j - ids.length]? = some ss[j - ids.length] := by simp [hj']
   obtain ⟨e, t, l, ver, s, g1, g2⟩ := C.blk _ _ hi
   have h1 := I.cv _ _ hi
   have h2 := (I.hp _ _ g2).2
   rw [show ids.length + (j - ids.length) = j by omega] at h1 h2
   rw [h2]
   have hB := H.blk _ (live_lt (hp := c.hp) (b := ss[j - ids.length]) (by rw [g1]; rfl))
   rw [g1] at hB
   simp only [BRep] at hB ⊢
   rw [h1]; exact hB
 ·intro j j' B hj hj' hne hl1 hl2 hB hB'
  have src : ∀ j, j < (over2 c ids ss bs acc).hp.length → ∃ b, b < c.hp.length ∧ Aw.live (getB c.hp b) = true ∧ (over2 c ids ss bs acc).cv j = c.cv b := by
   intro j hj
   rcases from_ j hj with ⟨_, b, _, h1, h2, _, h3, _⟩ | ⟨_, b, _, h1, h2, h3, _⟩
   ·exact ⟨b, h2, h3, h1⟩
   ·exact ⟨b, h2, live_ b h3, h1⟩
  rcases from_ j hj with ⟨q0, b, q1, q2, q3, q4, q5, _⟩ | ⟨q0, b, q1, q2, q3, q4, _⟩ <;> rcases from_ j' hj' with ⟨r0, b', r1, r2, r3, r4, r5, _⟩ | ⟨r0, b', r1, r2, r3, r4, _⟩ <;> rw [q2] at hB <;> rw [r2] at hB'
  ·refine H.apart b b' B q3 r3 (fun e => hne ?_) q5 r5 hB hB'
   subst e
   exact (List.getElem?_inj q0 hnd).1 (q1.trans r1.symm)
  ·exact H.apart b b' B q3 r3 (fun e => by subst e; rw [q4] at r4; cases r4) q5 (live_ b' r4) hB hB'
  ·exact H.apart b b' B q3 r3 (fun e => by subst e; rw [q4] at r4; cases r4) (live_ b q4) r5 hB hB'
  ·refine H.apart b b' B q3 r3 (fun e => hne ?_) (live_ b q4) (live_ b' r4) hB hB'
   subst e
   have := (List.getElem?_inj (List.getElem?_eq_some_iff.1 q1).1 C.nodup).1 (q1.trans r1.symm)
   omega
 ·rintro i ⟨j, hj, hlv, hi⟩
  rcases from_ j hj with ⟨_, b, _, h1, h2, _, h3, _⟩ | ⟨_, b, _, h1, h2, h3, _⟩
  ·rw [h1] at hi; exact ⟨b, h2, h3, hi⟩
  ·rw [h1] at hi; exact ⟨b, h2, live_ b h3, hi⟩
inductive All2 {α β : Type} (R : α → β → Prop) : List α → List β → Prop
 | nil : All2 R [] []
 | cons {x y l m} : R x y → All2 R l m → All2 R (x :: l) (y :: m)
theorem All2.mono {α β : Type} {R R' : α → β → Prop} (h : ∀ x y, R x y → R' x y) : ∀ {l : List α} {m : List β}, All2 R l m → All2 R' l m
 | _, _, .nil => .nil
 | _, _, .cons h1 h2 => .cons (h _ _ h1) (h2.mono h)
def RnF (ids : List Nat) (d d' : D) : Prop := (below 0 d = true ∧ d' = d) ∨ ∃ b off j, d = .ptr b off ∧ d' = .ptr j off ∧ ids[j]? = some b
def RnA (ids : List Nat) (d d' : D) : Prop := RnF ids d d' ∨ ∃ cs, d = .agg cs ∧ d' = d ∧ cs.all (below 0) = true
def Rn (ids : List Nat) (d d' : D) : Prop := RnA ids d d' ∨ ∃ f fs cs fs' cs', d = .clo f fs cs ∧ d' = .clo f fs' cs' ∧ All2 (RnA ids) fs fs' ∧ All2 (RnA ids) cs cs'
theorem RnF.mono {ids ids' : List Nat} (h : ids <+: ids') {d d' : D} : RnF ids d d' → RnF ids' d d'
 | .inl h => .inl h
 | .inr ⟨b, off, j, h1, h2, h3⟩ => .inr ⟨b, off, j, h1, h2, pre_get h h3⟩
theorem RnA.mono {ids ids' : List Nat} (h : ids <+: ids') {d d' : D} : RnA ids d d' → RnA ids' d d'
 | .inl g => .inl (g.mono h)
 | .inr g => .inr g
theorem Rn.mono {ids ids' : List Nat} (h : ids <+: ids') {d d' : D} : Rn ids d d' → Rn ids' d d'
 | .inl g => .inl (g.mono h)
 | .inr ⟨f, fs, cs, fs', cs', h1, h2, h3, h4⟩ => .inr ⟨f, fs, cs, fs', cs', h1, h2, h3.mono fun _ _ g => g.mono h, h4.mono fun _ _ g => g.mono h⟩
theorem nthIdx_none {x : Nat} : ∀ {l : List Nat} {i : Nat}, nthIdx x l i = none → x ∉ l
 | [], i, h => by simp
 | y :: r, i, h => by
   unfold nthIdx at h
   split at h
   ·cases h
   ·rename_i e
    intro hm
    rcases List.mem_cons.1 hm with h1 | h1
    ·exact e h1.symm
    ·exact nthIdx_none h h1
theorem idxOf_spec {x : Nat} {l l' : List Nat} {j : Nat} (h : idxOf x l = (l', j)) : l <+: l' ∧ l'[j]? = some x ∧ (l.Nodup → l'.Nodup) := by
 unfold idxOf at h
 split at h
 ·rename_i i hi
  cases h
  obtain ⟨_, h2⟩ := nthIdx_spec hi
  exact ⟨List.prefix_refl _, by simpa using h2, id⟩
 ·rename_i hi
  cases h
  refine ⟨List.prefix_append _ _, by simp, fun hn => ?_⟩
  rw [List.nodup_append]
  refine ⟨hn, by simp, fun a ha b hb => ?_⟩
  simp at hb; subst hb
  intro e; subst e
  exact nthIdx_none hi ha
theorem argD_out {c : Cx} (H : HRep c) {ids ids' : List Nat} {d d' : D} {hp' : List Blk} {u : Value} (h : argD c.hp ids d = some (d', hp', ids')) (hd : Rep c d u) :
 ∃ c' d1, c'.w = c.w ∧ c'.hp = hp' ∧ HRep c' ∧ Stp c c' ∧ Rep c' d1 u ∧ RnA ids' d1 d' ∧ ids <+: ids' ∧ (ids.Nodup → ids'.Nodup) := by
 unfold argD at h
 split at h
 ·rename_i b off
  split at h
  rename_i ids1 j hi
  cases h
  obtain ⟨h1, h2, h3⟩ := idxOf_spec hi
  exact ⟨c, _, rfl, rfl, H, Stp.refl c, hd, .inl (.inr ⟨b, off, j, rfl, rfl, h2⟩), h1, h3⟩
 ·rename_i cs
  split at h
  ·rename_i cs' hp1 hf
   cases h
   simp only [Rep] at hd
   obtain ⟨us, rfl, hd⟩ := hd
   obtain ⟨c1, e1, e2, H1, S1, R1⟩ := frzAll_out H hf hd
   exact ⟨c1, .agg cs', e1, e2, H1, S1, by simp only [Rep]; exact ⟨us, rfl, R1⟩, .inr ⟨cs', rfl, rfl, frzAll_below hf⟩, List.prefix_refl _, id⟩
  ·cases h
 ·split at h
  ·rename_i d1 hp1 hf
   cases h
   obtain ⟨c1, e1, e2, H1, S1, R1⟩ := frz_out H hf hd
   exact ⟨c1, _, e1, e2, H1, S1, R1, .inl (.inl ⟨frz_below hf, rfl⟩), List.prefix_refl _, id⟩
  ·cases h
theorem argsFlat_out : ∀ {ds : List D} {c : Cx} {ids ids' : List Nat} {ds' : List D} {hp' : List Blk} {us : List Value}, HRep c → argsFlat c.hp ids ds = some (ds', hp', ids') → RepL c ds us →
 ∃ c' ds1, c'.w = c.w ∧ c'.hp = hp' ∧ HRep c' ∧ Stp c c' ∧ RepL c' ds1 us ∧ All2 (RnA ids') ds1 ds' ∧ ids <+: ids' ∧ (ids.Nodup → ids'.Nodup)
 | [], c, ids, ids', ds', hp', us, H, h, hr => by
   cases h
   exact ⟨c, [], rfl, rfl, H, Stp.refl c, hr, .nil, List.prefix_refl _, id⟩
 | d :: r, c, ids, ids', ds', hp', us, H, h, hr => by
   simp only [RepL] at hr
   obtain ⟨u, us', rfl, hd, hr⟩ := hr
   simp only [argsFlat] at h
   split at h
   ·rename_i d1 hp1 ids1 h1
    split at h
    ·rename_i r1 hp2 ids2 h2
     cases h
     obtain ⟨c1, e, e1, e2, H1, S1, R1, n1, p1, q1⟩ := argD_out H h1 hd
     rw [← e2] at h2
     obtain ⟨c2, es, f1, f2, H2, S2, R2, n2, p2, q2⟩ := argsFlat_out H1 h2 (hr.mono S1.le)
     refine ⟨c2, e :: es, f1.trans e1, f2, H2, S1.trans S2, ?_, .cons (n1.mono p2) n2, p1.trans p2, fun h => q2 (q1 h)⟩
     simp only [RepL]
     exact ⟨u, us', rfl, R1.mono S2.le, R2⟩
    ·cases h
   ·cases h
theorem argsD_out : ∀ {ds : List D} {c : Cx} {ids ids' : List Nat} {ds' : List D} {hp' : List Blk} {us : List Value}, HRep c → argsD c.hp ids ds = some (ds', hp', ids') → RepL c ds us →
 ∃ c' ds1, c'.w = c.w ∧ c'.hp = hp' ∧ HRep c' ∧ Stp c c' ∧ RepL c' ds1 us ∧ All2 (Rn ids') ds1 ds' ∧ ids <+: ids' ∧ (ids.Nodup → ids'.Nodup)
 | [], c, ids, ids', ds', hp', us, H, h, hr => by
   cases h
   exact ⟨c, [], rfl, rfl, H, Stp.refl c, hr, .nil, List.prefix_refl _, id⟩
 | d :: r, c, ids, ids', ds', hp', us, H, h, hr => by
   simp only [RepL] at hr
   obtain ⟨u, us', rfl, hd, hr⟩ := hr
   unfold argsD at h
   split at h
   ·rename_i heq; cases heq
   ·rename_i f fs cs r' heq
    cases heq
    simp only [Rep] at hd
    obtain ⟨vs1, vs2, rfl, hd1, hd2⟩ := hd
    split at h
    ·rename_i fs' hp1 ids1 h1
     split at h
     ·rename_i cs' hp2 ids2 h2
      split at h
      ·rename_i r1 hp3 ids3 h3
       cases h
       obtain ⟨c1, es1, e1, e2, H1, S1, R1, n1, p1, q1⟩ := argsFlat_out H h1 hd1
       rw [← e2] at h2
       obtain ⟨c2, es2, f1, f2, H2, S2, R2, n2, p2, q2⟩ := argsFlat_out H1 h2 (hd2.mono S1.le)
       rw [← f2] at h3
       obtain ⟨c3, es3, g1, g2, H3, S3, R3, n3, p3, q3⟩ := argsD_out H2 h3 (hr.mono (S1.trans S2).le)
       refine ⟨c3, .clo f es1 es2 :: es3, g1.trans (f1.trans e1), g2, H3, (S1.trans S2).trans S3, ?_,
        .cons (.inr ⟨f, es1, es2, fs', cs', rfl, rfl, n1.mono fun _ _ g => g.mono (p2.trans p3), n2.mono fun _ _ g => g.mono p3⟩) n3, p1.trans (p2.trans p3), fun h => q3 (q2 (q1 h))⟩
       simp only [RepL, Rep]
       exact ⟨_, us', rfl, ⟨vs1, vs2, rfl, R1.mono (S2.trans S3).le, R2.mono S3.le⟩, R3⟩
      ·cases h
     ·cases h
    ·cases h
   ·rename_i d0 r0 hne heq
    cases heq
    split at h
    ·rename_i d1 hp1 ids1 h1
     split at h
     ·rename_i r1 hp2 ids2 h2
      cases h
      obtain ⟨c1, e, e1, e2, H1, S1, R1, n1, p1, q1⟩ := argD_out H h1 hd
      rw [← e2] at h2
      obtain ⟨c2, es, f1, f2, H2, S2, R2, n2, p2, q2⟩ := argsD_out H1 h2 (hr.mono S1.le)
      refine ⟨c2, e :: es, f1.trans e1, f2, H2, S1.trans S2, ?_, .cons (.inl (n1.mono p2)) n2, p1.trans p2, fun h => q2 (q1 h)⟩
      simp only [RepL]
      exact ⟨u, us', rfl, R1.mono S2.le, R2⟩
     ·cases h
    ·cases h
theorem RnA.rep {c c2 : Cx} {ids : List Nat} (h1 : c2.w = c.w) (h2 : c2.fr = c.fr) (h3 : c2.tf = c.tf) (h4 : c2.tw = c.tw) (hi : ∀ (j : Nat) b, ids[j]? = some b → j < c2.hp.length ∧ isLst (getB c2.hp j) = false ∧ c2.cv j = c.cv b) {d d' : D} {u : Value}
 (hn : RnA ids d d') (hd : Rep c d u) : Rep c2 d' u := by
 have L : Low 0 c c2 := ⟨h1, h2, h3, h4, Nat.zero_le _, fun b hb => by omega, fun b hb => by omega⟩
 rcases hn with (⟨hb, rfl⟩ | ⟨b, off, j, rfl, rfl, hj⟩) | ⟨cs, rfl, rfl, hb⟩
 ·exact L.below hb hd
 ·simp only [Rep] at hd ⊢
  obtain ⟨_, _, a, g1, g2⟩ := hd
  obtain ⟨f1, f2, f3⟩ := hi j b hj
  exact ⟨f1, f2, a, (congrArg adr f3).trans g1, g2⟩
 ·exact L.refs (d := .agg cs) hb hd
theorem All2.rep {c c2 : Cx} {R : D → D → Prop} (h : ∀ d d' u, R d d' → Rep c d u → Rep c2 d' u) : ∀ {ds ds' : List D} {us : List Value}, All2 R ds ds' → RepL c ds us → RepL c2 ds' us
 | _, _, us, .nil, hr => by simp only [RepL] at hr ⊢; exact hr
 | _, _, us, .cons h1 h2, hr => by
   simp only [RepL] at hr ⊢
   obtain ⟨u, us', rfl, g1, g2⟩ := hr
   exact ⟨u, us', rfl, h _ _ _ h1 g1, All2.rep h h2 g2⟩
theorem Rn.rep {c c2 : Cx} {ids : List Nat} (h1 : c2.w = c.w) (h2 : c2.fr = c.fr) (h3 : c2.tf = c.tf) (h4 : c2.tw = c.tw) (hi : ∀ (j : Nat) b, ids[j]? = some b → j < c2.hp.length ∧ isLst (getB c2.hp j) = false ∧ c2.cv j = c.cv b) {d d' : D} {u : Value}
 (hn : Rn ids d d') (hd : Rep c d u) : Rep c2 d' u := by
 rcases hn with hn | ⟨f, fs, cs, fs', cs', rfl, rfl, n1, n2⟩
 ·exact hn.rep h1 h2 h3 h4 hi hd
 ·simp only [Rep] at hd ⊢
  obtain ⟨us, vs, rfl, g1, g2⟩ := hd
  exact ⟨us, vs, rfl, n1.rep (fun _ _ _ n g => n.rep h1 h2 h3 h4 hi g) g1, n2.rep (fun _ _ _ n g => n.rep h1 h2 h3 h4 hi g) g2⟩
theorem putBack_len : ∀ (ids : List Nat) (hp xs : List Blk), (putBack hp ids xs).length = hp.length
 | [], hp, xs => by unfold putBack; rfl
 | b :: r, hp, [] => by unfold putBack; rfl
 | b :: r, hp, x :: xs => by unfold putBack; rw [putBack_len r]; simp
theorem putBack_ne : ∀ (ids : List Nat) (hp xs : List Blk) {b : Nat}, b ∉ ids → getB (putBack hp ids xs) b = getB hp b
 | [], hp, xs, b, _ => by unfold putBack; rfl
 | b' :: r, hp, [], b, _ => by unfold putBack; rfl
 | b' :: r, hp, x :: xs, b, h => by
   simp only [List.mem_cons, not_or] at h
   unfold putBack
   rw [putBack_ne r _ xs h.2]
   simp only [getB, List.getD_eq_getElem?_getD, List.getElem?_set]
   rw [if_neg (Ne.symm h.1)]
theorem putBack_at : ∀ (ids : List Nat) (hp xs : List Blk) {j b : Nat} {x : Blk}, ids.Nodup → b < hp.length → ids[j]? = some b → xs[j]? = some x → getB (putBack hp ids xs) b = x
 | [], hp, xs, j, b, x, _, _, h, _ => by simp at h
 | b' :: r, hp, [], j, b, x, _, _, _, h => by simp at h
 | b' :: r, hp, y :: xs, 0, b, x, hn, hb, h, hx => by
   simp at h hx
   subst h; subst hx
   unfold putBack
   rw [putBack_ne r _ xs (List.nodup_cons.1 hn).1, getB_set _ hb, if_pos rfl]
 | b' :: r, hp, y :: xs, j + 1, b, x, hn, hb, h, hx => by
   unfold putBack
   exact putBack_at r _ xs (List.nodup_cons.1 hn).2 (by simpa using hb) (by simpa using h) (by simpa using hx)
def back (c1 cc : Cx) (hp2 : List Blk) (ids : List Nat) : Cx :=
 { cc with
  hp := putBack hp2 ids ((cc.hp.take ids.length).map (renB ids hp2.length)) ++ (cc.hp.drop ids.length).map (renB ids hp2.length)
  cv := fun b => match nthIdx b ids 0 with
   | some j => cc.cv j
   | none => if b < hp2.length then c1.cv b else cc.cv (ids.length + (b - hp2.length)) }
theorem nthIdx_in {b : Nat} : ∀ {ids : List Nat} {i j : Nat}, ids.Nodup → ids[j]? = some b → nthIdx b ids i = some (i + j)
 | [], i, j, _, h => by simp at h
 | y :: r, i, 0, _, h => by
   simp at h
   subst h
   unfold nthIdx
   rw [if_pos rfl, Nat.add_zero]
 | y :: r, i, j + 1, hn, h => by
   have h' : r[j]? = some b := by simpa using h
   have hne : y ≠ b := fun e => (List.nodup_cons.1 hn).1 (e ▸ List.mem_of_getElem? h')
   unfold nthIdx
   rw [if_neg hne, nthIdx_in (List.nodup_cons.1 hn).2 h']
   congr 1; omega
theorem nthIdx_no {b : Nat} : ∀ {ids : List Nat} {i : Nat}, b ∉ ids → nthIdx b ids i = none
 | [], i, _ => rfl
 | y :: r, i, h => by
   unfold nthIdx
   rw [if_neg (fun e => h (by rw [e]; exact List.mem_cons_self ..)), nthIdx_no (fun hm => h (List.mem_cons_of_mem _ hm))]
theorem renB_live (ids : List Nat) (N : Nat) (x : Blk) : live (renB ids N x) = live x := by cases x <;> rfl
theorem renB_lst (ids : List Nat) (N : Nat) (x : Blk) : isLst (renB ids N x) = isLst x := by cases x <;> rfl
theorem BLe.renB {u u' : Value} (ids : List Nat) (N : Nat) {x y : Blk} (h : BLe u u' x y) : BLe u u' x (renB ids N y) := by
 cases y with
 | box ty cs => cases x <;> simp only [BLe, Aw.renB, List.length_map] at h ⊢; exact h
 | _ => exact h
structure Ren (ids : List Nat) (N : Nat) (cc c3 : Cx) : Prop where
 w : c3.w = cc.w
 fr : c3.fr = cc.fr
 tf : c3.tf = cc.tf
 tw : c3.tw = cc.tw
 sig : ∀ j, j < cc.hp.length → ren ids N j < c3.hp.length ∧ getB c3.hp (ren ids N j) = renB ids N (getB cc.hp j) ∧ c3.cv (ren ids N j) = cc.cv j
theorem Ren.ren0 {ids : List Nat} {N : Nat} {cc c3 : Cx} (R : Ren ids N cc c3) : ∀ {d : D} {u : Value}, Rep cc d u → Rep c3 (ren0 ids N d) u
 | .v x, u, h => by simp only [Rep, Aw.ren0] at h ⊢; exact h
 | .fz t l, u, h => by simp only [Rep, Aw.ren0] at h ⊢; rw [R.w, R.fr]; exact h
 | .av t n l, u, h => by simp only [Rep, Aw.ren0] at h ⊢; rw [R.w, R.fr]; exact h
 | .er e, u, h => by simp only [Rep, Aw.ren0] at h ⊢; rw [R.w, R.fr, R.tf, R.tw]; exact h
 | .sl b ver, u, h => by
   simp only [Rep, Aw.ren0] at h ⊢
   obtain ⟨h1, h2, h3⟩ := R.sig b h.1
   rw [h2, h3]
   refine ⟨h1, h.2.1, ?_⟩
   have := h.2.2
   revert this
   cases getB cc.hp b <;> exact id
 | .ptr b off, u, h => by
   simp only [Rep, Aw.ren0] at h ⊢
   obtain ⟨h1, h2, h3⟩ := R.sig b h.1
   rw [h2, h3, renB_lst]
   exact ⟨h1, h.2⟩
 | .ep b ver i off, u, h => by
   simp only [Rep, Aw.ren0] at h ⊢
   obtain ⟨h1, h2, h3⟩ := R.sig b h.1
   rw [h2, h3]
   refine ⟨h1, h.2.1, ?_⟩
   have := h.2.2
   revert this
   cases getB cc.hp b <;> exact id
 | .agg _, _, _ | .tup _, _, _ | .fp _, _, _ | .clo _ _ _, _, _ | .bad, _, _ => by simp only [Aw.ren0, Rep]
theorem RepL_map {c c3 : Cx} {f : D → D} (hf : ∀ {d : D} {u : Value}, Rep c d u → Rep c3 (f d) u) : ∀ {ds : List D} {us : List Value}, RepL c ds us → RepL c3 (ds.map f) us
 | [], us, h => by simp only [RepL, List.map_nil] at h ⊢; exact h
 | d :: r, us, h => by
   simp only [RepL, List.map_cons] at h ⊢
   obtain ⟨u, us', rfl, h1, h2⟩ := h
   exact ⟨u, us', rfl, hf h1, RepL_map hf h2⟩
theorem Ren.renC {ids : List Nat} {N : Nat} {cc c3 : Cx} (R : Ren ids N cc c3) {d : D} {u : Value} (h : Rep cc d u) : Rep c3 (renC ids N d) u := by
 cases d with
 | agg cs =>
   simp only [Rep, Aw.renC] at h ⊢
   obtain ⟨us, rfl, h⟩ := h
   exact ⟨us, rfl, RepL_map R.ren0 h⟩
 | fp cs =>
   simp only [Rep, Aw.renC] at h ⊢
   obtain ⟨a, us, rfl, h, h'⟩ := h
   exact ⟨a, us, rfl, RepL_map R.ren0 h, by rw [R.w, R.fr]; exact h'⟩
 | clo f fs cs =>
   simp only [Rep, Aw.renC] at h ⊢
   obtain ⟨us, vs, rfl, h, h'⟩ := h
   exact ⟨us, vs, rfl, RepL_map R.ren0 h, RepL_map R.ren0 h'⟩
 | _ => exact R.ren0 h
theorem Ren.renR {ids : List Nat} {N : Nat} {cc c3 : Cx} (R : Ren ids N cc c3) {d : D} {u : Value} (h : Rep cc d u) : Rep c3 (renR ids N d) u := by
 cases d with
 | tup ds =>
   simp only [Rep, Aw.renR] at h ⊢
   obtain ⟨us, rfl, h⟩ := h
   exact ⟨us, rfl, RepL_map R.renC h⟩
 | _ => exact R.renC h
theorem Ren.blk {ids : List Nat} {N : Nat} {cc c3 : Cx} (R : Ren ids N cc c3) {j : Nat} (hj : j < cc.hp.length) (h : BRep cc j (getB cc.hp j)) : BRep c3 (ren ids N j) (getB c3.hp (ren ids N j)) := by
 obtain ⟨h1, h2, h3⟩ := R.sig j hj
 rw [h2]
 revert h
 cases getB cc.hp j with
 | box ty cs =>
   rintro ⟨B, us, g1, g2, g3, g4⟩
   exact ⟨B, us, h3.trans g1, by rw [R.w]; exact g2, RepL_map R.renC g3, by rw [R.fr]; exact g4⟩
 | lst e t l ver s =>
   intro h
   simp only [BRep, Aw.renB] at h ⊢
   rw [h3, R.w, R.fr]; exact h
 | arr ty n t l s =>
   intro h
   simp only [BRep, Aw.renB] at h ⊢
   rw [h3, R.w, R.fr]; exact h
 | bld ty e s =>
   intro h
   simp only [BRep, Aw.renB] at h ⊢
   rw [h3, R.w, R.fr]; exact h
 | itr s pos =>
   intro h
   simp only [BRep, Aw.renB] at h ⊢
   rw [h3, R.w, R.fr]; exact h
 | dead => intro _; trivial
theorem back_rep {c1 : Cx} (H1 : HRep c1) {ids ss : List Nat} {bs acc hp2 : List Blk} (C : Coll c1 hp2 acc ss) (hl : bs.length = ids.length) (hnd : ids.Nodup)
 (hb : ∀ (i : Nat) b x, ids[i]? = some b → bs[i]? = some x → ∀ j, (over2 c1 ids ss bs acc).cv j = c1.cv b → Same c1 (over2 c1 ids ss bs acc) b j x)
 {cc : Cx} (H : HRep cc) (I : Inv (over2 c1 ids ss bs acc) ids.length cc) :
 HRep (back c1 cc hp2 ids) ∧ Stp c1 (back c1 cc hp2 ids) ∧ ∀ {d : D} {v : Value}, Rep cc d v → Rep (back c1 cc hp2 ids) (renR ids hp2.length d) v := by
 obtain ⟨H0, Ow, Fr⟩ := over2_rep H1 C hl hnd hb
 let N := hp2.length
 let n := ids.length
 let c3 := back c1 cc hp2 ids
 have hN : hp2.length = c1.hp.length := C.hlen
 have hn : ids.length ≤ cc.hp.length := I.len
 have hcc0 : (over2 c1 ids ss bs acc).hp.length = ids.length + acc.length := by
  show (bs ++ acc).length = _
  rw [List.length_append, hl]
 have idat : ∀ j, j < ids.length → ∃ b, ids[j]? = some b ∧ ren ids hp2.length j = b ∧ b < hp2.length ∧ (over2 c1 ids ss bs acc).cv j = c1.cv b ∧ isLst (getB (over2 c1 ids ss bs acc).hp j) = false ∧
  isLst (getB c1.hp b) = false ∧ Aw.live (getB c1.hp b) = true ∧ ∀ u, BLe u u (getB c1.hp b) (getB (over2 c1 ids ss bs acc).hp j) := by
  intro j hj
  rcases Fr j (by omega) with ⟨_, b, h1, h2, h3, h4, h5, h6⟩ | ⟨h1, _⟩
  ·refine ⟨b, h1, ?_, by omega, h2, h6, h4, h5, ?_⟩
   ·simp only [ren, if_pos hj, List.getD_eq_getElem?_getD, h1, Option.getD_some]
   ·have S := hb j b _ h1 (getB_of (by omega)) j h2
    rw [over2_low hl hj]; exact S.ble
  ·omega
 have hlen3 : c3.hp.length = hp2.length + (cc.hp.length - ids.length) := by
  show (putBack _ _ _ ++ _).length = _
  rw [List.length_append, putBack_len]; simp
 have low3 : ∀ b, b < hp2.length → getB c3.hp b = getB (putBack hp2 ids ((cc.hp.take ids.length).map (renB ids hp2.length))) b := by
  intro b hb
  show getB (putBack _ _ _ ++ _) b = _
  simp only [getB, List.getD_eq_getElem?_getD]
  rw [List.getElem?_append_left (by rw [putBack_len]; exact hb)]
 have R : Ren ids hp2.length cc c3 := by
  refine ⟨rfl, rfl, rfl, rfl, fun j hj => ?_⟩
  rcases Nat.lt_or_ge j ids.length with h | h
  ·obtain ⟨b, h1, h2, h3, h4, h5, _⟩ := idat j h
   rw [h2]
   refine ⟨by omega, ?_, ?_⟩
   ·rw [low3 b h3]
    refine putBack_at ids hp2 _ hnd h3 h1 ?_
    rw [List.getElem?_map, List.getElem?_take, if_pos h, getB_of hj]
    rfl
   ·show (match nthIdx b ids 0 with | some j => cc.cv j | none => _) = _
    rw [nthIdx_in hnd h1, Nat.zero_add]
  ·have hr : ren ids hp2.length j = hp2.length + (j - ids.length) := by simp only [ren, if_neg (show ¬ j < ids.length by omega)]
   rw [hr]
   refine ⟨by omega, ?_, ?_⟩
   ·show getB (putBack _ _ _ ++ _) _ = _
    simp only [getB, List.getD_eq_getElem?_getD]
    rw [List.getElem?_append_right (by rw [putBack_len]; omega), putBack_len, Nat.add_sub_cancel_left, List.getElem?_map, List.getElem?_drop, show ids.length + (j - ids.length) = j by omega]
    simp [List.getElem?_eq_getElem hj]
   ·have hni : (hp2.length + (j - ids.length)) ∉ ids := by
     intro hm
     obtain ⟨i, hi, e⟩ := List.getElem_of_mem hm
     obtain ⟨b, h1, h2, h3, _⟩ := idat i hi
     rw [List.getElem?_eq_getElem hi, e] at h1
     cases h1
     omega
    show (match nthIdx _ ids 0 with | some j => cc.cv j | none => if _ then _ else _) = _
    rw [nthIdx_no hni]
    show (if _ then _ else _) = _
    rw [if_neg (by omega), Nat.add_sub_cancel_left, show ids.length + (j - ids.length) = j by omega]
 have cases_ : ∀ b, b < c3.hp.length → (∃ j, j < cc.hp.length ∧ b = ren ids hp2.length j) ∨ (b < hp2.length ∧ b ∉ ids ∧ getB c3.hp b = getB hp2 b ∧ c3.cv b = c1.cv b) := by
  intro b hb
  rcases Nat.lt_or_ge b hp2.length with h | h
  ·by_cases hm : b ∈ ids
   ·obtain ⟨j, hj, e⟩ := List.getElem_of_mem hm
    refine .inl ⟨j, by omega, ?_⟩
    simp only [ren, if_pos hj, List.getD_eq_getElem?_getD, List.getElem?_eq_getElem hj, Option.getD_some, e]
   ·refine .inr ⟨h, hm, ?_, ?_⟩
    ·rw [low3 b h, putBack_ne _ _ _ hm]
    ·show (match nthIdx _ ids 0 with | some j => cc.cv j | none => if _ then _ else _) = _
     rw [nthIdx_no hm]
     exact if_pos h
  ·refine .inl ⟨ids.length + (b - hp2.length), by omega, ?_⟩
   simp only [ren, if_neg (show ¬ ids.length + (b - hp2.length) < ids.length by omega), Nat.add_sub_cancel_left]
   omega
 have other : ∀ b, Aw.live (getB hp2 b) = true → b ∉ ss ∧ getB hp2 b = getB c1.hp b := by
  intro b h
  rw [C.hp] at h ⊢
  by_cases hs : b ∈ ss
  ·rw [if_pos hs] at h; cases h
  ·exact ⟨hs, if_neg hs⟩
 have notown : ∀ b B, b ∉ ids → Aw.live (getB hp2 b) = true → cb (c1.cv b) B → ¬ Own (over2 c1 ids ss bs acc) B := by
  rintro b B hid hlv hB ⟨j, hj, hl', hB'⟩
  obtain ⟨hs, he⟩ := other b hlv
  have hlv' : Aw.live (getB c1.hp b) = true := by rw [← he]; exact hlv
  rcases Fr j hj with ⟨_, b', g1, g2, g3, _, g5, _⟩ | ⟨_, b', g1, g2, g3, g4, _⟩
  ·rw [g2] at hB'
   refine H1.apart b b' B (live_lt hlv') g3 (fun e => hid ?_) hlv' g5 hB hB'
   subst e
   exact List.mem_of_getElem? g1
  ·rw [g2] at hB'
   refine H1.apart b b' B (live_lt hlv') g3 (fun e => hs ?_) hlv' ?_ hB hB'
   ·subst e
    exact List.mem_of_getElem? g1
   ·revert g4
    cases getB c1.hp b' <;> simp [isLst, Aw.live]
 have size_ : ∀ b B, Aw.live (getB hp2 b) = true → cb (c1.cv b) B → B < c1.w.heap.size := by
  intro b B hlv hB
  obtain ⟨_, he⟩ := other b hlv
  rw [he] at hlv
  exact BRep.lt hB hlv (H1.blk b (live_lt hlv))
 have hle : HpLe c1 c3 := by
  refine ⟨by omega, fun b hb => ?_, I.ext, I.tf, I.tw⟩
  rcases cases_ b (by omega) with ⟨j, hj, e⟩ | ⟨g1, g2, g3, g4⟩
  ·obtain ⟨s1, s2, s3⟩ := R.sig j hj
   have hjn : j < ids.length := by
    rcases Nat.lt_or_ge j ids.length with h | h
    ·exact h
    ·simp only [ren, if_neg (show ¬ j < ids.length by omega)] at e; omega
   obtain ⟨b', i1, i2, i3, i4, i5, i6, i7, i8⟩ := idat j hjn
   rw [i2] at e s2 s3
   subst e
   rw [s2, s3]
   have := (i8 (c1.cv b)).trans (i4 ▸ I.same j hjn)
   exact this.renB ids hp2.length
  ·rw [g3, g4, C.hp]
   by_cases hs : b ∈ ss
   ·rw [if_pos hs]; exact BLe.dead _ _
   ·rw [if_neg hs]; exact BLe.refl _ _
 have hI : ∀ j j', j < cc.hp.length → j' < cc.hp.length → ren ids hp2.length j = ren ids hp2.length j' → j = j' := by
  intro j j' hj hj' e
  rcases Nat.lt_or_ge j ids.length with h | h <;> rcases Nat.lt_or_ge j' ids.length with h' | h'
  ·obtain ⟨b, i1, i2, _⟩ := idat j h
   obtain ⟨b', i1', i2', _⟩ := idat j' h'
   rw [i2, i2'] at e
   subst e
   exact (List.getElem?_inj h hnd).1 (i1.trans i1'.symm)
  ·obtain ⟨b, i1, i2, i3, _⟩ := idat j h
   rw [i2] at e
   simp only [ren, if_neg (show ¬ j' < ids.length by omega)] at e
   omega
  ·obtain ⟨b, i1, i2, i3, _⟩ := idat j' h'
   rw [i2] at e
   simp only [ren, if_neg (show ¬ j < ids.length by omega)] at e
   omega
  ·simp only [ren, if_neg (show ¬ j < ids.length by omega), if_neg (show ¬ j' < ids.length by omega)] at e
   omega
 have ownIm : ∀ j B, j < cc.hp.length → Aw.live (getB c3.hp (ren ids hp2.length j)) = true → cb (c3.cv (ren ids hp2.length j)) B → Own cc B := by
  intro j B hj hlv hB
  obtain ⟨s1, s2, s3⟩ := R.sig j hj
  rw [s2, renB_live] at hlv
  rw [s3] at hB
  exact ⟨j, hj, hlv, hB⟩
 have clash : ∀ b B, b ∉ ids → Aw.live (getB hp2 b) = true → cb (c1.cv b) B → Own cc B → False := by
  intro b B h1 h2 h3 h4
  rcases I.fresh B h4 with h | h
  ·have := size_ b B h2 h3
   exact absurd h (by show ¬ c1.w.heap.size ≤ B; omega)
  ·exact notown b B h1 h2 h3 h
 refine ⟨⟨fun b hb => ?_, ?_, H.frin⟩, ⟨hle, I.os, I.tape, I.output, I.size, fun i hi hno => I.keep i hi (fun ho => hno (Ow i ho)), ?_, ?_⟩, fun h => R.renR h⟩
 ·rcases cases_ b hb with ⟨j, hj, e⟩ | ⟨g1, g2, g3, g4⟩
  ·rw [e]
   exact R.blk hj (H.blk j hj)
  ·show BRep c3 b (getB c3.hp b)
   rw [g3]
   cases hlv : Aw.live (getB hp2 b) with
   | false =>
     revert hlv
     cases getB hp2 b <;> simp [Aw.live]
     trivial
   | true =>
     obtain ⟨hs, he⟩ := other b hlv
     rw [he]
     refine BRep.keep hle g4 (fun B hB => I.keep B (size_ b B hlv hB) (notown b B g2 hlv hB)) (fun a B hB ha hf => ?_) (H1.blk b (by omega))
     rcases I.frnew a hf with h | h | h
     ·exact h
     ·have := size_ b B hlv hB
      exact absurd h (by rw [ha]; show ¬ c1.w.heap.size ≤ B; omega)
     ·rw [ha] at h
      exact absurd h (notown b B g2 hlv hB)
 ·intro b b' B hb hb' hne hl1 hl2 hB hB'
  rcases cases_ b hb with ⟨j, hj, e⟩ | ⟨g1, g2, g3, g4⟩ <;> rcases cases_ b' hb' with ⟨j', hj', e'⟩ | ⟨g1', g2', g3', g4'⟩
  ·subst e; subst e'
   obtain ⟨s1, s2, s3⟩ := R.sig j hj
   obtain ⟨s1', s2', s3'⟩ := R.sig j' hj'
   rw [show getB (back c1 cc hp2 ids).hp (ren ids hp2.length j) = _ from s2, renB_live] at hl1
   rw [show getB (back c1 cc hp2 ids).hp (ren ids hp2.length j') = _ from s2', renB_live] at hl2
   rw [show (back c1 cc hp2 ids).cv (ren ids hp2.length j) = _ from s3] at hB
   rw [show (back c1 cc hp2 ids).cv (ren ids hp2.length j') = _ from s3'] at hB'
   exact H.apart j j' B hj hj' (fun e => hne (by rw [e])) hl1 hl2 hB hB'
  ·subst e
   rw [show getB (back c1 cc hp2 ids).hp b' = _ from g3'] at hl2
   rw [show (back c1 cc hp2 ids).cv b' = _ from g4'] at hB'
   exact clash b' B g2' hl2 hB' (ownIm j B hj hl1 hB)
  ·subst e'
   rw [show getB (back c1 cc hp2 ids).hp b = _ from g3] at hl1
   rw [show (back c1 cc hp2 ids).cv b = _ from g4] at hB
   exact clash b B g2 hl1 hB (ownIm j' B hj' hl2 hB')
  ·rw [show getB (back c1 cc hp2 ids).hp b = _ from g3] at hl1
   rw [show (back c1 cc hp2 ids).cv b = _ from g4] at hB
   rw [show getB (back c1 cc hp2 ids).hp b' = _ from g3'] at hl2
   rw [show (back c1 cc hp2 ids).cv b' = _ from g4'] at hB'
   have e1 := (other b hl1).2
   have e2 := (other b' hl2).2
   rw [e1] at hl1
   rw [e2] at hl2
   exact H1.apart b b' B (by omega) (by omega) hne hl1 hl2 hB hB'
 ·rintro i ⟨b, hb, hlv, hi⟩
  rcases cases_ b hb with ⟨j, hj, e⟩ | ⟨g1, g2, g3, g4⟩
  ·subst e
   rcases I.fresh i (ownIm j i hj hlv hi) with h | h
   ·exact .inl h
   ·exact .inr (Ow i h)
  ·rw [show getB (back c1 cc hp2 ids).hp b = _ from g3] at hlv
   rw [show (back c1 cc hp2 ids).cv b = _ from g4] at hi
   have e1 := (other b hlv).2
   rw [e1] at hlv
   exact .inr ⟨b, by omega, hlv, hi⟩
 ·intro a ha
  rcases I.frnew a ha with h | h | h
  ·exact .inl h
  ·exact .inr (.inl h)
  ·exact .inr (.inr (Ow _ h))
theorem nil_lst {c : Cx} (H : HRep c) (e : TypeId) (t : Ty) : ∃ c', c'.w = c.w ∧ c'.hp = c.hp ++ [.lst e t [] 0 false] ∧ HRep c' ∧ Stp c c' ∧ Rep c' (.sl c.hp.length 0) (.slice none 0 0) := by
 let c' : Cx := { c with hp := c.hp ++ [.lst e t [] 0 false], cv := fun b => if b = c.hp.length then .slice none 0 0 else c.cv b }
 have hg : ∀ b, getB c'.hp b = if b = c.hp.length then .lst e t [] 0 false else getB c.hp b := fun b => getB_app _
 have hcv : ∀ b, b ≠ c.hp.length → c'.cv b = c.cv b := fun b hb => if_neg hb
 have hcv0 : c'.cv c.hp.length = .slice none 0 0 := if_pos rfl
 have hlen : c'.hp.length = c.hp.length + 1 := by show (c.hp ++ _).length = _; simp
 have hle : HpLe c c' := by
  refine ⟨by omega, fun b hb => ?_, Ext.refl _ _, rfl, rfl⟩
  rw [hg, if_neg (by omega), hcv b (by omega)]
  exact BLe.refl _ _
 have none_ : ∀ b, b < c'.hp.length → live (getB c'.hp b) = true → ∀ B, cb (c'.cv b) B → b ≠ c.hp.length := by
  intro b _ _ B hB e
  subst e
  rw [hcv0] at hB; cases hB
 refine ⟨c', rfl, rfl, ⟨fun b hb => ?_, ?_, H.frin⟩, ⟨hle, rfl, rfl, rfl, Nat.le_refl _, fun _ _ _ => rfl, ?_, fun _ h => .inl h⟩, ?_⟩
 ·by_cases e1 : b = c.hp.length
  ·subst e1
   rw [hg, if_pos rfl]
   exact ⟨none, 0, hcv0, .inl ⟨rfl, rfl, rfl⟩⟩
  ·rw [hg, if_neg e1]
   exact (H.blk b (by omega)).keep hle (hcv b e1) (fun _ _ => rfl) (fun _ _ _ _ h => h)
 ·intro b b' B hb hb' hne hl hl' hB hB'
  have e1 := none_ b hb hl B hB
  have e2 := none_ b' hb' hl' B hB'
  rw [hg, if_neg e1] at hl
  rw [hg, if_neg e2] at hl'
  rw [hcv b e1] at hB
  rw [hcv b' e2] at hB'
  exact H.apart b b' B (by omega) (by omega) hne hl hl' hB hB'
 ·rintro i ⟨b, hb, hl, hi⟩
  have e1 := none_ b hb hl i hi
  rw [hg, if_neg e1] at hl
  rw [hcv b e1] at hi
  exact .inr ⟨b, by omega, hl, hi⟩
 ·simp only [Rep, hg, if_pos]
  exact ⟨by omega, rfl, Nat.le_refl _, fun _ => hcv0.symm⟩
theorem prepOwn_out {c : Cx} (H : HRep c) {e : TypeId} {t : Ty} {d d' : D} {hp' : List Blk} {u : Value} (h : prepOwn c.hp e t d = some (d', hp')) (hd : Rep c d u) :
 ∃ c', c'.w = c.w ∧ c'.hp = hp' ∧ HRep c' ∧ Stp c c' ∧ Rep c' d' u := by
 unfold prepOwn at h
 split at h
 ·cases h
  simp only [Rep] at hd
  subst hd
  exact nil_lst H e t
 ·split at h
  ·split at h
   ·cases h; exact ⟨c, rfl, rfl, H, Stp.refl c, hd⟩
   ·cases h
  ·cases h
 ·cases h
theorem sealD_out {c : Cx} (H : HRep c) (d : D) : ∃ c', c'.w = c.w ∧ c'.hp = sealD c.hp d ∧ HRep c' ∧ Stp c c' := by
 unfold sealD
 split
 ·rename_i b ver
  by_cases hb : b < c.hp.length
  ·cases hg : getB c.hp b with
   | lst e t l ver s =>
     obtain ⟨c', e1, e2, e3, H', S', R'⟩ := seal_lst H hg hb
     exact ⟨c', e1, e2, H', S'⟩
   | _ => exact ⟨c, rfl, (set_same hg hb).symm, H, Stp.refl c⟩
  ·exact ⟨c, rfl, by rw [List.set_eq_of_length_le (by omega)], H, Stp.refl c⟩
 ·exact ⟨c, rfl, rfl, H, Stp.refl c⟩
theorem prepD0_out {c : Cx} (H : HRep c) {m : Mode} {d d' : D} {hp' : List Blk} {u : Value} (h : prepD0 c.hp m d = some (d', hp')) (hd : Rep c d u) :
 ∃ c', c'.w = c.w ∧ c'.hp = hp' ∧ HRep c' ∧ Stp c c' ∧ Rep c' d' u := by
 unfold prepD0 at h
 split at h
 ·cases h; exact ⟨c, rfl, rfl, H, Stp.refl c, hd⟩
 ·exact prepOwn_out H h hd
 ·split at h
  ·rename_i d1 hp1 h1
   cases h
   obtain ⟨c1, e1, e2, H1, S1, R1⟩ := prepOwn_out H h1 hd
   obtain ⟨c2, f1, f2, H2, S2⟩ := sealD_out H1 d'
   exact ⟨c2, f1.trans e1, by rw [f2, e2], H2, S1.trans S2, R1.mono S2.le⟩
  ·cases h
 ·cases h
  simp only [Rep] at hd
  subst hd
  refine ⟨c, rfl, rfl, H, Stp.refl c, ?_⟩
  simp only [Rep]
  exact ⟨none, 0, rfl, Nat.le_refl _, fun h => absurd rfl h⟩
 ·split at h
  ·cases h; exact ⟨c, rfl, rfl, H, Stp.refl c, hd⟩
  ·cases h
 ·rename_i t b ver
  split at h
  ·rename_i e' t' l ver' s hg
   split at h
   ·rename_i hv
    cases h
    simp only [Rep] at hd
    obtain ⟨h1, _, h3⟩ := hd
    rw [hg] at h3
    obtain ⟨c', e1, e2, e3, H', S', R'⟩ := seal_lst H hg h1
    exact ⟨c', e1, e2, H', S', by rw [h3.2 hv.1]; exact R'⟩
   ·cases h
  ·cases h
 ·cases h
theorem getD_rep {c : Cx} {tmps : List D} {us : List Value} (R : RepL c tmps us) {s : Nat} {d : D} (h : tmps.getD s .bad = d) : (∃ u, us[s]? = some u ∧ Rep c d u) ∨ (us[s]? = none ∧ d = .bad ∧ tmps[s]? = none) := by
 rw [List.getD_eq_getElem?_getD] at h
 cases hx : tmps[s]? with
 | none =>
   rw [hx] at h
   refine .inr ⟨?_, h.symm, rfl⟩
   rw [List.getElem?_eq_none_iff] at hx ⊢
   rw [RepL_length R]; exact hx
 | some y =>
   rw [hx] at h
   have : y = d := h
   subst this
   exact .inl (RepL_get R hx)
theorem set_val {us : List Value} {s : Nat} {u : Value} (h : us[s]? = some u) : us.set s u = us := by
 apply List.ext_getElem?
 intro i
 rw [List.getElem?_set]
 by_cases e : s = i
 ·subst e
  rw [if_pos rfl, if_pos (List.getElem?_eq_some_iff.1 h).1, h]
 ·rw [if_neg e]
theorem recell {c : Cx} (H : HRep c) {b : Nat} {ty : TypeId} {cs cs' : List D} (hg : getB c.hp b = .box ty cs) (hb : b < c.hp.length) (hl : cs'.length = cs.length)
 (hr : ∀ B us, c.cv b = .pointer (some ⟨B, 0, none⟩) → c.w.heap[B]? = some (.cells us.toArray ty (0, 0)) → RepL c cs us → RepL c cs' us) :
 ∃ c', c'.w = c.w ∧ c'.hp = c.hp.set b (.box ty cs') ∧ HRep c' ∧ Stp c c' := by
 have hB := H.blk b hb
 rw [hg] at hB
 obtain ⟨B, us, h1, h2, h3, h4⟩ := hB
 let c' : Cx := { c with hp := c.hp.set b (.box ty cs') }
 have hg' : ∀ b', getB c'.hp b' = if b' = b then .box ty cs' else getB c.hp b' := fun b' => getB_set _ hb
 have hle : HpLe c c' := by
  refine ⟨by simp [c'], fun b' hb' => ?_, Ext.refl _ _, rfl, rfl⟩
  rw [hg' b']
  by_cases e' : b' = b
  ·subst e'
   rw [if_pos rfl, hg]
   exact ⟨rfl, hl, rfl⟩
  ·rw [if_neg e']; exact BLe.refl _ _
 have hnew : BRep c' b (.box ty cs') := ⟨B, us, h1, h2, (hr B us h1 h2 h3).mono hle, h4⟩
 have U : Upd c c' b := {
  lt := by simpa [c'] using hb
  len := fun b' hb' _ => by simpa [c'] using hb'
  oth := fun b' hb' hne => ⟨by rw [hg' b', if_neg hne], rfl⟩
  heap := fun i hi _ => rfl
  size := Nat.le_refl _
  os := rfl, tape := rfl, output := rfl
  fr := fun a ha => .inl ha
  frin := fun a ha => H.frin a ha
  new := by rw [hg' b, if_pos rfl]; exact hnew
  at_ := fun B' _ hB' => .inr ⟨hb, by rw [hg]; rfl, hB'⟩ }
 exact ⟨c', rfl, rfl, U.hrep H hle, U.stp hle⟩
theorem prepCells_out (b : Nat) : ∀ (l : List (Nat × Option TypeId × Ty)) {c : Cx} {hp' : List Blk}, HRep c → prepCells b l c.hp = some hp' → ∃ c', c'.w = c.w ∧ c'.hp = hp' ∧ HRep c' ∧ Stp c c'
 | [], c, hp', H, h => by
   cases h
   exact ⟨c, rfl, rfl, H, Stp.refl c⟩
 | (o, e, t) :: r, c, hp', H, h => by
   unfold prepCells at h
   split at h
   ·rename_i ty cs hg
    have hb : b < c.hp.length := getB_lt fun e => by rw [e] at hg; cases hg
    split at h
    ·rename_i d hp1 h1
     split at h
     ·rename_i ty' cs' hg1
      have hB := H.blk b hb
      rw [hg] at hB
      obtain ⟨B, us, k1, k2, k3, k4⟩ := hB
      have key : ∃ c1, c1.w = c.w ∧ c1.hp = hp1 ∧ HRep c1 ∧ Stp c c1 ∧ (∀ u, us[o]? = some u → Rep c1 d u) := by
       rcases getD_rep k3 (s := o) rfl with ⟨u, hu, hd⟩ | ⟨hu, hbad, hn⟩
       ·obtain ⟨c1, e1, e2, H1, S1, R1⟩ := prepD0_out H h1 hd
        exact ⟨c1, e1, e2, H1, S1, fun u' hu' => by rw [hu] at hu'; cases hu'; exact R1⟩
       ·obtain ⟨c1, e1, e2, H1, S1, _⟩ := prepD0_out (u := undef) H h1 (by rw [hbad]; simp only [Rep])
        exact ⟨c1, e1, e2, H1, S1, fun u' hu' => by rw [hu] at hu'; cases hu'⟩
      obtain ⟨c1, e1, e2, H1, S1, R1⟩ := key
      have hg2 : getB c1.hp b = .box ty' cs' := by rw [e2]; exact hg1
      have ble := S1.le.blk b hb
      rw [hg, hg2] at ble
      obtain ⟨b1, b2, b3⟩ := ble
      have hb1 : b < c1.hp.length := Nat.lt_of_lt_of_le hb S1.le.len
      obtain ⟨c2, f1, f2, H2, S2⟩ := recell H1 (cs' := cs'.set o d) hg2 hb1 (by simp) (fun B' us' q1 q2 q3 => by
       rw [b3, k1] at q1
       cases q1
       rw [e1, k2] at q2
       have hus : us'.toArray = us.toArray := by
        have := Option.some.inj q2
        injection this with h5 _ _
        exact h5.symm
       have hus : us' = us := by simpa using hus
       subst hus
       cases hx : us'[o]? with
       | none =>
         have : o ≥ cs'.length := by
          rw [List.getElem?_eq_none_iff] at hx
          rw [← RepL_length q3]; exact hx
         rw [List.set_eq_of_length_le this]
         exact q3
       | some u =>
         have := RepL_set o q3 (R1 u hx)
         rwa [set_val hx] at this)
      rw [e2] at f2
      rw [← f2] at h
      obtain ⟨c3, g1, g2, H3, S3⟩ := prepCells_out b r H2 h
      exact ⟨c3, by rw [g1, f1, e1], g2, H3, (S1.trans S2).trans S3⟩
     ·cases h
    ·cases h
   ·cases h
theorem prepD_out {c : Cx} (H : HRep c) {m : Mode} {d d' : D} {hp' : List Blk} {u : Value} (h : prepD c.hp m d = some (d', hp')) (hd : Rep c d u) :
 ∃ c', c'.w = c.w ∧ c'.hp = hp' ∧ HRep c' ∧ Stp c c' ∧ Rep c' d' u := by
 unfold prepD at h
 split at h
 ·split at h
  ·rename_i h1
   cases h
   obtain ⟨c1, e1, e2, H1, S1⟩ := prepCells_out _ _ H h1
   exact ⟨c1, e1, e2, H1, S1, hd.mono S1.le⟩
  ·cases h
 ·exact prepD0_out H h hd
theorem prepAll_out : ∀ (ms : List (Nat × Mode)) {c : Cx} {tmps tmps' : List D} {hp' : List Blk} {us : List Value}, HRep c → prepAll ms tmps c.hp = some (tmps', hp') → RepL c tmps us →
 ∃ c', c'.w = c.w ∧ c'.hp = hp' ∧ HRep c' ∧ Stp c c' ∧ RepL c' tmps' us
 | [], c, tmps, tmps', hp', us, H, h, hr => by
   cases h
   exact ⟨c, rfl, rfl, H, Stp.refl c, hr⟩
 | (s, m) :: r, c, tmps, tmps', hp', us, H, h, hr => by
   unfold prepAll at h
   split at h
   ·rename_i d hp1 h1
    rcases getD_rep hr (s := s) rfl with ⟨u, hu, hd⟩ | ⟨hu, hb, hn⟩
    ·obtain ⟨c1, e1, e2, H1, S1, R1⟩ := prepD_out H h1 hd
     rw [← e2] at h
     have R2 := RepL_set s (hr.mono S1.le) R1
     rw [set_val hu] at R2
     obtain ⟨c2, f1, f2, H2, S2, R3⟩ := prepAll_out r H1 h R2
     exact ⟨c2, f1.trans e1, f2, H2, S1.trans S2, R3⟩
    ·rw [hb] at h1
     have hset : tmps.set s d = tmps := by
      apply List.ext_getElem?
      intro i
      rw [List.getElem?_set]
      by_cases e : s = i
      ·subst e
       rw [if_pos rfl, if_neg (by rw [List.getElem?_eq_none_iff] at hn; omega), hn]
      ·rw [if_neg e]
     rw [hset] at h
     obtain ⟨c1, e1, e2, H1, S1, _⟩ := prepD_out (u := undef) H h1 (by simp only [Rep])
     rw [← e2] at h
     obtain ⟨c2, f1, f2, H2, S2, R3⟩ := prepAll_out r H1 h (hr.mono S1.le)
     exact ⟨c2, f1.trans e1, f2, H2, S1.trans S2, R3⟩
   ·cases h
theorem ptrIds0_spec : ∀ (ds : List D) {ids : List Nat}, ids <+: ptrIds0 ids ds ∧ (ids.Nodup → (ptrIds0 ids ds).Nodup)
 | [], ids => ⟨List.prefix_refl _, id⟩
 | d :: r, ids => by
   unfold ptrIds0
   split
   ·rename_i heq; cases heq
   ·rename_i b off r' heq
    cases heq
    obtain ⟨h1, h2, h3⟩ := idxOf_spec (x := b) (l := ids) rfl
    obtain ⟨g1, g2⟩ := ptrIds0_spec r (ids := (idxOf b ids).1)
    exact ⟨h1.trans g1, fun h => g2 (h3 h)⟩
   ·rename_i heq
    cases heq
    exact ptrIds0_spec r
theorem ptrIds_spec (tmps : List D) : ∀ (ms : List (Nat × Mode)) {ids : List Nat}, ids <+: ptrIds ids tmps ms ∧ (ids.Nodup → (ptrIds ids tmps ms).Nodup)
 | [], ids => ⟨List.prefix_refl _, id⟩
 | (s, m) :: r, ids => by
   unfold ptrIds
   split
   ·rename_i b off heq
    obtain ⟨h1, h2, h3⟩ := idxOf_spec (x := b) (l := ids) rfl
    obtain ⟨g1, g2⟩ := ptrIds_spec tmps r (ids := (idxOf b ids).1)
    exact ⟨h1.trans g1, fun h => g2 (h3 h)⟩
   ·rename_i f fs cs heq
    obtain ⟨h1, h2⟩ := ptrIds0_spec fs (ids := ids)
    obtain ⟨k1, k2⟩ := ptrIds0_spec cs (ids := ptrIds0 ids fs)
    obtain ⟨g1, g2⟩ := ptrIds_spec tmps r (ids := ptrIds0 (ptrIds0 ids fs) cs)
    exact ⟨(h1.trans k1).trans g1, fun h => g2 (k2 (h2 h))⟩
   ·exact ptrIds_spec tmps r
theorem capK_rep {ids : List Nat} {n : Nat} {c c2 : Cx} {acc : List Blk} {ss : List Nat} (I : Into n c acc ss c2) (M : Moved ids c c2) {d : D} {u : Value} (hd : Rep c d u) : Rep c2 (capK ids d) u := by
 have L : Low 0 c c2 := ⟨I.w, I.fr, I.tf, I.tw, Nat.zero_le _, fun b hb => by omega, fun b hb => by omega⟩
 unfold capK
 split
 ·rename_i b off
  split
  ·rename_i j hj
   obtain ⟨_, h2⟩ := nthIdx_spec hj
   rw [Nat.sub_zero] at h2
   obtain ⟨m1, m2, m3⟩ := M j b h2
   simp only [Rep] at hd ⊢
   obtain ⟨_, _, a, g1, g2⟩ := hd
   exact ⟨m1, m2, a, (congrArg adr m3).trans g1, g2⟩
  ·simp only [Rep]
 ·split
  ·rename_i hb
   exact L.below hb hd
  ·simp only [Rep]
theorem outK0_sound {n : Nat} {ids : List Nat} {c : Cx} (H : HRep c) {hp acc : List Blk} {ss : List Nat} (C : Coll c hp acc ss) {d d' : D} {hp' acc' : List Blk} {u : Value} (h : outK0 n ids hp acc d = some (d', hp', acc')) (hd : Rep c d u) :
 ∃ ss', Coll c hp' acc' ss' ∧ acc <+: acc' ∧ ss <+: ss' ∧ ∀ c2, Into n c acc' ss' c2 → Moved ids c c2 → Rep c2 d' u := by
 unfold outK0 at h
 split at h
 ·cases h
  exact ⟨ss, C, List.prefix_refl _, List.prefix_refl _, fun c2 I M => capK_rep I M hd⟩
 ·rename_i cs
  split at h
  ·rename_i cs' hp1 acc1 g
   cases h
   simp only [Rep] at hd
   obtain ⟨us, rfl, hd⟩ := hd
   obtain ⟨ss', C', p1, p2, f⟩ := collAll_sound H C g hd
   exact ⟨ss', C', p1, p2, fun c2 I _ => by simp only [Rep]; exact ⟨us, rfl, f c2 I⟩⟩
  ·cases h
 ·cases h
  simp only [Rep] at hd
  obtain ⟨us, vs, rfl, h1, h2⟩ := hd
  refine ⟨ss, C, List.prefix_refl _, List.prefix_refl _, fun c2 I M => ?_⟩
  simp only [Rep]
  exact ⟨us, vs, rfl, RepL_map (fun h => capK_rep I M h) h1, RepL_map (fun h => capK_rep I M h) h2⟩
 ·obtain ⟨ss', C', p1, p2, f⟩ := coll_sound H C h hd
  exact ⟨ss', C', p1, p2, fun c2 I _ => f c2 I⟩
theorem outK_sound {n : Nat} {ids : List Nat} {c : Cx} (H : HRep c) {hp acc : List Blk} {ss : List Nat} (C : Coll c hp acc ss) {m : Mode} {d d' : D} {hp' acc' : List Blk} {u : Value} (h : outK n ids hp acc m d = some (d', hp', acc')) (hd : Rep c d u) :
 ∃ ss', Coll c hp' acc' ss' ∧ acc <+: acc' ∧ ss <+: ss' ∧ ∀ c2, Into n c acc' ss' c2 → Moved ids c c2 → Rep c2 d' u := by
 unfold outK at h
 split at h
 ·obtain ⟨ss', C', p1, p2, f⟩ := collOwn_sound (n := n) C h hd
  exact ⟨ss', C', p1, p2, fun c2 I _ => f c2 I⟩
 ·obtain ⟨ss', C', p1, p2, f⟩ := collOwn_sound (n := n) C h hd
  exact ⟨ss', C', p1, p2, fun c2 I _ => f c2 I⟩
 ·exact outK0_sound H C h hd
theorem outKeep_sound {n : Nat} {ids : List Nat} {c : Cx} (H : HRep c) {tmps : List D} {us : List Value} (R : RepL c tmps us) : ∀ (ms : List (Nat × Mode)) {hp acc : List Blk} {ss : List Nat} {res res' : List D} {acc' : List Blk}, Coll c hp acc ss → outKeep n ids tmps ms hp acc res = some (res', acc') →
 ∃ hp' ss', Coll c hp' acc' ss' ∧ acc <+: acc' ∧ ss <+: ss' ∧ ∀ c2, Into n c acc' ss' c2 → Moved ids c c2 → RepL c2 res us → RepL c2 res' us
 | [], hp, acc, ss, res, res', acc', C, h => by
   cases h
   exact ⟨hp, ss, C, List.prefix_refl _, List.prefix_refl _, fun c2 I M h => h⟩
 | (s, m) :: r, hp, acc, ss, res, res', acc', C, h => by
   unfold outKeep at h
   split at h
   ·rename_i d hp1 acc1 h1
    rcases getD_rep R (s := s) rfl with ⟨u, hu, hd⟩ | ⟨hu, hb, hn⟩
    ·obtain ⟨ss1, C1, p1, p2, f1⟩ := outK_sound H C h1 hd
     obtain ⟨hp2, ss2, C2, q1, q2, f2⟩ := outKeep_sound H R r C1 h
     refine ⟨hp2, ss2, C2, p1.trans q1, p2.trans q2, fun c2 I M hr => f2 c2 I M ?_⟩
     have := RepL_set s hr (f1 c2 (I.pre q1 q2) M)
     rwa [set_val hu] at this
    ·rw [hb] at h1
     cases m <;> cases h1
   ·cases h
theorem bads_rep (c : Cx) : ∀ us : List Value, RepL c (List.replicate us.length .bad) us
 | [] => by simp only [List.length_nil, List.replicate_zero, RepL]
 | u :: us => by
   simp only [List.length_cons, List.replicate_succ, RepL, Rep]
   exact ⟨u, us, rfl, trivial, bads_rep c us⟩
theorem canonGo_sound [Inhabited Dfr] {k : Canon} {st : St} {tmps : List D} {hp : List Blk} {K : St → Prop} {ids : List Nat} (h : canonGo k st.m tmps hp ids K) {c0 c : Cx} {a : Act} (hR : RepL c tmps a.tmps.toList) (hhp : c.hp = hp) (hda : a.defers = (default : Dfr).l) (H : HRep c) (I : Inv c0 st.m c)
 (hp0 : List.range st.m <+: ids) (hnd : ids.Nodup) : ∃ st' c', K st' ∧ st'.m = st.m ∧ c'.w = c.w ∧ SRep c' st' a ∧ HRep c' ∧ Inv c0 st.m c' := by
 unfold canonGo at h
 split at h
 ·rename_i bs hp2 acc h2
  split at h
  ·rename_i res acc' h3
   rw [← hhp] at h2
   obtain ⟨ss1, C1, _, _, hl, f1⟩ := lifts_sound H (Coll.start c) h2
   obtain ⟨hp3, ss2, C2, p1, p2, f2⟩ := outKeep_sound H hR k.slots C1 h3
   have In := over2_into (ids := ids) (bs := bs) C2 hl
   have Mv := over2_moved (c := c) (ids := ids) (ss := ss2) (acc := acc') hl (lifts_lst h2)
   have hb := fun i b x => f1 _ (In.pre p1 p2) Mv i b x
   obtain ⟨Hr, Ow, Fr⟩ := over2_rep H (ids := ids) C2 hl hnd hb
   have M : Moved ids c (over2 c ids ss2 bs acc') := by
    intro j b hj
    have hlt := (List.getElem?_eq_some_iff.1 hj).1
    have hlen : j < (over2 c ids ss2 bs acc').hp.length := by
     show j < (bs ++ acc').length
     rw [List.length_append, hl]; omega
    rcases Fr j hlen with ⟨_, b', g1, g2, _, _, _, g3⟩ | ⟨g, _⟩
    ·rw [hj] at g1; cases g1
     exact ⟨hlen, g3, g2⟩
    ·omega
   refine ⟨_, over2 c ids ss2 bs acc', h, rfl, rfl, ⟨f2 _ In M ?_, rfl, hda⟩, Hr, ?_⟩
   ·rw [← RepL_length hR]
    exact bads_rep _ _
   ·have hget : ∀ j, j < st.m → ids[j]? = some j := fun j hj => pre_get hp0 (by simp [hj])
    refine ⟨I.os, I.tape, I.output, I.size, I.keep, I.ext, fun i hi => I.fresh i (Ow i hi), I.frnew, ?_, fun b hb' => ?_, I.tf, I.tw⟩
    ·show st.m ≤ (bs ++ acc').length
     have := hp0.length_le
     simp at this
     rw [List.length_append, hl]; omega
    ·have hid := hget b hb'
     have hlt := (List.getElem?_eq_some_iff.1 hid).1
     have hcv := over2_cv (c := c) (ss := ss2) (bs := bs) (acc := acc') hid
     have S := hb b b _ hid (getB_of (by rw [hl]; exact hlt)) b hcv
     rw [hcv, over2_low hl hlt]
     exact (I.same b hb').trans (S.ble _)
  ·exact h.elim
 ·exact h.elim
theorem upto_eq : ∀ m, upto m = List.range m
 | 0 => rfl
 | m + 1 => by rw [List.range_succ, ← upto_eq m]; rfl
theorem canonW_sound [Inhabited Dfr] {k : Option Canon} {st : St} {K : St → Prop} (h : canonW k st K) {c0 c : Cx} {a : Act} (S : SRep c st a) (H : HRep c) (I : Inv c0 st.m c) :
 ∃ st' c', K st' ∧ st'.m = st.m ∧ c'.w = c.w ∧ SRep c' st' a ∧ HRep c' ∧ Inv c0 st.m c' := by
 unfold canonW at h
 cases k with
 | none => exact ⟨st, c, h, rfl, rfl, S, H, I⟩
 | some k =>
   simp only at h
   split at h
   ·rename_i tmps hp h1
    rw [← S.hp] at h1
    obtain ⟨c1, e1, e2, H1, S1, R1⟩ := prepAll_out k.slots H h1 S.tmps
    obtain ⟨g1, g2⟩ := ptrIds_spec tmps k.slots (ids := upto st.m)
    obtain ⟨st', c', f1, f2, f3, f4⟩ := canonGo_sound h R1 e2 S.defers H1 (I.step S1) (by rw [← upto_eq]; exact g1) (g2 (by rw [upto_eq]; exact List.nodup_range))
    exact ⟨st', c', f1, f2, f3.trans e1, f4⟩
   ·exact h.elim
structure Goes [Inhabited Dfr] (c0 : Cx) (m : Nat) (K : Ex → St → Prop) (Q : Exit → Act → World → Prop) : Prop where
 normal : ∀ st c a, K .normal st → st.m = m → SRep c st a → HRep c → Inv c0 m c → Q .normal a c.w
 exit : ∀ id st c a, K (.exit id) st → st.m = m → SRep c st a → HRep c → Inv c0 m c → Q (.exit id) a c.w
 ret : ∀ st c a, K .ret st → st.m = m → SRep c st a → HRep c → Inv c0 m c → Q .ret a c.w
 goto : ∀ l st c a, K (.goto l) st → st.m = m → SRep c st a → HRep c → Inv c0 m c → Q (.goto l) a c.w
 panic : ∀ d st c a p, K (.panic d) st → st.m = m → SRep c st a → HRep c → Inv c0 m c → Rep c d p → Q (.panic [{ v := p, recovered := false }]) a c.w
 ins : ∀ d st tmps, K (.panic d) st → K (.panic d) { st with tmps := tmps }
theorem codeW_sound [Inhabited Dfr] {cfg : Cfg} (T : TblOk cfg) (hD : DetOk cfg) {c0 : Cx} (h0 : TOk cfg.P cfg.tf cfg.tw c0) {m : Nat} : ∀ (x : Code) {K : Ex → St → Prop} {Q : Exit → Act → World → Prop}, Goes c0 m K Q →
 ∀ {st : St} {c : Cx} {a : Act}, codeW cfg x K st → st.m = m → SRep c st a → HRep c → Inv c0 m c → x.wp cfg.P Q a c.w
 | .skip, K, Q, G, st, c, a, h, hm, S, H, I => wp_skip (G.normal _ _ _ h hm S H I)
 | .label _, K, Q, G, st, c, a, h, hm, S, H, I => wp_label (G.normal _ _ _ h hm S H I)
 | .region id ops draw, K, Q, G, st, c, a, h, hm, S, H, I => by
   subst hm
   exact regionW_sound T hD h0 (fun st' c' a' hk hm S' H' I' => G.normal _ _ _ hk hm S' H' I') (fun d st' c' a' p hk hm S' H' I' hd => G.panic _ _ _ _ _ hk hm S' H' I' hd) (fun d st tmps h => G.ins d st tmps h) S H I h
 | .seq x y, K, Q, G, st, c, a, h, hm, S, H, I => by
   refine wp_seq (codeW_sound T hD h0 x (K := _) ?_ h hm S H I)
   refine ⟨fun st c a h hm S H I => ?_, fun id st c a h hm S H I => G.exit _ _ _ _ h hm S H I, fun st c a h hm S H I => G.ret _ _ _ h hm S H I, fun l st c a h hm S H I => G.goto _ _ _ _ h hm S H I, fun d st c a p h hm S H I hd => G.panic _ _ _ _ _ h hm S H I hd, fun d st tmps h => G.ins d st tmps h⟩
   subst hm
   obtain ⟨st', c', h', hm', hw, S', H', I'⟩ := canonW_sound h S H I
   show y.wp cfg.P Q a c.w
   rw [← hw]
   exact codeW_sound T hD h0 y G h' hm' S' H' I'
 | .cond o x y, K, Q, G, st, c, a, h, hm, S, H, I => by
   unfold codeW at h
   split at h
   ·rename_i t ho
    have hv := opd_rep S.tmps o
    rw [ho] at hv
    simp only [Rep] at hv
    refine wp_cond hv ?_
    rcases br_elim h with ⟨rfl, h⟩ | ⟨rfl, h⟩
    ·exact codeW_sound T hD h0 x G h hm S H I
    ·exact codeW_sound T hD h0 y G h hm S H I
   ·exact h.elim
 | .block id x, K, Q, G, st, c, a, h, hm, S, H, I => by
   refine wp_block (codeW_sound T hD h0 x (K := _) ?_ h hm S H I)
   refine ⟨fun st c a h hm S H I => G.normal _ _ _ h hm S H I, fun id' st c a h hm S H I => ?_, fun st c a h hm S H I => G.ret _ _ _ h hm S H I, fun l st c a h hm S H I => G.goto _ _ _ _ h hm S H I, fun d st c a p h hm S H I hd => G.panic _ _ _ _ _ h hm S H I hd, fun d st tmps h => G.ins d st tmps h⟩
   simp only [Exit.inBlock]
   simp only at h
   split at h
   ·rename_i e
    rw [if_pos (Nat.eq_of_beq_eq_true e)]
    exact G.normal _ _ _ h hm S H I
   ·rename_i e
    rw [if_neg (fun e' => by subst e'; rw [Nat.beq_refl] at e; cases e)]
    exact G.exit _ _ _ _ h hm S H I
 | .loop x, K, Q, G, st, c, a, h, hm, S, H, I => by
   have key : ∀ n (st : St) (c : Cx) (a : Act), loopN (fun again => codeW cfg x (fun e st' => match e with
    | .normal => canonW (cfg.atLoop (firstReg x)) st' again
    | e => K e st')) n st → st.m = m → SRep c st a → HRep c → Inv c0 m c → Code.rounds cfg.P x Q n a c.w := by
    intro n
    induction n with
    | zero => intro st c a h; exact h.elim
    | succ n ih =>
      intro st c a h hm S H I
      rw [rounds_succ]
      refine codeW_sound T hD h0 x (K := _) ?_ h hm S H I
      refine ⟨fun st c a h hm S H I => ?_, fun id st c a h hm S H I => G.exit _ _ _ _ h hm S H I, fun st c a h hm S H I => G.ret _ _ _ h hm S H I, fun l st c a h hm S H I => G.goto _ _ _ _ h hm S H I, fun d st c a p h hm S H I hd => G.panic _ _ _ _ _ h hm S H I hd, fun d st tmps h => G.ins d st tmps h⟩
      subst hm
      obtain ⟨st', c', h', hm', hw, S', H', I'⟩ := canonW_sound h S H I
      show Code.rounds cfg.P x Q n a c.w
      rw [← hw]
      exact ih _ _ _ h' hm' S' H' I'
   subst hm
   obtain ⟨st', c', ⟨n, hn⟩, hm', hw, S', H', I'⟩ := canonW_sound h S H I
   rw [← hw]
   exact wp_loop_rounds n (key n _ _ _ hn hm' S' H' I')
 | .exit id, K, Q, G, st, c, a, h, hm, S, H, I => by
   subst hm
   obtain ⟨st', c', h', hm', hw, S', H', I'⟩ := canonW_sound h S H I
   rw [← hw]
   exact wp_exit (G.exit _ _ _ _ h' hm' S' H' I')
 | .ret, K, Q, G, st, c, a, h, hm, S, H, I => wp_ret (G.ret _ _ _ h hm S H I)
 | .rangeFunc _ _ _ _, K, Q, G, st, c, a, h, hm, S, H, I => h.elim
 | .scope x, K, Q, G, st, c, a, h, hm, S, H, I => by
   refine wp_scope_straight (codeW_sound T hD h0 x (K := _) ?_ h hm S H I)
   exact ⟨fun st c a h hm S H I => G.normal _ _ _ h hm S H I, fun id st c a h hm S H I => G.exit _ _ _ _ h hm S H I, fun st c a h hm S H I => G.ret _ _ _ h hm S H I, fun l st c a h hm S H I => h.elim, fun d st c a p h hm S H I hd => G.panic _ _ _ _ _ h hm S H I hd, fun d st tmps h => G.ins d st tmps h⟩
 | .goto l, K, Q, G, st, c, a, h, hm, S, H, I => wp_goto (G.goto _ _ _ _ h hm S H I)
 | .refuse _, K, Q, G, st, c, a, h, hm, S, H, I => h.elim
theorem outM_out {c : Cx} (H : HRep c) {m : Mode} {d d' : D} {hp' : List Blk} {u : Value} (h : outM c.hp m d = some (d', hp')) (hd : Rep c d u) :
 ∃ c', c'.w = c.w ∧ c'.hp = hp' ∧ HRep c' ∧ Stp c c' ∧ Rep c' d' u := by
 unfold outM at h
 split at h
 ·unfold outF at h
  split at h
  ·split at h
   ·rename_i cs cs' hp2 h2
    cases h
    simp only [Rep] at hd
    obtain ⟨us, rfl, hd⟩ := hd
    obtain ⟨c1, e1, e2, H1, S1, R1⟩ := frzAll_out H h2 hd
    exact ⟨c1, e1, e2, H1, S1, by simp only [Rep]; exact ⟨us, rfl, R1⟩⟩
   ·cases h
  ·cases h
   exact ⟨c, rfl, rfl, H, Stp.refl c, hd⟩
 ·exact prepD_out H h hd
theorem outFs_out : ∀ {ds : List D} {ms : List Mode} {ds' : List D} {c : Cx} {hp' : List Blk} {us : List Value}, HRep c → outFs c.hp ms ds = some (ds', hp') → RepL c ds us → ∃ c', c'.w = c.w ∧ c'.hp = hp' ∧ HRep c' ∧ Stp c c' ∧ RepL c' ds' us
 | [], ms, ds', c, hp', us, H, h, hr => by
   unfold outFs at h
   cases h
   exact ⟨c, rfl, rfl, H, Stp.refl c, hr⟩
 | d :: r, ms, ds', c, hp', us, H, h, hr => by
   simp only [RepL] at hr
   obtain ⟨u, us', rfl, hd, hr⟩ := hr
   simp only [outFs] at h
   split at h
   ·rename_i d1 hp1 h1
    split at h
    ·rename_i r1 hp2 h2
     cases h
     obtain ⟨c1, e1, e2, H1, S1, R1⟩ := outM_out H h1 hd
     obtain ⟨c2, f1, f2, H2, S2, R2⟩ := outFs_out H1 (by rw [e2]; exact h2) (hr.mono S1.le)
     refine ⟨c2, by rw [f1, e1], f2, H2, S1.trans S2, ?_⟩
     simp only [RepL]
     exact ⟨u, us', rfl, R1.mono S2.le, R2⟩
    ·cases h
   ·cases h
def Firsts (m : Nat) (c c2 : Cx) : Prop := ∀ j, j < m → c2.cv j = c.cv j ∧ j < c2.hp.length ∧ isLst (getB c2.hp j) = false
theorem capD_rep {m : Nat} {c c2 : Cx} (hw : c2.w = c.w) (hf : c2.fr = c.fr) (h1 : c2.tf = c.tf) (h2 : c2.tw = c.tw) (F : Firsts m c c2) : ∀ {d : D} {u : Value}, capD m d = true → Rep c d u → Rep c2 d u
 | .v x, u, _, h => by simp only [Rep] at h ⊢; exact h
 | .fz t l, u, _, h => by simp only [Rep] at h ⊢; rw [hw, hf]; exact h
 | .av t n l, u, _, h => by simp only [Rep] at h ⊢; rw [hw, hf]; exact h
 | .er e, u, _, h => by simp only [Rep] at h ⊢; rw [hw, hf, h1, h2]; exact h
 | .ptr j off, u, hb, h => by
   have hb : j < m := Nat.le_of_ble_eq_true hb
   simp only [Rep] at h ⊢
   obtain ⟨g1, g2, a, g3, g4⟩ := h
   obtain ⟨f1, f2, f3⟩ := F j hb
   exact ⟨f2, f3, a, (congrArg adr f1).trans g3, g4⟩
 | .sl _ _, _, hb, _ | .ep _ _ _ _, _, hb, _ | .agg _, _, hb, _ | .tup _, _, hb, _ | .fp _, _, hb, _ | .clo _ _ _, _, hb, _ | .bad, _, hb, _ => by cases hb
theorem outD_sound {m : Nat} {c : Cx} (H : HRep c) {hp acc : List Blk} {ss : List Nat} (C : Coll c hp acc ss) {d d' : D} {hp' acc' : List Blk} {u : Value} (h : outD m hp acc d = some (d', hp', acc')) (hd : Rep c d u) :
 ∃ ss', Coll c hp' acc' ss' ∧ acc <+: acc' ∧ ss <+: ss' ∧ ∀ c2, Into m c acc' ss' c2 → Firsts m c c2 → Rep c2 d' u := by
 unfold outD at h
 split at h
 ·rename_i cs
  split at h
  ·rename_i cs' hp1 acc1 g
   cases h
   simp only [Rep] at hd
   obtain ⟨us, rfl, hd⟩ := hd
   obtain ⟨ss', C', p1, p2, f⟩ := collAll_sound H C g hd
   exact ⟨ss', C', p1, p2, fun c2 I _ => by simp only [Rep]; exact ⟨us, rfl, f c2 I⟩⟩
  ·cases h
 ·rename_i j off
  split at h
  ·rename_i hj
   cases h
   exact ⟨ss, C, List.prefix_refl _, List.prefix_refl _, fun c2 I F => capD_rep (m := m) I.w I.fr I.tf I.tw F (d := .ptr j off) hj hd⟩
  ·cases h
 ·rename_i f fs cs
  split at h
  ·rename_i hb
   cases h
   simp only [Bool.and_eq_true] at hb
   simp only [Rep] at hd
   obtain ⟨us, vs, rfl, h1, h2⟩ := hd
   refine ⟨ss, C, List.prefix_refl _, List.prefix_refl _, fun c2 I F => ?_⟩
   simp only [Rep]
   exact ⟨us, vs, rfl, Low.list (n := 0) (fun g1 g2 => capD_rep I.w I.fr I.tf I.tw F g1 g2) hb.1 h1, Low.list (n := 0) (fun g1 g2 => capD_rep I.w I.fr I.tf I.tw F g1 g2) hb.2 h2⟩
  ·cases h
 ·obtain ⟨ss', C', p1, p2, f⟩ := coll_sound H C h hd
  exact ⟨ss', C', p1, p2, fun c2 I _ => f c2 I⟩
theorem outAll_sound {m : Nat} {c : Cx} (H : HRep c) : ∀ {ds : List D} {hp acc : List Blk} {ss : List Nat} {ds' : List D} {hp' acc' : List Blk} {us : List Value}, Coll c hp acc ss → outAll m hp acc ds = some (ds', hp', acc') → RepL c ds us →
 ∃ ss', Coll c hp' acc' ss' ∧ acc <+: acc' ∧ ss <+: ss' ∧ ∀ c2, Into m c acc' ss' c2 → Firsts m c c2 → RepL c2 ds' us
 | [], hp, acc, ss, ds', hp', acc', us, C, h, hd => by
   cases h
   simp only [RepL] at hd
   exact ⟨ss, C, List.prefix_refl _, List.prefix_refl _, fun c2 I _ => by simp only [RepL]; exact hd⟩
 | d :: r, hp, acc, ss, ds', hp', acc', us, C, h, hd => by
   simp only [RepL] at hd
   obtain ⟨u, us', rfl, h1, h2⟩ := hd
   simp only [outAll] at h
   split at h
   ·rename_i d1 hp1 acc1 g1
    split at h
    ·rename_i r1 hp2 acc2 g2
     cases h
     obtain ⟨ss1, C1, p1, p2, f1⟩ := outD_sound H C g1 h1
     obtain ⟨ss2, C2, q1, q2, f2⟩ := outAll_sound H C1 g2 h2
     refine ⟨ss2, C2, p1.trans q1, p2.trans q2, fun c2 I F => ?_⟩
     simp only [RepL]
     exact ⟨u, us', rfl, f1 c2 (I.pre q1 q2) F, f2 c2 I F⟩
    ·cases h
   ·cases h
theorem goW_sound {ms : List Mode} {st : St} {ds : List D} {k : List D → List Blk → Prop} (h : goW ms st ds k) {c0 c : Cx} {us : List Value} (hhp : c.hp = st.hp) (R : RepL c ds us) (H : HRep c) (I : Inv c0 st.m c) :
 ∃ ds' c', k ds' c'.hp ∧ c'.w = c.w ∧ RepL c' ds' us ∧ HRep c' ∧ Inv c0 st.m c' := by
 unfold goW at h
 split at h
 ·rename_i ds1 hp1 h1
  split at h
  ·rename_i bs hp2 acc h2
   split at h
   ·rename_i ds' hp3 acc' h3
    rw [← hhp] at h1
    obtain ⟨c1, e1, e2, H1, S1, R1⟩ := outFs_out H h1 R
    rw [← e2] at h2
    have I1 := I.step S1
    rw [upto_eq] at h2
    obtain ⟨ss1, C1, _, _, hl, f1⟩ := lifts_sound H1 (Coll.start c1) h2
    obtain ⟨ss2, C2, p1, p2, f2⟩ := outAll_sound H1 C1 h3 R1
    have hlen : (List.range st.m).length = st.m := List.length_range
    have In := over2_into (ids := List.range st.m) (bs := bs) C2 hl
    rw [hlen] at In
    have Mv := over2_moved (c := c1) (ids := List.range st.m) (ss := ss2) (acc := acc') hl (lifts_lst h2)
    obtain ⟨Hr, Ow, Fr⟩ := over2_rep H1 (ids := List.range st.m) C2 hl List.nodup_range (fun i b x => f1 _ (In.pre p1 p2) Mv i b x)
    have hget : ∀ j, j < st.m → (List.range st.m)[j]? = some j := fun j hj => by simp [hj]
    refine ⟨ds', over2 c1 (List.range st.m) ss2 bs acc', h, e1, f2 _ In fun j hj => ?_, Hr, ?_⟩
    ·rcases Fr j (by show j < (bs ++ acc').length; rw [List.length_append, hl, hlen]; omega) with ⟨_, b, g1, g2, _, _, _, g3⟩ | ⟨g, _⟩
     ·rw [hget j hj] at g1
      cases g1
      exact ⟨g2, by show j < (bs ++ acc').length; rw [List.length_append, hl, hlen]; omega, g3⟩
     ·rw [hlen] at g; omega
    ·refine ⟨I1.os, I1.tape, I1.output, I1.size, I1.keep, I1.ext, fun i hi => I1.fresh i (Ow i hi), I1.frnew, ?_, fun b hb => ?_, I1.tf, I1.tw⟩
     ·show st.m ≤ (bs ++ acc').length
      rw [List.length_append, hl, hlen]; omega
     ·have hcv := over2_cv (c := c1) (ss := ss2) (bs := bs) (acc := acc') (hget b hb)
      have S := f1 _ (In.pre p1 p2) Mv b b _ (hget b hb) (getB_of (by rw [hl, hlen]; exact hb)) b hcv
      rw [hcv, over2_low hl (by rw [hlen]; exact hb)]
      exact (I1.same b hb).trans (S.ble _)
   ·exact h.elim
  ·exact h.elim
 ·exact h.elim
theorem dead_all {c0 c : Cx} {m : Nat} (H : HRep c) (I : Inv c0 m c) : HRep { c with hp := List.replicate m .dead } ∧ Inv c0 m { c with hp := List.replicate m .dead } := by
 have hg : ∀ b, getB (List.replicate m Blk.dead) b = .dead := by
  intro b
  unfold getB
  by_cases hb : b < m
  ·simp [List.getD, hb]
  ·simp [List.getD, hb]
 refine ⟨⟨fun b hb => ?_, fun b b' B hb hb' hne hl => ?_, H.frin⟩, ⟨I.os, I.tape, I.output, I.size, I.keep, I.ext, fun i ho => ?_, I.frnew, by simp, fun b hb => ?_, I.tf, I.tw⟩⟩
 ·show BRep _ b (getB (List.replicate m Blk.dead) b)
  rw [hg]
  trivial
 ·replace hl : live (getB (List.replicate m Blk.dead) b) = true := hl
  rw [hg] at hl
  cases hl
 ·obtain ⟨b, hb, hl, _⟩ := ho
  replace hl : live (getB (List.replicate m Blk.dead) b) = true := hl
  rw [hg] at hl
  cases hl
 ·show BLe _ _ _ (getB (List.replicate m Blk.dead) b)
  rw [hg]
  exact (I.same b hb).trans (BLe.dead _ _)
def Post (c : Cx) (k kp : D → List Blk → Prop) : Ending → World → Prop
 | .returned v, w' => ∃ d c', c'.w = w' ∧ k d c'.hp ∧ Rep c' d v ∧ HRep c' ∧ Inv c (nBoxes c.hp) c'
 | .panicked ch, w' => ∃ d p c', ch = [{ v := p, recovered := false }] ∧ c'.w = w' ∧ kp d c'.hp ∧ Rep c' d p ∧ HRep c' ∧ Inv c (nBoxes c.hp) c'
 | .outgrown, _ => False
def SoundF (P : Program) (tf tw : TypeId) (f : FuncId) (en : Entry) : Prop :=
 ∀ (c : Cx) (args : List D) (us : List Value) (k kp : D → List Blk → Prop), TOk P tf tw c → RepL c args us → HRep c → en args c.hp k kp → Calls P f us.toArray c.w (Post c k kp)
theorem nBoxes_le : ∀ hp : List Blk, nBoxes hp ≤ hp.length
 | [] => Nat.le_refl _
 | b :: r => by
   unfold nBoxes
   split
   ·exact Nat.zero_le _
   ·exact Nat.succ_le_succ (nBoxes_le r)
theorem cell_run {P : Program} {w : World} {t : TypeId} {u v : Value} (h : (Instr.loadAt t u).run P w = .ok v w) : (do loadVar t (← asAddr u) : Sem Value).run P w = .ok v w := by
 unfold Instr.loadAt at h
 cases u with
 | pointer a =>
   cases a with
   | some a => simpa [Instr.sureAddr, asAddr] using h
   | none => simp [Instr.sureAddr, asAddr] at h
 | _ => simp [Instr.sureAddr, asAddr] at h
theorem results_run {c : Cx} (H : HRep c) {st : St} {tmps : Array Value} (R : RepL c st.tmps tmps.toList) (hhp : c.hp = st.hp) {P : Program} : ∀ (rs : List ResultVar) {K : List D → Prop}, resultsW P st rs K →
 ∃ ds us, K ds ∧ RepL c ds us ∧ ∀ g : ResultVar → Sem Value, (∀ t, g (.tmp t) = pure (tmps.getD t undef)) → (∀ t ty, g (.cell t ty) = (do loadVar ty (← asAddr (tmps.getD t undef)))) → (rs.mapM g).run P c.w = .ok us c.w
 | [], K, h => ⟨[], [], h, by simp only [RepL], fun g _ _ => rfl⟩
 | .tmp t :: r, K, h => by
   obtain ⟨ds, us, hk, g1, g2⟩ := results_run H R hhp (P := P) r h
   refine ⟨_, tmps.getD t undef :: us, hk, ?_, fun g hg hg' => ?_⟩
   ·simp only [RepL]
    exact ⟨_, us, rfl, opd_rep (a := { tmps := tmps, defers := [] }) R (.tmp t), g1⟩
   ·rw [List.mapM_cons, hg]
    simp [g2 g hg hg']
 | .cell t ty :: r, K, h => by
   have hv := opd_rep (a := { tmps := tmps, defers := [] }) R (.tmp t)
   have h : loadW P st.hp ty (st.opd (.tmp t)) _ := h
   rw [← hhp] at h
   obtain ⟨d, v, hk, hd, hr⟩ := loadW_run h hv H
   obtain ⟨ds, us, hk, g1, g2⟩ := results_run H R hhp (P := P) r hk
   refine ⟨_, v :: us, hk, ?_, fun g hg hg' => ?_⟩
   ·simp only [RepL]
    exact ⟨_, us, rfl, hd, g1⟩
   ·have hc : (g (.cell t ty)).run P c.w = .ok v c.w := by
     rw [hg']
     exact cell_run hr
    rw [List.mapM_cons]
    simp [hc, g2 g hg hg']
theorem funW_sound {cfg : Cfg} (T : TblOk cfg) (hD : DetOk cfg) {f : FuncId} {fn : Func} (hf : cfg.P.funcs[f]? = some fn) : SoundF cfg.P cfg.tf cfg.tw f (funW cfg fn) := by
 letI : Inhabited Dfr := ⟨⟨[]⟩⟩
 intro c args us k kp h0 R H h
 unfold funW at h
 cases hb : fn.body with
 | none => rw [hb] at h; exact h.elim
 | some code =>
   rw [hb] at h
   simp only at h
   refine calls_of_wp hf hb (codeW_sound T hD h0 (m := nBoxes c.hp) code (K := _) ?_ h rfl ?_ H (Inv.start c _ (nBoxes_le _)))
   ·have ret : ∀ (st : St) (c' : Cx) (a : Act), retW cfg fn k st → st.m = nBoxes c.hp → SRep c' st a → HRep c' → Inv c (nBoxes c.hp) c' →
     a.defers = [] ∧ ∃ v, (Go.results fn a.tmps).run cfg.P c'.w = .ok v c'.w ∧ Post c k kp (.returned v) c'.w := by
     intro st c' a h hm S H' I'
     unfold retW at h
     ·obtain ⟨ds, us, h, g1, g2⟩ := results_run H' S.tmps S.hp (P := cfg.P) _ h
      rw [← hm] at I'
      obtain ⟨ds', c2, f1, f2, f3, f4, f5⟩ := goW_sound h S.hp g1 H' I'
      have hrun : (Go.results fn a.tmps).run cfg.P c'.w = .ok (if h : us.toArray.size = 1 then us.toArray[0] else .tuple us.toArray) c'.w := by
       unfold Go.results
       rw [Array.mapM_eq_mapM_toList]
       simp
       rw [g2 _ (fun t => by simp) (fun t ty => by simp)]
       rfl
      refine ⟨S.defers, _, hrun, oneOf ds', c2, f2, f1, ?_, f4, by rw [← hm]; exact f5⟩
      have hl := RepL_length f3
      split
      ·rename_i h1
       simp at h1
       obtain ⟨u, rfl⟩ := List.length_eq_one_iff.1 h1
       obtain ⟨d, rfl⟩ := List.length_eq_one_iff.1 (hl.symm.trans h1)
       simp only [RepL] at f3
       obtain ⟨u', us', e, f3, rfl⟩ := f3
       cases e
       exact f3
      ·rename_i h1
       simp at h1
       have : oneOf ds' = .tup ds' := by
        unfold oneOf
        split
        ·simp at hl; omega
        ·rfl
       rw [this]
       simp only [Rep]
       exact ⟨us, rfl, f3⟩
    refine ⟨fun st c' a h hm S H' I' => ret st c' a h hm S H' I', fun id st c' a h => h.elim, fun st c' a h hm S H' I' => ret st c' a h hm S H' I', fun l st c' a h => h.elim, fun d st c' a p h hm S H' I' hd => ⟨S.defers, ?_⟩, fun d st tmps h => h⟩
    have h : panW kp d st := h
    unfold panW at h
    rw [hm] at h
    obtain ⟨H2, I2⟩ := dead_all H' I'
    split at h
    ·refine ⟨_, p, { c' with hp := List.replicate (nBoxes c.hp) .dead }, rfl, rfl, h, ?_, H2, I2⟩
     simp only [Rep] at hd ⊢
     exact hd
    ·refine ⟨_, p, { c' with hp := List.replicate (nBoxes c.hp) .dead }, rfl, rfl, h, ?_, H2, I2⟩
     simp only [Rep] at hd ⊢
     exact hd
    ·exact h.elim
   ·refine ⟨?_, rfl, rfl⟩
    simp only [Array.toList_append, Array.toList_replicate, List.size_toArray]
    refine RepL_append R ?_
    rw [RepL_length R]
    have : ∀ n, RepL c (List.replicate n (D.v undef)) (List.replicate n undef) := by
     intro n
     induction n with
     | zero => simp [RepL]
     | succ n ih =>
       simp only [List.replicate_succ, RepL]
       exact ⟨_, _, rfl, undef_rep c, ih⟩
    exact this _
def FuncOk (P : Program) (f : FuncId) : Prop := ∃ fn, P.funcs[f]? = some fn ∧ (fn.name == "runtime.NumGoroutine") = false ∧ fn.body.isNone = false
theorem run_enter {P : Program} {o : Oper} {a : Act} {cl : Call} {f : Operand} {fn : FuncId} {us vs : Array Value} {w : World} (h1 : o.op = .call cl) (h2 : cl.callee = .value f) (h3 : a.eval f = .func (.func fn) us vs) (hf : FuncOk P fn) :
 (execOp a.eval o).run P w = .ok (.enter fn (us ++ cl.args.map a.eval ++ vs)) w := by
 obtain ⟨g, g1, g2, g3⟩ := hf
 have hc : (callFunc fn (us ++ cl.args.map a.eval ++ vs)).run P w = .ok (.enter fn (us ++ cl.args.map a.eval ++ vs)) w := by
  unfold callFunc
  have n1 : ¬ g.name = "runtime.NumGoroutine" := by simpa using g2
  have n2 : ¬ g.body = none := by
   intro e; rw [e] at g3; cases g3
  simp [g1, n1, n2]
 unfold execOp
 simp only [h1, resolve, h2, Deferred.ofValue, h3, invoke]
 simpa using hc
theorem nBoxes_app : ∀ {bs acc : List Blk}, (∀ x ∈ bs, isLst x = false) → (∀ x ∈ acc, isLst x = true) → nBoxes (bs ++ acc) = bs.length
 | [], [], _, _ => rfl
 | [], x :: acc, _, h => by
   simp only [List.nil_append, nBoxes, h x (by simp), List.length_nil]
 | x :: bs, acc, h1, h2 => by
   simp only [List.cons_append, nBoxes, h1 x (by simp), List.length_cons]
   rw [nBoxes_app (fun y hy => h1 y (by simp [hy])) h2]
def Sl (hp hp' : List Blk) : Prop := ∀ j e t l ver s, getB hp j = .lst e t l ver s → ∃ s', getB hp' j = .lst e t l ver s'
theorem fixD_out {blks : List Blk} {c : Cx} (H : HRep c) (hs : Sl blks c.hp) {d d' : D} {u : Value} (h : fixD blks d = some d') (hd : Rep c d u) :
 ∃ c', c'.w = c.w ∧ HRep c' ∧ Stp c c' ∧ Sl blks c'.hp ∧ Rep c' d' u ∧ below 0 d' = true := by
 unfold fixD at h
 split at h
 ·rename_i j ver
  split at h
  ·rename_i e t l ver' s hg
   split at h
   ·rename_i hv
    subst hv
    cases h
    obtain ⟨s', hg'⟩ := hs _ _ _ _ _ _ hg
    simp only [Rep] at hd
    obtain ⟨h1, _, h3⟩ := hd
    rw [hg'] at h3
    obtain ⟨c', e1, e2, e3, H', S', R'⟩ := seal_lst H hg' h1
    refine ⟨c', e1, H', S', fun j' e' t' l' ver'' s'' hj => ?_, by rw [h3.2 rfl]; exact R', rfl⟩
    rw [e2, getB_set _ h1]
    by_cases hjj : j' = j
    ·subst hjj
     rw [hg] at hj
     cases hj
     exact ⟨true, if_pos rfl⟩
    ·rw [if_neg hjj]; exact hs _ _ _ _ _ _ hj
   ·cases h
  ·cases h
 ·split at h
  ·rename_i hb
   cases h
   exact ⟨c, rfl, H, Stp.refl c, hs, hd, hb⟩
  ·cases h
theorem fixAll_out {blks : List Blk} : ∀ {ds ds' : List D} {c : Cx} {us : List Value}, HRep c → Sl blks c.hp → fixAll blks ds = some ds' → RepL c ds us →
 ∃ c', c'.w = c.w ∧ HRep c' ∧ Stp c c' ∧ RepL c' ds' us ∧ ds'.all (below 0) = true
 | [], ds', c, us, H, hs, h, hr => by
   cases h
   exact ⟨c, rfl, H, Stp.refl c, hr, rfl⟩
 | d :: r, ds', c, us, H, hs, h, hr => by
   simp only [RepL] at hr
   obtain ⟨u, us', rfl, hd, hr⟩ := hr
   simp only [fixAll] at h
   split at h
   ·rename_i d1 h1
    split at h
    ·rename_i r1 h2
     cases h
     obtain ⟨c1, e1, H1, S1, s1, R1, b1⟩ := fixD_out H hs h1 hd
     obtain ⟨c2, e2, H2, S2, R2, b2⟩ := fixAll_out H1 s1 h2 (hr.mono S1.le)
     refine ⟨c2, e2.trans e1, H2, S1.trans S2, ?_, by simp only [List.all_cons, Bool.and_eq_true]; exact ⟨b1, b2⟩⟩
     simp only [RepL]
     exact ⟨u, us', rfl, R1.mono S2.le, R2⟩
    ·cases h
   ·cases h
theorem fixR_out {c : Cx} (H : HRep c) {d d' : D} {u : Value} (h : fixR c.hp d = some d') (hd : Rep c d u) :
 ∃ c', c'.w = c.w ∧ HRep c' ∧ Stp c c' ∧ ∀ c2 : Cx, Low 0 c' c2 → Rep c2 d' u := by
 have hs : Sl c.hp c.hp := fun _ _ _ _ _ s h => ⟨s, h⟩
 unfold fixR at h
 split at h
 ·rename_i ds
  split at h
  ·rename_i ds' h1
   cases h
   simp only [Rep] at hd
   obtain ⟨us, rfl, hd⟩ := hd
   obtain ⟨c', e1, H', S', R', b'⟩ := fixAll_out H hs h1 hd
   refine ⟨c', e1, H', S', fun c2 L => ?_⟩
   simp only [Rep]
   exact ⟨us, rfl, Low.list (n := 0) (fun g1 g2 => L.below g1 g2) b' R'⟩
  ·cases h
 ·obtain ⟨c', e1, H', S', _, R', b'⟩ := fixD_out H hs h hd
  exact ⟨c', e1, H', S', fun c2 L => L.below b' R'⟩
theorem frzQ_rep {c cc : Cx} (H : HRep c) (L : Low 0 c cc) {d d' : D} {u : Value} (h : frzQ c.hp d = some d') (hd : Rep c d u) : Rep cc d' u ∧ below 0 d' = true := by
 unfold frzQ at h
 split at h
 ·cases h; exact ⟨L.below rfl hd, rfl⟩
 ·cases h; exact ⟨L.below rfl hd, rfl⟩
 ·cases h; exact ⟨L.below rfl hd, rfl⟩
 ·cases h; exact ⟨L.below rfl hd, rfl⟩
 ·split at h
  ·rename_i hb
   cases h
   exact ⟨L.below hb hd, hb⟩
  ·cases h
 ·rename_i b ver
  split at h
  ·rename_i e t l ver' hg
   split at h
   ·rename_i hv
    subst hv
    cases h
    simp only [Rep] at hd
    obtain ⟨h1, _, h3⟩ := hd
    rw [hg] at h3
    have hB := H.blk b h1
    rw [hg] at hB
    have := lst_fz hB
    rw [← h3.2 rfl] at this
    exact ⟨L.below rfl this, rfl⟩
   ·cases h
  ·cases h
 ·cases h
theorem frzQs_rep {c cc : Cx} (H : HRep c) (L : Low 0 c cc) : ∀ {ds ds' : List D} {us : List Value}, frzQs c.hp ds = some ds' → RepL c ds us → RepL cc ds' us
 | [], ds', us, h, hr => by
   cases h
   simp only [RepL] at hr ⊢
   exact hr
 | d :: r, ds', us, h, hr => by
   simp only [RepL] at hr
   obtain ⟨u, us', rfl, hd, hr⟩ := hr
   simp only [frzQs] at h
   split at h
   ·rename_i d1 h1
    split at h
    ·rename_i r1 h2
     cases h
     simp only [RepL]
     exact ⟨u, us', rfl, (frzQ_rep H L h1 hd).1, frzQs_rep H L h2 hr⟩
    ·cases h
   ·cases h
theorem argsQ_rep {c cc : Cx} (H : HRep c) (L : Low 0 c cc) : ∀ {ds ds' : List D} {us : List Value}, argsQ c.hp ds = some ds' → RepL c ds us → RepL cc ds' us
 | [], ds', us, h, hr => by
   cases h
   simp only [RepL] at hr ⊢
   exact hr
 | d :: r, ds', us, h, hr => by
   simp only [RepL] at hr
   obtain ⟨u, us', rfl, hd, hr⟩ := hr
   simp only [argsQ] at h
   split at h
   ·rename_i d1 h1
    split at h
    ·rename_i r1 h2
     cases h
     simp only [RepL]
     refine ⟨u, us', rfl, ?_, argsQ_rep H L h2 hr⟩
     unfold argQ at h1
     split at h1
     ·split at h1
      ·rename_i cs cs' h3
       cases h1
       simp only [Rep] at hd ⊢
       obtain ⟨us, rfl, hd⟩ := hd
       exact ⟨us, rfl, frzQs_rep H L h3 hd⟩
      ·cases h1
     ·split at h1
      ·rename_i fs' h3
       split at h1
       ·rename_i cs' h4
        cases h1
        simp only [Rep] at hd ⊢
        obtain ⟨us, vs, rfl, hd, hd'⟩ := hd
        exact ⟨us, vs, rfl, frzQs_rep H L h3 hd, frzQs_rep H L h4 hd'⟩
       ·cases h1
      ·cases h1
     ·exact (frzQ_rep H L h1 hd).1
    ·cases h
   ·cases h
theorem callOk {cfg : Cfg} (hS : ∀ f en, cfg.E f = some en → SoundF cfg.P cfg.tf cfg.tw f en ∧ FuncOk cfg.P f) (q : Bool) : CallOk cfg q := by
 intro c o a cl st K KP f fn first caps h1 h2 h3 hT R hhp H h
 have hv := opd_rep R f
 rw [h3] at hv
 simp only [Rep] at hv
 obtain ⟨us, vs, hv, r1, r2⟩ := hv
 have RA := RepL_append (RepL_append r1 (opds_rep R cl.args.toList)) r2
 unfold callW at h
 cases he : cfg.E fn with
 | none => rw [he] at h; exact h.elim
 | some en =>
   rw [he] at h
   obtain ⟨hs, hfo⟩ := hS fn en he
   have hrun := run_enter (w := c.w) h1 h2 hv hfo
   have go : ∀ {Rp : Ending → World → Prop}, Calls cfg.P fn ((us ++ cl.args.toList.map a.eval ++ vs).toArray) c.w Rp →
    (∀ v w', Rp (.returned v) w' → NextO q c o a K (a.put o.dst v) w') → (∀ ch w', Rp (.panicked ch) w' → PanO c a KP (.panic ch) a w') → (∀ w', ¬ Rp .outgrown w') → o.wp cfg.P a c.w (NextO q c o a K) (PanO c a KP) := by
    intro Rp hc g1 g2 g3
    unfold Oper.wp
    rw [hrun, Oper.upon_enter]
    rw [show (us ++ cl.args.toList.map a.eval ++ vs).toArray = us.toArray ++ cl.args.map a.eval ++ vs.toArray by
     apply Array.ext'
     simp] at hc
    refine hc.mono fun e w' he => ?_
    cases e with
    | returned v => exact g1 v w' he
    | panicked ch => exact g2 ch w' he
    | outgrown => exact (g3 w' he).elim
   cases q with
   | true =>
     simp only at h
     split at h
     ·exact h.elim
     ·rename_i args' ha
      let cc : Cx := { c with hp := [], cv := fun _ => undef }
      have L : Low 0 c cc := ⟨rfl, rfl, rfl, rfl, Nat.zero_le _, fun b hb => by omega, fun b hb => by omega⟩
      rw [← hhp] at ha h
      have Hc : HRep cc := ⟨fun b hb => by simp [cc] at hb, fun b b' B hb => by simp [cc] at hb, H.frin⟩
      refine go (hs cc args' _ _ _ hT (argsQ_rep H L ha RA) Hc h) ?_ ?_ ?_
      ·rintro v w' ⟨d, c', rfl, hk, hd, H', I'⟩
       split at hk
       ·rename_i d' hf
        obtain ⟨c2, e2, H2, S2, hL⟩ := fixR_out H' hf hd
        have I2 := I'.step S2
        let c3 : Cx := { c2 with hp := c.hp, cv := c.cv }
        have noown : ∀ i, ¬ Own cc i := by
         rintro i ⟨b, hb, _⟩
         simp [cc] at hb
        have hkeep : ∀ i, i < c.w.heap.size → c2.w.heap[i]? = c.w.heap[i]? := fun i hi => I2.keep i hi (noown i)
        have hle : HpLe c c3 := ⟨Nat.le_refl _, fun b hb => BLe.refl _ _, I2.ext, I2.tf, I2.tw⟩
        have hfr : ∀ x, c2.fr x → c.fr x ∨ c.w.heap.size ≤ x.block := by
         intro x hx
         rcases I2.frnew x hx with g | g | g
         ·exact .inl g
         ·exact .inr g
         ·exact (noown _ g).elim
        have H3 : HRep c3 := by
         refine ⟨fun b hb => ?_, H.apart, H2.frin⟩
         have hB := H.blk b hb
         show BRep c3 b (getB c.hp b)
         cases hlv : live (getB c.hp b) with
         | false =>
           revert hlv
           cases getB c.hp b <;> simp [live]
           trivial
         | true =>
           exact hB.keep hle rfl (fun B hBB => hkeep B (BRep.lt hBB hlv hB)) (fun x B hBB hx hf => (hfr x hf).resolve_right (by
            have := BRep.lt hBB hlv hB
            omega))
        refine ⟨v, rfl, d', c3, e2, hk, hL c3 ⟨rfl, rfl, rfl, rfl, Nat.zero_le _, fun b hb => by omega, fun b hb => by omega⟩, H3, ⟨hle, I2.os, I2.tape, I2.output, I2.size, fun i hi _ => hkeep i hi, fun i hi => .inr hi, fun x hx => (hfr x hx).imp id .inl⟩, fun _ => ⟨rfl, fun _ _ => rfl, hkeep⟩⟩
       ·exact hk.elim
      ·rintro ch w' ⟨_, _, _, _, _, hk, _⟩
       exact hk.elim
      ·exact fun w' h => h
   | false =>
     simp only at h
     split at h
     ·exact h.elim
     ·rename_i args' hp1 ids ha
      split at h
      ·exact h.elim
      ·rename_i bs hp2 acc hli
       rw [← hhp] at ha
       obtain ⟨c1, ds1, e1, e2, H1, S1, R1, n1, _, nd⟩ := argsD_out H ha RA
       have hnd := nd List.nodup_nil
       rw [← e2] at hli
       obtain ⟨ss, C, _, _, hl, hb⟩ := lifts_sound H1 (Coll.start c1) hli
       have In := over2_into (ids := ids) (bs := bs) C hl
       have Mv := over2_moved (c := c1) (ids := ids) (ss := ss) (acc := acc) hl (lifts_lst hli)
       have hb' := hb _ In Mv
       obtain ⟨Hc, Ow, Fr⟩ := over2_rep H1 C hl hnd hb'
       have hat : ∀ (j : Nat) b, ids[j]? = some b → j < (over2 c1 ids ss bs acc).hp.length ∧ isLst (getB (over2 c1 ids ss bs acc).hp j) = false ∧ (over2 c1 ids ss bs acc).cv j = c1.cv b := by
        intro j b hj
        have hlt := (List.getElem?_eq_some_iff.1 hj).1
        have hlen : j < (over2 c1 ids ss bs acc).hp.length := by
         show j < (bs ++ acc).length
         rw [List.length_append, hl]; omega
        rcases Fr j hlen with ⟨_, b', g1, g2, _, _, _, g3⟩ | ⟨g, _⟩
        ·rw [hj] at g1; cases g1
         exact ⟨hlen, g3, g2⟩
        ·omega
       have hR : RepL (over2 c1 ids ss bs acc) args' _ := All2.rep (c := c1) (c2 := over2 c1 ids ss bs acc) (fun _ _ _ n g => Rn.rep (c := c1) (c2 := over2 c1 ids ss bs acc) rfl rfl rfl rfl hat n g) n1 R1
       have hnb : nBoxes (bs ++ acc) = ids.length := by
        rw [nBoxes_app, hl]
        ·intro x hx
         obtain ⟨i, hi, e⟩ := List.getElem_of_mem hx
         have hid : ids[i]? = some ids[i] := by simp [show i < ids.length by omega]
         exact (hb' i _ x hid (by rw [← e]; simp [hi]) i (over2_cv hid)).lst
        ·intro x hx
         obtain ⟨i, hi, e⟩ := List.getElem_of_mem hx
         have hss : ss[i]? = some (ss[i]'(by rw [← C.len]; exact hi)) := by simp [show i < ss.length by rw [← C.len]; exact hi]
         obtain ⟨_, _, _, _, _, _, g⟩ := C.blk i _ hss
         rw [List.getElem?_eq_getElem hi, e] at g
         cases g
         rfl
       have hcall := hs (over2 c1 ids ss bs acc) args' _ _ _ (hT.step S1.le.tf S1.le.tw S1.le.ext) hR Hc h
       rw [show (over2 c1 ids ss bs acc).w = c.w from e1] at hcall
       refine go hcall ?_ ?_ ?_
       ·rintro v w' ⟨d, cc, rfl, hk, hd, H', I'⟩
        rw [show (over2 c1 ids ss bs acc).hp = bs ++ acc from rfl, hnb] at I'
        obtain ⟨H3, S3, R3⟩ := back_rep H1 C hl hnd hb' H' I'
        exact ⟨v, rfl, _, back c1 cc hp2 ids, rfl, hk, R3 hd, H3, S1.trans S3, fun e => by cases e⟩
       ·rintro ch w' ⟨d, p, cc, rfl, rfl, hk, hd, H', I'⟩
        rw [show (over2 c1 ids ss bs acc).hp = bs ++ acc from rfl, hnb] at I'
        obtain ⟨H3, S3, R3⟩ := back_rep H1 C hl hnd hb' H' I'
        exact ⟨rfl, p, rfl, _, back c1 cc hp2 ids, rfl, hk, R3 hd, H3, S1.trans S3, fun e => by cases e⟩
       ·exact fun w' h => h
def OneX (F : (Ex → St → Prop) → Prop) : Prop := ∀ K, F K → ∃ e st, K e st ∧ ∀ K', K' e st → F K'
theorem canonW_one (k : Option Canon) (st : St) : One (canonW k st) := by
 intro K h
 unfold canonW at h ⊢
 cases k with
 | none => exact ⟨st, h, fun K' h => h⟩
 | some k =>
   simp only at h ⊢
   split at h
   ·unfold canonGo at h ⊢
    split at h
    ·split at h
     ·exact ⟨_, h, fun K' h' => h'⟩
     ·exact h.elim
    ·exact h.elim
   ·exact h.elim
theorem codeW_one {cfg : Cfg} (hD : DetOk cfg) : ∀ (x : Code) (st : St), OneX (fun K => codeW cfg x K st)
 | .skip, st => fun K h => ⟨_, _, h, fun _ h => h⟩
 | .label _, st => fun K h => ⟨_, _, h, fun _ h => h⟩
 | .region _ ops draw, st => by
   intro K h
   show ∃ e st', _
   have h : regionW cfg ops draw st (K .normal) (fun d st' => K (.panic d) st') := h
   have main : (∃ st', K .normal st' ∧ ∀ K' : Ex → St → Prop, K' .normal st' → regionW cfg ops draw st (K' .normal) (fun d st' => K' (.panic d) st')) ∨
    (∃ d st', K (.panic d) st' ∧ ∀ K' : Ex → St → Prop, K' (.panic d) st' → regionW cfg ops draw st (K' .normal) (fun d st' => K' (.panic d) st')) := by
    unfold regionW at h ⊢
    cases draw with
    | false =>
      simp only at h ⊢
      rcases opsW_two hD false ops _ st _ _ h with ⟨st', h1, _, _, h2⟩ | ⟨_, d, st', h1, _, h2⟩
      ·exact .inl ⟨st', h1, fun K' h' => h2 _ _ h'⟩
      ·exact .inr ⟨d, st', h1, fun K' h' => h2 _ _ h'⟩
    | true =>
      simp only at h ⊢
      split at h
      ·cases ho : ordOk ops with
       | false => rw [ho] at h; exact h.elim
       | true =>
         rw [ho] at h
         simp only at h ⊢
         obtain ⟨st', h1, _, h2⟩ := opsD_two hD ops _ _ _ _ h
         exact .inl ⟨st', h1, fun K' h' => h2 _ h'⟩
      ·rename_i hno
       cases ho : ordOkE cfg ops && pdOk cfg ops with
       | false => rw [ho] at h; exact h.elim
       | true =>
         rw [ho] at h
         simp only at h ⊢
         rcases opsP_two hD ops _ _ _ _ _ _ _ h with ⟨st', h1, _, h2⟩ | ⟨d, st', h1, _, h2⟩
         ·exact .inl ⟨st', h1, fun K' h' => h2 _ _ h'⟩
         ·exact .inr ⟨d, st', h1, fun K' h' => h2 _ _ h'⟩
   rcases main with ⟨st', h1, h2⟩ | ⟨d, st', h1, h2⟩
   ·exact ⟨_, st', h1, fun K' h' => h2 K' h'⟩
   ·exact ⟨_, st', h1, fun K' h' => h2 K' h'⟩
 | .seq a b, st => by
   intro K h
   obtain ⟨e, st1, h1, h2⟩ := codeW_one hD a st _ h
   cases e with
   | normal =>
     obtain ⟨st2, g1, g2⟩ := canonW_one _ _ _ h1
     obtain ⟨e, st3, k1, k2⟩ := codeW_one hD b st2 _ g1
     exact ⟨e, st3, k1, fun K' h' => h2 _ (g2 _ (k2 _ h'))⟩
   | exit id => exact ⟨_, st1, h1, fun K' h' => h2 _ h'⟩
   | ret => exact ⟨_, st1, h1, fun K' h' => h2 _ h'⟩
   | panic d => exact ⟨_, st1, h1, fun K' h' => h2 _ h'⟩
   | goto l => exact ⟨_, st1, h1, fun K' h' => h2 _ h'⟩
 | .cond o a b, st => by
   intro K h
   unfold codeW at h
   split at h
   ·rename_i t ho
    cases t with
    | true =>
      obtain ⟨e, st1, h1, h2⟩ := codeW_one hD a st K h
      exact ⟨e, st1, h1, fun K' h' => by unfold codeW; rw [ho]; exact h2 K' h'⟩
    | false =>
      obtain ⟨e, st1, h1, h2⟩ := codeW_one hD b st K h
      exact ⟨e, st1, h1, fun K' h' => by unfold codeW; rw [ho]; exact h2 K' h'⟩
   ·exact h.elim
 | .block id b, st => by
   intro K h
   obtain ⟨e, st1, h1, h2⟩ := codeW_one hD b st _ h
   cases e with
   | exit id' =>
     cases hb : Nat.beq id' id with
     | true =>
       simp only [hb] at h1
       exact ⟨_, st1, h1, fun K' h' => h2 _ (by simp only [hb]; exact h')⟩
     | false =>
       simp only [hb] at h1
       exact ⟨_, st1, h1, fun K' h' => h2 _ (by simp only [hb]; exact h')⟩
   | normal => exact ⟨_, st1, h1, fun K' h' => h2 _ h'⟩
   | ret => exact ⟨_, st1, h1, fun K' h' => h2 _ h'⟩
   | panic d => exact ⟨_, st1, h1, fun K' h' => h2 _ h'⟩
   | goto l => exact ⟨_, st1, h1, fun K' h' => h2 _ h'⟩
 | .loop x, st => by
   intro K h
   have key : ∀ n (st : St), OneX (fun K => loopN (fun again => codeW cfg x (fun e st' => match e with
    | .normal => canonW (cfg.atLoop (firstReg x)) st' again
    | e => K e st')) n st) := by
    intro n
    induction n with
    | zero => intro st K h; exact h.elim
    | succ n ih =>
      intro st K h
      obtain ⟨e, st1, h1, h2⟩ := codeW_one hD x st _ h
      cases e with
      | normal =>
        obtain ⟨st2, g1, g2⟩ := canonW_one _ _ _ h1
        obtain ⟨e, st3, k1, k2⟩ := ih st2 _ g1
        exact ⟨e, st3, k1, fun K' h' => h2 _ (g2 _ (k2 _ h'))⟩
      | exit id => exact ⟨_, st1, h1, fun K' h' => h2 _ h'⟩
      | ret => exact ⟨_, st1, h1, fun K' h' => h2 _ h'⟩
      | panic d => exact ⟨_, st1, h1, fun K' h' => h2 _ h'⟩
      | goto l => exact ⟨_, st1, h1, fun K' h' => h2 _ h'⟩
   have h : canonW (cfg.atLoop (firstReg x)) st _ := h
   obtain ⟨st1, ⟨n, hn⟩, h2⟩ := canonW_one _ _ _ h
   obtain ⟨e, st3, k1, k2⟩ := key n st1 _ hn
   exact ⟨e, st3, k1, fun K' h' => h2 _ ⟨n, k2 _ h'⟩⟩
 | .exit id, st => by
   intro K h
   obtain ⟨st1, h1, h2⟩ := canonW_one _ _ _ h
   exact ⟨_, st1, h1, fun K' h' => h2 _ h'⟩
 | .ret, st => fun K h => ⟨_, _, h, fun _ h => h⟩
 | .rangeFunc _ _ _ _, st => fun K h => h.elim
 | .scope b, st => by
   intro K h
   obtain ⟨e, st1, h1, h2⟩ := codeW_one hD b st _ h
   cases e with
   | goto l => exact h1.elim
   | normal => exact ⟨_, st1, h1, fun K' h' => h2 _ h'⟩
   | exit id => exact ⟨_, st1, h1, fun K' h' => h2 _ h'⟩
   | ret => exact ⟨_, st1, h1, fun K' h' => h2 _ h'⟩
   | panic d => exact ⟨_, st1, h1, fun K' h' => h2 _ h'⟩
 | .goto l, st => fun K h => ⟨_, _, h, fun _ h => h⟩
 | .refuse _, st => fun K h => h.elim
theorem goW_one {ms : List Mode} {st : St} {ds : List D} {k : List D → List Blk → Prop} (h : goW ms st ds k) : ∃ ds' bs, k ds' bs ∧ ∀ k' : List D → List Blk → Prop, k' ds' bs → goW ms st ds k' := by
 unfold goW at h ⊢
 split at h
 ·rename_i ds1 hp1 h1
  split at h
  ·rename_i bs hp' acc h2
   split at h
   ·rename_i ds' hp3 acc' h3
    refine ⟨_, _, h, fun k' h' => ?_⟩
    exact h'
   ·exact h.elim
  ·exact h.elim
 ·exact h.elim
theorem resultsW_one (P : Program) (st : St) : ∀ (rs : List ResultVar), One (resultsW P st rs)
 | [] => fun K h => ⟨_, h, fun _ h => h⟩
 | .tmp t :: r => fun K h => by
   obtain ⟨ds, h1, h2⟩ := resultsW_one P st r _ h
   exact ⟨_, h1, fun K' h' => h2 _ h'⟩
 | .cell t ty :: r => fun K h => by
   obtain ⟨d, h1, h2⟩ := loadW_one P st.hp ty _ _ h
   obtain ⟨ds, h3, h4⟩ := resultsW_one P st r _ h1
   exact ⟨_, h3, fun K' h' => h2 _ (h4 _ h')⟩
theorem funW_det {cfg : Cfg} (hD : DetOk cfg) (fn : Func) : DetE (funW cfg fn) := by
 intro args blks k kp h
 unfold funW at h ⊢
 cases hb : fn.body with
 | none => rw [hb] at h; exact h.elim
 | some code =>
   rw [hb] at h
   simp only at h ⊢
   obtain ⟨e, st, h1, h2⟩ := codeW_one hD code _ _ h
   have ret : ∀ {st : St}, retW cfg fn k st → ∃ d b, k d b ∧ ∀ k' : D → List Blk → Prop, k' d b → retW cfg fn k' st := by
    intro st h1
    unfold retW at h1 ⊢
    obtain ⟨ds, h1, hr⟩ := resultsW_one cfg.P st _ _ h1
    obtain ⟨ds', bs, g1, g2⟩ := goW_one h1
    exact ⟨_, _, g1, fun k' h' => hr _ (g2 _ h')⟩
   cases e with
   | normal =>
     obtain ⟨d, b, g1, g2⟩ := ret h1
     exact .inl ⟨d, b, g1, fun k' kp' h' => h2 _ (g2 _ h')⟩
   | ret =>
     obtain ⟨d, b, g1, g2⟩ := ret h1
     exact .inl ⟨d, b, g1, fun k' kp' h' => h2 _ (g2 _ h')⟩
   | panic d =>
     have h1 : panW kp d st := h1
     unfold panW at h1
     split at h1
     ·exact .inr ⟨_, _, h1, fun k' kp' h' => h2 _ h'⟩
     ·exact .inr ⟨_, _, h1, fun k' kp' h' => h2 _ h'⟩
     ·exact h1.elim
   | exit id => exact h1.elim
   | goto l => exact h1.elim
structure EntOk (P : Program) (tf tw : TypeId) (f : FuncId) (en : Entry) : Prop where
 det : DetE en
 sound : SoundF P tf tw f en
 body : FuncOk P f
theorem funW_ok {cfg : Cfg} (hty : TyOk cfg) (heq : EqOk cfg) (hm : cfg.P.follows .mixedOrders = true) (hE : ∀ f en, cfg.E f = some en → EntOk cfg.P cfg.tf cfg.tw f en) {f : FuncId} {fn : Func}
 (hf : cfg.P.funcs[f]? = some fn) (hn : (fn.name == "runtime.NumGoroutine") = false) (hb : fn.body.isNone = false) : EntOk cfg.P cfg.tf cfg.tw f (funW cfg fn) := by
 have hD : DetOk cfg := fun f en h => (hE f en h).det
 exact ⟨funW_det hD fn, funW_sound ⟨hty, heq, callOk fun f en h => ⟨(hE f en h).sound, (hE f en h).body⟩, hm⟩ hD hf, fn, hf, hn, hb⟩
def sub : List Nat → Code → Code
 | [], c => c
 | i :: p, .seq a b => match i with
   | 0 => sub p a
   | _ => sub p b
 | i :: p, .cond _ a b => match i with
   | 0 => sub p a
   | _ => sub p b
 | _ :: p, .block _ b => sub p b
 | _ :: p, .loop b => sub p b
 | _ :: p, .scope b => sub p b
 | _ :: _, c => c
def bodyOf (fn : Func) : Code := fn.body.getD .skip
def mkT : Nat → Nat → List (Nat × D) → List D
 | 0, _, _ => []
 | n + 1, i, (s, d) :: r => match Nat.beq s i with
   | true => d :: mkT n (i + 1) r
   | false => .bad :: mkT n (i + 1) ((s, d) :: r)
 | n + 1, i, [] => .bad :: mkT n (i + 1) []
def tab {α : Type} : List (Nat × α) → Nat → Option α
 | [], _ => none
 | (i, x) :: r, j => match Nat.beq i j with
   | true => some x
   | false => tab r j
theorem tab_mem {α : Type} : ∀ {l : List (Nat × α)} {j : Nat} {x : α}, tab l j = some x → (j, x) ∈ l
 | [], j, x, h => by cases h
 | (i, y) :: r, j, x, h => by
   unfold tab at h
   split at h
   ·rename_i e
    cases h
    rw [Nat.eq_of_beq_eq_true e]
    exact List.mem_cons_self
   ·exact List.mem_cons_of_mem _ (tab_mem h)
def loopS {σ : Type} (L : (σ → Prop) → σ → Prop) : Nat → σ → Prop
 | 0, _ => False
 | n + 1, s => L (loopS L n) s
def loopB (cfg : Cfg) (b : Code) (K : Ex → St → Prop) (again : St → Prop) : St → Prop := codeW cfg b (loopK cfg b again K)
theorem loop_eq {σ : Type} {body : (St → Prop) → St → Prop} {mk : σ → St} {L : (σ → Prop) → σ → Prop} (h : ∀ (again : St → Prop) s, body again (mk s) = L (fun s => again (mk s)) s) (s : σ) :
 (∃ n, loopN body n (mk s)) = ∃ n, loopS L n s := by
 have key : ∀ n s, loopN body n (mk s) = loopS L n s := by
  intro n
  induction n with
  | zero => intro s; rfl
  | succ n ih =>
    intro s
    show body (loopN body n) (mk s) = L (loopS L n) s
    rw [h]
    exact congrArg (fun g => L g s) (funext ih)
 exact congrArg Exists (funext fun n => key n s)
theorem loopS_of {σ : Type} {L : (σ → Prop) → σ → Prop} (I : σ → Prop) (μ : σ → Nat) (h : ∀ again s, I s → (∀ s', I s' → μ s' < μ s → again s') → L again s) {s : σ} (hs : I s) : ∃ n, loopS L n s := by
 have key : ∀ n s, I s → μ s < n → loopS L n s := by
  intro n
  induction n with
  | zero => intro s _ hm; omega
  | succ n ih =>
    intro s hI hm
    exact h _ s hI fun s' hI' hlt => ih s' hI' (by omega)
 exact ⟨μ s + 1, key _ s hs (Nat.lt_succ_self _)⟩
def aInt (k : IntKind) (d : D) (f : Int → Prop) : Prop := match d with
 | .v (.int k' x) => match k' == k with
   | true => f x
   | false => False
 | _ => False
def aBool (d : D) (f : Bool → Prop) : Prop := match d with
 | .v (.bool x) => f x
 | _ => False
def aStr (d : D) (f : ByteArray → Prop) : Prop := match d with
 | .v (.string x) => f x
 | _ => False
def aFz (t : Ty) (d : D) (f : List t.den → Prop) : Prop := match d with
 | .fz t' l => if h : t' = t then f (h ▸ l) else False
 | _ => False
theorem aInt_elim {k : IntKind} {d : D} {f : Int → Prop} (h : aInt k d f) : ∃ x, d = .v (.int k x) ∧ f x := by
 unfold aInt at h
 split at h
 ·split at h
  ·rename_i e
   exact ⟨_, by rw [eq_of_beq e], h⟩
  ·exact h.elim
 ·exact h.elim
theorem aBool_elim {d : D} {f : Bool → Prop} (h : aBool d f) : ∃ x, d = .v (.bool x) ∧ f x := by
 unfold aBool at h
 split at h
 ·exact ⟨_, rfl, h⟩
 ·exact h.elim
theorem aStr_elim {d : D} {f : ByteArray → Prop} (h : aStr d f) : ∃ x, d = .v (.string x) ∧ f x := by
 unfold aStr at h
 split at h
 ·exact ⟨_, rfl, h⟩
 ·exact h.elim
theorem aFz_elim {t : Ty} {d : D} {f : List t.den → Prop} (h : aFz t d f) : ∃ l, d = .fz t l ∧ f l := by
 unfold aFz at h
 split at h
 ·split at h
  ·rename_i e
   subst e
   exact ⟨_, rfl, h⟩
  ·exact h.elim
 ·exact h.elim
def aEr (d : D) (f : Err → Prop) : Prop := match d with
 | .er e => f e
 | _ => False
def aNilS (d : D) (p : Prop) : Prop := match d with
 | .v (.slice none 0 0) => p
 | _ => False
def aPtr (j o : Nat) (d : D) (p : Prop) : Prop := match d with
 | .ptr j' o' => match Nat.beq j' j && Nat.beq o' o with
   | true => p
   | false => False
 | _ => False
def aAgg (n : Nat) (d : D) (f : List D → Prop) : Prop := match d with
 | .agg cs => match Nat.beq cs.length n with
   | true => f cs
   | false => False
 | _ => False
def aBox (ty : TypeId) (b : Blk) (f : List D → Prop) : Prop := match b with
 | .box ty' cs => match Nat.beq ty' ty with
   | true => f cs
   | false => False
 | _ => False
def aCons (l : List D) (f : D → List D → Prop) : Prop := match l with
 | d :: r => f d r
 | [] => False
def aNil (l : List D) (p : Prop) : Prop := match l with
 | [] => p
 | _ :: _ => False
theorem aCons_elim {l : List D} {f : D → List D → Prop} (h : aCons l f) : ∃ d r, l = d :: r ∧ f d r := by
 unfold aCons at h
 split at h
 ·exact ⟨_, _, rfl, h⟩
 ·exact h.elim
theorem aNil_elim {l : List D} {p : Prop} (h : aNil l p) : l = [] ∧ p := by
 unfold aNil at h
 split at h
 ·exact ⟨rfl, h⟩
 ·exact h.elim
theorem aEr_elim {d : D} {f : Err → Prop} (h : aEr d f) : ∃ e, d = .er e ∧ f e := by
 unfold aEr at h
 split at h
 ·exact ⟨_, rfl, h⟩
 ·exact h.elim
theorem aNilS_elim {d : D} {p : Prop} (h : aNilS d p) : d = .v (.slice none 0 0) ∧ p := by
 unfold aNilS at h
 split at h
 ·exact ⟨rfl, h⟩
 ·exact h.elim
theorem aPtr_elim {j o : Nat} {d : D} {p : Prop} (h : aPtr j o d p) : d = .ptr j o ∧ p := by
 unfold aPtr at h
 split at h
 ·split at h
  ·rename_i e
   simp only [Bool.and_eq_true] at e
   exact ⟨by rw [Nat.eq_of_beq_eq_true e.1, Nat.eq_of_beq_eq_true e.2], h⟩
  ·exact h.elim
 ·exact h.elim
theorem aAgg_elim {n : Nat} {d : D} {f : List D → Prop} (h : aAgg n d f) : ∃ cs, d = .agg cs ∧ f cs := by
 unfold aAgg at h
 split at h
 ·split at h
  ·exact ⟨_, rfl, h⟩
  ·exact h.elim
 ·exact h.elim
theorem aBox_elim {ty : TypeId} {b : Blk} {f : List D → Prop} (h : aBox ty b f) : ∃ cs, b = .box ty cs ∧ f cs := by
 unfold aBox at h
 split at h
 ·split at h
  ·rename_i e
   exact ⟨_, by rw [Nat.eq_of_beq_eq_true e], h⟩
  ·exact h.elim
 ·exact h.elim
def andI (k : IntKind) (a b : Int) : Int := k.wrap (BitVec.ofInt k.bits a &&& BitVec.ofInt k.bits b).toNat
def orI (k : IntKind) (a b : Int) : Int := k.wrap (BitVec.ofInt k.bits a ||| BitVec.ofInt k.bits b).toNat
def xorI (k : IntKind) (a b : Int) : Int := k.wrap (BitVec.ofInt k.bits a ^^^ BitVec.ofInt k.bits b).toNat
def tyRight (P : Program) (p : Nat × Ty) : Bool := match P.info? p.1 with
 | some i => Nat.beq i.size p.2.size && Nat.blt 0 p.2.size && (match i.zero with
   | some z => Nat.beq z.cells.size p.2.size
   | none => false)
 | none => false
theorem tyOk_of {P : Program} {cfg : Cfg} {l : List (Nat × Ty)} (hP : cfg.P = P) (ht : cfg.ty = tab l) (h : l.all (tyRight P) = true) : TyOk cfg := by
 intro e t het
 rw [ht] at het
 have := List.all_eq_true.1 h _ (tab_mem het)
 unfold tyRight at this
 rw [hP]
 split at this
 ·rename_i i hi
  simp only [Bool.and_eq_true] at this
  obtain ⟨⟨h1, h2⟩, h3⟩ := this
  split at h3
  ·rename_i z hz
   exact ⟨i, z, hi, Nat.eq_of_beq_eq_true h1, hz, Nat.eq_of_beq_eq_true h3, Nat.le_of_ble_eq_true h2⟩
  ·cases h3
 ·cases this
theorem EntOk.of {P : Program} {tf tw : TypeId} {f : FuncId} {en0 en : Entry} (h : EntOk P tf tw f en0)
 (sub : ∀ args blks k kp, en args blks k kp → ∀ k' kp', en args blks k' kp' = en0 args blks k' kp') : EntOk P tf tw f en where
 det args blks k kp he := by
  have e := sub args blks k kp he
  rw [e] at he
  rcases h.det args blks k kp he with ⟨d, b, h1, h2⟩ | ⟨d, b, h1, h2⟩
  ·exact .inl ⟨d, b, h1, fun k' kp' h' => by rw [e]; exact h2 k' kp' h'⟩
  ·exact .inr ⟨d, b, h1, fun k' kp' h' => by rw [e]; exact h2 k' kp' h'⟩
 sound c args us k kp h1 h2 h3 he := h.sound c args us k kp h1 h2 h3 (by rw [← sub _ _ _ _ he]; exact he)
 body := h.body
def convA : List (Option Ty) → List D → List D
 | some t :: r, d :: ds => (match d with
   | .v (.slice none 0 0) => .fz t []
   | d => d) :: convA r ds
 | none :: r, d :: ds => d :: convA r ds
 | [], ds => ds
 | _, [] => []
theorem convA_rep {c : Cx} : ∀ (ts : List (Option Ty)) {ds : List D} {us : List Value}, RepL c ds us → RepL c (convA ts ds) us
 | [], ds, us, h => by
   unfold convA
   exact h
 | none :: r, [], us, h => by
   unfold convA
   exact h
 | some t :: r, [], us, h => by
   unfold convA
   exact h
 | none :: r, d :: ds, us, h => by
   unfold convA
   simp only [RepL] at h ⊢
   obtain ⟨u, us', rfl, h1, h2⟩ := h
   exact ⟨u, us', rfl, h1, convA_rep r h2⟩
 | some t :: r, d :: ds, us, h => by
   unfold convA
   simp only [RepL] at h ⊢
   obtain ⟨u, us', rfl, h1, h2⟩ := h
   refine ⟨u, us', rfl, ?_, convA_rep r h2⟩
   split
   ·simp only [Rep] at h1 ⊢
    subst h1
    exact ⟨none, 0, rfl, Nat.le_refl _, fun h => absurd rfl h⟩
   ·exact h1
theorem EntOk.conv {P : Program} {tf tw : TypeId} {f : FuncId} {en : Entry} (h : EntOk P tf tw f en) (ts : List (Option Ty)) : EntOk P tf tw f (fun args blks k kp => en (convA ts args) blks k kp) where
 det args blks k kp he := h.det _ blks k kp he
 sound c args us k kp h1 h2 h3 he := h.sound c _ us k kp h1 (convA_rep ts h2) h3 he
 body := h.body
inductive CV where
 | no
 | one (t : Ty)
 | cells (ts : List (Option Ty))
def convD : CV → D → D
 | .one t, .v (.slice none 0 0) => .fz t []
 | .cells ts, .agg cs => .agg (convA ts cs)
 | .cells ts, .fp cs => .fp (convA ts cs)
 | _, d => d
theorem convD_rep {c : Cx} (v : CV) {d : D} {u : Value} (h : Rep c d u) : Rep c (convD v d) u := by
 unfold convD
 split
 ·simp only [Rep] at h ⊢
  subst h
  exact ⟨none, 0, rfl, Nat.le_refl _, fun h => absurd rfl h⟩
 ·simp only [Rep] at h ⊢
  obtain ⟨us, rfl, h⟩ := h
  exact ⟨us, rfl, convA_rep _ h⟩
 ·simp only [Rep] at h ⊢
  obtain ⟨a, us, rfl, h, h'⟩ := h
  exact ⟨a, us, rfl, convA_rep _ h, h'⟩
 ·exact h
def convB : List CV → List D → List D
 | v :: r, d :: ds => convD v d :: convB r ds
 | [], ds => ds
 | _, [] => []
theorem convB_rep {c : Cx} : ∀ (ts : List CV) {ds : List D} {us : List Value}, RepL c ds us → RepL c (convB ts ds) us
 | [], ds, us, h => by
   unfold convB
   exact h
 | v :: r, [], us, h => by
   unfold convB
   exact h
 | v :: r, d :: ds, us, h => by
   unfold convB
   simp only [RepL] at h ⊢
   obtain ⟨u, us', rfl, h1, h2⟩ := h
   exact ⟨u, us', rfl, convD_rep v h1, convB_rep r h2⟩
theorem EntOk.convB {P : Program} {tf tw : TypeId} {f : FuncId} {en : Entry} (h : EntOk P tf tw f en) (ts : List CV) : EntOk P tf tw f (fun args blks k kp => en (convB ts args) blks k kp) where
 det args blks k kp he := h.det _ blks k kp he
 sound c args us k kp h1 h2 h3 he := h.sound c _ us k kp h1 (convB_rep ts h2) h3 he
 body := h.body
theorem tab_ok {P : Program} {tf tw : TypeId} {l : List (Nat × Entry)} (h : ∀ p ∈ l, EntOk P tf tw p.1 p.2) : ∀ f en, tab l f = some en → EntOk P tf tw f en :=
 fun f en he => h (f, en) (tab_mem he)
def sclT (P : Program) (t : TypeId) (k : Ty) : Bool := match P.underlying t, k with
 | some (.int a), .int b => a == b
 | some .bool, .bool => true
 | some .string, .str => true
 | _, _ => false
def flatFs (P : Program) : Nat → List Field → List Ty → Bool
 | _, [], [] => true
 | off, f :: r, k :: ts => (f.name != "_") && Nat.beq f.offset off && sclT P f.type k && flatFs P (off + 1) r ts
 | _, _, _ => false
def eqRight (P : Program) (p : Nat × List Ty) : Bool := (!P.eqGuardType P.depth p.1) && (match P.underlying p.1 with
 | some (.struct fs) => (!P.stoodInHeld p.1) && flatFs P 0 fs.toList p.2
 | some (.array n e) => (match P.info? e with
   | some i => Nat.beq i.size 1 && Nat.beq p.2.length n && p.2.all (sclT P e)
   | none => false)
 | _ => false)
theorem sclT_plain {P : Program} {t : TypeId} {k : Ty} (h : sclT P t k = true) : P.plainKey t = true := by
 unfold sclT at h
 unfold Program.plainKey
 split at h <;> simp_all
theorem one_eq {P : Program} {t : TypeId} {k : Ty} {u v : Value} {us vs : List Value} {ts : List Ty} {b : Bool} (h : sclT P t k = true) (he : eqV (k :: ts) (u :: us) (v :: vs) = some b) (d : Nat) (w : World) :
 ∃ x y, (Op.equalIn (d + 1) t u v).run P w = .ok x w ∧ eqV ts us vs = some y ∧ b = (x && y) := by
 unfold eqV at he
 split at he
 ·rename_i e _ _; cases e
 ·rename_i e1 e2 e3; cases e1; cases e2; cases e3
  split at he
  ·rename_i hk
   obtain ⟨rfl, rfl⟩ := hk
   obtain ⟨y, hy, rfl⟩ := Option.map_eq_some_iff.1 he
   unfold sclT at h
   split at h
   ·rename_i hu e; cases e
    exact ⟨_, y, run_equalIn_int w d t _ _ _ _ hu, hy, rfl⟩
   ·rename_i e; cases e
   ·rename_i e; cases e
   ·cases h
  ·cases he
 ·rename_i e1 e2 e3; cases e1; cases e2; cases e3
  obtain ⟨y, hy, rfl⟩ := Option.map_eq_some_iff.1 he
  unfold sclT at h
  split at h
  ·rename_i e; cases e
  ·rename_i hu _
   exact ⟨_, y, run_equalIn_bool' w d t _ _ hu, hy, rfl⟩
  ·rename_i e; cases e
  ·cases h
 ·rename_i e1 e2 e3; cases e1; cases e2; cases e3
  obtain ⟨y, hy, rfl⟩ := Option.map_eq_some_iff.1 he
  unfold sclT at h
  split at h
  ·rename_i e; cases e
  ·rename_i e; cases e
  ·rename_i hu _
   refine ⟨_, y, run_equalIn_string w d t _ _ hu, hy, ?_⟩
   unfold beqS
   rw [ByteArray.toList_eq, ByteArray.toList_eq]
  ·cases h
 ·cases he
theorem eqV_cons {k : Ty} {ts : List Ty} {us vs : List Value} {b : Bool} (h : eqV (k :: ts) us vs = some b) : ∃ u us' v vs', us = u :: us' ∧ vs = v :: vs' := by
 unfold eqV at h
 split at h
 ·rename_i e; cases e
 ·exact ⟨_, _, _, _, rfl, rfl⟩
 ·exact ⟨_, _, _, _, rfl, rfl⟩
 ·exact ⟨_, _, _, _, rfl, rfl⟩
 ·cases h
theorem drop_head {us : List Value} {off : Nat} {u : Value} {us' : List Value} (h : us.drop off = u :: us') : us.toArray[off]? = some u ∧ us.drop (off + 1) = us' := by
 constructor
 ·have : (us.drop off)[0]? = some u := by rw [h]; rfl
  simpa using this
 ·rw [← List.drop_drop, h]; rfl
theorem eqFields_run {P : Program} {us vs : List Value} (d : Nat) (w : World) : ∀ (fs : List Field) (ts : List Ty) (off : Nat) (b : Bool), flatFs P off fs ts = true → eqV ts (us.drop off) (vs.drop off) = some b →
 (Op.eqFields (d + 1) us.toArray vs.toArray fs).run P w = .ok b w
 | [], [], off, b, _, h => by
   unfold eqV at h
   split at h
   ·cases h; rfl
   ·rename_i e _ _; cases e
   ·rename_i e _ _; cases e
   ·rename_i e _ _; cases e
   ·cases h
 | [], _ :: _, off, b, hf, _ => by simp [flatFs] at hf
 | _ :: _, [], off, b, hf, _ => by simp [flatFs] at hf
 | f :: r, k :: ts, off, b, hf, h => by
   simp only [flatFs, Bool.and_eq_true, bne_iff_ne] at hf
   obtain ⟨⟨⟨hn, ho⟩, hk⟩, hr⟩ := hf
   have ho := Nat.eq_of_beq_eq_true ho
   obtain ⟨u, us', v, vs', e1, e2⟩ := eqV_cons h
   obtain ⟨a1, a2⟩ := drop_head e1
   obtain ⟨b1, b2⟩ := drop_head e2
   rw [e1, e2] at h
   obtain ⟨x, y, hx, hy, rfl⟩ := one_eq hk h d w
   rw [← a2, ← b2] at hy
   have ih := eqFields_run d w r ts (off + 1) y hr hy
   have p1 := run_part_plain (P := P) w (sclT_plain hk) a1
   have p2 := run_part_plain (P := P) w (sclT_plain hk) b1
   simp only [Op.eqFields, hn, ne_eq, not_false_eq_true, if_true, Sem.run_bind, ho, p1, p2, hx, Result.andThen_ok]
   cases x
   ·simp
   ·simpa using ih
theorem eqItems_run {P : Program} {us vs : List Value} {e : TypeId} (d : Nat) (w : World) : ∀ (ts : List Ty) (off : Nat) (b : Bool), ts.all (sclT P e) = true → eqV ts (us.drop off) (vs.drop off) = some b →
 (Op.eqItems (d + 1) e 1 us.toArray vs.toArray (List.range' off ts.length)).run P w = .ok b w
 | [], off, b, _, h => by
   unfold eqV at h
   split at h
   ·cases h; rfl
   ·rename_i e _ _; cases e
   ·rename_i e _ _; cases e
   ·rename_i e _ _; cases e
   ·cases h
 | k :: ts, off, b, hf, h => by
   simp only [List.all_cons, Bool.and_eq_true] at hf
   obtain ⟨hk, hr⟩ := hf
   obtain ⟨u, us', v, vs', e1, e2⟩ := eqV_cons h
   obtain ⟨a1, a2⟩ := drop_head e1
   obtain ⟨b1, b2⟩ := drop_head e2
   rw [e1, e2] at h
   obtain ⟨x, y, hx, hy, rfl⟩ := one_eq hk h d w
   rw [← a2, ← b2] at hy
   have ih := eqItems_run d w ts (off + 1) y hr hy
   have p1 := run_part_plain (P := P) w (sclT_plain hk) a1
   have p2 := run_part_plain (P := P) w (sclT_plain hk) b1
   simp only [List.length_cons, List.range'_succ, Op.eqItems, Nat.mul_one, Sem.run_bind, p1, p2, hx, Result.andThen_ok]
   cases x
   ·simp
   ·simpa using ih
theorem eqOk_of {P : Program} {cfg : Cfg} {l : List (Nat × List Ty)} (hP : cfg.P = P) (ht : cfg.eqT = tab l) (h : l.all (eqRight P) = true) : EqOk cfg := by
 intro t ts het us vs b hv w
 rw [ht] at het
 have := List.all_eq_true.1 h _ (tab_mem het)
 unfold eqRight at this
 rw [hP]
 simp only [Bool.and_eq_true, Bool.not_eq_true'] at this
 obtain ⟨hg, this⟩ := this
 refine ⟨hg, ?_⟩
 have e0 : Op.equal t (.agg us.toArray) (.agg vs.toArray) = Op.equalIn (9998 + 1 + 1) t (.agg us.toArray) (.agg vs.toArray) := rfl
 rw [e0]
 split at this
 ·rename_i fs hu
  simp only [Bool.and_eq_true, Bool.not_eq_true'] at this
  have hfs : P.fieldsOf t = fs := by unfold Program.fieldsOf; rw [hu]
  rw [run_equalIn_struct w (9998 + 1) t _ _ (by rw [hfs]; exact hu) this.1, hfs]
  exact eqFields_run 9998 w fs.toList ts 0 b this.2 (by simpa using hv)
 ·rename_i n e hu
  split at this
  ·rename_i i hi
   simp only [Bool.and_eq_true] at this
   obtain ⟨⟨h1, h2⟩, h3⟩ := this
   have h1 := Nat.eq_of_beq_eq_true h1
   have h2 := Nat.eq_of_beq_eq_true h2
   have hc : P.cellsOf e = 1 := by unfold Program.cellsOf; rw [hi]; exact h1
   rw [run_equalIn_array w (9998 + 1) _ _ hu hi, hc, ← h2, List.range_eq_range']
   exact eqItems_run 9998 w ts 0 b h3 (by simpa using hv)
  ·cases this
 ·cases this
def stops (cfg : Cfg) (own key : Nat) : Bool := match cfg.atSeq key with
 | some _ => !(Nat.beq key own)
 | none => false
def codeC (cfg : Cfg) (own : Nat) (J L : Nat → St → Prop) : Code → (Ex → St → Prop) → St → Prop
 | .skip, K, st => K .normal st
 | .label _, K, st => K .normal st
 | .region _ ops draw, K, st => regionW cfg ops draw st (K .normal) (fun d st' => K (.panic d) st')
 | .seq a b, K, st => codeC cfg own J L a (fun e st' => match e with
    | .normal => canonW (cfg.atSeq (firstReg b)) st' (match stops cfg own (firstReg b) with
      | true => J (firstReg b)
      | false => codeC cfg own J L b K)
    | e => K e st') st
 | .cond c a b, K, st => match st.opd c with
   | .v (.bool t) => br t (codeC cfg own J L a K st) (codeC cfg own J L b K st)
   | _ => False
 | .block id b, K, st => codeC cfg own J L b (fun e st' => match e with
    | .exit id' => (match Nat.beq id' id with | true => K .normal st' | false => K (.exit id') st')
    | e => K e st') st
 | .loop b, K, st => canonW (cfg.atLoop (firstReg b)) st (L (firstReg b))
 | .exit id, K, st => canonW (cfg.atExit id) st (K (.exit id))
 | .ret, K, st => K .ret st
 | .scope b, K, st => codeC cfg own J L b (scopeK K) st
 | .goto l, K, st => K (.goto l) st
 | _, _, _ => False
def seqC (cfg : Cfg) (own : Nat) (J L : Nat → St → Prop) (b : Code) (K : Ex → St → Prop) : Ex → St → Prop := fun e st' => match e with
 | .normal => canonW (cfg.atSeq (firstReg b)) st' (match stops cfg own (firstReg b) with
   | true => J (firstReg b)
   | false => codeC cfg own J L b K)
 | e => K e st'
def agL (cfg : Cfg) (own : Nat) (J L : Nat → St → Prop) : Code → List (St → Prop)
 | .seq a b => agL cfg own J L a ++ (match stops cfg own (firstReg b) with
   | true => [J (firstReg b)]
   | false => agL cfg own J L b)
 | .cond _ a b => agL cfg own J L a ++ agL cfg own J L b
 | .block _ b => agL cfg own J L b
 | .loop b => [L (firstReg b)]
 | .scope b => agL cfg own J L b
 | _ => []
def agR (cfg : Cfg) (own : Nat) : Code → (Ex → St → Prop) → List (St → Prop)
 | .seq a b, K => agR cfg own a (seqK cfg b K) ++ (match stops cfg own (firstReg b) with
   | true => [codeW cfg b K]
   | false => agR cfg own b K)
 | .cond _ a b, K => agR cfg own a K ++ agR cfg own b K
 | .block id b, K => agR cfg own b (blockK id K)
 | .loop b, K => [fun st => ∃ n, loopN (loopB cfg b K) n st]
 | .scope b, K => agR cfg own b (scopeK K)
 | _, _ => []
theorem ag_len {cfg : Cfg} {own : Nat} {J L : Nat → St → Prop} : ∀ (c : Code) (K : Ex → St → Prop), (agL cfg own J L c).length = (agR cfg own c K).length := by
 intro c
 induction c with
 | seq a b iha ihb =>
   intro K
   simp only [agL, agR, List.length_append, iha (seqK cfg b K)]
   cases stops cfg own (firstReg b) with
   | true => simp
   | false => simp only [ihb K]
 | cond x a b iha ihb => intro K; simp only [agL, agR, List.length_append, iha K, ihb K]
 | block id b ih => intro K; simp only [agL, agR]; exact ih _
 | loop b ih => intro K; simp [agL, agR]
 | scope b ih => intro K; simp only [agL, agR]; exact ih _
 | _ => intro K; simp [agL, agR]
theorem codeC_eq {cfg : Cfg} {own : Nat} {J L : Nat → St → Prop} : ∀ (c : Code) (K : Ex → St → Prop), agL cfg own J L c = agR cfg own c K → ∀ st, codeC cfg own J L c K st = codeW cfg c K st := by
 intro c
 induction c with
 | seq a b iha ihb =>
   intro K h st
   simp only [agL, agR] at h
   have h' := List.append_inj h (ag_len a _)
   have hK : (fun (e : Ex) (st' : St) => match e with
    | .normal => canonW (cfg.atSeq (firstReg b)) st' (match stops cfg own (firstReg b) with
      | true => J (firstReg b)
      | false => codeC cfg own J L b K)
    | e => K e st') = seqK cfg b K := by
    funext e st'
    cases e with
    | normal =>
      show canonW _ _ _ = canonW _ _ _
      congr 1
      have h2 := h'.2
      cases hs : stops cfg own (firstReg b) with
      | true =>
        rw [hs] at h2
        simpa using h2
      | false =>
        rw [hs] at h2
        exact funext fun s => ihb K h2 s
    | _ => rfl
   show codeC cfg own J L a _ st = codeW cfg a _ st
   rw [hK]
   exact iha _ h'.1 st
 | cond x a b iha ihb =>
   intro K h st
   simp only [agL, agR] at h
   have h' := List.append_inj h (ag_len a _)
   have ea : codeC cfg own J L a K = codeW cfg a K := funext fun s => iha K h'.1 s
   have eb : codeC cfg own J L b K = codeW cfg b K := funext fun s => ihb K h'.2 s
   simp only [codeC, codeW, ea, eb]
   generalize st.opd x = d
   cases d with
   | v v => cases v <;> rfl
   | _ => rfl
 | block id b ih =>
   intro K h st
   simp only [agL, agR] at h
   show codeC cfg own J L b _ st = codeW cfg b _ st
   exact ih _ h st
 | loop b ih =>
   intro K h st
   simp only [agL, agR] at h
   have h' : L (firstReg b) = fun st => ∃ n, loopN (loopB cfg b K) n st := by simpa using h
   show canonW _ _ _ = canonW _ _ _
   rw [h']
   rfl
 | scope b ih =>
   intro K h st
   simp only [agL, agR] at h
   show codeC cfg own J L b _ st = codeW cfg b _ st
   exact ih _ h st
 | _ => intro K h st; rfl
def runC (cfg : Cfg) (own : Nat) (J L AG : Nat → St → Prop) : List Nat → Code → (Ex → St → Prop) → St → Prop
 | [], c, K, st => codeC cfg own J L c K st
 | i :: p, .seq a b, K, st => match i with
   | 0 => runC cfg own J L AG p a (seqC cfg own J L b K) st
   | _ => runC cfg own J L AG p b K st
 | i :: p, .cond _ a b, K, st => match i with
   | 0 => runC cfg own J L AG p a K st
   | _ => runC cfg own J L AG p b K st
 | _ :: p, .block id b, K, st => runC cfg own J L AG p b (blockK id K) st
 | _ :: p, .loop b, K, st => runC cfg own J L AG p b (loopK cfg b (AG (firstReg b)) K) st
 | _ :: p, .scope b, K, st => runC cfg own J L AG p b (scopeK K) st
 | _ :: _, c, K, st => codeC cfg own J L c K st
def contK (cfg : Cfg) (AG : Nat → St → Prop) : List Nat → Code → (Ex → St → Prop) → Ex → St → Prop
 | [], c, K => K
 | i :: p, .seq a b, K => match i with
   | 0 => contK cfg AG p a (seqK cfg b K)
   | _ => contK cfg AG p b K
 | i :: p, .cond _ a b, K => match i with
   | 0 => contK cfg AG p a K
   | _ => contK cfg AG p b K
 | _ :: p, .block id b, K => contK cfg AG p b (blockK id K)
 | _ :: p, .loop b, K => contK cfg AG p b (loopK cfg b (AG (firstReg b)) K)
 | _ :: p, .scope b, K => contK cfg AG p b (scopeK K)
 | _ :: _, c, K => K
def agPL (cfg : Cfg) (own : Nat) (J L : Nat → St → Prop) : List Nat → Code → List (St → Prop)
 | [], c => agL cfg own J L c
 | i :: p, .seq a b => match i with
   | 0 => agPL cfg own J L p a ++ (match stops cfg own (firstReg b) with
     | true => [J (firstReg b)]
     | false => agL cfg own J L b)
   | _ => agPL cfg own J L p b
 | i :: p, .cond _ a b => match i with
   | 0 => agPL cfg own J L p a
   | _ => agPL cfg own J L p b
 | _ :: p, .block id b => agPL cfg own J L p b
 | _ :: p, .loop b => agPL cfg own J L p b
 | _ :: p, .scope b => agPL cfg own J L p b
 | _ :: _, c => agL cfg own J L c
def agPR (cfg : Cfg) (own : Nat) (AG : Nat → St → Prop) : List Nat → Code → (Ex → St → Prop) → List (St → Prop)
 | [], c, K => agR cfg own c K
 | i :: p, .seq a b, K => match i with
   | 0 => agPR cfg own AG p a (seqK cfg b K) ++ (match stops cfg own (firstReg b) with
     | true => [codeW cfg b K]
     | false => agR cfg own b K)
   | _ => agPR cfg own AG p b K
 | i :: p, .cond _ a b, K => match i with
   | 0 => agPR cfg own AG p a K
   | _ => agPR cfg own AG p b K
 | _ :: p, .block id b, K => agPR cfg own AG p b (blockK id K)
 | _ :: p, .loop b, K => agPR cfg own AG p b (loopK cfg b (AG (firstReg b)) K)
 | _ :: p, .scope b, K => agPR cfg own AG p b (scopeK K)
 | _ :: _, c, K => agR cfg own c K
theorem agP_len {cfg : Cfg} {own : Nat} {J L AG : Nat → St → Prop} : ∀ (p : List Nat) (c : Code) (K : Ex → St → Prop), (agPL cfg own J L p c).length = (agPR cfg own AG p c K).length := by
 intro p
 induction p with
 | nil => intro c K; exact ag_len c K
 | cons i p ih =>
   intro c K
   cases c with
   | seq a b =>
     cases i with
     | zero =>
       simp only [agPL, agPR, List.length_append, ih a (seqK cfg b K)]
       cases stops cfg own (firstReg b) with
       | true => simp
       | false => simp only [ag_len b K]
     | succ i => exact ih b K
   | cond x a b => cases i with
     | zero => exact ih a K
     | succ i => exact ih b K
   | block id b => exact ih b _
   | loop b => exact ih b _
   | scope b => exact ih b _
   | _ => exact ag_len _ K
theorem runC_eq {cfg : Cfg} {own : Nat} {J L AG : Nat → St → Prop} : ∀ (p : List Nat) (c : Code) (K : Ex → St → Prop), agPL cfg own J L p c = agPR cfg own AG p c K → ∀ st, runC cfg own J L AG p c K st = codeW cfg (sub p c) (contK cfg AG p c K) st := by
 intro p
 induction p with
 | nil => intro c K h st; exact codeC_eq c K h st
 | cons i p ih =>
   intro c K h st
   cases c with
   | seq a b =>
     cases i with
     | zero =>
       simp only [agPL, agPR] at h
       have h' := List.append_inj h (agP_len p a _)
       have hK : seqC cfg own J L b K = seqK cfg b K := by
        funext e st'
        cases e with
        | normal =>
          show canonW _ _ _ = canonW _ _ _
          congr 1
          have h2 := h'.2
          cases hs : stops cfg own (firstReg b) with
          | true =>
            rw [hs] at h2
            simpa using h2
          | false =>
            rw [hs] at h2
            exact funext fun s => codeC_eq b K h2 s
        | _ => rfl
       show runC cfg own J L AG p a (seqC cfg own J L b K) st = codeW cfg (sub p a) (contK cfg AG p a (seqK cfg b K)) st
       rw [hK]
       exact ih a _ h'.1 st
     | succ i => exact ih b K h st
   | cond x a b => cases i with
     | zero => exact ih a K h st
     | succ i => exact ih b K h st
   | block id b => exact ih b _ h st
   | loop b => exact ih b _ h st
   | scope b => exact ih b _ h st
   | _ => exact codeC_eq _ K h st
noncomputable abbrev pick {α : Type} (d : α) (l : List (Nat × α)) (j : Nat) : α :=
 @List.rec (Nat × α) (fun _ => α) d (fun p _ ih => @Bool.rec (fun _ => α) ih p.2 (Nat.beq p.1 j)) l
def none' : St → Prop := fun _ => False
def none'' : Nat → St → Prop := fun _ _ => False
def st0 (fn : Func) (args : List D) (blks : List Blk) : St := { tmps := args ++ List.replicate (fn.ntmps - args.length) (.v undef), hp := blks, m := nBoxes blks }
def atP (cfg : Cfg) (AG : Nat → St → Prop) (p : List Nat) (c : Code) (K : Ex → St → Prop) : St → Prop := codeW cfg (sub p c) (contK cfg AG p c K)
theorem atP_run {cfg : Cfg} {own : Nat} {J L AG : Nat → St → Prop} {p : List Nat} {c : Code} {K : Ex → St → Prop} (h : agPL cfg own J L p c = agPR cfg own AG p c K) (st : St) :
 atP cfg AG p c K st = runC cfg own J L AG p c K st := (runC_eq p c K h st).symm
theorem funW_run {cfg : Cfg} {fn : Func} {c : Code} {k kp : D → List Blk → Prop} {J L AG : Nat → St → Prop} {own : Nat} (hb : fn.body = some c)
 (h : agPL cfg own J L [] c = agPR cfg own AG [] c (topK cfg fn k kp)) (args : List D) (blks : List Blk) :
 funW cfg fn args blks k kp = runC cfg own J L AG [] c (topK cfg fn k kp) (st0 fn args blks) := by
 rw [runC_eq [] c _ h]
 unfold funW
 rw [hb]
 rfl
theorem EntOk.any {P : Program} {tf tw : TypeId} {f : FuncId} {en : Nat → Entry} {en' : Entry} (h : ∀ n, EntOk P tf tw f (en n)) (he : ∀ args blks k kp, en' args blks k kp ↔ ∃ n, en n args blks k kp) : EntOk P tf tw f en' where
 det args blks k kp e := by
  obtain ⟨n, e⟩ := (he _ _ _ _).1 e
  rcases (h n).det args blks k kp e with ⟨d, b, h1, h2⟩ | ⟨d, b, h1, h2⟩
  ·exact .inl ⟨d, b, h1, fun k' kp' hk => (he _ _ _ _).2 ⟨n, h2 k' kp' hk⟩⟩
  ·exact .inr ⟨d, b, h1, fun k' kp' hk => (he _ _ _ _).2 ⟨n, h2 k' kp' hk⟩⟩
 sound c args us k kp hT hr hH e := by
  obtain ⟨n, e⟩ := (he _ _ _ _).1 e
  exact (h n).sound c args us k kp hT hr hH e
 body := (h 0).body
abbrev KT := D → List Blk → Prop
theorem raw_eq {own : Nat} {X R : Prop} {cfg : Cfg} {AG : Nat → St → Prop} {p : List Nat} {c : Code} {K : Ex → St → Prop} {st : St} (hX : X = atP cfg AG p c K st) (J L : Nat → St → Prop) (F : (Nat → St → Prop) → (Nat → St → Prop) → Prop)
 (hag : agPL cfg own J L p c = agPR cfg own AG p c K) (hc : ∀ J L, runC cfg own J L AG p c K st = F J L) (hR : F J L = R) : X = R := hX.trans ((atP_run hag st).trans ((hc J L).trans hR))
theorem raw_fun {own : Nat} {R : Prop} {cfg : Cfg} {fn : Func} {c : Code} {args : List D} {blks : List Blk} {k kp : KT} (AG J L : Nat → St → Prop) (F : (Nat → St → Prop) → (Nat → St → Prop) → Prop)
 (hb : fn.body = some c) (hag : agPL cfg own J L [] c = agPR cfg own AG [] c (topK cfg fn k kp)) (hc : ∀ J L, runC cfg own J L AG [] c (topK cfg fn k kp) (st0 fn args blks) = F J L) (hR : F J L = R) : funW cfg fn args blks k kp = R :=
 (funW_run hb hag args blks).trans ((hc J L).trans hR)
@[simp] theorem br_true (p q : Prop) : br true p q = p := rfl
@[simp] theorem br_false (p q : Prop) : br false p q = q := rfl
theorem br_of {b : Bool} {p q : Prop} (h1 : b = true → p) (h2 : b = false → q) : br b p q := by
 cases b
 ·exact h2 rfl
 ·exact h1 rfl
@[simp] theorem br_dec {c : Prop} [Decidable c] {p q : Prop} : br (decide c) p q = if c then p else q := by
 by_cases h : c <;> simp [h]
@[simp] theorem br_beq {α : Type} [BEq α] [LawfulBEq α] [DecidableEq α] {a b : α} {p q : Prop} : br (a == b) p q = if a = b then p else q := by
 by_cases h : a = b
 ·simp [h]
 ·rw [if_neg h, show (a == b) = false by simpa using h]; rfl
@[simp] theorem br_bne {α : Type} [BEq α] [LawfulBEq α] [DecidableEq α] {a b : α} {p q : Prop} : br (a != b) p q = if a = b then q else p := by
 by_cases h : a = b
 ·simp [h]
 ·rw [if_neg h, show (a != b) = true by simpa using h]; rfl
@[simp] theorem br_not {b : Bool} {p q : Prop} : br (!b) p q = br b q p := by cases b <;> rfl
abbrev w64 (n : Int) : Int := IntKind.i64.wrap n
theorem w64_eq (n : Int) : w64 n = n.bmod (2 ^ 64) := by
 unfold w64 IntKind.wrap
 simp only [IntKind.bits, IntKind.signed]
 unfold Int.bmod
 simp
 split <;> split <;> omega
theorem wu8_eq (n : Int) : IntKind.u8.wrap n = n % 256 := by
 unfold IntKind.wrap
 simp [IntKind.bits, IntKind.signed]
def in64 (n : Int) : Prop := -9223372036854775808 ≤ n ∧ n ≤ 9223372036854775807
theorem w64_id {n : Int} (h : in64 n) : w64 n = n := by
 unfold in64 at h
 rw [w64_eq]
 apply Int.bmod_eq_of_le <;> omega
theorem wrap_id {n : Int} (h1 : -9223372036854775808 ≤ n) (h2 : n ≤ 9223372036854775807) : IntKind.i64.wrap n = n := w64_id ⟨h1, h2⟩
theorem w64_in (n : Int) : in64 (w64 n) := by
 unfold in64
 rw [w64_eq]
 have h1 := @Int.le_bmod n (2 ^ 64) (by decide)
 have h2 := @Int.bmod_lt n (2 ^ 64) (by decide)
 omega
theorem drop_get {α : Type} {l : List α} {i : Nat} {d : α} (h : i < l.length) : l.drop i = l.getD i d :: l.drop (i + 1) := by
 rw [List.drop_eq_getElem_cons h]; simp [List.getD, List.getElem?_eq_getElem h]
theorem ba_append (a b : Array UInt8) : (ByteArray.mk a ++ ByteArray.mk b) = ByteArray.mk (a ++ b) := by
 apply ByteArray.ext
 simp
theorem bytesOf_append (a b : List Int) : bytesOf (a ++ b) = bytesOf a ++ bytesOf b := by
 unfold bytesOf
 rw [ba_append]
 simp
theorem size_append (a b : ByteArray) : (a ++ b).size = a.size + b.size := by simp
theorem bytesOf_size (l : List Int) : (bytesOf l).size = l.length := by
 unfold bytesOf
 simp [ByteArray.size]
theorem bytesOf_ofBytes (s : ByteArray) : bytesOf (ofBytes s) = s := by
 unfold bytesOf ofBytes
 apply ByteArray.ext
 simp [List.map_map]
 apply Array.ext'
 simp
 apply List.ext_getElem
 ·simp
 ·intro i h1 h2
  simp
theorem ofBytes_length (s : ByteArray) : (ofBytes s).length = s.size := by
 unfold ofBytes
 rw [List.length_map, Array.length_toList]; rfl
def isB (x : Int) : Prop := 0 ≤ x ∧ x < 256
theorem ofBytes_bytesOf {l : List Int} (h : ∀ x ∈ l, isB x) : ofBytes (bytesOf l) = l := by
 unfold ofBytes bytesOf
 simp only [List.map_map]
 conv => rhs; rw [← List.map_id l]
 apply List.map_congr_left
 intro x hx
 obtain ⟨h1, h2⟩ := h x hx
 simp
 omega
theorem ofBytes_isB (s : ByteArray) : ∀ x ∈ ofBytes s, isB x := by
 intro x hx
 unfold ofBytes at hx
 obtain ⟨b, _, rfl⟩ := List.mem_map.1 hx
 have := b.toNat_lt
 exact ⟨by omega, by omega⟩
theorem byteAt_eq (s : ByteArray) (i : Nat) : byteAt s i = (ofBytes s).getD i 0 := by
 unfold byteAt ofBytes
 simp only [Int.toNat_natCast, List.getD, List.getElem?_map, Array.getElem?_toList, Array.getD_eq_getD_getElem?]
 cases s.data[i]? <;> simp
theorem ofBytes_extract (s : ByteArray) (i j : Nat) : ofBytes (s.extract i j) = ((ofBytes s).take j).drop i := by
 unfold ofBytes
 rw [ByteArray.data_extract, Array.toList_extract, List.extract_eq_take_drop, List.map_take, List.map_drop, List.drop_take]
theorem eq_of_ofBytes {a b : ByteArray} (h : ofBytes a = ofBytes b) : a = b := by rw [← bytesOf_ofBytes a, ← bytesOf_ofBytes b, h]
theorem getD_isB (s : ByteArray) (i : Nat) : isB ((ofBytes s).getD i 0) := by
 by_cases h : i < (ofBytes s).length
 ·simp only [List.getD, List.getElem?_eq_getElem h, Option.getD_some]
  exact ofBytes_isB s _ (List.getElem_mem h)
 ·simp only [List.getD, List.getElem?_eq_none (by omega : (ofBytes s).length ≤ i), Option.getD_none]
  exact ⟨by decide, by decide⟩
def dl : Nat → Nat → List Int
 | 0, _ => []
 | f + 1, u => ((48 + u % 10 : Nat) : Int) :: if u / 10 = 0 then [] else dl f (u / 10)
def val (l : List Int) : Nat := l.foldl (fun a d => 10 * a + (d - 48).toNat) 0
def isD (x : Int) : Prop := 48 ≤ x ∧ x ≤ 57
instance (x : Int) : Decidable (isD x) := inferInstanceAs (Decidable (_ ∧ _))
theorem val_snoc (l : List Int) (d : Int) : val (l ++ [d]) = 10 * val l + (d - 48).toNat := by simp [val]
theorem dl_ne (f u : Nat) : dl (f + 1) u ≠ [] := by unfold dl; simp
theorem dl_len_pos (f u : Nat) : 0 < (dl (f + 1) u).length := List.length_pos_iff.2 (dl_ne f u)
theorem dl_len_le : ∀ (f u : Nat), (dl f u).length ≤ f
 | 0, _ => by simp [dl]
 | f + 1, u => by
   unfold dl
   split
   ·simp
   ·have := dl_len_le f (u / 10); simp; omega
theorem dl_of_val : ∀ (l : List Int) (f : Nat), l.length ≤ f → (∀ x ∈ l, isD x) → l ≠ [] → (l.head? = some 48 → l = [48]) → val l < 10 ^ f ∧ dl f (val l) = l.reverse := by
 intro l
 induction h : l.length using Nat.strongRecOn generalizing l with
 | ind n ih =>
   intro f hf hd hne hz
   subst h
   obtain ⟨m, d, rfl⟩ : ∃ m d, l = m ++ [d] := ⟨l.dropLast, l.getLast hne, (List.dropLast_concat_getLast hne).symm⟩
   have hdd : isD d := hd d (by simp)
   obtain ⟨hd1, hd2⟩ := hdd
   rw [val_snoc]
   cases f with
   | zero => simp at hf
   | succ f =>
     by_cases hm : m = []
     ·subst hm
      have e0 : val ([] : List Int) = 0 := rfl
      rw [e0]
      refine ⟨?_, ?_⟩
      ·have : 1 ≤ 10 ^ f := Nat.one_le_pow _ _ (by decide)
       rw [Nat.pow_succ]; omega
      ·unfold dl
       rw [if_pos (by omega)]
       simp
       omega
     ·have hlen : m.length ≤ f := by simp at hf; omega
      have hz' : m.head? = some 48 → m = [48] := by
       intro h1
       have : (m ++ [d]).head? = some 48 := by
        cases m with
        | nil => exact absurd rfl hm
        | cons x r => simpa using h1
       have := hz this
       cases m with
       | nil => exact absurd rfl hm
       | cons x r => simp at this
      obtain ⟨h1, h2⟩ := ih m.length (by simp) m rfl f hlen (fun x hx => hd x (by simp [hx])) hm hz'
      have hpos : 0 < val m := by
       rcases Nat.eq_zero_or_pos (val m) with h0 | h0
       ·exfalso
        have hh : m.head? = some 48 := by
         rw [h0] at h2
         cases f with
         | zero => simp at hlen; exact absurd hlen hm
         | succ f =>
           have : dl (f + 1) 0 = [48] := by unfold dl; simp
           rw [this] at h2
           have : m = [48] := by
            have := congrArg List.reverse h2
            simpa using this.symm
           subst this; rfl
        have : (m ++ [d]).head? = some 48 := by
         cases m with
         | nil => exact absurd rfl hm
         | cons x r => simpa using hh
        have := hz this
        cases m with
        | nil => exact absurd rfl hm
        | cons x r => simp at this
       ·exact h0
      have e1 : (10 * val m + (d - 48).toNat) / 10 = val m := by omega
      have e2 : (10 * val m + (d - 48).toNat) % 10 = (d - 48).toNat := by omega
      refine ⟨by rw [Nat.pow_succ]; omega, ?_⟩
      unfold dl
      rw [e1, e2, if_neg (by omega), h2, List.reverse_append]
      simp
      omega
def run : List Int → Nat
 | [] => 0
 | x :: r => if isD x then run r + 1 else 0
theorem run_le : ∀ (l : List Int), run l ≤ l.length
 | [] => Nat.le_refl _
 | x :: r => by unfold run; split <;> simp; have := run_le r; omega
theorem run_isD : ∀ (l : List Int), ∀ x ∈ l.take (run l), isD x
 | [], x, h => by simp [run] at h
 | y :: r, x, h => by
   unfold run at h
   split at h
   ·rename_i hy
    rcases List.mem_cons.1 (by simpa using h) with rfl | h
    ·exact hy
    ·exact run_isD r x h
   ·simp at h
theorem run_step {l : List Int} {i j : Nat} (h : run (l.drop i) = j) (hj : i + j < l.length) : ¬ isD (l.getD (i + j) 0) := by
 induction j generalizing i with
 | zero =>
   rw [drop_get (d := 0) (by omega)] at h
   unfold run at h
   split at h
   ·omega
   ·rename_i hn; simpa using hn
 | succ j ih =>
   have hi : i < l.length := by omega
   rw [drop_get (d := 0) hi] at h
   unfold run at h
   split at h
   ·have := ih (i := i + 1) (by omega) (by omega)
    rwa [show i + 1 + j = i + (j + 1) by omega] at this
   ·omega
theorem runIn {l : List Int} {i j : Nat} (hj : j < run (l.drop i)) : isD (l.getD (i + j) 0) := by
 have h := run_isD (l.drop i) ((l.drop i).getD j 0) (by
  have h1 := run_le (l.drop i)
  have h2 : j < (l.drop i).length := by omega
  have e : (l.drop i).getD j 0 = (l.drop i)[j] := by simp [List.getD, List.getElem?_eq_getElem h2]
  rw [e]
  exact List.mem_take_iff_getElem.2 ⟨j, by omega, rfl⟩)
 simpa [List.getD, List.getElem?_drop] using h
theorem tdiv10 (m : Int) : Int.tdiv m 10 = if m < 0 then -((m.natAbs / 10 : Nat) : Int) else ((m.natAbs / 10 : Nat) : Int) := by
 split
 ·have : m = -(m.natAbs : Int) := by omega
  rw [this, Int.neg_tdiv, Int.natAbs_neg, Int.natAbs_natCast]; norm_cast
 ·have : m = (m.natAbs : Int) := by omega
  rw [this, Int.natAbs_natCast]; norm_cast
theorem val_le_foldl : ∀ (m : List Int) (a : Nat), a ≤ m.foldl (fun a d => 10 * a + (d - 48).toNat) a
 | [], a => Nat.le_refl _
 | d :: m, a => by
   simp only [List.foldl_cons]
   exact Nat.le_trans (by omega) (val_le_foldl m _)
theorem val_take (l : List Int) (i : Nat) : val (l.take i) ≤ val l := by
 conv => rhs; rw [← List.take_append_drop i l]
 unfold val
 rw [List.foldl_append]
 exact val_le_foldl _ _
theorem val_take_succ {l : List Int} {i : Nat} (h : i < l.length) : val (l.take (i + 1)) = 10 * val (l.take i) + (l.getD i 0 - 48).toNat := by
 have : l.take (i + 1) = l.take i ++ [l.getD i 0] := by
  rw [List.take_succ_eq_append_getElem h]; simp [List.getD, List.getElem?_eq_getElem h]
 rw [this, val_snoc]
def scanI (l : List Int) (at_ : Int) : Int × Int × Int :=
 if at_ < 0 ∨ at_ > (l.length : Int) then (0, 0, 1) else
 let minus := decide (at_.toNat < l.length) && (l.getD at_.toNat 0 == 45)
 let fr := at_.toNat + minus.toNat
 let r := run (l.drop fr)
 if r = 0 ∨ (l.getD fr 0 = 48 ∧ (1 < r ∨ minus = true)) then (0, 0, 12) else
 let v := val ((l.drop fr).take r)
 if v > 2 ^ 63 ∨ (v = 2 ^ 63 ∧ minus = false) then (0, 0, 2) else (if minus = true then -(v : Int) else v, ((fr + r : Nat) : Int), 0)
end Go.Aw
namespace Go.Aw
open Go.RowKit Go.ChangeShapes
def Ty.bytes : Ty → Nat
 | .int k => k.bits / 8
 | .bool => 1
 | .str => 16
 | .list _ => 24
 | .pair a b => a.bytes + b.bytes
def Ty.bulk : (t : Ty) → t.den → Nat
 | .int _, _ => 1
 | .bool, _ => 1
 | .str, x => x.size + 1
 | .list t, l => (@List.map t.den Nat t.bulk l).sum + 1
 | .pair a b, x => a.bulk x.1 + b.bulk x.2
structure BulkF {H : Type} (B : DataW H → Nat) : Prop where
 one : ∀ d, 1 ≤ B d
 str : ∀ bytes, bytes.length + 1 ≤ B (.lit (.string bytes))
 slice : ∀ es sp, (es.map B).sum + 1 ≤ B (.slice es sp)
 agg : ∀ ps, (ps.map B).sum ≤ B (.agg ps)
def inW (W : World) : Addr → Prop := fun a => a.block < W.heap.size
section
variable {H : Type} {enc : TypeId × Value → H} {P : Program} {W : World}
def cx (tf tw : TypeId) (W : World) : Cx := { w := W, fr := inW W, cv := fun _ => undef, hp := [], tf := tf, tw := tw }
theorem cx_ok {tf tw : TypeId} : HRep (cx tf tw W) where
 blk b hb := by simp [cx] at hb
 apart b b' B hb := by simp [cx] at hb
 frin a ha := ha
theorem arg_str {tf tw : TypeId} {t : TypeId} {v : Value} {d : DataW H} {ps : List MemPlace} {r : Reach} {b0 : Nat} (hu : P.underlying t = some .string) (hval : Value.okWide P W r b0 t v)
 (ht : DataW.Trod enc P W 0 (fun _ => true) true t v d ps) (hw : ∀ m ∈ d.weights P t, m ≤ reachBytes) : ∃ x : ByteArray, Rep (cx tf tw W) (.v (.string x)) v ∧ x.size ≤ reachBytes ∧ ∀ B : DataW H → Nat, BulkF B → Ty.bulk .str x ≤ B d := by
 obtain ⟨x, rfl, rfl, _, _⟩ := ChangeMaps.open_string hu hval ht
 refine ⟨x, by simp only [Rep], ?_, fun B hB => ?_⟩
 ·have := hw x.data.toList.length (by simp [DataW.weights])
  simpa using this
 ·have := hB.str x.data.toList
  rw [Array.length_toList] at this
  exact this
def isTrue : D → List Blk → Prop := fun d _ => match d with
 | .v (.bool b) => b = true
 | _ => False
def never : D → List Blk → Prop := fun _ _ => False
theorem law_ofG {tf tw : TypeId} {f : FuncId} {en : Entry} (ok : EntOk P tf tw f en) {us : List Value} {ds : List D} (hG : ∀ g v, hdlOf P = some (g, v) → W.cell? ⟨g, 0, none⟩ = some v) (hr : RepL (cx tf tw W) ds us) (h : en ds [] isTrue never) :
 Calls P f us.toArray W fun e W' => e = .returned (.bool true) ∧ Below W.heap.size W W' := by
 have hT : TOk P tf tw (cx tf tw W) := by
  refine ⟨⟨rfl, rfl⟩, fun g v hg => ?_⟩
  have hc := hG g v hg
  intro j u hj
  match j, hj with
  | 0, hj =>
    cases hj
    rw [add_zero]
    exact ⟨World.block_lt_of_cell? W _ hc, hc⟩
 refine (ok.sound (cx tf tw W) ds us isTrue never hT hr cx_ok h).mono fun e W' hp => ?_
 cases e with
 | returned v =>
   obtain ⟨d, c', rfl, hk, hrep, _, I⟩ := hp
   have hb : ∃ b, d = .v (.bool b) ∧ b = true := by
    unfold isTrue at hk
    split at hk
    ·exact ⟨_, rfl, hk⟩
    ·exact hk.elim
   obtain ⟨b, rfl, rfl⟩ := hb
   simp only [Rep] at hrep
   refine ⟨by rw [hrep], I.os, I.tape, I.output, I.size, fun k hk => I.keep k hk ?_⟩
   rintro ⟨b, hb, _⟩
   simp [cx] at hb
 | panicked ch =>
   obtain ⟨d, p, c', _, _, hk, _⟩ := hp
   exact hk.elim
 | outgrown => exact hp.elim
theorem trodAll_below (hl : laidOutB P = true) {W' : World} (hb : Below W.heap.size W W') : ∀ {ts : List TypeId} {vs : List Value} {ds : List (DataW H)} {ps : List MemPlace}, ts.all (fun t => P.readableRec t && Nat.blt t P.types.size) = true →
 DataW.TrodAll enc P W 0 (fun _ => true) true ts vs ds ps → (∀ x ∈ ps, x.block < W.heap.size) → DataW.TrodAll enc P W' 0 (fun b => decide (b < W.heap.size)) true ts vs ds ps
 | [], [], [], ps, _, h, _ => h
 | t :: ts, v :: vs, d :: ds, ps, hr, ⟨p, q, h1, h2, e⟩, hlt => by
   simp only [List.all_cons, Bool.and_eq_true] at hr
   subst e
   exact ⟨p, q, Below.trod hl hr.1.1 (Nat.le_of_ble_eq_true hr.1.2) h1 hb (fun x hx => hlt x (List.mem_append_left _ hx)), trodAll_below hl hb hr.2 h2 (fun x hx => hlt x (List.mem_append_right _ hx)), rfl⟩
 | [], _ :: _, _, _, _, h, _ => h.elim
 | [], [], _ :: _, _, _, h, _ => h.elim
 | _ :: _, [], _, _, _, h, _ => h.elim
 | _ :: _, _ :: _, [], _, _, h, _ => h.elim
end
end Go.Aw
