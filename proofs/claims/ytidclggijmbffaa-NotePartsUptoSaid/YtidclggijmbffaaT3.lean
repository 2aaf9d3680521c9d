/- Words for the proof of the statement: plain data in place of memory. -/
import Derived.Test.YtidclggijmbffaaT2
import Derived.Below
import Derived.Laws.OwnMore
import Derived.OwnWalk
import Derived.OneCell
import Derived.Deep.AppendLies
set_option linter.unusedVariables false
set_option linter.unusedSimpArgs false
namespace Go.Aw
open Go
theorem own_lt {w : World} {B : Nat} {e : TypeId} {sz : Nat} {v : Value} {n : Nat} {xs : List Value} (h : w.ownsRow B e sz v n xs) {k : Nat} (hk : v.ownBlock = some k) : k < w.heap.size := (h.lt k hk).2
theorem own_keep {w w' : World} {B : Nat} {e : TypeId} {sz : Nat} {v : Value} {n : Nat} {xs : List Value} (h : w.ownsRow B e sz v n xs) (hb : ∀ k, v.ownBlock = some k → w'.heap[k]? = w.heap[k]?) : w'.ownsRow B e sz v n xs := by
  refine ⟨h.1, ?_⟩
  rcases h.2 with hn | ⟨g, cap, cur, rfl, h1, h2, h3⟩
  · exact .inl hn
  · exact .inr ⟨g, cap, cur, rfl, h1, by rw [hb g rfl]; exact h2, h3⟩
structure Fam (w : World) (B LS S sz : Nat) (v : Value) (vals : List Value) (rows : List (List (List Value))) : Prop where
  out : w.ownsRow B LS 1 v rows.length vals
  ne : ∀ (k : Nat) r, rows[k]? = some r → r ≠ []
  row : ∀ (k : Nat) r, rows[k]? = some r → ∃ u, vals[k]? = some u ∧ w.ownsRow B S sz u r.length r.flatten ∧ u.ownBlock ≠ v.ownBlock
  apart : ∀ (j k : Nat) x y, j ≠ k → vals[j]? = some x → vals[k]? = some y → x.ownBlock ≠ y.ownBlock
structure FamO (w : World) (B LS S sz : Nat) (v : Value) (vals : List Value) (rows : List (List (List Value))) (u : Value) (r : List (List Value)) : Prop where
  out : w.ownsRow B LS 1 v (rows.length + 1) (vals ++ [u])
  ne : ∀ (k : Nat) r, rows[k]? = some r → r ≠ []
  row : ∀ (k : Nat) r, rows[k]? = some r → ∃ u, vals[k]? = some u ∧ w.ownsRow B S sz u r.length r.flatten ∧ u.ownBlock ≠ v.ownBlock
  apart : ∀ (j k : Nat) x y, j ≠ k → vals[j]? = some x → vals[k]? = some y → x.ownBlock ≠ y.ownBlock
  last : w.ownsRow B S sz u r.length r.flatten
  lastV : u.ownBlock ≠ v.ownBlock
  lastR : u.ownBlock = none ∨ ∀ (k : Nat) x, vals[k]? = some x → x.ownBlock ≠ u.ownBlock
theorem Fam.nil (w : World) (B LS S sz : Nat) : Fam w B LS S sz (.slice none 0 0) [] [] :=
  ⟨World.ownsRow_nil _ _ _ _, fun k r h => by simp at h, fun k r h => by simp at h, fun j k x y _ h => by simp at h⟩
theorem Fam.own_of {w : World} {B LS S sz : Nat} {v : Value} {vals : List Value} {rows : List (List (List Value))} (h : Fam w B LS S sz v vals rows) {k : Nat} {x : Value} (hx : vals[k]? = some x) :
    ∃ r, rows[k]? = some r ∧ w.ownsRow B S sz x r.length r.flatten ∧ x.ownBlock ≠ v.ownBlock ∧ ∃ g cap, x = .slice (some ⟨g, 0, none⟩) r.length cap ∧ B ≤ g ∧ g < w.heap.size := by
  have hl : vals.length = rows.length := by have := h.out.1; simpa using this
  have hk : k < rows.length := by rw [← hl]; exact (List.getElem?_eq_some_iff.1 hx).1
  obtain ⟨u, h1, h2, h3⟩ := h.row k _ (List.getElem?_eq_getElem hk)
  rw [hx] at h1
  cases h1
  have hn := h.ne k _ (List.getElem?_eq_getElem hk)
  exact ⟨_, List.getElem?_eq_getElem hk, h2, h3, h2.form (List.length_pos_iff.2 hn)⟩
theorem Fam.keep {w w' : World} {B LS S sz : Nat} {v : Value} {vals : List Value} {rows : List (List (List Value))} (h : Fam w B LS S sz v vals rows) (hb : ∀ k, k < w.heap.size → w'.heap[k]? = w.heap[k]?) : Fam w' B LS S sz v vals rows :=
  ⟨own_keep h.out fun k hk => hb k (own_lt h.out hk), h.ne, fun k r hr => by
    obtain ⟨u, h1, h2, h3⟩ := h.row k r hr
    exact ⟨u, h1, own_keep h2 fun j hj => hb j (own_lt h2 hj), h3⟩, h.apart⟩
theorem FamO.keep {w w' : World} {B LS S sz : Nat} {v : Value} {vals : List Value} {rows : List (List (List Value))} {u : Value} {r : List (List Value)} (h : FamO w B LS S sz v vals rows u r) (hb : ∀ k, k < w.heap.size → w'.heap[k]? = w.heap[k]?) : FamO w' B LS S sz v vals rows u r :=
  ⟨own_keep h.out fun k hk => hb k (own_lt h.out hk), h.ne, fun k r hr => by
    obtain ⟨u, h1, h2, h3⟩ := h.row k r hr
    exact ⟨u, h1, own_keep h2 fun j hj => hb j (own_lt h2 hj), h3⟩, h.apart, own_keep h.last fun j hj => hb j (own_lt h.last hj), h.lastV, h.lastR⟩
theorem Fam.reopen {w : World} {B LS S sz : Nat} {v : Value} {vals : List Value} {rows : List (List (List Value))} (h : Fam w B LS S sz v vals rows) (hne : rows ≠ []) :
    ∃ vals' rows' u r, vals = vals' ++ [u] ∧ rows = rows' ++ [r] ∧ FamO w B LS S sz v vals' rows' u r := by
  have hl : vals.length = rows.length := by have := h.out.1; simpa using this
  obtain ⟨rows', r, rfl⟩ : ∃ a b, rows = a ++ [b] := ⟨rows.dropLast, rows.getLast hne, (List.dropLast_concat_getLast hne).symm⟩
  have hvne : vals ≠ [] := by intro e; rw [e] at hl; simp at hl
  obtain ⟨vals', u, rfl⟩ : ∃ a b, vals = a ++ [b] := ⟨vals.dropLast, vals.getLast hvne, (List.dropLast_concat_getLast hvne).symm⟩
  have hl' : vals'.length = rows'.length := by simpa using hl
  have ev : ∀ (k : Nat) (x : Value), vals'[k]? = some x → (vals' ++ [u])[k]? = some x := fun k x hx => by rw [List.getElem?_append_left (List.getElem?_eq_some_iff.1 hx).1]; exact hx
  have er : ∀ (k : Nat) (x : List (List Value)), rows'[k]? = some x → (rows' ++ [r])[k]? = some x := fun k x hx => by rw [List.getElem?_append_left (List.getElem?_eq_some_iff.1 hx).1]; exact hx
  have lv : (vals' ++ [u])[vals'.length]? = some u := by simp
  have lr : (rows' ++ [r])[rows'.length]? = some r := by simp
  obtain ⟨u', h1, h2, h3⟩ := h.row _ r lr
  rw [← hl', lv] at h1
  cases h1
  refine ⟨vals', rows', u, r, rfl, rfl, ⟨?_, fun k r' hr => h.ne k r' (er k r' hr), fun k r' hr => ?_, fun j k x y hjk hx hy => h.apart j k x y hjk (ev j x hx) (ev k y hy), h2, h3, .inr fun k x hx => ?_⟩⟩
  · have := h.out
    simpa using this
  · obtain ⟨x, g1, g2, g3⟩ := h.row k r' (er k r' hr)
    refine ⟨x, ?_, g2, g3⟩
    have hk : k < vals'.length := by rw [hl']; exact (List.getElem?_eq_some_iff.1 hr).1
    rw [List.getElem?_append_left hk] at g1
    exact g1
  · have hk := (List.getElem?_eq_some_iff.1 hx).1
    exact h.apart k vals'.length x u (by omega) (ev k x hx) lv
theorem Fam.open_ {w w1 : World} {B LS S sz : Nat} {v v1 : Value} {g cap : Nat} {vals : List Value} {rows : List (List (List Value))} (h : Fam w B LS S sz v vals rows)
    (hv : v1 = .slice (some ⟨g, 0, none⟩) (rows.length + 1) cap) (hown : w1.ownsRow B LS 1 v1 (rows.length + 1) (vals ++ [.slice none 0 0])) (hg : w.grownBy w1 v.ownBlock) (hat : v.ownBlock = some g ∨ g = w.heap.size) :
    FamO w1 B LS S sz v1 vals rows (.slice none 0 0) [] := by
  subst hv
  refine ⟨hown, h.ne, fun k r hr => ?_, h.apart, World.ownsRow_nil _ _ _ _, (fun e => by cases e), .inl rfl⟩
  obtain ⟨u, h1, h2, h3⟩ := h.row k r hr
  refine ⟨u, h1, h2.kept hg (.inr h3), ?_⟩
  intro e
  have e : u.ownBlock = some g := e
  rcases hat with hat | hat
  · exact h3 (by rw [e, hat])
  · have := own_lt h2 e; omega
theorem FamO.close {w w1 : World} {B LS S sz : Nat} {v u u1 : Value} {gv capv gu capu : Nat} {vals : List Value} {rows : List (List (List Value))} {r : List (List Value)} {e : List Value} (h : FamO w B LS S sz v vals rows u r)
    (hv : v = .slice (some ⟨gv, 0, none⟩) (rows.length + 1) capv) (hu : u1 = .slice (some ⟨gu, 0, none⟩) (r.length + 1) capu)
    (hown : w1.ownsRow B S sz u1 (r.length + 1) (r.flatten ++ e)) (hg : w.grownBy w1 u.ownBlock) (hat : u.ownBlock = some gu ∨ gu = w.heap.size) :
    Fam (w1.setCell ⟨gv, rows.length, none⟩ u1) B LS S sz v (vals ++ [u1]) (rows ++ [r ++ [e]]) := by
  subst hv; subst hu
  have hl : vals.length = rows.length := by have := h.out.1; simp at this; omega
  have hvlt : gv < w.heap.size := own_lt h.out rfl
  have hgv : gu ≠ gv := by
    intro e1
    subst e1
    rcases hat with hat | hat
    · exact h.lastV hat
    · omega
  have hout1 : w1.ownsRow B LS 1 (.slice (some ⟨gv, 0, none⟩) (rows.length + 1) capv) (rows.length + 1) (vals ++ [u]) := h.out.kept hg (.inr fun e1 => h.lastV e1.symm)
  obtain ⟨hout2, hg2⟩ := hout1.stored rows.length (.slice (some ⟨gu, 0, none⟩) (r.length + 1) capu)
  have eset : (vals ++ [u]).set rows.length (.slice (some ⟨gu, 0, none⟩) (r.length + 1) capu) = vals ++ [.slice (some ⟨gu, 0, none⟩) (r.length + 1) capu] := by
    rw [← hl]; simp
  rw [eset] at hout2
  have lv : ∀ x : Value, (vals ++ [x])[vals.length]? = some x := fun x => by simp
  have apartU : ∀ (k : Nat) (x : Value), vals[k]? = some x → x.ownBlock ≠ some gu := by
    intro k x hx e1
    rcases h.lastR with h0 | h0
    · rcases hat with hat | hat
      · rw [h0] at hat; cases hat
      · have hk : k < rows.length := by rw [← hl]; exact (List.getElem?_eq_some_iff.1 hx).1
        obtain ⟨u', g1, g2, g3⟩ := h.row k _ (List.getElem?_eq_getElem hk)
        rw [hx] at g1; cases g1
        have := own_lt g2 e1; omega
    · rcases hat with hat | hat
      · exact h0 k x hx (by rw [e1, hat])
      · have hk : k < rows.length := by rw [← hl]; exact (List.getElem?_eq_some_iff.1 hx).1
        obtain ⟨u', g1, g2, g3⟩ := h.row k _ (List.getElem?_eq_getElem hk)
        rw [hx] at g1; cases g1
        have := own_lt g2 e1; omega
  refine ⟨by simpa using hout2, fun k r' hr => ?_, fun k r' hr => ?_, fun j k x y hjk hx hy => ?_⟩
  · rcases Nat.lt_or_ge k rows.length with hk | hk
    · rw [List.getElem?_append_left hk] at hr; exact h.ne k r' hr
    · rw [List.getElem?_append_right hk] at hr
      have : k - rows.length = 0 := by
        rcases Nat.eq_zero_or_pos (k - rows.length) with hz | hz
        · exact hz
        · rw [List.getElem?_eq_none (by simp; omega)] at hr; cases hr
      rw [this] at hr
      simp at hr
      subst hr
      simp
  · rcases Nat.lt_or_ge k rows.length with hk | hk
    · rw [List.getElem?_append_left hk] at hr
      obtain ⟨x, g1, g2, g3⟩ := h.row k r' hr
      refine ⟨x, by rw [List.getElem?_append_left (by omega)]; exact g1, ?_, g3⟩
      have hux : x.ownBlock = none ∨ x.ownBlock ≠ u.ownBlock := by
        rcases h.lastR with h0 | h0
        · rw [h0]
          cases hx : x.ownBlock with
          | none => exact .inl rfl
          | some y => exact .inr (by simp)
        · exact .inr (h0 k x g1)
      have g4 := g2.kept hg hux
      exact g4.kept hg2 (.inr g3)
    · rw [List.getElem?_append_right hk] at hr
      have hk0 : k - rows.length = 0 := by
        rcases Nat.eq_zero_or_pos (k - rows.length) with hz | hz
        · exact hz
        · rw [List.getElem?_eq_none (by simp; omega)] at hr; cases hr
      rw [hk0] at hr
      simp at hr
      subst hr
      refine ⟨_, by rw [show k = vals.length by omega]; exact lv _, ?_, fun e1 => hgv (by simpa [Value.ownBlock] using e1)⟩
      have := hown.kept hg2 (.inr fun e1 => hgv (by simpa [Value.ownBlock] using e1))
      simpa using this
  · rcases Nat.lt_or_ge j vals.length with hj | hj
    · rw [List.getElem?_append_left hj] at hx
      rcases Nat.lt_or_ge k vals.length with hk | hk
      · rw [List.getElem?_append_left hk] at hy
        exact h.apart j k x y hjk hx hy
      · rw [List.getElem?_append_right hk] at hy
        have hy : y = .slice (some ⟨gu, 0, none⟩) (r.length + 1) capu := by
          rcases Nat.eq_zero_or_pos (k - vals.length) with hz | hz
          · rw [hz] at hy; simp at hy; exact hy.symm
          · rw [List.getElem?_eq_none (by simp; omega)] at hy; cases hy
        subst hy
        exact apartU j x hx
    · rw [List.getElem?_append_right hj] at hx
      have hx : x = .slice (some ⟨gu, 0, none⟩) (r.length + 1) capu ∧ j = vals.length := by
        rcases Nat.eq_zero_or_pos (j - vals.length) with hz | hz
        · rw [hz] at hx; simp at hx; exact ⟨hx.symm, by omega⟩
        · rw [List.getElem?_eq_none (by simp; omega)] at hx; cases hx
      obtain ⟨rfl, rfl⟩ := hx
      have hk : k < vals.length := by
        rcases Nat.lt_or_ge k vals.length with hk | hk
        · exact hk
        · rw [List.getElem?_append_right hk] at hy
          rw [List.getElem?_eq_none (by simp; omega)] at hy; cases hy
      rw [List.getElem?_append_left hk] at hy
      exact fun e1 => apartU k y hy e1.symm
end Go.Aw
namespace Go.Aw
def addLast {α : Type} (out : List (List α)) (s : α) : List (List α) := match out.getLast? with
  | some r => out.dropLast ++ [r ++ [s]]
  | none => [[s]]
def rowStep {α : Type} (key : α → Int) (st : List (List α) × Option α) (s : α) : List (List α) × Option α :=
  (if st.2.map key = some (key s) then addLast st.1 s else st.1 ++ [[s]], some s)
def rowsOf {α : Type} (key : α → Int) (l : List α) : List (List α) := (l.foldl (rowStep key) ([], none)).1
theorem fold_prev {α : Type} (key : α → Int) (l : List α) : (l.foldl (rowStep key) ([], none)).2 = l.getLast? := by
  rcases List.eq_nil_or_concat l with rfl | ⟨m, s, rfl⟩
  · rfl
  · simp [rowStep]
theorem rowsOf_snoc {α : Type} (key : α → Int) (l : List α) (s : α) : rowsOf key (l ++ [s]) = if l.getLast?.map key = some (key s) then addLast (rowsOf key l) s else rowsOf key l ++ [[s]] := by
  unfold rowsOf
  rw [List.foldl_append]
  simp only [List.foldl_cons, List.foldl_nil, rowStep]
  rw [fold_prev]
theorem addLast_snoc {α : Type} (a : List (List α)) (r : List α) (s : α) : addLast (a ++ [r]) s = a ++ [r ++ [s]] := by simp [addLast]
theorem rowsOf_nil {α : Type} (key : α → Int) : rowsOf key [] = [] := rfl
theorem rowsOf_ne {α : Type} (key : α → Int) (l : List α) (h : l ≠ []) : rowsOf key l ≠ [] := by
  obtain ⟨m, s, rfl⟩ : ∃ m s, l = m ++ [s] := ⟨l.dropLast, l.getLast h, (List.dropLast_concat_getLast h).symm⟩
  rw [rowsOf_snoc]
  split
  · unfold addLast
    split <;> simp
  · simp
theorem addLast_map {α β : Type} (f : α → β) (out : List (List α)) (s : α) : (addLast out s).map (List.map f) = addLast (out.map (List.map f)) (f s) := by
  rcases List.eq_nil_or_concat out with rfl | ⟨a, r, rfl⟩
  · rfl
  · simp [addLast]
theorem rowsOf_lenN {α : Type} (key : α → Int) : ∀ (n : Nat) (l : List α), l.length = n → (rowsOf key l).length ≤ l.length ∧ ∀ r ∈ rowsOf key l, r.length ≤ l.length
  | 0, l, hn => by
    have : l = [] := List.length_eq_zero_iff.1 hn
    subst this
    simp [rowsOf_nil]
  | n + 1, l, hn => by
    have hne : l ≠ [] := by intro e; rw [e] at hn; simp at hn
    obtain ⟨m, s, rfl⟩ : ∃ m s, l = m ++ [s] := ⟨l.dropLast, l.getLast hne, (List.dropLast_concat_getLast hne).symm⟩
    have ih := rowsOf_lenN key n m (by simpa using hn)
    rw [rowsOf_snoc]
    rw [List.length_append, List.length_singleton]
    generalize rowsOf key m = R at *
    have add : (R ++ [[s]]).length ≤ m.length + 1 ∧ ∀ r ∈ R ++ [[s]], r.length ≤ m.length + 1 := by
      refine ⟨by simp; omega, fun r' hr' => ?_⟩
      rcases List.mem_append.1 hr' with hr' | hr'
      · have := ih.2 r' hr'; omega
      · simp at hr'; subst hr'; simp
    split
    · rcases List.eq_nil_or_concat R with h0 | ⟨a, r, h0⟩
      · rw [h0] at add ⊢
        exact add
      · rw [h0, List.concat_eq_append] at ih ⊢
        rw [addLast_snoc]
        refine ⟨by have := ih.1; simp at this ⊢; omega, fun r' hr' => ?_⟩
        rcases List.mem_append.1 hr' with hr' | hr'
        · have := ih.2 r' (List.mem_append.2 (.inl hr')); omega
        · simp at hr'; subst hr'
          have := ih.2 r (by simp)
          simp; omega
    · exact add
theorem rowsOf_len {α : Type} (key : α → Int) (l : List α) : (rowsOf key l).length ≤ l.length ∧ ∀ r ∈ rowsOf key l, r.length ≤ l.length := rowsOf_lenN key _ l rfl
abbrev SegT := Int × (Int × (Int × (Int × (Int × Int))))
def segC (s : SegT) : List Value := [.int .i64 s.1, .int .i64 s.2.1, .int .i64 s.2.2.1, .int .i64 s.2.2.2.1, .int .i64 s.2.2.2.2.1, .int .i64 s.2.2.2.2.2]
def rowsC (l : List SegT) : List (List (List Value)) := (rowsOf Prod.fst l).map (List.map segC)
end Go.Aw
namespace Go.Aw
open Go.RowKit Go.Proofs
variable {P : Program} {tf tw : TypeId}
abbrev segTy : Ty := .pair (.int .i64) (.pair (.int .i64) (.pair (.int .i64) (.pair (.int .i64) (.pair (.int .i64) (.int .i64)))))
theorem segC_rep {w : World} {fr : Addr → Prop} {x : SegT} {us : List Value} (h : RepT w fr segTy x us) : us = segC x := by
  obtain ⟨_, _, rfl, rfl, _, _, rfl, rfl, _, _, rfl, rfl, _, _, rfl, rfl, _, _, rfl, rfl, rfl⟩ := h
  rfl
theorem rep_segC {w : World} {fr : Addr → Prop} (x : SegT) : RepT w fr segTy x (segC x) :=
  ⟨_, _, rfl, rfl, _, _, rfl, rfl, _, _, rfl, rfl, _, _, rfl, rfl, _, _, rfl, rfl, rfl⟩
theorem flat6 : ∀ (r : List SegT) (i : Nat) (s : SegT), r[i]? = some s → ∀ j u, (segC s)[j]? = some u → (r.map segC).flatten[i * 6 + j]? = some u
  | [], i, s, h => by simp at h
  | x :: r, 0, s, h => by
    simp at h; subst h
    intro j u hu
    rw [Nat.zero_mul, Nat.zero_add, List.map_cons, List.flatten_cons, List.getElem?_append_left (List.getElem?_eq_some_iff.1 hu).1]
    exact hu
  | x :: r, i + 1, s, h => by
    intro j u hu
    have := flat6 r i s (by simpa using h) j u hu
    rw [List.map_cons, List.flatten_cons, List.getElem?_append_right (by simp [segC]; omega)]
    rw [show (i + 1) * 6 + j - (segC x).length = i * 6 + j by simp [segC]; omega]
    exact this
theorem Fam.repS {w' : World} {B LS S : Nat} {v : Value} {vals : List Value} {l : List SegT} (h : Fam w' B LS S 6 v vals (rowsC l)) :
    RepS w' (fun a => B ≤ a.block ∧ a.block < w'.heap.size) (fun (r : List SegT) us => RepS w' (fun a => B ≤ a.block ∧ a.block < w'.heap.size) (fun (s : SegT) us => RepT w' (fun a => B ≤ a.block ∧ a.block < w'.heap.size) segTy s us) 6 r us) 1 (rowsOf Prod.fst l) [v] := by
  have hlen : (rowsC l).length = (rowsOf Prod.fst l).length := by unfold rowsC; rw [List.length_map]
  rcases h.out.2 with ⟨hv, hn⟩ | ⟨g, cap, cur, hv, hg, hc, h1, h2, h3, h4⟩
  · have : rowsOf Prod.fst l = [] := List.length_eq_zero_iff.1 (by rw [← hlen]; exact hn)
    rw [this, hv]
    exact ⟨none, 0, rfl, Nat.le_refl _, fun h => absurd rfl h⟩
  · have hglt : g < w'.heap.size := by
      by_cases hlt : g < w'.heap.size
      · exact hlt
      · rw [Array.getElem?_eq_none (by omega)] at hc; cases hc
    refine ⟨some ⟨g, 0, none⟩, cap, by rw [hv, hlen], by rw [← hlen]; exact h1, fun _ => ⟨_, rfl, fun i r hr => ?_⟩⟩
    have hrC : (rowsC l)[i]? = some (r.map segC) := by unfold rowsC; rw [List.getElem?_map, hr]; rfl
    obtain ⟨x, hx, hown, hxv⟩ := h.row i _ hrC
    refine ⟨[x], ?_, ?_⟩
    · have hne := h.ne i _ hrC
      rcases hown.2 with ⟨_, h0⟩ | ⟨g', cap', cur', hx', hg', hc', k1, k2, k3, k4⟩
      · exact absurd (List.length_eq_zero_iff.1 h0) hne
      · have hglt' : g' < w'.heap.size := by
          by_cases hlt : g' < w'.heap.size
          · exact hlt
          · rw [Array.getElem?_eq_none (by omega)] at hc'; cases hc'
        have el : (r.map segC).length = r.length := List.length_map _
        refine ⟨some ⟨g', 0, none⟩, cap', by rw [hx', el], by rw [← el]; exact k1, fun _ => ⟨_, rfl, fun j s hs => ⟨segC s, rep_segC s, fun m u hu => ?_⟩⟩⟩
        rw [add_add, add_plain]
        refine ⟨⟨hg', hglt'⟩, ?_⟩
        have := hown.cells (g := g') (by rw [hx']; rfl) (j * 6 + m) u (flat6 r j s hs m u hu)
        rw [add_plain] at this
        exact this
    · intro m u hu
      match m, hu with
      | 0, hu =>
        cases hu
        rw [add_zero, Nat.mul_one, add_plain]
        refine ⟨⟨hg, hglt⟩, ?_⟩
        have := h.out.cells (g := g) (by rw [hv]; rfl) i x hx
        rw [add_plain] at this
        exact this
theorem Fam.rep {w' : World} {B LS S : Nat} {v : Value} {vals : List Value} {l : List SegT} (h : Fam w' B LS S 6 v vals (rowsC l)) :
    RepT w' (fun a => B ≤ a.block ∧ a.block < w'.heap.size) (.list (.list segTy)) (rowsOf (α := SegT) Prod.fst l) [v] := h.repS
def rowsEnt : Entry := fun args blks k _ => match args with
  | [d0] => aFz segTy d0 fun l => List.length (α := SegT) l ≤ 1000000 ∧ k (.fz (.list segTy) (rowsOf (α := SegT) Prod.fst l)) blks
  | _ => False
theorem rows_ok {f : FuncId} {fn : Func} {LS S : Nat} (hf : P.funcs[f]? = some fn) (hn : (fn.name == "runtime.NumGoroutine") = false) (hb : fn.body.isNone = false)
    (run : ∀ (w : World) (a : Option Addr) (l : List SegT) (cap : Nat) (hf : l ≠ [] → ∃ pb po, a = some ⟨pb, po, none⟩ ∧ pb < w.heap.size ∧ ∀ (i : Nat) s, l[i]? = some s → ∀ (j : Nat) u, (segC s)[j]? = some u → w.cell? ⟨pb, po + (i * 6 + j), none⟩ = some u) (hl : l.length ≤ 1000000),
      Calls P f #[.slice a l.length cap] w fun ev w' => ∃ v vals, ev = .returned v ∧ Below w.heap.size w w' ∧ Fam w' w.heap.size LS S 6 v vals (rowsC l)) :
    EntOk P tf tw f rowsEnt := by
  have elim : ∀ {args blks k kp}, rowsEnt args blks k kp → ∃ l : List SegT, args = [.fz segTy l] ∧ l.length ≤ 1000000 ∧ k (.fz (.list segTy) (rowsOf Prod.fst l)) blks := by
    intro args blks k kp h
    unfold rowsEnt at h
    split at h
    · have h9 := aFz_elim h; clear h; obtain ⟨l, rfl, h⟩ := h9
      exact ⟨l, rfl, h.1, h.2⟩
    · exact h.elim
  refine EntOk.made ?_ ⟨fn, hf, hn, hb⟩ ?_
  · intro args blks k kp h
    have h9 := elim h; clear h; obtain ⟨l, rfl, hl, h⟩ := h9
    refine .inl ⟨_, _, h, fun k' kp' h' => ?_⟩
    unfold rowsEnt aFz
    exact ⟨hl, h'⟩
  · intro c args us k kp hT hr H h
    have h9 := elim h; clear h; obtain ⟨l, rfl, hl, h⟩ := h9
    simp only [RepL] at hr
    obtain ⟨u0, _, rfl, r0, rfl⟩ := hr
    simp only [Rep] at r0
    obtain ⟨A, cap, hu, hc, hel⟩ := r0
    cases hu
    refine ⟨_, h, (run c.w A l cap (fun hne => ?_) hl).mono ?_⟩
    · obtain ⟨a, rfl, hel2⟩ := hel hne
      clear hel
      obtain ⟨s0, hs0⟩ : ∃ s0, l[0]? = some s0 := by
        cases l with
        | nil => exact absurd rfl hne
        | cons x r => exact ⟨x, rfl⟩
      obtain ⟨us0, hrep0, hat0⟩ := hel2 0 s0 hs0
      have e0 := segC_rep hrep0
      subst e0
      have h0 := hat0 0 _ rfl
      rw [add_zero, show (0 : Nat) * segTy.size = 0 from Nat.zero_mul _, add_zero] at h0
      obtain ⟨e, _⟩ := spot_none h0.2
      have hlt := H.frin _ h0.1
      rw [e] at hel2 ⊢
      refine ⟨_, _, rfl, by rw [e] at hlt; exact hlt, fun i s hs j u hu => ?_⟩
      obtain ⟨us, hrep, hat⟩ := hel2 i s hs
      have e1 := segC_rep hrep
      subst e1
      have := (hat j u hu).2
      rw [add_add, add_flat] at this
      exact this
    · rintro ex w' ⟨v, vals, rfl, hbl, hF⟩
      refine ⟨_, rfl, hbl, ?_⟩
      simp only [Rep]
      exact hF.rep.ext fun a ha => ⟨.inr ha, rfl⟩
end Go.Aw

