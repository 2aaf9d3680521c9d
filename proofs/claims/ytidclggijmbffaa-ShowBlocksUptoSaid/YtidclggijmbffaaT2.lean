/- Words for the proof of the statement: plain data in place of memory. -/
import Derived.Test.YtidclggijmbffaaT1
import Derived.Carry
import Derived.OpenShut
import Derived.Deep.Slices
import Derived.SizedLaws
import Derived.Shelf.Strings.Builder1
import Derived.Shelf.Strings.OnBuilder
import Derived.Shelf.Strings.Count
import Derived.Shelf.Strings.Search2
namespace Go.Aw
open Go.RowKit Go.ChangeShapes
set_option linter.unusedVariables false

/-! ### What a law is given -/
/-- The bytes that a datum takes, at the least. -/
def Ty.bytes : Ty → Nat
  | .int k => k.bits / 8
  | .bool => 1
  | .str => 16
  | .list _ => 24
  | .pair a b => a.bytes + b.bytes

/-- What is known of what a law is given. -/
def Ty.Wf : (t : Ty) → t.den → Prop
  | .int k, x => (Lit.int k x).wf = true
  | .bool, _ => True
  | .str, x => x.size ≤ reachBytes
  | .list t, l => @List.length t.den l * t.bytes ≤ reachBytes ∧ ∀ x : t.den, @List.Mem t.den x l → t.Wf x
  | .pair a b, x => a.Wf x.1 ∧ b.Wf x.2

/-- How many values and letters a datum has. -/
def Ty.bulk : (t : Ty) → t.den → Nat
  | .int _, _ => 1
  | .bool, _ => 1
  | .str, x => x.size + 1
  | .list t, l => (@List.map t.den Nat t.bulk l).sum + 1
  | .pair a b, x => a.bulk x.1 + b.bulk x.2

/-- What counts values and letters. -/
structure BulkF {H : Type} (B : DataW H → Nat) : Prop where
  one : ∀ d, 1 ≤ B d
  str : ∀ bytes, bytes.length + 1 ≤ B (.lit (.string bytes))
  slice : ∀ es sp, (es.map B).sum + 1 ≤ B (.slice es sp)
  agg : ∀ ps, (ps.map B).sum ≤ B (.agg ps)

mutual
/-- Is a type of the program of this kind? -/
def isT (P : Program) : Nat → Ty → TypeId → Bool
  | 0, _, _ => false
  | n + 1, ty, t => Nat.beq (P.cellsOf t) ty.size && Nat.ble ty.bytes (P.bytesOf t) && (match P.underlying t with
    | some (.int k) => (match ty with | .int k' => k == k' | _ => false)
    | some .bool => (match ty with | .bool => true | _ => false)
    | some .string => (match ty with | .str => true | _ => false)
    | some (.slice e) => (match ty with | .list te => isT P n te e | _ => false)
    | some (.struct fs) => isFs P n ty 0 fs.toList
    | some (.array m e) => isAr P n ty 0 (P.cellsOf e) e m
    | _ => false)
def isFs (P : Program) : Nat → Ty → Nat → List Field → Bool
  | 0, _, _, _ => false
  | n + 1, ty, off, [] => false
  | n + 1, ty, off, [f] => Nat.beq f.offset off && isT P n ty f.type
  | n + 1, ty, off, f :: r => match ty with
    | .pair a b => Nat.beq f.offset off && isT P n a f.type && isFs P n b (off + a.size) r
    | _ => false
/-- An array, of so many from the i-th on. -/
def isAr (P : Program) : Nat → Ty → Nat → Nat → TypeId → Nat → Bool
  | 0, _, _, _, _, _ => false
  | n + 1, ty, i, sz, e, 0 => false
  | n + 1, ty, i, sz, e, 1 => isT P n ty e
  | n + 1, ty, i, sz, e, m + 2 => match ty with
    | .pair a b => isT P n a e && isAr P n b (i + 1) sz e (m + 1)
    | _ => false
end

def inW (W : World) : Addr → Prop := fun a => a.block < W.heap.size

theorem cells_at {W : World} {a : Addr} {n : Nat} {cs : List Value} (h : W.cells? 0 a n = some cs) : At W (inW W) a cs := by
  unfold World.cells? at h
  rw [if_pos (Nat.zero_le _)] at h
  intro j u hj
  have hlen := mapM_some_length h
  have hjn : j < n := by
    have := List.getElem?_eq_some_iff.1 hj
    obtain ⟨h1, _⟩ := this
    simp at hlen
    omega
  have hc := mapM_some_get h j j (by simp [hjn])
  rw [hj] at hc
  refine ⟨?_, hc⟩
  unfold World.cell? at hc
  unfold inW
  by_cases hb : (a.add j).block < W.heap.size
  · exact hb
  · rw [Array.getElem?_eq_none (by omega)] at hc
    simp at hc

theorem choose_list {α β : Type} {R : α → β → Prop} : ∀ {n : Nat} (f : Nat → β), (∀ i, i < n → ∃ x, R x (f i)) → ∃ l : List α, l.length = n ∧ ∀ i x, l[i]? = some x → R x (f i)
  | 0, f, _ => ⟨[], rfl, fun i x h => by simp at h⟩
  | n + 1, f, h => by
    obtain ⟨x, hx⟩ := h 0 (Nat.succ_pos _)
    obtain ⟨l, hl, hr⟩ := choose_list (n := n) (fun i => f (i + 1)) fun i hi => h (i + 1) (by omega)
    refine ⟨x :: l, by simp [hl], fun i y hy => ?_⟩
    cases i with
    | zero => simp at hy; subst hy; exact hx
    | succ i => exact hr i y (by simpa using hy)

section
variable {H : Type} {enc : TypeId × Value → H} {P : Program} {W : World}

abbrev trd (enc : TypeId × Value → H) (P : Program) (W : World) (fuel : Nat) (t : TypeId) (cs : List Value) := DataW.trod enc P W 0 (fun _ => true) true fuel t cs

/-- What an argument's cells stand for. -/
def Opens (enc : TypeId × Value → H) (P : Program) (W : World) (n : Nat) : Prop := ∀ (ty : Ty) (t : TypeId) (fuel : Nat) (cs : List Value) (d : DataW H) (ps : List MemPlace), isT P n ty t = true → trd enc P W fuel t cs = some (d, ps) →
  (∀ m ∈ d.weights P t, m ≤ reachBytes) → ∃ x : ty.den, RepT W (inW W) ty x cs ∧ ty.Wf x ∧ cs.length = ty.size ∧ ∀ B : DataW H → Nat, BulkF B → ty.bulk x ≤ B d

theorem weightsAll_mem {e : TypeId} {l : List (DataW H)} {d : DataW H} {m : Nat} (hd : d ∈ l) (hm : m ∈ d.weights P e) : m ∈ DataW.weightsAll P e l := by
  induction l with
  | nil => cases hd
  | cons x r ih =>
    simp only [DataW.weightsAll, List.mem_append]
    rcases List.mem_cons.1 hd with rfl | h
    · exact .inl hm
    · exact .inr (ih h)

theorem fields_open {n : Nat} (ih : ∀ m, m ≤ n → Opens enc P W m) : ∀ (fs : List Field) (k : Nat), k ≤ n + 1 → ∀ (ty : Ty) (off fuel : Nat) (cs : List Value) (xs : List (DataW H × List MemPlace)), isFs P k ty off fs = true →
    (∀ (i : Nat) (f : Field), fs[i]? = some f → trd enc P W fuel f.type ((cs.drop f.offset).take (P.cellsOf f.type)) = xs[i]?) → xs.length = fs.length → (∀ m ∈ DataW.weightsEach P (fs.map (·.type)) (xs.map (·.1)), m ≤ reachBytes) →
    cs.length = off + ty.size → ∃ x : ty.den, RepT W (inW W) ty x (cs.drop off) ∧ ty.Wf x ∧ ∀ B : DataW H → Nat, BulkF B → ty.bulk x ≤ (xs.map (fun y => B y.1)).sum
  | [], k, hk, ty, off, fuel, cs, xs, h, hm, hxl, hw, hl => by
    cases k with
    | zero => simp [isFs] at h
    | succ k => simp [isFs] at h
  | [f], k, hk, ty, off, fuel, cs, xs, h, hm, hxl, hw, hl => by
    cases k with
    | zero => simp [isFs] at h
    | succ k =>
      simp only [isFs, Bool.and_eq_true] at h
      obtain ⟨h1, h2⟩ := h
      have e1 : f.offset = off := Nat.eq_of_beq_eq_true h1
      have hy := hm 0 f rfl
      match xs, hxl, hy, hw with
      | [y], _, hy, hw =>
        obtain ⟨x, r, w, l, bk⟩ := ih k (by omega) ty f.type fuel _ y.1 y.2 h2 hy (fun m hm => hw m (by simp [DataW.weightsEach, hm]))
        rw [e1] at r l
        have : (cs.drop off).length = ty.size := by simp; omega
        have e2 : (cs.drop off).take (P.cellsOf f.type) = cs.drop off := by
          have hlt : ((cs.drop off).take (P.cellsOf f.type)).length = (cs.drop off).length := by rw [l, this]
          exact List.take_of_length_le (by rw [List.length_take] at hlt; omega)
        rw [e2] at r
        exact ⟨x, r, w, fun B hB => by simpa using bk B hB⟩
  | f :: g :: r, k, hk, ty, off, fuel, cs, xs, h, hm, hxl, hw, hl => by
    cases k with
    | zero => simp [isFs] at h
    | succ k =>
      cases ty with
      | pair a b =>
        simp only [isFs, Bool.and_eq_true] at h
        obtain ⟨⟨h1, h2⟩, h3⟩ := h
        have e1 : f.offset = off := Nat.eq_of_beq_eq_true h1
        match xs, hxl, hm, hw with
        | y :: ys, hxl, hm, hw =>
          obtain ⟨x, rx, wx, lx, bx⟩ := ih k (by omega) a f.type fuel _ y.1 y.2 h2 (hm 0 f rfl) (fun m hm => hw m (by simp [DataW.weightsEach, hm]))
          obtain ⟨z, rz, wz, bz⟩ := fields_open ih (g :: r) k (by omega) b (off + a.size) fuel cs ys h3 (fun i f' hf => hm (i + 1) f' hf) (by simpa using hxl) (fun m hm => hw m (by
            simp only [List.map_cons, DataW.weightsEach, List.mem_append] at hm ⊢
            exact .inr hm)) (by simp only [Ty.size] at hl; omega)
          have hc : P.cellsOf f.type = a.size := by
            cases k with
            | zero => simp [isT] at h2
            | succ k =>
              unfold isT at h2
              simp only [Bool.and_eq_true] at h2
              exact Nat.eq_of_beq_eq_true h2.1.1
          refine ⟨(x, z), ⟨(cs.drop off).take a.size, cs.drop (off + a.size), ?_, ?_, rz⟩, ⟨wx, wz⟩, fun B hB => by
            rw [List.map_cons, List.sum_cons]
            exact Nat.add_le_add (bx B hB) (bz B hB)⟩
          · rw [← List.drop_drop, List.take_append_drop]
          · rw [e1, hc] at rx
            exact rx
      | _ => simp [isFs] at h

theorem array_open {n : Nat} (ih : ∀ m, m ≤ n → Opens enc P W m) : ∀ (m : Nat) (k : Nat), k ≤ n + 1 → ∀ (ty : Ty) (i : Nat) (e : TypeId) (fuel : Nat) (cs : List Value) (xs : List (DataW H × List MemPlace)), isAr P k ty i (P.cellsOf e) e m = true →
    (∀ j, j < m → trd enc P W fuel e ((cs.drop ((i + j) * P.cellsOf e)).take (P.cellsOf e)) = xs[i + j]?) → xs.length = i + m → (∀ j, i ≤ j → ∀ y, xs[j]? = some y → ∀ m ∈ y.1.weights P e, m ≤ reachBytes) →
    cs.length = i * P.cellsOf e + ty.size → ∃ x : ty.den, RepT W (inW W) ty x (cs.drop (i * P.cellsOf e)) ∧ ty.Wf x ∧ ∀ B : DataW H → Nat, BulkF B → ty.bulk x ≤ ((xs.drop i).map (fun y => B y.1)).sum
  | 0, k, hk, ty, i, e, fuel, cs, xs, h, hm, hx, hw, hl => by
    cases k with
    | zero => simp [isAr] at h
    | succ k => simp [isAr] at h
  | 1, k, hk, ty, i, e, fuel, cs, xs, h, hm, hx, hw, hl => by
    cases k with
    | zero => simp [isAr] at h
    | succ k =>
      simp only [isAr] at h
      have hy := hm 0 (by omega)
      rw [Nat.add_zero, List.getElem?_eq_getElem (by omega)] at hy
      obtain ⟨x, r, w, l, bk⟩ := ih k (by omega) ty e fuel _ xs[i].1 xs[i].2 h hy (fun m hm => hw i (Nat.le_refl _) xs[i] (List.getElem?_eq_getElem _) m hm)
      have : (cs.drop (i * P.cellsOf e)).length = ty.size := by simp; omega
      have e2 : (cs.drop (i * P.cellsOf e)).take (P.cellsOf e) = cs.drop (i * P.cellsOf e) := by
        have hlt : ((cs.drop (i * P.cellsOf e)).take (P.cellsOf e)).length = (cs.drop (i * P.cellsOf e)).length := by rw [l, this]
        exact List.take_of_length_le (by rw [List.length_take] at hlt; omega)
      rw [e2] at r
      exact ⟨x, r, w, fun B hB => by
        rw [List.drop_eq_getElem_cons (by omega : i < xs.length), List.map_cons, List.sum_cons]
        exact Nat.le_trans (bk B hB) (Nat.le_add_right _ _)⟩
  | m + 2, k, hk, ty, i, e, fuel, cs, xs, h, hm, hx, hw, hl => by
    cases k with
    | zero => simp [isAr] at h
    | succ k =>
      cases ty with
      | pair a b =>
        simp only [isAr, Bool.and_eq_true] at h
        obtain ⟨h2, h3⟩ := h
        have hy := hm 0 (by omega)
        rw [Nat.add_zero, List.getElem?_eq_getElem (by omega)] at hy
        obtain ⟨x, rx, wx, lx, bx⟩ := ih k (by omega) a e fuel _ xs[i].1 xs[i].2 h2 hy (fun m hm => hw i (Nat.le_refl _) xs[i] (List.getElem?_eq_getElem _) m hm)
        have hc : P.cellsOf e = a.size := by
          cases k with
          | zero => simp [isT] at h2
          | succ k =>
            unfold isT at h2
            simp only [Bool.and_eq_true] at h2
            exact Nat.eq_of_beq_eq_true h2.1.1
        obtain ⟨z, rz, wz, bz⟩ := array_open ih (m + 1) k (by omega) b (i + 1) e fuel cs xs h3 (fun j hj => by rw [show i + 1 + j = i + (j + 1) by omega]; exact hm (j + 1) (by omega)) (by omega) (fun j hj => hw j (by omega)) (by
          rw [Nat.add_mul]
          simp only [Ty.size] at hl
          omega)
        refine ⟨(x, z), ⟨(cs.drop (i * P.cellsOf e)).take a.size, cs.drop ((i + 1) * P.cellsOf e), ?_, ?_, rz⟩, ⟨wx, wz⟩, fun B hB => by
          rw [List.drop_eq_getElem_cons (by omega : i < xs.length), List.map_cons, List.sum_cons]
          exact Nat.add_le_add (bx B hB) (bz B hB)⟩
        · rw [Nat.add_mul, Nat.one_mul, ← List.drop_drop, hc, List.take_append_drop]
        · rw [hc] at rx ⊢
          exact rx
      | _ => simp [isAr] at h

theorem opens : ∀ n, Opens enc P W n := by
  intro n
  induction n using Nat.strongRecOn with
  | ind n ih =>
    intro ty t fuel cs d ps h ht hw
    cases n with
    | zero => simp [isT] at h
    | succ n =>
      have ih' : ∀ m, m ≤ n → Opens enc P W m := fun m hm => ih m (by omega)
      unfold isT at h
      simp only [Bool.and_eq_true] at h
      obtain ⟨⟨hsz, hby⟩, h⟩ := h
      have hsz' := Nat.eq_of_beq_eq_true hsz
      split at h
      · rename_i k hu
        split at h
        · rename_i k'
          obtain ⟨x, rfl, hx, wx⟩ := DataW.trod_int hu ht
          have : k = k' := by simpa using h
          subst this
          exact ⟨x, rfl, wx, rfl, fun B hB => hB.one _⟩
        · cases h
      · rename_i hu
        split at h
        · obtain ⟨b, rfl, hx⟩ := DataW.trod_bool hu ht
          exact ⟨b, rfl, trivial, rfl, fun B hB => hB.one _⟩
        · cases h
      · rename_i hu
        split at h
        · obtain ⟨s, rfl, hx, hs⟩ := DataW.trod_string hu ht
          simp only [Prod.mk.injEq] at hx
          refine ⟨s, rfl, ?_, rfl, fun B hB => ?_⟩
          case refine_2 =>
            rw [hx.1]
            have := hB.str s.data.toList
            rw [Array.length_toList] at this
            exact this
          rw [hx.1] at hw
          have := hw s.data.toList.length (by simp [DataW.weights])
          show s.size ≤ reachBytes
          simpa using this
        · cases h
      · rename_i e hu
        split at h
        · rename_i te
          rcases Go.Deep.open_slice hu ht with ⟨rfl, hx⟩ | ⟨a, len, cap, m, q, D, Pl, rfl, hb, hl, hcm, hmm, hx, hel⟩
          · exact ⟨([] : List te.den), ⟨none, 0, rfl, Nat.le_refl _, fun h => absurd rfl h⟩, ⟨by simp, fun x hx => by cases hx⟩, rfl, fun B hB => hB.one _⟩
          · simp only [if_true] at hmm
            subst hmm
            simp only [Prod.mk.injEq] at hx
            rw [hx.1] at hw
            have hlen : (len + (m - len)) * P.bytesOf e ≤ reachBytes := hw _ (by simp [DataW.weights, hu])
            have hsz1 : P.cellsOf e = te.size := by
              cases n with
              | zero => simp [isT] at h
              | succ n =>
                unfold isT at h
                simp only [Bool.and_eq_true] at h
                exact Nat.eq_of_beq_eq_true h.1.1
            have hby1 : te.bytes ≤ P.bytesOf e := by
              cases n with
              | zero => simp [isT] at h
              | succ n =>
                unfold isT at h
                simp only [Bool.and_eq_true] at h
                exact Nat.le_of_ble_eq_true h.1.2
            obtain ⟨l, hll, hr⟩ := choose_list (α := te.den) (β := Nat) (n := len) (R := fun x i => (te.Wf x ∧ ∀ B : DataW H → Nat, BulkF B → te.bulk x ≤ B (D i)) ∧ ∃ us, RepT W (inW W) te x us ∧ At W (inW W) (a.add (i * te.size)) us) id (fun i hi => by
              obtain ⟨cs', hc, ht'⟩ := hel i (by omega)
              obtain ⟨x, r, w, _, bx⟩ := ih' n (Nat.le_refl _) te e q cs' (D i) (Pl i) h ht' (fun m' hm' => hw m' (by
                simp only [DataW.weights, hu, List.mem_cons, List.mem_append]
                refine .inr (.inl (weightsAll_mem (d := D i) ?_ hm'))
                exact List.mem_map.2 ⟨i, by simp [hi], rfl⟩))
              refine ⟨x, ⟨w, bx⟩, cs', r, ?_⟩
              rw [← hsz1]
              exact cells_at hc)
            subst hll
            refine ⟨l, ⟨some a, m, rfl, hl, fun _ => ⟨a, rfl, fun i x hx => (hr i x hx).2⟩⟩, ⟨?_, fun x hx => ?_⟩, rfl, fun B hB => ?_⟩
            · refine Nat.le_trans (Nat.mul_le_mul (by omega : l.length ≤ l.length + (m - l.length)) hby1) hlen
            · obtain ⟨i, hi, rfl⟩ := List.getElem_of_mem hx
              exact (hr i _ (List.getElem?_eq_getElem hi)).1.1
            · rw [hx.1]
              refine Nat.le_trans (Nat.succ_le_succ ?_) (hB.slice _ _)
              have key : ∀ (l : List te.den) (g : Nat → Nat), (∀ i x, l[i]? = some x → te.bulk x ≤ g i) → (@List.map te.den Nat te.bulk l).sum ≤ ((List.range l.length).map g).sum := by
                intro l
                induction l with
                | nil => intro g _; exact Nat.le_refl _
                | cons x l ih =>
                  intro g hg
                  rw [List.map_cons, List.sum_cons, List.length_cons, List.range_succ_eq_map, List.map_cons, List.sum_cons, List.map_map]
                  exact Nat.add_le_add (hg 0 x rfl) (ih _ fun i y hy => hg (i + 1) y (by simpa using hy))
              have := key l (fun i => B (D i)) (fun i x hx => (hr i x hx).1.2 B hB)
              rw [List.map_map]
              exact this
        · cases h
      · rename_i fs hu
        obtain ⟨xs, q, _, hx, hcl, hp⟩ := DataW.trod_struct hu ht
        simp only [Prod.mk.injEq] at hx
        rw [hx.1] at hw
        obtain ⟨x, r, w, bk⟩ := fields_open ih' fs.toList n (by omega) ty 0 q cs xs h (fun i f hf => hp.2 i f (by simpa using hf)) (by simpa using hp.1) (fun m hm => hw m (by simpa only [DataW.weights, hu] using hm)) (by rw [hcl, hsz']; omega)
        exact ⟨x, by simpa using r, w, by rw [hcl, hsz'], fun B hB => by
          rw [hx.1]
          refine Nat.le_trans (bk B hB) ?_
          have := hB.agg (xs.map (·.1))
          rw [List.map_map] at this
          exact this⟩
      · rename_i m e hu
        obtain ⟨xs, q, _, hx, hcl, hxl, hp⟩ := DataW.trod_array hu ht
        simp only [Prod.mk.injEq] at hx
        rw [hx.1] at hw
        obtain ⟨x, r, w, bk⟩ := array_open ih' m n (by omega) ty 0 e q cs xs h (fun j hj => by simpa using hp j hj) (by omega) (fun j _ y hy m hm => hw m (by
          simp only [DataW.weights, hu]
          exact weightsAll_mem (d := y.1) (List.mem_map.2 ⟨y, List.mem_of_getElem? hy, rfl⟩) hm)) (by rw [hcl, hsz']; omega)
        exact ⟨x, by simpa using r, w, by rw [hcl, hsz'], fun B hB => by
          rw [hx.1]
          refine Nat.le_trans (bk B hB) ?_
          have := hB.agg (xs.map (·.1))
          rw [List.map_map] at this
          exact this⟩
      · cases h

def cx (tf tw : TypeId) (W : World) : Cx := { w := W, fr := inW W, cv := fun _ => undef, hp := [], tf := tf, tw := tw }

theorem cx_ok {tf tw : TypeId} : HRep (cx tf tw W) where
  blk b hb := by simp [cx] at hb
  apart b b' B hb := by simp [cx] at hb
  frin a ha := ha

theorem arg_int {tf tw : TypeId} {n : Nat} {k : IntKind} {t : TypeId} {v : Value} {d : DataW H} {ps : List MemPlace} {r : Reach} {b0 : Nat} (hu : P.underlying t = some (.int k)) (hval : Value.okWide P W r b0 t v)
    (ht : DataW.Trod enc P W 0 (fun _ => true) true t v d ps) : ∃ x : Int, Rep (cx tf tw W) (.v (.int k x)) v ∧ (Lit.int k x).wf = true := by
  obtain ⟨x, rfl, _, _, w⟩ := open_int hu hval ht
  exact ⟨x, by simp only [Rep], w⟩

theorem arg_bool {tf tw : TypeId} {t : TypeId} {v : Value} {r : Reach} {b0 : Nat} (hu : P.underlying t = some .bool) (hval : Value.okWide P W r b0 t v) :
    ∃ x : Bool, Rep (cx tf tw W) (.v (.bool x)) v := by
  obtain ⟨x, rfl⟩ := WideShapes.okWide_bool hu hval
  exact ⟨x, by simp only [Rep]⟩

theorem arg_str {tf tw : TypeId} {t : TypeId} {v : Value} {d : DataW H} {ps : List MemPlace} {r : Reach} {b0 : Nat} (hu : P.underlying t = some .string) (hval : Value.okWide P W r b0 t v)
    (ht : DataW.Trod enc P W 0 (fun _ => true) true t v d ps) (hw : ∀ m ∈ d.weights P t, m ≤ reachBytes) : ∃ x : ByteArray, Rep (cx tf tw W) (.v (.string x)) v ∧ x.size ≤ reachBytes ∧ ∀ B : DataW H → Nat, BulkF B → Ty.bulk .str x ≤ B d := by
  obtain ⟨x, rfl, rfl, _, _⟩ := ChangeMaps.open_string hu hval ht
  refine ⟨x, by simp only [Rep], ?_, fun B hB => ?_⟩
  · have := hw x.data.toList.length (by simp [DataW.weights])
    simpa using this
  · have := hB.str x.data.toList
    rw [Array.length_toList] at this
    exact this

theorem arg_list {tf tw : TypeId} {n : Nat} {te : Ty} {t e : TypeId} {v : Value} {d : DataW H} {ps : List MemPlace} {r : Reach} {b0 : Nat} (hu : P.underlying t = some (.slice e)) (hval : Value.okWide P W r b0 t v)
    (h : isT P n (.list te) t = true) (ht : DataW.Trod enc P W 0 (fun _ => true) true t v d ps) (hw : ∀ m ∈ d.weights P t, m ≤ reachBytes) :
    ∃ x : List te.den, Rep (cx tf tw W) (.fz te x) v ∧ Ty.Wf (.list te) x ∧ ∀ B : DataW H → Nat, BulkF B → Ty.bulk (.list te) x ≤ B d := by
  obtain ⟨a, len, cap, rfl⟩ := WideShapes.okWide_slice hu hval
  obtain ⟨fuel, hf⟩ := ht
  obtain ⟨x, r, w, _, bk⟩ := opens n (.list te) t fuel _ d ps h hf hw
  exact ⟨x, by simp only [Rep]; exact r, w, bk⟩

theorem arg_agg {tf tw : TypeId} {n : Nat} {ty : Ty} {t : TypeId} {v : Value} {d : DataW H} {ps : List MemPlace} {r : Reach} {b0 : Nat} (hu : (∃ fs, P.underlying t = some (.struct fs)) ∨ ∃ m e, P.underlying t = some (.array m e)) (hval : Value.okWide P W r b0 t v)
    (h : isT P n ty t = true) (ht : DataW.Trod enc P W 0 (fun _ => true) true t v d ps) (hw : ∀ m ∈ d.weights P t, m ≤ reachBytes) :
    ∃ x : ty.den, Rep (cx tf tw W) (.agg (expand ty x)) v ∧ ty.Wf x ∧ ∀ B : DataW H → Nat, BulkF B → ty.bulk x ≤ B d := by
  have hv : ∃ cs, v = .agg cs := by
    rcases hu with ⟨fs, hu⟩ | ⟨m, e, hu⟩
    · simp only [Value.okWide, hu] at hval
      obtain ⟨cs, rfl, _⟩ := hval
      exact ⟨cs, rfl⟩
    · simp only [Value.okWide, hu] at hval
      obtain ⟨cs, rfl, _⟩ := hval
      exact ⟨cs, rfl⟩
  obtain ⟨cs, rfl⟩ := hv
  obtain ⟨fuel, hf⟩ := ht
  obtain ⟨x, r, w, _, bk⟩ := opens n ty t fuel _ d ps h hf hw
  refine ⟨x, ?_, w, bk⟩
  simp only [Rep]
  refine ⟨cs.toList, by simp, ?_⟩
  exact RepT.expand (c := cx tf tw W) r

/-- What a law's answer must be. -/
def isTrue : D → List Blk → Prop := fun d _ => match d with
  | .v (.bool b) => b = true
  | _ => False
def never : D → List Blk → Prop := fun _ _ => False

theorem law_of {tf tw : TypeId} {f : FuncId} {en : Entry} (ok : EntOk P tf tw f en) {us : List Value} {ds : List D} (hr : RepL (cx tf tw W) ds us) (h : en ds [] isTrue never) :
    Calls P f us.toArray W fun e W' => e = .returned (.bool true) ∧ Below W.heap.size W W' := by
  refine (ok.sound (cx tf tw W) ds us isTrue never ⟨rfl, rfl⟩ hr cx_ok h).mono fun e W' hp => ?_
  cases e with
  | returned v =>
    obtain ⟨d, c', rfl, hk, hrep, _, I⟩ := hp
    have hb : ∃ b, d = .v (.bool b) ∧ b = true := by
      unfold isTrue at hk
      split at hk
      · exact ⟨_, rfl, hk⟩
      · exact hk.elim
    obtain ⟨b, rfl, rfl⟩ := hb
    simp only [Rep] at hrep
    refine ⟨by rw [hrep], I.os, I.tape, I.output, I.size, fun k hk => I.keep k hk ?_⟩
    rintro ⟨b, hb, _⟩
    simp [cx] at hb
  | panicked ch =>
    obtain ⟨d, p, c', _, _, hk, _⟩ := hp
    exact hk.elim
  | outgrown => exact hp.elim

theorem trodAll_below (hl : laidOutB P = true) {W' : World} (hb : Below W.heap.size W W') : ∀ {ts : List TypeId} {vs : List Value} {ds : List (DataW H)} {ps : List MemPlace}, ts.all (fun t => P.readableRec t && Nat.blt t P.types.size) = true →
    DataW.TrodAll enc P W 0 (fun _ => true) true ts vs ds ps → (∀ x ∈ ps, x.block < W.heap.size) → DataW.TrodAll enc P W' 0 (fun b => decide (b < W.heap.size)) true ts vs ds ps
  | [], [], [], ps, _, h, _ => h
  | t :: ts, v :: vs, d :: ds, ps, hr, ⟨p, q, h1, h2, e⟩, hlt => by
    simp only [List.all_cons, Bool.and_eq_true] at hr
    subst e
    exact ⟨p, q, Below.trod hl hr.1.1 (Nat.le_of_ble_eq_true hr.1.2) h1 hb (fun x hx => hlt x (List.mem_append_left _ hx)), trodAll_below hl hb hr.2 h2 (fun x hx => hlt x (List.mem_append_right _ hx)), rfl⟩
  | [], _ :: _, _, _, _, h, _ => h.elim
  | [], [], _ :: _, _, _, h, _ => h.elim
  | _ :: _, [], _, _, _, h, _ => h.elim
  | _ :: _, _ :: _, [], _, _, h, _ => h.elim
end
end Go.Aw
namespace Go.Aw
open Go.Shelf Go.RowKit Go.Proofs
set_option linter.unusedVariables false
variable {P : Program} {ρ : Go.Shelf.Ren}

/-- What the builder's methods ask of a program, for a box of type T. -/
structure BldX (P : Program) (ρ : Go.Shelf.Ren) (T : TypeId) : Prop where
  sizeBuilder : (P.info? (ρ.t 72)).map (·.size) = some 2
  lies : liesAt P P.depth T (2 / P.cellsOf T) 0 (ρ.t 72) 1 = true

set_option maxHeartbeats 1000000 in
set_option maxRecDepth 100000 in
theorem bld_fresh {T : TypeId} (L : Lays.n240 P ρ) (X : BldX P ρ T) (b : Nat) (w : World) (h0 : w.cell? ⟨b, 0, none⟩ = some (.pointer none)) (hsh : w.shape? b = some (T, 2)) (hfz : w.frozen? ⟨b, 0, none⟩ = false) :
    Calls P (ρ.f 240) #[.pointer (some ⟨b, 0, none⟩)] w fun e w' => e = .returned (.tuple #[]) ∧ w' = w.setCell ⟨b, 0, none⟩ (.pointer (some ⟨b, 0, none⟩)) := by
  obtain ⟨j, hj, hjs⟩ := Option.map_eq_some_iff.1 X.sizeBuilder
  have mixed := L.mixed
  have t72 := L.t72; have a72 := L.a72; have z72 := L.z72; have v72 := L.v72; have u72 := run_underlying L.t72
  have t70 := L.t70; have a70 := L.a70; have z70 := L.z70; have v70 := L.v70; have u70 := run_underlying L.t70
  have t9 := L.t9; have a9 := L.a9; have z9 := L.z9; have v9 := L.v9; have u9 := run_underlying L.t9
  have t4 := L.t4; have a4 := L.a4; have z4 := L.z4; have v4 := L.v4; have u4 := run_underlying L.t4
  have t164 := L.t164; have a164 := L.a164; have z164 := L.z164; have v164 := L.v164; have u164 := run_underlying L.t164
  go_enter L.f240, Body.n240_ntmps ρ
  go_wp2
  rw [Lib.run_to_unsafe w ⟨b, 0, none⟩ L.t70 L.t164 hj (by rw [hjs]; decide) hsh (Nat.zero_lt_succ 1)]
  simp only [Result.andThen]
  rw [Oper.upon_value]
  go_wp2
  rw [run_callFunc_extern L.f276 (by kernel_rfl) (by kernel_rfl) (by kernel_rfl) (e := Extern.AbiNoEscape.same) (by kernel_rfl)]
  rw [Lib.run_noEscape]
  simp only [Result.andThen]
  rw [Oper.upon_value]
  go_wp2
  rw [Lib.run_from_unsafe w ⟨b, 0, none⟩ L.t164 L.t70 hj hsh X.lies]
  simp only [Result.andThen]
  rw [Oper.upon_value]
  go_wp2
  go_end0
  exact ⟨rfl, rfl⟩

/-- What a builder's method may turn: the box, the row that it had, and what is new. -/
structure Chg (w w' : World) (b : Nat) (row : Option Nat) : Prop where
  os : w'.os = w.os
  tape : w'.tape = w.tape
  output : w'.output = w.output
  size : w.heap.size ≤ w'.heap.size
  block : ∀ k, k < w.heap.size → k ≠ b → some k ≠ row → w'.heap[k]? = w.heap[k]?

theorem Chg.refl (w : World) (b : Nat) (r : Option Nat) : Chg w w b r := ⟨rfl, rfl, rfl, Nat.le_refl _, fun _ _ _ _ => rfl⟩

theorem setCell_heap {w : World} {b : Nat} {cs : Array Value} {T : TypeId} (h : w.heap[b]? = some (.cells cs T (0, 0))) (j : Nat) (u : Value) (k : Nat) :
    (w.setCell ⟨b, j, none⟩ u).heap[k]? = if k = b then some (.cells (cs.setIfInBounds j u) T (0, 0)) else w.heap[k]? := by
  unfold World.setCell
  simp only [Array.getElem?_modify]
  by_cases e : k = b
  · subst e
    rw [if_pos rfl, if_pos rfl, h]
    rfl
  · rw [if_neg (Ne.symm e), if_neg e]

theorem Chg.setCell {w w' : World} {b : Nat} {r : Option Nat} (h : Chg w w' b r) (j : Nat) (u : Value) : Chg w (w'.setCell ⟨b, j, none⟩ u) b r where
  os := h.os
  tape := h.tape
  output := h.output
  size := by
    show w.heap.size ≤ (w'.heap.modify _ _).size
    rw [Array.size_modify]; exact h.size
  block k hk hb hr := by
    refine Eq.trans ?_ (h.block k hk hb hr)
    show (w'.heap.modify _ _)[k]? = _
    rw [Array.getElem?_modify, if_neg (Ne.symm hb)]

/-- A builder: box of type T at b, its row of bytes s. -/
def BldAt (T e : TypeId) (b : Nat) (p v : Value) (xs : List Value) (w : World) : Prop :=
  w.heap[b]? = some (.cells #[p, v] T (0, 0)) ∧ w.ownsRow 0 e 1 v xs.length xs ∧ v.ownBlock ≠ some b ∧ (p = .pointer none ∨ p = .pointer (some ⟨b, 0, none⟩))

theorem bld_check {T : TypeId} (L : Lays.n240 P ρ) (X : BldX P ρ T) (X0 : Builder.X72 P ρ) {e : TypeId} (b : Nat) (p v : Value) (xs : List Value) (w : World) (h : BldAt T e b p v xs w) :
    Calls P (ρ.f 240) #[.pointer (some ⟨b, 0, none⟩)] w fun ex w' => ex = .returned (.tuple #[]) ∧ BldAt T e b (.pointer (some ⟨b, 0, none⟩)) v xs w' ∧ Chg w w' b v.ownBlock ∧ w'.heap.size = w.heap.size := by
  obtain ⟨h1, h2, h3, rfl | rfl⟩ := h
  · refine (bld_fresh L X b w (by rw [Lib.cell_of_heap h1]; rfl) (by simp [World.shape?, h1]) (Lib.frozen_of_heap h1 0)).mono ?_
    rintro ex w' ⟨rfl, rfl⟩
    refine ⟨rfl, ⟨by rw [setCell_heap h1, if_pos rfl]; rfl, ?_, h3, .inr rfl⟩, (Chg.refl w b _).setCell 0 _, Array.size_modify ..⟩
    refine ⟨h2.1, h2.2.imp id ?_⟩
    rintro ⟨g, cap, cur, k1, k2, k3, k4⟩
    refine ⟨g, cap, cur, k1, k2, ?_, k4⟩
    rw [setCell_heap h1, if_neg (fun e => h3 (by rw [k1, e]; rfl))]
    exact k3
  · refine (Any.Builder_copyCheck_used L X0 b w (by rw [Lib.cell_of_heap h1]; rfl)).mono ?_
    rintro ex w' ⟨rfl, rfl⟩
    exact ⟨rfl, ⟨h1, h2, h3, .inr rfl⟩, Chg.refl _ _ _, rfl⟩
theorem Chg.trans {w w1 w2 : World} {b : Nat} {r r' : Option Nat} (h : Chg w w1 b r) (k : Chg w1 w2 b r') (hr : r' = r ∨ ∃ j, r' = some j ∧ w.heap.size ≤ j) : Chg w w2 b r where
  os := k.os.trans h.os
  tape := k.tape.trans h.tape
  output := k.output.trans h.output
  size := Nat.le_trans h.size k.size
  block i hi hb hr' := (k.block i (Nat.lt_of_lt_of_le hi h.size) hb (fun e => by
    rcases hr with rfl | ⟨j, rfl, hj⟩
    · exact hr' e
    · cases e; omega)).trans (h.block i hi hb hr')

theorem Chg.grown {w w1 w2 : World} {b : Nat} {r : Option Nat} (h : Chg w w1 b r) (k : w1.grownBy w2 r) : Chg w w2 b r where
  os := k.os.trans h.os
  tape := k.tape.trans h.tape
  output := k.output.trans h.output
  size := Nat.le_trans h.size k.size
  block i hi hb hr := (k.block i (Nat.lt_of_lt_of_le hi h.size) hr).trans (h.block i hi hb hr)

theorem Chg.alloc {w w1 : World} {b : Nat} {r : Option Nat} (h : Chg w w1 b r) (o : Obj) : Chg w (w1.alloc o) b r where
  os := h.os
  tape := h.tape
  output := h.output
  size := Nat.le_trans h.size (by simp)
  block i hi hb hr := (Below.heap_alloc _ _ _ (Nat.lt_of_lt_of_le hi h.size)).trans (h.block i hi hb hr)

/-- Where a row stands that has grown. -/
def Fresh (w : World) (v v' : Value) : Prop := v'.ownBlock = v.ownBlock ∨ ∃ k, v'.ownBlock = some k ∧ w.heap.size ≤ k

theorem wpList_append_f {ops : Array Oper} {rest : List Oper} {o : Oper} {a : Act} {w : World} {Q : Exit → Act → World → Prop} (hgd : o.guard = none) (s x : Operand) (t : TypeId)
    (ho : o.op = .call { callee := .builtin .append, args := #[s, x], argTypes := #[t, t] })
    (e : TypeId) (i : TypeInfo) (z : Value) (ht : P.underlying t = some (.slice e)) (hi : P.info? e = some i) (hz : i.zero = some z)
    (hsize : i.size = 1) (hby : i.bytes = 1) (hzs : z.cells.size = 1)
    (v : Value) (n : Nat) (xs : List Value) (hs : a.eval s = v) (hown : w.ownsRow 0 e 1 v n xs)
    (ad : Addr) (m c : Nat) (news : List Value) (hx : a.eval x = .slice (some ad) m c) (hl : news.length = m * 1) (hnews : ∀ j u, news[j]? = some u → w.cell? (ad.add j) = some u) (h1 : ∀ u ∈ news, u.oneCell' = true)
    (h63 : n + m ≤ maxLen) (hbytes : (n + m) * 1 ≤ 140737488355328)
    (h : ∀ v' w', w'.ownsRow 0 e 1 v' (n + m) (xs ++ news) → w.grownBy w' v.ownBlock → Fresh w v v' → wpList P ops Q rest (a.put o.dst v') w') : wpList P ops Q (o :: rest) a w := by
  refine wpList_plain hgd fun K hK => ?_
  obtain ⟨v', w', hr, h2, h3, h4⟩ := run_append_own (P := P) w 0 t o.type e i z 1 1 ht hi hz hsize hby hzs (by decide) v n xs hown ad m c news hl hnews h1 h63 hbytes (Nat.zero_le _)
  have hf : Fresh w v v' := by
    rcases hown.2 with ⟨rfl, rfl⟩ | ⟨g, cap, cur, rfl, hbg, hg, hnc, hcm, hcs, htake⟩
    · obtain ⟨v2, w2, hr2, k2, _, _⟩ := run_append_own (P := P) w w.heap.size t o.type e i z 1 1 ht hi hz hsize hby hzs (by decide) (.slice none 0 0) 0 xs ⟨hown.1, .inl ⟨rfl, rfl⟩⟩ ad m c news hl hnews h1 h63 hbytes (Nat.le_refl _)
      rw [hr] at hr2
      cases hr2
      cases hv : v'.ownBlock with
      | none => exact .inl hv
      | some k => exact .inr ⟨k, hv, (k2.lt k hv).1⟩
    · by_cases hroom : n + m ≤ cap
      · have hr2 := run_append_room (P := P) w t o.type e i ht hi g n cap cur hg ad m c news (by rw [hsize]; exact hl) hnews h1 hroom (by rw [hsize, hl, hcs]; omega)
        rw [hr] at hr2
        cases hr2
        exact .inl rfl
      · have hr2 := run_append_grow (P := P) w t o.type e i z ht hi hz ⟨g, 0, none⟩ n cap xs (by rw [hsize]; exact hown.1) (hown.cells (g := g) rfl) ad m c news (by rw [hsize]; exact hl) hnews (by omega) (by unfold maxLen at h63; omega) (by rw [hby]; exact growslice_fits (by omega) hbytes)
        rw [hr] at hr2
        cases hr2
        exact .inr ⟨_, rfl, Nat.le_refl _⟩
  unfold Oper.wp execOp
  simp only [ho, resolve, invoke, builtin, Sem.run_bind, Sem.run_pure, Result.andThen_ok, List.map_toArray, List.map_cons, List.map_nil, hs, hx, hr]
  exact hK _ _ (h v' w' h2 h3 hf)

theorem wpList_append_string_f {ops : Array Oper} {rest : List Oper} {o : Oper} {a : Act} {w : World} {Q : Exit → Act → World → Prop} (hgd : o.guard = none) (sl x : Operand) (t u : TypeId)
    (ho : o.op = .call { callee := .builtin .append, args := #[sl, x], argTypes := #[t, u] })
    (e : TypeId) (i : TypeInfo) (ht : P.underlying t = some (.slice e)) (hu : P.underlying u = some .string) (hi : P.info? e = some i) (hz : i.zero = some (.int .u8 0))
    (hsize : i.size = 1) (hby : i.bytes = 1)
    (v : Value) (n : Nat) (xs : List Value) (hs : a.eval sl = v) (hown : w.ownsRow 0 e 1 v n xs) (s : ByteArray) (hx : a.eval x = .string s)
    (h63 : n + s.size ≤ maxLen) (hbytes : n + s.size ≤ 140737488355328)
    (h : ∀ v' w', w'.ownsRow 0 e 1 v' (n + s.size) (xs ++ Lib.strCells s) → w.grownBy w' v.ownBlock → Fresh w v v' → wpList P ops Q rest (a.put o.dst v') w') : wpList P ops Q (o :: rest) a w := by
  refine wpList_plain hgd fun K hK => ?_
  obtain ⟨v', w', hr, h2, h3, h4⟩ := Lib.run_append_own_string (P := P) w 0 t u o.type e i ht hu hi hz hsize hby v n xs hown s h63 hbytes (Nat.zero_le _)
  have hf : Fresh w v v' := by
    rcases hown.2 with ⟨rfl, rfl⟩ | ⟨g, cap, cur, rfl, hbg, hg, hnc, hcm, hcs, htake⟩
    · obtain ⟨v2, w2, hr2, k2, _, _⟩ := Lib.run_append_own_string (P := P) w w.heap.size t u o.type e i ht hu hi hz hsize hby (.slice none 0 0) 0 xs ⟨hown.1, .inl ⟨rfl, rfl⟩⟩ s h63 hbytes (Nat.le_refl _)
      rw [hr] at hr2
      cases hr2
      cases hv : v'.ownBlock with
      | none => exact .inl hv
      | some k => exact .inr ⟨k, hv, (k2.lt k hv).1⟩
    · by_cases hroom : n + s.size ≤ cap
      · have hr2 := Lib.run_append_room_string (P := P) w t u o.type e i ht hu hi hsize g n cap cur hg s hroom (by rw [hcs]; omega)
        rw [hr] at hr2
        cases hr2
        exact .inl rfl
      · have hr2 := Lib.run_append_grow_string (P := P) w t u o.type e i (.int .u8 0) ht hu hi hz ⟨g, 0, none⟩ n cap xs (by rw [hsize]; exact hown.1) (hown.cells (g := g) rfl) s (by omega) (by unfold maxLen at h63; omega) (by rw [hby]; exact growslice_fits (by omega) (by omega))
        rw [hr] at hr2
        cases hr2
        exact .inr ⟨_, rfl, Nat.le_refl _⟩
  unfold Oper.wp execOp
  simp only [ho, resolve, invoke, builtin, Sem.run_bind, Sem.run_pure, Result.andThen_ok, List.map_toArray, List.map_cons, List.map_nil, hs, hx, hr]
  exact hK _ _ (h v' w' h2 h3 hf)

/-- What is left behind a write. -/
theorem bld_put {T e : TypeId} {b : Nat} {p v v' : Value} {xs : List Value} {w1 w2 : World} (hb : w2.heap[b]? = some (.cells #[p, v] T (0, 0))) (hp : p = .pointer none ∨ p = .pointer (some ⟨b, 0, none⟩)) (hown : w2.ownsRow 0 e 1 v' xs.length xs)
    (hne : v.ownBlock ≠ some b) (hlt : b < w1.heap.size) (hf : Fresh w1 v v') : BldAt T e b p v' xs (w2.setCell ⟨b, 1, none⟩ v') := by
  have hne' : v'.ownBlock ≠ some b := by
    rcases hf with h | ⟨k, h, hk⟩
    · rw [h]; exact hne
    · rw [h]; intro e; cases e; omega
  refine ⟨by rw [setCell_heap hb, if_pos rfl]; rfl, ⟨hown.1, hown.2.imp id ?_⟩, hne', hp⟩
  rintro ⟨g, cap, cur, k1, k2, k3, k4⟩
  refine ⟨g, cap, cur, k1, k2, ?_, k4⟩
  rw [setCell_heap hb, if_neg (fun e => hne' (by rw [k1, e]; rfl))]
  exact k3

set_option maxHeartbeats 2000000 in
set_option maxRecDepth 100000 in
theorem bld_writeByte {T : TypeId} (L : Lays.n167 P ρ) (X : Builder.Extra P ρ) (XT : BldX P ρ T) (b : Nat) (p v : Value) (xs : List Value) (c : Int) (w : World) (h : BldAt T (ρ.t 5) b p v xs w) (hlen : xs.length + 1 ≤ 140737488355328) :
    Calls P (ρ.f 167) #[.pointer (some ⟨b, 0, none⟩), .int .u8 c] w fun ex w' => ex = .returned .nilIface ∧ ∃ v', BldAt T (ρ.t 5) b (.pointer (some ⟨b, 0, none⟩)) v' (xs ++ [.int .u8 c]) w' ∧ Chg w w' b v.ownBlock ∧ Fresh w v v' := by
  obtain ⟨i0, hi, hz0, hz1, hz2⟩ := info_parts X.infoByte
  have mixed := L.mixed
  have t72 := L.t72; have a72 := L.a72; have z72 := L.z72; have v72 := L.v72; have u72 := run_underlying L.t72
  have t70 := L.t70; have a70 := L.a70; have z70 := L.z70; have v70 := L.v70; have u70 := run_underlying L.t70
  have t5 := L.t5; have a5 := L.a5; have z5 := L.z5; have v5 := L.v5; have u5 := run_underlying L.t5
  have t37 := L.t37; have a37 := L.a37; have z37 := L.z37; have v37 := L.v37; have u37 := run_underlying L.t37
  have t9 := L.t9; have a9 := L.a9; have z9 := L.z9; have v9 := L.v9; have u9 := run_underlying L.t9
  have t4 := L.t4; have a4 := L.a4; have z4 := L.z4; have v4 := L.v4; have u4 := run_underlying L.t4
  have t164 := L.t164; have a164 := L.a164; have z164 := L.z164; have v164 := L.v164; have u164 := run_underlying L.t164
  have e240 : ∀ args w, (callFunc (ρ.f 240) args).run P w = .ok (.enter (ρ.f 240) args) w := enters_of L.f240 (by kernel_rfl) rfl
  go_enter L.f167, Body.n167_ntmps ρ
  go_wp2_with (go_at_fn (ρ.f 240); refine (bld_check (T := T) { L with } XT X.toX72 b p v xs _ h).mono ?_)
  rintro e w1 ⟨rfl, ⟨hbk, hown, hne, -⟩, hb1, hs0⟩
  have hs1 : Hid (w1.heap.size = w.heap.size) := hs0
  clear hs0
  have c0 : w1.cell? ⟨b, 0, none⟩ = some (.pointer (some ⟨b, 0, none⟩)) := by rw [Lib.cell_of_heap hbk]; rfl
  have c1 : w1.cell? ⟨b, 1, none⟩ = some v := by rw [Lib.cell_of_heap hbk]; rfl
  go_wp2_with (at_builtin; refine wpList_append_f rfl _ _ (ρ.t 37) rfl (ρ.t 5) i0 (.int .u8 0) L.t37 hi hz0 hz1 hz2 rfl _ _ _ rfl (hown.alloc _) ⟨w1.heap.size, 0, none⟩ 1 1 [.int .u8 c] rfl rfl ?c1 ?c2 ?c3 ?c4 ?_)
  case c1 =>
    intro j u hj
    match j, hj with
    | 0, hj => simp at hj; subst hj; simp [Addr.add]
  case c2 => intro u hu; simp at hu; subst hu; rfl
  case c3 => unfold maxLen; omega
  case c4 => omega
  intro v' w2 hown' hgrow hf
  have hlt : b < w1.heap.size := by
    rcases Nat.lt_or_ge b w1.heap.size with h' | h'
    · exact h'
    · simp [Array.getElem?_eq_none h'] at hbk
  have hb2 : w2.heap[b]? = some (.cells #[.pointer (some ⟨b, 0, none⟩), v] T (0, 0)) := by
    rw [hgrow.block b (by simp; omega) (fun e => hne e.symm), Lib.alloc_old w1 _ b hlt]
    exact hbk
  have d0 : w2.cell? ⟨b, 0, none⟩ = some (.pointer (some ⟨b, 0, none⟩)) := by rw [Lib.cell_of_heap hb2]; rfl
  have d1 : w2.cell? ⟨b, 1, none⟩ = some v := by rw [Lib.cell_of_heap hb2]; rfl
  have f1 : w2.frozen? ⟨b, 1, none⟩ = false := Lib.frozen_of_heap hb2 1
  have hf1 : Fresh w1 v v' := by
    rcases hf with hf | ⟨k, hf, hk⟩
    · exact .inl hf
    · exact .inr ⟨k, hf, by simp at hk; omega⟩
  have hf0 : Fresh w v v' := by rw [Fresh, ← hs1.out]; exact hf1
  obtain ⟨g, cap, rfl⟩ : ∃ g cap, v' = .slice (some ⟨g, 0, none⟩) (xs.length + 1) cap := by
    rcases hown'.2 with ⟨_, h0⟩ | ⟨g, cap, cur, hv, _⟩
    · omega
    · exact ⟨g, cap, hv⟩
  go_wp2
  go_ret
  refine ⟨rfl, _, bld_put (w1 := w1) hb2 (.inr rfl) (by simpa using hown') hne hlt hf1, ?_, hf0⟩
  exact ((hb1.alloc _).grown hgrow).setCell 1 _

set_option maxHeartbeats 2000000 in
set_option maxRecDepth 100000 in
theorem bld_writeString {T : TypeId} (L : Lays.n166 P ρ) (X : Builder.Extra P ρ) (XT : BldX P ρ T) (b : Nat) (p v : Value) (xs : List Value) (s : ByteArray) (w : World) (h : BldAt T (ρ.t 5) b p v xs w) (hlen : xs.length + s.size ≤ 140737488355328) :
    Calls P (ρ.f 166) #[.pointer (some ⟨b, 0, none⟩), .string s] w fun ex w' => ex = .returned (.tuple #[.int .i64 s.size, .nilIface]) ∧ ∃ v', BldAt T (ρ.t 5) b (.pointer (some ⟨b, 0, none⟩)) v' (xs ++ Lib.strCells s) w' ∧ Chg w w' b v.ownBlock ∧ Fresh w v v' := by
  obtain ⟨i0, hi, hz0, hz1, hz2⟩ := info_parts X.infoByte
  have mixed := L.mixed
  have t72 := L.t72; have a72 := L.a72; have z72 := L.z72; have v72 := L.v72; have u72 := run_underlying L.t72
  have t70 := L.t70; have a70 := L.a70; have z70 := L.z70; have v70 := L.v70; have u70 := run_underlying L.t70
  have t37 := L.t37; have a37 := L.a37; have z37 := L.z37; have v37 := L.v37; have u37 := run_underlying L.t37
  have t3 := L.t3; have a3 := L.a3; have z3 := L.z3; have v3 := L.v3; have u3 := run_underlying L.t3
  have t9 := L.t9; have a9 := L.a9; have z9 := L.z9; have v9 := L.v9; have u9 := run_underlying L.t9
  have t4 := L.t4; have a4 := L.a4; have z4 := L.z4; have v4 := L.v4; have u4 := run_underlying L.t4
  have t164 := L.t164; have a164 := L.a164; have z164 := L.z164; have v164 := L.v164; have u164 := run_underlying L.t164
  have t5 := X.t5; have a5 := X.a5; have z5 := X.z5; have v5 := X.v5; have u5 := run_underlying X.t5
  have e240 : ∀ args w, (callFunc (ρ.f 240) args).run P w = .ok (.enter (ρ.f 240) args) w := enters_of L.f240 (by kernel_rfl) rfl
  go_enter L.f166, Body.n166_ntmps ρ
  go_wp2_with (go_at_fn (ρ.f 240); refine (bld_check (T := T) { L with } XT X.toX72 b p v xs _ h).mono ?_)
  rintro e w1 ⟨rfl, ⟨hbk, hown, hne, -⟩, hb1, hs0⟩
  have hs1 : Hid (w1.heap.size = w.heap.size) := hs0
  clear hs0
  have c0 : w1.cell? ⟨b, 0, none⟩ = some (.pointer (some ⟨b, 0, none⟩)) := by rw [Lib.cell_of_heap hbk]; rfl
  have c1 : w1.cell? ⟨b, 1, none⟩ = some v := by rw [Lib.cell_of_heap hbk]; rfl
  go_wp2_with (at_builtin; refine wpList_append_string_f rfl _ _ (ρ.t 37) (ρ.t 9) rfl (ρ.t 5) i0 L.t37 L.t9 hi hz0 hz1 hz2 _ _ _ rfl hown s rfl ?c3 ?c4 ?_)
  case c3 => unfold maxLen; omega
  case c4 => omega
  intro v' w2 hown' hgrow hf1
  have hlt : b < w1.heap.size := by
    rcases Nat.lt_or_ge b w1.heap.size with h' | h'
    · exact h'
    · simp [Array.getElem?_eq_none h'] at hbk
  have hb2 : w2.heap[b]? = some (.cells #[.pointer (some ⟨b, 0, none⟩), v] T (0, 0)) := by
    rw [hgrow.block b hlt (fun e => hne e.symm)]
    exact hbk
  have d0 : w2.cell? ⟨b, 0, none⟩ = some (.pointer (some ⟨b, 0, none⟩)) := by rw [Lib.cell_of_heap hb2]; rfl
  have d1 : w2.cell? ⟨b, 1, none⟩ = some v := by rw [Lib.cell_of_heap hb2]; rfl
  have f1 : w2.frozen? ⟨b, 1, none⟩ = false := Lib.frozen_of_heap hb2 1
  have hf0 : Fresh w v v' := by rw [Fresh, ← hs1.out]; exact hf1
  obtain ⟨ao, n', cap, rfl⟩ : ∃ ao n' cap, v' = .slice ao n' cap := by
    rcases hown'.2 with ⟨hv, _⟩ | ⟨g, cap, cur, hv, _⟩
    · exact ⟨_, _, _, hv⟩
    · exact ⟨_, _, _, hv⟩
  go_wp2
  go_ret2
  refine ⟨rfl, _, bld_put (w1 := w1) hb2 (.inr rfl) (by simpa [Lib.strCells_length] using hown') hne hlt hf1, ?_, hf0⟩
  exact (hb1.grown hgrow).setCell 1 _
theorem Chg.drew {w w1 : World} {b : Nat} {r : Option Nat} (h : Chg w w1 b r) : Chg w w1.drew b r := ⟨h.os, h.tape, h.output, h.size, h.block⟩

theorem Chg.freeze {w w1 : World} {b : Nat} {r : Option Nat} (h : Chg w w1 b r) {g : Nat} (hg : r = some g) (n : Nat) : Chg w (w1.freeze ⟨g, 0, none⟩ n) b r := by
  unfold World.freeze
  split
  · exact h
  · refine ⟨h.os, h.tape, h.output, Nat.le_trans h.size (by simp), fun k hk hb hr => Eq.trans ?_ (h.block k hk hb hr)⟩
    simp only [Array.getElem?_modify]
    rw [if_neg (fun e => hr (by rw [hg, ← e]))]

set_option maxHeartbeats 2000000 in
set_option maxRecDepth 100000 in
theorem bld_string_some {T : TypeId} (L : Lays.n169 P ρ) (X : Builder.Extra P ρ) (b : Nat) (p v : Value) (l : List UInt8) (w : World) (h : BldAt T (ρ.t 5) b p v (Lib.byteCells l) w) (h0 : l ≠ []) :
    Calls P (ρ.f 169) #[.pointer (some ⟨b, 0, none⟩)] w fun ex w' => ex = .returned (.string ⟨l.toArray⟩) ∧ Chg w w' b v.ownBlock := by
  obtain ⟨hbk, hown, hne, -⟩ := h
  have hl0 : l.length ≠ 0 := by simpa using h0
  rw [Lib.byteCells_length] at hown
  obtain ⟨g, cap, cur, rfl, hbg, hg, hnc, hcm, hcs, htake⟩ : ∃ g cap cur, v = .slice (some ⟨g, 0, none⟩) l.length cap ∧ 0 ≤ g ∧ w.heap[g]? = some (.cells cur (ρ.t 5) (0, 0)) ∧ l.length ≤ cap ∧ cap ≤ maxLen ∧ cur.size = cap * 1 ∧ cur.toList.take (l.length * 1) = Lib.byteCells l := by
    rcases hown.2 with ⟨_, hz⟩ | ⟨g, cap, cur, hv, r⟩
    · exact absurd hz hl0
    · exact ⟨g, cap, cur, hv, r⟩
  have c1 : w.drew.cell? ⟨b, 1, none⟩ = some (.slice (some ⟨g, 0, none⟩) l.length cap) := by
    have : w.drew.heap[b]? = some (.cells #[p, .slice (some ⟨g, 0, none⟩) l.length cap] T (0, 0)) := hbk
    rw [Lib.cell_of_heap this]; rfl
  have hSD : (Builtin.unsafeSliceData_ #[(ρ.t 37)] (ρ.t 127) #[.slice (some ⟨g, 0, none⟩) l.length cap]).run P w.drew = .ok (.pointer (some ⟨g, 0, none⟩)) w.drew :=
    Lib.run_unsafeSliceData_row _ _ _ _ _ _ (by omega)
  have hUS : (Builtin.unsafeString_ #[(ρ.t 127), (ρ.t 3)] (ρ.t 9) #[.pointer (some ⟨g, 0, none⟩), .int .i64 l.length]).run P w.drew = .ok (.string ⟨l.toArray⟩) (w.drew.freeze ⟨g, 0, none⟩ l.length) := by
    refine Lib.run_unsafeString_row w.drew (ρ.t 127) (ρ.t 3) (ρ.t 9) (ρ.t 5) L.t127 X.cellsByte g cur.size (by have hg' : w.drew.heap[g]? = some (.cells cur (ρ.t 5) (0, 0)) := hg; simp [World.shape?, hg']) l h0 (by omega) (by unfold maxLen at hcm; omega) ?_
    intro j x hx
    exact hown.cells (g := g) rfl j (.int .u8 x.toNat) (by simp [Lib.byteCells, hx])
  have mixed := L.mixed
  have t72 := L.t72; have a72 := L.a72; have z72 := L.z72; have v72 := L.v72; have u72 := run_underlying L.t72
  have t70 := L.t70; have a70 := L.a70; have z70 := L.z70; have v70 := L.v70; have u70 := run_underlying L.t70
  have t37 := L.t37; have a37 := L.a37; have z37 := L.z37; have v37 := L.v37; have u37 := run_underlying L.t37
  have t127 := L.t127; have a127 := L.a127; have z127 := L.z127; have v127 := L.v127; have u127 := run_underlying L.t127
  have t3 := L.t3; have a3 := L.a3; have z3 := L.z3; have v3 := L.v3; have u3 := run_underlying L.t3
  have t9 := L.t9; have a9 := L.a9; have z9 := L.z9; have v9 := L.v9; have u9 := run_underlying L.t9
  have t5 := X.t5; have a5 := X.a5; have z5 := X.z5; have v5 := X.v5; have u5 := run_underlying X.t5
  go_enter L.f169, Body.n169_ntmps ρ
  go_wp2
  go_region_o
  all_goals (go_wp2; go_ret; exact ⟨rfl, (Chg.refl w b _).drew.freeze rfl _⟩)

set_option maxHeartbeats 2000000 in
set_option maxRecDepth 100000 in
theorem bld_string_nil {T : TypeId} (L : Lays.n169 P ρ) (X : Builder.Extra P ρ) (b : Nat) (p : Value) (r : Option Nat) (w : World) (hbk : w.heap[b]? = some (.cells #[p, .slice none 0 0] T (0, 0))) :
    Calls P (ρ.f 169) #[.pointer (some ⟨b, 0, none⟩)] w fun ex w' => ex = .returned (.string ⟨#[]⟩) ∧ Chg w w' b r := by
  have hUS := Any.unsafeString_none L X
  have c1 : w.drew.cell? ⟨b, 1, none⟩ = some (.slice none 0 0) := by
    have : w.drew.heap[b]? = some (.cells #[p, .slice none 0 0] T (0, 0)) := hbk
    rw [Lib.cell_of_heap this]; rfl
  have hSD : (Builtin.unsafeSliceData_ #[(ρ.t 37)] (ρ.t 127) #[.slice none 0 0]).run P w.drew = .ok (.pointer none) w.drew := rfl
  have mixed := L.mixed
  have t72 := L.t72; have a72 := L.a72; have z72 := L.z72; have v72 := L.v72; have u72 := run_underlying L.t72
  have t70 := L.t70; have a70 := L.a70; have z70 := L.z70; have v70 := L.v70; have u70 := run_underlying L.t70
  have t37 := L.t37; have a37 := L.a37; have z37 := L.z37; have v37 := L.v37; have u37 := run_underlying L.t37
  have t127 := L.t127; have a127 := L.a127; have z127 := L.z127; have v127 := L.v127; have u127 := run_underlying L.t127
  have t3 := L.t3; have a3 := L.a3; have z3 := L.z3; have v3 := L.v3; have u3 := run_underlying L.t3
  have t9 := L.t9; have a9 := L.a9; have z9 := L.z9; have v9 := L.v9; have u9 := run_underlying L.t9
  have t5 := X.t5; have a5 := X.a5; have z5 := X.z5; have v5 := X.v5; have u5 := run_underlying X.t5
  go_enter L.f169, Body.n169_ntmps ρ
  go_wp2
  go_region_o
  all_goals (go_wp2; go_ret; exact ⟨rfl, (Chg.refl w b _).drew⟩)

set_option maxHeartbeats 2000000 in
set_option maxRecDepth 100000 in
theorem bld_string_noroom {T : TypeId} (L : Lays.n169 P ρ) (X : Builder.Extra P ρ) (b g : Nat) (p : Value) (r : Option Nat) (cur : Array Value) (w : World) (hbk : w.heap[b]? = some (.cells #[p, .slice (some ⟨g, 0, none⟩) 0 0] T (0, 0))) (hg : w.heap[g]? = some (.cells cur (ρ.t 5) (0, 0))) :
    Calls P (ρ.f 169) #[.pointer (some ⟨b, 0, none⟩)] w fun ex w' => ex = .returned (.string ⟨#[]⟩) ∧ Chg w w' b r := by
  have hUS := Any.unsafeString_none L X
  have hlt : b < w.heap.size := by
    rcases Nat.lt_or_ge b w.heap.size with h' | h'
    · exact h'
    · simp [Array.getElem?_eq_none h'] at hbk
  have c1 : w.drew.cell? ⟨b, 1, none⟩ = some (.slice (some ⟨g, 0, none⟩) 0 0) := by
    have : w.drew.heap[b]? = some (.cells #[p, .slice (some ⟨g, 0, none⟩) 0 0] T (0, 0)) := hbk
    rw [Lib.cell_of_heap this]; rfl
  have hSD : (Builtin.unsafeSliceData_ #[(ρ.t 37)] (ρ.t 127) #[.slice (some ⟨g, 0, none⟩) 0 0]).run P w.drew = .ok (.pointer (some ⟨w.drew.heap.size, 0, none⟩)) (w.drew.alloc (.view ⟨g, 0, none⟩ (ρ.t 5))) :=
    Lib.run_unsafeSliceData_zero w.drew _ _ (ρ.t 5) L.t127 ⟨g, 0, none⟩ 0 ((ρ.t 5), cur.size) (by have hg' : w.drew.heap[g]? = some (.cells cur (ρ.t 5) (0, 0)) := hg; simp [World.shape?, hg'])
  have c2 : (w.drew.alloc (.view ⟨g, 0, none⟩ (ρ.t 5))).cell? ⟨b, 1, none⟩ = some (.slice (some ⟨g, 0, none⟩) 0 0) := by
    have : (w.drew.alloc (.view ⟨g, 0, none⟩ (ρ.t 5))).heap[b]? = _ := (Lib.alloc_old w.drew _ b hlt).trans hbk
    rw [Lib.cell_of_heap this]; rfl
  have c3 : (w.alloc (.view ⟨g, 0, none⟩ (ρ.t 5))).drew.cell? ⟨b, 1, none⟩ = some (.slice (some ⟨g, 0, none⟩) 0 0) := c2
  have c0 : w.cell? ⟨b, 1, none⟩ = some (.slice (some ⟨g, 0, none⟩) 0 0) := c1
  have mixed := L.mixed
  have t72 := L.t72; have a72 := L.a72; have z72 := L.z72; have v72 := L.v72; have u72 := run_underlying L.t72
  have t70 := L.t70; have a70 := L.a70; have z70 := L.z70; have v70 := L.v70; have u70 := run_underlying L.t70
  have t37 := L.t37; have a37 := L.a37; have z37 := L.z37; have v37 := L.v37; have u37 := run_underlying L.t37
  have t127 := L.t127; have a127 := L.a127; have z127 := L.z127; have v127 := L.v127; have u127 := run_underlying L.t127
  have t3 := L.t3; have a3 := L.a3; have z3 := L.z3; have v3 := L.v3; have u3 := run_underlying L.t3
  have t9 := L.t9; have a9 := L.a9; have z9 := L.z9; have v9 := L.v9; have u9 := run_underlying L.t9
  have t5 := X.t5; have a5 := X.a5; have z5 := X.z5; have v5 := X.v5; have u5 := run_underlying X.t5
  go_enter L.f169, Body.n169_ntmps ρ
  go_wp2
  go_region_o
  all_goals (go_wp2; go_ret; exact ⟨rfl, (Chg.refl w b _).drew.alloc _⟩)

set_option maxHeartbeats 2000000 in
set_option maxRecDepth 100000 in
theorem bld_string_room {T : TypeId} (L : Lays.n169 P ρ) (X : Builder.Extra P ρ) (b g cap : Nat) (p : Value) (r : Option Nat) (w : World) (hc0 : cap ≠ 0) (hbk : w.heap[b]? = some (.cells #[p, .slice (some ⟨g, 0, none⟩) 0 cap] T (0, 0))) :
    Calls P (ρ.f 169) #[.pointer (some ⟨b, 0, none⟩)] w fun ex w' => ex = .returned (.string ⟨#[]⟩) ∧ Chg w w' b r := by
  have hUS := Any.unsafeString_none L X
  have c1 : w.drew.cell? ⟨b, 1, none⟩ = some (.slice (some ⟨g, 0, none⟩) 0 cap) := by
    have : w.drew.heap[b]? = some (.cells #[p, .slice (some ⟨g, 0, none⟩) 0 cap] T (0, 0)) := hbk
    rw [Lib.cell_of_heap this]; rfl
  have hSD : (Builtin.unsafeSliceData_ #[(ρ.t 37)] (ρ.t 127) #[.slice (some ⟨g, 0, none⟩) 0 cap]).run P w.drew = .ok (.pointer (some ⟨g, 0, none⟩)) w.drew :=
    Lib.run_unsafeSliceData_row _ _ _ _ _ _ hc0
  clear hc0
  have mixed := L.mixed
  have t72 := L.t72; have a72 := L.a72; have z72 := L.z72; have v72 := L.v72; have u72 := run_underlying L.t72
  have t70 := L.t70; have a70 := L.a70; have z70 := L.z70; have v70 := L.v70; have u70 := run_underlying L.t70
  have t37 := L.t37; have a37 := L.a37; have z37 := L.z37; have v37 := L.v37; have u37 := run_underlying L.t37
  have t127 := L.t127; have a127 := L.a127; have z127 := L.z127; have v127 := L.v127; have u127 := run_underlying L.t127
  have t3 := L.t3; have a3 := L.a3; have z3 := L.z3; have v3 := L.v3; have u3 := run_underlying L.t3
  have t9 := L.t9; have a9 := L.a9; have z9 := L.z9; have v9 := L.v9; have u9 := run_underlying L.t9
  have t5 := X.t5; have a5 := X.a5; have z5 := X.z5; have v5 := X.v5; have u5 := run_underlying X.t5
  go_enter L.f169, Body.n169_ntmps ρ
  go_wp2
  go_region_o
  all_goals (go_wp2; go_ret; exact ⟨rfl, (Chg.refl w b _).drew⟩)

theorem bld_string {T : TypeId} (L : Lays.n169 P ρ) (X : Builder.Extra P ρ) (b : Nat) (p v : Value) (l : List UInt8) (w : World) (h : BldAt T (ρ.t 5) b p v (Lib.byteCells l) w) :
    Calls P (ρ.f 169) #[.pointer (some ⟨b, 0, none⟩)] w fun ex w' => ex = .returned (.string ⟨l.toArray⟩) ∧ Chg w w' b v.ownBlock := by
  cases l with
  | cons x r => exact bld_string_some L X b p v (x :: r) w h (by simp)
  | nil =>
    obtain ⟨hbk, hown, hne, -⟩ := h
    rcases hown.2 with ⟨rfl, _⟩ | ⟨g, cap, cur, rfl, hbg, hg, _, _, _, _⟩
    · exact bld_string_nil L X b p _ w hbk
    · by_cases hc0 : cap = 0
      · subst hc0
        exact bld_string_noroom L X b g p _ cur w hbk hg
      · exact bld_string_room L X b g cap p _ w hc0 hbk

set_option maxHeartbeats 1000000 in
set_option maxRecDepth 100000 in
theorem bld_len {T : TypeId} (L : Lays.n170 P ρ) (b : Nat) (p v : Value) (xs : List Value) (w : World) (h : BldAt T (ρ.t 5) b p v xs w) :
    Calls P (ρ.f 170) #[.pointer (some ⟨b, 0, none⟩)] w fun ex w' => ex = .returned (.int .i64 xs.length) ∧ w' = w := by
  obtain ⟨hbk, hown, hne, -⟩ := h
  obtain ⟨ao, cap, rfl⟩ : ∃ ao cap, v = .slice ao xs.length cap := by
    rcases hown.2 with ⟨hv, h0⟩ | ⟨g, cap, cur, hv, _⟩
    · exact ⟨none, 0, by rw [hv, h0]⟩
    · exact ⟨_, _, hv⟩
  have c1 : w.cell? ⟨b, 1, none⟩ = some (.slice ao xs.length cap) := by rw [Lib.cell_of_heap hbk]; rfl
  have mixed := L.mixed
  have t72 := L.t72; have a72 := L.a72; have z72 := L.z72; have v72 := L.v72; have u72 := run_underlying L.t72
  have t70 := L.t70; have a70 := L.a70; have z70 := L.z70; have v70 := L.v70; have u70 := run_underlying L.t70
  have t37 := L.t37; have a37 := L.a37; have z37 := L.z37; have v37 := L.v37; have u37 := run_underlying L.t37
  have t3 := L.t3; have a3 := L.a3; have z3 := L.z3; have v3 := L.v3; have u3 := run_underlying L.t3
  go_enter L.f170, Body.n170_ntmps ρ
  go_wp2
  go_ret
  exact ⟨rfl, rfl⟩

/-! ### Blocks that gather a text -/
theorem repA_ints {w : World} {fr : Addr → Prop} {k : IntKind} : ∀ {l : List Int} {us : List Value}, RepA w fr (.int k) l us ↔ us = l.map (Value.int k)
  | [], us => Iff.rfl
  | x :: l, us => by
    constructor
    · rintro ⟨u, v, rfl, h1, h2⟩
      cases h1
      rw [repA_ints.1 h2]
      rfl
    · rintro rfl
      exact ⟨[_], _, rfl, rfl, repA_ints.2 rfl⟩

theorem strCells_of (s : ByteArray) : Lib.strCells s = (ofBytes s).map (Value.int .u8) := by
  unfold Lib.strCells ofBytes
  rw [List.map_map]
  rfl

theorem ofBytes_len (s : ByteArray) : (ofBytes s).length = s.size := by
  unfold ofBytes
  rw [List.length_map, Array.length_toList]
  rfl

theorem BRep.bldAt {c : Cx} {b : Nat} {ty e : TypeId} {s : ByteArray} (h : BRep c b (.bld ty e s)) : ∃ B p v, adr (c.cv b) = some ⟨B, 0, none⟩ ∧ BldAt ty e B p v (Lib.strCells s) c.w ∧
    (∀ i, i = B ∨ v.ownBlock = some i → cb (c.cv b) i) ∧ (∀ a, a.block = B → ¬ c.fr a) ∧ (∀ a R, v.ownBlock = some R → a.block = R → ¬ c.fr a) := by
  obtain ⟨B, r, p, A, cap, h1, h2, h3, h4, h5⟩ := h
  refine ⟨B, p, .slice A s.size cap, by rw [h1]; rfl, ⟨h2, ?_, ?_, h4.imp (·.1) id⟩, ?_, h3, ?_⟩
  · refine ⟨by rw [Nat.mul_one], ?_⟩
    rw [Lib.strCells_length]
    rcases h5 with ⟨_, rfl, rfl, h0⟩ | ⟨R, us, vs, _, _, rfl, k3, k4, k5, k6, _⟩
    · exact .inl ⟨by rw [h0], h0⟩
    · refine .inr ⟨R, cap, (us ++ vs).toArray, rfl, Nat.zero_le _, k3, k4, k5.2, by simp; omega, ?_⟩
      have := repA_ints.1 k6
      have hl : us.length = s.size := by rw [this, List.length_map, ofBytes_len]
      rw [Nat.mul_one, List.take_append_of_le_length (by omega), List.take_of_length_le (by omega), strCells_of, this]
  · rcases h5 with ⟨_, rfl, rfl, h0⟩ | ⟨R, us, vs, _, hR, rfl, _⟩
    · intro e; cases e
    · intro e; cases e; exact hR rfl
  · rw [h1]
    rintro i (rfl | hi)
    · exact .inl rfl
    · rcases h5 with ⟨_, rfl, rfl, h0⟩ | ⟨R, us, vs, hr, hR, rfl, _⟩
      · cases hi
      · cases hi; exact .inr hr
  · intro a R hv ha
    rcases h5 with ⟨_, rfl, rfl, h0⟩ | ⟨R', us, vs, hr, hR, rfl, _, _, _, _, k7⟩
    · cases hv
    · cases hv; exact k7 a ha

/-- The context behind a method's call. -/
def bldCx (c : Cx) (b : Nat) (ty e : TypeId) (s' : ByteArray) (v' : Value) (w' : World) (B : Nat) : Cx :=
  { c with
    w := w'
    hp := c.hp.set b (.bld ty e s')
    cv := fun j => if j = b then .iface (match v'.ownBlock with | some R => R + 1 | none => 0) (.pointer (some ⟨B, 0, none⟩)) else c.cv j }

theorem bld_new {c : Cx} {b B : Nat} {ty e : TypeId} {s' : ByteArray} {v v' : Value} {w' : World} (hfr : ∀ a, a.block = B → ¬ c.fr a) (hfr' : ∀ a R, v'.ownBlock = some R → a.block = R → ¬ c.fr a)
    (h : BldAt ty e B (.pointer (some ⟨B, 0, none⟩)) v' (Lib.strCells s') w') : BRep (bldCx c b ty e s' v' w' B) b (.bld ty e s') := by
  obtain ⟨h1, h2, h3, -⟩ := h
  have hl := Lib.strCells_length s'
  rcases h2.2 with ⟨rfl, h0⟩ | ⟨g, cap, cur, rfl, -, hg, hn, hm, hc, ht⟩
  · refine ⟨B, 0, _, none, 0, by simp [bldCx, Value.ownBlock], ?_, hfr, .inr rfl, .inl ⟨rfl, rfl, rfl, by omega⟩⟩
    rw [show s'.size = 0 by omega]
    exact h1
  · refine ⟨B, g + 1, _, some ⟨g, 0, none⟩, cap, by simp [bldCx, Value.ownBlock], ?_, hfr, .inr rfl, .inr ⟨g, cur.toList.take s'.size, cur.toList.drop s'.size, rfl, ?_, rfl, ?_, ?_, ⟨?_, hm⟩, ?_, fun a ha => hfr' a g rfl ha⟩⟩
    · rw [← hl]; exact h1
    · intro e; exact h3 (by rw [e]; rfl)
    · rw [List.take_append_drop, Array.toArray_toList]; exact hg
    · omega
    · rw [← List.length_append, List.take_append_drop, Array.length_toList]; omega
    · rw [hl, Nat.mul_one] at ht
      rw [ht, strCells_of]
      exact repA_ints.2 rfl

theorem bld_upd {c : Cx} (H : HRep c) {b B : Nat} {ty e : TypeId} {s s' : ByteArray} {v v' : Value} {w' : World} (hb : b < c.hp.length) (hx : getB c.hp b = .bld ty e s)
    (ha : adr (c.cv b) = some ⟨B, 0, none⟩) (hcb : ∀ i, i = B ∨ v.ownBlock = some i → cb (c.cv b) i) (hfr : ∀ a, a.block = B → ¬ c.fr a) (hfr' : ∀ a R, v.ownBlock = some R → a.block = R → ¬ c.fr a)
    (h : BldAt ty e B (.pointer (some ⟨B, 0, none⟩)) v' (Lib.strCells s') w') (hC : Chg c.w w' B v.ownBlock) (hF : Fresh c.w v v') :
    HRep (bldCx c b ty e s' v' w' B) ∧ Stp c (bldCx c b ty e s' v' w' B) := by
  have hlive : live (getB c.hp b) = true := by rw [hx]; rfl
  have hset : ∀ j, getB (c.hp.set b (.bld ty e s')) j = if j = b then .bld ty e s' else getB c.hp j := fun j => getB_set _ hb
  have hext : Ext c.w c.fr w' c.fr := by
    intro a hf
    refine ⟨hf, World.cell?_of_block (hC.block a.block (H.frin a hf) (fun e => hfr a e hf) (fun e => hfr' a _ e.symm rfl hf))⟩
  have hfrn : ∀ a R, v'.ownBlock = some R → a.block = R → ¬ c.fr a := by
    intro a R hv he hf
    rcases hF with h1 | ⟨k, h1, hk⟩
    · exact hfr' a R (h1 ▸ hv) he hf
    · rw [hv] at h1
      cases h1
      have := H.frin a hf
      omega
  have hle : HpLe c (bldCx c b ty e s' v' w' B) := by
    refine ⟨by simp [bldCx], fun j hj => ?_, hext, rfl, rfl⟩
    show BLe (c.cv j) (if j = b then _ else c.cv j) (getB c.hp j) (getB (c.hp.set b _) j)
    rw [hset]
    by_cases e : j = b
    · subst e
      rw [if_pos rfl, if_pos rfl, hx]
      exact ⟨rfl, rfl, by rw [ha]; rfl⟩
    · rw [if_neg e, if_neg e]; exact BLe.refl _ _
  have U : Upd c (bldCx c b ty e s' v' w' B) b := by
    refine ⟨by simp [bldCx, hb], fun j hj hne => by simpa [bldCx] using hj, fun j hj hne => ⟨by rw [bldCx, hset, if_neg hne], if_neg hne⟩, fun i hi hn => ?_, hC.size, hC.os, hC.tape, hC.output, fun a hf => .inl hf, fun a hf => Nat.lt_of_lt_of_le (H.frin a hf) hC.size, ?_, ?_⟩
    · have := hn hb hlive
      exact hC.block i hi (fun e => this (hcb i (.inl e))) (fun e => this (hcb i (.inr e.symm)))
    · show BRep _ b (getB (c.hp.set b _) b)
      rw [hset, if_pos rfl]
      exact bld_new (v := v) hfr hfrn h
    · intro i _ hi
      replace hi : cb (if b = b then _ else c.cv b) i := hi
      rw [if_pos rfl] at hi
      rcases hi with hi | hi
      · exact .inr ⟨hb, hlive, hcb i (.inl hi.symm)⟩
      · rcases hF with h1 | ⟨k, h1, hk⟩
        · cases hv : v'.ownBlock with
          | none => rw [hv] at hi; exact absurd hi (Nat.succ_ne_zero i).symm
          | some R =>
            rw [hv] at hi
            have : R = i := Nat.succ.inj hi
            subst this
            exact .inr ⟨hb, hlive, hcb R (.inr (by rw [← h1, hv]))⟩
        · rw [h1] at hi
          have : k = i := Nat.succ.inj hi
          subst this
          exact .inl hk
  exact ⟨U.hrep H hle, U.stp hle⟩
end Go.Aw
namespace Go.Aw
open Go.Shelf Go.RowKit Go.Proofs
set_option linter.unusedVariables false
variable {P : Program} {ρ : Go.Shelf.Ren}

theorem memN_mem {x : Nat} : ∀ {l : List Nat}, memN x l = true → x ∈ l
  | [], h => by cases h
  | y :: r, h => by
    unfold memN at h
    split at h
    · rename_i e
      rw [Nat.eq_of_beq_eq_true e]; exact List.mem_cons_self ..
    · exact List.mem_cons_of_mem _ (memN_mem h)

def aBldT (l : List TypeId) (e : TypeId) (b : Blk) (f : TypeId → ByteArray → Prop) : Prop := match b with
  | .bld ty e' s => match memN ty l && Nat.beq e' e with
    | true => f ty s
    | false => False
  | _ => False

theorem aBldT_elim {l : List TypeId} {e : TypeId} {b : Blk} {f : TypeId → ByteArray → Prop} (h : aBldT l e b f) : ∃ ty s, b = .bld ty e s ∧ ty ∈ l ∧ memN ty l = true ∧ f ty s := by
  unfold aBldT at h
  split at h
  · split at h
    · rename_i g
      rw [Bool.and_eq_true] at g
      rw [Nat.eq_of_beq_eq_true g.2]
      exact ⟨_, _, rfl, memN_mem g.1, g.1, h⟩
    · exact h.elim
  · exact h.elim

theorem aBldT_mk {l : List TypeId} {e ty : TypeId} {s : ByteArray} {f : TypeId → ByteArray → Prop} (h : memN ty l = true) (hf : f ty s) : aBldT l e (.bld ty e s) f := by
  unfold aBldT
  simp only [h, Nat.beq_refl, Bool.and_self]
  exact hf

theorem getB_one (x : Blk) : getB [x] 0 = x := rfl

theorem bld_post {c : Cx} {k kp : D → List Blk → Prop} {ty e : TypeId} {s s' : ByteArray} (H : HRep c) (hh : c.hp = [.bld ty e s]) {B : Nat} {v v' r : Value} {d : D} {w' : World}
    (ha : adr (c.cv 0) = some ⟨B, 0, none⟩) (hcb : ∀ i, i = B ∨ v.ownBlock = some i → cb (c.cv 0) i) (hfr : ∀ a, a.block = B → ¬ c.fr a) (hfr' : ∀ a R, v.ownBlock = some R → a.block = R → ¬ c.fr a)
    (h : BldAt ty e B (.pointer (some ⟨B, 0, none⟩)) v' (Lib.strCells s') w') (hC : Chg c.w w' B v.ownBlock) (hF : Fresh c.w v v') (hd : ∀ c', Rep c' d r) (hk : k d [.bld ty e s']) : Post c k kp (.returned r) w' := by
  have hl : 0 < c.hp.length := by rw [hh]; exact Nat.zero_lt_one
  have hg : getB c.hp 0 = .bld ty e s := by rw [hh]; rfl
  obtain ⟨H', S'⟩ := bld_upd H hl hg ha hcb hfr hfr' h hC hF
  refine ⟨d, bldCx c 0 ty e s' v' w' B, rfl, ?_, hd _, H', (Inv.start c _ (nBoxes_le _)).step S'⟩
  show k d (c.hp.set 0 _)
  rw [hh]
  exact hk

/-- The block is nobody's any more. -/
theorem bld_dead {c : Cx} (H : HRep c) {b B : Nat} {ty e : TypeId} {s : ByteArray} {row : Option Nat} {w' : World} (hb : b < c.hp.length) (hx : getB c.hp b = .bld ty e s)
    (hcb : ∀ i, i = B ∨ row = some i → cb (c.cv b) i) (hfr : ∀ a, a.block = B → ¬ c.fr a) (hfr' : ∀ a R, row = some R → a.block = R → ¬ c.fr a) (hC : Chg c.w w' B row) :
    HRep { c with w := w', hp := c.hp.set b .dead } ∧ Stp c { c with w := w', hp := c.hp.set b .dead } := by
  have hlive : live (getB c.hp b) = true := by rw [hx]; rfl
  have hset : ∀ j, getB (c.hp.set b .dead) j = if j = b then .dead else getB c.hp j := fun j => getB_set _ hb
  have hext : Ext c.w c.fr w' c.fr := by
    intro a hf
    exact ⟨hf, World.cell?_of_block (hC.block a.block (H.frin a hf) (fun e => hfr a e hf) (fun e => hfr' a _ e.symm rfl hf))⟩
  have hle : HpLe c { c with w := w', hp := c.hp.set b .dead } := by
    refine ⟨by simp, fun j hj => ?_, hext, rfl, rfl⟩
    show BLe (c.cv j) (c.cv j) (getB c.hp j) (getB (c.hp.set b .dead) j)
    rw [hset]
    by_cases e : j = b
    · subst e
      rw [if_pos rfl]
      exact BLe.dead _ _
    · rw [if_neg e]; exact BLe.refl _ _
  have U : Upd c { c with w := w', hp := c.hp.set b .dead } b := by
    refine ⟨by simpa using hb, fun j hj hne => by simpa using hj, fun j hj hne => ⟨by rw [hset, if_neg hne], rfl⟩, fun i hi hn => ?_, hC.size, hC.os, hC.tape, hC.output, fun a hf => .inl hf, fun a hf => Nat.lt_of_lt_of_le (H.frin a hf) hC.size, ?_, ?_⟩
    · have := hn hb hlive
      exact hC.block i hi (fun e => this (hcb i (.inl e))) (fun e => this (hcb i (.inr e.symm)))
    · show BRep _ b (getB (c.hp.set b .dead) b)
      rw [hset, if_pos rfl]
      trivial
    · intro i hl _
      replace hl : live (getB (c.hp.set b .dead) b) = true := hl
      rw [hset, if_pos rfl] at hl
      cases hl
  exact ⟨U.hrep H hle, U.stp hle⟩

/-! ### The methods as plain functions -/
def wb0 (x : Int) (s : ByteArray) (k : ByteArray → Prop) : Prop := (0 ≤ x ∧ x < 256) ∧ s.size + 1 ≤ 140737488355328 ∧ k (s.push (UInt8.ofNat x.toNat))
theorem wb_ex : ∃ g : Int → ByteArray → (ByteArray → Prop) → Prop, g = wb0 := ⟨_, rfl⟩
noncomputable def wb : Int → ByteArray → (ByteArray → Prop) → Prop := Classical.choose wb_ex
theorem wb_def : wb = wb0 := Classical.choose_spec wb_ex
noncomputable def wbEnt (l : List TypeId) (e : TypeId) : Entry := fun args blks k _ => match args, blks with
  | [d0, d1], [e0] => aPtr 0 0 d0 (aInt .u8 d1 fun x => aBldT l e e0 fun ty b => wb x b fun z => k (.v .nilIface) [.bld ty e z])
  | _, _ => False

def ws0 (t s : ByteArray) (k : Int → ByteArray → Prop) : Prop := s.size + t.size ≤ 140737488355328 ∧ k t.size (s ++ t)
theorem ws_ex : ∃ g : ByteArray → ByteArray → (Int → ByteArray → Prop) → Prop, g = ws0 := ⟨_, rfl⟩
noncomputable def ws : ByteArray → ByteArray → (Int → ByteArray → Prop) → Prop := Classical.choose ws_ex
theorem ws_def : ws = ws0 := Classical.choose_spec ws_ex
noncomputable def wsEnt (l : List TypeId) (e : TypeId) : Entry := fun args blks k _ => match args, blks with
  | [d0, d1], [e0] => aPtr 0 0 d0 (aStr d1 fun x => aBldT l e e0 fun ty b => ws x b fun y z => k (.tup [.v (.int .i64 y), .v .nilIface]) [.bld ty e z])
  | _, _ => False

def bs0 (s : ByteArray) (k : ByteArray → Prop) : Prop := k s
theorem bs_ex : ∃ g : ByteArray → (ByteArray → Prop) → Prop, g = bs0 := ⟨_, rfl⟩
noncomputable def bs : ByteArray → (ByteArray → Prop) → Prop := Classical.choose bs_ex
theorem bs_def : bs = bs0 := Classical.choose_spec bs_ex
noncomputable def bsEnt (l : List TypeId) (e : TypeId) : Entry := fun args blks k _ => match args, blks with
  | [d0], [e0] => aPtr 0 0 d0 (aBldT l e e0 fun ty b => bs b fun y => k (.v (.string y)) [.dead])
  | _, _ => False

theorem strCells_push (s : ByteArray) (x : Int) (h0 : 0 ≤ x) (h1 : x < 256) : Lib.strCells (s.push (UInt8.ofNat x.toNat)) = Lib.strCells s ++ [.int .u8 x] := by
  unfold Lib.strCells
  rw [show (s.push (UInt8.ofNat x.toNat)).data = s.data.push (UInt8.ofNat x.toNat) from rfl, Array.toList_push, List.map_append]
  simp only [List.map_cons, List.map_nil, UInt8.toNat_ofNat']
  rw [show ((x.toNat % 2 ^ 8 : Nat) : Int) = x by omega]

theorem strCells_add (s t : ByteArray) : Lib.strCells (s ++ t) = Lib.strCells s ++ Lib.strCells t := by
  unfold Lib.strCells
  rw [ByteArray.data_append, Array.toList_append, List.map_append]

theorem rep_ptr0 {c : Cx} {u : Value} {B : Nat} (ha : adr (c.cv 0) = some ⟨B, 0, none⟩) (h : Rep c (.ptr 0 0) u) : u = .pointer (some ⟨B, 0, none⟩) := by
  simp only [Rep] at h
  obtain ⟨_, _, a, h1, rfl⟩ := h
  rw [ha] at h1
  cases h1
  rfl

theorem funcOk_of {f : FuncId} {fn : Func} (h : P.funcs[f]? = some fn) (h1 : (fn.name == "runtime.NumGoroutine") = false) (h2 : fn.body.isNone = false) : FuncOk P f := ⟨fn, h, h1, h2⟩

theorem wb_ok (L : Lays.n167 P ρ) (X : Builder.Extra P ρ) {l : List TypeId} (hl : ∀ T ∈ l, BldX P ρ T) {f : FuncId} {e : TypeId} (hf : ρ.f 167 = f) (he : ρ.t 5 = e) : EntOk P 0 0 f (wbEnt l e) := by
  subst hf; subst he
  have elim : ∀ {args blks k kp}, wbEnt l (ρ.t 5) args blks k kp → ∃ x ty s, args = [.ptr 0 0, .v (.int .u8 x)] ∧ blks = [.bld ty (ρ.t 5) s] ∧ ty ∈ l ∧ memN ty l = true ∧ wb x s fun z => k (.v .nilIface) [.bld ty (ρ.t 5) z] := by
    intro args blks k kp h
    unfold wbEnt at h
    split at h
    · obtain ⟨rfl, h⟩ := aPtr_elim h
      obtain ⟨x, rfl, h⟩ := aInt_elim h
      obtain ⟨ty, s, rfl, h1, h2, h⟩ := aBldT_elim h
      exact ⟨x, ty, s, rfl, rfl, h1, h2, h⟩
    · exact h.elim
  refine ⟨?_, ?_, funcOk_of L.f167 (by kernel_rfl) (by kernel_rfl)⟩
  · intro args blks k kp h
    obtain ⟨x, ty, s, rfl, rfl, h1, h2, h⟩ := elim h
    rw [wb_def] at h
    refine .inl ⟨_, _, h.2.2, fun k' kp' h' => ?_⟩
    unfold wbEnt
    dsimp only [aPtr, aInt]
    exact aBldT_mk h2 (by rw [wb_def]; exact ⟨h.1, h.2.1, h'⟩)
  · intro c args us k kp _ hr H h
    obtain ⟨x, ty, s, rfl, hh, h1, h2, h⟩ := elim h
    rw [wb_def] at h
    obtain ⟨⟨g0, g1⟩, g2, hk⟩ := h
    simp only [RepL] at hr
    obtain ⟨u0, _, rfl, r0, u1, _, rfl, r1, rfl⟩ := hr
    simp only [Rep.eq_1] at r1
    subst r1
    have hB := H.blk 0 (by rw [hh]; exact Nat.zero_lt_one)
    rw [hh] at hB
    obtain ⟨B, p, v, ha, hat, hcb, hfr, hfr'⟩ := BRep.bldAt (show BRep c 0 (.bld ty (ρ.t 5) s) from hB)
    have hu := rep_ptr0 ha r0
    subst hu
    refine (bld_writeByte L X (hl ty h1) B p v _ x c.w hat (by rw [Lib.strCells_length]; exact g2)).mono ?_
    rintro ex w' ⟨rfl, v', hb, hC, hF⟩
    rw [← strCells_push s x g0 g1] at hb
    exact bld_post H hh ha hcb hfr hfr' hb hC hF (fun c' => by simp only [Rep]) hk

theorem ws_ok (L : Lays.n166 P ρ) (X : Builder.Extra P ρ) {l : List TypeId} (hl : ∀ T ∈ l, BldX P ρ T) {f : FuncId} {e : TypeId} (hf : ρ.f 166 = f) (he : ρ.t 5 = e) : EntOk P 0 0 f (wsEnt l e) := by
  subst hf; subst he
  have elim : ∀ {args blks k kp}, wsEnt l (ρ.t 5) args blks k kp → ∃ x ty s, args = [.ptr 0 0, .v (.string x)] ∧ blks = [.bld ty (ρ.t 5) s] ∧ ty ∈ l ∧ memN ty l = true ∧ ws x s fun y z => k (.tup [.v (.int .i64 y), .v .nilIface]) [.bld ty (ρ.t 5) z] := by
    intro args blks k kp h
    unfold wsEnt at h
    split at h
    · obtain ⟨rfl, h⟩ := aPtr_elim h
      obtain ⟨x, rfl, h⟩ := aStr_elim h
      obtain ⟨ty, s, rfl, h1, h2, h⟩ := aBldT_elim h
      exact ⟨x, ty, s, rfl, rfl, h1, h2, h⟩
    · exact h.elim
  refine ⟨?_, ?_, funcOk_of L.f166 (by kernel_rfl) (by kernel_rfl)⟩
  · intro args blks k kp h
    obtain ⟨x, ty, s, rfl, rfl, h1, h2, h⟩ := elim h
    rw [ws_def] at h
    refine .inl ⟨_, _, h.2, fun k' kp' h' => ?_⟩
    unfold wsEnt
    dsimp only [aPtr, aStr]
    exact aBldT_mk h2 (by rw [ws_def]; exact ⟨h.1, h'⟩)
  · intro c args us k kp _ hr H h
    obtain ⟨x, ty, s, rfl, hh, h1, h2, h⟩ := elim h
    rw [ws_def] at h
    obtain ⟨g2, hk⟩ := h
    simp only [RepL] at hr
    obtain ⟨u0, _, rfl, r0, u1, _, rfl, r1, rfl⟩ := hr
    simp only [Rep.eq_1] at r1
    subst r1
    have hB := H.blk 0 (by rw [hh]; exact Nat.zero_lt_one)
    rw [hh] at hB
    obtain ⟨B, p, v, ha, hat, hcb, hfr, hfr'⟩ := BRep.bldAt (show BRep c 0 (.bld ty (ρ.t 5) s) from hB)
    have hu := rep_ptr0 ha r0
    subst hu
    refine (bld_writeString L X (hl ty h1) B p v _ x c.w hat (by rw [Lib.strCells_length]; exact g2)).mono ?_
    rintro ex w' ⟨rfl, v', hb, hC, hF⟩
    rw [← strCells_add s x] at hb
    refine bld_post H hh ha hcb hfr hfr' hb hC hF (fun c' => ?_) hk
    simp only [Rep, RepL]
    exact ⟨_, rfl, _, _, rfl, rfl, _, _, rfl, rfl, rfl⟩

theorem bs_ok (L : Lays.n169 P ρ) (X : Builder.Extra P ρ) {l : List TypeId} {f : FuncId} {e : TypeId} (hf : ρ.f 169 = f) (he : ρ.t 5 = e) : EntOk P 0 0 f (bsEnt l e) := by
  subst hf; subst he
  have elim : ∀ {args blks k kp}, bsEnt l (ρ.t 5) args blks k kp → ∃ ty s, args = [.ptr 0 0] ∧ blks = [.bld ty (ρ.t 5) s] ∧ ty ∈ l ∧ memN ty l = true ∧ bs s fun y => k (.v (.string y)) [.dead] := by
    intro args blks k kp h
    unfold bsEnt at h
    split at h
    · obtain ⟨rfl, h⟩ := aPtr_elim h
      obtain ⟨ty, s, rfl, h1, h2, h⟩ := aBldT_elim h
      exact ⟨ty, s, rfl, rfl, h1, h2, h⟩
    · exact h.elim
  refine ⟨?_, ?_, funcOk_of L.f169 (by kernel_rfl) (by kernel_rfl)⟩
  · intro args blks k kp h
    obtain ⟨ty, s, rfl, rfl, h1, h2, h⟩ := elim h
    rw [bs_def] at h
    refine .inl ⟨_, _, h, fun k' kp' h' => ?_⟩
    unfold bsEnt
    dsimp only [aPtr]
    exact aBldT_mk h2 (by rw [bs_def]; exact h')
  · intro c args us k kp _ hr H h
    obtain ⟨ty, s, rfl, hh, h1, h2, h⟩ := elim h
    rw [bs_def] at h
    simp only [RepL] at hr
    obtain ⟨u0, _, rfl, r0, rfl⟩ := hr
    have hB := H.blk 0 (by rw [hh]; exact Nat.zero_lt_one)
    rw [hh] at hB
    obtain ⟨B, p, v, ha, hat, hcb, hfr, hfr'⟩ := BRep.bldAt (show BRep c 0 (.bld ty (ρ.t 5) s) from hB)
    have hu := rep_ptr0 ha r0
    subst hu
    rw [Lib.strCells_eq] at hat
    refine (bld_string L X B p v _ c.w hat).mono ?_
    rintro ex w' ⟨rfl, hC⟩
    obtain ⟨H', S'⟩ := bld_dead (b := 0) H (by rw [hh]; exact Nat.zero_lt_one) (by rw [hh]; rfl) hcb hfr hfr' hC
    refine ⟨.v (.string s), _, rfl, ?_, ?_, H', (Inv.start c _ (nBoxes_le _)).step S'⟩
    · show k _ (c.hp.set 0 _)
      rw [hh]
      exact h
    · simp only [Rep]
end Go.Aw
namespace Go.Aw
open Go.Shelf Go.RowKit Go.Proofs
set_option linter.unusedVariables false
variable {P : Program} {ρ : Go.Shelf.Ren}

theorem below_cx {c : Cx} (H : HRep c) {w' : World} (hb : Below c.w.heap.size c.w w') : HRep { c with w := w' } ∧ Stp c { c with w := w' } := by
  have hext : Ext c.w c.fr w' c.fr := fun a hf => ⟨hf, World.cell?_of_block (hb.block a.block (H.frin a hf))⟩
  have hle : HpLe c { c with w := w' } := ⟨Nat.le_refl _, fun _ _ => BLe.refl _ _, hext, rfl, rfl⟩
  exact ⟨HRep.grow H hle rfl (fun _ _ => rfl) hb.block hb.size (fun a ha => .inl ha) (fun a ha => Nat.lt_of_lt_of_le (H.frin a ha) hb.size),
    Stp.grow hle rfl (fun _ _ => rfl) hb.block hb.size (fun a ha => .inl ha) hb.os hb.tape hb.output⟩

/-- A function that turns nothing that was there. -/
theorem EntOk.pure {tf tw : TypeId} {f : FuncId} {en : Entry} (hd : DetE en) (hb : FuncOk P f)
    (h : ∀ (c : Cx) (args : List D) (us : List Value) (k kp : D → List Blk → Prop), RepL c args us → HRep c → en args c.hp k kp →
      ∃ d r, k d c.hp ∧ (∀ c' : Cx, Rep c' d r) ∧ Calls P f us.toArray c.w fun ex w' => ex = .returned r ∧ Below c.w.heap.size c.w w') : EntOk P tf tw f en := by
  refine ⟨hd, ?_, hb⟩
  intro c args us k kp _ hr H he
  obtain ⟨d, r, hk, hd, hc⟩ := h c args us k kp hr H he
  refine hc.mono ?_
  rintro ex w' ⟨rfl, hbl⟩
  obtain ⟨H', S'⟩ := below_cx H hbl
  exact ⟨d, { c with w := w' }, rfl, hk, hd _, H', (Inv.start c _ (nBoxes_le _)).step S'⟩

/-- Two texts, or a text and a byte. -/
theorem spot_none {w : World} {a : Addr} {u : Value} (h : w.cell? a = some u) : a = ⟨a.block, a.off, none⟩ ∧ a.block < w.heap.size := by
  have hlt := World.block_lt_of_cell? w a h
  refine ⟨?_, hlt⟩
  obtain ⟨b, o, s⟩ := a
  cases s with
  | none => rfl
  | some s =>
    exfalso
    unfold World.cell? at h
    simp only [Option.isSome_some, if_true] at h
    split at h <;> cases h

theorem add_flat (b o j : Nat) : (⟨b, o, none⟩ : Addr).add j = ⟨b, o + j, none⟩ := by unfold Addr.add; split <;> simp_all

/-! ### strings.Join -/
def joinB (xs : List ByteArray) (sep : ByteArray) : ByteArray := ⟨(Lib.join (xs.map (·.data.toList)) sep.data.toList).toArray⟩
def jn0 (xs : List ByteArray) (sep : ByteArray) (k : ByteArray → Prop) : Prop := xs.length ≤ 140737488355328 ∧ (joinB xs sep).size ≤ 140737488355328 ∧ k (joinB xs sep)
theorem jn_ex : ∃ g : List ByteArray → ByteArray → (ByteArray → Prop) → Prop, g = jn0 := ⟨_, rfl⟩
noncomputable def jn : List ByteArray → ByteArray → (ByteArray → Prop) → Prop := Classical.choose jn_ex
theorem jn_def : jn = jn0 := Classical.choose_spec jn_ex
noncomputable def jnEnt0 : Entry := fun args blks k _ => match args, blks with
  | [d0, d1], [] => aFz .str d0 fun xs => aStr d1 fun sep => jn xs sep fun y => k (.v (.string y)) []
  | _, _ => False
noncomputable def jnEnt : Entry := fun args blks k kp => jnEnt0 (convA [some .str, none] args) blks k kp

theorem jn_ok (L : Lays.n156 P ρ) (X : Builder.Extra P ρ) {f : FuncId} (hf : ρ.f 156 = f) : EntOk P 0 0 f jnEnt := by
  subst hf
  refine EntOk.conv ?_ _
  have elim : ∀ {args blks k kp}, jnEnt0 args blks k kp → ∃ xs sep, args = [.fz .str xs, .v (.string sep)] ∧ blks = [] ∧ jn xs sep fun y => k (.v (.string y)) [] := by
    intro args blks k kp h
    unfold jnEnt0 at h
    split at h
    · have h9 := aFz_elim (t := .str) h; clear h; obtain ⟨x, rfl, h⟩ := h9
      have h9 := aStr_elim h; clear h; obtain ⟨s, rfl, h⟩ := h9
      exact ⟨x, s, rfl, rfl, h⟩
    · exact h.elim
  refine EntOk.pure ?_ (funcOk_of L.f156 (by kernel_rfl) (by kernel_rfl)) ?_
  · intro args blks k kp h
    have h9 := elim h; clear h; obtain ⟨xs, sep, rfl, rfl, h⟩ := h9
    rw [jn_def] at h
    refine .inl ⟨_, _, h.2.2, fun k' kp' h' => ?_⟩
    unfold jnEnt0
    dsimp only [aFz, aStr, dif_pos]
    rw [jn_def]
    exact ⟨h.1, h.2.1, h'⟩
  · intro c args us k kp hr H h
    have h9 := elim h; clear h; obtain ⟨xs, sep, rfl, hh, h⟩ := h9
    rw [jn_def] at h
    obtain ⟨h1, h2, hk⟩ := h
    simp only [RepL] at hr
    obtain ⟨u0, _, rfl, r0, u1, _, rfl, r1, rfl⟩ := hr
    simp only [Rep.eq_1] at r1
    subst r1
    simp only [Rep] at r0
    obtain ⟨A, cap, e0, hcap, hc⟩ := r0
    cases e0
    refine ⟨.v (.string (joinB xs sep)), .string (joinB xs sep), by rw [hh]; exact hk, fun c' => by simp only [Rep], ?_⟩
    have h2' : (Lib.join (xs.map (·.data.toList)) sep.data.toList).length ≤ 140737488355328 := by
      have : (joinB xs sep).size = (Lib.join (xs.map (·.data.toList)) sep.data.toList).length := by unfold joinB; simp [ByteArray.size]; rfl
      omega
    cases xs with
    | nil =>
      refine (Any.strings_Join_none L X A cap sep c.w).mono ?_
      rintro ex w' ⟨rfl, rfl⟩
      exact ⟨rfl, Below.refl _ _⟩
    | cons x r =>
      obtain ⟨a, rfl, hcell⟩ := hc (by simp)
      have cell : ∀ (i : Nat) y, (x :: r)[i]? = some y → c.w.cell? (a.add i) = some (.string y) := by
        intro i y hy
        obtain ⟨us, h3, h4⟩ := hcell i y hy
        cases h3
        have := (h4 0 _ rfl).2
        rw [add_zero, show i * Ty.str.size = i from Nat.mul_one i] at this
        exact this
      obtain ⟨ha, hlt⟩ := spot_none ((add_zero a) ▸ cell 0 x rfl)
      rw [ha] at cell ⊢
      exact Any.strings_Join L X a.block a.off cap (x :: r) sep c.w (fun j y hy => by rw [← add_flat]; exact cell j y hy) hlt h1 hcap h2'

/-! ### strings.Count, stringslite.Index, of one byte -/
def ct0 (s t : ByteArray) (k : Int → Prop) : Prop := t.size = 1 ∧ k ((Lib.countByte s.data.toList (t.data.getD 0 0) : Nat) : Int)
theorem ct_ex : ∃ g : ByteArray → ByteArray → (Int → Prop) → Prop, g = ct0 := ⟨_, rfl⟩
noncomputable def ct : ByteArray → ByteArray → (Int → Prop) → Prop := Classical.choose ct_ex
theorem ct_def : ct = ct0 := Classical.choose_spec ct_ex
noncomputable def ctEnt : Entry := fun args blks k _ => match args, blks with
  | [d0, d1], [] => aStr d0 fun s => aStr d1 fun t => ct s t fun y => k (.v (.int .i64 y)) []
  | _, _ => False
def ix0 (s t : ByteArray) (k : Int → Prop) : Prop := t.size = 1 ∧ k (Lib.indexByte s.data.toList (t.data.getD 0 0))
theorem ix_ex : ∃ g : ByteArray → ByteArray → (Int → Prop) → Prop, g = ix0 := ⟨_, rfl⟩
noncomputable def ix : ByteArray → ByteArray → (Int → Prop) → Prop := Classical.choose ix_ex
theorem ix_def : ix = ix0 := Classical.choose_spec ix_ex
noncomputable def ixEnt : Entry := fun args blks k _ => match args, blks with
  | [d0, d1], [] => aStr d0 fun s => aStr d1 fun t => ix s t fun y => k (.v (.int .i64 y)) []
  | _, _ => False

theorem one_byte {t : ByteArray} (h : t.size = 1) : t = ⟨#[t.data.getD 0 0]⟩ := by
  obtain ⟨d⟩ := t
  obtain ⟨l⟩ := d
  match l, h with
  | [x], _ => rfl
  | [], h => cases h
  | _ :: _ :: _, h => simp [ByteArray.size] at h

/-- Functions of two texts that give a number. -/
theorem ss_ok {f : FuncId} {g g0 : ByteArray → ByteArray → (Int → Prop) → Prop} (hg : g = g0) (hb : FuncOk P f)
    (h1 : ∀ s t k, g0 s t k → ∃ y, k y ∧ (∀ k', k' y → g0 s t k') ∧ ∀ w, Calls P f #[.string s, .string t] w fun ex w' => ex = .returned (.int .i64 y) ∧ w' = w) :
    EntOk P 0 0 f (fun args blks k _ => match args, blks with
      | [d0, d1], [] => aStr d0 fun s => aStr d1 fun t => g s t fun y => k (.v (.int .i64 y)) []
      | _, _ => False) := by
  subst hg
  have elim : ∀ {args : List D} {blks : List Blk} {k : D → List Blk → Prop}, (match args, blks with
      | [d0, d1], [] => aStr d0 fun s => aStr d1 fun t => g s t fun y => k (.v (.int .i64 y)) []
      | _, _ => False) → ∃ s t, args = [.v (.string s), .v (.string t)] ∧ blks = [] ∧ g s t fun y => k (.v (.int .i64 y)) [] := by
    intro args blks k h
    split at h
    · have h9 := aStr_elim h; clear h; obtain ⟨x, rfl, h⟩ := h9
      have h9 := aStr_elim h; clear h; obtain ⟨s, rfl, h⟩ := h9
      exact ⟨x, s, rfl, rfl, h⟩
    · exact h.elim
  refine EntOk.pure ?_ hb ?_
  · intro args blks k kp h
    have h9 := elim h; clear h; obtain ⟨s, t, rfl, rfl, h⟩ := h9
    obtain ⟨y, hk, hy, _⟩ := h1 _ _ _ h
    exact .inl ⟨_, _, hk, fun k' kp' h' => hy _ h'⟩
  · intro c args us k kp hr H h
    have h9 := elim h; clear h; obtain ⟨s, t, rfl, hh, h⟩ := h9
    obtain ⟨y, hk, _, hc⟩ := h1 _ _ _ h
    simp only [RepL] at hr
    obtain ⟨u0, _, rfl, r0, u1, _, rfl, r1, rfl⟩ := hr
    simp only [Rep.eq_1] at r0 r1
    subst r0; subst r1
    refine ⟨_, .int .i64 y, by rw [hh]; exact hk, fun c' => by simp only [Rep], (hc c.w).mono ?_⟩
    rintro ex w' ⟨rfl, rfl⟩
    exact ⟨rfl, Below.refl _ _⟩

theorem ct_ok (L : Lays.n138 P ρ) {f : FuncId} (hf : ρ.f 138 = f) : EntOk P 0 0 f ctEnt := by
  subst hf
  refine ss_ok ct_def (funcOk_of L.f138 (by kernel_rfl) (by kernel_rfl)) ?_
  rintro s t k ⟨h1, hk⟩
  refine ⟨_, hk, fun k' h' => ⟨h1, h'⟩, fun w => ?_⟩
  have := Any.strings_Count_one L s (t.data.getD 0 0) w
  rw [← one_byte h1] at this
  exact this

theorem ix_ok (L : Lays.n219 P ρ) {f : FuncId} (hf : ρ.f 219 = f) : EntOk P 0 0 f ixEnt := by
  subst hf
  refine ss_ok ix_def (funcOk_of L.f219 (by kernel_rfl) (by kernel_rfl)) ?_
  rintro s t k ⟨h1, hk⟩
  refine ⟨_, hk, fun k' h' => ⟨h1, h'⟩, fun w => ?_⟩
  have := Any.stringslite_Index_one L s (t.data.getD 0 0) w
  rw [← one_byte h1] at this
  exact this
end Go.Aw
