/- Any number from 0 on, of a register, a slot, or by itself, is told as a token of it, if it is not too great. -/
import Derived.Test.YtidclggijmbffaaDoorLexN0
import Derived.Test.YtidclggijmbffaaDoorLexN1
import Derived.Test.YtidclggijmbffaaDoorLexN2
import Derived.Test.YtidclggijmbffaaDoorRows
import Derived.ChangeSame
import Derived.ChangeVars
import Derived.JoinedOf
import Derived.RowKit
import Derived.RowKitTokens
import Derived.LaidLaws
import Derived.LaidHandle
import Derived.Stop.Joined
import Derived.Test.YtidclggijmbffaaDoorCards
import Derived.Test.YtidclggijmbffaaDoorTie
import Derived.SevenTiedAt
import Derived.Deep.DeepHandedRow
import Derived.Test.YtidclggijmbffaaDoorT2
import Derived.WalkKit
import Derived.ProofKit
import Derived.OpenShut
import Derived.ShutString
import Derived.ChangeOld
import Derived.Below
import Derived.SizedLaws
import Derived.Deep.CondSized
namespace Go.Proofs.Ye
open Go Go.Aw Go.Proofs
set_option linter.unusedVariables false
set_option linter.unusedSimpArgs false
set_option maxRecDepth 100000
/-! dyehouse/dyehouselaw09.works -/
namespace N13
noncomputable def cfg : Cfg := { P := Tryd.prog, tf := 49, tw := 0, ty := tys, E := tab [(14, N14.ent), (11, N11.ent), (12, N12.ent), (21, N21.ent)], atSeq := tab [], atLoop := tab [], outs := [], eqT := tab [(42, [(Ty.int IntKind.i64), Ty.str, (Ty.int IntKind.i64), (Ty.int IntKind.i64), (Ty.int IntKind.i64)])], bT := tab [] }
noncomputable def body : Code := bodyOf Tryd.f13
def c (k : Bool → Prop) : Prop :=
  (N14.f (ByteArray.mk #[37, 55, 32, 61, 32, 97, 100, 100, 32, 36, 120, 50, 44, 32, 53, 59, 32, 47, 47, 32, 110, 111, 10, 34, 97, 34, 32, 48, 46, 46, 52]) (fun (y1_0 : Err) (z0_0 : (List (Int × (ByteArray × (Int × (Int × Int)))))) => (N14.f (ByteArray.mk #[97, 32, 63]) (fun (y1_1 : Err) (z0_1 : (List (Int × (ByteArray × (Int × (Int × Int)))))) => (br (y1_0).isNil (br (((((z0_0).length : Nat) : Int)) == (12 : Int)) ((inB 0 (0 : Int) ((((z0_0).length : Nat) : Int) - 1)) ∧ (br (((z0_0.getD (Int.toNat (0 : Int)) ((0, (ByteArray.empty, (0, (0, 0)))))).1 == (4 : Int)) && (beqS (z0_0.getD (Int.toNat (0 : Int)) ((0, (ByteArray.empty, (0, (0, 0)))))).2.1 (ByteArray.mk #[37, 55]) && (((z0_0.getD (Int.toNat (0 : Int)) ((0, (ByteArray.empty, (0, (0, 0)))))).2.2.1 == (7 : Int)) && (((z0_0.getD (Int.toNat (0 : Int)) ((0, (ByteArray.empty, (0, (0, 0)))))).2.2.2.1 == (0 : Int)) && (((z0_0.getD (Int.toNat (0 : Int)) ((0, (ByteArray.empty, (0, (0, 0)))))).2.2.2.2 == (0 : Int)) && true))))) ((inB 0 (3 : Int) ((((z0_0).length : Nat) : Int) - 1)) ∧ (br ((z0_0.getD (Int.toNat (3 : Int)) ((0, (ByteArray.empty, (0, (0, 0)))))).2.2.2.1 == (1 : Int)) ((inB 0 (3 : Int) ((((z0_0).length : Nat) : Int) - 1)) ∧ (br ((z0_0.getD (Int.toNat (3 : Int)) ((0, (ByteArray.empty, (0, (0, 0)))))).2.2.1 == (2 : Int)) ((inB 0 (6 : Int) ((((z0_0).length : Nat) : Int) - 1)) ∧ (br (beqS (z0_0.getD (Int.toNat (6 : Int)) ((0, (ByteArray.empty, (0, (0, 0)))))).2.1 (ByteArray.mk #[59])) ((inB 0 (7 : Int) ((((z0_0).length : Nat) : Int) - 1)) ∧ (br ((z0_0.getD (Int.toNat (7 : Int)) ((0, (ByteArray.empty, (0, (0, 0)))))).1 == (3 : Int)) ((inB 0 (7 : Int) ((((z0_0).length : Nat) : Int) - 1)) ∧ (br (beqS (z0_0.getD (Int.toNat (7 : Int)) ((0, (ByteArray.empty, (0, (0, 0)))))).2.1 (ByteArray.mk #[97])) ((inB 0 (9 : Int) ((((z0_0).length : Nat) : Int) - 1)) ∧ (br (beqS (z0_0.getD (Int.toNat (9 : Int)) ((0, (ByteArray.empty, (0, (0, 0)))))).2.1 (ByteArray.mk #[46, 46])) ((inB 0 (10 : Int) ((((z0_0).length : Nat) : Int) - 1)) ∧ (br ((z0_0.getD (Int.toNat (10 : Int)) ((0, (ByteArray.empty, (0, (0, 0)))))).2.2.1 == (4 : Int)) ((flatE y1_1 = true) ∧ (br ((ofE y1_1) == (10 : Int)) ((flatE y1_1 = true) ∧ (br ((atE y1_1) == (2 : Int)) ((inB 0 (2 : Int) ((((z0_0).length : Nat) : Int) - 1)) ∧ (N21.f (z0_0.getD (Int.toNat (2 : Int)) ((0, (ByteArray.empty, (0, (0, 0)))))).1 (z0_0.getD (Int.toNat (2 : Int)) ((0, (ByteArray.empty, (0, (0, 0)))))).2.1 (z0_0.getD (Int.toNat (2 : Int)) ((0, (ByteArray.empty, (0, (0, 0)))))).2.2.1 (z0_0.getD (Int.toNat (2 : Int)) ((0, (ByteArray.empty, (0, (0, 0)))))).2.2.2.1 (z0_0.getD (Int.toNat (2 : Int)) ((0, (ByteArray.empty, (0, (0, 0)))))).2.2.2.2 (ByteArray.mk #[97, 100, 100]) (fun (y0_2 : Bool) => (br y0_2 ((inB 0 (7 : Int) ((((z0_0).length : Nat) : Int) - 1)) ∧ (N21.f (z0_0.getD (Int.toNat (7 : Int)) ((0, (ByteArray.empty, (0, (0, 0)))))).1 (z0_0.getD (Int.toNat (7 : Int)) ((0, (ByteArray.empty, (0, (0, 0)))))).2.1 (z0_0.getD (Int.toNat (7 : Int)) ((0, (ByteArray.empty, (0, (0, 0)))))).2.2.1 (z0_0.getD (Int.toNat (7 : Int)) ((0, (ByteArray.empty, (0, (0, 0)))))).2.2.2.1 (z0_0.getD (Int.toNat (7 : Int)) ((0, (ByteArray.empty, (0, (0, 0)))))).2.2.2.2 (ByteArray.mk #[97]) (fun (y0_3 : Bool) => (k (!y0_3))))) (k false))))) (k false))) (k false))) (k false))) (k false))) (k false))) (k false))) (k false))) (k false))) (k false))) (k false))) (k false)) (k false))))))
def f0 (k : Bool → Prop) : Prop := c k
theorem f_ex : ∃ g : (Bool → Prop) → Prop, g = f0 := ⟨_, rfl⟩
noncomputable def f : (Bool → Prop) → Prop := Classical.choose f_ex
theorem f_def : f = f0 := Classical.choose_spec f_ex
noncomputable def JJ (k kp : D → List Blk → Prop) : Nat → St → Prop := pick none' []
noncomputable def LL (k kp : D → List Blk → Prop) : Nat → St → Prop := pick none' []
theorem c_c (k kp : D → List Blk → Prop) (J L : Nat → St → Prop) : runC cfg 1000001 J L none'' [] body (topK cfg Tryd.f13 k kp) (st0 Tryd.f13 [] []) = c (fun y0 => k (.v (.bool y0)) []) := by kernel_rfl
theorem c_ag (k kp : D → List Blk → Prop) : agPL cfg 1000001 (JJ k kp) (LL k kp) [] body = agPR cfg 1000001 none'' [] body (topK cfg Tryd.f13 k kp) := by kernel_rfl
theorem body_is : Tryd.f13.body = some body := by kernel_rfl
theorem c_raw (k kp : D → List Blk → Prop) : funW cfg Tryd.f13 [] [] k kp = c (fun y0 => k (.v (.bool y0)) []) :=
  Eq.mp (by kernel_rfl) ((funW_run (AG := none'') body_is (c_ag k kp) [] []).trans (c_c k kp (JJ k kp) (LL k kp)))
theorem f_eq (k kp : D → List Blk → Prop) : funW cfg Tryd.f13 [] [] k kp = f (fun y0 => k (.v (.bool y0)) []) := by
  rw [f_def, c_raw]; rfl
noncomputable def ent0 : Entry := fun args blks k _ => match args, blks with
  | [], [] => f (fun y0 => k (.v (.bool y0)) [])
  | _, _ => False
noncomputable def ent : Entry := fun args blks k kp => ent0 (convB [] args) blks k kp
theorem ok : EntOk Tryd.prog 49 0 13 ent := by
  refine EntOk.convB (EntOk.of (funW_ok (cfg := cfg) (tyOk_of rfl rfl tyL_ok) (eqOk_of (P := Tryd.prog) rfl rfl (by kernel_rfl)) mixed_ok (tab_ok ?_) Tryd.func13 (by rfl) (by rfl)) ?_) _
  · intro p hp
    simp only [List.mem_cons, List.not_mem_nil, or_false] at hp
    rcases hp with rfl | rfl | rfl | rfl
    · exact N14.ok
    · exact N11.ok
    · exact N12.ok
    · exact N21.ok
  · intro args blks k kp h k' kp'
    match args, blks, h with
    | [], [], h =>
    dsimp only [ent0] at h
    exact (f_eq k' kp').symm
end N13
end Go.Proofs.Ye
namespace Go.Proofs.Ye
open Go Go.Aw Go.Proofs Go.RowKit
set_option linter.unusedVariables false
set_option linter.unusedSimpArgs false

theorem same_s (a b : List LTok) (hl : a.length ≤ 281474976710656) (k : Bool → Prop) (he : a = b) (h : k true) : N16.f a b k := by
  subst he
  rw [N16.f_def]
  unfold N16.f0 N16.c
  rw [br_bne, if_pos rfl]
  unfold N16.l4'
  refine loopS_of (fun x : Int => ∃ j : Nat, x = j ∧ j ≤ a.length) (fun x => a.length - x.toNat) ?_ ⟨0, rfl, Nat.zero_le _⟩
  rintro again x ⟨j, rfl, hj⟩ hag
  unfold N16.l4 N16.j8' N16.j8
  dsimp only
  refine br_of (fun hlt => ?_) (fun _ => h)
  have hlt := of_decide_eq_true hlt
  refine ⟨⟨by omega, by omega, by omega⟩, ⟨by omega, by omega, by omega⟩, ?_⟩
  simp only [beq_self_eq_true, beqS_self, Bool.and_self, Bool.not_true, br_false]
  rw [wrap_id (by omega) (by omega)]
  exact hag _ ⟨j + 1, by simp, by omega⟩ (by omega)
theorem is_s (a : Int) (t : ByteArray) (n c p : Int) (w : ByteArray) (k : Bool → Prop) (h : k ((decide (a = 1) || decide (a = 7)) && beqS t w)) : N21.f a t n c p w k := by
  rw [N21.f_def]
  unfold N21.f0 N21.c
  simp only [br_beq]
  split
  · rename_i h1; simpa [h1] using h
  · rename_i h1
    split
    · rename_i h2; simpa [h2] using h
    · rename_i h2; simpa [h1, h2] using h

def exA : List Int := [37, 55, 32, 61, 32, 97, 100, 100, 32, 36, 120, 50, 44, 32, 53, 59, 32, 47, 47, 32, 110, 111, 10, 34, 97, 34, 32, 48, 46, 46, 52]
def lexA : List LTok := [(4, ⟨#[37, 55]⟩, 7, 0, 0), (7, ⟨#[61]⟩, 0, 0, 3), (1, ⟨#[97, 100, 100]⟩, 0, 0, 5), (5, ⟨#[36, 120, 50]⟩, 2, 1, 9), (7, ⟨#[44]⟩, 0, 0, 12), (2, ⟨#[53]⟩, 5, 0, 14), (7, ⟨#[59]⟩, 0, 0, 15), (3, ⟨#[97]⟩, 0, 0, 23), (2, ⟨#[48]⟩, 0, 0, 27), (7, ⟨#[46, 46]⟩, 0, 0, 28), (2, ⟨#[52]⟩, 4, 0, 30), (0, ⟨#[]⟩, 0, 0, 31)]
theorem lexA_eq : lexAll exA = (lexA, 0, 0) := by decide +kernel
theorem lexB_eq : lexAll [97, 32, 63] = ([], 10, 2) := by decide +kernel
theorem ofN (c a : Int) (h : c ≠ 0) : newE c a = .flt c a := by unfold newE; rw [if_neg h]
theorem lworks_s (k : Bool → Prop) (h : k true) : N13.f k := by
  rw [N13.f_def]
  unfold N13.f0 N13.c
  refine all_s _ (by decide) _ ?_
  rw [show ofBytes (ByteArray.mk #[37, 55, 32, 61, 32, 97, 100, 100, 32, 36, 120, 50, 44, 32, 53, 59, 32, 47, 47, 32, 110, 111, 10, 34, 97, 34, 32, 48, 46, 46, 52]) = exA from rfl, lexA_eq]
  refine all_s _ (by decide) _ ?_
  rw [show ofBytes (ByteArray.mk #[97, 32, 63]) = [97, 32, 63] from rfl, lexB_eq]
  rw [ofN 10 2 (by decide), show newE 0 0 = .nil from rfl]
  show br true _ _
  rw [br_true]
  have hlen : lexA.length = 12 := rfl
  rw [hlen]
  have B : ∀ i : Int, 0 ≤ i → i ≤ 11 → inB 0 i (((12 : Nat) : Int) - 1) := fun i h1 h2 => ⟨by omega, by omega, by omega⟩
  show br true _ _
  rw [br_true]
  refine ⟨B 0 (by omega) (by omega), ?_⟩
  show br true _ _
  refine ⟨B 3 (by omega) (by omega), ?_⟩
  show br true _ _
  refine ⟨B 3 (by omega) (by omega), ?_⟩
  show br true _ _
  refine ⟨B 6 (by omega) (by omega), ?_⟩
  show br true _ _
  refine ⟨B 7 (by omega) (by omega), ?_⟩
  show br true _ _
  refine ⟨B 7 (by omega) (by omega), ?_⟩
  show br true _ _
  refine ⟨B 9 (by omega) (by omega), ?_⟩
  show br true _ _
  refine ⟨B 10 (by omega) (by omega), ?_⟩
  show br true _ _
  refine ⟨rfl, ?_⟩
  show br true _ _
  refine ⟨rfl, ?_⟩
  show br true _ _
  refine ⟨B 2 (by omega) (by omega), is_s _ _ _ _ _ _ _ ?_⟩
  show br true _ _
  refine ⟨B 7 (by omega) (by omega), is_s _ _ _ _ _ _ _ ?_⟩
  exact h

/-- What a reading comes to is told in the same words. -/
theorem err_flat (c a : Int) : flatE (newE c a) = true := by unfold newE; split <;> rfl
theorem err_of (c a : Int) : ofE (newE c a) = c := by
  unfold newE
  split
  · rename_i h; rw [h]; rfl
  · rfl
theorem err_at {c a : Int} (h : c = 0 → a = 0) : atE (newE c a) = a := by
  unfold newE
  split
  · rename_i h1; rw [h h1]; rfl
  · rfl
theorem err_nil (c a : Int) : (newE c a).isNil = decide (c = 0) := by
  unfold newE
  split
  · rename_i h; simp [h, Err.isNil]
  · rename_i h; simp [h, Err.isNil]
end Go.Proofs.Ye
namespace Go.Proofs.Ye
open Go Go.Aw Go.Proofs Go.Proofs.YtidclggijmbffaaDoor Go.ChangeShapes Go.WideShapes Go.RowKit

/-! ### What the row says of the variable that errors.As looks at -/
theorem Tryd.et : Tryd.prog.globalNamed "errors.errorType" = some 0 := by kernel_rfl
theorem Tryd.rt : (Tryd.prog.cutTypes.find? (·.1 == "internal/reflectlite.rtype")).map (·.2) = some 108 := by kernel_rfl
theorem Tryd.oneRow : ((List.range 162).filter fun t => Tryd.prog.rowNamed t [101, 114, 114, 111, 114]) = [25] := by kernel_rfl
theorem Tryd.typesSize : Tryd.prog.types.size = 162 := by kernel_rfl
theorem handle_of_laid {W : World} (h : laidMetH Tryd.prog [("errors.errorType", Rows.laid_errors_errorType)] W) : W.cell? ⟨0, 0, none⟩ = some (.iface 108 (.agg #[.pointer (some ⟨2, 25, none⟩)])) := by
  have h' : laidMet Tryd.prog [] W ∧ handlesMet Tryd.prog [("errors.errorType", Rows.laid_errors_errorType)] W := h
  obtain ⟨name, u, ty, e1, e2, e3, e4, e5⟩ := h'.2 _ (List.mem_singleton.2 rfl)
  have en : name = [101, 114, 114, 111, 114] := (Option.some.inj e1).symm
  subst en
  obtain rfl := Option.some.inj (Tryd.rt.symm.trans e2)
  have hm : ty ∈ (List.range 162).filter fun t => Tryd.prog.rowNamed t [101, 114, 114, 111, 114] := List.mem_filter.2 ⟨List.mem_range.2 (by rw [← Tryd.typesSize]; exact e3), e4⟩
  rw [Tryd.oneRow] at hm
  obtain rfl := List.mem_singleton.1 hm
  have hh : typeHandle Tryd.prog 25 = .pointer (some ⟨2, 25, none⟩) := by kernel_rfl
  rw [hh] at e5
  simpa using World.var?_cell Tryd.et e5 0
theorem hand {W : World} (h : laidMetH Tryd.prog [("errors.errorType", Rows.laid_errors_errorType)] W) : ∀ g v, hdlOf Tryd.prog = some (g, v) → W.cell? ⟨g, 0, none⟩ = some v := by
  intro g v hg
  rw [F.hdl] at hg
  cases hg
  exact handle_of_laid h
noncomputable def laidWorld (os : Os) : World :=
  let w0 := World.holding Tryd.prog os ⟨#[], #[], []⟩
  { w0 with heap := w0.heap.modify 0 fun
      | .cells _ t frozen => .cells #[.iface 108 (.agg #[.pointer (some ⟨2, 25, none⟩)])] t frozen
      | o => o }
theorem laid_met (os : Os) (args : Array Value) : laidMetH Tryd.prog [("errors.errorType", Rows.laid_errors_errorType)] ((laidWorld os).forCall (fun _ _ => 0) ⟨#[], args, []⟩).memory :=
  laidMetH_of_parts (laidMet_nil _ _) (by kernel_rfl)
end Go.Proofs.Ye
namespace Go.Proofs.Ye
open Go Go.Aw Go.Proofs
set_option linter.unusedVariables false
set_option linter.unusedSimpArgs false
set_option maxRecDepth 100000
/-! dyehouse/dyehouselaw09.LexNumbers -/
namespace N7
noncomputable def cfg : Cfg := { P := Tryd.prog, tf := 49, tw := 0, ty := tys, E := tab [(13, N13.ent), (9, N9.ent), (14, N14.ent), (11, N11.ent)], atSeq := tab [(2000003, ⟨[(0, .keep), (1, .keep), (5, .keep), (18, .keep)]⟩), (4, ⟨[(0, .keep), (1, .keep), (5, .keep)]⟩), (2000006, ⟨[(0, .keep), (1, .keep), (6, .keep), (7, .keep), (36, .keep)]⟩), (7, ⟨[(0, .keep), (1, .keep), (6, .keep), (7, .keep)]⟩)], atLoop := tab [], outs := [], eqT := tab [], bT := tab [] }
noncomputable def body : Code := bodyOf Tryd.f7
def j2000003 (j4 : Int → Int → (List ByteArray) → Prop) (x0 : Int) (x1 : Int) (x18 : Bool) (b0 : (List ByteArray)) (k : Bool → Prop) : Prop :=
  (br x18 (N13.f (fun (y0_0 : Bool) => (k y0_0))) (j4 x0 x1 b0))
def j4 (j2000006 : Int → Int → Err → Bool → (List (Int × (ByteArray × (Int × (Int × Int))))) → Prop) (x0 : Int) (x1 : Int) (b0 : (List ByteArray)) (k : Bool → Prop) : Prop :=
  ((inB 0 x1 ((((b0).length : Nat) : Int) - 1)) ∧ (N9.f x0 (fun (y0_1 : ByteArray) => ((((b0.getD (Int.toNat x1) (ByteArray.empty))).size + (y0_1).size ≤ 9223372036854775807) ∧ (N14.f ((b0.getD (Int.toNat x1) (ByteArray.empty)) ++ y0_1) (fun (y1_2 : Err) (z0_2 : (List (Int × (ByteArray × (Int × (Int × Int)))))) => (br (decide (x1 > (0 : Int))) (j2000006 x0 x1 y1_2 (decide (x0 > (2147483647 : Int))) z0_2) (j2000006 x0 x1 y1_2 false z0_2))))))))
def j2000006 (j7 : Int → Int → Err → (List (Int × (ByteArray × (Int × (Int × Int))))) → Prop) (x0 : Int) (x1 : Int) (x7 : Err) (x36 : Bool) (b0 : (List (Int × (ByteArray × (Int × (Int × Int)))))) (k : Bool → Prop) : Prop :=
  (br x36 ((flatE x7 = true) ∧ (br ((ofE x7) == (2 : Int)) (br (((((b0).length : Nat) : Int)) == (0 : Int)) (N13.f (fun (y0_3 : Bool) => (k y0_3))) (k false)) (k false))) (j7 x0 x1 x7 b0))
def j7 (x0 : Int) (x1 : Int) (x7 : Err) (b0 : (List (Int × (ByteArray × (Int × (Int × Int)))))) (k : Bool → Prop) : Prop :=
  (br (x7).isNil (br (((((b0).length : Nat) : Int)) == (2 : Int)) ((inB 0 (0 : Int) ((((b0).length : Nat) : Int) - 1)) ∧ (br ((b0.getD (Int.toNat (0 : Int)) ((0, (ByteArray.empty, (0, (0, 0)))))).2.2.1 == x0) ((inB 0 (0 : Int) ((((b0).length : Nat) : Int) - 1)) ∧ (br ((b0.getD (Int.toNat (0 : Int)) ((0, (ByteArray.empty, (0, (0, 0)))))).2.2.2.2 == (0 : Int)) ((inB 0 (0 : Int) ((((b0).length : Nat) : Int) - 1)) ∧ (br (((b0.getD (Int.toNat (0 : Int)) ((0, (ByteArray.empty, (0, (0, 0)))))).2.2.2.1 == (1 : Int)) == (x1 == (4 : Int))) (N13.f (fun (y0_4 : Bool) => (k y0_4))) (k false))) (k false))) (k false))) (k false)) (k false))
def c (j2000003 : Int → Int → Bool → (List ByteArray) → Prop) (x0 : Int) (x1 : Int) (k : Bool → Prop) : Prop :=
  (br (decide (x0 < (0 : Int))) (j2000003 x0 x1 true ([(ByteArray.mk #[]), (ByteArray.mk #[37]), (ByteArray.mk #[35]), (ByteArray.mk #[36, 103]), (ByteArray.mk #[36, 120])] : List ByteArray)) (br (decide (x1 < (0 : Int))) (j2000003 x0 x1 true ([(ByteArray.mk #[]), (ByteArray.mk #[37]), (ByteArray.mk #[35]), (ByteArray.mk #[36, 103]), (ByteArray.mk #[36, 120])] : List ByteArray)) (j2000003 x0 x1 (decide (x1 > (4 : Int))) ([(ByteArray.mk #[]), (ByteArray.mk #[37]), (ByteArray.mk #[35]), (ByteArray.mk #[36, 103]), (ByteArray.mk #[36, 120])] : List ByteArray))))
def j7' (x0 : Int) (x1 : Int) (x7 : Err) (b0 : (List (Int × (ByteArray × (Int × (Int × Int)))))) (k : Bool → Prop) : Prop := j7 x0 x1 x7 b0 k
def j2000006' (x0 : Int) (x1 : Int) (x7 : Err) (x36 : Bool) (b0 : (List (Int × (ByteArray × (Int × (Int × Int)))))) (k : Bool → Prop) : Prop := j2000006 (fun x0 x1 x7 b0 => j7' x0 x1 x7 b0 k) x0 x1 x7 x36 b0 k
def j4' (x0 : Int) (x1 : Int) (b0 : (List ByteArray)) (k : Bool → Prop) : Prop := j4 (fun x0 x1 x7 x36 b0 => j2000006' x0 x1 x7 x36 b0 k) x0 x1 b0 k
def j2000003' (x0 : Int) (x1 : Int) (x18 : Bool) (b0 : (List ByteArray)) (k : Bool → Prop) : Prop := j2000003 (fun x0 x1 b0 => j4' x0 x1 b0 k) x0 x1 x18 b0 k
def f0 (x0 : Int) (x1 : Int) (k : Bool → Prop) : Prop := c (fun x0 x1 x18 b0 => j2000003' x0 x1 x18 b0 k) x0 x1 k
theorem f_ex : ∃ g : Int → Int → (Bool → Prop) → Prop, g = f0 := ⟨_, rfl⟩
noncomputable def f : Int → Int → (Bool → Prop) → Prop := Classical.choose f_ex
theorem f_def : f = f0 := Classical.choose_spec f_ex
def m2000003 (x0 : Int) (x1 : Int) (x18 : Bool) (b0 : (List ByteArray)) : St := { tmps := mkT 83 0 [(0, (.v (.int IntKind.i64 x0))), (1, (.v (.int IntKind.i64 x1))), (5, (.sl 0 0)), (18, (.v (.bool x18)))], hp := [(.lst 9 Ty.str b0 0 false)], m := 0 }
def m4 (x0 : Int) (x1 : Int) (b0 : (List ByteArray)) : St := { tmps := mkT 83 0 [(0, (.v (.int IntKind.i64 x0))), (1, (.v (.int IntKind.i64 x1))), (5, (.sl 0 0))], hp := [(.lst 9 Ty.str b0 0 false)], m := 0 }
def m2000006 (x0 : Int) (x1 : Int) (x7 : Err) (x36 : Bool) (b0 : (List (Int × (ByteArray × (Int × (Int × Int)))))) : St := { tmps := mkT 83 0 [(0, (.v (.int IntKind.i64 x0))), (1, (.v (.int IntKind.i64 x1))), (6, (.sl 0 0)), (7, (.er x7)), (36, (.v (.bool x36)))], hp := [(.lst 42 (Ty.pair (Ty.int IntKind.i64) (Ty.pair Ty.str (Ty.pair (Ty.int IntKind.i64) (Ty.pair (Ty.int IntKind.i64) (Ty.int IntKind.i64))))) b0 0 false)], m := 0 }
def m7 (x0 : Int) (x1 : Int) (x7 : Err) (b0 : (List (Int × (ByteArray × (Int × (Int × Int)))))) : St := { tmps := mkT 83 0 [(0, (.v (.int IntKind.i64 x0))), (1, (.v (.int IntKind.i64 x1))), (6, (.sl 0 0)), (7, (.er x7))], hp := [(.lst 42 (Ty.pair (Ty.int IntKind.i64) (Ty.pair Ty.str (Ty.pair (Ty.int IntKind.i64) (Ty.pair (Ty.int IntKind.i64) (Ty.int IntKind.i64))))) b0 0 false)], m := 0 }
noncomputable def X2000003 (k kp : D → List Blk → Prop) : St → Prop := atP cfg (pick none' []) [1, 1, 0, 1] body (topK cfg Tryd.f7 k kp)
noncomputable def X4 (k kp : D → List Blk → Prop) : St → Prop := atP cfg (pick none' []) [1, 1, 1] body (topK cfg Tryd.f7 k kp)
noncomputable def X2000006 (k kp : D → List Blk → Prop) : St → Prop := atP cfg (pick none' []) [1, 1, 1, 1, 0, 1] body (topK cfg Tryd.f7 k kp)
noncomputable def X7 (k kp : D → List Blk → Prop) : St → Prop := atP cfg (pick none' []) [1, 1, 1, 1, 1] body (topK cfg Tryd.f7 k kp)
noncomputable def JJ (k kp : D → List Blk → Prop) : Nat → St → Prop := pick none' [(2000003, X2000003 k kp), (4, X4 k kp), (2000006, X2000006 k kp), (7, X7 k kp)]
noncomputable def LL (k kp : D → List Blk → Prop) : Nat → St → Prop := pick none' []
theorem j7_c (k kp : D → List Blk → Prop) (J L : Nat → St → Prop) (x0 : Int) (x1 : Int) (x7 : Err) (b0 : (List (Int × (ByteArray × (Int × (Int × Int)))))) : runC cfg 7 J L (pick none' []) [1, 1, 1, 1, 1] body (topK cfg Tryd.f7 k kp) (m7 x0 x1 x7 b0) = j7 x0 x1 x7 b0 (fun y0 => k (.v (.bool y0)) []) := by kernel_rfl
theorem j7_ag (k kp : D → List Blk → Prop) : agPL cfg 7 (JJ k kp) (LL k kp) [1, 1, 1, 1, 1] body = agPR cfg 7 (pick none' []) [1, 1, 1, 1, 1] body (topK cfg Tryd.f7 k kp) := by kernel_rfl
theorem j7_raw (k kp : D → List Blk → Prop) (x0 : Int) (x1 : Int) (x7 : Err) (b0 : (List (Int × (ByteArray × (Int × (Int × Int)))))) : X7 k kp (m7 x0 x1 x7 b0) = j7 x0 x1 x7 b0 (fun y0 => k (.v (.bool y0)) []) :=
  Eq.mp (by kernel_rfl) ((atP_run (j7_ag k kp) (m7 x0 x1 x7 b0)).trans (j7_c k kp (JJ k kp) (LL k kp) x0 x1 x7 b0))
theorem j7_eq (k kp : D → List Blk → Prop) (x0 : Int) (x1 : Int) (x7 : Err) (b0 : (List (Int × (ByteArray × (Int × (Int × Int)))))) : X7 k kp (m7 x0 x1 x7 b0) = j7' x0 x1 x7 b0 (fun y0 => k (.v (.bool y0)) []) := by
  rw [j7_raw]; rfl
theorem j2000006_c (k kp : D → List Blk → Prop) (J L : Nat → St → Prop) (x0 : Int) (x1 : Int) (x7 : Err) (x36 : Bool) (b0 : (List (Int × (ByteArray × (Int × (Int × Int)))))) : runC cfg 2000006 J L (pick none' []) [1, 1, 1, 1, 0, 1] body (topK cfg Tryd.f7 k kp) (m2000006 x0 x1 x7 x36 b0) = j2000006 (fun x0 x1 x7 b0 => J 7 (m7 x0 x1 x7 b0)) x0 x1 x7 x36 b0 (fun y0 => k (.v (.bool y0)) []) := by kernel_rfl
theorem j2000006_ag (k kp : D → List Blk → Prop) : agPL cfg 2000006 (JJ k kp) (LL k kp) [1, 1, 1, 1, 0, 1] body = agPR cfg 2000006 (pick none' []) [1, 1, 1, 1, 0, 1] body (topK cfg Tryd.f7 k kp) := by kernel_rfl
theorem j2000006_raw (k kp : D → List Blk → Prop) (x0 : Int) (x1 : Int) (x7 : Err) (x36 : Bool) (b0 : (List (Int × (ByteArray × (Int × (Int × Int)))))) : X2000006 k kp (m2000006 x0 x1 x7 x36 b0) = j2000006 (fun x0 x1 x7 b0 => X7 k kp (m7 x0 x1 x7 b0)) x0 x1 x7 x36 b0 (fun y0 => k (.v (.bool y0)) []) :=
  Eq.mp (by kernel_rfl) ((atP_run (j2000006_ag k kp) (m2000006 x0 x1 x7 x36 b0)).trans (j2000006_c k kp (JJ k kp) (LL k kp) x0 x1 x7 x36 b0))
theorem j2000006_eq (k kp : D → List Blk → Prop) (x0 : Int) (x1 : Int) (x7 : Err) (x36 : Bool) (b0 : (List (Int × (ByteArray × (Int × (Int × Int)))))) : X2000006 k kp (m2000006 x0 x1 x7 x36 b0) = j2000006' x0 x1 x7 x36 b0 (fun y0 => k (.v (.bool y0)) []) := by
  rw [j2000006_raw]; simp only [j7_eq]; first | done | rfl
theorem j4_c (k kp : D → List Blk → Prop) (J L : Nat → St → Prop) (x0 : Int) (x1 : Int) (b0 : (List ByteArray)) : runC cfg 4 J L (pick none' []) [1, 1, 1] body (topK cfg Tryd.f7 k kp) (m4 x0 x1 b0) = j4 (fun x0 x1 x7 x36 b0 => J 2000006 (m2000006 x0 x1 x7 x36 b0)) x0 x1 b0 (fun y0 => k (.v (.bool y0)) []) := by kernel_rfl
theorem j4_ag (k kp : D → List Blk → Prop) : agPL cfg 4 (JJ k kp) (LL k kp) [1, 1, 1] body = agPR cfg 4 (pick none' []) [1, 1, 1] body (topK cfg Tryd.f7 k kp) := by kernel_rfl
theorem j4_raw (k kp : D → List Blk → Prop) (x0 : Int) (x1 : Int) (b0 : (List ByteArray)) : X4 k kp (m4 x0 x1 b0) = j4 (fun x0 x1 x7 x36 b0 => X2000006 k kp (m2000006 x0 x1 x7 x36 b0)) x0 x1 b0 (fun y0 => k (.v (.bool y0)) []) :=
  Eq.mp (by kernel_rfl) ((atP_run (j4_ag k kp) (m4 x0 x1 b0)).trans (j4_c k kp (JJ k kp) (LL k kp) x0 x1 b0))
theorem j4_eq (k kp : D → List Blk → Prop) (x0 : Int) (x1 : Int) (b0 : (List ByteArray)) : X4 k kp (m4 x0 x1 b0) = j4' x0 x1 b0 (fun y0 => k (.v (.bool y0)) []) := by
  rw [j4_raw]; simp only [j2000006_eq]; first | done | rfl
theorem j2000003_c (k kp : D → List Blk → Prop) (J L : Nat → St → Prop) (x0 : Int) (x1 : Int) (x18 : Bool) (b0 : (List ByteArray)) : runC cfg 2000003 J L (pick none' []) [1, 1, 0, 1] body (topK cfg Tryd.f7 k kp) (m2000003 x0 x1 x18 b0) = j2000003 (fun x0 x1 b0 => J 4 (m4 x0 x1 b0)) x0 x1 x18 b0 (fun y0 => k (.v (.bool y0)) []) := by kernel_rfl
theorem j2000003_ag (k kp : D → List Blk → Prop) : agPL cfg 2000003 (JJ k kp) (LL k kp) [1, 1, 0, 1] body = agPR cfg 2000003 (pick none' []) [1, 1, 0, 1] body (topK cfg Tryd.f7 k kp) := by kernel_rfl
theorem j2000003_raw (k kp : D → List Blk → Prop) (x0 : Int) (x1 : Int) (x18 : Bool) (b0 : (List ByteArray)) : X2000003 k kp (m2000003 x0 x1 x18 b0) = j2000003 (fun x0 x1 b0 => X4 k kp (m4 x0 x1 b0)) x0 x1 x18 b0 (fun y0 => k (.v (.bool y0)) []) :=
  Eq.mp (by kernel_rfl) ((atP_run (j2000003_ag k kp) (m2000003 x0 x1 x18 b0)).trans (j2000003_c k kp (JJ k kp) (LL k kp) x0 x1 x18 b0))
theorem j2000003_eq (k kp : D → List Blk → Prop) (x0 : Int) (x1 : Int) (x18 : Bool) (b0 : (List ByteArray)) : X2000003 k kp (m2000003 x0 x1 x18 b0) = j2000003' x0 x1 x18 b0 (fun y0 => k (.v (.bool y0)) []) := by
  rw [j2000003_raw]; simp only [j4_eq]; first | done | rfl
theorem c_c (k kp : D → List Blk → Prop) (J L : Nat → St → Prop) (x0 : Int) (x1 : Int) : runC cfg 1000001 J L none'' [] body (topK cfg Tryd.f7 k kp) (st0 Tryd.f7 [(.v (.int IntKind.i64 x0)), (.v (.int IntKind.i64 x1))] []) = c (fun x0 x1 x18 b0 => J 2000003 (m2000003 x0 x1 x18 b0)) x0 x1 (fun y0 => k (.v (.bool y0)) []) := by kernel_rfl
theorem c_ag (k kp : D → List Blk → Prop) : agPL cfg 1000001 (JJ k kp) (LL k kp) [] body = agPR cfg 1000001 none'' [] body (topK cfg Tryd.f7 k kp) := by kernel_rfl
theorem body_is : Tryd.f7.body = some body := by kernel_rfl
theorem c_raw (k kp : D → List Blk → Prop) (x0 : Int) (x1 : Int) : funW cfg Tryd.f7 [(.v (.int IntKind.i64 x0)), (.v (.int IntKind.i64 x1))] [] k kp = c (fun x0 x1 x18 b0 => X2000003 k kp (m2000003 x0 x1 x18 b0)) x0 x1 (fun y0 => k (.v (.bool y0)) []) :=
  Eq.mp (by kernel_rfl) ((funW_run (AG := none'') body_is (c_ag k kp) [(.v (.int IntKind.i64 x0)), (.v (.int IntKind.i64 x1))] []).trans (c_c k kp (JJ k kp) (LL k kp) x0 x1))
theorem f_eq (k kp : D → List Blk → Prop) (x0 : Int) (x1 : Int) : funW cfg Tryd.f7 [(.v (.int IntKind.i64 x0)), (.v (.int IntKind.i64 x1))] [] k kp = f x0 x1 (fun y0 => k (.v (.bool y0)) []) := by
  rw [f_def, c_raw]; simp only [j2000003_eq]; first | done | rfl
noncomputable def ent0 : Entry := fun args blks k _ => match args, blks with
  | [d0, d1], [] => aInt IntKind.i64 d0 fun x0 => aInt IntKind.i64 d1 fun x1 => f x0 x1 (fun y0 => k (.v (.bool y0)) [])
  | _, _ => False
noncomputable def ent : Entry := fun args blks k kp => ent0 (convB [.no, .no] args) blks k kp
theorem ok : EntOk Tryd.prog 49 0 7 ent := by
  refine EntOk.convB (EntOk.of (funW_ok (cfg := cfg) (tyOk_of rfl rfl tyL_ok) (eqOk_of (P := Tryd.prog) rfl rfl (by kernel_rfl)) mixed_ok (tab_ok ?_) Tryd.func7 (by rfl) (by rfl)) ?_) _
  · intro p hp
    simp only [List.mem_cons, List.not_mem_nil, or_false] at hp
    rcases hp with rfl | rfl | rfl | rfl
    · exact N13.ok
    · exact N9.ok
    · exact N14.ok
    · exact N11.ok
  · intro args blks k kp h k' kp'
    match args, blks, h with
    | [d0, d1], [], h =>
    dsimp only [ent0] at h
    have h9 := aInt_elim h; clear h; obtain ⟨x0, rfl, h⟩ := h9
    have h9 := aInt_elim h; clear h; obtain ⟨x1, rfl, h⟩ := h9
    exact (f_eq k' kp' x0 x1).symm
end N7
end Go.Proofs.Ye
namespace Go.Proofs.Ye.LexNumbers
open Go Go.Aw Go.Proofs Go.Proofs.YtidclggijmbffaaDoor Go.ChangeShapes Go.WideShapes Go.ChangeAt Go.RowKit
set_option linter.unusedVariables false
set_option linter.unusedSimpArgs false
set_option maxRecDepth 100000
/-! 7 dyehouse/dyehouselaw09.LexNumbers -/
def Pure : Prop := ∀ (x0 : Int) (w0 : (Lit.int IntKind.i64 x0).wf = true) (x1 : Int) (w1 : (Lit.int IntKind.i64 x1).wf = true), N7.f x0 x1 (fun y0 => y0 = true)
theorem own : ownKnob Tryd.prog.godebug = none := by kernel_rfl
theorem laid : laidOutB Tryd.prog = true := by kernel_rfl
set_option maxRecDepth 100000 in
theorem lifted (pure : Pure) (os : Os) (started : os.Started) (H : Type) (enc : TypeId × Value → H) (F : Stop.Interp) :
    ReturnsInHanded {} Tryd.checked os 7 .any ((OpenSpec.ofChange Rows.lexNumbersSpec).preRow enc Tryd.prog Tryd.f7 Rows.lexNumbersRow.domain false Rows.lexNumbersRow.laid) (((OpenSpec.ofChange Rows.lexNumbersSpec).at F).post enc Tryd.prog Tryd.f7 false true false false) := by
  obtain ⟨places, hx⟩ : ∃ places, DataW.whole enc Tryd.prog ((laidWorld os).forCall (fun _ _ => 0) ⟨#[], #[.int IntKind.i64 0, .int IntKind.i64 0], []⟩).memory Tryd.f7.params.toList Rows.lexNumbersSpec.vars false (#[.int IntKind.i64 0, .int IntKind.i64 0] : Array Value).toList 60 = some ([(.lit (.int IntKind.i64 0)), (.lit (.int IntKind.i64 0))], [], places) := ⟨[], by kernel_rfl⟩
  refine returnsInHanded_of_row (C := Tryd.checked) (s := (OpenSpec.ofChange Rows.lexNumbersSpec)) own started (by kernel_rfl) Tryd.func7
    (witness_row_at (enc := enc) (C := Tryd.checked) false (laidWorld os) #[.int IntKind.i64 0, .int IntKind.i64 0] rfl (by kernel_rfl) (by kernel_rfl) (by kernel_rfl)
      (OpenSpec.preRow_of_cond 60 hx (by kernel_rfl) (fun k hk => by cases hk) (by kernel_rfl) (laid_met os _))) ?_
  intro W base args ds gs before hval0 hW hcnd hcond hsz0 hL _ _
  have hsz : (DataW.weightsEach Tryd.prog (Tryd.f7.params.toList ++ Rows.lexNumbersSpec.plain.varTypes Tryd.prog) (ds ++ gs)).all (· ≤ reachBytes) = true := hsz0
  have hval : ∀ (j : Nat) t v, Tryd.f7.params[j]? = some t → args[j]? = some v → Value.okWide Tryd.prog W .any base t v := hval0
  have hW' := hW
  have hlt := hW.lt
  obtain ⟨p, q, hA0, hV, rfl, hfz, hnd⟩ := hW
  have hA : DataW.TrodAll enc Tryd.prog W 0 (fun _ => true) true Tryd.f7.params.toList args.toList ds p := hA0
  have hAk := hA
  rw [Tryd.params7] at hA hval hsz
  obtain ⟨v0, vs0, d0, ds0, p0, q0, hargs, rfl, rfl, h0, r0⟩ := trodAll_cons hA
  obtain ⟨v1, vs1, d1, ds1, p1, q1, rfl, rfl, rfl, h1, r1⟩ := trodAll_cons r0
  obtain ⟨rfl, rfl, rfl⟩ := trodAll_nil r1
  obtain rfl : args = #[v0, v1] := by cases args; simp_all
  obtain ⟨rfl, rfl⟩ := trodVars_none hV
  obtain ⟨x0, k0, w0⟩ := arg_int (tf := 49) (tw := 0) (n := 1) (k := IntKind.i64) (by kernel_rfl) (hval 0 3 v0 rfl rfl) h0
  obtain ⟨x1, k1, w1⟩ := arg_int (tf := 49) (tw := 0) (n := 1) (k := IntKind.i64) (by kernel_rfl) (hval 1 3 v1 rfl rfl) h1
  refine (law_ofG N7.ok (W := W) (hand hL) (us := [v0, v1]) (ds := [.v (.int IntKind.i64 x0), .v (.int IntKind.i64 x1)]) ⟨_, _, rfl, k0, ⟨_, _, rfl, k1, by simp only [RepL]⟩⟩ (show N7.ent _ _ _ _ from pure x0 w0 x1 w1)).mono fun e W' ⟨he, bel⟩ => ?_
  subst he
  exact ⟨_, rfl, _, _, _, [], _, [], hW', trodAll_mk1 (shut_bool (by kernel_rfl) _), trodAll_below laid bel (by kernel_rfl) hAk (fun x hx => hlt x (by simpa using hx)), rfl, bel.frame _, fun h => by cases h⟩
theorem said (pure : Pure) : Rows.LexNumbersSaid :=
  OpenClaim.holds_of_cond 7 Tryd.f7 rfl rfl rfl rfl rfl rfl rfl ⟨rfl, rfl, rfl, rfl, rfl⟩ rfl rfl rfl rfl rfl (by kernel_rfl) Tryd.func7 (by kernel_rfl)
    (of_decide_eq_true (by kernel_rfl)) (by unfold Func.isWrapper; first | (rw [if_pos (by decide +kernel)]; kernel_rfl) | (rw [if_neg (by decide +kernel)]; exact ⟨rfl, rfl⟩))
    (fun os started H enc _ F => by rw [OpenClaim.pre_eq_preRow]; exact lifted pure os started H enc F)
theorem holds (pure : Pure) : Rows.LexNumbersCardSaid :=
  Claim7.holds_tied_plain_at .later [] _ _ _ _ (said pure) (fun _ h => by cases h) (by kernel_rfl) (fun _ h => by cases h) lexNumbers_row_tie rfl ⟨rfl, rfl⟩ (by kernel_rfl) rfl
    (fun f fn hf hfn => by
      obtain rfl : f = 7 := Option.some.inj ((show Tryd.prog.funcNamed "dyehouse/dyehouselaw09.LexNumbers" = some 7 by kernel_rfl).symm.trans hf) |>.symm
      obtain rfl : fn = Tryd.f7 := (Option.some.inj (Tryd.func7.symm.trans hfn)).symm
      refine ⟨by kernel_rfl, fun j t ht => ?_⟩
      rw [Tryd.params7] at ht
      have hm : t ∈ ([3, 3] : List TypeId) := by simpa using Array.mem_of_getElem? ht
      simp only [List.mem_cons, List.not_mem_nil, or_false] at hm
      rcases hm with rfl | rfl
      · exact (show Tryd.prog.wantsStandIn 3 = false by kernel_rfl)
      · exact (show Tryd.prog.wantsStandIn 3 = false by kernel_rfl)
    )
    (by kernel_rfl)
end Go.Proofs.Ye.LexNumbers
namespace Go.Aw
/-- One token, and no more. -/
theorem lexAll_one {c : Int} {r : List Int} (hl : (c :: r).length ≤ 65536) (hst : stopAt (c :: r)) :
    lexAll (c :: r) = if (tokS (c :: r)).code ≠ 0 then ([], (tokS (c :: r)).code, (tokS (c :: r)).off)
      else lexW ((c :: r).drop (tokS (c :: r)).len) (tokS (c :: r)).len [((tokS (c :: r)).kind, bytesOf (tokS (c :: r)).text, (tokS (c :: r)).num, (tokS (c :: r)).cls, 0)] := by
  rw [lexAll_eq, if_neg (by omega), lexW_tok _ _ hst]
  simp
def heads : List (List Int × Int × Int) := [([], 2, 0), ([37], 4, 0), ([35], 6, 0), ([36, 103], 5, 0), ([36, 120], 5, 1)]
theorem tok_head {n : Int} (h0 : 0 ≤ n) (hn : in64 n) (j : Nat) (hj : j < 5) (rest : List Int) (hr : ∀ x, rest.head? = some x → ¬ isD x) :
    stopAt ((heads.getD j ([], 0, 0)).1 ++ putL n ++ rest) ∧ tokS ((heads.getD j ([], 0, 0)).1 ++ putL n ++ rest) = if 0 < j ∧ n > 2147483647 then .bad 2 0 else ⟨(heads.getD j ([], 0, 0)).2.1, (heads.getD j ([], 0, 0)).1 ++ putL n, n, (heads.getD j ([], 0, 0)).2.2, ((heads.getD j ([], 0, 0)).1 ++ putL n).length, 0, 0⟩ := by
  obtain ⟨h1, h2, h3⟩ := putL_dig h0 hn
  have hl := putL_len n
  obtain ⟨d, ds, hd⟩ : ∃ d ds, putL n = d :: ds := by
    cases hc : putL n with
    | nil => rw [hc] at hl; simp at hl
    | cons d ds => exact ⟨d, ds, rfl⟩
  have hdD : isD d := h1 d (by rw [hd]; simp)
  have hdD' := hdD
  unfold isD at hdD'
  have e := fun kind cls pre => numS_put h0 hn kind cls pre rest hr
  have sD : stopAt (d :: (ds ++ rest)) := by
    refine ⟨?_, fun h => by omega⟩
    rw [← Bool.not_eq_true, isW_iff]; omega
  rcases (by omega : j = 0 ∨ j = 1 ∨ j = 2 ∨ j = 3 ∨ j = 4) with rfl | rfl | rfl | rfl | rfl
  · have := e 2 0 []
    simp only [List.length_nil, List.nil_append] at this
    refine ⟨?_, ?_⟩
    · show stopAt ([] ++ putL n ++ rest)
      rw [hd]; exact sD
    · show tokS ([] ++ putL n ++ rest) = _
      have e2 : tokS (putL n ++ rest) = numS 2 0 0 (putL n ++ rest) := by rw [hd]; exact tokS_D _ hdD
      rw [List.nil_append, e2, this]
      rw [if_neg (by omega), if_neg (by omega)]; rfl
  · have := e 4 0 [37]
    refine ⟨⟨by decide, fun h => absurd h.1 (by decide)⟩, ?_⟩
    show tokS (37 :: (putL n ++ rest)) = _
    rw [tokS_37]
    exact this
  · have := e 6 0 [35]
    refine ⟨⟨by decide, fun h => absurd h.1 (by decide)⟩, ?_⟩
    show tokS (35 :: (putL n ++ rest)) = _
    rw [tokS_35]
    by_cases g : n > 2147483647
    · rw [if_pos ⟨by decide, g⟩] at this ⊢; exact this
    · rw [if_neg (fun h => g h.2)] at this ⊢; exact this
  · have := e 5 0 [36, 103]
    refine ⟨⟨by decide, fun h => absurd h.1 (by decide)⟩, ?_⟩
    show tokS (36 :: (103 :: (putL n ++ rest))) = _
    rw [tokS_36, if_pos (show (103 :: (putL n ++ rest)).head? = some 103 from rfl)]
    by_cases g : n > 2147483647
    · rw [if_pos ⟨by decide, g⟩] at this ⊢; exact this
    · rw [if_neg (fun h => g h.2)] at this ⊢; exact this
  · have := e 5 1 [36, 120]
    refine ⟨⟨by decide, fun h => absurd h.1 (by decide)⟩, ?_⟩
    show tokS (36 :: (120 :: (putL n ++ rest))) = _
    rw [tokS_36, if_neg (show ¬ (120 :: (putL n ++ rest)).head? = some 103 from fun h => absurd (Option.some.inj h) (by decide)), if_pos (show (120 :: (putL n ++ rest)).head? = some 120 from rfl)]
    by_cases g : n > 2147483647
    · rw [if_pos ⟨by decide, g⟩] at this ⊢; exact this
    · rw [if_neg (fun h => g h.2)] at this ⊢; exact this
theorem lex_head {n : Int} (h0 : 0 ≤ n) (hn : in64 n) (j : Nat) (hj : j < 5) :
    lexAll ((heads.getD j ([], 0, 0)).1 ++ putL n) = if 0 < j ∧ n > 2147483647 then ([], 2, 0) else
      ([((heads.getD j ([], 0, 0)).2.1, bytesOf ((heads.getD j ([], 0, 0)).1 ++ putL n), n, (heads.getD j ([], 0, 0)).2.2, 0), (0, ByteArray.mk #[], 0, 0, (((heads.getD j ([], 0, 0)).1 ++ putL n).length : Int))], 0, 0) := by
  obtain ⟨hst, ht⟩ := tok_head h0 hn j hj [] (by simp)
  rw [List.append_nil] at hst ht
  have hl := putL_len n
  have hlen : ((heads.getD j ([], 0, 0)).1).length ≤ 2 := by
    rcases (by omega : j = 0 ∨ j = 1 ∨ j = 2 ∨ j = 3 ∨ j = 4) with rfl | rfl | rfl | rfl | rfl <;> decide
  generalize hL : (heads.getD j ([], 0, 0)).1 ++ putL n = L at *
  have hLl : L.length ≤ 65536 ∧ L ≠ [] := by
    rw [← hL]
    constructor
    · rw [List.length_append]; omega
    · intro h
      have := congrArg List.length h
      rw [List.length_append, List.length_nil] at this; omega
  obtain ⟨c, r, rfl⟩ : ∃ c r, L = c :: r := by
    cases L with
    | nil => exact absurd rfl hLl.2
    | cons c r => exact ⟨c, r, rfl⟩
  rw [lexAll_one hLl.1 hst, ht]
  by_cases g : 0 < j ∧ n > 2147483647
  · rw [if_pos g, if_pos g]; rfl
  · rw [if_neg g, if_neg g]
    dsimp only
    rw [if_neg (by decide), List.drop_length, lexW_nil]
    rfl
end Go.Aw
namespace Go.Proofs.Ye.LexNumbers
open Go Go.Aw Go.Proofs Go.RowKit
set_option linter.unusedVariables false
set_option linter.unusedSimpArgs false
theorem pure : Pure := by
  intro n wn kd wk
  have hn := wf64 wn
  have hk := wf64 wk
  rw [N7.f_def]
  unfold N7.f0 N7.c N7.j2000003' N7.j2000003 N7.j4' N7.j4 N7.j2000006' N7.j2000006 N7.j7' N7.j7
  dsimp only
  have W : N13.f (fun y => y = true) := lworks_s _ rfl
  refine br_of (fun h1 => W) (fun h1 => br_of (fun h2 => W) (fun h2 => br_of (fun h3 => W) (fun h3 => ?_)))
  have h1 := of_decide_eq_false h1
  have h2 := of_decide_eq_false h2
  have h3 := of_decide_eq_false h3
  obtain ⟨j, rfl⟩ : ∃ j : Nat, kd = j := ⟨kd.toNat, by omega⟩
  have hj : j < 5 := by omega
  have hnl : 0 ≤ n := by omega
  refine ⟨⟨by omega, by omega, by show (j : Int) ≤ 5 - 1; omega⟩, putr_s n hn _ ?_⟩
  have hg : ([(ByteArray.mk #[]), (ByteArray.mk #[37]), (ByteArray.mk #[35]), (ByteArray.mk #[36, 103]), (ByteArray.mk #[36, 120])] : List ByteArray).getD (Int.toNat (j : Int)) ByteArray.empty = bytesOf (heads.getD j ([], 0, 0)).1 := by
    rcases (by omega : j = 0 ∨ j = 1 ∨ j = 2 ∨ j = 3 ∨ j = 4) with rfl | rfl | rfl | rfl | rfl <;> rfl
  rw [hg]
  have hB : ∀ x ∈ (heads.getD j ([], 0, 0)).1 ++ putL n, isB x := by
    intro x hx
    rcases List.mem_append.1 hx with hx | hx
    · rcases (by omega : j = 0 ∨ j = 1 ∨ j = 2 ∨ j = 3 ∨ j = 4) with rfl | rfl | rfl | rfl | rfl <;> simp [heads] at hx <;> (try rcases hx with rfl | rfl) <;> (try subst hx) <;> exact ⟨by decide, by decide⟩
    · exact putL_isB n x hx
  have hl := putL_len n
  have hlen : ((heads.getD j ([], 0, 0)).1).length ≤ 2 := by
    rcases (by omega : j = 0 ∨ j = 1 ∨ j = 2 ∨ j = 3 ∨ j = 4) with rfl | rfl | rfl | rfl | rfl <;> decide
  refine ⟨by rw [bytesOf_size, bytesOf_size]; omega, ?_⟩
  rw [← bytesOf_append]
  refine all_s _ (by rw [bytesOf_size, List.length_append]; have : 30 ≤ reachBytes := by decide
                     omega) _ ?_
  rw [ofBytes_bytesOf hB, lex_head hnl hn j hj]
  by_cases g : 0 < j ∧ n > 2147483647
  · rw [if_pos g, br_dec, if_pos (by omega), show decide (n > 2147483647) = true by simpa using g.2, br_true]
    rw [ofN 2 0 (by decide)]
    refine ⟨rfl, ?_⟩
    show br true _ _
    show br true _ _
    exact W
  · rw [if_neg g]
    have rest : br (Err.isNil (newE 0 0)) (br (((([((heads.getD j ([], 0, 0)).2.1, bytesOf ((heads.getD j ([], 0, 0)).1 ++ putL n), n, (heads.getD j ([], 0, 0)).2.2, (0 : Int)), ((0 : Int), ByteArray.mk #[], (0 : Int), (0 : Int), ((((heads.getD j ([], 0, 0)).1 ++ putL n).length : Nat) : Int))] : List LTok).length : Nat) : Int) == 2) ((inB 0 0 ((2 : Int) - 1)) ∧ (br (n == n) ((inB 0 0 ((2 : Int) - 1)) ∧ (br ((0 : Int) == 0) ((inB 0 0 ((2 : Int) - 1)) ∧ (br (((heads.getD j ([], 0, 0)).2.2 == 1) == ((j : Int) == 4)) (N13.f (fun y => y = true)) (false = true))) (false = true))) (false = true))) (false = true)) (false = true) := by
      show br true _ _
      show br true _ _
      refine ⟨⟨by decide, by decide, by decide⟩, ?_⟩
      rw [beq_self_eq_true, br_true]
      refine ⟨⟨by decide, by decide, by decide⟩, ?_⟩
      show br true _ _
      refine ⟨⟨by decide, by decide, by decide⟩, ?_⟩
      have : (((heads.getD j ([], 0, 0)).2.2 == 1) == ((j : Int) == 4)) = true := by
        rcases (by omega : j = 0 ∨ j = 1 ∨ j = 2 ∨ j = 3 ∨ j = 4) with rfl | rfl | rfl | rfl | rfl <;> rfl
      rw [this]
      exact W
    by_cases g0 : 0 < j
    · have gn : ¬ n > 2147483647 := fun h => g ⟨g0, h⟩
      rw [br_dec, if_pos (by omega), show decide (n > 2147483647) = false by simpa using gn, br_false]
      exact rest
    · rw [br_dec, if_neg (by omega), br_false]
      exact rest
theorem proved : Go.Proofs.YtidclggijmbffaaDoor.Rows.LexNumbersCardSaid := holds pure
end Go.Proofs.Ye.LexNumbers
namespace Go.Proofs.YtidclggijmbffaaDoor
/-- The statement. -/
theorem lexNumbersCard_holds : Rows.LexNumbersCardSaid := Go.Proofs.Ye.LexNumbers.proved
#print axioms lexNumbersCard_holds
end Go.Proofs.YtidclggijmbffaaDoor
