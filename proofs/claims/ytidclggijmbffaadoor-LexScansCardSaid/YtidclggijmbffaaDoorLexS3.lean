/- The tokens of any text, or what is wrong, and where, is what the chapter says. -/
import Derived.Test.YtidclggijmbffaaDoorLexS0
import Derived.Test.YtidclggijmbffaaDoorLexS1
import Derived.Test.YtidclggijmbffaaDoorLexS2
import Derived.Test.YtidclggijmbffaaDoorRows
import Derived.ChangeSame
import Derived.ChangeVars
import Derived.JoinedOf
import Derived.RowKit
import Derived.RowKitTokens
import Derived.LaidLaws
import Derived.LaidHandle
import Derived.Stop.Joined
import Derived.Test.YtidclggijmbffaaDoorCards
import Derived.Test.YtidclggijmbffaaDoorTie
import Derived.SevenTiedAt
import Derived.Deep.DeepHandedRow
import Derived.Test.YtidclggijmbffaaDoorT2
import Derived.WalkKit
import Derived.ProofKit
import Derived.OpenShut
import Derived.ShutString
import Derived.ChangeOld
import Derived.Below
import Derived.SizedLaws
import Derived.Deep.CondSized
namespace Go.Proofs.Ye
open Go Go.Aw Go.Proofs
set_option linter.unusedVariables false
set_option linter.unusedSimpArgs false
set_option maxRecDepth 100000
/-! dyehouse/dyehouselaw09.works -/
namespace N13
noncomputable def cfg : Cfg := { P := Tryd.prog, tf := 49, tw := 0, ty := tys, E := tab [(14, N14.ent), (11, N11.ent), (12, N12.ent), (21, N21.ent)], atSeq := tab [], atLoop := tab [], outs := [], eqT := tab [(42, [(Ty.int IntKind.i64), Ty.str, (Ty.int IntKind.i64), (Ty.int IntKind.i64), (Ty.int IntKind.i64)])], bT := tab [] }
noncomputable def body : Code := bodyOf Tryd.f13
def c (k : Bool → Prop) : Prop :=
  (N14.f (ByteArray.mk #[37, 55, 32, 61, 32, 97, 100, 100, 32, 36, 120, 50, 44, 32, 53, 59, 32, 47, 47, 32, 110, 111, 10, 34, 97, 34, 32, 48, 46, 46, 52]) (fun (y1_0 : Err) (z0_0 : (List (Int × (ByteArray × (Int × (Int × Int)))))) => (N14.f (ByteArray.mk #[97, 32, 63]) (fun (y1_1 : Err) (z0_1 : (List (Int × (ByteArray × (Int × (Int × Int)))))) => (br (y1_0).isNil (br (((((z0_0).length : Nat) : Int)) == (12 : Int)) ((inB 0 (0 : Int) ((((z0_0).length : Nat) : Int) - 1)) ∧ (br (((z0_0.getD (Int.toNat (0 : Int)) ((0, (ByteArray.empty, (0, (0, 0)))))).1 == (4 : Int)) && (beqS (z0_0.getD (Int.toNat (0 : Int)) ((0, (ByteArray.empty, (0, (0, 0)))))).2.1 (ByteArray.mk #[37, 55]) && (((z0_0.getD (Int.toNat (0 : Int)) ((0, (ByteArray.empty, (0, (0, 0)))))).2.2.1 == (7 : Int)) && (((z0_0.getD (Int.toNat (0 : Int)) ((0, (ByteArray.empty, (0, (0, 0)))))).2.2.2.1 == (0 : Int)) && (((z0_0.getD (Int.toNat (0 : Int)) ((0, (ByteArray.empty, (0, (0, 0)))))).2.2.2.2 == (0 : Int)) && true))))) ((inB 0 (3 : Int) ((((z0_0).length : Nat) : Int) - 1)) ∧ (br ((z0_0.getD (Int.toNat (3 : Int)) ((0, (ByteArray.empty, (0, (0, 0)))))).2.2.2.1 == (1 : Int)) ((inB 0 (3 : Int) ((((z0_0).length : Nat) : Int) - 1)) ∧ (br ((z0_0.getD (Int.toNat (3 : Int)) ((0, (ByteArray.empty, (0, (0, 0)))))).2.2.1 == (2 : Int)) ((inB 0 (6 : Int) ((((z0_0).length : Nat) : Int) - 1)) ∧ (br (beqS (z0_0.getD (Int.toNat (6 : Int)) ((0, (ByteArray.empty, (0, (0, 0)))))).2.1 (ByteArray.mk #[59])) ((inB 0 (7 : Int) ((((z0_0).length : Nat) : Int) - 1)) ∧ (br ((z0_0.getD (Int.toNat (7 : Int)) ((0, (ByteArray.empty, (0, (0, 0)))))).1 == (3 : Int)) ((inB 0 (7 : Int) ((((z0_0).length : Nat) : Int) - 1)) ∧ (br (beqS (z0_0.getD (Int.toNat (7 : Int)) ((0, (ByteArray.empty, (0, (0, 0)))))).2.1 (ByteArray.mk #[97])) ((inB 0 (9 : Int) ((((z0_0).length : Nat) : Int) - 1)) ∧ (br (beqS (z0_0.getD (Int.toNat (9 : Int)) ((0, (ByteArray.empty, (0, (0, 0)))))).2.1 (ByteArray.mk #[46, 46])) ((inB 0 (10 : Int) ((((z0_0).length : Nat) : Int) - 1)) ∧ (br ((z0_0.getD (Int.toNat (10 : Int)) ((0, (ByteArray.empty, (0, (0, 0)))))).2.2.1 == (4 : Int)) ((flatE y1_1 = true) ∧ (br ((ofE y1_1) == (10 : Int)) ((flatE y1_1 = true) ∧ (br ((atE y1_1) == (2 : Int)) ((inB 0 (2 : Int) ((((z0_0).length : Nat) : Int) - 1)) ∧ (N21.f (z0_0.getD (Int.toNat (2 : Int)) ((0, (ByteArray.empty, (0, (0, 0)))))).1 (z0_0.getD (Int.toNat (2 : Int)) ((0, (ByteArray.empty, (0, (0, 0)))))).2.1 (z0_0.getD (Int.toNat (2 : Int)) ((0, (ByteArray.empty, (0, (0, 0)))))).2.2.1 (z0_0.getD (Int.toNat (2 : Int)) ((0, (ByteArray.empty, (0, (0, 0)))))).2.2.2.1 (z0_0.getD (Int.toNat (2 : Int)) ((0, (ByteArray.empty, (0, (0, 0)))))).2.2.2.2 (ByteArray.mk #[97, 100, 100]) (fun (y0_2 : Bool) => (br y0_2 ((inB 0 (7 : Int) ((((z0_0).length : Nat) : Int) - 1)) ∧ (N21.f (z0_0.getD (Int.toNat (7 : Int)) ((0, (ByteArray.empty, (0, (0, 0)))))).1 (z0_0.getD (Int.toNat (7 : Int)) ((0, (ByteArray.empty, (0, (0, 0)))))).2.1 (z0_0.getD (Int.toNat (7 : Int)) ((0, (ByteArray.empty, (0, (0, 0)))))).2.2.1 (z0_0.getD (Int.toNat (7 : Int)) ((0, (ByteArray.empty, (0, (0, 0)))))).2.2.2.1 (z0_0.getD (Int.toNat (7 : Int)) ((0, (ByteArray.empty, (0, (0, 0)))))).2.2.2.2 (ByteArray.mk #[97]) (fun (y0_3 : Bool) => (k (!y0_3))))) (k false))))) (k false))) (k false))) (k false))) (k false))) (k false))) (k false))) (k false))) (k false))) (k false))) (k false))) (k false)) (k false))))))
def f0 (k : Bool → Prop) : Prop := c k
theorem f_ex : ∃ g : (Bool → Prop) → Prop, g = f0 := ⟨_, rfl⟩
noncomputable def f : (Bool → Prop) → Prop := Classical.choose f_ex
theorem f_def : f = f0 := Classical.choose_spec f_ex
noncomputable def JJ (k kp : D → List Blk → Prop) : Nat → St → Prop := pick none' []
noncomputable def LL (k kp : D → List Blk → Prop) : Nat → St → Prop := pick none' []
theorem c_c (k kp : D → List Blk → Prop) (J L : Nat → St → Prop) : runC cfg 1000001 J L none'' [] body (topK cfg Tryd.f13 k kp) (st0 Tryd.f13 [] []) = c (fun y0 => k (.v (.bool y0)) []) := by kernel_rfl
theorem c_ag (k kp : D → List Blk → Prop) : agPL cfg 1000001 (JJ k kp) (LL k kp) [] body = agPR cfg 1000001 none'' [] body (topK cfg Tryd.f13 k kp) := by kernel_rfl
theorem body_is : Tryd.f13.body = some body := by kernel_rfl
theorem c_raw (k kp : D → List Blk → Prop) : funW cfg Tryd.f13 [] [] k kp = c (fun y0 => k (.v (.bool y0)) []) :=
  Eq.mp (by kernel_rfl) ((funW_run (AG := none'') body_is (c_ag k kp) [] []).trans (c_c k kp (JJ k kp) (LL k kp)))
theorem f_eq (k kp : D → List Blk → Prop) : funW cfg Tryd.f13 [] [] k kp = f (fun y0 => k (.v (.bool y0)) []) := by
  rw [f_def, c_raw]; rfl
noncomputable def ent0 : Entry := fun args blks k _ => match args, blks with
  | [], [] => f (fun y0 => k (.v (.bool y0)) [])
  | _, _ => False
noncomputable def ent : Entry := fun args blks k kp => ent0 (convB [] args) blks k kp
theorem ok : EntOk Tryd.prog 49 0 13 ent := by
  refine EntOk.convB (EntOk.of (funW_ok (cfg := cfg) (tyOk_of rfl rfl tyL_ok) (eqOk_of (P := Tryd.prog) rfl rfl (by kernel_rfl)) mixed_ok (tab_ok ?_) Tryd.func13 (by rfl) (by rfl)) ?_) _
  · intro p hp
    simp only [List.mem_cons, List.not_mem_nil, or_false] at hp
    rcases hp with rfl | rfl | rfl | rfl
    · exact N14.ok
    · exact N11.ok
    · exact N12.ok
    · exact N21.ok
  · intro args blks k kp h k' kp'
    match args, blks, h with
    | [], [], h =>
    dsimp only [ent0] at h
    exact (f_eq k' kp').symm
end N13
end Go.Proofs.Ye
namespace Go.Proofs.Ye
open Go Go.Aw Go.Proofs Go.RowKit
set_option linter.unusedVariables false
set_option linter.unusedSimpArgs false

theorem same_s (a b : List LTok) (hl : a.length ≤ 281474976710656) (k : Bool → Prop) (he : a = b) (h : k true) : N16.f a b k := by
  subst he
  rw [N16.f_def]
  unfold N16.f0 N16.c
  rw [br_bne, if_pos rfl]
  unfold N16.l4'
  refine loopS_of (fun x : Int => ∃ j : Nat, x = j ∧ j ≤ a.length) (fun x => a.length - x.toNat) ?_ ⟨0, rfl, Nat.zero_le _⟩
  rintro again x ⟨j, rfl, hj⟩ hag
  unfold N16.l4 N16.j8' N16.j8
  dsimp only
  refine br_of (fun hlt => ?_) (fun _ => h)
  have hlt := of_decide_eq_true hlt
  refine ⟨⟨by omega, by omega, by omega⟩, ⟨by omega, by omega, by omega⟩, ?_⟩
  simp only [beq_self_eq_true, beqS_self, Bool.and_self, Bool.not_true, br_false]
  rw [wrap_id (by omega) (by omega)]
  exact hag _ ⟨j + 1, by simp, by omega⟩ (by omega)
theorem is_s (a : Int) (t : ByteArray) (n c p : Int) (w : ByteArray) (k : Bool → Prop) (h : k ((decide (a = 1) || decide (a = 7)) && beqS t w)) : N21.f a t n c p w k := by
  rw [N21.f_def]
  unfold N21.f0 N21.c
  simp only [br_beq]
  split
  · rename_i h1; simpa [h1] using h
  · rename_i h1
    split
    · rename_i h2; simpa [h2] using h
    · rename_i h2; simpa [h1, h2] using h

def exA : List Int := [37, 55, 32, 61, 32, 97, 100, 100, 32, 36, 120, 50, 44, 32, 53, 59, 32, 47, 47, 32, 110, 111, 10, 34, 97, 34, 32, 48, 46, 46, 52]
def lexA : List LTok := [(4, ⟨#[37, 55]⟩, 7, 0, 0), (7, ⟨#[61]⟩, 0, 0, 3), (1, ⟨#[97, 100, 100]⟩, 0, 0, 5), (5, ⟨#[36, 120, 50]⟩, 2, 1, 9), (7, ⟨#[44]⟩, 0, 0, 12), (2, ⟨#[53]⟩, 5, 0, 14), (7, ⟨#[59]⟩, 0, 0, 15), (3, ⟨#[97]⟩, 0, 0, 23), (2, ⟨#[48]⟩, 0, 0, 27), (7, ⟨#[46, 46]⟩, 0, 0, 28), (2, ⟨#[52]⟩, 4, 0, 30), (0, ⟨#[]⟩, 0, 0, 31)]
theorem lexA_eq : lexAll exA = (lexA, 0, 0) := by decide +kernel
theorem lexB_eq : lexAll [97, 32, 63] = ([], 10, 2) := by decide +kernel
theorem ofN (c a : Int) (h : c ≠ 0) : newE c a = .flt c a := by unfold newE; rw [if_neg h]
theorem lworks_s (k : Bool → Prop) (h : k true) : N13.f k := by
  rw [N13.f_def]
  unfold N13.f0 N13.c
  refine all_s _ (by decide) _ ?_
  rw [show ofBytes (ByteArray.mk #[37, 55, 32, 61, 32, 97, 100, 100, 32, 36, 120, 50, 44, 32, 53, 59, 32, 47, 47, 32, 110, 111, 10, 34, 97, 34, 32, 48, 46, 46, 52]) = exA from rfl, lexA_eq]
  refine all_s _ (by decide) _ ?_
  rw [show ofBytes (ByteArray.mk #[97, 32, 63]) = [97, 32, 63] from rfl, lexB_eq]
  rw [ofN 10 2 (by decide), show newE 0 0 = .nil from rfl]
  show br true _ _
  rw [br_true]
  have hlen : lexA.length = 12 := rfl
  rw [hlen]
  have B : ∀ i : Int, 0 ≤ i → i ≤ 11 → inB 0 i (((12 : Nat) : Int) - 1) := fun i h1 h2 => ⟨by omega, by omega, by omega⟩
  show br true _ _
  rw [br_true]
  refine ⟨B 0 (by omega) (by omega), ?_⟩
  show br true _ _
  refine ⟨B 3 (by omega) (by omega), ?_⟩
  show br true _ _
  refine ⟨B 3 (by omega) (by omega), ?_⟩
  show br true _ _
  refine ⟨B 6 (by omega) (by omega), ?_⟩
  show br true _ _
  refine ⟨B 7 (by omega) (by omega), ?_⟩
  show br true _ _
  refine ⟨B 7 (by omega) (by omega), ?_⟩
  show br true _ _
  refine ⟨B 9 (by omega) (by omega), ?_⟩
  show br true _ _
  refine ⟨B 10 (by omega) (by omega), ?_⟩
  show br true _ _
  refine ⟨rfl, ?_⟩
  show br true _ _
  refine ⟨rfl, ?_⟩
  show br true _ _
  refine ⟨B 2 (by omega) (by omega), is_s _ _ _ _ _ _ _ ?_⟩
  show br true _ _
  refine ⟨B 7 (by omega) (by omega), is_s _ _ _ _ _ _ _ ?_⟩
  exact h

/-- What a reading comes to is told in the same words. -/
theorem err_flat (c a : Int) : flatE (newE c a) = true := by unfold newE; split <;> rfl
theorem err_of (c a : Int) : ofE (newE c a) = c := by
  unfold newE
  split
  · rename_i h; rw [h]; rfl
  · rfl
theorem err_at {c a : Int} (h : c = 0 → a = 0) : atE (newE c a) = a := by
  unfold newE
  split
  · rename_i h1; rw [h h1]; rfl
  · rfl
theorem err_nil (c a : Int) : (newE c a).isNil = decide (c = 0) := by
  unfold newE
  split
  · rename_i h; simp [h, Err.isNil]
  · rename_i h; simp [h, Err.isNil]
end Go.Proofs.Ye
namespace Go.Proofs.Ye
open Go Go.Aw Go.Proofs Go.Proofs.YtidclggijmbffaaDoor Go.ChangeShapes Go.WideShapes Go.RowKit

/-! ### What the row says of the variable that errors.As looks at -/
theorem Tryd.et : Tryd.prog.globalNamed "errors.errorType" = some 0 := by kernel_rfl
theorem Tryd.rt : (Tryd.prog.cutTypes.find? (·.1 == "internal/reflectlite.rtype")).map (·.2) = some 108 := by kernel_rfl
theorem Tryd.oneRow : ((List.range 162).filter fun t => Tryd.prog.rowNamed t [101, 114, 114, 111, 114]) = [25] := by kernel_rfl
theorem Tryd.typesSize : Tryd.prog.types.size = 162 := by kernel_rfl
theorem handle_of_laid {W : World} (h : laidMetH Tryd.prog [("errors.errorType", Rows.laid_errors_errorType)] W) : W.cell? ⟨0, 0, none⟩ = some (.iface 108 (.agg #[.pointer (some ⟨2, 25, none⟩)])) := by
  have h' : laidMet Tryd.prog [] W ∧ handlesMet Tryd.prog [("errors.errorType", Rows.laid_errors_errorType)] W := h
  obtain ⟨name, u, ty, e1, e2, e3, e4, e5⟩ := h'.2 _ (List.mem_singleton.2 rfl)
  have en : name = [101, 114, 114, 111, 114] := (Option.some.inj e1).symm
  subst en
  obtain rfl := Option.some.inj (Tryd.rt.symm.trans e2)
  have hm : ty ∈ (List.range 162).filter fun t => Tryd.prog.rowNamed t [101, 114, 114, 111, 114] := List.mem_filter.2 ⟨List.mem_range.2 (by rw [← Tryd.typesSize]; exact e3), e4⟩
  rw [Tryd.oneRow] at hm
  obtain rfl := List.mem_singleton.1 hm
  have hh : typeHandle Tryd.prog 25 = .pointer (some ⟨2, 25, none⟩) := by kernel_rfl
  rw [hh] at e5
  simpa using World.var?_cell Tryd.et e5 0
theorem hand {W : World} (h : laidMetH Tryd.prog [("errors.errorType", Rows.laid_errors_errorType)] W) : ∀ g v, hdlOf Tryd.prog = some (g, v) → W.cell? ⟨g, 0, none⟩ = some v := by
  intro g v hg
  rw [F.hdl] at hg
  cases hg
  exact handle_of_laid h
noncomputable def laidWorld (os : Os) : World :=
  let w0 := World.holding Tryd.prog os ⟨#[], #[], []⟩
  { w0 with heap := w0.heap.modify 0 fun
      | .cells _ t frozen => .cells #[.iface 108 (.agg #[.pointer (some ⟨2, 25, none⟩)])] t frozen
      | o => o }
theorem laid_met (os : Os) (args : Array Value) : laidMetH Tryd.prog [("errors.errorType", Rows.laid_errors_errorType)] ((laidWorld os).forCall (fun _ _ => 0) ⟨#[], args, []⟩).memory :=
  laidMetH_of_parts (laidMet_nil _ _) (by kernel_rfl)
end Go.Proofs.Ye
namespace Go.Proofs.Ye
open Go Go.Aw Go.Proofs
set_option linter.unusedVariables false
set_option linter.unusedSimpArgs false
set_option maxRecDepth 100000
/-! dyehouse/dyehouselaw09.LexScans -/
namespace N5
noncomputable def cfg : Cfg := { P := Tryd.prog, tf := 49, tw := 0, ty := tys, E := tab [(13, N13.ent), (14, N14.ent), (15, N15.ent), (16, N16.ent), (11, N11.ent), (12, N12.ent)], atSeq := tab [(2000002, ⟨[(0, .keep), (15, .keep)]⟩), (3, ⟨[(0, .keep)]⟩)], atLoop := tab [], outs := [], eqT := tab [], bT := tab [] }
noncomputable def body : Code := bodyOf Tryd.f5
def j2000002 (j3 : ByteArray → Prop) (x0 : ByteArray) (x15 : Bool) (k : Bool → Prop) : Prop :=
  (br x15 (N13.f (fun (y0_0 : Bool) => (k y0_0))) (j3 x0))
def j3 (x0 : ByteArray) (k : Bool → Prop) : Prop :=
  (N14.f x0 (fun (y1_1 : Err) (z0_1 : (List (Int × (ByteArray × (Int × (Int × Int)))))) => (N15.f x0 (fun (y1_2 : Int) (y2_2 : Int) (z0_2 : (List (Int × (ByteArray × (Int × (Int × Int)))))) => (N16.f z0_1 z0_2 (fun (y0_3 : Bool) => (br y0_3 ((flatE y1_1 = true) ∧ (br ((ofE y1_1) == y1_2) ((flatE y1_1 = true) ∧ (br ((atE y1_1) == y2_2) (br ((y1_1).isNil == (y1_2 == (0 : Int))) (N13.f (fun (y0_4 : Bool) => (k y0_4))) (k false)) (k false))) (k false))) (k false))))))))
def c (j2000002 : ByteArray → Bool → Prop) (x0 : ByteArray) (k : Bool → Prop) : Prop :=
  (br (decide (((((x0).size : Nat) : Int)) > (3000 : Int))) (j2000002 x0 (decide (((((x0).size : Nat) : Int)) ≤ (65536 : Int)))) (j2000002 x0 false))
def j3' (x0 : ByteArray) (k : Bool → Prop) : Prop := j3 x0 k
def j2000002' (x0 : ByteArray) (x15 : Bool) (k : Bool → Prop) : Prop := j2000002 (fun x0 => j3' x0 k) x0 x15 k
def f0 (x0 : ByteArray) (k : Bool → Prop) : Prop := c (fun x0 x15 => j2000002' x0 x15 k) x0 k
theorem f_ex : ∃ g : ByteArray → (Bool → Prop) → Prop, g = f0 := ⟨_, rfl⟩
noncomputable def f : ByteArray → (Bool → Prop) → Prop := Classical.choose f_ex
theorem f_def : f = f0 := Classical.choose_spec f_ex
def m2000002 (x0 : ByteArray) (x15 : Bool) : St := { tmps := mkT 53 0 [(0, (.v (.string x0))), (15, (.v (.bool x15)))], hp := [], m := 0 }
def m3 (x0 : ByteArray) : St := { tmps := mkT 53 0 [(0, (.v (.string x0)))], hp := [], m := 0 }
noncomputable def X2000002 (k kp : D → List Blk → Prop) : St → Prop := atP cfg (pick none' []) [1, 0, 1] body (topK cfg Tryd.f5 k kp)
noncomputable def X3 (k kp : D → List Blk → Prop) : St → Prop := atP cfg (pick none' []) [1, 1] body (topK cfg Tryd.f5 k kp)
noncomputable def JJ (k kp : D → List Blk → Prop) : Nat → St → Prop := pick none' [(2000002, X2000002 k kp), (3, X3 k kp)]
noncomputable def LL (k kp : D → List Blk → Prop) : Nat → St → Prop := pick none' []
theorem j3_c (k kp : D → List Blk → Prop) (J L : Nat → St → Prop) (x0 : ByteArray) : runC cfg 3 J L (pick none' []) [1, 1] body (topK cfg Tryd.f5 k kp) (m3 x0) = j3 x0 (fun y0 => k (.v (.bool y0)) []) := by kernel_rfl
theorem j3_ag (k kp : D → List Blk → Prop) : agPL cfg 3 (JJ k kp) (LL k kp) [1, 1] body = agPR cfg 3 (pick none' []) [1, 1] body (topK cfg Tryd.f5 k kp) := by kernel_rfl
theorem j3_raw (k kp : D → List Blk → Prop) (x0 : ByteArray) : X3 k kp (m3 x0) = j3 x0 (fun y0 => k (.v (.bool y0)) []) :=
  Eq.mp (by kernel_rfl) ((atP_run (j3_ag k kp) (m3 x0)).trans (j3_c k kp (JJ k kp) (LL k kp) x0))
theorem j3_eq (k kp : D → List Blk → Prop) (x0 : ByteArray) : X3 k kp (m3 x0) = j3' x0 (fun y0 => k (.v (.bool y0)) []) := by
  rw [j3_raw]; rfl
theorem j2000002_c (k kp : D → List Blk → Prop) (J L : Nat → St → Prop) (x0 : ByteArray) (x15 : Bool) : runC cfg 2000002 J L (pick none' []) [1, 0, 1] body (topK cfg Tryd.f5 k kp) (m2000002 x0 x15) = j2000002 (fun x0 => J 3 (m3 x0)) x0 x15 (fun y0 => k (.v (.bool y0)) []) := by kernel_rfl
theorem j2000002_ag (k kp : D → List Blk → Prop) : agPL cfg 2000002 (JJ k kp) (LL k kp) [1, 0, 1] body = agPR cfg 2000002 (pick none' []) [1, 0, 1] body (topK cfg Tryd.f5 k kp) := by kernel_rfl
theorem j2000002_raw (k kp : D → List Blk → Prop) (x0 : ByteArray) (x15 : Bool) : X2000002 k kp (m2000002 x0 x15) = j2000002 (fun x0 => X3 k kp (m3 x0)) x0 x15 (fun y0 => k (.v (.bool y0)) []) :=
  Eq.mp (by kernel_rfl) ((atP_run (j2000002_ag k kp) (m2000002 x0 x15)).trans (j2000002_c k kp (JJ k kp) (LL k kp) x0 x15))
theorem j2000002_eq (k kp : D → List Blk → Prop) (x0 : ByteArray) (x15 : Bool) : X2000002 k kp (m2000002 x0 x15) = j2000002' x0 x15 (fun y0 => k (.v (.bool y0)) []) := by
  rw [j2000002_raw]; simp only [j3_eq]; first | done | rfl
theorem c_c (k kp : D → List Blk → Prop) (J L : Nat → St → Prop) (x0 : ByteArray) : runC cfg 1000001 J L none'' [] body (topK cfg Tryd.f5 k kp) (st0 Tryd.f5 [(.v (.string x0))] []) = c (fun x0 x15 => J 2000002 (m2000002 x0 x15)) x0 (fun y0 => k (.v (.bool y0)) []) := by kernel_rfl
theorem c_ag (k kp : D → List Blk → Prop) : agPL cfg 1000001 (JJ k kp) (LL k kp) [] body = agPR cfg 1000001 none'' [] body (topK cfg Tryd.f5 k kp) := by kernel_rfl
theorem body_is : Tryd.f5.body = some body := by kernel_rfl
theorem c_raw (k kp : D → List Blk → Prop) (x0 : ByteArray) : funW cfg Tryd.f5 [(.v (.string x0))] [] k kp = c (fun x0 x15 => X2000002 k kp (m2000002 x0 x15)) x0 (fun y0 => k (.v (.bool y0)) []) :=
  Eq.mp (by kernel_rfl) ((funW_run (AG := none'') body_is (c_ag k kp) [(.v (.string x0))] []).trans (c_c k kp (JJ k kp) (LL k kp) x0))
theorem f_eq (k kp : D → List Blk → Prop) (x0 : ByteArray) : funW cfg Tryd.f5 [(.v (.string x0))] [] k kp = f x0 (fun y0 => k (.v (.bool y0)) []) := by
  rw [f_def, c_raw]; simp only [j2000002_eq]; first | done | rfl
noncomputable def ent0 : Entry := fun args blks k _ => match args, blks with
  | [d0], [] => aStr d0 fun x0 => f x0 (fun y0 => k (.v (.bool y0)) [])
  | _, _ => False
noncomputable def ent : Entry := fun args blks k kp => ent0 (convB [.no] args) blks k kp
theorem ok : EntOk Tryd.prog 49 0 5 ent := by
  refine EntOk.convB (EntOk.of (funW_ok (cfg := cfg) (tyOk_of rfl rfl tyL_ok) (eqOk_of (P := Tryd.prog) rfl rfl (by kernel_rfl)) mixed_ok (tab_ok ?_) Tryd.func5 (by rfl) (by rfl)) ?_) _
  · intro p hp
    simp only [List.mem_cons, List.not_mem_nil, or_false] at hp
    rcases hp with rfl | rfl | rfl | rfl | rfl | rfl
    · exact N13.ok
    · exact N14.ok
    · exact N15.ok
    · exact N16.ok
    · exact N11.ok
    · exact N12.ok
  · intro args blks k kp h k' kp'
    match args, blks, h with
    | [d0], [], h =>
    dsimp only [ent0] at h
    have h9 := aStr_elim h; clear h; obtain ⟨x0, rfl, h⟩ := h9
    exact (f_eq k' kp' x0).symm
end N5
end Go.Proofs.Ye
namespace Go.Proofs.Ye.LexScans
open Go Go.Aw Go.Proofs Go.Proofs.YtidclggijmbffaaDoor Go.ChangeShapes Go.WideShapes Go.ChangeAt Go.RowKit
set_option linter.unusedVariables false
set_option linter.unusedSimpArgs false
set_option maxRecDepth 100000
/-! 5 dyehouse/dyehouselaw09.LexScans -/
def Pure : Prop := ∀ (x0 : ByteArray) (w0 : x0.size ≤ reachBytes), N5.f x0 (fun y0 => y0 = true)
theorem own : ownKnob Tryd.prog.godebug = none := by kernel_rfl
theorem laid : laidOutB Tryd.prog = true := by kernel_rfl
set_option maxRecDepth 100000 in
theorem lifted (pure : Pure) (os : Os) (started : os.Started) (H : Type) (enc : TypeId × Value → H) (F : Stop.Interp) :
    ReturnsInHanded {} Tryd.checked os 5 .any ((OpenSpec.ofChange Rows.lexScansSpec).preRow enc Tryd.prog Tryd.f5 Rows.lexScansRow.domain false Rows.lexScansRow.laid) (((OpenSpec.ofChange Rows.lexScansSpec).at F).post enc Tryd.prog Tryd.f5 false true false false) := by
  obtain ⟨places, hx⟩ : ∃ places, DataW.whole enc Tryd.prog ((laidWorld os).forCall (fun _ _ => 0) ⟨#[], #[.string ⟨#[]⟩], []⟩).memory Tryd.f5.params.toList Rows.lexScansSpec.vars false (#[.string ⟨#[]⟩] : Array Value).toList 60 = some ([(.lit (.string []))], [], places) := ⟨[], by kernel_rfl⟩
  refine returnsInHanded_of_row (C := Tryd.checked) (s := (OpenSpec.ofChange Rows.lexScansSpec)) own started (by kernel_rfl) Tryd.func5
    (witness_row_at (enc := enc) (C := Tryd.checked) false (laidWorld os) #[.string ⟨#[]⟩] rfl (by kernel_rfl) (by kernel_rfl) (by kernel_rfl)
      (OpenSpec.preRow_of_cond 60 hx (by kernel_rfl) (fun k hk => by cases hk) (by kernel_rfl) (laid_met os _))) ?_
  intro W base args ds gs before hval0 hW hcnd hcond hsz0 hL _ _
  have hsz : (DataW.weightsEach Tryd.prog (Tryd.f5.params.toList ++ Rows.lexScansSpec.plain.varTypes Tryd.prog) (ds ++ gs)).all (· ≤ reachBytes) = true := hsz0
  have hval : ∀ (j : Nat) t v, Tryd.f5.params[j]? = some t → args[j]? = some v → Value.okWide Tryd.prog W .any base t v := hval0
  have hW' := hW
  have hlt := hW.lt
  obtain ⟨p, q, hA0, hV, rfl, hfz, hnd⟩ := hW
  have hA : DataW.TrodAll enc Tryd.prog W 0 (fun _ => true) true Tryd.f5.params.toList args.toList ds p := hA0
  have hAk := hA
  rw [Tryd.params5] at hA hval hsz
  obtain ⟨v0, vs0, d0, ds0, p0, q0, hargs, rfl, rfl, h0, r0⟩ := trodAll_cons hA
  obtain ⟨rfl, rfl, rfl⟩ := trodAll_nil r0
  obtain rfl : args = #[v0] := by cases args; simp_all
  obtain ⟨rfl, rfl⟩ := trodVars_none hV
  obtain ⟨x0, k0, w0, q0⟩ := arg_str (tf := 49) (tw := 0) (by kernel_rfl) (hval 0 9 v0 rfl rfl) h0 (fun m hm => of_decide_eq_true (List.all_eq_true.1 hsz m (DataW.weights_mem_each (j := 0) rfl rfl m hm)))
  refine (law_ofG N5.ok (W := W) (hand hL) (us := [v0]) (ds := [.v (.string x0)]) ⟨_, _, rfl, k0, by simp only [RepL]⟩ (show N5.ent _ _ _ _ from pure x0 w0)).mono fun e W' ⟨he, bel⟩ => ?_
  subst he
  exact ⟨_, rfl, _, _, _, [], _, [], hW', trodAll_mk1 (shut_bool (by kernel_rfl) _), trodAll_below laid bel (by kernel_rfl) hAk (fun x hx => hlt x (by simpa using hx)), rfl, bel.frame _, fun h => by cases h⟩
theorem said (pure : Pure) : Rows.LexScansSaid :=
  OpenClaim.holds_of_cond 5 Tryd.f5 rfl rfl rfl rfl rfl rfl rfl ⟨rfl, rfl, rfl, rfl, rfl⟩ rfl rfl rfl rfl rfl (by kernel_rfl) Tryd.func5 (by kernel_rfl)
    (of_decide_eq_true (by kernel_rfl)) (by unfold Func.isWrapper; first | (rw [if_pos (by decide +kernel)]; kernel_rfl) | (rw [if_neg (by decide +kernel)]; exact ⟨rfl, rfl⟩))
    (fun os started H enc _ F => by rw [OpenClaim.pre_eq_preRow]; exact lifted pure os started H enc F)
theorem holds (pure : Pure) : Rows.LexScansCardSaid :=
  Claim7.holds_tied_plain_at .later [] _ _ _ _ (said pure) (fun _ h => by cases h) (by kernel_rfl) (fun _ h => by cases h) lexScans_row_tie rfl ⟨rfl, rfl⟩ (by kernel_rfl) rfl
    (fun f fn hf hfn => by
      obtain rfl : f = 5 := Option.some.inj ((show Tryd.prog.funcNamed "dyehouse/dyehouselaw09.LexScans" = some 5 by kernel_rfl).symm.trans hf) |>.symm
      obtain rfl : fn = Tryd.f5 := (Option.some.inj (Tryd.func5.symm.trans hfn)).symm
      refine ⟨by kernel_rfl, fun j t ht => ?_⟩
      rw [Tryd.params5] at ht
      have hm : t ∈ ([9] : List TypeId) := by simpa using Array.mem_of_getElem? ht
      simp only [List.mem_cons, List.not_mem_nil, or_false] at hm
      rcases hm with rfl
      · exact (show Tryd.prog.wantsStandIn 9 = false by kernel_rfl)
    )
    (by kernel_rfl)
end Go.Proofs.Ye.LexScans
namespace Go.Aw
theorem lexS_length : ∀ (f : Nat) (l : List Int) (a : Int) (out : List LTok), (lexS f l a out).1.length ≤ out.length + l.length + 1
  | 0, l, a, out => by simp [lexS]
  | f + 1, l, a, out => by
    unfold lexS
    cases l with
    | nil => simp
    | cons c r =>
      dsimp only
      simp only [List.length_cons]
      split
      · have := lexS_length f r (a + 1) out
        omega
      · split
        · have := lexS_length f ((c :: r).drop (lineN (c :: r))) (a + lineN (c :: r)) out
          rw [List.length_drop, List.length_cons] at this
          omega
        · split
          · simp
          · rename_i h3
            have h := tokS_len (l := c :: r) (by simpa using h3)
            have := lexS_length f ((c :: r).drop (tokS (c :: r)).len) (a + (tokS (c :: r)).len) (out ++ [((tokS (c :: r)).kind, bytesOf (tokS (c :: r)).text, (tokS (c :: r)).num, (tokS (c :: r)).cls, a)])
            simp only [List.length_drop, List.length_cons, List.length_append, List.length_nil] at this h
            omega
theorem lexAll_length (l : List Int) : (lexAll l).1.length ≤ l.length + 1 := by
  unfold lexAll
  split
  · simp
  · have := lexS_length (l.length + 1) l 0 []
    simp at this
    omega
end Go.Aw
namespace Go.Proofs.Ye.LexScans
open Go Go.Aw Go.Proofs Go.RowKit
set_option linter.unusedVariables false
set_option linter.unusedSimpArgs false
theorem pure : Pure := by
  intro s hs
  have hr : reachBytes < 2 ^ 47 := reachBytes_lt
  rw [N5.f_def]
  unfold N5.f0 N5.c N5.j2000002' N5.j2000002 N5.j3' N5.j3
  have go : N14.f s (fun (y1_1 : Err) (z0_1 : List LTok) => (N15.f s (fun (y1_2 : Int) (y2_2 : Int) (z0_2 : List LTok) => (N16.f z0_1 z0_2 (fun (y0_3 : Bool) => (br y0_3 ((flatE y1_1 = true) ∧ (br ((ofE y1_1) == y1_2) ((flatE y1_1 = true) ∧ (br ((atE y1_1) == y2_2) (br ((y1_1).isNil == (y1_2 == (0 : Int))) (N13.f (fun (y0_4 : Bool) => (y0_4 = true))) (false = true)) (false = true))) (false = true))) (false = true))))))) := by
    refine all_s s hs _ (allr_s s hs _ (same_s _ _ ?_ _ rfl ?_))
    · have := lexAll_length (ofBytes s)
      rw [ofBytes_length] at this
      omega
    · rw [br_true]
      refine ⟨err_flat _ _, ?_⟩
      rw [err_of, beq_self_eq_true, br_true]
      refine ⟨err_flat _ _, ?_⟩
      rw [err_at (fun h => lexAll_ok h), beq_self_eq_true, br_true, err_nil]
      have : (decide ((lexAll (ofBytes s)).2.1 = 0) == ((lexAll (ofBytes s)).2.1 == 0)) = true := by
        by_cases h : (lexAll (ofBytes s)).2.1 = 0 <;> simp [h]
      rw [this, br_true]
      exact lworks_s _ rfl
  refine br_of (fun h1 => br_of (fun h2 => lworks_s _ rfl) (fun h2 => go)) (fun h1 => ?_)
  simp only [br_false]
  exact go
theorem proved : Go.Proofs.YtidclggijmbffaaDoor.Rows.LexScansCardSaid := holds pure
end Go.Proofs.Ye.LexScans
namespace Go.Proofs.YtidclggijmbffaaDoor
/-- The statement. -/
theorem lexScansCard_holds : Rows.LexScansCardSaid := Go.Proofs.Ye.LexScans.proved
#print axioms lexScansCard_holds
end Go.Proofs.YtidclggijmbffaaDoor
