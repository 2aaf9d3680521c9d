/- For every whole number a and all lists ops and with the law NumFolds returns true: no further conditions. -/
import Derived.Test.YtbedcdiacpbgpaaRows
import Derived.Test.YtbedcdiacpbgpaaT1
import Derived.WalkKit
import Derived.ProofKit
import Derived.OpenShut
import Derived.ShutString
import Derived.ChangeOld
import Derived.Below
import Derived.SizedLaws
import Derived.Test.YtbedcdiacpbgpaaNumFolds0
namespace Go.Proofs.Yt.NumFolds
open Go Go.Aw Go.Proofs Go.Proofs.Ytbedcdiacpbgpaa Go.ChangeShapes Go.WideShapes Go.ChangeAt Go.RowKit
set_option linter.unusedVariables false
set_option linter.unusedSimpArgs false
set_option maxRecDepth 100000
/-! 9 dyehouse/dyehouselaw01.NumFolds -/
def Pure : Prop := ∀ (x0 : Int) (w0 : (Lit.int IntKind.i64 x0).wf = true) (x1 : (List Int)) (w1 : Ty.Wf (Ty.list (Ty.int IntKind.i64)) x1) (x2 : (List Int)) (w2 : Ty.Wf (Ty.list (Ty.int IntKind.i64)) x2), N9.f x0 x1 x2 (fun y0 => y0 = true)
theorem own : ownKnob Try.prog.godebug = none := by kernel_rfl
theorem laid : laidOutB Try.prog = true := by kernel_rfl
theorem lifted (pure : Pure) (os : Os) (started : os.Started) (H : Type) (enc : TypeId × Value → H) :
    ReturnsInHanded {} Try.checked os 9 .any (Rows.numFoldsSpec.pre6 enc Try.prog Try.f9 Rows.numFoldsRow.domain false) (Rows.numFoldsSpec.post enc Try.prog Try.f9 false true false false) := by
  refine returnsInHanded_of_change_sized (C := Try.checked) own started (by kernel_rfl) Try.func9
    (ChangeSpec.witness6 (enc := enc) (C := Try.checked) false ⟨#[], #[.int IntKind.i64 0, .slice none 0 0, .slice none 0 0], []⟩ 9 (by kernel_rfl) (by kernel_rfl) (by kernel_rfl) (by kernel_rfl)) ?_
  intro W base args ds gs before hval0 hW hcnd hsz0 _
  have hsz : (DataW.weightsEach Try.prog (Try.f9.params.toList ++ Rows.numFoldsSpec.plain.varTypes Try.prog) (ds ++ gs)).all (· ≤ reachBytes) = true := hsz0
  have hval : ∀ (j : Nat) t v, Try.f9.params[j]? = some t → args[j]? = some v → Value.okWide Try.prog W .any base t v := hval0
  have hW' := hW
  have hlt := hW.lt
  obtain ⟨p, q, hA0, hV, rfl, hfz, hnd⟩ := hW
  have hA : DataW.TrodAll enc Try.prog W 0 (fun _ => true) true Try.f9.params.toList args.toList ds p := hA0
  have hAk := hA
  rw [Try.params9] at hA hval hsz
  obtain ⟨v0, vs0, d0, ds0, p0, q0, hargs, rfl, rfl, h0, r0⟩ := trodAll_cons hA
  obtain ⟨v1, vs1, d1, ds1, p1, q1, rfl, rfl, rfl, h1, r1⟩ := trodAll_cons r0
  obtain ⟨v2, vs2, d2, ds2, p2, q2, rfl, rfl, rfl, h2, r2⟩ := trodAll_cons r1
  obtain ⟨rfl, rfl, rfl⟩ := trodAll_nil r2
  obtain rfl : args = #[v0, v1, v2] := by cases args; simp_all
  obtain ⟨rfl, rfl⟩ := trodVars_none hV
  obtain ⟨x0, k0, w0⟩ := arg_int (tf := 0) (tw := 0) (n := 1) (k := IntKind.i64) (by kernel_rfl) (hval 0 3 v0 rfl rfl) h0
  obtain ⟨x1, k1, w1⟩ := arg_list (tf := 0) (tw := 0) (n := 30) (te := (Ty.int IntKind.i64)) (e := 3) (by kernel_rfl) (hval 1 41 v1 rfl rfl) (by kernel_rfl) h1 (fun m hm => of_decide_eq_true (List.all_eq_true.1 hsz m (DataW.weights_mem_each (j := 1) rfl rfl m hm)))
  obtain ⟨x2, k2, w2⟩ := arg_list (tf := 0) (tw := 0) (n := 30) (te := (Ty.int IntKind.i64)) (e := 3) (by kernel_rfl) (hval 2 41 v2 rfl rfl) (by kernel_rfl) h2 (fun m hm => of_decide_eq_true (List.all_eq_true.1 hsz m (DataW.weights_mem_each (j := 2) rfl rfl m hm)))
  refine (law_of N9.ok (W := W) (us := [v0, v1, v2]) (ds := [.v (.int IntKind.i64 x0), .fz (Ty.int IntKind.i64) x1, .fz (Ty.int IntKind.i64) x2]) ⟨_, _, rfl, k0, ⟨_, _, rfl, k1, ⟨_, _, rfl, k2, by simp only [RepL]⟩⟩⟩ (show N9.ent _ _ _ _ from pure x0 w0 x1 w1 x2 w2)).mono fun e W' ⟨he, bel⟩ => ?_
  subst he
  exact ⟨_, rfl, _, _, _, [], _, [], hW', trodAll_mk1 (shut_bool (by kernel_rfl) _), trodAll_below laid bel (by kernel_rfl) hAk (fun x hx => hlt x (by simpa using hx)), rfl, bel.frame _, fun h => by cases h⟩
theorem over (pure : Pure) : Rows.numFoldsRow.holds Try.pinned (OpenSpec.ofChange Rows.numFoldsSpec) :=
  OpenClaim.holds_of_wide 9 Try.f9 rfl rfl rfl rfl rfl rfl rfl ⟨rfl, rfl, rfl, rfl, rfl⟩ rfl rfl rfl rfl rfl (by kernel_rfl) Try.func9 (by kernel_rfl)
    (of_decide_eq_true (by kernel_rfl)) (by unfold Func.isWrapper; first | (rw [if_pos (by decide +kernel)]; kernel_rfl) | (rw [if_neg (by decide +kernel)]; exact ⟨rfl, rfl⟩))
    (fun os started H enc _ => lifted pure os started H enc)
theorem holds (pure : Pure) : Rows.NumFoldsSaid := over pure
end Go.Proofs.Yt.NumFolds
namespace Go.Proofs.Yt.NumFolds
open Go Go.Aw Go.Proofs Go.RowKit
set_option linter.unusedVariables false
set_option linter.unusedSimpArgs false

theorem do_in (op a b : Int) (ha : in64 a) (hb : in64 b) : in64 (doI op a b).1 := by
  have h0 : in64 0 := ⟨by decide, by decide⟩
  have h1 : in64 1 := ⟨by decide, by decide⟩
  have hand : ∀ x y, in64 (andI .i64 x y) := fun x y => w64_in _
  have hor : ∀ x y, in64 (orI .i64 x y) := fun x y => w64_in _
  have hxor : ∀ x y, in64 (xorI .i64 x y) := fun x y => w64_in _
  have hmod : in64 (a.tmod b) := by
    have e : (a.tmod b).natAbs ≤ a.natAbs := by rw [Int.natAbs_tmod]; exact Nat.mod_le _ _
    have r2 : 0 ≤ a → 0 ≤ a.tmod b := fun h => Int.tmod_nonneg _ h
    have r3 : a ≤ 0 → a.tmod b ≤ 0 := fun h => by
      have := Int.tmod_nonneg b (a := -a) (by omega)
      rw [Int.neg_tmod] at this
      omega
    unfold in64 at *
    omega
  have hsar : in64 (Int.fdiv a (2 ^ (b % 64).toNat)) := by
    rw [← bv_sar a ha, ← bv_of_toInt ((bv a).sshiftRight (b % 64).toNat), bv_toInt]; exact w64_in _
  have hflag : ∀ x : Bool, in64 (flagI x) := fun x => by cases x <;> first | exact h0 | exact h1
  by_cases e1 : op = 1
  · subst e1; exact w64_in _
  by_cases e2 : op = 2
  · subst e2; exact w64_in _
  by_cases e3 : op = 3
  · subst e3; exact w64_in _
  by_cases e4 : op = 4
  · subst e4; exact hand _ _
  by_cases e5 : op = 5
  · subst e5; exact hor _ _
  by_cases e6 : op = 6
  · subst e6; exact hxor _ _
  have hdiv : in64 (divI op a b).1 := by
    unfold divI
    split
    · exact h0
    · split
      · exact w64_in _
      · exact hmod
  have hshift : in64 (shiftsI op a b).1 := by
    unfold shiftsI
    split
    · exact w64_in _
    · split
      · exact w64_in _
      · split
        · exact hsar
        · exact h0
  unfold doI
  rw [if_neg e1, if_neg e2, if_neg e3, if_neg e4, if_neg e5, if_neg e6]
  split
  · exact hdiv
  · split
    · exact hshift
    · exact hflag _

theorem fold_cons (a op b : Int) (ops bs : List Int) : foldI a (op :: ops) (b :: bs) = if (doI op a b).2 = true then foldI (doI op a b).1 ops bs else (0, false) := rfl

theorem pure : Pure := by
  intro a wa ops wo bs wb
  have ha := wf64 wa
  have hw : N28.f (fun y => y = true) := works_s _ rfl
  have hbs : ∀ i : Nat, in64 (bs.getD i 0) := by
    intro i
    by_cases hi : i < bs.length
    · simp only [List.getD, List.getElem?_eq_getElem hi, Option.getD_some]
      exact wf64 (wb.2 _ (List.getElem_mem hi))
    · simp only [List.getD, List.getElem?_eq_none (by omega : bs.length ≤ i), Option.getD_none]
      exact ⟨by decide, by decide⟩
  rw [N9.f_def]
  unfold N9.f0 N9.c N9.j2000002' N9.j2000002 N9.j3' N9.j3
  dsimp only
  refine br_of (fun h => by simpa using hw) (fun h1 => br_of (fun h => by simpa using hw) (fun h2 => ?_))
  have h1 : ¬ ((ops.length : Nat) : Int) > 60 := by simpa using h1
  refine fold_s _ _ _ (by omega) _ ?_
  by_cases e : ops.length = bs.length
  · rw [if_pos e]
    simp only [br_bne]
    rw [if_pos (by omega)]
    unfold N9.l7'
    refine loopS_of (fun s : Int × Int => ∃ i : Nat, s.2 = i ∧ i ≤ bs.length ∧ in64 s.1 ∧ foldI a ops bs = foldI s.1 (ops.drop i) (bs.drop i)) (fun s => (bs.length - s.2).toNat) ?_ ⟨0, rfl, by omega, ha, by simp⟩
    rintro again ⟨x, j⟩ ⟨i, rfl, hi, hx, hf⟩ hag
    simp only at hx hf hag ⊢
    unfold N9.l7 N9.j13' N9.j13
    dsimp only
    refine br_of (fun hlt => ?_) (fun hge => ?_)
    · have hlt : i < bs.length := by simp at hlt; omega
      refine ⟨⟨by omega, by omega, by omega⟩, ⟨by omega, by omega, by omega⟩, ?_⟩
      rw [Int.toNat_natCast]
      refine refdo_s _ _ _ hx (hbs i) _ ?_
      rw [drop_get (d := 0) (by omega : i < ops.length), drop_get (d := 0) hlt] at hf
      rw [fold_cons] at hf
      by_cases hd : (doI (ops.getD i 0) x (bs.getD i 0)).2 = true
      · rw [if_pos hd] at hf
        rw [hd]
        simp only [Bool.not_true, br_false]
        have hn : IntKind.i64.wrap ((i : Int) + 1) = ((i + 1 : Nat) : Int) := by rw [wrap_id (by omega) (by omega)]; omega
        rw [hn]
        exact hag _ ⟨i + 1, rfl, by omega, do_in _ _ _ hx (hbs i), hf⟩ (by simp; omega)
      · rw [if_neg hd] at hf
        have hd' : (doI (ops.getD i 0) x (bs.getD i 0)).2 = false := by simpa using hd
        rw [hd', hf]
        simpa using hw
    · have hge : i = bs.length := by simp at hge; omega
      have e1 : ops.drop i = [] := List.drop_eq_nil_of_le (by omega)
      have e2 : bs.drop i = [] := List.drop_eq_nil_of_le (by omega)
      rw [e1, e2] at hf
      rw [hf]
      simpa [foldI] using hw
  · rw [if_neg e]
    simp only [br_bne]
    rw [if_neg (by omega)]
    simpa using hw

theorem proved : Go.Proofs.Ytbedcdiacpbgpaa.Rows.NumFoldsSaid := holds pure
end Go.Proofs.Yt.NumFolds
namespace Go.Proofs.Ytbedcdiacpbgpaa
/-- The statement. -/
theorem numFolds_holds : Rows.NumFoldsSaid := Go.Proofs.Yt.NumFolds.proved
#print axioms numFolds_holds
end Go.Proofs.Ytbedcdiacpbgpaa
