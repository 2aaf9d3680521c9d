/- A unit's text has the target's, the function's, and perhaps the allocation's, one behind the other; an allocation's has each segment's. -/
import Derived.Test.YtidclggijmbffaaNoP3
import Derived.Test.YtidclggijmbffaaT2
import Derived.Test.YtidclggijmbffaaNoP0
import Derived.Test.YtidclggijmbffaaNoP2
import Derived.Test.YtidclggijmbffaaNoP1
import Derived.Test.YtidclggijmbffaaRows
import Derived.WalkKit
import Derived.ProofKit
import Derived.OpenShut
import Derived.ShutString
import Derived.ChangeOld
import Derived.Below
import Derived.SizedLaws
import Derived.Deep.CondSized
set_option linter.unusedVariables false
set_option linter.unusedSimpArgs false
namespace Go.Proofs.Yh.Sh
open Go Go.Aw Go.Proofs Go.RowKit
theorem bp : ByteArray.mk #[32, 37] = ByteArray.mk #[32] ++ ByteArray.mk #[37] := rfl
theorem blo_len (l : List Blo) : l.length ≤ (l.map blkZ).sum := by
  induction l with
  | nil => exact Nat.zero_le _
  | cons x l ih => rw [List.map_cons, List.sum_cons, List.length_cons]; have : 1 ≤ blkZ x := by unfold blkZ; omega
                   omega
theorem ins_len (l : List Ins) : l.length ≤ (l.map insZ).sum := by
  induction l with
  | nil => exact Nat.zero_le _
  | cons x l ih => rw [List.map_cons, List.sum_cons, List.length_cons]; have : 1 ≤ insZ x := by unfold insZ; omega
                   omega
theorem funcr_blocks (f : Fun) (ok : ∀ b ∈ f.2.2.2.2, blkOk b) (hz : blksZ f.2.2.2.2 ≤ 1000000000) (b : ByteArray) (hb : b.size ≤ 100000000000) (k : ByteArray → Prop) (h : k (b ++ catF blockS f.2.2.2.2 ++ ByteArray.mk #[125, 10])) : N11.j18' f.1 f.2.1 f.2.2.1 f.2.2.2.1 f.2.2.2.2 b k := by
  unfold N11.j18' N11.j18 N11.l19'
  unfold blksZ at hz
  have hlen := blo_len f.2.2.2.2
  refine loopS_of (fun s : ByteArray × Int => ∃ i : Nat, s.2 = i ∧ i ≤ f.2.2.2.2.length ∧ s.1 = b ++ catF blockS (f.2.2.2.2.take i)) (fun s => f.2.2.2.2.length - s.2.toNat) ?_ ⟨0, rfl, Nat.zero_le _, by rw [catF_zero, ByteArray.append_empty]⟩
  rintro again ⟨t, a⟩ ⟨i, e1, hi, e2⟩ hag
  simp only at e1 e2
  subst e1; subst e2
  unfold N11.l19 N11.j26' N11.j26
  dsimp only
  have hc := catF_le blockS blkZ 400 f.2.2.2.2 (fun x _ => blockS_size x) hi
  refine br_of (fun hlt => ?_) (fun hge => ?_)
  · have hlt := lenlt.1 hlt
    have hm := getD_memA (d := dB) hlt
    have hzx := sum_mem blkZ hm
    have hsucc := catF_succ blockS (d := dB) hlt
    have hok := ok _ hm
    refine ⟨inBk hlt, ?_⟩
    unfold N11.l23'
    simp only [Int.toNat_natCast]
    have hsx := headS_size (f.2.2.2.2.getD i dB)
    have hzz : blkZ (f.2.2.2.2.getD i dB) = (f.2.2.2.2.getD i dB).1.size + (f.2.2.2.2.getD i dB).2.2.1.length + ((f.2.2.2.2.getD i dB).2.2.2.map insZ).sum + 1 := rfl
    have hil := ins_len (f.2.2.2.2.getD i dB).2.2.2
    have hrows := @fun j (hj : j ≤ (f.2.2.2.2.getD i dB).2.2.2.length) => catF_le rowS insZ 304 (f.2.2.2.2.getD i dB).2.2.2 (fun x _ => rowS_size x) hj
    refine headr_s (f.2.2.2.2.getD i dB) hok.1 (by omega) _ ⟨?_, ?_, ?_⟩
    · simp only [ByteArray.size_append]; omega
    · simp only [ByteArray.size_append, z1]; omega
    refine loopS_of (fun s : ByteArray × Int => ∃ j : Nat, s.2 = j ∧ j ≤ (f.2.2.2.2.getD i dB).2.2.2.length ∧ s.1 = b ++ catF blockS (f.2.2.2.2.take i) ++ headS (f.2.2.2.2.getD i dB) ++ ByteArray.mk #[10] ++ catF rowS ((f.2.2.2.2.getD i dB).2.2.2.take j)) (fun s => (f.2.2.2.2.getD i dB).2.2.2.length - s.2.toNat) ?_ ⟨0, rfl, Nat.zero_le _, by rw [catF_zero, ByteArray.append_empty]⟩
    rintro again2 ⟨t, a⟩ ⟨j, e1, hj, e2⟩ hag2
    simp only at e1 e2
    subst e1; subst e2
    unfold N11.l23 N11.j20' N11.j20
    dsimp only
    simp only [Int.toNat_natCast]
    have hr := hrows j hj
    refine ⟨inBk hlt, br_of (fun hlt2 => ?_) (fun hge2 => ?_)⟩
    · have hlt2 : j < (f.2.2.2.2.getD i dB).2.2.2.length := lenlt.1 hlt2
      have hm2 := getD_memA (d := dI) hlt2
      have hzx2 := sum_mem insZ hm2
      have hsx2 := instrS_size ((f.2.2.2.2.getD i dB).2.2.2.getD j dI)
      refine ⟨?_, inBk hlt, inBk hlt2, instrr_s _ (hok.2 _ hm2) (by omega) _ ⟨?_, ?_, ?_⟩⟩
      · simp only [ByteArray.size_append, z1, z2]; omega
      · simp only [ByteArray.size_append, z1, z2]; omega
      · simp only [ByteArray.size_append, z1, z2]; omega
      · rw [wrap_id (by omega) (by omega)]
        refine hag2 _ ⟨j + 1, by simp, by omega, ?_⟩ (by simp only; omega)
        rw [catF_succ rowS (d := dI) hlt2]
        unfold rowS
        simp only [ByteArray.append_assoc]
    · have hge2 : j = (f.2.2.2.2.getD i dB).2.2.2.length := by
        have hge2 : ¬ ((j : Int) < ((f.2.2.2.2.getD i dB).2.2.2.length : Int)) := of_decide_eq_false hge2
        omega
      subst hge2
      rw [wrap_id (by omega) (by omega)]
      refine hag _ ⟨i + 1, by simp, by omega, ?_⟩ (by simp only; omega)
      rw [hsucc, List.take_length]
      unfold blockS
      simp only [ByteArray.append_assoc]
  · have hge : i = f.2.2.2.2.length := by have := of_decide_eq_false hge; omega
    subst hge
    rw [List.take_length] at hc ⊢
    refine ⟨?_, h⟩
    simp only [ByteArray.size_append, z2]; omega
theorem funcr_s (f : Fun) (ok : funOk f) (hz : funZ f ≤ 1000000000) (k : ByteArray → Prop) (h : k (funcS f)) : N11.f f.1 f.2.1 f.2.2.1 f.2.2.2.1 f.2.2.2.2 k := by
  rw [N11.f_def]
  unfold N11.f0 N11.c
  obtain ⟨ok1, ok2, ok3⟩ := ok
  have hz' := hz
  unfold funZ at hz'
  have h1 := joinS_size (opsS f.2.2.2.1)
  have h2 := szL_ops f.2.2.2.1
  have h3 := regsO_size f.2.2.1
  unfold funcS topS at h
  have rest : ∀ p : ByteArray, p.size ≤ 10 → k (p ++ f.2.1 ++ ByteArray.mk #[40] ++ joinS (opsS f.2.2.2.1) ++ ByteArray.mk #[41, 32, 123, 10] ++ regsO f.2.2.1 ++ catF blockS f.2.2.2.2 ++ ByteArray.mk #[125, 10]) → N11.j4' f.1 f.2.1 f.2.2.1 f.2.2.2.1 f.2.2.2.2 p k := by
    intro p hp h
    unfold N11.j4' N11.j4
    refine ⟨by omega, ?_, operandsr_s _ ok2 (by omega) _ (join_s _ (by omega) _ ⟨?_, ?_, ?_⟩)⟩
    · rw [ByteArray.size_append, z1]; omega
    · simp only [ByteArray.size_append, z1]; omega
    · simp only [ByteArray.size_append, z1, z4]; omega
    generalize hbase : p ++ f.2.1 ++ ByteArray.mk #[40] ++ joinS (opsS f.2.2.2.1) ++ ByteArray.mk #[41, 32, 123, 10] = base at h ⊢
    have hbs : base.size ≤ 70000000000 := by rw [← hbase]; simp only [ByteArray.size_append, z1, z4]; omega
    unfold N11.l6'
    refine loopS_of (fun s : ByteArray × Int => ∃ i : Nat, s.2 = i ∧ i ≤ f.2.2.1.length ∧ s.1 = if i = f.2.2.1.length then base ++ regsO f.2.2.1 else if i = 0 then base else base ++ ByteArray.mk #[114, 101, 103, 115] ++ catF regS (f.2.2.1.take i)) (fun s => f.2.2.1.length - s.2.toNat) ?_ ⟨0, rfl, Nat.zero_le _, ?_⟩
    rotate_left
    · by_cases h0 : 0 = f.2.2.1.length
      · rw [if_pos h0]
        unfold regsO
        rw [if_neg (by omega), ByteArray.append_empty]
      · rw [if_neg h0, if_pos rfl]
    rintro again ⟨t, a⟩ ⟨i, e1, hi, e2⟩ hag
    simp only at e1 e2
    subst e1
    unfold N11.l6 N11.j10' N11.j10 N11.j15' N11.j15 N11.j7' N11.j7
    dsimp only
    refine br_of (fun hlt => ?_) (fun hge => ?_)
    · have hlt := lenlt.1 hlt
      rw [if_neg (by omega)] at e2
      have hm := getD_memA (d := ((0, 0) : Reg)) hlt
      have hp := putB_size (f.2.2.1.getD i (0, 0)).1
      have hc := regs_le f.2.2.1 (Nat.le_of_lt hlt)
      simp only [Int.toNat_natCast]
      have two : ∀ c : ByteArray, c = letterL (f.2.2.1.getD i (0, 0)).2 → ∀ u : ByteArray, u = base ++ ByteArray.mk #[114, 101, 103, 115] ++ catF regS (f.2.2.1.take i) →
          (u.size + (ByteArray.mk #[32, 37]).size ≤ 9223372036854775807 ∧ inB 0 (i : Int) ((f.2.2.1.length : Int) - 1) ∧ N34.f (f.2.2.1.getD i (0, 0)).1 (fun y => ((u ++ ByteArray.mk #[32, 37]).size + y.size ≤ 9223372036854775807) ∧ (((u ++ ByteArray.mk #[32, 37]) ++ y).size + (ByteArray.mk #[58]).size ≤ 9223372036854775807) ∧ ((((u ++ ByteArray.mk #[32, 37]) ++ y) ++ ByteArray.mk #[58]).size + c.size ≤ 9223372036854775807) ∧
            br ((i : Int) == IntKind.i64.wrap ((f.2.2.1.length : Int) - 1)) ((((((u ++ ByteArray.mk #[32, 37]) ++ y) ++ ByteArray.mk #[58]) ++ c).size + (ByteArray.mk #[59, 10]).size ≤ 9223372036854775807) ∧ again (((((u ++ ByteArray.mk #[32, 37]) ++ y) ++ ByteArray.mk #[58]) ++ c) ++ ByteArray.mk #[59, 10], IntKind.i64.wrap ((i : Int) + 1))) (again ((((u ++ ByteArray.mk #[32, 37]) ++ y) ++ ByteArray.mk #[58]) ++ c, IntKind.i64.wrap ((i : Int) + 1))))) := by
        intro c hcl u hu
        have hll := letterL_size (f.2.2.1.getD i (0, 0)).2
        rw [← hcl] at hll
        have hus : u.size ≤ 100000000000 := by rw [hu]; simp only [ByteArray.size_append, z4]; omega
        refine ⟨by rw [z2]; omega, inBk hlt, putr_s _ (ok1 _ hm) _ ?_⟩
        rw [show bytesOf (putL (f.2.2.1.getD i (0, 0)).1) = putB (f.2.2.1.getD i (0, 0)).1 from rfl]
        have hnext : (((u ++ ByteArray.mk #[32, 37]) ++ putB (f.2.2.1.getD i (0, 0)).1) ++ ByteArray.mk #[58]) ++ c = base ++ ByteArray.mk #[114, 101, 103, 115] ++ catF regS (f.2.2.1.take (i + 1)) := by
          rw [catF_succ regS (d := ((0, 0) : Reg)) hlt, hu, hcl, bp]
          unfold regS
          simp only [ByteArray.append_assoc]
        refine ⟨?_, ?_, ?_, ?_⟩
        · simp only [ByteArray.size_append, z1, z2]; omega
        · simp only [ByteArray.size_append, z1, z2]; omega
        · simp only [ByteArray.size_append, z1, z2]; omega
        rw [wrap_id (n := (i : Int) + 1) (by omega) (by omega), wrap_id (n := (f.2.2.1.length : Int) - 1) (by omega) (by omega)]
        refine br_of (fun hq => ⟨?_, ?_⟩) (fun hq => ?_)
        · simp only [ByteArray.size_append, z1, z2]; omega
        · have hq : i + 1 = f.2.2.1.length := by have : (i : Int) = (f.2.2.1.length : Int) - 1 := by simpa using hq
                                                 omega
          refine hag _ ⟨i + 1, by simp, by omega, ?_⟩ (by simp only; omega)
          rw [if_pos hq]
          simp only
          rw [hnext]
          unfold regsO regsS
          rw [if_pos (by omega), hq, List.take_length]
          simp only [ByteArray.append_assoc]
        · have hq : i + 1 ≠ f.2.2.1.length := by
            intro e
            have hq : ¬ (i : Int) = (f.2.2.1.length : Int) - 1 := by simpa using hq
            exact hq (by omega)
          refine hag _ ⟨i + 1, by simp, by omega, ?_⟩ (by simp only; omega)
          rw [if_neg hq, if_neg (by omega)]
          exact hnext
      have one : ∀ u : ByteArray, u = base ++ ByteArray.mk #[114, 101, 103, 115] ++ catF regS (f.2.2.1.take i) → N11.j10' (fun x3 x4 => again (x3, x4)) f.1 f.2.1 f.2.2.1 f.2.2.2.1 f.2.2.2.2 u (i : Int) k := by
        intro u hu
        unfold N11.j10' N11.j10 N11.j15' N11.j15 N11.j7' N11.j7
        dsimp only
        simp only [Int.toNat_natCast]
        refine ⟨inBk hlt, br_of (fun h0 => two _ ?_ u hu) (fun h0 => ⟨inBk hlt, br_of (fun h1 => two _ ?_ u hu) (fun h1 => two _ ?_ u hu)⟩)⟩
        · have h0 : (f.2.2.1.getD i (0, 0)).2 = 0 := by simpa using h0
          unfold letterL; rw [if_pos h0]
        · have h0 : ¬ (f.2.2.1.getD i (0, 0)).2 = 0 := by simpa using h0
          have h1 : (f.2.2.1.getD i (0, 0)).2 = 1 := by simpa using h1
          unfold letterL; rw [if_neg h0, if_pos h1]
        · have h0 : ¬ (f.2.2.1.getD i (0, 0)).2 = 0 := by simpa using h0
          have h1 : ¬ (f.2.2.1.getD i (0, 0)).2 = 1 := by simpa using h1
          unfold letterL; rw [if_neg h0, if_neg h1]
      refine br_of (fun h0 => ?_) (fun h0 => ?_)
      · have h0 : i = 0 := by have : (i : Int) = 0 := by simpa using h0
                              omega
        rw [if_pos h0] at e2
        refine ⟨by rw [z4, e2]; omega, one _ ?_⟩
        rw [e2, h0, catF_zero, ByteArray.append_empty]
      · have h0 : ¬ i = 0 := by
          intro e
          have h0 : ¬ (i : Int) = 0 := by simpa using h0
          exact h0 (by omega)
        rw [if_neg h0] at e2
        exact one _ e2
    · have hge : i = f.2.2.1.length := by have := of_decide_eq_false hge; omega
      rw [if_pos hge] at e2
      rw [e2]
      refine funcr_blocks f ok3 (by omega) _ ?_ k ?_
      · rw [ByteArray.size_append]; omega
      · exact h
  cases hb : f.1 with
  | true =>
    rw [hb, cond_true] at h
    rw [hb] at rest
    exact rest _ (by rw [z8]; omega) h
  | false =>
    rw [hb, cond_false] at h
    rw [hb] at rest
    exact rest _ (by rw [z5]; omega) h
end Go.Proofs.Yh.Sh

namespace Go.Proofs.Yh.Sh
open Go Go.Aw Go.Proofs Go.RowKit
theorem sum_le2 {α : Type} (f g : α → Nat) (l : List α) (h : ∀ x, f x ≤ 2 * g x) : (l.map f).sum ≤ 2 * (l.map g).sum := by
  induction l with
  | nil => exact Nat.le_refl _
  | cons x l ih => rw [List.map_cons, List.map_cons, List.sum_cons, List.sum_cons]; have := h x; omega
theorem sum_four {α : Type} (c : Nat) (l : List α) : (l.map fun _ => c).sum = c * l.length := by
  induction l with
  | nil => rfl
  | cons x l ih => rw [List.map_cons, List.sum_cons, ih, List.length_cons, Nat.mul_succ]; omega
abbrev i64T : Ty := Ty.int IntKind.i64
abbrev OpT : Ty := Ty.pair i64T (Ty.pair i64T (Ty.pair i64T i64T))
abbrev InT : Ty := Ty.pair i64T (Ty.pair OpT (Ty.pair (Ty.list OpT) (Ty.pair Ty.str (Ty.pair i64T (Ty.pair (Ty.list Ty.str) (Ty.list i64T))))))
abbrev BlT : Ty := Ty.pair Ty.str (Ty.pair Ty.bool (Ty.pair (Ty.list OpT) (Ty.list InT)))
abbrev FuT : Ty := Ty.pair Ty.bool (Ty.pair Ty.str (Ty.pair (Ty.list (Ty.pair i64T i64T)) (Ty.pair (Ty.list OpT) (Ty.list BlT))))
def bI (x : Ins) : Nat := Ty.bulk InT x
def bB (x : Blo) : Nat := Ty.bulk BlT x
theorem bulk_in (x : Ins) : insZ x ≤ 2 * Ty.bulk InT x := by
  have e : Ty.bulk InT x = 1 + ((1 + (1 + (1 + 1))) + (((x.2.2.1.map fun _ => 1 + (1 + (1 + 1))).sum + 1) + ((x.2.2.2.1.size + 1) + (1 + (((x.2.2.2.2.2.1.map fun s : ByteArray => s.size + 1).sum + 1) + ((x.2.2.2.2.2.2.map fun _ => 1).sum + 1)))))) := rfl
  rw [e, sum_four, sum_four]
  have h := sum_le2 (fun s : ByteArray => s.size + 2) (fun s => s.size + 1) x.2.2.2.2.2.1 (fun s => by omega)
  unfold insZ szL
  omega
theorem bulk_bl (b : Blo) : blkZ b ≤ 2 * Ty.bulk BlT b := by
  have e : Ty.bulk BlT b = (b.1.size + 1) + (1 + (((b.2.2.1.map fun _ => 1 + (1 + (1 + 1))).sum + 1) + ((b.2.2.2.map bI).sum + 1))) := rfl
  rw [e, sum_four]
  have h := sum_le2 insZ bI b.2.2.2 bulk_in
  unfold blkZ insZs
  omega
theorem bulk_fu (f : Fun) : funZ f ≤ 2 * Ty.bulk FuT f := by
  have e : Ty.bulk FuT f = 1 + ((f.2.1.size + 1) + (((f.2.2.1.map fun _ => 1 + 1).sum + 1) + (((f.2.2.2.1.map fun _ => 1 + (1 + (1 + 1))).sum + 1) + ((f.2.2.2.2.map bB).sum + 1)))) := rfl
  rw [e, sum_four, sum_four]
  have h := sum_le2 blkZ bB f.2.2.2.2 bulk_bl
  unfold funZ blksZ
  omega
theorem op_wf (o : Opd) (w : Ty.Wf OpT o) : opdOk o := ⟨wf64 w.1, wf64 w.2.1, wf64 w.2.2.1, wf64 w.2.2.2⟩
theorem in_wf (x : Ins) (w : Ty.Wf InT x) : insOk x :=
  ⟨wf64 w.1, op_wf _ w.2.1, fun o ho => op_wf o (w.2.2.1.2 o ho), wf64 w.2.2.2.2.1, fun n hn => wf64 (w.2.2.2.2.2.2.2 n hn)⟩
theorem bl_wf (b : Blo) (w : Ty.Wf BlT b) : blkOk b := ⟨fun o ho => op_wf o (w.2.2.1.2 o ho), fun x hx => in_wf x (w.2.2.2.2 x hx)⟩
theorem fu_wf (f : Fun) (w : Ty.Wf FuT f) : funOk f := ⟨fun r hr => wf64 (w.2.2.1.2 r hr).1, fun o ho => op_wf o (w.2.2.2.1.2 o ho), fun b hb => bl_wf b (w.2.2.2.2.2 b hb)⟩
theorem large_s (f : Fun) (hz : funZ f ≤ 1000000000) (k : Bool → Prop) (h1 : k true) (h2 : k false) : N8.f f.1 f.2.1 f.2.2.1 f.2.2.2.1 f.2.2.2.2 k := by
  have hk : ∀ b, k b := fun b => match b with | true => h1 | false => h2
  rw [N8.f_def]
  unfold N8.f0 N8.c N8.l3'
  unfold funZ blksZ at hz
  have hlen := blo_len f.2.2.2.2
  refine loopS_of (fun s : Int × Int => ∃ i : Nat, s.2 = i ∧ i ≤ f.2.2.2.2.length) (fun s => f.2.2.2.2.length - s.2.toNat) ?_ ⟨0, rfl, Nat.zero_le _⟩
  rintro again ⟨n, a⟩ ⟨i, e1, hi⟩ hag
  simp only at e1
  subst e1
  unfold N8.l3 N8.j15' N8.j15 N8.l7'
  dsimp only
  refine br_of (fun hlt => ?_) (fun hge => ?_)
  · have hlt := lenlt.1 hlt
    have hm := getD_memA (d := dB) hlt
    have hzx := sum_mem blkZ hm
    have hzz : blkZ (f.2.2.2.2.getD i dB) = (f.2.2.2.2.getD i dB).1.size + (f.2.2.2.2.getD i dB).2.2.1.length + ((f.2.2.2.2.getD i dB).2.2.2.map insZ).sum + 1 := rfl
    have hil := ins_len (f.2.2.2.2.getD i dB).2.2.2
    refine ⟨inBk hlt, inBk hlt, ?_⟩
    simp only [Int.toNat_natCast]
    refine loopS_of (fun s : Int × Int => ∃ j : Nat, s.2 = j ∧ j ≤ (f.2.2.2.2.getD i dB).2.2.2.length) (fun s => (f.2.2.2.2.getD i dB).2.2.2.length - s.2.toNat) ?_ ⟨0, rfl, Nat.zero_le _⟩
    rintro again2 ⟨n2, a⟩ ⟨j, e1, hj⟩ hag2
    simp only at e1
    subst e1
    unfold N8.l7 N8.j4' N8.j4 N8.l12'
    dsimp only
    simp only [Int.toNat_natCast]
    refine ⟨inBk hlt, br_of (fun hlt2 => ?_) (fun hge2 => ?_)⟩
    · have hlt2 : j < (f.2.2.2.2.getD i dB).2.2.2.length := lenlt.1 hlt2
      have hm2 := getD_memA (d := dI) hlt2
      have hzx2 := sum_mem insZ hm2
      have hsz := szL_len ((f.2.2.2.2.getD i dB).2.2.2.getD j dI).2.2.2.2.2.1
      have hzi : insZ ((f.2.2.2.2.getD i dB).2.2.2.getD j dI) = ((f.2.2.2.2.getD i dB).2.2.2.getD j dI).2.2.1.length + ((f.2.2.2.2.getD i dB).2.2.2.getD j dI).2.2.2.1.size + szL ((f.2.2.2.2.getD i dB).2.2.2.getD j dI).2.2.2.2.2.1 + ((f.2.2.2.2.getD i dB).2.2.2.getD j dI).2.2.2.2.2.2.length + 1 := rfl
      refine ⟨inBk hlt, inBk hlt2, ?_⟩
      refine loopS_of (fun s : Int × Int × Int × Int × Int × Int × Int × List Opd × ByteArray × Int × List ByteArray × List Int => ∃ m : Nat, s.2.1 = m ∧ m ≤ ((f.2.2.2.2.getD i dB).2.2.2.getD j dI).2.2.2.2.2.1.length ∧ s.2.2.2.2.2.2.2.2.2.2.1 = ((f.2.2.2.2.getD i dB).2.2.2.getD j dI).2.2.2.2.2.1) (fun s => ((f.2.2.2.2.getD i dB).2.2.2.getD j dI).2.2.2.2.2.1.length - s.2.1.toNat) ?_ ⟨0, rfl, Nat.zero_le _, rfl⟩
      rintro again3 ⟨n3, a, c0, c1, c2, c3, c4, c5, c6, c7, c8, c9⟩ ⟨m, e1, hmm, e2⟩ hag3
      simp only at e1 e2
      subst e1; subst e2
      unfold N8.l12 N8.j8' N8.j8
      dsimp only
      refine br_of (fun hlt3 => ?_) (fun hge3 => ?_)
      · have hlt3 : m < ((f.2.2.2.2.getD i dB).2.2.2.getD j dI).2.2.2.2.2.1.length := lenlt.1 hlt3
        refine ⟨inBk hlt3, ?_⟩
        rw [wrap_id (n := (m : Int) + 1) (by omega) (by omega)]
        exact hag3 _ ⟨m + 1, by simp, by omega, rfl⟩ (by simp only; omega)
      · rw [wrap_id (n := (j : Int) + 1) (by omega) (by omega)]
        exact hag2 _ ⟨j + 1, by simp, by omega⟩ (by simp only; omega)
    · rw [wrap_id (n := (i : Int) + 1) (by omega) (by omega)]
      exact hag _ ⟨i + 1, by simp, by omega⟩ (by simp only; omega)
  · exact br_of (fun _ => h1) (fun _ => hk _)
end Go.Proofs.Yh.Sh

namespace Go.Proofs.Yh
open Go Go.Aw Go.Proofs
set_option maxRecDepth 100000
set_option maxHeartbeats 4000000
namespace N20
noncomputable def cfg : Cfg := { P := Try.prog, ty := tys, E := tab [(22, N22.ent), (10, N10.ent), (24, N24.ent)], atSeq := tab [(4, ⟨[(3, .keep)]⟩)], atLoop := tab [], outs := [], eqT := tab [], bT := tab [], fzB := [1] }
noncomputable def body : Code := bodyOf Try.f20
def j4 (x3 : BA) (k : BA → Prop) : Prop :=
  (k x3)
def c (j4 : BA → Prop) (x0_0_0_0 x0_0_0_1 : Int) (x0_0_1_0 x0_0_1_1 : LI) (x0_0_2 : Int) (x0_1_0 : Bool) (x0_1_1 : BA) (x0_1_2 : Zq4) (x0_1_3 : Zq6) (x0_1_4 : Zq0) (x0_2 : Bool) (x0_3_0 : Int) (x0_3_1 : Zq3) (k : BA → Prop) : Prop :=
  (N22.f x0_0_0_0 x0_0_0_1 x0_0_1_0 x0_0_1_1 x0_0_2 (fun (y0_0 : BA) => (N10.f x0_1_0 x0_1_1 x0_1_2 x0_1_3 x0_1_4 (fun (y0_1 : BA) => (((y0_0).size + (y0_1).size ≤ 9223372036854775807) ∧ (br x0_2 (N24.f x0_3_0 x0_3_1 (fun (y0_2 : BA) => ((((y0_0 ++ y0_1)).size + (y0_2).size ≤ 9223372036854775807) ∧ (j4 ((y0_0 ++ y0_1) ++ y0_2))))) (j4 (y0_0 ++ y0_1))))))))
def j4' (x3 : BA) (k : BA → Prop) : Prop := j4 x3 k
def f0 (x0_0_0_0 x0_0_0_1 : Int) (x0_0_1_0 x0_0_1_1 : LI) (x0_0_2 : Int) (x0_1_0 : Bool) (x0_1_1 : BA) (x0_1_2 : Zq4) (x0_1_3 : Zq6) (x0_1_4 : Zq0) (x0_2 : Bool) (x0_3_0 : Int) (x0_3_1 : Zq3) (k : BA → Prop) : Prop := c (fun x3 => j4' x3 k) x0_0_0_0 x0_0_0_1 x0_0_1_0 x0_0_1_1 x0_0_2 x0_1_0 x0_1_1 x0_1_2 x0_1_3 x0_1_4 x0_2 x0_3_0 x0_3_1 k
theorem f_ex : ∃ g, g = f0 := ⟨_, rfl⟩
noncomputable def f := Classical.choose f_ex
theorem f_def : f = f0 := Classical.choose_spec f_ex
def m4 (x3 : BA) : St := { tmps := mkT 19 0 [(3, (.v (.string x3)))], hp := [], m := 0 }
noncomputable def X4 (k kp : KT) : St → Prop := atP cfg (pick none' []) [1, 1, 1] body (topK cfg Try.f20 k kp)
noncomputable def JJ (k kp : KT) : Nat → St → Prop := pick none' [(4, X4 k kp)]
noncomputable def LL (k kp : KT) : Nat → St → Prop := pick none' []
theorem j4_c (k kp : KT) (J L : Nat → St → Prop) (x3 : BA) : runC cfg 4 J L (pick none' []) [1, 1, 1] body (topK cfg Try.f20 k kp) (m4 x3) = j4 x3 (fun y0 => k (.v (.string y0)) []) := by kernel_rfl
theorem j4_ag (k kp : KT) : agPL cfg 4 (JJ k kp) (LL k kp) [1, 1, 1] body = agPR cfg 4 (pick none' []) [1, 1, 1] body (topK cfg Try.f20 k kp) := by kernel_rfl
theorem j4_raw (k kp : KT) (x3 : BA) : X4 k kp (m4 x3) = j4 x3 (fun y0 => k (.v (.string y0)) []) :=
  Eq.mp (by kernel_rfl) ((atP_run (j4_ag k kp) (m4 x3)).trans (j4_c k kp (JJ k kp) (LL k kp) x3))
theorem j4_eq (k kp : KT) (x3 : BA) : X4 k kp (m4 x3) = j4' x3 (fun y0 => k (.v (.string y0)) []) := by
  rw [j4_raw]; rfl
theorem c_c (k kp : KT) (J L : Nat → St → Prop) (x0_0_0_0 x0_0_0_1 : Int) (x0_0_1_0 x0_0_1_1 : LI) (x0_0_2 : Int) (x0_1_0 : Bool) (x0_1_1 : BA) (x0_1_2 : Zq4) (x0_1_3 : Zq6) (x0_1_4 : Zq0) (x0_2 : Bool) (x0_3_0 : Int) (x0_3_1 : Zq3) : runC cfg 1000001 J L none'' [] body (topK cfg Try.f20 k kp) (st0 Try.f20 [(.agg [(.v (.int .i64 x0_0_0_0)), (.v (.int .i64 x0_0_0_1)), (.fz Zy2 x0_0_1_0), (.fz Zy2 x0_0_1_1), (.v (.int .i64 x0_0_2)), (.v (.bool x0_1_0)), (.v (.string x0_1_1)), (.fz (Ty.pair Zy2 Zy2) x0_1_2), (.fz Zy0 x0_1_3), (.fz Zy1 x0_1_4), (.v (.bool x0_2)), (.v (.int .i64 x0_3_0)), (.fz Zy4 x0_3_1)])] []) = c (fun x3 => J 4 (m4 x3)) x0_0_0_0 x0_0_0_1 x0_0_1_0 x0_0_1_1 x0_0_2 x0_1_0 x0_1_1 x0_1_2 x0_1_3 x0_1_4 x0_2 x0_3_0 x0_3_1 (fun y0 => k (.v (.string y0)) []) := by kernel_rfl
theorem c_ag (k kp : KT) : agPL cfg 1000001 (JJ k kp) (LL k kp) [] body = agPR cfg 1000001 none'' [] body (topK cfg Try.f20 k kp) := by kernel_rfl
theorem body_is : Try.f20.body = some body := by kernel_rfl
theorem c_raw (k kp : KT) (x0_0_0_0 x0_0_0_1 : Int) (x0_0_1_0 x0_0_1_1 : LI) (x0_0_2 : Int) (x0_1_0 : Bool) (x0_1_1 : BA) (x0_1_2 : Zq4) (x0_1_3 : Zq6) (x0_1_4 : Zq0) (x0_2 : Bool) (x0_3_0 : Int) (x0_3_1 : Zq3) : funW cfg Try.f20 [(.agg [(.v (.int .i64 x0_0_0_0)), (.v (.int .i64 x0_0_0_1)), (.fz Zy2 x0_0_1_0), (.fz Zy2 x0_0_1_1), (.v (.int .i64 x0_0_2)), (.v (.bool x0_1_0)), (.v (.string x0_1_1)), (.fz (Ty.pair Zy2 Zy2) x0_1_2), (.fz Zy0 x0_1_3), (.fz Zy1 x0_1_4), (.v (.bool x0_2)), (.v (.int .i64 x0_3_0)), (.fz Zy4 x0_3_1)])] [] k kp = c (fun x3 => X4 k kp (m4 x3)) x0_0_0_0 x0_0_0_1 x0_0_1_0 x0_0_1_1 x0_0_2 x0_1_0 x0_1_1 x0_1_2 x0_1_3 x0_1_4 x0_2 x0_3_0 x0_3_1 (fun y0 => k (.v (.string y0)) []) :=
  Eq.mp (by kernel_rfl) ((funW_run (AG := none'') body_is (c_ag k kp) [(.agg [(.v (.int .i64 x0_0_0_0)), (.v (.int .i64 x0_0_0_1)), (.fz Zy2 x0_0_1_0), (.fz Zy2 x0_0_1_1), (.v (.int .i64 x0_0_2)), (.v (.bool x0_1_0)), (.v (.string x0_1_1)), (.fz (Ty.pair Zy2 Zy2) x0_1_2), (.fz Zy0 x0_1_3), (.fz Zy1 x0_1_4), (.v (.bool x0_2)), (.v (.int .i64 x0_3_0)), (.fz Zy4 x0_3_1)])] []).trans (c_c k kp (JJ k kp) (LL k kp) x0_0_0_0 x0_0_0_1 x0_0_1_0 x0_0_1_1 x0_0_2 x0_1_0 x0_1_1 x0_1_2 x0_1_3 x0_1_4 x0_2 x0_3_0 x0_3_1))
theorem f_eq (k kp : KT) (x0_0_0_0 x0_0_0_1 : Int) (x0_0_1_0 x0_0_1_1 : LI) (x0_0_2 : Int) (x0_1_0 : Bool) (x0_1_1 : BA) (x0_1_2 : Zq4) (x0_1_3 : Zq6) (x0_1_4 : Zq0) (x0_2 : Bool) (x0_3_0 : Int) (x0_3_1 : Zq3) : funW cfg Try.f20 [(.agg [(.v (.int .i64 x0_0_0_0)), (.v (.int .i64 x0_0_0_1)), (.fz Zy2 x0_0_1_0), (.fz Zy2 x0_0_1_1), (.v (.int .i64 x0_0_2)), (.v (.bool x0_1_0)), (.v (.string x0_1_1)), (.fz (Ty.pair Zy2 Zy2) x0_1_2), (.fz Zy0 x0_1_3), (.fz Zy1 x0_1_4), (.v (.bool x0_2)), (.v (.int .i64 x0_3_0)), (.fz Zy4 x0_3_1)])] [] k kp = f x0_0_0_0 x0_0_0_1 x0_0_1_0 x0_0_1_1 x0_0_2 x0_1_0 x0_1_1 x0_1_2 x0_1_3 x0_1_4 x0_2 x0_3_0 x0_3_1 (fun y0 => k (.v (.string y0)) []) := by
  rw [f_def, c_raw]; simp only [j4_eq]; first | done | rfl
noncomputable def ent0 : Entry := fun args blks k _ => match args, blks with
  | [d0], [] => aAgg 13 d0 fun l => aCons l fun d0_0 l => aCons l fun d0_1 l => aCons l fun d0_2 l => aCons l fun d0_3 l => aCons l fun d0_4 l => aCons l fun d0_5 l => aCons l fun d0_6 l => aCons l fun d0_7 l => aCons l fun d0_8 l => aCons l fun d0_9 l => aCons l fun d0_10 l => aCons l fun d0_11 l => aCons l fun d0_12 l => aNil l (aInt IntKind.i64 d0_0 fun x0_0_0_0 => aInt IntKind.i64 d0_1 fun x0_0_0_1 => aFz Zy2 d0_2 fun x0_0_1_0 => aFz Zy2 d0_3 fun x0_0_1_1 => aInt IntKind.i64 d0_4 fun x0_0_2 => aBool d0_5 fun x0_1_0 => aStr d0_6 fun x0_1_1 => aFz (Ty.pair Zy2 Zy2) d0_7 fun x0_1_2 => aFz Zy0 d0_8 fun x0_1_3 => aFz Zy1 d0_9 fun x0_1_4 => aBool d0_10 fun x0_2 => aInt IntKind.i64 d0_11 fun x0_3_0 => aFz Zy4 d0_12 fun x0_3_1 => f x0_0_0_0 x0_0_0_1 x0_0_1_0 x0_0_1_1 x0_0_2 x0_1_0 x0_1_1 x0_1_2 x0_1_3 x0_1_4 x0_2 x0_3_0 x0_3_1 (fun y0 => k (.v (.string y0)) []))
  | _, _ => False
noncomputable def ent : Entry := fun args blks k kp => ent0 (convB [.cells [none, none, some Zy2, some Zy2, none, none, none, some (Ty.pair Zy2 Zy2), some Zy0, some Zy1, none, none, some Zy4]] args) blks k kp
theorem ok : EntOk Try.prog 0 0 20 ent := by
  refine EntOk.convB (EntOk.of (funW_ok (cfg := cfg) (tyOk_of rfl rfl tyL_ok) (eqOk_of (P := Try.prog) rfl rfl (by kernel_rfl)) mixed_ok (tab_ok ?_) Try.func20 (by rfl) (by rfl)) ?_) _
  · intro p hp
    simp only [List.mem_cons, List.not_mem_nil, or_false] at hp
    rcases hp with rfl | rfl | rfl
    · exact N22.ok
    · exact N10.ok
    · exact N24.ok
  · intro args blks k kp h k' kp'
    match args, blks, h with
    | [d0], [], h =>
    dsimp only [ent0] at h
    have h9 := aAgg_elim h; clear h; obtain ⟨_, rfl, h⟩ := h9
    have h9 := aCons_elim h; clear h; obtain ⟨d0_0, _, rfl, h⟩ := h9
    have h9 := aCons_elim h; clear h; obtain ⟨d0_1, _, rfl, h⟩ := h9
    have h9 := aCons_elim h; clear h; obtain ⟨d0_2, _, rfl, h⟩ := h9
    have h9 := aCons_elim h; clear h; obtain ⟨d0_3, _, rfl, h⟩ := h9
    have h9 := aCons_elim h; clear h; obtain ⟨d0_4, _, rfl, h⟩ := h9
    have h9 := aCons_elim h; clear h; obtain ⟨d0_5, _, rfl, h⟩ := h9
    have h9 := aCons_elim h; clear h; obtain ⟨d0_6, _, rfl, h⟩ := h9
    have h9 := aCons_elim h; clear h; obtain ⟨d0_7, _, rfl, h⟩ := h9
    have h9 := aCons_elim h; clear h; obtain ⟨d0_8, _, rfl, h⟩ := h9
    have h9 := aCons_elim h; clear h; obtain ⟨d0_9, _, rfl, h⟩ := h9
    have h9 := aCons_elim h; clear h; obtain ⟨d0_10, _, rfl, h⟩ := h9
    have h9 := aCons_elim h; clear h; obtain ⟨d0_11, _, rfl, h⟩ := h9
    have h9 := aCons_elim h; clear h; obtain ⟨d0_12, _, rfl, h⟩ := h9
    have h9 := aNil_elim h; clear h; obtain ⟨rfl, h⟩ := h9
    have h9 := aInt_elim h; clear h; obtain ⟨x0_0_0_0, rfl, h⟩ := h9
    have h9 := aInt_elim h; clear h; obtain ⟨x0_0_0_1, rfl, h⟩ := h9
    have h9 := aFz_elim (t := Zy2) h; clear h; obtain ⟨x0_0_1_0, rfl, h⟩ := h9
    have h9 := aFz_elim (t := Zy2) h; clear h; obtain ⟨x0_0_1_1, rfl, h⟩ := h9
    have h9 := aInt_elim h; clear h; obtain ⟨x0_0_2, rfl, h⟩ := h9
    have h9 := aBool_elim h; clear h; obtain ⟨x0_1_0, rfl, h⟩ := h9
    have h9 := aStr_elim h; clear h; obtain ⟨x0_1_1, rfl, h⟩ := h9
    have h9 := aFz_elim (t := (Ty.pair Zy2 Zy2)) h; clear h; obtain ⟨x0_1_2, rfl, h⟩ := h9
    have h9 := aFz_elim (t := Zy0) h; clear h; obtain ⟨x0_1_3, rfl, h⟩ := h9
    have h9 := aFz_elim (t := Zy1) h; clear h; obtain ⟨x0_1_4, rfl, h⟩ := h9
    have h9 := aBool_elim h; clear h; obtain ⟨x0_2, rfl, h⟩ := h9
    have h9 := aInt_elim h; clear h; obtain ⟨x0_3_0, rfl, h⟩ := h9
    have h9 := aFz_elim (t := Zy4) h; clear h; obtain ⟨x0_3_1, rfl, h⟩ := h9
    exact (f_eq k' kp' x0_0_0_0 x0_0_0_1 x0_0_1_0 x0_0_1_1 x0_0_2 x0_1_0 x0_1_1 x0_1_2 x0_1_3 x0_1_4 x0_2 x0_3_0 x0_3_1).symm
end N20
end Go.Proofs.Yh

namespace Go.Proofs.Yh
open Go Go.Aw Go.Proofs
set_option maxRecDepth 100000
set_option maxHeartbeats 4000000
namespace N21
noncomputable def cfg : Cfg := { P := Try.prog, ty := tys, E := tab [(23, N23.ent), (11, N11.ent), (25, N25.ent)], atSeq := tab [], atLoop := tab [], outs := [], eqT := tab [], bT := tab [], fzB := [1] }
noncomputable def body : Code := bodyOf Try.f21
def c (x0_0_0_0 x0_0_0_1 : Int) (x0_0_1_0 x0_0_1_1 : LI) (x0_0_2 : Int) (x0_1_0 : Bool) (x0_1_1 : BA) (x0_1_2 : Zq4) (x0_1_3 : Zq6) (x0_1_4 : Zq0) (x0_2 : Bool) (x0_3_0 : Int) (x0_3_1 : Zq3) (k : BA → Prop) : Prop :=
  (N23.f x0_0_0_0 x0_0_0_1 x0_0_1_0 x0_0_1_1 x0_0_2 (fun (y0_0 : BA) => (N11.f x0_1_0 x0_1_1 x0_1_2 x0_1_3 x0_1_4 (fun (y0_1 : BA) => (((y0_0).size + (y0_1).size ≤ 9223372036854775807) ∧ (br x0_2 (N25.f x0_3_0 x0_3_1 (fun (y0_2 : BA) => ((((y0_0 ++ y0_1)).size + (y0_2).size ≤ 9223372036854775807) ∧ (k ((y0_0 ++ y0_1) ++ y0_2))))) (k (y0_0 ++ y0_1))))))))
def f0 (x0_0_0_0 x0_0_0_1 : Int) (x0_0_1_0 x0_0_1_1 : LI) (x0_0_2 : Int) (x0_1_0 : Bool) (x0_1_1 : BA) (x0_1_2 : Zq4) (x0_1_3 : Zq6) (x0_1_4 : Zq0) (x0_2 : Bool) (x0_3_0 : Int) (x0_3_1 : Zq3) (k : BA → Prop) : Prop := c x0_0_0_0 x0_0_0_1 x0_0_1_0 x0_0_1_1 x0_0_2 x0_1_0 x0_1_1 x0_1_2 x0_1_3 x0_1_4 x0_2 x0_3_0 x0_3_1 k
theorem f_ex : ∃ g, g = f0 := ⟨_, rfl⟩
noncomputable def f := Classical.choose f_ex
theorem f_def : f = f0 := Classical.choose_spec f_ex
noncomputable def JJ (k kp : KT) : Nat → St → Prop := pick none' []
noncomputable def LL (k kp : KT) : Nat → St → Prop := pick none' []
theorem c_c (k kp : KT) (J L : Nat → St → Prop) (x0_0_0_0 x0_0_0_1 : Int) (x0_0_1_0 x0_0_1_1 : LI) (x0_0_2 : Int) (x0_1_0 : Bool) (x0_1_1 : BA) (x0_1_2 : Zq4) (x0_1_3 : Zq6) (x0_1_4 : Zq0) (x0_2 : Bool) (x0_3_0 : Int) (x0_3_1 : Zq3) : runC cfg 1000001 J L none'' [] body (topK cfg Try.f21 k kp) (st0 Try.f21 [(.agg [(.v (.int .i64 x0_0_0_0)), (.v (.int .i64 x0_0_0_1)), (.fz Zy2 x0_0_1_0), (.fz Zy2 x0_0_1_1), (.v (.int .i64 x0_0_2)), (.v (.bool x0_1_0)), (.v (.string x0_1_1)), (.fz (Ty.pair Zy2 Zy2) x0_1_2), (.fz Zy0 x0_1_3), (.fz Zy1 x0_1_4), (.v (.bool x0_2)), (.v (.int .i64 x0_3_0)), (.fz Zy4 x0_3_1)])] []) = c x0_0_0_0 x0_0_0_1 x0_0_1_0 x0_0_1_1 x0_0_2 x0_1_0 x0_1_1 x0_1_2 x0_1_3 x0_1_4 x0_2 x0_3_0 x0_3_1 (fun y0 => k (.v (.string y0)) []) := by kernel_rfl
theorem c_ag (k kp : KT) : agPL cfg 1000001 (JJ k kp) (LL k kp) [] body = agPR cfg 1000001 none'' [] body (topK cfg Try.f21 k kp) := by kernel_rfl
theorem body_is : Try.f21.body = some body := by kernel_rfl
theorem c_raw (k kp : KT) (x0_0_0_0 x0_0_0_1 : Int) (x0_0_1_0 x0_0_1_1 : LI) (x0_0_2 : Int) (x0_1_0 : Bool) (x0_1_1 : BA) (x0_1_2 : Zq4) (x0_1_3 : Zq6) (x0_1_4 : Zq0) (x0_2 : Bool) (x0_3_0 : Int) (x0_3_1 : Zq3) : funW cfg Try.f21 [(.agg [(.v (.int .i64 x0_0_0_0)), (.v (.int .i64 x0_0_0_1)), (.fz Zy2 x0_0_1_0), (.fz Zy2 x0_0_1_1), (.v (.int .i64 x0_0_2)), (.v (.bool x0_1_0)), (.v (.string x0_1_1)), (.fz (Ty.pair Zy2 Zy2) x0_1_2), (.fz Zy0 x0_1_3), (.fz Zy1 x0_1_4), (.v (.bool x0_2)), (.v (.int .i64 x0_3_0)), (.fz Zy4 x0_3_1)])] [] k kp = c x0_0_0_0 x0_0_0_1 x0_0_1_0 x0_0_1_1 x0_0_2 x0_1_0 x0_1_1 x0_1_2 x0_1_3 x0_1_4 x0_2 x0_3_0 x0_3_1 (fun y0 => k (.v (.string y0)) []) :=
  Eq.mp (by kernel_rfl) ((funW_run (AG := none'') body_is (c_ag k kp) [(.agg [(.v (.int .i64 x0_0_0_0)), (.v (.int .i64 x0_0_0_1)), (.fz Zy2 x0_0_1_0), (.fz Zy2 x0_0_1_1), (.v (.int .i64 x0_0_2)), (.v (.bool x0_1_0)), (.v (.string x0_1_1)), (.fz (Ty.pair Zy2 Zy2) x0_1_2), (.fz Zy0 x0_1_3), (.fz Zy1 x0_1_4), (.v (.bool x0_2)), (.v (.int .i64 x0_3_0)), (.fz Zy4 x0_3_1)])] []).trans (c_c k kp (JJ k kp) (LL k kp) x0_0_0_0 x0_0_0_1 x0_0_1_0 x0_0_1_1 x0_0_2 x0_1_0 x0_1_1 x0_1_2 x0_1_3 x0_1_4 x0_2 x0_3_0 x0_3_1))
theorem f_eq (k kp : KT) (x0_0_0_0 x0_0_0_1 : Int) (x0_0_1_0 x0_0_1_1 : LI) (x0_0_2 : Int) (x0_1_0 : Bool) (x0_1_1 : BA) (x0_1_2 : Zq4) (x0_1_3 : Zq6) (x0_1_4 : Zq0) (x0_2 : Bool) (x0_3_0 : Int) (x0_3_1 : Zq3) : funW cfg Try.f21 [(.agg [(.v (.int .i64 x0_0_0_0)), (.v (.int .i64 x0_0_0_1)), (.fz Zy2 x0_0_1_0), (.fz Zy2 x0_0_1_1), (.v (.int .i64 x0_0_2)), (.v (.bool x0_1_0)), (.v (.string x0_1_1)), (.fz (Ty.pair Zy2 Zy2) x0_1_2), (.fz Zy0 x0_1_3), (.fz Zy1 x0_1_4), (.v (.bool x0_2)), (.v (.int .i64 x0_3_0)), (.fz Zy4 x0_3_1)])] [] k kp = f x0_0_0_0 x0_0_0_1 x0_0_1_0 x0_0_1_1 x0_0_2 x0_1_0 x0_1_1 x0_1_2 x0_1_3 x0_1_4 x0_2 x0_3_0 x0_3_1 (fun y0 => k (.v (.string y0)) []) := by
  rw [f_def, c_raw]; rfl
noncomputable def ent0 : Entry := fun args blks k _ => match args, blks with
  | [d0], [] => aAgg 13 d0 fun l => aCons l fun d0_0 l => aCons l fun d0_1 l => aCons l fun d0_2 l => aCons l fun d0_3 l => aCons l fun d0_4 l => aCons l fun d0_5 l => aCons l fun d0_6 l => aCons l fun d0_7 l => aCons l fun d0_8 l => aCons l fun d0_9 l => aCons l fun d0_10 l => aCons l fun d0_11 l => aCons l fun d0_12 l => aNil l (aInt IntKind.i64 d0_0 fun x0_0_0_0 => aInt IntKind.i64 d0_1 fun x0_0_0_1 => aFz Zy2 d0_2 fun x0_0_1_0 => aFz Zy2 d0_3 fun x0_0_1_1 => aInt IntKind.i64 d0_4 fun x0_0_2 => aBool d0_5 fun x0_1_0 => aStr d0_6 fun x0_1_1 => aFz (Ty.pair Zy2 Zy2) d0_7 fun x0_1_2 => aFz Zy0 d0_8 fun x0_1_3 => aFz Zy1 d0_9 fun x0_1_4 => aBool d0_10 fun x0_2 => aInt IntKind.i64 d0_11 fun x0_3_0 => aFz Zy4 d0_12 fun x0_3_1 => f x0_0_0_0 x0_0_0_1 x0_0_1_0 x0_0_1_1 x0_0_2 x0_1_0 x0_1_1 x0_1_2 x0_1_3 x0_1_4 x0_2 x0_3_0 x0_3_1 (fun y0 => k (.v (.string y0)) []))
  | _, _ => False
noncomputable def ent : Entry := fun args blks k kp => ent0 (convB [.cells [none, none, some Zy2, some Zy2, none, none, none, some (Ty.pair Zy2 Zy2), some Zy0, some Zy1, none, none, some Zy4]] args) blks k kp
theorem ok : EntOk Try.prog 0 0 21 ent := by
  refine EntOk.convB (EntOk.of (funW_ok (cfg := cfg) (tyOk_of rfl rfl tyL_ok) (eqOk_of (P := Try.prog) rfl rfl (by kernel_rfl)) mixed_ok (tab_ok ?_) Try.func21 (by rfl) (by rfl)) ?_) _
  · intro p hp
    simp only [List.mem_cons, List.not_mem_nil, or_false] at hp
    rcases hp with rfl | rfl | rfl
    · exact N23.ok
    · exact N11.ok
    · exact N25.ok
  · intro args blks k kp h k' kp'
    match args, blks, h with
    | [d0], [], h =>
    dsimp only [ent0] at h
    have h9 := aAgg_elim h; clear h; obtain ⟨_, rfl, h⟩ := h9
    have h9 := aCons_elim h; clear h; obtain ⟨d0_0, _, rfl, h⟩ := h9
    have h9 := aCons_elim h; clear h; obtain ⟨d0_1, _, rfl, h⟩ := h9
    have h9 := aCons_elim h; clear h; obtain ⟨d0_2, _, rfl, h⟩ := h9
    have h9 := aCons_elim h; clear h; obtain ⟨d0_3, _, rfl, h⟩ := h9
    have h9 := aCons_elim h; clear h; obtain ⟨d0_4, _, rfl, h⟩ := h9
    have h9 := aCons_elim h; clear h; obtain ⟨d0_5, _, rfl, h⟩ := h9
    have h9 := aCons_elim h; clear h; obtain ⟨d0_6, _, rfl, h⟩ := h9
    have h9 := aCons_elim h; clear h; obtain ⟨d0_7, _, rfl, h⟩ := h9
    have h9 := aCons_elim h; clear h; obtain ⟨d0_8, _, rfl, h⟩ := h9
    have h9 := aCons_elim h; clear h; obtain ⟨d0_9, _, rfl, h⟩ := h9
    have h9 := aCons_elim h; clear h; obtain ⟨d0_10, _, rfl, h⟩ := h9
    have h9 := aCons_elim h; clear h; obtain ⟨d0_11, _, rfl, h⟩ := h9
    have h9 := aCons_elim h; clear h; obtain ⟨d0_12, _, rfl, h⟩ := h9
    have h9 := aNil_elim h; clear h; obtain ⟨rfl, h⟩ := h9
    have h9 := aInt_elim h; clear h; obtain ⟨x0_0_0_0, rfl, h⟩ := h9
    have h9 := aInt_elim h; clear h; obtain ⟨x0_0_0_1, rfl, h⟩ := h9
    have h9 := aFz_elim (t := Zy2) h; clear h; obtain ⟨x0_0_1_0, rfl, h⟩ := h9
    have h9 := aFz_elim (t := Zy2) h; clear h; obtain ⟨x0_0_1_1, rfl, h⟩ := h9
    have h9 := aInt_elim h; clear h; obtain ⟨x0_0_2, rfl, h⟩ := h9
    have h9 := aBool_elim h; clear h; obtain ⟨x0_1_0, rfl, h⟩ := h9
    have h9 := aStr_elim h; clear h; obtain ⟨x0_1_1, rfl, h⟩ := h9
    have h9 := aFz_elim (t := (Ty.pair Zy2 Zy2)) h; clear h; obtain ⟨x0_1_2, rfl, h⟩ := h9
    have h9 := aFz_elim (t := Zy0) h; clear h; obtain ⟨x0_1_3, rfl, h⟩ := h9
    have h9 := aFz_elim (t := Zy1) h; clear h; obtain ⟨x0_1_4, rfl, h⟩ := h9
    have h9 := aBool_elim h; clear h; obtain ⟨x0_2, rfl, h⟩ := h9
    have h9 := aInt_elim h; clear h; obtain ⟨x0_3_0, rfl, h⟩ := h9
    have h9 := aFz_elim (t := Zy4) h; clear h; obtain ⟨x0_3_1, rfl, h⟩ := h9
    exact (f_eq k' kp' x0_0_0_0 x0_0_0_1 x0_0_1_0 x0_0_1_1 x0_0_2 x0_1_0 x0_1_1 x0_1_2 x0_1_3 x0_1_4 x0_2 x0_3_0 x0_3_1).symm
end N21
end Go.Proofs.Yh

namespace Go.Proofs.Yh
open Go Go.Aw Go.Proofs Go.RowKit
def unitS (r0 r1 : Int) (c0 c1 : List Int) (slots : Int) (f : Sh.Fun) (has : Bool) (n : Int) (l : List SegT) : ByteArray :=
  bif has then targetS r0 r1 c0 c1 slots ++ Sh.funcS f ++ allocS n l else targetS r0 r1 c0 c1 slots ++ Sh.funcS f
theorem targetS_size (r0 r1 : Int) (c0 c1 : List Int) (slots : Int) (l0 : c0.length ≤ 10000) (l1 : c1.length ≤ 10000) : (targetS r0 r1 c0 c1 slots).size ≤ 1000000 := by
  rw [target_eq]
  have z0 := putB_size r0
  have z1 := putB_size r1
  have z2 := putB_size slots
  have a1 : (ByteArray.mk #[116, 97, 114, 103, 101, 116, 32, 103, 32]).size = 9 := rfl
  have a2 : (ByteArray.mk #[32, 120, 32]).size = 3 := rfl
  have a3 : (ByteArray.mk #[32, 115, 108, 111, 116, 115, 32]).size = 7 := rfl
  have a4 : (ByteArray.mk #[32, 99, 108, 111, 98, 98, 101, 114]).size = 8 := rfl
  have a5 : (ByteArray.mk #[59, 10]).size = 2 := rfl
  have hbz : (baseT r0 r1 slots).size ≤ 100 := by unfold baseT; simp only [ByteArray.size_append]; omega
  have h1 := catB_size ((locs 0 c0 ++ locs 1 c1).map nmF)
  have hz := szL_le (xs := (locs 0 c0 ++ locs 1 c1).map nmF) (n := 26) (fun x hx => by obtain ⟨s, _, rfl⟩ := List.mem_map.1 hx; have := nmF_size s; omega)
  rw [List.length_map, show (locs 0 c0 ++ locs 1 c1).length = c0.length + c1.length by simp [locs]] at hz
  split
  · simp only [ByteArray.size_append]; omega
  · simp only [ByteArray.size_append]; omega
theorem allocS_size (n : Int) (l : List SegT) (hl : l.length ≤ 10000) : (allocS n l).size ≤ 9000000000 := by
  unfold allocS
  have z0 := putB_size n
  have e1 : (ByteArray.mk #[97, 108, 108, 111, 99, 32, 115, 108, 111, 116, 115, 32]).size = 12 := rfl
  have e2 : (ByteArray.mk #[32, 123, 10]).size = 3 := rfl
  have e3 : (ByteArray.mk #[125, 10]).size = 2 := rfl
  obtain ⟨g1, g2⟩ := rowsOf_len Prod.fst l
  have := cat_rows_size (rowsOf Prod.fst l) (by omega) (fun r hr => by have := g2 r hr; omega)
  simp only [ByteArray.size_append]; omega
structure UOk (r0 r1 : Int) (c0 c1 : List Int) (slots : Int) (f : Sh.Fun) (n : Int) (l : List SegT) : Prop where
  h0 : in64 r0
  h1 : in64 r1
  hs : in64 slots
  l0 : c0.length ≤ 10000
  l1 : c1.length ≤ 10000
  i0 : ∀ x ∈ c0, in64 x
  i1 : ∀ x ∈ c1, in64 x
  fo : Sh.funOk f
  fz : Sh.funZ f ≤ 1000000000
  hn : in64 n
  hl : l.length ≤ 10000
  lo : ∀ s ∈ l, segOk s
theorem unit_s {r0 r1 : Int} {c0 c1 : List Int} {slots : Int} {f : Sh.Fun} {n : Int} {l : List SegT} (U : UOk r0 r1 c0 c1 slots f n l) (has : Bool) (k : ByteArray → Prop) (h : k (unitS r0 r1 c0 c1 slots f has n l)) : N20.f r0 r1 c0 c1 slots f.1 f.2.1 f.2.2.1 f.2.2.2.1 f.2.2.2.2 has n l k := by
  rw [N20.f_def]
  unfold N20.f0 N20.c N20.j4' N20.j4
  have a1 := targetS_size r0 r1 c0 c1 slots U.l0 U.l1
  have a2 := Sh.funcS_size f
  have a3 := allocS_size n l U.hl
  have a4 := U.fz
  refine target_s _ _ _ _ _ U.h0 U.h1 U.hs U.l0 U.l1 U.i0 U.i1 _ (Sh.func_s f U.fo U.fz _ ⟨by omega, br_of (fun hb => ?_) (fun hb => ?_)⟩)
  · refine alloc_s n l U.hn U.hl U.lo _ ⟨by rw [ByteArray.size_append]; omega, ?_⟩
    unfold unitS at h; rw [hb] at h; exact h
  · unfold unitS at h; rw [hb] at h; exact h
theorem unitr_s {r0 r1 : Int} {c0 c1 : List Int} {slots : Int} {f : Sh.Fun} {n : Int} {l : List SegT} (U : UOk r0 r1 c0 c1 slots f n l) (has : Bool) (k : ByteArray → Prop) (h : k (unitS r0 r1 c0 c1 slots f has n l)) : N21.f r0 r1 c0 c1 slots f.1 f.2.1 f.2.2.1 f.2.2.2.1 f.2.2.2.2 has n l k := by
  rw [N21.f_def]
  unfold N21.f0 N21.c
  have a1 := targetS_size r0 r1 c0 c1 slots U.l0 U.l1
  have a2 := Sh.funcS_size f
  have a3 := allocS_size n l U.hl
  have a4 := U.fz
  refine targetr_s _ _ _ _ _ U.h0 U.h1 U.hs U.l0 U.l1 U.i0 U.i1 _ (Sh.funcr_s f U.fo U.fz _ ⟨by omega, br_of (fun hb => ?_) (fun hb => ?_)⟩)
  · refine allocr_s n l U.hn U.hl U.lo _ ⟨by rw [ByteArray.size_append]; omega, ?_⟩
    unfold unitS at h; rw [hb] at h; exact h
  · unfold unitS at h; rw [hb] at h; exact h
abbrev TgT : Ty := Ty.pair (Ty.pair Sh.i64T Sh.i64T) (Ty.pair (Ty.pair (Ty.list Sh.i64T) (Ty.list Sh.i64T)) Sh.i64T)
abbrev AlT : Ty := Ty.pair Sh.i64T (Ty.list segTy)
abbrev UnT : Ty := Ty.pair TgT (Ty.pair Sh.FuT (Ty.pair Ty.bool AlT))
theorem seg_wf (s : SegT) (w : Ty.Wf segTy s) : segOk s := ⟨wf64 w.1, wf64 w.2.1, wf64 w.2.2.1, wf64 w.2.2.2.1, wf64 w.2.2.2.2.1, wf64 w.2.2.2.2.2⟩
theorem unit_fz (u : UnT.den) (hb : Ty.bulk UnT u ≤ 1048576) : Sh.funZ u.2.1 ≤ 1000000000 := by
  have e : Ty.bulk UnT u = Ty.bulk TgT u.1 + (Ty.bulk Sh.FuT u.2.1 + Ty.bulk (Ty.pair Ty.bool AlT) u.2.2) := rfl
  have := Sh.bulk_fu u.2.1
  omega
end Go.Proofs.Yh

namespace Go.Proofs.Yh
open Go Go.Aw Go.Proofs
set_option maxRecDepth 100000
set_option maxHeartbeats 4000000
namespace N7
noncomputable def cfg : Cfg := { P := Try.prog, ty := tys, E := tab [(8, N8.ent), (19, N19.ent), (22, N22.ent), (11, N11.ent), (24, N24.ent), (26, N26.ent), (20, N20.ent)], atSeq := tab [(2000002, ⟨[(1, .keep), (2, .keep), (35, .keep)]⟩), (3, ⟨[(1, .keep), (2, .keep)]⟩), (6, ⟨[(1, .keep), (2, .keep), (5, .keep)]⟩), (2000007, ⟨[(1, .keep), (2, .keep), (5, .keep), (60, .keep)]⟩), (16, ⟨[(2, .keep), (5, .keep)]⟩), (12, ⟨[(2, .keep), (5, .keep), (6, .keep), (7, .keep), (8, .keep), (9, .keep)]⟩), (14, ⟨[(2, .keep), (5, .keep), (8, .keep)]⟩)], atLoop := tab [(11, ⟨[(2, .keep), (5, .keep), (6, .keep), (7, .keep), (8, .keep), (9, .keep)]⟩)], outs := [], eqT := tab [], bT := tab [], fzB := [2] }
noncomputable def body : Code := bodyOf Try.f7
def j2000002 (j3 : Int → Int → Int → LI → LI → Int → Bool → BA → Zq4 → Zq6 → Zq0 → Bool → Int → Zq3 → Prop) (x1 x2_0 x2_1 : Int) (x2_2 x2_3 : LI) (x2_4 : Int) (x2_5 : Bool) (x2_6 : BA) (x2_7 : Zq4) (x2_8 : Zq6) (x2_9 : Zq0) (x2_10 : Bool) (x2_11 : Int) (x2_12 : Zq3) (x35 : Bool) (k : Bool → Prop) : Prop :=
  (br x35 (N19.f (fun (y0_1 : Bool) => (k y0_1))) (j3 x1 x2_0 x2_1 x2_2 x2_3 x2_4 x2_5 x2_6 x2_7 x2_8 x2_9 x2_10 x2_11 x2_12))
def j3 (j6 : Int → Int → Int → LI → LI → Int → Bool → BA → Zq4 → Zq6 → Zq0 → Bool → Int → Zq3 → BA → Prop) (x1 x2_0 x2_1 : Int) (x2_2 x2_3 : LI) (x2_4 : Int) (x2_5 : Bool) (x2_6 : BA) (x2_7 : Zq4) (x2_8 : Zq6) (x2_9 : Zq0) (x2_10 : Bool) (x2_11 : Int) (x2_12 : Zq3) (k : Bool → Prop) : Prop :=
  (N22.f x2_0 x2_1 x2_2 x2_3 x2_4 (fun (y0_2 : BA) => (N11.f x2_5 x2_6 x2_7 x2_8 x2_9 (fun (y0_3 : BA) => (((y0_2).size + (y0_3).size ≤ 9223372036854775807) ∧ (br x2_10 (N24.f x2_11 x2_12 (fun (y0_4 : BA) => ((((y0_2 ++ y0_3)).size + (y0_4).size ≤ 9223372036854775807) ∧ (j6 x1 x2_0 x2_1 x2_2 x2_3 x2_4 x2_5 x2_6 x2_7 x2_8 x2_9 x2_10 x2_11 x2_12 ((y0_2 ++ y0_3) ++ y0_4))))) (j6 x1 x2_0 x2_1 x2_2 x2_3 x2_4 x2_5 x2_6 x2_7 x2_8 x2_9 x2_10 x2_11 x2_12 (y0_2 ++ y0_3))))))))
def j6 (j2000007 : Int → Int → Int → LI → LI → Int → Bool → BA → Zq4 → Zq6 → Zq0 → Bool → Int → Zq3 → BA → Bool → Prop) (x1 x2_0 x2_1 : Int) (x2_2 x2_3 : LI) (x2_4 : Int) (x2_5 : Bool) (x2_6 : BA) (x2_7 : Zq4) (x2_8 : Zq6) (x2_9 : Zq0) (x2_10 : Bool) (x2_11 : Int) (x2_12 : Zq3) (x5 : BA) (k : Bool → Prop) : Prop :=
  (br (decide (x1 ≥ (0 : Int))) (j2000007 x1 x2_0 x2_1 x2_2 x2_3 x2_4 x2_5 x2_6 x2_7 x2_8 x2_9 x2_10 x2_11 x2_12 x5 (decide (x1 < ((((x2_12).length : Nat) : Int))))) (j2000007 x1 x2_0 x2_1 x2_2 x2_3 x2_4 x2_5 x2_6 x2_7 x2_8 x2_9 x2_10 x2_11 x2_12 x5 false))
def j2000007 (l11 : Int → Int → LI → LI → Int → Bool → BA → Zq4 → Zq6 → Zq0 → Bool → Int → Zq3 → BA → BA → BA → Bool → Int → Prop) (j16 : Int → Int → LI → LI → Int → Bool → BA → Zq4 → Zq6 → Zq0 → Bool → Int → Zq3 → BA → Prop) (x1 x2_0 x2_1 : Int) (x2_2 x2_3 : LI) (x2_4 : Int) (x2_5 : Bool) (x2_6 : BA) (x2_7 : Zq4) (x2_8 : Zq6) (x2_9 : Zq0) (x2_10 : Bool) (x2_11 : Int) (x2_12 : Zq3) (x5 : BA) (x60 : Bool) (k : Bool → Prop) : Prop :=
  (br x60 ((inB 0 x1 ((((x2_12).length : Nat) : Int) - 1)) ∧ (N26.f (x2_12.getD (Int.toNat x1) ((0, (0, (0, (0, (0, 0))))))).1 (x2_12.getD (Int.toNat x1) ((0, (0, (0, (0, (0, 0))))))).2.1 (x2_12.getD (Int.toNat x1) ((0, (0, (0, (0, (0, 0))))))).2.2.1 (x2_12.getD (Int.toNat x1) ((0, (0, (0, (0, (0, 0))))))).2.2.2.1 (x2_12.getD (Int.toNat x1) ((0, (0, (0, (0, (0, 0))))))).2.2.2.2.1 (x2_12.getD (Int.toNat x1) ((0, (0, (0, (0, (0, 0))))))).2.2.2.2.2 (fun (y0_5 : BA) => (N24.f x2_11 x2_12 (fun (y0_6 : BA) => (l11 x2_0 x2_1 x2_2 x2_3 x2_4 x2_5 x2_6 x2_7 x2_8 x2_9 x2_10 x2_11 x2_12 x5 y0_5 y0_6 false (0 : Int))))))) (j16 x2_0 x2_1 x2_2 x2_3 x2_4 x2_5 x2_6 x2_7 x2_8 x2_9 x2_10 x2_11 x2_12 x5))
def l11 (j12 : Int → Int → LI → LI → Int → Bool → BA → Zq4 → Zq6 → Zq0 → Bool → Int → Zq3 → BA → BA → BA → Bool → Int → Prop) (j14 : Int → Int → LI → LI → Int → Bool → BA → Zq4 → Zq6 → Zq0 → Bool → Int → Zq3 → BA → Bool → Prop) (x2_0 x2_1 : Int) (x2_2 x2_3 : LI) (x2_4 : Int) (x2_5 : Bool) (x2_6 : BA) (x2_7 : Zq4) (x2_8 : Zq6) (x2_9 : Zq0) (x2_10 : Bool) (x2_11 : Int) (x2_12 : Zq3) (x5 x6 x7 : BA) (x8 : Bool) (x9 : Int) (k : Bool → Prop) : Prop :=
  (br (decide ((IntKind.i64.wrap (x9 + ((((x6).size : Nat) : Int)))) ≤ ((((x7).size : Nat) : Int)))) (br x8 (j12 x2_0 x2_1 x2_2 x2_3 x2_4 x2_5 x2_6 x2_7 x2_8 x2_9 x2_10 x2_11 x2_12 x5 x6 x7 true x9) ((inB x9 (IntKind.i64.wrap (x9 + ((((x6).size : Nat) : Int)))) (((x7).size : Nat) : Int)) ∧ (j12 x2_0 x2_1 x2_2 x2_3 x2_4 x2_5 x2_6 x2_7 x2_8 x2_9 x2_10 x2_11 x2_12 x5 x6 x7 (beqS (ByteArray.extract x7 (Int.toNat x9) (Int.toNat (IntKind.i64.wrap (x9 + ((((x6).size : Nat) : Int)))))) x6) x9))) (j14 x2_0 x2_1 x2_2 x2_3 x2_4 x2_5 x2_6 x2_7 x2_8 x2_9 x2_10 x2_11 x2_12 x5 x8))
def j16 (x2_0 x2_1 : Int) (x2_2 x2_3 : LI) (x2_4 : Int) (x2_5 : Bool) (x2_6 : BA) (x2_7 : Zq4) (x2_8 : Zq6) (x2_9 : Zq0) (x2_10 : Bool) (x2_11 : Int) (x2_12 : Zq3) (x5 : BA) (k : Bool → Prop) : Prop :=
  (N20.f x2_0 x2_1 x2_2 x2_3 x2_4 x2_5 x2_6 x2_7 x2_8 x2_9 x2_10 x2_11 x2_12 (fun (y0_7 : BA) => (br (beqS y0_7 x5) (N19.f (fun (y0_8 : Bool) => (k y0_8))) (k false))))
def j12 (ag11 : Bool → Int → Prop) (x2_0 x2_1 : Int) (x2_2 x2_3 : LI) (x2_4 : Int) (x2_5 : Bool) (x2_6 : BA) (x2_7 : Zq4) (x2_8 : Zq6) (x2_9 : Zq0) (x2_10 : Bool) (x2_11 : Int) (x2_12 : Zq3) (x5 x6 x7 : BA) (x8 : Bool) (x9 : Int) (k : Bool → Prop) : Prop :=
  (ag11 x8 (IntKind.i64.wrap (x9 + (1 : Int))))
def j14 (j16 : Int → Int → LI → LI → Int → Bool → BA → Zq4 → Zq6 → Zq0 → Bool → Int → Zq3 → BA → Prop) (x2_0 x2_1 : Int) (x2_2 x2_3 : LI) (x2_4 : Int) (x2_5 : Bool) (x2_6 : BA) (x2_7 : Zq4) (x2_8 : Zq6) (x2_9 : Zq0) (x2_10 : Bool) (x2_11 : Int) (x2_12 : Zq3) (x5 : BA) (x8 : Bool) (k : Bool → Prop) : Prop :=
  (br (!x8) (k false) (j16 x2_0 x2_1 x2_2 x2_3 x2_4 x2_5 x2_6 x2_7 x2_8 x2_9 x2_10 x2_11 x2_12 x5))
def c (j2000002 : Int → Int → Int → LI → LI → Int → Bool → BA → Zq4 → Zq6 → Zq0 → Bool → Int → Zq3 → Bool → Prop) (x0_0_0_0 x0_0_0_1 : Int) (x0_0_1_0 x0_0_1_1 : LI) (x0_0_2 : Int) (x0_1_0 : Bool) (x0_1_1 : BA) (x0_1_2 : Zq4) (x0_1_3 : Zq6) (x0_1_4 : Zq0) (x0_2 : Bool) (x0_3_0 : Int) (x0_3_1 : Zq3) (x1 : Int) (k : Bool → Prop) : Prop :=
  (N8.f x0_1_0 x0_1_1 x0_1_2 x0_1_3 x0_1_4 (fun (y0_0 : Bool) => (br y0_0 (j2000002 x1 x0_0_0_0 x0_0_0_1 x0_0_1_0 x0_0_1_1 x0_0_2 x0_1_0 x0_1_1 x0_1_2 x0_1_3 x0_1_4 x0_2 x0_3_0 x0_3_1 true) (br (decide (((((x0_3_1).length : Nat) : Int)) > (200 : Int))) (j2000002 x1 x0_0_0_0 x0_0_0_1 x0_0_1_0 x0_0_1_1 x0_0_2 x0_1_0 x0_1_1 x0_1_2 x0_1_3 x0_1_4 x0_2 x0_3_0 x0_3_1 true) (br (decide (((((x0_0_1_0).length : Nat) : Int)) > (60 : Int))) (j2000002 x1 x0_0_0_0 x0_0_0_1 x0_0_1_0 x0_0_1_1 x0_0_2 x0_1_0 x0_1_1 x0_1_2 x0_1_3 x0_1_4 x0_2 x0_3_0 x0_3_1 true) (j2000002 x1 x0_0_0_0 x0_0_0_1 x0_0_1_0 x0_0_1_1 x0_0_2 x0_1_0 x0_1_1 x0_1_2 x0_1_3 x0_1_4 x0_2 x0_3_0 x0_3_1 (decide (((((x0_0_1_1).length : Nat) : Int)) > (60 : Int)))))))))
def j16' (x2_0 x2_1 : Int) (x2_2 x2_3 : LI) (x2_4 : Int) (x2_5 : Bool) (x2_6 : BA) (x2_7 : Zq4) (x2_8 : Zq6) (x2_9 : Zq0) (x2_10 : Bool) (x2_11 : Int) (x2_12 : Zq3) (x5 : BA) (k : Bool → Prop) : Prop := j16 x2_0 x2_1 x2_2 x2_3 x2_4 x2_5 x2_6 x2_7 x2_8 x2_9 x2_10 x2_11 x2_12 x5 k
def j12' (ag11 : Bool → Int → Prop) (x2_0 x2_1 : Int) (x2_2 x2_3 : LI) (x2_4 : Int) (x2_5 : Bool) (x2_6 : BA) (x2_7 : Zq4) (x2_8 : Zq6) (x2_9 : Zq0) (x2_10 : Bool) (x2_11 : Int) (x2_12 : Zq3) (x5 x6 x7 : BA) (x8 : Bool) (x9 : Int) (k : Bool → Prop) : Prop := j12 ag11 x2_0 x2_1 x2_2 x2_3 x2_4 x2_5 x2_6 x2_7 x2_8 x2_9 x2_10 x2_11 x2_12 x5 x6 x7 x8 x9 k
def j14' (x2_0 x2_1 : Int) (x2_2 x2_3 : LI) (x2_4 : Int) (x2_5 : Bool) (x2_6 : BA) (x2_7 : Zq4) (x2_8 : Zq6) (x2_9 : Zq0) (x2_10 : Bool) (x2_11 : Int) (x2_12 : Zq3) (x5 : BA) (x8 : Bool) (k : Bool → Prop) : Prop := j14 (fun x2_0 x2_1 x2_2 x2_3 x2_4 x2_5 x2_6 x2_7 x2_8 x2_9 x2_10 x2_11 x2_12 x5 => j16' x2_0 x2_1 x2_2 x2_3 x2_4 x2_5 x2_6 x2_7 x2_8 x2_9 x2_10 x2_11 x2_12 x5 k) x2_0 x2_1 x2_2 x2_3 x2_4 x2_5 x2_6 x2_7 x2_8 x2_9 x2_10 x2_11 x2_12 x5 x8 k
def l11' (x2_0 x2_1 : Int) (x2_2 x2_3 : LI) (x2_4 : Int) (x2_5 : Bool) (x2_6 : BA) (x2_7 : Zq4) (x2_8 : Zq6) (x2_9 : Zq0) (x2_10 : Bool) (x2_11 : Int) (x2_12 : Zq3) (x5 x6 x7 : BA) (x8 : Bool) (x9 : Int) (k : Bool → Prop) : Prop := ∃ n, loopS (fun (ag : (Bool × Int) → Prop) (s : Bool × Int) => l11 (fun x2_0 x2_1 x2_2 x2_3 x2_4 x2_5 x2_6 x2_7 x2_8 x2_9 x2_10 x2_11 x2_12 x5 x6 x7 x8 x9 => j12' (fun x8 x9 => ag (x8, x9)) x2_0 x2_1 x2_2 x2_3 x2_4 x2_5 x2_6 x2_7 x2_8 x2_9 x2_10 x2_11 x2_12 x5 x6 x7 x8 x9 k) (fun x2_0 x2_1 x2_2 x2_3 x2_4 x2_5 x2_6 x2_7 x2_8 x2_9 x2_10 x2_11 x2_12 x5 x8 => j14' x2_0 x2_1 x2_2 x2_3 x2_4 x2_5 x2_6 x2_7 x2_8 x2_9 x2_10 x2_11 x2_12 x5 x8 k) x2_0 x2_1 x2_2 x2_3 x2_4 x2_5 x2_6 x2_7 x2_8 x2_9 x2_10 x2_11 x2_12 x5 x6 x7 s.1 s.2 k) n (x8, x9)
def j2000007' (x1 x2_0 x2_1 : Int) (x2_2 x2_3 : LI) (x2_4 : Int) (x2_5 : Bool) (x2_6 : BA) (x2_7 : Zq4) (x2_8 : Zq6) (x2_9 : Zq0) (x2_10 : Bool) (x2_11 : Int) (x2_12 : Zq3) (x5 : BA) (x60 : Bool) (k : Bool → Prop) : Prop := j2000007 (fun x2_0 x2_1 x2_2 x2_3 x2_4 x2_5 x2_6 x2_7 x2_8 x2_9 x2_10 x2_11 x2_12 x5 x6 x7 x8 x9 => l11' x2_0 x2_1 x2_2 x2_3 x2_4 x2_5 x2_6 x2_7 x2_8 x2_9 x2_10 x2_11 x2_12 x5 x6 x7 x8 x9 k) (fun x2_0 x2_1 x2_2 x2_3 x2_4 x2_5 x2_6 x2_7 x2_8 x2_9 x2_10 x2_11 x2_12 x5 => j16' x2_0 x2_1 x2_2 x2_3 x2_4 x2_5 x2_6 x2_7 x2_8 x2_9 x2_10 x2_11 x2_12 x5 k) x1 x2_0 x2_1 x2_2 x2_3 x2_4 x2_5 x2_6 x2_7 x2_8 x2_9 x2_10 x2_11 x2_12 x5 x60 k
def j6' (x1 x2_0 x2_1 : Int) (x2_2 x2_3 : LI) (x2_4 : Int) (x2_5 : Bool) (x2_6 : BA) (x2_7 : Zq4) (x2_8 : Zq6) (x2_9 : Zq0) (x2_10 : Bool) (x2_11 : Int) (x2_12 : Zq3) (x5 : BA) (k : Bool → Prop) : Prop := j6 (fun x1 x2_0 x2_1 x2_2 x2_3 x2_4 x2_5 x2_6 x2_7 x2_8 x2_9 x2_10 x2_11 x2_12 x5 x60 => j2000007' x1 x2_0 x2_1 x2_2 x2_3 x2_4 x2_5 x2_6 x2_7 x2_8 x2_9 x2_10 x2_11 x2_12 x5 x60 k) x1 x2_0 x2_1 x2_2 x2_3 x2_4 x2_5 x2_6 x2_7 x2_8 x2_9 x2_10 x2_11 x2_12 x5 k
def j3' (x1 x2_0 x2_1 : Int) (x2_2 x2_3 : LI) (x2_4 : Int) (x2_5 : Bool) (x2_6 : BA) (x2_7 : Zq4) (x2_8 : Zq6) (x2_9 : Zq0) (x2_10 : Bool) (x2_11 : Int) (x2_12 : Zq3) (k : Bool → Prop) : Prop := j3 (fun x1 x2_0 x2_1 x2_2 x2_3 x2_4 x2_5 x2_6 x2_7 x2_8 x2_9 x2_10 x2_11 x2_12 x5 => j6' x1 x2_0 x2_1 x2_2 x2_3 x2_4 x2_5 x2_6 x2_7 x2_8 x2_9 x2_10 x2_11 x2_12 x5 k) x1 x2_0 x2_1 x2_2 x2_3 x2_4 x2_5 x2_6 x2_7 x2_8 x2_9 x2_10 x2_11 x2_12 k
def j2000002' (x1 x2_0 x2_1 : Int) (x2_2 x2_3 : LI) (x2_4 : Int) (x2_5 : Bool) (x2_6 : BA) (x2_7 : Zq4) (x2_8 : Zq6) (x2_9 : Zq0) (x2_10 : Bool) (x2_11 : Int) (x2_12 : Zq3) (x35 : Bool) (k : Bool → Prop) : Prop := j2000002 (fun x1 x2_0 x2_1 x2_2 x2_3 x2_4 x2_5 x2_6 x2_7 x2_8 x2_9 x2_10 x2_11 x2_12 => j3' x1 x2_0 x2_1 x2_2 x2_3 x2_4 x2_5 x2_6 x2_7 x2_8 x2_9 x2_10 x2_11 x2_12 k) x1 x2_0 x2_1 x2_2 x2_3 x2_4 x2_5 x2_6 x2_7 x2_8 x2_9 x2_10 x2_11 x2_12 x35 k
def f0 (x0_0_0_0 x0_0_0_1 : Int) (x0_0_1_0 x0_0_1_1 : LI) (x0_0_2 : Int) (x0_1_0 : Bool) (x0_1_1 : BA) (x0_1_2 : Zq4) (x0_1_3 : Zq6) (x0_1_4 : Zq0) (x0_2 : Bool) (x0_3_0 : Int) (x0_3_1 : Zq3) (x1 : Int) (k : Bool → Prop) : Prop := c (fun x1 x2_0 x2_1 x2_2 x2_3 x2_4 x2_5 x2_6 x2_7 x2_8 x2_9 x2_10 x2_11 x2_12 x35 => j2000002' x1 x2_0 x2_1 x2_2 x2_3 x2_4 x2_5 x2_6 x2_7 x2_8 x2_9 x2_10 x2_11 x2_12 x35 k) x0_0_0_0 x0_0_0_1 x0_0_1_0 x0_0_1_1 x0_0_2 x0_1_0 x0_1_1 x0_1_2 x0_1_3 x0_1_4 x0_2 x0_3_0 x0_3_1 x1 k
theorem f_ex : ∃ g, g = f0 := ⟨_, rfl⟩
noncomputable def f := Classical.choose f_ex
theorem f_def : f = f0 := Classical.choose_spec f_ex
def m2000002 (x1 x2_0 x2_1 : Int) (x2_2 x2_3 : LI) (x2_4 : Int) (x2_5 : Bool) (x2_6 : BA) (x2_7 : Zq4) (x2_8 : Zq6) (x2_9 : Zq0) (x2_10 : Bool) (x2_11 : Int) (x2_12 : Zq3) (x35 : Bool) : St := { tmps := mkT 101 0 [(1, (.v (.int .i64 x1))), (2, (.fp [(.v (.int .i64 x2_0)), (.v (.int .i64 x2_1)), (.fz Zy2 x2_2), (.fz Zy2 x2_3), (.v (.int .i64 x2_4)), (.v (.bool x2_5)), (.v (.string x2_6)), (.fz (Ty.pair Zy2 Zy2) x2_7), (.fz Zy0 x2_8), (.fz Zy1 x2_9), (.v (.bool x2_10)), (.v (.int .i64 x2_11)), (.fz Zy4 x2_12)])), (35, (.v (.bool x35)))], hp := [], m := 0 }
def m3 (x1 x2_0 x2_1 : Int) (x2_2 x2_3 : LI) (x2_4 : Int) (x2_5 : Bool) (x2_6 : BA) (x2_7 : Zq4) (x2_8 : Zq6) (x2_9 : Zq0) (x2_10 : Bool) (x2_11 : Int) (x2_12 : Zq3) : St := { tmps := mkT 101 0 [(1, (.v (.int .i64 x1))), (2, (.fp [(.v (.int .i64 x2_0)), (.v (.int .i64 x2_1)), (.fz Zy2 x2_2), (.fz Zy2 x2_3), (.v (.int .i64 x2_4)), (.v (.bool x2_5)), (.v (.string x2_6)), (.fz (Ty.pair Zy2 Zy2) x2_7), (.fz Zy0 x2_8), (.fz Zy1 x2_9), (.v (.bool x2_10)), (.v (.int .i64 x2_11)), (.fz Zy4 x2_12)]))], hp := [], m := 0 }
def m6 (x1 x2_0 x2_1 : Int) (x2_2 x2_3 : LI) (x2_4 : Int) (x2_5 : Bool) (x2_6 : BA) (x2_7 : Zq4) (x2_8 : Zq6) (x2_9 : Zq0) (x2_10 : Bool) (x2_11 : Int) (x2_12 : Zq3) (x5 : BA) : St := { tmps := mkT 101 0 [(1, (.v (.int .i64 x1))), (2, (.fp [(.v (.int .i64 x2_0)), (.v (.int .i64 x2_1)), (.fz Zy2 x2_2), (.fz Zy2 x2_3), (.v (.int .i64 x2_4)), (.v (.bool x2_5)), (.v (.string x2_6)), (.fz (Ty.pair Zy2 Zy2) x2_7), (.fz Zy0 x2_8), (.fz Zy1 x2_9), (.v (.bool x2_10)), (.v (.int .i64 x2_11)), (.fz Zy4 x2_12)])), (5, (.v (.string x5)))], hp := [], m := 0 }
def m2000007 (x1 x2_0 x2_1 : Int) (x2_2 x2_3 : LI) (x2_4 : Int) (x2_5 : Bool) (x2_6 : BA) (x2_7 : Zq4) (x2_8 : Zq6) (x2_9 : Zq0) (x2_10 : Bool) (x2_11 : Int) (x2_12 : Zq3) (x5 : BA) (x60 : Bool) : St := { tmps := mkT 101 0 [(1, (.v (.int .i64 x1))), (2, (.fp [(.v (.int .i64 x2_0)), (.v (.int .i64 x2_1)), (.fz Zy2 x2_2), (.fz Zy2 x2_3), (.v (.int .i64 x2_4)), (.v (.bool x2_5)), (.v (.string x2_6)), (.fz (Ty.pair Zy2 Zy2) x2_7), (.fz Zy0 x2_8), (.fz Zy1 x2_9), (.v (.bool x2_10)), (.v (.int .i64 x2_11)), (.fz Zy4 x2_12)])), (5, (.v (.string x5))), (60, (.v (.bool x60)))], hp := [], m := 0 }
def mL11 (x2_0 x2_1 : Int) (x2_2 x2_3 : LI) (x2_4 : Int) (x2_5 : Bool) (x2_6 : BA) (x2_7 : Zq4) (x2_8 : Zq6) (x2_9 : Zq0) (x2_10 : Bool) (x2_11 : Int) (x2_12 : Zq3) (x5 x6 x7 : BA) (x8 : Bool) (x9 : Int) : St := { tmps := mkT 101 0 [(2, (.fp [(.v (.int .i64 x2_0)), (.v (.int .i64 x2_1)), (.fz Zy2 x2_2), (.fz Zy2 x2_3), (.v (.int .i64 x2_4)), (.v (.bool x2_5)), (.v (.string x2_6)), (.fz (Ty.pair Zy2 Zy2) x2_7), (.fz Zy0 x2_8), (.fz Zy1 x2_9), (.v (.bool x2_10)), (.v (.int .i64 x2_11)), (.fz Zy4 x2_12)])), (5, (.v (.string x5))), (6, (.v (.string x6))), (7, (.v (.string x7))), (8, (.v (.bool x8))), (9, (.v (.int .i64 x9)))], hp := [], m := 0 }
def m16 (x2_0 x2_1 : Int) (x2_2 x2_3 : LI) (x2_4 : Int) (x2_5 : Bool) (x2_6 : BA) (x2_7 : Zq4) (x2_8 : Zq6) (x2_9 : Zq0) (x2_10 : Bool) (x2_11 : Int) (x2_12 : Zq3) (x5 : BA) : St := { tmps := mkT 101 0 [(2, (.fp [(.v (.int .i64 x2_0)), (.v (.int .i64 x2_1)), (.fz Zy2 x2_2), (.fz Zy2 x2_3), (.v (.int .i64 x2_4)), (.v (.bool x2_5)), (.v (.string x2_6)), (.fz (Ty.pair Zy2 Zy2) x2_7), (.fz Zy0 x2_8), (.fz Zy1 x2_9), (.v (.bool x2_10)), (.v (.int .i64 x2_11)), (.fz Zy4 x2_12)])), (5, (.v (.string x5)))], hp := [], m := 0 }
def m12 (x2_0 x2_1 : Int) (x2_2 x2_3 : LI) (x2_4 : Int) (x2_5 : Bool) (x2_6 : BA) (x2_7 : Zq4) (x2_8 : Zq6) (x2_9 : Zq0) (x2_10 : Bool) (x2_11 : Int) (x2_12 : Zq3) (x5 x6 x7 : BA) (x8 : Bool) (x9 : Int) : St := { tmps := mkT 101 0 [(2, (.fp [(.v (.int .i64 x2_0)), (.v (.int .i64 x2_1)), (.fz Zy2 x2_2), (.fz Zy2 x2_3), (.v (.int .i64 x2_4)), (.v (.bool x2_5)), (.v (.string x2_6)), (.fz (Ty.pair Zy2 Zy2) x2_7), (.fz Zy0 x2_8), (.fz Zy1 x2_9), (.v (.bool x2_10)), (.v (.int .i64 x2_11)), (.fz Zy4 x2_12)])), (5, (.v (.string x5))), (6, (.v (.string x6))), (7, (.v (.string x7))), (8, (.v (.bool x8))), (9, (.v (.int .i64 x9)))], hp := [], m := 0 }
def m14 (x2_0 x2_1 : Int) (x2_2 x2_3 : LI) (x2_4 : Int) (x2_5 : Bool) (x2_6 : BA) (x2_7 : Zq4) (x2_8 : Zq6) (x2_9 : Zq0) (x2_10 : Bool) (x2_11 : Int) (x2_12 : Zq3) (x5 : BA) (x8 : Bool) : St := { tmps := mkT 101 0 [(2, (.fp [(.v (.int .i64 x2_0)), (.v (.int .i64 x2_1)), (.fz Zy2 x2_2), (.fz Zy2 x2_3), (.v (.int .i64 x2_4)), (.v (.bool x2_5)), (.v (.string x2_6)), (.fz (Ty.pair Zy2 Zy2) x2_7), (.fz Zy0 x2_8), (.fz Zy1 x2_9), (.v (.bool x2_10)), (.v (.int .i64 x2_11)), (.fz Zy4 x2_12)])), (5, (.v (.string x5))), (8, (.v (.bool x8)))], hp := [], m := 0 }
noncomputable def X2000002 (k kp : KT) : St → Prop := atP cfg (pick none' []) [1, 0, 1] body (topK cfg Try.f7 k kp)
noncomputable def X3 (k kp : KT) : St → Prop := atP cfg (pick none' []) [1, 1] body (topK cfg Try.f7 k kp)
noncomputable def X6 (k kp : KT) : St → Prop := atP cfg (pick none' []) [1, 1, 1, 1] body (topK cfg Try.f7 k kp)
noncomputable def X2000007 (k kp : KT) : St → Prop := atP cfg (pick none' []) [1, 1, 1, 1, 0, 1] body (topK cfg Try.f7 k kp)
noncomputable def YL11 (k kp : KT) : (St → Prop) → St → Prop := loopB cfg (sub [1, 1, 1, 1, 0, 1, 0, 1, 1, 1, 0, 1, 0, 0] body) (contK cfg (pick none' []) [1, 1, 1, 1, 0, 1, 0, 1, 1, 1, 0, 1, 0] body (topK cfg Try.f7 k kp))
noncomputable def XL11 (k kp : KT) : St → Prop := fun st => ∃ n, loopN (YL11 k kp) n st
noncomputable def X16 (k kp : KT) : St → Prop := atP cfg (pick none' []) [1, 1, 1, 1, 1] body (topK cfg Try.f7 k kp)
noncomputable def X12 (k kp : KT) (ag11 : St → Prop) : St → Prop := atP cfg (pick none' [(11, ag11)]) [1, 1, 1, 1, 0, 1, 0, 1, 1, 1, 0, 1, 0, 0, 1, 1] body (topK cfg Try.f7 k kp)
noncomputable def X14 (k kp : KT) : St → Prop := atP cfg (pick none' []) [1, 1, 1, 1, 0, 1, 0, 1, 1, 1, 1] body (topK cfg Try.f7 k kp)
noncomputable def JJ (k kp : KT) : Nat → St → Prop := pick none' [(2000002, X2000002 k kp), (3, X3 k kp), (6, X6 k kp), (2000007, X2000007 k kp), (16, X16 k kp), (14, X14 k kp)]
noncomputable def LL (k kp : KT) : Nat → St → Prop := pick none' [(11, XL11 k kp)]
noncomputable def JJ_11 (k kp : KT) (ag11 : St → Prop) : Nat → St → Prop := pick none' [(2000002, X2000002 k kp), (3, X3 k kp), (6, X6 k kp), (2000007, X2000007 k kp), (16, X16 k kp), (12, X12 k kp ag11), (14, X14 k kp)]
noncomputable def LL_11 (k kp : KT) (ag11 : St → Prop) : Nat → St → Prop := pick none' [(11, XL11 k kp)]
theorem j16_c (k kp : KT) (J L : Nat → St → Prop) (x2_0 x2_1 : Int) (x2_2 x2_3 : LI) (x2_4 : Int) (x2_5 : Bool) (x2_6 : BA) (x2_7 : Zq4) (x2_8 : Zq6) (x2_9 : Zq0) (x2_10 : Bool) (x2_11 : Int) (x2_12 : Zq3) (x5 : BA) : runC cfg 16 J L (pick none' []) [1, 1, 1, 1, 1] body (topK cfg Try.f7 k kp) (m16 x2_0 x2_1 x2_2 x2_3 x2_4 x2_5 x2_6 x2_7 x2_8 x2_9 x2_10 x2_11 x2_12 x5) = j16 x2_0 x2_1 x2_2 x2_3 x2_4 x2_5 x2_6 x2_7 x2_8 x2_9 x2_10 x2_11 x2_12 x5 (fun y0 => k (.v (.bool y0)) []) := by kernel_rfl
theorem j16_ag (k kp : KT) : agPL cfg 16 (JJ k kp) (LL k kp) [1, 1, 1, 1, 1] body = agPR cfg 16 (pick none' []) [1, 1, 1, 1, 1] body (topK cfg Try.f7 k kp) := by kernel_rfl
theorem j16_raw (k kp : KT) (x2_0 x2_1 : Int) (x2_2 x2_3 : LI) (x2_4 : Int) (x2_5 : Bool) (x2_6 : BA) (x2_7 : Zq4) (x2_8 : Zq6) (x2_9 : Zq0) (x2_10 : Bool) (x2_11 : Int) (x2_12 : Zq3) (x5 : BA) : X16 k kp (m16 x2_0 x2_1 x2_2 x2_3 x2_4 x2_5 x2_6 x2_7 x2_8 x2_9 x2_10 x2_11 x2_12 x5) = j16 x2_0 x2_1 x2_2 x2_3 x2_4 x2_5 x2_6 x2_7 x2_8 x2_9 x2_10 x2_11 x2_12 x5 (fun y0 => k (.v (.bool y0)) []) :=
  Eq.mp (by kernel_rfl) ((atP_run (j16_ag k kp) (m16 x2_0 x2_1 x2_2 x2_3 x2_4 x2_5 x2_6 x2_7 x2_8 x2_9 x2_10 x2_11 x2_12 x5)).trans (j16_c k kp (JJ k kp) (LL k kp) x2_0 x2_1 x2_2 x2_3 x2_4 x2_5 x2_6 x2_7 x2_8 x2_9 x2_10 x2_11 x2_12 x5))
theorem j16_eq (k kp : KT) (x2_0 x2_1 : Int) (x2_2 x2_3 : LI) (x2_4 : Int) (x2_5 : Bool) (x2_6 : BA) (x2_7 : Zq4) (x2_8 : Zq6) (x2_9 : Zq0) (x2_10 : Bool) (x2_11 : Int) (x2_12 : Zq3) (x5 : BA) : X16 k kp (m16 x2_0 x2_1 x2_2 x2_3 x2_4 x2_5 x2_6 x2_7 x2_8 x2_9 x2_10 x2_11 x2_12 x5) = j16' x2_0 x2_1 x2_2 x2_3 x2_4 x2_5 x2_6 x2_7 x2_8 x2_9 x2_10 x2_11 x2_12 x5 (fun y0 => k (.v (.bool y0)) []) := by
  rw [j16_raw]; rfl
theorem j12_c (k kp : KT) (J L : Nat → St → Prop) (ag11 : St → Prop) (x2_0 x2_1 : Int) (x2_2 x2_3 : LI) (x2_4 : Int) (x2_5 : Bool) (x2_6 : BA) (x2_7 : Zq4) (x2_8 : Zq6) (x2_9 : Zq0) (x2_10 : Bool) (x2_11 : Int) (x2_12 : Zq3) (x5 x6 x7 : BA) (x8 : Bool) (x9 : Int) : runC cfg 12 J L (pick none' [(11, ag11)]) [1, 1, 1, 1, 0, 1, 0, 1, 1, 1, 0, 1, 0, 0, 1, 1] body (topK cfg Try.f7 k kp) (m12 x2_0 x2_1 x2_2 x2_3 x2_4 x2_5 x2_6 x2_7 x2_8 x2_9 x2_10 x2_11 x2_12 x5 x6 x7 x8 x9) = j12 (fun x8 x9 => ag11 (mL11 x2_0 x2_1 x2_2 x2_3 x2_4 x2_5 x2_6 x2_7 x2_8 x2_9 x2_10 x2_11 x2_12 x5 x6 x7 x8 x9)) x2_0 x2_1 x2_2 x2_3 x2_4 x2_5 x2_6 x2_7 x2_8 x2_9 x2_10 x2_11 x2_12 x5 x6 x7 x8 x9 (fun y0 => k (.v (.bool y0)) []) := by kernel_rfl
theorem j12_ag (k kp : KT) (ag11 : St → Prop) : agPL cfg 12 (JJ_11 k kp ag11) (LL_11 k kp ag11) [1, 1, 1, 1, 0, 1, 0, 1, 1, 1, 0, 1, 0, 0, 1, 1] body = agPR cfg 12 (pick none' [(11, ag11)]) [1, 1, 1, 1, 0, 1, 0, 1, 1, 1, 0, 1, 0, 0, 1, 1] body (topK cfg Try.f7 k kp) := by kernel_rfl
theorem j12_raw (k kp : KT) (ag11 : St → Prop) (x2_0 x2_1 : Int) (x2_2 x2_3 : LI) (x2_4 : Int) (x2_5 : Bool) (x2_6 : BA) (x2_7 : Zq4) (x2_8 : Zq6) (x2_9 : Zq0) (x2_10 : Bool) (x2_11 : Int) (x2_12 : Zq3) (x5 x6 x7 : BA) (x8 : Bool) (x9 : Int) : X12 k kp ag11 (m12 x2_0 x2_1 x2_2 x2_3 x2_4 x2_5 x2_6 x2_7 x2_8 x2_9 x2_10 x2_11 x2_12 x5 x6 x7 x8 x9) = j12 (fun x8 x9 => ag11 (mL11 x2_0 x2_1 x2_2 x2_3 x2_4 x2_5 x2_6 x2_7 x2_8 x2_9 x2_10 x2_11 x2_12 x5 x6 x7 x8 x9)) x2_0 x2_1 x2_2 x2_3 x2_4 x2_5 x2_6 x2_7 x2_8 x2_9 x2_10 x2_11 x2_12 x5 x6 x7 x8 x9 (fun y0 => k (.v (.bool y0)) []) :=
  Eq.mp (by kernel_rfl) ((atP_run (j12_ag k kp ag11) (m12 x2_0 x2_1 x2_2 x2_3 x2_4 x2_5 x2_6 x2_7 x2_8 x2_9 x2_10 x2_11 x2_12 x5 x6 x7 x8 x9)).trans (j12_c k kp (JJ_11 k kp ag11) (LL_11 k kp ag11) ag11 x2_0 x2_1 x2_2 x2_3 x2_4 x2_5 x2_6 x2_7 x2_8 x2_9 x2_10 x2_11 x2_12 x5 x6 x7 x8 x9))
theorem j12_eq (k kp : KT) (ag11 : St → Prop) (x2_0 x2_1 : Int) (x2_2 x2_3 : LI) (x2_4 : Int) (x2_5 : Bool) (x2_6 : BA) (x2_7 : Zq4) (x2_8 : Zq6) (x2_9 : Zq0) (x2_10 : Bool) (x2_11 : Int) (x2_12 : Zq3) (x5 x6 x7 : BA) (x8 : Bool) (x9 : Int) : X12 k kp ag11 (m12 x2_0 x2_1 x2_2 x2_3 x2_4 x2_5 x2_6 x2_7 x2_8 x2_9 x2_10 x2_11 x2_12 x5 x6 x7 x8 x9) = j12' (fun x8 x9 => ag11 (mL11 x2_0 x2_1 x2_2 x2_3 x2_4 x2_5 x2_6 x2_7 x2_8 x2_9 x2_10 x2_11 x2_12 x5 x6 x7 x8 x9)) x2_0 x2_1 x2_2 x2_3 x2_4 x2_5 x2_6 x2_7 x2_8 x2_9 x2_10 x2_11 x2_12 x5 x6 x7 x8 x9 (fun y0 => k (.v (.bool y0)) []) := by
  rw [j12_raw]; rfl
theorem j14_c (k kp : KT) (J L : Nat → St → Prop) (x2_0 x2_1 : Int) (x2_2 x2_3 : LI) (x2_4 : Int) (x2_5 : Bool) (x2_6 : BA) (x2_7 : Zq4) (x2_8 : Zq6) (x2_9 : Zq0) (x2_10 : Bool) (x2_11 : Int) (x2_12 : Zq3) (x5 : BA) (x8 : Bool) : runC cfg 14 J L (pick none' []) [1, 1, 1, 1, 0, 1, 0, 1, 1, 1, 1] body (topK cfg Try.f7 k kp) (m14 x2_0 x2_1 x2_2 x2_3 x2_4 x2_5 x2_6 x2_7 x2_8 x2_9 x2_10 x2_11 x2_12 x5 x8) = j14 (fun x2_0 x2_1 x2_2 x2_3 x2_4 x2_5 x2_6 x2_7 x2_8 x2_9 x2_10 x2_11 x2_12 x5 => J 16 (m16 x2_0 x2_1 x2_2 x2_3 x2_4 x2_5 x2_6 x2_7 x2_8 x2_9 x2_10 x2_11 x2_12 x5)) x2_0 x2_1 x2_2 x2_3 x2_4 x2_5 x2_6 x2_7 x2_8 x2_9 x2_10 x2_11 x2_12 x5 x8 (fun y0 => k (.v (.bool y0)) []) := by kernel_rfl
theorem j14_ag (k kp : KT) : agPL cfg 14 (JJ k kp) (LL k kp) [1, 1, 1, 1, 0, 1, 0, 1, 1, 1, 1] body = agPR cfg 14 (pick none' []) [1, 1, 1, 1, 0, 1, 0, 1, 1, 1, 1] body (topK cfg Try.f7 k kp) := by kernel_rfl
theorem j14_raw (k kp : KT) (x2_0 x2_1 : Int) (x2_2 x2_3 : LI) (x2_4 : Int) (x2_5 : Bool) (x2_6 : BA) (x2_7 : Zq4) (x2_8 : Zq6) (x2_9 : Zq0) (x2_10 : Bool) (x2_11 : Int) (x2_12 : Zq3) (x5 : BA) (x8 : Bool) : X14 k kp (m14 x2_0 x2_1 x2_2 x2_3 x2_4 x2_5 x2_6 x2_7 x2_8 x2_9 x2_10 x2_11 x2_12 x5 x8) = j14 (fun x2_0 x2_1 x2_2 x2_3 x2_4 x2_5 x2_6 x2_7 x2_8 x2_9 x2_10 x2_11 x2_12 x5 => X16 k kp (m16 x2_0 x2_1 x2_2 x2_3 x2_4 x2_5 x2_6 x2_7 x2_8 x2_9 x2_10 x2_11 x2_12 x5)) x2_0 x2_1 x2_2 x2_3 x2_4 x2_5 x2_6 x2_7 x2_8 x2_9 x2_10 x2_11 x2_12 x5 x8 (fun y0 => k (.v (.bool y0)) []) :=
  Eq.mp (by kernel_rfl) ((atP_run (j14_ag k kp) (m14 x2_0 x2_1 x2_2 x2_3 x2_4 x2_5 x2_6 x2_7 x2_8 x2_9 x2_10 x2_11 x2_12 x5 x8)).trans (j14_c k kp (JJ k kp) (LL k kp) x2_0 x2_1 x2_2 x2_3 x2_4 x2_5 x2_6 x2_7 x2_8 x2_9 x2_10 x2_11 x2_12 x5 x8))
theorem j14_eq (k kp : KT) (x2_0 x2_1 : Int) (x2_2 x2_3 : LI) (x2_4 : Int) (x2_5 : Bool) (x2_6 : BA) (x2_7 : Zq4) (x2_8 : Zq6) (x2_9 : Zq0) (x2_10 : Bool) (x2_11 : Int) (x2_12 : Zq3) (x5 : BA) (x8 : Bool) : X14 k kp (m14 x2_0 x2_1 x2_2 x2_3 x2_4 x2_5 x2_6 x2_7 x2_8 x2_9 x2_10 x2_11 x2_12 x5 x8) = j14' x2_0 x2_1 x2_2 x2_3 x2_4 x2_5 x2_6 x2_7 x2_8 x2_9 x2_10 x2_11 x2_12 x5 x8 (fun y0 => k (.v (.bool y0)) []) := by
  rw [j14_raw]; simp only [j16_eq]; first | done | rfl
theorem l11_c (k kp : KT) (J L : Nat → St → Prop) (ag11 : St → Prop) (x2_0 x2_1 : Int) (x2_2 x2_3 : LI) (x2_4 : Int) (x2_5 : Bool) (x2_6 : BA) (x2_7 : Zq4) (x2_8 : Zq6) (x2_9 : Zq0) (x2_10 : Bool) (x2_11 : Int) (x2_12 : Zq3) (x5 x6 x7 : BA) (x8 : Bool) (x9 : Int) : runC cfg 1000001 J L (pick none' [(11, ag11)]) [1, 1, 1, 1, 0, 1, 0, 1, 1, 1, 0, 1, 0, 0] body (topK cfg Try.f7 k kp) (mL11 x2_0 x2_1 x2_2 x2_3 x2_4 x2_5 x2_6 x2_7 x2_8 x2_9 x2_10 x2_11 x2_12 x5 x6 x7 x8 x9) = l11 (fun x2_0 x2_1 x2_2 x2_3 x2_4 x2_5 x2_6 x2_7 x2_8 x2_9 x2_10 x2_11 x2_12 x5 x6 x7 x8 x9 => J 12 (m12 x2_0 x2_1 x2_2 x2_3 x2_4 x2_5 x2_6 x2_7 x2_8 x2_9 x2_10 x2_11 x2_12 x5 x6 x7 x8 x9)) (fun x2_0 x2_1 x2_2 x2_3 x2_4 x2_5 x2_6 x2_7 x2_8 x2_9 x2_10 x2_11 x2_12 x5 x8 => J 14 (m14 x2_0 x2_1 x2_2 x2_3 x2_4 x2_5 x2_6 x2_7 x2_8 x2_9 x2_10 x2_11 x2_12 x5 x8)) x2_0 x2_1 x2_2 x2_3 x2_4 x2_5 x2_6 x2_7 x2_8 x2_9 x2_10 x2_11 x2_12 x5 x6 x7 x8 x9 (fun y0 => k (.v (.bool y0)) []) := by kernel_rfl
theorem l11_ag (k kp : KT) (ag11 : St → Prop) : agPL cfg 1000001 (JJ_11 k kp ag11) (LL_11 k kp ag11) [1, 1, 1, 1, 0, 1, 0, 1, 1, 1, 0, 1, 0, 0] body = agPR cfg 1000001 (pick none' [(11, ag11)]) [1, 1, 1, 1, 0, 1, 0, 1, 1, 1, 0, 1, 0, 0] body (topK cfg Try.f7 k kp) := by kernel_rfl
theorem l11_raw (k kp : KT) (ag11 : St → Prop) (x2_0 x2_1 : Int) (x2_2 x2_3 : LI) (x2_4 : Int) (x2_5 : Bool) (x2_6 : BA) (x2_7 : Zq4) (x2_8 : Zq6) (x2_9 : Zq0) (x2_10 : Bool) (x2_11 : Int) (x2_12 : Zq3) (x5 x6 x7 : BA) (x8 : Bool) (x9 : Int) : YL11 k kp ag11 (mL11 x2_0 x2_1 x2_2 x2_3 x2_4 x2_5 x2_6 x2_7 x2_8 x2_9 x2_10 x2_11 x2_12 x5 x6 x7 x8 x9) = l11 (fun x2_0 x2_1 x2_2 x2_3 x2_4 x2_5 x2_6 x2_7 x2_8 x2_9 x2_10 x2_11 x2_12 x5 x6 x7 x8 x9 => X12 k kp ag11 (m12 x2_0 x2_1 x2_2 x2_3 x2_4 x2_5 x2_6 x2_7 x2_8 x2_9 x2_10 x2_11 x2_12 x5 x6 x7 x8 x9)) (fun x2_0 x2_1 x2_2 x2_3 x2_4 x2_5 x2_6 x2_7 x2_8 x2_9 x2_10 x2_11 x2_12 x5 x8 => X14 k kp (m14 x2_0 x2_1 x2_2 x2_3 x2_4 x2_5 x2_6 x2_7 x2_8 x2_9 x2_10 x2_11 x2_12 x5 x8)) x2_0 x2_1 x2_2 x2_3 x2_4 x2_5 x2_6 x2_7 x2_8 x2_9 x2_10 x2_11 x2_12 x5 x6 x7 x8 x9 (fun y0 => k (.v (.bool y0)) []) :=
  Eq.mp (by kernel_rfl) ((atP_run (l11_ag k kp ag11) (mL11 x2_0 x2_1 x2_2 x2_3 x2_4 x2_5 x2_6 x2_7 x2_8 x2_9 x2_10 x2_11 x2_12 x5 x6 x7 x8 x9)).trans (l11_c k kp (JJ_11 k kp ag11) (LL_11 k kp ag11) ag11 x2_0 x2_1 x2_2 x2_3 x2_4 x2_5 x2_6 x2_7 x2_8 x2_9 x2_10 x2_11 x2_12 x5 x6 x7 x8 x9))
theorem l11_eq (k kp : KT) (x2_0 x2_1 : Int) (x2_2 x2_3 : LI) (x2_4 : Int) (x2_5 : Bool) (x2_6 : BA) (x2_7 : Zq4) (x2_8 : Zq6) (x2_9 : Zq0) (x2_10 : Bool) (x2_11 : Int) (x2_12 : Zq3) (x5 x6 x7 : BA) (x8 : Bool) (x9 : Int) : XL11 k kp (mL11 x2_0 x2_1 x2_2 x2_3 x2_4 x2_5 x2_6 x2_7 x2_8 x2_9 x2_10 x2_11 x2_12 x5 x6 x7 x8 x9) = l11' x2_0 x2_1 x2_2 x2_3 x2_4 x2_5 x2_6 x2_7 x2_8 x2_9 x2_10 x2_11 x2_12 x5 x6 x7 x8 x9 (fun y0 => k (.v (.bool y0)) []) :=
  loop_eq (mk := fun (s : Bool × Int) => mL11 x2_0 x2_1 x2_2 x2_3 x2_4 x2_5 x2_6 x2_7 x2_8 x2_9 x2_10 x2_11 x2_12 x5 x6 x7 s.1 s.2) (fun again s => by rw [l11_raw k kp again x2_0 x2_1 x2_2 x2_3 x2_4 x2_5 x2_6 x2_7 x2_8 x2_9 x2_10 x2_11 x2_12 x5 x6 x7 s.1 s.2]; simp only [j12_eq, j14_eq]; first | done | rfl) (x8, x9)
theorem j2000007_c (k kp : KT) (J L : Nat → St → Prop) (x1 x2_0 x2_1 : Int) (x2_2 x2_3 : LI) (x2_4 : Int) (x2_5 : Bool) (x2_6 : BA) (x2_7 : Zq4) (x2_8 : Zq6) (x2_9 : Zq0) (x2_10 : Bool) (x2_11 : Int) (x2_12 : Zq3) (x5 : BA) (x60 : Bool) : runC cfg 2000007 J L (pick none' []) [1, 1, 1, 1, 0, 1] body (topK cfg Try.f7 k kp) (m2000007 x1 x2_0 x2_1 x2_2 x2_3 x2_4 x2_5 x2_6 x2_7 x2_8 x2_9 x2_10 x2_11 x2_12 x5 x60) = j2000007 (fun x2_0 x2_1 x2_2 x2_3 x2_4 x2_5 x2_6 x2_7 x2_8 x2_9 x2_10 x2_11 x2_12 x5 x6 x7 x8 x9 => L 11 (mL11 x2_0 x2_1 x2_2 x2_3 x2_4 x2_5 x2_6 x2_7 x2_8 x2_9 x2_10 x2_11 x2_12 x5 x6 x7 x8 x9)) (fun x2_0 x2_1 x2_2 x2_3 x2_4 x2_5 x2_6 x2_7 x2_8 x2_9 x2_10 x2_11 x2_12 x5 => J 16 (m16 x2_0 x2_1 x2_2 x2_3 x2_4 x2_5 x2_6 x2_7 x2_8 x2_9 x2_10 x2_11 x2_12 x5)) x1 x2_0 x2_1 x2_2 x2_3 x2_4 x2_5 x2_6 x2_7 x2_8 x2_9 x2_10 x2_11 x2_12 x5 x60 (fun y0 => k (.v (.bool y0)) []) := by kernel_rfl
theorem j2000007_ag (k kp : KT) : agPL cfg 2000007 (JJ k kp) (LL k kp) [1, 1, 1, 1, 0, 1] body = agPR cfg 2000007 (pick none' []) [1, 1, 1, 1, 0, 1] body (topK cfg Try.f7 k kp) := by kernel_rfl
theorem j2000007_raw (k kp : KT) (x1 x2_0 x2_1 : Int) (x2_2 x2_3 : LI) (x2_4 : Int) (x2_5 : Bool) (x2_6 : BA) (x2_7 : Zq4) (x2_8 : Zq6) (x2_9 : Zq0) (x2_10 : Bool) (x2_11 : Int) (x2_12 : Zq3) (x5 : BA) (x60 : Bool) : X2000007 k kp (m2000007 x1 x2_0 x2_1 x2_2 x2_3 x2_4 x2_5 x2_6 x2_7 x2_8 x2_9 x2_10 x2_11 x2_12 x5 x60) = j2000007 (fun x2_0 x2_1 x2_2 x2_3 x2_4 x2_5 x2_6 x2_7 x2_8 x2_9 x2_10 x2_11 x2_12 x5 x6 x7 x8 x9 => XL11 k kp (mL11 x2_0 x2_1 x2_2 x2_3 x2_4 x2_5 x2_6 x2_7 x2_8 x2_9 x2_10 x2_11 x2_12 x5 x6 x7 x8 x9)) (fun x2_0 x2_1 x2_2 x2_3 x2_4 x2_5 x2_6 x2_7 x2_8 x2_9 x2_10 x2_11 x2_12 x5 => X16 k kp (m16 x2_0 x2_1 x2_2 x2_3 x2_4 x2_5 x2_6 x2_7 x2_8 x2_9 x2_10 x2_11 x2_12 x5)) x1 x2_0 x2_1 x2_2 x2_3 x2_4 x2_5 x2_6 x2_7 x2_8 x2_9 x2_10 x2_11 x2_12 x5 x60 (fun y0 => k (.v (.bool y0)) []) :=
  Eq.mp (by kernel_rfl) ((atP_run (j2000007_ag k kp) (m2000007 x1 x2_0 x2_1 x2_2 x2_3 x2_4 x2_5 x2_6 x2_7 x2_8 x2_9 x2_10 x2_11 x2_12 x5 x60)).trans (j2000007_c k kp (JJ k kp) (LL k kp) x1 x2_0 x2_1 x2_2 x2_3 x2_4 x2_5 x2_6 x2_7 x2_8 x2_9 x2_10 x2_11 x2_12 x5 x60))
theorem j2000007_eq (k kp : KT) (x1 x2_0 x2_1 : Int) (x2_2 x2_3 : LI) (x2_4 : Int) (x2_5 : Bool) (x2_6 : BA) (x2_7 : Zq4) (x2_8 : Zq6) (x2_9 : Zq0) (x2_10 : Bool) (x2_11 : Int) (x2_12 : Zq3) (x5 : BA) (x60 : Bool) : X2000007 k kp (m2000007 x1 x2_0 x2_1 x2_2 x2_3 x2_4 x2_5 x2_6 x2_7 x2_8 x2_9 x2_10 x2_11 x2_12 x5 x60) = j2000007' x1 x2_0 x2_1 x2_2 x2_3 x2_4 x2_5 x2_6 x2_7 x2_8 x2_9 x2_10 x2_11 x2_12 x5 x60 (fun y0 => k (.v (.bool y0)) []) := by
  rw [j2000007_raw]; simp only [l11_eq, j16_eq]; first | done | rfl
theorem j6_c (k kp : KT) (J L : Nat → St → Prop) (x1 x2_0 x2_1 : Int) (x2_2 x2_3 : LI) (x2_4 : Int) (x2_5 : Bool) (x2_6 : BA) (x2_7 : Zq4) (x2_8 : Zq6) (x2_9 : Zq0) (x2_10 : Bool) (x2_11 : Int) (x2_12 : Zq3) (x5 : BA) : runC cfg 6 J L (pick none' []) [1, 1, 1, 1] body (topK cfg Try.f7 k kp) (m6 x1 x2_0 x2_1 x2_2 x2_3 x2_4 x2_5 x2_6 x2_7 x2_8 x2_9 x2_10 x2_11 x2_12 x5) = j6 (fun x1 x2_0 x2_1 x2_2 x2_3 x2_4 x2_5 x2_6 x2_7 x2_8 x2_9 x2_10 x2_11 x2_12 x5 x60 => J 2000007 (m2000007 x1 x2_0 x2_1 x2_2 x2_3 x2_4 x2_5 x2_6 x2_7 x2_8 x2_9 x2_10 x2_11 x2_12 x5 x60)) x1 x2_0 x2_1 x2_2 x2_3 x2_4 x2_5 x2_6 x2_7 x2_8 x2_9 x2_10 x2_11 x2_12 x5 (fun y0 => k (.v (.bool y0)) []) := by kernel_rfl
theorem j6_ag (k kp : KT) : agPL cfg 6 (JJ k kp) (LL k kp) [1, 1, 1, 1] body = agPR cfg 6 (pick none' []) [1, 1, 1, 1] body (topK cfg Try.f7 k kp) := by kernel_rfl
theorem j6_raw (k kp : KT) (x1 x2_0 x2_1 : Int) (x2_2 x2_3 : LI) (x2_4 : Int) (x2_5 : Bool) (x2_6 : BA) (x2_7 : Zq4) (x2_8 : Zq6) (x2_9 : Zq0) (x2_10 : Bool) (x2_11 : Int) (x2_12 : Zq3) (x5 : BA) : X6 k kp (m6 x1 x2_0 x2_1 x2_2 x2_3 x2_4 x2_5 x2_6 x2_7 x2_8 x2_9 x2_10 x2_11 x2_12 x5) = j6 (fun x1 x2_0 x2_1 x2_2 x2_3 x2_4 x2_5 x2_6 x2_7 x2_8 x2_9 x2_10 x2_11 x2_12 x5 x60 => X2000007 k kp (m2000007 x1 x2_0 x2_1 x2_2 x2_3 x2_4 x2_5 x2_6 x2_7 x2_8 x2_9 x2_10 x2_11 x2_12 x5 x60)) x1 x2_0 x2_1 x2_2 x2_3 x2_4 x2_5 x2_6 x2_7 x2_8 x2_9 x2_10 x2_11 x2_12 x5 (fun y0 => k (.v (.bool y0)) []) :=
  Eq.mp (by kernel_rfl) ((atP_run (j6_ag k kp) (m6 x1 x2_0 x2_1 x2_2 x2_3 x2_4 x2_5 x2_6 x2_7 x2_8 x2_9 x2_10 x2_11 x2_12 x5)).trans (j6_c k kp (JJ k kp) (LL k kp) x1 x2_0 x2_1 x2_2 x2_3 x2_4 x2_5 x2_6 x2_7 x2_8 x2_9 x2_10 x2_11 x2_12 x5))
theorem j6_eq (k kp : KT) (x1 x2_0 x2_1 : Int) (x2_2 x2_3 : LI) (x2_4 : Int) (x2_5 : Bool) (x2_6 : BA) (x2_7 : Zq4) (x2_8 : Zq6) (x2_9 : Zq0) (x2_10 : Bool) (x2_11 : Int) (x2_12 : Zq3) (x5 : BA) : X6 k kp (m6 x1 x2_0 x2_1 x2_2 x2_3 x2_4 x2_5 x2_6 x2_7 x2_8 x2_9 x2_10 x2_11 x2_12 x5) = j6' x1 x2_0 x2_1 x2_2 x2_3 x2_4 x2_5 x2_6 x2_7 x2_8 x2_9 x2_10 x2_11 x2_12 x5 (fun y0 => k (.v (.bool y0)) []) := by
  rw [j6_raw]; simp only [j2000007_eq]; first | done | rfl
theorem j3_c (k kp : KT) (J L : Nat → St → Prop) (x1 x2_0 x2_1 : Int) (x2_2 x2_3 : LI) (x2_4 : Int) (x2_5 : Bool) (x2_6 : BA) (x2_7 : Zq4) (x2_8 : Zq6) (x2_9 : Zq0) (x2_10 : Bool) (x2_11 : Int) (x2_12 : Zq3) : runC cfg 3 J L (pick none' []) [1, 1] body (topK cfg Try.f7 k kp) (m3 x1 x2_0 x2_1 x2_2 x2_3 x2_4 x2_5 x2_6 x2_7 x2_8 x2_9 x2_10 x2_11 x2_12) = j3 (fun x1 x2_0 x2_1 x2_2 x2_3 x2_4 x2_5 x2_6 x2_7 x2_8 x2_9 x2_10 x2_11 x2_12 x5 => J 6 (m6 x1 x2_0 x2_1 x2_2 x2_3 x2_4 x2_5 x2_6 x2_7 x2_8 x2_9 x2_10 x2_11 x2_12 x5)) x1 x2_0 x2_1 x2_2 x2_3 x2_4 x2_5 x2_6 x2_7 x2_8 x2_9 x2_10 x2_11 x2_12 (fun y0 => k (.v (.bool y0)) []) := by kernel_rfl
theorem j3_ag (k kp : KT) : agPL cfg 3 (JJ k kp) (LL k kp) [1, 1] body = agPR cfg 3 (pick none' []) [1, 1] body (topK cfg Try.f7 k kp) := by kernel_rfl
theorem j3_raw (k kp : KT) (x1 x2_0 x2_1 : Int) (x2_2 x2_3 : LI) (x2_4 : Int) (x2_5 : Bool) (x2_6 : BA) (x2_7 : Zq4) (x2_8 : Zq6) (x2_9 : Zq0) (x2_10 : Bool) (x2_11 : Int) (x2_12 : Zq3) : X3 k kp (m3 x1 x2_0 x2_1 x2_2 x2_3 x2_4 x2_5 x2_6 x2_7 x2_8 x2_9 x2_10 x2_11 x2_12) = j3 (fun x1 x2_0 x2_1 x2_2 x2_3 x2_4 x2_5 x2_6 x2_7 x2_8 x2_9 x2_10 x2_11 x2_12 x5 => X6 k kp (m6 x1 x2_0 x2_1 x2_2 x2_3 x2_4 x2_5 x2_6 x2_7 x2_8 x2_9 x2_10 x2_11 x2_12 x5)) x1 x2_0 x2_1 x2_2 x2_3 x2_4 x2_5 x2_6 x2_7 x2_8 x2_9 x2_10 x2_11 x2_12 (fun y0 => k (.v (.bool y0)) []) :=
  Eq.mp (by kernel_rfl) ((atP_run (j3_ag k kp) (m3 x1 x2_0 x2_1 x2_2 x2_3 x2_4 x2_5 x2_6 x2_7 x2_8 x2_9 x2_10 x2_11 x2_12)).trans (j3_c k kp (JJ k kp) (LL k kp) x1 x2_0 x2_1 x2_2 x2_3 x2_4 x2_5 x2_6 x2_7 x2_8 x2_9 x2_10 x2_11 x2_12))
theorem j3_eq (k kp : KT) (x1 x2_0 x2_1 : Int) (x2_2 x2_3 : LI) (x2_4 : Int) (x2_5 : Bool) (x2_6 : BA) (x2_7 : Zq4) (x2_8 : Zq6) (x2_9 : Zq0) (x2_10 : Bool) (x2_11 : Int) (x2_12 : Zq3) : X3 k kp (m3 x1 x2_0 x2_1 x2_2 x2_3 x2_4 x2_5 x2_6 x2_7 x2_8 x2_9 x2_10 x2_11 x2_12) = j3' x1 x2_0 x2_1 x2_2 x2_3 x2_4 x2_5 x2_6 x2_7 x2_8 x2_9 x2_10 x2_11 x2_12 (fun y0 => k (.v (.bool y0)) []) := by
  rw [j3_raw]; simp only [j6_eq]; first | done | rfl
theorem j2000002_c (k kp : KT) (J L : Nat → St → Prop) (x1 x2_0 x2_1 : Int) (x2_2 x2_3 : LI) (x2_4 : Int) (x2_5 : Bool) (x2_6 : BA) (x2_7 : Zq4) (x2_8 : Zq6) (x2_9 : Zq0) (x2_10 : Bool) (x2_11 : Int) (x2_12 : Zq3) (x35 : Bool) : runC cfg 2000002 J L (pick none' []) [1, 0, 1] body (topK cfg Try.f7 k kp) (m2000002 x1 x2_0 x2_1 x2_2 x2_3 x2_4 x2_5 x2_6 x2_7 x2_8 x2_9 x2_10 x2_11 x2_12 x35) = j2000002 (fun x1 x2_0 x2_1 x2_2 x2_3 x2_4 x2_5 x2_6 x2_7 x2_8 x2_9 x2_10 x2_11 x2_12 => J 3 (m3 x1 x2_0 x2_1 x2_2 x2_3 x2_4 x2_5 x2_6 x2_7 x2_8 x2_9 x2_10 x2_11 x2_12)) x1 x2_0 x2_1 x2_2 x2_3 x2_4 x2_5 x2_6 x2_7 x2_8 x2_9 x2_10 x2_11 x2_12 x35 (fun y0 => k (.v (.bool y0)) []) := by kernel_rfl
theorem j2000002_ag (k kp : KT) : agPL cfg 2000002 (JJ k kp) (LL k kp) [1, 0, 1] body = agPR cfg 2000002 (pick none' []) [1, 0, 1] body (topK cfg Try.f7 k kp) := by kernel_rfl
theorem j2000002_raw (k kp : KT) (x1 x2_0 x2_1 : Int) (x2_2 x2_3 : LI) (x2_4 : Int) (x2_5 : Bool) (x2_6 : BA) (x2_7 : Zq4) (x2_8 : Zq6) (x2_9 : Zq0) (x2_10 : Bool) (x2_11 : Int) (x2_12 : Zq3) (x35 : Bool) : X2000002 k kp (m2000002 x1 x2_0 x2_1 x2_2 x2_3 x2_4 x2_5 x2_6 x2_7 x2_8 x2_9 x2_10 x2_11 x2_12 x35) = j2000002 (fun x1 x2_0 x2_1 x2_2 x2_3 x2_4 x2_5 x2_6 x2_7 x2_8 x2_9 x2_10 x2_11 x2_12 => X3 k kp (m3 x1 x2_0 x2_1 x2_2 x2_3 x2_4 x2_5 x2_6 x2_7 x2_8 x2_9 x2_10 x2_11 x2_12)) x1 x2_0 x2_1 x2_2 x2_3 x2_4 x2_5 x2_6 x2_7 x2_8 x2_9 x2_10 x2_11 x2_12 x35 (fun y0 => k (.v (.bool y0)) []) :=
  Eq.mp (by kernel_rfl) ((atP_run (j2000002_ag k kp) (m2000002 x1 x2_0 x2_1 x2_2 x2_3 x2_4 x2_5 x2_6 x2_7 x2_8 x2_9 x2_10 x2_11 x2_12 x35)).trans (j2000002_c k kp (JJ k kp) (LL k kp) x1 x2_0 x2_1 x2_2 x2_3 x2_4 x2_5 x2_6 x2_7 x2_8 x2_9 x2_10 x2_11 x2_12 x35))
theorem j2000002_eq (k kp : KT) (x1 x2_0 x2_1 : Int) (x2_2 x2_3 : LI) (x2_4 : Int) (x2_5 : Bool) (x2_6 : BA) (x2_7 : Zq4) (x2_8 : Zq6) (x2_9 : Zq0) (x2_10 : Bool) (x2_11 : Int) (x2_12 : Zq3) (x35 : Bool) : X2000002 k kp (m2000002 x1 x2_0 x2_1 x2_2 x2_3 x2_4 x2_5 x2_6 x2_7 x2_8 x2_9 x2_10 x2_11 x2_12 x35) = j2000002' x1 x2_0 x2_1 x2_2 x2_3 x2_4 x2_5 x2_6 x2_7 x2_8 x2_9 x2_10 x2_11 x2_12 x35 (fun y0 => k (.v (.bool y0)) []) := by
  rw [j2000002_raw]; simp only [j3_eq]; first | done | rfl
theorem c_c (k kp : KT) (J L : Nat → St → Prop) (x0_0_0_0 x0_0_0_1 : Int) (x0_0_1_0 x0_0_1_1 : LI) (x0_0_2 : Int) (x0_1_0 : Bool) (x0_1_1 : BA) (x0_1_2 : Zq4) (x0_1_3 : Zq6) (x0_1_4 : Zq0) (x0_2 : Bool) (x0_3_0 : Int) (x0_3_1 : Zq3) (x1 : Int) : runC cfg 1000001 J L none'' [] body (topK cfg Try.f7 k kp) (st0 Try.f7 [(.agg [(.v (.int .i64 x0_0_0_0)), (.v (.int .i64 x0_0_0_1)), (.fz Zy2 x0_0_1_0), (.fz Zy2 x0_0_1_1), (.v (.int .i64 x0_0_2)), (.v (.bool x0_1_0)), (.v (.string x0_1_1)), (.fz (Ty.pair Zy2 Zy2) x0_1_2), (.fz Zy0 x0_1_3), (.fz Zy1 x0_1_4), (.v (.bool x0_2)), (.v (.int .i64 x0_3_0)), (.fz Zy4 x0_3_1)]), (.v (.int .i64 x1))] []) = c (fun x1 x2_0 x2_1 x2_2 x2_3 x2_4 x2_5 x2_6 x2_7 x2_8 x2_9 x2_10 x2_11 x2_12 x35 => J 2000002 (m2000002 x1 x2_0 x2_1 x2_2 x2_3 x2_4 x2_5 x2_6 x2_7 x2_8 x2_9 x2_10 x2_11 x2_12 x35)) x0_0_0_0 x0_0_0_1 x0_0_1_0 x0_0_1_1 x0_0_2 x0_1_0 x0_1_1 x0_1_2 x0_1_3 x0_1_4 x0_2 x0_3_0 x0_3_1 x1 (fun y0 => k (.v (.bool y0)) []) := by kernel_rfl
theorem c_ag (k kp : KT) : agPL cfg 1000001 (JJ k kp) (LL k kp) [] body = agPR cfg 1000001 none'' [] body (topK cfg Try.f7 k kp) := by kernel_rfl
theorem body_is : Try.f7.body = some body := by kernel_rfl
theorem c_raw (k kp : KT) (x0_0_0_0 x0_0_0_1 : Int) (x0_0_1_0 x0_0_1_1 : LI) (x0_0_2 : Int) (x0_1_0 : Bool) (x0_1_1 : BA) (x0_1_2 : Zq4) (x0_1_3 : Zq6) (x0_1_4 : Zq0) (x0_2 : Bool) (x0_3_0 : Int) (x0_3_1 : Zq3) (x1 : Int) : funW cfg Try.f7 [(.agg [(.v (.int .i64 x0_0_0_0)), (.v (.int .i64 x0_0_0_1)), (.fz Zy2 x0_0_1_0), (.fz Zy2 x0_0_1_1), (.v (.int .i64 x0_0_2)), (.v (.bool x0_1_0)), (.v (.string x0_1_1)), (.fz (Ty.pair Zy2 Zy2) x0_1_2), (.fz Zy0 x0_1_3), (.fz Zy1 x0_1_4), (.v (.bool x0_2)), (.v (.int .i64 x0_3_0)), (.fz Zy4 x0_3_1)]), (.v (.int .i64 x1))] [] k kp = c (fun x1 x2_0 x2_1 x2_2 x2_3 x2_4 x2_5 x2_6 x2_7 x2_8 x2_9 x2_10 x2_11 x2_12 x35 => X2000002 k kp (m2000002 x1 x2_0 x2_1 x2_2 x2_3 x2_4 x2_5 x2_6 x2_7 x2_8 x2_9 x2_10 x2_11 x2_12 x35)) x0_0_0_0 x0_0_0_1 x0_0_1_0 x0_0_1_1 x0_0_2 x0_1_0 x0_1_1 x0_1_2 x0_1_3 x0_1_4 x0_2 x0_3_0 x0_3_1 x1 (fun y0 => k (.v (.bool y0)) []) :=
  Eq.mp (by kernel_rfl) ((funW_run (AG := none'') body_is (c_ag k kp) [(.agg [(.v (.int .i64 x0_0_0_0)), (.v (.int .i64 x0_0_0_1)), (.fz Zy2 x0_0_1_0), (.fz Zy2 x0_0_1_1), (.v (.int .i64 x0_0_2)), (.v (.bool x0_1_0)), (.v (.string x0_1_1)), (.fz (Ty.pair Zy2 Zy2) x0_1_2), (.fz Zy0 x0_1_3), (.fz Zy1 x0_1_4), (.v (.bool x0_2)), (.v (.int .i64 x0_3_0)), (.fz Zy4 x0_3_1)]), (.v (.int .i64 x1))] []).trans (c_c k kp (JJ k kp) (LL k kp) x0_0_0_0 x0_0_0_1 x0_0_1_0 x0_0_1_1 x0_0_2 x0_1_0 x0_1_1 x0_1_2 x0_1_3 x0_1_4 x0_2 x0_3_0 x0_3_1 x1))
theorem f_eq (k kp : KT) (x0_0_0_0 x0_0_0_1 : Int) (x0_0_1_0 x0_0_1_1 : LI) (x0_0_2 : Int) (x0_1_0 : Bool) (x0_1_1 : BA) (x0_1_2 : Zq4) (x0_1_3 : Zq6) (x0_1_4 : Zq0) (x0_2 : Bool) (x0_3_0 : Int) (x0_3_1 : Zq3) (x1 : Int) : funW cfg Try.f7 [(.agg [(.v (.int .i64 x0_0_0_0)), (.v (.int .i64 x0_0_0_1)), (.fz Zy2 x0_0_1_0), (.fz Zy2 x0_0_1_1), (.v (.int .i64 x0_0_2)), (.v (.bool x0_1_0)), (.v (.string x0_1_1)), (.fz (Ty.pair Zy2 Zy2) x0_1_2), (.fz Zy0 x0_1_3), (.fz Zy1 x0_1_4), (.v (.bool x0_2)), (.v (.int .i64 x0_3_0)), (.fz Zy4 x0_3_1)]), (.v (.int .i64 x1))] [] k kp = f x0_0_0_0 x0_0_0_1 x0_0_1_0 x0_0_1_1 x0_0_2 x0_1_0 x0_1_1 x0_1_2 x0_1_3 x0_1_4 x0_2 x0_3_0 x0_3_1 x1 (fun y0 => k (.v (.bool y0)) []) := by
  rw [f_def, c_raw]; simp only [j2000002_eq]; first | done | rfl
noncomputable def ent0 : Entry := fun args blks k _ => match args, blks with
  | [d0, d1], [] => aAgg 13 d0 fun l => aCons l fun d0_0 l => aCons l fun d0_1 l => aCons l fun d0_2 l => aCons l fun d0_3 l => aCons l fun d0_4 l => aCons l fun d0_5 l => aCons l fun d0_6 l => aCons l fun d0_7 l => aCons l fun d0_8 l => aCons l fun d0_9 l => aCons l fun d0_10 l => aCons l fun d0_11 l => aCons l fun d0_12 l => aNil l (aInt IntKind.i64 d0_0 fun x0_0_0_0 => aInt IntKind.i64 d0_1 fun x0_0_0_1 => aFz Zy2 d0_2 fun x0_0_1_0 => aFz Zy2 d0_3 fun x0_0_1_1 => aInt IntKind.i64 d0_4 fun x0_0_2 => aBool d0_5 fun x0_1_0 => aStr d0_6 fun x0_1_1 => aFz (Ty.pair Zy2 Zy2) d0_7 fun x0_1_2 => aFz Zy0 d0_8 fun x0_1_3 => aFz Zy1 d0_9 fun x0_1_4 => aBool d0_10 fun x0_2 => aInt IntKind.i64 d0_11 fun x0_3_0 => aFz Zy4 d0_12 fun x0_3_1 => aInt IntKind.i64 d1 fun x1 => f x0_0_0_0 x0_0_0_1 x0_0_1_0 x0_0_1_1 x0_0_2 x0_1_0 x0_1_1 x0_1_2 x0_1_3 x0_1_4 x0_2 x0_3_0 x0_3_1 x1 (fun y0 => k (.v (.bool y0)) []))
  | _, _ => False
noncomputable def ent : Entry := fun args blks k kp => ent0 (convB [.cells [none, none, some Zy2, some Zy2, none, none, none, some (Ty.pair Zy2 Zy2), some Zy0, some Zy1, none, none, some Zy4], .no] args) blks k kp
theorem ok : EntOk Try.prog 0 0 7 ent := by
  refine EntOk.convB (EntOk.of (funW_ok (cfg := cfg) (tyOk_of rfl rfl tyL_ok) (eqOk_of (P := Try.prog) rfl rfl (by kernel_rfl)) mixed_ok (tab_ok ?_) Try.func7 (by rfl) (by rfl)) ?_) _
  · intro p hp
    simp only [List.mem_cons, List.not_mem_nil, or_false] at hp
    rcases hp with rfl | rfl | rfl | rfl | rfl | rfl | rfl
    · exact N8.ok
    · exact N19.ok
    · exact N22.ok
    · exact N11.ok
    · exact N24.ok
    · exact N26.ok
    · exact N20.ok
  · intro args blks k kp h k' kp'
    match args, blks, h with
    | [d0, d1], [], h =>
    dsimp only [ent0] at h
    have h9 := aAgg_elim h; clear h; obtain ⟨_, rfl, h⟩ := h9
    have h9 := aCons_elim h; clear h; obtain ⟨d0_0, _, rfl, h⟩ := h9
    have h9 := aCons_elim h; clear h; obtain ⟨d0_1, _, rfl, h⟩ := h9
    have h9 := aCons_elim h; clear h; obtain ⟨d0_2, _, rfl, h⟩ := h9
    have h9 := aCons_elim h; clear h; obtain ⟨d0_3, _, rfl, h⟩ := h9
    have h9 := aCons_elim h; clear h; obtain ⟨d0_4, _, rfl, h⟩ := h9
    have h9 := aCons_elim h; clear h; obtain ⟨d0_5, _, rfl, h⟩ := h9
    have h9 := aCons_elim h; clear h; obtain ⟨d0_6, _, rfl, h⟩ := h9
    have h9 := aCons_elim h; clear h; obtain ⟨d0_7, _, rfl, h⟩ := h9
    have h9 := aCons_elim h; clear h; obtain ⟨d0_8, _, rfl, h⟩ := h9
    have h9 := aCons_elim h; clear h; obtain ⟨d0_9, _, rfl, h⟩ := h9
    have h9 := aCons_elim h; clear h; obtain ⟨d0_10, _, rfl, h⟩ := h9
    have h9 := aCons_elim h; clear h; obtain ⟨d0_11, _, rfl, h⟩ := h9
    have h9 := aCons_elim h; clear h; obtain ⟨d0_12, _, rfl, h⟩ := h9
    have h9 := aNil_elim h; clear h; obtain ⟨rfl, h⟩ := h9
    have h9 := aInt_elim h; clear h; obtain ⟨x0_0_0_0, rfl, h⟩ := h9
    have h9 := aInt_elim h; clear h; obtain ⟨x0_0_0_1, rfl, h⟩ := h9
    have h9 := aFz_elim (t := Zy2) h; clear h; obtain ⟨x0_0_1_0, rfl, h⟩ := h9
    have h9 := aFz_elim (t := Zy2) h; clear h; obtain ⟨x0_0_1_1, rfl, h⟩ := h9
    have h9 := aInt_elim h; clear h; obtain ⟨x0_0_2, rfl, h⟩ := h9
    have h9 := aBool_elim h; clear h; obtain ⟨x0_1_0, rfl, h⟩ := h9
    have h9 := aStr_elim h; clear h; obtain ⟨x0_1_1, rfl, h⟩ := h9
    have h9 := aFz_elim (t := (Ty.pair Zy2 Zy2)) h; clear h; obtain ⟨x0_1_2, rfl, h⟩ := h9
    have h9 := aFz_elim (t := Zy0) h; clear h; obtain ⟨x0_1_3, rfl, h⟩ := h9
    have h9 := aFz_elim (t := Zy1) h; clear h; obtain ⟨x0_1_4, rfl, h⟩ := h9
    have h9 := aBool_elim h; clear h; obtain ⟨x0_2, rfl, h⟩ := h9
    have h9 := aInt_elim h; clear h; obtain ⟨x0_3_0, rfl, h⟩ := h9
    have h9 := aFz_elim (t := Zy4) h; clear h; obtain ⟨x0_3_1, rfl, h⟩ := h9
    have h9 := aInt_elim h; clear h; obtain ⟨x1, rfl, h⟩ := h9
    exact (f_eq k' kp' x0_0_0_0 x0_0_0_1 x0_0_1_0 x0_0_1_1 x0_0_2 x0_1_0 x0_1_1 x0_1_2 x0_1_3 x0_1_4 x0_2 x0_3_0 x0_3_1 x1).symm
end N7
end Go.Proofs.Yh

namespace Go.Proofs.Yh.NotePartsUpto
open Go Go.Aw Go.Proofs Go.Proofs.Ytidclggijmbffaa Go.ChangeShapes Go.WideShapes Go.ChangeAt Go.RowKit
set_option maxRecDepth 100000
set_option maxHeartbeats 4000000
def Pure : Prop := ∀ (x0 : (((Int × Int) × (((List Int) × (List Int)) × Int)) × ((Bool × (ByteArray × (Zq4 × (Zq6 × Zq0)))) × (Bool × (Int × Zq3))))) (w0 : Ty.Wf (Ty.pair (Ty.pair (Ty.pair Zy2 Zy2) (Ty.pair (Ty.pair (Ty.list Zy2) (Ty.list Zy2)) Zy2)) (Ty.pair (Ty.pair Ty.bool (Ty.pair Ty.str (Ty.pair (Ty.list (Ty.pair Zy2 Zy2)) (Ty.pair (Ty.list Zy0) (Ty.list Zy1))))) (Ty.pair Ty.bool (Ty.pair Zy2 (Ty.list Zy4))))) x0) (x1 : Int) (w1 : (Lit.int .i64 x1).wf = true) (hbulk : Ty.bulk (Ty.pair (Ty.pair (Ty.pair Zy2 Zy2) (Ty.pair (Ty.pair (Ty.list Zy2) (Ty.list Zy2)) Zy2)) (Ty.pair (Ty.pair Ty.bool (Ty.pair Ty.str (Ty.pair (Ty.list (Ty.pair Zy2 Zy2)) (Ty.pair (Ty.list Zy0) (Ty.list Zy1))))) (Ty.pair Ty.bool (Ty.pair Zy2 (Ty.list Zy4))))) x0 + 1 ≤ 1048576), N7.f x0.1.1.1 x0.1.1.2 x0.1.2.1.1 x0.1.2.1.2 x0.1.2.2 x0.2.1.1 x0.2.1.2.1 x0.2.1.2.2.1 x0.2.1.2.2.2.1 x0.2.1.2.2.2.2 x0.2.2.1 x0.2.2.2.1 x0.2.2.2.2 x1 (fun y0 => y0 = true)
theorem own : ownKnob Try.prog.godebug = none := by kernel_rfl
theorem laid : laidOutB Try.prog = true := by kernel_rfl
theorem bulkAll {H : Type} : ∀ l : List (DataW H), Rows.uptoBulkAll l = (l.map Rows.uptoBulk).sum
  | [] => rfl
  | d :: r => by rw [Rows.uptoBulkAll, bulkAll r]; rfl
theorem bulkF {H : Type} : BulkF (Rows.uptoBulk (H := H)) where
  one d := by
    cases d with
    | lit l => cases l <;> simp [Rows.uptoBulk]
    | _ => simp [Rows.uptoBulk]
  str bytes := by simp [Rows.uptoBulk]
  slice es sp := by simp only [Rows.uptoBulk, bulkAll]; omega
  agg ps := by simp only [Rows.uptoBulk, bulkAll]; omega
set_option maxRecDepth 100000 in
theorem lifted (pure : Pure) (os : Os) (started : os.Started) (H : Type) (enc : TypeId × Value → H) (F : Stop.Interp) :
    ReturnsInHanded {} Try.checked os 7 .any ((Rows.OpenSpec.upto Rows.notePartsSpec).pre6 enc Try.prog Try.f7 Rows.notePartsUptoRow.domain false) (((Rows.OpenSpec.upto Rows.notePartsSpec).at F).post enc Try.prog Try.f7 false true false false) := by
  refine returnsInHanded_of_cond_sized (C := Try.checked) (s := (Rows.OpenSpec.upto Rows.notePartsSpec)) (k := Rows.uptoSmall) rfl own started (by kernel_rfl) Try.func7
    (OpenSpec.witness (enc := enc) (C := Try.checked) (s := (Rows.OpenSpec.upto Rows.notePartsSpec)) (k := Rows.uptoSmall) rfl false ⟨#[], #[(Value.agg #[(Value.int .i64 (0 : Int)), (Value.int .i64 (0 : Int)), (Value.slice none 0 0), (Value.slice none 0 0), (Value.int .i64 (0 : Int)), (Value.bool false), (Value.string (ByteArray.mk #[])), (Value.slice none 0 0), (Value.slice none 0 0), (Value.slice none 0 0), (Value.bool false), (Value.int .i64 (0 : Int)), (Value.slice none 0 0)]), .int .i64 0], []⟩ 60 (by kernel_rfl) (by kernel_rfl) (by kernel_rfl)
      (x := ([(.agg [(.agg [(.agg [(.lit (.int .i64 0)), (.lit (.int .i64 0))]), (.agg [.nil, .nil]), (.lit (.int .i64 0))]), (.agg [(.lit (.bool false)), (.lit (.string [])), .nil, .nil, .nil]), (.lit (.bool false)), (.agg [(.lit (.int .i64 0)), .nil])]), (.lit (.int .i64 0))], [], [])) (by kernel_rfl) rfl (by kernel_rfl)) ?_
  intro W base args ds gs before hval0 hW hcnd hk hsz0 _
  have hsz : (DataW.weightsEach Try.prog (Try.f7.params.toList ++ Rows.notePartsSpec.plain.varTypes Try.prog) (ds ++ gs)).all (· ≤ reachBytes) = true := hsz0
  have hval : ∀ (j : Nat) t v, Try.f7.params[j]? = some t → args[j]? = some v → Value.okWide Try.prog W .any base t v := hval0
  have hW' := hW
  have hlt := hW.lt
  obtain ⟨p, q, hA0, hV, rfl, hfz, hnd⟩ := hW
  have hA : DataW.TrodAll enc Try.prog W 0 (fun _ => true) true Try.f7.params.toList args.toList ds p := hA0
  have hAk := hA
  rw [Try.params7] at hA hval hsz
  obtain ⟨v0, vs0, d0, ds0, p0, q0, hargs, rfl, rfl, h0, r0⟩ := trodAll_cons hA
  obtain ⟨v1, vs1, d1, ds1, p1, q1, rfl, rfl, rfl, h1, r1⟩ := trodAll_cons r0
  obtain ⟨rfl, rfl, rfl⟩ := trodAll_nil r1
  obtain rfl : args = #[v0, v1] := by cases args; simp_all
  obtain ⟨rfl, rfl⟩ := trodVars_none hV
  obtain ⟨x0, k0, w0, q0⟩ := arg_agg (tf := 0) (tw := 0) (n := 60) (ty := (Ty.pair (Ty.pair (Ty.pair Zy2 Zy2) (Ty.pair (Ty.pair (Ty.list Zy2) (Ty.list Zy2)) Zy2)) (Ty.pair (Ty.pair Ty.bool (Ty.pair Ty.str (Ty.pair (Ty.list (Ty.pair Zy2 Zy2)) (Ty.pair (Ty.list Zy0) (Ty.list Zy1))))) (Ty.pair Ty.bool (Ty.pair Zy2 (Ty.list Zy4)))))) (.inl ⟨_, Try.underlying52⟩) (hval 0 52 v0 rfl rfl) (by kernel_rfl) h0 (fun m hm => of_decide_eq_true (List.all_eq_true.1 hsz m (DataW.weights_mem_each (j := 0) rfl rfl m hm)))
  obtain ⟨x1, k1, w1⟩ := arg_int (tf := 0) (tw := 0) (n := 1) (k := IntKind.i64) (by kernel_rfl) (hval 1 3 v1 rfl rfl) h1
  have hbulk : Ty.bulk (Ty.pair (Ty.pair (Ty.pair Zy2 Zy2) (Ty.pair (Ty.pair (Ty.list Zy2) (Ty.list Zy2)) Zy2)) (Ty.pair (Ty.pair Ty.bool (Ty.pair Ty.str (Ty.pair (Ty.list (Ty.pair Zy2 Zy2)) (Ty.pair (Ty.list Zy0) (Ty.list Zy1))))) (Ty.pair Ty.bool (Ty.pair Zy2 (Ty.list Zy4))))) x0 + 1 ≤ 1048576 := by
    have h1 := of_decide_eq_true hk
    simp only [List.append_nil, Rows.uptoBulkAll] at h1
    have h2 := And.intro trivial (And.intro trivial trivial)
    have e0 := q0 _ bulkF
    have e1 := bulkF.one d1
    omega
  refine (law_of N7.ok (W := W) (us := [v0, v1]) (ds := [.agg (expand (Ty.pair (Ty.pair (Ty.pair Zy2 Zy2) (Ty.pair (Ty.pair (Ty.list Zy2) (Ty.list Zy2)) Zy2)) (Ty.pair (Ty.pair Ty.bool (Ty.pair Ty.str (Ty.pair (Ty.list (Ty.pair Zy2 Zy2)) (Ty.pair (Ty.list Zy0) (Ty.list Zy1))))) (Ty.pair Ty.bool (Ty.pair Zy2 (Ty.list Zy4))))) x0), .v (.int .i64 x1)]) ⟨_, _, rfl, k0, ⟨_, _, rfl, k1, by simp only [RepL]⟩⟩ (show N7.ent _ _ _ _ from pure x0 w0 x1 w1 hbulk)).mono fun e W' ⟨he, bel⟩ => ?_
  subst he
  exact ⟨_, rfl, _, _, _, [], _, [], hW', trodAll_mk1 (shut_bool (by kernel_rfl) _), trodAll_below laid bel (by kernel_rfl) hAk (fun x hx => hlt x (by simpa using hx)), rfl, bel.frame _, fun h => by cases h⟩
theorem over (pure : Pure) : Rows.notePartsUptoRow.holds Try.pinned (Rows.OpenSpec.upto Rows.notePartsSpec) :=
  OpenClaim.holds_of_cond 7 Try.f7 rfl rfl rfl rfl rfl rfl rfl ⟨rfl, rfl, rfl, rfl, rfl⟩ rfl rfl rfl rfl rfl (by kernel_rfl) Try.func7 (by kernel_rfl)
    (of_decide_eq_true (by kernel_rfl)) (by unfold Func.isWrapper; first | (rw [if_pos (by decide +kernel)]; kernel_rfl) | (rw [if_neg (by decide +kernel)]; exact ⟨rfl, rfl⟩))
    (fun os started H enc _ F => lifted pure os started H enc F)
theorem holds (pure : Pure) : Rows.NotePartsUptoSaid := over pure
end Go.Proofs.Yh.NotePartsUpto

namespace Go.Proofs.Yh
open Go Go.Aw Go.Proofs Go.RowKit
def Lies (x t : ByteArray) : Prop := ∃ A B, t = A ++ x ++ B
theorem Lies.refl (x : ByteArray) : Lies x x := ⟨ByteArray.empty, ByteArray.empty, by simp⟩
theorem Lies.ahead {x t : ByteArray} (h : Lies x t) (a : ByteArray) : Lies x (a ++ t) := by
  obtain ⟨A, B, rfl⟩ := h
  exact ⟨a ++ A, B, by simp only [ByteArray.append_assoc]⟩
theorem Lies.behind {x t : ByteArray} (h : Lies x t) (b : ByteArray) : Lies x (t ++ b) := by
  obtain ⟨A, B, rfl⟩ := h
  exact ⟨A, B ++ b, by simp only [ByteArray.append_assoc]⟩
theorem Lies.trans {x y t : ByteArray} (h : Lies x y) (g : Lies y t) : Lies x t := by
  obtain ⟨A, B, rfl⟩ := g
  exact (h.ahead A).behind B
theorem lies_join (sep : ByteArray) : ∀ (n : Nat) (xs : List ByteArray), xs.length = n → ∀ x ∈ xs, Lies x (joinB xs sep)
  | 0, xs, hn, x, hx => by rw [List.length_eq_zero_iff.1 hn] at hx; cases hx
  | n + 1, xs, hn, x, hx => by
    have hne : xs ≠ [] := by intro e; rw [e] at hn; simp at hn
    obtain ⟨m, y, rfl⟩ : ∃ m y, xs = m ++ [y] := ⟨xs.dropLast, xs.getLast hne, (List.dropLast_concat_getLast hne).symm⟩
    rw [joinB_snoc]
    rcases List.mem_append.1 hx with hx | hx
    · have := lies_join sep n m (by simpa using hn) x hx
      rw [if_neg (fun e => by rw [e] at hx; cases hx)]
      exact (this.behind _).behind _
    · simp at hx; subst hx
      split
      · exact Lies.refl _
      · exact (Lies.refl _).ahead _
theorem rows_flat : ∀ (n : Nat) (l : List SegT), l.length = n → (rowsOf Prod.fst l).flatten = l
  | 0, l, hn => by rw [List.length_eq_zero_iff.1 hn]; rfl
  | n + 1, l, hn => by
    have hne : l ≠ [] := by intro e; rw [e] at hn; simp at hn
    obtain ⟨m, x, rfl⟩ : ∃ m x, l = m ++ [x] := ⟨l.dropLast, l.getLast hne, (List.dropLast_concat_getLast hne).symm⟩
    have ih := rows_flat n m (by simpa using hn)
    rw [rowsOf_snoc]
    split
    · rcases List.eq_nil_or_concat (rowsOf Prod.fst m) with h0 | ⟨a, q, h0⟩
      · rw [h0] at ih ⊢
        simp only [List.flatten_nil] at ih
        rw [← ih]; rfl
      · rw [h0, List.concat_eq_append] at ih ⊢
        rw [addLast_snoc]
        rw [← ih]
        simp
    · rw [List.flatten_append, ih]; simp
theorem seg_lies (n : Int) (l : List SegT) (s : SegT) (hs : s ∈ l) : Lies (segS s) (allocS n l) := by
  have h1 : s ∈ (rowsOf Prod.fst l).flatten := by rw [rows_flat _ l rfl]; exact hs
  obtain ⟨r, hr, hsr⟩ := List.mem_flatten.1 h1
  have h2 : Lies (segS s) (rowS r) := by
    unfold rowS
    exact ((lies_join cbB _ _ rfl _ (List.mem_map.2 ⟨s, hsr, rfl⟩)).ahead _).behind _
  have h3 : Lies (rowS r) (catB ((rowsOf Prod.fst l).map rowS)) := lies_join _ _ _ rfl _ (List.mem_map.2 ⟨r, hr, rfl⟩)
  unfold allocS
  exact ((h2.trans h3).ahead _).behind _
theorem ext_mid (A x B : ByteArray) : (A ++ x ++ B).extract A.size (A.size + x.size) = x := by
  apply eq_of_ofBytes
  rw [ofBytes_extract, ofBytes_append, ofBytes_append]
  have hA := ofBytes_length A
  have hx := ofBytes_length x
  rw [← hA, ← hx, List.append_assoc, ← List.append_assoc (ofBytes A), ← List.length_append, List.take_left, List.drop_left]
end Go.Proofs.Yh
namespace Go.Proofs.Yh.NotePartsUpto
open Go Go.Aw Go.Proofs Go.RowKit
theorem pure : Pure := by
  intro u w kk wk hbulk
  have hz := unit_fz u (Nat.le_trans (Nat.le_add_right _ _) hbulk)
  have hk := wf64 wk
  obtain ⟨⟨⟨r0, r1⟩, ⟨c0, c1⟩, slots⟩, f, has, n, l⟩ := u
  show N7.f r0 r1 c0 c1 slots f.1 f.2.1 f.2.2.1 f.2.2.2.1 f.2.2.2.2 has n l kk _
  obtain ⟨⟨⟨w0, w1⟩, ⟨w2, w3⟩, w4⟩, w5, w6, w7, w8⟩ := w
  rw [N7.f_def]
  unfold N7.f0 N7.c N7.j2000002' N7.j2000002 N7.j3' N7.j3 N7.j6' N7.j6 N7.j2000007' N7.j2000007
  have W : N19.f (fun y => y = true) := nworks_s _ rfl
  refine Sh.large_s f hz _ ?_ ?_
  · rw [br_true]; exact W
  · rw [br_false]
    refine br_of (fun h1 => W) (fun h1 => br_of (fun h2 => W) (fun h2 => br_of (fun h3 => W) (fun h3 => ?_)))
    have h1 := of_decide_eq_false h1
    have h2 := of_decide_eq_false h2
    have h3 := of_decide_eq_false h3
    have U : UOk r0 r1 c0 c1 slots f n l := ⟨wf64 w0, wf64 w1, wf64 w4, by omega, by omega, fun x hx => wf64 (w2.2 x hx), fun x hx => wf64 (w3.2 x hx), Sh.fu_wf f w5, hz, wf64 w7, by omega, fun s hs => seg_wf s (w8.2 s hs)⟩
    have a1 := targetS_size r0 r1 c0 c1 slots U.l0 U.l1
    have a2 := Sh.funcS_size f
    have a3 := allocS_size n l U.hl
    have a4 : Sh.funZ f ≤ 1000000000 := hz
    have last : ∀ s, s = unitS r0 r1 c0 c1 slots f has n l → N7.j16' r0 r1 c0 c1 slots f.1 f.2.1 f.2.2.1 f.2.2.2.1 f.2.2.2.2 has n l s (fun y => y = true) := by
      intro s hs
      unfold N7.j16' N7.j16
      refine unit_s U has _ ?_
      rw [hs, beqS_self, br_true]
      exact W
    have rest : ∀ s, s = unitS r0 r1 c0 c1 slots f has n l → br (decide (kk ≥ 0)) (br (decide (kk < ((l.length : Nat) : Int))) ((inB 0 kk (((l.length : Nat) : Int) - 1)) ∧ N26.f (l.getD (Int.toNat kk) dS).1 (l.getD (Int.toNat kk) dS).2.1 (l.getD (Int.toNat kk) dS).2.2.1 (l.getD (Int.toNat kk) dS).2.2.2.1 (l.getD (Int.toNat kk) dS).2.2.2.2.1 (l.getD (Int.toNat kk) dS).2.2.2.2.2 (fun y5 => N24.f n l (fun y6 => N7.l11' r0 r1 c0 c1 slots f.1 f.2.1 f.2.2.1 f.2.2.2.1 f.2.2.2.2 has n l s y5 y6 false 0 (fun y => y = true)))) (N7.j16' r0 r1 c0 c1 slots f.1 f.2.1 f.2.2.1 f.2.2.2.1 f.2.2.2.2 has n l s (fun y => y = true)))
        (br false ((inB 0 kk (((l.length : Nat) : Int) - 1)) ∧ N26.f (l.getD (Int.toNat kk) dS).1 (l.getD (Int.toNat kk) dS).2.1 (l.getD (Int.toNat kk) dS).2.2.1 (l.getD (Int.toNat kk) dS).2.2.2.1 (l.getD (Int.toNat kk) dS).2.2.2.2.1 (l.getD (Int.toNat kk) dS).2.2.2.2.2 (fun y5 => N24.f n l (fun y6 => N7.l11' r0 r1 c0 c1 slots f.1 f.2.1 f.2.2.1 f.2.2.2.1 f.2.2.2.2 has n l s y5 y6 false 0 (fun y => y = true)))) (N7.j16' r0 r1 c0 c1 slots f.1 f.2.1 f.2.2.1 f.2.2.2.1 f.2.2.2.2 has n l s (fun y => y = true))) := by
      intro s hs
      refine br_of (fun g1 => br_of (fun g2 => ?_) (fun g2 => last s hs)) (fun g1 => by rw [br_false]; exact last s hs)
      have g1 := of_decide_eq_true g1
      have g2 := of_decide_eq_true g2
      obtain ⟨i, rfl⟩ : ∃ i : Nat, kk = i := ⟨kk.toNat, by omega⟩
      have hi : i < l.length := by omega
      have hm := getD_memA (d := dS) hi
      refine ⟨inBk hi, ?_⟩
      rw [Int.toNat_natCast]
      refine seg_s _ (U.lo _ hm) _ (alloc_s n l U.hn U.hl U.lo _ ?_)
      have ht := segS_size (l.getD i dS)
      obtain ⟨A, B, hAB⟩ := seg_lies n l _ hm
      generalize segS (l.getD i dS) = t at *
      generalize allocS n l = al at *
      have hsz : al.size = A.size + t.size + B.size := by rw [hAB, ByteArray.size_append, ByteArray.size_append]
      unfold N7.l11'
      refine loopS_of (fun st : Bool × Int => ∃ j : Nat, st.2 = j ∧ j + t.size ≤ al.size + 1 ∧ (st.1 = true ∨ j ≤ A.size)) (fun st => al.size + 1 - st.2.toNat) ?_ ⟨0, rfl, by omega, .inr (Nat.zero_le _)⟩
      rintro again ⟨fd, x⟩ ⟨j, f1, f2, f3⟩ hag
      simp only at f1 f3 hag
      subst f1
      unfold N7.l11 N7.j12' N7.j12 N7.j14' N7.j14
      dsimp only
      have ew : IntKind.i64.wrap ((j : Int) + ((t.size : Nat) : Int)) = ((j + t.size : Nat) : Int) := by rw [wrap_id (by omega) (by omega)]; omega
      have ew1 : IntKind.i64.wrap ((j : Int) + 1) = ((j + 1 : Nat) : Int) := by rw [wrap_id (by omega) (by omega)]; omega
      rw [ew]
      refine br_of (fun hle => ?_) (fun hgt => ?_)
      · have hle := of_decide_eq_true hle
        refine br_of (fun hf => ?_) (fun hf => ?_)
        · rw [ew1]
          exact hag _ ⟨j + 1, rfl, by omega, .inl rfl⟩ (by simp only; omega)
        · refine ⟨⟨by omega, by omega, by omega⟩, ?_⟩
          rw [ew1]
          refine hag _ ⟨j + 1, rfl, by omega, ?_⟩ (by simp only; omega)
          rcases f3 with f3 | f3
          · rw [f3] at hf; cases hf
          · rcases Nat.lt_or_ge j A.size with hj | hj
            · exact .inr hj
            · left
              have : j = A.size := by omega
              subst this
              simp only [Int.toNat_natCast]
              rw [hAB, ext_mid, beqS_self]
      · have hgt := of_decide_eq_false hgt
        have : fd = true := by
          rcases f3 with f3 | f3
          · exact f3
          · omega
        subst this
        exact last s hs
    refine target_s _ _ _ _ _ U.h0 U.h1 U.hs U.l0 U.l1 U.i0 U.i1 _ (Sh.funcr_s f U.fo U.fz _ ⟨by omega, br_of (fun hb => ?_) (fun hb => ?_)⟩)
    · refine alloc_s n l U.hn U.hl U.lo _ ⟨by rw [ByteArray.size_append]; omega, rest _ ?_⟩
      unfold unitS; rw [hb]; rfl
    · refine rest _ ?_
      unfold unitS; rw [hb]; rfl
theorem proved : Go.Proofs.Ytidclggijmbffaa.Rows.NotePartsUptoSaid := holds pure
end Go.Proofs.Yh.NotePartsUpto

namespace Go.Proofs.Ytidclggijmbffaa
/-- The statement. -/
theorem notePartsUpto_holds : Rows.NotePartsUptoSaid := Go.Proofs.Yh.NotePartsUpto.proved
#print axioms notePartsUpto_holds
end Go.Proofs.Ytidclggijmbffaa
