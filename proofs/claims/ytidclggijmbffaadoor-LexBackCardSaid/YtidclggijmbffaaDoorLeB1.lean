/- Functions of the program as plain functions, each with the proof that the code comes to them. -/
import Derived.Test.YtidclggijmbffaaDoorLeB0
set_option linter.unusedVariables false
set_option linter.unusedSimpArgs false
namespace Go.Proofs.Ye
open Go Go.Aw Go.Proofs Go.RowKit
theorem letter_s (x : Int) (k : Bool → Prop) : N41.f x k ↔ k (isL x) := by
  rw [N41.f_def]
  unfold N41.f0 N41.c isL
  simp only [br_dec]
  by_cases h1 : 97 ≤ x <;> by_cases h2 : x ≤ 122 <;> simp [h1, h2, BEq.beq]
theorem letterr_s (x : Int) (k : Bool → Prop) : N65.f x k ↔ k (isL x) := by
  rw [N65.f_def]
  unfold N65.f0 N65.c isL
  simp only [br_dec]
  by_cases h1 : 97 ≤ x <;> by_cases h2 : x ≤ 122 <;> simp [h1, h2, BEq.beq]
theorem sign_s (x : Int) (k : Bool → Prop) : N74.f x k ↔ k (isS x) := by
  rw [N74.f_def]
  unfold N74.f0 N74.c isS
  rw [letter_s]
  cases isL x
  · simp only [br_false, br_dec]
    by_cases h1 : 48 ≤ x <;> simp [h1]
  · simp
theorem nscan_s (s : ByteArray) (hs : s.size ≤ reachBytes) (a : Int) (k : Int → Prop) (h : k (scanN (ofBytes s) a)) : N62.f s a k := by
  have hr : reachBytes < 2 ^ 47 := reachBytes_lt
  have hl := ofBytes_length s
  rw [N62.f_def]
  unfold N62.f0 N62.c N62.j2000002' N62.j2000002
  dsimp only
  unfold scanN at h
  rw [hl] at h
  refine br_of (fun h0 => ?_) (fun h0 => br_of (fun h1 => ?_) (fun h1 => ?_))
  · rw [if_pos (.inl (of_decide_eq_true h0))] at h; exact h
  · rw [if_pos (.inr (.inl (of_decide_eq_true h1)))] at h; exact h
  · have h0 := of_decide_eq_false h0
    have h1 := of_decide_eq_false h1
    obtain ⟨p, rfl⟩ : ∃ p : Nat, a = p := ⟨a.toNat, by omega⟩
    rw [Int.toNat_natCast] at h
    refine ⟨⟨by omega, by omega, by omega⟩, (letter_s _ _).2 ?_⟩
    rw [byteAt_eq]
    cases hL : isL ((ofBytes s).getD p 0) with
    | false => rw [if_pos (.inr (.inr hL))] at h; exact h
    | true =>
      rw [if_neg (by rw [hL]; simp; omega)] at h
      simp only [Bool.not_true, br_false]
      unfold N62.j3' N62.j3 N62.l3'
      have hrl := runS_le ((ofBytes s).drop p)
      rw [List.length_drop, hl] at hrl
      refine loopS_of (fun x : Int => ∃ j : Nat, x = ((p + j : Nat) : Int) ∧ j ≤ runS ((ofBytes s).drop p)) (fun x => (s.size - x).toNat) ?_ ⟨0, rfl, Nat.zero_le _⟩
      rintro again x ⟨j, rfl, hj⟩ hag
      unfold N62.l3 N62.j4' N62.j4 N62.j5' N62.j5
      dsimp only
      refine br_of (fun hlt => ?_) (fun hge => ?_)
      · have hlt := of_decide_eq_true hlt
        refine ⟨⟨by omega, by omega, by omega⟩, (sign_s _ _).2 ?_⟩
        rw [byteAt_eq]
        have ew : IntKind.i64.wrap (((p + j : Nat) : Int) + 1) = ((p + (j + 1) : Nat) : Int) := by rw [wrap_id (by omega) (by omega)]; omega
        rw [ew]
        cases hS : isS ((ofBytes s).getD (p + j) 0) with
        | true =>
          refine hag _ ⟨j + 1, rfl, ?_⟩ (by omega)
          rcases Nat.lt_or_ge j (runS ((ofBytes s).drop p)) with hh | hh
          · omega
          · have := runS_step (l := ofBytes s) (i := p) (j := j) (by omega) (by omega)
            rw [hS] at this; cases this
        | false =>
          have : j = runS ((ofBytes s).drop p) := by
            rcases Nat.lt_or_ge j (runS ((ofBytes s).drop p)) with hh | hh
            · have := runS_in hh; rw [hS] at this; cases this
            · omega
          rw [← this] at h; exact h
      · have hge := of_decide_eq_false hge
        have : j = runS ((ofBytes s).drop p) := by omega
        rw [← this] at h; exact h
theorem nscanr_s (s : ByteArray) (hs : s.size ≤ reachBytes) (a : Int) (k : Int → Prop) (h : k (scanN (ofBytes s) a)) : N48.f s a k := by
  have hr : reachBytes < 2 ^ 47 := reachBytes_lt
  have hl := ofBytes_length s
  rw [N48.f_def]
  unfold N48.f0 N48.c N48.j2000002' N48.j2000002
  dsimp only
  unfold scanN at h
  rw [hl] at h
  refine br_of (fun h0 => ?_) (fun h0 => br_of (fun h1 => ?_) (fun h1 => ?_))
  · rw [if_pos (.inl (of_decide_eq_true h0))] at h; exact h
  · rw [if_pos (.inr (.inl (of_decide_eq_true h1)))] at h; exact h
  · have h0 := of_decide_eq_false h0
    have h1 := of_decide_eq_false h1
    obtain ⟨p, rfl⟩ : ∃ p : Nat, a = p := ⟨a.toNat, by omega⟩
    rw [Int.toNat_natCast] at h
    refine ⟨⟨by omega, by omega, by omega⟩, (letterr_s _ _).2 ?_⟩
    rw [byteAt_eq]
    cases hL : isL ((ofBytes s).getD p 0) with
    | false => rw [if_pos (.inr (.inr hL))] at h; exact h
    | true =>
      rw [if_neg (by rw [hL]; simp; omega)] at h
      simp only [Bool.not_true, br_false]
      unfold N48.j3' N48.j3 N48.l4'
      have hrl := runS_le ((ofBytes s).drop p)
      rw [List.length_drop, hl] at hrl
      have h1r : 1 ≤ runS ((ofBytes s).drop p) := by
        rw [drop_get (d := 0) (by omega)]
        unfold runS
        rw [if_pos (isS_of_isL hL)]; omega
      have ew0 : IntKind.i64.wrap ((p : Int) + 1) = ((p + 1 : Nat) : Int) := by rw [wrap_id (by omega) (by omega)]; omega
      rw [ew0]
      refine loopS_of (fun x : Int => ∃ j : Nat, x = ((p + j : Nat) : Int) ∧ j ≤ runS ((ofBytes s).drop p)) (fun x => (s.size - x).toNat) ?_ ⟨1, rfl, h1r⟩
      rintro again x ⟨j, rfl, hj⟩ hag
      unfold N48.l4 N48.j5' N48.j5 N48.j6' N48.j6
      dsimp only
      have stop : (p + j < s.size → isS ((ofBytes s).getD (p + j) 0) = false) → k ((p + j : Nat) : Int) := by
        intro hn
        have : j = runS ((ofBytes s).drop p) := by
          rcases Nat.lt_or_ge j (runS ((ofBytes s).drop p)) with hh | hh
          · have h2 := runS_in hh; rw [hn (by omega)] at h2; cases h2
          · omega
        rw [← this] at h; exact h
      refine br_of (fun hlt => ?_) (fun hge => stop (fun hh => by have := of_decide_eq_false hge; omega))
      have hlt := of_decide_eq_true hlt
      have hin : inB 0 ((p + j : Nat) : Int) ((s.size : Int) - 1) := ⟨by omega, by omega, by omega⟩
      refine ⟨hin, (letterr_s _ _).2 ?_⟩
      rw [byteAt_eq]
      have ew : IntKind.i64.wrap (((p + j : Nat) : Int) + 1) = ((p + (j + 1) : Nat) : Int) := by rw [wrap_id (by omega) (by omega)]; omega
      rw [ew]
      have go : isS ((ofBytes s).getD (p + j) 0) = true → again ((p + (j + 1) : Nat) : Int) := by
        intro hS
        refine hag _ ⟨j + 1, rfl, ?_⟩ (by omega)
        rcases Nat.lt_or_ge j (runS ((ofBytes s).drop p)) with hh | hh
        · omega
        · have := runS_step (l := ofBytes s) (i := p) (j := j) (by omega) (by omega)
          rw [hS] at this; cases this
      cases hL2 : isL ((ofBytes s).getD (p + j) 0) with
      | true => exact go (isS_of_isL hL2)
      | false =>
        simp only [br_false]
        refine ⟨hin, br_of (fun h4 => ⟨hin, br_of (fun h5 => ?_) (fun h5 => stop (fun _ => ?_))⟩) (fun h4 => stop (fun _ => ?_))⟩
        · have h4 := of_decide_eq_true h4
          have h5 := of_decide_eq_true h5
          exact go (isS_yes (by omega) (by omega))
        · have h5 := of_decide_eq_false h5
          exact isS_no hL2 (.inr (by omega))
        · have h4 := of_decide_eq_false h4
          exact isS_no hL2 (.inl (by omega))
end Go.Proofs.Ye

namespace Go.Proofs.Ye
open Go Go.Aw Go.Proofs
set_option maxRecDepth 100000
set_option maxHeartbeats 4000000
namespace N51
noncomputable def cfg : Cfg := { P := Tryd.prog, tf := 49, tw := 0, ty := tys, E := tab [], atSeq := tab [(2000011, ⟨[(0, .keep), (18, .keep)]⟩), (12, ⟨[(0, .keep)]⟩)], atLoop := tab [], outs := [], eqT := tab [], bT := tab [] }
noncomputable def body : Code := bodyOf Tryd.f51
def j2000011 (j12 : Int → Prop) (x0 : Int) (x18 : Bool) (k : BA → Prop) : Prop :=
  (br x18 (k (bytesOf ([x0] : List Int))) (j12 x0))
def j12 (x0 : Int) (k : BA → Prop) : Prop :=
  (((16 : Int) ≠ 0) ∧ (((16 : Int) ≠ 0) ∧ ((inB (IntKind.u8.wrap (Int.tdiv x0 (16 : Int))) (IntKind.u8.wrap ((IntKind.u8.wrap (Int.tdiv x0 (16 : Int))) + (1 : Int))) ((((ByteArray.mk #[48, 49, 50, 51, 52, 53, 54, 55, 56, 57, 97, 98, 99, 100, 101, 102])).size : Nat) : Int)) ∧ ((((ByteArray.mk #[92, 120])).size + ((ByteArray.extract (ByteArray.mk #[48, 49, 50, 51, 52, 53, 54, 55, 56, 57, 97, 98, 99, 100, 101, 102]) (Int.toNat (IntKind.u8.wrap (Int.tdiv x0 (16 : Int)))) (Int.toNat (IntKind.u8.wrap ((IntKind.u8.wrap (Int.tdiv x0 (16 : Int))) + (1 : Int)))))).size ≤ 9223372036854775807) ∧ (((16 : Int) ≠ 0) ∧ (((16 : Int) ≠ 0) ∧ ((inB (Int.tmod x0 (16 : Int)) (IntKind.u8.wrap ((Int.tmod x0 (16 : Int)) + (1 : Int))) ((((ByteArray.mk #[48, 49, 50, 51, 52, 53, 54, 55, 56, 57, 97, 98, 99, 100, 101, 102])).size : Nat) : Int)) ∧ (((((ByteArray.mk #[92, 120]) ++ (ByteArray.extract (ByteArray.mk #[48, 49, 50, 51, 52, 53, 54, 55, 56, 57, 97, 98, 99, 100, 101, 102]) (Int.toNat (IntKind.u8.wrap (Int.tdiv x0 (16 : Int)))) (Int.toNat (IntKind.u8.wrap ((IntKind.u8.wrap (Int.tdiv x0 (16 : Int))) + (1 : Int))))))).size + ((ByteArray.extract (ByteArray.mk #[48, 49, 50, 51, 52, 53, 54, 55, 56, 57, 97, 98, 99, 100, 101, 102]) (Int.toNat (Int.tmod x0 (16 : Int))) (Int.toNat (IntKind.u8.wrap ((Int.tmod x0 (16 : Int)) + (1 : Int)))))).size ≤ 9223372036854775807) ∧ (k (((ByteArray.mk #[92, 120]) ++ (ByteArray.extract (ByteArray.mk #[48, 49, 50, 51, 52, 53, 54, 55, 56, 57, 97, 98, 99, 100, 101, 102]) (Int.toNat (IntKind.u8.wrap (Int.tdiv x0 (16 : Int)))) (Int.toNat (IntKind.u8.wrap ((IntKind.u8.wrap (Int.tdiv x0 (16 : Int))) + (1 : Int)))))) ++ (ByteArray.extract (ByteArray.mk #[48, 49, 50, 51, 52, 53, 54, 55, 56, 57, 97, 98, 99, 100, 101, 102]) (Int.toNat (Int.tmod x0 (16 : Int))) (Int.toNat (IntKind.u8.wrap ((Int.tmod x0 (16 : Int)) + (1 : Int)))))))))))))))
def c (j2000011 : Int → Bool → Prop) (x0 : Int) (k : BA → Prop) : Prop :=
  (br (x0 == (10 : Int)) (k (ByteArray.mk #[92, 110])) (br (x0 == (9 : Int)) (k (ByteArray.mk #[92, 116])) (br (x0 == (34 : Int)) (k (ByteArray.mk #[92, 34])) (br (x0 == (92 : Int)) (k (ByteArray.mk #[92, 92])) (br (decide (x0 ≥ (32 : Int))) (j2000011 x0 (decide (x0 ≤ (126 : Int)))) (j2000011 x0 false))))))
def j12' (x0 : Int) (k : BA → Prop) : Prop := j12 x0 k
def j2000011' (x0 : Int) (x18 : Bool) (k : BA → Prop) : Prop := j2000011 (fun x0 => j12' x0 k) x0 x18 k
def f0 (x0 : Int) (k : BA → Prop) : Prop := c (fun x0 x18 => j2000011' x0 x18 k) x0 k
theorem f_ex : ∃ g, g = f0 := ⟨_, rfl⟩
noncomputable def f := Classical.choose f_ex
theorem f_def : f = f0 := Classical.choose_spec f_ex
def m2000011 (x0 : Int) (x18 : Bool) : St := { tmps := mkT 38 0 [(0, (.v (.int IntKind.u8 x0))), (18, (.v (.bool x18)))], hp := [], m := 0 }
def m12 (x0 : Int) : St := { tmps := mkT 38 0 [(0, (.v (.int IntKind.u8 x0)))], hp := [], m := 0 }
noncomputable def X2000011 (k kp : KT) : St → Prop := atP cfg (pick none' []) [1, 1, 0, 1] body (topK cfg Tryd.f51 k kp)
noncomputable def X12 (k kp : KT) : St → Prop := atP cfg (pick none' []) [1, 1, 1] body (topK cfg Tryd.f51 k kp)
noncomputable def JJ (k kp : KT) : Nat → St → Prop := pick none' [(2000011, X2000011 k kp), (12, X12 k kp)]
noncomputable def LL (k kp : KT) : Nat → St → Prop := pick none' []
theorem j12_c (k kp : KT) (J L : Nat → St → Prop) (x0 : Int) : runC cfg 12 J L (pick none' []) [1, 1, 1] body (topK cfg Tryd.f51 k kp) (m12 x0) = j12 x0 (fun y0 => k (.v (.string y0)) []) := by kernel_rfl
theorem j12_ag (k kp : KT) : agPL cfg 12 (JJ k kp) (LL k kp) [1, 1, 1] body = agPR cfg 12 (pick none' []) [1, 1, 1] body (topK cfg Tryd.f51 k kp) := by kernel_rfl
theorem j12_raw (k kp : KT) (x0 : Int) : X12 k kp (m12 x0) = j12 x0 (fun y0 => k (.v (.string y0)) []) :=
  Eq.mp (by kernel_rfl) ((atP_run (j12_ag k kp) (m12 x0)).trans (j12_c k kp (JJ k kp) (LL k kp) x0))
theorem j12_eq (k kp : KT) (x0 : Int) : X12 k kp (m12 x0) = j12' x0 (fun y0 => k (.v (.string y0)) []) := by
  rw [j12_raw]; rfl
theorem j2000011_c (k kp : KT) (J L : Nat → St → Prop) (x0 : Int) (x18 : Bool) : runC cfg 2000011 J L (pick none' []) [1, 1, 0, 1] body (topK cfg Tryd.f51 k kp) (m2000011 x0 x18) = j2000011 (fun x0 => J 12 (m12 x0)) x0 x18 (fun y0 => k (.v (.string y0)) []) := by kernel_rfl
theorem j2000011_ag (k kp : KT) : agPL cfg 2000011 (JJ k kp) (LL k kp) [1, 1, 0, 1] body = agPR cfg 2000011 (pick none' []) [1, 1, 0, 1] body (topK cfg Tryd.f51 k kp) := by kernel_rfl
theorem j2000011_raw (k kp : KT) (x0 : Int) (x18 : Bool) : X2000011 k kp (m2000011 x0 x18) = j2000011 (fun x0 => X12 k kp (m12 x0)) x0 x18 (fun y0 => k (.v (.string y0)) []) :=
  Eq.mp (by kernel_rfl) ((atP_run (j2000011_ag k kp) (m2000011 x0 x18)).trans (j2000011_c k kp (JJ k kp) (LL k kp) x0 x18))
theorem j2000011_eq (k kp : KT) (x0 : Int) (x18 : Bool) : X2000011 k kp (m2000011 x0 x18) = j2000011' x0 x18 (fun y0 => k (.v (.string y0)) []) := by
  rw [j2000011_raw]; simp only [j12_eq]; first | done | rfl
theorem c_c (k kp : KT) (J L : Nat → St → Prop) (x0 : Int) : runC cfg 1000001 J L none'' [] body (topK cfg Tryd.f51 k kp) (st0 Tryd.f51 [(.v (.int IntKind.u8 x0))] []) = c (fun x0 x18 => J 2000011 (m2000011 x0 x18)) x0 (fun y0 => k (.v (.string y0)) []) := by kernel_rfl
theorem c_ag (k kp : KT) : agPL cfg 1000001 (JJ k kp) (LL k kp) [] body = agPR cfg 1000001 none'' [] body (topK cfg Tryd.f51 k kp) := by kernel_rfl
theorem body_is : Tryd.f51.body = some body := by kernel_rfl
theorem c_raw (k kp : KT) (x0 : Int) : funW cfg Tryd.f51 [(.v (.int IntKind.u8 x0))] [] k kp = c (fun x0 x18 => X2000011 k kp (m2000011 x0 x18)) x0 (fun y0 => k (.v (.string y0)) []) :=
  Eq.mp (by kernel_rfl) ((funW_run (AG := none'') body_is (c_ag k kp) [(.v (.int IntKind.u8 x0))] []).trans (c_c k kp (JJ k kp) (LL k kp) x0))
theorem f_eq (k kp : KT) (x0 : Int) : funW cfg Tryd.f51 [(.v (.int IntKind.u8 x0))] [] k kp = f x0 (fun y0 => k (.v (.string y0)) []) := by
  rw [f_def, c_raw]; simp only [j2000011_eq]; first | done | rfl
noncomputable def ent0 : Entry := fun args blks k _ => match args, blks with
  | [d0], [] => aInt IntKind.u8 d0 fun x0 => f x0 (fun y0 => k (.v (.string y0)) [])
  | _, _ => False
noncomputable def ent : Entry := fun args blks k kp => ent0 (convB [.no] args) blks k kp
theorem ok : EntOk Tryd.prog 49 0 51 ent := by
  refine EntOk.convB (EntOk.of (funW_ok (cfg := cfg) (tyOk_of rfl rfl tyL_ok) (eqOk_of (P := Tryd.prog) rfl rfl (by kernel_rfl)) mixed_ok (tab_ok ?_) Tryd.func51 (by rfl) (by rfl)) ?_) _
  · intro p hp
    cases hp
  · intro args blks k kp h k' kp'
    match args, blks, h with
    | [d0], [], h =>
    dsimp only [ent0] at h
    have h9 := aInt_elim h; clear h; obtain ⟨x0, rfl, h⟩ := h9
    exact (f_eq k' kp' x0).symm
end N51
end Go.Proofs.Ye

namespace Go.Proofs.Ye
open Go Go.Aw Go.Proofs
set_option maxRecDepth 100000
set_option maxHeartbeats 4000000
namespace N28
noncomputable def cfg : Cfg := { P := Tryd.prog, tf := 49, tw := 0, ty := tys, E := tab [(51, N51.ent)], atSeq := tab [(6, ⟨[(3, .keep)]⟩)], atLoop := tab [(3, ⟨[(0, .keep), (3, .keep), (4, .keep)]⟩)], outs := [], eqT := tab [], bT := tab [] }
noncomputable def body : Code := bodyOf Tryd.f28
def l3 (j6 : BA → Prop) (ag3 : BA → Int → Prop) (x0 x3 : BA) (x4 : Int) (k : BA → Prop) : Prop :=
  (br (decide (x4 < ((((x0).size : Nat) : Int)))) ((inB 0 x4 ((((x0).size : Nat) : Int) - 1)) ∧ (N51.f (byteAt x0 x4) (fun (y0_0 : BA) => (((x3).size + (y0_0).size ≤ 9223372036854775807) ∧ (ag3 (x3 ++ y0_0) (IntKind.i64.wrap (x4 + (1 : Int)))))))) (j6 x3))
def j6 (x3 : BA) (k : BA → Prop) : Prop :=
  (((x3).size + ((ByteArray.mk #[34])).size ≤ 9223372036854775807) ∧ (k (x3 ++ (ByteArray.mk #[34]))))
def c (l3 : BA → BA → Int → Prop) (x0 : BA) (k : BA → Prop) : Prop :=
  (l3 x0 (ByteArray.mk #[34]) (0 : Int))
def j6' (x3 : BA) (k : BA → Prop) : Prop := j6 x3 k
def l3' (x0 x3 : BA) (x4 : Int) (k : BA → Prop) : Prop := ∃ n, loopS (fun (ag : (BA × Int) → Prop) (s : BA × Int) => l3 (fun x3 => j6' x3 k) (fun x3 x4 => ag (x3, x4)) x0 s.1 s.2 k) n (x3, x4)
def f0 (x0 : BA) (k : BA → Prop) : Prop := c (fun x0 x3 x4 => l3' x0 x3 x4 k) x0 k
theorem f_ex : ∃ g, g = f0 := ⟨_, rfl⟩
noncomputable def f := Classical.choose f_ex
theorem f_def : f = f0 := Classical.choose_spec f_ex
def mL3 (x0 x3 : BA) (x4 : Int) : St := { tmps := mkT 19 0 [(0, (.v (.string x0))), (3, (.v (.string x3))), (4, (.v (.int .i64 x4)))], hp := [], m := 0 }
def m6 (x3 : BA) : St := { tmps := mkT 19 0 [(3, (.v (.string x3)))], hp := [], m := 0 }
noncomputable def YL3 (k kp : KT) : (St → Prop) → St → Prop := loopB cfg (sub [1, 1, 0, 1, 0, 0] body) (contK cfg (pick none' []) [1, 1, 0, 1, 0] body (topK cfg Tryd.f28 k kp))
noncomputable def XL3 (k kp : KT) : St → Prop := fun st => ∃ n, loopN (YL3 k kp) n st
noncomputable def X6 (k kp : KT) : St → Prop := atP cfg (pick none' []) [1, 1, 1] body (topK cfg Tryd.f28 k kp)
noncomputable def JJ_3 (k kp : KT) (ag3 : St → Prop) : Nat → St → Prop := pick none' [(6, X6 k kp)]
noncomputable def LL_3 (k kp : KT) (ag3 : St → Prop) : Nat → St → Prop := pick none' [(3, XL3 k kp)]
noncomputable def JJ (k kp : KT) : Nat → St → Prop := pick none' [(6, X6 k kp)]
noncomputable def LL (k kp : KT) : Nat → St → Prop := pick none' [(3, XL3 k kp)]
theorem j6_c (k kp : KT) (J L : Nat → St → Prop) (x3 : BA) : runC cfg 6 J L (pick none' []) [1, 1, 1] body (topK cfg Tryd.f28 k kp) (m6 x3) = j6 x3 (fun y0 => k (.v (.string y0)) []) := by kernel_rfl
theorem j6_ag (k kp : KT) : agPL cfg 6 (JJ k kp) (LL k kp) [1, 1, 1] body = agPR cfg 6 (pick none' []) [1, 1, 1] body (topK cfg Tryd.f28 k kp) := by kernel_rfl
theorem j6_raw (k kp : KT) (x3 : BA) : X6 k kp (m6 x3) = j6 x3 (fun y0 => k (.v (.string y0)) []) :=
  Eq.mp (by kernel_rfl) ((atP_run (j6_ag k kp) (m6 x3)).trans (j6_c k kp (JJ k kp) (LL k kp) x3))
theorem j6_eq (k kp : KT) (x3 : BA) : X6 k kp (m6 x3) = j6' x3 (fun y0 => k (.v (.string y0)) []) := by
  rw [j6_raw]; rfl
theorem l3_c (k kp : KT) (J L : Nat → St → Prop) (ag3 : St → Prop) (x0 x3 : BA) (x4 : Int) : runC cfg 1000001 J L (pick none' [(3, ag3)]) [1, 1, 0, 1, 0, 0] body (topK cfg Tryd.f28 k kp) (mL3 x0 x3 x4) = l3 (fun x3 => J 6 (m6 x3)) (fun x3 x4 => ag3 (mL3 x0 x3 x4)) x0 x3 x4 (fun y0 => k (.v (.string y0)) []) := by kernel_rfl
theorem l3_ag (k kp : KT) (ag3 : St → Prop) : agPL cfg 1000001 (JJ_3 k kp ag3) (LL_3 k kp ag3) [1, 1, 0, 1, 0, 0] body = agPR cfg 1000001 (pick none' [(3, ag3)]) [1, 1, 0, 1, 0, 0] body (topK cfg Tryd.f28 k kp) := by kernel_rfl
theorem l3_raw (k kp : KT) (ag3 : St → Prop) (x0 x3 : BA) (x4 : Int) : YL3 k kp ag3 (mL3 x0 x3 x4) = l3 (fun x3 => X6 k kp (m6 x3)) (fun x3 x4 => ag3 (mL3 x0 x3 x4)) x0 x3 x4 (fun y0 => k (.v (.string y0)) []) :=
  Eq.mp (by kernel_rfl) ((atP_run (l3_ag k kp ag3) (mL3 x0 x3 x4)).trans (l3_c k kp (JJ_3 k kp ag3) (LL_3 k kp ag3) ag3 x0 x3 x4))
theorem l3_eq (k kp : KT) (x0 x3 : BA) (x4 : Int) : XL3 k kp (mL3 x0 x3 x4) = l3' x0 x3 x4 (fun y0 => k (.v (.string y0)) []) :=
  loop_eq (mk := fun (s : BA × Int) => mL3 x0 s.1 s.2) (fun again s => by rw [l3_raw k kp again x0 s.1 s.2]; simp only [j6_eq]; first | done | rfl) (x3, x4)
theorem c_c (k kp : KT) (J L : Nat → St → Prop) (x0 : BA) : runC cfg 1000001 J L none'' [] body (topK cfg Tryd.f28 k kp) (st0 Tryd.f28 [(.v (.string x0))] []) = c (fun x0 x3 x4 => L 3 (mL3 x0 x3 x4)) x0 (fun y0 => k (.v (.string y0)) []) := by kernel_rfl
theorem c_ag (k kp : KT) : agPL cfg 1000001 (JJ k kp) (LL k kp) [] body = agPR cfg 1000001 none'' [] body (topK cfg Tryd.f28 k kp) := by kernel_rfl
theorem body_is : Tryd.f28.body = some body := by kernel_rfl
theorem c_raw (k kp : KT) (x0 : BA) : funW cfg Tryd.f28 [(.v (.string x0))] [] k kp = c (fun x0 x3 x4 => XL3 k kp (mL3 x0 x3 x4)) x0 (fun y0 => k (.v (.string y0)) []) :=
  Eq.mp (by kernel_rfl) ((funW_run (AG := none'') body_is (c_ag k kp) [(.v (.string x0))] []).trans (c_c k kp (JJ k kp) (LL k kp) x0))
theorem f_eq (k kp : KT) (x0 : BA) : funW cfg Tryd.f28 [(.v (.string x0))] [] k kp = f x0 (fun y0 => k (.v (.string y0)) []) := by
  rw [f_def, c_raw]; simp only [l3_eq]; first | done | rfl
noncomputable def ent0 : Entry := fun args blks k _ => match args, blks with
  | [d0], [] => aStr d0 fun x0 => f x0 (fun y0 => k (.v (.string y0)) [])
  | _, _ => False
noncomputable def ent : Entry := fun args blks k kp => ent0 (convB [.no] args) blks k kp
theorem ok : EntOk Tryd.prog 49 0 28 ent := by
  refine EntOk.convB (EntOk.of (funW_ok (cfg := cfg) (tyOk_of rfl rfl tyL_ok) (eqOk_of (P := Tryd.prog) rfl rfl (by kernel_rfl)) mixed_ok (tab_ok ?_) Tryd.func28 (by rfl) (by rfl)) ?_) _
  · intro p hp
    simp only [List.mem_cons, List.not_mem_nil, or_false] at hp
    rcases hp with rfl
    · exact N51.ok
  · intro args blks k kp h k' kp'
    match args, blks, h with
    | [d0], [], h =>
    dsimp only [ent0] at h
    have h9 := aStr_elim h; clear h; obtain ⟨x0, rfl, h⟩ := h9
    exact (f_eq k' kp' x0).symm
end N28
end Go.Proofs.Ye

namespace Go.Proofs.Ye
open Go Go.Aw Go.Proofs
set_option maxRecDepth 100000
set_option maxHeartbeats 4000000
namespace N71
noncomputable def cfg : Cfg := { P := Tryd.prog, tf := 49, tw := 0, ty := tys, E := tab [], atSeq := tab [(2000008, ⟨[(0, .keep), (9, .keep)]⟩), (9, ⟨[]⟩)], atLoop := tab [], outs := [], eqT := tab [], bT := tab [] }
noncomputable def body : Code := bodyOf Tryd.f71
def j2000008 (j9 : Prop) (x0 : Int) (x9 : Bool) (k : Int → Bool → Prop) : Prop :=
  (br x9 (k x0 true) (j9))
def j9 (k : Int → Bool → Prop) : Prop :=
  (k (0 : Int) false)
def c (j2000008 : Int → Bool → Prop) (x0 : Int) (k : Int → Bool → Prop) : Prop :=
  (br (x0 == (110 : Int)) (k (10 : Int) true) (br (x0 == (116 : Int)) (k (9 : Int) true) (br (x0 == (34 : Int)) (j2000008 x0 (x0 == (34 : Int))) (j2000008 x0 (x0 == (92 : Int))))))
def j9' (k : Int → Bool → Prop) : Prop := j9 k
def j2000008' (x0 : Int) (x9 : Bool) (k : Int → Bool → Prop) : Prop := j2000008 (j9' k) x0 x9 k
def f0 (x0 : Int) (k : Int → Bool → Prop) : Prop := c (fun x0 x9 => j2000008' x0 x9 k) x0 k
theorem f_ex : ∃ g, g = f0 := ⟨_, rfl⟩
noncomputable def f := Classical.choose f_ex
theorem f_def : f = f0 := Classical.choose_spec f_ex
def m2000008 (x0 : Int) (x9 : Bool) : St := { tmps := mkT 13 0 [(0, (.v (.int IntKind.u8 x0))), (9, (.v (.bool x9)))], hp := [], m := 0 }
def m9 : St := { tmps := mkT 13 0 [], hp := [], m := 0 }
noncomputable def X2000008 (k kp : KT) : St → Prop := atP cfg (pick none' []) [1, 0, 1, 0, 1, 1, 1, 1, 1] body (topK cfg Tryd.f71 k kp)
noncomputable def X9 (k kp : KT) : St → Prop := atP cfg (pick none' []) [1, 1] body (topK cfg Tryd.f71 k kp)
noncomputable def JJ (k kp : KT) : Nat → St → Prop := pick none' [(2000008, X2000008 k kp), (9, X9 k kp)]
noncomputable def LL (k kp : KT) : Nat → St → Prop := pick none' []
theorem j9_c (k kp : KT) (J L : Nat → St → Prop) : runC cfg 9 J L (pick none' []) [1, 1] body (topK cfg Tryd.f71 k kp) (m9) = j9 (fun y0 y1 => k (.tup [(.v (.int IntKind.u8 y0)), (.v (.bool y1))]) []) := by kernel_rfl
theorem j9_ag (k kp : KT) : agPL cfg 9 (JJ k kp) (LL k kp) [1, 1] body = agPR cfg 9 (pick none' []) [1, 1] body (topK cfg Tryd.f71 k kp) := by kernel_rfl
theorem j9_raw (k kp : KT) : X9 k kp (m9) = j9 (fun y0 y1 => k (.tup [(.v (.int IntKind.u8 y0)), (.v (.bool y1))]) []) :=
  Eq.mp (by kernel_rfl) ((atP_run (j9_ag k kp) (m9)).trans (j9_c k kp (JJ k kp) (LL k kp)))
theorem j9_eq (k kp : KT) : X9 k kp (m9) = j9' (fun y0 y1 => k (.tup [(.v (.int IntKind.u8 y0)), (.v (.bool y1))]) []) := by
  rw [j9_raw]; rfl
theorem j2000008_c (k kp : KT) (J L : Nat → St → Prop) (x0 : Int) (x9 : Bool) : runC cfg 2000008 J L (pick none' []) [1, 0, 1, 0, 1, 1, 1, 1, 1] body (topK cfg Tryd.f71 k kp) (m2000008 x0 x9) = j2000008 (J 9 (m9)) x0 x9 (fun y0 y1 => k (.tup [(.v (.int IntKind.u8 y0)), (.v (.bool y1))]) []) := by kernel_rfl
theorem j2000008_ag (k kp : KT) : agPL cfg 2000008 (JJ k kp) (LL k kp) [1, 0, 1, 0, 1, 1, 1, 1, 1] body = agPR cfg 2000008 (pick none' []) [1, 0, 1, 0, 1, 1, 1, 1, 1] body (topK cfg Tryd.f71 k kp) := by kernel_rfl
theorem j2000008_raw (k kp : KT) (x0 : Int) (x9 : Bool) : X2000008 k kp (m2000008 x0 x9) = j2000008 (X9 k kp (m9)) x0 x9 (fun y0 y1 => k (.tup [(.v (.int IntKind.u8 y0)), (.v (.bool y1))]) []) :=
  Eq.mp (by kernel_rfl) ((atP_run (j2000008_ag k kp) (m2000008 x0 x9)).trans (j2000008_c k kp (JJ k kp) (LL k kp) x0 x9))
theorem j2000008_eq (k kp : KT) (x0 : Int) (x9 : Bool) : X2000008 k kp (m2000008 x0 x9) = j2000008' x0 x9 (fun y0 y1 => k (.tup [(.v (.int IntKind.u8 y0)), (.v (.bool y1))]) []) := by
  rw [j2000008_raw]; simp only [j9_eq]; first | done | rfl
theorem c_c (k kp : KT) (J L : Nat → St → Prop) (x0 : Int) : runC cfg 1000001 J L none'' [] body (topK cfg Tryd.f71 k kp) (st0 Tryd.f71 [(.v (.int IntKind.u8 x0))] []) = c (fun x0 x9 => J 2000008 (m2000008 x0 x9)) x0 (fun y0 y1 => k (.tup [(.v (.int IntKind.u8 y0)), (.v (.bool y1))]) []) := by kernel_rfl
theorem c_ag (k kp : KT) : agPL cfg 1000001 (JJ k kp) (LL k kp) [] body = agPR cfg 1000001 none'' [] body (topK cfg Tryd.f71 k kp) := by kernel_rfl
theorem body_is : Tryd.f71.body = some body := by kernel_rfl
theorem c_raw (k kp : KT) (x0 : Int) : funW cfg Tryd.f71 [(.v (.int IntKind.u8 x0))] [] k kp = c (fun x0 x9 => X2000008 k kp (m2000008 x0 x9)) x0 (fun y0 y1 => k (.tup [(.v (.int IntKind.u8 y0)), (.v (.bool y1))]) []) :=
  Eq.mp (by kernel_rfl) ((funW_run (AG := none'') body_is (c_ag k kp) [(.v (.int IntKind.u8 x0))] []).trans (c_c k kp (JJ k kp) (LL k kp) x0))
theorem f_eq (k kp : KT) (x0 : Int) : funW cfg Tryd.f71 [(.v (.int IntKind.u8 x0))] [] k kp = f x0 (fun y0 y1 => k (.tup [(.v (.int IntKind.u8 y0)), (.v (.bool y1))]) []) := by
  rw [f_def, c_raw]; simp only [j2000008_eq]; first | done | rfl
noncomputable def ent0 : Entry := fun args blks k _ => match args, blks with
  | [d0], [] => aInt IntKind.u8 d0 fun x0 => f x0 (fun y0 y1 => k (.tup [(.v (.int IntKind.u8 y0)), (.v (.bool y1))]) [])
  | _, _ => False
noncomputable def ent : Entry := fun args blks k kp => ent0 (convB [.no] args) blks k kp
theorem ok : EntOk Tryd.prog 49 0 71 ent := by
  refine EntOk.convB (EntOk.of (funW_ok (cfg := cfg) (tyOk_of rfl rfl tyL_ok) (eqOk_of (P := Tryd.prog) rfl rfl (by kernel_rfl)) mixed_ok (tab_ok ?_) Tryd.func71 (by rfl) (by rfl)) ?_) _
  · intro p hp
    cases hp
  · intro args blks k kp h k' kp'
    match args, blks, h with
    | [d0], [], h =>
    dsimp only [ent0] at h
    have h9 := aInt_elim h; clear h; obtain ⟨x0, rfl, h⟩ := h9
    exact (f_eq k' kp' x0).symm
end N71
end Go.Proofs.Ye

namespace Go.Proofs.Ye
open Go Go.Aw Go.Proofs
set_option maxRecDepth 100000
set_option maxHeartbeats 4000000
namespace N72
noncomputable def cfg : Cfg := { P := Tryd.prog, tf := 49, tw := 0, ty := tys, E := tab [], atSeq := tab [(2000002, ⟨[(0, .keep), (4, .keep)]⟩), (2000004, ⟨[(0, .keep), (13, .keep)]⟩), (2000006, ⟨[(0, .keep), (23, .keep)]⟩), (7, ⟨[]⟩)], atLoop := tab [], outs := [], eqT := tab [], bT := tab [] }
noncomputable def body : Code := bodyOf Tryd.f72
def j2000002 (j2000004 : Int → Bool → Prop) (x0 : Int) (x4 : Bool) (k : Int → Bool → Prop) : Prop :=
  (br x4 (k (IntKind.u8.wrap (x0 - (48 : Int))) true) (br (decide (x0 ≥ (97 : Int))) (j2000004 x0 (decide (x0 ≤ (102 : Int)))) (j2000004 x0 false)))
def j2000004 (j2000006 : Int → Bool → Prop) (x0 : Int) (x13 : Bool) (k : Int → Bool → Prop) : Prop :=
  (br x13 (k (IntKind.u8.wrap ((IntKind.u8.wrap (x0 - (97 : Int))) + (10 : Int))) true) (br (decide (x0 ≥ (65 : Int))) (j2000006 x0 (decide (x0 ≤ (70 : Int)))) (j2000006 x0 false)))
def j2000006 (j7 : Prop) (x0 : Int) (x23 : Bool) (k : Int → Bool → Prop) : Prop :=
  (br x23 (k (IntKind.u8.wrap ((IntKind.u8.wrap (x0 - (65 : Int))) + (10 : Int))) true) (j7))
def j7 (k : Int → Bool → Prop) : Prop :=
  (k (0 : Int) false)
def c (j2000002 : Int → Bool → Prop) (x0 : Int) (k : Int → Bool → Prop) : Prop :=
  (br (decide (x0 ≥ (48 : Int))) (j2000002 x0 (decide (x0 ≤ (57 : Int)))) (j2000002 x0 false))
def j7' (k : Int → Bool → Prop) : Prop := j7 k
def j2000006' (x0 : Int) (x23 : Bool) (k : Int → Bool → Prop) : Prop := j2000006 (j7' k) x0 x23 k
def j2000004' (x0 : Int) (x13 : Bool) (k : Int → Bool → Prop) : Prop := j2000004 (fun x0 x23 => j2000006' x0 x23 k) x0 x13 k
def j2000002' (x0 : Int) (x4 : Bool) (k : Int → Bool → Prop) : Prop := j2000002 (fun x0 x13 => j2000004' x0 x13 k) x0 x4 k
def f0 (x0 : Int) (k : Int → Bool → Prop) : Prop := c (fun x0 x4 => j2000002' x0 x4 k) x0 k
theorem f_ex : ∃ g, g = f0 := ⟨_, rfl⟩
noncomputable def f := Classical.choose f_ex
theorem f_def : f = f0 := Classical.choose_spec f_ex
def m2000002 (x0 : Int) (x4 : Bool) : St := { tmps := mkT 33 0 [(0, (.v (.int IntKind.u8 x0))), (4, (.v (.bool x4)))], hp := [], m := 0 }
def m2000004 (x0 : Int) (x13 : Bool) : St := { tmps := mkT 33 0 [(0, (.v (.int IntKind.u8 x0))), (13, (.v (.bool x13)))], hp := [], m := 0 }
def m2000006 (x0 : Int) (x23 : Bool) : St := { tmps := mkT 33 0 [(0, (.v (.int IntKind.u8 x0))), (23, (.v (.bool x23)))], hp := [], m := 0 }
def m7 : St := { tmps := mkT 33 0 [], hp := [], m := 0 }
noncomputable def X2000002 (k kp : KT) : St → Prop := atP cfg (pick none' []) [1, 0, 0, 1] body (topK cfg Tryd.f72 k kp)
noncomputable def X2000004 (k kp : KT) : St → Prop := atP cfg (pick none' []) [1, 0, 0, 1, 1, 1] body (topK cfg Tryd.f72 k kp)
noncomputable def X2000006 (k kp : KT) : St → Prop := atP cfg (pick none' []) [1, 0, 0, 1, 1, 1, 1, 1] body (topK cfg Tryd.f72 k kp)
noncomputable def X7 (k kp : KT) : St → Prop := atP cfg (pick none' []) [1, 1] body (topK cfg Tryd.f72 k kp)
noncomputable def JJ (k kp : KT) : Nat → St → Prop := pick none' [(2000002, X2000002 k kp), (2000004, X2000004 k kp), (2000006, X2000006 k kp), (7, X7 k kp)]
noncomputable def LL (k kp : KT) : Nat → St → Prop := pick none' []
theorem j7_c (k kp : KT) (J L : Nat → St → Prop) : runC cfg 7 J L (pick none' []) [1, 1] body (topK cfg Tryd.f72 k kp) (m7) = j7 (fun y0 y1 => k (.tup [(.v (.int IntKind.u8 y0)), (.v (.bool y1))]) []) := by kernel_rfl
theorem j7_ag (k kp : KT) : agPL cfg 7 (JJ k kp) (LL k kp) [1, 1] body = agPR cfg 7 (pick none' []) [1, 1] body (topK cfg Tryd.f72 k kp) := by kernel_rfl
theorem j7_raw (k kp : KT) : X7 k kp (m7) = j7 (fun y0 y1 => k (.tup [(.v (.int IntKind.u8 y0)), (.v (.bool y1))]) []) :=
  Eq.mp (by kernel_rfl) ((atP_run (j7_ag k kp) (m7)).trans (j7_c k kp (JJ k kp) (LL k kp)))
theorem j7_eq (k kp : KT) : X7 k kp (m7) = j7' (fun y0 y1 => k (.tup [(.v (.int IntKind.u8 y0)), (.v (.bool y1))]) []) := by
  rw [j7_raw]; rfl
theorem j2000006_c (k kp : KT) (J L : Nat → St → Prop) (x0 : Int) (x23 : Bool) : runC cfg 2000006 J L (pick none' []) [1, 0, 0, 1, 1, 1, 1, 1] body (topK cfg Tryd.f72 k kp) (m2000006 x0 x23) = j2000006 (J 7 (m7)) x0 x23 (fun y0 y1 => k (.tup [(.v (.int IntKind.u8 y0)), (.v (.bool y1))]) []) := by kernel_rfl
theorem j2000006_ag (k kp : KT) : agPL cfg 2000006 (JJ k kp) (LL k kp) [1, 0, 0, 1, 1, 1, 1, 1] body = agPR cfg 2000006 (pick none' []) [1, 0, 0, 1, 1, 1, 1, 1] body (topK cfg Tryd.f72 k kp) := by kernel_rfl
theorem j2000006_raw (k kp : KT) (x0 : Int) (x23 : Bool) : X2000006 k kp (m2000006 x0 x23) = j2000006 (X7 k kp (m7)) x0 x23 (fun y0 y1 => k (.tup [(.v (.int IntKind.u8 y0)), (.v (.bool y1))]) []) :=
  Eq.mp (by kernel_rfl) ((atP_run (j2000006_ag k kp) (m2000006 x0 x23)).trans (j2000006_c k kp (JJ k kp) (LL k kp) x0 x23))
theorem j2000006_eq (k kp : KT) (x0 : Int) (x23 : Bool) : X2000006 k kp (m2000006 x0 x23) = j2000006' x0 x23 (fun y0 y1 => k (.tup [(.v (.int IntKind.u8 y0)), (.v (.bool y1))]) []) := by
  rw [j2000006_raw]; simp only [j7_eq]; first | done | rfl
theorem j2000004_c (k kp : KT) (J L : Nat → St → Prop) (x0 : Int) (x13 : Bool) : runC cfg 2000004 J L (pick none' []) [1, 0, 0, 1, 1, 1] body (topK cfg Tryd.f72 k kp) (m2000004 x0 x13) = j2000004 (fun x0 x23 => J 2000006 (m2000006 x0 x23)) x0 x13 (fun y0 y1 => k (.tup [(.v (.int IntKind.u8 y0)), (.v (.bool y1))]) []) := by kernel_rfl
theorem j2000004_ag (k kp : KT) : agPL cfg 2000004 (JJ k kp) (LL k kp) [1, 0, 0, 1, 1, 1] body = agPR cfg 2000004 (pick none' []) [1, 0, 0, 1, 1, 1] body (topK cfg Tryd.f72 k kp) := by kernel_rfl
theorem j2000004_raw (k kp : KT) (x0 : Int) (x13 : Bool) : X2000004 k kp (m2000004 x0 x13) = j2000004 (fun x0 x23 => X2000006 k kp (m2000006 x0 x23)) x0 x13 (fun y0 y1 => k (.tup [(.v (.int IntKind.u8 y0)), (.v (.bool y1))]) []) :=
  Eq.mp (by kernel_rfl) ((atP_run (j2000004_ag k kp) (m2000004 x0 x13)).trans (j2000004_c k kp (JJ k kp) (LL k kp) x0 x13))
theorem j2000004_eq (k kp : KT) (x0 : Int) (x13 : Bool) : X2000004 k kp (m2000004 x0 x13) = j2000004' x0 x13 (fun y0 y1 => k (.tup [(.v (.int IntKind.u8 y0)), (.v (.bool y1))]) []) := by
  rw [j2000004_raw]; simp only [j2000006_eq]; first | done | rfl
theorem j2000002_c (k kp : KT) (J L : Nat → St → Prop) (x0 : Int) (x4 : Bool) : runC cfg 2000002 J L (pick none' []) [1, 0, 0, 1] body (topK cfg Tryd.f72 k kp) (m2000002 x0 x4) = j2000002 (fun x0 x13 => J 2000004 (m2000004 x0 x13)) x0 x4 (fun y0 y1 => k (.tup [(.v (.int IntKind.u8 y0)), (.v (.bool y1))]) []) := by kernel_rfl
theorem j2000002_ag (k kp : KT) : agPL cfg 2000002 (JJ k kp) (LL k kp) [1, 0, 0, 1] body = agPR cfg 2000002 (pick none' []) [1, 0, 0, 1] body (topK cfg Tryd.f72 k kp) := by kernel_rfl
theorem j2000002_raw (k kp : KT) (x0 : Int) (x4 : Bool) : X2000002 k kp (m2000002 x0 x4) = j2000002 (fun x0 x13 => X2000004 k kp (m2000004 x0 x13)) x0 x4 (fun y0 y1 => k (.tup [(.v (.int IntKind.u8 y0)), (.v (.bool y1))]) []) :=
  Eq.mp (by kernel_rfl) ((atP_run (j2000002_ag k kp) (m2000002 x0 x4)).trans (j2000002_c k kp (JJ k kp) (LL k kp) x0 x4))
theorem j2000002_eq (k kp : KT) (x0 : Int) (x4 : Bool) : X2000002 k kp (m2000002 x0 x4) = j2000002' x0 x4 (fun y0 y1 => k (.tup [(.v (.int IntKind.u8 y0)), (.v (.bool y1))]) []) := by
  rw [j2000002_raw]; simp only [j2000004_eq]; first | done | rfl
theorem c_c (k kp : KT) (J L : Nat → St → Prop) (x0 : Int) : runC cfg 1000001 J L none'' [] body (topK cfg Tryd.f72 k kp) (st0 Tryd.f72 [(.v (.int IntKind.u8 x0))] []) = c (fun x0 x4 => J 2000002 (m2000002 x0 x4)) x0 (fun y0 y1 => k (.tup [(.v (.int IntKind.u8 y0)), (.v (.bool y1))]) []) := by kernel_rfl
theorem c_ag (k kp : KT) : agPL cfg 1000001 (JJ k kp) (LL k kp) [] body = agPR cfg 1000001 none'' [] body (topK cfg Tryd.f72 k kp) := by kernel_rfl
theorem body_is : Tryd.f72.body = some body := by kernel_rfl
theorem c_raw (k kp : KT) (x0 : Int) : funW cfg Tryd.f72 [(.v (.int IntKind.u8 x0))] [] k kp = c (fun x0 x4 => X2000002 k kp (m2000002 x0 x4)) x0 (fun y0 y1 => k (.tup [(.v (.int IntKind.u8 y0)), (.v (.bool y1))]) []) :=
  Eq.mp (by kernel_rfl) ((funW_run (AG := none'') body_is (c_ag k kp) [(.v (.int IntKind.u8 x0))] []).trans (c_c k kp (JJ k kp) (LL k kp) x0))
theorem f_eq (k kp : KT) (x0 : Int) : funW cfg Tryd.f72 [(.v (.int IntKind.u8 x0))] [] k kp = f x0 (fun y0 y1 => k (.tup [(.v (.int IntKind.u8 y0)), (.v (.bool y1))]) []) := by
  rw [f_def, c_raw]; simp only [j2000002_eq]; first | done | rfl
noncomputable def ent0 : Entry := fun args blks k _ => match args, blks with
  | [d0], [] => aInt IntKind.u8 d0 fun x0 => f x0 (fun y0 y1 => k (.tup [(.v (.int IntKind.u8 y0)), (.v (.bool y1))]) [])
  | _, _ => False
noncomputable def ent : Entry := fun args blks k kp => ent0 (convB [.no] args) blks k kp
theorem ok : EntOk Tryd.prog 49 0 72 ent := by
  refine EntOk.convB (EntOk.of (funW_ok (cfg := cfg) (tyOk_of rfl rfl tyL_ok) (eqOk_of (P := Tryd.prog) rfl rfl (by kernel_rfl)) mixed_ok (tab_ok ?_) Tryd.func72 (by rfl) (by rfl)) ?_) _
  · intro p hp
    cases hp
  · intro args blks k kp h k' kp'
    match args, blks, h with
    | [d0], [], h =>
    dsimp only [ent0] at h
    have h9 := aInt_elim h; clear h; obtain ⟨x0, rfl, h⟩ := h9
    exact (f_eq k' kp' x0).symm
end N72
end Go.Proofs.Ye

namespace Go.Proofs.Ye
open Go Go.Aw Go.Proofs
set_option maxRecDepth 100000
set_option maxHeartbeats 4000000
namespace N59
noncomputable def cfg : Cfg := { P := Tryd.prog, tf := 49, tw := 0, ty := tys, E := tab [(71, N71.ent), (72, N72.ent)], atSeq := tab [(2000007, ⟨[(0, .keep), (27, .keep)]⟩), (8, ⟨[(0, .keep)]⟩), (2000011, ⟨[(6, .keep), (8, .keep), (45, .keep)]⟩), (12, ⟨[(6, .keep), (8, .keep)]⟩)], atLoop := tab [], outs := [], eqT := tab [], bT := tab [] }
noncomputable def body : Code := bodyOf Tryd.f59
def j2000007 (j8 : BA → Prop) (x0 : BA) (x27 : Bool) (k : Int → Int → Prop) : Prop :=
  (br x27 (k (0 : Int) (0 : Int)) (j8 x0))
def j8 (j2000011 : Int → Int → Bool → Prop) (x0 : BA) (k : Int → Int → Prop) : Prop :=
  ((inB 0 (1 : Int) ((((x0).size : Nat) : Int) - 1)) ∧ (N72.f (byteAt x0 (1 : Int)) (fun (y0_1 : Int) (y1_1 : Bool) => ((inB 0 (2 : Int) ((((x0).size : Nat) : Int) - 1)) ∧ (N72.f (byteAt x0 (2 : Int)) (fun (y0_2 : Int) (y1_2 : Bool) => (br (!y1_1) (j2000011 y0_1 y0_2 true) (j2000011 y0_1 y0_2 (!y1_2)))))))))
def j2000011 (j12 : Int → Int → Prop) (x6 x8 : Int) (x45 : Bool) (k : Int → Int → Prop) : Prop :=
  (br x45 (k (0 : Int) (0 : Int)) (j12 x6 x8))
def j12 (x6 x8 : Int) (k : Int → Int → Prop) : Prop :=
  ((0 ≤ (4 : Int)) ∧ (k (orI IntKind.u8 (IntKind.u8.wrap (x6 * 2 ^ min (Int.toNat (4 : Int)) 8)) x8) (3 : Int)))
def c (j2000007 : BA → Bool → Prop) (x0 : BA) (k : Int → Int → Prop) : Prop :=
  (br (beqS x0 (ByteArray.mk #[])) (k (0 : Int) (0 : Int)) ((inB 0 (0 : Int) ((((x0).size : Nat) : Int) - 1)) ∧ (N71.f (byteAt x0 (0 : Int)) (fun (y0_0 : Int) (y1_0 : Bool) => (br y1_0 (k y0_0 (1 : Int)) ((inB 0 (0 : Int) ((((x0).size : Nat) : Int) - 1)) ∧ (br ((byteAt x0 (0 : Int)) != (120 : Int)) (j2000007 x0 true) (j2000007 x0 (decide (((((x0).size : Nat) : Int)) < (3 : Int)))))))))))
def j12' (x6 x8 : Int) (k : Int → Int → Prop) : Prop := j12 x6 x8 k
def j2000011' (x6 x8 : Int) (x45 : Bool) (k : Int → Int → Prop) : Prop := j2000011 (fun x6 x8 => j12' x6 x8 k) x6 x8 x45 k
def j8' (x0 : BA) (k : Int → Int → Prop) : Prop := j8 (fun x6 x8 x45 => j2000011' x6 x8 x45 k) x0 k
def j2000007' (x0 : BA) (x27 : Bool) (k : Int → Int → Prop) : Prop := j2000007 (fun x0 => j8' x0 k) x0 x27 k
def f0 (x0 : BA) (k : Int → Int → Prop) : Prop := c (fun x0 x27 => j2000007' x0 x27 k) x0 k
theorem f_ex : ∃ g, g = f0 := ⟨_, rfl⟩
noncomputable def f := Classical.choose f_ex
theorem f_def : f = f0 := Classical.choose_spec f_ex
def m2000007 (x0 : BA) (x27 : Bool) : St := { tmps := mkT 50 0 [(0, (.v (.string x0))), (27, (.v (.bool x27)))], hp := [], m := 0 }
def m8 (x0 : BA) : St := { tmps := mkT 50 0 [(0, (.v (.string x0)))], hp := [], m := 0 }
def m2000011 (x6 x8 : Int) (x45 : Bool) : St := { tmps := mkT 50 0 [(6, (.v (.int IntKind.u8 x6))), (8, (.v (.int IntKind.u8 x8))), (45, (.v (.bool x45)))], hp := [], m := 0 }
def m12 (x6 x8 : Int) : St := { tmps := mkT 50 0 [(6, (.v (.int IntKind.u8 x6))), (8, (.v (.int IntKind.u8 x8)))], hp := [], m := 0 }
noncomputable def X2000007 (k kp : KT) : St → Prop := atP cfg (pick none' []) [1, 1, 1, 0, 1] body (topK cfg Tryd.f59 k kp)
noncomputable def X8 (k kp : KT) : St → Prop := atP cfg (pick none' []) [1, 1, 1, 1] body (topK cfg Tryd.f59 k kp)
noncomputable def X2000011 (k kp : KT) : St → Prop := atP cfg (pick none' []) [1, 1, 1, 1, 1, 1, 0, 1] body (topK cfg Tryd.f59 k kp)
noncomputable def X12 (k kp : KT) : St → Prop := atP cfg (pick none' []) [1, 1, 1, 1, 1, 1, 1] body (topK cfg Tryd.f59 k kp)
noncomputable def JJ (k kp : KT) : Nat → St → Prop := pick none' [(2000007, X2000007 k kp), (8, X8 k kp), (2000011, X2000011 k kp), (12, X12 k kp)]
noncomputable def LL (k kp : KT) : Nat → St → Prop := pick none' []
theorem j12_c (k kp : KT) (J L : Nat → St → Prop) (x6 x8 : Int) : runC cfg 12 J L (pick none' []) [1, 1, 1, 1, 1, 1, 1] body (topK cfg Tryd.f59 k kp) (m12 x6 x8) = j12 x6 x8 (fun y0 y1 => k (.tup [(.v (.int IntKind.u8 y0)), (.v (.int .i64 y1))]) []) := by kernel_rfl
theorem j12_ag (k kp : KT) : agPL cfg 12 (JJ k kp) (LL k kp) [1, 1, 1, 1, 1, 1, 1] body = agPR cfg 12 (pick none' []) [1, 1, 1, 1, 1, 1, 1] body (topK cfg Tryd.f59 k kp) := by kernel_rfl
theorem j12_raw (k kp : KT) (x6 x8 : Int) : X12 k kp (m12 x6 x8) = j12 x6 x8 (fun y0 y1 => k (.tup [(.v (.int IntKind.u8 y0)), (.v (.int .i64 y1))]) []) :=
  Eq.mp (by kernel_rfl) ((atP_run (j12_ag k kp) (m12 x6 x8)).trans (j12_c k kp (JJ k kp) (LL k kp) x6 x8))
theorem j12_eq (k kp : KT) (x6 x8 : Int) : X12 k kp (m12 x6 x8) = j12' x6 x8 (fun y0 y1 => k (.tup [(.v (.int IntKind.u8 y0)), (.v (.int .i64 y1))]) []) := by
  rw [j12_raw]; rfl
theorem j2000011_c (k kp : KT) (J L : Nat → St → Prop) (x6 x8 : Int) (x45 : Bool) : runC cfg 2000011 J L (pick none' []) [1, 1, 1, 1, 1, 1, 0, 1] body (topK cfg Tryd.f59 k kp) (m2000011 x6 x8 x45) = j2000011 (fun x6 x8 => J 12 (m12 x6 x8)) x6 x8 x45 (fun y0 y1 => k (.tup [(.v (.int IntKind.u8 y0)), (.v (.int .i64 y1))]) []) := by kernel_rfl
theorem j2000011_ag (k kp : KT) : agPL cfg 2000011 (JJ k kp) (LL k kp) [1, 1, 1, 1, 1, 1, 0, 1] body = agPR cfg 2000011 (pick none' []) [1, 1, 1, 1, 1, 1, 0, 1] body (topK cfg Tryd.f59 k kp) := by kernel_rfl
theorem j2000011_raw (k kp : KT) (x6 x8 : Int) (x45 : Bool) : X2000011 k kp (m2000011 x6 x8 x45) = j2000011 (fun x6 x8 => X12 k kp (m12 x6 x8)) x6 x8 x45 (fun y0 y1 => k (.tup [(.v (.int IntKind.u8 y0)), (.v (.int .i64 y1))]) []) :=
  Eq.mp (by kernel_rfl) ((atP_run (j2000011_ag k kp) (m2000011 x6 x8 x45)).trans (j2000011_c k kp (JJ k kp) (LL k kp) x6 x8 x45))
theorem j2000011_eq (k kp : KT) (x6 x8 : Int) (x45 : Bool) : X2000011 k kp (m2000011 x6 x8 x45) = j2000011' x6 x8 x45 (fun y0 y1 => k (.tup [(.v (.int IntKind.u8 y0)), (.v (.int .i64 y1))]) []) := by
  rw [j2000011_raw]; simp only [j12_eq]; first | done | rfl
theorem j8_c (k kp : KT) (J L : Nat → St → Prop) (x0 : BA) : runC cfg 8 J L (pick none' []) [1, 1, 1, 1] body (topK cfg Tryd.f59 k kp) (m8 x0) = j8 (fun x6 x8 x45 => J 2000011 (m2000011 x6 x8 x45)) x0 (fun y0 y1 => k (.tup [(.v (.int IntKind.u8 y0)), (.v (.int .i64 y1))]) []) := by kernel_rfl
theorem j8_ag (k kp : KT) : agPL cfg 8 (JJ k kp) (LL k kp) [1, 1, 1, 1] body = agPR cfg 8 (pick none' []) [1, 1, 1, 1] body (topK cfg Tryd.f59 k kp) := by kernel_rfl
theorem j8_raw (k kp : KT) (x0 : BA) : X8 k kp (m8 x0) = j8 (fun x6 x8 x45 => X2000011 k kp (m2000011 x6 x8 x45)) x0 (fun y0 y1 => k (.tup [(.v (.int IntKind.u8 y0)), (.v (.int .i64 y1))]) []) :=
  Eq.mp (by kernel_rfl) ((atP_run (j8_ag k kp) (m8 x0)).trans (j8_c k kp (JJ k kp) (LL k kp) x0))
theorem j8_eq (k kp : KT) (x0 : BA) : X8 k kp (m8 x0) = j8' x0 (fun y0 y1 => k (.tup [(.v (.int IntKind.u8 y0)), (.v (.int .i64 y1))]) []) := by
  rw [j8_raw]; simp only [j2000011_eq]; first | done | rfl
theorem j2000007_c (k kp : KT) (J L : Nat → St → Prop) (x0 : BA) (x27 : Bool) : runC cfg 2000007 J L (pick none' []) [1, 1, 1, 0, 1] body (topK cfg Tryd.f59 k kp) (m2000007 x0 x27) = j2000007 (fun x0 => J 8 (m8 x0)) x0 x27 (fun y0 y1 => k (.tup [(.v (.int IntKind.u8 y0)), (.v (.int .i64 y1))]) []) := by kernel_rfl
theorem j2000007_ag (k kp : KT) : agPL cfg 2000007 (JJ k kp) (LL k kp) [1, 1, 1, 0, 1] body = agPR cfg 2000007 (pick none' []) [1, 1, 1, 0, 1] body (topK cfg Tryd.f59 k kp) := by kernel_rfl
theorem j2000007_raw (k kp : KT) (x0 : BA) (x27 : Bool) : X2000007 k kp (m2000007 x0 x27) = j2000007 (fun x0 => X8 k kp (m8 x0)) x0 x27 (fun y0 y1 => k (.tup [(.v (.int IntKind.u8 y0)), (.v (.int .i64 y1))]) []) :=
  Eq.mp (by kernel_rfl) ((atP_run (j2000007_ag k kp) (m2000007 x0 x27)).trans (j2000007_c k kp (JJ k kp) (LL k kp) x0 x27))
theorem j2000007_eq (k kp : KT) (x0 : BA) (x27 : Bool) : X2000007 k kp (m2000007 x0 x27) = j2000007' x0 x27 (fun y0 y1 => k (.tup [(.v (.int IntKind.u8 y0)), (.v (.int .i64 y1))]) []) := by
  rw [j2000007_raw]; simp only [j8_eq]; first | done | rfl
theorem c_c (k kp : KT) (J L : Nat → St → Prop) (x0 : BA) : runC cfg 1000001 J L none'' [] body (topK cfg Tryd.f59 k kp) (st0 Tryd.f59 [(.v (.string x0))] []) = c (fun x0 x27 => J 2000007 (m2000007 x0 x27)) x0 (fun y0 y1 => k (.tup [(.v (.int IntKind.u8 y0)), (.v (.int .i64 y1))]) []) := by kernel_rfl
theorem c_ag (k kp : KT) : agPL cfg 1000001 (JJ k kp) (LL k kp) [] body = agPR cfg 1000001 none'' [] body (topK cfg Tryd.f59 k kp) := by kernel_rfl
theorem body_is : Tryd.f59.body = some body := by kernel_rfl
theorem c_raw (k kp : KT) (x0 : BA) : funW cfg Tryd.f59 [(.v (.string x0))] [] k kp = c (fun x0 x27 => X2000007 k kp (m2000007 x0 x27)) x0 (fun y0 y1 => k (.tup [(.v (.int IntKind.u8 y0)), (.v (.int .i64 y1))]) []) :=
  Eq.mp (by kernel_rfl) ((funW_run (AG := none'') body_is (c_ag k kp) [(.v (.string x0))] []).trans (c_c k kp (JJ k kp) (LL k kp) x0))
theorem f_eq (k kp : KT) (x0 : BA) : funW cfg Tryd.f59 [(.v (.string x0))] [] k kp = f x0 (fun y0 y1 => k (.tup [(.v (.int IntKind.u8 y0)), (.v (.int .i64 y1))]) []) := by
  rw [f_def, c_raw]; simp only [j2000007_eq]; first | done | rfl
noncomputable def ent0 : Entry := fun args blks k _ => match args, blks with
  | [d0], [] => aStr d0 fun x0 => f x0 (fun y0 y1 => k (.tup [(.v (.int IntKind.u8 y0)), (.v (.int .i64 y1))]) [])
  | _, _ => False
noncomputable def ent : Entry := fun args blks k kp => ent0 (convB [.no] args) blks k kp
theorem ok : EntOk Tryd.prog 49 0 59 ent := by
  refine EntOk.convB (EntOk.of (funW_ok (cfg := cfg) (tyOk_of rfl rfl tyL_ok) (eqOk_of (P := Tryd.prog) rfl rfl (by kernel_rfl)) mixed_ok (tab_ok ?_) Tryd.func59 (by rfl) (by rfl)) ?_) _
  · intro p hp
    simp only [List.mem_cons, List.not_mem_nil, or_false] at hp
    rcases hp with rfl | rfl
    · exact N71.ok
    · exact N72.ok
  · intro args blks k kp h k' kp'
    match args, blks, h with
    | [d0], [], h =>
    dsimp only [ent0] at h
    have h9 := aStr_elim h; clear h; obtain ⟨x0, rfl, h⟩ := h9
    exact (f_eq k' kp' x0).symm
end N59
end Go.Proofs.Ye

namespace Go.Proofs.Ye
open Go Go.Aw Go.Proofs
set_option maxRecDepth 100000
set_option maxHeartbeats 4000000
namespace N38
noncomputable def cfg : Cfg := { P := Tryd.prog, tf := 49, tw := 0, ty := tys, E := tab [(59, N59.ent)], atSeq := tab [(2000002, ⟨[(0, .keep), (1, .keep), (24, .keep)]⟩), (3, ⟨[(0, .keep), (1, .keep)]⟩), (2000006, ⟨[(0, .keep), (7, .keep), (8, .keep), (27, .keep)]⟩), (14, ⟨[(0, .keep), (7, .keep), (8, .keep)]⟩)], atLoop := tab [(5, ⟨[(0, .keep), (7, .own 5 (Ty.int IntKind.u8)), (8, .keep)]⟩)], outs := [], eqT := tab [], bT := tab [] }
noncomputable def body : Code := bodyOf Tryd.f38
def j2000002 (j3 : BA → Int → Prop) (x0 : BA) (x1 : Int) (x24 : Bool) (k : BA → Int → Int → Prop) : Prop :=
  (br x24 (k (ByteArray.mk #[]) (0 : Int) (1 : Int)) (j3 x0 x1))
def j3 (l5 : BA → Int → LI → Prop) (x0 : BA) (x1 : Int) (k : BA → Int → Int → Prop) : Prop :=
  (l5 x0 (IntKind.i64.wrap (x1 + (1 : Int))) ([] : List Int))
def l5 (j2000006 : BA → Int → Bool → LI → Prop) (x0 : BA) (x8 : Int) (b0 : LI) (k : BA → Int → Int → Prop) : Prop :=
  (br (x8 == ((((x0).size : Nat) : Int))) (j2000006 x0 x8 true b0) ((inB 0 x8 ((((x0).size : Nat) : Int) - 1)) ∧ (j2000006 x0 x8 ((byteAt x0 x8) == (10 : Int)) b0)))
def j2000006 (j14 : BA → Int → LI → Prop) (ag5 : Int → LI → Prop) (x0 : BA) (x8 : Int) (x27 : Bool) (b0 : LI) (k : BA → Int → Int → Prop) : Prop :=
  (br x27 (k (ByteArray.mk #[]) x8 (11 : Int)) ((inB 0 x8 ((((x0).size : Nat) : Int) - 1)) ∧ (br ((byteAt x0 x8) == (34 : Int)) (k (bytesOf b0) (IntKind.i64.wrap (x8 + (1 : Int))) (0 : Int)) (br (((((b0).length : Nat) : Int)) == (64 : Int)) (k (ByteArray.mk #[]) x8 (3 : Int)) ((inB 0 x8 ((((x0).size : Nat) : Int) - 1)) ∧ (br ((byteAt x0 x8) != (92 : Int)) ((inB 0 x8 ((((x0).size : Nat) : Int) - 1)) ∧ ((room ((b0).length + (([(byteAt x0 x8)] : List Int)).length) 1) ∧ (ag5 (IntKind.i64.wrap (x8 + (1 : Int))) (b0 ++ ([(byteAt x0 x8)] : List Int))))) (j14 x0 x8 b0)))))))
def j14 (ag5 : Int → LI → Prop) (x0 : BA) (x8 : Int) (b0 : LI) (k : BA → Int → Int → Prop) : Prop :=
  ((inB (IntKind.i64.wrap (x8 + (1 : Int))) (((x0).size : Nat) : Int) (((x0).size : Nat) : Int)) ∧ (N59.f (ByteArray.extract x0 (Int.toNat (IntKind.i64.wrap (x8 + (1 : Int)))) (Int.toNat (((x0).size : Nat) : Int))) (fun (y0_0 : Int) (y1_0 : Int) => (br (y1_0 == (0 : Int)) (k (ByteArray.mk #[]) x8 (11 : Int)) ((room ((b0).length + (([y0_0] : List Int)).length) 1) ∧ (ag5 (IntKind.i64.wrap (x8 + (IntKind.i64.wrap ((1 : Int) + y1_0)))) (b0 ++ ([y0_0] : List Int))))))))
def c (j2000002 : BA → Int → Bool → Prop) (x0 : BA) (x1 : Int) (k : BA → Int → Int → Prop) : Prop :=
  (br (decide (x1 < (0 : Int))) (j2000002 x0 x1 true) (br (decide (x1 ≥ ((((x0).size : Nat) : Int)))) (j2000002 x0 x1 true) ((inB 0 x1 ((((x0).size : Nat) : Int) - 1)) ∧ (j2000002 x0 x1 ((byteAt x0 x1) != (34 : Int))))))
def j14' (ag5 : Int → LI → Prop) (x0 : BA) (x8 : Int) (b0 : LI) (k : BA → Int → Int → Prop) : Prop := j14 ag5 x0 x8 b0 k
def j2000006' (ag5 : Int → LI → Prop) (x0 : BA) (x8 : Int) (x27 : Bool) (b0 : LI) (k : BA → Int → Int → Prop) : Prop := j2000006 (fun x0 x8 b0 => j14' ag5 x0 x8 b0 k) ag5 x0 x8 x27 b0 k
def l5' (x0 : BA) (x8 : Int) (b0 : LI) (k : BA → Int → Int → Prop) : Prop := ∃ n, loopS (fun (ag : (Int × LI) → Prop) (s : Int × LI) => l5 (fun x0 x8 x27 b0 => j2000006' (fun x8 b0 => ag (x8, b0)) x0 x8 x27 b0 k) x0 s.1 s.2 k) n (x8, b0)
def j3' (x0 : BA) (x1 : Int) (k : BA → Int → Int → Prop) : Prop := j3 (fun x0 x8 b0 => l5' x0 x8 b0 k) x0 x1 k
def j2000002' (x0 : BA) (x1 : Int) (x24 : Bool) (k : BA → Int → Int → Prop) : Prop := j2000002 (fun x0 x1 => j3' x0 x1 k) x0 x1 x24 k
def f0 (x0 : BA) (x1 : Int) (k : BA → Int → Int → Prop) : Prop := c (fun x0 x1 x24 => j2000002' x0 x1 x24 k) x0 x1 k
theorem f_ex : ∃ g, g = f0 := ⟨_, rfl⟩
noncomputable def f := Classical.choose f_ex
theorem f_def : f = f0 := Classical.choose_spec f_ex
def m2000002 (x0 : BA) (x1 : Int) (x24 : Bool) : St := { tmps := mkT 85 0 [(0, (.v (.string x0))), (1, (.v (.int .i64 x1))), (24, (.v (.bool x24)))], hp := [], m := 0 }
def m3 (x0 : BA) (x1 : Int) : St := { tmps := mkT 85 0 [(0, (.v (.string x0))), (1, (.v (.int .i64 x1)))], hp := [], m := 0 }
def mL5 (x0 : BA) (x8 : Int) (b0 : LI) : St := { tmps := mkT 85 0 [(0, (.v (.string x0))), (7, (.sl 0 0)), (8, (.v (.int .i64 x8)))], hp := [(.lst 5 (Ty.int IntKind.u8) b0 0 false)], m := 0 }
def m2000006 (x0 : BA) (x8 : Int) (x27 : Bool) (b0 : LI) : St := { tmps := mkT 85 0 [(0, (.v (.string x0))), (7, (.sl 0 0)), (8, (.v (.int .i64 x8))), (27, (.v (.bool x27)))], hp := [(.lst 5 (Ty.int IntKind.u8) b0 0 false)], m := 0 }
def m14 (x0 : BA) (x8 : Int) (b0 : LI) : St := { tmps := mkT 85 0 [(0, (.v (.string x0))), (7, (.sl 0 0)), (8, (.v (.int .i64 x8)))], hp := [(.lst 5 (Ty.int IntKind.u8) b0 0 false)], m := 0 }
noncomputable def X2000002 (k kp : KT) : St → Prop := atP cfg (pick none' []) [1, 0, 1] body (topK cfg Tryd.f38 k kp)
noncomputable def X3 (k kp : KT) : St → Prop := atP cfg (pick none' []) [1, 1] body (topK cfg Tryd.f38 k kp)
noncomputable def YL5 (k kp : KT) : (St → Prop) → St → Prop := loopB cfg (sub [1, 1, 1, 1, 0, 0] body) (contK cfg (pick none' []) [1, 1, 1, 1, 0] body (topK cfg Tryd.f38 k kp))
noncomputable def XL5 (k kp : KT) : St → Prop := fun st => ∃ n, loopN (YL5 k kp) n st
noncomputable def X2000006 (k kp : KT) (ag5 : St → Prop) : St → Prop := atP cfg (pick none' [(5, ag5)]) [1, 1, 1, 1, 0, 0, 0, 0, 0, 1] body (topK cfg Tryd.f38 k kp)
noncomputable def X14 (k kp : KT) (ag5 : St → Prop) : St → Prop := atP cfg (pick none' [(5, ag5)]) [1, 1, 1, 1, 0, 0, 0, 1] body (topK cfg Tryd.f38 k kp)
noncomputable def JJ (k kp : KT) : Nat → St → Prop := pick none' [(2000002, X2000002 k kp), (3, X3 k kp)]
noncomputable def LL (k kp : KT) : Nat → St → Prop := pick none' [(5, XL5 k kp)]
noncomputable def JJ_5 (k kp : KT) (ag5 : St → Prop) : Nat → St → Prop := pick none' [(2000002, X2000002 k kp), (3, X3 k kp), (2000006, X2000006 k kp ag5), (14, X14 k kp ag5)]
noncomputable def LL_5 (k kp : KT) (ag5 : St → Prop) : Nat → St → Prop := pick none' [(5, XL5 k kp)]
theorem j14_c (k kp : KT) (J L : Nat → St → Prop) (ag5 : St → Prop) (x0 : BA) (x8 : Int) (b0 : LI) : runC cfg 14 J L (pick none' [(5, ag5)]) [1, 1, 1, 1, 0, 0, 0, 1] body (topK cfg Tryd.f38 k kp) (m14 x0 x8 b0) = j14 (fun x8 b0 => ag5 (mL5 x0 x8 b0)) x0 x8 b0 (fun y0 y1 y2 => k (.tup [(.v (.string y0)), (.v (.int .i64 y1)), (.v (.int .i64 y2))]) []) := by kernel_rfl
theorem j14_ag (k kp : KT) (ag5 : St → Prop) : agPL cfg 14 (JJ_5 k kp ag5) (LL_5 k kp ag5) [1, 1, 1, 1, 0, 0, 0, 1] body = agPR cfg 14 (pick none' [(5, ag5)]) [1, 1, 1, 1, 0, 0, 0, 1] body (topK cfg Tryd.f38 k kp) := by kernel_rfl
theorem j14_raw (k kp : KT) (ag5 : St → Prop) (x0 : BA) (x8 : Int) (b0 : LI) : X14 k kp ag5 (m14 x0 x8 b0) = j14 (fun x8 b0 => ag5 (mL5 x0 x8 b0)) x0 x8 b0 (fun y0 y1 y2 => k (.tup [(.v (.string y0)), (.v (.int .i64 y1)), (.v (.int .i64 y2))]) []) :=
  Eq.mp (by kernel_rfl) ((atP_run (j14_ag k kp ag5) (m14 x0 x8 b0)).trans (j14_c k kp (JJ_5 k kp ag5) (LL_5 k kp ag5) ag5 x0 x8 b0))
theorem j14_eq (k kp : KT) (ag5 : St → Prop) (x0 : BA) (x8 : Int) (b0 : LI) : X14 k kp ag5 (m14 x0 x8 b0) = j14' (fun x8 b0 => ag5 (mL5 x0 x8 b0)) x0 x8 b0 (fun y0 y1 y2 => k (.tup [(.v (.string y0)), (.v (.int .i64 y1)), (.v (.int .i64 y2))]) []) := by
  rw [j14_raw]; rfl
theorem j2000006_c (k kp : KT) (J L : Nat → St → Prop) (ag5 : St → Prop) (x0 : BA) (x8 : Int) (x27 : Bool) (b0 : LI) : runC cfg 2000006 J L (pick none' [(5, ag5)]) [1, 1, 1, 1, 0, 0, 0, 0, 0, 1] body (topK cfg Tryd.f38 k kp) (m2000006 x0 x8 x27 b0) = j2000006 (fun x0 x8 b0 => J 14 (m14 x0 x8 b0)) (fun x8 b0 => ag5 (mL5 x0 x8 b0)) x0 x8 x27 b0 (fun y0 y1 y2 => k (.tup [(.v (.string y0)), (.v (.int .i64 y1)), (.v (.int .i64 y2))]) []) := by kernel_rfl
theorem j2000006_ag (k kp : KT) (ag5 : St → Prop) : agPL cfg 2000006 (JJ_5 k kp ag5) (LL_5 k kp ag5) [1, 1, 1, 1, 0, 0, 0, 0, 0, 1] body = agPR cfg 2000006 (pick none' [(5, ag5)]) [1, 1, 1, 1, 0, 0, 0, 0, 0, 1] body (topK cfg Tryd.f38 k kp) := by kernel_rfl
theorem j2000006_raw (k kp : KT) (ag5 : St → Prop) (x0 : BA) (x8 : Int) (x27 : Bool) (b0 : LI) : X2000006 k kp ag5 (m2000006 x0 x8 x27 b0) = j2000006 (fun x0 x8 b0 => X14 k kp ag5 (m14 x0 x8 b0)) (fun x8 b0 => ag5 (mL5 x0 x8 b0)) x0 x8 x27 b0 (fun y0 y1 y2 => k (.tup [(.v (.string y0)), (.v (.int .i64 y1)), (.v (.int .i64 y2))]) []) :=
  Eq.mp (by kernel_rfl) ((atP_run (j2000006_ag k kp ag5) (m2000006 x0 x8 x27 b0)).trans (j2000006_c k kp (JJ_5 k kp ag5) (LL_5 k kp ag5) ag5 x0 x8 x27 b0))
theorem j2000006_eq (k kp : KT) (ag5 : St → Prop) (x0 : BA) (x8 : Int) (x27 : Bool) (b0 : LI) : X2000006 k kp ag5 (m2000006 x0 x8 x27 b0) = j2000006' (fun x8 b0 => ag5 (mL5 x0 x8 b0)) x0 x8 x27 b0 (fun y0 y1 y2 => k (.tup [(.v (.string y0)), (.v (.int .i64 y1)), (.v (.int .i64 y2))]) []) := by
  rw [j2000006_raw]; simp only [j14_eq]; first | done | rfl
theorem l5_c (k kp : KT) (J L : Nat → St → Prop) (ag5 : St → Prop) (x0 : BA) (x8 : Int) (b0 : LI) : runC cfg 1000001 J L (pick none' [(5, ag5)]) [1, 1, 1, 1, 0, 0] body (topK cfg Tryd.f38 k kp) (mL5 x0 x8 b0) = l5 (fun x0 x8 x27 b0 => J 2000006 (m2000006 x0 x8 x27 b0)) x0 x8 b0 (fun y0 y1 y2 => k (.tup [(.v (.string y0)), (.v (.int .i64 y1)), (.v (.int .i64 y2))]) []) := by kernel_rfl
theorem l5_ag (k kp : KT) (ag5 : St → Prop) : agPL cfg 1000001 (JJ_5 k kp ag5) (LL_5 k kp ag5) [1, 1, 1, 1, 0, 0] body = agPR cfg 1000001 (pick none' [(5, ag5)]) [1, 1, 1, 1, 0, 0] body (topK cfg Tryd.f38 k kp) := by kernel_rfl
theorem l5_raw (k kp : KT) (ag5 : St → Prop) (x0 : BA) (x8 : Int) (b0 : LI) : YL5 k kp ag5 (mL5 x0 x8 b0) = l5 (fun x0 x8 x27 b0 => X2000006 k kp ag5 (m2000006 x0 x8 x27 b0)) x0 x8 b0 (fun y0 y1 y2 => k (.tup [(.v (.string y0)), (.v (.int .i64 y1)), (.v (.int .i64 y2))]) []) :=
  Eq.mp (by kernel_rfl) ((atP_run (l5_ag k kp ag5) (mL5 x0 x8 b0)).trans (l5_c k kp (JJ_5 k kp ag5) (LL_5 k kp ag5) ag5 x0 x8 b0))
theorem l5_eq (k kp : KT) (x0 : BA) (x8 : Int) (b0 : LI) : XL5 k kp (mL5 x0 x8 b0) = l5' x0 x8 b0 (fun y0 y1 y2 => k (.tup [(.v (.string y0)), (.v (.int .i64 y1)), (.v (.int .i64 y2))]) []) :=
  loop_eq (mk := fun (s : Int × LI) => mL5 x0 s.1 s.2) (fun again s => by rw [l5_raw k kp again x0 s.1 s.2]; simp only [j2000006_eq]; first | done | rfl) (x8, b0)
theorem j3_c (k kp : KT) (J L : Nat → St → Prop) (x0 : BA) (x1 : Int) : runC cfg 3 J L (pick none' []) [1, 1] body (topK cfg Tryd.f38 k kp) (m3 x0 x1) = j3 (fun x0 x8 b0 => L 5 (mL5 x0 x8 b0)) x0 x1 (fun y0 y1 y2 => k (.tup [(.v (.string y0)), (.v (.int .i64 y1)), (.v (.int .i64 y2))]) []) := by kernel_rfl
theorem j3_ag (k kp : KT) : agPL cfg 3 (JJ k kp) (LL k kp) [1, 1] body = agPR cfg 3 (pick none' []) [1, 1] body (topK cfg Tryd.f38 k kp) := by kernel_rfl
theorem j3_raw (k kp : KT) (x0 : BA) (x1 : Int) : X3 k kp (m3 x0 x1) = j3 (fun x0 x8 b0 => XL5 k kp (mL5 x0 x8 b0)) x0 x1 (fun y0 y1 y2 => k (.tup [(.v (.string y0)), (.v (.int .i64 y1)), (.v (.int .i64 y2))]) []) :=
  Eq.mp (by kernel_rfl) ((atP_run (j3_ag k kp) (m3 x0 x1)).trans (j3_c k kp (JJ k kp) (LL k kp) x0 x1))
theorem j3_eq (k kp : KT) (x0 : BA) (x1 : Int) : X3 k kp (m3 x0 x1) = j3' x0 x1 (fun y0 y1 y2 => k (.tup [(.v (.string y0)), (.v (.int .i64 y1)), (.v (.int .i64 y2))]) []) := by
  rw [j3_raw]; simp only [l5_eq]; first | done | rfl
theorem j2000002_c (k kp : KT) (J L : Nat → St → Prop) (x0 : BA) (x1 : Int) (x24 : Bool) : runC cfg 2000002 J L (pick none' []) [1, 0, 1] body (topK cfg Tryd.f38 k kp) (m2000002 x0 x1 x24) = j2000002 (fun x0 x1 => J 3 (m3 x0 x1)) x0 x1 x24 (fun y0 y1 y2 => k (.tup [(.v (.string y0)), (.v (.int .i64 y1)), (.v (.int .i64 y2))]) []) := by kernel_rfl
theorem j2000002_ag (k kp : KT) : agPL cfg 2000002 (JJ k kp) (LL k kp) [1, 0, 1] body = agPR cfg 2000002 (pick none' []) [1, 0, 1] body (topK cfg Tryd.f38 k kp) := by kernel_rfl
theorem j2000002_raw (k kp : KT) (x0 : BA) (x1 : Int) (x24 : Bool) : X2000002 k kp (m2000002 x0 x1 x24) = j2000002 (fun x0 x1 => X3 k kp (m3 x0 x1)) x0 x1 x24 (fun y0 y1 y2 => k (.tup [(.v (.string y0)), (.v (.int .i64 y1)), (.v (.int .i64 y2))]) []) :=
  Eq.mp (by kernel_rfl) ((atP_run (j2000002_ag k kp) (m2000002 x0 x1 x24)).trans (j2000002_c k kp (JJ k kp) (LL k kp) x0 x1 x24))
theorem j2000002_eq (k kp : KT) (x0 : BA) (x1 : Int) (x24 : Bool) : X2000002 k kp (m2000002 x0 x1 x24) = j2000002' x0 x1 x24 (fun y0 y1 y2 => k (.tup [(.v (.string y0)), (.v (.int .i64 y1)), (.v (.int .i64 y2))]) []) := by
  rw [j2000002_raw]; simp only [j3_eq]; first | done | rfl
theorem c_c (k kp : KT) (J L : Nat → St → Prop) (x0 : BA) (x1 : Int) : runC cfg 1000001 J L none'' [] body (topK cfg Tryd.f38 k kp) (st0 Tryd.f38 [(.v (.string x0)), (.v (.int .i64 x1))] []) = c (fun x0 x1 x24 => J 2000002 (m2000002 x0 x1 x24)) x0 x1 (fun y0 y1 y2 => k (.tup [(.v (.string y0)), (.v (.int .i64 y1)), (.v (.int .i64 y2))]) []) := by kernel_rfl
theorem c_ag (k kp : KT) : agPL cfg 1000001 (JJ k kp) (LL k kp) [] body = agPR cfg 1000001 none'' [] body (topK cfg Tryd.f38 k kp) := by kernel_rfl
theorem body_is : Tryd.f38.body = some body := by kernel_rfl
theorem c_raw (k kp : KT) (x0 : BA) (x1 : Int) : funW cfg Tryd.f38 [(.v (.string x0)), (.v (.int .i64 x1))] [] k kp = c (fun x0 x1 x24 => X2000002 k kp (m2000002 x0 x1 x24)) x0 x1 (fun y0 y1 y2 => k (.tup [(.v (.string y0)), (.v (.int .i64 y1)), (.v (.int .i64 y2))]) []) :=
  Eq.mp (by kernel_rfl) ((funW_run (AG := none'') body_is (c_ag k kp) [(.v (.string x0)), (.v (.int .i64 x1))] []).trans (c_c k kp (JJ k kp) (LL k kp) x0 x1))
theorem f_eq (k kp : KT) (x0 : BA) (x1 : Int) : funW cfg Tryd.f38 [(.v (.string x0)), (.v (.int .i64 x1))] [] k kp = f x0 x1 (fun y0 y1 y2 => k (.tup [(.v (.string y0)), (.v (.int .i64 y1)), (.v (.int .i64 y2))]) []) := by
  rw [f_def, c_raw]; simp only [j2000002_eq]; first | done | rfl
noncomputable def ent0 : Entry := fun args blks k _ => match args, blks with
  | [d0, d1], [] => aStr d0 fun x0 => aInt IntKind.i64 d1 fun x1 => f x0 x1 (fun y0 y1 y2 => k (.tup [(.v (.string y0)), (.v (.int .i64 y1)), (.v (.int .i64 y2))]) [])
  | _, _ => False
noncomputable def ent : Entry := fun args blks k kp => ent0 (convB [.no, .no] args) blks k kp
theorem ok : EntOk Tryd.prog 49 0 38 ent := by
  refine EntOk.convB (EntOk.of (funW_ok (cfg := cfg) (tyOk_of rfl rfl tyL_ok) (eqOk_of (P := Tryd.prog) rfl rfl (by kernel_rfl)) mixed_ok (tab_ok ?_) Tryd.func38 (by rfl) (by rfl)) ?_) _
  · intro p hp
    simp only [List.mem_cons, List.not_mem_nil, or_false] at hp
    rcases hp with rfl
    · exact N59.ok
  · intro args blks k kp h k' kp'
    match args, blks, h with
    | [d0, d1], [], h =>
    dsimp only [ent0] at h
    have h9 := aStr_elim h; clear h; obtain ⟨x0, rfl, h⟩ := h9
    have h9 := aInt_elim h; clear h; obtain ⟨x1, rfl, h⟩ := h9
    exact (f_eq k' kp' x0 x1).symm
end N38
end Go.Proofs.Ye

namespace Go.Proofs.Ye
open Go Go.Aw Go.Proofs Go.RowKit
theorem meant_s (c : Int) (k : Int → Bool → Prop) (h : match meantL c with | some v => k v true | none => k 0 false) : N71.f c k := by
  rw [N71.f_def]
  unfold N71.f0 N71.c N71.j2000008' N71.j2000008 N71.j9' N71.j9
  unfold meantL at h
  simp only [br_beq]
  repeat' split
  all_goals simp_all
theorem nibble_s (c : Int) (hc : isB c) (k : Int → Bool → Prop) (h : match nibL c with | some v => k v true | none => k 0 false) : N72.f c k := by
  rw [N72.f_def]
  unfold N72.f0 N72.c N72.j2000002' N72.j2000002 N72.j2000004' N72.j2000004 N72.j2000006' N72.j2000006 N72.j7' N72.j7
  unfold isB at hc
  simp only [br_dec, br_false]
  by_cases h1 : 48 ≤ c ∧ c ≤ 57
  · unfold nibL at h
    rw [if_pos h1] at h
    rw [if_pos h1.1, if_pos h1.2, show IntKind.u8.wrap (c - 48) = c - 48 by rw [wu8_eq]; omega]
    exact h
  · by_cases h2 : 97 ≤ c ∧ c ≤ 102
    · unfold nibL at h
      rw [if_neg h1, if_pos h2] at h
      have e : IntKind.u8.wrap (IntKind.u8.wrap (c - 97) + 10) = c - 87 := by rw [wu8_eq, wu8_eq]; omega
      rw [if_pos (by omega), if_neg (by omega), if_pos (by omega), if_pos (by omega), e]
      exact h
    · by_cases h3 : 65 ≤ c ∧ c ≤ 70
      · unfold nibL at h
        rw [if_neg h1, if_neg h2, if_pos h3] at h
        have e : IntKind.u8.wrap (IntKind.u8.wrap (c - 65) + 10) = c - 55 := by rw [wu8_eq, wu8_eq]; omega
        rw [if_pos (by omega), if_neg (by omega), if_neg (by omega), if_pos (by omega), if_pos (by omega), e]
        exact h
      · unfold nibL at h
        rw [if_neg h1, if_neg h2, if_neg h3] at h
        repeat' split
        all_goals first | exact h | omega
theorem escape_s (r : List Int) (hr : ∀ x ∈ r, isB x) (k : Int → Int → Prop) (h : match escL r with | some (v, n) => k v n | none => k 0 0) : N59.f (bytesOf r) k := by
  rw [N59.f_def]
  unfold N59.f0 N59.c N59.j2000007' N59.j2000007 N59.j8' N59.j8
  rw [bytesOf_nil]
  simp only [br_dec, bytesOf_size]
  cases r with
  | nil => exact h
  | cons c r =>
    rw [if_neg (by simp)]
    have b0 : byteAt (bytesOf (c :: r)) 0 = c := byteAt_bytes hr 0
    refine ⟨⟨by omega, by omega, by simp⟩, ?_⟩
    rw [b0]
    refine meant_s c _ ?_
    unfold escL at h
    dsimp only at h
    split
    · rename_i v hv
      rw [hv] at h
      exact h
    · rename_i hv
      rw [hv] at h
      simp only [br_false, br_bne]
      refine ⟨⟨by omega, by omega, by simp⟩, ?_⟩
      dsimp only at h
      split
      · rename_i hc
        rw [if_pos hc] at h
        match r, hr, h with
        | [], hr, h => exact h
        | [a], hr, h => exact h
        | a :: b :: r, hr, h =>
          rw [if_neg (by simp; omega)]
          have b1 : byteAt (bytesOf (c :: a :: b :: r)) 1 = a := byteAt_bytes hr 1
          have b2 : byteAt (bytesOf (c :: a :: b :: r)) 2 = b := byteAt_bytes hr 2
          rw [b1, b2]
          refine ⟨⟨by omega, by omega, by simp; omega⟩, nibble_s a (hr a (by simp)) _ ?_⟩
          unfold hexEsc at h
          dsimp only at h
          unfold N59.j2000011' N59.j2000011 N59.j12' N59.j12
          cases ha : nibL a with
          | none =>
            rw [ha] at h
            dsimp only at h ⊢
            refine ⟨⟨by omega, by omega, by simp; omega⟩, nibble_s b (hr b (by simp)) _ ?_⟩
            cases hb : nibL b <;> exact h
          | some hi =>
            rw [ha] at h
            dsimp only at h ⊢
            refine ⟨⟨by omega, by omega, by simp; omega⟩, nibble_s b (hr b (by simp)) _ ?_⟩
            cases hb : nibL b with
            | none => rw [hb] at h; exact h
            | some lo =>
              rw [hb] at h
              show (0 : Int) ≤ 4 ∧ _
              rw [or4 hi lo (nib_lt ha) (nib_lt hb)]
              exact ⟨by decide, h⟩
      · rename_i hc
        rw [if_neg hc] at h
        exact h
theorem qscan_s (x : ByteArray) (hx : x.size ≤ 1000000000000) (at_ : Int) (k : ByteArray → Int → Int → Prop)
    (h1 : noQuote (ofBytes x) at_ → k (bytesOf []) 0 1)
    (h2 : ∀ t e c, ¬ noQuote (ofBytes x) at_ → scanL 64 ((ofBytes x).length + 1) ((ofBytes x).drop (at_.toNat + 1)) (at_ + 1) [] = (t, e, c) → k (bytesOf t) e c) : N38.f x at_ k := by
  rw [N38.f_def]
  unfold N38.f0 N38.c N38.j2000002' N38.j2000002 N38.j3' N38.j3
  have hn := ofBytes_length x
  have hB := ofBytes_isB x
  unfold noQuote at h1 h2
  rw [show ByteArray.mk #[] = bytesOf [] from rfl]
  have go : ¬ noQuote (ofBytes x) at_ → N38.l5' x (IntKind.i64.wrap (at_ + 1)) [] k := by
    intro hq
    have hq' := hq
    unfold noQuote at hq'
    obtain ⟨a, rfl⟩ : ∃ a : Nat, at_ = a := ⟨at_.toNat, by omega⟩
    have ha : a < (ofBytes x).length := by omega
    rw [wrap_id (by omega) (by omega)]
    simp only [Int.toNat_natCast] at h2 hq'
    generalize hR : scanL 64 ((ofBytes x).length + 1) ((ofBytes x).drop (a + 1)) ((a : Int) + 1) [] = R at h2
    unfold N38.l5'
    refine loopS_of (fun s : Int × List Int => ∃ i f : Nat, s.1 = i ∧ i ≤ (ofBytes x).length ∧ s.2.length ≤ 64 ∧ (ofBytes x).length - i < f ∧ scanL 64 f ((ofBytes x).drop i) i s.2 = R) (fun s => (ofBytes x).length - s.1.toNat) ?_
      ⟨a + 1, (ofBytes x).length + 1, by simp, by omega, by simp, by omega, by rw [← hR]; rfl⟩
    rintro again ⟨p, b⟩ ⟨i, f, e1, hi, hb, hf, e2⟩ hag
    simp only at e1 hb e2 hag
    subst e1
    unfold N38.l5 N38.j2000006' N38.j2000006
    dsimp only
    obtain ⟨f, rfl⟩ : ∃ g, f = g + 1 := ⟨f - 1, by omega⟩
    have fin : ∀ t e c, (t, e, c) = R → k (bytesOf t) e c := fun t e c he => h2 t e c (by simpa [noQuote] using hq) he.symm
    refine br_of (fun hend => ?_) (fun hne => ?_)
    · have hend : i = (ofBytes x).length := by simp at hend; omega
      rw [List.drop_of_length_le (by omega)] at e2
      exact fin [] i 11 e2
    · have hlt : i < (ofBytes x).length := by simp at hne; omega
      rw [byteAt_eq]
      rw [drop_get (d := 0) hlt] at e2
      have hc := getD_isB x i
      generalize (ofBytes x).getD i 0 = c at *
      have inb : inB 0 (i : Int) (((x.size : Nat) : Int) - 1) := ⟨by omega, by omega, by omega⟩
      refine ⟨inb, ?_⟩
      unfold scanL at e2
      dsimp only at e2
      simp only [br_beq, br_bne]
      split
      · rename_i h10; rw [if_pos h10] at e2; exact fin _ _ _ e2
      · rename_i h10; rw [if_neg h10] at e2
        refine ⟨inb, ?_⟩
        split
        · rename_i h34; rw [if_pos h34] at e2
          rw [wrap_id (by omega) (by omega)]
          exact fin _ _ _ e2
        · rename_i h34; rw [if_neg h34] at e2
          split
          · rename_i h64; rw [if_pos (by omega)] at e2; exact fin _ _ _ e2
          · rename_i h64; rw [if_neg (by omega)] at e2
            refine ⟨inb, ?_⟩
            split
            · rename_i h92; rw [if_neg (by simpa using h92)] at e2
              unfold N38.j14' N38.j14
              have ee : ByteArray.extract x (Int.toNat (IntKind.i64.wrap ((i : Int) + 1))) (Int.toNat ((x.size : Nat) : Int)) = bytesOf ((ofBytes x).drop (i + 1)) := by
                rw [wrap_id (by omega) (by omega)]
                apply eq_of_ofBytes
                rw [ofBytes_extract, ofBytes_bytesOf (fun y hy => hB y (List.mem_of_mem_drop hy)), Int.toNat_natCast, List.take_of_length_le (by omega), show ((i : Int) + 1).toNat = i + 1 by omega]
              rw [ee]
              refine ⟨⟨by rw [wrap_id (by omega) (by omega)]; omega, by rw [wrap_id (by omega) (by omega)]; omega, by omega⟩, escape_s _ (fun y hy => hB y (List.mem_of_mem_drop hy)) _ ?_⟩
              cases hesc : escL ((ofBytes x).drop (i + 1)) with
              | none => rw [hesc] at e2; exact fin _ _ _ e2
              | some r =>
                obtain ⟨v, n⟩ := r
                rw [hesc] at e2
                obtain ⟨hn1, hn2⟩ := esc_pos hesc
                rw [List.length_drop] at hn2
                dsimp only at e2 ⊢
                simp only [br_beq]
                rw [if_neg (by omega)]
                refine ⟨by unfold room; simp; omega, ?_⟩
                rw [wrap_id (by omega) (by omega : (1 : Int) + n ≤ _), wrap_id (by omega) (by omega)]
                refine hag _ ⟨i + 1 + n, f, by simp; omega, by omega, by simp; omega, by omega, ?_⟩ (by simp only; omega)
                rw [List.drop_drop] at e2
                rw [← e2]
                simp
            · rename_i h92; rw [if_pos (by simpa using h92)] at e2
              refine ⟨inb, by unfold room; simp; omega, ?_⟩
              rw [wrap_id (by omega) (by omega)]
              refine hag _ ⟨i + 1, f, by simp, by omega, by simp; omega, by omega, ?_⟩ (by simp only; omega)
              rw [← e2]
              simp
  simp only [br_dec, br_bne]
  split
  · rename_i ha; exact h1 (.inl ha)
  · rename_i ha
    split
    · rename_i hb; exact h1 (.inr (.inl (by omega)))
    · rename_i hb
      obtain ⟨a, rfl⟩ : ∃ a : Nat, at_ = a := ⟨at_.toNat, by omega⟩
      rw [byteAt_eq]
      refine ⟨⟨by omega, by omega, by omega⟩, ?_⟩
      split
      · rename_i hc
        refine go ?_
        unfold noQuote
        simp only [Int.toNat_natCast]
        rintro (h | h | h)
        · omega
        · omega
        · exact h hc
      · rename_i hc
        exact h1 (.inr (.inr (by simpa using hc)))
theorem one_s (c : Int) (hc : isB c) (k : ByteArray → Prop) (h : k (bytesOf (oneL c))) : N51.f c k := by
  rw [N51.f_def]
  unfold N51.f0 N51.c N51.j2000011' N51.j2000011 N51.j12' N51.j12
  unfold oneL at h
  have hc' := hc
  unfold isB at hc'
  have last : k (bytesOf [92, 120, hexL (c / 16), hexL (c % 16)]) → N51.j12 c k := by
    intro h
    unfold N51.j12
    have e1 : IntKind.u8.wrap (Int.tdiv c 16) = c / 16 := by rw [Int.tdiv_eq_ediv_of_nonneg hc'.1, wu8_eq]; omega
    have e2 : Int.tmod c 16 = c % 16 := Int.tmod_eq_emod_of_nonneg hc'.1
    have e3 : IntKind.u8.wrap (c / 16 + 1) = c / 16 + 1 := by rw [wu8_eq]; omega
    have e4 : IntKind.u8.wrap (c % 16 + 1) = c % 16 + 1 := by rw [wu8_eq]; omega
    rw [e1, e2, e3, e4, hexes_ext _ (by omega) (by omega), hexes_ext _ (by omega) (by omega), show ByteArray.mk #[92, 120] = bytesOf [92, 120] from rfl, ← bytesOf_append, ← bytesOf_append]
    refine ⟨by decide, by decide, ⟨by omega, by omega, by show c / 16 + 1 ≤ 16; omega⟩, by rw [bytesOf_size, bytesOf_size]; simp, by decide, by decide, ⟨by omega, by omega, by show c % 16 + 1 ≤ 16; omega⟩, by rw [bytesOf_size, bytesOf_size]; simp, h⟩
  simp only [br_beq]
  split
  · rename_i e; rw [if_pos e] at h; exact h
  · rename_i h1; rw [if_neg h1] at h
    split
    · rename_i e; rw [if_pos e] at h; exact h
    · rename_i h2; rw [if_neg h2] at h
      split
      · rename_i e; rw [if_pos e] at h; exact h
      · rename_i h3; rw [if_neg h3] at h
        split
        · rename_i e; rw [if_pos e] at h; exact h
        · rename_i h4; rw [if_neg h4] at h
          simp only [br_dec, br_false]
          split
          · rename_i h5
            split
            · rename_i h6; rw [if_pos ⟨h5, h6⟩] at h; exact h
            · rename_i h6; rw [if_neg (fun e => h6 e.2)] at h; exact last h
          · rename_i h5; rw [if_neg (fun e => h5 e.1)] at h; exact last h
theorem putr_s_q (x : ByteArray) (hx : x.size ≤ 1000000000000) (k : ByteArray → Prop) (h : k (bytesOf (qputL (ofBytes x)))) : N28.f x k := by
  rw [N28.f_def]
  unfold N28.f0 N28.c
  have hn := ofBytes_length x
  rw [show ByteArray.mk #[34] = bytesOf [34] from rfl]
  unfold N28.l3'
  refine loopS_of (fun s : ByteArray × Int => ∃ i : Nat, s.2 = i ∧ i ≤ (ofBytes x).length ∧ s.1 = bytesOf (34 :: ((ofBytes x).take i).flatMap oneL)) (fun s => (ofBytes x).length - s.2.toNat) ?_ ⟨0, rfl, Nat.zero_le _, rfl⟩
  rintro again ⟨b, a⟩ ⟨i, e1, hi, e2⟩ hag
  simp only at e1 e2
  subst e1; subst e2
  unfold N28.l3 N28.j6' N28.j6
  dsimp only
  have hfl := flat_len ((ofBytes x).take i)
  have hln : ((ofBytes x).take i).length ≤ i := by simp; omega
  refine br_of (fun hlt => ?_) (fun hge => ?_)
  · have hlt : i < (ofBytes x).length := by simp at hlt; omega
    rw [byteAt_eq]
    have h4 := oneL_len ((ofBytes x).getD i 0)
    refine ⟨⟨by omega, by omega, by omega⟩, one_s _ (getD_isB x i) _ ⟨?_, ?_⟩⟩
    · rw [bytesOf_size, bytesOf_size]; simp only [List.length_cons, List.length_append, List.length_nil]; omega
    · rw [wrap_id (by omega) (by omega), ← bytesOf_append]
      refine hag _ ⟨i + 1, by simp, by omega, ?_⟩ (by simp only; omega)
      rw [take_flat hlt]; rfl
  · have hge : i = (ofBytes x).length := by simp at hge; omega
    subst hge
    rw [List.take_length] at *
    rw [show ByteArray.mk #[34] = bytesOf [34] from rfl, ← bytesOf_append]
    refine ⟨?_, h⟩
    rw [bytesOf_size, bytesOf_size]; simp only [List.length_cons, List.length_append, List.length_nil]; omega
end Go.Proofs.Ye

namespace Go.Proofs.Ye
open Go Go.Aw Go.Proofs
set_option maxRecDepth 100000
set_option maxHeartbeats 4000000
namespace N47
noncomputable def cfg : Cfg := { P := Tryd.prog, tf := 49, tw := 0, ty := tys, E := tab [], atSeq := tab [(2000003, ⟨[(0, .keep), (3, .keep), (10, .keep)]⟩), (4, ⟨[(0, .keep), (3, .keep)]⟩), (9, ⟨[]⟩)], atLoop := tab [(5, ⟨[(0, .keep), (3, .keep), (4, .keep)]⟩)], outs := [], eqT := tab [], bT := tab [] }
noncomputable def body : Code := bodyOf Tryd.f47
def j2000003 (j4 : Int → BA → Prop) (x0 : Int) (x3 : BA) (x10 : Bool) (k : Int → Prop) : Prop :=
  (br x10 (j4 (IntKind.u8.wrap (x0 + (32 : Int))) x3) (j4 x0 x3))
def j4 (l5 : Int → BA → Int → Prop) (x0 : Int) (x3 : BA) (k : Int → Prop) : Prop :=
  (l5 x0 x3 (0 : Int))
def l5 (j9 : Prop) (ag5 : Int → Prop) (x0 : Int) (x3 : BA) (x4 : Int) (k : Int → Prop) : Prop :=
  (br (decide (x4 < (16 : Int))) ((inB 0 x4 ((((x3).size : Nat) : Int) - 1)) ∧ (br ((byteAt x3 x4) == x0) (k x4) (ag5 (IntKind.i64.wrap (x4 + (1 : Int)))))) (j9))
def j9 (k : Int → Prop) : Prop :=
  (k (99 : Int))
def c (j2000003 : Int → BA → Bool → Prop) (x0 : Int) (k : Int → Prop) : Prop :=
  (br (decide (x0 ≥ (65 : Int))) (j2000003 x0 (ByteArray.mk #[48, 49, 50, 51, 52, 53, 54, 55, 56, 57, 97, 98, 99, 100, 101, 102]) (decide (x0 ≤ (70 : Int)))) (j2000003 x0 (ByteArray.mk #[48, 49, 50, 51, 52, 53, 54, 55, 56, 57, 97, 98, 99, 100, 101, 102]) false))
def j9' (k : Int → Prop) : Prop := j9 k
def l5' (x0 : Int) (x3 : BA) (x4 : Int) (k : Int → Prop) : Prop := ∃ n, loopS (fun (ag : (Int) → Prop) (s : Int) => l5 (j9' k) (fun x4 => ag (x4)) x0 x3 s k) n (x4)
def j4' (x0 : Int) (x3 : BA) (k : Int → Prop) : Prop := j4 (fun x0 x3 x4 => l5' x0 x3 x4 k) x0 x3 k
def j2000003' (x0 : Int) (x3 : BA) (x10 : Bool) (k : Int → Prop) : Prop := j2000003 (fun x0 x3 => j4' x0 x3 k) x0 x3 x10 k
def f0 (x0 : Int) (k : Int → Prop) : Prop := c (fun x0 x3 x10 => j2000003' x0 x3 x10 k) x0 k
theorem f_ex : ∃ g, g = f0 := ⟨_, rfl⟩
noncomputable def f := Classical.choose f_ex
theorem f_def : f = f0 := Classical.choose_spec f_ex
def m2000003 (x0 : Int) (x3 : BA) (x10 : Bool) : St := { tmps := mkT 23 0 [(0, (.v (.int IntKind.u8 x0))), (3, (.v (.string x3))), (10, (.v (.bool x10)))], hp := [], m := 0 }
def m4 (x0 : Int) (x3 : BA) : St := { tmps := mkT 23 0 [(0, (.v (.int IntKind.u8 x0))), (3, (.v (.string x3)))], hp := [], m := 0 }
def mL5 (x0 : Int) (x3 : BA) (x4 : Int) : St := { tmps := mkT 23 0 [(0, (.v (.int IntKind.u8 x0))), (3, (.v (.string x3))), (4, (.v (.int .i64 x4)))], hp := [], m := 0 }
def m9 : St := { tmps := mkT 23 0 [], hp := [], m := 0 }
noncomputable def X2000003 (k kp : KT) : St → Prop := atP cfg (pick none' []) [1, 1, 0, 1] body (topK cfg Tryd.f47 k kp)
noncomputable def X4 (k kp : KT) : St → Prop := atP cfg (pick none' []) [1, 1, 1] body (topK cfg Tryd.f47 k kp)
noncomputable def YL5 (k kp : KT) : (St → Prop) → St → Prop := loopB cfg (sub [1, 1, 1, 0, 1, 0, 0] body) (contK cfg (pick none' []) [1, 1, 1, 0, 1, 0] body (topK cfg Tryd.f47 k kp))
noncomputable def XL5 (k kp : KT) : St → Prop := fun st => ∃ n, loopN (YL5 k kp) n st
noncomputable def X9 (k kp : KT) : St → Prop := atP cfg (pick none' []) [1, 1, 1, 1] body (topK cfg Tryd.f47 k kp)
noncomputable def JJ (k kp : KT) : Nat → St → Prop := pick none' [(2000003, X2000003 k kp), (4, X4 k kp), (9, X9 k kp)]
noncomputable def LL (k kp : KT) : Nat → St → Prop := pick none' [(5, XL5 k kp)]
noncomputable def JJ_5 (k kp : KT) (ag5 : St → Prop) : Nat → St → Prop := pick none' [(2000003, X2000003 k kp), (4, X4 k kp), (9, X9 k kp)]
noncomputable def LL_5 (k kp : KT) (ag5 : St → Prop) : Nat → St → Prop := pick none' [(5, XL5 k kp)]
theorem j9_c (k kp : KT) (J L : Nat → St → Prop) : runC cfg 9 J L (pick none' []) [1, 1, 1, 1] body (topK cfg Tryd.f47 k kp) (m9) = j9 (fun y0 => k (.v (.int .i64 y0)) []) := by kernel_rfl
theorem j9_ag (k kp : KT) : agPL cfg 9 (JJ k kp) (LL k kp) [1, 1, 1, 1] body = agPR cfg 9 (pick none' []) [1, 1, 1, 1] body (topK cfg Tryd.f47 k kp) := by kernel_rfl
theorem j9_raw (k kp : KT) : X9 k kp (m9) = j9 (fun y0 => k (.v (.int .i64 y0)) []) :=
  Eq.mp (by kernel_rfl) ((atP_run (j9_ag k kp) (m9)).trans (j9_c k kp (JJ k kp) (LL k kp)))
theorem j9_eq (k kp : KT) : X9 k kp (m9) = j9' (fun y0 => k (.v (.int .i64 y0)) []) := by
  rw [j9_raw]; rfl
theorem l5_c (k kp : KT) (J L : Nat → St → Prop) (ag5 : St → Prop) (x0 : Int) (x3 : BA) (x4 : Int) : runC cfg 1000001 J L (pick none' [(5, ag5)]) [1, 1, 1, 0, 1, 0, 0] body (topK cfg Tryd.f47 k kp) (mL5 x0 x3 x4) = l5 (J 9 (m9)) (fun x4 => ag5 (mL5 x0 x3 x4)) x0 x3 x4 (fun y0 => k (.v (.int .i64 y0)) []) := by kernel_rfl
theorem l5_ag (k kp : KT) (ag5 : St → Prop) : agPL cfg 1000001 (JJ_5 k kp ag5) (LL_5 k kp ag5) [1, 1, 1, 0, 1, 0, 0] body = agPR cfg 1000001 (pick none' [(5, ag5)]) [1, 1, 1, 0, 1, 0, 0] body (topK cfg Tryd.f47 k kp) := by kernel_rfl
theorem l5_raw (k kp : KT) (ag5 : St → Prop) (x0 : Int) (x3 : BA) (x4 : Int) : YL5 k kp ag5 (mL5 x0 x3 x4) = l5 (X9 k kp (m9)) (fun x4 => ag5 (mL5 x0 x3 x4)) x0 x3 x4 (fun y0 => k (.v (.int .i64 y0)) []) :=
  Eq.mp (by kernel_rfl) ((atP_run (l5_ag k kp ag5) (mL5 x0 x3 x4)).trans (l5_c k kp (JJ_5 k kp ag5) (LL_5 k kp ag5) ag5 x0 x3 x4))
theorem l5_eq (k kp : KT) (x0 : Int) (x3 : BA) (x4 : Int) : XL5 k kp (mL5 x0 x3 x4) = l5' x0 x3 x4 (fun y0 => k (.v (.int .i64 y0)) []) :=
  loop_eq (mk := fun (s : Int) => mL5 x0 x3 s) (fun again s => by rw [l5_raw k kp again x0 x3 s]; simp only [j9_eq]; first | done | rfl) (x4)
theorem j4_c (k kp : KT) (J L : Nat → St → Prop) (x0 : Int) (x3 : BA) : runC cfg 4 J L (pick none' []) [1, 1, 1] body (topK cfg Tryd.f47 k kp) (m4 x0 x3) = j4 (fun x0 x3 x4 => L 5 (mL5 x0 x3 x4)) x0 x3 (fun y0 => k (.v (.int .i64 y0)) []) := by kernel_rfl
theorem j4_ag (k kp : KT) : agPL cfg 4 (JJ k kp) (LL k kp) [1, 1, 1] body = agPR cfg 4 (pick none' []) [1, 1, 1] body (topK cfg Tryd.f47 k kp) := by kernel_rfl
theorem j4_raw (k kp : KT) (x0 : Int) (x3 : BA) : X4 k kp (m4 x0 x3) = j4 (fun x0 x3 x4 => XL5 k kp (mL5 x0 x3 x4)) x0 x3 (fun y0 => k (.v (.int .i64 y0)) []) :=
  Eq.mp (by kernel_rfl) ((atP_run (j4_ag k kp) (m4 x0 x3)).trans (j4_c k kp (JJ k kp) (LL k kp) x0 x3))
theorem j4_eq (k kp : KT) (x0 : Int) (x3 : BA) : X4 k kp (m4 x0 x3) = j4' x0 x3 (fun y0 => k (.v (.int .i64 y0)) []) := by
  rw [j4_raw]; simp only [l5_eq]; first | done | rfl
theorem j2000003_c (k kp : KT) (J L : Nat → St → Prop) (x0 : Int) (x3 : BA) (x10 : Bool) : runC cfg 2000003 J L (pick none' []) [1, 1, 0, 1] body (topK cfg Tryd.f47 k kp) (m2000003 x0 x3 x10) = j2000003 (fun x0 x3 => J 4 (m4 x0 x3)) x0 x3 x10 (fun y0 => k (.v (.int .i64 y0)) []) := by kernel_rfl
theorem j2000003_ag (k kp : KT) : agPL cfg 2000003 (JJ k kp) (LL k kp) [1, 1, 0, 1] body = agPR cfg 2000003 (pick none' []) [1, 1, 0, 1] body (topK cfg Tryd.f47 k kp) := by kernel_rfl
theorem j2000003_raw (k kp : KT) (x0 : Int) (x3 : BA) (x10 : Bool) : X2000003 k kp (m2000003 x0 x3 x10) = j2000003 (fun x0 x3 => X4 k kp (m4 x0 x3)) x0 x3 x10 (fun y0 => k (.v (.int .i64 y0)) []) :=
  Eq.mp (by kernel_rfl) ((atP_run (j2000003_ag k kp) (m2000003 x0 x3 x10)).trans (j2000003_c k kp (JJ k kp) (LL k kp) x0 x3 x10))
theorem j2000003_eq (k kp : KT) (x0 : Int) (x3 : BA) (x10 : Bool) : X2000003 k kp (m2000003 x0 x3 x10) = j2000003' x0 x3 x10 (fun y0 => k (.v (.int .i64 y0)) []) := by
  rw [j2000003_raw]; simp only [j4_eq]; first | done | rfl
theorem c_c (k kp : KT) (J L : Nat → St → Prop) (x0 : Int) : runC cfg 1000001 J L none'' [] body (topK cfg Tryd.f47 k kp) (st0 Tryd.f47 [(.v (.int IntKind.u8 x0))] []) = c (fun x0 x3 x10 => J 2000003 (m2000003 x0 x3 x10)) x0 (fun y0 => k (.v (.int .i64 y0)) []) := by kernel_rfl
theorem c_ag (k kp : KT) : agPL cfg 1000001 (JJ k kp) (LL k kp) [] body = agPR cfg 1000001 none'' [] body (topK cfg Tryd.f47 k kp) := by kernel_rfl
theorem body_is : Tryd.f47.body = some body := by kernel_rfl
theorem c_raw (k kp : KT) (x0 : Int) : funW cfg Tryd.f47 [(.v (.int IntKind.u8 x0))] [] k kp = c (fun x0 x3 x10 => X2000003 k kp (m2000003 x0 x3 x10)) x0 (fun y0 => k (.v (.int .i64 y0)) []) :=
  Eq.mp (by kernel_rfl) ((funW_run (AG := none'') body_is (c_ag k kp) [(.v (.int IntKind.u8 x0))] []).trans (c_c k kp (JJ k kp) (LL k kp) x0))
theorem f_eq (k kp : KT) (x0 : Int) : funW cfg Tryd.f47 [(.v (.int IntKind.u8 x0))] [] k kp = f x0 (fun y0 => k (.v (.int .i64 y0)) []) := by
  rw [f_def, c_raw]; simp only [j2000003_eq]; first | done | rfl
noncomputable def ent0 : Entry := fun args blks k _ => match args, blks with
  | [d0], [] => aInt IntKind.u8 d0 fun x0 => f x0 (fun y0 => k (.v (.int .i64 y0)) [])
  | _, _ => False
noncomputable def ent : Entry := fun args blks k kp => ent0 (convB [.no] args) blks k kp
theorem ok : EntOk Tryd.prog 49 0 47 ent := by
  refine EntOk.convB (EntOk.of (funW_ok (cfg := cfg) (tyOk_of rfl rfl tyL_ok) (eqOk_of (P := Tryd.prog) rfl rfl (by kernel_rfl)) mixed_ok (tab_ok ?_) Tryd.func47 (by rfl) (by rfl)) ?_) _
  · intro p hp
    cases hp
  · intro args blks k kp h k' kp'
    match args, blks, h with
    | [d0], [], h =>
    dsimp only [ent0] at h
    have h9 := aInt_elim h; clear h; obtain ⟨x0, rfl, h⟩ := h9
    exact (f_eq k' kp' x0).symm
end N47
end Go.Proofs.Ye

namespace Go.Proofs.Ye
open Go Go.Aw Go.Proofs
set_option maxRecDepth 100000
set_option maxHeartbeats 4000000
namespace N26
noncomputable def cfg : Cfg := { P := Tryd.prog, tf := 49, tw := 0, ty := tys, E := tab [(47, N47.ent)], atSeq := tab [(2000002, ⟨[(0, .keep), (1, .keep), (26, .keep)]⟩), (3, ⟨[(0, .keep), (1, .keep)]⟩), (6, ⟨[(0, .keep), (7, .keep), (8, .keep)]⟩), (25, ⟨[(0, .keep), (7, .keep), (8, .keep)]⟩), (19, ⟨[(0, .keep), (7, .keep), (8, .keep), (9, .keep), (10, .keep), (11, .keep)]⟩), (21, ⟨[(0, .keep), (7, .keep), (8, .keep), (9, .keep), (10, .keep)]⟩), (2000026, ⟨[(7, .keep), (8, .keep), (121, .keep)]⟩), (16, ⟨[(0, .keep), (7, .keep), (8, .keep), (9, .keep), (10, .keep), (11, .keep), (12, .keep)]⟩), (2000020, ⟨[(0, .keep), (7, .keep), (8, .keep), (9, .keep), (10, .keep), (11, .keep), (91, .keep)]⟩), (27, ⟨[(7, .keep), (8, .keep)]⟩)], atLoop := tab [(5, ⟨[(0, .keep), (7, .keep), (8, .keep)]⟩), (15, ⟨[(0, .keep), (7, .keep), (8, .keep), (9, .keep), (10, .keep), (11, .keep), (12, .keep)]⟩)], outs := [], eqT := tab [], bT := tab [] }
noncomputable def body : Code := bodyOf Tryd.f26
def j2000002 (j3 : BA → Int → Prop) (x0 : BA) (x1 : Int) (x26 : Bool) (k : BA → Int → Int → Prop) : Prop :=
  (br x26 (k (ByteArray.mk #[]) (0 : Int) (1 : Int)) (j3 x0 x1))
def j3 (l5 : BA → BA → Int → Prop) (x0 : BA) (x1 : Int) (k : BA → Int → Int → Prop) : Prop :=
  (l5 x0 (ByteArray.mk #[]) (IntKind.i64.wrap (x1 + (1 : Int))))
def l5 (j6 : BA → BA → Int → Prop) (j25 : BA → BA → Int → Prop) (x0 x7 : BA) (x8 : Int) (k : BA → Int → Int → Prop) : Prop :=
  (br (decide (x8 < ((((x0).size : Nat) : Int)))) ((inB 0 x8 ((((x0).size : Nat) : Int) - 1)) ∧ (br ((byteAt x0 x8) != (34 : Int)) ((inB 0 x8 ((((x0).size : Nat) : Int) - 1)) ∧ (br ((byteAt x0 x8) != (10 : Int)) (j6 x0 x7 x8) (j25 x0 x7 x8))) (j25 x0 x7 x8))) (j25 x0 x7 x8))
def j6 (l15 : BA → BA → Int → Int → Int → BA → Int → Prop) (j19 : BA → BA → Int → Int → Int → BA → Prop) (j21 : BA → BA → Int → Int → Int → Prop) (x0 x7 : BA) (x8 : Int) (k : BA → Int → Int → Prop) : Prop :=
  (br (((((x7).size : Nat) : Int)) == (64 : Int)) (k (ByteArray.mk #[]) x8 (3 : Int)) ((inB 0 x8 ((((x0).size : Nat) : Int) - 1)) ∧ (br ((byteAt x0 x8) == (92 : Int)) ((inB (IntKind.i64.wrap (x8 + (1 : Int))) (((x0).size : Nat) : Int) (((x0).size : Nat) : Int)) ∧ (br (decide ((((((ByteArray.extract x0 (Int.toNat (IntKind.i64.wrap (x8 + (1 : Int)))) (Int.toNat (((x0).size : Nat) : Int)))).size : Nat) : Int)) > (0 : Int))) (l15 x0 x7 x8 (0 : Int) (byteAt x0 x8) (ByteArray.extract x0 (Int.toNat (IntKind.i64.wrap (x8 + (1 : Int)))) (Int.toNat (((x0).size : Nat) : Int))) (0 : Int)) (j19 x0 x7 x8 (0 : Int) (byteAt x0 x8) (ByteArray.extract x0 (Int.toNat (IntKind.i64.wrap (x8 + (1 : Int)))) (Int.toNat (((x0).size : Nat) : Int)))))) (j21 x0 x7 x8 (1 : Int) (byteAt x0 x8)))))
def j25 (j2000026 : BA → Int → Bool → Prop) (x0 x7 : BA) (x8 : Int) (k : BA → Int → Int → Prop) : Prop :=
  (br (x8 == ((((x0).size : Nat) : Int))) (j2000026 x7 x8 true) ((inB 0 x8 ((((x0).size : Nat) : Int) - 1)) ∧ (j2000026 x7 x8 ((byteAt x0 x8) == (10 : Int)))))
def l15 (j16 : BA → BA → Int → Int → Int → BA → Int → Prop) (j19 : BA → BA → Int → Int → Int → BA → Prop) (x0 x7 : BA) (x8 x9 x10 : Int) (x11 : BA) (x12 : Int) (k : BA → Int → Int → Prop) : Prop :=
  (br (decide (x12 < (4 : Int))) ((inB 0 (0 : Int) ((((x11).size : Nat) : Int) - 1)) ∧ ((inB 0 x12 (((((ByteArray.mk #[110, 116, 34, 92])).size : Nat) : Int) - 1)) ∧ (br ((byteAt x11 (0 : Int)) == (byteAt (ByteArray.mk #[110, 116, 34, 92]) x12)) ((inB 0 x12 (((((ByteArray.mk #[10, 9, 34, 92])).size : Nat) : Int) - 1)) ∧ (j16 x0 x7 x8 (2 : Int) (byteAt (ByteArray.mk #[10, 9, 34, 92]) x12) x11 x12)) (j16 x0 x7 x8 x9 x10 x11 x12)))) (j19 x0 x7 x8 x9 x10 x11))
def j19 (j2000020 : BA → BA → Int → Int → Int → BA → Bool → Prop) (x0 x7 : BA) (x8 x9 x10 : Int) (x11 : BA) (k : BA → Int → Int → Prop) : Prop :=
  (br (decide (((((x11).size : Nat) : Int)) > (2 : Int))) ((inB 0 (0 : Int) ((((x11).size : Nat) : Int) - 1)) ∧ (br ((byteAt x11 (0 : Int)) == (120 : Int)) ((inB 0 (1 : Int) ((((x11).size : Nat) : Int) - 1)) ∧ (N47.f (byteAt x11 (1 : Int)) (fun (y0_0 : Int) => (br (decide (y0_0 < (16 : Int))) ((inB 0 (2 : Int) ((((x11).size : Nat) : Int) - 1)) ∧ (N47.f (byteAt x11 (2 : Int)) (fun (y0_1 : Int) => (j2000020 x0 x7 x8 x9 x10 x11 (decide (y0_1 < (16 : Int))))))) (j2000020 x0 x7 x8 x9 x10 x11 false))))) (j2000020 x0 x7 x8 x9 x10 x11 false))) (j2000020 x0 x7 x8 x9 x10 x11 false))
def j21 (ag5 : BA → Int → Prop) (x0 x7 : BA) (x8 x9 x10 : Int) (k : BA → Int → Int → Prop) : Prop :=
  (br (x9 == (0 : Int)) (k (ByteArray.mk #[]) x8 (11 : Int)) (((x7).size + ((bytesOf ([x10] : List Int))).size ≤ 9223372036854775807) ∧ (ag5 (x7 ++ (bytesOf ([x10] : List Int))) (IntKind.i64.wrap (x8 + x9)))))
def j2000026 (j27 : BA → Int → Prop) (x7 : BA) (x8 : Int) (x121 : Bool) (k : BA → Int → Int → Prop) : Prop :=
  (br x121 (k (ByteArray.mk #[]) x8 (11 : Int)) (j27 x7 x8))
def j16 (ag15 : Int → Int → Int → Prop) (x0 x7 : BA) (x8 x9 x10 : Int) (x11 : BA) (x12 : Int) (k : BA → Int → Int → Prop) : Prop :=
  (ag15 x9 x10 (IntKind.i64.wrap (x12 + (1 : Int))))
def j2000020 (j21 : BA → BA → Int → Int → Int → Prop) (x0 x7 : BA) (x8 x9 x10 : Int) (x11 : BA) (x91 : Bool) (k : BA → Int → Int → Prop) : Prop :=
  (br x91 ((inB 0 (1 : Int) ((((x11).size : Nat) : Int) - 1)) ∧ (N47.f (byteAt x11 (1 : Int)) (fun (y0_2 : Int) => ((inB 0 (2 : Int) ((((x11).size : Nat) : Int) - 1)) ∧ (N47.f (byteAt x11 (2 : Int)) (fun (y0_3 : Int) => (j21 x0 x7 x8 (4 : Int) (IntKind.u8.wrap (IntKind.i64.wrap ((IntKind.i64.wrap ((16 : Int) * y0_2)) + y0_3)))))))))) (j21 x0 x7 x8 x9 x10))
def j27 (x7 : BA) (x8 : Int) (k : BA → Int → Int → Prop) : Prop :=
  (k x7 (IntKind.i64.wrap (x8 + (1 : Int))) (0 : Int))
def c (j2000002 : BA → Int → Bool → Prop) (x0 : BA) (x1 : Int) (k : BA → Int → Int → Prop) : Prop :=
  (br (decide (x1 < (0 : Int))) (j2000002 x0 x1 true) (br (decide (x1 ≥ ((((x0).size : Nat) : Int)))) (j2000002 x0 x1 true) ((inB 0 x1 ((((x0).size : Nat) : Int) - 1)) ∧ (j2000002 x0 x1 ((byteAt x0 x1) != (34 : Int))))))
def j21' (ag5 : BA → Int → Prop) (x0 x7 : BA) (x8 x9 x10 : Int) (k : BA → Int → Int → Prop) : Prop := j21 ag5 x0 x7 x8 x9 x10 k
def j16' (ag15 : Int → Int → Int → Prop) (x0 x7 : BA) (x8 x9 x10 : Int) (x11 : BA) (x12 : Int) (k : BA → Int → Int → Prop) : Prop := j16 ag15 x0 x7 x8 x9 x10 x11 x12 k
def j2000020' (ag5 : BA → Int → Prop) (x0 x7 : BA) (x8 x9 x10 : Int) (x11 : BA) (x91 : Bool) (k : BA → Int → Int → Prop) : Prop := j2000020 (fun x0 x7 x8 x9 x10 => j21' ag5 x0 x7 x8 x9 x10 k) x0 x7 x8 x9 x10 x11 x91 k
def j27' (x7 : BA) (x8 : Int) (k : BA → Int → Int → Prop) : Prop := j27 x7 x8 k
def j19' (ag5 : BA → Int → Prop) (x0 x7 : BA) (x8 x9 x10 : Int) (x11 : BA) (k : BA → Int → Int → Prop) : Prop := j19 (fun x0 x7 x8 x9 x10 x11 x91 => j2000020' ag5 x0 x7 x8 x9 x10 x11 x91 k) x0 x7 x8 x9 x10 x11 k
def j2000026' (x7 : BA) (x8 : Int) (x121 : Bool) (k : BA → Int → Int → Prop) : Prop := j2000026 (fun x7 x8 => j27' x7 x8 k) x7 x8 x121 k
def j25' (x0 x7 : BA) (x8 : Int) (k : BA → Int → Int → Prop) : Prop := j25 (fun x7 x8 x121 => j2000026' x7 x8 x121 k) x0 x7 x8 k
def l15' (ag5 : BA → Int → Prop) (x0 x7 : BA) (x8 x9 x10 : Int) (x11 : BA) (x12 : Int) (k : BA → Int → Int → Prop) : Prop := ∃ n, loopS (fun (ag : (Int × Int × Int) → Prop) (s : Int × Int × Int) => l15 (fun x0 x7 x8 x9 x10 x11 x12 => j16' (fun x9 x10 x12 => ag (x9, x10, x12)) x0 x7 x8 x9 x10 x11 x12 k) (fun x0 x7 x8 x9 x10 x11 => j19' ag5 x0 x7 x8 x9 x10 x11 k) x0 x7 x8 s.1 s.2.1 x11 s.2.2 k) n (x9, x10, x12)
def j6' (ag5 : BA → Int → Prop) (x0 x7 : BA) (x8 : Int) (k : BA → Int → Int → Prop) : Prop := j6 (fun x0 x7 x8 x9 x10 x11 x12 => l15' ag5 x0 x7 x8 x9 x10 x11 x12 k) (fun x0 x7 x8 x9 x10 x11 => j19' ag5 x0 x7 x8 x9 x10 x11 k) (fun x0 x7 x8 x9 x10 => j21' ag5 x0 x7 x8 x9 x10 k) x0 x7 x8 k
def l5' (x0 x7 : BA) (x8 : Int) (k : BA → Int → Int → Prop) : Prop := ∃ n, loopS (fun (ag : (BA × Int) → Prop) (s : BA × Int) => l5 (fun x0 x7 x8 => j6' (fun x7 x8 => ag (x7, x8)) x0 x7 x8 k) (fun x0 x7 x8 => j25' x0 x7 x8 k) x0 s.1 s.2 k) n (x7, x8)
def j3' (x0 : BA) (x1 : Int) (k : BA → Int → Int → Prop) : Prop := j3 (fun x0 x7 x8 => l5' x0 x7 x8 k) x0 x1 k
def j2000002' (x0 : BA) (x1 : Int) (x26 : Bool) (k : BA → Int → Int → Prop) : Prop := j2000002 (fun x0 x1 => j3' x0 x1 k) x0 x1 x26 k
def f0 (x0 : BA) (x1 : Int) (k : BA → Int → Int → Prop) : Prop := c (fun x0 x1 x26 => j2000002' x0 x1 x26 k) x0 x1 k
theorem f_ex : ∃ g, g = f0 := ⟨_, rfl⟩
noncomputable def f := Classical.choose f_ex
theorem f_def : f = f0 := Classical.choose_spec f_ex
def m2000002 (x0 : BA) (x1 : Int) (x26 : Bool) : St := { tmps := mkT 126 0 [(0, (.v (.string x0))), (1, (.v (.int .i64 x1))), (26, (.v (.bool x26)))], hp := [], m := 0 }
def m3 (x0 : BA) (x1 : Int) : St := { tmps := mkT 126 0 [(0, (.v (.string x0))), (1, (.v (.int .i64 x1)))], hp := [], m := 0 }
def mL5 (x0 x7 : BA) (x8 : Int) : St := { tmps := mkT 126 0 [(0, (.v (.string x0))), (7, (.v (.string x7))), (8, (.v (.int .i64 x8)))], hp := [], m := 0 }
def m6 (x0 x7 : BA) (x8 : Int) : St := { tmps := mkT 126 0 [(0, (.v (.string x0))), (7, (.v (.string x7))), (8, (.v (.int .i64 x8)))], hp := [], m := 0 }
def m25 (x0 x7 : BA) (x8 : Int) : St := { tmps := mkT 126 0 [(0, (.v (.string x0))), (7, (.v (.string x7))), (8, (.v (.int .i64 x8)))], hp := [], m := 0 }
def mL15 (x0 x7 : BA) (x8 x9 x10 : Int) (x11 : BA) (x12 : Int) : St := { tmps := mkT 126 0 [(0, (.v (.string x0))), (7, (.v (.string x7))), (8, (.v (.int .i64 x8))), (9, (.v (.int .i64 x9))), (10, (.v (.int IntKind.u8 x10))), (11, (.v (.string x11))), (12, (.v (.int .i64 x12)))], hp := [], m := 0 }
def m19 (x0 x7 : BA) (x8 x9 x10 : Int) (x11 : BA) : St := { tmps := mkT 126 0 [(0, (.v (.string x0))), (7, (.v (.string x7))), (8, (.v (.int .i64 x8))), (9, (.v (.int .i64 x9))), (10, (.v (.int IntKind.u8 x10))), (11, (.v (.string x11)))], hp := [], m := 0 }
def m21 (x0 x7 : BA) (x8 x9 x10 : Int) : St := { tmps := mkT 126 0 [(0, (.v (.string x0))), (7, (.v (.string x7))), (8, (.v (.int .i64 x8))), (9, (.v (.int .i64 x9))), (10, (.v (.int IntKind.u8 x10)))], hp := [], m := 0 }
def m2000026 (x7 : BA) (x8 : Int) (x121 : Bool) : St := { tmps := mkT 126 0 [(7, (.v (.string x7))), (8, (.v (.int .i64 x8))), (121, (.v (.bool x121)))], hp := [], m := 0 }
def m16 (x0 x7 : BA) (x8 x9 x10 : Int) (x11 : BA) (x12 : Int) : St := { tmps := mkT 126 0 [(0, (.v (.string x0))), (7, (.v (.string x7))), (8, (.v (.int .i64 x8))), (9, (.v (.int .i64 x9))), (10, (.v (.int IntKind.u8 x10))), (11, (.v (.string x11))), (12, (.v (.int .i64 x12)))], hp := [], m := 0 }
def m2000020 (x0 x7 : BA) (x8 x9 x10 : Int) (x11 : BA) (x91 : Bool) : St := { tmps := mkT 126 0 [(0, (.v (.string x0))), (7, (.v (.string x7))), (8, (.v (.int .i64 x8))), (9, (.v (.int .i64 x9))), (10, (.v (.int IntKind.u8 x10))), (11, (.v (.string x11))), (91, (.v (.bool x91)))], hp := [], m := 0 }
def m27 (x7 : BA) (x8 : Int) : St := { tmps := mkT 126 0 [(7, (.v (.string x7))), (8, (.v (.int .i64 x8)))], hp := [], m := 0 }
noncomputable def X2000002 (k kp : KT) : St → Prop := atP cfg (pick none' []) [1, 0, 1] body (topK cfg Tryd.f26 k kp)
noncomputable def X3 (k kp : KT) : St → Prop := atP cfg (pick none' []) [1, 1] body (topK cfg Tryd.f26 k kp)
noncomputable def YL5 (k kp : KT) : (St → Prop) → St → Prop := loopB cfg (sub [1, 1, 1, 1, 0, 0, 0] body) (contK cfg (pick none' []) [1, 1, 1, 1, 0, 0] body (topK cfg Tryd.f26 k kp))
noncomputable def XL5 (k kp : KT) : St → Prop := fun st => ∃ n, loopN (YL5 k kp) n st
noncomputable def X6 (k kp : KT) (ag5 : St → Prop) : St → Prop := atP cfg (pick none' [(5, ag5)]) [1, 1, 1, 1, 0, 0, 0, 1] body (topK cfg Tryd.f26 k kp)
noncomputable def X25 (k kp : KT) : St → Prop := atP cfg (pick none' []) [1, 1, 1, 1, 1] body (topK cfg Tryd.f26 k kp)
noncomputable def YL15 (k kp : KT) (ag5 : St → Prop) : (St → Prop) → St → Prop := loopB cfg (sub [1, 1, 1, 1, 0, 0, 0, 1, 0, 1, 1, 1, 0, 1, 0, 1, 1, 0, 1, 0, 1, 0, 0] body) (contK cfg (pick none' [(5, ag5)]) [1, 1, 1, 1, 0, 0, 0, 1, 0, 1, 1, 1, 0, 1, 0, 1, 1, 0, 1, 0, 1, 0] body (topK cfg Tryd.f26 k kp))
noncomputable def XL15 (k kp : KT) (ag5 : St → Prop) : St → Prop := fun st => ∃ n, loopN (YL15 k kp ag5) n st
noncomputable def X19 (k kp : KT) (ag5 : St → Prop) : St → Prop := atP cfg (pick none' [(5, ag5)]) [1, 1, 1, 1, 0, 0, 0, 1, 0, 1, 1, 1, 0, 1, 0, 1, 1, 1] body (topK cfg Tryd.f26 k kp)
noncomputable def X21 (k kp : KT) (ag5 : St → Prop) : St → Prop := atP cfg (pick none' [(5, ag5)]) [1, 1, 1, 1, 0, 0, 0, 1, 0, 1, 1, 1, 1] body (topK cfg Tryd.f26 k kp)
noncomputable def X2000026 (k kp : KT) : St → Prop := atP cfg (pick none' []) [1, 1, 1, 1, 1, 0, 1] body (topK cfg Tryd.f26 k kp)
noncomputable def X16 (k kp : KT) (ag5 : St → Prop) (ag15 : St → Prop) : St → Prop := atP cfg (pick none' [(5, ag5), (15, ag15)]) [1, 1, 1, 1, 0, 0, 0, 1, 0, 1, 1, 1, 0, 1, 0, 1, 1, 0, 1, 0, 1, 0, 0, 1, 1] body (topK cfg Tryd.f26 k kp)
noncomputable def X2000020 (k kp : KT) (ag5 : St → Prop) : St → Prop := atP cfg (pick none' [(5, ag5)]) [1, 1, 1, 1, 0, 0, 0, 1, 0, 1, 1, 1, 0, 1, 0, 1, 1, 1, 1] body (topK cfg Tryd.f26 k kp)
noncomputable def X27 (k kp : KT) : St → Prop := atP cfg (pick none' []) [1, 1, 1, 1, 1, 1] body (topK cfg Tryd.f26 k kp)
noncomputable def JJ (k kp : KT) : Nat → St → Prop := pick none' [(2000002, X2000002 k kp), (3, X3 k kp), (25, X25 k kp), (2000026, X2000026 k kp), (27, X27 k kp)]
noncomputable def LL (k kp : KT) : Nat → St → Prop := pick none' [(5, XL5 k kp)]
noncomputable def JJ_5 (k kp : KT) (ag5 : St → Prop) : Nat → St → Prop := pick none' [(2000002, X2000002 k kp), (3, X3 k kp), (6, X6 k kp ag5), (25, X25 k kp), (19, X19 k kp ag5), (21, X21 k kp ag5), (2000026, X2000026 k kp), (2000020, X2000020 k kp ag5), (27, X27 k kp)]
noncomputable def LL_5 (k kp : KT) (ag5 : St → Prop) : Nat → St → Prop := pick none' [(5, XL5 k kp), (15, XL15 k kp ag5)]
noncomputable def JJ_5_15 (k kp : KT) (ag5 : St → Prop) (ag15 : St → Prop) : Nat → St → Prop := pick none' [(2000002, X2000002 k kp), (3, X3 k kp), (6, X6 k kp ag5), (25, X25 k kp), (19, X19 k kp ag5), (21, X21 k kp ag5), (2000026, X2000026 k kp), (16, X16 k kp ag5 ag15), (2000020, X2000020 k kp ag5), (27, X27 k kp)]
noncomputable def LL_5_15 (k kp : KT) (ag5 : St → Prop) (ag15 : St → Prop) : Nat → St → Prop := pick none' [(5, XL5 k kp), (15, XL15 k kp ag5)]
theorem j21_c (k kp : KT) (J L : Nat → St → Prop) (ag5 : St → Prop) (x0 x7 : BA) (x8 x9 x10 : Int) : runC cfg 21 J L (pick none' [(5, ag5)]) [1, 1, 1, 1, 0, 0, 0, 1, 0, 1, 1, 1, 1] body (topK cfg Tryd.f26 k kp) (m21 x0 x7 x8 x9 x10) = j21 (fun x7 x8 => ag5 (mL5 x0 x7 x8)) x0 x7 x8 x9 x10 (fun y0 y1 y2 => k (.tup [(.v (.string y0)), (.v (.int .i64 y1)), (.v (.int .i64 y2))]) []) := by kernel_rfl
theorem j21_ag (k kp : KT) (ag5 : St → Prop) : agPL cfg 21 (JJ_5 k kp ag5) (LL_5 k kp ag5) [1, 1, 1, 1, 0, 0, 0, 1, 0, 1, 1, 1, 1] body = agPR cfg 21 (pick none' [(5, ag5)]) [1, 1, 1, 1, 0, 0, 0, 1, 0, 1, 1, 1, 1] body (topK cfg Tryd.f26 k kp) := by kernel_rfl
theorem j21_raw (k kp : KT) (ag5 : St → Prop) (x0 x7 : BA) (x8 x9 x10 : Int) : X21 k kp ag5 (m21 x0 x7 x8 x9 x10) = j21 (fun x7 x8 => ag5 (mL5 x0 x7 x8)) x0 x7 x8 x9 x10 (fun y0 y1 y2 => k (.tup [(.v (.string y0)), (.v (.int .i64 y1)), (.v (.int .i64 y2))]) []) :=
  Eq.mp (by kernel_rfl) ((atP_run (j21_ag k kp ag5) (m21 x0 x7 x8 x9 x10)).trans (j21_c k kp (JJ_5 k kp ag5) (LL_5 k kp ag5) ag5 x0 x7 x8 x9 x10))
theorem j21_eq (k kp : KT) (ag5 : St → Prop) (x0 x7 : BA) (x8 x9 x10 : Int) : X21 k kp ag5 (m21 x0 x7 x8 x9 x10) = j21' (fun x7 x8 => ag5 (mL5 x0 x7 x8)) x0 x7 x8 x9 x10 (fun y0 y1 y2 => k (.tup [(.v (.string y0)), (.v (.int .i64 y1)), (.v (.int .i64 y2))]) []) := by
  rw [j21_raw]; rfl
theorem j16_c (k kp : KT) (J L : Nat → St → Prop) (ag5 : St → Prop) (ag15 : St → Prop) (x0 x7 : BA) (x8 x9 x10 : Int) (x11 : BA) (x12 : Int) : runC cfg 16 J L (pick none' [(5, ag5), (15, ag15)]) [1, 1, 1, 1, 0, 0, 0, 1, 0, 1, 1, 1, 0, 1, 0, 1, 1, 0, 1, 0, 1, 0, 0, 1, 1] body (topK cfg Tryd.f26 k kp) (m16 x0 x7 x8 x9 x10 x11 x12) = j16 (fun x9 x10 x12 => ag15 (mL15 x0 x7 x8 x9 x10 x11 x12)) x0 x7 x8 x9 x10 x11 x12 (fun y0 y1 y2 => k (.tup [(.v (.string y0)), (.v (.int .i64 y1)), (.v (.int .i64 y2))]) []) := by kernel_rfl
theorem j16_ag (k kp : KT) (ag5 : St → Prop) (ag15 : St → Prop) : agPL cfg 16 (JJ_5_15 k kp ag5 ag15) (LL_5_15 k kp ag5 ag15) [1, 1, 1, 1, 0, 0, 0, 1, 0, 1, 1, 1, 0, 1, 0, 1, 1, 0, 1, 0, 1, 0, 0, 1, 1] body = agPR cfg 16 (pick none' [(5, ag5), (15, ag15)]) [1, 1, 1, 1, 0, 0, 0, 1, 0, 1, 1, 1, 0, 1, 0, 1, 1, 0, 1, 0, 1, 0, 0, 1, 1] body (topK cfg Tryd.f26 k kp) := by kernel_rfl
theorem j16_raw (k kp : KT) (ag5 : St → Prop) (ag15 : St → Prop) (x0 x7 : BA) (x8 x9 x10 : Int) (x11 : BA) (x12 : Int) : X16 k kp ag5 ag15 (m16 x0 x7 x8 x9 x10 x11 x12) = j16 (fun x9 x10 x12 => ag15 (mL15 x0 x7 x8 x9 x10 x11 x12)) x0 x7 x8 x9 x10 x11 x12 (fun y0 y1 y2 => k (.tup [(.v (.string y0)), (.v (.int .i64 y1)), (.v (.int .i64 y2))]) []) :=
  Eq.mp (by kernel_rfl) ((atP_run (j16_ag k kp ag5 ag15) (m16 x0 x7 x8 x9 x10 x11 x12)).trans (j16_c k kp (JJ_5_15 k kp ag5 ag15) (LL_5_15 k kp ag5 ag15) ag5 ag15 x0 x7 x8 x9 x10 x11 x12))
theorem j16_eq (k kp : KT) (ag5 : St → Prop) (ag15 : St → Prop) (x0 x7 : BA) (x8 x9 x10 : Int) (x11 : BA) (x12 : Int) : X16 k kp ag5 ag15 (m16 x0 x7 x8 x9 x10 x11 x12) = j16' (fun x9 x10 x12 => ag15 (mL15 x0 x7 x8 x9 x10 x11 x12)) x0 x7 x8 x9 x10 x11 x12 (fun y0 y1 y2 => k (.tup [(.v (.string y0)), (.v (.int .i64 y1)), (.v (.int .i64 y2))]) []) := by
  rw [j16_raw]; rfl
theorem j2000020_c (k kp : KT) (J L : Nat → St → Prop) (ag5 : St → Prop) (x0 x7 : BA) (x8 x9 x10 : Int) (x11 : BA) (x91 : Bool) : runC cfg 2000020 J L (pick none' [(5, ag5)]) [1, 1, 1, 1, 0, 0, 0, 1, 0, 1, 1, 1, 0, 1, 0, 1, 1, 1, 1] body (topK cfg Tryd.f26 k kp) (m2000020 x0 x7 x8 x9 x10 x11 x91) = j2000020 (fun x0 x7 x8 x9 x10 => J 21 (m21 x0 x7 x8 x9 x10)) x0 x7 x8 x9 x10 x11 x91 (fun y0 y1 y2 => k (.tup [(.v (.string y0)), (.v (.int .i64 y1)), (.v (.int .i64 y2))]) []) := by kernel_rfl
theorem j2000020_ag (k kp : KT) (ag5 : St → Prop) : agPL cfg 2000020 (JJ_5 k kp ag5) (LL_5 k kp ag5) [1, 1, 1, 1, 0, 0, 0, 1, 0, 1, 1, 1, 0, 1, 0, 1, 1, 1, 1] body = agPR cfg 2000020 (pick none' [(5, ag5)]) [1, 1, 1, 1, 0, 0, 0, 1, 0, 1, 1, 1, 0, 1, 0, 1, 1, 1, 1] body (topK cfg Tryd.f26 k kp) := by kernel_rfl
theorem j2000020_raw (k kp : KT) (ag5 : St → Prop) (x0 x7 : BA) (x8 x9 x10 : Int) (x11 : BA) (x91 : Bool) : X2000020 k kp ag5 (m2000020 x0 x7 x8 x9 x10 x11 x91) = j2000020 (fun x0 x7 x8 x9 x10 => X21 k kp ag5 (m21 x0 x7 x8 x9 x10)) x0 x7 x8 x9 x10 x11 x91 (fun y0 y1 y2 => k (.tup [(.v (.string y0)), (.v (.int .i64 y1)), (.v (.int .i64 y2))]) []) :=
  Eq.mp (by kernel_rfl) ((atP_run (j2000020_ag k kp ag5) (m2000020 x0 x7 x8 x9 x10 x11 x91)).trans (j2000020_c k kp (JJ_5 k kp ag5) (LL_5 k kp ag5) ag5 x0 x7 x8 x9 x10 x11 x91))
theorem j2000020_eq (k kp : KT) (ag5 : St → Prop) (x0 x7 : BA) (x8 x9 x10 : Int) (x11 : BA) (x91 : Bool) : X2000020 k kp ag5 (m2000020 x0 x7 x8 x9 x10 x11 x91) = j2000020' (fun x7 x8 => ag5 (mL5 x0 x7 x8)) x0 x7 x8 x9 x10 x11 x91 (fun y0 y1 y2 => k (.tup [(.v (.string y0)), (.v (.int .i64 y1)), (.v (.int .i64 y2))]) []) := by
  rw [j2000020_raw]; simp only [j21_eq]; first | done | rfl
theorem j27_c (k kp : KT) (J L : Nat → St → Prop) (x7 : BA) (x8 : Int) : runC cfg 27 J L (pick none' []) [1, 1, 1, 1, 1, 1] body (topK cfg Tryd.f26 k kp) (m27 x7 x8) = j27 x7 x8 (fun y0 y1 y2 => k (.tup [(.v (.string y0)), (.v (.int .i64 y1)), (.v (.int .i64 y2))]) []) := by kernel_rfl
theorem j27_ag (k kp : KT) : agPL cfg 27 (JJ k kp) (LL k kp) [1, 1, 1, 1, 1, 1] body = agPR cfg 27 (pick none' []) [1, 1, 1, 1, 1, 1] body (topK cfg Tryd.f26 k kp) := by kernel_rfl
theorem j27_raw (k kp : KT) (x7 : BA) (x8 : Int) : X27 k kp (m27 x7 x8) = j27 x7 x8 (fun y0 y1 y2 => k (.tup [(.v (.string y0)), (.v (.int .i64 y1)), (.v (.int .i64 y2))]) []) :=
  Eq.mp (by kernel_rfl) ((atP_run (j27_ag k kp) (m27 x7 x8)).trans (j27_c k kp (JJ k kp) (LL k kp) x7 x8))
theorem j27_eq (k kp : KT) (x7 : BA) (x8 : Int) : X27 k kp (m27 x7 x8) = j27' x7 x8 (fun y0 y1 y2 => k (.tup [(.v (.string y0)), (.v (.int .i64 y1)), (.v (.int .i64 y2))]) []) := by
  rw [j27_raw]; rfl
theorem j19_c (k kp : KT) (J L : Nat → St → Prop) (ag5 : St → Prop) (x0 x7 : BA) (x8 x9 x10 : Int) (x11 : BA) : runC cfg 19 J L (pick none' [(5, ag5)]) [1, 1, 1, 1, 0, 0, 0, 1, 0, 1, 1, 1, 0, 1, 0, 1, 1, 1] body (topK cfg Tryd.f26 k kp) (m19 x0 x7 x8 x9 x10 x11) = j19 (fun x0 x7 x8 x9 x10 x11 x91 => J 2000020 (m2000020 x0 x7 x8 x9 x10 x11 x91)) x0 x7 x8 x9 x10 x11 (fun y0 y1 y2 => k (.tup [(.v (.string y0)), (.v (.int .i64 y1)), (.v (.int .i64 y2))]) []) := by kernel_rfl
theorem j19_ag (k kp : KT) (ag5 : St → Prop) : agPL cfg 19 (JJ_5 k kp ag5) (LL_5 k kp ag5) [1, 1, 1, 1, 0, 0, 0, 1, 0, 1, 1, 1, 0, 1, 0, 1, 1, 1] body = agPR cfg 19 (pick none' [(5, ag5)]) [1, 1, 1, 1, 0, 0, 0, 1, 0, 1, 1, 1, 0, 1, 0, 1, 1, 1] body (topK cfg Tryd.f26 k kp) := by kernel_rfl
theorem j19_raw (k kp : KT) (ag5 : St → Prop) (x0 x7 : BA) (x8 x9 x10 : Int) (x11 : BA) : X19 k kp ag5 (m19 x0 x7 x8 x9 x10 x11) = j19 (fun x0 x7 x8 x9 x10 x11 x91 => X2000020 k kp ag5 (m2000020 x0 x7 x8 x9 x10 x11 x91)) x0 x7 x8 x9 x10 x11 (fun y0 y1 y2 => k (.tup [(.v (.string y0)), (.v (.int .i64 y1)), (.v (.int .i64 y2))]) []) :=
  Eq.mp (by kernel_rfl) ((atP_run (j19_ag k kp ag5) (m19 x0 x7 x8 x9 x10 x11)).trans (j19_c k kp (JJ_5 k kp ag5) (LL_5 k kp ag5) ag5 x0 x7 x8 x9 x10 x11))
theorem j19_eq (k kp : KT) (ag5 : St → Prop) (x0 x7 : BA) (x8 x9 x10 : Int) (x11 : BA) : X19 k kp ag5 (m19 x0 x7 x8 x9 x10 x11) = j19' (fun x7 x8 => ag5 (mL5 x0 x7 x8)) x0 x7 x8 x9 x10 x11 (fun y0 y1 y2 => k (.tup [(.v (.string y0)), (.v (.int .i64 y1)), (.v (.int .i64 y2))]) []) := by
  rw [j19_raw]; simp only [j2000020_eq]; first | done | rfl
theorem j2000026_c (k kp : KT) (J L : Nat → St → Prop) (x7 : BA) (x8 : Int) (x121 : Bool) : runC cfg 2000026 J L (pick none' []) [1, 1, 1, 1, 1, 0, 1] body (topK cfg Tryd.f26 k kp) (m2000026 x7 x8 x121) = j2000026 (fun x7 x8 => J 27 (m27 x7 x8)) x7 x8 x121 (fun y0 y1 y2 => k (.tup [(.v (.string y0)), (.v (.int .i64 y1)), (.v (.int .i64 y2))]) []) := by kernel_rfl
theorem j2000026_ag (k kp : KT) : agPL cfg 2000026 (JJ k kp) (LL k kp) [1, 1, 1, 1, 1, 0, 1] body = agPR cfg 2000026 (pick none' []) [1, 1, 1, 1, 1, 0, 1] body (topK cfg Tryd.f26 k kp) := by kernel_rfl
theorem j2000026_raw (k kp : KT) (x7 : BA) (x8 : Int) (x121 : Bool) : X2000026 k kp (m2000026 x7 x8 x121) = j2000026 (fun x7 x8 => X27 k kp (m27 x7 x8)) x7 x8 x121 (fun y0 y1 y2 => k (.tup [(.v (.string y0)), (.v (.int .i64 y1)), (.v (.int .i64 y2))]) []) :=
  Eq.mp (by kernel_rfl) ((atP_run (j2000026_ag k kp) (m2000026 x7 x8 x121)).trans (j2000026_c k kp (JJ k kp) (LL k kp) x7 x8 x121))
theorem j2000026_eq (k kp : KT) (x7 : BA) (x8 : Int) (x121 : Bool) : X2000026 k kp (m2000026 x7 x8 x121) = j2000026' x7 x8 x121 (fun y0 y1 y2 => k (.tup [(.v (.string y0)), (.v (.int .i64 y1)), (.v (.int .i64 y2))]) []) := by
  rw [j2000026_raw]; simp only [j27_eq]; first | done | rfl
theorem j25_c (k kp : KT) (J L : Nat → St → Prop) (x0 x7 : BA) (x8 : Int) : runC cfg 25 J L (pick none' []) [1, 1, 1, 1, 1] body (topK cfg Tryd.f26 k kp) (m25 x0 x7 x8) = j25 (fun x7 x8 x121 => J 2000026 (m2000026 x7 x8 x121)) x0 x7 x8 (fun y0 y1 y2 => k (.tup [(.v (.string y0)), (.v (.int .i64 y1)), (.v (.int .i64 y2))]) []) := by kernel_rfl
theorem j25_ag (k kp : KT) : agPL cfg 25 (JJ k kp) (LL k kp) [1, 1, 1, 1, 1] body = agPR cfg 25 (pick none' []) [1, 1, 1, 1, 1] body (topK cfg Tryd.f26 k kp) := by kernel_rfl
theorem j25_raw (k kp : KT) (x0 x7 : BA) (x8 : Int) : X25 k kp (m25 x0 x7 x8) = j25 (fun x7 x8 x121 => X2000026 k kp (m2000026 x7 x8 x121)) x0 x7 x8 (fun y0 y1 y2 => k (.tup [(.v (.string y0)), (.v (.int .i64 y1)), (.v (.int .i64 y2))]) []) :=
  Eq.mp (by kernel_rfl) ((atP_run (j25_ag k kp) (m25 x0 x7 x8)).trans (j25_c k kp (JJ k kp) (LL k kp) x0 x7 x8))
theorem j25_eq (k kp : KT) (x0 x7 : BA) (x8 : Int) : X25 k kp (m25 x0 x7 x8) = j25' x0 x7 x8 (fun y0 y1 y2 => k (.tup [(.v (.string y0)), (.v (.int .i64 y1)), (.v (.int .i64 y2))]) []) := by
  rw [j25_raw]; simp only [j2000026_eq]; first | done | rfl
theorem l15_c (k kp : KT) (J L : Nat → St → Prop) (ag5 : St → Prop) (ag15 : St → Prop) (x0 x7 : BA) (x8 x9 x10 : Int) (x11 : BA) (x12 : Int) : runC cfg 1000001 J L (pick none' [(5, ag5), (15, ag15)]) [1, 1, 1, 1, 0, 0, 0, 1, 0, 1, 1, 1, 0, 1, 0, 1, 1, 0, 1, 0, 1, 0, 0] body (topK cfg Tryd.f26 k kp) (mL15 x0 x7 x8 x9 x10 x11 x12) = l15 (fun x0 x7 x8 x9 x10 x11 x12 => J 16 (m16 x0 x7 x8 x9 x10 x11 x12)) (fun x0 x7 x8 x9 x10 x11 => J 19 (m19 x0 x7 x8 x9 x10 x11)) x0 x7 x8 x9 x10 x11 x12 (fun y0 y1 y2 => k (.tup [(.v (.string y0)), (.v (.int .i64 y1)), (.v (.int .i64 y2))]) []) := by kernel_rfl
theorem l15_ag (k kp : KT) (ag5 : St → Prop) (ag15 : St → Prop) : agPL cfg 1000001 (JJ_5_15 k kp ag5 ag15) (LL_5_15 k kp ag5 ag15) [1, 1, 1, 1, 0, 0, 0, 1, 0, 1, 1, 1, 0, 1, 0, 1, 1, 0, 1, 0, 1, 0, 0] body = agPR cfg 1000001 (pick none' [(5, ag5), (15, ag15)]) [1, 1, 1, 1, 0, 0, 0, 1, 0, 1, 1, 1, 0, 1, 0, 1, 1, 0, 1, 0, 1, 0, 0] body (topK cfg Tryd.f26 k kp) := by kernel_rfl
theorem l15_raw (k kp : KT) (ag5 : St → Prop) (ag15 : St → Prop) (x0 x7 : BA) (x8 x9 x10 : Int) (x11 : BA) (x12 : Int) : YL15 k kp ag5 ag15 (mL15 x0 x7 x8 x9 x10 x11 x12) = l15 (fun x0 x7 x8 x9 x10 x11 x12 => X16 k kp ag5 ag15 (m16 x0 x7 x8 x9 x10 x11 x12)) (fun x0 x7 x8 x9 x10 x11 => X19 k kp ag5 (m19 x0 x7 x8 x9 x10 x11)) x0 x7 x8 x9 x10 x11 x12 (fun y0 y1 y2 => k (.tup [(.v (.string y0)), (.v (.int .i64 y1)), (.v (.int .i64 y2))]) []) :=
  Eq.mp (by kernel_rfl) ((atP_run (l15_ag k kp ag5 ag15) (mL15 x0 x7 x8 x9 x10 x11 x12)).trans (l15_c k kp (JJ_5_15 k kp ag5 ag15) (LL_5_15 k kp ag5 ag15) ag5 ag15 x0 x7 x8 x9 x10 x11 x12))
theorem l15_eq (k kp : KT) (ag5 : St → Prop) (x0 x7 : BA) (x8 x9 x10 : Int) (x11 : BA) (x12 : Int) : XL15 k kp ag5 (mL15 x0 x7 x8 x9 x10 x11 x12) = l15' (fun x7 x8 => ag5 (mL5 x0 x7 x8)) x0 x7 x8 x9 x10 x11 x12 (fun y0 y1 y2 => k (.tup [(.v (.string y0)), (.v (.int .i64 y1)), (.v (.int .i64 y2))]) []) :=
  loop_eq (mk := fun (s : Int × Int × Int) => mL15 x0 x7 x8 s.1 s.2.1 x11 s.2.2) (fun again s => by rw [l15_raw k kp ag5 again x0 x7 x8 s.1 s.2.1 x11 s.2.2]; simp only [j16_eq, j19_eq]; first | done | rfl) (x9, x10, x12)
theorem j6_c (k kp : KT) (J L : Nat → St → Prop) (ag5 : St → Prop) (x0 x7 : BA) (x8 : Int) : runC cfg 6 J L (pick none' [(5, ag5)]) [1, 1, 1, 1, 0, 0, 0, 1] body (topK cfg Tryd.f26 k kp) (m6 x0 x7 x8) = j6 (fun x0 x7 x8 x9 x10 x11 x12 => L 15 (mL15 x0 x7 x8 x9 x10 x11 x12)) (fun x0 x7 x8 x9 x10 x11 => J 19 (m19 x0 x7 x8 x9 x10 x11)) (fun x0 x7 x8 x9 x10 => J 21 (m21 x0 x7 x8 x9 x10)) x0 x7 x8 (fun y0 y1 y2 => k (.tup [(.v (.string y0)), (.v (.int .i64 y1)), (.v (.int .i64 y2))]) []) := by kernel_rfl
theorem j6_ag (k kp : KT) (ag5 : St → Prop) : agPL cfg 6 (JJ_5 k kp ag5) (LL_5 k kp ag5) [1, 1, 1, 1, 0, 0, 0, 1] body = agPR cfg 6 (pick none' [(5, ag5)]) [1, 1, 1, 1, 0, 0, 0, 1] body (topK cfg Tryd.f26 k kp) := by kernel_rfl
theorem j6_raw (k kp : KT) (ag5 : St → Prop) (x0 x7 : BA) (x8 : Int) : X6 k kp ag5 (m6 x0 x7 x8) = j6 (fun x0 x7 x8 x9 x10 x11 x12 => XL15 k kp ag5 (mL15 x0 x7 x8 x9 x10 x11 x12)) (fun x0 x7 x8 x9 x10 x11 => X19 k kp ag5 (m19 x0 x7 x8 x9 x10 x11)) (fun x0 x7 x8 x9 x10 => X21 k kp ag5 (m21 x0 x7 x8 x9 x10)) x0 x7 x8 (fun y0 y1 y2 => k (.tup [(.v (.string y0)), (.v (.int .i64 y1)), (.v (.int .i64 y2))]) []) :=
  Eq.mp (by kernel_rfl) ((atP_run (j6_ag k kp ag5) (m6 x0 x7 x8)).trans (j6_c k kp (JJ_5 k kp ag5) (LL_5 k kp ag5) ag5 x0 x7 x8))
theorem j6_eq (k kp : KT) (ag5 : St → Prop) (x0 x7 : BA) (x8 : Int) : X6 k kp ag5 (m6 x0 x7 x8) = j6' (fun x7 x8 => ag5 (mL5 x0 x7 x8)) x0 x7 x8 (fun y0 y1 y2 => k (.tup [(.v (.string y0)), (.v (.int .i64 y1)), (.v (.int .i64 y2))]) []) := by
  rw [j6_raw]; simp only [l15_eq, j19_eq, j21_eq]; first | done | rfl
theorem l5_c (k kp : KT) (J L : Nat → St → Prop) (ag5 : St → Prop) (x0 x7 : BA) (x8 : Int) : runC cfg 1000001 J L (pick none' [(5, ag5)]) [1, 1, 1, 1, 0, 0, 0] body (topK cfg Tryd.f26 k kp) (mL5 x0 x7 x8) = l5 (fun x0 x7 x8 => J 6 (m6 x0 x7 x8)) (fun x0 x7 x8 => J 25 (m25 x0 x7 x8)) x0 x7 x8 (fun y0 y1 y2 => k (.tup [(.v (.string y0)), (.v (.int .i64 y1)), (.v (.int .i64 y2))]) []) := by kernel_rfl
theorem l5_ag (k kp : KT) (ag5 : St → Prop) : agPL cfg 1000001 (JJ_5 k kp ag5) (LL_5 k kp ag5) [1, 1, 1, 1, 0, 0, 0] body = agPR cfg 1000001 (pick none' [(5, ag5)]) [1, 1, 1, 1, 0, 0, 0] body (topK cfg Tryd.f26 k kp) := by kernel_rfl
theorem l5_raw (k kp : KT) (ag5 : St → Prop) (x0 x7 : BA) (x8 : Int) : YL5 k kp ag5 (mL5 x0 x7 x8) = l5 (fun x0 x7 x8 => X6 k kp ag5 (m6 x0 x7 x8)) (fun x0 x7 x8 => X25 k kp (m25 x0 x7 x8)) x0 x7 x8 (fun y0 y1 y2 => k (.tup [(.v (.string y0)), (.v (.int .i64 y1)), (.v (.int .i64 y2))]) []) :=
  Eq.mp (by kernel_rfl) ((atP_run (l5_ag k kp ag5) (mL5 x0 x7 x8)).trans (l5_c k kp (JJ_5 k kp ag5) (LL_5 k kp ag5) ag5 x0 x7 x8))
theorem l5_eq (k kp : KT) (x0 x7 : BA) (x8 : Int) : XL5 k kp (mL5 x0 x7 x8) = l5' x0 x7 x8 (fun y0 y1 y2 => k (.tup [(.v (.string y0)), (.v (.int .i64 y1)), (.v (.int .i64 y2))]) []) :=
  loop_eq (mk := fun (s : BA × Int) => mL5 x0 s.1 s.2) (fun again s => by rw [l5_raw k kp again x0 s.1 s.2]; simp only [j6_eq, j25_eq]; first | done | rfl) (x7, x8)
theorem j3_c (k kp : KT) (J L : Nat → St → Prop) (x0 : BA) (x1 : Int) : runC cfg 3 J L (pick none' []) [1, 1] body (topK cfg Tryd.f26 k kp) (m3 x0 x1) = j3 (fun x0 x7 x8 => L 5 (mL5 x0 x7 x8)) x0 x1 (fun y0 y1 y2 => k (.tup [(.v (.string y0)), (.v (.int .i64 y1)), (.v (.int .i64 y2))]) []) := by kernel_rfl
theorem j3_ag (k kp : KT) : agPL cfg 3 (JJ k kp) (LL k kp) [1, 1] body = agPR cfg 3 (pick none' []) [1, 1] body (topK cfg Tryd.f26 k kp) := by kernel_rfl
theorem j3_raw (k kp : KT) (x0 : BA) (x1 : Int) : X3 k kp (m3 x0 x1) = j3 (fun x0 x7 x8 => XL5 k kp (mL5 x0 x7 x8)) x0 x1 (fun y0 y1 y2 => k (.tup [(.v (.string y0)), (.v (.int .i64 y1)), (.v (.int .i64 y2))]) []) :=
  Eq.mp (by kernel_rfl) ((atP_run (j3_ag k kp) (m3 x0 x1)).trans (j3_c k kp (JJ k kp) (LL k kp) x0 x1))
theorem j3_eq (k kp : KT) (x0 : BA) (x1 : Int) : X3 k kp (m3 x0 x1) = j3' x0 x1 (fun y0 y1 y2 => k (.tup [(.v (.string y0)), (.v (.int .i64 y1)), (.v (.int .i64 y2))]) []) := by
  rw [j3_raw]; simp only [l5_eq]; first | done | rfl
theorem j2000002_c (k kp : KT) (J L : Nat → St → Prop) (x0 : BA) (x1 : Int) (x26 : Bool) : runC cfg 2000002 J L (pick none' []) [1, 0, 1] body (topK cfg Tryd.f26 k kp) (m2000002 x0 x1 x26) = j2000002 (fun x0 x1 => J 3 (m3 x0 x1)) x0 x1 x26 (fun y0 y1 y2 => k (.tup [(.v (.string y0)), (.v (.int .i64 y1)), (.v (.int .i64 y2))]) []) := by kernel_rfl
theorem j2000002_ag (k kp : KT) : agPL cfg 2000002 (JJ k kp) (LL k kp) [1, 0, 1] body = agPR cfg 2000002 (pick none' []) [1, 0, 1] body (topK cfg Tryd.f26 k kp) := by kernel_rfl
theorem j2000002_raw (k kp : KT) (x0 : BA) (x1 : Int) (x26 : Bool) : X2000002 k kp (m2000002 x0 x1 x26) = j2000002 (fun x0 x1 => X3 k kp (m3 x0 x1)) x0 x1 x26 (fun y0 y1 y2 => k (.tup [(.v (.string y0)), (.v (.int .i64 y1)), (.v (.int .i64 y2))]) []) :=
  Eq.mp (by kernel_rfl) ((atP_run (j2000002_ag k kp) (m2000002 x0 x1 x26)).trans (j2000002_c k kp (JJ k kp) (LL k kp) x0 x1 x26))
theorem j2000002_eq (k kp : KT) (x0 : BA) (x1 : Int) (x26 : Bool) : X2000002 k kp (m2000002 x0 x1 x26) = j2000002' x0 x1 x26 (fun y0 y1 y2 => k (.tup [(.v (.string y0)), (.v (.int .i64 y1)), (.v (.int .i64 y2))]) []) := by
  rw [j2000002_raw]; simp only [j3_eq]; first | done | rfl
theorem c_c (k kp : KT) (J L : Nat → St → Prop) (x0 : BA) (x1 : Int) : runC cfg 1000001 J L none'' [] body (topK cfg Tryd.f26 k kp) (st0 Tryd.f26 [(.v (.string x0)), (.v (.int .i64 x1))] []) = c (fun x0 x1 x26 => J 2000002 (m2000002 x0 x1 x26)) x0 x1 (fun y0 y1 y2 => k (.tup [(.v (.string y0)), (.v (.int .i64 y1)), (.v (.int .i64 y2))]) []) := by kernel_rfl
theorem c_ag (k kp : KT) : agPL cfg 1000001 (JJ k kp) (LL k kp) [] body = agPR cfg 1000001 none'' [] body (topK cfg Tryd.f26 k kp) := by kernel_rfl
theorem body_is : Tryd.f26.body = some body := by kernel_rfl
theorem c_raw (k kp : KT) (x0 : BA) (x1 : Int) : funW cfg Tryd.f26 [(.v (.string x0)), (.v (.int .i64 x1))] [] k kp = c (fun x0 x1 x26 => X2000002 k kp (m2000002 x0 x1 x26)) x0 x1 (fun y0 y1 y2 => k (.tup [(.v (.string y0)), (.v (.int .i64 y1)), (.v (.int .i64 y2))]) []) :=
  Eq.mp (by kernel_rfl) ((funW_run (AG := none'') body_is (c_ag k kp) [(.v (.string x0)), (.v (.int .i64 x1))] []).trans (c_c k kp (JJ k kp) (LL k kp) x0 x1))
theorem f_eq (k kp : KT) (x0 : BA) (x1 : Int) : funW cfg Tryd.f26 [(.v (.string x0)), (.v (.int .i64 x1))] [] k kp = f x0 x1 (fun y0 y1 y2 => k (.tup [(.v (.string y0)), (.v (.int .i64 y1)), (.v (.int .i64 y2))]) []) := by
  rw [f_def, c_raw]; simp only [j2000002_eq]; first | done | rfl
noncomputable def ent0 : Entry := fun args blks k _ => match args, blks with
  | [d0, d1], [] => aStr d0 fun x0 => aInt IntKind.i64 d1 fun x1 => f x0 x1 (fun y0 y1 y2 => k (.tup [(.v (.string y0)), (.v (.int .i64 y1)), (.v (.int .i64 y2))]) [])
  | _, _ => False
noncomputable def ent : Entry := fun args blks k kp => ent0 (convB [.no, .no] args) blks k kp
theorem ok : EntOk Tryd.prog 49 0 26 ent := by
  refine EntOk.convB (EntOk.of (funW_ok (cfg := cfg) (tyOk_of rfl rfl tyL_ok) (eqOk_of (P := Tryd.prog) rfl rfl (by kernel_rfl)) mixed_ok (tab_ok ?_) Tryd.func26 (by rfl) (by rfl)) ?_) _
  · intro p hp
    simp only [List.mem_cons, List.not_mem_nil, or_false] at hp
    rcases hp with rfl
    · exact N47.ok
  · intro args blks k kp h k' kp'
    match args, blks, h with
    | [d0, d1], [], h =>
    dsimp only [ent0] at h
    have h9 := aStr_elim h; clear h; obtain ⟨x0, rfl, h⟩ := h9
    have h9 := aInt_elim h; clear h; obtain ⟨x1, rfl, h⟩ := h9
    exact (f_eq k' kp' x0 x1).symm
end N26
end Go.Proofs.Ye

namespace Go.Proofs.Ye
open Go Go.Aw Go.Proofs Go.RowKit
theorem hexr_s (c : Int) (hc : isB c) (k : Int → Prop) (h : k (match nibL c with | some v => v | none => 99)) : N47.f c k := by
  obtain ⟨c0, c1⟩ := hc
  rw [N47.f_def]
  unfold N47.f0 N47.c N47.j2000003' N47.j2000003
  have go : ∀ d : Int, (∀ i : Int, 0 ≤ i → i < 16 → (hexL i = d ↔ nibL c = some i)) → N47.j4' d (ByteArray.mk #[48, 49, 50, 51, 52, 53, 54, 55, 56, 57, 97, 98, 99, 100, 101, 102]) k := by
    intro d hd
    unfold N47.j4' N47.j4 N47.l5'
    refine loopS_of (fun x : Int => ∃ j : Nat, x = j ∧ j ≤ 16 ∧ ∀ i : Nat, i < j → hexL (i : Int) ≠ d) (fun x => (16 - x).toNat) ?_ ⟨0, rfl, by omega, fun i hi => by omega⟩
    rintro again x ⟨j, rfl, hj, hno⟩ hag
    unfold N47.l5 N47.j9' N47.j9
    dsimp only
    refine br_of (fun hlt => ?_) (fun hge => ?_)
    · have hlt : j < 16 := by simp at hlt; omega
      refine ⟨⟨by omega, by omega, by show (j : Int) ≤ 16 - 1; omega⟩, ?_⟩
      rw [hexes_get _ (by omega) (by omega), wrap_id (by omega) (by omega)]
      refine br_of (fun he => ?_) (fun hne => ?_)
      · have he : hexL (j : Int) = d := by simpa using he
        rw [(hd j (by omega) (by omega)).1 he] at h
        exact h
      · have hne : hexL (j : Int) ≠ d := by simpa using hne
        refine hag _ ⟨j + 1, by omega, by omega, fun i hi => ?_⟩ (by omega)
        rcases Nat.lt_or_ge i j with hh | hh
        · exact hno i hh
        · rw [show i = j by omega]; exact hne
    · have hge : j = 16 := by simp at hge; omega
      subst hge
      cases hn : nibL c with
      | none => rw [hn] at h; exact h
      | some v =>
        exfalso
        have hv := nib_lt hn
        obtain ⟨i, rfl⟩ : ∃ i : Nat, v = i := ⟨v.toNat, by omega⟩
        exact hno i (by omega) ((hd i hv.1 hv.2).2 hn)
  have plain : ¬ (65 ≤ c ∧ c ≤ 70) → ∀ i : Int, 0 ≤ i → i < 16 → (hexL i = c ↔ nibL c = some i) := by
    intro hn i h0 h1
    unfold hexL nibL
    constructor
    · intro e
      split at e
      · rw [if_pos (by omega)]; congr 1; omega
      · rw [if_neg (by omega), if_pos (by omega)]; congr 1; omega
    · intro e
      split at e
      · cases e; split <;> omega
      · split at e
        · cases e; split <;> omega
        · cases e
  refine br_of (fun h1 => ?_) (fun h1 => ?_)
  · have h1 := of_decide_eq_true h1
    refine br_of (fun h2 => ?_) (fun h2 => ?_)
    · have h2 := of_decide_eq_true h2
      rw [show IntKind.u8.wrap (c + 32) = c + 32 by rw [wu8_eq]; omega]
      refine go _ ?_
      intro i h3 h4
      have e1 : nibL c = some (c - 55) := by unfold nibL; rw [if_neg (by omega), if_neg (by omega), if_pos (by omega)]
      rw [e1]
      unfold hexL
      constructor
      · intro e
        split at e
        · omega
        · congr 1; omega
      · intro e
        cases e
        split <;> omega
    · have h2 := of_decide_eq_false h2
      exact go _ (plain (by omega))
  · have h1 := of_decide_eq_false h1
    exact go _ (plain (by omega))
def tabE (a c : Int) (i : Nat) : Int × Int := if 1 ≤ i ∧ a = 110 then (2, 10) else if 2 ≤ i ∧ a = 116 then (2, 9) else if 3 ≤ i ∧ a = 34 then (2, 34) else if 4 ≤ i ∧ a = 92 then (2, 92) else (0, c)
set_option maxHeartbeats 4000000 in
theorem scan3_s (x : ByteArray) (hx : x.size ≤ 1000000000000) (at_ : Int) (k : ByteArray → Int → Int → Prop)
    (h1 : noQuote (ofBytes x) at_ → k (bytesOf []) 0 1)
    (h2 : ∀ t e c, ¬ noQuote (ofBytes x) at_ → scanL 64 ((ofBytes x).length + 1) ((ofBytes x).drop (at_.toNat + 1)) (at_ + 1) [] = (t, e, c) → k (bytesOf t) e c) : N26.f x at_ k := by
  rw [N26.f_def]
  unfold N26.f0 N26.c N26.j2000002' N26.j2000002 N26.j3' N26.j3
  have hn := ofBytes_length x
  have hB := ofBytes_isB x
  unfold noQuote at h1 h2
  rw [show ByteArray.mk #[] = bytesOf [] from rfl]
  have go : ¬ noQuote (ofBytes x) at_ → N26.l5' x (bytesOf []) (IntKind.i64.wrap (at_ + 1)) k := by
    intro hq
    have hq' := hq
    unfold noQuote at hq'
    obtain ⟨a, rfl⟩ : ∃ a : Nat, at_ = a := ⟨at_.toNat, by omega⟩
    have ha : a < (ofBytes x).length := by omega
    rw [wrap_id (by omega) (by omega)]
    simp only [Int.toNat_natCast] at h2 hq'
    generalize hR : scanL 64 ((ofBytes x).length + 1) ((ofBytes x).drop (a + 1)) ((a : Int) + 1) [] = R at h2
    unfold N26.l5'
    refine loopS_of (fun s : ByteArray × Int => ∃ (i f : Nat) (b : List Int), s.2 = i ∧ s.1 = bytesOf b ∧ i ≤ (ofBytes x).length ∧ b.length ≤ 64 ∧ (ofBytes x).length - i < f ∧ scanL 64 f ((ofBytes x).drop i) i b = R) (fun s => (ofBytes x).length - s.2.toNat) ?_
      ⟨a + 1, (ofBytes x).length + 1, [], by simp, rfl, by omega, by simp, by omega, by rw [← hR]; rfl⟩
    rintro again ⟨bb, p⟩ ⟨i, f, b, e1, e0, hi, hb, hf, e2⟩ hag
    simp only at e1 e0 hb e2 hag
    subst e1
    subst e0
    unfold N26.l5
    dsimp only
    obtain ⟨f, rfl⟩ : ∃ g, f = g + 1 := ⟨f - 1, by omega⟩
    have fin : ∀ t e c, (t, e, c) = R → k (bytesOf t) e c := fun t e c he => h2 t e c (by simpa [noQuote] using hq) he.symm
    have stop : ((ofBytes x).length ≤ i ∨ (ofBytes x).getD i 0 = 34 ∨ (ofBytes x).getD i 0 = 10) → N26.j25' x (bytesOf b) (i : Int) k := by
      intro hs
      unfold N26.j25' N26.j25 N26.j2000026' N26.j2000026 N26.j27' N26.j27
      dsimp only
      by_cases hend : i = (ofBytes x).length
      · have : ((i : Int) == (((x).size : Nat) : Int)) = true := by simp; omega
        rw [this]
        simp only [br_true]
        rw [List.drop_of_length_le (by omega)] at e2
        exact fin [] i 11 e2
      · have : ((i : Int) == (((x).size : Nat) : Int)) = false := by simp; omega
        rw [this]
        simp only [br_false]
        refine ⟨⟨by omega, by omega, by omega⟩, ?_⟩
        rw [byteAt_eq]
        rw [drop_get (d := 0) (show i < (ofBytes x).length by omega)] at e2
        generalize (ofBytes x).getD i 0 = c at *
        unfold scanL at e2
        dsimp only at e2
        rw [br_beq]
        split
        · rename_i h10; rw [if_pos h10] at e2; exact fin _ _ _ e2
        · rename_i h10; rw [if_neg h10, if_pos (by omega)] at e2
          rw [wrap_id (by omega) (by omega)]
          exact fin _ _ _ e2
    refine br_of (fun hlt => ?_) (fun hge => ?_)
    · have hlt : i < (ofBytes x).length := by simp at hlt; omega
      have inb : inB 0 (i : Int) (((x.size : Nat) : Int) - 1) := ⟨by omega, by omega, by omega⟩
      refine ⟨inb, ?_⟩
      rw [byteAt_eq, br_bne]
      split
      case isTrue h34 => exact stop (.inr (.inl h34))
      case isFalse h34 =>
        refine ⟨inb, ?_⟩
        rw [br_bne]
        split
        case isTrue h10 => exact stop (.inr (.inr h10))
        case isFalse h10 =>
          rw [drop_get (d := 0) hlt] at e2
          have hc := getD_isB x i
          unfold N26.j6' N26.j6
          dsimp only
          rw [byteAt_eq]
          generalize (ofBytes x).getD i 0 = c at *
          unfold scanL at e2
          dsimp only at e2
          rw [if_neg h10, if_neg h34] at e2
          rw [bytesOf_size, br_beq]
          split
          case isTrue h64 => rw [if_pos (by omega)] at e2; exact fin _ _ _ e2
          case isFalse h64 =>
            rw [if_neg (by omega)] at e2
            refine ⟨inb, ?_⟩
            have put : ∀ (v : Int) (n : Nat), 1 ≤ n → i + n ≤ (ofBytes x).length → scanL 64 f ((ofBytes x).drop (i + n)) ((i : Int) + n) (b ++ [v]) = R → N26.j21' (fun b i => again (b, i)) x (bytesOf b) (i : Int) (n : Int) v k := by
              intro v n hn1 hn2 he
              unfold N26.j21' N26.j21
              dsimp only
              rw [br_beq, if_neg (by omega)]
              refine ⟨by rw [bytesOf_size, bytesOf_size]; simp; omega, ?_⟩
              rw [← bytesOf_append, wrap_id (by omega) (by omega)]
              refine hag _ ⟨i + n, f, b ++ [v], by simp, rfl, hn2, by simp; omega, by omega, ?_⟩ (by simp only; omega)
              rw [← he]
              simp
            have none_ : R = ([], (i : Int), 11) → ∀ v, N26.j21' (fun b i => again (b, i)) x (bytesOf b) (i : Int) 0 v k := by
              intro he v
              unfold N26.j21' N26.j21
              dsimp only
              rw [br_beq, if_pos rfl]
              exact fin _ _ _ he.symm
            rw [br_beq]
            split
            case isFalse h92 =>
              rw [if_pos h92] at e2
              refine put c 1 (by omega) (by omega) ?_
              rw [← e2]
              simp
            case isTrue h92 =>
              rw [if_neg (by simpa using h92)] at e2
              have ee : ByteArray.extract x (Int.toNat (IntKind.i64.wrap ((i : Int) + 1))) (Int.toNat ((x.size : Nat) : Int)) = bytesOf ((ofBytes x).drop (i + 1)) := by
                rw [wrap_id (by omega) (by omega)]
                apply eq_of_ofBytes
                rw [ofBytes_extract, ofBytes_bytesOf (fun y hy => hB y (List.mem_of_mem_drop hy)), Int.toNat_natCast, List.take_of_length_le (by omega), show ((i : Int) + 1).toNat = i + 1 by omega]
              rw [ee]
              refine ⟨⟨by rw [wrap_id (by omega) (by omega)]; omega, by rw [wrap_id (by omega) (by omega)]; omega, by omega⟩, ?_⟩
              have hrB : ∀ y ∈ (ofBytes x).drop (i + 1), isB y := fun y hy => hB y (List.mem_of_mem_drop hy)
              have hrl : ((ofBytes x).drop (i + 1)).length = (ofBytes x).length - (i + 1) := List.length_drop
              have hdd : ∀ n : Nat, ((ofBytes x).drop (i + 1)).drop n = (ofBytes x).drop (i + (1 + n)) := fun n => by rw [List.drop_drop]; congr 1; omega
              generalize (ofBytes x).drop (i + 1) = r at *
              have tail : ∀ m v : Int, (m, v) = (match meantL (r.getD 0 0) with | some v => if r = [] then (0, 92) else (2, v) | none => (0, 92)) → N26.j19' (fun b i => again (b, i)) x (bytesOf b) (i : Int) m v (bytesOf r) k := by
                intro m v hmv
                unfold N26.j19' N26.j19 N26.j2000020' N26.j2000020
                dsimp only
                have b0 : byteAt (bytesOf r) (0 : Int) = r.getD 0 0 := byteAt_bytes hrB 0
                have b1 : byteAt (bytesOf r) (1 : Int) = r.getD 1 0 := byteAt_bytes hrB 1
                have b2 : byteAt (bytesOf r) (2 : Int) = r.getD 2 0 := byteAt_bytes hrB 2
                rw [bytesOf_size, b0, b1, b2]
                have other : (r.length ≤ 2 ∨ r.getD 0 0 ≠ 120 ∨ nibL (r.getD 1 0) = none ∨ nibL (r.getD 2 0) = none) → N26.j21' (fun b i => again (b, i)) x (bytesOf b) (i : Int) m v k := by
                  intro ho
                  cases r with
                  | nil =>
                    have : (m, v) = (0, 92) := by rw [hmv]; decide
                    cases this
                    exact none_ e2.symm _
                  | cons a r =>
                    simp only [List.getD_cons_zero] at hmv ho
                    unfold escL at e2
                    dsimp only at e2
                    cases hm : meantL a with
                    | some u =>
                      rw [hm] at hmv e2
                      simp at hmv
                      obtain ⟨rfl, rfl⟩ := hmv
                      simp only [List.length_cons] at hrl
                      refine put v 2 (by omega) (by omega) ?_
                      rw [← e2]
                      dsimp only
                      rw [hdd 1]
                      simp [Int.add_assoc]
                    | none =>
                      rw [hm] at hmv e2
                      cases hmv
                      dsimp only at e2
                      refine none_ ?_ _
                      rw [← e2]
                      by_cases h120 : a = 120
                      · rw [if_pos h120]
                        have : hexEsc r = none := by
                          unfold hexEsc
                          split
                          · rename_i p q _
                            simp at ho
                            rcases ho with ho | ho | ho
                            · exact absurd h120 ho
                            · rw [ho]
                            · rw [ho]; cases nibL p <;> rfl
                          · rfl
                        rw [this]
                      · rw [if_neg h120]
                refine br_of (fun g3 => ?_) (fun g3 => ?_)
                · have g3 : 2 < r.length := by simp at g3; omega
                  refine ⟨⟨by omega, by omega, by omega⟩, ?_⟩
                  rw [br_beq]
                  split
                  case isFalse g4 => exact other (.inr (.inl g4))
                  case isTrue g4 =>
                    have gB : ∀ j : Nat, isB (r.getD j 0) := by
                      intro j
                      rcases Nat.lt_or_ge j r.length with hh | hh
                      · rw [show r.getD j 0 = r[j] by simp [List.getD, List.getElem?_eq_getElem hh]]
                        exact hrB _ (List.getElem_mem hh)
                      · rw [show r.getD j 0 = 0 by simp [List.getD, List.getElem?_eq_none hh]]
                        exact ⟨by decide, by decide⟩
                    refine ⟨⟨by omega, by omega, by omega⟩, hexr_s _ (gB 1) _ ?_⟩
                    cases n1 : nibL (r.getD 1 0) with
                    | none => exact other (.inr (.inr (.inl n1)))
                    | some u =>
                      have hu := nib_lt n1
                      dsimp only
                      rw [br_dec, if_pos (by omega)]
                      refine ⟨⟨by omega, by omega, by omega⟩, hexr_s _ (gB 2) _ ?_⟩
                      cases n2 : nibL (r.getD 2 0) with
                      | none => exact other (.inr (.inr (.inr n2)))
                      | some w =>
                        have hw := nib_lt n2
                        dsimp only
                        rw [br_dec, if_pos (by omega)]
                        refine ⟨⟨by omega, by omega, by omega⟩, hexr_s _ (gB 1) _ ⟨⟨by omega, by omega, by omega⟩, hexr_s _ (gB 2) _ ?_⟩⟩
                        rw [n1, n2]
                        dsimp only
                        rw [wrap_id (n := 16 * u) (by omega) (by omega), wrap_id (by omega) (by omega), show IntKind.u8.wrap (16 * u + w) = 16 * u + w by rw [wu8_eq]; omega]
                        refine put _ 4 (by omega) (by omega) ?_
                        rw [← e2]
                        obtain ⟨a, p, q, s, rfl⟩ : ∃ a p q s, r = a :: p :: q :: s := by
                          match r, g3 with
                          | a :: p :: q :: s, _ => exact ⟨a, p, q, s, rfl⟩
                        simp at g4 n1 n2
                        subst g4
                        have : escL (120 :: p :: q :: s) = some (16 * u + w, 3) := by
                          unfold escL
                          dsimp only
                          rw [show meantL 120 = none by decide]
                          dsimp only
                          rw [if_pos rfl]
                          unfold hexEsc
                          dsimp only
                          rw [n1, n2]
                        rw [this]
                        dsimp only
                        rw [hdd 3]
                        simp [Int.add_assoc]
                · exact other (.inl (by have := of_decide_eq_false g3; omega))
              rw [bytesOf_size]
              refine br_of (fun hpos => ?_) (fun hpos => ?_)
              · have hpos : 0 < r.length := by simp at hpos; omega
                have hne : r ≠ [] := by intro h; rw [h] at hpos; simp at hpos
                unfold N26.l15'
                refine loopS_of (fun s : Int × Int × Int => ∃ j : Nat, s.2.2 = j ∧ j ≤ 4 ∧ (s.1, s.2.1) = tabE (r.getD 0 0) 92 j) (fun s => (4 - s.2.2).toNat) ?_ ⟨0, rfl, by omega, by rw [h92]; rfl⟩
                rintro again2 ⟨m, v, y⟩ ⟨j, ey, hj, emv⟩ hag2
                simp only at ey emv hag2
                subst ey
                unfold N26.l15 N26.j16' N26.j16
                dsimp only
                have b0 : byteAt (bytesOf r) (0 : Int) = r.getD 0 0 := byteAt_bytes hrB 0
                refine br_of (fun hlt => ?_) (fun hge => ?_)
                · have hlt : j < 4 := by simp at hlt; omega
                  rw [b0, bytesOf_size, wrap_id (by omega) (by omega)]
                  refine ⟨⟨by omega, by omega, by omega⟩, ⟨by omega, by omega, by show (j : Int) ≤ 4 - 1; omega⟩, ?_⟩
                  generalize r.getD 0 0 = a at *
                  rw [br_beq]
                  have step : ∀ m' v', (m', v') = tabE a 92 (j + 1) → again2 (m', v', (j : Int) + 1) := fun m' v' he => hag2 _ ⟨j + 1, by simp, by omega, he⟩ (by simp only; omega)
                  have t1 : byteAt (ByteArray.mk #[110, 116, 34, 92]) (j : Int) = [110, 116, 34, 92].getD j 0 := by
                    rcases (by omega : j = 0 ∨ j = 1 ∨ j = 2 ∨ j = 3) with rfl | rfl | rfl | rfl <;> rfl
                  have t2 : byteAt (ByteArray.mk #[10, 9, 34, 92]) (j : Int) = [10, 9, 34, 92].getD j 0 := by
                    rcases (by omega : j = 0 ∨ j = 1 ∨ j = 2 ∨ j = 3) with rfl | rfl | rfl | rfl <;> rfl
                  rw [t1, t2]
                  split
                  case isTrue hh =>
                    refine ⟨⟨by omega, by omega, by show (j : Int) ≤ 4 - 1; omega⟩, step _ _ ?_⟩
                    rcases (by omega : j = 0 ∨ j = 1 ∨ j = 2 ∨ j = 3) with rfl | rfl | rfl | rfl <;> (simp at hh; subst hh; rfl)
                  case isFalse hh =>
                    refine step _ _ (emv.trans ?_)
                    rcases (by omega : j = 0 ∨ j = 1 ∨ j = 2 ∨ j = 3) with rfl | rfl | rfl | rfl <;> (simp at hh; simp [tabE, hh])
                · have hge : j = 4 := by simp at hge; omega
                  subst hge
                  refine tail m v (emv.trans ?_)
                  generalize r.getD 0 0 = a at *
                  unfold tabE meantL
                  by_cases a1 : a = 110
                  · simp [a1, hne]
                  · by_cases a2 : a = 116
                    · simp [a2, hne]
                    · by_cases a3 : a = 34
                      · simp [a3, hne]
                      · by_cases a4 : a = 92
                        · simp [a4, hne]
                        · simp [a1, a2, a3, a4]
              · have hpos : r = [] := by
                  have := of_decide_eq_false hpos
                  exact List.length_eq_zero_iff.1 (by omega)
                refine tail _ _ ?_
                rw [hpos, h92]
                decide
    · exact stop (.inl (by simp at hge; omega))
  simp only [br_dec, br_bne]
  split
  · rename_i ha; exact h1 (.inl ha)
  · rename_i ha
    split
    · rename_i hb; exact h1 (.inr (.inl (by omega)))
    · rename_i hb
      obtain ⟨a, rfl⟩ : ∃ a : Nat, at_ = a := ⟨at_.toNat, by omega⟩
      rw [byteAt_eq]
      refine ⟨⟨by omega, by omega, by omega⟩, ?_⟩
      split
      case isFalse hc => exact h1 (.inr (.inr (by simpa using hc)))
      case isTrue hc =>
        refine go ?_
        unfold noQuote
        simp only [Int.toNat_natCast]
        rintro (h | h | h)
        · omega
        · omega
        · exact h hc
end Go.Proofs.Ye

namespace Go.Proofs.Ye
open Go Go.Aw Go.Proofs
set_option maxRecDepth 100000
set_option maxHeartbeats 4000000
namespace N49
noncomputable def cfg : Cfg := { P := Tryd.prog, tf := 49, tw := 0, ty := tys, E := tab [], atSeq := tab [(3, ⟨[(0, .keep), (1, .keep), (5, .keep)]⟩), (4, ⟨[(5, .keep)]⟩)], atLoop := tab [(2, ⟨[(0, .keep), (1, .keep), (5, .keep)]⟩)], outs := [], eqT := tab [], bT := tab [] }
noncomputable def body : Code := bodyOf Tryd.f49
def l2 (j3 : BA → Int → Int → Prop) (j4 : Int → Prop) (x0 : BA) (x1 x5 : Int) (k : Int → Prop) : Prop :=
  (br (decide ((IntKind.i64.wrap (x1 + x5)) < ((((x0).size : Nat) : Int)))) ((inB 0 (IntKind.i64.wrap (x1 + x5)) ((((x0).size : Nat) : Int) - 1)) ∧ (br (decide ((byteAt x0 (IntKind.i64.wrap (x1 + x5))) ≥ (48 : Int))) ((inB 0 (IntKind.i64.wrap (x1 + x5)) ((((x0).size : Nat) : Int) - 1)) ∧ (br (decide ((byteAt x0 (IntKind.i64.wrap (x1 + x5))) ≤ (57 : Int))) (j3 x0 x1 x5) (j4 x5))) (j4 x5))) (j4 x5))
def j3 (ag2 : Int → Prop) (x0 : BA) (x1 x5 : Int) (k : Int → Prop) : Prop :=
  (ag2 (IntKind.i64.wrap (x5 + (1 : Int))))
def j4 (x5 : Int) (k : Int → Prop) : Prop :=
  (k x5)
def c (l2 : BA → Int → Int → Prop) (x0 : BA) (x1 : Int) (k : Int → Prop) : Prop :=
  (l2 x0 x1 (0 : Int))
def j3' (ag2 : Int → Prop) (x0 : BA) (x1 x5 : Int) (k : Int → Prop) : Prop := j3 ag2 x0 x1 x5 k
def j4' (x5 : Int) (k : Int → Prop) : Prop := j4 x5 k
def l2' (x0 : BA) (x1 x5 : Int) (k : Int → Prop) : Prop := ∃ n, loopS (fun (ag : (Int) → Prop) (s : Int) => l2 (fun x0 x1 x5 => j3' (fun x5 => ag (x5)) x0 x1 x5 k) (fun x5 => j4' x5 k) x0 x1 s k) n (x5)
def f0 (x0 : BA) (x1 : Int) (k : Int → Prop) : Prop := c (fun x0 x1 x5 => l2' x0 x1 x5 k) x0 x1 k
theorem f_ex : ∃ g, g = f0 := ⟨_, rfl⟩
noncomputable def f := Classical.choose f_ex
theorem f_def : f = f0 := Classical.choose_spec f_ex
def mL2 (x0 : BA) (x1 x5 : Int) : St := { tmps := mkT 31 0 [(0, (.v (.string x0))), (1, (.v (.int .i64 x1))), (5, (.v (.int .i64 x5)))], hp := [], m := 0 }
def m3 (x0 : BA) (x1 x5 : Int) : St := { tmps := mkT 31 0 [(0, (.v (.string x0))), (1, (.v (.int .i64 x1))), (5, (.v (.int .i64 x5)))], hp := [], m := 0 }
def m4 (x5 : Int) : St := { tmps := mkT 31 0 [(5, (.v (.int .i64 x5)))], hp := [], m := 0 }
noncomputable def YL2 (k kp : KT) : (St → Prop) → St → Prop := loopB cfg (sub [1, 1, 0, 0, 0] body) (contK cfg (pick none' []) [1, 1, 0, 0] body (topK cfg Tryd.f49 k kp))
noncomputable def XL2 (k kp : KT) : St → Prop := fun st => ∃ n, loopN (YL2 k kp) n st
noncomputable def X3 (k kp : KT) (ag2 : St → Prop) : St → Prop := atP cfg (pick none' [(2, ag2)]) [1, 1, 0, 0, 0, 1] body (topK cfg Tryd.f49 k kp)
noncomputable def X4 (k kp : KT) : St → Prop := atP cfg (pick none' []) [1, 1, 1] body (topK cfg Tryd.f49 k kp)
noncomputable def JJ_2 (k kp : KT) (ag2 : St → Prop) : Nat → St → Prop := pick none' [(3, X3 k kp ag2), (4, X4 k kp)]
noncomputable def LL_2 (k kp : KT) (ag2 : St → Prop) : Nat → St → Prop := pick none' [(2, XL2 k kp)]
noncomputable def JJ (k kp : KT) : Nat → St → Prop := pick none' [(4, X4 k kp)]
noncomputable def LL (k kp : KT) : Nat → St → Prop := pick none' [(2, XL2 k kp)]
theorem j3_c (k kp : KT) (J L : Nat → St → Prop) (ag2 : St → Prop) (x0 : BA) (x1 x5 : Int) : runC cfg 3 J L (pick none' [(2, ag2)]) [1, 1, 0, 0, 0, 1] body (topK cfg Tryd.f49 k kp) (m3 x0 x1 x5) = j3 (fun x5 => ag2 (mL2 x0 x1 x5)) x0 x1 x5 (fun y0 => k (.v (.int .i64 y0)) []) := by kernel_rfl
theorem j3_ag (k kp : KT) (ag2 : St → Prop) : agPL cfg 3 (JJ_2 k kp ag2) (LL_2 k kp ag2) [1, 1, 0, 0, 0, 1] body = agPR cfg 3 (pick none' [(2, ag2)]) [1, 1, 0, 0, 0, 1] body (topK cfg Tryd.f49 k kp) := by kernel_rfl
theorem j3_raw (k kp : KT) (ag2 : St → Prop) (x0 : BA) (x1 x5 : Int) : X3 k kp ag2 (m3 x0 x1 x5) = j3 (fun x5 => ag2 (mL2 x0 x1 x5)) x0 x1 x5 (fun y0 => k (.v (.int .i64 y0)) []) :=
  Eq.mp (by kernel_rfl) ((atP_run (j3_ag k kp ag2) (m3 x0 x1 x5)).trans (j3_c k kp (JJ_2 k kp ag2) (LL_2 k kp ag2) ag2 x0 x1 x5))
theorem j3_eq (k kp : KT) (ag2 : St → Prop) (x0 : BA) (x1 x5 : Int) : X3 k kp ag2 (m3 x0 x1 x5) = j3' (fun x5 => ag2 (mL2 x0 x1 x5)) x0 x1 x5 (fun y0 => k (.v (.int .i64 y0)) []) := by
  rw [j3_raw]; rfl
theorem j4_c (k kp : KT) (J L : Nat → St → Prop) (x5 : Int) : runC cfg 4 J L (pick none' []) [1, 1, 1] body (topK cfg Tryd.f49 k kp) (m4 x5) = j4 x5 (fun y0 => k (.v (.int .i64 y0)) []) := by kernel_rfl
theorem j4_ag (k kp : KT) : agPL cfg 4 (JJ k kp) (LL k kp) [1, 1, 1] body = agPR cfg 4 (pick none' []) [1, 1, 1] body (topK cfg Tryd.f49 k kp) := by kernel_rfl
theorem j4_raw (k kp : KT) (x5 : Int) : X4 k kp (m4 x5) = j4 x5 (fun y0 => k (.v (.int .i64 y0)) []) :=
  Eq.mp (by kernel_rfl) ((atP_run (j4_ag k kp) (m4 x5)).trans (j4_c k kp (JJ k kp) (LL k kp) x5))
theorem j4_eq (k kp : KT) (x5 : Int) : X4 k kp (m4 x5) = j4' x5 (fun y0 => k (.v (.int .i64 y0)) []) := by
  rw [j4_raw]; rfl
theorem l2_c (k kp : KT) (J L : Nat → St → Prop) (ag2 : St → Prop) (x0 : BA) (x1 x5 : Int) : runC cfg 1000001 J L (pick none' [(2, ag2)]) [1, 1, 0, 0, 0] body (topK cfg Tryd.f49 k kp) (mL2 x0 x1 x5) = l2 (fun x0 x1 x5 => J 3 (m3 x0 x1 x5)) (fun x5 => J 4 (m4 x5)) x0 x1 x5 (fun y0 => k (.v (.int .i64 y0)) []) := by kernel_rfl
theorem l2_ag (k kp : KT) (ag2 : St → Prop) : agPL cfg 1000001 (JJ_2 k kp ag2) (LL_2 k kp ag2) [1, 1, 0, 0, 0] body = agPR cfg 1000001 (pick none' [(2, ag2)]) [1, 1, 0, 0, 0] body (topK cfg Tryd.f49 k kp) := by kernel_rfl
theorem l2_raw (k kp : KT) (ag2 : St → Prop) (x0 : BA) (x1 x5 : Int) : YL2 k kp ag2 (mL2 x0 x1 x5) = l2 (fun x0 x1 x5 => X3 k kp ag2 (m3 x0 x1 x5)) (fun x5 => X4 k kp (m4 x5)) x0 x1 x5 (fun y0 => k (.v (.int .i64 y0)) []) :=
  Eq.mp (by kernel_rfl) ((atP_run (l2_ag k kp ag2) (mL2 x0 x1 x5)).trans (l2_c k kp (JJ_2 k kp ag2) (LL_2 k kp ag2) ag2 x0 x1 x5))
theorem l2_eq (k kp : KT) (x0 : BA) (x1 x5 : Int) : XL2 k kp (mL2 x0 x1 x5) = l2' x0 x1 x5 (fun y0 => k (.v (.int .i64 y0)) []) :=
  loop_eq (mk := fun (s : Int) => mL2 x0 x1 s) (fun again s => by rw [l2_raw k kp again x0 x1 s]; simp only [j3_eq, j4_eq]; first | done | rfl) (x5)
theorem c_c (k kp : KT) (J L : Nat → St → Prop) (x0 : BA) (x1 : Int) : runC cfg 1000001 J L none'' [] body (topK cfg Tryd.f49 k kp) (st0 Tryd.f49 [(.v (.string x0)), (.v (.int .i64 x1))] []) = c (fun x0 x1 x5 => L 2 (mL2 x0 x1 x5)) x0 x1 (fun y0 => k (.v (.int .i64 y0)) []) := by kernel_rfl
theorem c_ag (k kp : KT) : agPL cfg 1000001 (JJ k kp) (LL k kp) [] body = agPR cfg 1000001 none'' [] body (topK cfg Tryd.f49 k kp) := by kernel_rfl
theorem body_is : Tryd.f49.body = some body := by kernel_rfl
theorem c_raw (k kp : KT) (x0 : BA) (x1 : Int) : funW cfg Tryd.f49 [(.v (.string x0)), (.v (.int .i64 x1))] [] k kp = c (fun x0 x1 x5 => XL2 k kp (mL2 x0 x1 x5)) x0 x1 (fun y0 => k (.v (.int .i64 y0)) []) :=
  Eq.mp (by kernel_rfl) ((funW_run (AG := none'') body_is (c_ag k kp) [(.v (.string x0)), (.v (.int .i64 x1))] []).trans (c_c k kp (JJ k kp) (LL k kp) x0 x1))
theorem f_eq (k kp : KT) (x0 : BA) (x1 : Int) : funW cfg Tryd.f49 [(.v (.string x0)), (.v (.int .i64 x1))] [] k kp = f x0 x1 (fun y0 => k (.v (.int .i64 y0)) []) := by
  rw [f_def, c_raw]; simp only [l2_eq]; first | done | rfl
noncomputable def ent0 : Entry := fun args blks k _ => match args, blks with
  | [d0, d1], [] => aStr d0 fun x0 => aInt IntKind.i64 d1 fun x1 => f x0 x1 (fun y0 => k (.v (.int .i64 y0)) [])
  | _, _ => False
noncomputable def ent : Entry := fun args blks k kp => ent0 (convB [.no, .no] args) blks k kp
theorem ok : EntOk Tryd.prog 49 0 49 ent := by
  refine EntOk.convB (EntOk.of (funW_ok (cfg := cfg) (tyOk_of rfl rfl tyL_ok) (eqOk_of (P := Tryd.prog) rfl rfl (by kernel_rfl)) mixed_ok (tab_ok ?_) Tryd.func49 (by rfl) (by rfl)) ?_) _
  · intro p hp
    cases hp
  · intro args blks k kp h k' kp'
    match args, blks, h with
    | [d0, d1], [], h =>
    dsimp only [ent0] at h
    have h9 := aStr_elim h; clear h; obtain ⟨x0, rfl, h⟩ := h9
    have h9 := aInt_elim h; clear h; obtain ⟨x1, rfl, h⟩ := h9
    exact (f_eq k' kp' x0 x1).symm
end N49
end Go.Proofs.Ye

namespace Go.Proofs.Ye
open Go Go.Aw Go.Proofs
set_option maxRecDepth 100000
set_option maxHeartbeats 4000000
namespace N50
noncomputable def cfg : Cfg := { P := Tryd.prog, tf := 49, tw := 0, ty := tys, E := tab [], atSeq := tab [(2000002, ⟨[(0, .keep), (18, .keep)]⟩), (3, ⟨[(0, .keep)]⟩), (11, ⟨[(4, .keep)]⟩)], atLoop := tab [(5, ⟨[(0, .keep), (4, .keep), (5, .keep)]⟩)], outs := [], eqT := tab [], bT := tab [] }
noncomputable def body : Code := bodyOf Tryd.f50
def j2000002 (j3 : BA → Prop) (x0 : BA) (x18 : Bool) (k : Int → Int → Prop) : Prop :=
  (br x18 (k (0 : Int) (12 : Int)) (j3 x0))
def j3 (l5 : BA → Int → Int → Prop) (x0 : BA) (k : Int → Int → Prop) : Prop :=
  (l5 x0 (0 : Int) (0 : Int))
def l5 (j11 : Int → Prop) (ag5 : Int → Int → Prop) (x0 : BA) (x4 x5 : Int) (k : Int → Int → Prop) : Prop :=
  (br (decide (x5 < ((((x0).size : Nat) : Int)))) ((inB 0 x5 ((((x0).size : Nat) : Int) - 1)) ∧ (((10 : Int) ≠ 0) ∧ (br (decide (x4 > (IntKind.u64.wrap (Int.tdiv (IntKind.u64.wrap ((9223372036854775808 : Int) - (IntKind.u64.wrap (IntKind.u8.wrap ((byteAt x0 x5) - (48 : Int)))))) (10 : Int))))) (k (0 : Int) (2 : Int)) (ag5 (IntKind.u64.wrap ((IntKind.u64.wrap ((10 : Int) * x4)) + (IntKind.u64.wrap (IntKind.u8.wrap ((byteAt x0 x5) - (48 : Int)))))) (IntKind.i64.wrap (x5 + (1 : Int))))))) (j11 x4))
def j11 (x4 : Int) (k : Int → Int → Prop) : Prop :=
  (k x4 (0 : Int))
def c (j2000002 : BA → Bool → Prop) (x0 : BA) (k : Int → Int → Prop) : Prop :=
  (br (beqS x0 (ByteArray.mk #[])) (j2000002 x0 true) ((inB 0 (0 : Int) ((((x0).size : Nat) : Int) - 1)) ∧ (br ((byteAt x0 (0 : Int)) == (48 : Int)) (j2000002 x0 (decide (((((x0).size : Nat) : Int)) > (1 : Int)))) (j2000002 x0 false))))
def j11' (x4 : Int) (k : Int → Int → Prop) : Prop := j11 x4 k
def l5' (x0 : BA) (x4 x5 : Int) (k : Int → Int → Prop) : Prop := ∃ n, loopS (fun (ag : (Int × Int) → Prop) (s : Int × Int) => l5 (fun x4 => j11' x4 k) (fun x4 x5 => ag (x4, x5)) x0 s.1 s.2 k) n (x4, x5)
def j3' (x0 : BA) (k : Int → Int → Prop) : Prop := j3 (fun x0 x4 x5 => l5' x0 x4 x5 k) x0 k
def j2000002' (x0 : BA) (x18 : Bool) (k : Int → Int → Prop) : Prop := j2000002 (fun x0 => j3' x0 k) x0 x18 k
def f0 (x0 : BA) (k : Int → Int → Prop) : Prop := c (fun x0 x18 => j2000002' x0 x18 k) x0 k
theorem f_ex : ∃ g, g = f0 := ⟨_, rfl⟩
noncomputable def f := Classical.choose f_ex
theorem f_def : f = f0 := Classical.choose_spec f_ex
def m2000002 (x0 : BA) (x18 : Bool) : St := { tmps := mkT 40 0 [(0, (.v (.string x0))), (18, (.v (.bool x18)))], hp := [], m := 0 }
def m3 (x0 : BA) : St := { tmps := mkT 40 0 [(0, (.v (.string x0)))], hp := [], m := 0 }
def mL5 (x0 : BA) (x4 x5 : Int) : St := { tmps := mkT 40 0 [(0, (.v (.string x0))), (4, (.v (.int IntKind.u64 x4))), (5, (.v (.int .i64 x5)))], hp := [], m := 0 }
def m11 (x4 : Int) : St := { tmps := mkT 40 0 [(4, (.v (.int IntKind.u64 x4)))], hp := [], m := 0 }
noncomputable def X2000002 (k kp : KT) : St → Prop := atP cfg (pick none' []) [1, 0, 1] body (topK cfg Tryd.f50 k kp)
noncomputable def X3 (k kp : KT) : St → Prop := atP cfg (pick none' []) [1, 1] body (topK cfg Tryd.f50 k kp)
noncomputable def YL5 (k kp : KT) : (St → Prop) → St → Prop := loopB cfg (sub [1, 1, 1, 0, 1, 0, 0] body) (contK cfg (pick none' []) [1, 1, 1, 0, 1, 0] body (topK cfg Tryd.f50 k kp))
noncomputable def XL5 (k kp : KT) : St → Prop := fun st => ∃ n, loopN (YL5 k kp) n st
noncomputable def X11 (k kp : KT) : St → Prop := atP cfg (pick none' []) [1, 1, 1, 1] body (topK cfg Tryd.f50 k kp)
noncomputable def JJ (k kp : KT) : Nat → St → Prop := pick none' [(2000002, X2000002 k kp), (3, X3 k kp), (11, X11 k kp)]
noncomputable def LL (k kp : KT) : Nat → St → Prop := pick none' [(5, XL5 k kp)]
noncomputable def JJ_5 (k kp : KT) (ag5 : St → Prop) : Nat → St → Prop := pick none' [(2000002, X2000002 k kp), (3, X3 k kp), (11, X11 k kp)]
noncomputable def LL_5 (k kp : KT) (ag5 : St → Prop) : Nat → St → Prop := pick none' [(5, XL5 k kp)]
theorem j11_c (k kp : KT) (J L : Nat → St → Prop) (x4 : Int) : runC cfg 11 J L (pick none' []) [1, 1, 1, 1] body (topK cfg Tryd.f50 k kp) (m11 x4) = j11 x4 (fun y0 y1 => k (.tup [(.v (.int IntKind.u64 y0)), (.v (.int .i64 y1))]) []) := by kernel_rfl
theorem j11_ag (k kp : KT) : agPL cfg 11 (JJ k kp) (LL k kp) [1, 1, 1, 1] body = agPR cfg 11 (pick none' []) [1, 1, 1, 1] body (topK cfg Tryd.f50 k kp) := by kernel_rfl
theorem j11_raw (k kp : KT) (x4 : Int) : X11 k kp (m11 x4) = j11 x4 (fun y0 y1 => k (.tup [(.v (.int IntKind.u64 y0)), (.v (.int .i64 y1))]) []) :=
  Eq.mp (by kernel_rfl) ((atP_run (j11_ag k kp) (m11 x4)).trans (j11_c k kp (JJ k kp) (LL k kp) x4))
theorem j11_eq (k kp : KT) (x4 : Int) : X11 k kp (m11 x4) = j11' x4 (fun y0 y1 => k (.tup [(.v (.int IntKind.u64 y0)), (.v (.int .i64 y1))]) []) := by
  rw [j11_raw]; rfl
theorem l5_c (k kp : KT) (J L : Nat → St → Prop) (ag5 : St → Prop) (x0 : BA) (x4 x5 : Int) : runC cfg 1000001 J L (pick none' [(5, ag5)]) [1, 1, 1, 0, 1, 0, 0] body (topK cfg Tryd.f50 k kp) (mL5 x0 x4 x5) = l5 (fun x4 => J 11 (m11 x4)) (fun x4 x5 => ag5 (mL5 x0 x4 x5)) x0 x4 x5 (fun y0 y1 => k (.tup [(.v (.int IntKind.u64 y0)), (.v (.int .i64 y1))]) []) := by kernel_rfl
theorem l5_ag (k kp : KT) (ag5 : St → Prop) : agPL cfg 1000001 (JJ_5 k kp ag5) (LL_5 k kp ag5) [1, 1, 1, 0, 1, 0, 0] body = agPR cfg 1000001 (pick none' [(5, ag5)]) [1, 1, 1, 0, 1, 0, 0] body (topK cfg Tryd.f50 k kp) := by kernel_rfl
theorem l5_raw (k kp : KT) (ag5 : St → Prop) (x0 : BA) (x4 x5 : Int) : YL5 k kp ag5 (mL5 x0 x4 x5) = l5 (fun x4 => X11 k kp (m11 x4)) (fun x4 x5 => ag5 (mL5 x0 x4 x5)) x0 x4 x5 (fun y0 y1 => k (.tup [(.v (.int IntKind.u64 y0)), (.v (.int .i64 y1))]) []) :=
  Eq.mp (by kernel_rfl) ((atP_run (l5_ag k kp ag5) (mL5 x0 x4 x5)).trans (l5_c k kp (JJ_5 k kp ag5) (LL_5 k kp ag5) ag5 x0 x4 x5))
theorem l5_eq (k kp : KT) (x0 : BA) (x4 x5 : Int) : XL5 k kp (mL5 x0 x4 x5) = l5' x0 x4 x5 (fun y0 y1 => k (.tup [(.v (.int IntKind.u64 y0)), (.v (.int .i64 y1))]) []) :=
  loop_eq (mk := fun (s : Int × Int) => mL5 x0 s.1 s.2) (fun again s => by rw [l5_raw k kp again x0 s.1 s.2]; simp only [j11_eq]; first | done | rfl) (x4, x5)
theorem j3_c (k kp : KT) (J L : Nat → St → Prop) (x0 : BA) : runC cfg 3 J L (pick none' []) [1, 1] body (topK cfg Tryd.f50 k kp) (m3 x0) = j3 (fun x0 x4 x5 => L 5 (mL5 x0 x4 x5)) x0 (fun y0 y1 => k (.tup [(.v (.int IntKind.u64 y0)), (.v (.int .i64 y1))]) []) := by kernel_rfl
theorem j3_ag (k kp : KT) : agPL cfg 3 (JJ k kp) (LL k kp) [1, 1] body = agPR cfg 3 (pick none' []) [1, 1] body (topK cfg Tryd.f50 k kp) := by kernel_rfl
theorem j3_raw (k kp : KT) (x0 : BA) : X3 k kp (m3 x0) = j3 (fun x0 x4 x5 => XL5 k kp (mL5 x0 x4 x5)) x0 (fun y0 y1 => k (.tup [(.v (.int IntKind.u64 y0)), (.v (.int .i64 y1))]) []) :=
  Eq.mp (by kernel_rfl) ((atP_run (j3_ag k kp) (m3 x0)).trans (j3_c k kp (JJ k kp) (LL k kp) x0))
theorem j3_eq (k kp : KT) (x0 : BA) : X3 k kp (m3 x0) = j3' x0 (fun y0 y1 => k (.tup [(.v (.int IntKind.u64 y0)), (.v (.int .i64 y1))]) []) := by
  rw [j3_raw]; simp only [l5_eq]; first | done | rfl
theorem j2000002_c (k kp : KT) (J L : Nat → St → Prop) (x0 : BA) (x18 : Bool) : runC cfg 2000002 J L (pick none' []) [1, 0, 1] body (topK cfg Tryd.f50 k kp) (m2000002 x0 x18) = j2000002 (fun x0 => J 3 (m3 x0)) x0 x18 (fun y0 y1 => k (.tup [(.v (.int IntKind.u64 y0)), (.v (.int .i64 y1))]) []) := by kernel_rfl
theorem j2000002_ag (k kp : KT) : agPL cfg 2000002 (JJ k kp) (LL k kp) [1, 0, 1] body = agPR cfg 2000002 (pick none' []) [1, 0, 1] body (topK cfg Tryd.f50 k kp) := by kernel_rfl
theorem j2000002_raw (k kp : KT) (x0 : BA) (x18 : Bool) : X2000002 k kp (m2000002 x0 x18) = j2000002 (fun x0 => X3 k kp (m3 x0)) x0 x18 (fun y0 y1 => k (.tup [(.v (.int IntKind.u64 y0)), (.v (.int .i64 y1))]) []) :=
  Eq.mp (by kernel_rfl) ((atP_run (j2000002_ag k kp) (m2000002 x0 x18)).trans (j2000002_c k kp (JJ k kp) (LL k kp) x0 x18))
theorem j2000002_eq (k kp : KT) (x0 : BA) (x18 : Bool) : X2000002 k kp (m2000002 x0 x18) = j2000002' x0 x18 (fun y0 y1 => k (.tup [(.v (.int IntKind.u64 y0)), (.v (.int .i64 y1))]) []) := by
  rw [j2000002_raw]; simp only [j3_eq]; first | done | rfl
theorem c_c (k kp : KT) (J L : Nat → St → Prop) (x0 : BA) : runC cfg 1000001 J L none'' [] body (topK cfg Tryd.f50 k kp) (st0 Tryd.f50 [(.v (.string x0))] []) = c (fun x0 x18 => J 2000002 (m2000002 x0 x18)) x0 (fun y0 y1 => k (.tup [(.v (.int IntKind.u64 y0)), (.v (.int .i64 y1))]) []) := by kernel_rfl
theorem c_ag (k kp : KT) : agPL cfg 1000001 (JJ k kp) (LL k kp) [] body = agPR cfg 1000001 none'' [] body (topK cfg Tryd.f50 k kp) := by kernel_rfl
theorem body_is : Tryd.f50.body = some body := by kernel_rfl
theorem c_raw (k kp : KT) (x0 : BA) : funW cfg Tryd.f50 [(.v (.string x0))] [] k kp = c (fun x0 x18 => X2000002 k kp (m2000002 x0 x18)) x0 (fun y0 y1 => k (.tup [(.v (.int IntKind.u64 y0)), (.v (.int .i64 y1))]) []) :=
  Eq.mp (by kernel_rfl) ((funW_run (AG := none'') body_is (c_ag k kp) [(.v (.string x0))] []).trans (c_c k kp (JJ k kp) (LL k kp) x0))
theorem f_eq (k kp : KT) (x0 : BA) : funW cfg Tryd.f50 [(.v (.string x0))] [] k kp = f x0 (fun y0 y1 => k (.tup [(.v (.int IntKind.u64 y0)), (.v (.int .i64 y1))]) []) := by
  rw [f_def, c_raw]; simp only [j2000002_eq]; first | done | rfl
noncomputable def ent0 : Entry := fun args blks k _ => match args, blks with
  | [d0], [] => aStr d0 fun x0 => f x0 (fun y0 y1 => k (.tup [(.v (.int IntKind.u64 y0)), (.v (.int .i64 y1))]) [])
  | _, _ => False
noncomputable def ent : Entry := fun args blks k kp => ent0 (convB [.no] args) blks k kp
theorem ok : EntOk Tryd.prog 49 0 50 ent := by
  refine EntOk.convB (EntOk.of (funW_ok (cfg := cfg) (tyOk_of rfl rfl tyL_ok) (eqOk_of (P := Tryd.prog) rfl rfl (by kernel_rfl)) mixed_ok (tab_ok ?_) Tryd.func50 (by rfl) (by rfl)) ?_) _
  · intro p hp
    cases hp
  · intro args blks k kp h k' kp'
    match args, blks, h with
    | [d0], [], h =>
    dsimp only [ent0] at h
    have h9 := aStr_elim h; clear h; obtain ⟨x0, rfl, h⟩ := h9
    exact (f_eq k' kp' x0).symm
end N50
end Go.Proofs.Ye

