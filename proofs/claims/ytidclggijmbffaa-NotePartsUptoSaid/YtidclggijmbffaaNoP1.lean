/- Functions of the program as plain functions, each with the proof that the code comes to them. -/
import Derived.Test.YtidclggijmbffaaNoP0
set_option linter.unusedVariables false
set_option linter.unusedSimpArgs false
namespace Go.Proofs.Yh
open Go Go.Aw Go.Proofs Go.RowKit
theorem put_b (n : Int) (hn : in64 n) (k : ByteArray → Prop) (h : k (putB n)) : N43.f n k := put_s n hn k h
theorem putr_b (n : Int) (hn : in64 n) (k : ByteArray → Prop) (h : k (putB n)) : N34.f n k := putr_s n hn k h
theorem getD_in {l : List Int} (hl : ∀ x ∈ l, in64 x) {i : Nat} (h : i < l.length) : in64 (l.getD i 0) := hl _ (getD_memA h)
theorem call_s (name : ByteArray) (args : List Int) (hn : name.size ≤ 1000000) (ha : args.length ≤ 1000000) (hi : ∀ x ∈ args, in64 x) (k : ByteArray → Prop) (h : k (callS name args)) : N48.f name args k := by
  rw [N48.f_def]
  unfold N48.f0 N48.c N48.l3'
  refine loopS_of (fun s : Int × List ByteArray => ∃ i : Nat, s.1 = i ∧ i ≤ args.length ∧ s.2 = (args.take i).map putB) (fun s => args.length - s.1.toNat) ?_ ⟨0, rfl, Nat.zero_le _, rfl⟩
  rintro again ⟨x, b⟩ ⟨i, e1, hi2, e2⟩ hag
  simp only at e1 e2 hag
  subst e1; subst e2
  unfold N48.l3 N48.j7' N48.j7
  dsimp only
  refine br_of (fun hlt => ?_) (fun hge => ?_)
  · have hlt := lenlt.1 hlt
    refine ⟨inBk hlt, put_b _ (getD_in hi (by simpa using hlt)) _ ⟨by unfold room; simp; omega, ?_⟩⟩
    rw [wrap_id (by omega) (by omega)]
    refine hag _ ⟨i + 1, by simp, by omega, ?_⟩ (by simp only; omega)
    rw [take_map_snoc (d := 0) hlt]
    rfl
  · have hge : i = args.length := by simp at hge; omega
    subst hge
    rw [List.take_length]
    have h3 := szL_le (xs := args.map putB) (n := 23) (fun x hx => by obtain ⟨s, _, rfl⟩ := List.mem_map.1 hx; have := putB_size s; omega)
    rw [List.length_map] at h3
    have h4 := joinB_size (sep := cbB) (by show (2 : Nat) ≤ 2; omega) (args.map putB)
    have e1 : (ByteArray.mk #[40]).size = 1 := rfl
    have e2 : (ByteArray.mk #[41]).size = 1 := rfl
    refine ⟨by omega, jn_of (by show (2 : Nat) ≤ 2; omega) (by omega) ⟨?_, ?_, h⟩⟩
    · show _ + (joinB (args.map putB) cbB).size ≤ _
      rw [ByteArray.size_append]; omega
    · show (_ ++ joinB (args.map putB) cbB).size + _ ≤ _
      rw [ByteArray.size_append, ByteArray.size_append]; omega
theorem seg_s (s : SegT) (ok : segOk s) (k : ByteArray → Prop) (h : k (segS s)) : N26.f s.1 s.2.1 s.2.2.1 s.2.2.2.1 s.2.2.2.2.1 s.2.2.2.2.2 k := by
  obtain ⟨_, o1, o2, _, _, o3⟩ := ok
  rw [N26.f_def]
  unfold N26.f0 N26.c
  have h1 := putB_size s.2.1
  have h2 := putB_size s.2.2.1
  have h3 := nameI_size s.2.2.2.1 s.2.2.2.2.1 s.2.2.2.2.2
  have e1 : (ByteArray.mk #[46, 46]).size = 2 := rfl
  have e2 : (ByteArray.mk #[32]).size = 1 := rfl
  refine put_b _ o1 _ ⟨by omega, put_b _ o2 _ ⟨?_, ?_, name_s _ _ _ o3 _ ⟨?_, h⟩⟩⟩
  · rw [ByteArray.size_append]; omega
  · rw [ByteArray.size_append, ByteArray.size_append]; omega
  · rw [ByteArray.size_append, ByteArray.size_append, ByteArray.size_append]; omega
theorem vreg_s (n : Int) (hn : in64 n) (k : ByteArray → Prop) (h : k (ByteArray.mk #[37] ++ putB n)) : N16.f n k := by
  rw [N16.f_def]
  unfold N16.f0 N16.c
  have := putB_size n
  exact put_b _ hn _ ⟨by have e1 : (ByteArray.mk #[37]).size = 1 := rfl
                         omega, h⟩
theorem alloc_s (slots : Int) (l : List SegT) (hs : in64 slots) (hl : l.length ≤ 10000) (ok : ∀ s ∈ l, segOk s) (k : ByteArray → Prop) (h : k (allocS slots l)) : N24.f slots l k := by
  rw [N24.f_def]
  unfold N24.f0 N24.c
  have z0 := putB_size slots
  have e1 : (ByteArray.mk #[97, 108, 108, 111, 99, 32, 115, 108, 111, 116, 115, 32]).size = 12 := rfl
  have e2 : (ByteArray.mk #[32, 123, 10]).size = 3 := rfl
  have e3 : (ByteArray.mk #[125, 10]).size = 2 := rfl
  have e4 : (ByteArray.mk #[32, 32]).size = 2 := rfl
  have e5 : (ByteArray.mk #[37]).size = 1 := rfl
  have e6 : (ByteArray.mk #[58, 32]).size = 2 := rfl
  have e7 : (ByteArray.mk #[59, 10]).size = 2 := rfl
  have e8 : (ByteArray.mk #[44, 32]).size = 2 := rfl
  have e9 : ByteArray.empty.size = 0 := rfl
  rw [N52.f_def]
  unfold N52.f0 N52.c
  refine put_b _ hs _ ⟨by omega, ws_b (by rw [ByteArray.size_append]; omega) (ws_b (by simp only [ByteArray.size_append]; omega) ⟨by omega, ?_⟩)⟩
  rw [ByteArray.empty_append]
  obtain ⟨hRl, hRm⟩ := rowsOf_len Prod.fst l
  have hmem := @rows_mem l
  have hpos := @rows_pos l
  unfold allocS at h
  generalize rowsOf Prod.fst l = R at *
  generalize hpre : ByteArray.mk #[97, 108, 108, 111, 99, 32, 115, 108, 111, 116, 115, 32] ++ putB slots ++ ByteArray.mk #[32, 123, 10] = pre at *
  have hpz : pre.size ≤ 40 := by rw [← hpre]; simp only [ByteArray.size_append]; omega
  have hR3 := szL_le (xs := R.map rowS) (n := 32 + 70 * 10000) (fun x hx => by obtain ⟨r, hr, rfl⟩ := List.mem_map.1 hx; have := rowS_size r; have := hRm r hr; omega)
  rw [List.length_map] at hR3
  have hR4 : R.length * (32 + 70 * 10000) ≤ 10000 * (32 + 70 * 10000) := Nat.mul_le_mul_right _ (by omega)
  unfold N24.l5'
  refine loopS_of (fun s : Int × ByteArray => ∃ i : Nat, s.1 = i ∧ i ≤ R.length ∧ s.2 = pre ++ catB ((R.take i).map rowS)) (fun s => R.length - s.1.toNat) ?_ ⟨0, rfl, Nat.zero_le _, by rw [List.take_zero, List.map_nil, catB_nil]; simp⟩
  rintro again ⟨x, b⟩ ⟨i, f1, hi, f2⟩ hag
  simp only at f1 f2 hag
  subst f1
  unfold N24.l5 N24.j17' N24.j17
  dsimp only
  have g1 := catB_size ((R.take i).map rowS)
  have g2 : szL ((R.take i).map rowS) ≤ szL (R.map rowS) := by rw [List.map_take]; exact szL_take _ _
  have hbz : b.size ≤ 8000000000 := by rw [f2, ByteArray.size_append]; omega
  refine br_of (fun hlt => ?_) (fun hge => ?_)
  · have hlt := lenlt.1 hlt
    have hrm : R.getD i [] ∈ R := getD_memA hlt
    have hr0 := hpos hrm
    have hrl := hRm _ hrm
    simp only [Int.toNat_natCast]
    generalize hr : R.getD i [] = r at *
    have hrp : 0 < r.length := List.length_pos_iff.2 hr0
    have okr : ∀ s ∈ r, segOk s := fun s hs => ok s (hmem hrm hs)
    refine ⟨inBk hlt, inBk hrp, vreg_s _ (okr _ (getD_memA (d := dS) hrp)).1 _ ?_⟩
    have z1 := putB_size (r.getD 0 dS).1
    refine ⟨by rw [ByteArray.size_append]; show _ + (1 + (putB (r.getD 0 dS).1).size) ≤ _; omega, ?_, ws_b ?_ ?_⟩
    · simp only [ByteArray.size_append]; show (_ + (_ + (putB (r.getD 0 dS).1).size)) + _ ≤ _; omega
    · simp only [ByteArray.size_append]; show _ + ((_ + (_ + (putB (r.getD 0 dS).1).size)) + _) ≤ _; omega
    · have hj := szL_le (xs := r.map segS) (n := 70) (fun x hx => by obtain ⟨s, _, rfl⟩ := List.mem_map.1 hx; have := segS_size s; omega)
      rw [List.length_map] at hj
      generalize hhead : ByteArray.mk #[32, 32] ++ (ByteArray.mk #[37] ++ putB (r.getD 0 dS).1) ++ ByteArray.mk #[58, 32] = head at *
      have hhz : head.size ≤ 30 := by rw [← hhead]; simp only [ByteArray.size_append]; omega
      unfold N24.l9'
      refine loopS_of (fun s : Int × ByteArray => ∃ j : Nat, s.1 = j ∧ j ≤ r.length ∧ s.2 = b ++ head ++ joinB ((r.take j).map segS) cbB) (fun s => r.length - s.1.toNat) ?_ ⟨0, rfl, Nat.zero_le _, by rw [List.take_zero, List.map_nil, joinB_nil]; simp⟩
      rintro again2 ⟨x, b2⟩ ⟨j, f3, hj2, f4⟩ hag2
      simp only at f3 f4 hag2
      subst f3
      unfold N24.l9 N24.j13' N24.j13 N24.j14' N24.j14 N24.j15' N24.j15 N24.j16' N24.j16
      dsimp only
      have g3 := joinB_size (sep := cbB) (by show (2 : Nat) ≤ 2; omega) ((r.take j).map segS)
      have g4 : szL ((r.take j).map segS) ≤ szL (r.map segS) := by rw [List.map_take]; exact szL_take _ _
      have hb2z : b2.size ≤ 8000000000 + 30 + 70 * 10000 := by rw [f4, ByteArray.size_append, ByteArray.size_append]; omega
      refine br_of (fun hlt2 => ?_) (fun hge2 => ?_)
      · have hlt2 := lenlt.1 hlt2
        have hs := joinB_snoc cbB ((r.take j).map segS) (segS (r.getD j dS))
        rw [← take_map_snoc (d := dS) hlt2] at hs
        have z2 := segS_size (r.getD j dS)
        have oks := okr _ (getD_memA (d := dS) hlt2)
        simp only [Int.toNat_natCast]
        rw [wrap_id (by omega) (by omega)]
        refine ⟨inBk hlt2, br_of (fun hp => ?_) (fun hz => ?_)⟩
        · have hp : 0 < j := by simp at hp; omega
          refine ws_b (by omega) (seg_s (r.getD j dS) oks _ (ws_b ?_ (hag2 _ ⟨j + 1, by simp, by omega, ?_⟩ (by simp only; omega))))
          · rw [ByteArray.size_append]; omega
          · rw [if_neg (by intro e; have := congrArg List.length e; rw [List.length_map, List.length_take, List.length_nil] at this; omega)] at hs
            rw [hs, f4]
            simp only [ByteArray.append_assoc]
            rfl
        · have hz : j = 0 := by simp at hz; omega
          subst hz
          refine seg_s (r.getD 0 dS) oks _ (ws_b (by omega) (hag2 _ ⟨1, by simp, by omega, ?_⟩ (by simp only; omega)))
          rw [List.take_zero, List.map_nil, if_pos rfl] at hs
          rw [hs, f4, List.take_zero, List.map_nil, joinB_nil, ByteArray.append_empty]
      · have hge2 : j = r.length := by simp at hge2; omega
        subst hge2
        refine ws_b (by omega) ?_
        rw [wrap_id (by omega) (by omega)]
        refine hag _ ⟨i + 1, by simp, by omega, ?_⟩ (by simp only; omega)
        rw [take_map_snoc (d := []) hlt, catB_snoc, hr, f4, f2, List.take_length]
        unfold rowS
        rw [← hhead]
        simp only [ByteArray.append_assoc]
  · have hge : i = R.length := by simp at hge; omega
    subst hge
    refine ws_b (by omega) (bs_b ?_)
    rw [f2, List.take_length]
    exact h
theorem target_s (r0 r1 : Int) (c0 c1 : List Int) (slots : Int) (h0 : in64 r0) (h1 : in64 r1) (hs : in64 slots) (l0 : c0.length ≤ 10000) (l1 : c1.length ≤ 10000) (i0 : ∀ x ∈ c0, in64 x) (i1 : ∀ x ∈ c1, in64 x) (k : ByteArray → Prop) (h : k (targetS r0 r1 c0 c1 slots)) : N22.f r0 r1 c0 c1 slots k := by
  rw [N22.f_def]
  unfold N22.f0 N22.c N22.l3'
  have e3 : (ByteArray.mk #[59, 10]).size = 2 := rfl
  have fin : ∀ ws : List ByteArray, szL ws ≤ 100000000 → joinB ws (ByteArray.mk #[32]) ++ ByteArray.mk #[59, 10] = targetS r0 r1 c0 c1 slots → N22.j16' ws k := by
    intro ws hz he
    unfold N22.j16' N22.j16
    have hj := joinB_size (sep := ByteArray.mk #[32]) (by show (1 : Nat) ≤ 2; omega) ws
    refine jn_of (by show (1 : Nat) ≤ 2; omega) (by omega) ⟨by omega, ?_⟩
    rw [he]; exact h
  refine loopS_of (fun s : Int × List ByteArray => s = (0, [ByteArray.mk #[116, 97, 114, 103, 101, 116]]) ∨ s = (1, [ByteArray.mk #[116, 97, 114, 103, 101, 116], ByteArray.mk #[103], putB r0]) ∨ s = (2, [ByteArray.mk #[116, 97, 114, 103, 101, 116], ByteArray.mk #[103], putB r0, ByteArray.mk #[120], putB r1])) (fun s => (2 - s.1).toNat) ?_ (.inl rfl)
  rintro again s hst hag
  unfold N22.l3 N22.j7' N22.j7
  dsimp only
  rcases hst with rfl | rfl | rfl
  · have d1 : decide ((0 : Int) < 2) = true := by decide
    have d2 : decide ((0 : Int) = ((0 : Nat) : Int)) = true := by decide
    simp only [d1, d2, br_true]
    refine letter_s _ _ (put_b _ h0 _ ⟨by unfold room; simp, ?_⟩)
    exact hag _ (.inr (.inl rfl)) (by show (2 - IntKind.i64.wrap (0 + 1)).toNat < (2 - 0 : Int).toNat; decide)
  · have d1 : decide ((1 : Int) < 2) = true := by decide
    have d2 : decide ((1 : Int) = ((0 : Nat) : Int)) = false := by decide
    have d3 : decide ((1 : Int) = ((1 : Nat) : Int)) = true := by decide
    simp only [d1, d2, d3, br_true, br_false]
    refine letter_s _ _ (put_b _ h1 _ ⟨by unfold room; simp, ?_⟩)
    exact hag _ (.inr (.inr rfl)) (by show (2 - IntKind.i64.wrap (1 + 1)).toNat < (2 - 1 : Int).toNat; decide)
  · have d1 : decide ((2 : Int) < 2) = false := by decide
    simp only [d1, br_false]
    refine put_b _ hs _ ⟨by unfold room; simp, spoilt_s _ _ _ _ _ (by omega) _ ?_⟩
    have z0 := putB_size r0
    have z1 := putB_size r1
    have z2 := putB_size slots
    have base : szL [ByteArray.mk #[116, 97, 114, 103, 101, 116], ByteArray.mk #[103], putB r0, ByteArray.mk #[120], putB r1, ByteArray.mk #[115, 108, 111, 116, 115], putB slots] ≤ 1000 := by
      simp only [szL, List.map_cons, List.map_nil, List.sum_cons, List.sum_nil]
      have a1 : (ByteArray.mk #[116, 97, 114, 103, 101, 116]).size = 6 := rfl
      have a2 : (ByteArray.mk #[103]).size = 1 := rfl
      have a3 : (ByteArray.mk #[120]).size = 1 := rfl
      have a4 : (ByteArray.mk #[115, 108, 111, 116, 115]).size = 5 := rfl
      omega
    have hT : targetS r0 r1 c0 c1 slots = joinB (wordsS r0 r1 c0 c1 slots) (ByteArray.mk #[32]) ++ ByteArray.mk #[59, 10] := rfl
    unfold wordsS at hT
    have hL : (locs 0 c0 ++ locs 1 c1).length ≤ 20000 := by simp [locs]; omega
    have hI : ∀ x ∈ locs 0 c0 ++ locs 1 c1, in64 x.2.2 := by
      intro x hx
      rcases List.mem_append.1 hx with hx | hx
      · obtain ⟨y, hy, rfl⟩ := List.mem_map.1 hx; exact i0 y hy
      · obtain ⟨y, hy, rfl⟩ := List.mem_map.1 hx; exact i1 y hy
    generalize locs 0 c0 ++ locs 1 c1 = L at *
    refine br_of (fun hp => ⟨by unfold room; simp, ?_⟩) (fun hz => ?_)
    · have hp : 0 < L.length := by have := of_decide_eq_true hp; omega
      rw [if_neg (List.length_pos_iff.1 hp)] at hT
      have hz := szL_le (xs := L.map fun x => nameI x.1 x.2.1 x.2.2) (n := 25) (fun x hx => by obtain ⟨s, _, rfl⟩ := List.mem_map.1 hx; have := nameI_size s.1 s.2.1 s.2.2; omega)
      rw [List.length_map] at hz
      unfold N22.l12'
      refine loopS_of (fun s : Int × List ByteArray × List (Int × (Int × Int)) => ∃ i : Nat, s.1 = i ∧ i ≤ L.length ∧ s.2.2 = L ∧ s.2.1 = [ByteArray.mk #[116, 97, 114, 103, 101, 116], ByteArray.mk #[103], putB r0, ByteArray.mk #[120], putB r1, ByteArray.mk #[115, 108, 111, 116, 115], putB slots] ++ (ByteArray.mk #[99, 108, 111, 98, 98, 101, 114] :: (L.take i).map fun x => nameI x.1 x.2.1 x.2.2)) (fun s => L.length - s.1.toNat) ?_ ⟨0, rfl, Nat.zero_le _, rfl, rfl⟩
      rintro again2 ⟨x, b, L2⟩ ⟨i, f1, hi, f2, f3⟩ hag2
      simp only at f1 f2 f3 hag2
      subst f1; subst f2; subst f3
      unfold N22.l12
      dsimp only
      refine br_of (fun hlt => ?_) (fun hge => ?_)
      · have hlt := lenlt.1 hlt
        simp only [Int.toNat_natCast]
        refine ⟨inBk hlt, name_s _ _ _ (hI _ (getD_memA (d := (0, (0, 0))) hlt)) _ ⟨by unfold room; simp; omega, ?_⟩⟩
        rw [wrap_id (by omega) (by omega)]
        refine hag2 _ ⟨i + 1, by simp, by omega, rfl, ?_⟩ (by simp only; omega)
        rw [take_map_snoc (d := (0, (0, 0))) hlt]
        simp
      · have hge : i = L2.length := by simp at hge; omega
        subst hge
        rw [List.take_length]
        refine fin _ ?_ hT.symm
        rw [szL_append]
        have : szL (ByteArray.mk #[99, 108, 111, 98, 98, 101, 114] :: L2.map fun x => nameI x.1 x.2.1 x.2.2) = 9 + szL (L2.map fun x => nameI x.1 x.2.1 x.2.2) := by
          unfold szL; rw [List.map_cons, List.sum_cons]; rfl
        omega
    · have hz : L = [] := by simpa using hz
      rw [if_pos hz, List.append_nil] at hT
      exact fin _ (Nat.le_trans base (by omega)) hT.symm
theorem nworks_s (k : Bool → Prop) (h : k true) : N19.f k := by
  rw [N19.f_def]
  unfold N19.f0 N19.c
  have I : ∀ n : Int, -1000 ≤ n → n ≤ 1000 → in64 n := fun n a b => ⟨by omega, by omega⟩
  refine target_s 8 4 [1] [0] 64 (I _ (by omega) (by omega)) (I _ (by omega) (by omega)) (I _ (by omega) (by omega)) (by simp) (by simp) (by simp; exact I _ (by omega) (by omega)) (by simp; exact I _ (by omega) (by omega)) _ ?_
  have t1 : beqS (targetS 8 4 [1] [0] 64) (ByteArray.mk #[116, 97, 114, 103, 101, 116, 32, 103, 32, 56, 32, 120, 32, 52, 32, 115, 108, 111, 116, 115, 32, 54, 52, 32, 99, 108, 111, 98, 98, 101, 114, 32, 36, 103, 49, 32, 36, 120, 48, 59, 10]) = true := by decide +kernel
  rw [t1, br_true]
  refine seg_s (2, (0, (4, (2, (0, 1))))) ⟨I _ (by decide) (by decide), I _ (by decide) (by decide), I _ (by decide) (by decide), I _ (by decide) (by decide), I _ (by decide) (by decide), I _ (by decide) (by decide)⟩ _ ?_
  have t2 : beqS (segS (2, (0, (4, (2, (0, 1)))))) (ByteArray.mk #[48, 46, 46, 52, 32, 36, 103, 49]) = true := by decide +kernel
  rw [t2, br_true]
  refine alloc_s 1 _ (I _ (by omega) (by omega)) (by simp) ?_ _ ?_
  · intro s hs
    simp only [List.mem_cons, List.not_mem_nil, or_false] at hs
    rcases hs with rfl | rfl
    · exact ⟨I _ (by decide) (by decide), I _ (by decide) (by decide), I _ (by decide) (by decide), I _ (by decide) (by decide), I _ (by decide) (by decide), I _ (by decide) (by decide)⟩
    · exact ⟨I _ (by decide) (by decide), I _ (by decide) (by decide), I _ (by decide) (by decide), I _ (by decide) (by decide), I _ (by decide) (by decide), I _ (by decide) (by decide)⟩
  have t3 : beqS (allocS 1 [(2, (0, (4, (2, (0, 1))))), (2, (4, (9, (3, (0, 0)))))]) (ByteArray.mk #[97, 108, 108, 111, 99, 32, 115, 108, 111, 116, 115, 32, 49, 32, 123, 10, 32, 32, 37, 50, 58, 32, 48, 46, 46, 52, 32, 36, 103, 49, 44, 32, 52, 46, 46, 57, 32, 35, 48, 59, 10, 125, 10]) = true := by decide +kernel
  rw [t3, br_true]
  refine call_s _ _ (by decide) (by simp) ?_ _ ?_
  · intro x hx
    simp only [List.mem_cons, List.not_mem_nil, or_false] at hx
    rcases hx with rfl | rfl
    · exact I _ (by decide) (by decide)
    · exact I _ (by decide) (by decide)
  have t4 : beqS (callS (ByteArray.mk #[102]) [1, -2]) (ByteArray.mk #[102, 40, 49, 44, 32, 45, 50, 41]) = true := by decide +kernel
  rw [t4]
  exact h
end Go.Proofs.Yh

namespace Go.Proofs.Yh
open Go Go.Aw Go.Proofs
set_option maxRecDepth 100000
set_option maxHeartbeats 4000000
namespace N23
noncomputable def cfg : Cfg := { P := Try.prog, ty := tys, E := tab [(34, N34.ent), (46, N46.ent)], atSeq := tab [(4, ⟨[(1, .keep), (3, .keep)]⟩), (11, ⟨[(3, .keep)]⟩), (6, ⟨[(1, .keep), (3, .keep), (4, .keep)]⟩)], atLoop := tab [(5, ⟨[(1, .keep), (3, .keep), (4, .keep)]⟩), (8, ⟨[(1, .keep), (3, .keep), (4, .keep), (5, .keep)]⟩)], outs := [], eqT := tab [], bT := tab [], fzB := [1] }
noncomputable def body : Code := bodyOf Try.f23
def j4 (l5 : Int → Int → LI → LI → Int → BA → Int → Prop) (x1_0 x1_1 : Int) (x1_2 x1_3 : LI) (x1_4 : Int) (x3 : BA) (k : BA → Prop) : Prop :=
  (l5 x1_0 x1_1 x1_2 x1_3 x1_4 x3 (0 : Int))
def l5 (l8 : Int → Int → LI → LI → Int → BA → Int → Int → Prop) (j11 : BA → Prop) (x1_0 x1_1 : Int) (x1_2 x1_3 : LI) (x1_4 : Int) (x3 : BA) (x4 : Int) (k : BA → Prop) : Prop :=
  (br (decide (x4 < (2 : Int))) (l8 x1_0 x1_1 x1_2 x1_3 x1_4 x3 x4 (0 : Int)) (j11 x3))
def l8 (j6 : Int → Int → LI → LI → Int → BA → Int → Prop) (ag8 : BA → Int → Prop) (x1_0 x1_1 : Int) (x1_2 x1_3 : LI) (x1_4 : Int) (x3 : BA) (x4 x5 : Int) (k : BA → Prop) : Prop :=
  (br (decide (x4 = ((0 : Nat) : Int))) (br (decide (x5 < ((((x1_2).length : Nat) : Int)))) (((x3).size + ((ByteArray.mk #[32])).size ≤ 9223372036854775807) ∧ (br (decide (x4 = ((0 : Nat) : Int))) ((inB 0 x5 ((((x1_2).length : Nat) : Int) - 1)) ∧ (N46.f (2 : Int) x4 (x1_2.getD (Int.toNat x5) (0)) (fun (y0_3 : BA) => ((((x3 ++ (ByteArray.mk #[32]))).size + (y0_3).size ≤ 9223372036854775807) ∧ (ag8 ((x3 ++ (ByteArray.mk #[32])) ++ y0_3) (IntKind.i64.wrap (x5 + (1 : Int)))))))) (br (decide (x4 = ((1 : Nat) : Int))) ((inB 0 x5 ((((x1_3).length : Nat) : Int) - 1)) ∧ (N46.f (2 : Int) x4 (x1_3.getD (Int.toNat x5) (0)) (fun (y0_4 : BA) => ((((x3 ++ (ByteArray.mk #[32]))).size + (y0_4).size ≤ 9223372036854775807) ∧ (ag8 ((x3 ++ (ByteArray.mk #[32])) ++ y0_4) (IntKind.i64.wrap (x5 + (1 : Int)))))))) False))) (j6 x1_0 x1_1 x1_2 x1_3 x1_4 x3 x4)) (br (decide (x4 = ((1 : Nat) : Int))) (br (decide (x5 < ((((x1_3).length : Nat) : Int)))) (((x3).size + ((ByteArray.mk #[32])).size ≤ 9223372036854775807) ∧ (br (decide (x4 = ((0 : Nat) : Int))) ((inB 0 x5 ((((x1_2).length : Nat) : Int) - 1)) ∧ (N46.f (2 : Int) x4 (x1_2.getD (Int.toNat x5) (0)) (fun (y0_5 : BA) => ((((x3 ++ (ByteArray.mk #[32]))).size + (y0_5).size ≤ 9223372036854775807) ∧ (ag8 ((x3 ++ (ByteArray.mk #[32])) ++ y0_5) (IntKind.i64.wrap (x5 + (1 : Int)))))))) (br (decide (x4 = ((1 : Nat) : Int))) ((inB 0 x5 ((((x1_3).length : Nat) : Int) - 1)) ∧ (N46.f (2 : Int) x4 (x1_3.getD (Int.toNat x5) (0)) (fun (y0_6 : BA) => ((((x3 ++ (ByteArray.mk #[32]))).size + (y0_6).size ≤ 9223372036854775807) ∧ (ag8 ((x3 ++ (ByteArray.mk #[32])) ++ y0_6) (IntKind.i64.wrap (x5 + (1 : Int)))))))) False))) (j6 x1_0 x1_1 x1_2 x1_3 x1_4 x3 x4)) False))
def j11 (x3 : BA) (k : BA → Prop) : Prop :=
  (((x3).size + ((ByteArray.mk #[59, 10])).size ≤ 9223372036854775807) ∧ (k (x3 ++ (ByteArray.mk #[59, 10]))))
def j6 (ag5 : BA → Int → Prop) (x1_0 x1_1 : Int) (x1_2 x1_3 : LI) (x1_4 : Int) (x3 : BA) (x4 : Int) (k : BA → Prop) : Prop :=
  (ag5 x3 (IntKind.i64.wrap (x4 + (1 : Int))))
def c (j4 : Int → Int → LI → LI → Int → BA → Prop) (x0_0_0 x0_0_1 : Int) (x0_1_0 x0_1_1 : LI) (x0_2 : Int) (k : BA → Prop) : Prop :=
  (N34.f x0_0_0 (fun (y0_0 : BA) => ((((ByteArray.mk #[116, 97, 114, 103, 101, 116, 32, 103, 32])).size + (y0_0).size ≤ 9223372036854775807) ∧ (((((ByteArray.mk #[116, 97, 114, 103, 101, 116, 32, 103, 32]) ++ y0_0)).size + ((ByteArray.mk #[32, 120, 32])).size ≤ 9223372036854775807) ∧ (N34.f x0_0_1 (fun (y0_1 : BA) => ((((((ByteArray.mk #[116, 97, 114, 103, 101, 116, 32, 103, 32]) ++ y0_0) ++ (ByteArray.mk #[32, 120, 32]))).size + (y0_1).size ≤ 9223372036854775807) ∧ (((((((ByteArray.mk #[116, 97, 114, 103, 101, 116, 32, 103, 32]) ++ y0_0) ++ (ByteArray.mk #[32, 120, 32])) ++ y0_1)).size + ((ByteArray.mk #[32, 115, 108, 111, 116, 115, 32])).size ≤ 9223372036854775807) ∧ (N34.f x0_2 (fun (y0_2 : BA) => ((((((((ByteArray.mk #[116, 97, 114, 103, 101, 116, 32, 103, 32]) ++ y0_0) ++ (ByteArray.mk #[32, 120, 32])) ++ y0_1) ++ (ByteArray.mk #[32, 115, 108, 111, 116, 115, 32]))).size + (y0_2).size ≤ 9223372036854775807) ∧ (br (decide ((IntKind.i64.wrap (((((x0_1_0).length : Nat) : Int)) + ((((x0_1_1).length : Nat) : Int)))) > (0 : Int))) (((((((((ByteArray.mk #[116, 97, 114, 103, 101, 116, 32, 103, 32]) ++ y0_0) ++ (ByteArray.mk #[32, 120, 32])) ++ y0_1) ++ (ByteArray.mk #[32, 115, 108, 111, 116, 115, 32])) ++ y0_2)).size + ((ByteArray.mk #[32, 99, 108, 111, 98, 98, 101, 114])).size ≤ 9223372036854775807) ∧ (j4 x0_0_0 x0_0_1 x0_1_0 x0_1_1 x0_2 (((((((ByteArray.mk #[116, 97, 114, 103, 101, 116, 32, 103, 32]) ++ y0_0) ++ (ByteArray.mk #[32, 120, 32])) ++ y0_1) ++ (ByteArray.mk #[32, 115, 108, 111, 116, 115, 32])) ++ y0_2) ++ (ByteArray.mk #[32, 99, 108, 111, 98, 98, 101, 114])))) (j4 x0_0_0 x0_0_1 x0_1_0 x0_1_1 x0_2 ((((((ByteArray.mk #[116, 97, 114, 103, 101, 116, 32, 103, 32]) ++ y0_0) ++ (ByteArray.mk #[32, 120, 32])) ++ y0_1) ++ (ByteArray.mk #[32, 115, 108, 111, 116, 115, 32])) ++ y0_2))))))))))))))
def j11' (x3 : BA) (k : BA → Prop) : Prop := j11 x3 k
def j6' (ag5 : BA → Int → Prop) (x1_0 x1_1 : Int) (x1_2 x1_3 : LI) (x1_4 : Int) (x3 : BA) (x4 : Int) (k : BA → Prop) : Prop := j6 ag5 x1_0 x1_1 x1_2 x1_3 x1_4 x3 x4 k
def l8' (ag5 : BA → Int → Prop) (x1_0 x1_1 : Int) (x1_2 x1_3 : LI) (x1_4 : Int) (x3 : BA) (x4 x5 : Int) (k : BA → Prop) : Prop := ∃ n, loopS (fun (ag : (BA × Int) → Prop) (s : BA × Int) => l8 (fun x1_0 x1_1 x1_2 x1_3 x1_4 x3 x4 => j6' ag5 x1_0 x1_1 x1_2 x1_3 x1_4 x3 x4 k) (fun x3 x5 => ag (x3, x5)) x1_0 x1_1 x1_2 x1_3 x1_4 s.1 x4 s.2 k) n (x3, x5)
def l5' (x1_0 x1_1 : Int) (x1_2 x1_3 : LI) (x1_4 : Int) (x3 : BA) (x4 : Int) (k : BA → Prop) : Prop := ∃ n, loopS (fun (ag : (BA × Int) → Prop) (s : BA × Int) => l5 (fun x1_0 x1_1 x1_2 x1_3 x1_4 x3 x4 x5 => l8' (fun x3 x4 => ag (x3, x4)) x1_0 x1_1 x1_2 x1_3 x1_4 x3 x4 x5 k) (fun x3 => j11' x3 k) x1_0 x1_1 x1_2 x1_3 x1_4 s.1 s.2 k) n (x3, x4)
def j4' (x1_0 x1_1 : Int) (x1_2 x1_3 : LI) (x1_4 : Int) (x3 : BA) (k : BA → Prop) : Prop := j4 (fun x1_0 x1_1 x1_2 x1_3 x1_4 x3 x4 => l5' x1_0 x1_1 x1_2 x1_3 x1_4 x3 x4 k) x1_0 x1_1 x1_2 x1_3 x1_4 x3 k
def f0 (x0_0_0 x0_0_1 : Int) (x0_1_0 x0_1_1 : LI) (x0_2 : Int) (k : BA → Prop) : Prop := c (fun x1_0 x1_1 x1_2 x1_3 x1_4 x3 => j4' x1_0 x1_1 x1_2 x1_3 x1_4 x3 k) x0_0_0 x0_0_1 x0_1_0 x0_1_1 x0_2 k
theorem f_ex : ∃ g, g = f0 := ⟨_, rfl⟩
noncomputable def f := Classical.choose f_ex
theorem f_def : f = f0 := Classical.choose_spec f_ex
def m4 (x1_0 x1_1 : Int) (x1_2 x1_3 : LI) (x1_4 : Int) (x3 : BA) : St := { tmps := mkT 62 0 [(1, (.fp [(.v (.int .i64 x1_0)), (.v (.int .i64 x1_1)), (.fz Zy2 x1_2), (.fz Zy2 x1_3), (.v (.int .i64 x1_4))])), (3, (.v (.string x3)))], hp := [], m := 0 }
def mL5 (x1_0 x1_1 : Int) (x1_2 x1_3 : LI) (x1_4 : Int) (x3 : BA) (x4 : Int) : St := { tmps := mkT 62 0 [(1, (.fp [(.v (.int .i64 x1_0)), (.v (.int .i64 x1_1)), (.fz Zy2 x1_2), (.fz Zy2 x1_3), (.v (.int .i64 x1_4))])), (3, (.v (.string x3))), (4, (.v (.int .i64 x4)))], hp := [], m := 0 }
def mL8 (x1_0 x1_1 : Int) (x1_2 x1_3 : LI) (x1_4 : Int) (x3 : BA) (x4 x5 : Int) : St := { tmps := mkT 62 0 [(1, (.fp [(.v (.int .i64 x1_0)), (.v (.int .i64 x1_1)), (.fz Zy2 x1_2), (.fz Zy2 x1_3), (.v (.int .i64 x1_4))])), (3, (.v (.string x3))), (4, (.v (.int .i64 x4))), (5, (.v (.int .i64 x5)))], hp := [], m := 0 }
def m11 (x3 : BA) : St := { tmps := mkT 62 0 [(3, (.v (.string x3)))], hp := [], m := 0 }
def m6 (x1_0 x1_1 : Int) (x1_2 x1_3 : LI) (x1_4 : Int) (x3 : BA) (x4 : Int) : St := { tmps := mkT 62 0 [(1, (.fp [(.v (.int .i64 x1_0)), (.v (.int .i64 x1_1)), (.fz Zy2 x1_2), (.fz Zy2 x1_3), (.v (.int .i64 x1_4))])), (3, (.v (.string x3))), (4, (.v (.int .i64 x4)))], hp := [], m := 0 }
noncomputable def X4 (k kp : KT) : St → Prop := atP cfg (pick none' []) [1, 1, 1] body (topK cfg Try.f23 k kp)
noncomputable def YL5 (k kp : KT) : (St → Prop) → St → Prop := loopB cfg (sub [1, 1, 1, 0, 1, 0, 0] body) (contK cfg (pick none' []) [1, 1, 1, 0, 1, 0] body (topK cfg Try.f23 k kp))
noncomputable def XL5 (k kp : KT) : St → Prop := fun st => ∃ n, loopN (YL5 k kp) n st
noncomputable def YL8 (k kp : KT) (ag5 : St → Prop) : (St → Prop) → St → Prop := loopB cfg (sub [1, 1, 1, 0, 1, 0, 0, 1, 0, 0, 1, 0, 0] body) (contK cfg (pick none' [(5, ag5)]) [1, 1, 1, 0, 1, 0, 0, 1, 0, 0, 1, 0] body (topK cfg Try.f23 k kp))
noncomputable def XL8 (k kp : KT) (ag5 : St → Prop) : St → Prop := fun st => ∃ n, loopN (YL8 k kp ag5) n st
noncomputable def X11 (k kp : KT) : St → Prop := atP cfg (pick none' []) [1, 1, 1, 1] body (topK cfg Try.f23 k kp)
noncomputable def X6 (k kp : KT) (ag5 : St → Prop) : St → Prop := atP cfg (pick none' [(5, ag5)]) [1, 1, 1, 0, 1, 0, 0, 1, 1] body (topK cfg Try.f23 k kp)
noncomputable def JJ (k kp : KT) : Nat → St → Prop := pick none' [(4, X4 k kp), (11, X11 k kp)]
noncomputable def LL (k kp : KT) : Nat → St → Prop := pick none' [(5, XL5 k kp)]
noncomputable def JJ_5 (k kp : KT) (ag5 : St → Prop) : Nat → St → Prop := pick none' [(4, X4 k kp), (11, X11 k kp), (6, X6 k kp ag5)]
noncomputable def LL_5 (k kp : KT) (ag5 : St → Prop) : Nat → St → Prop := pick none' [(5, XL5 k kp), (8, XL8 k kp ag5)]
noncomputable def JJ_5_8 (k kp : KT) (ag5 : St → Prop) (ag8 : St → Prop) : Nat → St → Prop := pick none' [(4, X4 k kp), (11, X11 k kp), (6, X6 k kp ag5)]
noncomputable def LL_5_8 (k kp : KT) (ag5 : St → Prop) (ag8 : St → Prop) : Nat → St → Prop := pick none' [(5, XL5 k kp), (8, XL8 k kp ag5)]
theorem j11_c (k kp : KT) (J L : Nat → St → Prop) (x3 : BA) : runC cfg 11 J L (pick none' []) [1, 1, 1, 1] body (topK cfg Try.f23 k kp) (m11 x3) = j11 x3 (fun y0 => k (.v (.string y0)) []) := by kernel_rfl
theorem j11_ag (k kp : KT) : agPL cfg 11 (JJ k kp) (LL k kp) [1, 1, 1, 1] body = agPR cfg 11 (pick none' []) [1, 1, 1, 1] body (topK cfg Try.f23 k kp) := by kernel_rfl
theorem j11_raw (k kp : KT) (x3 : BA) : X11 k kp (m11 x3) = j11 x3 (fun y0 => k (.v (.string y0)) []) :=
  Eq.mp (by kernel_rfl) ((atP_run (j11_ag k kp) (m11 x3)).trans (j11_c k kp (JJ k kp) (LL k kp) x3))
theorem j11_eq (k kp : KT) (x3 : BA) : X11 k kp (m11 x3) = j11' x3 (fun y0 => k (.v (.string y0)) []) := by
  rw [j11_raw]; rfl
theorem j6_c (k kp : KT) (J L : Nat → St → Prop) (ag5 : St → Prop) (x1_0 x1_1 : Int) (x1_2 x1_3 : LI) (x1_4 : Int) (x3 : BA) (x4 : Int) : runC cfg 6 J L (pick none' [(5, ag5)]) [1, 1, 1, 0, 1, 0, 0, 1, 1] body (topK cfg Try.f23 k kp) (m6 x1_0 x1_1 x1_2 x1_3 x1_4 x3 x4) = j6 (fun x3 x4 => ag5 (mL5 x1_0 x1_1 x1_2 x1_3 x1_4 x3 x4)) x1_0 x1_1 x1_2 x1_3 x1_4 x3 x4 (fun y0 => k (.v (.string y0)) []) := by kernel_rfl
theorem j6_ag (k kp : KT) (ag5 : St → Prop) : agPL cfg 6 (JJ_5 k kp ag5) (LL_5 k kp ag5) [1, 1, 1, 0, 1, 0, 0, 1, 1] body = agPR cfg 6 (pick none' [(5, ag5)]) [1, 1, 1, 0, 1, 0, 0, 1, 1] body (topK cfg Try.f23 k kp) := by kernel_rfl
theorem j6_raw (k kp : KT) (ag5 : St → Prop) (x1_0 x1_1 : Int) (x1_2 x1_3 : LI) (x1_4 : Int) (x3 : BA) (x4 : Int) : X6 k kp ag5 (m6 x1_0 x1_1 x1_2 x1_3 x1_4 x3 x4) = j6 (fun x3 x4 => ag5 (mL5 x1_0 x1_1 x1_2 x1_3 x1_4 x3 x4)) x1_0 x1_1 x1_2 x1_3 x1_4 x3 x4 (fun y0 => k (.v (.string y0)) []) :=
  Eq.mp (by kernel_rfl) ((atP_run (j6_ag k kp ag5) (m6 x1_0 x1_1 x1_2 x1_3 x1_4 x3 x4)).trans (j6_c k kp (JJ_5 k kp ag5) (LL_5 k kp ag5) ag5 x1_0 x1_1 x1_2 x1_3 x1_4 x3 x4))
theorem j6_eq (k kp : KT) (ag5 : St → Prop) (x1_0 x1_1 : Int) (x1_2 x1_3 : LI) (x1_4 : Int) (x3 : BA) (x4 : Int) : X6 k kp ag5 (m6 x1_0 x1_1 x1_2 x1_3 x1_4 x3 x4) = j6' (fun x3 x4 => ag5 (mL5 x1_0 x1_1 x1_2 x1_3 x1_4 x3 x4)) x1_0 x1_1 x1_2 x1_3 x1_4 x3 x4 (fun y0 => k (.v (.string y0)) []) := by
  rw [j6_raw]; rfl
theorem l8_c (k kp : KT) (J L : Nat → St → Prop) (ag5 : St → Prop) (ag8 : St → Prop) (x1_0 x1_1 : Int) (x1_2 x1_3 : LI) (x1_4 : Int) (x3 : BA) (x4 x5 : Int) : runC cfg 1000001 J L (pick none' [(5, ag5), (8, ag8)]) [1, 1, 1, 0, 1, 0, 0, 1, 0, 0, 1, 0, 0] body (topK cfg Try.f23 k kp) (mL8 x1_0 x1_1 x1_2 x1_3 x1_4 x3 x4 x5) = l8 (fun x1_0 x1_1 x1_2 x1_3 x1_4 x3 x4 => J 6 (m6 x1_0 x1_1 x1_2 x1_3 x1_4 x3 x4)) (fun x3 x5 => ag8 (mL8 x1_0 x1_1 x1_2 x1_3 x1_4 x3 x4 x5)) x1_0 x1_1 x1_2 x1_3 x1_4 x3 x4 x5 (fun y0 => k (.v (.string y0)) []) := by kernel_rfl
theorem l8_ag (k kp : KT) (ag5 : St → Prop) (ag8 : St → Prop) : agPL cfg 1000001 (JJ_5_8 k kp ag5 ag8) (LL_5_8 k kp ag5 ag8) [1, 1, 1, 0, 1, 0, 0, 1, 0, 0, 1, 0, 0] body = agPR cfg 1000001 (pick none' [(5, ag5), (8, ag8)]) [1, 1, 1, 0, 1, 0, 0, 1, 0, 0, 1, 0, 0] body (topK cfg Try.f23 k kp) := by kernel_rfl
theorem l8_raw (k kp : KT) (ag5 : St → Prop) (ag8 : St → Prop) (x1_0 x1_1 : Int) (x1_2 x1_3 : LI) (x1_4 : Int) (x3 : BA) (x4 x5 : Int) : YL8 k kp ag5 ag8 (mL8 x1_0 x1_1 x1_2 x1_3 x1_4 x3 x4 x5) = l8 (fun x1_0 x1_1 x1_2 x1_3 x1_4 x3 x4 => X6 k kp ag5 (m6 x1_0 x1_1 x1_2 x1_3 x1_4 x3 x4)) (fun x3 x5 => ag8 (mL8 x1_0 x1_1 x1_2 x1_3 x1_4 x3 x4 x5)) x1_0 x1_1 x1_2 x1_3 x1_4 x3 x4 x5 (fun y0 => k (.v (.string y0)) []) :=
  Eq.mp (by kernel_rfl) ((atP_run (l8_ag k kp ag5 ag8) (mL8 x1_0 x1_1 x1_2 x1_3 x1_4 x3 x4 x5)).trans (l8_c k kp (JJ_5_8 k kp ag5 ag8) (LL_5_8 k kp ag5 ag8) ag5 ag8 x1_0 x1_1 x1_2 x1_3 x1_4 x3 x4 x5))
theorem l8_eq (k kp : KT) (ag5 : St → Prop) (x1_0 x1_1 : Int) (x1_2 x1_3 : LI) (x1_4 : Int) (x3 : BA) (x4 x5 : Int) : XL8 k kp ag5 (mL8 x1_0 x1_1 x1_2 x1_3 x1_4 x3 x4 x5) = l8' (fun x3 x4 => ag5 (mL5 x1_0 x1_1 x1_2 x1_3 x1_4 x3 x4)) x1_0 x1_1 x1_2 x1_3 x1_4 x3 x4 x5 (fun y0 => k (.v (.string y0)) []) :=
  loop_eq (mk := fun (s : BA × Int) => mL8 x1_0 x1_1 x1_2 x1_3 x1_4 s.1 x4 s.2) (fun again s => by rw [l8_raw k kp ag5 again x1_0 x1_1 x1_2 x1_3 x1_4 s.1 x4 s.2]; simp only [j6_eq]; first | done | rfl) (x3, x5)
theorem l5_c (k kp : KT) (J L : Nat → St → Prop) (ag5 : St → Prop) (x1_0 x1_1 : Int) (x1_2 x1_3 : LI) (x1_4 : Int) (x3 : BA) (x4 : Int) : runC cfg 1000001 J L (pick none' [(5, ag5)]) [1, 1, 1, 0, 1, 0, 0] body (topK cfg Try.f23 k kp) (mL5 x1_0 x1_1 x1_2 x1_3 x1_4 x3 x4) = l5 (fun x1_0 x1_1 x1_2 x1_3 x1_4 x3 x4 x5 => L 8 (mL8 x1_0 x1_1 x1_2 x1_3 x1_4 x3 x4 x5)) (fun x3 => J 11 (m11 x3)) x1_0 x1_1 x1_2 x1_3 x1_4 x3 x4 (fun y0 => k (.v (.string y0)) []) := by kernel_rfl
theorem l5_ag (k kp : KT) (ag5 : St → Prop) : agPL cfg 1000001 (JJ_5 k kp ag5) (LL_5 k kp ag5) [1, 1, 1, 0, 1, 0, 0] body = agPR cfg 1000001 (pick none' [(5, ag5)]) [1, 1, 1, 0, 1, 0, 0] body (topK cfg Try.f23 k kp) := by kernel_rfl
theorem l5_raw (k kp : KT) (ag5 : St → Prop) (x1_0 x1_1 : Int) (x1_2 x1_3 : LI) (x1_4 : Int) (x3 : BA) (x4 : Int) : YL5 k kp ag5 (mL5 x1_0 x1_1 x1_2 x1_3 x1_4 x3 x4) = l5 (fun x1_0 x1_1 x1_2 x1_3 x1_4 x3 x4 x5 => XL8 k kp ag5 (mL8 x1_0 x1_1 x1_2 x1_3 x1_4 x3 x4 x5)) (fun x3 => X11 k kp (m11 x3)) x1_0 x1_1 x1_2 x1_3 x1_4 x3 x4 (fun y0 => k (.v (.string y0)) []) :=
  Eq.mp (by kernel_rfl) ((atP_run (l5_ag k kp ag5) (mL5 x1_0 x1_1 x1_2 x1_3 x1_4 x3 x4)).trans (l5_c k kp (JJ_5 k kp ag5) (LL_5 k kp ag5) ag5 x1_0 x1_1 x1_2 x1_3 x1_4 x3 x4))
theorem l5_eq (k kp : KT) (x1_0 x1_1 : Int) (x1_2 x1_3 : LI) (x1_4 : Int) (x3 : BA) (x4 : Int) : XL5 k kp (mL5 x1_0 x1_1 x1_2 x1_3 x1_4 x3 x4) = l5' x1_0 x1_1 x1_2 x1_3 x1_4 x3 x4 (fun y0 => k (.v (.string y0)) []) :=
  loop_eq (mk := fun (s : BA × Int) => mL5 x1_0 x1_1 x1_2 x1_3 x1_4 s.1 s.2) (fun again s => by rw [l5_raw k kp again x1_0 x1_1 x1_2 x1_3 x1_4 s.1 s.2]; simp only [l8_eq, j11_eq]; first | done | rfl) (x3, x4)
theorem j4_c (k kp : KT) (J L : Nat → St → Prop) (x1_0 x1_1 : Int) (x1_2 x1_3 : LI) (x1_4 : Int) (x3 : BA) : runC cfg 4 J L (pick none' []) [1, 1, 1] body (topK cfg Try.f23 k kp) (m4 x1_0 x1_1 x1_2 x1_3 x1_4 x3) = j4 (fun x1_0 x1_1 x1_2 x1_3 x1_4 x3 x4 => L 5 (mL5 x1_0 x1_1 x1_2 x1_3 x1_4 x3 x4)) x1_0 x1_1 x1_2 x1_3 x1_4 x3 (fun y0 => k (.v (.string y0)) []) := by kernel_rfl
theorem j4_ag (k kp : KT) : agPL cfg 4 (JJ k kp) (LL k kp) [1, 1, 1] body = agPR cfg 4 (pick none' []) [1, 1, 1] body (topK cfg Try.f23 k kp) := by kernel_rfl
theorem j4_raw (k kp : KT) (x1_0 x1_1 : Int) (x1_2 x1_3 : LI) (x1_4 : Int) (x3 : BA) : X4 k kp (m4 x1_0 x1_1 x1_2 x1_3 x1_4 x3) = j4 (fun x1_0 x1_1 x1_2 x1_3 x1_4 x3 x4 => XL5 k kp (mL5 x1_0 x1_1 x1_2 x1_3 x1_4 x3 x4)) x1_0 x1_1 x1_2 x1_3 x1_4 x3 (fun y0 => k (.v (.string y0)) []) :=
  Eq.mp (by kernel_rfl) ((atP_run (j4_ag k kp) (m4 x1_0 x1_1 x1_2 x1_3 x1_4 x3)).trans (j4_c k kp (JJ k kp) (LL k kp) x1_0 x1_1 x1_2 x1_3 x1_4 x3))
theorem j4_eq (k kp : KT) (x1_0 x1_1 : Int) (x1_2 x1_3 : LI) (x1_4 : Int) (x3 : BA) : X4 k kp (m4 x1_0 x1_1 x1_2 x1_3 x1_4 x3) = j4' x1_0 x1_1 x1_2 x1_3 x1_4 x3 (fun y0 => k (.v (.string y0)) []) := by
  rw [j4_raw]; simp only [l5_eq]; first | done | rfl
theorem c_c (k kp : KT) (J L : Nat → St → Prop) (x0_0_0 x0_0_1 : Int) (x0_1_0 x0_1_1 : LI) (x0_2 : Int) : runC cfg 1000001 J L none'' [] body (topK cfg Try.f23 k kp) (st0 Try.f23 [(.agg [(.v (.int .i64 x0_0_0)), (.v (.int .i64 x0_0_1)), (.fz Zy2 x0_1_0), (.fz Zy2 x0_1_1), (.v (.int .i64 x0_2))])] []) = c (fun x1_0 x1_1 x1_2 x1_3 x1_4 x3 => J 4 (m4 x1_0 x1_1 x1_2 x1_3 x1_4 x3)) x0_0_0 x0_0_1 x0_1_0 x0_1_1 x0_2 (fun y0 => k (.v (.string y0)) []) := by kernel_rfl
theorem c_ag (k kp : KT) : agPL cfg 1000001 (JJ k kp) (LL k kp) [] body = agPR cfg 1000001 none'' [] body (topK cfg Try.f23 k kp) := by kernel_rfl
theorem body_is : Try.f23.body = some body := by kernel_rfl
theorem c_raw (k kp : KT) (x0_0_0 x0_0_1 : Int) (x0_1_0 x0_1_1 : LI) (x0_2 : Int) : funW cfg Try.f23 [(.agg [(.v (.int .i64 x0_0_0)), (.v (.int .i64 x0_0_1)), (.fz Zy2 x0_1_0), (.fz Zy2 x0_1_1), (.v (.int .i64 x0_2))])] [] k kp = c (fun x1_0 x1_1 x1_2 x1_3 x1_4 x3 => X4 k kp (m4 x1_0 x1_1 x1_2 x1_3 x1_4 x3)) x0_0_0 x0_0_1 x0_1_0 x0_1_1 x0_2 (fun y0 => k (.v (.string y0)) []) :=
  Eq.mp (by kernel_rfl) ((funW_run (AG := none'') body_is (c_ag k kp) [(.agg [(.v (.int .i64 x0_0_0)), (.v (.int .i64 x0_0_1)), (.fz Zy2 x0_1_0), (.fz Zy2 x0_1_1), (.v (.int .i64 x0_2))])] []).trans (c_c k kp (JJ k kp) (LL k kp) x0_0_0 x0_0_1 x0_1_0 x0_1_1 x0_2))
theorem f_eq (k kp : KT) (x0_0_0 x0_0_1 : Int) (x0_1_0 x0_1_1 : LI) (x0_2 : Int) : funW cfg Try.f23 [(.agg [(.v (.int .i64 x0_0_0)), (.v (.int .i64 x0_0_1)), (.fz Zy2 x0_1_0), (.fz Zy2 x0_1_1), (.v (.int .i64 x0_2))])] [] k kp = f x0_0_0 x0_0_1 x0_1_0 x0_1_1 x0_2 (fun y0 => k (.v (.string y0)) []) := by
  rw [f_def, c_raw]; simp only [j4_eq]; first | done | rfl
noncomputable def ent0 : Entry := fun args blks k _ => match args, blks with
  | [d0], [] => aAgg 5 d0 fun l => aCons l fun d0_0 l => aCons l fun d0_1 l => aCons l fun d0_2 l => aCons l fun d0_3 l => aCons l fun d0_4 l => aNil l (aInt IntKind.i64 d0_0 fun x0_0_0 => aInt IntKind.i64 d0_1 fun x0_0_1 => aFz Zy2 d0_2 fun x0_1_0 => aFz Zy2 d0_3 fun x0_1_1 => aInt IntKind.i64 d0_4 fun x0_2 => f x0_0_0 x0_0_1 x0_1_0 x0_1_1 x0_2 (fun y0 => k (.v (.string y0)) []))
  | _, _ => False
noncomputable def ent : Entry := fun args blks k kp => ent0 (convB [.cells [none, none, some Zy2, some Zy2, none]] args) blks k kp
theorem ok : EntOk Try.prog 0 0 23 ent := by
  refine EntOk.convB (EntOk.of (funW_ok (cfg := cfg) (tyOk_of rfl rfl tyL_ok) (eqOk_of (P := Try.prog) rfl rfl (by kernel_rfl)) mixed_ok (tab_ok ?_) Try.func23 (by rfl) (by rfl)) ?_) _
  · intro p hp
    simp only [List.mem_cons, List.not_mem_nil, or_false] at hp
    rcases hp with rfl | rfl
    · exact N34.ok
    · exact N46.ok
  · intro args blks k kp h k' kp'
    match args, blks, h with
    | [d0], [], h =>
    dsimp only [ent0] at h
    have h9 := aAgg_elim h; clear h; obtain ⟨_, rfl, h⟩ := h9
    have h9 := aCons_elim h; clear h; obtain ⟨d0_0, _, rfl, h⟩ := h9
    have h9 := aCons_elim h; clear h; obtain ⟨d0_1, _, rfl, h⟩ := h9
    have h9 := aCons_elim h; clear h; obtain ⟨d0_2, _, rfl, h⟩ := h9
    have h9 := aCons_elim h; clear h; obtain ⟨d0_3, _, rfl, h⟩ := h9
    have h9 := aCons_elim h; clear h; obtain ⟨d0_4, _, rfl, h⟩ := h9
    have h9 := aNil_elim h; clear h; obtain ⟨rfl, h⟩ := h9
    have h9 := aInt_elim h; clear h; obtain ⟨x0_0_0, rfl, h⟩ := h9
    have h9 := aInt_elim h; clear h; obtain ⟨x0_0_1, rfl, h⟩ := h9
    have h9 := aFz_elim (t := Zy2) h; clear h; obtain ⟨x0_1_0, rfl, h⟩ := h9
    have h9 := aFz_elim (t := Zy2) h; clear h; obtain ⟨x0_1_1, rfl, h⟩ := h9
    have h9 := aInt_elim h; clear h; obtain ⟨x0_2, rfl, h⟩ := h9
    exact (f_eq k' kp' x0_0_0 x0_0_1 x0_1_0 x0_1_1 x0_2).symm
end N23
end Go.Proofs.Yh

namespace Go.Proofs.Yh
open Go Go.Aw Go.Proofs
set_option maxRecDepth 100000
set_option maxHeartbeats 4000000
namespace N25
noncomputable def cfg : Cfg := { P := Try.prog, ty := tys, E := tab [(34, N34.ent), (46, N46.ent)], atSeq := tab [(2000007, ⟨[(1, .keep), (3, .keep), (4, .keep), (5, .keep), (36, .keep)]⟩), (12, ⟨[(3, .keep)]⟩), (8, ⟨[(1, .keep), (3, .keep), (4, .keep), (5, .keep)]⟩), (2000010, ⟨[(1, .keep), (3, .keep), (4, .keep), (76, .keep)]⟩), (4, ⟨[(1, .keep), (3, .keep), (4, .keep)]⟩)], atLoop := tab [(3, ⟨[(1, .keep), (3, .keep), (4, .keep)]⟩)], outs := [], eqT := tab [], bT := tab [], fzB := [1] }
noncomputable def body : Code := bodyOf Try.f25
def l3 (j2000007 : Int → Zq3 → BA → Int → Bool → Int → Int → Int → Int → Int → Int → Prop) (j12 : BA → Prop) (x1_0 : Int) (x1_1 : Zq3) (x3 : BA) (x4 : Int) (k : BA → Prop) : Prop :=
  (br (decide (x4 < ((((x1_1).length : Nat) : Int)))) ((inB 0 x4 ((((x1_1).length : Nat) : Int) - 1)) ∧ (br (x4 == (0 : Int)) (j2000007 x1_0 x1_1 x3 x4 true (x1_1.getD (Int.toNat x4) ((0, (0, (0, (0, (0, 0))))))).1 (x1_1.getD (Int.toNat x4) ((0, (0, (0, (0, (0, 0))))))).2.1 (x1_1.getD (Int.toNat x4) ((0, (0, (0, (0, (0, 0))))))).2.2.1 (x1_1.getD (Int.toNat x4) ((0, (0, (0, (0, (0, 0))))))).2.2.2.1 (x1_1.getD (Int.toNat x4) ((0, (0, (0, (0, (0, 0))))))).2.2.2.2.1 (x1_1.getD (Int.toNat x4) ((0, (0, (0, (0, (0, 0))))))).2.2.2.2.2) ((inB 0 (IntKind.i64.wrap (x4 - (1 : Int))) ((((x1_1).length : Nat) : Int) - 1)) ∧ (j2000007 x1_0 x1_1 x3 x4 ((x1_1.getD (Int.toNat (IntKind.i64.wrap (x4 - (1 : Int)))) ((0, (0, (0, (0, (0, 0))))))).1 != (x1_1.getD (Int.toNat x4) ((0, (0, (0, (0, (0, 0))))))).1) (x1_1.getD (Int.toNat x4) ((0, (0, (0, (0, (0, 0))))))).1 (x1_1.getD (Int.toNat x4) ((0, (0, (0, (0, (0, 0))))))).2.1 (x1_1.getD (Int.toNat x4) ((0, (0, (0, (0, (0, 0))))))).2.2.1 (x1_1.getD (Int.toNat x4) ((0, (0, (0, (0, (0, 0))))))).2.2.2.1 (x1_1.getD (Int.toNat x4) ((0, (0, (0, (0, (0, 0))))))).2.2.2.2.1 (x1_1.getD (Int.toNat x4) ((0, (0, (0, (0, (0, 0))))))).2.2.2.2.2)))) (j12 x3))
def j2000007 (j8 : Int → Zq3 → BA → Int → Int → Int → Int → Int → Int → Int → Prop) (x1_0 : Int) (x1_1 : Zq3) (x3 : BA) (x4 : Int) (x36 : Bool) (b0_0 b0_1 : Int) (b0_2 b0_3 : Int) (b0_4 b0_5 : Int) (k : BA → Prop) : Prop :=
  (br x36 (((x3).size + ((ByteArray.mk #[32, 32, 37])).size ≤ 9223372036854775807) ∧ (N34.f b0_0 (fun (y0_1 : BA) => ((((x3 ++ (ByteArray.mk #[32, 32, 37]))).size + (y0_1).size ≤ 9223372036854775807) ∧ (((((x3 ++ (ByteArray.mk #[32, 32, 37])) ++ y0_1)).size + ((ByteArray.mk #[58, 32])).size ≤ 9223372036854775807) ∧ (j8 x1_0 x1_1 (((x3 ++ (ByteArray.mk #[32, 32, 37])) ++ y0_1) ++ (ByteArray.mk #[58, 32])) x4 b0_0 b0_1 b0_2 b0_3 b0_4 b0_5)))))) (j8 x1_0 x1_1 x3 x4 b0_0 b0_1 b0_2 b0_3 b0_4 b0_5))
def j12 (x3 : BA) (k : BA → Prop) : Prop :=
  (((x3).size + ((ByteArray.mk #[125, 10])).size ≤ 9223372036854775807) ∧ (k (x3 ++ (ByteArray.mk #[125, 10]))))
def j8 (j2000010 : Int → Zq3 → BA → Int → Bool → Prop) (x1_0 : Int) (x1_1 : Zq3) (x3 : BA) (x4 b0_0 : Int) (b0_1 b0_2 : Int) (b0_3 b0_4 b0_5 : Int) (k : BA → Prop) : Prop :=
  (N34.f b0_1 (fun (y0_2 : BA) => (((x3).size + (y0_2).size ≤ 9223372036854775807) ∧ ((((x3 ++ y0_2)).size + ((ByteArray.mk #[46, 46])).size ≤ 9223372036854775807) ∧ (N34.f b0_2 (fun (y0_3 : BA) => (((((x3 ++ y0_2) ++ (ByteArray.mk #[46, 46]))).size + (y0_3).size ≤ 9223372036854775807) ∧ ((((((x3 ++ y0_2) ++ (ByteArray.mk #[46, 46])) ++ y0_3)).size + ((ByteArray.mk #[32])).size ≤ 9223372036854775807) ∧ (N46.f b0_3 b0_4 b0_5 (fun (y0_4 : BA) => (((((((x3 ++ y0_2) ++ (ByteArray.mk #[46, 46])) ++ y0_3) ++ (ByteArray.mk #[32]))).size + (y0_4).size ≤ 9223372036854775807) ∧ (br (x4 == (IntKind.i64.wrap (((((x1_1).length : Nat) : Int)) - (1 : Int)))) (j2000010 x1_0 x1_1 (((((x3 ++ y0_2) ++ (ByteArray.mk #[46, 46])) ++ y0_3) ++ (ByteArray.mk #[32])) ++ y0_4) x4 true) ((inB 0 (IntKind.i64.wrap (x4 + (1 : Int))) ((((x1_1).length : Nat) : Int) - 1)) ∧ (j2000010 x1_0 x1_1 (((((x3 ++ y0_2) ++ (ByteArray.mk #[46, 46])) ++ y0_3) ++ (ByteArray.mk #[32])) ++ y0_4) x4 ((x1_1.getD (Int.toNat (IntKind.i64.wrap (x4 + (1 : Int)))) ((0, (0, (0, (0, (0, 0))))))).1 != b0_0)))))))))))))))
def j2000010 (j4 : Int → Zq3 → BA → Int → Prop) (x1_0 : Int) (x1_1 : Zq3) (x3 : BA) (x4 : Int) (x76 : Bool) (k : BA → Prop) : Prop :=
  (br x76 (((x3).size + ((ByteArray.mk #[59, 10])).size ≤ 9223372036854775807) ∧ (j4 x1_0 x1_1 (x3 ++ (ByteArray.mk #[59, 10])) x4)) (((x3).size + ((ByteArray.mk #[44, 32])).size ≤ 9223372036854775807) ∧ (j4 x1_0 x1_1 (x3 ++ (ByteArray.mk #[44, 32])) x4)))
def j4 (ag3 : BA → Int → Prop) (x1_0 : Int) (x1_1 : Zq3) (x3 : BA) (x4 : Int) (k : BA → Prop) : Prop :=
  (ag3 x3 (IntKind.i64.wrap (x4 + (1 : Int))))
def c (l3 : Int → Zq3 → BA → Int → Prop) (x0_0 : Int) (x0_1 : Zq3) (k : BA → Prop) : Prop :=
  (N34.f x0_0 (fun (y0_0 : BA) => ((((ByteArray.mk #[97, 108, 108, 111, 99, 32, 115, 108, 111, 116, 115, 32])).size + (y0_0).size ≤ 9223372036854775807) ∧ (((((ByteArray.mk #[97, 108, 108, 111, 99, 32, 115, 108, 111, 116, 115, 32]) ++ y0_0)).size + ((ByteArray.mk #[32, 123, 10])).size ≤ 9223372036854775807) ∧ (l3 x0_0 x0_1 (((ByteArray.mk #[97, 108, 108, 111, 99, 32, 115, 108, 111, 116, 115, 32]) ++ y0_0) ++ (ByteArray.mk #[32, 123, 10])) (0 : Int))))))
def j12' (x3 : BA) (k : BA → Prop) : Prop := j12 x3 k
def j4' (ag3 : BA → Int → Prop) (x1_0 : Int) (x1_1 : Zq3) (x3 : BA) (x4 : Int) (k : BA → Prop) : Prop := j4 ag3 x1_0 x1_1 x3 x4 k
def j2000010' (ag3 : BA → Int → Prop) (x1_0 : Int) (x1_1 : Zq3) (x3 : BA) (x4 : Int) (x76 : Bool) (k : BA → Prop) : Prop := j2000010 (fun x1_0 x1_1 x3 x4 => j4' ag3 x1_0 x1_1 x3 x4 k) x1_0 x1_1 x3 x4 x76 k
def j8' (ag3 : BA → Int → Prop) (x1_0 : Int) (x1_1 : Zq3) (x3 : BA) (x4 b0_0 : Int) (b0_1 b0_2 : Int) (b0_3 b0_4 b0_5 : Int) (k : BA → Prop) : Prop := j8 (fun x1_0 x1_1 x3 x4 x76 => j2000010' ag3 x1_0 x1_1 x3 x4 x76 k) x1_0 x1_1 x3 x4 b0_0 b0_1 b0_2 b0_3 b0_4 b0_5 k
def j2000007' (ag3 : BA → Int → Prop) (x1_0 : Int) (x1_1 : Zq3) (x3 : BA) (x4 : Int) (x36 : Bool) (b0_0 b0_1 : Int) (b0_2 b0_3 : Int) (b0_4 b0_5 : Int) (k : BA → Prop) : Prop := j2000007 (fun x1_0 x1_1 x3 x4 b0_0 b0_1 b0_2 b0_3 b0_4 b0_5 => j8' ag3 x1_0 x1_1 x3 x4 b0_0 b0_1 b0_2 b0_3 b0_4 b0_5 k) x1_0 x1_1 x3 x4 x36 b0_0 b0_1 b0_2 b0_3 b0_4 b0_5 k
def l3' (x1_0 : Int) (x1_1 : Zq3) (x3 : BA) (x4 : Int) (k : BA → Prop) : Prop := ∃ n, loopS (fun (ag : (BA × Int) → Prop) (s : BA × Int) => l3 (fun x1_0 x1_1 x3 x4 x36 b0_0 b0_1 b0_2 b0_3 b0_4 b0_5 => j2000007' (fun x3 x4 => ag (x3, x4)) x1_0 x1_1 x3 x4 x36 b0_0 b0_1 b0_2 b0_3 b0_4 b0_5 k) (fun x3 => j12' x3 k) x1_0 x1_1 s.1 s.2 k) n (x3, x4)
def f0 (x0_0 : Int) (x0_1 : Zq3) (k : BA → Prop) : Prop := c (fun x1_0 x1_1 x3 x4 => l3' x1_0 x1_1 x3 x4 k) x0_0 x0_1 k
theorem f_ex : ∃ g, g = f0 := ⟨_, rfl⟩
noncomputable def f := Classical.choose f_ex
theorem f_def : f = f0 := Classical.choose_spec f_ex
def mL3 (x1_0 : Int) (x1_1 : Zq3) (x3 : BA) (x4 : Int) : St := { tmps := mkT 83 0 [(1, (.fp [(.v (.int .i64 x1_0)), (.fz Zy4 x1_1)])), (3, (.v (.string x3))), (4, (.v (.int .i64 x4)))], hp := [], m := 0 }
def m2000007 (x1_0 : Int) (x1_1 : Zq3) (x3 : BA) (x4 : Int) (x36 : Bool) (b0_0 b0_1 : Int) (b0_2 b0_3 : Int) (b0_4 b0_5 : Int) : St := { tmps := mkT 83 0 [(1, (.fp [(.v (.int .i64 x1_0)), (.fz Zy4 x1_1)])), (3, (.v (.string x3))), (4, (.v (.int .i64 x4))), (5, (.ptr 0 0)), (36, (.v (.bool x36)))], hp := [(.box 61 [(.v (.int .i64 b0_0)), (.v (.int .i64 b0_1)), (.v (.int .i64 b0_2)), (.v (.int .i64 b0_3)), (.v (.int .i64 b0_4)), (.v (.int .i64 b0_5))])], m := 0 }
def m12 (x3 : BA) : St := { tmps := mkT 83 0 [(3, (.v (.string x3)))], hp := [], m := 0 }
def m8 (x1_0 : Int) (x1_1 : Zq3) (x3 : BA) (x4 b0_0 : Int) (b0_1 b0_2 : Int) (b0_3 b0_4 b0_5 : Int) : St := { tmps := mkT 83 0 [(1, (.fp [(.v (.int .i64 x1_0)), (.fz Zy4 x1_1)])), (3, (.v (.string x3))), (4, (.v (.int .i64 x4))), (5, (.ptr 0 0))], hp := [(.box 61 [(.v (.int .i64 b0_0)), (.v (.int .i64 b0_1)), (.v (.int .i64 b0_2)), (.v (.int .i64 b0_3)), (.v (.int .i64 b0_4)), (.v (.int .i64 b0_5))])], m := 0 }
def m2000010 (x1_0 : Int) (x1_1 : Zq3) (x3 : BA) (x4 : Int) (x76 : Bool) : St := { tmps := mkT 83 0 [(1, (.fp [(.v (.int .i64 x1_0)), (.fz Zy4 x1_1)])), (3, (.v (.string x3))), (4, (.v (.int .i64 x4))), (76, (.v (.bool x76)))], hp := [], m := 0 }
def m4 (x1_0 : Int) (x1_1 : Zq3) (x3 : BA) (x4 : Int) : St := { tmps := mkT 83 0 [(1, (.fp [(.v (.int .i64 x1_0)), (.fz Zy4 x1_1)])), (3, (.v (.string x3))), (4, (.v (.int .i64 x4)))], hp := [], m := 0 }
noncomputable def YL3 (k kp : KT) : (St → Prop) → St → Prop := loopB cfg (sub [1, 1, 0, 1, 0, 0] body) (contK cfg (pick none' []) [1, 1, 0, 1, 0] body (topK cfg Try.f25 k kp))
noncomputable def XL3 (k kp : KT) : St → Prop := fun st => ∃ n, loopN (YL3 k kp) n st
noncomputable def X2000007 (k kp : KT) (ag3 : St → Prop) : St → Prop := atP cfg (pick none' [(3, ag3)]) [1, 1, 0, 1, 0, 0, 1, 0, 0, 1, 0, 1] body (topK cfg Try.f25 k kp)
noncomputable def X12 (k kp : KT) : St → Prop := atP cfg (pick none' []) [1, 1, 1] body (topK cfg Try.f25 k kp)
noncomputable def X8 (k kp : KT) (ag3 : St → Prop) : St → Prop := atP cfg (pick none' [(3, ag3)]) [1, 1, 0, 1, 0, 0, 1, 0, 0, 1, 1] body (topK cfg Try.f25 k kp)
noncomputable def X2000010 (k kp : KT) (ag3 : St → Prop) : St → Prop := atP cfg (pick none' [(3, ag3)]) [1, 1, 0, 1, 0, 0, 1, 0, 0, 1, 1, 1, 1] body (topK cfg Try.f25 k kp)
noncomputable def X4 (k kp : KT) (ag3 : St → Prop) : St → Prop := atP cfg (pick none' [(3, ag3)]) [1, 1, 0, 1, 0, 0, 1, 1] body (topK cfg Try.f25 k kp)
noncomputable def JJ_3 (k kp : KT) (ag3 : St → Prop) : Nat → St → Prop := pick none' [(2000007, X2000007 k kp ag3), (12, X12 k kp), (8, X8 k kp ag3), (2000010, X2000010 k kp ag3), (4, X4 k kp ag3)]
noncomputable def LL_3 (k kp : KT) (ag3 : St → Prop) : Nat → St → Prop := pick none' [(3, XL3 k kp)]
noncomputable def JJ (k kp : KT) : Nat → St → Prop := pick none' [(12, X12 k kp)]
noncomputable def LL (k kp : KT) : Nat → St → Prop := pick none' [(3, XL3 k kp)]
theorem j12_c (k kp : KT) (J L : Nat → St → Prop) (x3 : BA) : runC cfg 12 J L (pick none' []) [1, 1, 1] body (topK cfg Try.f25 k kp) (m12 x3) = j12 x3 (fun y0 => k (.v (.string y0)) []) := by kernel_rfl
theorem j12_ag (k kp : KT) : agPL cfg 12 (JJ k kp) (LL k kp) [1, 1, 1] body = agPR cfg 12 (pick none' []) [1, 1, 1] body (topK cfg Try.f25 k kp) := by kernel_rfl
theorem j12_raw (k kp : KT) (x3 : BA) : X12 k kp (m12 x3) = j12 x3 (fun y0 => k (.v (.string y0)) []) :=
  Eq.mp (by kernel_rfl) ((atP_run (j12_ag k kp) (m12 x3)).trans (j12_c k kp (JJ k kp) (LL k kp) x3))
theorem j12_eq (k kp : KT) (x3 : BA) : X12 k kp (m12 x3) = j12' x3 (fun y0 => k (.v (.string y0)) []) := by
  rw [j12_raw]; rfl
theorem j4_c (k kp : KT) (J L : Nat → St → Prop) (ag3 : St → Prop) (x1_0 : Int) (x1_1 : Zq3) (x3 : BA) (x4 : Int) : runC cfg 4 J L (pick none' [(3, ag3)]) [1, 1, 0, 1, 0, 0, 1, 1] body (topK cfg Try.f25 k kp) (m4 x1_0 x1_1 x3 x4) = j4 (fun x3 x4 => ag3 (mL3 x1_0 x1_1 x3 x4)) x1_0 x1_1 x3 x4 (fun y0 => k (.v (.string y0)) []) := by kernel_rfl
theorem j4_ag (k kp : KT) (ag3 : St → Prop) : agPL cfg 4 (JJ_3 k kp ag3) (LL_3 k kp ag3) [1, 1, 0, 1, 0, 0, 1, 1] body = agPR cfg 4 (pick none' [(3, ag3)]) [1, 1, 0, 1, 0, 0, 1, 1] body (topK cfg Try.f25 k kp) := by kernel_rfl
theorem j4_raw (k kp : KT) (ag3 : St → Prop) (x1_0 : Int) (x1_1 : Zq3) (x3 : BA) (x4 : Int) : X4 k kp ag3 (m4 x1_0 x1_1 x3 x4) = j4 (fun x3 x4 => ag3 (mL3 x1_0 x1_1 x3 x4)) x1_0 x1_1 x3 x4 (fun y0 => k (.v (.string y0)) []) :=
  Eq.mp (by kernel_rfl) ((atP_run (j4_ag k kp ag3) (m4 x1_0 x1_1 x3 x4)).trans (j4_c k kp (JJ_3 k kp ag3) (LL_3 k kp ag3) ag3 x1_0 x1_1 x3 x4))
theorem j4_eq (k kp : KT) (ag3 : St → Prop) (x1_0 : Int) (x1_1 : Zq3) (x3 : BA) (x4 : Int) : X4 k kp ag3 (m4 x1_0 x1_1 x3 x4) = j4' (fun x3 x4 => ag3 (mL3 x1_0 x1_1 x3 x4)) x1_0 x1_1 x3 x4 (fun y0 => k (.v (.string y0)) []) := by
  rw [j4_raw]; rfl
theorem j2000010_c (k kp : KT) (J L : Nat → St → Prop) (ag3 : St → Prop) (x1_0 : Int) (x1_1 : Zq3) (x3 : BA) (x4 : Int) (x76 : Bool) : runC cfg 2000010 J L (pick none' [(3, ag3)]) [1, 1, 0, 1, 0, 0, 1, 0, 0, 1, 1, 1, 1] body (topK cfg Try.f25 k kp) (m2000010 x1_0 x1_1 x3 x4 x76) = j2000010 (fun x1_0 x1_1 x3 x4 => J 4 (m4 x1_0 x1_1 x3 x4)) x1_0 x1_1 x3 x4 x76 (fun y0 => k (.v (.string y0)) []) := by kernel_rfl
theorem j2000010_ag (k kp : KT) (ag3 : St → Prop) : agPL cfg 2000010 (JJ_3 k kp ag3) (LL_3 k kp ag3) [1, 1, 0, 1, 0, 0, 1, 0, 0, 1, 1, 1, 1] body = agPR cfg 2000010 (pick none' [(3, ag3)]) [1, 1, 0, 1, 0, 0, 1, 0, 0, 1, 1, 1, 1] body (topK cfg Try.f25 k kp) := by kernel_rfl
theorem j2000010_raw (k kp : KT) (ag3 : St → Prop) (x1_0 : Int) (x1_1 : Zq3) (x3 : BA) (x4 : Int) (x76 : Bool) : X2000010 k kp ag3 (m2000010 x1_0 x1_1 x3 x4 x76) = j2000010 (fun x1_0 x1_1 x3 x4 => X4 k kp ag3 (m4 x1_0 x1_1 x3 x4)) x1_0 x1_1 x3 x4 x76 (fun y0 => k (.v (.string y0)) []) :=
  Eq.mp (by kernel_rfl) ((atP_run (j2000010_ag k kp ag3) (m2000010 x1_0 x1_1 x3 x4 x76)).trans (j2000010_c k kp (JJ_3 k kp ag3) (LL_3 k kp ag3) ag3 x1_0 x1_1 x3 x4 x76))
theorem j2000010_eq (k kp : KT) (ag3 : St → Prop) (x1_0 : Int) (x1_1 : Zq3) (x3 : BA) (x4 : Int) (x76 : Bool) : X2000010 k kp ag3 (m2000010 x1_0 x1_1 x3 x4 x76) = j2000010' (fun x3 x4 => ag3 (mL3 x1_0 x1_1 x3 x4)) x1_0 x1_1 x3 x4 x76 (fun y0 => k (.v (.string y0)) []) := by
  rw [j2000010_raw]; simp only [j4_eq]; first | done | rfl
theorem j8_c (k kp : KT) (J L : Nat → St → Prop) (ag3 : St → Prop) (x1_0 : Int) (x1_1 : Zq3) (x3 : BA) (x4 b0_0 : Int) (b0_1 b0_2 : Int) (b0_3 b0_4 b0_5 : Int) : runC cfg 8 J L (pick none' [(3, ag3)]) [1, 1, 0, 1, 0, 0, 1, 0, 0, 1, 1] body (topK cfg Try.f25 k kp) (m8 x1_0 x1_1 x3 x4 b0_0 b0_1 b0_2 b0_3 b0_4 b0_5) = j8 (fun x1_0 x1_1 x3 x4 x76 => J 2000010 (m2000010 x1_0 x1_1 x3 x4 x76)) x1_0 x1_1 x3 x4 b0_0 b0_1 b0_2 b0_3 b0_4 b0_5 (fun y0 => k (.v (.string y0)) []) := by kernel_rfl
theorem j8_ag (k kp : KT) (ag3 : St → Prop) : agPL cfg 8 (JJ_3 k kp ag3) (LL_3 k kp ag3) [1, 1, 0, 1, 0, 0, 1, 0, 0, 1, 1] body = agPR cfg 8 (pick none' [(3, ag3)]) [1, 1, 0, 1, 0, 0, 1, 0, 0, 1, 1] body (topK cfg Try.f25 k kp) := by kernel_rfl
theorem j8_raw (k kp : KT) (ag3 : St → Prop) (x1_0 : Int) (x1_1 : Zq3) (x3 : BA) (x4 b0_0 : Int) (b0_1 b0_2 : Int) (b0_3 b0_4 b0_5 : Int) : X8 k kp ag3 (m8 x1_0 x1_1 x3 x4 b0_0 b0_1 b0_2 b0_3 b0_4 b0_5) = j8 (fun x1_0 x1_1 x3 x4 x76 => X2000010 k kp ag3 (m2000010 x1_0 x1_1 x3 x4 x76)) x1_0 x1_1 x3 x4 b0_0 b0_1 b0_2 b0_3 b0_4 b0_5 (fun y0 => k (.v (.string y0)) []) :=
  Eq.mp (by kernel_rfl) ((atP_run (j8_ag k kp ag3) (m8 x1_0 x1_1 x3 x4 b0_0 b0_1 b0_2 b0_3 b0_4 b0_5)).trans (j8_c k kp (JJ_3 k kp ag3) (LL_3 k kp ag3) ag3 x1_0 x1_1 x3 x4 b0_0 b0_1 b0_2 b0_3 b0_4 b0_5))
theorem j8_eq (k kp : KT) (ag3 : St → Prop) (x1_0 : Int) (x1_1 : Zq3) (x3 : BA) (x4 b0_0 : Int) (b0_1 b0_2 : Int) (b0_3 b0_4 b0_5 : Int) : X8 k kp ag3 (m8 x1_0 x1_1 x3 x4 b0_0 b0_1 b0_2 b0_3 b0_4 b0_5) = j8' (fun x3 x4 => ag3 (mL3 x1_0 x1_1 x3 x4)) x1_0 x1_1 x3 x4 b0_0 b0_1 b0_2 b0_3 b0_4 b0_5 (fun y0 => k (.v (.string y0)) []) := by
  rw [j8_raw]; simp only [j2000010_eq]; first | done | rfl
theorem j2000007_c (k kp : KT) (J L : Nat → St → Prop) (ag3 : St → Prop) (x1_0 : Int) (x1_1 : Zq3) (x3 : BA) (x4 : Int) (x36 : Bool) (b0_0 b0_1 : Int) (b0_2 b0_3 : Int) (b0_4 b0_5 : Int) : runC cfg 2000007 J L (pick none' [(3, ag3)]) [1, 1, 0, 1, 0, 0, 1, 0, 0, 1, 0, 1] body (topK cfg Try.f25 k kp) (m2000007 x1_0 x1_1 x3 x4 x36 b0_0 b0_1 b0_2 b0_3 b0_4 b0_5) = j2000007 (fun x1_0 x1_1 x3 x4 b0_0 b0_1 b0_2 b0_3 b0_4 b0_5 => J 8 (m8 x1_0 x1_1 x3 x4 b0_0 b0_1 b0_2 b0_3 b0_4 b0_5)) x1_0 x1_1 x3 x4 x36 b0_0 b0_1 b0_2 b0_3 b0_4 b0_5 (fun y0 => k (.v (.string y0)) []) := by kernel_rfl
theorem j2000007_ag (k kp : KT) (ag3 : St → Prop) : agPL cfg 2000007 (JJ_3 k kp ag3) (LL_3 k kp ag3) [1, 1, 0, 1, 0, 0, 1, 0, 0, 1, 0, 1] body = agPR cfg 2000007 (pick none' [(3, ag3)]) [1, 1, 0, 1, 0, 0, 1, 0, 0, 1, 0, 1] body (topK cfg Try.f25 k kp) := by kernel_rfl
theorem j2000007_raw (k kp : KT) (ag3 : St → Prop) (x1_0 : Int) (x1_1 : Zq3) (x3 : BA) (x4 : Int) (x36 : Bool) (b0_0 b0_1 : Int) (b0_2 b0_3 : Int) (b0_4 b0_5 : Int) : X2000007 k kp ag3 (m2000007 x1_0 x1_1 x3 x4 x36 b0_0 b0_1 b0_2 b0_3 b0_4 b0_5) = j2000007 (fun x1_0 x1_1 x3 x4 b0_0 b0_1 b0_2 b0_3 b0_4 b0_5 => X8 k kp ag3 (m8 x1_0 x1_1 x3 x4 b0_0 b0_1 b0_2 b0_3 b0_4 b0_5)) x1_0 x1_1 x3 x4 x36 b0_0 b0_1 b0_2 b0_3 b0_4 b0_5 (fun y0 => k (.v (.string y0)) []) :=
  Eq.mp (by kernel_rfl) ((atP_run (j2000007_ag k kp ag3) (m2000007 x1_0 x1_1 x3 x4 x36 b0_0 b0_1 b0_2 b0_3 b0_4 b0_5)).trans (j2000007_c k kp (JJ_3 k kp ag3) (LL_3 k kp ag3) ag3 x1_0 x1_1 x3 x4 x36 b0_0 b0_1 b0_2 b0_3 b0_4 b0_5))
theorem j2000007_eq (k kp : KT) (ag3 : St → Prop) (x1_0 : Int) (x1_1 : Zq3) (x3 : BA) (x4 : Int) (x36 : Bool) (b0_0 b0_1 : Int) (b0_2 b0_3 : Int) (b0_4 b0_5 : Int) : X2000007 k kp ag3 (m2000007 x1_0 x1_1 x3 x4 x36 b0_0 b0_1 b0_2 b0_3 b0_4 b0_5) = j2000007' (fun x3 x4 => ag3 (mL3 x1_0 x1_1 x3 x4)) x1_0 x1_1 x3 x4 x36 b0_0 b0_1 b0_2 b0_3 b0_4 b0_5 (fun y0 => k (.v (.string y0)) []) := by
  rw [j2000007_raw]; simp only [j8_eq]; first | done | rfl
theorem l3_c (k kp : KT) (J L : Nat → St → Prop) (ag3 : St → Prop) (x1_0 : Int) (x1_1 : Zq3) (x3 : BA) (x4 : Int) : runC cfg 1000001 J L (pick none' [(3, ag3)]) [1, 1, 0, 1, 0, 0] body (topK cfg Try.f25 k kp) (mL3 x1_0 x1_1 x3 x4) = l3 (fun x1_0 x1_1 x3 x4 x36 b0_0 b0_1 b0_2 b0_3 b0_4 b0_5 => J 2000007 (m2000007 x1_0 x1_1 x3 x4 x36 b0_0 b0_1 b0_2 b0_3 b0_4 b0_5)) (fun x3 => J 12 (m12 x3)) x1_0 x1_1 x3 x4 (fun y0 => k (.v (.string y0)) []) := by kernel_rfl
theorem l3_ag (k kp : KT) (ag3 : St → Prop) : agPL cfg 1000001 (JJ_3 k kp ag3) (LL_3 k kp ag3) [1, 1, 0, 1, 0, 0] body = agPR cfg 1000001 (pick none' [(3, ag3)]) [1, 1, 0, 1, 0, 0] body (topK cfg Try.f25 k kp) := by kernel_rfl
theorem l3_raw (k kp : KT) (ag3 : St → Prop) (x1_0 : Int) (x1_1 : Zq3) (x3 : BA) (x4 : Int) : YL3 k kp ag3 (mL3 x1_0 x1_1 x3 x4) = l3 (fun x1_0 x1_1 x3 x4 x36 b0_0 b0_1 b0_2 b0_3 b0_4 b0_5 => X2000007 k kp ag3 (m2000007 x1_0 x1_1 x3 x4 x36 b0_0 b0_1 b0_2 b0_3 b0_4 b0_5)) (fun x3 => X12 k kp (m12 x3)) x1_0 x1_1 x3 x4 (fun y0 => k (.v (.string y0)) []) :=
  Eq.mp (by kernel_rfl) ((atP_run (l3_ag k kp ag3) (mL3 x1_0 x1_1 x3 x4)).trans (l3_c k kp (JJ_3 k kp ag3) (LL_3 k kp ag3) ag3 x1_0 x1_1 x3 x4))
theorem l3_eq (k kp : KT) (x1_0 : Int) (x1_1 : Zq3) (x3 : BA) (x4 : Int) : XL3 k kp (mL3 x1_0 x1_1 x3 x4) = l3' x1_0 x1_1 x3 x4 (fun y0 => k (.v (.string y0)) []) :=
  loop_eq (mk := fun (s : BA × Int) => mL3 x1_0 x1_1 s.1 s.2) (fun again s => by rw [l3_raw k kp again x1_0 x1_1 s.1 s.2]; simp only [j2000007_eq, j12_eq]; first | done | rfl) (x3, x4)
theorem c_c (k kp : KT) (J L : Nat → St → Prop) (x0_0 : Int) (x0_1 : Zq3) : runC cfg 1000001 J L none'' [] body (topK cfg Try.f25 k kp) (st0 Try.f25 [(.agg [(.v (.int .i64 x0_0)), (.fz Zy4 x0_1)])] []) = c (fun x1_0 x1_1 x3 x4 => L 3 (mL3 x1_0 x1_1 x3 x4)) x0_0 x0_1 (fun y0 => k (.v (.string y0)) []) := by kernel_rfl
theorem c_ag (k kp : KT) : agPL cfg 1000001 (JJ k kp) (LL k kp) [] body = agPR cfg 1000001 none'' [] body (topK cfg Try.f25 k kp) := by kernel_rfl
theorem body_is : Try.f25.body = some body := by kernel_rfl
theorem c_raw (k kp : KT) (x0_0 : Int) (x0_1 : Zq3) : funW cfg Try.f25 [(.agg [(.v (.int .i64 x0_0)), (.fz Zy4 x0_1)])] [] k kp = c (fun x1_0 x1_1 x3 x4 => XL3 k kp (mL3 x1_0 x1_1 x3 x4)) x0_0 x0_1 (fun y0 => k (.v (.string y0)) []) :=
  Eq.mp (by kernel_rfl) ((funW_run (AG := none'') body_is (c_ag k kp) [(.agg [(.v (.int .i64 x0_0)), (.fz Zy4 x0_1)])] []).trans (c_c k kp (JJ k kp) (LL k kp) x0_0 x0_1))
theorem f_eq (k kp : KT) (x0_0 : Int) (x0_1 : Zq3) : funW cfg Try.f25 [(.agg [(.v (.int .i64 x0_0)), (.fz Zy4 x0_1)])] [] k kp = f x0_0 x0_1 (fun y0 => k (.v (.string y0)) []) := by
  rw [f_def, c_raw]; simp only [l3_eq]; first | done | rfl
noncomputable def ent0 : Entry := fun args blks k _ => match args, blks with
  | [d0], [] => aAgg 2 d0 fun l => aCons l fun d0_0 l => aCons l fun d0_1 l => aNil l (aInt IntKind.i64 d0_0 fun x0_0 => aFz Zy4 d0_1 fun x0_1 => f x0_0 x0_1 (fun y0 => k (.v (.string y0)) []))
  | _, _ => False
noncomputable def ent : Entry := fun args blks k kp => ent0 (convB [.cells [none, some Zy4]] args) blks k kp
theorem ok : EntOk Try.prog 0 0 25 ent := by
  refine EntOk.convB (EntOk.of (funW_ok (cfg := cfg) (tyOk_of rfl rfl tyL_ok) (eqOk_of (P := Try.prog) rfl rfl (by kernel_rfl)) mixed_ok (tab_ok ?_) Try.func25 (by rfl) (by rfl)) ?_) _
  · intro p hp
    simp only [List.mem_cons, List.not_mem_nil, or_false] at hp
    rcases hp with rfl | rfl
    · exact N34.ok
    · exact N46.ok
  · intro args blks k kp h k' kp'
    match args, blks, h with
    | [d0], [], h =>
    dsimp only [ent0] at h
    have h9 := aAgg_elim h; clear h; obtain ⟨_, rfl, h⟩ := h9
    have h9 := aCons_elim h; clear h; obtain ⟨d0_0, _, rfl, h⟩ := h9
    have h9 := aCons_elim h; clear h; obtain ⟨d0_1, _, rfl, h⟩ := h9
    have h9 := aNil_elim h; clear h; obtain ⟨rfl, h⟩ := h9
    have h9 := aInt_elim h; clear h; obtain ⟨x0_0, rfl, h⟩ := h9
    have h9 := aFz_elim (t := Zy4) h; clear h; obtain ⟨x0_1, rfl, h⟩ := h9
    exact (f_eq k' kp' x0_0 x0_1).symm
end N25
end Go.Proofs.Yh

namespace Go.Proofs.Yh
open Go Go.Aw Go.Proofs Go.RowKit
theorem joinB_cons (sep x : ByteArray) (xs : List ByteArray) : joinB (x :: xs) sep = x ++ catB (xs.map fun y => sep ++ y) := by
  suffices ∀ (n : Nat) (xs : List ByteArray), xs.length = n → joinB (x :: xs) sep = x ++ catB (xs.map fun y => sep ++ y) from this _ xs rfl
  intro n
  induction n with
  | zero =>
    intro xs h
    rw [List.length_eq_zero_iff.1 h, List.map_nil, catB_nil, ByteArray.append_empty]
    have := joinB_snoc sep [] x
    simpa using this
  | succ n ih =>
    intro xs h
    have hne : xs ≠ [] := by intro e; rw [e] at h; simp at h
    obtain ⟨m, y, rfl⟩ : ∃ m y, xs = m ++ [y] := ⟨xs.dropLast, xs.getLast hne, (List.dropLast_concat_getLast hne).symm⟩
    have ih := ih m (by simpa using h)
    have := joinB_snoc sep (x :: m) y
    rw [if_neg (by simp)] at this
    rw [show x :: (m ++ [y]) = (x :: m) ++ [y] from rfl, this, ih, List.map_append, List.map_singleton, catB_snoc]
    simp only [ByteArray.append_assoc]
theorem catB_append (a b : List ByteArray) : catB (a ++ b) = catB a ++ catB b := by
  suffices ∀ (n : Nat) (b : List ByteArray), b.length = n → catB (a ++ b) = catB a ++ catB b from this _ b rfl
  intro n
  induction n with
  | zero =>
    intro b h
    rw [List.length_eq_zero_iff.1 h, List.append_nil, catB_nil, ByteArray.append_empty]
  | succ n ih =>
    intro b h
    have hne : b ≠ [] := by intro e; rw [e] at h; simp at h
    obtain ⟨m, y, rfl⟩ : ∃ m y, b = m ++ [y] := ⟨b.dropLast, b.getLast hne, (List.dropLast_concat_getLast hne).symm⟩
    rw [← List.append_assoc, catB_snoc, ih m (by simpa using h), catB_snoc, ByteArray.append_assoc]
def nmF (x : Int × (Int × Int)) : ByteArray := ByteArray.mk #[32] ++ nameI x.1 x.2.1 x.2.2
theorem nmF_size (x : Int × (Int × Int)) : (nmF x).size ≤ 24 := by
  unfold nmF
  rw [ByteArray.size_append]
  have := nameI_size x.1 x.2.1 x.2.2
  have e : (ByteArray.mk #[32]).size = 1 := rfl
  omega
def baseT (r0 r1 slots : Int) : ByteArray := ByteArray.mk #[116, 97, 114, 103, 101, 116, 32, 103, 32] ++ putB r0 ++ ByteArray.mk #[32, 120, 32] ++ putB r1 ++ ByteArray.mk #[32, 115, 108, 111, 116, 115, 32] ++ putB slots
theorem lit1 : ByteArray.mk #[116, 97, 114, 103, 101, 116, 32, 103, 32] = ByteArray.mk #[116, 97, 114, 103, 101, 116] ++ (ByteArray.mk #[32] ++ (ByteArray.mk #[103] ++ ByteArray.mk #[32])) := rfl
theorem lit2 : ByteArray.mk #[32, 120, 32] = ByteArray.mk #[32] ++ (ByteArray.mk #[120] ++ ByteArray.mk #[32]) := rfl
theorem lit3 : ByteArray.mk #[32, 115, 108, 111, 116, 115, 32] = ByteArray.mk #[32] ++ (ByteArray.mk #[115, 108, 111, 116, 115] ++ ByteArray.mk #[32]) := rfl
theorem lit4 : ByteArray.mk #[32, 99, 108, 111, 98, 98, 101, 114] = ByteArray.mk #[32] ++ ByteArray.mk #[99, 108, 111, 98, 98, 101, 114] := rfl
theorem target_eq (r0 r1 : Int) (c0 c1 : List Int) (slots : Int) : targetS r0 r1 c0 c1 slots = (if locs 0 c0 ++ locs 1 c1 = [] then baseT r0 r1 slots else baseT r0 r1 slots ++ ByteArray.mk #[32, 99, 108, 111, 98, 98, 101, 114]) ++ catB ((locs 0 c0 ++ locs 1 c1).map nmF) ++ ByteArray.mk #[59, 10] := by
  unfold targetS wordsS
  generalize locs 0 c0 ++ locs 1 c1 = L
  by_cases hL : L = []
  · rw [if_pos hL, if_pos hL, hL, List.append_nil, joinB_cons, List.map_nil, catB_nil]
    unfold baseT
    rw [lit1, lit2, lit3]
    simp only [List.map_cons, List.map_nil]
    rw [show (∀ a b c d e f : ByteArray, catB [a, b, c, d, e, f] = a ++ b ++ c ++ d ++ e ++ f) from fun a b c d e f => by
      rw [show [a, b, c, d, e, f] = [] ++ [a] ++ [b] ++ [c] ++ [d] ++ [e] ++ [f] from rfl, catB_snoc, catB_snoc, catB_snoc, catB_snoc, catB_snoc, catB_snoc, catB_nil, ByteArray.empty_append]]
    simp only [ByteArray.append_assoc, ByteArray.append_empty]
  · rw [if_neg hL, if_neg hL, List.cons_append, joinB_cons]
    unfold baseT
    rw [lit1, lit2, lit3, lit4]
    have em : (L.map fun x => nameI x.1 x.2.1 x.2.2).map (fun y => ByteArray.mk #[32] ++ y) = L.map nmF := by rw [List.map_map]; rfl
    simp only [List.cons_append, List.nil_append, List.map_cons]
    rw [em]
    rw [show (∀ a b c d e f g : ByteArray, ∀ M : List ByteArray, catB (a :: b :: c :: d :: e :: f :: g :: M) = a ++ b ++ c ++ d ++ e ++ f ++ g ++ catB M) from fun a b c d e f g M => by
      rw [show a :: b :: c :: d :: e :: f :: g :: M = ([] ++ [a] ++ [b] ++ [c] ++ [d] ++ [e] ++ [f] ++ [g]) ++ M from rfl, catB_append, catB_snoc, catB_snoc, catB_snoc, catB_snoc, catB_snoc, catB_snoc, catB_snoc, catB_nil, ByteArray.empty_append]]
    simp only [ByteArray.append_assoc]
theorem names_s (ag : ByteArray → Int → Prop) (c : Int) (r0 r1 : Int) (c0 c1 : List Int) (slots : Int) (l : List Int) (hc : (c = 0 ∧ l = c0) ∨ (c = 1 ∧ l = c1)) (hl : l.length ≤ 10000) (hi : ∀ x ∈ l, in64 x) (b : ByteArray) (hb : b.size ≤ 10000000) (k : ByteArray → Prop)
    (h : ag (b ++ catB ((locs c l).map nmF)) (c + 1)) : N23.l8' ag r0 r1 c0 c1 slots b c 0 k := by
  have hz := szL_le (xs := (locs c l).map nmF) (n := 26) (fun x hx => by obtain ⟨s, _, rfl⟩ := List.mem_map.1 hx; have := nmF_size s; omega)
  have hll : (locs c l).length = l.length := by simp [locs]
  rw [List.length_map, hll] at hz
  unfold N23.l8'
  refine loopS_of (fun s : ByteArray × Int => ∃ i : Nat, s.2 = i ∧ i ≤ l.length ∧ s.1 = b ++ catB (((locs c l).take i).map nmF)) (fun s => l.length - s.2.toNat) ?_ ⟨0, rfl, Nat.zero_le _, by rw [List.take_zero, List.map_nil, catB_nil, ByteArray.append_empty]⟩
  rintro again ⟨b2, x⟩ ⟨i, f1, hi2, f2⟩ hag
  simp only at f1 f2 hag
  subst f1
  unfold N23.l8 N23.j6' N23.j6
  dsimp only
  have g1 := catB_size (((locs c l).take i).map nmF)
  have g2 : szL (((locs c l).take i).map nmF) ≤ szL ((locs c l).map nmF) := by rw [List.map_take]; exact szL_take _ _
  have hb2 : b2.size ≤ 10000000 + 260000 := by rw [f2, ByteArray.size_append]; omega
  have e1 : (ByteArray.mk #[32]).size = 1 := rfl
  have fin : ¬ i < l.length → ag b2 (IntKind.i64.wrap (c + 1)) := by
    intro hn
    have : i = l.length := by omega
    rw [List.take_of_length_le (by omega)] at f2
    rw [f2, wrap_id (by omega) (by omega)]
    exact h
  have step : i < l.length → ∀ n : Int, n = l.getD i 0 → N46.f 2 c n (fun y => ((b2 ++ ByteArray.mk #[32]).size + y.size ≤ 9223372036854775807) ∧ again ((b2 ++ ByteArray.mk #[32]) ++ y, w64 ((i : Int) + 1))) := by
    rintro hlt n rfl
    have z := nameI_size 2 c (l.getD i 0)
    refine namer_s _ _ _ (getD_in hi hlt) _ ⟨by rw [ByteArray.size_append]; omega, ?_⟩
    rw [w64_id ⟨by omega, by omega⟩]
    refine hag _ ⟨i + 1, by simp, by omega, ?_⟩ (by simp only; omega)
    have hlt2 : i < (locs c l).length := by omega
    rw [take_map_snoc (d := (2, (c, 0))) hlt2, catB_snoc, f2]
    have : (locs c l).getD i (2, (c, 0)) = (2, (c, l.getD i 0)) := by
      unfold locs
      simp [List.getD, List.getElem?_map, List.getElem?_eq_getElem hlt]
    rw [this]
    simp only [ByteArray.append_assoc]
    rfl
  rcases hc with ⟨rfl, rfl⟩ | ⟨rfl, rfl⟩
  · have d2 : decide ((0 : Int) = ((0 : Nat) : Int)) = true := by decide
    simp only [d2, br_true]
    refine br_of (fun hlt => ?_) (fun hge => fin (by have := of_decide_eq_false hge; omega))
    have hlt := lenlt.1 hlt
    exact ⟨by omega, inBk hlt, step hlt _ (by simp)⟩
  · have d2 : decide ((1 : Int) = ((0 : Nat) : Int)) = false := by decide
    have d3 : decide ((1 : Int) = ((1 : Nat) : Int)) = true := by decide
    simp only [d2, d3, br_true, br_false]
    refine br_of (fun hlt => ?_) (fun hge => fin (by have := of_decide_eq_false hge; omega))
    have hlt := lenlt.1 hlt
    exact ⟨by omega, inBk hlt, step hlt _ (by simp)⟩
theorem targetr_s (r0 r1 : Int) (c0 c1 : List Int) (slots : Int) (h0 : in64 r0) (h1 : in64 r1) (hs : in64 slots) (l0 : c0.length ≤ 10000) (l1 : c1.length ≤ 10000) (i0 : ∀ x ∈ c0, in64 x) (i1 : ∀ x ∈ c1, in64 x) (k : ByteArray → Prop) (h : k (targetS r0 r1 c0 c1 slots)) : N23.f r0 r1 c0 c1 slots k := by
  rw [N23.f_def]
  unfold N23.f0 N23.c
  rw [target_eq] at h
  have z0 := putB_size r0
  have z1 := putB_size r1
  have z2 := putB_size slots
  have a1 : (ByteArray.mk #[116, 97, 114, 103, 101, 116, 32, 103, 32]).size = 9 := rfl
  have a2 : (ByteArray.mk #[32, 120, 32]).size = 3 := rfl
  have a3 : (ByteArray.mk #[32, 115, 108, 111, 116, 115, 32]).size = 7 := rfl
  have a4 : (ByteArray.mk #[32, 99, 108, 111, 98, 98, 101, 114]).size = 8 := rfl
  have a5 : (ByteArray.mk #[59, 10]).size = 2 := rfl
  have hbz : (baseT r0 r1 slots).size ≤ 100 := by unfold baseT; simp only [ByteArray.size_append]; omega
  have go : ∀ b : ByteArray, b.size ≤ 1000 → b ++ catB ((locs 0 c0 ++ locs 1 c1).map nmF) ++ ByteArray.mk #[59, 10] = (if locs 0 c0 ++ locs 1 c1 = [] then baseT r0 r1 slots else baseT r0 r1 slots ++ ByteArray.mk #[32, 99, 108, 111, 98, 98, 101, 114]) ++ catB ((locs 0 c0 ++ locs 1 c1).map nmF) ++ ByteArray.mk #[59, 10] → N23.j4' r0 r1 c0 c1 slots b k := by
    intro b hb he
    unfold N23.j4' N23.j4 N23.l5'
    have hq : ∀ (c : Int) (l : List Int), l.length ≤ 10000 → (catB ((locs c l).map nmF)).size ≤ 260000 := by
      intro c l hl
      have h1 := catB_size ((locs c l).map nmF)
      have hz := szL_le (xs := (locs c l).map nmF) (n := 26) (fun x hx => by obtain ⟨s, _, rfl⟩ := List.mem_map.1 hx; have := nmF_size s; omega)
      rw [List.length_map, show (locs c l).length = l.length by simp [locs]] at hz
      omega
    have q0 := hq 0 c0 l0
    have q1 := hq 1 c1 l1
    refine loopS_of (fun s : ByteArray × Int => s = (b, 0) ∨ s = (b ++ catB ((locs 0 c0).map nmF), 1) ∨ s = (b ++ catB ((locs 0 c0).map nmF) ++ catB ((locs 1 c1).map nmF), 2)) (fun s => (2 - s.2).toNat) ?_ (.inl rfl)
    rintro again s hst hag
    unfold N23.l5 N23.j11' N23.j11
    dsimp only
    rcases hst with rfl | rfl | rfl
    · have d1 : decide ((0 : Int) < 2) = true := by decide
      simp only [d1, br_true]
      refine names_s _ 0 r0 r1 c0 c1 slots c0 (.inl ⟨rfl, rfl⟩) l0 i0 b (by omega) k ?_
      exact hag _ (.inr (.inl rfl)) (by show (2 - (0 + 1) : Int).toNat < (2 - 0 : Int).toNat; decide)
    · have d1 : decide ((1 : Int) < 2) = true := by decide
      simp only [d1, br_true]
      refine names_s _ 1 r0 r1 c0 c1 slots c1 (.inr ⟨rfl, rfl⟩) l1 i1 _ (by rw [ByteArray.size_append]; omega) k ?_
      exact hag _ (.inr (.inr rfl)) (by show (2 - (1 + 1) : Int).toNat < (2 - 1 : Int).toNat; decide)
    · have d1 : decide ((2 : Int) < 2) = false := by decide
      simp only [d1, br_false]
      refine ⟨by rw [ByteArray.size_append, ByteArray.size_append]; omega, ?_⟩
      rw [ByteArray.append_assoc (a := b), ← catB_append, ← List.map_append, he]
      exact h
  refine putr_b _ h0 _ ⟨by omega, by rw [ByteArray.size_append]; omega, putr_b _ h1 _ ⟨?_, ?_, putr_b _ hs _ ⟨?_, ?_⟩⟩⟩
  · simp only [ByteArray.size_append]; omega
  · simp only [ByteArray.size_append]; omega
  · simp only [ByteArray.size_append]; omega
  · have hlen : (locs 0 c0 ++ locs 1 c1 = []) ↔ ¬ (w64 (((c0.length : Nat) : Int) + ((c1.length : Nat) : Int)) > 0) := by
      rw [w64_id ⟨by omega, by omega⟩]
      simp only [List.append_eq_nil_iff, locs, List.map_eq_nil_iff]
      constructor
      · rintro ⟨rfl, rfl⟩; simp
      · intro hh
        exact ⟨List.length_eq_zero_iff.1 (by omega), List.length_eq_zero_iff.1 (by omega)⟩
    show br (decide (w64 (((c0.length : Nat) : Int) + ((c1.length : Nat) : Int)) > 0)) (_ ∧ N23.j4' r0 r1 c0 c1 slots (baseT r0 r1 slots ++ ByteArray.mk #[32, 99, 108, 111, 98, 98, 101, 114]) k) (N23.j4' r0 r1 c0 c1 slots (baseT r0 r1 slots) k)
    refine br_of (fun hp => ⟨?_, go _ (by rw [ByteArray.size_append]; omega) ?_⟩) (fun hz => go _ (by omega) ?_)
    · show (baseT r0 r1 slots).size + _ ≤ _
      omega
    · rw [if_neg (fun hn => hlen.1 hn (of_decide_eq_true hp))]
    · rw [if_pos (hlen.2 (of_decide_eq_false hz))]
end Go.Proofs.Yh

namespace Go.Proofs.Yh
open Go Go.Aw Go.Proofs Go.RowKit
def headS (v : Int) : ByteArray := ByteArray.mk #[32, 32] ++ (ByteArray.mk #[37] ++ putB v) ++ ByteArray.mk #[58, 32]
theorem headS_size (v : Int) : (headS v).size ≤ 26 := by
  unfold headS
  have := putB_size v
  have e4 : (ByteArray.mk #[32, 32]).size = 2 := rfl
  have e5 : (ByteArray.mk #[37]).size = 1 := rfl
  have e6 : (ByteArray.mk #[58, 32]).size = 2 := rfl
  simp only [ByteArray.size_append]; omega
def openT (a : List (List SegT)) (r : List SegT) : ByteArray := catB (a.map rowS) ++ headS (r.getD 0 dS).1 ++ joinB (r.map segS) cbB
theorem openT_close (a : List (List SegT)) (r : List SegT) : openT a r ++ ByteArray.mk #[59, 10] = catB ((a ++ [r]).map rowS) := by
  unfold openT
  rw [List.map_append, List.map_singleton, catB_snoc]
  unfold rowS headS
  simp only [ByteArray.append_assoc]
theorem openT_new (a : List (List SegT)) (s : SegT) : catB (a.map rowS) ++ headS s.1 ++ segS s = openT a [s] := by
  unfold openT
  rw [List.map_singleton, joinB_cons, List.map_nil, catB_nil, ByteArray.append_empty]
  rfl
theorem openT_more (a : List (List SegT)) (r : List SegT) (s : SegT) (hr : r ≠ []) : openT a r ++ cbB ++ segS s = openT a (r ++ [s]) := by
  unfold openT
  rw [List.map_append, List.map_singleton, joinB_snoc, if_neg (by simpa using hr)]
  have : (r ++ [s]).getD 0 dS = r.getD 0 dS := by
    cases r with
    | nil => exact absurd rfl hr
    | cons x r => rfl
  rw [this]
  simp only [ByteArray.append_assoc]
theorem cat_rows_size (R : List (List SegT)) (hR : R.length ≤ 10000) (hm : ∀ r ∈ R, r.length ≤ 10000) : (catB (R.map rowS)).size ≤ 8000000000 := by
  have g1 := catB_size (R.map rowS)
  have hR3 := szL_le (xs := R.map rowS) (n := 32 + 70 * 10000) (fun x hx => by obtain ⟨r, hr, rfl⟩ := List.mem_map.1 hx; have := rowS_size r; have := hm r hr; omega)
  rw [List.length_map] at hR3
  have hR4 : R.length * (32 + 70 * 10000) ≤ 10000 * (32 + 70 * 10000) := Nat.mul_le_mul_right _ (by omega)
  omega
set_option maxHeartbeats 1000000 in
theorem allocr_s (slots : Int) (l : List SegT) (hs : in64 slots) (hl : l.length ≤ 10000) (ok : ∀ s ∈ l, segOk s) (k : ByteArray → Prop) (h : k (allocS slots l)) : N25.f slots l k := by
  rw [N25.f_def]
  unfold N25.f0 N25.c
  have z0 := putB_size slots
  have e1 : (ByteArray.mk #[97, 108, 108, 111, 99, 32, 115, 108, 111, 116, 115, 32]).size = 12 := rfl
  have e2 : (ByteArray.mk #[32, 123, 10]).size = 3 := rfl
  have e3 : (ByteArray.mk #[125, 10]).size = 2 := rfl
  have e4 : (ByteArray.mk #[32, 32, 37]).size = 3 := rfl
  have e6 : (ByteArray.mk #[58, 32]).size = 2 := rfl
  have e7 : (ByteArray.mk #[59, 10]).size = 2 := rfl
  have e8 : (ByteArray.mk #[44, 32]).size = 2 := rfl
  have e9 : (ByteArray.mk #[46, 46]).size = 2 := rfl
  have e0 : (ByteArray.mk #[32]).size = 1 := rfl
  unfold allocS at h
  refine putr_b _ hs _ ⟨by omega, by rw [ByteArray.size_append]; omega, ?_⟩
  generalize hpre : ByteArray.mk #[97, 108, 108, 111, 99, 32, 115, 108, 111, 116, 115, 32] ++ putB slots ++ ByteArray.mk #[32, 123, 10] = pre at *
  have hpz : pre.size ≤ 40 := by rw [← hpre]; simp only [ByteArray.size_append]; omega
  have hsz : ∀ i, (catB ((rowsOf Prod.fst (l.take i)).map rowS)).size ≤ 8000000000 := by
    intro i
    obtain ⟨g1, g2⟩ := rowsOf_len Prod.fst (l.take i)
    rw [List.length_take] at g1 g2
    exact cat_rows_size _ (by omega) (fun r hr => by have := g2 r hr; omega)
  unfold N25.l3'
  refine loopS_of (fun s : ByteArray × Int => ∃ i : Nat, s.2 = i ∧ i ≤ l.length ∧
      ((i = 0 ∨ i = l.length ∨ (l.getD (i - 1) dS).1 ≠ (l.getD i dS).1) → s.1 = pre ++ catB ((rowsOf Prod.fst (l.take i)).map rowS)) ∧
      (¬ (i = 0 ∨ i = l.length ∨ (l.getD (i - 1) dS).1 ≠ (l.getD i dS).1) → ∃ a r, rowsOf Prod.fst (l.take i) = a ++ [r] ∧ r ≠ [] ∧ s.1 = pre ++ (openT a r ++ cbB))) (fun s => l.length - s.2.toNat) ?_
    ⟨0, rfl, Nat.zero_le _, fun _ => by show pre = _; rw [List.take_zero, rowsOf_nil, List.map_nil, catB_nil, ByteArray.append_empty], fun hn => absurd (.inl rfl) hn⟩
  rintro again ⟨b, x⟩ ⟨i, f1, hi, f2, f3⟩ hag
  simp only at f1 f2 f3 hag
  subst f1
  unfold N25.l3 N25.j2000007' N25.j2000007 N25.j12' N25.j12
  dsimp only
  refine br_of (fun hlt => ?_) (fun hge => ?_)
  · have hlt := lenlt.1 hlt
    simp only [Int.toNat_natCast]
    have hoks := ok _ (getD_memA (d := dS) hlt)
    have htk : l.take (i + 1) = l.take i ++ [l.getD i dS] := by
      rw [List.take_succ_eq_append_getElem hlt]; simp [List.getD, List.getElem?_eq_getElem hlt]
    have hsn := rowsOf_snoc Prod.fst (l.take i) (l.getD i dS)
    rw [← htk] at hsn
    have hlast : 0 < i → (l.take i).getLast?.map Prod.fst = some (l.getD (i - 1) dS).1 := by
      intro h0
      have h1 : i - 1 < l.length := by omega
      rw [List.getLast?_eq_getElem?, List.length_take, Nat.min_eq_left (by omega), List.getElem?_take, if_pos (by omega)]
      simp [List.getD, List.getElem?_eq_getElem h1]
    have ewm : 0 < i → IntKind.i64.wrap ((i : Int) - 1) = ((i - 1 : Nat) : Int) := fun h0 => by rw [wrap_id (by omega) (by omega)]; omega
    have ewp : IntKind.i64.wrap ((i : Int) + 1) = ((i + 1 : Nat) : Int) := by rw [wrap_id (by omega) (by omega)]; omega
    have ewl : w64 (((l.length : Nat) : Int) - 1) = ((l.length - 1 : Nat) : Int) := by rw [w64_id ⟨by omega, by omega⟩]; omega
    obtain ⟨_, o1, o2, _, _, o3⟩ := hoks
    have ok0 := (ok _ (getD_memA (d := dS) hlt)).1
    have z1 := putB_size (l.getD i dS).2.1
    have z2 := putB_size (l.getD i dS).2.2.1
    have z3 := nameI_size (l.getD i dS).2.2.2.1 (l.getD i dS).2.2.2.2.1 (l.getD i dS).2.2.2.2.2
    have z4 := putB_size (l.getD i dS).1
    have hsg : segS (l.getD i dS) = putB (l.getD i dS).2.1 ++ ByteArray.mk #[46, 46] ++ putB (l.getD i dS).2.2.1 ++ ByteArray.mk #[32] ++ nameI (l.getD i dS).2.2.2.1 (l.getD i dS).2.2.2.2.1 (l.getD i dS).2.2.2.2.2 := rfl
    have j8go : ∀ (a : List (List SegT)) (r : List SegT) (t0 : ByteArray), r ≠ [] → rowsOf Prod.fst (l.take (i + 1)) = a ++ [r] → t0 ++ segS (l.getD i dS) = pre ++ openT a r → t0.size ≤ 8500000000 →
        N25.j8' (fun x3 x4 => again (x3, x4)) slots l t0 (i : Int) (l.getD i dS).1 (l.getD i dS).2.1 (l.getD i dS).2.2.1 (l.getD i dS).2.2.2.1 (l.getD i dS).2.2.2.2.1 (l.getD i dS).2.2.2.2.2 k := by
      intro a r t0 hr hrow ht0 hz0
      unfold N25.j8' N25.j8 N25.j2000010' N25.j2000010 N25.j4' N25.j4
      dsimp only
      refine putr_b _ o1 _ ⟨by omega, by rw [ByteArray.size_append]; omega, putr_b _ o2 _ ⟨by simp only [ByteArray.size_append]; omega, by simp only [ByteArray.size_append]; omega, namer_s _ _ _ o3 _ ⟨by simp only [ByteArray.size_append]; omega, ?_⟩⟩⟩
      have ht : ((((t0 ++ putB (l.getD i dS).2.1) ++ ByteArray.mk #[46, 46]) ++ putB (l.getD i dS).2.2.1) ++ ByteArray.mk #[32]) ++ nameI (l.getD i dS).2.2.2.1 (l.getD i dS).2.2.2.2.1 (l.getD i dS).2.2.2.2.2 = pre ++ openT a r := by
        rw [← ht0, hsg]; simp only [ByteArray.append_assoc]
      have htz : (((((t0 ++ putB (l.getD i dS).2.1) ++ ByteArray.mk #[46, 46]) ++ putB (l.getD i dS).2.2.1) ++ ByteArray.mk #[32]) ++ nameI (l.getD i dS).2.2.2.1 (l.getD i dS).2.2.2.2.1 (l.getD i dS).2.2.2.2.2).size ≤ 9000000000 := by simp only [ByteArray.size_append]; omega
      generalize ((((t0 ++ putB (l.getD i dS).2.1) ++ ByteArray.mk #[46, 46]) ++ putB (l.getD i dS).2.2.1) ++ ByteArray.mk #[32]) ++ nameI (l.getD i dS).2.2.2.1 (l.getD i dS).2.2.2.2.1 (l.getD i dS).2.2.2.2.2 = t at *
      rw [show IntKind.i64.wrap (((l.length : Nat) : Int) - 1) = ((l.length - 1 : Nat) : Int) from ewl, ewp]
      have shut : (i + 1 = 0 ∨ i + 1 = l.length ∨ (l.getD (i + 1 - 1) dS).1 ≠ (l.getD (i + 1) dS).1) → again (t ++ ByteArray.mk #[59, 10], ((i + 1 : Nat) : Int)) := by
        intro hc
        refine hag _ ⟨i + 1, rfl, by omega, fun _ => ?_, fun hn => absurd hc hn⟩ (by simp only; omega)
        show t ++ ByteArray.mk #[59, 10] = _
        rw [ht, ByteArray.append_assoc, openT_close, hrow]
      rw [br_beq]
      split
      · rename_i he
        rw [br_true]
        exact ⟨by omega, shut (.inr (.inl (by omega)))⟩
      · rename_i he
        refine ⟨⟨by omega, by omega, by omega⟩, ?_⟩
        rw [Int.toNat_natCast, br_bne]
        split
        · rename_i hv
          refine ⟨by omega, hag _ ⟨i + 1, rfl, by omega, fun hc => ?_, fun _ => ⟨a, r, hrow, hr, ?_⟩⟩ (by simp only; omega)⟩
          · rcases hc with hc | hc | hc
            · omega
            · omega
            · rw [Nat.add_sub_cancel] at hc; exact absurd hv.symm hc
          · show t ++ ByteArray.mk #[44, 32] = _
            rw [ht, ByteArray.append_assoc]; rfl
        · rename_i hv
          refine ⟨by omega, shut (.inr (.inr ?_))⟩
          rw [Nat.add_sub_cancel]
          exact fun he => hv he.symm
    have new : (i = 0 ∨ (l.getD (i - 1) dS).1 ≠ (l.getD i dS).1) → b = pre ++ catB ((rowsOf Prod.fst (l.take i)).map rowS) ∧ rowsOf Prod.fst (l.take (i + 1)) = rowsOf Prod.fst (l.take i) ++ [[l.getD i dS]] := by
      intro hn
      refine ⟨f2 (by rcases hn with hn | hn; exact .inl hn; exact .inr (.inr hn)), ?_⟩
      rw [hsn, if_neg]
      intro he
      rcases Nat.eq_zero_or_pos i with h0 | h0
      · subst h0; simp at he
      · rw [hlast h0] at he
        rcases hn with hn | hn
        · omega
        · exact hn (Option.some.inj he)
    have hb0 := hsz i
    have newGo : (i = 0 ∨ (l.getD (i - 1) dS).1 ≠ (l.getD i dS).1) → (b.size + (ByteArray.mk #[32, 32, 37]).size ≤ 9223372036854775807) ∧ N34.f (l.getD i dS).1 (fun y => ((b ++ ByteArray.mk #[32, 32, 37]).size + y.size ≤ 9223372036854775807) ∧ (((b ++ ByteArray.mk #[32, 32, 37]) ++ y).size + (ByteArray.mk #[58, 32]).size ≤ 9223372036854775807) ∧ N25.j8' (fun x3 x4 => again (x3, x4)) slots l (((b ++ ByteArray.mk #[32, 32, 37]) ++ y) ++ ByteArray.mk #[58, 32]) (i : Int) (l.getD i dS).1 (l.getD i dS).2.1 (l.getD i dS).2.2.1 (l.getD i dS).2.2.2.1 (l.getD i dS).2.2.2.2.1 (l.getD i dS).2.2.2.2.2 k) := by
      intro hn
      obtain ⟨n1, n2⟩ := new hn
      have hbz : b.size ≤ 8000000100 := by rw [n1, ByteArray.size_append]; omega
      refine ⟨by omega, putr_b _ ok0 _ ⟨by simp only [ByteArray.size_append]; omega, by simp only [ByteArray.size_append]; omega, j8go _ _ _ (by simp) n2 ?_ (by simp only [ByteArray.size_append]; omega)⟩⟩
      rw [← openT_new, n1]
      unfold headS
      rw [show ByteArray.mk #[32, 32, 37] = ByteArray.mk #[32, 32] ++ ByteArray.mk #[37] from rfl]
      simp only [ByteArray.append_assoc]
    refine ⟨inBk hlt, ?_⟩
    rw [br_beq]
    split
    · rename_i h0
      rw [br_true]
      exact newGo (.inl (by omega))
    · rename_i h0
      have hp : 0 < i := by omega
      rw [ewm hp]
      refine ⟨⟨by omega, by omega, by omega⟩, ?_⟩
      rw [Int.toNat_natCast, br_bne]
      split
      · rename_i hv
        obtain ⟨a, r, g1, g2, g3⟩ := f3 (by rintro (hc | hc | hc); omega; omega; exact hc hv)
        have hrow : rowsOf Prod.fst (l.take (i + 1)) = a ++ [r ++ [l.getD i dS]] := by
          rw [hsn, if_pos (by rw [hlast hp, hv]), g1, addLast_snoc]
        refine j8go a (r ++ [l.getD i dS]) b (by simp) hrow ?_ ?_
        · rw [g3, ByteArray.append_assoc, openT_more _ _ _ g2]
        · have hq := hsz i
          rw [g1, ← openT_close, ByteArray.size_append] at hq
          rw [g3, ByteArray.size_append, ByteArray.size_append]
          have : cbB.size = 2 := rfl
          omega
      · rename_i hv
        exact newGo (.inr hv)
  · have hge : i = l.length := by simp at hge; omega
    subst hge
    have hb := f2 (.inr (.inl rfl))
    rw [List.take_length] at hb
    have := hsz l.length
    rw [List.take_length] at this
    refine ⟨by rw [hb, ByteArray.size_append]; omega, ?_⟩
    rw [hb]
    exact h
end Go.Proofs.Yh

namespace Go.Proofs.Yh
open Go Go.Aw Go.Proofs
set_option maxRecDepth 100000
set_option maxHeartbeats 4000000
namespace N44
noncomputable def cfg : Cfg := { P := Try.prog, ty := tys, E := tab [], atSeq := tab [], atLoop := tab [], outs := [], eqT := tab [], bT := tab [], fzB := [1] }
noncomputable def body : Code := bodyOf Try.f44
def c (x0_0 x0_1 : Int) (x0_2 x0_3 : Int) (k : Int → Int → Int → Bool → Prop) : Prop :=
  (br (x0_0 == (2 : Int)) (k (2 : Int) x0_1 x0_2 true) (br (x0_0 == (3 : Int)) (k (3 : Int) (0 : Int) x0_2 true) (k (0 : Int) (0 : Int) (0 : Int) false)))
def f0 (x0_0 x0_1 : Int) (x0_2 x0_3 : Int) (k : Int → Int → Int → Bool → Prop) : Prop := c x0_0 x0_1 x0_2 x0_3 k
theorem f_ex : ∃ g, g = f0 := ⟨_, rfl⟩
noncomputable def f := Classical.choose f_ex
theorem f_def : f = f0 := Classical.choose_spec f_ex
noncomputable def JJ (k kp : KT) : Nat → St → Prop := pick none' []
noncomputable def LL (k kp : KT) : Nat → St → Prop := pick none' []
theorem c_c (k kp : KT) (J L : Nat → St → Prop) (x0_0 x0_1 : Int) (x0_2 x0_3 : Int) : runC cfg 1000001 J L none'' [] body (topK cfg Try.f44 k kp) (st0 Try.f44 [(.agg [(.v (.int .i64 x0_0)), (.v (.int .i64 x0_1)), (.v (.int .i64 x0_2)), (.v (.int .i64 x0_3))])] []) = c x0_0 x0_1 x0_2 x0_3 (fun y0_0 y0_1 y0_2 y1 => k (.tup [(.agg [(.v (.int .i64 y0_0)), (.v (.int .i64 y0_1)), (.v (.int .i64 y0_2))]), (.v (.bool y1))]) []) := by kernel_rfl
theorem c_ag (k kp : KT) : agPL cfg 1000001 (JJ k kp) (LL k kp) [] body = agPR cfg 1000001 none'' [] body (topK cfg Try.f44 k kp) := by kernel_rfl
theorem body_is : Try.f44.body = some body := by kernel_rfl
theorem c_raw (k kp : KT) (x0_0 x0_1 : Int) (x0_2 x0_3 : Int) : funW cfg Try.f44 [(.agg [(.v (.int .i64 x0_0)), (.v (.int .i64 x0_1)), (.v (.int .i64 x0_2)), (.v (.int .i64 x0_3))])] [] k kp = c x0_0 x0_1 x0_2 x0_3 (fun y0_0 y0_1 y0_2 y1 => k (.tup [(.agg [(.v (.int .i64 y0_0)), (.v (.int .i64 y0_1)), (.v (.int .i64 y0_2))]), (.v (.bool y1))]) []) :=
  Eq.mp (by kernel_rfl) ((funW_run (AG := none'') body_is (c_ag k kp) [(.agg [(.v (.int .i64 x0_0)), (.v (.int .i64 x0_1)), (.v (.int .i64 x0_2)), (.v (.int .i64 x0_3))])] []).trans (c_c k kp (JJ k kp) (LL k kp) x0_0 x0_1 x0_2 x0_3))
theorem f_eq (k kp : KT) (x0_0 x0_1 : Int) (x0_2 x0_3 : Int) : funW cfg Try.f44 [(.agg [(.v (.int .i64 x0_0)), (.v (.int .i64 x0_1)), (.v (.int .i64 x0_2)), (.v (.int .i64 x0_3))])] [] k kp = f x0_0 x0_1 x0_2 x0_3 (fun y0_0 y0_1 y0_2 y1 => k (.tup [(.agg [(.v (.int .i64 y0_0)), (.v (.int .i64 y0_1)), (.v (.int .i64 y0_2))]), (.v (.bool y1))]) []) := by
  rw [f_def, c_raw]; rfl
noncomputable def ent0 : Entry := fun args blks k _ => match args, blks with
  | [d0], [] => aAgg 4 d0 fun l => aCons l fun d0_0 l => aCons l fun d0_1 l => aCons l fun d0_2 l => aCons l fun d0_3 l => aNil l (aInt IntKind.i64 d0_0 fun x0_0 => aInt IntKind.i64 d0_1 fun x0_1 => aInt IntKind.i64 d0_2 fun x0_2 => aInt IntKind.i64 d0_3 fun x0_3 => f x0_0 x0_1 x0_2 x0_3 (fun y0_0 y0_1 y0_2 y1 => k (.tup [(.agg [(.v (.int .i64 y0_0)), (.v (.int .i64 y0_1)), (.v (.int .i64 y0_2))]), (.v (.bool y1))]) []))
  | _, _ => False
noncomputable def ent : Entry := fun args blks k kp => ent0 (convB [.no] args) blks k kp
theorem ok : EntOk Try.prog 0 0 44 ent := by
  refine EntOk.convB (EntOk.of (funW_ok (cfg := cfg) (tyOk_of rfl rfl tyL_ok) (eqOk_of (P := Try.prog) rfl rfl (by kernel_rfl)) mixed_ok (tab_ok ?_) Try.func44 (by rfl) (by rfl)) ?_) _
  · intro p hp
    cases hp
  · intro args blks k kp h k' kp'
    match args, blks, h with
    | [d0], [], h =>
    dsimp only [ent0] at h
    have h9 := aAgg_elim h; clear h; obtain ⟨_, rfl, h⟩ := h9
    have h9 := aCons_elim h; clear h; obtain ⟨d0_0, _, rfl, h⟩ := h9
    have h9 := aCons_elim h; clear h; obtain ⟨d0_1, _, rfl, h⟩ := h9
    have h9 := aCons_elim h; clear h; obtain ⟨d0_2, _, rfl, h⟩ := h9
    have h9 := aCons_elim h; clear h; obtain ⟨d0_3, _, rfl, h⟩ := h9
    have h9 := aNil_elim h; clear h; obtain ⟨rfl, h⟩ := h9
    have h9 := aInt_elim h; clear h; obtain ⟨x0_0, rfl, h⟩ := h9
    have h9 := aInt_elim h; clear h; obtain ⟨x0_1, rfl, h⟩ := h9
    have h9 := aInt_elim h; clear h; obtain ⟨x0_2, rfl, h⟩ := h9
    have h9 := aInt_elim h; clear h; obtain ⟨x0_3, rfl, h⟩ := h9
    exact (f_eq k' kp' x0_0 x0_1 x0_2 x0_3).symm
end N44
end Go.Proofs.Yh

namespace Go.Proofs.Yh
open Go Go.Aw Go.Proofs
set_option maxRecDepth 100000
set_option maxHeartbeats 4000000
namespace N14
noncomputable def cfg : Cfg := { P := Try.prog, ty := tys, E := tab [(16, N16.ent), (43, N43.ent), (44, N44.ent), (45, N45.ent)], atSeq := tab [], atLoop := tab [], outs := [], eqT := tab [], bT := tab [], fzB := [1] }
noncomputable def body : Code := bodyOf Try.f14
def c (x0_0 x0_1 : Int) (x0_2 x0_3 : Int) (k : BA → Prop) : Prop :=
  (br (x0_0 == (0 : Int)) (k (ByteArray.mk #[95])) (br (x0_0 == (1 : Int)) (N16.f x0_2 (fun (y0_0 : BA) => (k y0_0))) (br (x0_0 == (4 : Int)) (N43.f x0_2 (fun (y0_1 : BA) => (k y0_1))) (N44.f x0_0 x0_1 x0_2 x0_3 (fun (y0_0_2 y0_1_2 y0_2_2 : Int) (y1_2 : Bool) => (br (!y1_2) (k (ByteArray.mk #[63])) (N45.f y0_0_2 y0_1_2 y0_2_2 (fun (y0_3 : BA) => (((y0_3).size + ((ByteArray.mk #[58])).size ≤ 9223372036854775807) ∧ (N16.f x0_3 (fun (y0_4 : BA) => ((((y0_3 ++ (ByteArray.mk #[58]))).size + (y0_4).size ≤ 9223372036854775807) ∧ (k ((y0_3 ++ (ByteArray.mk #[58])) ++ y0_4))))))))))))))
def f0 (x0_0 x0_1 : Int) (x0_2 x0_3 : Int) (k : BA → Prop) : Prop := c x0_0 x0_1 x0_2 x0_3 k
theorem f_ex : ∃ g, g = f0 := ⟨_, rfl⟩
noncomputable def f := Classical.choose f_ex
theorem f_def : f = f0 := Classical.choose_spec f_ex
noncomputable def JJ (k kp : KT) : Nat → St → Prop := pick none' []
noncomputable def LL (k kp : KT) : Nat → St → Prop := pick none' []
theorem c_c (k kp : KT) (J L : Nat → St → Prop) (x0_0 x0_1 : Int) (x0_2 x0_3 : Int) : runC cfg 1000001 J L none'' [] body (topK cfg Try.f14 k kp) (st0 Try.f14 [(.agg [(.v (.int .i64 x0_0)), (.v (.int .i64 x0_1)), (.v (.int .i64 x0_2)), (.v (.int .i64 x0_3))])] []) = c x0_0 x0_1 x0_2 x0_3 (fun y0 => k (.v (.string y0)) []) := by kernel_rfl
theorem c_ag (k kp : KT) : agPL cfg 1000001 (JJ k kp) (LL k kp) [] body = agPR cfg 1000001 none'' [] body (topK cfg Try.f14 k kp) := by kernel_rfl
theorem body_is : Try.f14.body = some body := by kernel_rfl
theorem c_raw (k kp : KT) (x0_0 x0_1 : Int) (x0_2 x0_3 : Int) : funW cfg Try.f14 [(.agg [(.v (.int .i64 x0_0)), (.v (.int .i64 x0_1)), (.v (.int .i64 x0_2)), (.v (.int .i64 x0_3))])] [] k kp = c x0_0 x0_1 x0_2 x0_3 (fun y0 => k (.v (.string y0)) []) :=
  Eq.mp (by kernel_rfl) ((funW_run (AG := none'') body_is (c_ag k kp) [(.agg [(.v (.int .i64 x0_0)), (.v (.int .i64 x0_1)), (.v (.int .i64 x0_2)), (.v (.int .i64 x0_3))])] []).trans (c_c k kp (JJ k kp) (LL k kp) x0_0 x0_1 x0_2 x0_3))
theorem f_eq (k kp : KT) (x0_0 x0_1 : Int) (x0_2 x0_3 : Int) : funW cfg Try.f14 [(.agg [(.v (.int .i64 x0_0)), (.v (.int .i64 x0_1)), (.v (.int .i64 x0_2)), (.v (.int .i64 x0_3))])] [] k kp = f x0_0 x0_1 x0_2 x0_3 (fun y0 => k (.v (.string y0)) []) := by
  rw [f_def, c_raw]; rfl
noncomputable def ent0 : Entry := fun args blks k _ => match args, blks with
  | [d0], [] => aAgg 4 d0 fun l => aCons l fun d0_0 l => aCons l fun d0_1 l => aCons l fun d0_2 l => aCons l fun d0_3 l => aNil l (aInt IntKind.i64 d0_0 fun x0_0 => aInt IntKind.i64 d0_1 fun x0_1 => aInt IntKind.i64 d0_2 fun x0_2 => aInt IntKind.i64 d0_3 fun x0_3 => f x0_0 x0_1 x0_2 x0_3 (fun y0 => k (.v (.string y0)) []))
  | _, _ => False
noncomputable def ent : Entry := fun args blks k kp => ent0 (convB [.no] args) blks k kp
theorem ok : EntOk Try.prog 0 0 14 ent := by
  refine EntOk.convB (EntOk.of (funW_ok (cfg := cfg) (tyOk_of rfl rfl tyL_ok) (eqOk_of (P := Try.prog) rfl rfl (by kernel_rfl)) mixed_ok (tab_ok ?_) Try.func14 (by rfl) (by rfl)) ?_) _
  · intro p hp
    simp only [List.mem_cons, List.not_mem_nil, or_false] at hp
    rcases hp with rfl | rfl | rfl | rfl
    · exact N16.ok
    · exact N43.ok
    · exact N44.ok
    · exact N45.ok
  · intro args blks k kp h k' kp'
    match args, blks, h with
    | [d0], [], h =>
    dsimp only [ent0] at h
    have h9 := aAgg_elim h; clear h; obtain ⟨_, rfl, h⟩ := h9
    have h9 := aCons_elim h; clear h; obtain ⟨d0_0, _, rfl, h⟩ := h9
    have h9 := aCons_elim h; clear h; obtain ⟨d0_1, _, rfl, h⟩ := h9
    have h9 := aCons_elim h; clear h; obtain ⟨d0_2, _, rfl, h⟩ := h9
    have h9 := aCons_elim h; clear h; obtain ⟨d0_3, _, rfl, h⟩ := h9
    have h9 := aNil_elim h; clear h; obtain ⟨rfl, h⟩ := h9
    have h9 := aInt_elim h; clear h; obtain ⟨x0_0, rfl, h⟩ := h9
    have h9 := aInt_elim h; clear h; obtain ⟨x0_1, rfl, h⟩ := h9
    have h9 := aInt_elim h; clear h; obtain ⟨x0_2, rfl, h⟩ := h9
    have h9 := aInt_elim h; clear h; obtain ⟨x0_3, rfl, h⟩ := h9
    exact (f_eq k' kp' x0_0 x0_1 x0_2 x0_3).symm
end N14
end Go.Proofs.Yh

namespace Go.Proofs.Yh
open Go Go.Aw Go.Proofs
set_option maxRecDepth 100000
set_option maxHeartbeats 4000000
namespace N55
noncomputable def cfg : Cfg := { P := Try.prog, ty := tys, E := tab [(51, N51.ent), (27, N27.ent)], atSeq := tab [], atLoop := tab [], outs := [], eqT := tab [], bT := tab [] }
noncomputable def body : Code := bodyOf Try.f55
def c (x1 : LB) (b0 : BA) (k : BA → Prop) : Prop :=
  (jn x1 (ByteArray.mk #[44, 32]) (fun (y_0 : BA) => (ws y_0 b0 (fun (y_1 : Int) (z_1 : BA) => (k z_1)))))
def f0 (x1 : LB) (b0 : BA) (k : BA → Prop) : Prop := c x1 b0 k
theorem f_ex : ∃ g, g = f0 := ⟨_, rfl⟩
noncomputable def f := Classical.choose f_ex
theorem f_def : f = f0 := Classical.choose_spec f_ex
noncomputable def JJ (k kp : KT) : Nat → St → Prop := pick none' []
noncomputable def LL (k kp : KT) : Nat → St → Prop := pick none' []
theorem c_c (k kp : KT) (J L : Nat → St → Prop) (x1 : LB) (b0 : BA) : runC cfg 1000001 J L none'' [] body (topK cfg Try.f55 k kp) (st0 Try.f55 [(.ptr 0 0), (.fz Ty.str x1)] [(.bld 68 5 b0)]) = c x1 b0 (fun z0 => k (.tup []) [(.bld 68 5 z0)]) := by kernel_rfl
theorem c_ag (k kp : KT) : agPL cfg 1000001 (JJ k kp) (LL k kp) [] body = agPR cfg 1000001 none'' [] body (topK cfg Try.f55 k kp) := by kernel_rfl
theorem body_is : Try.f55.body = some body := by kernel_rfl
theorem c_raw (k kp : KT) (x1 : LB) (b0 : BA) : funW cfg Try.f55 [(.ptr 0 0), (.fz Ty.str x1)] [(.bld 68 5 b0)] k kp = c x1 b0 (fun z0 => k (.tup []) [(.bld 68 5 z0)]) :=
  Eq.mp (by kernel_rfl) ((funW_run (AG := none'') body_is (c_ag k kp) [(.ptr 0 0), (.fz Ty.str x1)] [(.bld 68 5 b0)]).trans (c_c k kp (JJ k kp) (LL k kp) x1 b0))
theorem f_eq (k kp : KT) (x1 : LB) (b0 : BA) : funW cfg Try.f55 [(.ptr 0 0), (.fz Ty.str x1)] [(.bld 68 5 b0)] k kp = f x1 b0 (fun z0 => k (.tup []) [(.bld 68 5 z0)]) := by
  rw [f_def, c_raw]; rfl
noncomputable def ent0 : Entry := fun args blks k _ => match args, blks with
  | [d0, d1], [e0] => aPtr 0 0 d0 (aFz Ty.str d1 fun x1 => aBld 68 5 e0 fun b0 => f x1 b0 (fun z0 => k (.tup []) [(.bld 68 5 z0)]))
  | _, _ => False
noncomputable def ent : Entry := fun args blks k kp => ent0 (convB [.no, .one Ty.str] args) blks k kp
theorem ok : EntOk Try.prog 0 0 55 ent := by
  refine EntOk.convB (EntOk.of (funW_ok (cfg := cfg) (tyOk_of rfl rfl tyL_ok) (eqOk_of (P := Try.prog) rfl rfl (by kernel_rfl)) mixed_ok (tab_ok ?_) Try.func55 (by rfl) (by rfl)) ?_) _
  · intro p hp
    simp only [List.mem_cons, List.not_mem_nil, or_false] at hp
    rcases hp with rfl | rfl
    · exact N51.ok
    · exact N27.ok
  · intro args blks k kp h k' kp'
    match args, blks, h with
    | [d0, d1], [e0], h =>
    dsimp only [ent0] at h
    have h9 := aPtr_elim h; clear h; obtain ⟨rfl, h⟩ := h9
    have h9 := aFz_elim (t := Ty.str) h; clear h; obtain ⟨x1, rfl, h⟩ := h9
    have h9 := aBld_elim h; clear h; obtain ⟨b0, rfl, h⟩ := h9
    exact (f_eq k' kp' x1 b0).symm
end N55
end Go.Proofs.Yh

namespace Go.Proofs.Yh
open Go Go.Aw Go.Proofs
set_option maxRecDepth 100000
set_option maxHeartbeats 4000000
namespace N28
noncomputable def cfg : Cfg := { P := Try.prog, ty := tys, E := tab [(27, N27.ent), (55, N55.ent)], atSeq := tab [], atLoop := tab [], outs := [], eqT := tab [], bT := tab [] }
noncomputable def body : Code := bodyOf Try.f28
def c (x1 : BA) (x2 : LB) (x3 b0 : BA) (k : BA → Prop) : Prop :=
  (ws x1 b0 (fun (y_0 : Int) (z_0 : BA) => (N55.f x2 z_0 (fun (z0_1 : BA) => (ws x3 z0_1 (fun (y_2 : Int) (z_2 : BA) => (k z_2)))))))
def f0 (x1 : BA) (x2 : LB) (x3 b0 : BA) (k : BA → Prop) : Prop := c x1 x2 x3 b0 k
theorem f_ex : ∃ g, g = f0 := ⟨_, rfl⟩
noncomputable def f := Classical.choose f_ex
theorem f_def : f = f0 := Classical.choose_spec f_ex
noncomputable def JJ (k kp : KT) : Nat → St → Prop := pick none' []
noncomputable def LL (k kp : KT) : Nat → St → Prop := pick none' []
theorem c_c (k kp : KT) (J L : Nat → St → Prop) (x1 : BA) (x2 : LB) (x3 b0 : BA) : runC cfg 1000001 J L none'' [] body (topK cfg Try.f28 k kp) (st0 Try.f28 [(.ptr 0 0), (.v (.string x1)), (.fz Ty.str x2), (.v (.string x3))] [(.bld 68 5 b0)]) = c x1 x2 x3 b0 (fun z0 => k (.tup []) [(.bld 68 5 z0)]) := by kernel_rfl
theorem c_ag (k kp : KT) : agPL cfg 1000001 (JJ k kp) (LL k kp) [] body = agPR cfg 1000001 none'' [] body (topK cfg Try.f28 k kp) := by kernel_rfl
theorem body_is : Try.f28.body = some body := by kernel_rfl
theorem c_raw (k kp : KT) (x1 : BA) (x2 : LB) (x3 b0 : BA) : funW cfg Try.f28 [(.ptr 0 0), (.v (.string x1)), (.fz Ty.str x2), (.v (.string x3))] [(.bld 68 5 b0)] k kp = c x1 x2 x3 b0 (fun z0 => k (.tup []) [(.bld 68 5 z0)]) :=
  Eq.mp (by kernel_rfl) ((funW_run (AG := none'') body_is (c_ag k kp) [(.ptr 0 0), (.v (.string x1)), (.fz Ty.str x2), (.v (.string x3))] [(.bld 68 5 b0)]).trans (c_c k kp (JJ k kp) (LL k kp) x1 x2 x3 b0))
theorem f_eq (k kp : KT) (x1 : BA) (x2 : LB) (x3 b0 : BA) : funW cfg Try.f28 [(.ptr 0 0), (.v (.string x1)), (.fz Ty.str x2), (.v (.string x3))] [(.bld 68 5 b0)] k kp = f x1 x2 x3 b0 (fun z0 => k (.tup []) [(.bld 68 5 z0)]) := by
  rw [f_def, c_raw]; rfl
noncomputable def ent0 : Entry := fun args blks k _ => match args, blks with
  | [d0, d1, d2, d3], [e0] => aPtr 0 0 d0 (aStr d1 fun x1 => aFz Ty.str d2 fun x2 => aStr d3 fun x3 => aBld 68 5 e0 fun b0 => f x1 x2 x3 b0 (fun z0 => k (.tup []) [(.bld 68 5 z0)]))
  | _, _ => False
noncomputable def ent : Entry := fun args blks k kp => ent0 (convB [.no, .no, .one Ty.str, .no] args) blks k kp
theorem ok : EntOk Try.prog 0 0 28 ent := by
  refine EntOk.convB (EntOk.of (funW_ok (cfg := cfg) (tyOk_of rfl rfl tyL_ok) (eqOk_of (P := Try.prog) rfl rfl (by kernel_rfl)) mixed_ok (tab_ok ?_) Try.func28 (by rfl) (by rfl)) ?_) _
  · intro p hp
    simp only [List.mem_cons, List.not_mem_nil, or_false] at hp
    rcases hp with rfl | rfl
    · exact N27.ok
    · exact N55.ok
  · intro args blks k kp h k' kp'
    match args, blks, h with
    | [d0, d1, d2, d3], [e0], h =>
    dsimp only [ent0] at h
    have h9 := aPtr_elim h; clear h; obtain ⟨rfl, h⟩ := h9
    have h9 := aStr_elim h; clear h; obtain ⟨x1, rfl, h⟩ := h9
    have h9 := aFz_elim (t := Ty.str) h; clear h; obtain ⟨x2, rfl, h⟩ := h9
    have h9 := aStr_elim h; clear h; obtain ⟨x3, rfl, h⟩ := h9
    have h9 := aBld_elim h; clear h; obtain ⟨b0, rfl, h⟩ := h9
    exact (f_eq k' kp' x1 x2 x3 b0).symm
end N28
end Go.Proofs.Yh

namespace Go.Proofs.Yh
open Go Go.Aw Go.Proofs
set_option maxRecDepth 100000
set_option maxHeartbeats 4000000
namespace N29
noncomputable def cfg : Cfg := { P := Try.prog, ty := tys, E := tab [(14, N14.ent)], atSeq := tab [(7, ⟨[(3, .keep)]⟩)], atLoop := tab [(3, ⟨[(3, .own 9 Ty.str), (6, .keep), (7, .keep), (8, .keep)]⟩)], outs := [], eqT := tab [], bT := tab [] }
noncomputable def body : Code := bodyOf Try.f29
def l3 (j7 : LB → Prop) (ag3 : Int → LB → Prop) (x6 : Zq6) (x7 x8 : Int) (b0 : LB) (k : LB → Prop) : Prop :=
  (br (decide (x8 < x7)) ((inB 0 x8 ((((x6).length : Nat) : Int) - 1)) ∧ (N14.f (x6.getD (Int.toNat x8) ((0, (0, (0, 0))))).1 (x6.getD (Int.toNat x8) ((0, (0, (0, 0))))).2.1 (x6.getD (Int.toNat x8) ((0, (0, (0, 0))))).2.2.1 (x6.getD (Int.toNat x8) ((0, (0, (0, 0))))).2.2.2 (fun (y0_0 : BA) => ((room ((b0).length + (([y0_0] : List BA)).length) 16) ∧ (ag3 (IntKind.i64.wrap (x8 + (1 : Int))) (b0 ++ ([y0_0] : List BA))))))) (j7 b0))
def j7 (b0 : LB) (k : LB → Prop) : Prop :=
  (k b0)
def c (l3 : Zq6 → Int → Int → LB → Prop) (x0 : Zq6) (k : LB → Prop) : Prop :=
  (l3 x0 ((((x0).length : Nat) : Int)) (0 : Int) ([] : List BA))
def j7' (b0 : LB) (k : LB → Prop) : Prop := j7 b0 k
def l3' (x6 : Zq6) (x7 x8 : Int) (b0 : LB) (k : LB → Prop) : Prop := ∃ n, loopS (fun (ag : (Int × LB) → Prop) (s : Int × LB) => l3 (fun b0 => j7' b0 k) (fun x8 b0 => ag (x8, b0)) x6 x7 s.1 s.2 k) n (x8, b0)
def f0 (x0 : Zq6) (k : LB → Prop) : Prop := c (fun x6 x7 x8 b0 => l3' x6 x7 x8 b0 k) x0 k
theorem f_ex : ∃ g, g = f0 := ⟨_, rfl⟩
noncomputable def f := Classical.choose f_ex
theorem f_def : f = f0 := Classical.choose_spec f_ex
def mL3 (x6 : Zq6) (x7 x8 : Int) (b0 : LB) : St := { tmps := mkT 19 0 [(3, (.sl 0 0)), (6, (.fz Zy0 x6)), (7, (.v (.int .i64 x7))), (8, (.v (.int .i64 x8)))], hp := [(.lst 9 Ty.str b0 0 false)], m := 0 }
def m7 (b0 : LB) : St := { tmps := mkT 19 0 [(3, (.sl 0 0))], hp := [(.lst 9 Ty.str b0 0 false)], m := 0 }
noncomputable def YL3 (k kp : KT) : (St → Prop) → St → Prop := loopB cfg (sub [1, 1, 0, 1, 0, 0] body) (contK cfg (pick none' []) [1, 1, 0, 1, 0] body (topK cfg Try.f29 k kp))
noncomputable def XL3 (k kp : KT) : St → Prop := fun st => ∃ n, loopN (YL3 k kp) n st
noncomputable def X7 (k kp : KT) : St → Prop := atP cfg (pick none' []) [1, 1, 1] body (topK cfg Try.f29 k kp)
noncomputable def JJ_3 (k kp : KT) (ag3 : St → Prop) : Nat → St → Prop := pick none' [(7, X7 k kp)]
noncomputable def LL_3 (k kp : KT) (ag3 : St → Prop) : Nat → St → Prop := pick none' [(3, XL3 k kp)]
noncomputable def JJ (k kp : KT) : Nat → St → Prop := pick none' [(7, X7 k kp)]
noncomputable def LL (k kp : KT) : Nat → St → Prop := pick none' [(3, XL3 k kp)]
theorem j7_c (k kp : KT) (J L : Nat → St → Prop) (b0 : LB) : runC cfg 7 J L (pick none' []) [1, 1, 1] body (topK cfg Try.f29 k kp) (m7 b0) = j7 b0 (fun z0 => k (.sl 0 0) [(.lst 9 Ty.str z0 0 false)]) := by kernel_rfl
theorem j7_ag (k kp : KT) : agPL cfg 7 (JJ k kp) (LL k kp) [1, 1, 1] body = agPR cfg 7 (pick none' []) [1, 1, 1] body (topK cfg Try.f29 k kp) := by kernel_rfl
theorem j7_raw (k kp : KT) (b0 : LB) : X7 k kp (m7 b0) = j7 b0 (fun z0 => k (.sl 0 0) [(.lst 9 Ty.str z0 0 false)]) :=
  Eq.mp (by kernel_rfl) ((atP_run (j7_ag k kp) (m7 b0)).trans (j7_c k kp (JJ k kp) (LL k kp) b0))
theorem j7_eq (k kp : KT) (b0 : LB) : X7 k kp (m7 b0) = j7' b0 (fun z0 => k (.sl 0 0) [(.lst 9 Ty.str z0 0 false)]) := by
  rw [j7_raw]; rfl
theorem l3_c (k kp : KT) (J L : Nat → St → Prop) (ag3 : St → Prop) (x6 : Zq6) (x7 x8 : Int) (b0 : LB) : runC cfg 1000001 J L (pick none' [(3, ag3)]) [1, 1, 0, 1, 0, 0] body (topK cfg Try.f29 k kp) (mL3 x6 x7 x8 b0) = l3 (fun b0 => J 7 (m7 b0)) (fun x8 b0 => ag3 (mL3 x6 x7 x8 b0)) x6 x7 x8 b0 (fun z0 => k (.sl 0 0) [(.lst 9 Ty.str z0 0 false)]) := by kernel_rfl
theorem l3_ag (k kp : KT) (ag3 : St → Prop) : agPL cfg 1000001 (JJ_3 k kp ag3) (LL_3 k kp ag3) [1, 1, 0, 1, 0, 0] body = agPR cfg 1000001 (pick none' [(3, ag3)]) [1, 1, 0, 1, 0, 0] body (topK cfg Try.f29 k kp) := by kernel_rfl
theorem l3_raw (k kp : KT) (ag3 : St → Prop) (x6 : Zq6) (x7 x8 : Int) (b0 : LB) : YL3 k kp ag3 (mL3 x6 x7 x8 b0) = l3 (fun b0 => X7 k kp (m7 b0)) (fun x8 b0 => ag3 (mL3 x6 x7 x8 b0)) x6 x7 x8 b0 (fun z0 => k (.sl 0 0) [(.lst 9 Ty.str z0 0 false)]) :=
  Eq.mp (by kernel_rfl) ((atP_run (l3_ag k kp ag3) (mL3 x6 x7 x8 b0)).trans (l3_c k kp (JJ_3 k kp ag3) (LL_3 k kp ag3) ag3 x6 x7 x8 b0))
theorem l3_eq (k kp : KT) (x6 : Zq6) (x7 x8 : Int) (b0 : LB) : XL3 k kp (mL3 x6 x7 x8 b0) = l3' x6 x7 x8 b0 (fun z0 => k (.sl 0 0) [(.lst 9 Ty.str z0 0 false)]) :=
  loop_eq (mk := fun (s : Int × LB) => mL3 x6 x7 s.1 s.2) (fun again s => by rw [l3_raw k kp again x6 x7 s.1 s.2]; simp only [j7_eq]; first | done | rfl) (x8, b0)
theorem c_c (k kp : KT) (J L : Nat → St → Prop) (x0 : Zq6) : runC cfg 1000001 J L none'' [] body (topK cfg Try.f29 k kp) (st0 Try.f29 [(.fz Zy0 x0)] []) = c (fun x6 x7 x8 b0 => L 3 (mL3 x6 x7 x8 b0)) x0 (fun z0 => k (.sl 0 0) [(.lst 9 Ty.str z0 0 false)]) := by kernel_rfl
theorem c_ag (k kp : KT) : agPL cfg 1000001 (JJ k kp) (LL k kp) [] body = agPR cfg 1000001 none'' [] body (topK cfg Try.f29 k kp) := by kernel_rfl
theorem body_is : Try.f29.body = some body := by kernel_rfl
theorem c_raw (k kp : KT) (x0 : Zq6) : funW cfg Try.f29 [(.fz Zy0 x0)] [] k kp = c (fun x6 x7 x8 b0 => XL3 k kp (mL3 x6 x7 x8 b0)) x0 (fun z0 => k (.sl 0 0) [(.lst 9 Ty.str z0 0 false)]) :=
  Eq.mp (by kernel_rfl) ((funW_run (AG := none'') body_is (c_ag k kp) [(.fz Zy0 x0)] []).trans (c_c k kp (JJ k kp) (LL k kp) x0))
theorem f_eq (k kp : KT) (x0 : Zq6) : funW cfg Try.f29 [(.fz Zy0 x0)] [] k kp = f x0 (fun z0 => k (.sl 0 0) [(.lst 9 Ty.str z0 0 false)]) := by
  rw [f_def, c_raw]; simp only [l3_eq]; first | done | rfl
noncomputable def ent0 : Entry := fun args blks k _ => match args, blks with
  | [d0], [] => aFz Zy0 d0 fun x0 => f x0 (fun z0 => k (.sl 0 0) [(.lst 9 Ty.str z0 0 false)])
  | _, _ => False
noncomputable def ent : Entry := fun args blks k kp => ent0 (convB [.one Zy0] args) blks k kp
theorem ok : EntOk Try.prog 0 0 29 ent := by
  refine EntOk.convB (EntOk.of (funW_ok (cfg := cfg) (tyOk_of rfl rfl tyL_ok) (eqOk_of (P := Try.prog) rfl rfl (by kernel_rfl)) mixed_ok (tab_ok ?_) Try.func29 (by rfl) (by rfl)) ?_) _
  · intro p hp
    simp only [List.mem_cons, List.not_mem_nil, or_false] at hp
    rcases hp with rfl
    · exact N14.ok
  · intro args blks k kp h k' kp'
    match args, blks, h with
    | [d0], [], h =>
    dsimp only [ent0] at h
    have h9 := aFz_elim (t := Zy0) h; clear h; obtain ⟨x0, rfl, h⟩ := h9
    exact (f_eq k' kp' x0).symm
end N29
end Go.Proofs.Yh

namespace Go.Proofs.Yh
open Go Go.Aw Go.Proofs
set_option maxRecDepth 100000
set_option maxHeartbeats 4000000
namespace N66
noncomputable def cfg : Cfg := { P := Try.prog, ty := tys, E := tab [], atSeq := tab [(2000003, ⟨[(0, .keep), (2, .keep), (4, .keep), (12, .keep)]⟩), (5, ⟨[(0, .keep), (2, .keep)]⟩)], atLoop := tab [], outs := [], eqT := tab [], bT := tab [] }
noncomputable def body : Code := bodyOf Try.f66
def j2000003 (j5 : Int → BA → Int → Int → Int → Int → Bool → Prop) (x0 : Int) (x12 : Bool) (b0_0 : BA) (b0_1 b0_2 : Int) (b0_3 b0_4 : Int) (b0_5 : Bool) (b1_0 : BA) (b1_1 b1_2 : Int) (b1_3 b1_4 : Int) (b1_5 : Bool) (k : BA → Int → Int → Int → Int → Bool → Bool → Prop) : Prop :=
  (br x12 (br (decide ((IntKind.i64.wrap (x0 - (1 : Int))) = ((0 : Nat) : Int))) (k (ByteArray.mk #[97, 100, 100]) b1_1 b1_2 b1_3 b1_4 b1_5 true) (br (decide ((IntKind.i64.wrap (x0 - (1 : Int))) = ((1 : Nat) : Int))) (k (ByteArray.mk #[115, 117, 98]) b1_1 b1_2 b1_3 b1_4 b1_5 true) (br (decide ((IntKind.i64.wrap (x0 - (1 : Int))) = ((2 : Nat) : Int))) (k (ByteArray.mk #[109, 117, 108]) b1_1 b1_2 b1_3 b1_4 b1_5 true) (br (decide ((IntKind.i64.wrap (x0 - (1 : Int))) = ((3 : Nat) : Int))) (k (ByteArray.mk #[97, 110, 100]) b1_1 b1_2 b1_3 b1_4 b1_5 true) (br (decide ((IntKind.i64.wrap (x0 - (1 : Int))) = ((4 : Nat) : Int))) (k (ByteArray.mk #[111, 114]) b1_1 b1_2 b1_3 b1_4 b1_5 true) (br (decide ((IntKind.i64.wrap (x0 - (1 : Int))) = ((5 : Nat) : Int))) (k (ByteArray.mk #[120, 111, 114]) b1_1 b1_2 b1_3 b1_4 b1_5 true) (br (decide ((IntKind.i64.wrap (x0 - (1 : Int))) = ((6 : Nat) : Int))) (k (ByteArray.mk #[115, 104, 108]) b1_1 b1_2 b1_3 b1_4 b1_5 true) (br (decide ((IntKind.i64.wrap (x0 - (1 : Int))) = ((7 : Nat) : Int))) (k (ByteArray.mk #[115, 104, 114]) b1_1 b1_2 b1_3 b1_4 b1_5 true) (br (decide ((IntKind.i64.wrap (x0 - (1 : Int))) = ((8 : Nat) : Int))) (k (ByteArray.mk #[115, 97, 114]) b1_1 b1_2 b1_3 b1_4 b1_5 true) (br (decide ((IntKind.i64.wrap (x0 - (1 : Int))) = ((9 : Nat) : Int))) (k (ByteArray.mk #[100, 105, 118]) b1_1 b1_2 b1_3 b1_4 b1_5 true) (br (decide ((IntKind.i64.wrap (x0 - (1 : Int))) = ((10 : Nat) : Int))) (k (ByteArray.mk #[114, 101, 109]) b1_1 b1_2 b1_3 b1_4 b1_5 true) (br (decide ((IntKind.i64.wrap (x0 - (1 : Int))) = ((11 : Nat) : Int))) (k (ByteArray.mk #[101, 113]) b1_1 b1_2 b1_3 b1_4 b1_5 true) (br (decide ((IntKind.i64.wrap (x0 - (1 : Int))) = ((12 : Nat) : Int))) (k (ByteArray.mk #[110, 101]) b1_1 b1_2 b1_3 b1_4 b1_5 true) (br (decide ((IntKind.i64.wrap (x0 - (1 : Int))) = ((13 : Nat) : Int))) (k (ByteArray.mk #[108, 116]) b1_1 b1_2 b1_3 b1_4 b1_5 true) (br (decide ((IntKind.i64.wrap (x0 - (1 : Int))) = ((14 : Nat) : Int))) (k (ByteArray.mk #[108, 101]) b1_1 b1_2 b1_3 b1_4 b1_5 true) False))))))))))))))) (j5 x0 b0_0 b0_1 b0_2 b0_3 b0_4 b0_5))
def j5 (x0 : Int) (b0_0 : BA) (b0_1 b0_2 : Int) (b0_3 b0_4 : Int) (b0_5 : Bool) (k : BA → Int → Int → Int → Int → Bool → Bool → Prop) : Prop :=
  (br (x0 == (16 : Int)) (k (ByteArray.mk #[99, 111, 112, 121]) (3 : Int) (7 : Int) (0 : Int) (0 : Int) false true) (br (x0 == (17 : Int)) (k (ByteArray.mk #[108, 111, 97, 100]) (1 : Int) (2 : Int) (0 : Int) (0 : Int) false true) (br (x0 == (18 : Int)) (k (ByteArray.mk #[115, 116, 111, 114, 101]) (0 : Int) (1 : Int) (2 : Int) (0 : Int) false true) (br (x0 == (19 : Int)) (k (ByteArray.mk #[99, 97, 108, 108]) (17 : Int) (13 : Int) (0 : Int) (0 : Int) false true) (br (x0 == (20 : Int)) (k (ByteArray.mk #[98, 114]) (0 : Int) (0 : Int) (0 : Int) (1 : Int) false true) (br (x0 == (21 : Int)) (k (ByteArray.mk #[98, 114, 105, 102]) (0 : Int) (1 : Int) (0 : Int) (2 : Int) false true) (br (x0 == (22 : Int)) (k (ByteArray.mk #[115, 119, 105, 116, 99, 104]) (0 : Int) (1 : Int) (0 : Int) (-1 : Int) false true) (br (x0 == (23 : Int)) (k (ByteArray.mk #[114, 101, 116]) (0 : Int) (5 : Int) (0 : Int) (0 : Int) false true) (br (x0 == (24 : Int)) (k (ByteArray.mk #[109, 111, 118, 101]) (3 : Int) (3 : Int) (0 : Int) (0 : Int) true true) (br (x0 == (25 : Int)) (k (ByteArray.mk #[115, 112, 105, 108, 108]) (8 : Int) (3 : Int) (0 : Int) (0 : Int) true true) (br (x0 == (26 : Int)) (k (ByteArray.mk #[114, 101, 108, 111, 97, 100]) (3 : Int) (8 : Int) (0 : Int) (0 : Int) true true) (br (x0 == (27 : Int)) (k (ByteArray.mk #[115, 119, 97, 112]) (0 : Int) (11 : Int) (11 : Int) (0 : Int) true true) (k (ByteArray.mk #[]) (0 : Int) (0 : Int) (0 : Int) (0 : Int) false false)))))))))))))
def c (j2000003 : Int → Bool → BA → Int → Int → Int → Int → Bool → BA → Int → Int → Int → Int → Bool → Prop) (x0 : Int) (k : BA → Int → Int → Int → Int → Bool → Bool → Prop) : Prop :=
  (br (decide (x0 ≥ (1 : Int))) (j2000003 x0 (decide (x0 ≤ (15 : Int))) (ByteArray.mk #[]) (0 : Int) (0 : Int) (0 : Int) (0 : Int) false (ByteArray.mk #[]) (1 : Int) (1 : Int) (5 : Int) (0 : Int) false) (j2000003 x0 false (ByteArray.mk #[]) (0 : Int) (0 : Int) (0 : Int) (0 : Int) false (ByteArray.mk #[]) (1 : Int) (1 : Int) (5 : Int) (0 : Int) false))
def j5' (x0 : Int) (b0_0 : BA) (b0_1 b0_2 : Int) (b0_3 b0_4 : Int) (b0_5 : Bool) (k : BA → Int → Int → Int → Int → Bool → Bool → Prop) : Prop := j5 x0 b0_0 b0_1 b0_2 b0_3 b0_4 b0_5 k
def j2000003' (x0 : Int) (x12 : Bool) (b0_0 : BA) (b0_1 b0_2 : Int) (b0_3 b0_4 : Int) (b0_5 : Bool) (b1_0 : BA) (b1_1 b1_2 : Int) (b1_3 b1_4 : Int) (b1_5 : Bool) (k : BA → Int → Int → Int → Int → Bool → Bool → Prop) : Prop := j2000003 (fun x0 b0_0 b0_1 b0_2 b0_3 b0_4 b0_5 => j5' x0 b0_0 b0_1 b0_2 b0_3 b0_4 b0_5 k) x0 x12 b0_0 b0_1 b0_2 b0_3 b0_4 b0_5 b1_0 b1_1 b1_2 b1_3 b1_4 b1_5 k
def f0 (x0 : Int) (k : BA → Int → Int → Int → Int → Bool → Bool → Prop) : Prop := c (fun x0 x12 b0_0 b0_1 b0_2 b0_3 b0_4 b0_5 b1_0 b1_1 b1_2 b1_3 b1_4 b1_5 => j2000003' x0 x12 b0_0 b0_1 b0_2 b0_3 b0_4 b0_5 b1_0 b1_1 b1_2 b1_3 b1_4 b1_5 k) x0 k
theorem f_ex : ∃ g, g = f0 := ⟨_, rfl⟩
noncomputable def f := Classical.choose f_ex
theorem f_def : f = f0 := Classical.choose_spec f_ex
def m2000003 (x0 : Int) (x12 : Bool) (b0_0 : BA) (b0_1 b0_2 : Int) (b0_3 b0_4 : Int) (b0_5 : Bool) (b1_0 : BA) (b1_1 b1_2 : Int) (b1_3 b1_4 : Int) (b1_5 : Bool) : St := { tmps := mkT 68 0 [(0, (.v (.int .i64 x0))), (2, (.ptr 0 0)), (4, (.ptr 1 0)), (12, (.v (.bool x12)))], hp := [(.box 120 [(.v (.string b0_0)), (.v (.int .i64 b0_1)), (.v (.int .i64 b0_2)), (.v (.int .i64 b0_3)), (.v (.int .i64 b0_4)), (.v (.bool b0_5))]), (.box 120 [(.v (.string b1_0)), (.v (.int .i64 b1_1)), (.v (.int .i64 b1_2)), (.v (.int .i64 b1_3)), (.v (.int .i64 b1_4)), (.v (.bool b1_5))])], m := 0 }
def m5 (x0 : Int) (b0_0 : BA) (b0_1 b0_2 : Int) (b0_3 b0_4 : Int) (b0_5 : Bool) : St := { tmps := mkT 68 0 [(0, (.v (.int .i64 x0))), (2, (.ptr 0 0))], hp := [(.box 120 [(.v (.string b0_0)), (.v (.int .i64 b0_1)), (.v (.int .i64 b0_2)), (.v (.int .i64 b0_3)), (.v (.int .i64 b0_4)), (.v (.bool b0_5))])], m := 0 }
noncomputable def X2000003 (k kp : KT) : St → Prop := atP cfg (pick none' []) [1, 1, 0, 1] body (topK cfg Try.f66 k kp)
noncomputable def X5 (k kp : KT) : St → Prop := atP cfg (pick none' []) [1, 1, 1] body (topK cfg Try.f66 k kp)
noncomputable def JJ (k kp : KT) : Nat → St → Prop := pick none' [(2000003, X2000003 k kp), (5, X5 k kp)]
noncomputable def LL (k kp : KT) : Nat → St → Prop := pick none' []
theorem j5_c (k kp : KT) (J L : Nat → St → Prop) (x0 : Int) (b0_0 : BA) (b0_1 b0_2 : Int) (b0_3 b0_4 : Int) (b0_5 : Bool) : runC cfg 5 J L (pick none' []) [1, 1, 1] body (topK cfg Try.f66 k kp) (m5 x0 b0_0 b0_1 b0_2 b0_3 b0_4 b0_5) = j5 x0 b0_0 b0_1 b0_2 b0_3 b0_4 b0_5 (fun y0_0 y0_1 y0_2 y0_3 y0_4 y0_5 y1 => k (.tup [(.agg [(.v (.string y0_0)), (.v (.int .i64 y0_1)), (.v (.int .i64 y0_2)), (.v (.int .i64 y0_3)), (.v (.int .i64 y0_4)), (.v (.bool y0_5))]), (.v (.bool y1))]) []) := by kernel_rfl
theorem j5_ag (k kp : KT) : agPL cfg 5 (JJ k kp) (LL k kp) [1, 1, 1] body = agPR cfg 5 (pick none' []) [1, 1, 1] body (topK cfg Try.f66 k kp) := by kernel_rfl
theorem j5_raw (k kp : KT) (x0 : Int) (b0_0 : BA) (b0_1 b0_2 : Int) (b0_3 b0_4 : Int) (b0_5 : Bool) : X5 k kp (m5 x0 b0_0 b0_1 b0_2 b0_3 b0_4 b0_5) = j5 x0 b0_0 b0_1 b0_2 b0_3 b0_4 b0_5 (fun y0_0 y0_1 y0_2 y0_3 y0_4 y0_5 y1 => k (.tup [(.agg [(.v (.string y0_0)), (.v (.int .i64 y0_1)), (.v (.int .i64 y0_2)), (.v (.int .i64 y0_3)), (.v (.int .i64 y0_4)), (.v (.bool y0_5))]), (.v (.bool y1))]) []) :=
  Eq.mp (by kernel_rfl) ((atP_run (j5_ag k kp) (m5 x0 b0_0 b0_1 b0_2 b0_3 b0_4 b0_5)).trans (j5_c k kp (JJ k kp) (LL k kp) x0 b0_0 b0_1 b0_2 b0_3 b0_4 b0_5))
theorem j5_eq (k kp : KT) (x0 : Int) (b0_0 : BA) (b0_1 b0_2 : Int) (b0_3 b0_4 : Int) (b0_5 : Bool) : X5 k kp (m5 x0 b0_0 b0_1 b0_2 b0_3 b0_4 b0_5) = j5' x0 b0_0 b0_1 b0_2 b0_3 b0_4 b0_5 (fun y0_0 y0_1 y0_2 y0_3 y0_4 y0_5 y1 => k (.tup [(.agg [(.v (.string y0_0)), (.v (.int .i64 y0_1)), (.v (.int .i64 y0_2)), (.v (.int .i64 y0_3)), (.v (.int .i64 y0_4)), (.v (.bool y0_5))]), (.v (.bool y1))]) []) := by
  rw [j5_raw]; rfl
theorem j2000003_c (k kp : KT) (J L : Nat → St → Prop) (x0 : Int) (x12 : Bool) (b0_0 : BA) (b0_1 b0_2 : Int) (b0_3 b0_4 : Int) (b0_5 : Bool) (b1_0 : BA) (b1_1 b1_2 : Int) (b1_3 b1_4 : Int) (b1_5 : Bool) : runC cfg 2000003 J L (pick none' []) [1, 1, 0, 1] body (topK cfg Try.f66 k kp) (m2000003 x0 x12 b0_0 b0_1 b0_2 b0_3 b0_4 b0_5 b1_0 b1_1 b1_2 b1_3 b1_4 b1_5) = j2000003 (fun x0 b0_0 b0_1 b0_2 b0_3 b0_4 b0_5 => J 5 (m5 x0 b0_0 b0_1 b0_2 b0_3 b0_4 b0_5)) x0 x12 b0_0 b0_1 b0_2 b0_3 b0_4 b0_5 b1_0 b1_1 b1_2 b1_3 b1_4 b1_5 (fun y0_0 y0_1 y0_2 y0_3 y0_4 y0_5 y1 => k (.tup [(.agg [(.v (.string y0_0)), (.v (.int .i64 y0_1)), (.v (.int .i64 y0_2)), (.v (.int .i64 y0_3)), (.v (.int .i64 y0_4)), (.v (.bool y0_5))]), (.v (.bool y1))]) []) := by kernel_rfl
theorem j2000003_ag (k kp : KT) : agPL cfg 2000003 (JJ k kp) (LL k kp) [1, 1, 0, 1] body = agPR cfg 2000003 (pick none' []) [1, 1, 0, 1] body (topK cfg Try.f66 k kp) := by kernel_rfl
theorem j2000003_raw (k kp : KT) (x0 : Int) (x12 : Bool) (b0_0 : BA) (b0_1 b0_2 : Int) (b0_3 b0_4 : Int) (b0_5 : Bool) (b1_0 : BA) (b1_1 b1_2 : Int) (b1_3 b1_4 : Int) (b1_5 : Bool) : X2000003 k kp (m2000003 x0 x12 b0_0 b0_1 b0_2 b0_3 b0_4 b0_5 b1_0 b1_1 b1_2 b1_3 b1_4 b1_5) = j2000003 (fun x0 b0_0 b0_1 b0_2 b0_3 b0_4 b0_5 => X5 k kp (m5 x0 b0_0 b0_1 b0_2 b0_3 b0_4 b0_5)) x0 x12 b0_0 b0_1 b0_2 b0_3 b0_4 b0_5 b1_0 b1_1 b1_2 b1_3 b1_4 b1_5 (fun y0_0 y0_1 y0_2 y0_3 y0_4 y0_5 y1 => k (.tup [(.agg [(.v (.string y0_0)), (.v (.int .i64 y0_1)), (.v (.int .i64 y0_2)), (.v (.int .i64 y0_3)), (.v (.int .i64 y0_4)), (.v (.bool y0_5))]), (.v (.bool y1))]) []) :=
  Eq.mp (by kernel_rfl) ((atP_run (j2000003_ag k kp) (m2000003 x0 x12 b0_0 b0_1 b0_2 b0_3 b0_4 b0_5 b1_0 b1_1 b1_2 b1_3 b1_4 b1_5)).trans (j2000003_c k kp (JJ k kp) (LL k kp) x0 x12 b0_0 b0_1 b0_2 b0_3 b0_4 b0_5 b1_0 b1_1 b1_2 b1_3 b1_4 b1_5))
theorem j2000003_eq (k kp : KT) (x0 : Int) (x12 : Bool) (b0_0 : BA) (b0_1 b0_2 : Int) (b0_3 b0_4 : Int) (b0_5 : Bool) (b1_0 : BA) (b1_1 b1_2 : Int) (b1_3 b1_4 : Int) (b1_5 : Bool) : X2000003 k kp (m2000003 x0 x12 b0_0 b0_1 b0_2 b0_3 b0_4 b0_5 b1_0 b1_1 b1_2 b1_3 b1_4 b1_5) = j2000003' x0 x12 b0_0 b0_1 b0_2 b0_3 b0_4 b0_5 b1_0 b1_1 b1_2 b1_3 b1_4 b1_5 (fun y0_0 y0_1 y0_2 y0_3 y0_4 y0_5 y1 => k (.tup [(.agg [(.v (.string y0_0)), (.v (.int .i64 y0_1)), (.v (.int .i64 y0_2)), (.v (.int .i64 y0_3)), (.v (.int .i64 y0_4)), (.v (.bool y0_5))]), (.v (.bool y1))]) []) := by
  rw [j2000003_raw]; simp only [j5_eq]; first | done | rfl
theorem c_c (k kp : KT) (J L : Nat → St → Prop) (x0 : Int) : runC cfg 1000001 J L none'' [] body (topK cfg Try.f66 k kp) (st0 Try.f66 [(.v (.int .i64 x0))] []) = c (fun x0 x12 b0_0 b0_1 b0_2 b0_3 b0_4 b0_5 b1_0 b1_1 b1_2 b1_3 b1_4 b1_5 => J 2000003 (m2000003 x0 x12 b0_0 b0_1 b0_2 b0_3 b0_4 b0_5 b1_0 b1_1 b1_2 b1_3 b1_4 b1_5)) x0 (fun y0_0 y0_1 y0_2 y0_3 y0_4 y0_5 y1 => k (.tup [(.agg [(.v (.string y0_0)), (.v (.int .i64 y0_1)), (.v (.int .i64 y0_2)), (.v (.int .i64 y0_3)), (.v (.int .i64 y0_4)), (.v (.bool y0_5))]), (.v (.bool y1))]) []) := by kernel_rfl
theorem c_ag (k kp : KT) : agPL cfg 1000001 (JJ k kp) (LL k kp) [] body = agPR cfg 1000001 none'' [] body (topK cfg Try.f66 k kp) := by kernel_rfl
theorem body_is : Try.f66.body = some body := by kernel_rfl
theorem c_raw (k kp : KT) (x0 : Int) : funW cfg Try.f66 [(.v (.int .i64 x0))] [] k kp = c (fun x0 x12 b0_0 b0_1 b0_2 b0_3 b0_4 b0_5 b1_0 b1_1 b1_2 b1_3 b1_4 b1_5 => X2000003 k kp (m2000003 x0 x12 b0_0 b0_1 b0_2 b0_3 b0_4 b0_5 b1_0 b1_1 b1_2 b1_3 b1_4 b1_5)) x0 (fun y0_0 y0_1 y0_2 y0_3 y0_4 y0_5 y1 => k (.tup [(.agg [(.v (.string y0_0)), (.v (.int .i64 y0_1)), (.v (.int .i64 y0_2)), (.v (.int .i64 y0_3)), (.v (.int .i64 y0_4)), (.v (.bool y0_5))]), (.v (.bool y1))]) []) :=
  Eq.mp (by kernel_rfl) ((funW_run (AG := none'') body_is (c_ag k kp) [(.v (.int .i64 x0))] []).trans (c_c k kp (JJ k kp) (LL k kp) x0))
theorem f_eq (k kp : KT) (x0 : Int) : funW cfg Try.f66 [(.v (.int .i64 x0))] [] k kp = f x0 (fun y0_0 y0_1 y0_2 y0_3 y0_4 y0_5 y1 => k (.tup [(.agg [(.v (.string y0_0)), (.v (.int .i64 y0_1)), (.v (.int .i64 y0_2)), (.v (.int .i64 y0_3)), (.v (.int .i64 y0_4)), (.v (.bool y0_5))]), (.v (.bool y1))]) []) := by
  rw [f_def, c_raw]; simp only [j2000003_eq]; first | done | rfl
noncomputable def ent0 : Entry := fun args blks k _ => match args, blks with
  | [d0], [] => aInt IntKind.i64 d0 fun x0 => f x0 (fun y0_0 y0_1 y0_2 y0_3 y0_4 y0_5 y1 => k (.tup [(.agg [(.v (.string y0_0)), (.v (.int .i64 y0_1)), (.v (.int .i64 y0_2)), (.v (.int .i64 y0_3)), (.v (.int .i64 y0_4)), (.v (.bool y0_5))]), (.v (.bool y1))]) [])
  | _, _ => False
noncomputable def ent : Entry := fun args blks k kp => ent0 (convB [.no] args) blks k kp
theorem ok : EntOk Try.prog 0 0 66 ent := by
  refine EntOk.convB (EntOk.of (funW_ok (cfg := cfg) (tyOk_of rfl rfl tyL_ok) (eqOk_of (P := Try.prog) rfl rfl (by kernel_rfl)) mixed_ok (tab_ok ?_) Try.func66 (by rfl) (by rfl)) ?_) _
  · intro p hp
    cases hp
  · intro args blks k kp h k' kp'
    match args, blks, h with
    | [d0], [], h =>
    dsimp only [ent0] at h
    have h9 := aInt_elim h; clear h; obtain ⟨x0, rfl, h⟩ := h9
    exact (f_eq k' kp' x0).symm
end N66
end Go.Proofs.Yh

namespace Go.Proofs.Yh
open Go Go.Aw Go.Proofs
set_option maxRecDepth 100000
set_option maxHeartbeats 4000000
namespace N57
noncomputable def cfg : Cfg := { P := Try.prog, ty := tys, E := tab [(66, N66.ent)], atSeq := tab [], atLoop := tab [], outs := [], eqT := tab [], bT := tab [] }
noncomputable def body : Code := bodyOf Try.f57
def c (x0 : Int) (k : Bool → Prop) : Prop :=
  (N66.f x0 (fun (y0_0_0 : BA) (y0_1_0 y0_2_0 : Int) (y0_3_0 y0_4_0 : Int) (y0_5_0 : Bool) (y1_0 : Bool) => (k y1_0)))
def f0 (x0 : Int) (k : Bool → Prop) : Prop := c x0 k
theorem f_ex : ∃ g, g = f0 := ⟨_, rfl⟩
noncomputable def f := Classical.choose f_ex
theorem f_def : f = f0 := Classical.choose_spec f_ex
noncomputable def JJ (k kp : KT) : Nat → St → Prop := pick none' []
noncomputable def LL (k kp : KT) : Nat → St → Prop := pick none' []
theorem c_c (k kp : KT) (J L : Nat → St → Prop) (x0 : Int) : runC cfg 1000001 J L none'' [] body (topK cfg Try.f57 k kp) (st0 Try.f57 [(.v (.int .i64 x0))] []) = c x0 (fun y0 => k (.v (.bool y0)) []) := by kernel_rfl
theorem c_ag (k kp : KT) : agPL cfg 1000001 (JJ k kp) (LL k kp) [] body = agPR cfg 1000001 none'' [] body (topK cfg Try.f57 k kp) := by kernel_rfl
theorem body_is : Try.f57.body = some body := by kernel_rfl
theorem c_raw (k kp : KT) (x0 : Int) : funW cfg Try.f57 [(.v (.int .i64 x0))] [] k kp = c x0 (fun y0 => k (.v (.bool y0)) []) :=
  Eq.mp (by kernel_rfl) ((funW_run (AG := none'') body_is (c_ag k kp) [(.v (.int .i64 x0))] []).trans (c_c k kp (JJ k kp) (LL k kp) x0))
theorem f_eq (k kp : KT) (x0 : Int) : funW cfg Try.f57 [(.v (.int .i64 x0))] [] k kp = f x0 (fun y0 => k (.v (.bool y0)) []) := by
  rw [f_def, c_raw]; rfl
noncomputable def ent0 : Entry := fun args blks k _ => match args, blks with
  | [d0], [] => aInt IntKind.i64 d0 fun x0 => f x0 (fun y0 => k (.v (.bool y0)) [])
  | _, _ => False
noncomputable def ent : Entry := fun args blks k kp => ent0 (convB [.no] args) blks k kp
theorem ok : EntOk Try.prog 0 0 57 ent := by
  refine EntOk.convB (EntOk.of (funW_ok (cfg := cfg) (tyOk_of rfl rfl tyL_ok) (eqOk_of (P := Try.prog) rfl rfl (by kernel_rfl)) mixed_ok (tab_ok ?_) Try.func57 (by rfl) (by rfl)) ?_) _
  · intro p hp
    simp only [List.mem_cons, List.not_mem_nil, or_false] at hp
    rcases hp with rfl
    · exact N66.ok
  · intro args blks k kp h k' kp'
    match args, blks, h with
    | [d0], [], h =>
    dsimp only [ent0] at h
    have h9 := aInt_elim h; clear h; obtain ⟨x0, rfl, h⟩ := h9
    exact (f_eq k' kp' x0).symm
end N57
end Go.Proofs.Yh

namespace Go.Proofs.Yh
open Go Go.Aw Go.Proofs
set_option maxRecDepth 100000
set_option maxHeartbeats 4000000
namespace N58
noncomputable def cfg : Cfg := { P := Try.prog, ty := tys, E := tab [(66, N66.ent)], atSeq := tab [], atLoop := tab [], outs := [], eqT := tab [], bT := tab [] }
noncomputable def body : Code := bodyOf Try.f58
def c (x0 : Int) (k : BA → Prop) : Prop :=
  (N66.f x0 (fun (y0_0_0 : BA) (y0_1_0 y0_2_0 : Int) (y0_3_0 y0_4_0 : Int) (y0_5_0 : Bool) (y1_0 : Bool) => (k y0_0_0)))
def f0 (x0 : Int) (k : BA → Prop) : Prop := c x0 k
theorem f_ex : ∃ g, g = f0 := ⟨_, rfl⟩
noncomputable def f := Classical.choose f_ex
theorem f_def : f = f0 := Classical.choose_spec f_ex
noncomputable def JJ (k kp : KT) : Nat → St → Prop := pick none' []
noncomputable def LL (k kp : KT) : Nat → St → Prop := pick none' []
theorem c_c (k kp : KT) (J L : Nat → St → Prop) (x0 : Int) : runC cfg 1000001 J L none'' [] body (topK cfg Try.f58 k kp) (st0 Try.f58 [(.v (.int .i64 x0))] []) = c x0 (fun y0 => k (.v (.string y0)) []) := by kernel_rfl
theorem c_ag (k kp : KT) : agPL cfg 1000001 (JJ k kp) (LL k kp) [] body = agPR cfg 1000001 none'' [] body (topK cfg Try.f58 k kp) := by kernel_rfl
theorem body_is : Try.f58.body = some body := by kernel_rfl
theorem c_raw (k kp : KT) (x0 : Int) : funW cfg Try.f58 [(.v (.int .i64 x0))] [] k kp = c x0 (fun y0 => k (.v (.string y0)) []) :=
  Eq.mp (by kernel_rfl) ((funW_run (AG := none'') body_is (c_ag k kp) [(.v (.int .i64 x0))] []).trans (c_c k kp (JJ k kp) (LL k kp) x0))
theorem f_eq (k kp : KT) (x0 : Int) : funW cfg Try.f58 [(.v (.int .i64 x0))] [] k kp = f x0 (fun y0 => k (.v (.string y0)) []) := by
  rw [f_def, c_raw]; rfl
noncomputable def ent0 : Entry := fun args blks k _ => match args, blks with
  | [d0], [] => aInt IntKind.i64 d0 fun x0 => f x0 (fun y0 => k (.v (.string y0)) [])
  | _, _ => False
noncomputable def ent : Entry := fun args blks k kp => ent0 (convB [.no] args) blks k kp
theorem ok : EntOk Try.prog 0 0 58 ent := by
  refine EntOk.convB (EntOk.of (funW_ok (cfg := cfg) (tyOk_of rfl rfl tyL_ok) (eqOk_of (P := Try.prog) rfl rfl (by kernel_rfl)) mixed_ok (tab_ok ?_) Try.func58 (by rfl) (by rfl)) ?_) _
  · intro p hp
    simp only [List.mem_cons, List.not_mem_nil, or_false] at hp
    rcases hp with rfl
    · exact N66.ok
  · intro args blks k kp h k' kp'
    match args, blks, h with
    | [d0], [], h =>
    dsimp only [ent0] at h
    have h9 := aInt_elim h; clear h; obtain ⟨x0, rfl, h⟩ := h9
    exact (f_eq k' kp' x0).symm
end N58
end Go.Proofs.Yh

namespace Go.Proofs.Yh
open Go Go.Aw Go.Proofs
set_option maxRecDepth 100000
set_option maxHeartbeats 4000000
namespace N36
noncomputable def cfg : Cfg := { P := Try.prog, ty := tys, E := tab [(57, N57.ent), (58, N58.ent)], atSeq := tab [], atLoop := tab [], outs := [], eqT := tab [], bT := tab [], fzB := [1] }
noncomputable def body : Code := bodyOf Try.f36
def c (x0_0 x0_1_0 : Int) (x0_1_1 x0_1_2 x0_1_3 : Int) (x0_2 : Zq6) (x0_3 : BA) (x0_4 : Int) (x0_5 : LB) (x0_6 : LI) (k : BA → Prop) : Prop :=
  (N57.f x0_0 (fun (y0_0 : Bool) => (br (!y0_0) (k (ByteArray.mk #[63])) (N58.f x0_0 (fun (y0_1 : BA) => (k y0_1))))))
def f0 (x0_0 x0_1_0 : Int) (x0_1_1 x0_1_2 x0_1_3 : Int) (x0_2 : Zq6) (x0_3 : BA) (x0_4 : Int) (x0_5 : LB) (x0_6 : LI) (k : BA → Prop) : Prop := c x0_0 x0_1_0 x0_1_1 x0_1_2 x0_1_3 x0_2 x0_3 x0_4 x0_5 x0_6 k
theorem f_ex : ∃ g, g = f0 := ⟨_, rfl⟩
noncomputable def f := Classical.choose f_ex
theorem f_def : f = f0 := Classical.choose_spec f_ex
noncomputable def JJ (k kp : KT) : Nat → St → Prop := pick none' []
noncomputable def LL (k kp : KT) : Nat → St → Prop := pick none' []
theorem c_c (k kp : KT) (J L : Nat → St → Prop) (x0_0 x0_1_0 : Int) (x0_1_1 x0_1_2 x0_1_3 : Int) (x0_2 : Zq6) (x0_3 : BA) (x0_4 : Int) (x0_5 : LB) (x0_6 : LI) : runC cfg 1000001 J L none'' [] body (topK cfg Try.f36 k kp) (st0 Try.f36 [(.agg [(.v (.int .i64 x0_0)), (.v (.int .i64 x0_1_0)), (.v (.int .i64 x0_1_1)), (.v (.int .i64 x0_1_2)), (.v (.int .i64 x0_1_3)), (.fz Zy0 x0_2), (.v (.string x0_3)), (.v (.int .i64 x0_4)), (.fz Ty.str x0_5), (.fz Zy2 x0_6)])] []) = c x0_0 x0_1_0 x0_1_1 x0_1_2 x0_1_3 x0_2 x0_3 x0_4 x0_5 x0_6 (fun y0 => k (.v (.string y0)) []) := by kernel_rfl
theorem c_ag (k kp : KT) : agPL cfg 1000001 (JJ k kp) (LL k kp) [] body = agPR cfg 1000001 none'' [] body (topK cfg Try.f36 k kp) := by kernel_rfl
theorem body_is : Try.f36.body = some body := by kernel_rfl
theorem c_raw (k kp : KT) (x0_0 x0_1_0 : Int) (x0_1_1 x0_1_2 x0_1_3 : Int) (x0_2 : Zq6) (x0_3 : BA) (x0_4 : Int) (x0_5 : LB) (x0_6 : LI) : funW cfg Try.f36 [(.agg [(.v (.int .i64 x0_0)), (.v (.int .i64 x0_1_0)), (.v (.int .i64 x0_1_1)), (.v (.int .i64 x0_1_2)), (.v (.int .i64 x0_1_3)), (.fz Zy0 x0_2), (.v (.string x0_3)), (.v (.int .i64 x0_4)), (.fz Ty.str x0_5), (.fz Zy2 x0_6)])] [] k kp = c x0_0 x0_1_0 x0_1_1 x0_1_2 x0_1_3 x0_2 x0_3 x0_4 x0_5 x0_6 (fun y0 => k (.v (.string y0)) []) :=
  Eq.mp (by kernel_rfl) ((funW_run (AG := none'') body_is (c_ag k kp) [(.agg [(.v (.int .i64 x0_0)), (.v (.int .i64 x0_1_0)), (.v (.int .i64 x0_1_1)), (.v (.int .i64 x0_1_2)), (.v (.int .i64 x0_1_3)), (.fz Zy0 x0_2), (.v (.string x0_3)), (.v (.int .i64 x0_4)), (.fz Ty.str x0_5), (.fz Zy2 x0_6)])] []).trans (c_c k kp (JJ k kp) (LL k kp) x0_0 x0_1_0 x0_1_1 x0_1_2 x0_1_3 x0_2 x0_3 x0_4 x0_5 x0_6))
theorem f_eq (k kp : KT) (x0_0 x0_1_0 : Int) (x0_1_1 x0_1_2 x0_1_3 : Int) (x0_2 : Zq6) (x0_3 : BA) (x0_4 : Int) (x0_5 : LB) (x0_6 : LI) : funW cfg Try.f36 [(.agg [(.v (.int .i64 x0_0)), (.v (.int .i64 x0_1_0)), (.v (.int .i64 x0_1_1)), (.v (.int .i64 x0_1_2)), (.v (.int .i64 x0_1_3)), (.fz Zy0 x0_2), (.v (.string x0_3)), (.v (.int .i64 x0_4)), (.fz Ty.str x0_5), (.fz Zy2 x0_6)])] [] k kp = f x0_0 x0_1_0 x0_1_1 x0_1_2 x0_1_3 x0_2 x0_3 x0_4 x0_5 x0_6 (fun y0 => k (.v (.string y0)) []) := by
  rw [f_def, c_raw]; rfl
noncomputable def ent0 : Entry := fun args blks k _ => match args, blks with
  | [d0], [] => aAgg 10 d0 fun l => aCons l fun d0_0 l => aCons l fun d0_1 l => aCons l fun d0_2 l => aCons l fun d0_3 l => aCons l fun d0_4 l => aCons l fun d0_5 l => aCons l fun d0_6 l => aCons l fun d0_7 l => aCons l fun d0_8 l => aCons l fun d0_9 l => aNil l (aInt IntKind.i64 d0_0 fun x0_0 => aInt IntKind.i64 d0_1 fun x0_1_0 => aInt IntKind.i64 d0_2 fun x0_1_1 => aInt IntKind.i64 d0_3 fun x0_1_2 => aInt IntKind.i64 d0_4 fun x0_1_3 => aFz Zy0 d0_5 fun x0_2 => aStr d0_6 fun x0_3 => aInt IntKind.i64 d0_7 fun x0_4 => aFz Ty.str d0_8 fun x0_5 => aFz Zy2 d0_9 fun x0_6 => f x0_0 x0_1_0 x0_1_1 x0_1_2 x0_1_3 x0_2 x0_3 x0_4 x0_5 x0_6 (fun y0 => k (.v (.string y0)) []))
  | _, _ => False
noncomputable def ent : Entry := fun args blks k kp => ent0 (convB [.cells [none, none, none, none, none, some Zy0, none, none, some Ty.str, some Zy2]] args) blks k kp
theorem ok : EntOk Try.prog 0 0 36 ent := by
  refine EntOk.convB (EntOk.of (funW_ok (cfg := cfg) (tyOk_of rfl rfl tyL_ok) (eqOk_of (P := Try.prog) rfl rfl (by kernel_rfl)) mixed_ok (tab_ok ?_) Try.func36 (by rfl) (by rfl)) ?_) _
  · intro p hp
    simp only [List.mem_cons, List.not_mem_nil, or_false] at hp
    rcases hp with rfl | rfl
    · exact N57.ok
    · exact N58.ok
  · intro args blks k kp h k' kp'
    match args, blks, h with
    | [d0], [], h =>
    dsimp only [ent0] at h
    have h9 := aAgg_elim h; clear h; obtain ⟨_, rfl, h⟩ := h9
    have h9 := aCons_elim h; clear h; obtain ⟨d0_0, _, rfl, h⟩ := h9
    have h9 := aCons_elim h; clear h; obtain ⟨d0_1, _, rfl, h⟩ := h9
    have h9 := aCons_elim h; clear h; obtain ⟨d0_2, _, rfl, h⟩ := h9
    have h9 := aCons_elim h; clear h; obtain ⟨d0_3, _, rfl, h⟩ := h9
    have h9 := aCons_elim h; clear h; obtain ⟨d0_4, _, rfl, h⟩ := h9
    have h9 := aCons_elim h; clear h; obtain ⟨d0_5, _, rfl, h⟩ := h9
    have h9 := aCons_elim h; clear h; obtain ⟨d0_6, _, rfl, h⟩ := h9
    have h9 := aCons_elim h; clear h; obtain ⟨d0_7, _, rfl, h⟩ := h9
    have h9 := aCons_elim h; clear h; obtain ⟨d0_8, _, rfl, h⟩ := h9
    have h9 := aCons_elim h; clear h; obtain ⟨d0_9, _, rfl, h⟩ := h9
    have h9 := aNil_elim h; clear h; obtain ⟨rfl, h⟩ := h9
    have h9 := aInt_elim h; clear h; obtain ⟨x0_0, rfl, h⟩ := h9
    have h9 := aInt_elim h; clear h; obtain ⟨x0_1_0, rfl, h⟩ := h9
    have h9 := aInt_elim h; clear h; obtain ⟨x0_1_1, rfl, h⟩ := h9
    have h9 := aInt_elim h; clear h; obtain ⟨x0_1_2, rfl, h⟩ := h9
    have h9 := aInt_elim h; clear h; obtain ⟨x0_1_3, rfl, h⟩ := h9
    have h9 := aFz_elim (t := Zy0) h; clear h; obtain ⟨x0_2, rfl, h⟩ := h9
    have h9 := aStr_elim h; clear h; obtain ⟨x0_3, rfl, h⟩ := h9
    have h9 := aInt_elim h; clear h; obtain ⟨x0_4, rfl, h⟩ := h9
    have h9 := aFz_elim (t := Ty.str) h; clear h; obtain ⟨x0_5, rfl, h⟩ := h9
    have h9 := aFz_elim (t := Zy2) h; clear h; obtain ⟨x0_6, rfl, h⟩ := h9
    exact (f_eq k' kp' x0_0 x0_1_0 x0_1_1 x0_1_2 x0_1_3 x0_2 x0_3 x0_4 x0_5 x0_6).symm
end N36
end Go.Proofs.Yh

namespace Go.Proofs.Yh
open Go Go.Aw Go.Proofs
set_option maxRecDepth 100000
set_option maxHeartbeats 4000000
namespace N59
noncomputable def cfg : Cfg := { P := Try.prog, ty := tys, E := tab [], atSeq := tab [], atLoop := tab [], outs := [], eqT := tab [], bT := tab [] }
noncomputable def body : Code := bodyOf Try.f59
def c (x0 : Int) (k : Bool → Prop) : Prop :=
  (br (decide (x0 ≥ (32 : Int))) (br (decide (x0 ≤ (126 : Int))) (br (x0 != (34 : Int)) (k (x0 != (92 : Int))) (k false)) (k false)) (k false))
def f0 (x0 : Int) (k : Bool → Prop) : Prop := c x0 k
theorem f_ex : ∃ g, g = f0 := ⟨_, rfl⟩
noncomputable def f := Classical.choose f_ex
theorem f_def : f = f0 := Classical.choose_spec f_ex
noncomputable def JJ (k kp : KT) : Nat → St → Prop := pick none' []
noncomputable def LL (k kp : KT) : Nat → St → Prop := pick none' []
theorem c_c (k kp : KT) (J L : Nat → St → Prop) (x0 : Int) : runC cfg 1000001 J L none'' [] body (topK cfg Try.f59 k kp) (st0 Try.f59 [(.v (.int IntKind.u8 x0))] []) = c x0 (fun y0 => k (.v (.bool y0)) []) := by kernel_rfl
theorem c_ag (k kp : KT) : agPL cfg 1000001 (JJ k kp) (LL k kp) [] body = agPR cfg 1000001 none'' [] body (topK cfg Try.f59 k kp) := by kernel_rfl
theorem body_is : Try.f59.body = some body := by kernel_rfl
theorem c_raw (k kp : KT) (x0 : Int) : funW cfg Try.f59 [(.v (.int IntKind.u8 x0))] [] k kp = c x0 (fun y0 => k (.v (.bool y0)) []) :=
  Eq.mp (by kernel_rfl) ((funW_run (AG := none'') body_is (c_ag k kp) [(.v (.int IntKind.u8 x0))] []).trans (c_c k kp (JJ k kp) (LL k kp) x0))
theorem f_eq (k kp : KT) (x0 : Int) : funW cfg Try.f59 [(.v (.int IntKind.u8 x0))] [] k kp = f x0 (fun y0 => k (.v (.bool y0)) []) := by
  rw [f_def, c_raw]; rfl
noncomputable def ent0 : Entry := fun args blks k _ => match args, blks with
  | [d0], [] => aInt IntKind.u8 d0 fun x0 => f x0 (fun y0 => k (.v (.bool y0)) [])
  | _, _ => False
noncomputable def ent : Entry := fun args blks k kp => ent0 (convB [.no] args) blks k kp
theorem ok : EntOk Try.prog 0 0 59 ent := by
  refine EntOk.convB (EntOk.of (funW_ok (cfg := cfg) (tyOk_of rfl rfl tyL_ok) (eqOk_of (P := Try.prog) rfl rfl (by kernel_rfl)) mixed_ok (tab_ok ?_) Try.func59 (by rfl) (by rfl)) ?_) _
  · intro p hp
    cases hp
  · intro args blks k kp h k' kp'
    match args, blks, h with
    | [d0], [], h =>
    dsimp only [ent0] at h
    have h9 := aInt_elim h; clear h; obtain ⟨x0, rfl, h⟩ := h9
    exact (f_eq k' kp' x0).symm
end N59
end Go.Proofs.Yh

namespace Go.Proofs.Yh
open Go Go.Aw Go.Proofs
set_option maxRecDepth 100000
set_option maxHeartbeats 4000000
namespace N60
noncomputable def cfg : Cfg := { P := Try.prog, ty := tys, E := tab [], atSeq := tab [(2000008, ⟨[(0, .keep), (9, .keep)]⟩), (9, ⟨[]⟩)], atLoop := tab [], outs := [], eqT := tab [], bT := tab [] }
noncomputable def body : Code := bodyOf Try.f60
def j2000008 (j9 : Prop) (x0 : Int) (x9 : Bool) (k : Int → Bool → Prop) : Prop :=
  (br x9 (k x0 true) (j9))
def j9 (k : Int → Bool → Prop) : Prop :=
  (k (0 : Int) false)
def c (j2000008 : Int → Bool → Prop) (x0 : Int) (k : Int → Bool → Prop) : Prop :=
  (br (x0 == (10 : Int)) (k (110 : Int) true) (br (x0 == (9 : Int)) (k (116 : Int) true) (br (x0 == (34 : Int)) (j2000008 x0 (x0 == (34 : Int))) (j2000008 x0 (x0 == (92 : Int))))))
def j9' (k : Int → Bool → Prop) : Prop := j9 k
def j2000008' (x0 : Int) (x9 : Bool) (k : Int → Bool → Prop) : Prop := j2000008 (j9' k) x0 x9 k
def f0 (x0 : Int) (k : Int → Bool → Prop) : Prop := c (fun x0 x9 => j2000008' x0 x9 k) x0 k
theorem f_ex : ∃ g, g = f0 := ⟨_, rfl⟩
noncomputable def f := Classical.choose f_ex
theorem f_def : f = f0 := Classical.choose_spec f_ex
def m2000008 (x0 : Int) (x9 : Bool) : St := { tmps := mkT 13 0 [(0, (.v (.int IntKind.u8 x0))), (9, (.v (.bool x9)))], hp := [], m := 0 }
def m9 : St := { tmps := mkT 13 0 [], hp := [], m := 0 }
noncomputable def X2000008 (k kp : KT) : St → Prop := atP cfg (pick none' []) [1, 0, 1, 0, 1, 1, 1, 1, 1] body (topK cfg Try.f60 k kp)
noncomputable def X9 (k kp : KT) : St → Prop := atP cfg (pick none' []) [1, 1] body (topK cfg Try.f60 k kp)
noncomputable def JJ (k kp : KT) : Nat → St → Prop := pick none' [(2000008, X2000008 k kp), (9, X9 k kp)]
noncomputable def LL (k kp : KT) : Nat → St → Prop := pick none' []
theorem j9_c (k kp : KT) (J L : Nat → St → Prop) : runC cfg 9 J L (pick none' []) [1, 1] body (topK cfg Try.f60 k kp) (m9) = j9 (fun y0 y1 => k (.tup [(.v (.int IntKind.u8 y0)), (.v (.bool y1))]) []) := by kernel_rfl
theorem j9_ag (k kp : KT) : agPL cfg 9 (JJ k kp) (LL k kp) [1, 1] body = agPR cfg 9 (pick none' []) [1, 1] body (topK cfg Try.f60 k kp) := by kernel_rfl
theorem j9_raw (k kp : KT) : X9 k kp (m9) = j9 (fun y0 y1 => k (.tup [(.v (.int IntKind.u8 y0)), (.v (.bool y1))]) []) :=
  Eq.mp (by kernel_rfl) ((atP_run (j9_ag k kp) (m9)).trans (j9_c k kp (JJ k kp) (LL k kp)))
theorem j9_eq (k kp : KT) : X9 k kp (m9) = j9' (fun y0 y1 => k (.tup [(.v (.int IntKind.u8 y0)), (.v (.bool y1))]) []) := by
  rw [j9_raw]; rfl
theorem j2000008_c (k kp : KT) (J L : Nat → St → Prop) (x0 : Int) (x9 : Bool) : runC cfg 2000008 J L (pick none' []) [1, 0, 1, 0, 1, 1, 1, 1, 1] body (topK cfg Try.f60 k kp) (m2000008 x0 x9) = j2000008 (J 9 (m9)) x0 x9 (fun y0 y1 => k (.tup [(.v (.int IntKind.u8 y0)), (.v (.bool y1))]) []) := by kernel_rfl
theorem j2000008_ag (k kp : KT) : agPL cfg 2000008 (JJ k kp) (LL k kp) [1, 0, 1, 0, 1, 1, 1, 1, 1] body = agPR cfg 2000008 (pick none' []) [1, 0, 1, 0, 1, 1, 1, 1, 1] body (topK cfg Try.f60 k kp) := by kernel_rfl
theorem j2000008_raw (k kp : KT) (x0 : Int) (x9 : Bool) : X2000008 k kp (m2000008 x0 x9) = j2000008 (X9 k kp (m9)) x0 x9 (fun y0 y1 => k (.tup [(.v (.int IntKind.u8 y0)), (.v (.bool y1))]) []) :=
  Eq.mp (by kernel_rfl) ((atP_run (j2000008_ag k kp) (m2000008 x0 x9)).trans (j2000008_c k kp (JJ k kp) (LL k kp) x0 x9))
theorem j2000008_eq (k kp : KT) (x0 : Int) (x9 : Bool) : X2000008 k kp (m2000008 x0 x9) = j2000008' x0 x9 (fun y0 y1 => k (.tup [(.v (.int IntKind.u8 y0)), (.v (.bool y1))]) []) := by
  rw [j2000008_raw]; simp only [j9_eq]; first | done | rfl
theorem c_c (k kp : KT) (J L : Nat → St → Prop) (x0 : Int) : runC cfg 1000001 J L none'' [] body (topK cfg Try.f60 k kp) (st0 Try.f60 [(.v (.int IntKind.u8 x0))] []) = c (fun x0 x9 => J 2000008 (m2000008 x0 x9)) x0 (fun y0 y1 => k (.tup [(.v (.int IntKind.u8 y0)), (.v (.bool y1))]) []) := by kernel_rfl
theorem c_ag (k kp : KT) : agPL cfg 1000001 (JJ k kp) (LL k kp) [] body = agPR cfg 1000001 none'' [] body (topK cfg Try.f60 k kp) := by kernel_rfl
theorem body_is : Try.f60.body = some body := by kernel_rfl
theorem c_raw (k kp : KT) (x0 : Int) : funW cfg Try.f60 [(.v (.int IntKind.u8 x0))] [] k kp = c (fun x0 x9 => X2000008 k kp (m2000008 x0 x9)) x0 (fun y0 y1 => k (.tup [(.v (.int IntKind.u8 y0)), (.v (.bool y1))]) []) :=
  Eq.mp (by kernel_rfl) ((funW_run (AG := none'') body_is (c_ag k kp) [(.v (.int IntKind.u8 x0))] []).trans (c_c k kp (JJ k kp) (LL k kp) x0))
theorem f_eq (k kp : KT) (x0 : Int) : funW cfg Try.f60 [(.v (.int IntKind.u8 x0))] [] k kp = f x0 (fun y0 y1 => k (.tup [(.v (.int IntKind.u8 y0)), (.v (.bool y1))]) []) := by
  rw [f_def, c_raw]; simp only [j2000008_eq]; first | done | rfl
noncomputable def ent0 : Entry := fun args blks k _ => match args, blks with
  | [d0], [] => aInt IntKind.u8 d0 fun x0 => f x0 (fun y0 y1 => k (.tup [(.v (.int IntKind.u8 y0)), (.v (.bool y1))]) [])
  | _, _ => False
noncomputable def ent : Entry := fun args blks k kp => ent0 (convB [.no] args) blks k kp
theorem ok : EntOk Try.prog 0 0 60 ent := by
  refine EntOk.convB (EntOk.of (funW_ok (cfg := cfg) (tyOk_of rfl rfl tyL_ok) (eqOk_of (P := Try.prog) rfl rfl (by kernel_rfl)) mixed_ok (tab_ok ?_) Try.func60 (by rfl) (by rfl)) ?_) _
  · intro p hp
    cases hp
  · intro args blks k kp h k' kp'
    match args, blks, h with
    | [d0], [], h =>
    dsimp only [ent0] at h
    have h9 := aInt_elim h; clear h; obtain ⟨x0, rfl, h⟩ := h9
    exact (f_eq k' kp' x0).symm
end N60
end Go.Proofs.Yh

namespace Go.Proofs.Yh
open Go Go.Aw Go.Proofs
set_option maxRecDepth 100000
set_option maxHeartbeats 4000000
namespace N37
noncomputable def cfg : Cfg := { P := Try.prog, ty := tys, E := tab [(47, N47.ent), (59, N59.ent), (60, N60.ent), (31, N31.ent)], atSeq := tab [(16, ⟨[(0, .keep), (3, .keep), (10, .keep), (11, .keep)]⟩), (17, ⟨[(3, .keep)]⟩)], atLoop := tab [(4, ⟨[(0, .keep), (3, .keep), (10, .keep), (11, .keep)]⟩)], outs := [], eqT := tab [], bT := tab [(66, 5)] }
noncomputable def body : Code := bodyOf Try.f37
def l4 (j16 : BA → Int → Int → BA → Prop) (j17 : BA → Prop) (x0 : BA) (x10 x11 : Int) (b0 : BA) (k : BA → Prop) : Prop :=
  (br (decide (x11 < x10)) ((inB 0 x11 ((((x0).size : Nat) : Int) - 1)) ∧ (N59.f (byteAt x0 x11) (fun (y0_1 : Bool) => (br y0_1 (wb (byteAt x0 x11) b0 (fun (z_2 : BA) => (j16 x0 x10 x11 z_2))) (wb (92 : Int) b0 (fun (z_3 : BA) => (N60.f (byteAt x0 x11) (fun (y0_4 : Int) (y1_4 : Bool) => (br y1_4 (wb y0_4 z_3 (fun (z_5 : BA) => (j16 x0 x10 x11 z_5))) (wb (120 : Int) z_3 (fun (z_6 : BA) => ((0 ≤ (4 : Int)) ∧ ((inB 0 (Int.fdiv (byteAt x0 x11) (2 ^ min (Int.toNat (4 : Int)) 8)) (((((ByteArray.mk #[48, 49, 50, 51, 52, 53, 54, 55, 56, 57, 97, 98, 99, 100, 101, 102])).size : Nat) : Int) - 1)) ∧ (wb (byteAt (ByteArray.mk #[48, 49, 50, 51, 52, 53, 54, 55, 56, 57, 97, 98, 99, 100, 101, 102]) (Int.fdiv (byteAt x0 x11) (2 ^ min (Int.toNat (4 : Int)) 8))) z_6 (fun (z_7 : BA) => ((inB 0 (andI IntKind.u8 (byteAt x0 x11) (15 : Int)) (((((ByteArray.mk #[48, 49, 50, 51, 52, 53, 54, 55, 56, 57, 97, 98, 99, 100, 101, 102])).size : Nat) : Int) - 1)) ∧ (wb (byteAt (ByteArray.mk #[48, 49, 50, 51, 52, 53, 54, 55, 56, 57, 97, 98, 99, 100, 101, 102]) (andI IntKind.u8 (byteAt x0 x11) (15 : Int))) z_7 (fun (z_8 : BA) => (j16 x0 x10 x11 z_8))))))))))))))))))) (j17 b0))
def j16 (ag4 : Int → BA → Prop) (x0 : BA) (x10 x11 : Int) (b0 : BA) (k : BA → Prop) : Prop :=
  (ag4 (IntKind.i64.wrap (x11 + (1 : Int))) b0)
def j17 (b0 : BA) (k : BA → Prop) : Prop :=
  (wb (34 : Int) b0 (fun (z_9 : BA) => (bs z_9 (fun (y_10 : BA) => (k y_10)))))
def c (l4 : BA → Int → Int → BA → Prop) (x0 : BA) (k : BA → Prop) : Prop :=
  (wb (34 : Int) ByteArray.empty (fun (z_0 : BA) => (l4 x0 ((((x0).size : Nat) : Int)) (0 : Int) z_0)))
def j16' (ag4 : Int → BA → Prop) (x0 : BA) (x10 x11 : Int) (b0 : BA) (k : BA → Prop) : Prop := j16 ag4 x0 x10 x11 b0 k
def j17' (b0 : BA) (k : BA → Prop) : Prop := j17 b0 k
def l4' (x0 : BA) (x10 x11 : Int) (b0 : BA) (k : BA → Prop) : Prop := ∃ n, loopS (fun (ag : (Int × BA) → Prop) (s : Int × BA) => l4 (fun x0 x10 x11 b0 => j16' (fun x11 b0 => ag (x11, b0)) x0 x10 x11 b0 k) (fun b0 => j17' b0 k) x0 x10 s.1 s.2 k) n (x11, b0)
def f0 (x0 : BA) (k : BA → Prop) : Prop := c (fun x0 x10 x11 b0 => l4' x0 x10 x11 b0 k) x0 k
theorem f_ex : ∃ g, g = f0 := ⟨_, rfl⟩
noncomputable def f := Classical.choose f_ex
theorem f_def : f = f0 := Classical.choose_spec f_ex
def mL4 (x0 : BA) (x10 x11 : Int) (b0 : BA) : St := { tmps := mkT 42 0 [(0, (.v (.string x0))), (3, (.ptr 0 0)), (10, (.v (.int .i64 x10))), (11, (.v (.int .i64 x11)))], hp := [(.bld 66 5 b0)], m := 0 }
def m16 (x0 : BA) (x10 x11 : Int) (b0 : BA) : St := { tmps := mkT 42 0 [(0, (.v (.string x0))), (3, (.ptr 0 0)), (10, (.v (.int .i64 x10))), (11, (.v (.int .i64 x11)))], hp := [(.bld 66 5 b0)], m := 0 }
def m17 (b0 : BA) : St := { tmps := mkT 42 0 [(3, (.ptr 0 0))], hp := [(.bld 66 5 b0)], m := 0 }
noncomputable def YL4 (k kp : KT) : (St → Prop) → St → Prop := loopB cfg (sub [1, 1, 1, 0, 1, 0, 0] body) (contK cfg (pick none' []) [1, 1, 1, 0, 1, 0] body (topK cfg Try.f37 k kp))
noncomputable def XL4 (k kp : KT) : St → Prop := fun st => ∃ n, loopN (YL4 k kp) n st
noncomputable def X16 (k kp : KT) (ag4 : St → Prop) : St → Prop := atP cfg (pick none' [(4, ag4)]) [1, 1, 1, 0, 1, 0, 0, 1, 1, 1] body (topK cfg Try.f37 k kp)
noncomputable def X17 (k kp : KT) : St → Prop := atP cfg (pick none' []) [1, 1, 1, 1] body (topK cfg Try.f37 k kp)
noncomputable def JJ_4 (k kp : KT) (ag4 : St → Prop) : Nat → St → Prop := pick none' [(16, X16 k kp ag4), (17, X17 k kp)]
noncomputable def LL_4 (k kp : KT) (ag4 : St → Prop) : Nat → St → Prop := pick none' [(4, XL4 k kp)]
noncomputable def JJ (k kp : KT) : Nat → St → Prop := pick none' [(17, X17 k kp)]
noncomputable def LL (k kp : KT) : Nat → St → Prop := pick none' [(4, XL4 k kp)]
theorem j16_c (k kp : KT) (J L : Nat → St → Prop) (ag4 : St → Prop) (x0 : BA) (x10 x11 : Int) (b0 : BA) : runC cfg 16 J L (pick none' [(4, ag4)]) [1, 1, 1, 0, 1, 0, 0, 1, 1, 1] body (topK cfg Try.f37 k kp) (m16 x0 x10 x11 b0) = j16 (fun x11 b0 => ag4 (mL4 x0 x10 x11 b0)) x0 x10 x11 b0 (fun y0 => k (.v (.string y0)) []) := by kernel_rfl
theorem j16_ag (k kp : KT) (ag4 : St → Prop) : agPL cfg 16 (JJ_4 k kp ag4) (LL_4 k kp ag4) [1, 1, 1, 0, 1, 0, 0, 1, 1, 1] body = agPR cfg 16 (pick none' [(4, ag4)]) [1, 1, 1, 0, 1, 0, 0, 1, 1, 1] body (topK cfg Try.f37 k kp) := by kernel_rfl
theorem j16_raw (k kp : KT) (ag4 : St → Prop) (x0 : BA) (x10 x11 : Int) (b0 : BA) : X16 k kp ag4 (m16 x0 x10 x11 b0) = j16 (fun x11 b0 => ag4 (mL4 x0 x10 x11 b0)) x0 x10 x11 b0 (fun y0 => k (.v (.string y0)) []) :=
  Eq.mp (by kernel_rfl) ((atP_run (j16_ag k kp ag4) (m16 x0 x10 x11 b0)).trans (j16_c k kp (JJ_4 k kp ag4) (LL_4 k kp ag4) ag4 x0 x10 x11 b0))
theorem j16_eq (k kp : KT) (ag4 : St → Prop) (x0 : BA) (x10 x11 : Int) (b0 : BA) : X16 k kp ag4 (m16 x0 x10 x11 b0) = j16' (fun x11 b0 => ag4 (mL4 x0 x10 x11 b0)) x0 x10 x11 b0 (fun y0 => k (.v (.string y0)) []) := by
  rw [j16_raw]; rfl
theorem j17_c (k kp : KT) (J L : Nat → St → Prop) (b0 : BA) : runC cfg 17 J L (pick none' []) [1, 1, 1, 1] body (topK cfg Try.f37 k kp) (m17 b0) = j17 b0 (fun y0 => k (.v (.string y0)) []) := by kernel_rfl
theorem j17_ag (k kp : KT) : agPL cfg 17 (JJ k kp) (LL k kp) [1, 1, 1, 1] body = agPR cfg 17 (pick none' []) [1, 1, 1, 1] body (topK cfg Try.f37 k kp) := by kernel_rfl
theorem j17_raw (k kp : KT) (b0 : BA) : X17 k kp (m17 b0) = j17 b0 (fun y0 => k (.v (.string y0)) []) :=
  Eq.mp (by kernel_rfl) ((atP_run (j17_ag k kp) (m17 b0)).trans (j17_c k kp (JJ k kp) (LL k kp) b0))
theorem j17_eq (k kp : KT) (b0 : BA) : X17 k kp (m17 b0) = j17' b0 (fun y0 => k (.v (.string y0)) []) := by
  rw [j17_raw]; rfl
theorem l4_c (k kp : KT) (J L : Nat → St → Prop) (ag4 : St → Prop) (x0 : BA) (x10 x11 : Int) (b0 : BA) : runC cfg 1000001 J L (pick none' [(4, ag4)]) [1, 1, 1, 0, 1, 0, 0] body (topK cfg Try.f37 k kp) (mL4 x0 x10 x11 b0) = l4 (fun x0 x10 x11 b0 => J 16 (m16 x0 x10 x11 b0)) (fun b0 => J 17 (m17 b0)) x0 x10 x11 b0 (fun y0 => k (.v (.string y0)) []) := by kernel_rfl
theorem l4_ag (k kp : KT) (ag4 : St → Prop) : agPL cfg 1000001 (JJ_4 k kp ag4) (LL_4 k kp ag4) [1, 1, 1, 0, 1, 0, 0] body = agPR cfg 1000001 (pick none' [(4, ag4)]) [1, 1, 1, 0, 1, 0, 0] body (topK cfg Try.f37 k kp) := by kernel_rfl
theorem l4_raw (k kp : KT) (ag4 : St → Prop) (x0 : BA) (x10 x11 : Int) (b0 : BA) : YL4 k kp ag4 (mL4 x0 x10 x11 b0) = l4 (fun x0 x10 x11 b0 => X16 k kp ag4 (m16 x0 x10 x11 b0)) (fun b0 => X17 k kp (m17 b0)) x0 x10 x11 b0 (fun y0 => k (.v (.string y0)) []) :=
  Eq.mp (by kernel_rfl) ((atP_run (l4_ag k kp ag4) (mL4 x0 x10 x11 b0)).trans (l4_c k kp (JJ_4 k kp ag4) (LL_4 k kp ag4) ag4 x0 x10 x11 b0))
theorem l4_eq (k kp : KT) (x0 : BA) (x10 x11 : Int) (b0 : BA) : XL4 k kp (mL4 x0 x10 x11 b0) = l4' x0 x10 x11 b0 (fun y0 => k (.v (.string y0)) []) :=
  loop_eq (mk := fun (s : Int × BA) => mL4 x0 x10 s.1 s.2) (fun again s => by rw [l4_raw k kp again x0 x10 s.1 s.2]; simp only [j16_eq, j17_eq]; first | done | rfl) (x11, b0)
theorem c_c (k kp : KT) (J L : Nat → St → Prop) (x0 : BA) : runC cfg 1000001 J L none'' [] body (topK cfg Try.f37 k kp) (st0 Try.f37 [(.v (.string x0))] []) = c (fun x0 x10 x11 b0 => L 4 (mL4 x0 x10 x11 b0)) x0 (fun y0 => k (.v (.string y0)) []) := by kernel_rfl
theorem c_ag (k kp : KT) : agPL cfg 1000001 (JJ k kp) (LL k kp) [] body = agPR cfg 1000001 none'' [] body (topK cfg Try.f37 k kp) := by kernel_rfl
theorem body_is : Try.f37.body = some body := by kernel_rfl
theorem c_raw (k kp : KT) (x0 : BA) : funW cfg Try.f37 [(.v (.string x0))] [] k kp = c (fun x0 x10 x11 b0 => XL4 k kp (mL4 x0 x10 x11 b0)) x0 (fun y0 => k (.v (.string y0)) []) :=
  Eq.mp (by kernel_rfl) ((funW_run (AG := none'') body_is (c_ag k kp) [(.v (.string x0))] []).trans (c_c k kp (JJ k kp) (LL k kp) x0))
theorem f_eq (k kp : KT) (x0 : BA) : funW cfg Try.f37 [(.v (.string x0))] [] k kp = f x0 (fun y0 => k (.v (.string y0)) []) := by
  rw [f_def, c_raw]; simp only [l4_eq]; first | done | rfl
noncomputable def ent0 : Entry := fun args blks k _ => match args, blks with
  | [d0], [] => aStr d0 fun x0 => f x0 (fun y0 => k (.v (.string y0)) [])
  | _, _ => False
noncomputable def ent : Entry := fun args blks k kp => ent0 (convB [.no] args) blks k kp
theorem ok : EntOk Try.prog 0 0 37 ent := by
  refine EntOk.convB (EntOk.of (funW_ok (cfg := cfg) (tyOk_of rfl rfl tyL_ok) (eqOk_of (P := Try.prog) rfl rfl (by kernel_rfl)) mixed_ok (tab_ok ?_) Try.func37 (by rfl) (by rfl)) ?_) _
  · intro p hp
    simp only [List.mem_cons, List.not_mem_nil, or_false] at hp
    rcases hp with rfl | rfl | rfl | rfl
    · exact N47.ok
    · exact N59.ok
    · exact N60.ok
    · exact N31.ok
  · intro args blks k kp h k' kp'
    match args, blks, h with
    | [d0], [], h =>
    dsimp only [ent0] at h
    have h9 := aStr_elim h; clear h; obtain ⟨x0, rfl, h⟩ := h9
    exact (f_eq k' kp' x0).symm
end N37
end Go.Proofs.Yh

namespace Go.Proofs.Yh
open Go Go.Aw Go.Proofs
set_option maxRecDepth 100000
set_option maxHeartbeats 4000000
namespace N38
noncomputable def cfg : Cfg := { P := Try.prog, ty := tys, E := tab [(29, N29.ent), (43, N43.ent)], atSeq := tab [(2000005, ⟨[(1, .keep), (3, .keep), (9, .keep), (10, .keep)]⟩), (2000007, ⟨[(1, .keep), (3, .keep), (4, .keep), (22, .keep)]⟩), (2000010, ⟨[(1, .keep), (3, .keep), (33, .keep)]⟩), (11, ⟨[(3, .keep)]⟩)], atLoop := tab [], outs := [], eqT := tab [], bT := tab [], fzB := [1] }
noncomputable def body : Code := bodyOf Try.f38
def j2000005 (j2000007 : Int → Int → Int → Int → Int → Zq6 → BA → Int → LB → LI → Int → Bool → LB → Prop) (j2000010 : Int → Int → Int → Int → Int → Zq6 → BA → Int → LB → LI → Bool → LB → Prop) (x1_0 x1_1 : Int) (x1_2 x1_3 x1_4 : Int) (x1_5 : Zq6) (x1_6 : BA) (x1_7 : Int) (x1_8 : LB) (x1_9 : LI) (x9 : Int) (x10 : Bool) (b0 : LB) (k : LB → Prop) : Prop :=
  (br x10 (br (decide ((IntKind.i64.wrap (((((b0).length : Nat) : Int)) - (1 : Int))) ≥ (0 : Int))) (j2000007 x1_0 x1_1 x1_2 x1_3 x1_4 x1_5 x1_6 x1_7 x1_8 x1_9 (IntKind.i64.wrap (((((b0).length : Nat) : Int)) - (1 : Int))) (x1_7 != (0 : Int)) b0) (j2000007 x1_0 x1_1 x1_2 x1_3 x1_4 x1_5 x1_6 x1_7 x1_8 x1_9 (IntKind.i64.wrap (((((b0).length : Nat) : Int)) - (1 : Int))) false b0)) (br (x9 == (20 : Int)) (j2000010 x1_0 x1_1 x1_2 x1_3 x1_4 x1_5 x1_6 x1_7 x1_8 x1_9 (x9 == (20 : Int)) b0) (j2000010 x1_0 x1_1 x1_2 x1_3 x1_4 x1_5 x1_6 x1_7 x1_8 x1_9 (x9 == (21 : Int)) b0)))
def j2000007 (j11 : LB → Prop) (x1_0 x1_1 : Int) (x1_2 x1_3 x1_4 : Int) (x1_5 : Zq6) (x1_6 : BA) (x1_7 : Int) (x1_8 : LB) (x1_9 : LI) (x4 : Int) (x22 : Bool) (b0 : LB) (k : LB → Prop) : Prop :=
  (br x22 ((inB 0 x4 ((((b0).length : Nat) : Int) - 1)) ∧ (N43.f x1_7 (fun (y0_1 : BA) => ((((ByteArray.mk #[32, 43, 32])).size + (y0_1).size ≤ 9223372036854775807) ∧ ((((b0.getD (Int.toNat x4) (ByteArray.empty))).size + (((ByteArray.mk #[32, 43, 32]) ++ y0_1)).size ≤ 9223372036854775807) ∧ ((inB 0 x4 ((((b0).length : Nat) : Int) - 1)) ∧ (j11 (b0.set (Int.toNat x4) ((b0.getD (Int.toNat x4) (ByteArray.empty)) ++ ((ByteArray.mk #[32, 43, 32]) ++ y0_1)))))))))) (j11 b0))
def j2000010 (j11 : LB → Prop) (x1_0 x1_1 : Int) (x1_2 x1_3 x1_4 : Int) (x1_5 : Zq6) (x1_6 : BA) (x1_7 : Int) (x1_8 : LB) (x1_9 : LI) (x33 : Bool) (b0 : LB) (k : LB → Prop) : Prop :=
  (br x33 ((room ((b0).length + (x1_8).length) 16) ∧ (j11 (b0 ++ x1_8))) (j11 b0))
def j11 (b0 : LB) (k : LB → Prop) : Prop :=
  (k b0)
def c (j2000005 : Int → Int → Int → Int → Int → Zq6 → BA → Int → LB → LI → Int → Bool → LB → Prop) (x0_0 x0_1_0 : Int) (x0_1_1 x0_1_2 x0_1_3 : Int) (x0_2 : Zq6) (x0_3 : BA) (x0_4 : Int) (x0_5 : LB) (x0_6 : LI) (k : LB → Prop) : Prop :=
  (N29.f x0_2 (fun (z0_0 : LB) => (br (x0_0 == (17 : Int)) (j2000005 x0_0 x0_1_0 x0_1_1 x0_1_2 x0_1_3 x0_2 x0_3 x0_4 x0_5 x0_6 x0_0 (x0_0 == (17 : Int)) z0_0) (j2000005 x0_0 x0_1_0 x0_1_1 x0_1_2 x0_1_3 x0_2 x0_3 x0_4 x0_5 x0_6 x0_0 (x0_0 == (18 : Int)) z0_0))))
def j11' (b0 : LB) (k : LB → Prop) : Prop := j11 b0 k
def j2000007' (x1_0 x1_1 : Int) (x1_2 x1_3 x1_4 : Int) (x1_5 : Zq6) (x1_6 : BA) (x1_7 : Int) (x1_8 : LB) (x1_9 : LI) (x4 : Int) (x22 : Bool) (b0 : LB) (k : LB → Prop) : Prop := j2000007 (fun b0 => j11' b0 k) x1_0 x1_1 x1_2 x1_3 x1_4 x1_5 x1_6 x1_7 x1_8 x1_9 x4 x22 b0 k
def j2000010' (x1_0 x1_1 : Int) (x1_2 x1_3 x1_4 : Int) (x1_5 : Zq6) (x1_6 : BA) (x1_7 : Int) (x1_8 : LB) (x1_9 : LI) (x33 : Bool) (b0 : LB) (k : LB → Prop) : Prop := j2000010 (fun b0 => j11' b0 k) x1_0 x1_1 x1_2 x1_3 x1_4 x1_5 x1_6 x1_7 x1_8 x1_9 x33 b0 k
def j2000005' (x1_0 x1_1 : Int) (x1_2 x1_3 x1_4 : Int) (x1_5 : Zq6) (x1_6 : BA) (x1_7 : Int) (x1_8 : LB) (x1_9 : LI) (x9 : Int) (x10 : Bool) (b0 : LB) (k : LB → Prop) : Prop := j2000005 (fun x1_0 x1_1 x1_2 x1_3 x1_4 x1_5 x1_6 x1_7 x1_8 x1_9 x4 x22 b0 => j2000007' x1_0 x1_1 x1_2 x1_3 x1_4 x1_5 x1_6 x1_7 x1_8 x1_9 x4 x22 b0 k) (fun x1_0 x1_1 x1_2 x1_3 x1_4 x1_5 x1_6 x1_7 x1_8 x1_9 x33 b0 => j2000010' x1_0 x1_1 x1_2 x1_3 x1_4 x1_5 x1_6 x1_7 x1_8 x1_9 x33 b0 k) x1_0 x1_1 x1_2 x1_3 x1_4 x1_5 x1_6 x1_7 x1_8 x1_9 x9 x10 b0 k
def f0 (x0_0 x0_1_0 : Int) (x0_1_1 x0_1_2 x0_1_3 : Int) (x0_2 : Zq6) (x0_3 : BA) (x0_4 : Int) (x0_5 : LB) (x0_6 : LI) (k : LB → Prop) : Prop := c (fun x1_0 x1_1 x1_2 x1_3 x1_4 x1_5 x1_6 x1_7 x1_8 x1_9 x9 x10 b0 => j2000005' x1_0 x1_1 x1_2 x1_3 x1_4 x1_5 x1_6 x1_7 x1_8 x1_9 x9 x10 b0 k) x0_0 x0_1_0 x0_1_1 x0_1_2 x0_1_3 x0_2 x0_3 x0_4 x0_5 x0_6 k
theorem f_ex : ∃ g, g = f0 := ⟨_, rfl⟩
noncomputable def f := Classical.choose f_ex
theorem f_def : f = f0 := Classical.choose_spec f_ex
def m2000005 (x1_0 x1_1 : Int) (x1_2 x1_3 x1_4 : Int) (x1_5 : Zq6) (x1_6 : BA) (x1_7 : Int) (x1_8 : LB) (x1_9 : LI) (x9 : Int) (x10 : Bool) (b0 : LB) : St := { tmps := mkT 41 0 [(1, (.fp [(.v (.int .i64 x1_0)), (.v (.int .i64 x1_1)), (.v (.int .i64 x1_2)), (.v (.int .i64 x1_3)), (.v (.int .i64 x1_4)), (.fz Zy0 x1_5), (.v (.string x1_6)), (.v (.int .i64 x1_7)), (.fz Ty.str x1_8), (.fz Zy2 x1_9)])), (3, (.sl 0 0)), (9, (.v (.int .i64 x9))), (10, (.v (.bool x10)))], hp := [(.lst 9 Ty.str b0 0 false)], m := 0 }
def m2000007 (x1_0 x1_1 : Int) (x1_2 x1_3 x1_4 : Int) (x1_5 : Zq6) (x1_6 : BA) (x1_7 : Int) (x1_8 : LB) (x1_9 : LI) (x4 : Int) (x22 : Bool) (b0 : LB) : St := { tmps := mkT 41 0 [(1, (.fp [(.v (.int .i64 x1_0)), (.v (.int .i64 x1_1)), (.v (.int .i64 x1_2)), (.v (.int .i64 x1_3)), (.v (.int .i64 x1_4)), (.fz Zy0 x1_5), (.v (.string x1_6)), (.v (.int .i64 x1_7)), (.fz Ty.str x1_8), (.fz Zy2 x1_9)])), (3, (.sl 0 0)), (4, (.v (.int .i64 x4))), (22, (.v (.bool x22)))], hp := [(.lst 9 Ty.str b0 0 false)], m := 0 }
def m2000010 (x1_0 x1_1 : Int) (x1_2 x1_3 x1_4 : Int) (x1_5 : Zq6) (x1_6 : BA) (x1_7 : Int) (x1_8 : LB) (x1_9 : LI) (x33 : Bool) (b0 : LB) : St := { tmps := mkT 41 0 [(1, (.fp [(.v (.int .i64 x1_0)), (.v (.int .i64 x1_1)), (.v (.int .i64 x1_2)), (.v (.int .i64 x1_3)), (.v (.int .i64 x1_4)), (.fz Zy0 x1_5), (.v (.string x1_6)), (.v (.int .i64 x1_7)), (.fz Ty.str x1_8), (.fz Zy2 x1_9)])), (3, (.sl 0 0)), (33, (.v (.bool x33)))], hp := [(.lst 9 Ty.str b0 0 false)], m := 0 }
def m11 (b0 : LB) : St := { tmps := mkT 41 0 [(3, (.sl 0 0))], hp := [(.lst 9 Ty.str b0 0 false)], m := 0 }
noncomputable def X2000005 (k kp : KT) : St → Prop := atP cfg (pick none' []) [1, 1, 0, 1, 0, 1] body (topK cfg Try.f38 k kp)
noncomputable def X2000007 (k kp : KT) : St → Prop := atP cfg (pick none' []) [1, 1, 0, 1, 0, 1, 0, 1, 1] body (topK cfg Try.f38 k kp)
noncomputable def X2000010 (k kp : KT) : St → Prop := atP cfg (pick none' []) [1, 1, 0, 1, 0, 1, 1, 1] body (topK cfg Try.f38 k kp)
noncomputable def X11 (k kp : KT) : St → Prop := atP cfg (pick none' []) [1, 1, 1] body (topK cfg Try.f38 k kp)
noncomputable def JJ (k kp : KT) : Nat → St → Prop := pick none' [(2000005, X2000005 k kp), (2000007, X2000007 k kp), (2000010, X2000010 k kp), (11, X11 k kp)]
noncomputable def LL (k kp : KT) : Nat → St → Prop := pick none' []
theorem j11_c (k kp : KT) (J L : Nat → St → Prop) (b0 : LB) : runC cfg 11 J L (pick none' []) [1, 1, 1] body (topK cfg Try.f38 k kp) (m11 b0) = j11 b0 (fun z0 => k (.sl 0 0) [(.lst 9 Ty.str z0 0 false)]) := by kernel_rfl
theorem j11_ag (k kp : KT) : agPL cfg 11 (JJ k kp) (LL k kp) [1, 1, 1] body = agPR cfg 11 (pick none' []) [1, 1, 1] body (topK cfg Try.f38 k kp) := by kernel_rfl
theorem j11_raw (k kp : KT) (b0 : LB) : X11 k kp (m11 b0) = j11 b0 (fun z0 => k (.sl 0 0) [(.lst 9 Ty.str z0 0 false)]) :=
  Eq.mp (by kernel_rfl) ((atP_run (j11_ag k kp) (m11 b0)).trans (j11_c k kp (JJ k kp) (LL k kp) b0))
theorem j11_eq (k kp : KT) (b0 : LB) : X11 k kp (m11 b0) = j11' b0 (fun z0 => k (.sl 0 0) [(.lst 9 Ty.str z0 0 false)]) := by
  rw [j11_raw]; rfl
theorem j2000007_c (k kp : KT) (J L : Nat → St → Prop) (x1_0 x1_1 : Int) (x1_2 x1_3 x1_4 : Int) (x1_5 : Zq6) (x1_6 : BA) (x1_7 : Int) (x1_8 : LB) (x1_9 : LI) (x4 : Int) (x22 : Bool) (b0 : LB) : runC cfg 2000007 J L (pick none' []) [1, 1, 0, 1, 0, 1, 0, 1, 1] body (topK cfg Try.f38 k kp) (m2000007 x1_0 x1_1 x1_2 x1_3 x1_4 x1_5 x1_6 x1_7 x1_8 x1_9 x4 x22 b0) = j2000007 (fun b0 => J 11 (m11 b0)) x1_0 x1_1 x1_2 x1_3 x1_4 x1_5 x1_6 x1_7 x1_8 x1_9 x4 x22 b0 (fun z0 => k (.sl 0 0) [(.lst 9 Ty.str z0 0 false)]) := by kernel_rfl
theorem j2000007_ag (k kp : KT) : agPL cfg 2000007 (JJ k kp) (LL k kp) [1, 1, 0, 1, 0, 1, 0, 1, 1] body = agPR cfg 2000007 (pick none' []) [1, 1, 0, 1, 0, 1, 0, 1, 1] body (topK cfg Try.f38 k kp) := by kernel_rfl
theorem j2000007_raw (k kp : KT) (x1_0 x1_1 : Int) (x1_2 x1_3 x1_4 : Int) (x1_5 : Zq6) (x1_6 : BA) (x1_7 : Int) (x1_8 : LB) (x1_9 : LI) (x4 : Int) (x22 : Bool) (b0 : LB) : X2000007 k kp (m2000007 x1_0 x1_1 x1_2 x1_3 x1_4 x1_5 x1_6 x1_7 x1_8 x1_9 x4 x22 b0) = j2000007 (fun b0 => X11 k kp (m11 b0)) x1_0 x1_1 x1_2 x1_3 x1_4 x1_5 x1_6 x1_7 x1_8 x1_9 x4 x22 b0 (fun z0 => k (.sl 0 0) [(.lst 9 Ty.str z0 0 false)]) :=
  Eq.mp (by kernel_rfl) ((atP_run (j2000007_ag k kp) (m2000007 x1_0 x1_1 x1_2 x1_3 x1_4 x1_5 x1_6 x1_7 x1_8 x1_9 x4 x22 b0)).trans (j2000007_c k kp (JJ k kp) (LL k kp) x1_0 x1_1 x1_2 x1_3 x1_4 x1_5 x1_6 x1_7 x1_8 x1_9 x4 x22 b0))
theorem j2000007_eq (k kp : KT) (x1_0 x1_1 : Int) (x1_2 x1_3 x1_4 : Int) (x1_5 : Zq6) (x1_6 : BA) (x1_7 : Int) (x1_8 : LB) (x1_9 : LI) (x4 : Int) (x22 : Bool) (b0 : LB) : X2000007 k kp (m2000007 x1_0 x1_1 x1_2 x1_3 x1_4 x1_5 x1_6 x1_7 x1_8 x1_9 x4 x22 b0) = j2000007' x1_0 x1_1 x1_2 x1_3 x1_4 x1_5 x1_6 x1_7 x1_8 x1_9 x4 x22 b0 (fun z0 => k (.sl 0 0) [(.lst 9 Ty.str z0 0 false)]) := by
  rw [j2000007_raw]; simp only [j11_eq]; first | done | rfl
theorem j2000010_c (k kp : KT) (J L : Nat → St → Prop) (x1_0 x1_1 : Int) (x1_2 x1_3 x1_4 : Int) (x1_5 : Zq6) (x1_6 : BA) (x1_7 : Int) (x1_8 : LB) (x1_9 : LI) (x33 : Bool) (b0 : LB) : runC cfg 2000010 J L (pick none' []) [1, 1, 0, 1, 0, 1, 1, 1] body (topK cfg Try.f38 k kp) (m2000010 x1_0 x1_1 x1_2 x1_3 x1_4 x1_5 x1_6 x1_7 x1_8 x1_9 x33 b0) = j2000010 (fun b0 => J 11 (m11 b0)) x1_0 x1_1 x1_2 x1_3 x1_4 x1_5 x1_6 x1_7 x1_8 x1_9 x33 b0 (fun z0 => k (.sl 0 0) [(.lst 9 Ty.str z0 0 false)]) := by kernel_rfl
theorem j2000010_ag (k kp : KT) : agPL cfg 2000010 (JJ k kp) (LL k kp) [1, 1, 0, 1, 0, 1, 1, 1] body = agPR cfg 2000010 (pick none' []) [1, 1, 0, 1, 0, 1, 1, 1] body (topK cfg Try.f38 k kp) := by kernel_rfl
theorem j2000010_raw (k kp : KT) (x1_0 x1_1 : Int) (x1_2 x1_3 x1_4 : Int) (x1_5 : Zq6) (x1_6 : BA) (x1_7 : Int) (x1_8 : LB) (x1_9 : LI) (x33 : Bool) (b0 : LB) : X2000010 k kp (m2000010 x1_0 x1_1 x1_2 x1_3 x1_4 x1_5 x1_6 x1_7 x1_8 x1_9 x33 b0) = j2000010 (fun b0 => X11 k kp (m11 b0)) x1_0 x1_1 x1_2 x1_3 x1_4 x1_5 x1_6 x1_7 x1_8 x1_9 x33 b0 (fun z0 => k (.sl 0 0) [(.lst 9 Ty.str z0 0 false)]) :=
  Eq.mp (by kernel_rfl) ((atP_run (j2000010_ag k kp) (m2000010 x1_0 x1_1 x1_2 x1_3 x1_4 x1_5 x1_6 x1_7 x1_8 x1_9 x33 b0)).trans (j2000010_c k kp (JJ k kp) (LL k kp) x1_0 x1_1 x1_2 x1_3 x1_4 x1_5 x1_6 x1_7 x1_8 x1_9 x33 b0))
theorem j2000010_eq (k kp : KT) (x1_0 x1_1 : Int) (x1_2 x1_3 x1_4 : Int) (x1_5 : Zq6) (x1_6 : BA) (x1_7 : Int) (x1_8 : LB) (x1_9 : LI) (x33 : Bool) (b0 : LB) : X2000010 k kp (m2000010 x1_0 x1_1 x1_2 x1_3 x1_4 x1_5 x1_6 x1_7 x1_8 x1_9 x33 b0) = j2000010' x1_0 x1_1 x1_2 x1_3 x1_4 x1_5 x1_6 x1_7 x1_8 x1_9 x33 b0 (fun z0 => k (.sl 0 0) [(.lst 9 Ty.str z0 0 false)]) := by
  rw [j2000010_raw]; simp only [j11_eq]; first | done | rfl
theorem j2000005_c (k kp : KT) (J L : Nat → St → Prop) (x1_0 x1_1 : Int) (x1_2 x1_3 x1_4 : Int) (x1_5 : Zq6) (x1_6 : BA) (x1_7 : Int) (x1_8 : LB) (x1_9 : LI) (x9 : Int) (x10 : Bool) (b0 : LB) : runC cfg 2000005 J L (pick none' []) [1, 1, 0, 1, 0, 1] body (topK cfg Try.f38 k kp) (m2000005 x1_0 x1_1 x1_2 x1_3 x1_4 x1_5 x1_6 x1_7 x1_8 x1_9 x9 x10 b0) = j2000005 (fun x1_0 x1_1 x1_2 x1_3 x1_4 x1_5 x1_6 x1_7 x1_8 x1_9 x4 x22 b0 => J 2000007 (m2000007 x1_0 x1_1 x1_2 x1_3 x1_4 x1_5 x1_6 x1_7 x1_8 x1_9 x4 x22 b0)) (fun x1_0 x1_1 x1_2 x1_3 x1_4 x1_5 x1_6 x1_7 x1_8 x1_9 x33 b0 => J 2000010 (m2000010 x1_0 x1_1 x1_2 x1_3 x1_4 x1_5 x1_6 x1_7 x1_8 x1_9 x33 b0)) x1_0 x1_1 x1_2 x1_3 x1_4 x1_5 x1_6 x1_7 x1_8 x1_9 x9 x10 b0 (fun z0 => k (.sl 0 0) [(.lst 9 Ty.str z0 0 false)]) := by kernel_rfl
theorem j2000005_ag (k kp : KT) : agPL cfg 2000005 (JJ k kp) (LL k kp) [1, 1, 0, 1, 0, 1] body = agPR cfg 2000005 (pick none' []) [1, 1, 0, 1, 0, 1] body (topK cfg Try.f38 k kp) := by kernel_rfl
theorem j2000005_raw (k kp : KT) (x1_0 x1_1 : Int) (x1_2 x1_3 x1_4 : Int) (x1_5 : Zq6) (x1_6 : BA) (x1_7 : Int) (x1_8 : LB) (x1_9 : LI) (x9 : Int) (x10 : Bool) (b0 : LB) : X2000005 k kp (m2000005 x1_0 x1_1 x1_2 x1_3 x1_4 x1_5 x1_6 x1_7 x1_8 x1_9 x9 x10 b0) = j2000005 (fun x1_0 x1_1 x1_2 x1_3 x1_4 x1_5 x1_6 x1_7 x1_8 x1_9 x4 x22 b0 => X2000007 k kp (m2000007 x1_0 x1_1 x1_2 x1_3 x1_4 x1_5 x1_6 x1_7 x1_8 x1_9 x4 x22 b0)) (fun x1_0 x1_1 x1_2 x1_3 x1_4 x1_5 x1_6 x1_7 x1_8 x1_9 x33 b0 => X2000010 k kp (m2000010 x1_0 x1_1 x1_2 x1_3 x1_4 x1_5 x1_6 x1_7 x1_8 x1_9 x33 b0)) x1_0 x1_1 x1_2 x1_3 x1_4 x1_5 x1_6 x1_7 x1_8 x1_9 x9 x10 b0 (fun z0 => k (.sl 0 0) [(.lst 9 Ty.str z0 0 false)]) :=
  Eq.mp (by kernel_rfl) ((atP_run (j2000005_ag k kp) (m2000005 x1_0 x1_1 x1_2 x1_3 x1_4 x1_5 x1_6 x1_7 x1_8 x1_9 x9 x10 b0)).trans (j2000005_c k kp (JJ k kp) (LL k kp) x1_0 x1_1 x1_2 x1_3 x1_4 x1_5 x1_6 x1_7 x1_8 x1_9 x9 x10 b0))
theorem j2000005_eq (k kp : KT) (x1_0 x1_1 : Int) (x1_2 x1_3 x1_4 : Int) (x1_5 : Zq6) (x1_6 : BA) (x1_7 : Int) (x1_8 : LB) (x1_9 : LI) (x9 : Int) (x10 : Bool) (b0 : LB) : X2000005 k kp (m2000005 x1_0 x1_1 x1_2 x1_3 x1_4 x1_5 x1_6 x1_7 x1_8 x1_9 x9 x10 b0) = j2000005' x1_0 x1_1 x1_2 x1_3 x1_4 x1_5 x1_6 x1_7 x1_8 x1_9 x9 x10 b0 (fun z0 => k (.sl 0 0) [(.lst 9 Ty.str z0 0 false)]) := by
  rw [j2000005_raw]; simp only [j2000007_eq, j2000010_eq]; first | done | rfl
theorem c_c (k kp : KT) (J L : Nat → St → Prop) (x0_0 x0_1_0 : Int) (x0_1_1 x0_1_2 x0_1_3 : Int) (x0_2 : Zq6) (x0_3 : BA) (x0_4 : Int) (x0_5 : LB) (x0_6 : LI) : runC cfg 1000001 J L none'' [] body (topK cfg Try.f38 k kp) (st0 Try.f38 [(.agg [(.v (.int .i64 x0_0)), (.v (.int .i64 x0_1_0)), (.v (.int .i64 x0_1_1)), (.v (.int .i64 x0_1_2)), (.v (.int .i64 x0_1_3)), (.fz Zy0 x0_2), (.v (.string x0_3)), (.v (.int .i64 x0_4)), (.fz Ty.str x0_5), (.fz Zy2 x0_6)])] []) = c (fun x1_0 x1_1 x1_2 x1_3 x1_4 x1_5 x1_6 x1_7 x1_8 x1_9 x9 x10 b0 => J 2000005 (m2000005 x1_0 x1_1 x1_2 x1_3 x1_4 x1_5 x1_6 x1_7 x1_8 x1_9 x9 x10 b0)) x0_0 x0_1_0 x0_1_1 x0_1_2 x0_1_3 x0_2 x0_3 x0_4 x0_5 x0_6 (fun z0 => k (.sl 0 0) [(.lst 9 Ty.str z0 0 false)]) := by kernel_rfl
theorem c_ag (k kp : KT) : agPL cfg 1000001 (JJ k kp) (LL k kp) [] body = agPR cfg 1000001 none'' [] body (topK cfg Try.f38 k kp) := by kernel_rfl
theorem body_is : Try.f38.body = some body := by kernel_rfl
theorem c_raw (k kp : KT) (x0_0 x0_1_0 : Int) (x0_1_1 x0_1_2 x0_1_3 : Int) (x0_2 : Zq6) (x0_3 : BA) (x0_4 : Int) (x0_5 : LB) (x0_6 : LI) : funW cfg Try.f38 [(.agg [(.v (.int .i64 x0_0)), (.v (.int .i64 x0_1_0)), (.v (.int .i64 x0_1_1)), (.v (.int .i64 x0_1_2)), (.v (.int .i64 x0_1_3)), (.fz Zy0 x0_2), (.v (.string x0_3)), (.v (.int .i64 x0_4)), (.fz Ty.str x0_5), (.fz Zy2 x0_6)])] [] k kp = c (fun x1_0 x1_1 x1_2 x1_3 x1_4 x1_5 x1_6 x1_7 x1_8 x1_9 x9 x10 b0 => X2000005 k kp (m2000005 x1_0 x1_1 x1_2 x1_3 x1_4 x1_5 x1_6 x1_7 x1_8 x1_9 x9 x10 b0)) x0_0 x0_1_0 x0_1_1 x0_1_2 x0_1_3 x0_2 x0_3 x0_4 x0_5 x0_6 (fun z0 => k (.sl 0 0) [(.lst 9 Ty.str z0 0 false)]) :=
  Eq.mp (by kernel_rfl) ((funW_run (AG := none'') body_is (c_ag k kp) [(.agg [(.v (.int .i64 x0_0)), (.v (.int .i64 x0_1_0)), (.v (.int .i64 x0_1_1)), (.v (.int .i64 x0_1_2)), (.v (.int .i64 x0_1_3)), (.fz Zy0 x0_2), (.v (.string x0_3)), (.v (.int .i64 x0_4)), (.fz Ty.str x0_5), (.fz Zy2 x0_6)])] []).trans (c_c k kp (JJ k kp) (LL k kp) x0_0 x0_1_0 x0_1_1 x0_1_2 x0_1_3 x0_2 x0_3 x0_4 x0_5 x0_6))
theorem f_eq (k kp : KT) (x0_0 x0_1_0 : Int) (x0_1_1 x0_1_2 x0_1_3 : Int) (x0_2 : Zq6) (x0_3 : BA) (x0_4 : Int) (x0_5 : LB) (x0_6 : LI) : funW cfg Try.f38 [(.agg [(.v (.int .i64 x0_0)), (.v (.int .i64 x0_1_0)), (.v (.int .i64 x0_1_1)), (.v (.int .i64 x0_1_2)), (.v (.int .i64 x0_1_3)), (.fz Zy0 x0_2), (.v (.string x0_3)), (.v (.int .i64 x0_4)), (.fz Ty.str x0_5), (.fz Zy2 x0_6)])] [] k kp = f x0_0 x0_1_0 x0_1_1 x0_1_2 x0_1_3 x0_2 x0_3 x0_4 x0_5 x0_6 (fun z0 => k (.sl 0 0) [(.lst 9 Ty.str z0 0 false)]) := by
  rw [f_def, c_raw]; simp only [j2000005_eq]; first | done | rfl
noncomputable def ent0 : Entry := fun args blks k _ => match args, blks with
  | [d0], [] => aAgg 10 d0 fun l => aCons l fun d0_0 l => aCons l fun d0_1 l => aCons l fun d0_2 l => aCons l fun d0_3 l => aCons l fun d0_4 l => aCons l fun d0_5 l => aCons l fun d0_6 l => aCons l fun d0_7 l => aCons l fun d0_8 l => aCons l fun d0_9 l => aNil l (aInt IntKind.i64 d0_0 fun x0_0 => aInt IntKind.i64 d0_1 fun x0_1_0 => aInt IntKind.i64 d0_2 fun x0_1_1 => aInt IntKind.i64 d0_3 fun x0_1_2 => aInt IntKind.i64 d0_4 fun x0_1_3 => aFz Zy0 d0_5 fun x0_2 => aStr d0_6 fun x0_3 => aInt IntKind.i64 d0_7 fun x0_4 => aFz Ty.str d0_8 fun x0_5 => aFz Zy2 d0_9 fun x0_6 => f x0_0 x0_1_0 x0_1_1 x0_1_2 x0_1_3 x0_2 x0_3 x0_4 x0_5 x0_6 (fun z0 => k (.sl 0 0) [(.lst 9 Ty.str z0 0 false)]))
  | _, _ => False
noncomputable def ent : Entry := fun args blks k kp => ent0 (convB [.cells [none, none, none, none, none, some Zy0, none, none, some Ty.str, some Zy2]] args) blks k kp
theorem ok : EntOk Try.prog 0 0 38 ent := by
  refine EntOk.convB (EntOk.of (funW_ok (cfg := cfg) (tyOk_of rfl rfl tyL_ok) (eqOk_of (P := Try.prog) rfl rfl (by kernel_rfl)) mixed_ok (tab_ok ?_) Try.func38 (by rfl) (by rfl)) ?_) _
  · intro p hp
    simp only [List.mem_cons, List.not_mem_nil, or_false] at hp
    rcases hp with rfl | rfl
    · exact N29.ok
    · exact N43.ok
  · intro args blks k kp h k' kp'
    match args, blks, h with
    | [d0], [], h =>
    dsimp only [ent0] at h
    have h9 := aAgg_elim h; clear h; obtain ⟨_, rfl, h⟩ := h9
    have h9 := aCons_elim h; clear h; obtain ⟨d0_0, _, rfl, h⟩ := h9
    have h9 := aCons_elim h; clear h; obtain ⟨d0_1, _, rfl, h⟩ := h9
    have h9 := aCons_elim h; clear h; obtain ⟨d0_2, _, rfl, h⟩ := h9
    have h9 := aCons_elim h; clear h; obtain ⟨d0_3, _, rfl, h⟩ := h9
    have h9 := aCons_elim h; clear h; obtain ⟨d0_4, _, rfl, h⟩ := h9
    have h9 := aCons_elim h; clear h; obtain ⟨d0_5, _, rfl, h⟩ := h9
    have h9 := aCons_elim h; clear h; obtain ⟨d0_6, _, rfl, h⟩ := h9
    have h9 := aCons_elim h; clear h; obtain ⟨d0_7, _, rfl, h⟩ := h9
    have h9 := aCons_elim h; clear h; obtain ⟨d0_8, _, rfl, h⟩ := h9
    have h9 := aCons_elim h; clear h; obtain ⟨d0_9, _, rfl, h⟩ := h9
    have h9 := aNil_elim h; clear h; obtain ⟨rfl, h⟩ := h9
    have h9 := aInt_elim h; clear h; obtain ⟨x0_0, rfl, h⟩ := h9
    have h9 := aInt_elim h; clear h; obtain ⟨x0_1_0, rfl, h⟩ := h9
    have h9 := aInt_elim h; clear h; obtain ⟨x0_1_1, rfl, h⟩ := h9
    have h9 := aInt_elim h; clear h; obtain ⟨x0_1_2, rfl, h⟩ := h9
    have h9 := aInt_elim h; clear h; obtain ⟨x0_1_3, rfl, h⟩ := h9
    have h9 := aFz_elim (t := Zy0) h; clear h; obtain ⟨x0_2, rfl, h⟩ := h9
    have h9 := aStr_elim h; clear h; obtain ⟨x0_3, rfl, h⟩ := h9
    have h9 := aInt_elim h; clear h; obtain ⟨x0_4, rfl, h⟩ := h9
    have h9 := aFz_elim (t := Ty.str) h; clear h; obtain ⟨x0_5, rfl, h⟩ := h9
    have h9 := aFz_elim (t := Zy2) h; clear h; obtain ⟨x0_6, rfl, h⟩ := h9
    exact (f_eq k' kp' x0_0 x0_1_0 x0_1_1 x0_1_2 x0_1_3 x0_2 x0_3 x0_4 x0_5 x0_6).symm
end N38
end Go.Proofs.Yh

namespace Go.Proofs.Yh
open Go Go.Aw Go.Proofs
set_option maxRecDepth 100000
set_option maxHeartbeats 4000000
namespace N61
noncomputable def cfg : Cfg := { P := Try.prog, ty := tys, E := tab [], atSeq := tab [], atLoop := tab [], outs := [], eqT := tab [], bT := tab [] }
noncomputable def body : Code := bodyOf Try.f61
def c (x0 x1_0 : Int) (x1_1_0 x1_1_1 : Int) (x1_1_2 x1_1_3 : Int) (x1_2 : Zq6) (x1_3 : BA) (x1_4 : Int) (x1_5 : LB) (x1_6 : LI) (k : BA → Prop) : Prop :=
  (br (decide (x0 < ((((x1_5).length : Nat) : Int)))) ((inB 0 x0 ((((x1_5).length : Nat) : Int) - 1)) ∧ (k (x1_5.getD (Int.toNat x0) (ByteArray.empty)))) (k (ByteArray.mk #[])))
def f0 (x0 x1_0 : Int) (x1_1_0 x1_1_1 : Int) (x1_1_2 x1_1_3 : Int) (x1_2 : Zq6) (x1_3 : BA) (x1_4 : Int) (x1_5 : LB) (x1_6 : LI) (k : BA → Prop) : Prop := c x0 x1_0 x1_1_0 x1_1_1 x1_1_2 x1_1_3 x1_2 x1_3 x1_4 x1_5 x1_6 k
theorem f_ex : ∃ g, g = f0 := ⟨_, rfl⟩
noncomputable def f := Classical.choose f_ex
theorem f_def : f = f0 := Classical.choose_spec f_ex
noncomputable def JJ (k kp : KT) : Nat → St → Prop := pick none' []
noncomputable def LL (k kp : KT) : Nat → St → Prop := pick none' []
theorem c_c (k kp : KT) (J L : Nat → St → Prop) (x0 x1_0 : Int) (x1_1_0 x1_1_1 : Int) (x1_1_2 x1_1_3 : Int) (x1_2 : Zq6) (x1_3 : BA) (x1_4 : Int) (x1_5 : LB) (x1_6 : LI) : runC cfg 1000001 J L none'' [] body (topK cfg Try.f61 k kp) (st0 Try.f61 [(.v (.int .i64 x0)), (.fp [(.v (.int .i64 x1_0)), (.v (.int .i64 x1_1_0)), (.v (.int .i64 x1_1_1)), (.v (.int .i64 x1_1_2)), (.v (.int .i64 x1_1_3)), (.fz Zy0 x1_2), (.v (.string x1_3)), (.v (.int .i64 x1_4)), (.fz Ty.str x1_5), (.fz Zy2 x1_6)])] []) = c x0 x1_0 x1_1_0 x1_1_1 x1_1_2 x1_1_3 x1_2 x1_3 x1_4 x1_5 x1_6 (fun y0 => k (.v (.string y0)) []) := by kernel_rfl
theorem c_ag (k kp : KT) : agPL cfg 1000001 (JJ k kp) (LL k kp) [] body = agPR cfg 1000001 none'' [] body (topK cfg Try.f61 k kp) := by kernel_rfl
theorem body_is : Try.f61.body = some body := by kernel_rfl
theorem c_raw (k kp : KT) (x0 x1_0 : Int) (x1_1_0 x1_1_1 : Int) (x1_1_2 x1_1_3 : Int) (x1_2 : Zq6) (x1_3 : BA) (x1_4 : Int) (x1_5 : LB) (x1_6 : LI) : funW cfg Try.f61 [(.v (.int .i64 x0)), (.fp [(.v (.int .i64 x1_0)), (.v (.int .i64 x1_1_0)), (.v (.int .i64 x1_1_1)), (.v (.int .i64 x1_1_2)), (.v (.int .i64 x1_1_3)), (.fz Zy0 x1_2), (.v (.string x1_3)), (.v (.int .i64 x1_4)), (.fz Ty.str x1_5), (.fz Zy2 x1_6)])] [] k kp = c x0 x1_0 x1_1_0 x1_1_1 x1_1_2 x1_1_3 x1_2 x1_3 x1_4 x1_5 x1_6 (fun y0 => k (.v (.string y0)) []) :=
  Eq.mp (by kernel_rfl) ((funW_run (AG := none'') body_is (c_ag k kp) [(.v (.int .i64 x0)), (.fp [(.v (.int .i64 x1_0)), (.v (.int .i64 x1_1_0)), (.v (.int .i64 x1_1_1)), (.v (.int .i64 x1_1_2)), (.v (.int .i64 x1_1_3)), (.fz Zy0 x1_2), (.v (.string x1_3)), (.v (.int .i64 x1_4)), (.fz Ty.str x1_5), (.fz Zy2 x1_6)])] []).trans (c_c k kp (JJ k kp) (LL k kp) x0 x1_0 x1_1_0 x1_1_1 x1_1_2 x1_1_3 x1_2 x1_3 x1_4 x1_5 x1_6))
theorem f_eq (k kp : KT) (x0 x1_0 : Int) (x1_1_0 x1_1_1 : Int) (x1_1_2 x1_1_3 : Int) (x1_2 : Zq6) (x1_3 : BA) (x1_4 : Int) (x1_5 : LB) (x1_6 : LI) : funW cfg Try.f61 [(.v (.int .i64 x0)), (.fp [(.v (.int .i64 x1_0)), (.v (.int .i64 x1_1_0)), (.v (.int .i64 x1_1_1)), (.v (.int .i64 x1_1_2)), (.v (.int .i64 x1_1_3)), (.fz Zy0 x1_2), (.v (.string x1_3)), (.v (.int .i64 x1_4)), (.fz Ty.str x1_5), (.fz Zy2 x1_6)])] [] k kp = f x0 x1_0 x1_1_0 x1_1_1 x1_1_2 x1_1_3 x1_2 x1_3 x1_4 x1_5 x1_6 (fun y0 => k (.v (.string y0)) []) := by
  rw [f_def, c_raw]; rfl
noncomputable def ent0 : Entry := fun args blks k _ => match args, blks with
  | [d0, d1], [] => aInt IntKind.i64 d0 fun x0 => aFp 10 d1 fun l => aCons l fun d1_0 l => aCons l fun d1_1 l => aCons l fun d1_2 l => aCons l fun d1_3 l => aCons l fun d1_4 l => aCons l fun d1_5 l => aCons l fun d1_6 l => aCons l fun d1_7 l => aCons l fun d1_8 l => aCons l fun d1_9 l => aNil l (aInt IntKind.i64 d1_0 fun x1_0 => aInt IntKind.i64 d1_1 fun x1_1_0 => aInt IntKind.i64 d1_2 fun x1_1_1 => aInt IntKind.i64 d1_3 fun x1_1_2 => aInt IntKind.i64 d1_4 fun x1_1_3 => aFz Zy0 d1_5 fun x1_2 => aStr d1_6 fun x1_3 => aInt IntKind.i64 d1_7 fun x1_4 => aFz Ty.str d1_8 fun x1_5 => aFz Zy2 d1_9 fun x1_6 => f x0 x1_0 x1_1_0 x1_1_1 x1_1_2 x1_1_3 x1_2 x1_3 x1_4 x1_5 x1_6 (fun y0 => k (.v (.string y0)) []))
  | _, _ => False
noncomputable def ent : Entry := fun args blks k kp => ent0 (convB [.no, .cells [none, none, none, none, none, some Zy0, none, none, some Ty.str, some Zy2]] args) blks k kp
theorem ok : EntOk Try.prog 0 0 61 ent := by
  refine EntOk.convB (EntOk.of (funW_ok (cfg := cfg) (tyOk_of rfl rfl tyL_ok) (eqOk_of (P := Try.prog) rfl rfl (by kernel_rfl)) mixed_ok (tab_ok ?_) Try.func61 (by rfl) (by rfl)) ?_) _
  · intro p hp
    cases hp
  · intro args blks k kp h k' kp'
    match args, blks, h with
    | [d0, d1], [], h =>
    dsimp only [ent0] at h
    have h9 := aInt_elim h; clear h; obtain ⟨x0, rfl, h⟩ := h9
    have h9 := aFp_elim h; clear h; obtain ⟨_, rfl, h⟩ := h9
    have h9 := aCons_elim h; clear h; obtain ⟨d1_0, _, rfl, h⟩ := h9
    have h9 := aCons_elim h; clear h; obtain ⟨d1_1, _, rfl, h⟩ := h9
    have h9 := aCons_elim h; clear h; obtain ⟨d1_2, _, rfl, h⟩ := h9
    have h9 := aCons_elim h; clear h; obtain ⟨d1_3, _, rfl, h⟩ := h9
    have h9 := aCons_elim h; clear h; obtain ⟨d1_4, _, rfl, h⟩ := h9
    have h9 := aCons_elim h; clear h; obtain ⟨d1_5, _, rfl, h⟩ := h9
    have h9 := aCons_elim h; clear h; obtain ⟨d1_6, _, rfl, h⟩ := h9
    have h9 := aCons_elim h; clear h; obtain ⟨d1_7, _, rfl, h⟩ := h9
    have h9 := aCons_elim h; clear h; obtain ⟨d1_8, _, rfl, h⟩ := h9
    have h9 := aCons_elim h; clear h; obtain ⟨d1_9, _, rfl, h⟩ := h9
    have h9 := aNil_elim h; clear h; obtain ⟨rfl, h⟩ := h9
    have h9 := aInt_elim h; clear h; obtain ⟨x1_0, rfl, h⟩ := h9
    have h9 := aInt_elim h; clear h; obtain ⟨x1_1_0, rfl, h⟩ := h9
    have h9 := aInt_elim h; clear h; obtain ⟨x1_1_1, rfl, h⟩ := h9
    have h9 := aInt_elim h; clear h; obtain ⟨x1_1_2, rfl, h⟩ := h9
    have h9 := aInt_elim h; clear h; obtain ⟨x1_1_3, rfl, h⟩ := h9
    have h9 := aFz_elim (t := Zy0) h; clear h; obtain ⟨x1_2, rfl, h⟩ := h9
    have h9 := aStr_elim h; clear h; obtain ⟨x1_3, rfl, h⟩ := h9
    have h9 := aInt_elim h; clear h; obtain ⟨x1_4, rfl, h⟩ := h9
    have h9 := aFz_elim (t := Ty.str) h; clear h; obtain ⟨x1_5, rfl, h⟩ := h9
    have h9 := aFz_elim (t := Zy2) h; clear h; obtain ⟨x1_6, rfl, h⟩ := h9
    exact (f_eq k' kp' x0 x1_0 x1_1_0 x1_1_1 x1_1_2 x1_1_3 x1_2 x1_3 x1_4 x1_5 x1_6).symm
end N61
end Go.Proofs.Yh

namespace Go.Proofs.Yh
open Go Go.Aw Go.Proofs
set_option maxRecDepth 100000
set_option maxHeartbeats 4000000
namespace N39
noncomputable def cfg : Cfg := { P := Try.prog, ty := tys, E := tab [(43, N43.ent), (61, N61.ent)], atSeq := tab [(8, ⟨[(1, .keep), (3, .keep), (4, .keep)]⟩)], atLoop := tab [(4, ⟨[(1, .keep), (3, .own 9 Ty.str), (4, .keep), (9, .keep), (10, .keep), (11, .keep)]⟩)], outs := [], eqT := tab [], bT := tab [], fzB := [1] }
noncomputable def body : Code := bodyOf Try.f39
def l4 (j8 : Int → Int → Int → Int → Int → Zq6 → BA → Int → LB → LI → Int → Int → Int → Int → Int → Zq6 → BA → Int → LB → LI → LB → Prop) (ag4 : Int → LB → Prop) (x1_0 x1_1 : Int) (x1_2 x1_3 x1_4 : Int) (x1_5 : Zq6) (x1_6 : BA) (x1_7 : Int) (x1_8 : LB) (x1_9 : LI) (x4c0_0 x4c0_1 : Int) (x4c0_2 x4c0_3 x4c0_4 : Int) (x4c0_5 : Zq6) (x4c0_6 : BA) (x4c0_7 : Int) (x4c0_8 : LB) (x4c0_9 x9 : LI) (x10 x11 : Int) (b0 : LB) (k : LB → Prop) : Prop :=
  (br (decide (x11 < x10)) ((inB 0 x11 ((((x9).length : Nat) : Int) - 1)) ∧ (N43.f (x9.getD (Int.toNat x11) (0)) (fun (y0_0 : BA) => (((y0_0).size + ((ByteArray.mk #[58, 32])).size ≤ 9223372036854775807) ∧ (N61.f x11 x4c0_0 x4c0_1 x4c0_2 x4c0_3 x4c0_4 x4c0_5 x4c0_6 x4c0_7 x4c0_8 x4c0_9 (fun (y0_1 : BA) => ((((y0_0 ++ (ByteArray.mk #[58, 32]))).size + (y0_1).size ≤ 9223372036854775807) ∧ ((room ((b0).length + (([((y0_0 ++ (ByteArray.mk #[58, 32])) ++ y0_1)] : List BA)).length) 16) ∧ (ag4 (IntKind.i64.wrap (x11 + (1 : Int))) (b0 ++ ([((y0_0 ++ (ByteArray.mk #[58, 32])) ++ y0_1)] : List BA))))))))))) (j8 x1_0 x1_1 x1_2 x1_3 x1_4 x1_5 x1_6 x1_7 x1_8 x1_9 x4c0_0 x4c0_1 x4c0_2 x4c0_3 x4c0_4 x4c0_5 x4c0_6 x4c0_7 x4c0_8 x4c0_9 b0))
def j8 (x1_0 x1_1 : Int) (x1_2 x1_3 x1_4 : Int) (x1_5 : Zq6) (x1_6 : BA) (x1_7 : Int) (x1_8 : LB) (x1_9 : LI) (x4c0_0 x4c0_1 : Int) (x4c0_2 x4c0_3 x4c0_4 : Int) (x4c0_5 : Zq6) (x4c0_6 : BA) (x4c0_7 : Int) (x4c0_8 : LB) (x4c0_9 : LI) (b0 : LB) (k : LB → Prop) : Prop :=
  (N61.f ((((x1_9).length : Nat) : Int)) x4c0_0 x4c0_1 x4c0_2 x4c0_3 x4c0_4 x4c0_5 x4c0_6 x4c0_7 x4c0_8 x4c0_9 (fun (y0_2 : BA) => ((((ByteArray.mk #[101, 108, 115, 101, 58, 32])).size + (y0_2).size ≤ 9223372036854775807) ∧ ((room ((b0).length + (([((ByteArray.mk #[101, 108, 115, 101, 58, 32]) ++ y0_2)] : List BA)).length) 16) ∧ (k (b0 ++ ([((ByteArray.mk #[101, 108, 115, 101, 58, 32]) ++ y0_2)] : List BA)))))))
def c (l4 : Int → Int → Int → Int → Int → Zq6 → BA → Int → LB → LI → Int → Int → Int → Int → Int → Zq6 → BA → Int → LB → LI → LI → Int → Int → LB → Prop) (x0_0 x0_1_0 : Int) (x0_1_1 x0_1_2 x0_1_3 : Int) (x0_2 : Zq6) (x0_3 : BA) (x0_4 : Int) (x0_5 : LB) (x0_6 : LI) (k : LB → Prop) : Prop :=
  (l4 x0_0 x0_1_0 x0_1_1 x0_1_2 x0_1_3 x0_2 x0_3 x0_4 x0_5 x0_6 x0_0 x0_1_0 x0_1_1 x0_1_2 x0_1_3 x0_2 x0_3 x0_4 x0_5 x0_6 x0_6 ((((x0_6).length : Nat) : Int)) (0 : Int) ([] : List BA))
def j8' (x1_0 x1_1 : Int) (x1_2 x1_3 x1_4 : Int) (x1_5 : Zq6) (x1_6 : BA) (x1_7 : Int) (x1_8 : LB) (x1_9 : LI) (x4c0_0 x4c0_1 : Int) (x4c0_2 x4c0_3 x4c0_4 : Int) (x4c0_5 : Zq6) (x4c0_6 : BA) (x4c0_7 : Int) (x4c0_8 : LB) (x4c0_9 : LI) (b0 : LB) (k : LB → Prop) : Prop := j8 x1_0 x1_1 x1_2 x1_3 x1_4 x1_5 x1_6 x1_7 x1_8 x1_9 x4c0_0 x4c0_1 x4c0_2 x4c0_3 x4c0_4 x4c0_5 x4c0_6 x4c0_7 x4c0_8 x4c0_9 b0 k
def l4' (x1_0 x1_1 : Int) (x1_2 x1_3 x1_4 : Int) (x1_5 : Zq6) (x1_6 : BA) (x1_7 : Int) (x1_8 : LB) (x1_9 : LI) (x4c0_0 x4c0_1 : Int) (x4c0_2 x4c0_3 x4c0_4 : Int) (x4c0_5 : Zq6) (x4c0_6 : BA) (x4c0_7 : Int) (x4c0_8 : LB) (x4c0_9 x9 : LI) (x10 x11 : Int) (b0 : LB) (k : LB → Prop) : Prop := ∃ n, loopS (fun (ag : (Int × LB) → Prop) (s : Int × LB) => l4 (fun x1_0 x1_1 x1_2 x1_3 x1_4 x1_5 x1_6 x1_7 x1_8 x1_9 x4c0_0 x4c0_1 x4c0_2 x4c0_3 x4c0_4 x4c0_5 x4c0_6 x4c0_7 x4c0_8 x4c0_9 b0 => j8' x1_0 x1_1 x1_2 x1_3 x1_4 x1_5 x1_6 x1_7 x1_8 x1_9 x4c0_0 x4c0_1 x4c0_2 x4c0_3 x4c0_4 x4c0_5 x4c0_6 x4c0_7 x4c0_8 x4c0_9 b0 k) (fun x11 b0 => ag (x11, b0)) x1_0 x1_1 x1_2 x1_3 x1_4 x1_5 x1_6 x1_7 x1_8 x1_9 x4c0_0 x4c0_1 x4c0_2 x4c0_3 x4c0_4 x4c0_5 x4c0_6 x4c0_7 x4c0_8 x4c0_9 x9 x10 s.1 s.2 k) n (x11, b0)
def f0 (x0_0 x0_1_0 : Int) (x0_1_1 x0_1_2 x0_1_3 : Int) (x0_2 : Zq6) (x0_3 : BA) (x0_4 : Int) (x0_5 : LB) (x0_6 : LI) (k : LB → Prop) : Prop := c (fun x1_0 x1_1 x1_2 x1_3 x1_4 x1_5 x1_6 x1_7 x1_8 x1_9 x4c0_0 x4c0_1 x4c0_2 x4c0_3 x4c0_4 x4c0_5 x4c0_6 x4c0_7 x4c0_8 x4c0_9 x9 x10 x11 b0 => l4' x1_0 x1_1 x1_2 x1_3 x1_4 x1_5 x1_6 x1_7 x1_8 x1_9 x4c0_0 x4c0_1 x4c0_2 x4c0_3 x4c0_4 x4c0_5 x4c0_6 x4c0_7 x4c0_8 x4c0_9 x9 x10 x11 b0 k) x0_0 x0_1_0 x0_1_1 x0_1_2 x0_1_3 x0_2 x0_3 x0_4 x0_5 x0_6 k
theorem f_ex : ∃ g, g = f0 := ⟨_, rfl⟩
noncomputable def f := Classical.choose f_ex
theorem f_def : f = f0 := Classical.choose_spec f_ex
def mL4 (x1_0 x1_1 : Int) (x1_2 x1_3 x1_4 : Int) (x1_5 : Zq6) (x1_6 : BA) (x1_7 : Int) (x1_8 : LB) (x1_9 : LI) (x4c0_0 x4c0_1 : Int) (x4c0_2 x4c0_3 x4c0_4 : Int) (x4c0_5 : Zq6) (x4c0_6 : BA) (x4c0_7 : Int) (x4c0_8 : LB) (x4c0_9 x9 : LI) (x10 x11 : Int) (b0 : LB) : St := { tmps := mkT 36 0 [(1, (.fp [(.v (.int .i64 x1_0)), (.v (.int .i64 x1_1)), (.v (.int .i64 x1_2)), (.v (.int .i64 x1_3)), (.v (.int .i64 x1_4)), (.fz Zy0 x1_5), (.v (.string x1_6)), (.v (.int .i64 x1_7)), (.fz Ty.str x1_8), (.fz Zy2 x1_9)])), (3, (.sl 0 0)), (4, (.clo 61 [] [(.fp [(.v (.int .i64 x4c0_0)), (.v (.int .i64 x4c0_1)), (.v (.int .i64 x4c0_2)), (.v (.int .i64 x4c0_3)), (.v (.int .i64 x4c0_4)), (.fz Zy0 x4c0_5), (.v (.string x4c0_6)), (.v (.int .i64 x4c0_7)), (.fz Ty.str x4c0_8), (.fz Zy2 x4c0_9)])])), (9, (.fz Zy2 x9)), (10, (.v (.int .i64 x10))), (11, (.v (.int .i64 x11)))], hp := [(.lst 9 Ty.str b0 0 false)], m := 0 }
def m8 (x1_0 x1_1 : Int) (x1_2 x1_3 x1_4 : Int) (x1_5 : Zq6) (x1_6 : BA) (x1_7 : Int) (x1_8 : LB) (x1_9 : LI) (x4c0_0 x4c0_1 : Int) (x4c0_2 x4c0_3 x4c0_4 : Int) (x4c0_5 : Zq6) (x4c0_6 : BA) (x4c0_7 : Int) (x4c0_8 : LB) (x4c0_9 : LI) (b0 : LB) : St := { tmps := mkT 36 0 [(1, (.fp [(.v (.int .i64 x1_0)), (.v (.int .i64 x1_1)), (.v (.int .i64 x1_2)), (.v (.int .i64 x1_3)), (.v (.int .i64 x1_4)), (.fz Zy0 x1_5), (.v (.string x1_6)), (.v (.int .i64 x1_7)), (.fz Ty.str x1_8), (.fz Zy2 x1_9)])), (3, (.sl 0 0)), (4, (.clo 61 [] [(.fp [(.v (.int .i64 x4c0_0)), (.v (.int .i64 x4c0_1)), (.v (.int .i64 x4c0_2)), (.v (.int .i64 x4c0_3)), (.v (.int .i64 x4c0_4)), (.fz Zy0 x4c0_5), (.v (.string x4c0_6)), (.v (.int .i64 x4c0_7)), (.fz Ty.str x4c0_8), (.fz Zy2 x4c0_9)])]))], hp := [(.lst 9 Ty.str b0 0 false)], m := 0 }
noncomputable def YL4 (k kp : KT) : (St → Prop) → St → Prop := loopB cfg (sub [1, 1, 1, 0, 1, 0, 0] body) (contK cfg (pick none' []) [1, 1, 1, 0, 1, 0] body (topK cfg Try.f39 k kp))
noncomputable def XL4 (k kp : KT) : St → Prop := fun st => ∃ n, loopN (YL4 k kp) n st
noncomputable def X8 (k kp : KT) : St → Prop := atP cfg (pick none' []) [1, 1, 1, 1] body (topK cfg Try.f39 k kp)
noncomputable def JJ_4 (k kp : KT) (ag4 : St → Prop) : Nat → St → Prop := pick none' [(8, X8 k kp)]
noncomputable def LL_4 (k kp : KT) (ag4 : St → Prop) : Nat → St → Prop := pick none' [(4, XL4 k kp)]
noncomputable def JJ (k kp : KT) : Nat → St → Prop := pick none' [(8, X8 k kp)]
noncomputable def LL (k kp : KT) : Nat → St → Prop := pick none' [(4, XL4 k kp)]
theorem j8_c (k kp : KT) (J L : Nat → St → Prop) (x1_0 x1_1 : Int) (x1_2 x1_3 x1_4 : Int) (x1_5 : Zq6) (x1_6 : BA) (x1_7 : Int) (x1_8 : LB) (x1_9 : LI) (x4c0_0 x4c0_1 : Int) (x4c0_2 x4c0_3 x4c0_4 : Int) (x4c0_5 : Zq6) (x4c0_6 : BA) (x4c0_7 : Int) (x4c0_8 : LB) (x4c0_9 : LI) (b0 : LB) : runC cfg 8 J L (pick none' []) [1, 1, 1, 1] body (topK cfg Try.f39 k kp) (m8 x1_0 x1_1 x1_2 x1_3 x1_4 x1_5 x1_6 x1_7 x1_8 x1_9 x4c0_0 x4c0_1 x4c0_2 x4c0_3 x4c0_4 x4c0_5 x4c0_6 x4c0_7 x4c0_8 x4c0_9 b0) = j8 x1_0 x1_1 x1_2 x1_3 x1_4 x1_5 x1_6 x1_7 x1_8 x1_9 x4c0_0 x4c0_1 x4c0_2 x4c0_3 x4c0_4 x4c0_5 x4c0_6 x4c0_7 x4c0_8 x4c0_9 b0 (fun z0 => k (.sl 0 0) [(.lst 9 Ty.str z0 0 false)]) := by kernel_rfl
theorem j8_ag (k kp : KT) : agPL cfg 8 (JJ k kp) (LL k kp) [1, 1, 1, 1] body = agPR cfg 8 (pick none' []) [1, 1, 1, 1] body (topK cfg Try.f39 k kp) := by kernel_rfl
theorem j8_raw (k kp : KT) (x1_0 x1_1 : Int) (x1_2 x1_3 x1_4 : Int) (x1_5 : Zq6) (x1_6 : BA) (x1_7 : Int) (x1_8 : LB) (x1_9 : LI) (x4c0_0 x4c0_1 : Int) (x4c0_2 x4c0_3 x4c0_4 : Int) (x4c0_5 : Zq6) (x4c0_6 : BA) (x4c0_7 : Int) (x4c0_8 : LB) (x4c0_9 : LI) (b0 : LB) : X8 k kp (m8 x1_0 x1_1 x1_2 x1_3 x1_4 x1_5 x1_6 x1_7 x1_8 x1_9 x4c0_0 x4c0_1 x4c0_2 x4c0_3 x4c0_4 x4c0_5 x4c0_6 x4c0_7 x4c0_8 x4c0_9 b0) = j8 x1_0 x1_1 x1_2 x1_3 x1_4 x1_5 x1_6 x1_7 x1_8 x1_9 x4c0_0 x4c0_1 x4c0_2 x4c0_3 x4c0_4 x4c0_5 x4c0_6 x4c0_7 x4c0_8 x4c0_9 b0 (fun z0 => k (.sl 0 0) [(.lst 9 Ty.str z0 0 false)]) :=
  Eq.mp (by kernel_rfl) ((atP_run (j8_ag k kp) (m8 x1_0 x1_1 x1_2 x1_3 x1_4 x1_5 x1_6 x1_7 x1_8 x1_9 x4c0_0 x4c0_1 x4c0_2 x4c0_3 x4c0_4 x4c0_5 x4c0_6 x4c0_7 x4c0_8 x4c0_9 b0)).trans (j8_c k kp (JJ k kp) (LL k kp) x1_0 x1_1 x1_2 x1_3 x1_4 x1_5 x1_6 x1_7 x1_8 x1_9 x4c0_0 x4c0_1 x4c0_2 x4c0_3 x4c0_4 x4c0_5 x4c0_6 x4c0_7 x4c0_8 x4c0_9 b0))
theorem j8_eq (k kp : KT) (x1_0 x1_1 : Int) (x1_2 x1_3 x1_4 : Int) (x1_5 : Zq6) (x1_6 : BA) (x1_7 : Int) (x1_8 : LB) (x1_9 : LI) (x4c0_0 x4c0_1 : Int) (x4c0_2 x4c0_3 x4c0_4 : Int) (x4c0_5 : Zq6) (x4c0_6 : BA) (x4c0_7 : Int) (x4c0_8 : LB) (x4c0_9 : LI) (b0 : LB) : X8 k kp (m8 x1_0 x1_1 x1_2 x1_3 x1_4 x1_5 x1_6 x1_7 x1_8 x1_9 x4c0_0 x4c0_1 x4c0_2 x4c0_3 x4c0_4 x4c0_5 x4c0_6 x4c0_7 x4c0_8 x4c0_9 b0) = j8' x1_0 x1_1 x1_2 x1_3 x1_4 x1_5 x1_6 x1_7 x1_8 x1_9 x4c0_0 x4c0_1 x4c0_2 x4c0_3 x4c0_4 x4c0_5 x4c0_6 x4c0_7 x4c0_8 x4c0_9 b0 (fun z0 => k (.sl 0 0) [(.lst 9 Ty.str z0 0 false)]) := by
  rw [j8_raw]; rfl
theorem l4_c (k kp : KT) (J L : Nat → St → Prop) (ag4 : St → Prop) (x1_0 x1_1 : Int) (x1_2 x1_3 x1_4 : Int) (x1_5 : Zq6) (x1_6 : BA) (x1_7 : Int) (x1_8 : LB) (x1_9 : LI) (x4c0_0 x4c0_1 : Int) (x4c0_2 x4c0_3 x4c0_4 : Int) (x4c0_5 : Zq6) (x4c0_6 : BA) (x4c0_7 : Int) (x4c0_8 : LB) (x4c0_9 x9 : LI) (x10 x11 : Int) (b0 : LB) : runC cfg 1000001 J L (pick none' [(4, ag4)]) [1, 1, 1, 0, 1, 0, 0] body (topK cfg Try.f39 k kp) (mL4 x1_0 x1_1 x1_2 x1_3 x1_4 x1_5 x1_6 x1_7 x1_8 x1_9 x4c0_0 x4c0_1 x4c0_2 x4c0_3 x4c0_4 x4c0_5 x4c0_6 x4c0_7 x4c0_8 x4c0_9 x9 x10 x11 b0) = l4 (fun x1_0 x1_1 x1_2 x1_3 x1_4 x1_5 x1_6 x1_7 x1_8 x1_9 x4c0_0 x4c0_1 x4c0_2 x4c0_3 x4c0_4 x4c0_5 x4c0_6 x4c0_7 x4c0_8 x4c0_9 b0 => J 8 (m8 x1_0 x1_1 x1_2 x1_3 x1_4 x1_5 x1_6 x1_7 x1_8 x1_9 x4c0_0 x4c0_1 x4c0_2 x4c0_3 x4c0_4 x4c0_5 x4c0_6 x4c0_7 x4c0_8 x4c0_9 b0)) (fun x11 b0 => ag4 (mL4 x1_0 x1_1 x1_2 x1_3 x1_4 x1_5 x1_6 x1_7 x1_8 x1_9 x4c0_0 x4c0_1 x4c0_2 x4c0_3 x4c0_4 x4c0_5 x4c0_6 x4c0_7 x4c0_8 x4c0_9 x9 x10 x11 b0)) x1_0 x1_1 x1_2 x1_3 x1_4 x1_5 x1_6 x1_7 x1_8 x1_9 x4c0_0 x4c0_1 x4c0_2 x4c0_3 x4c0_4 x4c0_5 x4c0_6 x4c0_7 x4c0_8 x4c0_9 x9 x10 x11 b0 (fun z0 => k (.sl 0 0) [(.lst 9 Ty.str z0 0 false)]) := by kernel_rfl
theorem l4_ag (k kp : KT) (ag4 : St → Prop) : agPL cfg 1000001 (JJ_4 k kp ag4) (LL_4 k kp ag4) [1, 1, 1, 0, 1, 0, 0] body = agPR cfg 1000001 (pick none' [(4, ag4)]) [1, 1, 1, 0, 1, 0, 0] body (topK cfg Try.f39 k kp) := by kernel_rfl
theorem l4_raw (k kp : KT) (ag4 : St → Prop) (x1_0 x1_1 : Int) (x1_2 x1_3 x1_4 : Int) (x1_5 : Zq6) (x1_6 : BA) (x1_7 : Int) (x1_8 : LB) (x1_9 : LI) (x4c0_0 x4c0_1 : Int) (x4c0_2 x4c0_3 x4c0_4 : Int) (x4c0_5 : Zq6) (x4c0_6 : BA) (x4c0_7 : Int) (x4c0_8 : LB) (x4c0_9 x9 : LI) (x10 x11 : Int) (b0 : LB) : YL4 k kp ag4 (mL4 x1_0 x1_1 x1_2 x1_3 x1_4 x1_5 x1_6 x1_7 x1_8 x1_9 x4c0_0 x4c0_1 x4c0_2 x4c0_3 x4c0_4 x4c0_5 x4c0_6 x4c0_7 x4c0_8 x4c0_9 x9 x10 x11 b0) = l4 (fun x1_0 x1_1 x1_2 x1_3 x1_4 x1_5 x1_6 x1_7 x1_8 x1_9 x4c0_0 x4c0_1 x4c0_2 x4c0_3 x4c0_4 x4c0_5 x4c0_6 x4c0_7 x4c0_8 x4c0_9 b0 => X8 k kp (m8 x1_0 x1_1 x1_2 x1_3 x1_4 x1_5 x1_6 x1_7 x1_8 x1_9 x4c0_0 x4c0_1 x4c0_2 x4c0_3 x4c0_4 x4c0_5 x4c0_6 x4c0_7 x4c0_8 x4c0_9 b0)) (fun x11 b0 => ag4 (mL4 x1_0 x1_1 x1_2 x1_3 x1_4 x1_5 x1_6 x1_7 x1_8 x1_9 x4c0_0 x4c0_1 x4c0_2 x4c0_3 x4c0_4 x4c0_5 x4c0_6 x4c0_7 x4c0_8 x4c0_9 x9 x10 x11 b0)) x1_0 x1_1 x1_2 x1_3 x1_4 x1_5 x1_6 x1_7 x1_8 x1_9 x4c0_0 x4c0_1 x4c0_2 x4c0_3 x4c0_4 x4c0_5 x4c0_6 x4c0_7 x4c0_8 x4c0_9 x9 x10 x11 b0 (fun z0 => k (.sl 0 0) [(.lst 9 Ty.str z0 0 false)]) :=
  Eq.mp (by kernel_rfl) ((atP_run (l4_ag k kp ag4) (mL4 x1_0 x1_1 x1_2 x1_3 x1_4 x1_5 x1_6 x1_7 x1_8 x1_9 x4c0_0 x4c0_1 x4c0_2 x4c0_3 x4c0_4 x4c0_5 x4c0_6 x4c0_7 x4c0_8 x4c0_9 x9 x10 x11 b0)).trans (l4_c k kp (JJ_4 k kp ag4) (LL_4 k kp ag4) ag4 x1_0 x1_1 x1_2 x1_3 x1_4 x1_5 x1_6 x1_7 x1_8 x1_9 x4c0_0 x4c0_1 x4c0_2 x4c0_3 x4c0_4 x4c0_5 x4c0_6 x4c0_7 x4c0_8 x4c0_9 x9 x10 x11 b0))
theorem l4_eq (k kp : KT) (x1_0 x1_1 : Int) (x1_2 x1_3 x1_4 : Int) (x1_5 : Zq6) (x1_6 : BA) (x1_7 : Int) (x1_8 : LB) (x1_9 : LI) (x4c0_0 x4c0_1 : Int) (x4c0_2 x4c0_3 x4c0_4 : Int) (x4c0_5 : Zq6) (x4c0_6 : BA) (x4c0_7 : Int) (x4c0_8 : LB) (x4c0_9 x9 : LI) (x10 x11 : Int) (b0 : LB) : XL4 k kp (mL4 x1_0 x1_1 x1_2 x1_3 x1_4 x1_5 x1_6 x1_7 x1_8 x1_9 x4c0_0 x4c0_1 x4c0_2 x4c0_3 x4c0_4 x4c0_5 x4c0_6 x4c0_7 x4c0_8 x4c0_9 x9 x10 x11 b0) = l4' x1_0 x1_1 x1_2 x1_3 x1_4 x1_5 x1_6 x1_7 x1_8 x1_9 x4c0_0 x4c0_1 x4c0_2 x4c0_3 x4c0_4 x4c0_5 x4c0_6 x4c0_7 x4c0_8 x4c0_9 x9 x10 x11 b0 (fun z0 => k (.sl 0 0) [(.lst 9 Ty.str z0 0 false)]) :=
  loop_eq (mk := fun (s : Int × LB) => mL4 x1_0 x1_1 x1_2 x1_3 x1_4 x1_5 x1_6 x1_7 x1_8 x1_9 x4c0_0 x4c0_1 x4c0_2 x4c0_3 x4c0_4 x4c0_5 x4c0_6 x4c0_7 x4c0_8 x4c0_9 x9 x10 s.1 s.2) (fun again s => by rw [l4_raw k kp again x1_0 x1_1 x1_2 x1_3 x1_4 x1_5 x1_6 x1_7 x1_8 x1_9 x4c0_0 x4c0_1 x4c0_2 x4c0_3 x4c0_4 x4c0_5 x4c0_6 x4c0_7 x4c0_8 x4c0_9 x9 x10 s.1 s.2]; simp only [j8_eq]; first | done | rfl) (x11, b0)
theorem c_c (k kp : KT) (J L : Nat → St → Prop) (x0_0 x0_1_0 : Int) (x0_1_1 x0_1_2 x0_1_3 : Int) (x0_2 : Zq6) (x0_3 : BA) (x0_4 : Int) (x0_5 : LB) (x0_6 : LI) : runC cfg 1000001 J L none'' [] body (topK cfg Try.f39 k kp) (st0 Try.f39 [(.agg [(.v (.int .i64 x0_0)), (.v (.int .i64 x0_1_0)), (.v (.int .i64 x0_1_1)), (.v (.int .i64 x0_1_2)), (.v (.int .i64 x0_1_3)), (.fz Zy0 x0_2), (.v (.string x0_3)), (.v (.int .i64 x0_4)), (.fz Ty.str x0_5), (.fz Zy2 x0_6)])] []) = c (fun x1_0 x1_1 x1_2 x1_3 x1_4 x1_5 x1_6 x1_7 x1_8 x1_9 x4c0_0 x4c0_1 x4c0_2 x4c0_3 x4c0_4 x4c0_5 x4c0_6 x4c0_7 x4c0_8 x4c0_9 x9 x10 x11 b0 => L 4 (mL4 x1_0 x1_1 x1_2 x1_3 x1_4 x1_5 x1_6 x1_7 x1_8 x1_9 x4c0_0 x4c0_1 x4c0_2 x4c0_3 x4c0_4 x4c0_5 x4c0_6 x4c0_7 x4c0_8 x4c0_9 x9 x10 x11 b0)) x0_0 x0_1_0 x0_1_1 x0_1_2 x0_1_3 x0_2 x0_3 x0_4 x0_5 x0_6 (fun z0 => k (.sl 0 0) [(.lst 9 Ty.str z0 0 false)]) := by kernel_rfl
theorem c_ag (k kp : KT) : agPL cfg 1000001 (JJ k kp) (LL k kp) [] body = agPR cfg 1000001 none'' [] body (topK cfg Try.f39 k kp) := by kernel_rfl
theorem body_is : Try.f39.body = some body := by kernel_rfl
theorem c_raw (k kp : KT) (x0_0 x0_1_0 : Int) (x0_1_1 x0_1_2 x0_1_3 : Int) (x0_2 : Zq6) (x0_3 : BA) (x0_4 : Int) (x0_5 : LB) (x0_6 : LI) : funW cfg Try.f39 [(.agg [(.v (.int .i64 x0_0)), (.v (.int .i64 x0_1_0)), (.v (.int .i64 x0_1_1)), (.v (.int .i64 x0_1_2)), (.v (.int .i64 x0_1_3)), (.fz Zy0 x0_2), (.v (.string x0_3)), (.v (.int .i64 x0_4)), (.fz Ty.str x0_5), (.fz Zy2 x0_6)])] [] k kp = c (fun x1_0 x1_1 x1_2 x1_3 x1_4 x1_5 x1_6 x1_7 x1_8 x1_9 x4c0_0 x4c0_1 x4c0_2 x4c0_3 x4c0_4 x4c0_5 x4c0_6 x4c0_7 x4c0_8 x4c0_9 x9 x10 x11 b0 => XL4 k kp (mL4 x1_0 x1_1 x1_2 x1_3 x1_4 x1_5 x1_6 x1_7 x1_8 x1_9 x4c0_0 x4c0_1 x4c0_2 x4c0_3 x4c0_4 x4c0_5 x4c0_6 x4c0_7 x4c0_8 x4c0_9 x9 x10 x11 b0)) x0_0 x0_1_0 x0_1_1 x0_1_2 x0_1_3 x0_2 x0_3 x0_4 x0_5 x0_6 (fun z0 => k (.sl 0 0) [(.lst 9 Ty.str z0 0 false)]) :=
  Eq.mp (by kernel_rfl) ((funW_run (AG := none'') body_is (c_ag k kp) [(.agg [(.v (.int .i64 x0_0)), (.v (.int .i64 x0_1_0)), (.v (.int .i64 x0_1_1)), (.v (.int .i64 x0_1_2)), (.v (.int .i64 x0_1_3)), (.fz Zy0 x0_2), (.v (.string x0_3)), (.v (.int .i64 x0_4)), (.fz Ty.str x0_5), (.fz Zy2 x0_6)])] []).trans (c_c k kp (JJ k kp) (LL k kp) x0_0 x0_1_0 x0_1_1 x0_1_2 x0_1_3 x0_2 x0_3 x0_4 x0_5 x0_6))
theorem f_eq (k kp : KT) (x0_0 x0_1_0 : Int) (x0_1_1 x0_1_2 x0_1_3 : Int) (x0_2 : Zq6) (x0_3 : BA) (x0_4 : Int) (x0_5 : LB) (x0_6 : LI) : funW cfg Try.f39 [(.agg [(.v (.int .i64 x0_0)), (.v (.int .i64 x0_1_0)), (.v (.int .i64 x0_1_1)), (.v (.int .i64 x0_1_2)), (.v (.int .i64 x0_1_3)), (.fz Zy0 x0_2), (.v (.string x0_3)), (.v (.int .i64 x0_4)), (.fz Ty.str x0_5), (.fz Zy2 x0_6)])] [] k kp = f x0_0 x0_1_0 x0_1_1 x0_1_2 x0_1_3 x0_2 x0_3 x0_4 x0_5 x0_6 (fun z0 => k (.sl 0 0) [(.lst 9 Ty.str z0 0 false)]) := by
  rw [f_def, c_raw]; simp only [l4_eq]; first | done | rfl
noncomputable def ent0 : Entry := fun args blks k _ => match args, blks with
  | [d0], [] => aAgg 10 d0 fun l => aCons l fun d0_0 l => aCons l fun d0_1 l => aCons l fun d0_2 l => aCons l fun d0_3 l => aCons l fun d0_4 l => aCons l fun d0_5 l => aCons l fun d0_6 l => aCons l fun d0_7 l => aCons l fun d0_8 l => aCons l fun d0_9 l => aNil l (aInt IntKind.i64 d0_0 fun x0_0 => aInt IntKind.i64 d0_1 fun x0_1_0 => aInt IntKind.i64 d0_2 fun x0_1_1 => aInt IntKind.i64 d0_3 fun x0_1_2 => aInt IntKind.i64 d0_4 fun x0_1_3 => aFz Zy0 d0_5 fun x0_2 => aStr d0_6 fun x0_3 => aInt IntKind.i64 d0_7 fun x0_4 => aFz Ty.str d0_8 fun x0_5 => aFz Zy2 d0_9 fun x0_6 => f x0_0 x0_1_0 x0_1_1 x0_1_2 x0_1_3 x0_2 x0_3 x0_4 x0_5 x0_6 (fun z0 => k (.sl 0 0) [(.lst 9 Ty.str z0 0 false)]))
  | _, _ => False
noncomputable def ent : Entry := fun args blks k kp => ent0 (convB [.cells [none, none, none, none, none, some Zy0, none, none, some Ty.str, some Zy2]] args) blks k kp
theorem ok : EntOk Try.prog 0 0 39 ent := by
  refine EntOk.convB (EntOk.of (funW_ok (cfg := cfg) (tyOk_of rfl rfl tyL_ok) (eqOk_of (P := Try.prog) rfl rfl (by kernel_rfl)) mixed_ok (tab_ok ?_) Try.func39 (by rfl) (by rfl)) ?_) _
  · intro p hp
    simp only [List.mem_cons, List.not_mem_nil, or_false] at hp
    rcases hp with rfl | rfl
    · exact N43.ok
    · exact N61.ok
  · intro args blks k kp h k' kp'
    match args, blks, h with
    | [d0], [], h =>
    dsimp only [ent0] at h
    have h9 := aAgg_elim h; clear h; obtain ⟨_, rfl, h⟩ := h9
    have h9 := aCons_elim h; clear h; obtain ⟨d0_0, _, rfl, h⟩ := h9
    have h9 := aCons_elim h; clear h; obtain ⟨d0_1, _, rfl, h⟩ := h9
    have h9 := aCons_elim h; clear h; obtain ⟨d0_2, _, rfl, h⟩ := h9
    have h9 := aCons_elim h; clear h; obtain ⟨d0_3, _, rfl, h⟩ := h9
    have h9 := aCons_elim h; clear h; obtain ⟨d0_4, _, rfl, h⟩ := h9
    have h9 := aCons_elim h; clear h; obtain ⟨d0_5, _, rfl, h⟩ := h9
    have h9 := aCons_elim h; clear h; obtain ⟨d0_6, _, rfl, h⟩ := h9
    have h9 := aCons_elim h; clear h; obtain ⟨d0_7, _, rfl, h⟩ := h9
    have h9 := aCons_elim h; clear h; obtain ⟨d0_8, _, rfl, h⟩ := h9
    have h9 := aCons_elim h; clear h; obtain ⟨d0_9, _, rfl, h⟩ := h9
    have h9 := aNil_elim h; clear h; obtain ⟨rfl, h⟩ := h9
    have h9 := aInt_elim h; clear h; obtain ⟨x0_0, rfl, h⟩ := h9
    have h9 := aInt_elim h; clear h; obtain ⟨x0_1_0, rfl, h⟩ := h9
    have h9 := aInt_elim h; clear h; obtain ⟨x0_1_1, rfl, h⟩ := h9
    have h9 := aInt_elim h; clear h; obtain ⟨x0_1_2, rfl, h⟩ := h9
    have h9 := aInt_elim h; clear h; obtain ⟨x0_1_3, rfl, h⟩ := h9
    have h9 := aFz_elim (t := Zy0) h; clear h; obtain ⟨x0_2, rfl, h⟩ := h9
    have h9 := aStr_elim h; clear h; obtain ⟨x0_3, rfl, h⟩ := h9
    have h9 := aInt_elim h; clear h; obtain ⟨x0_4, rfl, h⟩ := h9
    have h9 := aFz_elim (t := Ty.str) h; clear h; obtain ⟨x0_5, rfl, h⟩ := h9
    have h9 := aFz_elim (t := Zy2) h; clear h; obtain ⟨x0_6, rfl, h⟩ := h9
    exact (f_eq k' kp' x0_0 x0_1_0 x0_1_1 x0_1_2 x0_1_3 x0_2 x0_3 x0_4 x0_5 x0_6).symm
end N39
end Go.Proofs.Yh

