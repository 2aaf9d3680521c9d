/- Any call is told as its name, and its arguments. -/
import Derived.Test.YtbfggnlonemmiaaNoC0
import Derived.Test.YtbfggnlonemmiaaRows
import Derived.Test.YtbfggnlonemmiaaT2
import Derived.WalkKit
import Derived.ProofKit
import Derived.OpenShut
import Derived.ShutString
import Derived.ChangeOld
import Derived.Below
import Derived.SizedLaws
import Derived.Deep.CondSized
namespace Go.Proofs.Yi
open Go Go.Aw Go.Proofs
set_option linter.unusedVariables false
set_option linter.unusedSimpArgs false
set_option maxRecDepth 100000
set_option maxHeartbeats 4000000
/-! dyehouse/dyehouselaw15.works -/
namespace N47
noncomputable def cfg : Cfg := { P := Try.prog, ty := tys, E := tab [(78, N78.ent), (79, N79.ent), (80, N80.ent), (48, N48.ent)], atSeq := tab [], atLoop := tab [], outs := [], eqT := tab [], bT := tab [] }
noncomputable def body : Code := bodyOf Try.f47
def c (k : Bool → Prop) : Prop :=
  (N78.f (8 : Int) (4 : Int) ([(1 : Int)] : List Int) ([(0 : Int)] : List Int) (64 : Int) (fun (y0_0 : ByteArray) => (br (beqS y0_0 (ByteArray.mk #[116, 97, 114, 103, 101, 116, 32, 103, 32, 56, 32, 120, 32, 52, 32, 115, 108, 111, 116, 115, 32, 54, 52, 32, 99, 108, 111, 98, 98, 101, 114, 32, 36, 103, 49, 32, 36, 120, 48, 59, 10])) (N79.f (2 : Int) (0 : Int) (4 : Int) (2 : Int) (0 : Int) (1 : Int) (fun (y0_1 : ByteArray) => (br (beqS y0_1 (ByteArray.mk #[48, 46, 46, 52, 32, 36, 103, 49])) (N80.f (1 : Int) ([((2 : Int), ((0 : Int), ((4 : Int), ((2 : Int), ((0 : Int), (1 : Int)))))), ((2 : Int), ((4 : Int), ((9 : Int), ((3 : Int), ((0 : Int), (0 : Int))))))] : List (Int × (Int × (Int × (Int × (Int × Int)))))) (fun (y0_2 : ByteArray) => (br (beqS y0_2 (ByteArray.mk #[97, 108, 108, 111, 99, 32, 115, 108, 111, 116, 115, 32, 49, 32, 123, 10, 32, 32, 37, 50, 58, 32, 48, 46, 46, 52, 32, 36, 103, 49, 44, 32, 52, 46, 46, 57, 32, 35, 48, 59, 10, 125, 10])) (N48.f (ByteArray.mk #[102]) ([(1 : Int), (-2 : Int)] : List Int) (fun (y0_3 : ByteArray) => (k (beqS y0_3 (ByteArray.mk #[102, 40, 49, 44, 32, 45, 50, 41]))))) (k false)))) (k false)))) (k false))))
def f0 (k : Bool → Prop) : Prop := c k
theorem f_ex : ∃ g : (Bool → Prop) → Prop, g = f0 := ⟨_, rfl⟩
noncomputable def f : (Bool → Prop) → Prop := Classical.choose f_ex
theorem f_def : f = f0 := Classical.choose_spec f_ex
noncomputable def JJ (k kp : D → List Blk → Prop) : Nat → St → Prop := pick none' []
noncomputable def LL (k kp : D → List Blk → Prop) : Nat → St → Prop := pick none' []
theorem c_c (k kp : D → List Blk → Prop) (J L : Nat → St → Prop) : runC cfg 1000001 J L none'' [] body (topK cfg Try.f47 k kp) (st0 Try.f47 [] []) = c (fun y0 => k (.v (.bool y0)) []) := by kernel_rfl
theorem c_ag (k kp : D → List Blk → Prop) : agPL cfg 1000001 (JJ k kp) (LL k kp) [] body = agPR cfg 1000001 none'' [] body (topK cfg Try.f47 k kp) := by kernel_rfl
theorem body_is : Try.f47.body = some body := by kernel_rfl
theorem c_raw (k kp : D → List Blk → Prop) : funW cfg Try.f47 [] [] k kp = c (fun y0 => k (.v (.bool y0)) []) :=
  Eq.mp (by kernel_rfl) ((funW_run (AG := none'') body_is (c_ag k kp) [] []).trans (c_c k kp (JJ k kp) (LL k kp)))
theorem f_eq (k kp : D → List Blk → Prop) : funW cfg Try.f47 [] [] k kp = f (fun y0 => k (.v (.bool y0)) []) := by
  rw [f_def, c_raw]; rfl
noncomputable def ent0 : Entry := fun args blks k _ => match args, blks with
  | [], [] => f (fun y0 => k (.v (.bool y0)) [])
  | _, _ => False
noncomputable def ent : Entry := fun args blks k kp => ent0 (convB [] args) blks k kp
theorem ok : EntOk Try.prog 0 0 47 ent := by
  refine EntOk.convB (EntOk.of (funW_ok (cfg := cfg) (tyOk_of rfl rfl tyL_ok) (eqOk_of (P := Try.prog) rfl rfl (by kernel_rfl)) mixed_ok (tab_ok ?_) Try.func47 (by rfl) (by rfl)) ?_) _
  · intro p hp
    simp only [List.mem_cons, List.not_mem_nil, or_false] at hp
    rcases hp with rfl | rfl | rfl | rfl
    · exact N78.ok
    · exact N79.ok
    · exact N80.ok
    · exact N48.ok
  · intro args blks k kp h k' kp'
    match args, blks, h with
    | [], [], h =>
    dsimp only [ent0] at h
    exact (f_eq k' kp').symm
end N47
end Go.Proofs.Yi
namespace Go.Proofs.Yi
open Go Go.Aw Go.Proofs Go.RowKit
set_option linter.unusedVariables false
set_option linter.unusedSimpArgs false

theorem put_b (n : Int) (hn : in64 n) (k : ByteArray → Prop) (h : k (putB n)) : N62.f n k := put_s n hn k h
theorem putr_b (n : Int) (hn : in64 n) (k : ByteArray → Prop) (h : k (putB n)) : N63.f n k := putr_s n hn k h
theorem getD_in {l : List Int} (hl : ∀ x ∈ l, in64 x) {i : Nat} (h : i < l.length) : in64 (l.getD i 0) := hl _ (getD_memA h)

theorem call_s (name : ByteArray) (args : List Int) (hn : name.size ≤ 1000000) (ha : args.length ≤ 1000000) (hi : ∀ x ∈ args, in64 x) (k : ByteArray → Prop) (h : k (callS name args)) : N48.f name args k := by
  rw [N48.f_def]
  unfold N48.f0 N48.c N48.l3'
  refine loopS_of (fun s : Int × List ByteArray => ∃ i : Nat, s.1 = i ∧ i ≤ args.length ∧ s.2 = (args.take i).map putB) (fun s => args.length - s.1.toNat) ?_ ⟨0, rfl, Nat.zero_le _, rfl⟩
  rintro again ⟨x, b⟩ ⟨i, e1, hi2, e2⟩ hag
  simp only at e1 e2 hag
  subst e1; subst e2
  unfold N48.l3 N48.j7' N48.j7
  dsimp only
  refine br_of (fun hlt => ?_) (fun hge => ?_)
  · have hlt := lenlt.1 hlt
    refine ⟨inBk hlt, put_b _ (getD_in hi (by simpa using hlt)) _ ⟨by unfold room; simp; omega, ?_⟩⟩
    rw [wrap_id (by omega) (by omega)]
    refine hag _ ⟨i + 1, by simp, by omega, ?_⟩ (by simp only; omega)
    rw [take_map_snoc (d := 0) hlt]
    rfl
  · have hge : i = args.length := by simp at hge; omega
    subst hge
    rw [List.take_length]
    have h3 := szL_le (xs := args.map putB) (n := 23) (fun x hx => by obtain ⟨s, _, rfl⟩ := List.mem_map.1 hx; have := putB_size s; omega)
    rw [List.length_map] at h3
    have h4 := joinB_size (sep := cbB) (by show (2 : Nat) ≤ 2; omega) (args.map putB)
    have e1 : (ByteArray.mk #[40]).size = 1 := rfl
    have e2 : (ByteArray.mk #[41]).size = 1 := rfl
    refine ⟨by omega, jn_of (by show (2 : Nat) ≤ 2; omega) (by omega) ⟨?_, ?_, h⟩⟩
    · show _ + (joinB (args.map putB) cbB).size ≤ _
      rw [ByteArray.size_append]; omega
    · show (_ ++ joinB (args.map putB) cbB).size + _ ≤ _
      rw [ByteArray.size_append, ByteArray.size_append]; omega

theorem callr_s (name : ByteArray) (args : List Int) (hn : name.size ≤ 1000000) (ha : args.length ≤ 1000000) (hi : ∀ x ∈ args, in64 x) (k : ByteArray → Prop) (h : k (callS name args)) : N49.f name args k := by
  rw [N49.f_def]
  unfold N49.f0 N49.c N49.l3'
  have e1 : (ByteArray.mk #[40]).size = 1 := rfl
  have e2 : (ByteArray.mk #[41]).size = 1 := rfl
  have e3 : (ByteArray.mk #[44, 32]).size = 2 := rfl
  have h3 := szL_le (xs := args.map putB) (n := 23) (fun x hx => by obtain ⟨s, _, rfl⟩ := List.mem_map.1 hx; have := putB_size s; omega)
  rw [List.length_map] at h3
  refine ⟨by omega, ?_⟩
  refine loopS_of (fun s : ByteArray × Int => ∃ i : Nat, s.2 = i ∧ i ≤ args.length ∧ s.1 = name ++ ByteArray.mk #[40] ++ joinB ((args.take i).map putB) cbB) (fun s => args.length - s.2.toNat) ?_ ⟨0, rfl, Nat.zero_le _, by rw [List.take_zero, List.map_nil, joinB_nil]; simp⟩
  rintro again ⟨b, x⟩ ⟨i, e4, hi2, e5⟩ hag
  simp only at e4 e5 hag
  subst e4; subst e5
  unfold N49.l3 N49.j7' N49.j7 N49.j8' N49.j8 N49.j4' N49.j4
  dsimp only
  have h4 := joinB_size (sep := cbB) (by show (2 : Nat) ≤ 2; omega) ((args.take i).map putB)
  have h5 : szL ((args.take i).map putB) ≤ szL (args.map putB) := by rw [List.map_take]; exact szL_take _ _
  refine br_of (fun hlt => ?_) (fun hge => ?_)
  · have hlt := lenlt.1 hlt
    have hs := joinB_snoc cbB ((args.take i).map putB) (putB (args.getD i 0))
    rw [← take_map_snoc (d := 0) hlt] at hs
    have h6 := putB_size (args.getD i 0)
    rw [wrap_id (by omega) (by omega)]
    refine br_of (fun hp => ?_) (fun hz => ?_)
    · have hp : 0 < i := by simp at hp; omega
      refine ⟨by rw [ByteArray.size_append, ByteArray.size_append]; omega, inBk hlt, putr_b _ (getD_in hi (by simpa using hlt)) _ ⟨?_, hag _ ⟨i + 1, by simp, by omega, ?_⟩ (by simp only; omega)⟩⟩
      · show _ + (putB (args.getD i 0)).size ≤ _
        rw [ByteArray.size_append, ByteArray.size_append, ByteArray.size_append]; omega
      · rw [if_neg (by intro e; have := congrArg List.length e; rw [List.length_map, List.length_take, List.length_nil] at this; omega)] at hs
        rw [hs]
        simp only [ByteArray.append_assoc]
        rfl
    · have hz : i = 0 := by simp at hz; omega
      subst hz
      refine ⟨inBk hlt, putr_b _ (getD_in hi (by simpa using hlt)) _ ⟨?_, hag _ ⟨1, by simp, by omega, ?_⟩ (by simp only; omega)⟩⟩
      · show _ + (putB (args.getD 0 0)).size ≤ _
        rw [ByteArray.size_append, ByteArray.size_append]; omega
      · rw [List.take_zero, List.map_nil, if_pos rfl] at hs
        rw [hs, List.take_zero, List.map_nil, joinB_nil, ByteArray.append_empty]
        rfl
  · have hge : i = args.length := by simp at hge; omega
    subst hge
    rw [List.take_length] at h4 ⊢
    refine ⟨?_, h⟩
    rw [ByteArray.size_append, ByteArray.size_append]; omega
theorem seg_s (s : SegT) (ok : segOk s) (k : ByteArray → Prop) (h : k (segS s)) : N79.f s.1 s.2.1 s.2.2.1 s.2.2.2.1 s.2.2.2.2.1 s.2.2.2.2.2 k := by
  obtain ⟨_, o1, o2, _, _, o3⟩ := ok
  rw [N79.f_def]
  unfold N79.f0 N79.c
  have h1 := putB_size s.2.1
  have h2 := putB_size s.2.2.1
  have h3 := nameI_size s.2.2.2.1 s.2.2.2.2.1 s.2.2.2.2.2
  have e1 : (ByteArray.mk #[46, 46]).size = 2 := rfl
  have e2 : (ByteArray.mk #[32]).size = 1 := rfl
  refine put_b _ o1 _ ⟨by omega, put_b _ o2 _ ⟨?_, ?_, name_s _ _ _ o3 _ ⟨?_, h⟩⟩⟩
  · rw [ByteArray.size_append]; omega
  · rw [ByteArray.size_append, ByteArray.size_append]; omega
  · rw [ByteArray.size_append, ByteArray.size_append, ByteArray.size_append]; omega

theorem vreg_s (n : Int) (hn : in64 n) (k : ByteArray → Prop) (h : k (ByteArray.mk #[37] ++ putB n)) : N90.f n k := by
  rw [N90.f_def]
  unfold N90.f0 N90.c
  have := putB_size n
  exact put_b _ hn _ ⟨by have e1 : (ByteArray.mk #[37]).size = 1 := rfl
                         omega, h⟩
set_option maxHeartbeats 1000000 in
theorem alloc_s (slots : Int) (l : List SegT) (hs : in64 slots) (hl : l.length ≤ 10000) (ok : ∀ s ∈ l, segOk s) (k : ByteArray → Prop) (h : k (allocS slots l)) : N80.f slots l k := by
  rw [N80.f_def]
  unfold N80.f0 N80.c
  have z0 := putB_size slots
  have e1 : (ByteArray.mk #[97, 108, 108, 111, 99, 32, 115, 108, 111, 116, 115, 32]).size = 12 := rfl
  have e2 : (ByteArray.mk #[32, 123, 10]).size = 3 := rfl
  have e3 : (ByteArray.mk #[125, 10]).size = 2 := rfl
  have e4 : (ByteArray.mk #[32, 32]).size = 2 := rfl
  have e5 : (ByteArray.mk #[37]).size = 1 := rfl
  have e6 : (ByteArray.mk #[58, 32]).size = 2 := rfl
  have e7 : (ByteArray.mk #[59, 10]).size = 2 := rfl
  have e8 : (ByteArray.mk #[44, 32]).size = 2 := rfl
  have e9 : ByteArray.empty.size = 0 := rfl
  rw [N88.f_def]
  unfold N88.f0 N88.c
  refine put_b _ hs _ ⟨by omega, ws_b (by rw [ByteArray.size_append]; omega) (ws_b (by simp only [ByteArray.size_append]; omega) ⟨by omega, ?_⟩)⟩
  rw [ByteArray.empty_append]
  obtain ⟨hRl, hRm⟩ := rowsOf_len Prod.fst l
  have hmem := @rows_mem l
  have hpos := @rows_pos l
  unfold allocS at h
  generalize rowsOf Prod.fst l = R at *
  generalize hpre : ByteArray.mk #[97, 108, 108, 111, 99, 32, 115, 108, 111, 116, 115, 32] ++ putB slots ++ ByteArray.mk #[32, 123, 10] = pre at *
  have hpz : pre.size ≤ 40 := by rw [← hpre]; simp only [ByteArray.size_append]; omega
  have hR3 := szL_le (xs := R.map rowS) (n := 32 + 70 * 10000) (fun x hx => by obtain ⟨r, hr, rfl⟩ := List.mem_map.1 hx; have := rowS_size r; have := hRm r hr; omega)
  rw [List.length_map] at hR3
  have hR4 : R.length * (32 + 70 * 10000) ≤ 10000 * (32 + 70 * 10000) := Nat.mul_le_mul_right _ (by omega)
  unfold N80.l5'
  refine loopS_of (fun s : Int × ByteArray => ∃ i : Nat, s.1 = i ∧ i ≤ R.length ∧ s.2 = pre ++ catB ((R.take i).map rowS)) (fun s => R.length - s.1.toNat) ?_ ⟨0, rfl, Nat.zero_le _, by rw [List.take_zero, List.map_nil, catB_nil]; simp⟩
  rintro again ⟨x, b⟩ ⟨i, f1, hi, f2⟩ hag
  simp only at f1 f2 hag
  subst f1
  unfold N80.l5 N80.j17' N80.j17
  dsimp only
  have g1 := catB_size ((R.take i).map rowS)
  have g2 : szL ((R.take i).map rowS) ≤ szL (R.map rowS) := by rw [List.map_take]; exact szL_take _ _
  have hbz : b.size ≤ 8000000000 := by rw [f2, ByteArray.size_append]; omega
  refine br_of (fun hlt => ?_) (fun hge => ?_)
  · have hlt := lenlt.1 hlt
    have hrm : R.getD i [] ∈ R := getD_memA hlt
    have hr0 := hpos hrm
    have hrl := hRm _ hrm
    simp only [Int.toNat_natCast]
    generalize hr : R.getD i [] = r at *
    have hrp : 0 < r.length := List.length_pos_iff.2 hr0
    have okr : ∀ s ∈ r, segOk s := fun s hs => ok s (hmem hrm hs)
    refine ⟨inBk hlt, inBk hrp, vreg_s _ (okr _ (getD_memA (d := dS) hrp)).1 _ ?_⟩
    have z1 := putB_size (r.getD 0 dS).1
    refine ⟨by rw [ByteArray.size_append]; show _ + (1 + (putB (r.getD 0 dS).1).size) ≤ _; omega, ?_, ws_b ?_ ?_⟩
    · simp only [ByteArray.size_append]; show (_ + (_ + (putB (r.getD 0 dS).1).size)) + _ ≤ _; omega
    · simp only [ByteArray.size_append]; show _ + ((_ + (_ + (putB (r.getD 0 dS).1).size)) + _) ≤ _; omega
    · have hj := szL_le (xs := r.map segS) (n := 70) (fun x hx => by obtain ⟨s, _, rfl⟩ := List.mem_map.1 hx; have := segS_size s; omega)
      rw [List.length_map] at hj
      generalize hhead : ByteArray.mk #[32, 32] ++ (ByteArray.mk #[37] ++ putB (r.getD 0 dS).1) ++ ByteArray.mk #[58, 32] = head at *
      have hhz : head.size ≤ 30 := by rw [← hhead]; simp only [ByteArray.size_append]; omega
      unfold N80.l9'
      refine loopS_of (fun s : Int × ByteArray => ∃ j : Nat, s.1 = j ∧ j ≤ r.length ∧ s.2 = b ++ head ++ joinB ((r.take j).map segS) cbB) (fun s => r.length - s.1.toNat) ?_ ⟨0, rfl, Nat.zero_le _, by rw [List.take_zero, List.map_nil, joinB_nil]; simp⟩
      rintro again2 ⟨x, b2⟩ ⟨j, f3, hj2, f4⟩ hag2
      simp only at f3 f4 hag2
      subst f3
      unfold N80.l9 N80.j13' N80.j13 N80.j14' N80.j14 N80.j15' N80.j15 N80.j16' N80.j16
      dsimp only
      have g3 := joinB_size (sep := cbB) (by show (2 : Nat) ≤ 2; omega) ((r.take j).map segS)
      have g4 : szL ((r.take j).map segS) ≤ szL (r.map segS) := by rw [List.map_take]; exact szL_take _ _
      have hb2z : b2.size ≤ 8000000000 + 30 + 70 * 10000 := by rw [f4, ByteArray.size_append, ByteArray.size_append]; omega
      refine br_of (fun hlt2 => ?_) (fun hge2 => ?_)
      · have hlt2 := lenlt.1 hlt2
        have hs := joinB_snoc cbB ((r.take j).map segS) (segS (r.getD j dS))
        rw [← take_map_snoc (d := dS) hlt2] at hs
        have z2 := segS_size (r.getD j dS)
        have oks := okr _ (getD_memA (d := dS) hlt2)
        simp only [Int.toNat_natCast]
        rw [wrap_id (by omega) (by omega)]
        refine ⟨inBk hlt2, br_of (fun hp => ?_) (fun hz => ?_)⟩
        · have hp : 0 < j := by simp at hp; omega
          refine ws_b (by omega) (seg_s (r.getD j dS) oks _ (ws_b ?_ (hag2 _ ⟨j + 1, by simp, by omega, ?_⟩ (by simp only; omega))))
          · rw [ByteArray.size_append]; omega
          · rw [if_neg (by intro e; have := congrArg List.length e; rw [List.length_map, List.length_take, List.length_nil] at this; omega)] at hs
            rw [hs, f4]
            simp only [ByteArray.append_assoc]
            rfl
        · have hz : j = 0 := by simp at hz; omega
          subst hz
          refine seg_s (r.getD 0 dS) oks _ (ws_b (by omega) (hag2 _ ⟨1, by simp, by omega, ?_⟩ (by simp only; omega)))
          rw [List.take_zero, List.map_nil, if_pos rfl] at hs
          rw [hs, f4, List.take_zero, List.map_nil, joinB_nil, ByteArray.append_empty]
      · have hge2 : j = r.length := by simp at hge2; omega
        subst hge2
        refine ws_b (by omega) ?_
        rw [wrap_id (by omega) (by omega)]
        refine hag _ ⟨i + 1, by simp, by omega, ?_⟩ (by simp only; omega)
        rw [take_map_snoc (d := []) hlt, catB_snoc, hr, f4, f2, List.take_length]
        unfold rowS
        rw [← hhead]
        simp only [ByteArray.append_assoc]
  · have hge : i = R.length := by simp at hge; omega
    subst hge
    refine ws_b (by omega) (bs_b ?_)
    rw [f2, List.take_length]
    exact h

theorem target_s (r0 r1 : Int) (c0 c1 : List Int) (slots : Int) (h0 : in64 r0) (h1 : in64 r1) (hs : in64 slots) (l0 : c0.length ≤ 10000) (l1 : c1.length ≤ 10000) (i0 : ∀ x ∈ c0, in64 x) (i1 : ∀ x ∈ c1, in64 x) (k : ByteArray → Prop) (h : k (targetS r0 r1 c0 c1 slots)) : N78.f r0 r1 c0 c1 slots k := by
  rw [N78.f_def]
  unfold N78.f0 N78.c N78.l3'
  have e3 : (ByteArray.mk #[59, 10]).size = 2 := rfl
  have fin : ∀ ws : List ByteArray, szL ws ≤ 100000000 → joinB ws (ByteArray.mk #[32]) ++ ByteArray.mk #[59, 10] = targetS r0 r1 c0 c1 slots → N78.j16' ws k := by
    intro ws hz he
    unfold N78.j16' N78.j16
    have hj := joinB_size (sep := ByteArray.mk #[32]) (by show (1 : Nat) ≤ 2; omega) ws
    refine jn_of (by show (1 : Nat) ≤ 2; omega) (by omega) ⟨by omega, ?_⟩
    rw [he]; exact h
  refine loopS_of (fun s : Int × List ByteArray => s = (0, [ByteArray.mk #[116, 97, 114, 103, 101, 116]]) ∨ s = (1, [ByteArray.mk #[116, 97, 114, 103, 101, 116], ByteArray.mk #[103], putB r0]) ∨ s = (2, [ByteArray.mk #[116, 97, 114, 103, 101, 116], ByteArray.mk #[103], putB r0, ByteArray.mk #[120], putB r1])) (fun s => (2 - s.1).toNat) ?_ (.inl rfl)
  rintro again s hst hag
  unfold N78.l3 N78.j7' N78.j7
  dsimp only
  rcases hst with rfl | rfl | rfl
  · have d1 : decide ((0 : Int) < 2) = true := by decide
    have d2 : decide ((0 : Int) = ((0 : Nat) : Int)) = true := by decide
    simp only [d1, d2, br_true]
    refine letter_s _ _ (put_b _ h0 _ ⟨by unfold room; simp, ?_⟩)
    exact hag _ (.inr (.inl rfl)) (by show (2 - IntKind.i64.wrap (0 + 1)).toNat < (2 - 0 : Int).toNat; decide)
  · have d1 : decide ((1 : Int) < 2) = true := by decide
    have d2 : decide ((1 : Int) = ((0 : Nat) : Int)) = false := by decide
    have d3 : decide ((1 : Int) = ((1 : Nat) : Int)) = true := by decide
    simp only [d1, d2, d3, br_true, br_false]
    refine letter_s _ _ (put_b _ h1 _ ⟨by unfold room; simp, ?_⟩)
    exact hag _ (.inr (.inr rfl)) (by show (2 - IntKind.i64.wrap (1 + 1)).toNat < (2 - 1 : Int).toNat; decide)
  · have d1 : decide ((2 : Int) < 2) = false := by decide
    simp only [d1, br_false]
    refine put_b _ hs _ ⟨by unfold room; simp, spoilt_s _ _ _ _ _ (by omega) _ ?_⟩
    have z0 := putB_size r0
    have z1 := putB_size r1
    have z2 := putB_size slots
    have base : szL [ByteArray.mk #[116, 97, 114, 103, 101, 116], ByteArray.mk #[103], putB r0, ByteArray.mk #[120], putB r1, ByteArray.mk #[115, 108, 111, 116, 115], putB slots] ≤ 1000 := by
      simp only [szL, List.map_cons, List.map_nil, List.sum_cons, List.sum_nil]
      have a1 : (ByteArray.mk #[116, 97, 114, 103, 101, 116]).size = 6 := rfl
      have a2 : (ByteArray.mk #[103]).size = 1 := rfl
      have a3 : (ByteArray.mk #[120]).size = 1 := rfl
      have a4 : (ByteArray.mk #[115, 108, 111, 116, 115]).size = 5 := rfl
      omega
    have hT : targetS r0 r1 c0 c1 slots = joinB (wordsS r0 r1 c0 c1 slots) (ByteArray.mk #[32]) ++ ByteArray.mk #[59, 10] := rfl
    unfold wordsS at hT
    have hL : (locs 0 c0 ++ locs 1 c1).length ≤ 20000 := by simp [locs]; omega
    have hI : ∀ x ∈ locs 0 c0 ++ locs 1 c1, in64 x.2.2 := by
      intro x hx
      rcases List.mem_append.1 hx with hx | hx
      · obtain ⟨y, hy, rfl⟩ := List.mem_map.1 hx; exact i0 y hy
      · obtain ⟨y, hy, rfl⟩ := List.mem_map.1 hx; exact i1 y hy
    generalize locs 0 c0 ++ locs 1 c1 = L at *
    refine br_of (fun hp => ⟨by unfold room; simp, ?_⟩) (fun hz => ?_)
    · have hp : 0 < L.length := by have := of_decide_eq_true hp; omega
      rw [if_neg (List.length_pos_iff.1 hp)] at hT
      have hz := szL_le (xs := L.map fun x => nameI x.1 x.2.1 x.2.2) (n := 25) (fun x hx => by obtain ⟨s, _, rfl⟩ := List.mem_map.1 hx; have := nameI_size s.1 s.2.1 s.2.2; omega)
      rw [List.length_map] at hz
      unfold N78.l12'
      refine loopS_of (fun s : Int × List ByteArray × List (Int × (Int × Int)) => ∃ i : Nat, s.1 = i ∧ i ≤ L.length ∧ s.2.2 = L ∧ s.2.1 = [ByteArray.mk #[116, 97, 114, 103, 101, 116], ByteArray.mk #[103], putB r0, ByteArray.mk #[120], putB r1, ByteArray.mk #[115, 108, 111, 116, 115], putB slots] ++ (ByteArray.mk #[99, 108, 111, 98, 98, 101, 114] :: (L.take i).map fun x => nameI x.1 x.2.1 x.2.2)) (fun s => L.length - s.1.toNat) ?_ ⟨0, rfl, Nat.zero_le _, rfl, rfl⟩
      rintro again2 ⟨x, b, L2⟩ ⟨i, f1, hi, f2, f3⟩ hag2
      simp only at f1 f2 f3 hag2
      subst f1; subst f2; subst f3
      unfold N78.l12
      dsimp only
      refine br_of (fun hlt => ?_) (fun hge => ?_)
      · have hlt := lenlt.1 hlt
        simp only [Int.toNat_natCast]
        refine ⟨inBk hlt, name_s _ _ _ (hI _ (getD_memA (d := (0, (0, 0))) hlt)) _ ⟨by unfold room; simp; omega, ?_⟩⟩
        rw [wrap_id (by omega) (by omega)]
        refine hag2 _ ⟨i + 1, by simp, by omega, rfl, ?_⟩ (by simp only; omega)
        rw [take_map_snoc (d := (0, (0, 0))) hlt]
        simp
      · have hge : i = L2.length := by simp at hge; omega
        subst hge
        rw [List.take_length]
        refine fin _ ?_ hT.symm
        rw [szL_append]
        have : szL (ByteArray.mk #[99, 108, 111, 98, 98, 101, 114] :: L2.map fun x => nameI x.1 x.2.1 x.2.2) = 9 + szL (L2.map fun x => nameI x.1 x.2.1 x.2.2) := by
          unfold szL; rw [List.map_cons, List.sum_cons]; rfl
        omega
    · have hz : L = [] := by simpa using hz
      rw [if_pos hz, List.append_nil] at hT
      exact fin _ (Nat.le_trans base (by omega)) hT.symm

theorem nworks_s (k : Bool → Prop) (h : k true) : N47.f k := by
  rw [N47.f_def]
  unfold N47.f0 N47.c
  have I : ∀ n : Int, -1000 ≤ n → n ≤ 1000 → in64 n := fun n a b => ⟨by omega, by omega⟩
  refine target_s 8 4 [1] [0] 64 (I _ (by omega) (by omega)) (I _ (by omega) (by omega)) (I _ (by omega) (by omega)) (by simp) (by simp) (by simp; exact I _ (by omega) (by omega)) (by simp; exact I _ (by omega) (by omega)) _ ?_
  have t1 : beqS (targetS 8 4 [1] [0] 64) (ByteArray.mk #[116, 97, 114, 103, 101, 116, 32, 103, 32, 56, 32, 120, 32, 52, 32, 115, 108, 111, 116, 115, 32, 54, 52, 32, 99, 108, 111, 98, 98, 101, 114, 32, 36, 103, 49, 32, 36, 120, 48, 59, 10]) = true := by decide +kernel
  rw [t1, br_true]
  refine seg_s (2, (0, (4, (2, (0, 1))))) ⟨I _ (by decide) (by decide), I _ (by decide) (by decide), I _ (by decide) (by decide), I _ (by decide) (by decide), I _ (by decide) (by decide), I _ (by decide) (by decide)⟩ _ ?_
  have t2 : beqS (segS (2, (0, (4, (2, (0, 1)))))) (ByteArray.mk #[48, 46, 46, 52, 32, 36, 103, 49]) = true := by decide +kernel
  rw [t2, br_true]
  refine alloc_s 1 _ (I _ (by omega) (by omega)) (by simp) ?_ _ ?_
  · intro s hs
    simp only [List.mem_cons, List.not_mem_nil, or_false] at hs
    rcases hs with rfl | rfl
    · exact ⟨I _ (by decide) (by decide), I _ (by decide) (by decide), I _ (by decide) (by decide), I _ (by decide) (by decide), I _ (by decide) (by decide), I _ (by decide) (by decide)⟩
    · exact ⟨I _ (by decide) (by decide), I _ (by decide) (by decide), I _ (by decide) (by decide), I _ (by decide) (by decide), I _ (by decide) (by decide), I _ (by decide) (by decide)⟩
  have t3 : beqS (allocS 1 [(2, (0, (4, (2, (0, 1))))), (2, (4, (9, (3, (0, 0)))))]) (ByteArray.mk #[97, 108, 108, 111, 99, 32, 115, 108, 111, 116, 115, 32, 49, 32, 123, 10, 32, 32, 37, 50, 58, 32, 48, 46, 46, 52, 32, 36, 103, 49, 44, 32, 52, 46, 46, 57, 32, 35, 48, 59, 10, 125, 10]) = true := by decide +kernel
  rw [t3, br_true]
  refine call_s _ _ (by decide) (by simp) ?_ _ ?_
  · intro x hx
    simp only [List.mem_cons, List.not_mem_nil, or_false] at hx
    rcases hx with rfl | rfl
    · exact I _ (by decide) (by decide)
    · exact I _ (by decide) (by decide)
  have t4 : beqS (callS (ByteArray.mk #[102]) [1, -2]) (ByteArray.mk #[102, 40, 49, 44, 32, 45, 50, 41]) = true := by decide +kernel
  rw [t4]
  exact h
end Go.Proofs.Yi
namespace Go.Proofs.Yi
open Go Go.Aw Go.Proofs
set_option linter.unusedVariables false
set_option linter.unusedSimpArgs false
set_option maxRecDepth 100000
set_option maxHeartbeats 4000000
/-! dyehouse/dyehouselaw15.NoteCalls -/
namespace N11
noncomputable def cfg : Cfg := { P := Try.prog, ty := tys, E := tab [(47, N47.ent), (48, N48.ent), (49, N49.ent)], atSeq := tab [(2000002, ⟨[(1, .keep), (12, .keep)]⟩), (3, ⟨[(1, .keep)]⟩)], atLoop := tab [], outs := [], eqT := tab [], bT := tab [], fzB := [1] }
noncomputable def body : Code := bodyOf Try.f11
def j2000002 (j3 : ByteArray → (List Int) → Prop) (x1_0 : ByteArray) (x1_1 : (List Int)) (x12 : Bool) (k : Bool → Prop) : Prop :=
  (br x12 (N47.f (fun (y0_0 : Bool) => (k y0_0))) (j3 x1_0 x1_1))
def j3 (x1_0 : ByteArray) (x1_1 : (List Int)) (k : Bool → Prop) : Prop :=
  (N48.f x1_0 x1_1 (fun (y0_1 : ByteArray) => (N49.f x1_0 x1_1 (fun (y0_2 : ByteArray) => (br (beqS y0_1 y0_2) (N47.f (fun (y0_3 : Bool) => (k y0_3))) (k false))))))
def c (j2000002 : ByteArray → (List Int) → Bool → Prop) (x0_0 : ByteArray) (x0_1 : (List Int)) (k : Bool → Prop) : Prop :=
  (br (decide (((((x0_1).length : Nat) : Int)) > (60 : Int))) (j2000002 x0_0 x0_1 true) (j2000002 x0_0 x0_1 (decide (((((x0_0).size : Nat) : Int)) > (200 : Int)))))
def j3' (x1_0 : ByteArray) (x1_1 : (List Int)) (k : Bool → Prop) : Prop := j3 x1_0 x1_1 k
def j2000002' (x1_0 : ByteArray) (x1_1 : (List Int)) (x12 : Bool) (k : Bool → Prop) : Prop := j2000002 (fun x1_0 x1_1 => j3' x1_0 x1_1 k) x1_0 x1_1 x12 k
def f0 (x0_0 : ByteArray) (x0_1 : (List Int)) (k : Bool → Prop) : Prop := c (fun x1_0 x1_1 x12 => j2000002' x1_0 x1_1 x12 k) x0_0 x0_1 k
theorem f_ex : ∃ g : ByteArray → (List Int) → (Bool → Prop) → Prop, g = f0 := ⟨_, rfl⟩
noncomputable def f : ByteArray → (List Int) → (Bool → Prop) → Prop := Classical.choose f_ex
theorem f_def : f = f0 := Classical.choose_spec f_ex
def m2000002 (x1_0 : ByteArray) (x1_1 : (List Int)) (x12 : Bool) : St := { tmps := mkT 22 0 [(1, (.fp [(.v (.string x1_0)), (.fz (Ty.int IntKind.i64) x1_1)])), (12, (.v (.bool x12)))], hp := [], m := 0 }
def m3 (x1_0 : ByteArray) (x1_1 : (List Int)) : St := { tmps := mkT 22 0 [(1, (.fp [(.v (.string x1_0)), (.fz (Ty.int IntKind.i64) x1_1)]))], hp := [], m := 0 }
noncomputable def X2000002 (k kp : D → List Blk → Prop) : St → Prop := atP cfg (pick none' []) [1, 0, 1] body (topK cfg Try.f11 k kp)
noncomputable def X3 (k kp : D → List Blk → Prop) : St → Prop := atP cfg (pick none' []) [1, 1] body (topK cfg Try.f11 k kp)
noncomputable def JJ (k kp : D → List Blk → Prop) : Nat → St → Prop := pick none' [(2000002, X2000002 k kp), (3, X3 k kp)]
noncomputable def LL (k kp : D → List Blk → Prop) : Nat → St → Prop := pick none' []
theorem j3_c (k kp : D → List Blk → Prop) (J L : Nat → St → Prop) (x1_0 : ByteArray) (x1_1 : (List Int)) : runC cfg 3 J L (pick none' []) [1, 1] body (topK cfg Try.f11 k kp) (m3 x1_0 x1_1) = j3 x1_0 x1_1 (fun y0 => k (.v (.bool y0)) []) := by kernel_rfl
theorem j3_ag (k kp : D → List Blk → Prop) : agPL cfg 3 (JJ k kp) (LL k kp) [1, 1] body = agPR cfg 3 (pick none' []) [1, 1] body (topK cfg Try.f11 k kp) := by kernel_rfl
theorem j3_raw (k kp : D → List Blk → Prop) (x1_0 : ByteArray) (x1_1 : (List Int)) : X3 k kp (m3 x1_0 x1_1) = j3 x1_0 x1_1 (fun y0 => k (.v (.bool y0)) []) :=
  Eq.mp (by kernel_rfl) ((atP_run (j3_ag k kp) (m3 x1_0 x1_1)).trans (j3_c k kp (JJ k kp) (LL k kp) x1_0 x1_1))
theorem j3_eq (k kp : D → List Blk → Prop) (x1_0 : ByteArray) (x1_1 : (List Int)) : X3 k kp (m3 x1_0 x1_1) = j3' x1_0 x1_1 (fun y0 => k (.v (.bool y0)) []) := by
  rw [j3_raw]; rfl
theorem j2000002_c (k kp : D → List Blk → Prop) (J L : Nat → St → Prop) (x1_0 : ByteArray) (x1_1 : (List Int)) (x12 : Bool) : runC cfg 2000002 J L (pick none' []) [1, 0, 1] body (topK cfg Try.f11 k kp) (m2000002 x1_0 x1_1 x12) = j2000002 (fun x1_0 x1_1 => J 3 (m3 x1_0 x1_1)) x1_0 x1_1 x12 (fun y0 => k (.v (.bool y0)) []) := by kernel_rfl
theorem j2000002_ag (k kp : D → List Blk → Prop) : agPL cfg 2000002 (JJ k kp) (LL k kp) [1, 0, 1] body = agPR cfg 2000002 (pick none' []) [1, 0, 1] body (topK cfg Try.f11 k kp) := by kernel_rfl
theorem j2000002_raw (k kp : D → List Blk → Prop) (x1_0 : ByteArray) (x1_1 : (List Int)) (x12 : Bool) : X2000002 k kp (m2000002 x1_0 x1_1 x12) = j2000002 (fun x1_0 x1_1 => X3 k kp (m3 x1_0 x1_1)) x1_0 x1_1 x12 (fun y0 => k (.v (.bool y0)) []) :=
  Eq.mp (by kernel_rfl) ((atP_run (j2000002_ag k kp) (m2000002 x1_0 x1_1 x12)).trans (j2000002_c k kp (JJ k kp) (LL k kp) x1_0 x1_1 x12))
theorem j2000002_eq (k kp : D → List Blk → Prop) (x1_0 : ByteArray) (x1_1 : (List Int)) (x12 : Bool) : X2000002 k kp (m2000002 x1_0 x1_1 x12) = j2000002' x1_0 x1_1 x12 (fun y0 => k (.v (.bool y0)) []) := by
  rw [j2000002_raw]; simp only [j3_eq]; first | done | rfl
theorem c_c (k kp : D → List Blk → Prop) (J L : Nat → St → Prop) (x0_0 : ByteArray) (x0_1 : (List Int)) : runC cfg 1000001 J L none'' [] body (topK cfg Try.f11 k kp) (st0 Try.f11 [(.agg [(.v (.string x0_0)), (.fz (Ty.int IntKind.i64) x0_1)])] []) = c (fun x1_0 x1_1 x12 => J 2000002 (m2000002 x1_0 x1_1 x12)) x0_0 x0_1 (fun y0 => k (.v (.bool y0)) []) := by kernel_rfl
theorem c_ag (k kp : D → List Blk → Prop) : agPL cfg 1000001 (JJ k kp) (LL k kp) [] body = agPR cfg 1000001 none'' [] body (topK cfg Try.f11 k kp) := by kernel_rfl
theorem body_is : Try.f11.body = some body := by kernel_rfl
theorem c_raw (k kp : D → List Blk → Prop) (x0_0 : ByteArray) (x0_1 : (List Int)) : funW cfg Try.f11 [(.agg [(.v (.string x0_0)), (.fz (Ty.int IntKind.i64) x0_1)])] [] k kp = c (fun x1_0 x1_1 x12 => X2000002 k kp (m2000002 x1_0 x1_1 x12)) x0_0 x0_1 (fun y0 => k (.v (.bool y0)) []) :=
  Eq.mp (by kernel_rfl) ((funW_run (AG := none'') body_is (c_ag k kp) [(.agg [(.v (.string x0_0)), (.fz (Ty.int IntKind.i64) x0_1)])] []).trans (c_c k kp (JJ k kp) (LL k kp) x0_0 x0_1))
theorem f_eq (k kp : D → List Blk → Prop) (x0_0 : ByteArray) (x0_1 : (List Int)) : funW cfg Try.f11 [(.agg [(.v (.string x0_0)), (.fz (Ty.int IntKind.i64) x0_1)])] [] k kp = f x0_0 x0_1 (fun y0 => k (.v (.bool y0)) []) := by
  rw [f_def, c_raw]; simp only [j2000002_eq]; first | done | rfl
noncomputable def ent0 : Entry := fun args blks k _ => match args, blks with
  | [d0], [] => aAgg 2 d0 fun l => aCons l fun d0_0 l => aCons l fun d0_1 l => aNil l (aStr d0_0 fun x0_0 => aFz (Ty.int IntKind.i64) d0_1 fun x0_1 => f x0_0 x0_1 (fun y0 => k (.v (.bool y0)) []))
  | _, _ => False
noncomputable def ent : Entry := fun args blks k kp => ent0 (convB [.cells [none, some (Ty.int IntKind.i64)]] args) blks k kp
theorem ok : EntOk Try.prog 0 0 11 ent := by
  refine EntOk.convB (EntOk.of (funW_ok (cfg := cfg) (tyOk_of rfl rfl tyL_ok) (eqOk_of (P := Try.prog) rfl rfl (by kernel_rfl)) mixed_ok (tab_ok ?_) Try.func11 (by rfl) (by rfl)) ?_) _
  · intro p hp
    simp only [List.mem_cons, List.not_mem_nil, or_false] at hp
    rcases hp with rfl | rfl | rfl
    · exact N47.ok
    · exact N48.ok
    · exact N49.ok
  · intro args blks k kp h k' kp'
    match args, blks, h with
    | [d0], [], h =>
    dsimp only [ent0] at h
    have h9 := aAgg_elim h; clear h; obtain ⟨_, rfl, h⟩ := h9
    have h9 := aCons_elim h; clear h; obtain ⟨d0_0, _, rfl, h⟩ := h9
    have h9 := aCons_elim h; clear h; obtain ⟨d0_1, _, rfl, h⟩ := h9
    have h9 := aNil_elim h; clear h; obtain ⟨rfl, h⟩ := h9
    have h9 := aStr_elim h; clear h; obtain ⟨x0_0, rfl, h⟩ := h9
    have h9 := aFz_elim (t := (Ty.int IntKind.i64)) h; clear h; obtain ⟨x0_1, rfl, h⟩ := h9
    exact (f_eq k' kp' x0_0 x0_1).symm
end N11
end Go.Proofs.Yi
namespace Go.Proofs.Yi.NoteCalls
open Go Go.Aw Go.Proofs Go.Proofs.Ytbfggnlonemmiaa Go.ChangeShapes Go.WideShapes Go.ChangeAt Go.RowKit
set_option linter.unusedVariables false
set_option linter.unusedSimpArgs false
set_option maxRecDepth 100000
set_option maxHeartbeats 4000000
/-! 11 dyehouse/dyehouselaw15.NoteCalls -/
def Pure : Prop := ∀ (x0 : (ByteArray × (List Int))) (w0 : Ty.Wf (Ty.pair Ty.str (Ty.list (Ty.int IntKind.i64))) x0), N11.f x0.1 x0.2 (fun y0 => y0 = true)
theorem own : ownKnob Try.prog.godebug = none := by kernel_rfl
theorem laid : laidOutB Try.prog = true := by kernel_rfl
theorem lifted (pure : Pure) (os : Os) (started : os.Started) (H : Type) (enc : TypeId × Value → H) :
    ReturnsInHanded {} Try.checked os 11 .any (Rows.noteCallsSpec.pre6 enc Try.prog Try.f11 Rows.noteCallsRow.domain false) (Rows.noteCallsSpec.post enc Try.prog Try.f11 false true false false) := by
  refine returnsInHanded_of_change_sized (C := Try.checked) own started (by kernel_rfl) Try.func11
    (ChangeSpec.witness6 (enc := enc) (C := Try.checked) false ⟨#[], #[(Value.agg #[(Value.string (ByteArray.mk #[])), (Value.slice none 0 0)])], []⟩ 11 (by kernel_rfl) (by kernel_rfl) (by kernel_rfl) (by kernel_rfl)) ?_
  intro W base args ds gs before hval0 hW hcnd hsz0 _
  have hsz : (DataW.weightsEach Try.prog (Try.f11.params.toList ++ Rows.noteCallsSpec.plain.varTypes Try.prog) (ds ++ gs)).all (· ≤ reachBytes) = true := hsz0
  have hval : ∀ (j : Nat) t v, Try.f11.params[j]? = some t → args[j]? = some v → Value.okWide Try.prog W .any base t v := hval0
  have hW' := hW
  have hlt := hW.lt
  obtain ⟨p, q, hA0, hV, rfl, hfz, hnd⟩ := hW
  have hA : DataW.TrodAll enc Try.prog W 0 (fun _ => true) true Try.f11.params.toList args.toList ds p := hA0
  have hAk := hA
  rw [Try.params11] at hA hval hsz
  obtain ⟨v0, vs0, d0, ds0, p0, q0, hargs, rfl, rfl, h0, r0⟩ := trodAll_cons hA
  obtain ⟨rfl, rfl, rfl⟩ := trodAll_nil r0
  obtain rfl : args = #[v0] := by cases args; simp_all
  obtain ⟨rfl, rfl⟩ := trodVars_none hV
  obtain ⟨x0, k0, w0, q0⟩ := arg_agg (tf := 0) (tw := 0) (n := 60) (ty := (Ty.pair Ty.str (Ty.list (Ty.int IntKind.i64)))) (.inl ⟨_, Try.underlying61⟩) (hval 0 61 v0 rfl rfl) (by kernel_rfl) h0 (fun m hm => of_decide_eq_true (List.all_eq_true.1 hsz m (DataW.weights_mem_each (j := 0) rfl rfl m hm)))
  refine (law_of N11.ok (W := W) (us := [v0]) (ds := [.agg (expand (Ty.pair Ty.str (Ty.list (Ty.int IntKind.i64))) x0)]) ⟨_, _, rfl, k0, by simp only [RepL]⟩ (show N11.ent _ _ _ _ from pure x0 w0)).mono fun e W' ⟨he, bel⟩ => ?_
  subst he
  exact ⟨_, rfl, _, _, _, [], _, [], hW', trodAll_mk1 (shut_bool (by kernel_rfl) _), trodAll_below laid bel (by kernel_rfl) hAk (fun x hx => hlt x (by simpa using hx)), rfl, bel.frame _, fun h => by cases h⟩
theorem over (pure : Pure) : Rows.noteCallsRow.holds Try.pinned (OpenSpec.ofChange Rows.noteCallsSpec) :=
  OpenClaim.holds_of_wide 11 Try.f11 rfl rfl rfl rfl rfl rfl rfl ⟨rfl, rfl, rfl, rfl, rfl⟩ rfl rfl rfl rfl rfl (by kernel_rfl) Try.func11 (by kernel_rfl)
    (of_decide_eq_true (by kernel_rfl)) (by unfold Func.isWrapper; first | (rw [if_pos (by decide +kernel)]; kernel_rfl) | (rw [if_neg (by decide +kernel)]; exact ⟨rfl, rfl⟩))
    (fun os started H enc _ => lifted pure os started H enc)
theorem holds (pure : Pure) : Rows.NoteCallsSaid := over pure
end Go.Proofs.Yi.NoteCalls
namespace Go.Proofs.Yi.NoteCalls
open Go Go.Aw Go.Proofs Go.RowKit
set_option linter.unusedVariables false
set_option linter.unusedSimpArgs false
theorem pure : Pure := by
  rintro ⟨name, args⟩ w0
  have hi : ∀ x ∈ args, in64 x := fun x hx => wf64 (w0.2.2 x hx)
  show N11.f name args _
  rw [N11.f_def]
  unfold N11.f0 N11.c N11.j2000002' N11.j2000002 N11.j3' N11.j3
  have W : N47.f (fun y => y = true) := nworks_s _ rfl
  refine br_of (fun h1 => W) (fun h1 => br_of (fun h2 => W) (fun h2 => ?_))
  have h1 := of_decide_eq_false h1
  have h2 := of_decide_eq_false h2
  refine call_s name args (by omega) (by omega) hi _ (callr_s name args (by omega) (by omega) hi _ ?_)
  rw [beqS_self, br_true]
  exact W
theorem proved : Go.Proofs.Ytbfggnlonemmiaa.Rows.NoteCallsSaid := holds pure
end Go.Proofs.Yi.NoteCalls
namespace Go.Proofs.Ytbfggnlonemmiaa
/-- The statement. -/
theorem noteCalls_holds : Rows.NoteCallsSaid := Go.Proofs.Yi.NoteCalls.proved
#print axioms noteCalls_holds
end Go.Proofs.Ytbfggnlonemmiaa
