/- Functions of the program as plain functions, each with the proof that the code comes to them. -/
import Derived.Test.YtlmojaagfmhejaaGreatDoorPIn0
import Derived.Test.YtlmojaagfmhejaaGreatDoorPIn2
set_option linter.unusedVariables false
set_option linter.unusedSimpArgs false
set_option linter.unusedSectionVars false
set_option maxRecDepth 100000
set_option maxHeartbeats 4000000
namespace Go.Proofs.Yf
open Go Go.Aw Go.Proofs Go.RowKit
theorem letter_s (x : Int) (k : Bool → Prop) : N127.f x k ↔ k (isL x) := by
 rw [N127.f_def]
 unfold N127.f0 N127.c isL
 simp only [br_dec]
 by_cases h1 : 97 ≤ x <;> by_cases h2 : x ≤ 122 <;> simp [h1, h2, BEq.beq]
theorem sign_s (x : Int) (k : Bool → Prop) : N172.f x k ↔ k (isS x) := by
 rw [N172.f_def]
 unfold N172.f0 N172.c isS
 rw [letter_s]
 cases isL x
 ·simp only [br_false, br_dec]
  by_cases h1 : 48 ≤ x <;> simp [h1]
 ·simp
theorem nscan_s (s : ByteArray) (hs : s.size ≤ reachBytes) (a : Int) (k : Int → Prop) (h : k (scanN (ofBytes s) a)) : N158.f s a k := by
 have hr : reachBytes < 2 ^ 47 := reachBytes_lt
 have hl := ofBytes_length s
 rw [N158.f_def]
 unfold N158.f0 N158.c N158.j2000002' N158.j2000002
 dsimp only
 unfold scanN at h
 rw [hl] at h
 refine br_of (fun h0 => ?_) (fun h0 => br_of (fun h1 => ?_) (fun h1 => ?_))
 ·rw [if_pos (.inl (of_decide_eq_true h0))] at h; exact h
 ·rw [if_pos (.inr (.inl (of_decide_eq_true h1)))] at h; exact h
 ·have h0 := of_decide_eq_false h0
  have h1 := of_decide_eq_false h1
  obtain ⟨p, rfl⟩ : ∃ p : Nat, a = p := ⟨a.toNat, by omega⟩
  rw [Int.toNat_natCast] at h
  refine ⟨⟨by omega, by omega, by omega⟩, (letter_s _ _).2 ?_⟩
  rw [byteAt_eq]
  cases hL : isL ((ofBytes s).getD p 0) with
  | false => rw [if_pos (.inr (.inr hL))] at h; exact h
  | true =>
    rw [if_neg (by rw [hL]; simp; omega)] at h
    simp only [Bool.not_true, br_false]
    unfold N158.j3' N158.j3 N158.l3'
    have hrl := runS_le ((ofBytes s).drop p)
    rw [List.length_drop, hl] at hrl
    refine loopS_of (fun x : Int => ∃ j : Nat, x = ((p + j : Nat) : Int) ∧ j ≤ runS ((ofBytes s).drop p)) (fun x => (s.size - x).toNat) ?_ ⟨0, rfl, Nat.zero_le _⟩
    rintro again x ⟨j, rfl, hj⟩ hag
    unfold N158.l3 N158.j4' N158.j4 N158.j5' N158.j5
    dsimp only
    refine br_of (fun hlt => ?_) (fun hge => ?_)
    ·have hlt := of_decide_eq_true hlt
     refine ⟨⟨by omega, by omega, by omega⟩, (sign_s _ _).2 ?_⟩
     rw [byteAt_eq]
     have ew : IntKind.i64.wrap (((p + j : Nat) : Int) + 1) = ((p + (j + 1) : Nat) : Int) := by rw [wrap_id (by omega) (by omega)]; omega
     rw [ew]
     cases hS : isS ((ofBytes s).getD (p + j) 0) with
     | true =>
       refine hag _ ⟨j + 1, rfl, ?_⟩ (by omega)
       rcases Nat.lt_or_ge j (runS ((ofBytes s).drop p)) with hh | hh
       ·omega
       ·have := runS_step (l := ofBytes s) (i := p) (j := j) (by omega) (by omega)
        rw [hS] at this; cases this
     | false =>
       have : j = runS ((ofBytes s).drop p) := by
        rcases Nat.lt_or_ge j (runS ((ofBytes s).drop p)) with hh | hh
        ·have := runS_in hh; rw [hS] at this; cases this
        ·omega
       rw [← this] at h; exact h
    ·have hge := of_decide_eq_false hge
     have : j = runS ((ofBytes s).drop p) := by omega
     rw [← this] at h; exact h
end Go.Proofs.Yf
namespace Go.Proofs.Yf
open Go Go.Aw Go.Proofs
namespace N135
noncomputable def cfg : Cfg := { cb with E := tab [], atSeq := tab [(2000011, ks [0, 18]), (12, ks [0])] }
noncomputable def body : Code := bodyOf Tryz.f135
def j2000011 (j12 : Int → Prop) (x0 : Int) (aa : Bool) (k : BA → Prop) : Prop :=
 (br aa (k (bytesOf ([x0] : List Int))) (j12 x0))
def j12 (x0 : Int) (k : BA → Prop) : Prop :=
 (((16 : Int) ≠ 0) ∧ (((16 : Int) ≠ 0) ∧ ((inB (IntKind.u8.wrap (Int.tdiv x0 (16 : Int))) (IntKind.u8.wrap ((IntKind.u8.wrap (Int.tdiv x0 (16 : Int))) + (1 : Int))) ((((ByteArray.mk #[48, 49, 50, 51, 52, 53, 54, 55, 56, 57, 97, 98, 99, 100, 101, 102])).size : Nat) : Int)) ∧ ((((ByteArray.mk #[92, 120])).size + ((ByteArray.extract (ByteArray.mk #[48, 49, 50, 51, 52, 53, 54, 55, 56, 57, 97, 98, 99, 100, 101, 102]) (Int.toNat (IntKind.u8.wrap (Int.tdiv x0 (16 : Int)))) (Int.toNat (IntKind.u8.wrap ((IntKind.u8.wrap (Int.tdiv x0 (16 : Int))) + (1 : Int)))))).size ≤ 9223372036854775807) ∧ (((16 : Int) ≠ 0) ∧ (((16 : Int) ≠ 0) ∧ ((inB (Int.tmod x0 (16 : Int)) (IntKind.u8.wrap ((Int.tmod x0 (16 : Int)) + (1 : Int))) ((((ByteArray.mk #[48, 49, 50, 51, 52, 53, 54, 55, 56, 57, 97, 98, 99, 100, 101, 102])).size : Nat) : Int)) ∧ (((((ByteArray.mk #[92, 120]) ++ (ByteArray.extract (ByteArray.mk #[48, 49, 50, 51, 52, 53, 54, 55, 56, 57, 97, 98, 99, 100, 101, 102]) (Int.toNat (IntKind.u8.wrap (Int.tdiv x0 (16 : Int)))) (Int.toNat (IntKind.u8.wrap ((IntKind.u8.wrap (Int.tdiv x0 (16 : Int))) + (1 : Int))))))).size + ((ByteArray.extract (ByteArray.mk #[48, 49, 50, 51, 52, 53, 54, 55, 56, 57, 97, 98, 99, 100, 101, 102]) (Int.toNat (Int.tmod x0 (16 : Int))) (Int.toNat (IntKind.u8.wrap ((Int.tmod x0 (16 : Int)) + (1 : Int)))))).size ≤ 9223372036854775807) ∧ (k (((ByteArray.mk #[92, 120]) ++ (ByteArray.extract (ByteArray.mk #[48, 49, 50, 51, 52, 53, 54, 55, 56, 57, 97, 98, 99, 100, 101, 102]) (Int.toNat (IntKind.u8.wrap (Int.tdiv x0 (16 : Int)))) (Int.toNat (IntKind.u8.wrap ((IntKind.u8.wrap (Int.tdiv x0 (16 : Int))) + (1 : Int)))))) ++ (ByteArray.extract (ByteArray.mk #[48, 49, 50, 51, 52, 53, 54, 55, 56, 57, 97, 98, 99, 100, 101, 102]) (Int.toNat (Int.tmod x0 (16 : Int))) (Int.toNat (IntKind.u8.wrap ((Int.tmod x0 (16 : Int)) + (1 : Int)))))))))))))))
def c (j2000011 : Int → Bool → Prop) (x0 : Int) (k : BA → Prop) : Prop :=
 (br (x0 == (10 : Int)) (k (ByteArray.mk #[92, 110])) (br (x0 == (9 : Int)) (k (ByteArray.mk #[92, 116])) (br (x0 == (34 : Int)) (k (ByteArray.mk #[92, 34])) (br (x0 == (92 : Int)) (k (ByteArray.mk #[92, 92])) (br (decide (x0 ≥ (32 : Int))) (j2000011 x0 (decide (x0 ≤ (126 : Int)))) (j2000011 x0 false))))))
def j12' x0 k := j12 x0 k
def j2000011' x0 aa k := j2000011 (fun x0 => j12' x0 k) x0 aa k
def f0 x0 k := c (fun x0 aa => j2000011' x0 aa k) x0 k
noncomputable def f := sld f0
theorem f_def : f = f0 := sld_eq f0
def m2000011 (x0 : Int) (aa : Bool) : St := { tmps := mkT 38 0 [(0, (.v (.int IntKind.u8 x0))), (18, (.v (.bool aa)))], hp := [], m := 0 }
def M2000011 (g : St → Prop) x0 aa := g (m2000011 x0 aa)
def m12 (x0 : Int) : St := { tmps := mkT 38 0 [(0, (.v (.int IntKind.u8 x0)))], hp := [], m := 0 }
def M12 (g : St → Prop) x0 := g (m12 x0)
def K0 (k : KT) (y0 : BA) : Prop := k (.v (.string y0)) []
noncomputable def T (k kp : KT) := topK cfg Tryz.f135 k kp
noncomputable def X2000011 (k kp : KT) : St → Prop := atP cfg (pick none' []) [1, 1, 0, 1] body (T k kp)
noncomputable def X12 (k kp : KT) : St → Prop := atP cfg (pick none' []) [1, 1, 1] body (T k kp)
noncomputable def JJ (k kp : KT) : Nat → St → Prop := pick none' [(2000011, X2000011 k kp), (12, X12 k kp)]
noncomputable def LL (k kp : KT) : Nat → St → Prop := pick none' []
theorem j12_eq (k kp) : M12 (X12 k kp) = fun x0 => j12' x0 (K0 k) := by
 funext x0
 exact raw_eq (own:=12) rfl (JJ k kp) (LL k kp) (fun J L => j12 x0 (K0 k)) (by kernel_rfl) (fun _ _ => by kernel_rfl) rfl
theorem j2000011_eq (k kp) : M2000011 (X2000011 k kp) = fun x0 aa => j2000011' x0 aa (K0 k) := by
 funext x0 aa
 exact raw_eq (own:=2000011) rfl (JJ k kp) (LL k kp) (fun J L => j2000011 (M12 (J 12)) x0 aa (K0 k)) (by kernel_rfl) (fun _ _ => by kernel_rfl) (by erw [j12_eq k kp] <;> rfl)
def pa (x0 : Int) : List D := [(.v (.int IntKind.u8 x0))]
def pb (x0 : Int) : List Blk := []
theorem body_is : Tryz.f135.body = some body := by kernel_rfl
theorem f_eq (k kp x0) : funW cfg Tryz.f135 (pa x0) (pb x0) k kp = f x0 (K0 k) :=
 raw_fun (own := 1000001) none'' (JJ k kp) (LL k kp) (fun J L => c (M2000011 (J 2000011)) x0 (K0 k)) body_is (by kernel_rfl) (fun J L => by kernel_rfl) (by rw [f_def]; erw [j2000011_eq k kp] <;> rfl)
noncomputable def ent0 : Entry := fun args blks k _ => match args, blks with
 | [d0], [] => aInt IntKind.u8 d0 fun x0 => f x0 (K0 k)
 | _, _ => False
noncomputable def ent : Entry := cvE [.no] ent0
theorem ok : EntOk Tryz.prog 112 157 135 ent := by
 refine fnOk (cfg := cfg) rfl rfl rfl rfl (by kernel_rfl) ?_ Tryz.func135 (by rfl) (by rfl) ?_
 ·exact tab_n
 ·intro args blks k kp h k' kp'
  match args, blks, h with
  | [d0], [], h =>
  dsimp only [ent0] at h
  repeat ((first|have q := aInt_elim h); clear h; first|obtain ⟨rfl, h⟩ := q|obtain ⟨_, rfl, h⟩ := q|obtain ⟨_, _, rfl, h⟩ := q)
  exact (f_eq ..).symm
end N135
namespace N84
noncomputable def cfg : Cfg := { cb with E := tab [(135, N135.ent)], atSeq := tab [(6, ks [3])], atLoop := tab [(3, ks [0, 3, 4])] }
noncomputable def body : Code := bodyOf Tryz.f84
def l3 (j6 : BA → Prop) (ag3 : BA → Int → Prop) (x0 x3 : BA) (x4 : Int) (k : BA → Prop) : Prop :=
 (br (decide (x4 < ((((x0).size : Nat) : Int)))) ((inB 0 x4 ((((x0).size : Nat) : Int) - 1)) ∧ (N135.f (byteAt x0 x4) (fun aa => (((x3).size + (aa).size ≤ 9223372036854775807) ∧ (ag3 (x3 ++ aa) (IntKind.i64.wrap (x4 + (1 : Int)))))))) (j6 x3))
def j6 (x3 : BA) (k : BA → Prop) : Prop :=
 (((x3).size + ((ByteArray.mk #[34])).size ≤ 9223372036854775807) ∧ (k (x3 ++ (ByteArray.mk #[34]))))
def c (l3 : BA → BA → Int → Prop) (x0 : BA) (k : BA → Prop) : Prop :=
 (l3 x0 (ByteArray.mk #[34]) (0 : Int))
def j6' x3 k := j6 x3 k
def l3' (x0 x3 : BA) (x4 : Int) (k : BA → Prop) : Prop := ∃ n, loopS (fun ag (s : BA × Int) => l3 (fun x3 => j6' x3 k) (fun x3 x4 => ag (x3, x4)) x0 s.1 s.2 k) n (x3, x4)
def f0 x0 k := c (fun x0 x3 x4 => l3' x0 x3 x4 k) x0 k
noncomputable def f := sld f0
theorem f_def : f = f0 := sld_eq f0
def mL3 (x0 x3 : BA) (x4 : Int) : St := { tmps := mkT 19 0 [(0, (.v (.string x0))), (3, (.v (.string x3))), (4, (.v (.int .i64 x4)))], hp := [], m := 0 }
def ML3 (g : St → Prop) x0 x3 x4 := g (mL3 x0 x3 x4)
def m6 (x3 : BA) : St := { tmps := mkT 19 0 [(3, (.v (.string x3)))], hp := [], m := 0 }
def M6 (g : St → Prop) x3 := g (m6 x3)
def K0 (k : KT) (y0 : BA) : Prop := k (.v (.string y0)) []
noncomputable def T (k kp : KT) := topK cfg Tryz.f84 k kp
noncomputable def YL3 (k kp : KT) : (St → Prop) → St → Prop := loopB cfg (sub [1, 1, 0, 1, 0, 0] body) (contK cfg (pick none' []) [1, 1, 0, 1, 0] body (T k kp))
noncomputable def XL3 (k kp : KT) : St → Prop := fun st => ∃ n, loopN (YL3 k kp) n st
noncomputable def X6 (k kp : KT) : St → Prop := atP cfg (pick none' []) [1, 1, 1] body (T k kp)
noncomputable def JJ_3 (k kp : KT) (ag3 : St → Prop) : Nat → St → Prop := pick none' [(6, X6 k kp)]
noncomputable def LL_3 (k kp : KT) (ag3 : St → Prop) : Nat → St → Prop := pick none' [(3, XL3 k kp)]
noncomputable def JJ (k kp : KT) : Nat → St → Prop := pick none' [(6, X6 k kp)]
noncomputable def LL (k kp : KT) : Nat → St → Prop := pick none' [(3, XL3 k kp)]
theorem j6_eq (k kp) : M6 (X6 k kp) = fun x3 => j6' x3 (K0 k) := by
 funext x3
 exact raw_eq (own:=6) rfl (JJ k kp) (LL k kp) (fun J L => j6 x3 (K0 k)) (by kernel_rfl) (fun _ _ => by kernel_rfl) rfl
theorem l3_eq (k kp) : ML3 (XL3 k kp) = fun x0 x3 x4 => l3' x0 x3 x4 (K0 k) := by
 funext x0 x3 x4
 exact loop_eq (mk := fun (s : BA × Int) => match s with | (x3, x4) => mL3 x0 x3 x4) (fun ag3 s => match s with | (x3, x4) => raw_eq (own:=1000001) (cfg := cfg) (AG := (pick none' [(3, ag3)])) (p := [1, 1, 0, 1, 0, 0]) (c := body) (K := (T k kp)) (st := mL3 x0 x3 x4) (by kernel_rfl) (JJ_3 k kp ag3) (LL_3 k kp ag3) (fun J L => l3 (M6 (J 6)) (fun x3 x4 => ag3 (mL3 x0 x3 x4)) x0 x3 x4 (K0 k)) (by kernel_rfl) (fun _ _ => by kernel_rfl) (by erw [j6_eq k kp] <;> rfl)) (x3, x4)
def pa (x0 : BA) : List D := [(.v (.string x0))]
def pb (x0 : BA) : List Blk := []
theorem body_is : Tryz.f84.body = some body := by kernel_rfl
theorem f_eq (k kp x0) : funW cfg Tryz.f84 (pa x0) (pb x0) k kp = f x0 (K0 k) :=
 raw_fun (own := 1000001) none'' (JJ k kp) (LL k kp) (fun J L => c (ML3 (L 3)) x0 (K0 k)) body_is (by kernel_rfl) (fun J L => by kernel_rfl) (by rw [f_def]; erw [l3_eq k kp] <;> rfl)
noncomputable def ent0 : Entry := fun args blks k _ => match args, blks with
 | [d0], [] => aStr d0 fun x0 => f x0 (K0 k)
 | _, _ => False
noncomputable def ent : Entry := cvE [.no] ent0
theorem ok : EntOk Tryz.prog 112 157 84 ent := by
 refine fnOk (cfg := cfg) rfl rfl rfl rfl (by kernel_rfl) ?_ Tryz.func84 (by rfl) (by rfl) ?_
 ·exact tab_c N135.ok <| tab_n
 ·intro args blks k kp h k' kp'
  match args, blks, h with
  | [d0], [], h =>
  dsimp only [ent0] at h
  repeat ((first|have q := aStr_elim h); clear h; first|obtain ⟨rfl, h⟩ := q|obtain ⟨_, rfl, h⟩ := q|obtain ⟨_, _, rfl, h⟩ := q)
  exact (f_eq ..).symm
end N84
namespace N169
noncomputable def cfg : Cfg := { cb with E := tab [], atSeq := tab [(2000008, ks [0, 9]), (9, ⟨[]⟩)] }
noncomputable def body : Code := bodyOf Tryz.f169
def j2000008 (j9 : Prop) (x0 : Int) (x9 : Bool) (k : Int → Bool → Prop) : Prop :=
 (br x9 (k x0 true) (j9))
def j9 (k : Int → Bool → Prop) : Prop :=
 (k (0 : Int) false)
def c (j2000008 : Int → Bool → Prop) (x0 : Int) (k : Int → Bool → Prop) : Prop :=
 (br (x0 == (110 : Int)) (k (10 : Int) true) (br (x0 == (116 : Int)) (k (9 : Int) true) (br (x0 == (34 : Int)) (j2000008 x0 (x0 == (34 : Int))) (j2000008 x0 (x0 == (92 : Int))))))
def j9' k := j9 k
def j2000008' x0 x9 k := j2000008 (j9' k) x0 x9 k
def f0 x0 k := c (fun x0 x9 => j2000008' x0 x9 k) x0 k
noncomputable def f := sld f0
theorem f_def : f = f0 := sld_eq f0
def m2000008 (x0 : Int) (x9 : Bool) : St := { tmps := mkT 13 0 [(0, (.v (.int IntKind.u8 x0))), (9, (.v (.bool x9)))], hp := [], m := 0 }
def M2000008 (g : St → Prop) x0 x9 := g (m2000008 x0 x9)
def m9 : St := { tmps := mkT 13 0 [], hp := [], m := 0 }
def M9 (g : St → Prop) := g (m9)
def K0 (k : KT) (y0 : Int) (y1 : Bool) : Prop := k (.tup [(.v (.int IntKind.u8 y0)), (.v (.bool y1))]) []
noncomputable def T (k kp : KT) := topK cfg Tryz.f169 k kp
noncomputable def X2000008 (k kp : KT) : St → Prop := atP cfg (pick none' []) [1, 0, 1, 0, 1, 1, 1, 1, 1] body (T k kp)
noncomputable def X9 (k kp : KT) : St → Prop := atP cfg (pick none' []) [1, 1] body (T k kp)
noncomputable def JJ (k kp : KT) : Nat → St → Prop := pick none' [(2000008, X2000008 k kp), (9, X9 k kp)]
noncomputable def LL (k kp : KT) : Nat → St → Prop := pick none' []
theorem j9_eq (k kp) : M9 (X9 k kp) = j9' (K0 k) := by
 exact raw_eq (own:=9) rfl (JJ k kp) (LL k kp) (fun J L => j9 (K0 k)) (by kernel_rfl) (fun _ _ => by kernel_rfl) rfl
theorem j2000008_eq (k kp) : M2000008 (X2000008 k kp) = fun x0 x9 => j2000008' x0 x9 (K0 k) := by
 funext x0 x9
 exact raw_eq (own:=2000008) rfl (JJ k kp) (LL k kp) (fun J L => j2000008 (M9 (J 9)) x0 x9 (K0 k)) (by kernel_rfl) (fun _ _ => by kernel_rfl) (by erw [j9_eq k kp] <;> rfl)
def pa (x0 : Int) : List D := [(.v (.int IntKind.u8 x0))]
def pb (x0 : Int) : List Blk := []
theorem body_is : Tryz.f169.body = some body := by kernel_rfl
theorem f_eq (k kp x0) : funW cfg Tryz.f169 (pa x0) (pb x0) k kp = f x0 (K0 k) :=
 raw_fun (own := 1000001) none'' (JJ k kp) (LL k kp) (fun J L => c (M2000008 (J 2000008)) x0 (K0 k)) body_is (by kernel_rfl) (fun J L => by kernel_rfl) (by rw [f_def]; erw [j2000008_eq k kp] <;> rfl)
noncomputable def ent0 : Entry := fun args blks k _ => match args, blks with
 | [d0], [] => aInt IntKind.u8 d0 fun x0 => f x0 (K0 k)
 | _, _ => False
noncomputable def ent : Entry := cvE [.no] ent0
theorem ok : EntOk Tryz.prog 112 157 169 ent := by
 refine fnOk (cfg := cfg) rfl rfl rfl rfl (by kernel_rfl) ?_ Tryz.func169 (by rfl) (by rfl) ?_
 ·exact tab_n
 ·intro args blks k kp h k' kp'
  match args, blks, h with
  | [d0], [], h =>
  dsimp only [ent0] at h
  repeat ((first|have q := aInt_elim h); clear h; first|obtain ⟨rfl, h⟩ := q|obtain ⟨_, rfl, h⟩ := q|obtain ⟨_, _, rfl, h⟩ := q)
  exact (f_eq ..).symm
end N169
namespace N170
noncomputable def cfg : Cfg := { cb with E := tab [], atSeq := tab [(2000002, ks [0, 4]), (2000004, ks [0, 13]), (2000006, ks [0, 23]), (7, ⟨[]⟩)] }
noncomputable def body : Code := bodyOf Tryz.f170
def j2000002 (j2000004 : Int → Bool → Prop) (x0 : Int) (x4 : Bool) (k : Int → Bool → Prop) : Prop :=
 (br x4 (k (IntKind.u8.wrap (x0 - (48 : Int))) true) (br (decide (x0 ≥ (97 : Int))) (j2000004 x0 (decide (x0 ≤ (102 : Int)))) (j2000004 x0 false)))
def j2000004 (j2000006 : Int → Bool → Prop) (x0 : Int) (aa : Bool) (k : Int → Bool → Prop) : Prop :=
 (br aa (k (IntKind.u8.wrap ((IntKind.u8.wrap (x0 - (97 : Int))) + (10 : Int))) true) (br (decide (x0 ≥ (65 : Int))) (j2000006 x0 (decide (x0 ≤ (70 : Int)))) (j2000006 x0 false)))
def j2000006 (j7 : Prop) (x0 : Int) (ab : Bool) (k : Int → Bool → Prop) : Prop :=
 (br ab (k (IntKind.u8.wrap ((IntKind.u8.wrap (x0 - (65 : Int))) + (10 : Int))) true) (j7))
def j7 (k : Int → Bool → Prop) : Prop :=
 (k (0 : Int) false)
def c (j2000002 : Int → Bool → Prop) (x0 : Int) (k : Int → Bool → Prop) : Prop :=
 (br (decide (x0 ≥ (48 : Int))) (j2000002 x0 (decide (x0 ≤ (57 : Int)))) (j2000002 x0 false))
def j7' k := j7 k
def j2000006' x0 ab k := j2000006 (j7' k) x0 ab k
def j2000004' x0 aa k := j2000004 (fun x0 ab => j2000006' x0 ab k) x0 aa k
def j2000002' x0 x4 k := j2000002 (fun x0 aa => j2000004' x0 aa k) x0 x4 k
def f0 x0 k := c (fun x0 x4 => j2000002' x0 x4 k) x0 k
noncomputable def f := sld f0
theorem f_def : f = f0 := sld_eq f0
def m2000002 (x0 : Int) (x4 : Bool) : St := { tmps := mkT 33 0 [(0, (.v (.int IntKind.u8 x0))), (4, (.v (.bool x4)))], hp := [], m := 0 }
def M2000002 (g : St → Prop) x0 x4 := g (m2000002 x0 x4)
def m2000004 (x0 : Int) (aa : Bool) : St := { tmps := mkT 33 0 [(0, (.v (.int IntKind.u8 x0))), (13, (.v (.bool aa)))], hp := [], m := 0 }
def M2000004 (g : St → Prop) x0 aa := g (m2000004 x0 aa)
def m2000006 (x0 : Int) (ab : Bool) : St := { tmps := mkT 33 0 [(0, (.v (.int IntKind.u8 x0))), (23, (.v (.bool ab)))], hp := [], m := 0 }
def M2000006 (g : St → Prop) x0 ab := g (m2000006 x0 ab)
def m7 : St := { tmps := mkT 33 0 [], hp := [], m := 0 }
def M7 (g : St → Prop) := g (m7)
def K0 (k : KT) (y0 : Int) (y1 : Bool) : Prop := k (.tup [(.v (.int IntKind.u8 y0)), (.v (.bool y1))]) []
noncomputable def T (k kp : KT) := topK cfg Tryz.f170 k kp
noncomputable def X2000002 (k kp : KT) : St → Prop := atP cfg (pick none' []) [1, 0, 0, 1] body (T k kp)
noncomputable def X2000004 (k kp : KT) : St → Prop := atP cfg (pick none' []) [1, 0, 0, 1, 1, 1] body (T k kp)
noncomputable def X2000006 (k kp : KT) : St → Prop := atP cfg (pick none' []) [1, 0, 0, 1, 1, 1, 1, 1] body (T k kp)
noncomputable def X7 (k kp : KT) : St → Prop := atP cfg (pick none' []) [1, 1] body (T k kp)
noncomputable def JJ (k kp : KT) : Nat → St → Prop := pick none' [(2000002, X2000002 k kp), (2000004, X2000004 k kp), (2000006, X2000006 k kp), (7, X7 k kp)]
noncomputable def LL (k kp : KT) : Nat → St → Prop := pick none' []
theorem j7_eq (k kp) : M7 (X7 k kp) = j7' (K0 k) := by
 exact raw_eq (own:=7) rfl (JJ k kp) (LL k kp) (fun J L => j7 (K0 k)) (by kernel_rfl) (fun _ _ => by kernel_rfl) rfl
theorem j2000006_eq (k kp) : M2000006 (X2000006 k kp) = fun x0 ab => j2000006' x0 ab (K0 k) := by
 funext x0 ab
 exact raw_eq (own:=2000006) rfl (JJ k kp) (LL k kp) (fun J L => j2000006 (M7 (J 7)) x0 ab (K0 k)) (by kernel_rfl) (fun _ _ => by kernel_rfl) (by erw [j7_eq k kp] <;> rfl)
theorem j2000004_eq (k kp) : M2000004 (X2000004 k kp) = fun x0 aa => j2000004' x0 aa (K0 k) := by
 funext x0 aa
 exact raw_eq (own:=2000004) rfl (JJ k kp) (LL k kp) (fun J L => j2000004 (M2000006 (J 2000006)) x0 aa (K0 k)) (by kernel_rfl) (fun _ _ => by kernel_rfl) (by erw [j2000006_eq k kp] <;> rfl)
theorem j2000002_eq (k kp) : M2000002 (X2000002 k kp) = fun x0 x4 => j2000002' x0 x4 (K0 k) := by
 funext x0 x4
 exact raw_eq (own:=2000002) rfl (JJ k kp) (LL k kp) (fun J L => j2000002 (M2000004 (J 2000004)) x0 x4 (K0 k)) (by kernel_rfl) (fun _ _ => by kernel_rfl) (by erw [j2000004_eq k kp] <;> rfl)
def pa (x0 : Int) : List D := [(.v (.int IntKind.u8 x0))]
def pb (x0 : Int) : List Blk := []
theorem body_is : Tryz.f170.body = some body := by kernel_rfl
theorem f_eq (k kp x0) : funW cfg Tryz.f170 (pa x0) (pb x0) k kp = f x0 (K0 k) :=
 raw_fun (own := 1000001) none'' (JJ k kp) (LL k kp) (fun J L => c (M2000002 (J 2000002)) x0 (K0 k)) body_is (by kernel_rfl) (fun J L => by kernel_rfl) (by rw [f_def]; erw [j2000002_eq k kp] <;> rfl)
noncomputable def ent0 : Entry := fun args blks k _ => match args, blks with
 | [d0], [] => aInt IntKind.u8 d0 fun x0 => f x0 (K0 k)
 | _, _ => False
noncomputable def ent : Entry := cvE [.no] ent0
theorem ok : EntOk Tryz.prog 112 157 170 ent := by
 refine fnOk (cfg := cfg) rfl rfl rfl rfl (by kernel_rfl) ?_ Tryz.func170 (by rfl) (by rfl) ?_
 ·exact tab_n
 ·intro args blks k kp h k' kp'
  match args, blks, h with
  | [d0], [], h =>
  dsimp only [ent0] at h
  repeat ((first|have q := aInt_elim h); clear h; first|obtain ⟨rfl, h⟩ := q|obtain ⟨_, rfl, h⟩ := q|obtain ⟨_, _, rfl, h⟩ := q)
  exact (f_eq ..).symm
end N170
namespace N155
noncomputable def cfg : Cfg := { cb with E := tab [(169, N169.ent), (170, N170.ent)], atSeq := tab [(2000007, ks [0, 27]), (8, ks [0]), (2000011, ks [6, 8, 45]), (12, ks [6, 8])] }
noncomputable def body : Code := bodyOf Tryz.f155
def j2000007 (j8 : BA → Prop) (x0 : BA) (aa : Bool) (k : Int → Int → Prop) : Prop :=
 (br aa (k (0 : Int) (0 : Int)) (j8 x0))
def j8 (j2000011 : Int → Int → Bool → Prop) (x0 : BA) (k : Int → Int → Prop) : Prop :=
 ((inB 0 (1 : Int) ((((x0).size : Nat) : Int) - 1)) ∧ (N170.f (byteAt x0 (1 : Int)) (fun ac ae => ((inB 0 (2 : Int) ((((x0).size : Nat) : Int) - 1)) ∧ (N170.f (byteAt x0 (2 : Int)) (fun ad af => (br (!ae) (j2000011 ac ad true) (j2000011 ac ad (!af)))))))))
def j2000011 (j12 : Int → Int → Prop) (x6 x8 : Int) (ab : Bool) (k : Int → Int → Prop) : Prop :=
 (br ab (k (0 : Int) (0 : Int)) (j12 x6 x8))
def j12 (x6 x8 : Int) (k : Int → Int → Prop) : Prop :=
 ((0 ≤ (4 : Int)) ∧ (k (orI IntKind.u8 (IntKind.u8.wrap (x6 * 2 ^ min (Int.toNat (4 : Int)) 8)) x8) (3 : Int)))
def c (j2000007 : BA → Bool → Prop) (x0 : BA) (k : Int → Int → Prop) : Prop :=
 (br (beqS x0 (ByteArray.mk #[])) (k (0 : Int) (0 : Int)) ((inB 0 (0 : Int) ((((x0).size : Nat) : Int) - 1)) ∧ (N169.f (byteAt x0 (0 : Int)) (fun ah ai => (br ai (k ah (1 : Int)) ((inB 0 (0 : Int) ((((x0).size : Nat) : Int) - 1)) ∧ (br ((byteAt x0 (0 : Int)) != (120 : Int)) (j2000007 x0 true) (j2000007 x0 (decide (((((x0).size : Nat) : Int)) < (3 : Int)))))))))))
def j12' x6 x8 k := j12 x6 x8 k
def j2000011' x6 x8 ab k := j2000011 (fun x6 x8 => j12' x6 x8 k) x6 x8 ab k
def j8' x0 k := j8 (fun x6 x8 ab => j2000011' x6 x8 ab k) x0 k
def j2000007' x0 aa k := j2000007 (fun x0 => j8' x0 k) x0 aa k
def f0 x0 k := c (fun x0 aa => j2000007' x0 aa k) x0 k
noncomputable def f := sld f0
theorem f_def : f = f0 := sld_eq f0
def m2000007 (x0 : BA) (aa : Bool) : St := { tmps := mkT 50 0 [(0, (.v (.string x0))), (27, (.v (.bool aa)))], hp := [], m := 0 }
def M2000007 (g : St → Prop) x0 aa := g (m2000007 x0 aa)
def m8 (x0 : BA) : St := { tmps := mkT 50 0 [(0, (.v (.string x0)))], hp := [], m := 0 }
def M8 (g : St → Prop) x0 := g (m8 x0)
def m2000011 (x6 x8 : Int) (ab : Bool) : St := { tmps := mkT 50 0 [(6, (.v (.int IntKind.u8 x6))), (8, (.v (.int IntKind.u8 x8))), (45, (.v (.bool ab)))], hp := [], m := 0 }
def M2000011 (g : St → Prop) x6 x8 ab := g (m2000011 x6 x8 ab)
def m12 (x6 x8 : Int) : St := { tmps := mkT 50 0 [(6, (.v (.int IntKind.u8 x6))), (8, (.v (.int IntKind.u8 x8)))], hp := [], m := 0 }
def M12 (g : St → Prop) x6 x8 := g (m12 x6 x8)
def K0 (k : KT) (y0 y1 : Int) : Prop := k (.tup [(.v (.int IntKind.u8 y0)), (.v (.int .i64 y1))]) []
noncomputable def T (k kp : KT) := topK cfg Tryz.f155 k kp
noncomputable def X2000007 (k kp : KT) : St → Prop := atP cfg (pick none' []) [1, 1, 1, 0, 1] body (T k kp)
noncomputable def X8 (k kp : KT) : St → Prop := atP cfg (pick none' []) [1, 1, 1, 1] body (T k kp)
noncomputable def X2000011 (k kp : KT) : St → Prop := atP cfg (pick none' []) [1, 1, 1, 1, 1, 1, 0, 1] body (T k kp)
noncomputable def X12 (k kp : KT) : St → Prop := atP cfg (pick none' []) [1, 1, 1, 1, 1, 1, 1] body (T k kp)
noncomputable def JJ (k kp : KT) : Nat → St → Prop := pick none' [(2000007, X2000007 k kp), (8, X8 k kp), (2000011, X2000011 k kp), (12, X12 k kp)]
noncomputable def LL (k kp : KT) : Nat → St → Prop := pick none' []
theorem j12_eq (k kp) : M12 (X12 k kp) = fun x6 x8 => j12' x6 x8 (K0 k) := by
 funext x6 x8
 exact raw_eq (own:=12) rfl (JJ k kp) (LL k kp) (fun J L => j12 x6 x8 (K0 k)) (by kernel_rfl) (fun _ _ => by kernel_rfl) rfl
theorem j2000011_eq (k kp) : M2000011 (X2000011 k kp) = fun x6 x8 ab => j2000011' x6 x8 ab (K0 k) := by
 funext x6 x8 ab
 exact raw_eq (own:=2000011) rfl (JJ k kp) (LL k kp) (fun J L => j2000011 (M12 (J 12)) x6 x8 ab (K0 k)) (by kernel_rfl) (fun _ _ => by kernel_rfl) (by erw [j12_eq k kp] <;> rfl)
theorem j8_eq (k kp) : M8 (X8 k kp) = fun x0 => j8' x0 (K0 k) := by
 funext x0
 exact raw_eq (own:=8) rfl (JJ k kp) (LL k kp) (fun J L => j8 (M2000011 (J 2000011)) x0 (K0 k)) (by kernel_rfl) (fun _ _ => by kernel_rfl) (by erw [j2000011_eq k kp] <;> rfl)
theorem j2000007_eq (k kp) : M2000007 (X2000007 k kp) = fun x0 aa => j2000007' x0 aa (K0 k) := by
 funext x0 aa
 exact raw_eq (own:=2000007) rfl (JJ k kp) (LL k kp) (fun J L => j2000007 (M8 (J 8)) x0 aa (K0 k)) (by kernel_rfl) (fun _ _ => by kernel_rfl) (by erw [j8_eq k kp] <;> rfl)
def pa (x0 : BA) : List D := [(.v (.string x0))]
def pb (x0 : BA) : List Blk := []
theorem body_is : Tryz.f155.body = some body := by kernel_rfl
theorem f_eq (k kp x0) : funW cfg Tryz.f155 (pa x0) (pb x0) k kp = f x0 (K0 k) :=
 raw_fun (own := 1000001) none'' (JJ k kp) (LL k kp) (fun J L => c (M2000007 (J 2000007)) x0 (K0 k)) body_is (by kernel_rfl) (fun J L => by kernel_rfl) (by rw [f_def]; erw [j2000007_eq k kp] <;> rfl)
noncomputable def ent0 : Entry := fun args blks k _ => match args, blks with
 | [d0], [] => aStr d0 fun x0 => f x0 (K0 k)
 | _, _ => False
noncomputable def ent : Entry := cvE [.no] ent0
theorem ok : EntOk Tryz.prog 112 157 155 ent := by
 refine fnOk (cfg := cfg) rfl rfl rfl rfl (by kernel_rfl) ?_ Tryz.func155 (by rfl) (by rfl) ?_
 ·exact tab_c N169.ok <| tab_c N170.ok <| tab_n
 ·intro args blks k kp h k' kp'
  match args, blks, h with
  | [d0], [], h =>
  dsimp only [ent0] at h
  repeat ((first|have q := aStr_elim h); clear h; first|obtain ⟨rfl, h⟩ := q|obtain ⟨_, rfl, h⟩ := q|obtain ⟨_, _, rfl, h⟩ := q)
  exact (f_eq ..).symm
end N155
namespace N124
noncomputable def cfg : Cfg := { cb with E := tab [(155, N155.ent)], atSeq := tab [(2000002, ks [0, 1, 24]), (3, ks [0, 1]), (2000006, ks [0, 7, 8, 27]), (14, ks [0, 7, 8])], atLoop := tab [(5, ⟨[(0, .keep), (7, .own 5 (Ty.int IntKind.u8)), (8, .keep)]⟩)] }
noncomputable def body : Code := bodyOf Tryz.f124
def j2000002 (j3 : BA → Int → Prop) (x0 : BA) (x1 : Int) (aa : Bool) (k : BA → Int → Int → Prop) : Prop :=
 (br aa (k (ByteArray.mk #[]) (0 : Int) (1 : Int)) (j3 x0 x1))
def j3 (l5 : BA → Int → LI → Prop) (x0 : BA) (x1 : Int) (k : BA → Int → Int → Prop) : Prop :=
 (l5 x0 (IntKind.i64.wrap (x1 + (1 : Int))) ([] : List Int))
def l5 (j2000006 : BA → Int → Bool → LI → Prop) (x0 : BA) (x8 : Int) (b0 : LI) (k : BA → Int → Int → Prop) : Prop :=
 (br (x8 == ((((x0).size : Nat) : Int))) (j2000006 x0 x8 true b0) ((inB 0 x8 ((((x0).size : Nat) : Int) - 1)) ∧ (j2000006 x0 x8 ((byteAt x0 x8) == (10 : Int)) b0)))
def j2000006 (j14 : BA → Int → LI → Prop) (ag5 : Int → LI → Prop) (x0 : BA) (x8 : Int) (ab : Bool) (b0 : LI) (k : BA → Int → Int → Prop) : Prop :=
 (br ab (k (ByteArray.mk #[]) x8 (11 : Int)) ((inB 0 x8 ((((x0).size : Nat) : Int) - 1)) ∧ (br ((byteAt x0 x8) == (34 : Int)) (k (bytesOf b0) (IntKind.i64.wrap (x8 + (1 : Int))) (0 : Int)) (br (((((b0).length : Nat) : Int)) == (64 : Int)) (k (ByteArray.mk #[]) x8 (3 : Int)) ((inB 0 x8 ((((x0).size : Nat) : Int) - 1)) ∧ (br ((byteAt x0 x8) != (92 : Int)) ((inB 0 x8 ((((x0).size : Nat) : Int) - 1)) ∧ ((room ((b0).length + (([(byteAt x0 x8)] : List Int)).length) 1) ∧ (ag5 (IntKind.i64.wrap (x8 + (1 : Int))) (b0 ++ ([(byteAt x0 x8)] : List Int))))) (j14 x0 x8 b0)))))))
def j14 (ag5 : Int → LI → Prop) (x0 : BA) (x8 : Int) (b0 : LI) (k : BA → Int → Int → Prop) : Prop :=
 ((inB (IntKind.i64.wrap (x8 + (1 : Int))) (((x0).size : Nat) : Int) (((x0).size : Nat) : Int)) ∧ (N155.f (ByteArray.extract x0 (Int.toNat (IntKind.i64.wrap (x8 + (1 : Int)))) (Int.toNat (((x0).size : Nat) : Int))) (fun ac ad => (br (ad == (0 : Int)) (k (ByteArray.mk #[]) x8 (11 : Int)) ((room ((b0).length + (([ac] : List Int)).length) 1) ∧ (ag5 (IntKind.i64.wrap (x8 + (IntKind.i64.wrap ((1 : Int) + ad)))) (b0 ++ ([ac] : List Int))))))))
def c (j2000002 : BA → Int → Bool → Prop) (x0 : BA) (x1 : Int) (k : BA → Int → Int → Prop) : Prop :=
 (br (decide (x1 < (0 : Int))) (j2000002 x0 x1 true) (br (decide (x1 ≥ ((((x0).size : Nat) : Int)))) (j2000002 x0 x1 true) ((inB 0 x1 ((((x0).size : Nat) : Int) - 1)) ∧ (j2000002 x0 x1 ((byteAt x0 x1) != (34 : Int))))))
def j14' ag5 x0 x8 b0 k := j14 ag5 x0 x8 b0 k
def j2000006' ag5 x0 x8 ab b0 k := j2000006 (fun x0 x8 b0 => j14' ag5 x0 x8 b0 k) ag5 x0 x8 ab b0 k
def l5' (x0 : BA) (x8 : Int) (b0 : LI) (k : BA → Int → Int → Prop) : Prop := ∃ n, loopS (fun ag (s : Int × LI) => l5 (fun x0 x8 ab b0 => j2000006' (fun x8 b0 => ag (x8, b0)) x0 x8 ab b0 k) x0 s.1 s.2 k) n (x8, b0)
def j3' x0 x1 k := j3 (fun x0 x8 b0 => l5' x0 x8 b0 k) x0 x1 k
def j2000002' x0 x1 aa k := j2000002 (fun x0 x1 => j3' x0 x1 k) x0 x1 aa k
def f0 x0 x1 k := c (fun x0 x1 aa => j2000002' x0 x1 aa k) x0 x1 k
noncomputable def f := sld f0
theorem f_def : f = f0 := sld_eq f0
def m2000002 (x0 : BA) (x1 : Int) (aa : Bool) : St := { tmps := mkT 85 0 [(0, (.v (.string x0))), (1, (.v (.int .i64 x1))), (24, (.v (.bool aa)))], hp := [], m := 0 }
def M2000002 (g : St → Prop) x0 x1 aa := g (m2000002 x0 x1 aa)
def m3 (x0 : BA) (x1 : Int) : St := { tmps := mkT 85 0 [(0, (.v (.string x0))), (1, (.v (.int .i64 x1)))], hp := [], m := 0 }
def M3 (g : St → Prop) x0 x1 := g (m3 x0 x1)
def mL5 (x0 : BA) (x8 : Int) (b0 : LI) : St := { tmps := mkT 85 0 [(0, (.v (.string x0))), (7, (.sl 0 0)), (8, (.v (.int .i64 x8)))], hp := [(.lst 5 (Ty.int IntKind.u8) b0 0 false)], m := 0 }
def ML5 (g : St → Prop) x0 x8 b0 := g (mL5 x0 x8 b0)
def m2000006 (x0 : BA) (x8 : Int) (ab : Bool) (b0 : LI) : St := { tmps := mkT 85 0 [(0, (.v (.string x0))), (7, (.sl 0 0)), (8, (.v (.int .i64 x8))), (27, (.v (.bool ab)))], hp := [(.lst 5 (Ty.int IntKind.u8) b0 0 false)], m := 0 }
def M2000006 (g : St → Prop) x0 x8 ab b0 := g (m2000006 x0 x8 ab b0)
def m14 (x0 : BA) (x8 : Int) (b0 : LI) : St := { tmps := mkT 85 0 [(0, (.v (.string x0))), (7, (.sl 0 0)), (8, (.v (.int .i64 x8)))], hp := [(.lst 5 (Ty.int IntKind.u8) b0 0 false)], m := 0 }
def M14 (g : St → Prop) x0 x8 b0 := g (m14 x0 x8 b0)
def K0 (k : KT) (y0 : BA) (y1 y2 : Int) : Prop := k (.tup [(.v (.string y0)), (.v (.int .i64 y1)), (.v (.int .i64 y2))]) []
noncomputable def T (k kp : KT) := topK cfg Tryz.f124 k kp
noncomputable def X2000002 (k kp : KT) : St → Prop := atP cfg (pick none' []) [1, 0, 1] body (T k kp)
noncomputable def X3 (k kp : KT) : St → Prop := atP cfg (pick none' []) [1, 1] body (T k kp)
noncomputable def YL5 (k kp : KT) : (St → Prop) → St → Prop := loopB cfg (sub [1, 1, 1, 1, 0, 0] body) (contK cfg (pick none' []) [1, 1, 1, 1, 0] body (T k kp))
noncomputable def XL5 (k kp : KT) : St → Prop := fun st => ∃ n, loopN (YL5 k kp) n st
noncomputable def X2000006 (k kp : KT) (ag5 : St → Prop) : St → Prop := atP cfg (pick none' [(5, ag5)]) [1, 1, 1, 1, 0, 0, 0, 0, 0, 1] body (T k kp)
noncomputable def X14 (k kp : KT) (ag5 : St → Prop) : St → Prop := atP cfg (pick none' [(5, ag5)]) [1, 1, 1, 1, 0, 0, 0, 1] body (T k kp)
noncomputable def JJ (k kp : KT) : Nat → St → Prop := pick none' [(2000002, X2000002 k kp), (3, X3 k kp)]
noncomputable def LL (k kp : KT) : Nat → St → Prop := pick none' [(5, XL5 k kp)]
noncomputable def JJ_5 (k kp : KT) (ag5 : St → Prop) : Nat → St → Prop := pick none' [(2000002, X2000002 k kp), (3, X3 k kp), (2000006, X2000006 k kp ag5), (14, X14 k kp ag5)]
noncomputable def LL_5 (k kp : KT) (ag5 : St → Prop) : Nat → St → Prop := pick none' [(5, XL5 k kp)]
theorem j14_eq (k kp ag5) : M14 (X14 k kp ag5) = fun x0 x8 b0 => j14' (fun x8 b0 => ag5 (mL5 x0 x8 b0)) x0 x8 b0 (K0 k) := by
 funext x0 x8 b0
 exact raw_eq (own:=14) rfl (JJ_5 k kp ag5) (LL_5 k kp ag5) (fun J L => j14 (fun x8 b0 => ag5 (mL5 x0 x8 b0)) x0 x8 b0 (K0 k)) (by kernel_rfl) (fun _ _ => by kernel_rfl) rfl
theorem j2000006_eq (k kp ag5) : M2000006 (X2000006 k kp ag5) = fun x0 x8 ab b0 => j2000006' (fun x8 b0 => ag5 (mL5 x0 x8 b0)) x0 x8 ab b0 (K0 k) := by
 funext x0 x8 ab b0
 exact raw_eq (own:=2000006) rfl (JJ_5 k kp ag5) (LL_5 k kp ag5) (fun J L => j2000006 (M14 (J 14)) (fun x8 b0 => ag5 (mL5 x0 x8 b0)) x0 x8 ab b0 (K0 k)) (by kernel_rfl) (fun _ _ => by kernel_rfl) (by erw [j14_eq k kp ag5] <;> rfl)
theorem l5_eq (k kp) : ML5 (XL5 k kp) = fun x0 x8 b0 => l5' x0 x8 b0 (K0 k) := by
 funext x0 x8 b0
 exact loop_eq (mk := fun (s : Int × LI) => match s with | (x8, b0) => mL5 x0 x8 b0) (fun ag5 s => match s with | (x8, b0) => raw_eq (own:=1000001) (cfg := cfg) (AG := (pick none' [(5, ag5)])) (p := [1, 1, 1, 1, 0, 0]) (c := body) (K := (T k kp)) (st := mL5 x0 x8 b0) (by kernel_rfl) (JJ_5 k kp ag5) (LL_5 k kp ag5) (fun J L => l5 (M2000006 (J 2000006)) x0 x8 b0 (K0 k)) (by kernel_rfl) (fun _ _ => by kernel_rfl) (by erw [j2000006_eq k kp ag5] <;> rfl)) (x8, b0)
theorem j3_eq (k kp) : M3 (X3 k kp) = fun x0 x1 => j3' x0 x1 (K0 k) := by
 funext x0 x1
 exact raw_eq (own:=3) rfl (JJ k kp) (LL k kp) (fun J L => j3 (ML5 (L 5)) x0 x1 (K0 k)) (by kernel_rfl) (fun _ _ => by kernel_rfl) (by erw [l5_eq k kp] <;> rfl)
theorem j2000002_eq (k kp) : M2000002 (X2000002 k kp) = fun x0 x1 aa => j2000002' x0 x1 aa (K0 k) := by
 funext x0 x1 aa
 exact raw_eq (own:=2000002) rfl (JJ k kp) (LL k kp) (fun J L => j2000002 (M3 (J 3)) x0 x1 aa (K0 k)) (by kernel_rfl) (fun _ _ => by kernel_rfl) (by erw [j3_eq k kp] <;> rfl)
def pa (x0 : BA) (x1 : Int) : List D := [(.v (.string x0)), (.v (.int .i64 x1))]
def pb (x0 : BA) (x1 : Int) : List Blk := []
theorem body_is : Tryz.f124.body = some body := by kernel_rfl
theorem f_eq (k kp x0 x1) : funW cfg Tryz.f124 (pa x0 x1) (pb x0 x1) k kp = f x0 x1 (K0 k) :=
 raw_fun (own := 1000001) none'' (JJ k kp) (LL k kp) (fun J L => c (M2000002 (J 2000002)) x0 x1 (K0 k)) body_is (by kernel_rfl) (fun J L => by kernel_rfl) (by rw [f_def]; erw [j2000002_eq k kp] <;> rfl)
noncomputable def ent0 : Entry := fun args blks k _ => match args, blks with
 | [d0, d1], [] => aStr d0 fun x0 => aInt IntKind.i64 d1 fun x1 => f x0 x1 (K0 k)
 | _, _ => False
noncomputable def ent : Entry := cvE [.no, .no] ent0
theorem ok : EntOk Tryz.prog 112 157 124 ent := by
 refine fnOk (cfg := cfg) rfl rfl rfl rfl (by kernel_rfl) ?_ Tryz.func124 (by rfl) (by rfl) ?_
 ·exact tab_c N155.ok <| tab_n
 ·intro args blks k kp h k' kp'
  match args, blks, h with
  | [d0, d1], [], h =>
  dsimp only [ent0] at h
  repeat ((first|have q := aStr_elim h|have q := aInt_elim h); clear h; first|obtain ⟨rfl, h⟩ := q|obtain ⟨_, rfl, h⟩ := q|obtain ⟨_, _, rfl, h⟩ := q)
  exact (f_eq ..).symm
end N124
end Go.Proofs.Yf
namespace Go.Proofs.Yf
open Go Go.Aw Go.Proofs Go.RowKit
theorem meant_s (c : Int) (k : Int → Bool → Prop) (h : match meantL c with | some v => k v true | none => k 0 false) : N169.f c k := by
 rw [N169.f_def]
 unfold N169.f0 N169.c N169.j2000008' N169.j2000008 N169.j9' N169.j9
 unfold meantL at h
 simp only [br_beq]
 repeat' split
 all_goals simp_all
theorem nibble_s (c : Int) (hc : isB c) (k : Int → Bool → Prop) (h : match nibL c with | some v => k v true | none => k 0 false) : N170.f c k := by
 rw [N170.f_def]
 unfold N170.f0 N170.c N170.j2000002' N170.j2000002 N170.j2000004' N170.j2000004 N170.j2000006' N170.j2000006 N170.j7' N170.j7
 unfold isB at hc
 simp only [br_dec, br_false]
 by_cases h1 : 48 ≤ c ∧ c ≤ 57
 ·unfold nibL at h
  rw [if_pos h1] at h
  rw [if_pos h1.1, if_pos h1.2, show IntKind.u8.wrap (c - 48) = c - 48 by rw [wu8_eq]; omega]
  exact h
 ·by_cases h2 : 97 ≤ c ∧ c ≤ 102
  ·unfold nibL at h
   rw [if_neg h1, if_pos h2] at h
   have e : IntKind.u8.wrap (IntKind.u8.wrap (c - 97) + 10) = c - 87 := by rw [wu8_eq, wu8_eq]; omega
   rw [if_pos (by omega), if_neg (by omega), if_pos (by omega), if_pos (by omega), e]
   exact h
  ·by_cases h3 : 65 ≤ c ∧ c ≤ 70
   ·unfold nibL at h
    rw [if_neg h1, if_neg h2, if_pos h3] at h
    have e : IntKind.u8.wrap (IntKind.u8.wrap (c - 65) + 10) = c - 55 := by rw [wu8_eq, wu8_eq]; omega
    rw [if_pos (by omega), if_neg (by omega), if_neg (by omega), if_pos (by omega), if_pos (by omega), e]
    exact h
   ·unfold nibL at h
    rw [if_neg h1, if_neg h2, if_neg h3] at h
    repeat' split
    all_goals first | exact h | omega
theorem escape_s (r : List Int) (hr : ∀ x ∈ r, isB x) (k : Int → Int → Prop) (h : match escL r with | some (v, n) => k v n | none => k 0 0) : N155.f (bytesOf r) k := by
 rw [N155.f_def]
 unfold N155.f0 N155.c N155.j2000007' N155.j2000007 N155.j8' N155.j8
 rw [bytesOf_nil]
 simp only [br_dec, bytesOf_size]
 cases r with
 | nil => exact h
 | cons c r =>
   rw [if_neg (by simp)]
   have b0 : byteAt (bytesOf (c :: r)) 0 = c := byteAt_bytes hr 0
   refine ⟨⟨by omega, by omega, by simp⟩, ?_⟩
   rw [b0]
   refine meant_s c _ ?_
   unfold escL at h
   dsimp only at h
   split
   ·rename_i v hv
    rw [hv] at h
    exact h
   ·rename_i hv
    rw [hv] at h
    simp only [br_false, br_bne]
    refine ⟨⟨by omega, by omega, by simp⟩, ?_⟩
    dsimp only at h
    split
    ·rename_i hc
     rw [if_pos hc] at h
     match r, hr, h with
     | [], hr, h => exact h
     | [a], hr, h => exact h
     | a :: b :: r, hr, h =>
       rw [if_neg (by simp; omega)]
       have b1 : byteAt (bytesOf (c :: a :: b :: r)) 1 = a := byteAt_bytes hr 1
       have b2 : byteAt (bytesOf (c :: a :: b :: r)) 2 = b := byteAt_bytes hr 2
       rw [b1, b2]
       refine ⟨⟨by omega, by omega, by simp; omega⟩, nibble_s a (hr a (by simp)) _ ?_⟩
       unfold hexEsc at h
       dsimp only at h
       unfold N155.j2000011' N155.j2000011 N155.j12' N155.j12
       cases ha : nibL a with
       | none =>
         rw [ha] at h
         dsimp only at h ⊢
         refine ⟨⟨by omega, by omega, by simp; omega⟩, nibble_s b (hr b (by simp)) _ ?_⟩
         cases hb : nibL b <;> exact h
       | some hi =>
         rw [ha] at h
         dsimp only at h ⊢
         refine ⟨⟨by omega, by omega, by simp; omega⟩, nibble_s b (hr b (by simp)) _ ?_⟩
         cases hb : nibL b with
         | none => rw [hb] at h; exact h
         | some lo =>
           rw [hb] at h
           show (0 : Int) ≤ 4 ∧ _
           rw [or4 hi lo (nib_lt ha) (nib_lt hb)]
           exact ⟨by decide, h⟩
    ·rename_i hc
     rw [if_neg hc] at h
     exact h
theorem qscan_s (x : ByteArray) (hx : x.size ≤ 1000000000000) (at_ : Int) (k : ByteArray → Int → Int → Prop)
 (h1 : noQuote (ofBytes x) at_ → k (bytesOf []) 0 1)
 (h2 : ∀ t e c, ¬ noQuote (ofBytes x) at_ → scanL 64 ((ofBytes x).length + 1) ((ofBytes x).drop (at_.toNat + 1)) (at_ + 1) [] = (t, e, c) → k (bytesOf t) e c) : N124.f x at_ k := by
 rw [N124.f_def]
 unfold N124.f0 N124.c N124.j2000002' N124.j2000002 N124.j3' N124.j3
 have hn := ofBytes_length x
 have hB := ofBytes_isB x
 unfold noQuote at h1 h2
 rw [show ByteArray.mk #[] = bytesOf [] from rfl]
 have go : ¬ noQuote (ofBytes x) at_ → N124.l5' x (IntKind.i64.wrap (at_ + 1)) [] k := by
  intro hq
  have hq' := hq
  unfold noQuote at hq'
  obtain ⟨a, rfl⟩ : ∃ a : Nat, at_ = a := ⟨at_.toNat, by omega⟩
  have ha : a < (ofBytes x).length := by omega
  rw [wrap_id (by omega) (by omega)]
  simp only [Int.toNat_natCast] at h2 hq'
  generalize hR : scanL 64 ((ofBytes x).length + 1) ((ofBytes x).drop (a + 1)) ((a : Int) + 1) [] = R at h2
  unfold N124.l5'
  refine loopS_of (fun s : Int × List Int => ∃ i f : Nat, s.1 = i ∧ i ≤ (ofBytes x).length ∧ s.2.length ≤ 64 ∧ (ofBytes x).length - i < f ∧ scanL 64 f ((ofBytes x).drop i) i s.2 = R) (fun s => (ofBytes x).length - s.1.toNat) ?_
   ⟨a + 1, (ofBytes x).length + 1, by simp, by omega, by simp, by omega, by rw [← hR]; rfl⟩
  rintro again ⟨p, b⟩ ⟨i, f, e1, hi, hb, hf, e2⟩ hag
  simp only at e1 hb e2 hag
  subst e1
  unfold N124.l5 N124.j2000006' N124.j2000006
  dsimp only
  obtain ⟨f, rfl⟩ : ∃ g, f = g + 1 := ⟨f - 1, by omega⟩
  have fin : ∀ t e c, (t, e, c) = R → k (bytesOf t) e c := fun t e c he => h2 t e c (by simpa [noQuote] using hq) he.symm
  refine br_of (fun hend => ?_) (fun hne => ?_)
  ·have hend : i = (ofBytes x).length := by simp at hend; omega
   rw [List.drop_of_length_le (by omega)] at e2
   exact fin [] i 11 e2
  ·have hlt : i < (ofBytes x).length := by simp at hne; omega
   rw [byteAt_eq]
   rw [drop_get (d := 0) hlt] at e2
   have hc := getD_isB x i
   generalize (ofBytes x).getD i 0 = c at *
   have inb : inB 0 (i : Int) (((x.size : Nat) : Int) - 1) := ⟨by omega, by omega, by omega⟩
   refine ⟨inb, ?_⟩
   unfold scanL at e2
   dsimp only at e2
   simp only [br_beq, br_bne]
   split
   ·rename_i h10; rw [if_pos h10] at e2; exact fin _ _ _ e2
   ·rename_i h10; rw [if_neg h10] at e2
    refine ⟨inb, ?_⟩
    split
    ·rename_i h34; rw [if_pos h34] at e2
     rw [wrap_id (by omega) (by omega)]
     exact fin _ _ _ e2
    ·rename_i h34; rw [if_neg h34] at e2
     split
     ·rename_i h64; rw [if_pos (by omega)] at e2; exact fin _ _ _ e2
     ·rename_i h64; rw [if_neg (by omega)] at e2
      refine ⟨inb, ?_⟩
      split
      ·rename_i h92; rw [if_neg (by simpa using h92)] at e2
       unfold N124.j14' N124.j14
       have ee : ByteArray.extract x (Int.toNat (IntKind.i64.wrap ((i : Int) + 1))) (Int.toNat ((x.size : Nat) : Int)) = bytesOf ((ofBytes x).drop (i + 1)) := by
        rw [wrap_id (by omega) (by omega)]
        apply eq_of_ofBytes
        rw [ofBytes_extract, ofBytes_bytesOf (fun y hy => hB y (List.mem_of_mem_drop hy)), Int.toNat_natCast, List.take_of_length_le (by omega), show ((i : Int) + 1).toNat = i + 1 by omega]
       rw [ee]
       refine ⟨⟨by rw [wrap_id (by omega) (by omega)]; omega, by rw [wrap_id (by omega) (by omega)]; omega, by omega⟩, escape_s _ (fun y hy => hB y (List.mem_of_mem_drop hy)) _ ?_⟩
       cases hesc : escL ((ofBytes x).drop (i + 1)) with
       | none => rw [hesc] at e2; exact fin _ _ _ e2
       | some r =>
         obtain ⟨v, n⟩ := r
         rw [hesc] at e2
         obtain ⟨hn1, hn2⟩ := esc_pos hesc
         rw [List.length_drop] at hn2
         dsimp only at e2 ⊢
         simp only [br_beq]
         rw [if_neg (by omega)]
         refine ⟨by unfold room; simp; omega, ?_⟩
         rw [wrap_id (by omega) (by omega : (1 : Int) + n ≤ _), wrap_id (by omega) (by omega)]
         refine hag _ ⟨i + 1 + n, f, by simp; omega, by omega, by simp; omega, by omega, ?_⟩ (by simp only; omega)
         rw [List.drop_drop] at e2
         rw [← e2]
         simp
      ·rename_i h92; rw [if_pos (by simpa using h92)] at e2
       refine ⟨inb, by unfold room; simp; omega, ?_⟩
       rw [wrap_id (by omega) (by omega)]
       refine hag _ ⟨i + 1, f, by simp, by omega, by simp; omega, by omega, ?_⟩ (by simp only; omega)
       rw [← e2]
       simp
 simp only [br_dec, br_bne]
 split
 ·rename_i ha; exact h1 (.inl ha)
 ·rename_i ha
  split
  ·rename_i hb; exact h1 (.inr (.inl (by omega)))
  ·rename_i hb
   obtain ⟨a, rfl⟩ : ∃ a : Nat, at_ = a := ⟨at_.toNat, by omega⟩
   rw [byteAt_eq]
   refine ⟨⟨by omega, by omega, by omega⟩, ?_⟩
   split
   ·rename_i hc
    refine go ?_
    unfold noQuote
    simp only [Int.toNat_natCast]
    rintro (h | h | h)
    ·omega
    ·omega
    ·exact h hc
   ·rename_i hc
    exact h1 (.inr (.inr (by simpa using hc)))
end Go.Proofs.Yf
namespace Go.Proofs.Yf
open Go Go.Aw Go.Proofs
namespace N122
noncomputable def cfg : Cfg := { cb with E := tab [(153, N153.ent)] }
noncomputable def body : Code := bodyOf Tryz.f122
def c (x0 : BA) (x1 : Int) (k : Int → Prop) : Prop :=
 (k (indexB x0 x1))
def f0 x0 x1 k := c x0 x1 k
noncomputable def f := sld f0
theorem f_def : f = f0 := sld_eq f0
def K0 (k : KT) (y0 : Int) : Prop := k (.v (.int .i64 y0)) []
noncomputable def T (k kp : KT) := topK cfg Tryz.f122 k kp
noncomputable def JJ (k kp : KT) : Nat → St → Prop := pick none' []
noncomputable def LL (k kp : KT) : Nat → St → Prop := pick none' []
def pa (x0 : BA) (x1 : Int) : List D := [(.v (.string x0)), (.v (.int IntKind.u8 x1))]
def pb (x0 : BA) (x1 : Int) : List Blk := []
theorem body_is : Tryz.f122.body = some body := by kernel_rfl
theorem f_eq (k kp x0 x1) : funW cfg Tryz.f122 (pa x0 x1) (pb x0 x1) k kp = f x0 x1 (K0 k) :=
 raw_fun (own := 1000001) none'' (JJ k kp) (LL k kp) (fun J L => c x0 x1 (K0 k)) body_is (by kernel_rfl) (fun J L => by kernel_rfl) (by rw [f_def]; rfl)
noncomputable def ent0 : Entry := fun args blks k _ => match args, blks with
 | [d0, d1], [] => aStr d0 fun x0 => aInt IntKind.u8 d1 fun x1 => f x0 x1 (K0 k)
 | _, _ => False
noncomputable def ent : Entry := cvE [.no, .no] ent0
theorem ok : EntOk Tryz.prog 112 157 122 ent := by
 refine fnOk (cfg := cfg) rfl rfl rfl rfl (by kernel_rfl) ?_ Tryz.func122 (by rfl) (by rfl) ?_
 ·exact tab_c N153.ok <| tab_n
 ·intro args blks k kp h k' kp'
  match args, blks, h with
  | [d0, d1], [], h =>
  dsimp only [ent0] at h
  repeat ((first|have q := aStr_elim h|have q := aInt_elim h); clear h; first|obtain ⟨rfl, h⟩ := q|obtain ⟨_, rfl, h⟩ := q|obtain ⟨_, _, rfl, h⟩ := q)
  exact (f_eq ..).symm
end N122
namespace N154
noncomputable def cfg : Cfg := { cb with E := tab [] }
noncomputable def body : Code := bodyOf Tryz.f154
def c (x0 x1 : BA) (k : Bool → Prop) : Prop :=
 (br (decide (((((x0).size : Nat) : Int)) ≥ ((((x1).size : Nat) : Int)))) ((inB 0 ((((x1).size : Nat) : Int)) (((x0).size : Nat) : Int)) ∧ (k (beqS (ByteArray.extract x0 (Int.toNat 0) (Int.toNat ((((x1).size : Nat) : Int)))) x1))) (k false))
def f0 x0 x1 k := c x0 x1 k
noncomputable def f := sld f0
theorem f_def : f = f0 := sld_eq f0
def K0 (k : KT) (y0 : Bool) : Prop := k (.v (.bool y0)) []
noncomputable def T (k kp : KT) := topK cfg Tryz.f154 k kp
noncomputable def JJ (k kp : KT) : Nat → St → Prop := pick none' []
noncomputable def LL (k kp : KT) : Nat → St → Prop := pick none' []
def pa (x0 x1 : BA) : List D := [(.v (.string x0)), (.v (.string x1))]
def pb (x0 x1 : BA) : List Blk := []
theorem body_is : Tryz.f154.body = some body := by kernel_rfl
theorem f_eq (k kp x0 x1) : funW cfg Tryz.f154 (pa x0 x1) (pb x0 x1) k kp = f x0 x1 (K0 k) :=
 raw_fun (own := 1000001) none'' (JJ k kp) (LL k kp) (fun J L => c x0 x1 (K0 k)) body_is (by kernel_rfl) (fun J L => by kernel_rfl) (by rw [f_def]; rfl)
noncomputable def ent0 : Entry := fun args blks k _ => match args, blks with
 | [d0, d1], [] => aStr d0 fun x0 => aStr d1 fun x1 => f x0 x1 (K0 k)
 | _, _ => False
noncomputable def ent : Entry := cvE [.no, .no] ent0
theorem ok : EntOk Tryz.prog 112 157 154 ent := by
 refine fnOk (cfg := cfg) rfl rfl rfl rfl (by kernel_rfl) ?_ Tryz.func154 (by rfl) (by rfl) ?_
 ·exact tab_n
 ·intro args blks k kp h k' kp'
  match args, blks, h with
  | [d0, d1], [], h =>
  dsimp only [ent0] at h
  repeat ((first|have q := aStr_elim h); clear h; first|obtain ⟨rfl, h⟩ := q|obtain ⟨_, rfl, h⟩ := q|obtain ⟨_, _, rfl, h⟩ := q)
  exact (f_eq ..).symm
end N154
namespace N123
noncomputable def cfg : Cfg := { cb with E := tab [(154, N154.ent)] }
noncomputable def body : Code := bodyOf Tryz.f123
def c (x0 x1 : BA) (k : Bool → Prop) : Prop :=
 (N154.f x0 x1 (fun aa => (k aa)))
def f0 x0 x1 k := c x0 x1 k
noncomputable def f := sld f0
theorem f_def : f = f0 := sld_eq f0
def K0 (k : KT) (y0 : Bool) : Prop := k (.v (.bool y0)) []
noncomputable def T (k kp : KT) := topK cfg Tryz.f123 k kp
noncomputable def JJ (k kp : KT) : Nat → St → Prop := pick none' []
noncomputable def LL (k kp : KT) : Nat → St → Prop := pick none' []
def pa (x0 x1 : BA) : List D := [(.v (.string x0)), (.v (.string x1))]
def pb (x0 x1 : BA) : List Blk := []
theorem body_is : Tryz.f123.body = some body := by kernel_rfl
theorem f_eq (k kp x0 x1) : funW cfg Tryz.f123 (pa x0 x1) (pb x0 x1) k kp = f x0 x1 (K0 k) :=
 raw_fun (own := 1000001) none'' (JJ k kp) (LL k kp) (fun J L => c x0 x1 (K0 k)) body_is (by kernel_rfl) (fun J L => by kernel_rfl) (by rw [f_def]; rfl)
noncomputable def ent0 : Entry := fun args blks k _ => match args, blks with
 | [d0, d1], [] => aStr d0 fun x0 => aStr d1 fun x1 => f x0 x1 (K0 k)
 | _, _ => False
noncomputable def ent : Entry := cvE [.no, .no] ent0
theorem ok : EntOk Tryz.prog 112 157 123 ent := by
 refine fnOk (cfg := cfg) rfl rfl rfl rfl (by kernel_rfl) ?_ Tryz.func123 (by rfl) (by rfl) ?_
 ·exact tab_c N154.ok <| tab_n
 ·intro args blks k kp h k' kp'
  match args, blks, h with
  | [d0, d1], [], h =>
  dsimp only [ent0] at h
  repeat ((first|have q := aStr_elim h); clear h; first|obtain ⟨rfl, h⟩ := q|obtain ⟨_, rfl, h⟩ := q|obtain ⟨_, _, rfl, h⟩ := q)
  exact (f_eq ..).symm
end N123
namespace N78
noncomputable def cfg : Cfg := { cb with E := tab [(122, N122.ent), (123, N123.ent)], atSeq := tab [(8, ks [0, 3])], atLoop := tab [(0, ks [0])] }
noncomputable def body : Code := bodyOf Tryz.f78
def l0 (j8 : Int → BA → Int → Prop) (ag0 : BA → Int → Prop) (aa : BA) (ab : Int) (k : BA → Int → Prop) : Prop :=
 (br (decide (ab < ((((aa).size : Nat) : Int)))) ((inB ab (((aa).size : Nat) : Int) (((aa).size : Nat) : Int)) ∧ ((inB 0 (0 : Int) (((((ByteArray.extract aa (Int.toNat ab) (Int.toNat (((aa).size : Nat) : Int)))).size : Nat) : Int) - 1)) ∧ (N122.f (ByteArray.mk #[32, 9, 13, 10]) (byteAt (ByteArray.extract aa (Int.toNat ab) (Int.toNat (((aa).size : Nat) : Int))) (0 : Int)) (fun ad => (br (decide (ad ≥ (0 : Int))) (ag0 aa (IntKind.i64.wrap (ab + (1 : Int)))) (N123.f (ByteArray.extract aa (Int.toNat ab) (Int.toNat (((aa).size : Nat) : Int))) (ByteArray.mk #[47, 47]) (fun ae => (br ae (N122.f (ByteArray.extract aa (Int.toNat ab) (Int.toNat (((aa).size : Nat) : Int))) (10 : Int) (fun ac => (br (decide (ac < (0 : Int))) (j8 (((((ByteArray.extract aa (Int.toNat ab) (Int.toNat (((aa).size : Nat) : Int)))).size : Nat) : Int)) aa ab) (j8 ac aa ab)))) (k aa ab))))))))) (k aa ab))
def j8 (ag0 : BA → Int → Prop) (x3 : Int) (aa : BA) (ab : Int) (k : BA → Int → Prop) : Prop :=
 (ag0 aa (IntKind.i64.wrap (ab + x3)))
def c (l0 : BA → Int → Prop) (aa : BA) (ab : Int) (k : BA → Int → Prop) : Prop :=
 (l0 aa ab)
def j8' ag0 x3 aa ab k := j8 ag0 x3 aa ab k
def l0' (aa : BA) (ab : Int) (k : BA → Int → Prop) : Prop := ∃ n, loopS (fun ag (s : BA × Int) => l0 (fun x3 aa ab => j8' (fun aa ab => ag (aa, ab)) x3 aa ab k) (fun aa ab => ag (aa, ab)) s.1 s.2 k) n (aa, ab)
def f0 aa ab k := c (fun aa ab => l0' aa ab k) aa ab k
noncomputable def f := sld f0
theorem f_def : f = f0 := sld_eq f0
def mL0 (aa : BA) (ab : Int) : St := { tmps := mkT 52 0 [(0, (.ptr 0 0))], hp := [(.box 152 [(.v (.string aa)), (.v (.int .i64 ab))])], m := 1 }
def ML0 (g : St → Prop) aa ab := g (mL0 aa ab)
def m8 (x3 : Int) (aa : BA) (ab : Int) : St := { tmps := mkT 52 0 [(0, (.ptr 0 0)), (3, (.v (.int .i64 x3)))], hp := [(.box 152 [(.v (.string aa)), (.v (.int .i64 ab))])], m := 1 }
def M8 (g : St → Prop) x3 aa ab := g (m8 x3 aa ab)
def K0 (k : KT) (af : BA) (ah : Int) : Prop := k (.tup []) [(.box 152 [(.v (.string af)), (.v (.int .i64 ah))])]
noncomputable def T (k kp : KT) := topK cfg Tryz.f78 k kp
noncomputable def YL0 (k kp : KT) : (St → Prop) → St → Prop := loopB cfg (sub [0, 0] body) (contK cfg (pick none' []) [0] body (T k kp))
noncomputable def XL0 (k kp : KT) : St → Prop := fun st => ∃ n, loopN (YL0 k kp) n st
noncomputable def X8 (k kp : KT) (ag0 : St → Prop) : St → Prop := atP cfg (pick none' [(0, ag0)]) [0, 0, 1, 0, 1, 0, 1, 1, 1, 0, 1, 1] body (T k kp)
noncomputable def JJ_0 (k kp : KT) (ag0 : St → Prop) : Nat → St → Prop := pick none' [(8, X8 k kp ag0)]
noncomputable def LL_0 (k kp : KT) (ag0 : St → Prop) : Nat → St → Prop := pick none' [(0, XL0 k kp)]
noncomputable def JJ (k kp : KT) : Nat → St → Prop := pick none' []
noncomputable def LL (k kp : KT) : Nat → St → Prop := pick none' [(0, XL0 k kp)]
theorem j8_eq (k kp ag0) : M8 (X8 k kp ag0) = fun x3 aa ab => j8' (fun aa ab => ag0 (mL0 aa ab)) x3 aa ab (K0 k) := by
 funext x3 aa ab
 exact raw_eq (own:=8) rfl (JJ_0 k kp ag0) (LL_0 k kp ag0) (fun J L => j8 (fun aa ab => ag0 (mL0 aa ab)) x3 aa ab (K0 k)) (by kernel_rfl) (fun _ _ => by kernel_rfl) rfl
theorem l0_eq (k kp) : ML0 (XL0 k kp) = fun aa ab => l0' aa ab (K0 k) := by
 funext aa ab
 exact loop_eq (mk := fun (s : BA × Int) => match s with | (aa, ab) => mL0 aa ab) (fun ag0 s => match s with | (aa, ab) => raw_eq (own:=1000001) (cfg := cfg) (AG := (pick none' [(0, ag0)])) (p := [0, 0]) (c := body) (K := (T k kp)) (st := mL0 aa ab) (by kernel_rfl) (JJ_0 k kp ag0) (LL_0 k kp ag0) (fun J L => l0 (M8 (J 8)) (fun aa ab => ag0 (mL0 aa ab)) aa ab (K0 k)) (by kernel_rfl) (fun _ _ => by kernel_rfl) (by erw [j8_eq k kp ag0] <;> rfl)) (aa, ab)
def pa (aa : BA) (ab : Int) : List D := [(.ptr 0 0)]
def pb (aa : BA) (ab : Int) : List Blk := [(.box 152 [(.v (.string aa)), (.v (.int .i64 ab))])]
theorem body_is : Tryz.f78.body = some body := by kernel_rfl
theorem f_eq (k kp aa ab) : funW cfg Tryz.f78 (pa aa ab) (pb aa ab) k kp = f aa ab (K0 k) :=
 raw_fun (own := 1000001) none'' (JJ k kp) (LL k kp) (fun J L => c (ML0 (L 0)) aa ab (K0 k)) body_is (by kernel_rfl) (fun J L => by kernel_rfl) (by rw [f_def]; erw [l0_eq k kp] <;> rfl)
noncomputable def ent0 : Entry := fun args blks k _ => match args, blks with
 | [d0], [e0] => aPtr 0 0 d0 (aBox 152 e0 fun l => aCons l fun ai l => aCons l fun aj l => aNil l (aStr ai fun aa => aInt IntKind.i64 aj fun ab => f aa ab (K0 k)))
 | _, _ => False
noncomputable def ent : Entry := cvE [.no] ent0
theorem ok : EntOk Tryz.prog 112 157 78 ent := by
 refine fnOk (cfg := cfg) rfl rfl rfl rfl (by kernel_rfl) ?_ Tryz.func78 (by rfl) (by rfl) ?_
 ·exact tab_c N122.ok <| tab_c N123.ok <| tab_n
 ·intro args blks k kp h k' kp'
  match args, blks, h with
  | [d0], [e0], h =>
  dsimp only [ent0] at h
  repeat ((first|have q := aPtr_elim h|have q := aBox_elim h|have q := aCons_elim h|have q := aNil_elim h|have q := aStr_elim h|have q := aInt_elim h); clear h; first|obtain ⟨rfl, h⟩ := q|obtain ⟨_, rfl, h⟩ := q|obtain ⟨_, _, rfl, h⟩ := q)
  exact (f_eq ..).symm
end N78
namespace N79
noncomputable def cfg : Cfg := { cb with E := tab [(124, N124.ent)] }
noncomputable def body : Code := bodyOf Tryz.f79
def c (ab : BA) (aa : Int) (k : Int → BA → Int → Int → Int → Int → Int → BA → Int → Prop) : Prop :=
 (N124.f ab aa (fun ac ad ae => (k (3 : Int) ac (0 : Int) (0 : Int) aa ad ae ab aa)))
def f0 ab aa k := c ab aa k
noncomputable def f := sld f0
theorem f_def : f = f0 := sld_eq f0
def K0 (k : KT) (ac : Int) (af : BA) (ah ai : Int) (aj y1 y2 : Int) (ak : BA) (al : Int) : Prop := k (.tup [(.agg [(.v (.int .i64 ac)), (.v (.string af)), (.v (.int .i64 ah)), (.v (.int .i64 ai)), (.v (.int .i64 aj))]), (.v (.int .i64 y1)), (.v (.int .i64 y2))]) [(.box 152 [(.v (.string ak)), (.v (.int .i64 al))])]
noncomputable def T (k kp : KT) := topK cfg Tryz.f79 k kp
noncomputable def JJ (k kp : KT) : Nat → St → Prop := pick none' []
noncomputable def LL (k kp : KT) : Nat → St → Prop := pick none' []
def pa (ab : BA) (aa : Int) : List D := [(.ptr 0 0)]
def pb (ab : BA) (aa : Int) : List Blk := [(.box 152 [(.v (.string ab)), (.v (.int .i64 aa))])]
theorem body_is : Tryz.f79.body = some body := by kernel_rfl
theorem f_eq (k kp ab aa) : funW cfg Tryz.f79 (pa ab aa) (pb ab aa) k kp = f ab aa (K0 k) :=
 raw_fun (own := 1000001) none'' (JJ k kp) (LL k kp) (fun J L => c ab aa (K0 k)) body_is (by kernel_rfl) (fun J L => by kernel_rfl) (by rw [f_def]; rfl)
noncomputable def ent0 : Entry := fun args blks k _ => match args, blks with
 | [d0], [e0] => aPtr 0 0 d0 (aBox 152 e0 fun l => aCons l fun am l => aCons l fun an l => aNil l (aStr am fun ab => aInt IntKind.i64 an fun aa => f ab aa (K0 k)))
 | _, _ => False
noncomputable def ent : Entry := cvE [.no] ent0
theorem ok : EntOk Tryz.prog 112 157 79 ent := by
 refine fnOk (cfg := cfg) rfl rfl rfl rfl (by kernel_rfl) ?_ Tryz.func79 (by rfl) (by rfl) ?_
 ·exact tab_c N124.ok <| tab_n
 ·intro args blks k kp h k' kp'
  match args, blks, h with
  | [d0], [e0], h =>
  dsimp only [ent0] at h
  repeat ((first|have q := aPtr_elim h|have q := aBox_elim h|have q := aCons_elim h|have q := aNil_elim h|have q := aStr_elim h|have q := aInt_elim h); clear h; first|obtain ⟨rfl, h⟩ := q|obtain ⟨_, rfl, h⟩ := q|obtain ⟨_, _, rfl, h⟩ := q)
  exact (f_eq ..).symm
end N79
namespace N125
noncomputable def cfg : Cfg := { cb with E := tab [] }
noncomputable def body : Code := bodyOf Tryz.f125
def c (x0 : Int) (k : Bool → Prop) : Prop :=
 (br (decide (x0 ≥ (48 : Int))) (k (decide (x0 ≤ (57 : Int)))) (k false))
def f0 x0 k := c x0 k
noncomputable def f := sld f0
theorem f_def : f = f0 := sld_eq f0
def K0 (k : KT) (y0 : Bool) : Prop := k (.v (.bool y0)) []
noncomputable def T (k kp : KT) := topK cfg Tryz.f125 k kp
noncomputable def JJ (k kp : KT) : Nat → St → Prop := pick none' []
noncomputable def LL (k kp : KT) : Nat → St → Prop := pick none' []
def pa (x0 : Int) : List D := [(.v (.int IntKind.u8 x0))]
def pb (x0 : Int) : List Blk := []
theorem body_is : Tryz.f125.body = some body := by kernel_rfl
theorem f_eq (k kp x0) : funW cfg Tryz.f125 (pa x0) (pb x0) k kp = f x0 (K0 k) :=
 raw_fun (own := 1000001) none'' (JJ k kp) (LL k kp) (fun J L => c x0 (K0 k)) body_is (by kernel_rfl) (fun J L => by kernel_rfl) (by rw [f_def]; rfl)
noncomputable def ent0 : Entry := fun args blks k _ => match args, blks with
 | [d0], [] => aInt IntKind.u8 d0 fun x0 => f x0 (K0 k)
 | _, _ => False
noncomputable def ent : Entry := cvE [.no] ent0
theorem ok : EntOk Tryz.prog 112 157 125 ent := by
 refine fnOk (cfg := cfg) rfl rfl rfl rfl (by kernel_rfl) ?_ Tryz.func125 (by rfl) (by rfl) ?_
 ·exact tab_n
 ·intro args blks k kp h k' kp'
  match args, blks, h with
  | [d0], [], h =>
  dsimp only [ent0] at h
  repeat ((first|have q := aInt_elim h); clear h; first|obtain ⟨rfl, h⟩ := q|obtain ⟨_, rfl, h⟩ := q|obtain ⟨_, _, rfl, h⟩ := q)
  exact (f_eq ..).symm
end N125
namespace N160
noncomputable def cfg : Cfg := { cb with E := tab [] }
noncomputable def body : Code := bodyOf Tryz.f160
def c (x1 : Int) (aa : BA) (ab : Int) (k : Int → BA → Int → Prop) : Prop :=
 (br (decide ((IntKind.i64.wrap (ab + x1)) < ((((aa).size : Nat) : Int)))) ((inB 0 (IntKind.i64.wrap (ab + x1)) ((((aa).size : Nat) : Int) - 1)) ∧ (k (byteAt aa (IntKind.i64.wrap (ab + x1))) aa ab)) (k (0 : Int) aa ab))
def f0 x1 aa ab k := c x1 aa ab k
noncomputable def f := sld f0
theorem f_def : f = f0 := sld_eq f0
def K0 (k : KT) (y0 : Int) (ac : BA) (ad : Int) : Prop := k (.v (.int IntKind.u8 y0)) [(.box 152 [(.v (.string ac)), (.v (.int .i64 ad))])]
noncomputable def T (k kp : KT) := topK cfg Tryz.f160 k kp
noncomputable def JJ (k kp : KT) : Nat → St → Prop := pick none' []
noncomputable def LL (k kp : KT) : Nat → St → Prop := pick none' []
def pa (x1 : Int) (aa : BA) (ab : Int) : List D := [(.ptr 0 0), (.v (.int .i64 x1))]
def pb (x1 : Int) (aa : BA) (ab : Int) : List Blk := [(.box 152 [(.v (.string aa)), (.v (.int .i64 ab))])]
theorem body_is : Tryz.f160.body = some body := by kernel_rfl
theorem f_eq (k kp x1 aa ab) : funW cfg Tryz.f160 (pa x1 aa ab) (pb x1 aa ab) k kp = f x1 aa ab (K0 k) :=
 raw_fun (own := 1000001) none'' (JJ k kp) (LL k kp) (fun J L => c x1 aa ab (K0 k)) body_is (by kernel_rfl) (fun J L => by kernel_rfl) (by rw [f_def]; rfl)
noncomputable def ent0 : Entry := fun args blks k _ => match args, blks with
 | [d0, d1], [e0] => aPtr 0 0 d0 (aInt IntKind.i64 d1 fun x1 => aBox 152 e0 fun l => aCons l fun ae l => aCons l fun af l => aNil l (aStr ae fun aa => aInt IntKind.i64 af fun ab => f x1 aa ab (K0 k)))
 | _, _ => False
noncomputable def ent : Entry := cvE [.no, .no] ent0
theorem ok : EntOk Tryz.prog 112 157 160 ent := by
 refine fnOk (cfg := cfg) rfl rfl rfl rfl (by kernel_rfl) ?_ Tryz.func160 (by rfl) (by rfl) ?_
 ·exact tab_n
 ·intro args blks k kp h k' kp'
  match args, blks, h with
  | [d0, d1], [e0], h =>
  dsimp only [ent0] at h
  repeat ((first|have q := aPtr_elim h|have q := aInt_elim h|have q := aBox_elim h|have q := aCons_elim h|have q := aNil_elim h|have q := aStr_elim h); clear h; first|obtain ⟨rfl, h⟩ := q|obtain ⟨_, rfl, h⟩ := q|obtain ⟨_, _, rfl, h⟩ := q)
  exact (f_eq ..).symm
end N160
namespace N156
noncomputable def cfg : Cfg := { cb with E := tab [(160, N160.ent), (125, N125.ent), (171, N171.ent)], atSeq := tab [(2000008, ks [0, 1, 8, 9, 10, 12, 63]), (9, ks [0, 1, 8, 9, 10])] }
noncomputable def body : Code := bodyOf Tryz.f156
def j2000008 (j9 : Int → Int → Int → Int → BA → Int → Prop) (x1 x8 : Int) (x9 ae af : Int) (ah : Bool) (ab : BA) (aa : Int) (k : Int → Int → Int → BA → Int → Prop) : Prop :=
 (br ah (k (0 : Int) af (0 : Int) ab aa) (j9 x1 x8 x9 ae ab aa))
def j9 (x1 x8 : Int) (x9 ae : Int) (ab : BA) (aa : Int) (k : Int → Int → Int → BA → Int → Prop) : Prop :=
 (k (IntKind.i64.wrap (0 - x8)) (IntKind.i64.wrap ((IntKind.i64.wrap ((IntKind.i64.wrap (aa + x1)) + x9)) - (1 : Int))) ae ab aa)
def c (j2000008 : Int → Int → Int → Int → Int → Bool → BA → Int → Prop) (j9 : Int → Int → Int → Int → BA → Int → Prop) (x1 : Int) (ab : BA) (aa : Int) (k : Int → Int → Int → BA → Int → Prop) : Prop :=
 (N160.f x1 ab aa (fun am ac ad => (N125.f am (fun an => (br (!an) (k (0 : Int) (0 : Int) (12 : Int) ac ad) ((inB (IntKind.i64.wrap (ad + x1)) (((ac).size : Nat) : Int) (((ac).size : Nat) : Int)) ∧ ((inB 0 (mmv false (((((ByteArray.extract ac (Int.toNat (IntKind.i64.wrap (ad + x1))) (Int.toNat (((ac).size : Nat) : Int)))).size : Nat) : Int)) (24 : Int)) ((((ByteArray.extract ac (Int.toNat (IntKind.i64.wrap (ad + x1))) (Int.toNat (((ac).size : Nat) : Int)))).size : Nat) : Int)) ∧ ((((ByteArray.mk #[45])).size + ((ByteArray.extract (ByteArray.extract ac (Int.toNat (IntKind.i64.wrap (ad + x1))) (Int.toNat (((ac).size : Nat) : Int))) (Int.toNat 0) (Int.toNat (mmv false (((((ByteArray.extract ac (Int.toNat (IntKind.i64.wrap (ad + x1))) (Int.toNat (((ac).size : Nat) : Int)))).size : Nat) : Int)) (24 : Int))))).size ≤ 9223372036854775807) ∧ (N171.f ((ByteArray.mk #[45]) ++ (ByteArray.extract (ByteArray.extract ac (Int.toNat (IntKind.i64.wrap (ad + x1))) (Int.toNat (((ac).size : Nat) : Int))) (Int.toNat 0) (Int.toNat (mmv false (((((ByteArray.extract ac (Int.toNat (IntKind.i64.wrap (ad + x1))) (Int.toNat (((ac).size : Nat) : Int)))).size : Nat) : Int)) (24 : Int))))) (0 : Int) (fun ai aj ak => (br (ai == (0 : Int)) (N171.f ac (IntKind.i64.wrap (ad + x1)) (fun ao al ap => (br (ap == (0 : Int)) (j2000008 x1 ai aj ak al (ao == (0 : Int)) ac ad) (j2000008 x1 ai aj ak al false ac ad)))) (j9 x1 ai aj ak ac ad))))))))))))
def j9' x1 x8 x9 ae ab aa k := j9 x1 x8 x9 ae ab aa k
def j2000008' x1 x8 x9 ae af ah ab aa k := j2000008 (fun x1 x8 x9 ae ab aa => j9' x1 x8 x9 ae ab aa k) x1 x8 x9 ae af ah ab aa k
def f0 x1 ab aa k := c (fun x1 x8 x9 ae af ah ab aa => j2000008' x1 x8 x9 ae af ah ab aa k) (fun x1 x8 x9 ae ab aa => j9' x1 x8 x9 ae ab aa k) x1 ab aa k
noncomputable def f := sld f0
theorem f_def : f = f0 := sld_eq f0
def m2000008 (x1 x8 : Int) (x9 ae af : Int) (ah : Bool) (ab : BA) (aa : Int) : St := { tmps := mkT 77 0 [(0, (.ptr 0 0)), (1, (.v (.int .i64 x1))), (8, (.v (.int .i64 x8))), (9, (.v (.int .i64 x9))), (10, (.v (.int .i64 ae))), (12, (.v (.int .i64 af))), (63, (.v (.bool ah)))], hp := [(.box 152 [(.v (.string ab)), (.v (.int .i64 aa))])], m := 1 }
def M2000008 (g : St → Prop) x1 x8 x9 ae af ah ab aa := g (m2000008 x1 x8 x9 ae af ah ab aa)
def m9 (x1 x8 : Int) (x9 ae : Int) (ab : BA) (aa : Int) : St := { tmps := mkT 77 0 [(0, (.ptr 0 0)), (1, (.v (.int .i64 x1))), (8, (.v (.int .i64 x8))), (9, (.v (.int .i64 x9))), (10, (.v (.int .i64 ae)))], hp := [(.box 152 [(.v (.string ab)), (.v (.int .i64 aa))])], m := 1 }
def M9 (g : St → Prop) x1 x8 x9 ae ab aa := g (m9 x1 x8 x9 ae ab aa)
def K0 (k : KT) (y0 y1 y2 : Int) (aq : BA) (ar : Int) : Prop := k (.tup [(.v (.int .i64 y0)), (.v (.int .i64 y1)), (.v (.int .i64 y2))]) [(.box 152 [(.v (.string aq)), (.v (.int .i64 ar))])]
noncomputable def T (k kp : KT) := topK cfg Tryz.f156 k kp
noncomputable def X2000008 (k kp : KT) : St → Prop := atP cfg (pick none' []) [1, 1, 1, 1, 0, 1, 0, 1, 1] body (T k kp)
noncomputable def X9 (k kp : KT) : St → Prop := atP cfg (pick none' []) [1, 1, 1, 1, 1] body (T k kp)
noncomputable def JJ (k kp : KT) : Nat → St → Prop := pick none' [(2000008, X2000008 k kp), (9, X9 k kp)]
noncomputable def LL (k kp : KT) : Nat → St → Prop := pick none' []
theorem j9_eq (k kp) : M9 (X9 k kp) = fun x1 x8 x9 ae ab aa => j9' x1 x8 x9 ae ab aa (K0 k) := by
 funext x1 x8 x9 ae ab aa
 exact raw_eq (own:=9) rfl (JJ k kp) (LL k kp) (fun J L => j9 x1 x8 x9 ae ab aa (K0 k)) (by kernel_rfl) (fun _ _ => by kernel_rfl) rfl
theorem j2000008_eq (k kp) : M2000008 (X2000008 k kp) = fun x1 x8 x9 ae af ah ab aa => j2000008' x1 x8 x9 ae af ah ab aa (K0 k) := by
 funext x1 x8 x9 ae af ah ab aa
 exact raw_eq (own:=2000008) rfl (JJ k kp) (LL k kp) (fun J L => j2000008 (M9 (J 9)) x1 x8 x9 ae af ah ab aa (K0 k)) (by kernel_rfl) (fun _ _ => by kernel_rfl) (by erw [j9_eq k kp] <;> rfl)
def pa (x1 : Int) (ab : BA) (aa : Int) : List D := [(.ptr 0 0), (.v (.int .i64 x1))]
def pb (x1 : Int) (ab : BA) (aa : Int) : List Blk := [(.box 152 [(.v (.string ab)), (.v (.int .i64 aa))])]
theorem body_is : Tryz.f156.body = some body := by kernel_rfl
theorem f_eq (k kp x1 ab aa) : funW cfg Tryz.f156 (pa x1 ab aa) (pb x1 ab aa) k kp = f x1 ab aa (K0 k) :=
 raw_fun (own := 1000001) none'' (JJ k kp) (LL k kp) (fun J L => c (M2000008 (J 2000008)) (M9 (J 9)) x1 ab aa (K0 k)) body_is (by kernel_rfl) (fun J L => by kernel_rfl) (by rw [f_def]; erw [j2000008_eq k kp, j9_eq k kp] <;> rfl)
noncomputable def ent0 : Entry := fun args blks k _ => match args, blks with
 | [d0, d1], [e0] => aPtr 0 0 d0 (aInt IntKind.i64 d1 fun x1 => aBox 152 e0 fun l => aCons l fun au l => aCons l fun av l => aNil l (aStr au fun ab => aInt IntKind.i64 av fun aa => f x1 ab aa (K0 k)))
 | _, _ => False
noncomputable def ent : Entry := cvE [.no, .no] ent0
theorem ok : EntOk Tryz.prog 112 157 156 ent := by
 refine fnOk (cfg := cfg) rfl rfl rfl rfl (by kernel_rfl) ?_ Tryz.func156 (by rfl) (by rfl) ?_
 ·exact tab_c N160.ok <| tab_c N125.ok <| tab_c N171.ok <| tab_n
 ·intro args blks k kp h k' kp'
  match args, blks, h with
  | [d0, d1], [e0], h =>
  dsimp only [ent0] at h
  repeat ((first|have q := aPtr_elim h|have q := aInt_elim h|have q := aBox_elim h|have q := aCons_elim h|have q := aNil_elim h|have q := aStr_elim h); clear h; first|obtain ⟨rfl, h⟩ := q|obtain ⟨_, rfl, h⟩ := q|obtain ⟨_, _, rfl, h⟩ := q)
  exact (f_eq ..).symm
end N156
namespace N157
noncomputable def cfg : Cfg := { cb with E := tab [], atSeq := tab [(4, ks [4, 6])] }
noncomputable def body : Code := bodyOf Tryz.f157
def j4 (ab : BA) (aa af : Int) (ah : BA) (ai aj : Int) (ak am : Int) (an : BA) (ao ap aq : Int) (k : Int → BA → Int → Int → Int → BA → Int → Prop) : Prop :=
 (k af ah ai aj ak ab aa)
def c (j4 : BA → Int → Int → BA → Int → Int → Int → Int → BA → Int → Int → Int → Prop) (ac : Int) (al : BA) (ad ae : Int) (ar x2 : Int) (ab : BA) (aa : Int) (k : Int → BA → Int → Int → Int → BA → Int → Prop) : Prop :=
 (br (decide (x2 > aa)) ((inB aa x2 (((ab).size : Nat) : Int)) ∧ (j4 ab aa ac (ByteArray.extract ab (Int.toNat aa) (Int.toNat x2)) ad ae aa (0 : Int) (ByteArray.mk #[]) (0 : Int) (0 : Int) (0 : Int))) (j4 ab aa ac al ad ae aa (0 : Int) (ByteArray.mk #[]) (0 : Int) (0 : Int) (0 : Int)))
def j4' ab aa af ah ai aj ak am an ao ap aq k := j4 ab aa af ah ai aj ak am an ao ap aq k
def f0 ac al ad ae ar x2 ab aa k := c (fun ab aa af ah ai aj ak am an ao ap aq => j4' ab aa af ah ai aj ak am an ao ap aq k) ac al ad ae ar x2 ab aa k
noncomputable def f := sld f0
theorem f_def : f = f0 := sld_eq f0
def m4 (ab : BA) (aa af : Int) (ah : BA) (ai aj : Int) (ak am : Int) (an : BA) (ao ap aq : Int) : St := { tmps := mkT 30 0 [(4, (.ptr 1 0)), (6, (.ptr 2 0))], hp := [(.box 152 [(.v (.string ab)), (.v (.int .i64 aa))]), (.box 102 [(.v (.int .i64 af)), (.v (.string ah)), (.v (.int .i64 ai)), (.v (.int .i64 aj)), (.v (.int .i64 ak))]), (.box 102 [(.v (.int .i64 am)), (.v (.string an)), (.v (.int .i64 ao)), (.v (.int .i64 ap)), (.v (.int .i64 aq))])], m := 1 }
def M4 (g : St → Prop) ab aa af ah ai aj ak am an ao ap aq := g (m4 ab aa af ah ai aj ak am an ao ap aq)
def K0 (k : KT) (au : Int) (av : BA) (aw ax ay : Int) (az : BA) (a0 : Int) : Prop := k (.agg [(.v (.int .i64 au)), (.v (.string av)), (.v (.int .i64 aw)), (.v (.int .i64 ax)), (.v (.int .i64 ay))]) [(.box 152 [(.v (.string az)), (.v (.int .i64 a0))])]
noncomputable def T (k kp : KT) := topK cfg Tryz.f157 k kp
noncomputable def X4 (k kp : KT) : St → Prop := atP cfg (pick none' []) [1, 1, 1] body (T k kp)
noncomputable def JJ (k kp : KT) : Nat → St → Prop := pick none' [(4, X4 k kp)]
noncomputable def LL (k kp : KT) : Nat → St → Prop := pick none' []
theorem j4_eq (k kp) : M4 (X4 k kp) = fun ab aa af ah ai aj ak am an ao ap aq => j4' ab aa af ah ai aj ak am an ao ap aq (K0 k) := by
 funext ab aa af ah ai aj ak am an ao ap aq
 exact raw_eq (own:=4) rfl (JJ k kp) (LL k kp) (fun J L => j4 ab aa af ah ai aj ak am an ao ap aq (K0 k)) (by kernel_rfl) (fun _ _ => by kernel_rfl) rfl
def pa (ac : Int) (al : BA) (ad ae : Int) (ar x2 : Int) (ab : BA) (aa : Int) : List D := [(.ptr 0 0), (.agg [(.v (.int .i64 ac)), (.v (.string al)), (.v (.int .i64 ad)), (.v (.int .i64 ae)), (.v (.int .i64 ar))]), (.v (.int .i64 x2))]
def pb (ac : Int) (al : BA) (ad ae : Int) (ar x2 : Int) (ab : BA) (aa : Int) : List Blk := [(.box 152 [(.v (.string ab)), (.v (.int .i64 aa))])]
theorem body_is : Tryz.f157.body = some body := by kernel_rfl
theorem f_eq (k kp ac al ad ae ar x2 ab aa) : funW cfg Tryz.f157 (pa ac al ad ae ar x2 ab aa) (pb ac al ad ae ar x2 ab aa) k kp = f ac al ad ae ar x2 ab aa (K0 k) :=
 raw_fun (own := 1000001) none'' (JJ k kp) (LL k kp) (fun J L => c (M4 (J 4)) ac al ad ae ar x2 ab aa (K0 k)) body_is (by kernel_rfl) (fun J L => by kernel_rfl) (by rw [f_def]; erw [j4_eq k kp] <;> rfl)
noncomputable def ent0 : Entry := fun args blks k _ => match args, blks with
 | [d0, d1, d2], [e0] => aPtr 0 0 d0 (aAgg 5 d1 fun l => aCons l fun d1_0 l => aCons l fun d1_1 l => aCons l fun d1_2 l => aCons l fun d1_3 l => aCons l fun d1_4 l => aNil l (aInt IntKind.i64 d1_0 fun ac => aStr d1_1 fun al => aInt IntKind.i64 d1_2 fun ad => aInt IntKind.i64 d1_3 fun ae => aInt IntKind.i64 d1_4 fun ar => aInt IntKind.i64 d2 fun x2 => aBox 152 e0 fun l => aCons l fun a1 l => aCons l fun a2 l => aNil l (aStr a1 fun ab => aInt IntKind.i64 a2 fun aa => f ac al ad ae ar x2 ab aa (K0 k))))
 | _, _ => False
noncomputable def ent : Entry := cvE [.no, .no, .no] ent0
theorem ok : EntOk Tryz.prog 112 157 157 ent := by
 refine fnOk (cfg := cfg) rfl rfl rfl rfl (by kernel_rfl) ?_ Tryz.func157 (by rfl) (by rfl) ?_
 ·exact tab_n
 ·intro args blks k kp h k' kp'
  match args, blks, h with
  | [d0, d1, d2], [e0], h =>
  dsimp only [ent0] at h
  repeat ((first|have q := aPtr_elim h|have q := aAgg_elim h|have q := aCons_elim h|have q := aNil_elim h|have q := aInt_elim h|have q := aStr_elim h|have q := aBox_elim h); clear h; first|obtain ⟨rfl, h⟩ := q|obtain ⟨_, rfl, h⟩ := q|obtain ⟨_, _, rfl, h⟩ := q)
  exact (f_eq ..).symm
end N157
namespace N126
noncomputable def cfg : Cfg := { cb with E := tab [(156, N156.ent), (157, N157.ent)] }
noncomputable def body : Code := bodyOf Tryz.f126
def c (aa : BA) (ab : Int) (k : Int → BA → Int → Int → Int → Int → BA → Int → Prop) : Prop :=
 (N156.f (0 : Int) aa ab (fun ac an ao ad ae => (N157.f (2 : Int) (ByteArray.mk #[]) ac (0 : Int) (0 : Int) an ad ae (fun af ah ai aj ak al am => (k af ah ai aj ak ao al am)))))
def f0 aa ab k := c aa ab k
noncomputable def f := sld f0
theorem f_def : f = f0 := sld_eq f0
def K0 (k : KT) (ac : Int) (ap : BA) (aq ar : Int) (au y1 : Int) (av : BA) (aw : Int) : Prop := k (.tup [(.agg [(.v (.int .i64 ac)), (.v (.string ap)), (.v (.int .i64 aq)), (.v (.int .i64 ar)), (.v (.int .i64 au))]), (.v (.int .i64 y1))]) [(.box 152 [(.v (.string av)), (.v (.int .i64 aw))])]
noncomputable def T (k kp : KT) := topK cfg Tryz.f126 k kp
noncomputable def JJ (k kp : KT) : Nat → St → Prop := pick none' []
noncomputable def LL (k kp : KT) : Nat → St → Prop := pick none' []
def pa (aa : BA) (ab : Int) : List D := [(.ptr 0 0)]
def pb (aa : BA) (ab : Int) : List Blk := [(.box 152 [(.v (.string aa)), (.v (.int .i64 ab))])]
theorem body_is : Tryz.f126.body = some body := by kernel_rfl
theorem f_eq (k kp aa ab) : funW cfg Tryz.f126 (pa aa ab) (pb aa ab) k kp = f aa ab (K0 k) :=
 raw_fun (own := 1000001) none'' (JJ k kp) (LL k kp) (fun J L => c aa ab (K0 k)) body_is (by kernel_rfl) (fun J L => by kernel_rfl) (by rw [f_def]; rfl)
noncomputable def ent0 : Entry := fun args blks k _ => match args, blks with
 | [d0], [e0] => aPtr 0 0 d0 (aBox 152 e0 fun l => aCons l fun ax l => aCons l fun ay l => aNil l (aStr ax fun aa => aInt IntKind.i64 ay fun ab => f aa ab (K0 k)))
 | _, _ => False
noncomputable def ent : Entry := cvE [.no] ent0
theorem ok : EntOk Tryz.prog 112 157 126 ent := by
 refine fnOk (cfg := cfg) rfl rfl rfl rfl (by kernel_rfl) ?_ Tryz.func126 (by rfl) (by rfl) ?_
 ·exact tab_c N156.ok <| tab_c N157.ok <| tab_n
 ·intro args blks k kp h k' kp'
  match args, blks, h with
  | [d0], [e0], h =>
  dsimp only [ent0] at h
  repeat ((first|have q := aPtr_elim h|have q := aBox_elim h|have q := aCons_elim h|have q := aNil_elim h|have q := aStr_elim h|have q := aInt_elim h); clear h; first|obtain ⟨rfl, h⟩ := q|obtain ⟨_, rfl, h⟩ := q|obtain ⟨_, _, rfl, h⟩ := q)
  exact (f_eq ..).symm
end N126
namespace N128
noncomputable def cfg : Cfg := { cb with E := tab [(158, N158.ent), (157, N157.ent)], lt := [5, 6, 7, 8, 9, 11, 12, 13], pd := [(4, 102)] }
noncomputable def body : Code := bodyOf Tryz.f128
def c (aa : BA) (ab : Int) (k : Int → BA → Int → Int → Int → Int → BA → Int → Prop) : Prop :=
 (N158.f aa ab (fun ak => (N157.f (1 : Int) (ByteArray.mk #[]) (0 : Int) (0 : Int) (0 : Int) ak aa ab (fun ad ac ae af ah ai aj => (br (decide (((((ac).size : Nat) : Int)) > (24 : Int))) (k ad ac ae af ah (3 : Int) ai aj) (k ad ac ae af ah (0 : Int) ai aj))))))
def f0 aa ab k := c aa ab k
noncomputable def f := sld f0
theorem f_def : f = f0 := sld_eq f0
def K0 (k : KT) (ak : Int) (al : BA) (am an : Int) (ao y1 : Int) (ap : BA) (aq : Int) : Prop := k (.tup [(.agg [(.v (.int .i64 ak)), (.v (.string al)), (.v (.int .i64 am)), (.v (.int .i64 an)), (.v (.int .i64 ao))]), (.v (.int .i64 y1))]) [(.box 152 [(.v (.string ap)), (.v (.int .i64 aq))])]
noncomputable def T (k kp : KT) := topK cfg Tryz.f128 k kp
noncomputable def JJ (k kp : KT) : Nat → St → Prop := pick none' []
noncomputable def LL (k kp : KT) : Nat → St → Prop := pick none' []
def pa (aa : BA) (ab : Int) : List D := [(.ptr 0 0)]
def pb (aa : BA) (ab : Int) : List Blk := [(.box 152 [(.v (.string aa)), (.v (.int .i64 ab))])]
theorem body_is : Tryz.f128.body = some body := by kernel_rfl
theorem f_eq (k kp aa ab) : funW cfg Tryz.f128 (pa aa ab) (pb aa ab) k kp = f aa ab (K0 k) :=
 raw_fun (own := 1000001) none'' (JJ k kp) (LL k kp) (fun J L => c aa ab (K0 k)) body_is (by kernel_rfl) (fun J L => by kernel_rfl) (by rw [f_def]; rfl)
noncomputable def ent0 : Entry := fun args blks k _ => match args, blks with
 | [d0], [e0] => aPtr 0 0 d0 (aBox 152 e0 fun l => aCons l fun ar l => aCons l fun au l => aNil l (aStr ar fun aa => aInt IntKind.i64 au fun ab => f aa ab (K0 k)))
 | _, _ => False
noncomputable def ent : Entry := cvE [.no] ent0
theorem ok : EntOk Tryz.prog 112 157 128 ent := by
 refine fnOk (cfg := cfg) rfl rfl rfl rfl (by kernel_rfl) ?_ Tryz.func128 (by rfl) (by rfl) ?_
 ·exact tab_c N158.ok <| tab_c N157.ok <| tab_n
 ·intro args blks k kp h k' kp'
  match args, blks, h with
  | [d0], [e0], h =>
  dsimp only [ent0] at h
  repeat ((first|have q := aPtr_elim h|have q := aBox_elim h|have q := aCons_elim h|have q := aNil_elim h|have q := aStr_elim h|have q := aInt_elim h); clear h; first|obtain ⟨rfl, h⟩ := q|obtain ⟨_, rfl, h⟩ := q|obtain ⟨_, _, rfl, h⟩ := q)
  exact (f_eq ..).symm
end N128
namespace N159
noncomputable def cfg : Cfg := { cb with E := tab [(156, N156.ent), (157, N157.ent)], atSeq := tab [(2000003, ks [0, 1, 3, 8, 10, 11, 12, 29]), (4, ks [0, 1, 3, 8, 10, 11, 12])] }
noncomputable def body : Code := bodyOf Tryz.f159
def j2000003 (j4 : Int → Int → Int → Int → Int → BA → Int → Int → BA → Int → Int → Int → Prop) (x1 x3 : Int) (ai aj ak : Int) (ao : Bool) (aa : BA) (ab ac : Int) (ad : BA) (ae af ah : Int) (k : Int → BA → Int → Int → Int → Int → BA → Int → Prop) : Prop :=
 (br ao (j4 x1 x3 ai aj (2 : Int) aa ab ac ad ae af ah) (j4 x1 x3 ai aj ak aa ab ac ad ae af ah))
def j4 (x1 x3 : Int) (ai aj ak : Int) (aa : BA) (ab ac : Int) (ad : BA) (ae af ah : Int) (k : Int → BA → Int → Int → Int → Int → BA → Int → Prop) : Prop :=
 (N157.f x1 (ByteArray.mk #[]) ai x3 (0 : Int) aj aa ab (fun aq ar au av aw ax ay => (k aq ar au av aw ak ax ay)))
def c (j2000003 : Int → Int → Int → Int → Int → Bool → BA → Int → Int → BA → Int → Int → Int → Prop) (x1 x2 x3 : Int) (aa : BA) (ab : Int) (k : Int → BA → Int → Int → Int → Int → BA → Int → Prop) : Prop :=
 (N156.f x2 aa ab (fun al az ap am an => (br (ap == (0 : Int)) (br (decide (al < (0 : Int))) (j2000003 x1 x3 al az ap true am an (0 : Int) (ByteArray.mk #[]) (0 : Int) (0 : Int) (0 : Int)) (j2000003 x1 x3 al az ap (decide (al > (2147483647 : Int))) am an (0 : Int) (ByteArray.mk #[]) (0 : Int) (0 : Int) (0 : Int))) (j2000003 x1 x3 al az ap false am an (0 : Int) (ByteArray.mk #[]) (0 : Int) (0 : Int) (0 : Int)))))
def j4' x1 x3 ai aj ak aa ab ac ad ae af ah k := j4 x1 x3 ai aj ak aa ab ac ad ae af ah k
def j2000003' x1 x3 ai aj ak ao aa ab ac ad ae af ah k := j2000003 (fun x1 x3 ai aj ak aa ab ac ad ae af ah => j4' x1 x3 ai aj ak aa ab ac ad ae af ah k) x1 x3 ai aj ak ao aa ab ac ad ae af ah k
def f0 x1 x2 x3 aa ab k := c (fun x1 x3 ai aj ak ao aa ab ac ad ae af ah => j2000003' x1 x3 ai aj ak ao aa ab ac ad ae af ah k) x1 x2 x3 aa ab k
noncomputable def f := sld f0
theorem f_def : f = f0 := sld_eq f0
def m2000003 (x1 x3 : Int) (ai aj ak : Int) (ao : Bool) (aa : BA) (ab ac : Int) (ad : BA) (ae af ah : Int) : St := { tmps := mkT 38 0 [(0, (.ptr 0 0)), (1, (.v (.int .i64 x1))), (3, (.v (.int .i64 x3))), (8, (.ptr 1 0)), (10, (.v (.int .i64 ai))), (11, (.v (.int .i64 aj))), (12, (.v (.int .i64 ak))), (29, (.v (.bool ao)))], hp := [(.box 152 [(.v (.string aa)), (.v (.int .i64 ab))]), (.box 102 [(.v (.int .i64 ac)), (.v (.string ad)), (.v (.int .i64 ae)), (.v (.int .i64 af)), (.v (.int .i64 ah))])], m := 1 }
def M2000003 (g : St → Prop) x1 x3 ai aj ak ao aa ab ac ad ae af ah := g (m2000003 x1 x3 ai aj ak ao aa ab ac ad ae af ah)
def m4 (x1 x3 : Int) (ai aj ak : Int) (aa : BA) (ab ac : Int) (ad : BA) (ae af ah : Int) : St := { tmps := mkT 38 0 [(0, (.ptr 0 0)), (1, (.v (.int .i64 x1))), (3, (.v (.int .i64 x3))), (8, (.ptr 1 0)), (10, (.v (.int .i64 ai))), (11, (.v (.int .i64 aj))), (12, (.v (.int .i64 ak)))], hp := [(.box 152 [(.v (.string aa)), (.v (.int .i64 ab))]), (.box 102 [(.v (.int .i64 ac)), (.v (.string ad)), (.v (.int .i64 ae)), (.v (.int .i64 af)), (.v (.int .i64 ah))])], m := 1 }
def M4 (g : St → Prop) x1 x3 ai aj ak aa ab ac ad ae af ah := g (m4 x1 x3 ai aj ak aa ab ac ad ae af ah)
def K0 (k : KT) (al : Int) (a0 : BA) (a1 a2 : Int) (a3 y1 : Int) (a4 : BA) (a5 : Int) : Prop := k (.tup [(.agg [(.v (.int .i64 al)), (.v (.string a0)), (.v (.int .i64 a1)), (.v (.int .i64 a2)), (.v (.int .i64 a3))]), (.v (.int .i64 y1))]) [(.box 152 [(.v (.string a4)), (.v (.int .i64 a5))])]
noncomputable def T (k kp : KT) := topK cfg Tryz.f159 k kp
noncomputable def X2000003 (k kp : KT) : St → Prop := atP cfg (pick none' []) [1, 1, 0, 1] body (T k kp)
noncomputable def X4 (k kp : KT) : St → Prop := atP cfg (pick none' []) [1, 1, 1] body (T k kp)
noncomputable def JJ (k kp : KT) : Nat → St → Prop := pick none' [(2000003, X2000003 k kp), (4, X4 k kp)]
noncomputable def LL (k kp : KT) : Nat → St → Prop := pick none' []
theorem j4_eq (k kp) : M4 (X4 k kp) = fun x1 x3 ai aj ak aa ab ac ad ae af ah => j4' x1 x3 ai aj ak aa ab ac ad ae af ah (K0 k) := by
 funext x1 x3 ai aj ak aa ab ac ad ae af ah
 exact raw_eq (own:=4) rfl (JJ k kp) (LL k kp) (fun J L => j4 x1 x3 ai aj ak aa ab ac ad ae af ah (K0 k)) (by kernel_rfl) (fun _ _ => by kernel_rfl) rfl
theorem j2000003_eq (k kp) : M2000003 (X2000003 k kp) = fun x1 x3 ai aj ak ao aa ab ac ad ae af ah => j2000003' x1 x3 ai aj ak ao aa ab ac ad ae af ah (K0 k) := by
 funext x1 x3 ai aj ak ao aa ab ac ad ae af ah
 exact raw_eq (own:=2000003) rfl (JJ k kp) (LL k kp) (fun J L => j2000003 (M4 (J 4)) x1 x3 ai aj ak ao aa ab ac ad ae af ah (K0 k)) (by kernel_rfl) (fun _ _ => by kernel_rfl) (by erw [j4_eq k kp] <;> rfl)
def pa (x1 x2 x3 : Int) (aa : BA) (ab : Int) : List D := [(.ptr 0 0), (.v (.int .i64 x1)), (.v (.int .i64 x2)), (.v (.int .i64 x3))]
def pb (x1 x2 x3 : Int) (aa : BA) (ab : Int) : List Blk := [(.box 152 [(.v (.string aa)), (.v (.int .i64 ab))])]
theorem body_is : Tryz.f159.body = some body := by kernel_rfl
theorem f_eq (k kp x1 x2 x3 aa ab) : funW cfg Tryz.f159 (pa x1 x2 x3 aa ab) (pb x1 x2 x3 aa ab) k kp = f x1 x2 x3 aa ab (K0 k) :=
 raw_fun (own := 1000001) none'' (JJ k kp) (LL k kp) (fun J L => c (M2000003 (J 2000003)) x1 x2 x3 aa ab (K0 k)) body_is (by kernel_rfl) (fun J L => by kernel_rfl) (by rw [f_def]; erw [j2000003_eq k kp] <;> rfl)
noncomputable def ent0 : Entry := fun args blks k _ => match args, blks with
 | [d0, d1, d2, d3], [e0] => aPtr 0 0 d0 (aInt IntKind.i64 d1 fun x1 => aInt IntKind.i64 d2 fun x2 => aInt IntKind.i64 d3 fun x3 => aBox 152 e0 fun l => aCons l fun a6 l => aCons l fun a7 l => aNil l (aStr a6 fun aa => aInt IntKind.i64 a7 fun ab => f x1 x2 x3 aa ab (K0 k)))
 | _, _ => False
noncomputable def ent : Entry := cvE [.no, .no, .no, .no] ent0
theorem ok : EntOk Tryz.prog 112 157 159 ent := by
 refine fnOk (cfg := cfg) rfl rfl rfl rfl (by kernel_rfl) ?_ Tryz.func159 (by rfl) (by rfl) ?_
 ·exact tab_c N156.ok <| tab_c N157.ok <| tab_n
 ·intro args blks k kp h k' kp'
  match args, blks, h with
  | [d0, d1, d2, d3], [e0], h =>
  dsimp only [ent0] at h
  repeat ((first|have q := aPtr_elim h|have q := aInt_elim h|have q := aBox_elim h|have q := aCons_elim h|have q := aNil_elim h|have q := aStr_elim h); clear h; first|obtain ⟨rfl, h⟩ := q|obtain ⟨_, rfl, h⟩ := q|obtain ⟨_, _, rfl, h⟩ := q)
  exact (f_eq ..).symm
end N159
namespace N129
noncomputable def cfg : Cfg := { cb with E := tab [(159, N159.ent)] }
noncomputable def body : Code := bodyOf Tryz.f129
def c (aa : BA) (ab : Int) (k : Int → BA → Int → Int → Int → Int → BA → Int → Prop) : Prop :=
 (N159.f (4 : Int) (1 : Int) (0 : Int) aa ab (fun ac ad ae af ah ak ai aj => (k ac ad ae af ah ak ai aj)))
def f0 aa ab k := c aa ab k
noncomputable def f := sld f0
theorem f_def : f = f0 := sld_eq f0
def K0 (k : KT) (al : Int) (am : BA) (an ao : Int) (ap y1 : Int) (aq : BA) (ar : Int) : Prop := k (.tup [(.agg [(.v (.int .i64 al)), (.v (.string am)), (.v (.int .i64 an)), (.v (.int .i64 ao)), (.v (.int .i64 ap))]), (.v (.int .i64 y1))]) [(.box 152 [(.v (.string aq)), (.v (.int .i64 ar))])]
noncomputable def T (k kp : KT) := topK cfg Tryz.f129 k kp
noncomputable def JJ (k kp : KT) : Nat → St → Prop := pick none' []
noncomputable def LL (k kp : KT) : Nat → St → Prop := pick none' []
def pa (aa : BA) (ab : Int) : List D := [(.ptr 0 0)]
def pb (aa : BA) (ab : Int) : List Blk := [(.box 152 [(.v (.string aa)), (.v (.int .i64 ab))])]
theorem body_is : Tryz.f129.body = some body := by kernel_rfl
theorem f_eq (k kp aa ab) : funW cfg Tryz.f129 (pa aa ab) (pb aa ab) k kp = f aa ab (K0 k) :=
 raw_fun (own := 1000001) none'' (JJ k kp) (LL k kp) (fun J L => c aa ab (K0 k)) body_is (by kernel_rfl) (fun J L => by kernel_rfl) (by rw [f_def]; rfl)
noncomputable def ent0 : Entry := fun args blks k _ => match args, blks with
 | [d0], [e0] => aPtr 0 0 d0 (aBox 152 e0 fun l => aCons l fun au l => aCons l fun av l => aNil l (aStr au fun aa => aInt IntKind.i64 av fun ab => f aa ab (K0 k)))
 | _, _ => False
noncomputable def ent : Entry := cvE [.no] ent0
theorem ok : EntOk Tryz.prog 112 157 129 ent := by
 refine fnOk (cfg := cfg) rfl rfl rfl rfl (by kernel_rfl) ?_ Tryz.func129 (by rfl) (by rfl) ?_
 ·exact tab_c N159.ok <| tab_n
 ·intro args blks k kp h k' kp'
  match args, blks, h with
  | [d0], [e0], h =>
  dsimp only [ent0] at h
  repeat ((first|have q := aPtr_elim h|have q := aBox_elim h|have q := aCons_elim h|have q := aNil_elim h|have q := aStr_elim h|have q := aInt_elim h); clear h; first|obtain ⟨rfl, h⟩ := q|obtain ⟨_, rfl, h⟩ := q|obtain ⟨_, _, rfl, h⟩ := q)
  exact (f_eq ..).symm
end N129
namespace N130
noncomputable def cfg : Cfg := { cb with E := tab [(160, N160.ent), (159, N159.ent)] }
noncomputable def body : Code := bodyOf Tryz.f130
def c (aa : BA) (ab : Int) (k : Int → BA → Int → Int → Int → Int → BA → Int → Prop) : Prop :=
 (N160.f (1 : Int) aa ab (fun ae ac ad => (br (ae == (103 : Int)) (N159.f (5 : Int) (2 : Int) (0 : Int) ac ad (fun af ah ai aj ak aw al am => (k af ah ai aj ak aw al am))) (br (ae == (120 : Int)) (N159.f (5 : Int) (2 : Int) (1 : Int) ac ad (fun an ao ap aq ar ax au av => (k an ao ap aq ar ax au av))) (k (0 : Int) (ByteArray.mk #[]) (0 : Int) (0 : Int) (0 : Int) (12 : Int) ac ad)))))
def f0 aa ab k := c aa ab k
noncomputable def f := sld f0
theorem f_def : f = f0 := sld_eq f0
def K0 (k : KT) (ae : Int) (ay : BA) (az a0 : Int) (a1 y1 : Int) (a2 : BA) (a3 : Int) : Prop := k (.tup [(.agg [(.v (.int .i64 ae)), (.v (.string ay)), (.v (.int .i64 az)), (.v (.int .i64 a0)), (.v (.int .i64 a1))]), (.v (.int .i64 y1))]) [(.box 152 [(.v (.string a2)), (.v (.int .i64 a3))])]
noncomputable def T (k kp : KT) := topK cfg Tryz.f130 k kp
noncomputable def JJ (k kp : KT) : Nat → St → Prop := pick none' []
noncomputable def LL (k kp : KT) : Nat → St → Prop := pick none' []
def pa (aa : BA) (ab : Int) : List D := [(.ptr 0 0)]
def pb (aa : BA) (ab : Int) : List Blk := [(.box 152 [(.v (.string aa)), (.v (.int .i64 ab))])]
theorem body_is : Tryz.f130.body = some body := by kernel_rfl
theorem f_eq (k kp aa ab) : funW cfg Tryz.f130 (pa aa ab) (pb aa ab) k kp = f aa ab (K0 k) :=
 raw_fun (own := 1000001) none'' (JJ k kp) (LL k kp) (fun J L => c aa ab (K0 k)) body_is (by kernel_rfl) (fun J L => by kernel_rfl) (by rw [f_def]; rfl)
noncomputable def ent0 : Entry := fun args blks k _ => match args, blks with
 | [d0], [e0] => aPtr 0 0 d0 (aBox 152 e0 fun l => aCons l fun a4 l => aCons l fun a5 l => aNil l (aStr a4 fun aa => aInt IntKind.i64 a5 fun ab => f aa ab (K0 k)))
 | _, _ => False
noncomputable def ent : Entry := cvE [.no] ent0
theorem ok : EntOk Tryz.prog 112 157 130 ent := by
 refine fnOk (cfg := cfg) rfl rfl rfl rfl (by kernel_rfl) ?_ Tryz.func130 (by rfl) (by rfl) ?_
 ·exact tab_c N160.ok <| tab_c N159.ok <| tab_n
 ·intro args blks k kp h k' kp'
  match args, blks, h with
  | [d0], [e0], h =>
  dsimp only [ent0] at h
  repeat ((first|have q := aPtr_elim h|have q := aBox_elim h|have q := aCons_elim h|have q := aNil_elim h|have q := aStr_elim h|have q := aInt_elim h); clear h; first|obtain ⟨rfl, h⟩ := q|obtain ⟨_, rfl, h⟩ := q|obtain ⟨_, _, rfl, h⟩ := q)
  exact (f_eq ..).symm
end N130
namespace N131
noncomputable def cfg : Cfg := { cb with E := tab [(159, N159.ent)] }
noncomputable def body : Code := bodyOf Tryz.f131
def c (aa : BA) (ab : Int) (k : Int → BA → Int → Int → Int → Int → BA → Int → Prop) : Prop :=
 (N159.f (6 : Int) (1 : Int) (0 : Int) aa ab (fun ac ad ae af ah ak ai aj => (k ac ad ae af ah ak ai aj)))
def f0 aa ab k := c aa ab k
noncomputable def f := sld f0
theorem f_def : f = f0 := sld_eq f0
def K0 (k : KT) (al : Int) (am : BA) (an ao : Int) (ap y1 : Int) (aq : BA) (ar : Int) : Prop := k (.tup [(.agg [(.v (.int .i64 al)), (.v (.string am)), (.v (.int .i64 an)), (.v (.int .i64 ao)), (.v (.int .i64 ap))]), (.v (.int .i64 y1))]) [(.box 152 [(.v (.string aq)), (.v (.int .i64 ar))])]
noncomputable def T (k kp : KT) := topK cfg Tryz.f131 k kp
noncomputable def JJ (k kp : KT) : Nat → St → Prop := pick none' []
noncomputable def LL (k kp : KT) : Nat → St → Prop := pick none' []
def pa (aa : BA) (ab : Int) : List D := [(.ptr 0 0)]
def pb (aa : BA) (ab : Int) : List Blk := [(.box 152 [(.v (.string aa)), (.v (.int .i64 ab))])]
theorem body_is : Tryz.f131.body = some body := by kernel_rfl
theorem f_eq (k kp aa ab) : funW cfg Tryz.f131 (pa aa ab) (pb aa ab) k kp = f aa ab (K0 k) :=
 raw_fun (own := 1000001) none'' (JJ k kp) (LL k kp) (fun J L => c aa ab (K0 k)) body_is (by kernel_rfl) (fun J L => by kernel_rfl) (by rw [f_def]; rfl)
noncomputable def ent0 : Entry := fun args blks k _ => match args, blks with
 | [d0], [e0] => aPtr 0 0 d0 (aBox 152 e0 fun l => aCons l fun au l => aCons l fun av l => aNil l (aStr au fun aa => aInt IntKind.i64 av fun ab => f aa ab (K0 k)))
 | _, _ => False
noncomputable def ent : Entry := cvE [.no] ent0
theorem ok : EntOk Tryz.prog 112 157 131 ent := by
 refine fnOk (cfg := cfg) rfl rfl rfl rfl (by kernel_rfl) ?_ Tryz.func131 (by rfl) (by rfl) ?_
 ·exact tab_c N159.ok <| tab_n
 ·intro args blks k kp h k' kp'
  match args, blks, h with
  | [d0], [e0], h =>
  dsimp only [ent0] at h
  repeat ((first|have q := aPtr_elim h|have q := aBox_elim h|have q := aCons_elim h|have q := aNil_elim h|have q := aStr_elim h|have q := aInt_elim h); clear h; first|obtain ⟨rfl, h⟩ := q|obtain ⟨_, rfl, h⟩ := q|obtain ⟨_, _, rfl, h⟩ := q)
  exact (f_eq ..).symm
end N131
namespace N132
noncomputable def cfg : Cfg := { cb with E := tab [(160, N160.ent), (157, N157.ent)], atSeq := tab [(2000003, ks [0, 2, 4, 17]), (4, ks [0, 2, 4])] }
noncomputable def body : Code := bodyOf Tryz.f132
def j2000003 (j4 : Int → BA → Int → Int → BA → Int → Int → Int → Prop) (x4 : Int) (ai : Bool) (ab : BA) (aa ac : Int) (ad : BA) (ae af ah : Int) (k : Int → BA → Int → Int → Int → Int → BA → Int → Prop) : Prop :=
 (br ai (j4 (IntKind.i64.wrap (x4 + (1 : Int))) ab aa ac ad ae af ah) (j4 x4 ab aa ac ad ae af ah))
def j4 (x4 : Int) (ab : BA) (aa ac : Int) (ad : BA) (ae af ah : Int) (k : Int → BA → Int → Int → Int → Int → BA → Int → Prop) : Prop :=
 (N157.f (7 : Int) (ByteArray.mk #[]) (0 : Int) (0 : Int) (0 : Int) x4 ab aa (fun al am an ao ap aq ar => (k al am an ao ap (0 : Int) aq ar)))
def c (j2000003 : Int → Bool → BA → Int → Int → BA → Int → Int → Int → Prop) (ab : BA) (aa : Int) (k : Int → BA → Int → Int → Int → Int → BA → Int → Prop) : Prop :=
 (N160.f (0 : Int) ab aa (fun au aj ak => (br (au == (46 : Int)) (N160.f (1 : Int) aj ak (fun av aw ax => (j2000003 (IntKind.i64.wrap (aa + (1 : Int))) (av == (46 : Int)) aw ax (0 : Int) (ByteArray.mk #[]) (0 : Int) (0 : Int) (0 : Int)))) (j2000003 (IntKind.i64.wrap (aa + (1 : Int))) false aj ak (0 : Int) (ByteArray.mk #[]) (0 : Int) (0 : Int) (0 : Int)))))
def j4' x4 ab aa ac ad ae af ah k := j4 x4 ab aa ac ad ae af ah k
def j2000003' x4 ai ab aa ac ad ae af ah k := j2000003 (fun x4 ab aa ac ad ae af ah => j4' x4 ab aa ac ad ae af ah k) x4 ai ab aa ac ad ae af ah k
def f0 ab aa k := c (fun x4 ai ab aa ac ad ae af ah => j2000003' x4 ai ab aa ac ad ae af ah k) ab aa k
noncomputable def f := sld f0
theorem f_def : f = f0 := sld_eq f0
def m2000003 (x4 : Int) (ai : Bool) (ab : BA) (aa ac : Int) (ad : BA) (ae af ah : Int) : St := { tmps := mkT 24 0 [(0, (.ptr 0 0)), (2, (.ptr 1 0)), (4, (.v (.int .i64 x4))), (17, (.v (.bool ai)))], hp := [(.box 152 [(.v (.string ab)), (.v (.int .i64 aa))]), (.box 102 [(.v (.int .i64 ac)), (.v (.string ad)), (.v (.int .i64 ae)), (.v (.int .i64 af)), (.v (.int .i64 ah))])], m := 1 }
def M2000003 (g : St → Prop) x4 ai ab aa ac ad ae af ah := g (m2000003 x4 ai ab aa ac ad ae af ah)
def m4 (x4 : Int) (ab : BA) (aa ac : Int) (ad : BA) (ae af ah : Int) : St := { tmps := mkT 24 0 [(0, (.ptr 0 0)), (2, (.ptr 1 0)), (4, (.v (.int .i64 x4)))], hp := [(.box 152 [(.v (.string ab)), (.v (.int .i64 aa))]), (.box 102 [(.v (.int .i64 ac)), (.v (.string ad)), (.v (.int .i64 ae)), (.v (.int .i64 af)), (.v (.int .i64 ah))])], m := 1 }
def M4 (g : St → Prop) x4 ab aa ac ad ae af ah := g (m4 x4 ab aa ac ad ae af ah)
def K0 (k : KT) (au : Int) (av : BA) (ay az : Int) (a0 y1 : Int) (a1 : BA) (a2 : Int) : Prop := k (.tup [(.agg [(.v (.int .i64 au)), (.v (.string av)), (.v (.int .i64 ay)), (.v (.int .i64 az)), (.v (.int .i64 a0))]), (.v (.int .i64 y1))]) [(.box 152 [(.v (.string a1)), (.v (.int .i64 a2))])]
noncomputable def T (k kp : KT) := topK cfg Tryz.f132 k kp
noncomputable def X2000003 (k kp : KT) : St → Prop := atP cfg (pick none' []) [1, 1, 0, 1] body (T k kp)
noncomputable def X4 (k kp : KT) : St → Prop := atP cfg (pick none' []) [1, 1, 1] body (T k kp)
noncomputable def JJ (k kp : KT) : Nat → St → Prop := pick none' [(2000003, X2000003 k kp), (4, X4 k kp)]
noncomputable def LL (k kp : KT) : Nat → St → Prop := pick none' []
theorem j4_eq (k kp) : M4 (X4 k kp) = fun x4 ab aa ac ad ae af ah => j4' x4 ab aa ac ad ae af ah (K0 k) := by
 funext x4 ab aa ac ad ae af ah
 exact raw_eq (own:=4) rfl (JJ k kp) (LL k kp) (fun J L => j4 x4 ab aa ac ad ae af ah (K0 k)) (by kernel_rfl) (fun _ _ => by kernel_rfl) rfl
theorem j2000003_eq (k kp) : M2000003 (X2000003 k kp) = fun x4 ai ab aa ac ad ae af ah => j2000003' x4 ai ab aa ac ad ae af ah (K0 k) := by
 funext x4 ai ab aa ac ad ae af ah
 exact raw_eq (own:=2000003) rfl (JJ k kp) (LL k kp) (fun J L => j2000003 (M4 (J 4)) x4 ai ab aa ac ad ae af ah (K0 k)) (by kernel_rfl) (fun _ _ => by kernel_rfl) (by erw [j4_eq k kp] <;> rfl)
def pa (ab : BA) (aa : Int) : List D := [(.ptr 0 0)]
def pb (ab : BA) (aa : Int) : List Blk := [(.box 152 [(.v (.string ab)), (.v (.int .i64 aa))])]
theorem body_is : Tryz.f132.body = some body := by kernel_rfl
theorem f_eq (k kp ab aa) : funW cfg Tryz.f132 (pa ab aa) (pb ab aa) k kp = f ab aa (K0 k) :=
 raw_fun (own := 1000001) none'' (JJ k kp) (LL k kp) (fun J L => c (M2000003 (J 2000003)) ab aa (K0 k)) body_is (by kernel_rfl) (fun J L => by kernel_rfl) (by rw [f_def]; erw [j2000003_eq k kp] <;> rfl)
noncomputable def ent0 : Entry := fun args blks k _ => match args, blks with
 | [d0], [e0] => aPtr 0 0 d0 (aBox 152 e0 fun l => aCons l fun a3 l => aCons l fun a4 l => aNil l (aStr a3 fun ab => aInt IntKind.i64 a4 fun aa => f ab aa (K0 k)))
 | _, _ => False
noncomputable def ent : Entry := cvE [.no] ent0
theorem ok : EntOk Tryz.prog 112 157 132 ent := by
 refine fnOk (cfg := cfg) rfl rfl rfl rfl (by kernel_rfl) ?_ Tryz.func132 (by rfl) (by rfl) ?_
 ·exact tab_c N160.ok <| tab_c N157.ok <| tab_n
 ·intro args blks k kp h k' kp'
  match args, blks, h with
  | [d0], [e0], h =>
  dsimp only [ent0] at h
  repeat ((first|have q := aPtr_elim h|have q := aBox_elim h|have q := aCons_elim h|have q := aNil_elim h|have q := aStr_elim h|have q := aInt_elim h); clear h; first|obtain ⟨rfl, h⟩ := q|obtain ⟨_, rfl, h⟩ := q|obtain ⟨_, _, rfl, h⟩ := q)
  exact (f_eq ..).symm
end N132
end Go.Proofs.Yf
namespace Go.Proofs.Yf
open Go Go.Aw Go.Proofs Go.RowKit
theorem isDig_s (c : Int) (k : Bool → Prop) (h : k (decide (isD c))) : N125.f c k := by
 rw [N125.f_def]
 unfold N125.f0 N125.c
 unfold isD at h
 simp only [br_dec]
 split
 ·rename_i h1
  have : decide (c ≤ 57) = decide (48 ≤ c ∧ c ≤ 57) := by rw [Bool.eq_iff_iff]; simp; omega
  rw [this]; exact h
 ·rename_i h1
  have : false = decide (48 ≤ c ∧ c ≤ 57) := by rw [eq_comm]; simp; omega
  rw [this]; exact h
theorem indexB_s (s : ByteArray) (c : Int) (k : Int → Prop) (h : k (indexB s c)) : N122.f s c k := by
 rw [N122.f_def]
 unfold N122.f0 N122.c
 exact h
theorem prefix2_s (s : ByteArray) (k : Bool → Prop) (h : k (decide (1 < s.size ∧ (ofBytes s).getD 0 0 = 47 ∧ (ofBytes s).getD 1 0 = 47))) : N123.f s (ByteArray.mk #[47, 47]) k := by
 rw [N123.f_def]
 unfold N123.f0 N123.c
 rw [N154.f_def]
 unfold N154.f0 N154.c
 have hl := ofBytes_length s
 have e2 : (ByteArray.mk #[47, 47]).size = 2 := rfl
 rw [e2]
 simp only [br_dec]
 split
 ·rename_i h1
  refine ⟨⟨by omega, by omega, by omega⟩, ?_⟩
  have : beqS (s.extract (Int.toNat 0) (Int.toNat ((2 : Nat) : Int))) (ByteArray.mk #[47, 47]) = decide (1 < s.size ∧ (ofBytes s).getD 0 0 = 47 ∧ (ofBytes s).getD 1 0 = 47) := by
   rw [Bool.eq_iff_iff, beqS_iff, decide_eq_true_eq]
   have ex : ofBytes (s.extract 0 2) = (ofBytes s).take 2 := by rw [ofBytes_extract]; simp
   match hL : ofBytes s, hl with
   | [], hl => simp at hl; omega
   | [a], hl => simp at hl; omega
   | a :: b :: r, hl =>
     simp only [List.getD_cons_zero, List.getD_cons_succ]
     constructor
     ·intro h2
      have h3 : ofBytes (s.extract 0 2) = [47, 47] := by rw [show s.extract 0 2 = ByteArray.mk #[47, 47] from h2]; rfl
      rw [ex, hL] at h3
      simp at h3
      exact ⟨by simp at hl; omega, h3⟩
     ·rintro ⟨_, rfl, rfl⟩
      refine eq_of_ofBytes ?_
      show ofBytes (s.extract 0 2) = _
      rw [ex, hL]; rfl
  rw [this]; exact h
 ·rename_i h1
  have : false = decide (1 < s.size ∧ (ofBytes s).getD 0 0 = 47 ∧ (ofBytes s).getD 1 0 = 47) := by rw [eq_comm]; simp; omega
  rw [this]; exact h
theorem peek_s (s : ByteArray) (hs : s.size ≤ reachBytes) (p n : Nat) (hp : p ≤ s.size) (hn : n ≤ 2) (k : Int → ByteArray → Int → Prop) (h : k ((ofBytes s).getD (p + n) 0) s p) : N160.f (n : Int) s (p : Int) k := by
 have hr : reachBytes < 2 ^ 47 := reachBytes_lt
 have hl := ofBytes_length s
 rw [N160.f_def]
 unfold N160.f0 N160.c
 have ew : IntKind.i64.wrap ((p : Int) + (n : Int)) = ((p + n : Nat) : Int) := by rw [wrap_id (by omega) (by omega)]; omega
 rw [ew]
 simp only [br_dec]
 split
 ·rename_i h1
  refine ⟨⟨by omega, by omega, by omega⟩, ?_⟩
  rw [byteAt_eq]; exact h
 ·rename_i h1
  have : (ofBytes s).getD (p + n) 0 = 0 := by simp [List.getD, List.getElem?_eq_none (show (ofBytes s).length ≤ p + n by omega)]
  rw [this] at h; exact h
theorem digits_s' (s : ByteArray) (hs : s.size ≤ reachBytes) (p a : Nat) (hp : p < s.size) (ha : a ≤ 2) (k : Int → Int → Int → ByteArray → Int → Prop)
 (h1 : digC ((ofBytes s).drop (p + a)) ≠ 0 → ∀ e : Int, e ≤ s.size → k 0 e (digC ((ofBytes s).drop (p + a))) s p)
 (h2 : digC ((ofBytes s).drop (p + a)) = 0 → k (w64 (val (((ofBytes s).drop (p + a)).take (run ((ofBytes s).drop (p + a)))))) ((p + a + run ((ofBytes s).drop (p + a)) : Nat) : Int) 0 s p) : N156.f (a : Int) s (p : Int) k := by
 have hr : reachBytes < 2 ^ 47 := reachBytes_lt
 have hl := ofBytes_length s
 rw [N156.f_def]
 unfold N156.f0 N156.c N156.j2000008' N156.j2000008 N156.j9' N156.j9
 refine peek_s s hs p a (by omega) ha _ (isDig_s _ _ ?_)
 have hgd : ((ofBytes s).drop (p + a)).getD 0 0 = (ofBytes s).getD (p + a) 0 := by simp [List.getD, List.getElem?_drop]
 rw [← hgd]
 have hlr : ((ofBytes s).drop (p + a)).length = s.size - (p + a) := by rw [List.length_drop, hl]
 have hB : ∀ y ∈ (ofBytes s).drop (p + a), isB y := fun y hy => ofBytes_isB s y (List.mem_of_mem_drop hy)
 simp only [br_not, br_dec]
 split
 case isFalse hd =>
  have : digC ((ofBytes s).drop (p + a)) = 12 := by
   unfold digC
   refine if_pos (.inl ?_)
   cases hc : (ofBytes s).drop (p + a) with
   | nil => rfl
   | cons c r => rw [hc] at hd; simp at hd; simp [run, hd]
  rw [this] at h1
  exact h1 (by decide) 0 (by omega)
 case isTrue hd =>
  have hpos : p + a < s.size := by
   rcases Nat.lt_or_ge (p + a) s.size with hh | hh
   ·exact hh
   ·rw [List.drop_of_length_le (by omega)] at hd; simp [isD] at hd
  have hrun : 1 ≤ run ((ofBytes s).drop (p + a)) := by
   cases hc : (ofBytes s).drop (p + a) with
   | nil => rw [hc] at hlr; simp at hlr; omega
   | cons c r => rw [hc] at hd; simp at hd; simp [run, hd]
  have hrl := run_le ((ofBytes s).drop (p + a))
  have ew : IntKind.i64.wrap ((p : Int) + (a : Int)) = ((p + a : Nat) : Int) := by rw [wrap_id (by omega) (by omega)]; omega
  rw [ew, rest_eq s (p + a) (by omega), bytesOf_size]
  have hmin : mmv false (((((ofBytes s).drop (p + a)).length : Nat) : Int)) 24 = ((min ((ofBytes s).drop (p + a)).length 24 : Nat) : Int) := by
   unfold mmv; dsimp only; split <;> omega
  rw [hmin]
  have hex : ByteArray.extract (bytesOf ((ofBytes s).drop (p + a))) (Int.toNat 0) (Int.toNat ((min ((ofBytes s).drop (p + a)).length 24 : Nat) : Int)) = bytesOf (((ofBytes s).drop (p + a)).take 24) := by
   apply eq_of_ofBytes
   rw [ofBytes_extract, ofBytes_bytesOf hB, ofBytes_bytesOf (fun y hy => hB y (List.mem_of_mem_take hy)), Int.toNat_natCast]
   simp [List.take_take]
   exact Nat.min_comm _ _
  rw [hex]
  refine ⟨⟨by omega, by omega, by omega⟩, ⟨by omega, by omega, by omega⟩, ?_, ?_⟩
  ·rw [bytesOf_size, List.length_take]
   show (1 : Nat) + _ ≤ _
   omega
  have hap : ByteArray.mk #[45] ++ bytesOf (((ofBytes s).drop (p + a)).take 24) = bytesOf (45 :: ((ofBytes s).drop (p + a)).take 24) := by
   rw [show ByteArray.mk #[45] = bytesOf [45] from rfl, ← bytesOf_append]; rfl
  rw [hap]
  have hB2 : ∀ y ∈ 45 :: ((ofBytes s).drop (p + a)).take 24, isB y := by
   intro y hy
   rcases List.mem_cons.1 hy with rfl | hy
   ·exact ⟨by decide, by decide⟩
   ·exact hB y (List.mem_of_mem_take hy)
  have hr2 : 30 ≤ reachBytes := by decide
  refine dscan_s _ (by rw [bytesOf_size]; simp; omega) _ _ ?_
  rw [ofBytes_bytesOf hB2, scan_minus]
  have hz2 : ¬ 1 < run ((ofBytes s).drop (p + a)) → ((ofBytes s).drop (p + a)).getD 0 0 = 48 → val (((ofBytes s).drop (p + a)).take (run ((ofBytes s).drop (p + a)))) = 0 := by
   intro g1 g2
   rw [show run ((ofBytes s).drop (p + a)) = 1 by omega]
   cases hc : (ofBytes s).drop (p + a) with
   | nil => rfl
   | cons x r =>
     rw [hc] at g2
     simp only [List.getD_cons_zero] at g2
     subst g2
     rfl
  have hz := val_zero (r := (ofBytes s).drop (p + a)) (by omega)
  have hs2 : scanI (ofBytes s) ((p + a : Nat) : Int) = if ((ofBytes s).drop (p + a)).getD 0 0 = 48 ∧ 1 < run ((ofBytes s).drop (p + a)) then (0, 0, 12) else if val (((ofBytes s).drop (p + a)).take (run ((ofBytes s).drop (p + a)))) ≥ 2 ^ 63 then (0, 0, 2) else ((val (((ofBytes s).drop (p + a)).take (run ((ofBytes s).drop (p + a)))) : Int), ((p + a + run ((ofBytes s).drop (p + a)) : Nat) : Int), 0) := by
   unfold scanI
   rw [if_neg (by rw [hl]; omega)]
   dsimp only
   have hm : (decide ((((p + a : Nat) : Int)).toNat < (ofBytes s).length) && ((ofBytes s).getD (((p + a : Nat) : Int)).toNat 0 == 45)) = false := by
    rw [Int.toNat_natCast, ← hgd]
    have : (((ofBytes s).drop (p + a)).getD 0 0 == 45) = false := by
     unfold isD at hd
     rw [beq_eq_false_iff_ne]; omega
    rw [this]; simp
   rw [hm]
   simp only [Int.toNat_natCast, Bool.toNat_false, Nat.add_zero, Bool.false_eq_true, if_false, and_true, or_false]
   rw [hgd]
   by_cases c1 : (ofBytes s).getD (p + a) 0 = 48 ∧ 1 < run ((ofBytes s).drop (p + a))
   ·rw [if_pos (.inr c1), if_pos c1]
   ·rw [if_neg (by rintro (h | h); omega; exact c1 h), if_neg c1]
    by_cases c2 : val (((ofBytes s).drop (p + a)).take (run ((ofBytes s).drop (p + a)))) ≥ 2 ^ 63
    ·rw [if_pos (by omega), if_pos c2]
    ·rw [if_neg (by omega), if_neg c2]
  unfold digC at h1 h2
  have hscan := dscan_s s hs ((p + a : Nat) : Int)
  rw [hs2] at hscan
  have hnd : ¬ run ((ofBytes s).drop (p + a)) = 0 := by omega
  generalize hv : val (((ofBytes s).drop (p + a)).take (run ((ofBytes s).drop (p + a)))) = v at *
  generalize run ((ofBytes s).drop (p + a)) = d at *
  generalize ((ofBytes s).drop (p + a)).getD 0 0 = c at *
  have err : ∀ e : Int, e ≤ s.size → IntKind.i64.wrap (IntKind.i64.wrap (((p + a : Nat) : Int) + 0) - 1) ≤ (s.size : Int) := by
   intro e he
   rw [wrap_id (n := ((p + a : Nat) : Int) + 0) (by omega) (by omega), wrap_id (by omega) (by omega)]
   omega
  by_cases c48 : c = 48
  ·rw [if_pos (.inr c48)]
   dsimp only
   rw [br_beq, if_pos rfl]
   refine hscan _ ?_
   by_cases cd : 1 < d
   ·rw [if_pos ⟨c48, cd⟩]
    dsimp only
    rw [br_beq, if_neg (by decide)]
    rw [if_pos (.inr ⟨c48, cd⟩)] at h1
    exact h1 (by decide) _ (err 0 (by omega))
   ·rw [if_neg (by omega)]
    have hv0 : v = 0 := hz2 cd c48
    subst hv0
    rw [if_neg (by decide)]
    dsimp only
    rw [br_beq, if_pos rfl]
    rw [if_neg (by omega), if_neg (by decide)] at h2
    exact h2 rfl
  ·rw [if_neg (by omega)]
   by_cases cv : v > 2 ^ 63
   ·rw [if_pos cv]
    dsimp only
    rw [br_beq, if_pos rfl]
    refine hscan _ ?_
    rw [if_neg (by omega), if_pos (by omega)]
    dsimp only
    rw [br_beq, if_neg (by decide)]
    rw [if_neg (by omega), if_pos cv] at h1
    exact h1 (by decide) _ (err 0 (by omega))
   ·rw [if_neg cv]
    dsimp only
    have hv1 : v ≠ 0 := fun h => c48 (hz h)
    rw [br_beq, if_neg (by omega)]
    rw [if_neg (by omega), if_neg cv] at h2
    have e1 : IntKind.i64.wrap (0 - -(v : Int)) = w64 v := by congr 1; omega
    have e2 : IntKind.i64.wrap (IntKind.i64.wrap (((p + a : Nat) : Int) + ((1 + d : Nat) : Int)) - 1) = ((p + a + d : Nat) : Int) := by
     rw [wrap_id (n := ((p + a : Nat) : Int) + ((1 + d : Nat) : Int)) (by omega) (by omega), wrap_id (by omega) (by omega)]
     omega
    rw [e1, e2]
    exact h2 rfl
def Rd (s : ByteArray) (p : Nat) (g : Got) (k : Int → ByteArray → Int → Int → Int → Int → ByteArray → Int → Prop) : Prop :=
 (g.code ≠ 0 → ∀ a b c d e, k a b c d e g.code s p) ∧ (g.code = 0 → k g.kind (bytesOf g.text) g.num g.cls p 0 s p)
theorem take_s (s : ByteArray) (p : Nat) (x0 : Int) (x1 : ByteArray) (x2 x3 x4 : Int) (e : Int) (he : e ≤ s.size) (k : Int → ByteArray → Int → Int → Int → ByteArray → Int → Prop)
 (h : k x0 (if e > p then bytesOf (((ofBytes s).drop p).take (e.toNat - p)) else x1) x2 x3 p s p) : N157.f x0 x1 x2 x3 x4 e s (p : Int) k := by
 rw [N157.f_def]
 unfold N157.f0 N157.c N157.j4' N157.j4
 simp only [br_dec]
 split
 ·rename_i h1
  rw [if_pos h1] at h
  refine ⟨⟨by omega, by omega, by omega⟩, ?_⟩
  have := part_eq s p (e.toNat - p)
  rw [show (((p + (e.toNat - p) : Nat) : Int)) = e by omega] at this
  rw [this]; exact h
 ·rename_i h1
  rw [if_neg h1] at h
  exact h
theorem id_s (s : ByteArray) (hs : s.size ≤ reachBytes) (p a : Nat) (hp : p < s.size) (ha : a ≤ 2) (ha0 : 0 < a) (kind cls : Int) (k : Int → ByteArray → Int → Int → Int → Int → ByteArray → Int → Prop)
 (h : Rd s p (numS kind a cls ((ofBytes s).drop p)) k) : N159.f kind (a : Int) cls s (p : Int) k := by
 have hr : reachBytes < 2 ^ 47 := reachBytes_lt
 have hl := ofBytes_length s
 rw [N159.f_def]
 unfold N159.f0 N159.c N159.j2000003' N159.j2000003 N159.j4' N159.j4
 unfold Rd at h
 rw [numS_eq, List.drop_drop] at h
 obtain ⟨ha1, ha2⟩ := h
 have hrl := run_le ((ofBytes s).drop (p + a))
 rw [List.length_drop, hl] at hrl
 have bad : ∀ (n e c : Int), e ≤ s.size → (∀ t0 t1 t2 t3 t4, k t0 t1 t2 t3 t4 c s p) → N157.f kind (ByteArray.mk #[]) n cls 0 e s (p : Int) (fun y0 y1 y2 y3 y4 z0 z1 => k y0 y1 y2 y3 y4 c z0 z1) := by
  intro n e c he hk
  exact take_s s p _ _ _ _ _ e he _ (hk _ _ _ _ _)
 refine digits_s' s hs p a hp ha _ ?_ ?_
 ·intro hd e he
  rw [if_pos hd] at ha1
  simp only [Got.bad] at ha1
  rw [br_beq, if_neg hd]
  simp only [br_false]
  exact bad _ _ _ he (ha1 hd)
 ·intro hd
  rw [if_neg (by simpa using hd)] at ha1 ha2
  have hv : val (((ofBytes s).drop (p + a)).take (run ((ofBytes s).drop (p + a)))) ≤ 2 ^ 63 := by
   unfold digC at hd
   split at hd
   ·cases hd
   ·split at hd
    ·cases hd
    ·omega
  have hd0 : 1 ≤ run ((ofBytes s).drop (p + a)) := by
   unfold digC at hd
   split at hd
   ·cases hd
   ·omega
  have hpa : p + a + run ((ofBytes s).drop (p + a)) ≤ s.size := by
   rcases Nat.lt_or_ge (p + a) s.size with hh | hh
   ·omega
   ·rw [List.drop_of_length_le (by omega)] at hd0; simp [run] at hd0
  generalize val (((ofBytes s).drop (p + a)).take (run ((ofBytes s).drop (p + a)))) = v at *
  generalize run ((ofBytes s).drop (p + a)) = d at *
  rw [br_beq, if_pos rfl]
  have good : ¬ v > 2 ^ 31 - 1 → N157.f kind (ByteArray.mk #[]) (w64 v) cls 0 ((p + a + d : Nat) : Int) s (p : Int) (fun y0 y1 y2 y3 y4 z0 z1 => k y0 y1 y2 y3 y4 0 z0 z1) := by
   intro hv2
   rw [if_neg (fun hh => hv2 hh.2)] at ha2
   refine take_s s p _ _ _ _ _ _ (by omega) _ ?_
   rw [if_pos (by omega), show ((p + a + d : Nat) : Int).toNat - p = a + d by omega]
   exact ha2 rfl
  have wrong : v > 2 ^ 31 - 1 → N157.f kind (ByteArray.mk #[]) (w64 v) cls 0 ((p + a + d : Nat) : Int) s (p : Int) (fun y0 y1 y2 y3 y4 z0 z1 => k y0 y1 y2 y3 y4 2 z0 z1) := by
   intro hv2
   rw [if_pos ⟨ha0, hv2⟩] at ha1
   simp only [Got.bad] at ha1
   exact bad _ _ _ (by omega) (ha1 (by decide))
  by_cases hv63 : v = 2 ^ 63
  ·have e1 : w64 (v : Int) < 0 := by rw [hv63]; decide
   rw [br_dec, if_pos e1]
   simp only [br_true]
   exact wrong (by omega)
  ·have e1 : w64 (v : Int) = v := w64_id ⟨by omega, by omega⟩
   rw [e1] at good wrong ⊢
   rw [br_dec, if_neg (by omega)]
   refine br_of (fun hh => wrong ?_) (fun hh => good ?_)
   ·have := of_decide_eq_true hh; omega
   ·have := of_decide_eq_false hh; omega
theorem number_s (s : ByteArray) (hs : s.size ≤ reachBytes) (p : Nat) (hp : p < s.size) (k : Int → ByteArray → Int → Int → Int → Int → ByteArray → Int → Prop)
 (h : Rd s p (numS 2 0 0 ((ofBytes s).drop p)) k) : N126.f s (p : Int) k := by
 have hr : reachBytes < 2 ^ 47 := reachBytes_lt
 have hl := ofBytes_length s
 rw [N126.f_def]
 unfold N126.f0 N126.c
 unfold Rd at h
 rw [numS_eq, List.drop_drop] at h
 obtain ⟨ha1, ha2⟩ := h
 have hrl := run_le ((ofBytes s).drop (p + 0))
 rw [List.length_drop, hl] at hrl
 refine digits_s' s hs p 0 hp (by omega) _ ?_ ?_
 ·intro hd e he
  rw [if_pos hd] at ha1
  simp only [Got.bad] at ha1
  exact take_s s p _ _ _ _ _ e he _ (ha1 hd _ _ _ _ _)
 ·intro hd
  rw [if_neg (by simpa using hd), if_neg (fun hh => absurd hh.1 (by decide))] at ha2
  have hd0 : 1 ≤ run ((ofBytes s).drop (p + 0)) := by
   unfold digC at hd
   split at hd
   ·cases hd
   ·omega
  refine take_s s p _ _ _ _ _ _ (by omega) _ ?_
  rw [if_pos (by omega), show ((p + 0 + run ((ofBytes s).drop (p + 0)) : Nat) : Int).toNat - p = 0 + run ((ofBytes s).drop (p + 0)) by omega]
  exact ha2 rfl
theorem vreg_s (s : ByteArray) (hs : s.size ≤ reachBytes) (p : Nat) (hp : p < s.size) (k : Int → ByteArray → Int → Int → Int → Int → ByteArray → Int → Prop)
 (h : Rd s p (numS 4 1 0 ((ofBytes s).drop p)) k) : N129.f s (p : Int) k := by
 rw [N129.f_def]
 unfold N129.f0 N129.c
 exact id_s s hs p 1 hp (by omega) (by omega) _ _ _ h
theorem slot_s (s : ByteArray) (hs : s.size ≤ reachBytes) (p : Nat) (hp : p < s.size) (k : Int → ByteArray → Int → Int → Int → Int → ByteArray → Int → Prop)
 (h : Rd s p (numS 6 1 0 ((ofBytes s).drop p)) k) : N131.f s (p : Int) k := by
 rw [N131.f_def]
 unfold N131.f0 N131.c
 exact id_s s hs p 1 hp (by omega) (by omega) _ _ _ h
theorem preg_s (s : ByteArray) (hs : s.size ≤ reachBytes) (p : Nat) (hp : p < s.size) (k : Int → ByteArray → Int → Int → Int → Int → ByteArray → Int → Prop)
 (h : Rd s p (if (ofBytes s).getD (p + 1) 0 = 103 then numS 5 2 0 ((ofBytes s).drop p) else if (ofBytes s).getD (p + 1) 0 = 120 then numS 5 2 1 ((ofBytes s).drop p) else .bad 12 0) k) : N130.f s (p : Int) k := by
 rw [N130.f_def]
 unfold N130.f0 N130.c
 refine peek_s s hs p 1 (by omega) (by omega) _ ?_
 simp only [br_beq]
 split
 ·rename_i h1
  rw [if_pos h1] at h
  exact id_s s hs p 2 hp (by omega) (by omega) _ _ _ h
 ·rename_i h1
  rw [if_neg h1] at h
  split
  ·rename_i h2
   rw [if_pos h2] at h
   exact id_s s hs p 2 hp (by omega) (by omega) _ _ _ h
  ·rename_i h2
   rw [if_neg h2] at h
   exact h.1 (by decide) _ _ _ _ _
theorem word_s (s : ByteArray) (hs : s.size ≤ reachBytes) (p : Nat) (hp : p < s.size) (hL : isL ((ofBytes s).getD p 0) = true) (k : Int → ByteArray → Int → Int → Int → Int → ByteArray → Int → Prop)
 (h : Rd s p (if runS ((ofBytes s).drop p) > 24 then .bad 3 0 else ⟨1, ((ofBytes s).drop p).take (runS ((ofBytes s).drop p)), 0, 0, runS ((ofBytes s).drop p), 0, 0⟩) k) : N128.f s (p : Int) k := by
 have hr : reachBytes < 2 ^ 47 := reachBytes_lt
 have hl := ofBytes_length s
 rw [N128.f_def]
 unfold N128.f0 N128.c
 refine nscan_s s hs _ _ ?_
 have e : scanN (ofBytes s) (p : Int) = ((p + runS ((ofBytes s).drop p) : Nat) : Int) := by
  unfold scanN
  rw [if_neg (by rw [Int.toNat_natCast, hL, hl]; simp; omega), Int.toNat_natCast]
 have hrl := runS_le ((ofBytes s).drop p)
 have h1 : 1 ≤ runS ((ofBytes s).drop p) := by
  rw [drop_get (d := 0) (by omega)]
  exact runS_pos hL
 rw [List.length_drop, hl] at hrl
 rw [e]
 refine take_s s p _ _ _ _ _ _ (by omega) _ ?_
 rw [if_pos (by omega), show ((p + runS ((ofBytes s).drop p) : Nat) : Int).toNat - p = runS ((ofBytes s).drop p) by omega]
 have esz : (bytesOf (((ofBytes s).drop p).take (runS ((ofBytes s).drop p)))).size = runS ((ofBytes s).drop p) := by
  rw [bytesOf_size, List.length_take, List.length_drop, hl]; omega
 rw [esz]
 simp only [br_dec]
 split
 ·rename_i h2
  rw [if_pos (by omega)] at h
  exact h.1 (by decide) _ _ _ _ _
 ·rename_i h2
  rw [if_neg (by omega)] at h
  exact h.2 rfl
theorem sign_s' (s : ByteArray) (hs : s.size ≤ reachBytes) (p : Nat) (hp : p < s.size) (k : Int → ByteArray → Int → Int → Int → Int → ByteArray → Int → Prop)
 (h : Rd s p (if (ofBytes s).getD p 0 = 46 ∧ (ofBytes s).getD (p + 1) 0 = 46 then ⟨7, [46, 46], 0, 0, 2, 0, 0⟩ else ⟨7, [(ofBytes s).getD p 0], 0, 0, 1, 0, 0⟩) k) : N132.f s (p : Int) k := by
 have hr : reachBytes < 2 ^ 47 := reachBytes_lt
 have hl := ofBytes_length s
 rw [N132.f_def]
 unfold N132.f0 N132.c N132.j2000003' N132.j2000003 N132.j4' N132.j4
 refine peek_s s hs p 0 (by omega) (by omega) _ ?_
 rw [Nat.add_zero]
 have ew : IntKind.i64.wrap ((p : Int) + 1) = ((p + 1 : Nat) : Int) := by rw [wrap_id (by omega) (by omega)]; omega
 have ew2 : IntKind.i64.wrap (((p + 1 : Nat) : Int) + 1) = ((p + 2 : Nat) : Int) := by rw [wrap_id (by omega) (by omega)]; omega
 rw [ew]
 dsimp only
 rw [ew2]
 have one : ¬ ((ofBytes s).getD p 0 = 46 ∧ (ofBytes s).getD (p + 1) 0 = 46) → N157.f 7 (ByteArray.mk #[]) 0 0 0 ((p + 1 : Nat) : Int) s (p : Int) (fun y0 y1 y2 y3 y4 z0 z1 => k y0 y1 y2 y3 y4 0 z0 z1) := by
  intro hn
  rw [if_neg hn] at h
  refine take_s s p _ _ _ _ _ _ (by omega) _ ?_
  rw [if_pos (by omega), show ((p + 1 : Nat) : Int).toNat - p = 1 by omega, drop_get (d := 0) (by omega : p < (ofBytes s).length)]
  exact h.2 rfl
 simp only [br_beq]
 split
 ·rename_i h1
  refine peek_s s hs p 1 (by omega) (by omega) _ ?_
  split
  ·rename_i h2
   rw [if_pos ⟨h1, h2⟩] at h
   have hp1 : p + 1 < s.size := by
    rcases Nat.lt_or_ge (p + 1) s.size with hh | hh
    ·exact hh
    ·rw [show (ofBytes s).getD (p + 1) 0 = 0 by simp [List.getD, List.getElem?_eq_none (show (ofBytes s).length ≤ p + 1 by omega)]] at h2
     cases h2
   refine take_s s p _ _ _ _ _ _ (by omega) _ ?_
   rw [if_pos (by omega), show ((p + 2 : Nat) : Int).toNat - p = 2 by omega, drop_get (d := 0) (by omega : p < (ofBytes s).length), drop_get (d := 0) (by omega : p + 1 < (ofBytes s).length), h1, h2]
   exact h.2 rfl
  ·rename_i h2
   exact one (fun hh => h2 hh.2)
 ·rename_i h1
  simp only [br_false]
  exact one (fun hh => h1 hh.1)
end Go.Proofs.Yf
namespace Go.Proofs.Yf
open Go Go.Aw Go.Proofs
namespace N80
noncomputable def cfg : Cfg := { cb with E := tab [(125, N125.ent), (127, N127.ent), (122, N122.ent)] }
noncomputable def body : Code := bodyOf Tryz.f80
def c (x1 : Int) (aa : BA) (ab : Int) (k : BA → Int → Prop) (k1 : BA → Int → Prop) (k2 : BA → Int → Prop) (k3 : BA → Int → Prop) (k4 : BA → Int → Prop) (k5 : BA → Int → Prop) (k6 : BA → Int → Prop) : Prop :=
 (N125.f x1 (fun ae => (br ae (k aa ab) (N127.f x1 (fun af => (br af (k1 aa ab) (br (x1 == (37 : Int)) (k2 aa ab) (br (x1 == (36 : Int)) (k3 aa ab) (br (x1 == (35 : Int)) (k4 aa ab) (N122.f (ByteArray.mk #[123, 125, 40, 41, 91, 93, 44, 58, 59, 61, 43, 45, 42, 46]) x1 (fun ah => (br (decide (ah ≥ (0 : Int))) (k5 aa ab) (k6 aa ab)))))))))))))
def f0 x1 aa ab k k1 k2 k3 k4 k5 k6 := c x1 aa ab k k1 k2 k3 k4 k5 k6
noncomputable def f := sld f0
theorem f_def : f = f0 := sld_eq f0
def K0 (k : KT) (ac : BA) (ad : Int) : Prop := k (.clo 126 [(.ptr 0 0)] []) [(.box 152 [(.v (.string ac)), (.v (.int .i64 ad))])]
def K1 (k : KT) (ac : BA) (ad : Int) : Prop := k (.clo 128 [(.ptr 0 0)] []) [(.box 152 [(.v (.string ac)), (.v (.int .i64 ad))])]
def K2 (k : KT) (ac : BA) (ad : Int) : Prop := k (.clo 129 [(.ptr 0 0)] []) [(.box 152 [(.v (.string ac)), (.v (.int .i64 ad))])]
def K3 (k : KT) (ac : BA) (ad : Int) : Prop := k (.clo 130 [(.ptr 0 0)] []) [(.box 152 [(.v (.string ac)), (.v (.int .i64 ad))])]
def K4 (k : KT) (ac : BA) (ad : Int) : Prop := k (.clo 131 [(.ptr 0 0)] []) [(.box 152 [(.v (.string ac)), (.v (.int .i64 ad))])]
def K5 (k : KT) (ac : BA) (ad : Int) : Prop := k (.clo 132 [(.ptr 0 0)] []) [(.box 152 [(.v (.string ac)), (.v (.int .i64 ad))])]
def K6 (k : KT) (ac : BA) (ad : Int) : Prop := k (.v Value.nilFunc) [(.box 152 [(.v (.string ac)), (.v (.int .i64 ad))])]
noncomputable def T (k kp : KT) := topK cfg Tryz.f80 k kp
noncomputable def JJ (k kp : KT) : Nat → St → Prop := pick none' []
noncomputable def LL (k kp : KT) : Nat → St → Prop := pick none' []
def pa (x1 : Int) (aa : BA) (ab : Int) : List D := [(.ptr 0 0), (.v (.int IntKind.u8 x1))]
def pb (x1 : Int) (aa : BA) (ab : Int) : List Blk := [(.box 152 [(.v (.string aa)), (.v (.int .i64 ab))])]
theorem body_is : Tryz.f80.body = some body := by kernel_rfl
theorem f_eq (k kp x1 aa ab) : funW cfg Tryz.f80 (pa x1 aa ab) (pb x1 aa ab) k kp = f x1 aa ab (K0 k) (K1 k) (K2 k) (K3 k) (K4 k) (K5 k) (K6 k) :=
 raw_fun (own := 1000001) none'' (JJ k kp) (LL k kp) (fun J L => c x1 aa ab (K0 k) (K1 k) (K2 k) (K3 k) (K4 k) (K5 k) (K6 k)) body_is (by kernel_rfl) (fun J L => by kernel_rfl) (by rw [f_def]; rfl)
noncomputable def ent0 : Entry := fun args blks k _ => match args, blks with
 | [d0, d1], [e0] => aPtr 0 0 d0 (aInt IntKind.u8 d1 fun x1 => aBox 152 e0 fun l => aCons l fun ai l => aCons l fun aj l => aNil l (aStr ai fun aa => aInt IntKind.i64 aj fun ab => f x1 aa ab (K0 k) (K1 k) (K2 k) (K3 k) (K4 k) (K5 k) (K6 k)))
 | _, _ => False
noncomputable def ent : Entry := cvE [.no, .no] ent0
theorem ok : EntOk Tryz.prog 112 157 80 ent := by
 refine fnOk (cfg := cfg) rfl rfl rfl rfl (by kernel_rfl) ?_ Tryz.func80 (by rfl) (by rfl) ?_
 ·exact tab_c N125.ok <| tab_c N127.ok <| tab_c N122.ok <| tab_n
 ·intro args blks k kp h k' kp'
  match args, blks, h with
  | [d0, d1], [e0], h =>
  dsimp only [ent0] at h
  repeat ((first|have q := aPtr_elim h|have q := aInt_elim h|have q := aBox_elim h|have q := aCons_elim h|have q := aNil_elim h|have q := aStr_elim h); clear h; first|obtain ⟨rfl, h⟩ := q|obtain ⟨_, rfl, h⟩ := q|obtain ⟨_, _, rfl, h⟩ := q)
  exact (f_eq ..).symm
end N80
namespace N35
noncomputable def cfg : Cfg := { cb with E := tab [(37, N37.ent), (78, N78.ent), (79, N79.ent), (80, N80.ent), (126, N126.ent), (128, N128.ent), (129, N129.ent), (130, N130.ent), (131, N131.ent), (132, N132.ent)], atSeq := tab [(21, ks [4, 5])], atLoop := tab [(5, ⟨[(0, .keep), (4, .keep), (5, .own 102 Zy1)]⟩)], outs := [.own 102 Zy1, .keep] }
noncomputable def body : Code := bodyOf Tryz.f35
def l5 (j21 : BA → Int → Zq0 → Prop) (ag5 : BA → Int → Zq0 → Prop) (x0 ab : BA) (aa : Int) (b1 : Zq0) (k : Err → Zq0 → Prop) : Prop :=
 (N78.f ab aa (fun af ac => (br (ac == ((((x0).size : Nat) : Int))) (j21 af ac b1) ((inB 0 ac ((((x0).size : Nat) : Int) - 1)) ∧ (br ((byteAt x0 ac) == (34 : Int)) (N79.f af ac (fun ax ay az a0 a1 gc gd bx gk => (br (gd != (0 : Int)) (k (newE gd gc) ([] : List (Int × (BA × (Int × (Int × Int)))))) ((room ((b1).length + (([(ax, (ay, (az, (a0, a1))))] : List (Int × (BA × (Int × (Int × Int)))))).length) 48) ∧ (ag5 bx gc (b1 ++ ([(ax, (ay, (az, (a0, a1))))] : List (Int × (BA × (Int × (Int × Int))))))))))) ((inB 0 ac ((((x0).size : Nat) : Int) - 1)) ∧ (N80.f (byteAt x0 ac) af ac (fun bz b0 => (N126.f bz b0 (fun a2 ah a3 a4 a5 ge b2 a6 => (br (ge != (0 : Int)) (k (newE ge a6) ([] : List (Int × (BA × (Int × (Int × Int)))))) ((room ((b1).length + (([(a2, (ah, (a3, (a4, a5))))] : List (Int × (BA × (Int × (Int × Int)))))).length) 48) ∧ (ag5 b2 (IntKind.i64.wrap (a6 + ((((ah).size : Nat) : Int)))) (b1 ++ ([(a2, (ah, (a3, (a4, a5))))] : List (Int × (BA × (Int × (Int × Int)))))))))))) (fun b3 b4 => (N128.f b3 b4 (fun a7 ai a8 a9 ba gf b5 bb => (br (gf != (0 : Int)) (k (newE gf bb) ([] : List (Int × (BA × (Int × (Int × Int)))))) ((room ((b1).length + (([(a7, (ai, (a8, (a9, ba))))] : List (Int × (BA × (Int × (Int × Int)))))).length) 48) ∧ (ag5 b5 (IntKind.i64.wrap (bb + ((((ai).size : Nat) : Int)))) (b1 ++ ([(a7, (ai, (a8, (a9, ba))))] : List (Int × (BA × (Int × (Int × Int)))))))))))) (fun b6 b7 => (N129.f b6 b7 (fun bc aj bd bf bg gh b8 bh => (br (gh != (0 : Int)) (k (newE gh bh) ([] : List (Int × (BA × (Int × (Int × Int)))))) ((room ((b1).length + (([(bc, (aj, (bd, (bf, bg))))] : List (Int × (BA × (Int × (Int × Int)))))).length) 48) ∧ (ag5 b8 (IntKind.i64.wrap (bh + ((((aj).size : Nat) : Int)))) (b1 ++ ([(bc, (aj, (bd, (bf, bg))))] : List (Int × (BA × (Int × (Int × Int)))))))))))) (fun b9 ga => (N130.f b9 ga (fun bi ak bj bk bl gi gb bm => (br (gi != (0 : Int)) (k (newE gi bm) ([] : List (Int × (BA × (Int × (Int × Int)))))) ((room ((b1).length + (([(bi, (ak, (bj, (bk, bl))))] : List (Int × (BA × (Int × (Int × Int)))))).length) 48) ∧ (ag5 gb (IntKind.i64.wrap (bm + ((((ak).size : Nat) : Int)))) (b1 ++ ([(bi, (ak, (bj, (bk, bl))))] : List (Int × (BA × (Int × (Int × Int)))))))))))) (fun bn bo => (N131.f bn bo (fun al ad am an ao bv bp ap => (br (bv != (0 : Int)) (k (newE bv ap) ([] : List (Int × (BA × (Int × (Int × Int)))))) ((room ((b1).length + (([(al, (ad, (am, (an, ao))))] : List (Int × (BA × (Int × (Int × Int)))))).length) 48) ∧ (ag5 bp (IntKind.i64.wrap (ap + ((((ad).size : Nat) : Int)))) (b1 ++ ([(al, (ad, (am, (an, ao))))] : List (Int × (BA × (Int × (Int × Int)))))))))))) (fun bq bs => (N132.f bq bs (fun aq ae ar au av bw bt aw => (br (bw != (0 : Int)) (k (newE bw aw) ([] : List (Int × (BA × (Int × (Int × Int)))))) ((room ((b1).length + (([(aq, (ae, (ar, (au, av))))] : List (Int × (BA × (Int × (Int × Int)))))).length) 48) ∧ (ag5 bt (IntKind.i64.wrap (aw + ((((ae).size : Nat) : Int)))) (b1 ++ ([(aq, (ae, (ar, (au, av))))] : List (Int × (BA × (Int × (Int × Int)))))))))))) (fun gj bu => (k (newE (10 : Int) bu) ([] : List (Int × (BA × (Int × (Int × Int))))))))))))))
def j21 (ab : BA) (aa : Int) (b1 : Zq0) (k : Err → Zq0 → Prop) : Prop :=
 ((room ((b1).length + (([((0 : Int), ((ByteArray.mk #[]), ((0 : Int), ((0 : Int), aa))))] : List (Int × (BA × (Int × (Int × Int)))))).length) 48) ∧ (k Err.nil (b1 ++ ([((0 : Int), ((ByteArray.mk #[]), ((0 : Int), ((0 : Int), aa))))] : List (Int × (BA × (Int × (Int × Int))))))))
def c (l5 : BA → BA → Int → Zq0 → Prop) (x0 : BA) (k : Err → Zq0 → Prop) : Prop :=
 (br (decide (((((x0).size : Nat) : Int)) > (65536 : Int))) (k (newE (3 : Int) (0 : Int)) ([] : List (Int × (BA × (Int × (Int × Int)))))) (l5 x0 x0 (0 : Int) ([] : List (Int × (BA × (Int × (Int × Int)))))))
def j21' ab aa b1 k := j21 ab aa b1 k
def l5' (x0 ab : BA) (aa : Int) (b1 : Zq0) (k : Err → Zq0 → Prop) : Prop := ∃ n, loopS (fun ag (s : BA × Int × Zq0) => l5 (fun ab aa b1 => j21' ab aa b1 k) (fun ab aa b1 => ag (ab, aa, b1)) x0 s.1 s.2.1 s.2.2 k) n (ab, aa, b1)
def f0 x0 k := c (fun x0 ab aa b1 => l5' x0 ab aa b1 k) x0 k
noncomputable def f := sld f0
theorem f_def : f = f0 := sld_eq f0
def mL5 (x0 ab : BA) (aa : Int) (b1 : Zq0) : St := { tmps := mkT 106 0 [(0, (.v (.string x0))), (4, (.ptr 0 0)), (5, (.sl 1 0))], hp := [(.box 152 [(.v (.string ab)), (.v (.int .i64 aa))]), (.lst 102 Zy1 b1 0 false)], m := 0 }
def ML5 (g : St → Prop) x0 ab aa b1 := g (mL5 x0 ab aa b1)
def m21 (ab : BA) (aa : Int) (b1 : Zq0) : St := { tmps := mkT 106 0 [(4, (.ptr 0 0)), (5, (.sl 1 0))], hp := [(.box 152 [(.v (.string ab)), (.v (.int .i64 aa))]), (.lst 102 Zy1 b1 0 false)], m := 0 }
def M21 (g : St → Prop) ab aa b1 := g (m21 ab aa b1)
def K0 (k : KT) (y1 : Err) (z0 : Zq0) : Prop := k (.tup [(.sl 0 0), (.er y1)]) [(.lst 102 Zy1 z0 0 false)]
noncomputable def T (k kp : KT) := topK cfg Tryz.f35 k kp
noncomputable def YL5 (k kp : KT) : (St → Prop) → St → Prop := loopB cfg (sub [1, 0, 1, 1, 1, 1, 0, 0, 0] body) (contK cfg (pick none' []) [1, 0, 1, 1, 1, 1, 0, 0] body (T k kp))
noncomputable def XL5 (k kp : KT) : St → Prop := fun st => ∃ n, loopN (YL5 k kp) n st
noncomputable def X21 (k kp : KT) : St → Prop := atP cfg (pick none' []) [1, 0, 1, 1, 1, 1, 1] body (T k kp)
noncomputable def JJ_5 (k kp : KT) (ag5 : St → Prop) : Nat → St → Prop := pick none' [(21, X21 k kp)]
noncomputable def LL_5 (k kp : KT) (ag5 : St → Prop) : Nat → St → Prop := pick none' [(5, XL5 k kp)]
noncomputable def JJ (k kp : KT) : Nat → St → Prop := pick none' [(21, X21 k kp)]
noncomputable def LL (k kp : KT) : Nat → St → Prop := pick none' [(5, XL5 k kp)]
theorem j21_eq (k kp) : M21 (X21 k kp) = fun ab aa b1 => j21' ab aa b1 (K0 k) := by
 funext ab aa b1
 exact raw_eq (own:=21) rfl (JJ k kp) (LL k kp) (fun J L => j21 ab aa b1 (K0 k)) (by kernel_rfl) (fun _ _ => by kernel_rfl) rfl
theorem l5_eq (k kp) : ML5 (XL5 k kp) = fun x0 ab aa b1 => l5' x0 ab aa b1 (K0 k) := by
 funext x0 ab aa b1
 exact loop_eq (mk := fun (s : BA × Int × Zq0) => match s with | (ab, aa, b1) => mL5 x0 ab aa b1) (fun ag5 s => match s with | (ab, aa, b1) => raw_eq (own:=1000001) (cfg := cfg) (AG := (pick none' [(5, ag5)])) (p := [1, 0, 1, 1, 1, 1, 0, 0, 0]) (c := body) (K := (T k kp)) (st := mL5 x0 ab aa b1) (by kernel_rfl) (JJ_5 k kp ag5) (LL_5 k kp ag5) (fun J L => l5 (M21 (J 21)) (fun ab aa b1 => ag5 (mL5 x0 ab aa b1)) x0 ab aa b1 (K0 k)) (by kernel_rfl) (fun _ _ => by kernel_rfl) (by erw [j21_eq k kp] <;> rfl)) (ab, aa, b1)
def pa (x0 : BA) : List D := [(.v (.string x0))]
def pb (x0 : BA) : List Blk := []
theorem body_is : Tryz.f35.body = some body := by kernel_rfl
theorem f_eq (k kp x0) : funW cfg Tryz.f35 (pa x0) (pb x0) k kp = f x0 (K0 k) :=
 raw_fun (own := 1000001) none'' (JJ k kp) (LL k kp) (fun J L => c (ML5 (L 5)) x0 (K0 k)) body_is (by kernel_rfl) (fun J L => by kernel_rfl) (by rw [f_def]; erw [l5_eq k kp] <;> rfl)
noncomputable def ent0 : Entry := fun args blks k _ => match args, blks with
 | [d0], [] => aStr d0 fun x0 => f x0 (K0 k)
 | _, _ => False
noncomputable def ent : Entry := cvE [.no] ent0
theorem ok : EntOk Tryz.prog 112 157 35 ent := by
 refine fnOk (cfg := cfg) rfl rfl rfl rfl (by kernel_rfl) ?_ Tryz.func35 (by rfl) (by rfl) ?_
 ·exact tab_c N37.ok <| tab_c N78.ok <| tab_c N79.ok <| tab_c N80.ok <| tab_c N126.ok <| tab_c N128.ok <| tab_c N129.ok <| tab_c N130.ok <| tab_c N131.ok <| tab_c N132.ok <| tab_n
 ·intro args blks k kp h k' kp'
  match args, blks, h with
  | [d0], [], h =>
  dsimp only [ent0] at h
  repeat ((first|have q := aStr_elim h); clear h; first|obtain ⟨rfl, h⟩ := q|obtain ⟨_, rfl, h⟩ := q|obtain ⟨_, _, rfl, h⟩ := q)
  exact (f_eq ..).symm
end N35
end Go.Proofs.Yf
namespace Go.Proofs.Yf
open Go Go.Aw Go.Proofs Go.RowKit
theorem skip_s (s : ByteArray) (hs : s.size ≤ reachBytes) (p : Nat) (hp : p ≤ s.size) (k : ByteArray → Int → Prop)
 (h : ∀ q : Nat, p ≤ q → q ≤ s.size → stopAt ((ofBytes s).drop q) → (∀ out, lexW ((ofBytes s).drop p) p out = lexW ((ofBytes s).drop q) q out) → k s q) : N78.f s (p : Int) k := by
 have hr : reachBytes < 2 ^ 47 := reachBytes_lt
 have hl := ofBytes_length s
 rw [N78.f_def]
 unfold N78.f0 N78.c N78.l0'
 refine loopS_of (fun st : ByteArray × Int => ∃ q : Nat, st.1 = s ∧ st.2 = q ∧ p ≤ q ∧ q ≤ s.size ∧ ∀ out, lexW ((ofBytes s).drop p) p out = lexW ((ofBytes s).drop q) q out) (fun st => s.size - st.2.toNat) ?_ ⟨p, rfl, rfl, Nat.le_refl _, hp, fun _ => rfl⟩
 rintro again ⟨s', x⟩ ⟨q, rfl, rfl, hpq, hq, he⟩ hag
 simp only at hag hr hl hs h ⊢
 unfold N78.l0 N78.j8' N78.j8
 dsimp only
 refine br_of (fun hlt => ?_) (fun hge => ?_)
 ·have hlt : q < s'.size := by simp at hlt; omega
  rw [rest_eq s' q hq]
  have hB : ∀ y ∈ (ofBytes s').drop q, isB y := fun y hy => ofBytes_isB s' y (List.mem_of_mem_drop hy)
  have hdl : ((ofBytes s').drop q).length = s'.size - q := by rw [List.length_drop, hl]
  rw [bytesOf_size, show byteAt (bytesOf ((ofBytes s').drop q)) 0 = ((ofBytes s').drop q).getD 0 0 from byteAt_bytes hB 0, show (((ofBytes s').drop q).getD 0 0) = (ofBytes s').getD q 0 by simp [List.getD, List.getElem?_drop]]
  refine ⟨⟨by omega, by omega, by omega⟩, ⟨by omega, by omega, by omega⟩, indexB_s _ _ _ ?_⟩
  have hc := getD_isB s' q
  have hdr := drop_get (d := (0 : Int)) (by omega : q < (ofBytes s').length)
  rw [br_dec]
  by_cases hW : isW ((ofBytes s').getD q 0) = true
  ·rw [if_pos ((indexB_blank hc).2 hW), wrap_id (by omega) (by omega)]
   refine hag _ ⟨q + 1, rfl, by simp, by omega, by omega, fun out => ?_⟩ (by simp only; omega)
   rw [he, hdr, lexW_blank _ _ hW]
   simp
  ·rw [if_neg (fun hh => hW ((indexB_blank hc).1 hh))]
   refine prefix2_s _ _ ?_
   rw [bytesOf_size, ofBytes_bytesOf hB]
   refine br_of (fun hrem => ?_) (fun hno => ?_)
   ·have hrem := of_decide_eq_true hrem
    refine indexB_s _ _ _ ?_
    rw [indexB_eq _ (by exact ⟨by decide, by decide⟩), ofBytes_bytesOf hB, idxI_line]
    have hln := lineN_le ((ofBytes s').drop q)
    have hd2 : ((ofBytes s').drop q).head? = some 47 ∧ (((ofBytes s').drop q).drop 1).head? = some 47 := by
     match hc2 : (ofBytes s').drop q, hrem with
     | [], hrem => simp at hrem
     | [a], hrem => simp at hrem
     | a :: b :: r, hrem => simp at hrem; simp [hrem]
    have hl1 : 1 ≤ lineN ((ofBytes s').drop q) := by
     rw [hdr] at hd2 ⊢
     unfold lineN
     have h47 : (ofBytes s').getD q 0 = 47 := Option.some.inj hd2.1
     rw [if_neg (by rw [h47]; decide)]; omega
    have go : ∀ n : Int, n = lineN ((ofBytes s').drop q) → again (s', IntKind.i64.wrap ((q : Int) + n)) := by
     rintro n rfl
     rw [wrap_id (by omega) (by omega)]
     refine hag _ ⟨q + lineN ((ofBytes s').drop q), rfl, by simp, by omega, by omega, fun out => ?_⟩ (by simp only; omega)
     rw [he, ← List.drop_drop]
     obtain ⟨r, hr2, hr3⟩ : ∃ r, (ofBytes s').drop q = 47 :: r ∧ r.head? = some 47 := by
      rw [hdr] at hd2 ⊢
      simp only [List.head?_cons, Option.some.injEq, List.drop_succ_cons, List.drop_zero] at hd2
      exact ⟨_, by rw [hd2.1], hd2.2⟩
     rw [hr2, lexW_remark _ _ hr3]
     simp
    rw [br_dec]
    by_cases hnl : lineN ((ofBytes s').drop q) < ((ofBytes s').drop q).length
    ·rw [if_pos hnl, if_neg (by omega)]
     exact go _ rfl
    ·rw [if_neg hnl, if_pos (by decide)]
     exact go _ (by omega)
   ·have hno := of_decide_eq_false hno
    refine h q hpq hq ?_ he
    rw [hdr]
    refine ⟨by simpa using hW, ?_⟩
    rintro ⟨h47, hh⟩
    refine hno ⟨?_, ?_, ?_⟩
    ·rw [hdl]
     rcases Nat.lt_or_ge 1 (s'.size - q) with g | g
     ·exact g
     ·rw [List.drop_of_length_le (by omega)] at hh; simp at hh
    ·rw [hdr]; simpa using h47
    ·rw [hdr]
     simp only [List.getD_cons_succ]
     cases hc3 : (ofBytes s').drop (q + 1) with
     | nil => rw [hc3] at hh; simp at hh
     | cons a r => rw [hc3] at hh; simpa using hh
 ·have hge : ¬ q < s'.size := by simp at hge; omega
  refine h q hpq hq ?_ he
  rw [List.drop_of_length_le (by omega)]
  trivial
theorem quoted_s (s : ByteArray) (hx : s.size ≤ 1000000000000) (p : Nat) (k : Int → ByteArray → Int → Int → Int → Int → Int → ByteArray → Int → Prop)
 (hp : p < s.size) (hq : (ofBytes s).getD p 0 = 34)
 (h : ∀ t e c, scanL 64 ((ofBytes s).length + 1) ((ofBytes s).drop (p + 1)) (p + 1) [] = (t, e, c) → k 3 (bytesOf t) 0 0 p e c s p) : N79.f s (p : Int) k := by
 have hl := ofBytes_length s
 rw [N79.f_def]
 unfold N79.f0 N79.c
 refine qscan_s s hx _ _ (fun hn => ?_) (fun t e c _ he => h t e c (by simpa using he))
 exfalso
 unfold noQuote at hn
 rw [Int.toNat_natCast] at hn
 rcases hn with hn | hn | hn
 ·omega
 ·omega
 ·exact hn hq
theorem all_s (s : ByteArray) (hs : s.size ≤ reachBytes) (k : Err → List LTok → Prop) (h : k (newE (lexAll (ofBytes s)).2.1 (lexAll (ofBytes s)).2.2) (lexAll (ofBytes s)).1) : N35.f s k := by
 have hr : reachBytes < 2 ^ 47 := reachBytes_lt
 have hl := ofBytes_length s
 rw [N35.f_def]
 unfold N35.f0 N35.c
 rw [lexAll_eq, hl] at h
 rw [br_dec]
 split
 ·rename_i h1
  rw [if_pos (by omega)] at h
  exact h
 ·rename_i h1
  rw [if_neg (by omega)] at h
  have h64 : s.size ≤ 65536 := by omega
  generalize hR : lexW (ofBytes s) 0 [] = R at h
  unfold N35.l5'
  refine loopS_of (fun st : ByteArray × Int × List LTok => ∃ q : Nat, st.1 = s ∧ st.2.1 = q ∧ q ≤ s.size ∧ st.2.2.length ≤ q ∧ lexW ((ofBytes s).drop q) q st.2.2 = R) (fun st => s.size - st.2.1.toNat) ?_ ⟨0, rfl, rfl, Nat.zero_le _, Nat.zero_le _, by rw [← hR]; rfl⟩
  rintro again ⟨s', x, out⟩ ⟨q0, rfl, rfl, hq0, ho, he⟩ hag
  simp only at hag ho he hr hl hs h h64 hq0 ⊢
  unfold N35.l5 N35.j21' N35.j21
  dsimp only
  refine skip_s s' hs q0 hq0 _ ?_
  intro q hqq hq hst hsk
  have he : lexW ((ofBytes s').drop q) q out = R := by rw [← he, hsk]
  have ho : out.length ≤ q := by omega
  rw [br_beq]
  split
  ·rename_i hend
   have hend : q = s'.size := by omega
   refine ⟨by unfold room; simp; omega, ?_⟩
   rw [List.drop_of_length_le (by omega), lexW_nil] at he
   rw [← he] at h
   exact h
  ·rename_i hend
   have hlt : q < s'.size := by omega
   have hdr := drop_get (d := (0 : Int)) (by omega : q < (ofBytes s').length)
   refine ⟨⟨by omega, by omega, by omega⟩, ?_⟩
   rw [byteAt_eq]
   rw [hdr] at hst he
   rw [lexW_tok _ _ hst, ← hdr] at he
   have hc := getD_isB s' q
   rw [br_beq]
   have rd : ∀ g : Got, tokS ((ofBytes s').drop q) = g → g.off = 0 → (g.code = 0 → g.text.length = g.len) → Rd s' q g (fun (y0 : Int) (y1 : ByteArray) (y2 y3 y4 y5 : Int) (z0 : ByteArray) (z1 : Int) => (br (y5 != (0 : Int)) (k (newE y5 z1) ([] : List LTok)) ((room (out.length + (([(y0, (y1, (y2, (y3, y4))))] : List LTok)).length) 48) ∧ (again (z0, (w64 (z1 + ((((y1).size : Nat) : Int)))), (out ++ ([(y0, (y1, (y2, (y3, y4))))] : List LTok))))))) := by
    intro g hg hoff hlen
    rw [hg] at he
    constructor
    ·intro hc0 a b c d e
     rw [if_pos hc0, hoff] at he
     rw [br_bne, if_neg hc0]
     rw [← show (([] : List LTok), g.code, (q : Int)) = R by rw [← he]; simp] at h
     exact h
    ·intro hc0
     rw [if_neg (by simpa using hc0)] at he
     have htl := tokS_len (l := (ofBytes s').drop q) (by rw [hg]; exact hc0)
     rw [hg, List.length_drop] at htl
     rw [br_bne, if_pos rfl]
     refine ⟨by unfold room; simp; omega, ?_⟩
     have e1 : (bytesOf g.text).size = g.len := by rw [bytesOf_size]; exact hlen hc0
     rw [e1, w64_id ⟨by omega, by omega⟩]
     refine hag _ ⟨q + g.len, rfl, by simp, by omega, by simp; omega, ?_⟩ (by simp only; omega)
     rw [← he, List.drop_drop]
     simp
   have num : ∀ kind cls a, (numS kind a cls ((ofBytes s').drop q)).off = 0 ∧ ((numS kind a cls ((ofBytes s').drop q)).code = 0 → (numS kind a cls ((ofBytes s').drop q)).text.length = (numS kind a cls ((ofBytes s').drop q)).len) := by
    intro kind cls a
    have hrl := run_le (((ofBytes s').drop q).drop a)
    rw [List.length_drop] at hrl
    unfold numS
    dsimp only
    split
    ·exact ⟨rfl, fun hh => absurd hh (by simp [Got.bad])⟩
    ·rename_i hn
     split
     ·exact ⟨rfl, fun hh => absurd hh (by simp [Got.bad])⟩
     ·refine ⟨rfl, fun _ => ?_⟩
      dsimp only
      rw [List.length_take]
      omega
   split
   ·rename_i h34
    refine quoted_s s' (by omega) q _ hlt h34 ?_
    intro t e c hsc
    have ht := tokS_quote (ofBytes s') q (by omega) h34 hsc
    rw [ht] at he
    rw [br_bne]
    split
    ·rename_i hc0
     subst hc0
     simp only [if_true, ne_eq, not_true, if_false] at he
     have htl := tokS_len (l := (ofBytes s').drop q) (by rw [ht]; rfl)
     rw [ht, List.length_drop] at htl
     simp only [if_true] at htl
     refine ⟨by unfold room; simp; omega, ?_⟩
     refine hag _ ⟨q + (e - q).toNat, rfl, by simp only; omega, by omega, by simp; omega, ?_⟩ (by simp only; omega)
     rw [← he, List.drop_drop]
     simp
    ·rename_i hc0
     rw [if_neg hc0] at he
     rw [if_pos (show (Got.bad c (e - q)).code ≠ 0 from hc0)] at he
     simp only [Got.bad] at he
     rw [show (q : Int) + (e - q) = e by omega] at he
     rw [← he] at h
     exact h
   ·rename_i h34
    refine ⟨⟨by omega, by omega, by omega⟩, ?_⟩
    rw [N80.f_def]
    unfold N80.f0 N80.c
    refine isDig_s _ _ ?_
    generalize hcc : (ofBytes s').getD q 0 = c at *
    have hh1 : ((ofBytes s').drop (q + 1)).head? = some ((ofBytes s').getD (q + 1) 0) ∨ (ofBytes s').drop (q + 1) = [] := by
     rcases Nat.lt_or_ge (q + 1) (ofBytes s').length with g | g
     ·left; rw [drop_get (d := 0) g]; rfl
     ·right; exact List.drop_of_length_le g
    have hnil : (ofBytes s').drop (q + 1) = [] → (ofBytes s').getD (q + 1) 0 = 0 := by
     intro g
     have : (ofBytes s').length ≤ q + 1 := by
      have := congrArg List.length g
      rw [List.length_drop] at this; simp at this; omega
     simp [List.getD, List.getElem?_eq_none this]
    rw [br_dec]
    split
    ·rename_i hD
     have e1 : tokS ((ofBytes s').drop q) = numS 2 0 0 ((ofBytes s').drop q) := by rw [hdr, tokS_D _ hD]
     exact number_s s' hs q hlt _ (rd _ e1 (num _ _ _).1 (num _ _ _).2)
    ·rename_i hD
     refine (letter_s _ _).2 ?_
     refine br_of (fun hL => ?_) (fun hL => ?_)
     ·have e1 : tokS ((ofBytes s').drop q) = if runS ((ofBytes s').drop q) > 24 then .bad 3 0 else ⟨1, ((ofBytes s').drop q).take (runS ((ofBytes s').drop q)), 0, 0, runS ((ofBytes s').drop q), 0, 0⟩ := by
       rw [hdr, tokS_L _ hL]
      refine word_s s' hs q hlt (by rw [hcc]; exact hL) _ (rd _ e1 ?_ ?_)
      ·split <;> rfl
      ·split
       ·intro hh; exact absurd hh (by simp [Got.bad])
       ·intro _
        have := runS_le ((ofBytes s').drop q)
        dsimp only
        rw [List.length_take]; omega
     ·rw [br_beq]
      split
      ·rename_i h37
       have e1 : tokS ((ofBytes s').drop q) = numS 4 1 0 ((ofBytes s').drop q) := by rw [hdr, h37, tokS_37]
       exact vreg_s s' hs q hlt _ (rd _ e1 (num _ _ _).1 (num _ _ _).2)
      ·rename_i h37
       rw [br_beq]
       split
       ·rename_i h36
        have e1 : tokS ((ofBytes s').drop q) = if (ofBytes s').getD (q + 1) 0 = 103 then numS 5 2 0 ((ofBytes s').drop q) else if (ofBytes s').getD (q + 1) 0 = 120 then numS 5 2 1 ((ofBytes s').drop q) else .bad 12 0 := by
         rw [hdr, h36, tokS_36]
         rcases hh1 with g | g
         ·rw [g]; simp only [Option.some.injEq]
         ·rw [hnil g, g]; simp
        refine preg_s s' hs q hlt _ (rd _ e1 ?_ ?_)
        ·split
         ·exact (num _ _ _).1
         ·split
          ·exact (num _ _ _).1
          ·rfl
        ·split
         ·exact (num _ _ _).2
         ·split
          ·exact (num _ _ _).2
          ·intro hh; exact absurd hh (by simp [Got.bad])
       ·rename_i h36
        rw [br_beq]
        split
        ·rename_i h35
         have e1 : tokS ((ofBytes s').drop q) = numS 6 1 0 ((ofBytes s').drop q) := by rw [hdr, h35, tokS_35]
         exact slot_s s' hs q hlt _ (rd _ e1 (num _ _ _).1 (num _ _ _).2)
        ·rename_i h35
         refine indexB_s _ _ _ ?_
         rw [br_dec]
         split
         ·rename_i hS
          have hS := (indexB_signs hc).1 hS
          have e1 : tokS ((ofBytes s').drop q) = if c = 46 ∧ (ofBytes s').getD (q + 1) 0 = 46 then ⟨7, [46, 46], 0, 0, 2, 0, 0⟩ else ⟨7, [c], 0, 0, 1, 0, 0⟩ := by
           rw [hdr, tokS_S _ hS]
           rcases hh1 with g | g
           ·rw [g]; simp only [Option.some.injEq]
           ·rw [hnil g, g]; simp
          refine sign_s' s' hs q hlt _ ?_
          rw [hcc]
          refine rd _ e1 ?_ ?_
          ·split <;> rfl
          ·split <;> (intro _; rfl)
         ·rename_i hS
          have hS := fun hh => hS ((indexB_signs hc).2 hh)
          rw [hdr, tokS_no _ h34 hL h37 h35 h36 hD hS] at he
          simp [Got.bad] at he
          rw [← he] at h
          exact h
end Go.Proofs.Yf
namespace Go.Aw
open Go Go.RowKit
variable {α β : Type}
def Inc (l : List LTok) : Prop := ∀ a b, a < b → b < l.length → (tokAt l a).pos < (tokAt l b).pos
def cut (l : List LTok) (j : Nat) : List LTok := l.take j ++ [(0, ByteArray.empty, 0, 0, (tokAt l j).pos)]
theorem cut_len {l : List LTok} {j : Nat} (h : j < l.length) : (cut l j).length = j + 1 := by
 unfold cut; simp; omega
theorem cut_at {l : List LTok} {j i : Nat} (h : j < l.length) (hi : i < j) : tokAt (cut l j) i = tokAt l i := by
 unfold cut tokAt
 simp only [List.getD_eq_getElem?_getD]
 rw [List.getElem?_append_left (by simp; omega), List.getElem?_take, if_pos hi]
theorem cut_end {l : List LTok} {j : Nat} (h : j < l.length) : tokAt (cut l j) j = (0, ByteArray.empty, 0, 0, (tokAt l j).pos) := by
 unfold cut
 rw [show tokAt (l.take j ++ [(0, ByteArray.empty, 0, 0, (tokAt l j).pos)]) j = (l.take j ++ [(0, ByteArray.empty, 0, 0, (tokAt l j).pos)]).getD j noTok from rfl, List.getD, List.getElem?_append_right (by simp; omega)]
 simp [show min j l.length = j by omega]
theorem cut_pos {l : List LTok} {j i : Nat} (h : j < l.length) (hi : i ≤ j) : (tokAt (cut l j) i).pos = (tokAt l i).pos := by
 rcases Nat.lt_or_ge i j with h1 | h1
 ·rw [cut_at h h1]
 ·have : i = j := by omega
  subst this; rw [cut_end h]; rfl
theorem cut_ok {l : List LTok} (hl : LexP l) {j : Nat} (h : j < l.length) : LexP (cut l j) := by
 refine ⟨?_, fun i => ?_, fun i => ?_, by rw [cut_len h]; have := hl.len; omega⟩
 ·unfold lastKind
  rw [cut_len h, Nat.add_sub_cancel, cut_end h]; rfl
 ·rcases Nat.lt_or_ge i j with h1 | h1
  ·rw [cut_at h h1]; exact hl.num i
  ·rcases Nat.lt_or_ge j i with h2 | h2
   ·rw [tokAt_none (by rw [cut_len h]; omega)]
    exact show in64 0 by unfold in64; omega
   ·have : i = j := by omega
    subst this; rw [cut_end h]
    exact show in64 0 by unfold in64; omega
 ·rcases Nat.lt_or_ge i j with h1 | h1
  ·rw [cut_at h h1]; exact hl.txt i
  ·rcases Nat.lt_or_ge j i with h2 | h2
   ·rw [tokAt_none (by rw [cut_len h]; omega)]; exact Nat.zero_le _
   ·have : i = j := by omega
    subst this; rw [cut_end h]; exact Nat.zero_le _
theorem cut_kind {l : List LTok} {j : Nat} (h : j < l.length) : (tokAt (cut l j) j).kind = 0 := by rw [cut_end h]; rfl
theorem cut_is {l : List LTok} {j : Nat} (h : j < l.length) (s : ByteArray) : isTk (tokAt (cut l j) j) s = false := by rw [cut_end h]; rfl
def Late (p : Psr α) : Prop := ∀ l, LexP l → ∀ i c q, i < l.length → p l i = .bad c q → c ≠ 0 ∧ ∃ r, i ≤ r ∧ r < l.length ∧ q = (tokAt l r).pos
theorem inc_le {l : List LTok} (h : Inc l) {a b : Nat} (hab : a ≤ b) (hb : b < l.length) : (tokAt l a).pos ≤ (tokAt l b).pos := by
 rcases Nat.lt_or_ge a b with h1 | h1
 ·exact Int.le_of_lt (h a b h1 hb)
 ·have : a = b := by omega
  subst this; exact Int.le_refl _
theorem bind_bad {p : Psr α} {f : α → Psr β} {l : List LTok} {i : Nat} {c q : Int} (h : p.bind f l i = .bad c q) : p l i = .bad c q ∨ ∃ a m, p l i = .ok a m ∧ f a l m = .bad c q := by
 unfold Psr.bind at h
 split at h
 ·rename_i a m e
  exact .inr ⟨a, m, e, h⟩
 ·rename_i c' q' e
  cases h; exact .inl e
theorem late_bind {p : Psr α} {f : α → Psr β} (hs : Stay p) (h : Late p) (hf : ∀ a, Late (f a)) : Late (p.bind f) := by
 intro l hl i c q hlt hb
 rcases bind_bad hb with h1 | ⟨a, m, h1, h2⟩
 ·exact h l hl i c q hlt h1
 ·obtain ⟨g1, g2⟩ := hs l hl i a m hlt h1
  obtain ⟨h3, r, h4, h5⟩ := hf a l hl m c q g2 h2
  exact ⟨h3, r, Nat.le_trans g1 h4, h5⟩
theorem late_ret (a : α) : Late (Psr.ret a) := fun l hl i c q hlt h => by cases h
theorem late_sign (s : ByteArray) : Late (signP s) := by
 intro l hl i c q hlt h
 unfold signP at h
 split at h
 ·cases h
 ·cases h; exact ⟨by decide, i, Nat.le_refl _, hlt, rfl⟩
theorem late_take (s : ByteArray) : Late (takeP s) := by
 intro l hl i c q hlt h
 unfold takeP at h
 split at h <;> cases h
theorem late_kind (k : Int) : Late (kindP k) := by
 intro l hl i c q hlt h
 unfold kindP at h
 split at h
 ·cases h
 ·cases h; exact ⟨by decide, i, Nat.le_refl _, hlt, rfl⟩
theorem FM_late {l : List LTok} (hl : lastKind l = 0) : ∀ (n a : Nat) (m : Bool) (f : Fr) (st : List Fr) (v : Int), l.length - a ≤ n → a < l.length → (FM l m (f :: st) v a).code ≠ 0 → ∃ r, a ≤ r ∧ r < l.length ∧ (FM l m (f :: st) v a).pos = (tokAt l r).pos
 | 0, a, m, f, st, v, hn, ha, h => by omega
 | n + 1, a, m, f, st, v, hn, ha, h => by
   have next : ∀ (m' : Bool) (f' : Fr) (st' : List Fr) (v' : Int), (tokAt l a).kind ≠ 0 → (FM l m' (f' :: st') v' (a + 1)).code ≠ 0 → ∃ r, a ≤ r ∧ r < l.length ∧ (FM l m' (f' :: st') v' (a + 1)).pos = (tokAt l r).pos := fun m' f' st' v' hk h => by
    have := not_last hl ha hk
    obtain ⟨r, h1, h2⟩ := FM_late hl n (a + 1) m' f' st' v' (by omega) this h
    exact ⟨r, Nat.le_of_succ_le h1, h2⟩
   cases m with
   | true =>
     rw [FM_true (Nat.le_of_lt ha)] at h ⊢
     split at h
     ·rename_i h1
      rw [if_pos h1]
      split at h
      ·rename_i h2; rw [if_pos h2]; exact ⟨a, Nat.le_refl _, ha, rfl⟩
      ·rename_i h2; rw [if_neg h2]; exact next _ _ _ _ (isTk_ne h1) h
     ·rename_i h1
      rw [if_neg h1]
      split at h
      ·rename_i h2; rw [if_pos h2]; exact next _ _ _ _ (isTk_ne h2.1) h
      ·rename_i h2
       rw [if_neg h2]
       split at h
       ·rename_i h3; rw [if_pos h3]; exact ⟨a, Nat.le_refl _, ha, rfl⟩
       ·rename_i h3
        rw [if_neg h3]
        split at h
        ·rename_i h4; rw [if_pos h4]; exact ⟨a, Nat.le_refl _, ha, rfl⟩
        ·rename_i h4; rw [if_neg h4]; exact next _ _ _ _ (by rw [Decidable.not_not.1 h3]; decide) h
   | false =>
     rw [FM_false (Nat.le_of_lt ha)] at h ⊢
     unfold aft at h ⊢
     split at h
     ·rename_i f' e
      refine next _ _ _ _ ?_ h
      unfold Fr.sign at e
      split at e
      ·rename_i h1; exact isTk_ne h1
      ·split at e
       ·rename_i h1; exact isTk_ne h1
       ·split at e
        ·rename_i h1; exact isTk_ne h1
        ·cases e
     ·rename_i e
      split at h
      ·rename_i h1; rw [if_pos h1]; exact ⟨a, Nat.le_refl _, ha, rfl⟩
      ·rename_i h1
       rw [if_neg h1]
       split at h
       ·exact absurd rfl h
       ·rename_i h2
        rw [if_neg h2]
        cases st with
        | nil => exact absurd rfl h2
        | cons g r => exact next _ _ _ _ (isTk_ne (by simpa using h1)) h
theorem FM_cut {l : List LTok} (hl : lastKind l = 0) {j : Nat} (hj : j < l.length) : ∀ (n a : Nat) (m : Bool) (f : Fr) (st : List Fr) (v : Int), j - a ≤ n → a ≤ j → FM (cut l j) m (f :: st) v a = .bad 20 (tokAt l j) ∨ FM (cut l j) m (f :: st) v a = FM l m (f :: st) v a := by
 intro n
 induction n with
 | zero =>
   intro a m f st v hn ha
   have : a = j := by omega
   subst this
   left
   have hc := cut_len hj
   have hp := cut_pos hj (Nat.le_refl a)
   have hb : FRes.bad 20 (tokAt (cut l a) a) = .bad 20 (tokAt l a) := by unfold FRes.bad; rw [hp]
   cases m with
   | true =>
     rw [FM_true (by omega), if_neg (by rw [cut_is hj]; decide), if_neg (by rw [cut_is hj]; simp), if_pos (by rw [cut_kind hj]; decide), hb]
   | false =>
     rw [FM_false (by omega)]
     unfold aft Fr.sign
     rw [if_neg (by rw [cut_is hj]; decide), if_neg (by rw [cut_is hj]; decide), if_neg (by rw [cut_is hj]; decide)]
     dsimp only
     rw [if_pos (cut_is hj _), hb]
 | succ n ih =>
   intro a m f st v hn ha
   rcases Nat.lt_or_ge a j with h1 | h1
   ·have hc := cut_len hj
    have ht := cut_at hj h1
    cases m with
    | true =>
      rw [FM_true (by omega), FM_true (l := l) (by omega), ht]
      split
      ·split
       ·exact .inr rfl
       ·exact ih _ _ _ _ _ (by omega) h1
      ·split
       ·exact ih _ _ _ _ _ (by omega) h1
       ·split
        ·exact .inr rfl
        ·split
         ·exact .inr rfl
         ·exact ih _ _ _ _ _ (by omega) h1
    | false =>
      rw [FM_false (by omega), FM_false (l := l) (by omega)]
      unfold aft
      rw [ht]
      split
      ·exact ih _ _ _ _ _ (by omega) h1
      ·split
       ·exact .inr rfl
       ·split
        ·exact .inr rfl
        ·rename_i h2
         cases st with
         | nil => exact absurd rfl h2
         | cons g r => exact ih _ _ _ _ _ (by omega) h1
   ·exact ih a m f st v (by omega) ha
theorem foldV_eq {l : List LTok} (hl : lastKind l = 0) {i : Nat} (hi : i < l.length) : foldV l i = if isTk (tokAt l i) sOpen = false then plainF l i else FM l true [Fr.fresh] 0 (i + 1) := by
 unfold foldV
 rw [if_neg (by rw [hl]; omega), Int.toNat_natCast]
 split
 ·rfl
 ·rename_i ho
  rw [show l.length + 1 - i = (l.length + 1 - (i + 1)) + 1 by omega, foldM, if_pos (by simpa using ho), if_neg (by simp)]
  rfl
theorem late_value : Late valueP := by
 intro l hl i c q hi h
 unfold valueP at h
 split at h
 ·cases h
 ·rename_i hc
  cases h
  refine ⟨hc, ?_⟩
  rw [foldV_eq hl.last hi] at hc ⊢
  split at hc
  ·rename_i h1
   rw [if_pos h1]
   cases hm : isTk (tokAt l i) sMinus with
   | true =>
     have key := not_last hl.last hi (isTk_ne hm)
     rw [plainF_m hm] at hc ⊢
     split at hc
     ·rename_i h2; rw [if_pos h2]; exact ⟨i + 1, Nat.le_succ _, key, rfl⟩
     ·exact absurd rfl hc
   | false =>
     rw [plainF_n hm] at hc ⊢
     split at hc
     ·rename_i h2; rw [if_pos h2]; exact ⟨i, Nat.le_refl _, hi, rfl⟩
     ·rename_i h2
      rw [if_neg h2]
      split at hc
      ·rename_i h3; rw [if_pos h3]; exact ⟨i, Nat.le_refl _, hi, rfl⟩
      ·exact absurd rfl hc
  ·rename_i h1
   rw [if_neg h1]
   have h2 := not_last hl.last hi (isTk_ne (by simpa using h1))
   obtain ⟨r, h3, h4⟩ := FM_late hl.last _ (i + 1) _ _ _ _ (Nat.le_refl _) h2 hc
   exact ⟨r, Nat.le_of_succ_le h3, h4⟩
def Beyond (l : List LTok) (j : Nat) : PR α → Prop
 | .ok _ m => j < m
 | .bad _ q => (tokAt l j).pos < q
def Pre (p : Psr α) : Prop := ∀ l, LexP l → Inc l → ∀ j i, j < l.length → i ≤ j → p (cut l j) i = .bad 20 (tokAt l j).pos ∨ p (cut l j) i = p l i ∨ Beyond l j (p l i)
theorem beyond_bind {p : Psr α} {f : α → Psr β} (hs : ∀ a, Stay (f a)) (hL : ∀ a, Late (f a)) (hp : Stay p) {l : List LTok} (hl : LexP l) (hi : Inc l) {i j : Nat} (hlt : i < l.length) (h : Beyond l j (p l i)) : Beyond l j (p.bind f l i) := by
 unfold Psr.bind
 cases e : p l i with
 | bad c q => rw [e] at h; exact h
 | ok a m =>
   rw [e] at h
   have h : j < m := h
   obtain ⟨_, g2⟩ := hp l hl i a m hlt e
   dsimp only
   cases e2 : f a l m with
   | ok b m2 => exact Nat.lt_of_lt_of_le h (hs a l hl m b m2 g2 e2).1
   | bad c q =>
     obtain ⟨_, r, r1, r2, rfl⟩ := hL a l hl m c q g2 e2
     exact Int.lt_of_lt_of_le (hi _ _ h g2) (inc_le hi r1 r2)
theorem pre_bind' {p : Psr α} {f : α → Psr β} (hp : Stay p) (h : Pre p) (hs : ∀ a, Stay (f a)) (hL : ∀ a, Late (f a))
 (hf : ∀ l, LexP l → Inc l → ∀ j i, j < l.length → i ≤ j → ∀ a m, p l i = .ok a m → p (cut l j) i = .ok a m → m ≤ j → f a (cut l j) m = .bad 20 (tokAt l j).pos ∨ f a (cut l j) m = f a l m ∨ Beyond l j (f a l m)) : Pre (p.bind f) := by
 intro l hl hi j i hj hij
 rcases h l hl hi j i hj hij with h1 | h1 | h1
 ·left; unfold Psr.bind; rw [h1]
 ·cases e : p l i with
  | bad c q => right; left; unfold Psr.bind; rw [h1, e]
  | ok a m =>
    have e' := h1.trans e
    have hm := (hp _ (cut_ok hl hj) i a m (by rw [cut_len hj]; omega) e').2
    rw [cut_len hj] at hm
    have := hf l hl hi j i hj hij a m e e' (by omega)
    unfold Psr.bind
    rw [e', e]
    exact this
 ·right; right; exact beyond_bind hs hL hp hl hi (by omega) h1
theorem pre_bind {p : Psr α} {f : α → Psr β} (hp : Stay p) (h : Pre p) (hs : ∀ a, Stay (f a)) (hL : ∀ a, Late (f a)) (hf : ∀ a, Pre (f a)) : Pre (p.bind f) :=
 pre_bind' hp h hs hL fun l hl hi j i hj hij a m _ _ hm => hf a l hl hi j m hj hm
theorem pre_ret (a : α) : Pre (Psr.ret a) := fun l hl hi j i hj hij => .inr (.inl rfl)
theorem at_or {i j : Nat} (h : i ≤ j) : i < j ∨ i = j := by omega
theorem pre_sign (s : ByteArray) : Pre (signP s) := by
 intro l hl hi j i hj hij
 unfold signP
 rcases at_or hij with h | rfl
 ·rw [cut_at hj h]; exact .inr (.inl rfl)
 ·left; rw [if_neg (by rw [cut_is hj]; decide), cut_pos hj (Nat.le_refl _)]
theorem pre_take (s : ByteArray) : Pre (takeP s) := by
 intro l hl hi j i hj hij
 unfold takeP
 rcases at_or hij with h | rfl
 ·rw [cut_at hj h]; exact .inr (.inl rfl)
 ·right
  rw [if_neg (by rw [cut_is hj]; decide)]
  split
  ·right; exact Nat.lt_succ_self _
  ·left; rfl
theorem pre_kind {k : Int} (hk : k ≠ 0) : Pre (kindP k) := by
 intro l hl hi j i hj hij
 unfold kindP
 rcases at_or hij with h | rfl
 ·rw [cut_at hj h]; exact .inr (.inl rfl)
 ·left; rw [if_neg (by rw [cut_kind hj]; exact fun h => hk h.symm), cut_pos hj (Nat.le_refl _)]
def Hard (p : Psr α) : Prop := ∀ l j, LexP l → j < l.length → p (cut l j) j = .bad 20 (tokAt l j).pos
theorem hard_bind {p : Psr α} {f : α → Psr β} (h : Hard p) : Hard (p.bind f) := by
 intro l j hl hj
 unfold Psr.bind; rw [h l j hl hj]
theorem hard_kind {k : Int} (hk : k ≠ 0) : Hard (kindP k) := by
 intro l j hl hj
 unfold kindP; rw [if_neg (by rw [cut_kind hj]; exact fun h => hk h.symm), cut_pos hj (Nat.le_refl _)]
theorem hard_value : Hard valueP := by
 intro l j hl hj
 unfold valueP
 rw [foldV_eq (cut_ok hl hj).last (by rw [cut_len hj]; omega), if_pos (cut_is hj _)]
 have : plainF (cut l j) j = .bad 20 (tokAt l j) := by
  rw [plainF_n (cut_is hj _), if_pos (by rw [cut_kind hj]; decide)]
  unfold FRes.bad
  rw [cut_pos hj (Nat.le_refl _)]
 rw [this, if_neg (show ¬ ((FRes.bad 20 (tokAt l j)).code = 0) from (show ¬ ((20 : Int) = 0) by decide))]
 rfl
theorem pre_value : Pre valueP := by
 intro l hl hi j i hj hij
 rcases at_or hij with h | rfl
 ·have hk : foldV (cut l j) i = .bad 20 (tokAt l j) ∨ foldV (cut l j) i = foldV l i := by
   rw [foldV_eq (cut_ok hl hj).last (by rw [cut_len hj]; omega), foldV_eq hl.last (by omega), cut_at hj h]
   split
   ·cases hm : isTk (tokAt l i) sMinus with
    | true =>
      rw [plainF_m (by rw [cut_at hj h]; exact hm), plainF_m hm]
      rcases at_or h with h2 | h2
      ·rw [cut_at hj h2]; exact .inr rfl
      ·left
       have h2 : i + 1 = j := h2
       rw [h2, if_pos (by rw [cut_kind hj]; decide)]
       unfold FRes.bad; rw [cut_pos hj (Nat.le_refl _)]
    | false => rw [plainF_n (by rw [cut_at hj h]; exact hm), plainF_n hm, cut_at hj h]; exact .inr rfl
   ·exact FM_cut hl.last hj _ (i + 1) _ _ _ _ (Nat.le_refl _) h
  unfold valueP
  rcases hk with hk | hk
  ·left; rw [hk, if_neg (show ¬ ((FRes.bad 20 (tokAt l j)).code = 0) from (show ¬ ((20 : Int) = 0) by decide))]; rfl
  ·right; left; rw [hk]
 ·left; exact hard_value l i hl hj
theorem pre_loc : Pre locP := by
 intro l hl hi j i hj hij
 unfold locP
 rcases at_or hij with h | rfl
 ·rw [cut_at hj h]; exact .inr (.inl rfl)
 ·left; dsimp only; rw [cut_kind hj, if_neg (by decide), if_neg (by decide), cut_pos hj (Nat.le_refl _)]
theorem late_loc : Late locP := by
 intro l hl i c q hlt h
 unfold locP at h
 dsimp only at h
 split at h
 ·cases h
 ·split at h
  ·cases h
  ·cases h; exact ⟨by decide, i, Nat.le_refl _, hlt, rfl⟩
theorem late_opnd : Late opndP := by
 intro l hl i c q hlt h
 unfold opndP at h
 split at h
 ·cases h
 ·split at h
  ·exact late_bind step_loc.stay late_loc (fun _ => late_bind (step_sign _).stay (late_sign _) fun _ => late_bind (step_kind (by decide)).stay (late_kind _) fun _ => late_ret _) l hl i c q hlt h
  ·split at h
   ·cases h
   ·exact late_bind step_value.stay late_value (fun _ => late_ret _) l hl i c q hlt h
theorem hard_opnd : Hard opndP := by
 intro l j hl hj
 unfold opndP
 rw [cut_kind hj, if_neg (by decide), if_neg (by decide), if_neg (by rw [cut_is hj]; decide)]
 exact hard_bind hard_value l j hl hj
theorem pre_opnd : Pre opndP := by
 intro l hl hi j i hj hij
 rcases at_or hij with h | rfl
 ·unfold opndP
  rw [cut_at hj h]
  split
  ·exact .inr (.inl rfl)
  ·split
   ·exact pre_bind step_loc.stay pre_loc (fun _ => stay_bind (step_sign _).stay fun _ => stay_bind (step_kind (by decide)).stay fun _ => stay_ret _) (fun _ => late_bind (step_sign _).stay (late_sign _) fun _ => late_bind (step_kind (by decide)).stay (late_kind _) fun _ => late_ret _)
     (fun _ => pre_bind (step_sign _).stay (pre_sign _) (fun _ => stay_bind (step_kind (by decide)).stay fun _ => stay_ret _) (fun _ => late_bind (step_kind (by decide)).stay (late_kind _) fun _ => late_ret _) fun _ => pre_bind (step_kind (by decide)).stay (pre_kind (by decide)) (fun _ => stay_ret _) (fun _ => late_ret _) fun _ => pre_ret _) l hl hi j i hj hij
   ·split
    ·exact .inr (.inl rfl)
    ·exact pre_bind step_value.stay pre_value (fun _ => stay_ret _) (fun _ => late_ret _) (fun _ => pre_ret _) l hl hi j i hj hij
 ·left; exact hard_opnd l i hl hj
theorem runS_take : ∀ (l : List Int) (n : Nat), runS (l.take n) = min n (runS l)
 | [], n => by simp [runS]
 | x :: r, 0 => by simp [runS]
 | x :: r, n + 1 => by
   rw [List.take_succ_cons, runS, runS]
   split
   ·rw [runS_take r n]; omega
   ·omega
theorem lineN_take : ∀ (l : List Int) (n : Nat), lineN (l.take n) = min n (lineN l)
 | [], n => by simp [lineN]
 | x :: r, 0 => by simp [lineN]
 | x :: r, n + 1 => by
   rw [List.take_succ_cons, lineN, lineN]
   split
   ·omega
   ·rw [lineN_take r n]; omega
theorem hex_take {r : List Int} {v : Int} {n : Nat} (h : hexEsc r = some (v, n)) {k : Nat} (hk : n ≤ k + 1) : hexEsc (r.take k) = some (v, n) := by
 match r, h with
 | a :: b :: r, h =>
   have hn : n = 3 := by
    simp only [hexEsc] at h
    split at h
    ·simp only [Option.some.injEq, Prod.mk.injEq] at h
     exact h.2.symm
    ·cases h
   obtain ⟨k, rfl⟩ : ∃ j, k = j + 1 + 1 := ⟨k - 2, by omega⟩
   rw [List.take_succ_cons, List.take_succ_cons]
   exact h
theorem esc_take {r : List Int} {v : Int} {n : Nat} (h : escL r = some (v, n)) {k : Nat} (hk : n ≤ k) : escL (r.take k) = some (v, n) := by
 cases r with
 | nil => cases h
 | cons c r =>
   have := esc_pos h
   obtain ⟨k, rfl⟩ : ∃ j, k = j + 1 := ⟨k - 1, by omega⟩
   rw [List.take_succ_cons]
   simp only [escL] at h ⊢
   cases hm : meantL c with
   | some w => rw [hm] at h; exact h
   | none =>
     rw [hm] at h
     dsimp only at h ⊢
     split at h
     ·rename_i h1; rw [if_pos h1]; exact hex_take h hk
     ·cases h
theorem scan_take (M : Nat) : ∀ (f g : Nat) (r : List Int) (i : Int) (out t : List Int) (e : Int) (k : Nat), scanL M f r i out = (t, e, 0) → e ≤ i + k → (r.take k).length < g → scanL M g (r.take k) i out = (t, e, 0)
 | 0, g, r, i, out, t, e, k, h, _, _ => by cases h
 | f + 1, 0, r, i, out, t, e, k, h, _, hg => by omega
 | f + 1, g + 1, r, i, out, t, e, k, h, hk, hg => by
   have hse := (scan_end M _ _ _ _ _ _ h).2
   cases r with
   | nil => cases h
   | cons c r =>
     obtain ⟨k, rfl⟩ : ∃ j, k = j + 1 := ⟨k - 1, by omega⟩
     rw [List.take_succ_cons] at hg ⊢
     simp only [List.length_cons] at hg
     unfold scanL at h ⊢
     dsimp only at h ⊢
     split at h
     ·cases h
     ·rename_i h1
      rw [if_neg h1]
      split at h
      ·rename_i h2; rw [if_pos h2]; exact h
      ·rename_i h2
       rw [if_neg h2]
       split at h
       ·cases h
       ·rename_i h3
        rw [if_neg h3]
        split at h
        ·rename_i h4
         rw [if_pos h4]
         exact scan_take M f g r _ _ t e k h (by omega) (by omega)
        ·rename_i h4
         rw [if_neg h4]
         cases hesc : escL r with
         | none => rw [hesc] at h; cases h
         | some vn =>
           obtain ⟨v, n⟩ := vn
           rw [hesc] at h
           dsimp only at h
           have hse := (scan_end M _ _ _ _ _ _ h).2
           have hn : n ≤ k := by omega
           rw [esc_take hesc hn]
           dsimp only
           have hd : (r.take k).drop n = (r.drop n).take (k - n) := List.drop_take ..
           rw [hd]
           refine scan_take M f g (r.drop n) _ _ t e (k - n) h (by omega) ?_
           rw [← hd, List.length_drop]; omega
theorem numS_take {kind cls : Int} {a : Nat} {r : List Int} (h : (numS kind a cls r).code = 0) {m : Nat} (hm : (numS kind a cls r).len ≤ m) : numS kind a cls (r.take m) = numS kind a cls r := by
 have e : ∀ {k c : Int} {b : Nat} {q : List Int}, numS k b c q = if run (q.drop b) = 0 ∨ (q.getD b 0 = 48 ∧ 1 < run (q.drop b)) then .bad 12 0
  else if val ((q.drop b).take (run (q.drop b))) > 2 ^ 63 ∨ (0 < b ∧ val ((q.drop b).take (run (q.drop b))) > 2 ^ 31 - 1) then .bad 2 0
  else ⟨k, q.take (b + run (q.drop b)), w64 (val ((q.drop b).take (run (q.drop b)))), c, b + run (q.drop b), 0, 0⟩ := rfl
 rw [e] at h hm
 rw [e (q := r.take m), e (q := r)]
 split at h
 ·cases h
 ·rename_i h1
  rw [if_neg h1] at hm
  split at h
  ·cases h
  ·rename_i h2
   rw [if_neg h2] at hm
   have hm : a + run (r.drop a) ≤ m := hm
   have h3 : (r.take m).drop a = (r.drop a).take (m - a) := List.drop_take ..
   have hr : run ((r.take m).drop a) = run (r.drop a) := by rw [h3, run_take]; omega
   have hg : (r.take m).getD a 0 = r.getD a 0 := by
    have : 1 ≤ run (r.drop a) := by
     rcases Nat.eq_zero_or_pos (run (r.drop a)) with h0 | h0
     ·exact absurd (.inl h0) h1
     ·exact h0
    rw [List.getD_eq_getElem?_getD, List.getD_eq_getElem?_getD, List.getElem?_take, if_pos (by omega)]
   have ht : ((r.take m).drop a).take (run (r.drop a)) = (r.drop a).take (run (r.drop a)) := by
    rw [h3, List.take_take]; congr 1; omega
   have ht2 : (r.take m).take (a + run (r.drop a)) = r.take (a + run (r.drop a)) := by
    rw [List.take_take]; congr 1; omega
   rw [hr, hg, ht, ht2]
theorem tokS_take {l : List Int} (h : (tokS l).code = 0) {m : Nat} (hm : (tokS l).len ≤ m) : tokS (l.take m) = tokS l := by
 cases l with
 | nil => cases h
 | cons c r =>
   have hl := (tokS_len h).1
   obtain ⟨m, rfl⟩ : ∃ j, m = j + 1 := ⟨m - 1, by omega⟩
   have ht : (c :: r).take (m + 1) = c :: r.take m := List.take_succ_cons ..
   rcases tokS_cases c with rfl | hL | rfl | rfl | rfl | hD | hS | ⟨h1, h2, h3, h4, h5, h6, h7⟩
   ·rw [ht]
    rw [tokS_34] at h hm
    rw [tokS_34, tokS_34]
    cases hs : scanL 64 (r.length + 1) r 1 [] with
    | mk t ec =>
      obtain ⟨e, code⟩ := ec
      rw [hs] at h hm
      dsimp only at h hm
      by_cases hc : code = 0
      ·subst hc
       rw [if_pos rfl] at hm
       have hm : e.toNat ≤ m + 1 := hm
       have := (scan_end 64 _ _ _ _ _ _ hs).2
       rw [scan_take 64 _ ((r.take m).length + 1) r 1 [] t e m hs (by omega) (by omega)]
      ·rw [if_neg hc] at h; exact absurd h hc
   ·rw [ht]
    rw [tokS_L _ hL] at h hm
    rw [tokS_L _ hL, tokS_L _ hL]
    split at h
    ·cases h
    ·rename_i h1
     rw [if_neg h1] at hm
     have hm : runS (c :: r) ≤ m + 1 := hm
     have hr : runS (c :: r.take m) = runS (c :: r) := by
      have := runS_take (c :: r) (m + 1)
      rw [ht] at this
      rw [this]; omega
     rw [hr, ← ht, List.take_take, Nat.min_eq_left hm]
   ·rw [tokS_37] at h hm
    rw [ht, tokS_37, ← ht, tokS_37]
    exact numS_take h hm
   ·rw [tokS_35] at h hm
    rw [ht, tokS_35, ← ht, tokS_35]
    exact numS_take h hm
   ·rw [tokS_36] at h hm
    rw [ht, tokS_36, tokS_36]
    split at h
    ·rename_i h1
     rw [if_pos h1] at hm
     have hlen : (numS 5 2 0 (36 :: r)).len ≥ 2 := by
      have := (numS_len h).1
      revert h
      unfold numS
      dsimp only
      split
      ·intro h; cases h
      ·split
       ·intro h; cases h
       ·intro _; show 2 ≤ 2 + _; omega
     have hh : (r.take m).head? = some 103 := by
      cases r with
      | nil => cases h1
      | cons x r =>
        obtain ⟨m, rfl⟩ : ∃ j, m = j + 1 := ⟨m - 1, by omega⟩
        exact h1
     rw [if_pos hh, if_pos h1, ← ht]
     exact numS_take h hm
    ·rename_i h1
     rw [if_neg h1] at hm
     split at h
     ·rename_i h2
      rw [if_pos h2] at hm
      have hlen : (numS 5 2 1 (36 :: r)).len ≥ 2 := by
       revert h
       unfold numS
       dsimp only
       split
       ·intro h; cases h
       ·split
        ·intro h; cases h
        ·intro _; show 2 ≤ 2 + _; omega
      have hh : (r.take m).head? = some 120 := by
       cases r with
       | nil => cases h2
       | cons x r =>
         obtain ⟨m, rfl⟩ : ∃ j, m = j + 1 := ⟨m - 1, by omega⟩
         exact h2
      rw [if_neg (by rw [hh]; decide), if_pos hh, if_neg h1, if_pos h2, ← ht]
      exact numS_take h hm
     ·cases h
   ·rw [tokS_D _ hD] at h hm
    rw [ht, tokS_D _ hD, ← ht, tokS_D _ hD]
    exact numS_take h hm
   ·rw [tokS_S _ hS] at h hm
    rw [ht, tokS_S _ hS, tokS_S _ hS]
    by_cases h1 : c = 46 ∧ r.head? = some 46
    ·rw [if_pos h1] at hm
     have hm : 2 ≤ m + 1 := hm
     have hh : (r.take m).head? = some 46 := by
      cases r with
      | nil => cases h1.2
      | cons x r =>
        obtain ⟨m, rfl⟩ : ∃ j, m = j + 1 := ⟨m - 1, by omega⟩
        exact h1.2
     rw [if_pos ⟨h1.1, hh⟩, if_pos h1]
    ·rw [if_neg h1, if_neg]
     rintro ⟨h2, h3⟩
     apply h1
     refine ⟨h2, ?_⟩
     cases r with
     | nil => simp at h3
     | cons x r =>
       cases m with
       | zero => simp at h3
       | succ m => exact h3
   ·rw [tokS_no _ h1 h2 h3 h4 h5 h6 h7] at h; cases h
inductive LexR : List Int → Int → List LTok → Prop
 | nil (a : Int) : LexR [] a [(0, ByteArray.empty, 0, 0, a)]
 | blank {c : Int} {r : List Int} {a : Int} {T : List LTok} (h : isW c = true) (k : LexR r (a + 1) T) : LexR (c :: r) a T
 | remark {r : List Int} {a : Int} {T : List LTok} (h : r.head? = some 47) (k : LexR ((47 :: r).drop (lineN (47 :: r))) (a + lineN (47 :: r)) T) : LexR (47 :: r) a T
 | tok {c : Int} {r : List Int} {a : Int} {T : List LTok} (h : stopAt (c :: r)) (hc : (tokS (c :: r)).code = 0) (k : LexR ((c :: r).drop (tokS (c :: r)).len) (a + (tokS (c :: r)).len) T) :
   LexR (c :: r) a (((tokS (c :: r)).kind, bytesOf (tokS (c :: r)).text, (tokS (c :: r)).num, (tokS (c :: r)).cls, a) :: T)
theorem LexR.to {l : List Int} {a : Int} {T : List LTok} (h : LexR l a T) : ∀ out, lexW l a out = (out ++ T, 0, 0) := by
 induction h with
 | nil a => intro out; exact lexW_nil a out
 | blank h k ih => intro out; rw [lexW_blank _ _ h]; exact ih out
 | remark h k ih => intro out; rw [lexW_remark _ _ h]; exact ih out
 | tok h hc k ih =>
   intro out
   rw [lexW_tok _ _ h, if_neg (by rw [hc]; decide), ih]
   simp
theorem lexR_of : ∀ (n : Nat) (l : List Int), l.length ≤ n → ∀ (a : Int) (out : List LTok), (lexW l a out).2.1 = 0 → ∃ T, LexR l a T := by
 intro n
 induction n with
 | zero =>
   intro l hl a out h
   have : l = [] := List.length_eq_zero_iff.1 (by omega)
   subst this
   exact ⟨_, .nil a⟩
 | succ n ih =>
   intro l hl a out h
   cases l with
   | nil => exact ⟨_, .nil a⟩
   | cons c r =>
     simp only [List.length_cons] at hl
     by_cases hw : isW c = true
     ·rw [lexW_blank _ _ hw] at h
      obtain ⟨T, k⟩ := ih r (by omega) _ _ h
      exact ⟨T, .blank hw k⟩
     ·by_cases hr : c = 47 ∧ r.head? = some 47
      ·obtain ⟨rfl, hr⟩ := hr
       rw [lexW_remark _ _ hr] at h
       have h1 : 1 ≤ lineN (47 :: r) := by unfold lineN; rw [if_neg (by decide)]; omega
       obtain ⟨T, k⟩ := ih _ (by rw [List.length_drop, List.length_cons]; omega) _ _ h
       exact ⟨T, .remark hr k⟩
      ·have hs : stopAt (c :: r) := ⟨by simpa using hw, hr⟩
       rw [lexW_tok _ _ hs] at h
       by_cases hc : (tokS (c :: r)).code = 0
       ·rw [if_neg (fun h => h hc)] at h
        have h1 := (tokS_len hc).1
        obtain ⟨T, k⟩ := ih _ (by rw [List.length_drop, List.length_cons]; omega) _ _ h
        exact ⟨_, .tok hs hc k⟩
       ·rw [if_pos hc] at h; exact absurd h hc
theorem cut_cons (t : LTok) (T : List LTok) (j : Nat) : cut (t :: T) (j + 1) = t :: cut T j := by
 unfold cut; rfl
theorem LexR.cut {l : List Int} {a : Int} {T : List LTok} (h : LexR l a T) : ∀ j, j < T.length → ∃ d : Nat, d ≤ l.length ∧ (tokAt T j).pos = a + d ∧ LexR (l.take d) a (Aw.cut T j) := by
 induction h with
 | nil a =>
   intro j hj
   have : j = 0 := by simp at hj; exact hj
   subst this
   exact ⟨0, Nat.le_refl _, by show a = a + ((0 : Nat) : Int); omega, .nil a⟩
 | blank h k ih =>
   intro j hj
   obtain ⟨d, h1, h2, h3⟩ := ih j hj
   exact ⟨d + 1, by simp; omega, by omega, by rw [List.take_succ_cons]; exact .blank h h3⟩
 | @remark r a T h k ih =>
   intro j hj
   obtain ⟨d, h1, h2, h3⟩ := ih j hj
   rw [List.length_drop] at h1
   have hn2 : 2 ≤ lineN (47 :: r) := by
    cases r with
    | nil => cases h
    | cons x r =>
      have : x = 47 := Option.some.inj h
      subst this
      unfold lineN
      rw [if_neg (by decide)]
      unfold lineN
      rw [if_neg (by decide)]
      omega
   have hle := lineN_le (47 :: r)
   refine ⟨lineN (47 :: r) + d, by omega, by omega, ?_⟩
   obtain ⟨m, hm⟩ : ∃ m, lineN (47 :: r) + d = m + 1 := ⟨lineN (47 :: r) + d - 1, by omega⟩
   have hL : lineN ((47 :: r).take (lineN (47 :: r) + d)) = lineN (47 :: r) := by rw [lineN_take]; omega
   have hD : ((47 :: r).take (lineN (47 :: r) + d)).drop (lineN (47 :: r)) = ((47 :: r).drop (lineN (47 :: r))).take d := by
    rw [List.drop_take]; congr 1; omega
   have hT : (47 :: r).take (lineN (47 :: r) + d) = 47 :: r.take m := by rw [hm, List.take_succ_cons]
   rw [← hD] at h3
   have h3' : LexR ((47 :: r.take m).drop (lineN (47 :: r.take m))) (a + lineN (47 :: r.take m)) (Aw.cut T j) := by
    rw [← hT, hL]; exact h3
   rw [hT]
   refine .remark ?_ h3'
   cases r with
   | nil => cases h
   | cons x r =>
     obtain ⟨m, rfl⟩ : ∃ j, m = j + 1 := ⟨m - 1, by omega⟩
     exact h
 | @tok c r a T h hc k ih =>
   intro j hj
   cases j with
   | zero => exact ⟨0, Nat.zero_le _, by show a = a + ((0 : Nat) : Int); omega, .nil a⟩
   | succ j =>
     obtain ⟨d, h1, h2, h3⟩ := ih j (by simpa using hj)
     have hl := tokS_len hc
     rw [List.length_drop] at h1
     refine ⟨(tokS (c :: r)).len + d, by omega, ?_, ?_⟩
     ·show (tokAt T j).pos = _
      rw [h2]; omega
     ·rw [cut_cons]
      have hS : tokS ((c :: r).take ((tokS (c :: r)).len + d)) = tokS (c :: r) := tokS_take hc (by omega)
      have hD : ((c :: r).take ((tokS (c :: r)).len + d)).drop (tokS (c :: r)).len = ((c :: r).drop (tokS (c :: r)).len).take d := by
       rw [List.drop_take]; congr 1; omega
      obtain ⟨m, hm⟩ : ∃ m, (tokS (c :: r)).len + d = m + 1 := ⟨(tokS (c :: r)).len + d - 1, by omega⟩
      have hT : (c :: r).take ((tokS (c :: r)).len + d) = c :: r.take m := by rw [hm, List.take_succ_cons]
      rw [← hD] at h3
      rw [hT] at hS h3 ⊢
      have hst : stopAt (c :: r.take m) := by
       refine ⟨h.1, fun hx => h.2 ⟨hx.1, ?_⟩⟩
       cases r with
       | nil => simp at hx
       | cons x r =>
         cases m with
         | zero => simp at hx
         | succ m => exact hx.2
      have := LexR.tok (a := a) (T := Aw.cut T j) hst (by rw [hS]; exact hc) (by rw [hS]; exact h3)
      rw [hS] at this
      exact this
theorem LexR.pos {l : List Int} {a : Int} {T : List LTok} (h : LexR l a T) {j : Nat} (hj : j < T.length) : a ≤ (tokAt T j).pos ∧ (tokAt T j).pos ≤ a + l.length := by
 obtain ⟨d, h1, h2, _⟩ := h.cut j hj
 omega
theorem LexR.inc {l : List Int} {a : Int} {T : List LTok} (h : LexR l a T) : Inc T := by
 induction h with
 | nil a =>
   intro i j h1 h2
   simp at h2
   omega
 | blank h k ih => exact ih
 | remark h k ih => exact ih
 | @tok c r a T h hc k ih =>
   intro i j h1 h2
   cases j with
   | zero => omega
   | succ j =>
     have h2 : j < T.length := by simpa using h2
     cases i with
     | zero =>
       show a < (tokAt T j).pos
       have := (k.pos h2).1
       have := (tokS_len hc).1
       omega
     | succ i => exact ih i j (by omega) h2
theorem lexR_all {l : List Int} (h : (lexAll l).2.1 = 0) : LexR l 0 (lexAll l).1 ∧ l.length ≤ 65536 := by
 rw [lexAll_eq] at h ⊢
 split at h
 ·cases h
 ·rename_i hl
  rw [if_neg hl]
  obtain ⟨T, k⟩ := lexR_of _ l (Nat.le_refl _) 0 [] h
  rw [k.to []]
  exact ⟨k, by omega⟩
theorem lexAll_cut {l : List Int} (h : (lexAll l).2.1 = 0) {j : Nat} (hj : j < (lexAll l).1.length) : ∃ d : Nat, d ≤ l.length ∧ (tokAt (lexAll l).1 j).pos = d ∧ lexAll (l.take d) = (cut (lexAll l).1 j, 0, 0) := by
 obtain ⟨k, hl⟩ := lexR_all h
 obtain ⟨d, h1, h2, h3⟩ := k.cut j hj
 refine ⟨d, h1, by omega, ?_⟩
 rw [lexAll_eq, if_neg (by rw [List.length_take]; omega), h3.to []]
 rfl
end Go.Aw
