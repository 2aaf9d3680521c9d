/- Functions of the program as plain functions, each with the proof that the code comes to them. -/
import Derived.Test.YtidclggijmbffaaNoP0
import Derived.Test.YtidclggijmbffaaNoP2
import Derived.Test.YtidclggijmbffaaT2
import Derived.Test.YtidclggijmbffaaNoP1
set_option linter.unusedVariables false
set_option linter.unusedSimpArgs false
namespace Go.Proofs.Yh
open Go Go.Aw Go.Proofs
set_option maxRecDepth 100000
set_option maxHeartbeats 4000000
namespace N35
noncomputable def cfg : Cfg := { P := Try.prog, ty := tys, E := tab [(33, N33.ent), (32, N32.ent)], atSeq := tab [(4, ⟨[(1, .keep), (3, .keep)]⟩), (6, ⟨[(3, .keep)]⟩)], atLoop := tab [], outs := [], eqT := tab [], bT := tab [], fzB := [1] }
noncomputable def body : Code := bodyOf Try.f35
def j4 (j6 : BA → Prop) (x1_0 : BA) (x1_1 : Bool) (x1_2 : Zq6) (x1_3 : (List Zq2)) (x3 : BA) (k : BA → Prop) : Prop :=
  (br (decide (((((x1_2).length : Nat) : Int)) > (0 : Int))) (((x3).size + ((ByteArray.mk #[32, 91])).size ≤ 9223372036854775807) ∧ (N33.f x1_2 (fun (z0_0 : LB) => (N32.f z0_0 (fun (y0_1 : BA) => ((((x3 ++ (ByteArray.mk #[32, 91]))).size + (y0_1).size ≤ 9223372036854775807) ∧ (((((x3 ++ (ByteArray.mk #[32, 91])) ++ y0_1)).size + ((ByteArray.mk #[93])).size ≤ 9223372036854775807) ∧ (j6 (((x3 ++ (ByteArray.mk #[32, 91])) ++ y0_1) ++ (ByteArray.mk #[93])))))))))) (j6 x3))
def j6 (x3 : BA) (k : BA → Prop) : Prop :=
  (((x3).size + ((ByteArray.mk #[58])).size ≤ 9223372036854775807) ∧ (k (x3 ++ (ByteArray.mk #[58]))))
def c (j4 : BA → Bool → Zq6 → (List Zq2) → BA → Prop) (x0_0 : BA) (x0_1 : Bool) (x0_2 : Zq6) (x0_3 : (List Zq2)) (k : BA → Prop) : Prop :=
  (br x0_1 ((((ByteArray.mk #[101, 100, 103, 101, 32])).size + (x0_0).size ≤ 9223372036854775807) ∧ (j4 x0_0 x0_1 x0_2 x0_3 ((ByteArray.mk #[101, 100, 103, 101, 32]) ++ x0_0))) (j4 x0_0 x0_1 x0_2 x0_3 x0_0))
def j6' (x3 : BA) (k : BA → Prop) : Prop := j6 x3 k
def j4' (x1_0 : BA) (x1_1 : Bool) (x1_2 : Zq6) (x1_3 : (List Zq2)) (x3 : BA) (k : BA → Prop) : Prop := j4 (fun x3 => j6' x3 k) x1_0 x1_1 x1_2 x1_3 x3 k
def f0 (x0_0 : BA) (x0_1 : Bool) (x0_2 : Zq6) (x0_3 : (List Zq2)) (k : BA → Prop) : Prop := c (fun x1_0 x1_1 x1_2 x1_3 x3 => j4' x1_0 x1_1 x1_2 x1_3 x3 k) x0_0 x0_1 x0_2 x0_3 k
theorem f_ex : ∃ g, g = f0 := ⟨_, rfl⟩
noncomputable def f := Classical.choose f_ex
theorem f_def : f = f0 := Classical.choose_spec f_ex
def m4 (x1_0 : BA) (x1_1 : Bool) (x1_2 : Zq6) (x1_3 : (List Zq2)) (x3 : BA) : St := { tmps := mkT 24 0 [(1, (.fp [(.v (.string x1_0)), (.v (.bool x1_1)), (.fz Zy0 x1_2), (.fz Zy3 x1_3)])), (3, (.v (.string x3)))], hp := [], m := 0 }
def m6 (x3 : BA) : St := { tmps := mkT 24 0 [(3, (.v (.string x3)))], hp := [], m := 0 }
noncomputable def X4 (k kp : KT) : St → Prop := atP cfg (pick none' []) [1, 1, 1] body (topK cfg Try.f35 k kp)
noncomputable def X6 (k kp : KT) : St → Prop := atP cfg (pick none' []) [1, 1, 1, 1] body (topK cfg Try.f35 k kp)
noncomputable def JJ (k kp : KT) : Nat → St → Prop := pick none' [(4, X4 k kp), (6, X6 k kp)]
noncomputable def LL (k kp : KT) : Nat → St → Prop := pick none' []
theorem j6_c (k kp : KT) (J L : Nat → St → Prop) (x3 : BA) : runC cfg 6 J L (pick none' []) [1, 1, 1, 1] body (topK cfg Try.f35 k kp) (m6 x3) = j6 x3 (fun y0 => k (.v (.string y0)) []) := by kernel_rfl
theorem j6_ag (k kp : KT) : agPL cfg 6 (JJ k kp) (LL k kp) [1, 1, 1, 1] body = agPR cfg 6 (pick none' []) [1, 1, 1, 1] body (topK cfg Try.f35 k kp) := by kernel_rfl
theorem j6_raw (k kp : KT) (x3 : BA) : X6 k kp (m6 x3) = j6 x3 (fun y0 => k (.v (.string y0)) []) :=
  Eq.mp (by kernel_rfl) ((atP_run (j6_ag k kp) (m6 x3)).trans (j6_c k kp (JJ k kp) (LL k kp) x3))
theorem j6_eq (k kp : KT) (x3 : BA) : X6 k kp (m6 x3) = j6' x3 (fun y0 => k (.v (.string y0)) []) := by
  rw [j6_raw]; rfl
theorem j4_c (k kp : KT) (J L : Nat → St → Prop) (x1_0 : BA) (x1_1 : Bool) (x1_2 : Zq6) (x1_3 : (List Zq2)) (x3 : BA) : runC cfg 4 J L (pick none' []) [1, 1, 1] body (topK cfg Try.f35 k kp) (m4 x1_0 x1_1 x1_2 x1_3 x3) = j4 (fun x3 => J 6 (m6 x3)) x1_0 x1_1 x1_2 x1_3 x3 (fun y0 => k (.v (.string y0)) []) := by kernel_rfl
theorem j4_ag (k kp : KT) : agPL cfg 4 (JJ k kp) (LL k kp) [1, 1, 1] body = agPR cfg 4 (pick none' []) [1, 1, 1] body (topK cfg Try.f35 k kp) := by kernel_rfl
theorem j4_raw (k kp : KT) (x1_0 : BA) (x1_1 : Bool) (x1_2 : Zq6) (x1_3 : (List Zq2)) (x3 : BA) : X4 k kp (m4 x1_0 x1_1 x1_2 x1_3 x3) = j4 (fun x3 => X6 k kp (m6 x3)) x1_0 x1_1 x1_2 x1_3 x3 (fun y0 => k (.v (.string y0)) []) :=
  Eq.mp (by kernel_rfl) ((atP_run (j4_ag k kp) (m4 x1_0 x1_1 x1_2 x1_3 x3)).trans (j4_c k kp (JJ k kp) (LL k kp) x1_0 x1_1 x1_2 x1_3 x3))
theorem j4_eq (k kp : KT) (x1_0 : BA) (x1_1 : Bool) (x1_2 : Zq6) (x1_3 : (List Zq2)) (x3 : BA) : X4 k kp (m4 x1_0 x1_1 x1_2 x1_3 x3) = j4' x1_0 x1_1 x1_2 x1_3 x3 (fun y0 => k (.v (.string y0)) []) := by
  rw [j4_raw]; simp only [j6_eq]; first | done | rfl
theorem c_c (k kp : KT) (J L : Nat → St → Prop) (x0_0 : BA) (x0_1 : Bool) (x0_2 : Zq6) (x0_3 : (List Zq2)) : runC cfg 1000001 J L none'' [] body (topK cfg Try.f35 k kp) (st0 Try.f35 [(.agg [(.v (.string x0_0)), (.v (.bool x0_1)), (.fz Zy0 x0_2), (.fz Zy3 x0_3)])] []) = c (fun x1_0 x1_1 x1_2 x1_3 x3 => J 4 (m4 x1_0 x1_1 x1_2 x1_3 x3)) x0_0 x0_1 x0_2 x0_3 (fun y0 => k (.v (.string y0)) []) := by kernel_rfl
theorem c_ag (k kp : KT) : agPL cfg 1000001 (JJ k kp) (LL k kp) [] body = agPR cfg 1000001 none'' [] body (topK cfg Try.f35 k kp) := by kernel_rfl
theorem body_is : Try.f35.body = some body := by kernel_rfl
theorem c_raw (k kp : KT) (x0_0 : BA) (x0_1 : Bool) (x0_2 : Zq6) (x0_3 : (List Zq2)) : funW cfg Try.f35 [(.agg [(.v (.string x0_0)), (.v (.bool x0_1)), (.fz Zy0 x0_2), (.fz Zy3 x0_3)])] [] k kp = c (fun x1_0 x1_1 x1_2 x1_3 x3 => X4 k kp (m4 x1_0 x1_1 x1_2 x1_3 x3)) x0_0 x0_1 x0_2 x0_3 (fun y0 => k (.v (.string y0)) []) :=
  Eq.mp (by kernel_rfl) ((funW_run (AG := none'') body_is (c_ag k kp) [(.agg [(.v (.string x0_0)), (.v (.bool x0_1)), (.fz Zy0 x0_2), (.fz Zy3 x0_3)])] []).trans (c_c k kp (JJ k kp) (LL k kp) x0_0 x0_1 x0_2 x0_3))
theorem f_eq (k kp : KT) (x0_0 : BA) (x0_1 : Bool) (x0_2 : Zq6) (x0_3 : (List Zq2)) : funW cfg Try.f35 [(.agg [(.v (.string x0_0)), (.v (.bool x0_1)), (.fz Zy0 x0_2), (.fz Zy3 x0_3)])] [] k kp = f x0_0 x0_1 x0_2 x0_3 (fun y0 => k (.v (.string y0)) []) := by
  rw [f_def, c_raw]; simp only [j4_eq]; first | done | rfl
noncomputable def ent0 : Entry := fun args blks k _ => match args, blks with
  | [d0], [] => aAgg 4 d0 fun l => aCons l fun d0_0 l => aCons l fun d0_1 l => aCons l fun d0_2 l => aCons l fun d0_3 l => aNil l (aStr d0_0 fun x0_0 => aBool d0_1 fun x0_1 => aFz Zy0 d0_2 fun x0_2 => aFz Zy3 d0_3 fun x0_3 => f x0_0 x0_1 x0_2 x0_3 (fun y0 => k (.v (.string y0)) []))
  | _, _ => False
noncomputable def ent : Entry := fun args blks k kp => ent0 (convB [.cells [none, none, some Zy0, some Zy3]] args) blks k kp
theorem ok : EntOk Try.prog 0 0 35 ent := by
  refine EntOk.convB (EntOk.of (funW_ok (cfg := cfg) (tyOk_of rfl rfl tyL_ok) (eqOk_of (P := Try.prog) rfl rfl (by kernel_rfl)) mixed_ok (tab_ok ?_) Try.func35 (by rfl) (by rfl)) ?_) _
  · intro p hp
    simp only [List.mem_cons, List.not_mem_nil, or_false] at hp
    rcases hp with rfl | rfl
    · exact N33.ok
    · exact N32.ok
  · intro args blks k kp h k' kp'
    match args, blks, h with
    | [d0], [], h =>
    dsimp only [ent0] at h
    have h9 := aAgg_elim h; clear h; obtain ⟨_, rfl, h⟩ := h9
    have h9 := aCons_elim h; clear h; obtain ⟨d0_0, _, rfl, h⟩ := h9
    have h9 := aCons_elim h; clear h; obtain ⟨d0_1, _, rfl, h⟩ := h9
    have h9 := aCons_elim h; clear h; obtain ⟨d0_2, _, rfl, h⟩ := h9
    have h9 := aCons_elim h; clear h; obtain ⟨d0_3, _, rfl, h⟩ := h9
    have h9 := aNil_elim h; clear h; obtain ⟨rfl, h⟩ := h9
    have h9 := aStr_elim h; clear h; obtain ⟨x0_0, rfl, h⟩ := h9
    have h9 := aBool_elim h; clear h; obtain ⟨x0_1, rfl, h⟩ := h9
    have h9 := aFz_elim (t := Zy0) h; clear h; obtain ⟨x0_2, rfl, h⟩ := h9
    have h9 := aFz_elim (t := Zy3) h; clear h; obtain ⟨x0_3, rfl, h⟩ := h9
    exact (f_eq k' kp' x0_0 x0_1 x0_2 x0_3).symm
end N35
end Go.Proofs.Yh

namespace Go.Proofs.Yh
open Go Go.Aw Go.Proofs
set_option maxRecDepth 100000
set_option maxHeartbeats 4000000
namespace N11
noncomputable def cfg : Cfg := { P := Try.prog, ty := tys, E := tab [(33, N33.ent), (32, N32.ent), (34, N34.ent), (35, N35.ent), (13, N13.ent)], atSeq := tab [(4, ⟨[(1, .keep), (3, .keep)]⟩), (10, ⟨[(1, .keep), (3, .keep), (4, .keep)]⟩), (18, ⟨[(1, .keep), (3, .keep)]⟩), (15, ⟨[(1, .keep), (3, .keep), (4, .keep), (5, .keep)]⟩), (7, ⟨[(1, .keep), (3, .keep), (4, .keep)]⟩), (26, ⟨[(3, .keep)]⟩), (20, ⟨[(1, .keep), (3, .keep), (6, .keep)]⟩)], atLoop := tab [(6, ⟨[(1, .keep), (3, .keep), (4, .keep)]⟩), (19, ⟨[(1, .keep), (3, .keep), (6, .keep)]⟩), (23, ⟨[(1, .keep), (3, .keep), (6, .keep), (7, .keep)]⟩)], outs := [], eqT := tab [], bT := tab [], fzB := [1] }
noncomputable def body : Code := bodyOf Try.f11
def j4 (l6 : Bool → BA → Zq4 → Zq6 → Zq0 → BA → Int → Prop) (x1_0 : Bool) (x1_1 : BA) (x1_2 : Zq4) (x1_3 : Zq6) (x1_4 : Zq0) (x3 : BA) (k : BA → Prop) : Prop :=
  (((x3).size + (x1_1).size ≤ 9223372036854775807) ∧ ((((x3 ++ x1_1)).size + ((ByteArray.mk #[40])).size ≤ 9223372036854775807) ∧ (N33.f x1_3 (fun (z0_0 : LB) => (N32.f z0_0 (fun (y0_1 : BA) => (((((x3 ++ x1_1) ++ (ByteArray.mk #[40]))).size + (y0_1).size ≤ 9223372036854775807) ∧ ((((((x3 ++ x1_1) ++ (ByteArray.mk #[40])) ++ y0_1)).size + ((ByteArray.mk #[41, 32, 123, 10])).size ≤ 9223372036854775807) ∧ (l6 x1_0 x1_1 x1_2 x1_3 x1_4 ((((x3 ++ x1_1) ++ (ByteArray.mk #[40])) ++ y0_1) ++ (ByteArray.mk #[41, 32, 123, 10])) (0 : Int))))))))))
def l6 (j10 : Bool → BA → Zq4 → Zq6 → Zq0 → BA → Int → Prop) (j18 : Bool → BA → Zq4 → Zq6 → Zq0 → BA → Prop) (x1_0 : Bool) (x1_1 : BA) (x1_2 : Zq4) (x1_3 : Zq6) (x1_4 : Zq0) (x3 : BA) (x4 : Int) (k : BA → Prop) : Prop :=
  (br (decide (x4 < ((((x1_2).length : Nat) : Int)))) (br (x4 == (0 : Int)) (((x3).size + ((ByteArray.mk #[114, 101, 103, 115])).size ≤ 9223372036854775807) ∧ (j10 x1_0 x1_1 x1_2 x1_3 x1_4 (x3 ++ (ByteArray.mk #[114, 101, 103, 115])) x4)) (j10 x1_0 x1_1 x1_2 x1_3 x1_4 x3 x4)) (j18 x1_0 x1_1 x1_2 x1_3 x1_4 x3))
def j10 (j15 : Bool → BA → Zq4 → Zq6 → Zq0 → BA → Int → BA → Prop) (x1_0 : Bool) (x1_1 : BA) (x1_2 : Zq4) (x1_3 : Zq6) (x1_4 : Zq0) (x3 : BA) (x4 : Int) (k : BA → Prop) : Prop :=
  ((inB 0 x4 ((((x1_2).length : Nat) : Int) - 1)) ∧ (br ((x1_2.getD (Int.toNat x4) ((0, 0))).2 == (0 : Int)) (j15 x1_0 x1_1 x1_2 x1_3 x1_4 x3 x4 (ByteArray.mk #[103])) ((inB 0 x4 ((((x1_2).length : Nat) : Int) - 1)) ∧ (br ((x1_2.getD (Int.toNat x4) ((0, 0))).2 == (1 : Int)) (j15 x1_0 x1_1 x1_2 x1_3 x1_4 x3 x4 (ByteArray.mk #[120])) (j15 x1_0 x1_1 x1_2 x1_3 x1_4 x3 x4 (ByteArray.mk #[]))))))
def j18 (l19 : Bool → BA → Zq4 → Zq6 → Zq0 → BA → Int → Prop) (x1_0 : Bool) (x1_1 : BA) (x1_2 : Zq4) (x1_3 : Zq6) (x1_4 : Zq0) (x3 : BA) (k : BA → Prop) : Prop :=
  (l19 x1_0 x1_1 x1_2 x1_3 x1_4 x3 (0 : Int))
def j15 (j7 : Bool → BA → Zq4 → Zq6 → Zq0 → BA → Int → Prop) (x1_0 : Bool) (x1_1 : BA) (x1_2 : Zq4) (x1_3 : Zq6) (x1_4 : Zq0) (x3 : BA) (x4 : Int) (x5 : BA) (k : BA → Prop) : Prop :=
  (((x3).size + ((ByteArray.mk #[32, 37])).size ≤ 9223372036854775807) ∧ ((inB 0 x4 ((((x1_2).length : Nat) : Int) - 1)) ∧ (N34.f (x1_2.getD (Int.toNat x4) ((0, 0))).1 (fun (y0_2 : BA) => ((((x3 ++ (ByteArray.mk #[32, 37]))).size + (y0_2).size ≤ 9223372036854775807) ∧ (((((x3 ++ (ByteArray.mk #[32, 37])) ++ y0_2)).size + ((ByteArray.mk #[58])).size ≤ 9223372036854775807) ∧ ((((((x3 ++ (ByteArray.mk #[32, 37])) ++ y0_2) ++ (ByteArray.mk #[58]))).size + (x5).size ≤ 9223372036854775807) ∧ (br (x4 == (IntKind.i64.wrap (((((x1_2).length : Nat) : Int)) - (1 : Int)))) (((((((x3 ++ (ByteArray.mk #[32, 37])) ++ y0_2) ++ (ByteArray.mk #[58])) ++ x5)).size + ((ByteArray.mk #[59, 10])).size ≤ 9223372036854775807) ∧ (j7 x1_0 x1_1 x1_2 x1_3 x1_4 (((((x3 ++ (ByteArray.mk #[32, 37])) ++ y0_2) ++ (ByteArray.mk #[58])) ++ x5) ++ (ByteArray.mk #[59, 10])) x4)) (j7 x1_0 x1_1 x1_2 x1_3 x1_4 ((((x3 ++ (ByteArray.mk #[32, 37])) ++ y0_2) ++ (ByteArray.mk #[58])) ++ x5) x4)))))))))
def l19 (l23 : Bool → BA → Zq4 → Zq6 → Zq0 → BA → Int → Int → Prop) (j26 : BA → Prop) (x1_0 : Bool) (x1_1 : BA) (x1_2 : Zq4) (x1_3 : Zq6) (x1_4 : Zq0) (x3 : BA) (x6 : Int) (k : BA → Prop) : Prop :=
  (br (decide (x6 < ((((x1_4).length : Nat) : Int)))) ((inB 0 x6 ((((x1_4).length : Nat) : Int) - 1)) ∧ (N35.f (x1_4.getD (Int.toNat x6) ((ByteArray.empty, (false, (([] : List Zq1), ([] : List Zq2)))))).1 (x1_4.getD (Int.toNat x6) ((ByteArray.empty, (false, (([] : List Zq1), ([] : List Zq2)))))).2.1 (x1_4.getD (Int.toNat x6) ((ByteArray.empty, (false, (([] : List Zq1), ([] : List Zq2)))))).2.2.1 (x1_4.getD (Int.toNat x6) ((ByteArray.empty, (false, (([] : List Zq1), ([] : List Zq2)))))).2.2.2 (fun (y0_3 : BA) => (((x3).size + (y0_3).size ≤ 9223372036854775807) ∧ ((((x3 ++ y0_3)).size + ((ByteArray.mk #[10])).size ≤ 9223372036854775807) ∧ (l23 x1_0 x1_1 x1_2 x1_3 x1_4 ((x3 ++ y0_3) ++ (ByteArray.mk #[10])) x6 (0 : Int))))))) (j26 x3))
def j7 (ag6 : BA → Int → Prop) (x1_0 : Bool) (x1_1 : BA) (x1_2 : Zq4) (x1_3 : Zq6) (x1_4 : Zq0) (x3 : BA) (x4 : Int) (k : BA → Prop) : Prop :=
  (ag6 x3 (IntKind.i64.wrap (x4 + (1 : Int))))
def l23 (j20 : Bool → BA → Zq4 → Zq6 → Zq0 → BA → Int → Prop) (ag23 : BA → Int → Prop) (x1_0 : Bool) (x1_1 : BA) (x1_2 : Zq4) (x1_3 : Zq6) (x1_4 : Zq0) (x3 : BA) (x6 x7 : Int) (k : BA → Prop) : Prop :=
  ((inB 0 x6 ((((x1_4).length : Nat) : Int) - 1)) ∧ (br (decide (x7 < (((((x1_4.getD (Int.toNat x6) ((ByteArray.empty, (false, (([] : List Zq1), ([] : List Zq2)))))).2.2.2).length : Nat) : Int)))) (((x3).size + ((ByteArray.mk #[32, 32])).size ≤ 9223372036854775807) ∧ ((inB 0 x6 ((((x1_4).length : Nat) : Int) - 1)) ∧ ((inB 0 x7 (((((x1_4.getD (Int.toNat x6) ((ByteArray.empty, (false, (([] : List Zq1), ([] : List Zq2)))))).2.2.2).length : Nat) : Int) - 1)) ∧ (N13.f ((x1_4.getD (Int.toNat x6) ((ByteArray.empty, (false, (([] : List Zq1), ([] : List Zq2)))))).2.2.2.getD (Int.toNat x7) ((0, ((0, (0, (0, 0))), (([] : List Zq1), (ByteArray.empty, (0, (([] : List BA), ([] : List Int))))))))).1 ((x1_4.getD (Int.toNat x6) ((ByteArray.empty, (false, (([] : List Zq1), ([] : List Zq2)))))).2.2.2.getD (Int.toNat x7) ((0, ((0, (0, (0, 0))), (([] : List Zq1), (ByteArray.empty, (0, (([] : List BA), ([] : List Int))))))))).2.1.1 ((x1_4.getD (Int.toNat x6) ((ByteArray.empty, (false, (([] : List Zq1), ([] : List Zq2)))))).2.2.2.getD (Int.toNat x7) ((0, ((0, (0, (0, 0))), (([] : List Zq1), (ByteArray.empty, (0, (([] : List BA), ([] : List Int))))))))).2.1.2.1 ((x1_4.getD (Int.toNat x6) ((ByteArray.empty, (false, (([] : List Zq1), ([] : List Zq2)))))).2.2.2.getD (Int.toNat x7) ((0, ((0, (0, (0, 0))), (([] : List Zq1), (ByteArray.empty, (0, (([] : List BA), ([] : List Int))))))))).2.1.2.2.1 ((x1_4.getD (Int.toNat x6) ((ByteArray.empty, (false, (([] : List Zq1), ([] : List Zq2)))))).2.2.2.getD (Int.toNat x7) ((0, ((0, (0, (0, 0))), (([] : List Zq1), (ByteArray.empty, (0, (([] : List BA), ([] : List Int))))))))).2.1.2.2.2 ((x1_4.getD (Int.toNat x6) ((ByteArray.empty, (false, (([] : List Zq1), ([] : List Zq2)))))).2.2.2.getD (Int.toNat x7) ((0, ((0, (0, (0, 0))), (([] : List Zq1), (ByteArray.empty, (0, (([] : List BA), ([] : List Int))))))))).2.2.1 ((x1_4.getD (Int.toNat x6) ((ByteArray.empty, (false, (([] : List Zq1), ([] : List Zq2)))))).2.2.2.getD (Int.toNat x7) ((0, ((0, (0, (0, 0))), (([] : List Zq1), (ByteArray.empty, (0, (([] : List BA), ([] : List Int))))))))).2.2.2.1 ((x1_4.getD (Int.toNat x6) ((ByteArray.empty, (false, (([] : List Zq1), ([] : List Zq2)))))).2.2.2.getD (Int.toNat x7) ((0, ((0, (0, (0, 0))), (([] : List Zq1), (ByteArray.empty, (0, (([] : List BA), ([] : List Int))))))))).2.2.2.2.1 ((x1_4.getD (Int.toNat x6) ((ByteArray.empty, (false, (([] : List Zq1), ([] : List Zq2)))))).2.2.2.getD (Int.toNat x7) ((0, ((0, (0, (0, 0))), (([] : List Zq1), (ByteArray.empty, (0, (([] : List BA), ([] : List Int))))))))).2.2.2.2.2.1 ((x1_4.getD (Int.toNat x6) ((ByteArray.empty, (false, (([] : List Zq1), ([] : List Zq2)))))).2.2.2.getD (Int.toNat x7) ((0, ((0, (0, (0, 0))), (([] : List Zq1), (ByteArray.empty, (0, (([] : List BA), ([] : List Int))))))))).2.2.2.2.2.2 (fun (y0_4 : BA) => ((((x3 ++ (ByteArray.mk #[32, 32]))).size + (y0_4).size ≤ 9223372036854775807) ∧ (((((x3 ++ (ByteArray.mk #[32, 32])) ++ y0_4)).size + ((ByteArray.mk #[59, 10])).size ≤ 9223372036854775807) ∧ (ag23 (((x3 ++ (ByteArray.mk #[32, 32])) ++ y0_4) ++ (ByteArray.mk #[59, 10])) (IntKind.i64.wrap (x7 + (1 : Int))))))))))) (j20 x1_0 x1_1 x1_2 x1_3 x1_4 x3 x6)))
def j26 (x3 : BA) (k : BA → Prop) : Prop :=
  (((x3).size + ((ByteArray.mk #[125, 10])).size ≤ 9223372036854775807) ∧ (k (x3 ++ (ByteArray.mk #[125, 10]))))
def j20 (ag19 : BA → Int → Prop) (x1_0 : Bool) (x1_1 : BA) (x1_2 : Zq4) (x1_3 : Zq6) (x1_4 : Zq0) (x3 : BA) (x6 : Int) (k : BA → Prop) : Prop :=
  (ag19 x3 (IntKind.i64.wrap (x6 + (1 : Int))))
def c (j4 : Bool → BA → Zq4 → Zq6 → Zq0 → BA → Prop) (x0_0 : Bool) (x0_1 : BA) (x0_2 : Zq4) (x0_3 : Zq6) (x0_4 : Zq0) (k : BA → Prop) : Prop :=
  (br x0_0 (j4 x0_0 x0_1 x0_2 x0_3 x0_4 (ByteArray.mk #[109, 97, 99, 104, 105, 110, 101, 32])) (j4 x0_0 x0_1 x0_2 x0_3 x0_4 (ByteArray.mk #[102, 117, 110, 99, 32])))
def j7' (ag6 : BA → Int → Prop) (x1_0 : Bool) (x1_1 : BA) (x1_2 : Zq4) (x1_3 : Zq6) (x1_4 : Zq0) (x3 : BA) (x4 : Int) (k : BA → Prop) : Prop := j7 ag6 x1_0 x1_1 x1_2 x1_3 x1_4 x3 x4 k
def j26' (x3 : BA) (k : BA → Prop) : Prop := j26 x3 k
def j20' (ag19 : BA → Int → Prop) (x1_0 : Bool) (x1_1 : BA) (x1_2 : Zq4) (x1_3 : Zq6) (x1_4 : Zq0) (x3 : BA) (x6 : Int) (k : BA → Prop) : Prop := j20 ag19 x1_0 x1_1 x1_2 x1_3 x1_4 x3 x6 k
def j15' (ag6 : BA → Int → Prop) (x1_0 : Bool) (x1_1 : BA) (x1_2 : Zq4) (x1_3 : Zq6) (x1_4 : Zq0) (x3 : BA) (x4 : Int) (x5 : BA) (k : BA → Prop) : Prop := j15 (fun x1_0 x1_1 x1_2 x1_3 x1_4 x3 x4 => j7' ag6 x1_0 x1_1 x1_2 x1_3 x1_4 x3 x4 k) x1_0 x1_1 x1_2 x1_3 x1_4 x3 x4 x5 k
def l23' (ag19 : BA → Int → Prop) (x1_0 : Bool) (x1_1 : BA) (x1_2 : Zq4) (x1_3 : Zq6) (x1_4 : Zq0) (x3 : BA) (x6 x7 : Int) (k : BA → Prop) : Prop := ∃ n, loopS (fun (ag : (BA × Int) → Prop) (s : BA × Int) => l23 (fun x1_0 x1_1 x1_2 x1_3 x1_4 x3 x6 => j20' ag19 x1_0 x1_1 x1_2 x1_3 x1_4 x3 x6 k) (fun x3 x7 => ag (x3, x7)) x1_0 x1_1 x1_2 x1_3 x1_4 s.1 x6 s.2 k) n (x3, x7)
def j10' (ag6 : BA → Int → Prop) (x1_0 : Bool) (x1_1 : BA) (x1_2 : Zq4) (x1_3 : Zq6) (x1_4 : Zq0) (x3 : BA) (x4 : Int) (k : BA → Prop) : Prop := j10 (fun x1_0 x1_1 x1_2 x1_3 x1_4 x3 x4 x5 => j15' ag6 x1_0 x1_1 x1_2 x1_3 x1_4 x3 x4 x5 k) x1_0 x1_1 x1_2 x1_3 x1_4 x3 x4 k
def l19' (x1_0 : Bool) (x1_1 : BA) (x1_2 : Zq4) (x1_3 : Zq6) (x1_4 : Zq0) (x3 : BA) (x6 : Int) (k : BA → Prop) : Prop := ∃ n, loopS (fun (ag : (BA × Int) → Prop) (s : BA × Int) => l19 (fun x1_0 x1_1 x1_2 x1_3 x1_4 x3 x6 x7 => l23' (fun x3 x6 => ag (x3, x6)) x1_0 x1_1 x1_2 x1_3 x1_4 x3 x6 x7 k) (fun x3 => j26' x3 k) x1_0 x1_1 x1_2 x1_3 x1_4 s.1 s.2 k) n (x3, x6)
def j18' (x1_0 : Bool) (x1_1 : BA) (x1_2 : Zq4) (x1_3 : Zq6) (x1_4 : Zq0) (x3 : BA) (k : BA → Prop) : Prop := j18 (fun x1_0 x1_1 x1_2 x1_3 x1_4 x3 x6 => l19' x1_0 x1_1 x1_2 x1_3 x1_4 x3 x6 k) x1_0 x1_1 x1_2 x1_3 x1_4 x3 k
def l6' (x1_0 : Bool) (x1_1 : BA) (x1_2 : Zq4) (x1_3 : Zq6) (x1_4 : Zq0) (x3 : BA) (x4 : Int) (k : BA → Prop) : Prop := ∃ n, loopS (fun (ag : (BA × Int) → Prop) (s : BA × Int) => l6 (fun x1_0 x1_1 x1_2 x1_3 x1_4 x3 x4 => j10' (fun x3 x4 => ag (x3, x4)) x1_0 x1_1 x1_2 x1_3 x1_4 x3 x4 k) (fun x1_0 x1_1 x1_2 x1_3 x1_4 x3 => j18' x1_0 x1_1 x1_2 x1_3 x1_4 x3 k) x1_0 x1_1 x1_2 x1_3 x1_4 s.1 s.2 k) n (x3, x4)
def j4' (x1_0 : Bool) (x1_1 : BA) (x1_2 : Zq4) (x1_3 : Zq6) (x1_4 : Zq0) (x3 : BA) (k : BA → Prop) : Prop := j4 (fun x1_0 x1_1 x1_2 x1_3 x1_4 x3 x4 => l6' x1_0 x1_1 x1_2 x1_3 x1_4 x3 x4 k) x1_0 x1_1 x1_2 x1_3 x1_4 x3 k
def f0 (x0_0 : Bool) (x0_1 : BA) (x0_2 : Zq4) (x0_3 : Zq6) (x0_4 : Zq0) (k : BA → Prop) : Prop := c (fun x1_0 x1_1 x1_2 x1_3 x1_4 x3 => j4' x1_0 x1_1 x1_2 x1_3 x1_4 x3 k) x0_0 x0_1 x0_2 x0_3 x0_4 k
theorem f_ex : ∃ g, g = f0 := ⟨_, rfl⟩
noncomputable def f := Classical.choose f_ex
theorem f_def : f = f0 := Classical.choose_spec f_ex
def m4 (x1_0 : Bool) (x1_1 : BA) (x1_2 : Zq4) (x1_3 : Zq6) (x1_4 : Zq0) (x3 : BA) : St := { tmps := mkT 110 0 [(1, (.fp [(.v (.bool x1_0)), (.v (.string x1_1)), (.fz (Ty.pair Zy2 Zy2) x1_2), (.fz Zy0 x1_3), (.fz Zy1 x1_4)])), (3, (.v (.string x3)))], hp := [], m := 0 }
def mL6 (x1_0 : Bool) (x1_1 : BA) (x1_2 : Zq4) (x1_3 : Zq6) (x1_4 : Zq0) (x3 : BA) (x4 : Int) : St := { tmps := mkT 110 0 [(1, (.fp [(.v (.bool x1_0)), (.v (.string x1_1)), (.fz (Ty.pair Zy2 Zy2) x1_2), (.fz Zy0 x1_3), (.fz Zy1 x1_4)])), (3, (.v (.string x3))), (4, (.v (.int .i64 x4)))], hp := [], m := 0 }
def m10 (x1_0 : Bool) (x1_1 : BA) (x1_2 : Zq4) (x1_3 : Zq6) (x1_4 : Zq0) (x3 : BA) (x4 : Int) : St := { tmps := mkT 110 0 [(1, (.fp [(.v (.bool x1_0)), (.v (.string x1_1)), (.fz (Ty.pair Zy2 Zy2) x1_2), (.fz Zy0 x1_3), (.fz Zy1 x1_4)])), (3, (.v (.string x3))), (4, (.v (.int .i64 x4)))], hp := [], m := 0 }
def m18 (x1_0 : Bool) (x1_1 : BA) (x1_2 : Zq4) (x1_3 : Zq6) (x1_4 : Zq0) (x3 : BA) : St := { tmps := mkT 110 0 [(1, (.fp [(.v (.bool x1_0)), (.v (.string x1_1)), (.fz (Ty.pair Zy2 Zy2) x1_2), (.fz Zy0 x1_3), (.fz Zy1 x1_4)])), (3, (.v (.string x3)))], hp := [], m := 0 }
def m15 (x1_0 : Bool) (x1_1 : BA) (x1_2 : Zq4) (x1_3 : Zq6) (x1_4 : Zq0) (x3 : BA) (x4 : Int) (x5 : BA) : St := { tmps := mkT 110 0 [(1, (.fp [(.v (.bool x1_0)), (.v (.string x1_1)), (.fz (Ty.pair Zy2 Zy2) x1_2), (.fz Zy0 x1_3), (.fz Zy1 x1_4)])), (3, (.v (.string x3))), (4, (.v (.int .i64 x4))), (5, (.v (.string x5)))], hp := [], m := 0 }
def mL19 (x1_0 : Bool) (x1_1 : BA) (x1_2 : Zq4) (x1_3 : Zq6) (x1_4 : Zq0) (x3 : BA) (x6 : Int) : St := { tmps := mkT 110 0 [(1, (.fp [(.v (.bool x1_0)), (.v (.string x1_1)), (.fz (Ty.pair Zy2 Zy2) x1_2), (.fz Zy0 x1_3), (.fz Zy1 x1_4)])), (3, (.v (.string x3))), (6, (.v (.int .i64 x6)))], hp := [], m := 0 }
def m7 (x1_0 : Bool) (x1_1 : BA) (x1_2 : Zq4) (x1_3 : Zq6) (x1_4 : Zq0) (x3 : BA) (x4 : Int) : St := { tmps := mkT 110 0 [(1, (.fp [(.v (.bool x1_0)), (.v (.string x1_1)), (.fz (Ty.pair Zy2 Zy2) x1_2), (.fz Zy0 x1_3), (.fz Zy1 x1_4)])), (3, (.v (.string x3))), (4, (.v (.int .i64 x4)))], hp := [], m := 0 }
def mL23 (x1_0 : Bool) (x1_1 : BA) (x1_2 : Zq4) (x1_3 : Zq6) (x1_4 : Zq0) (x3 : BA) (x6 x7 : Int) : St := { tmps := mkT 110 0 [(1, (.fp [(.v (.bool x1_0)), (.v (.string x1_1)), (.fz (Ty.pair Zy2 Zy2) x1_2), (.fz Zy0 x1_3), (.fz Zy1 x1_4)])), (3, (.v (.string x3))), (6, (.v (.int .i64 x6))), (7, (.v (.int .i64 x7)))], hp := [], m := 0 }
def m26 (x3 : BA) : St := { tmps := mkT 110 0 [(3, (.v (.string x3)))], hp := [], m := 0 }
def m20 (x1_0 : Bool) (x1_1 : BA) (x1_2 : Zq4) (x1_3 : Zq6) (x1_4 : Zq0) (x3 : BA) (x6 : Int) : St := { tmps := mkT 110 0 [(1, (.fp [(.v (.bool x1_0)), (.v (.string x1_1)), (.fz (Ty.pair Zy2 Zy2) x1_2), (.fz Zy0 x1_3), (.fz Zy1 x1_4)])), (3, (.v (.string x3))), (6, (.v (.int .i64 x6)))], hp := [], m := 0 }
noncomputable def X4 (k kp : KT) : St → Prop := atP cfg (pick none' []) [1, 1, 1] body (topK cfg Try.f11 k kp)
noncomputable def YL6 (k kp : KT) : (St → Prop) → St → Prop := loopB cfg (sub [1, 1, 1, 1, 0, 1, 0, 0] body) (contK cfg (pick none' []) [1, 1, 1, 1, 0, 1, 0] body (topK cfg Try.f11 k kp))
noncomputable def XL6 (k kp : KT) : St → Prop := fun st => ∃ n, loopN (YL6 k kp) n st
noncomputable def X10 (k kp : KT) (ag6 : St → Prop) : St → Prop := atP cfg (pick none' [(6, ag6)]) [1, 1, 1, 1, 0, 1, 0, 0, 1, 0, 0, 1] body (topK cfg Try.f11 k kp)
noncomputable def X18 (k kp : KT) : St → Prop := atP cfg (pick none' []) [1, 1, 1, 1, 1] body (topK cfg Try.f11 k kp)
noncomputable def X15 (k kp : KT) (ag6 : St → Prop) : St → Prop := atP cfg (pick none' [(6, ag6)]) [1, 1, 1, 1, 0, 1, 0, 0, 1, 0, 0, 1, 1, 1] body (topK cfg Try.f11 k kp)
noncomputable def YL19 (k kp : KT) : (St → Prop) → St → Prop := loopB cfg (sub [1, 1, 1, 1, 1, 0, 1, 0, 0] body) (contK cfg (pick none' []) [1, 1, 1, 1, 1, 0, 1, 0] body (topK cfg Try.f11 k kp))
noncomputable def XL19 (k kp : KT) : St → Prop := fun st => ∃ n, loopN (YL19 k kp) n st
noncomputable def X7 (k kp : KT) (ag6 : St → Prop) : St → Prop := atP cfg (pick none' [(6, ag6)]) [1, 1, 1, 1, 0, 1, 0, 0, 1, 1] body (topK cfg Try.f11 k kp)
noncomputable def YL23 (k kp : KT) (ag19 : St → Prop) : (St → Prop) → St → Prop := loopB cfg (sub [1, 1, 1, 1, 1, 0, 1, 0, 0, 1, 0, 0, 1, 1, 0, 0] body) (contK cfg (pick none' [(19, ag19)]) [1, 1, 1, 1, 1, 0, 1, 0, 0, 1, 0, 0, 1, 1, 0] body (topK cfg Try.f11 k kp))
noncomputable def XL23 (k kp : KT) (ag19 : St → Prop) : St → Prop := fun st => ∃ n, loopN (YL23 k kp ag19) n st
noncomputable def X26 (k kp : KT) : St → Prop := atP cfg (pick none' []) [1, 1, 1, 1, 1, 1] body (topK cfg Try.f11 k kp)
noncomputable def X20 (k kp : KT) (ag19 : St → Prop) : St → Prop := atP cfg (pick none' [(19, ag19)]) [1, 1, 1, 1, 1, 0, 1, 0, 0, 1, 1] body (topK cfg Try.f11 k kp)
noncomputable def JJ (k kp : KT) : Nat → St → Prop := pick none' [(4, X4 k kp), (18, X18 k kp), (26, X26 k kp)]
noncomputable def LL (k kp : KT) : Nat → St → Prop := pick none' [(6, XL6 k kp), (19, XL19 k kp)]
noncomputable def JJ_6 (k kp : KT) (ag6 : St → Prop) : Nat → St → Prop := pick none' [(4, X4 k kp), (10, X10 k kp ag6), (18, X18 k kp), (15, X15 k kp ag6), (7, X7 k kp ag6), (26, X26 k kp)]
noncomputable def LL_6 (k kp : KT) (ag6 : St → Prop) : Nat → St → Prop := pick none' [(6, XL6 k kp), (19, XL19 k kp)]
noncomputable def JJ_19 (k kp : KT) (ag19 : St → Prop) : Nat → St → Prop := pick none' [(4, X4 k kp), (18, X18 k kp), (26, X26 k kp), (20, X20 k kp ag19)]
noncomputable def LL_19 (k kp : KT) (ag19 : St → Prop) : Nat → St → Prop := pick none' [(6, XL6 k kp), (19, XL19 k kp), (23, XL23 k kp ag19)]
noncomputable def JJ_19_23 (k kp : KT) (ag19 : St → Prop) (ag23 : St → Prop) : Nat → St → Prop := pick none' [(4, X4 k kp), (18, X18 k kp), (26, X26 k kp), (20, X20 k kp ag19)]
noncomputable def LL_19_23 (k kp : KT) (ag19 : St → Prop) (ag23 : St → Prop) : Nat → St → Prop := pick none' [(6, XL6 k kp), (19, XL19 k kp), (23, XL23 k kp ag19)]
theorem j7_c (k kp : KT) (J L : Nat → St → Prop) (ag6 : St → Prop) (x1_0 : Bool) (x1_1 : BA) (x1_2 : Zq4) (x1_3 : Zq6) (x1_4 : Zq0) (x3 : BA) (x4 : Int) : runC cfg 7 J L (pick none' [(6, ag6)]) [1, 1, 1, 1, 0, 1, 0, 0, 1, 1] body (topK cfg Try.f11 k kp) (m7 x1_0 x1_1 x1_2 x1_3 x1_4 x3 x4) = j7 (fun x3 x4 => ag6 (mL6 x1_0 x1_1 x1_2 x1_3 x1_4 x3 x4)) x1_0 x1_1 x1_2 x1_3 x1_4 x3 x4 (fun y0 => k (.v (.string y0)) []) := by kernel_rfl
theorem j7_ag (k kp : KT) (ag6 : St → Prop) : agPL cfg 7 (JJ_6 k kp ag6) (LL_6 k kp ag6) [1, 1, 1, 1, 0, 1, 0, 0, 1, 1] body = agPR cfg 7 (pick none' [(6, ag6)]) [1, 1, 1, 1, 0, 1, 0, 0, 1, 1] body (topK cfg Try.f11 k kp) := by kernel_rfl
theorem j7_raw (k kp : KT) (ag6 : St → Prop) (x1_0 : Bool) (x1_1 : BA) (x1_2 : Zq4) (x1_3 : Zq6) (x1_4 : Zq0) (x3 : BA) (x4 : Int) : X7 k kp ag6 (m7 x1_0 x1_1 x1_2 x1_3 x1_4 x3 x4) = j7 (fun x3 x4 => ag6 (mL6 x1_0 x1_1 x1_2 x1_3 x1_4 x3 x4)) x1_0 x1_1 x1_2 x1_3 x1_4 x3 x4 (fun y0 => k (.v (.string y0)) []) :=
  Eq.mp (by kernel_rfl) ((atP_run (j7_ag k kp ag6) (m7 x1_0 x1_1 x1_2 x1_3 x1_4 x3 x4)).trans (j7_c k kp (JJ_6 k kp ag6) (LL_6 k kp ag6) ag6 x1_0 x1_1 x1_2 x1_3 x1_4 x3 x4))
theorem j7_eq (k kp : KT) (ag6 : St → Prop) (x1_0 : Bool) (x1_1 : BA) (x1_2 : Zq4) (x1_3 : Zq6) (x1_4 : Zq0) (x3 : BA) (x4 : Int) : X7 k kp ag6 (m7 x1_0 x1_1 x1_2 x1_3 x1_4 x3 x4) = j7' (fun x3 x4 => ag6 (mL6 x1_0 x1_1 x1_2 x1_3 x1_4 x3 x4)) x1_0 x1_1 x1_2 x1_3 x1_4 x3 x4 (fun y0 => k (.v (.string y0)) []) := by
  rw [j7_raw]; rfl
theorem j26_c (k kp : KT) (J L : Nat → St → Prop) (x3 : BA) : runC cfg 26 J L (pick none' []) [1, 1, 1, 1, 1, 1] body (topK cfg Try.f11 k kp) (m26 x3) = j26 x3 (fun y0 => k (.v (.string y0)) []) := by kernel_rfl
theorem j26_ag (k kp : KT) : agPL cfg 26 (JJ k kp) (LL k kp) [1, 1, 1, 1, 1, 1] body = agPR cfg 26 (pick none' []) [1, 1, 1, 1, 1, 1] body (topK cfg Try.f11 k kp) := by kernel_rfl
theorem j26_raw (k kp : KT) (x3 : BA) : X26 k kp (m26 x3) = j26 x3 (fun y0 => k (.v (.string y0)) []) :=
  Eq.mp (by kernel_rfl) ((atP_run (j26_ag k kp) (m26 x3)).trans (j26_c k kp (JJ k kp) (LL k kp) x3))
theorem j26_eq (k kp : KT) (x3 : BA) : X26 k kp (m26 x3) = j26' x3 (fun y0 => k (.v (.string y0)) []) := by
  rw [j26_raw]; rfl
theorem j20_c (k kp : KT) (J L : Nat → St → Prop) (ag19 : St → Prop) (x1_0 : Bool) (x1_1 : BA) (x1_2 : Zq4) (x1_3 : Zq6) (x1_4 : Zq0) (x3 : BA) (x6 : Int) : runC cfg 20 J L (pick none' [(19, ag19)]) [1, 1, 1, 1, 1, 0, 1, 0, 0, 1, 1] body (topK cfg Try.f11 k kp) (m20 x1_0 x1_1 x1_2 x1_3 x1_4 x3 x6) = j20 (fun x3 x6 => ag19 (mL19 x1_0 x1_1 x1_2 x1_3 x1_4 x3 x6)) x1_0 x1_1 x1_2 x1_3 x1_4 x3 x6 (fun y0 => k (.v (.string y0)) []) := by kernel_rfl
theorem j20_ag (k kp : KT) (ag19 : St → Prop) : agPL cfg 20 (JJ_19 k kp ag19) (LL_19 k kp ag19) [1, 1, 1, 1, 1, 0, 1, 0, 0, 1, 1] body = agPR cfg 20 (pick none' [(19, ag19)]) [1, 1, 1, 1, 1, 0, 1, 0, 0, 1, 1] body (topK cfg Try.f11 k kp) := by kernel_rfl
theorem j20_raw (k kp : KT) (ag19 : St → Prop) (x1_0 : Bool) (x1_1 : BA) (x1_2 : Zq4) (x1_3 : Zq6) (x1_4 : Zq0) (x3 : BA) (x6 : Int) : X20 k kp ag19 (m20 x1_0 x1_1 x1_2 x1_3 x1_4 x3 x6) = j20 (fun x3 x6 => ag19 (mL19 x1_0 x1_1 x1_2 x1_3 x1_4 x3 x6)) x1_0 x1_1 x1_2 x1_3 x1_4 x3 x6 (fun y0 => k (.v (.string y0)) []) :=
  Eq.mp (by kernel_rfl) ((atP_run (j20_ag k kp ag19) (m20 x1_0 x1_1 x1_2 x1_3 x1_4 x3 x6)).trans (j20_c k kp (JJ_19 k kp ag19) (LL_19 k kp ag19) ag19 x1_0 x1_1 x1_2 x1_3 x1_4 x3 x6))
theorem j20_eq (k kp : KT) (ag19 : St → Prop) (x1_0 : Bool) (x1_1 : BA) (x1_2 : Zq4) (x1_3 : Zq6) (x1_4 : Zq0) (x3 : BA) (x6 : Int) : X20 k kp ag19 (m20 x1_0 x1_1 x1_2 x1_3 x1_4 x3 x6) = j20' (fun x3 x6 => ag19 (mL19 x1_0 x1_1 x1_2 x1_3 x1_4 x3 x6)) x1_0 x1_1 x1_2 x1_3 x1_4 x3 x6 (fun y0 => k (.v (.string y0)) []) := by
  rw [j20_raw]; rfl
theorem j15_c (k kp : KT) (J L : Nat → St → Prop) (ag6 : St → Prop) (x1_0 : Bool) (x1_1 : BA) (x1_2 : Zq4) (x1_3 : Zq6) (x1_4 : Zq0) (x3 : BA) (x4 : Int) (x5 : BA) : runC cfg 15 J L (pick none' [(6, ag6)]) [1, 1, 1, 1, 0, 1, 0, 0, 1, 0, 0, 1, 1, 1] body (topK cfg Try.f11 k kp) (m15 x1_0 x1_1 x1_2 x1_3 x1_4 x3 x4 x5) = j15 (fun x1_0 x1_1 x1_2 x1_3 x1_4 x3 x4 => J 7 (m7 x1_0 x1_1 x1_2 x1_3 x1_4 x3 x4)) x1_0 x1_1 x1_2 x1_3 x1_4 x3 x4 x5 (fun y0 => k (.v (.string y0)) []) := by kernel_rfl
theorem j15_ag (k kp : KT) (ag6 : St → Prop) : agPL cfg 15 (JJ_6 k kp ag6) (LL_6 k kp ag6) [1, 1, 1, 1, 0, 1, 0, 0, 1, 0, 0, 1, 1, 1] body = agPR cfg 15 (pick none' [(6, ag6)]) [1, 1, 1, 1, 0, 1, 0, 0, 1, 0, 0, 1, 1, 1] body (topK cfg Try.f11 k kp) := by kernel_rfl
theorem j15_raw (k kp : KT) (ag6 : St → Prop) (x1_0 : Bool) (x1_1 : BA) (x1_2 : Zq4) (x1_3 : Zq6) (x1_4 : Zq0) (x3 : BA) (x4 : Int) (x5 : BA) : X15 k kp ag6 (m15 x1_0 x1_1 x1_2 x1_3 x1_4 x3 x4 x5) = j15 (fun x1_0 x1_1 x1_2 x1_3 x1_4 x3 x4 => X7 k kp ag6 (m7 x1_0 x1_1 x1_2 x1_3 x1_4 x3 x4)) x1_0 x1_1 x1_2 x1_3 x1_4 x3 x4 x5 (fun y0 => k (.v (.string y0)) []) :=
  Eq.mp (by kernel_rfl) ((atP_run (j15_ag k kp ag6) (m15 x1_0 x1_1 x1_2 x1_3 x1_4 x3 x4 x5)).trans (j15_c k kp (JJ_6 k kp ag6) (LL_6 k kp ag6) ag6 x1_0 x1_1 x1_2 x1_3 x1_4 x3 x4 x5))
theorem j15_eq (k kp : KT) (ag6 : St → Prop) (x1_0 : Bool) (x1_1 : BA) (x1_2 : Zq4) (x1_3 : Zq6) (x1_4 : Zq0) (x3 : BA) (x4 : Int) (x5 : BA) : X15 k kp ag6 (m15 x1_0 x1_1 x1_2 x1_3 x1_4 x3 x4 x5) = j15' (fun x3 x4 => ag6 (mL6 x1_0 x1_1 x1_2 x1_3 x1_4 x3 x4)) x1_0 x1_1 x1_2 x1_3 x1_4 x3 x4 x5 (fun y0 => k (.v (.string y0)) []) := by
  rw [j15_raw]; simp only [j7_eq]; first | done | rfl
theorem l23_c (k kp : KT) (J L : Nat → St → Prop) (ag19 : St → Prop) (ag23 : St → Prop) (x1_0 : Bool) (x1_1 : BA) (x1_2 : Zq4) (x1_3 : Zq6) (x1_4 : Zq0) (x3 : BA) (x6 x7 : Int) : runC cfg 1000001 J L (pick none' [(19, ag19), (23, ag23)]) [1, 1, 1, 1, 1, 0, 1, 0, 0, 1, 0, 0, 1, 1, 0, 0] body (topK cfg Try.f11 k kp) (mL23 x1_0 x1_1 x1_2 x1_3 x1_4 x3 x6 x7) = l23 (fun x1_0 x1_1 x1_2 x1_3 x1_4 x3 x6 => J 20 (m20 x1_0 x1_1 x1_2 x1_3 x1_4 x3 x6)) (fun x3 x7 => ag23 (mL23 x1_0 x1_1 x1_2 x1_3 x1_4 x3 x6 x7)) x1_0 x1_1 x1_2 x1_3 x1_4 x3 x6 x7 (fun y0 => k (.v (.string y0)) []) := by kernel_rfl
theorem l23_ag (k kp : KT) (ag19 : St → Prop) (ag23 : St → Prop) : agPL cfg 1000001 (JJ_19_23 k kp ag19 ag23) (LL_19_23 k kp ag19 ag23) [1, 1, 1, 1, 1, 0, 1, 0, 0, 1, 0, 0, 1, 1, 0, 0] body = agPR cfg 1000001 (pick none' [(19, ag19), (23, ag23)]) [1, 1, 1, 1, 1, 0, 1, 0, 0, 1, 0, 0, 1, 1, 0, 0] body (topK cfg Try.f11 k kp) := by kernel_rfl
theorem l23_raw (k kp : KT) (ag19 : St → Prop) (ag23 : St → Prop) (x1_0 : Bool) (x1_1 : BA) (x1_2 : Zq4) (x1_3 : Zq6) (x1_4 : Zq0) (x3 : BA) (x6 x7 : Int) : YL23 k kp ag19 ag23 (mL23 x1_0 x1_1 x1_2 x1_3 x1_4 x3 x6 x7) = l23 (fun x1_0 x1_1 x1_2 x1_3 x1_4 x3 x6 => X20 k kp ag19 (m20 x1_0 x1_1 x1_2 x1_3 x1_4 x3 x6)) (fun x3 x7 => ag23 (mL23 x1_0 x1_1 x1_2 x1_3 x1_4 x3 x6 x7)) x1_0 x1_1 x1_2 x1_3 x1_4 x3 x6 x7 (fun y0 => k (.v (.string y0)) []) :=
  Eq.mp (by kernel_rfl) ((atP_run (l23_ag k kp ag19 ag23) (mL23 x1_0 x1_1 x1_2 x1_3 x1_4 x3 x6 x7)).trans (l23_c k kp (JJ_19_23 k kp ag19 ag23) (LL_19_23 k kp ag19 ag23) ag19 ag23 x1_0 x1_1 x1_2 x1_3 x1_4 x3 x6 x7))
theorem l23_eq (k kp : KT) (ag19 : St → Prop) (x1_0 : Bool) (x1_1 : BA) (x1_2 : Zq4) (x1_3 : Zq6) (x1_4 : Zq0) (x3 : BA) (x6 x7 : Int) : XL23 k kp ag19 (mL23 x1_0 x1_1 x1_2 x1_3 x1_4 x3 x6 x7) = l23' (fun x3 x6 => ag19 (mL19 x1_0 x1_1 x1_2 x1_3 x1_4 x3 x6)) x1_0 x1_1 x1_2 x1_3 x1_4 x3 x6 x7 (fun y0 => k (.v (.string y0)) []) :=
  loop_eq (mk := fun (s : BA × Int) => mL23 x1_0 x1_1 x1_2 x1_3 x1_4 s.1 x6 s.2) (fun again s => by rw [l23_raw k kp ag19 again x1_0 x1_1 x1_2 x1_3 x1_4 s.1 x6 s.2]; simp only [j20_eq]; first | done | rfl) (x3, x7)
theorem j10_c (k kp : KT) (J L : Nat → St → Prop) (ag6 : St → Prop) (x1_0 : Bool) (x1_1 : BA) (x1_2 : Zq4) (x1_3 : Zq6) (x1_4 : Zq0) (x3 : BA) (x4 : Int) : runC cfg 10 J L (pick none' [(6, ag6)]) [1, 1, 1, 1, 0, 1, 0, 0, 1, 0, 0, 1] body (topK cfg Try.f11 k kp) (m10 x1_0 x1_1 x1_2 x1_3 x1_4 x3 x4) = j10 (fun x1_0 x1_1 x1_2 x1_3 x1_4 x3 x4 x5 => J 15 (m15 x1_0 x1_1 x1_2 x1_3 x1_4 x3 x4 x5)) x1_0 x1_1 x1_2 x1_3 x1_4 x3 x4 (fun y0 => k (.v (.string y0)) []) := by kernel_rfl
theorem j10_ag (k kp : KT) (ag6 : St → Prop) : agPL cfg 10 (JJ_6 k kp ag6) (LL_6 k kp ag6) [1, 1, 1, 1, 0, 1, 0, 0, 1, 0, 0, 1] body = agPR cfg 10 (pick none' [(6, ag6)]) [1, 1, 1, 1, 0, 1, 0, 0, 1, 0, 0, 1] body (topK cfg Try.f11 k kp) := by kernel_rfl
theorem j10_raw (k kp : KT) (ag6 : St → Prop) (x1_0 : Bool) (x1_1 : BA) (x1_2 : Zq4) (x1_3 : Zq6) (x1_4 : Zq0) (x3 : BA) (x4 : Int) : X10 k kp ag6 (m10 x1_0 x1_1 x1_2 x1_3 x1_4 x3 x4) = j10 (fun x1_0 x1_1 x1_2 x1_3 x1_4 x3 x4 x5 => X15 k kp ag6 (m15 x1_0 x1_1 x1_2 x1_3 x1_4 x3 x4 x5)) x1_0 x1_1 x1_2 x1_3 x1_4 x3 x4 (fun y0 => k (.v (.string y0)) []) :=
  Eq.mp (by kernel_rfl) ((atP_run (j10_ag k kp ag6) (m10 x1_0 x1_1 x1_2 x1_3 x1_4 x3 x4)).trans (j10_c k kp (JJ_6 k kp ag6) (LL_6 k kp ag6) ag6 x1_0 x1_1 x1_2 x1_3 x1_4 x3 x4))
theorem j10_eq (k kp : KT) (ag6 : St → Prop) (x1_0 : Bool) (x1_1 : BA) (x1_2 : Zq4) (x1_3 : Zq6) (x1_4 : Zq0) (x3 : BA) (x4 : Int) : X10 k kp ag6 (m10 x1_0 x1_1 x1_2 x1_3 x1_4 x3 x4) = j10' (fun x3 x4 => ag6 (mL6 x1_0 x1_1 x1_2 x1_3 x1_4 x3 x4)) x1_0 x1_1 x1_2 x1_3 x1_4 x3 x4 (fun y0 => k (.v (.string y0)) []) := by
  rw [j10_raw]; simp only [j15_eq]; first | done | rfl
theorem l19_c (k kp : KT) (J L : Nat → St → Prop) (ag19 : St → Prop) (x1_0 : Bool) (x1_1 : BA) (x1_2 : Zq4) (x1_3 : Zq6) (x1_4 : Zq0) (x3 : BA) (x6 : Int) : runC cfg 1000001 J L (pick none' [(19, ag19)]) [1, 1, 1, 1, 1, 0, 1, 0, 0] body (topK cfg Try.f11 k kp) (mL19 x1_0 x1_1 x1_2 x1_3 x1_4 x3 x6) = l19 (fun x1_0 x1_1 x1_2 x1_3 x1_4 x3 x6 x7 => L 23 (mL23 x1_0 x1_1 x1_2 x1_3 x1_4 x3 x6 x7)) (fun x3 => J 26 (m26 x3)) x1_0 x1_1 x1_2 x1_3 x1_4 x3 x6 (fun y0 => k (.v (.string y0)) []) := by kernel_rfl
theorem l19_ag (k kp : KT) (ag19 : St → Prop) : agPL cfg 1000001 (JJ_19 k kp ag19) (LL_19 k kp ag19) [1, 1, 1, 1, 1, 0, 1, 0, 0] body = agPR cfg 1000001 (pick none' [(19, ag19)]) [1, 1, 1, 1, 1, 0, 1, 0, 0] body (topK cfg Try.f11 k kp) := by kernel_rfl
theorem l19_raw (k kp : KT) (ag19 : St → Prop) (x1_0 : Bool) (x1_1 : BA) (x1_2 : Zq4) (x1_3 : Zq6) (x1_4 : Zq0) (x3 : BA) (x6 : Int) : YL19 k kp ag19 (mL19 x1_0 x1_1 x1_2 x1_3 x1_4 x3 x6) = l19 (fun x1_0 x1_1 x1_2 x1_3 x1_4 x3 x6 x7 => XL23 k kp ag19 (mL23 x1_0 x1_1 x1_2 x1_3 x1_4 x3 x6 x7)) (fun x3 => X26 k kp (m26 x3)) x1_0 x1_1 x1_2 x1_3 x1_4 x3 x6 (fun y0 => k (.v (.string y0)) []) :=
  Eq.mp (by kernel_rfl) ((atP_run (l19_ag k kp ag19) (mL19 x1_0 x1_1 x1_2 x1_3 x1_4 x3 x6)).trans (l19_c k kp (JJ_19 k kp ag19) (LL_19 k kp ag19) ag19 x1_0 x1_1 x1_2 x1_3 x1_4 x3 x6))
theorem l19_eq (k kp : KT) (x1_0 : Bool) (x1_1 : BA) (x1_2 : Zq4) (x1_3 : Zq6) (x1_4 : Zq0) (x3 : BA) (x6 : Int) : XL19 k kp (mL19 x1_0 x1_1 x1_2 x1_3 x1_4 x3 x6) = l19' x1_0 x1_1 x1_2 x1_3 x1_4 x3 x6 (fun y0 => k (.v (.string y0)) []) :=
  loop_eq (mk := fun (s : BA × Int) => mL19 x1_0 x1_1 x1_2 x1_3 x1_4 s.1 s.2) (fun again s => by rw [l19_raw k kp again x1_0 x1_1 x1_2 x1_3 x1_4 s.1 s.2]; simp only [l23_eq, j26_eq]; first | done | rfl) (x3, x6)
theorem j18_c (k kp : KT) (J L : Nat → St → Prop) (x1_0 : Bool) (x1_1 : BA) (x1_2 : Zq4) (x1_3 : Zq6) (x1_4 : Zq0) (x3 : BA) : runC cfg 18 J L (pick none' []) [1, 1, 1, 1, 1] body (topK cfg Try.f11 k kp) (m18 x1_0 x1_1 x1_2 x1_3 x1_4 x3) = j18 (fun x1_0 x1_1 x1_2 x1_3 x1_4 x3 x6 => L 19 (mL19 x1_0 x1_1 x1_2 x1_3 x1_4 x3 x6)) x1_0 x1_1 x1_2 x1_3 x1_4 x3 (fun y0 => k (.v (.string y0)) []) := by kernel_rfl
theorem j18_ag (k kp : KT) : agPL cfg 18 (JJ k kp) (LL k kp) [1, 1, 1, 1, 1] body = agPR cfg 18 (pick none' []) [1, 1, 1, 1, 1] body (topK cfg Try.f11 k kp) := by kernel_rfl
theorem j18_raw (k kp : KT) (x1_0 : Bool) (x1_1 : BA) (x1_2 : Zq4) (x1_3 : Zq6) (x1_4 : Zq0) (x3 : BA) : X18 k kp (m18 x1_0 x1_1 x1_2 x1_3 x1_4 x3) = j18 (fun x1_0 x1_1 x1_2 x1_3 x1_4 x3 x6 => XL19 k kp (mL19 x1_0 x1_1 x1_2 x1_3 x1_4 x3 x6)) x1_0 x1_1 x1_2 x1_3 x1_4 x3 (fun y0 => k (.v (.string y0)) []) :=
  Eq.mp (by kernel_rfl) ((atP_run (j18_ag k kp) (m18 x1_0 x1_1 x1_2 x1_3 x1_4 x3)).trans (j18_c k kp (JJ k kp) (LL k kp) x1_0 x1_1 x1_2 x1_3 x1_4 x3))
theorem j18_eq (k kp : KT) (x1_0 : Bool) (x1_1 : BA) (x1_2 : Zq4) (x1_3 : Zq6) (x1_4 : Zq0) (x3 : BA) : X18 k kp (m18 x1_0 x1_1 x1_2 x1_3 x1_4 x3) = j18' x1_0 x1_1 x1_2 x1_3 x1_4 x3 (fun y0 => k (.v (.string y0)) []) := by
  rw [j18_raw]; simp only [l19_eq]; first | done | rfl
theorem l6_c (k kp : KT) (J L : Nat → St → Prop) (ag6 : St → Prop) (x1_0 : Bool) (x1_1 : BA) (x1_2 : Zq4) (x1_3 : Zq6) (x1_4 : Zq0) (x3 : BA) (x4 : Int) : runC cfg 1000001 J L (pick none' [(6, ag6)]) [1, 1, 1, 1, 0, 1, 0, 0] body (topK cfg Try.f11 k kp) (mL6 x1_0 x1_1 x1_2 x1_3 x1_4 x3 x4) = l6 (fun x1_0 x1_1 x1_2 x1_3 x1_4 x3 x4 => J 10 (m10 x1_0 x1_1 x1_2 x1_3 x1_4 x3 x4)) (fun x1_0 x1_1 x1_2 x1_3 x1_4 x3 => J 18 (m18 x1_0 x1_1 x1_2 x1_3 x1_4 x3)) x1_0 x1_1 x1_2 x1_3 x1_4 x3 x4 (fun y0 => k (.v (.string y0)) []) := by kernel_rfl
theorem l6_ag (k kp : KT) (ag6 : St → Prop) : agPL cfg 1000001 (JJ_6 k kp ag6) (LL_6 k kp ag6) [1, 1, 1, 1, 0, 1, 0, 0] body = agPR cfg 1000001 (pick none' [(6, ag6)]) [1, 1, 1, 1, 0, 1, 0, 0] body (topK cfg Try.f11 k kp) := by kernel_rfl
theorem l6_raw (k kp : KT) (ag6 : St → Prop) (x1_0 : Bool) (x1_1 : BA) (x1_2 : Zq4) (x1_3 : Zq6) (x1_4 : Zq0) (x3 : BA) (x4 : Int) : YL6 k kp ag6 (mL6 x1_0 x1_1 x1_2 x1_3 x1_4 x3 x4) = l6 (fun x1_0 x1_1 x1_2 x1_3 x1_4 x3 x4 => X10 k kp ag6 (m10 x1_0 x1_1 x1_2 x1_3 x1_4 x3 x4)) (fun x1_0 x1_1 x1_2 x1_3 x1_4 x3 => X18 k kp (m18 x1_0 x1_1 x1_2 x1_3 x1_4 x3)) x1_0 x1_1 x1_2 x1_3 x1_4 x3 x4 (fun y0 => k (.v (.string y0)) []) :=
  Eq.mp (by kernel_rfl) ((atP_run (l6_ag k kp ag6) (mL6 x1_0 x1_1 x1_2 x1_3 x1_4 x3 x4)).trans (l6_c k kp (JJ_6 k kp ag6) (LL_6 k kp ag6) ag6 x1_0 x1_1 x1_2 x1_3 x1_4 x3 x4))
theorem l6_eq (k kp : KT) (x1_0 : Bool) (x1_1 : BA) (x1_2 : Zq4) (x1_3 : Zq6) (x1_4 : Zq0) (x3 : BA) (x4 : Int) : XL6 k kp (mL6 x1_0 x1_1 x1_2 x1_3 x1_4 x3 x4) = l6' x1_0 x1_1 x1_2 x1_3 x1_4 x3 x4 (fun y0 => k (.v (.string y0)) []) :=
  loop_eq (mk := fun (s : BA × Int) => mL6 x1_0 x1_1 x1_2 x1_3 x1_4 s.1 s.2) (fun again s => by rw [l6_raw k kp again x1_0 x1_1 x1_2 x1_3 x1_4 s.1 s.2]; simp only [j10_eq, j18_eq]; first | done | rfl) (x3, x4)
theorem j4_c (k kp : KT) (J L : Nat → St → Prop) (x1_0 : Bool) (x1_1 : BA) (x1_2 : Zq4) (x1_3 : Zq6) (x1_4 : Zq0) (x3 : BA) : runC cfg 4 J L (pick none' []) [1, 1, 1] body (topK cfg Try.f11 k kp) (m4 x1_0 x1_1 x1_2 x1_3 x1_4 x3) = j4 (fun x1_0 x1_1 x1_2 x1_3 x1_4 x3 x4 => L 6 (mL6 x1_0 x1_1 x1_2 x1_3 x1_4 x3 x4)) x1_0 x1_1 x1_2 x1_3 x1_4 x3 (fun y0 => k (.v (.string y0)) []) := by kernel_rfl
theorem j4_ag (k kp : KT) : agPL cfg 4 (JJ k kp) (LL k kp) [1, 1, 1] body = agPR cfg 4 (pick none' []) [1, 1, 1] body (topK cfg Try.f11 k kp) := by kernel_rfl
theorem j4_raw (k kp : KT) (x1_0 : Bool) (x1_1 : BA) (x1_2 : Zq4) (x1_3 : Zq6) (x1_4 : Zq0) (x3 : BA) : X4 k kp (m4 x1_0 x1_1 x1_2 x1_3 x1_4 x3) = j4 (fun x1_0 x1_1 x1_2 x1_3 x1_4 x3 x4 => XL6 k kp (mL6 x1_0 x1_1 x1_2 x1_3 x1_4 x3 x4)) x1_0 x1_1 x1_2 x1_3 x1_4 x3 (fun y0 => k (.v (.string y0)) []) :=
  Eq.mp (by kernel_rfl) ((atP_run (j4_ag k kp) (m4 x1_0 x1_1 x1_2 x1_3 x1_4 x3)).trans (j4_c k kp (JJ k kp) (LL k kp) x1_0 x1_1 x1_2 x1_3 x1_4 x3))
theorem j4_eq (k kp : KT) (x1_0 : Bool) (x1_1 : BA) (x1_2 : Zq4) (x1_3 : Zq6) (x1_4 : Zq0) (x3 : BA) : X4 k kp (m4 x1_0 x1_1 x1_2 x1_3 x1_4 x3) = j4' x1_0 x1_1 x1_2 x1_3 x1_4 x3 (fun y0 => k (.v (.string y0)) []) := by
  rw [j4_raw]; simp only [l6_eq]; first | done | rfl
theorem c_c (k kp : KT) (J L : Nat → St → Prop) (x0_0 : Bool) (x0_1 : BA) (x0_2 : Zq4) (x0_3 : Zq6) (x0_4 : Zq0) : runC cfg 1000001 J L none'' [] body (topK cfg Try.f11 k kp) (st0 Try.f11 [(.agg [(.v (.bool x0_0)), (.v (.string x0_1)), (.fz (Ty.pair Zy2 Zy2) x0_2), (.fz Zy0 x0_3), (.fz Zy1 x0_4)])] []) = c (fun x1_0 x1_1 x1_2 x1_3 x1_4 x3 => J 4 (m4 x1_0 x1_1 x1_2 x1_3 x1_4 x3)) x0_0 x0_1 x0_2 x0_3 x0_4 (fun y0 => k (.v (.string y0)) []) := by kernel_rfl
theorem c_ag (k kp : KT) : agPL cfg 1000001 (JJ k kp) (LL k kp) [] body = agPR cfg 1000001 none'' [] body (topK cfg Try.f11 k kp) := by kernel_rfl
theorem body_is : Try.f11.body = some body := by kernel_rfl
theorem c_raw (k kp : KT) (x0_0 : Bool) (x0_1 : BA) (x0_2 : Zq4) (x0_3 : Zq6) (x0_4 : Zq0) : funW cfg Try.f11 [(.agg [(.v (.bool x0_0)), (.v (.string x0_1)), (.fz (Ty.pair Zy2 Zy2) x0_2), (.fz Zy0 x0_3), (.fz Zy1 x0_4)])] [] k kp = c (fun x1_0 x1_1 x1_2 x1_3 x1_4 x3 => X4 k kp (m4 x1_0 x1_1 x1_2 x1_3 x1_4 x3)) x0_0 x0_1 x0_2 x0_3 x0_4 (fun y0 => k (.v (.string y0)) []) :=
  Eq.mp (by kernel_rfl) ((funW_run (AG := none'') body_is (c_ag k kp) [(.agg [(.v (.bool x0_0)), (.v (.string x0_1)), (.fz (Ty.pair Zy2 Zy2) x0_2), (.fz Zy0 x0_3), (.fz Zy1 x0_4)])] []).trans (c_c k kp (JJ k kp) (LL k kp) x0_0 x0_1 x0_2 x0_3 x0_4))
theorem f_eq (k kp : KT) (x0_0 : Bool) (x0_1 : BA) (x0_2 : Zq4) (x0_3 : Zq6) (x0_4 : Zq0) : funW cfg Try.f11 [(.agg [(.v (.bool x0_0)), (.v (.string x0_1)), (.fz (Ty.pair Zy2 Zy2) x0_2), (.fz Zy0 x0_3), (.fz Zy1 x0_4)])] [] k kp = f x0_0 x0_1 x0_2 x0_3 x0_4 (fun y0 => k (.v (.string y0)) []) := by
  rw [f_def, c_raw]; simp only [j4_eq]; first | done | rfl
noncomputable def ent0 : Entry := fun args blks k _ => match args, blks with
  | [d0], [] => aAgg 5 d0 fun l => aCons l fun d0_0 l => aCons l fun d0_1 l => aCons l fun d0_2 l => aCons l fun d0_3 l => aCons l fun d0_4 l => aNil l (aBool d0_0 fun x0_0 => aStr d0_1 fun x0_1 => aFz (Ty.pair Zy2 Zy2) d0_2 fun x0_2 => aFz Zy0 d0_3 fun x0_3 => aFz Zy1 d0_4 fun x0_4 => f x0_0 x0_1 x0_2 x0_3 x0_4 (fun y0 => k (.v (.string y0)) []))
  | _, _ => False
noncomputable def ent : Entry := fun args blks k kp => ent0 (convB [.cells [none, none, some (Ty.pair Zy2 Zy2), some Zy0, some Zy1]] args) blks k kp
theorem ok : EntOk Try.prog 0 0 11 ent := by
  refine EntOk.convB (EntOk.of (funW_ok (cfg := cfg) (tyOk_of rfl rfl tyL_ok) (eqOk_of (P := Try.prog) rfl rfl (by kernel_rfl)) mixed_ok (tab_ok ?_) Try.func11 (by rfl) (by rfl)) ?_) _
  · intro p hp
    simp only [List.mem_cons, List.not_mem_nil, or_false] at hp
    rcases hp with rfl | rfl | rfl | rfl | rfl
    · exact N33.ok
    · exact N32.ok
    · exact N34.ok
    · exact N35.ok
    · exact N13.ok
  · intro args blks k kp h k' kp'
    match args, blks, h with
    | [d0], [], h =>
    dsimp only [ent0] at h
    have h9 := aAgg_elim h; clear h; obtain ⟨_, rfl, h⟩ := h9
    have h9 := aCons_elim h; clear h; obtain ⟨d0_0, _, rfl, h⟩ := h9
    have h9 := aCons_elim h; clear h; obtain ⟨d0_1, _, rfl, h⟩ := h9
    have h9 := aCons_elim h; clear h; obtain ⟨d0_2, _, rfl, h⟩ := h9
    have h9 := aCons_elim h; clear h; obtain ⟨d0_3, _, rfl, h⟩ := h9
    have h9 := aCons_elim h; clear h; obtain ⟨d0_4, _, rfl, h⟩ := h9
    have h9 := aNil_elim h; clear h; obtain ⟨rfl, h⟩ := h9
    have h9 := aBool_elim h; clear h; obtain ⟨x0_0, rfl, h⟩ := h9
    have h9 := aStr_elim h; clear h; obtain ⟨x0_1, rfl, h⟩ := h9
    have h9 := aFz_elim (t := (Ty.pair Zy2 Zy2)) h; clear h; obtain ⟨x0_2, rfl, h⟩ := h9
    have h9 := aFz_elim (t := Zy0) h; clear h; obtain ⟨x0_3, rfl, h⟩ := h9
    have h9 := aFz_elim (t := Zy1) h; clear h; obtain ⟨x0_4, rfl, h⟩ := h9
    exact (f_eq k' kp' x0_0 x0_1 x0_2 x0_3 x0_4).symm
end N11
end Go.Proofs.Yh

namespace Go.Proofs.Yh
open Go Go.Aw Go.Proofs
set_option maxRecDepth 100000
set_option maxHeartbeats 4000000
namespace N8
noncomputable def cfg : Cfg := { P := Try.prog, ty := tys, E := tab [], atSeq := tab [(15, ⟨[(1, .keep), (3, .keep)]⟩), (4, ⟨[(1, .keep), (3, .keep), (4, .keep)]⟩), (8, ⟨[(1, .keep), (3, .keep), (4, .keep), (5, .keep)]⟩)], atLoop := tab [(3, ⟨[(1, .keep), (3, .keep), (4, .keep)]⟩), (7, ⟨[(1, .keep), (3, .keep), (4, .keep), (5, .keep)]⟩), (12, ⟨[(1, .keep), (3, .keep), (4, .keep), (5, .keep), (6, .keep), (7, .keep)]⟩)], outs := [], eqT := tab [], bT := tab [], fzB := [1] }
noncomputable def body : Code := bodyOf Try.f8
def l3 (l7 : Bool → BA → Zq4 → Zq6 → Zq0 → Int → Int → Int → Prop) (j15 : Bool → BA → Zq4 → Zq6 → Zq0 → Int → Prop) (x1_0 : Bool) (x1_1 : BA) (x1_2 : Zq4) (x1_3 : Zq6) (x1_4 : Zq0) (x3 x4 : Int) (k : Bool → Prop) : Prop :=
  (br (decide (x4 < ((((x1_4).length : Nat) : Int)))) ((inB 0 x4 ((((x1_4).length : Nat) : Int) - 1)) ∧ ((inB 0 x4 ((((x1_4).length : Nat) : Int) - 1)) ∧ (l7 x1_0 x1_1 x1_2 x1_3 x1_4 (IntKind.i64.wrap ((IntKind.i64.wrap (x3 + (((((x1_4.getD (Int.toNat x4) ((ByteArray.empty, (false, (([] : List Zq1), ([] : List Zq2)))))).1).size : Nat) : Int)))) + (((((x1_4.getD (Int.toNat x4) ((ByteArray.empty, (false, (([] : List Zq1), ([] : List Zq2)))))).2.2.1).length : Nat) : Int)))) x4 (0 : Int)))) (j15 x1_0 x1_1 x1_2 x1_3 x1_4 x3))
def l7 (l12 : Bool → BA → Zq4 → Zq6 → Zq0 → Int → Int → Int → Int → Int → Int → Int → Int → Int → Zq6 → BA → Int → LB → LI → Prop) (j4 : Bool → BA → Zq4 → Zq6 → Zq0 → Int → Int → Prop) (x1_0 : Bool) (x1_1 : BA) (x1_2 : Zq4) (x1_3 : Zq6) (x1_4 : Zq0) (x3 x4 x5 : Int) (k : Bool → Prop) : Prop :=
  ((inB 0 x4 ((((x1_4).length : Nat) : Int) - 1)) ∧ (br (decide (x5 < (((((x1_4.getD (Int.toNat x4) ((ByteArray.empty, (false, (([] : List Zq1), ([] : List Zq2)))))).2.2.2).length : Nat) : Int)))) ((inB 0 x4 ((((x1_4).length : Nat) : Int) - 1)) ∧ ((inB 0 x5 (((((x1_4.getD (Int.toNat x4) ((ByteArray.empty, (false, (([] : List Zq1), ([] : List Zq2)))))).2.2.2).length : Nat) : Int) - 1)) ∧ (l12 x1_0 x1_1 x1_2 x1_3 x1_4 (IntKind.i64.wrap ((IntKind.i64.wrap ((IntKind.i64.wrap ((IntKind.i64.wrap (x3 + (1 : Int))) + ((((((x1_4.getD (Int.toNat x4) ((ByteArray.empty, (false, (([] : List Zq1), ([] : List Zq2)))))).2.2.2.getD (Int.toNat x5) ((0, ((0, (0, (0, 0))), (([] : List Zq1), (ByteArray.empty, (0, (([] : List BA), ([] : List Int))))))))).2.2.1).length : Nat) : Int)))) + ((((((x1_4.getD (Int.toNat x4) ((ByteArray.empty, (false, (([] : List Zq1), ([] : List Zq2)))))).2.2.2.getD (Int.toNat x5) ((0, ((0, (0, (0, 0))), (([] : List Zq1), (ByteArray.empty, (0, (([] : List BA), ([] : List Int))))))))).2.2.2.1).size : Nat) : Int)))) + ((((((x1_4.getD (Int.toNat x4) ((ByteArray.empty, (false, (([] : List Zq1), ([] : List Zq2)))))).2.2.2.getD (Int.toNat x5) ((0, ((0, (0, (0, 0))), (([] : List Zq1), (ByteArray.empty, (0, (([] : List BA), ([] : List Int))))))))).2.2.2.2.2.2).length : Nat) : Int)))) x4 x5 (0 : Int) ((x1_4.getD (Int.toNat x4) ((ByteArray.empty, (false, (([] : List Zq1), ([] : List Zq2)))))).2.2.2.getD (Int.toNat x5) ((0, ((0, (0, (0, 0))), (([] : List Zq1), (ByteArray.empty, (0, (([] : List BA), ([] : List Int))))))))).1 ((x1_4.getD (Int.toNat x4) ((ByteArray.empty, (false, (([] : List Zq1), ([] : List Zq2)))))).2.2.2.getD (Int.toNat x5) ((0, ((0, (0, (0, 0))), (([] : List Zq1), (ByteArray.empty, (0, (([] : List BA), ([] : List Int))))))))).2.1.1 ((x1_4.getD (Int.toNat x4) ((ByteArray.empty, (false, (([] : List Zq1), ([] : List Zq2)))))).2.2.2.getD (Int.toNat x5) ((0, ((0, (0, (0, 0))), (([] : List Zq1), (ByteArray.empty, (0, (([] : List BA), ([] : List Int))))))))).2.1.2.1 ((x1_4.getD (Int.toNat x4) ((ByteArray.empty, (false, (([] : List Zq1), ([] : List Zq2)))))).2.2.2.getD (Int.toNat x5) ((0, ((0, (0, (0, 0))), (([] : List Zq1), (ByteArray.empty, (0, (([] : List BA), ([] : List Int))))))))).2.1.2.2.1 ((x1_4.getD (Int.toNat x4) ((ByteArray.empty, (false, (([] : List Zq1), ([] : List Zq2)))))).2.2.2.getD (Int.toNat x5) ((0, ((0, (0, (0, 0))), (([] : List Zq1), (ByteArray.empty, (0, (([] : List BA), ([] : List Int))))))))).2.1.2.2.2 ((x1_4.getD (Int.toNat x4) ((ByteArray.empty, (false, (([] : List Zq1), ([] : List Zq2)))))).2.2.2.getD (Int.toNat x5) ((0, ((0, (0, (0, 0))), (([] : List Zq1), (ByteArray.empty, (0, (([] : List BA), ([] : List Int))))))))).2.2.1 ((x1_4.getD (Int.toNat x4) ((ByteArray.empty, (false, (([] : List Zq1), ([] : List Zq2)))))).2.2.2.getD (Int.toNat x5) ((0, ((0, (0, (0, 0))), (([] : List Zq1), (ByteArray.empty, (0, (([] : List BA), ([] : List Int))))))))).2.2.2.1 ((x1_4.getD (Int.toNat x4) ((ByteArray.empty, (false, (([] : List Zq1), ([] : List Zq2)))))).2.2.2.getD (Int.toNat x5) ((0, ((0, (0, (0, 0))), (([] : List Zq1), (ByteArray.empty, (0, (([] : List BA), ([] : List Int))))))))).2.2.2.2.1 ((x1_4.getD (Int.toNat x4) ((ByteArray.empty, (false, (([] : List Zq1), ([] : List Zq2)))))).2.2.2.getD (Int.toNat x5) ((0, ((0, (0, (0, 0))), (([] : List Zq1), (ByteArray.empty, (0, (([] : List BA), ([] : List Int))))))))).2.2.2.2.2.1 ((x1_4.getD (Int.toNat x4) ((ByteArray.empty, (false, (([] : List Zq1), ([] : List Zq2)))))).2.2.2.getD (Int.toNat x5) ((0, ((0, (0, (0, 0))), (([] : List Zq1), (ByteArray.empty, (0, (([] : List BA), ([] : List Int))))))))).2.2.2.2.2.2))) (j4 x1_0 x1_1 x1_2 x1_3 x1_4 x3 x4)))
def j15 (x1_0 : Bool) (x1_1 : BA) (x1_2 : Zq4) (x1_3 : Zq6) (x1_4 : Zq0) (x3 : Int) (k : Bool → Prop) : Prop :=
  (br (decide (x3 > (2000 : Int))) (k true) (k (decide (((((x1_4).length : Nat) : Int)) > (80 : Int)))))
def l12 (j8 : Bool → BA → Zq4 → Zq6 → Zq0 → Int → Int → Int → Prop) (ag12 : Int → Int → Int → Int → Int → Int → Int → Zq6 → BA → Int → LB → LI → Prop) (x1_0 : Bool) (x1_1 : BA) (x1_2 : Zq4) (x1_3 : Zq6) (x1_4 : Zq0) (x3 x4 : Int) (x5 x7 : Int) (b0_0 b0_1 : Int) (b0_2 b0_3 b0_4 : Int) (b0_5 : Zq6) (b0_6 : BA) (b0_7 : Int) (b0_8 : LB) (b0_9 : LI) (k : Bool → Prop) : Prop :=
  (br (decide (x7 < ((((b0_8).length : Nat) : Int)))) ((inB 0 x7 ((((b0_8).length : Nat) : Int) - 1)) ∧ (ag12 (IntKind.i64.wrap ((IntKind.i64.wrap (x3 + (1 : Int))) + (((((b0_8.getD (Int.toNat x7) (ByteArray.empty))).size : Nat) : Int)))) (IntKind.i64.wrap (x7 + (1 : Int))) b0_0 b0_1 b0_2 b0_3 b0_4 b0_5 b0_6 b0_7 b0_8 b0_9)) (j8 x1_0 x1_1 x1_2 x1_3 x1_4 x3 x4 x5))
def j4 (ag3 : Int → Int → Prop) (x1_0 : Bool) (x1_1 : BA) (x1_2 : Zq4) (x1_3 : Zq6) (x1_4 : Zq0) (x3 x4 : Int) (k : Bool → Prop) : Prop :=
  (ag3 x3 (IntKind.i64.wrap (x4 + (1 : Int))))
def j8 (ag7 : Int → Int → Prop) (x1_0 : Bool) (x1_1 : BA) (x1_2 : Zq4) (x1_3 : Zq6) (x1_4 : Zq0) (x3 x4 x5 : Int) (k : Bool → Prop) : Prop :=
  (ag7 x3 (IntKind.i64.wrap (x5 + (1 : Int))))
def c (l3 : Bool → BA → Zq4 → Zq6 → Zq0 → Int → Int → Prop) (x0_0 : Bool) (x0_1 : BA) (x0_2 : Zq4) (x0_3 : Zq6) (x0_4 : Zq0) (k : Bool → Prop) : Prop :=
  (l3 x0_0 x0_1 x0_2 x0_3 x0_4 (IntKind.i64.wrap ((IntKind.i64.wrap (((((x0_1).size : Nat) : Int)) + ((((x0_2).length : Nat) : Int)))) + ((((x0_3).length : Nat) : Int)))) (0 : Int))
def j15' (x1_0 : Bool) (x1_1 : BA) (x1_2 : Zq4) (x1_3 : Zq6) (x1_4 : Zq0) (x3 : Int) (k : Bool → Prop) : Prop := j15 x1_0 x1_1 x1_2 x1_3 x1_4 x3 k
def j4' (ag3 : Int → Int → Prop) (x1_0 : Bool) (x1_1 : BA) (x1_2 : Zq4) (x1_3 : Zq6) (x1_4 : Zq0) (x3 x4 : Int) (k : Bool → Prop) : Prop := j4 ag3 x1_0 x1_1 x1_2 x1_3 x1_4 x3 x4 k
def j8' (ag7 : Int → Int → Prop) (x1_0 : Bool) (x1_1 : BA) (x1_2 : Zq4) (x1_3 : Zq6) (x1_4 : Zq0) (x3 x4 x5 : Int) (k : Bool → Prop) : Prop := j8 ag7 x1_0 x1_1 x1_2 x1_3 x1_4 x3 x4 x5 k
def l12' (ag7 : Int → Int → Prop) (x1_0 : Bool) (x1_1 : BA) (x1_2 : Zq4) (x1_3 : Zq6) (x1_4 : Zq0) (x3 x4 : Int) (x5 x7 : Int) (b0_0 b0_1 : Int) (b0_2 b0_3 b0_4 : Int) (b0_5 : Zq6) (b0_6 : BA) (b0_7 : Int) (b0_8 : LB) (b0_9 : LI) (k : Bool → Prop) : Prop := ∃ n, loopS (fun (ag : (Int × Int × Int × Int × Int × Int × Int × Zq6 × BA × Int × LB × LI) → Prop) (s : Int × Int × Int × Int × Int × Int × Int × Zq6 × BA × Int × LB × LI) => l12 (fun x1_0 x1_1 x1_2 x1_3 x1_4 x3 x4 x5 => j8' ag7 x1_0 x1_1 x1_2 x1_3 x1_4 x3 x4 x5 k) (fun x3 x7 b0_0 b0_1 b0_2 b0_3 b0_4 b0_5 b0_6 b0_7 b0_8 b0_9 => ag (x3, x7, b0_0, b0_1, b0_2, b0_3, b0_4, b0_5, b0_6, b0_7, b0_8, b0_9)) x1_0 x1_1 x1_2 x1_3 x1_4 s.1 x4 x5 s.2.1 s.2.2.1 s.2.2.2.1 s.2.2.2.2.1 s.2.2.2.2.2.1 s.2.2.2.2.2.2.1 s.2.2.2.2.2.2.2.1 s.2.2.2.2.2.2.2.2.1 s.2.2.2.2.2.2.2.2.2.1 s.2.2.2.2.2.2.2.2.2.2.1 s.2.2.2.2.2.2.2.2.2.2.2 k) n (x3, x7, b0_0, b0_1, b0_2, b0_3, b0_4, b0_5, b0_6, b0_7, b0_8, b0_9)
def l7' (ag3 : Int → Int → Prop) (x1_0 : Bool) (x1_1 : BA) (x1_2 : Zq4) (x1_3 : Zq6) (x1_4 : Zq0) (x3 x4 x5 : Int) (k : Bool → Prop) : Prop := ∃ n, loopS (fun (ag : (Int × Int) → Prop) (s : Int × Int) => l7 (fun x1_0 x1_1 x1_2 x1_3 x1_4 x3 x4 x5 x7 b0_0 b0_1 b0_2 b0_3 b0_4 b0_5 b0_6 b0_7 b0_8 b0_9 => l12' (fun x3 x5 => ag (x3, x5)) x1_0 x1_1 x1_2 x1_3 x1_4 x3 x4 x5 x7 b0_0 b0_1 b0_2 b0_3 b0_4 b0_5 b0_6 b0_7 b0_8 b0_9 k) (fun x1_0 x1_1 x1_2 x1_3 x1_4 x3 x4 => j4' ag3 x1_0 x1_1 x1_2 x1_3 x1_4 x3 x4 k) x1_0 x1_1 x1_2 x1_3 x1_4 s.1 x4 s.2 k) n (x3, x5)
def l3' (x1_0 : Bool) (x1_1 : BA) (x1_2 : Zq4) (x1_3 : Zq6) (x1_4 : Zq0) (x3 x4 : Int) (k : Bool → Prop) : Prop := ∃ n, loopS (fun (ag : (Int × Int) → Prop) (s : Int × Int) => l3 (fun x1_0 x1_1 x1_2 x1_3 x1_4 x3 x4 x5 => l7' (fun x3 x4 => ag (x3, x4)) x1_0 x1_1 x1_2 x1_3 x1_4 x3 x4 x5 k) (fun x1_0 x1_1 x1_2 x1_3 x1_4 x3 => j15' x1_0 x1_1 x1_2 x1_3 x1_4 x3 k) x1_0 x1_1 x1_2 x1_3 x1_4 s.1 s.2 k) n (x3, x4)
def f0 (x0_0 : Bool) (x0_1 : BA) (x0_2 : Zq4) (x0_3 : Zq6) (x0_4 : Zq0) (k : Bool → Prop) : Prop := c (fun x1_0 x1_1 x1_2 x1_3 x1_4 x3 x4 => l3' x1_0 x1_1 x1_2 x1_3 x1_4 x3 x4 k) x0_0 x0_1 x0_2 x0_3 x0_4 k
theorem f_ex : ∃ g, g = f0 := ⟨_, rfl⟩
noncomputable def f := Classical.choose f_ex
theorem f_def : f = f0 := Classical.choose_spec f_ex
def mL3 (x1_0 : Bool) (x1_1 : BA) (x1_2 : Zq4) (x1_3 : Zq6) (x1_4 : Zq0) (x3 x4 : Int) : St := { tmps := mkT 101 0 [(1, (.fp [(.v (.bool x1_0)), (.v (.string x1_1)), (.fz (Ty.pair Zy2 Zy2) x1_2), (.fz Zy0 x1_3), (.fz Zy1 x1_4)])), (3, (.v (.int .i64 x3))), (4, (.v (.int .i64 x4)))], hp := [], m := 0 }
def mL7 (x1_0 : Bool) (x1_1 : BA) (x1_2 : Zq4) (x1_3 : Zq6) (x1_4 : Zq0) (x3 x4 x5 : Int) : St := { tmps := mkT 101 0 [(1, (.fp [(.v (.bool x1_0)), (.v (.string x1_1)), (.fz (Ty.pair Zy2 Zy2) x1_2), (.fz Zy0 x1_3), (.fz Zy1 x1_4)])), (3, (.v (.int .i64 x3))), (4, (.v (.int .i64 x4))), (5, (.v (.int .i64 x5)))], hp := [], m := 0 }
def m15 (x1_0 : Bool) (x1_1 : BA) (x1_2 : Zq4) (x1_3 : Zq6) (x1_4 : Zq0) (x3 : Int) : St := { tmps := mkT 101 0 [(1, (.fp [(.v (.bool x1_0)), (.v (.string x1_1)), (.fz (Ty.pair Zy2 Zy2) x1_2), (.fz Zy0 x1_3), (.fz Zy1 x1_4)])), (3, (.v (.int .i64 x3)))], hp := [], m := 0 }
def mL12 (x1_0 : Bool) (x1_1 : BA) (x1_2 : Zq4) (x1_3 : Zq6) (x1_4 : Zq0) (x3 x4 : Int) (x5 x7 : Int) (b0_0 b0_1 : Int) (b0_2 b0_3 b0_4 : Int) (b0_5 : Zq6) (b0_6 : BA) (b0_7 : Int) (b0_8 : LB) (b0_9 : LI) : St := { tmps := mkT 101 0 [(1, (.fp [(.v (.bool x1_0)), (.v (.string x1_1)), (.fz (Ty.pair Zy2 Zy2) x1_2), (.fz Zy0 x1_3), (.fz Zy1 x1_4)])), (3, (.v (.int .i64 x3))), (4, (.v (.int .i64 x4))), (5, (.v (.int .i64 x5))), (6, (.ptr 0 0)), (7, (.v (.int .i64 x7)))], hp := [(.box 35 [(.v (.int .i64 b0_0)), (.v (.int .i64 b0_1)), (.v (.int .i64 b0_2)), (.v (.int .i64 b0_3)), (.v (.int .i64 b0_4)), (.fz Zy0 b0_5), (.v (.string b0_6)), (.v (.int .i64 b0_7)), (.fz Ty.str b0_8), (.fz Zy2 b0_9)])], m := 0 }
def m4 (x1_0 : Bool) (x1_1 : BA) (x1_2 : Zq4) (x1_3 : Zq6) (x1_4 : Zq0) (x3 x4 : Int) : St := { tmps := mkT 101 0 [(1, (.fp [(.v (.bool x1_0)), (.v (.string x1_1)), (.fz (Ty.pair Zy2 Zy2) x1_2), (.fz Zy0 x1_3), (.fz Zy1 x1_4)])), (3, (.v (.int .i64 x3))), (4, (.v (.int .i64 x4)))], hp := [], m := 0 }
def m8 (x1_0 : Bool) (x1_1 : BA) (x1_2 : Zq4) (x1_3 : Zq6) (x1_4 : Zq0) (x3 x4 x5 : Int) : St := { tmps := mkT 101 0 [(1, (.fp [(.v (.bool x1_0)), (.v (.string x1_1)), (.fz (Ty.pair Zy2 Zy2) x1_2), (.fz Zy0 x1_3), (.fz Zy1 x1_4)])), (3, (.v (.int .i64 x3))), (4, (.v (.int .i64 x4))), (5, (.v (.int .i64 x5)))], hp := [], m := 0 }
noncomputable def YL3 (k kp : KT) : (St → Prop) → St → Prop := loopB cfg (sub [1, 1, 0, 1, 0, 0] body) (contK cfg (pick none' []) [1, 1, 0, 1, 0] body (topK cfg Try.f8 k kp))
noncomputable def XL3 (k kp : KT) : St → Prop := fun st => ∃ n, loopN (YL3 k kp) n st
noncomputable def YL7 (k kp : KT) (ag3 : St → Prop) : (St → Prop) → St → Prop := loopB cfg (sub [1, 1, 0, 1, 0, 0, 1, 0, 0, 1, 1, 0, 0] body) (contK cfg (pick none' [(3, ag3)]) [1, 1, 0, 1, 0, 0, 1, 0, 0, 1, 1, 0] body (topK cfg Try.f8 k kp))
noncomputable def XL7 (k kp : KT) (ag3 : St → Prop) : St → Prop := fun st => ∃ n, loopN (YL7 k kp ag3) n st
noncomputable def X15 (k kp : KT) : St → Prop := atP cfg (pick none' []) [1, 1, 1] body (topK cfg Try.f8 k kp)
noncomputable def YL12 (k kp : KT) (ag3 : St → Prop) (ag7 : St → Prop) : (St → Prop) → St → Prop := loopB cfg (sub [1, 1, 0, 1, 0, 0, 1, 0, 0, 1, 1, 0, 0, 1, 0, 0, 1, 1, 1, 0, 0] body) (contK cfg (pick none' [(3, ag3), (7, ag7)]) [1, 1, 0, 1, 0, 0, 1, 0, 0, 1, 1, 0, 0, 1, 0, 0, 1, 1, 1, 0] body (topK cfg Try.f8 k kp))
noncomputable def XL12 (k kp : KT) (ag3 : St → Prop) (ag7 : St → Prop) : St → Prop := fun st => ∃ n, loopN (YL12 k kp ag3 ag7) n st
noncomputable def X4 (k kp : KT) (ag3 : St → Prop) : St → Prop := atP cfg (pick none' [(3, ag3)]) [1, 1, 0, 1, 0, 0, 1, 1] body (topK cfg Try.f8 k kp)
noncomputable def X8 (k kp : KT) (ag3 : St → Prop) (ag7 : St → Prop) : St → Prop := atP cfg (pick none' [(3, ag3), (7, ag7)]) [1, 1, 0, 1, 0, 0, 1, 0, 0, 1, 1, 0, 0, 1, 1] body (topK cfg Try.f8 k kp)
noncomputable def JJ_3 (k kp : KT) (ag3 : St → Prop) : Nat → St → Prop := pick none' [(15, X15 k kp), (4, X4 k kp ag3)]
noncomputable def LL_3 (k kp : KT) (ag3 : St → Prop) : Nat → St → Prop := pick none' [(3, XL3 k kp), (7, XL7 k kp ag3)]
noncomputable def JJ_3_7 (k kp : KT) (ag3 : St → Prop) (ag7 : St → Prop) : Nat → St → Prop := pick none' [(15, X15 k kp), (4, X4 k kp ag3), (8, X8 k kp ag3 ag7)]
noncomputable def LL_3_7 (k kp : KT) (ag3 : St → Prop) (ag7 : St → Prop) : Nat → St → Prop := pick none' [(3, XL3 k kp), (7, XL7 k kp ag3), (12, XL12 k kp ag3 ag7)]
noncomputable def JJ (k kp : KT) : Nat → St → Prop := pick none' [(15, X15 k kp)]
noncomputable def LL (k kp : KT) : Nat → St → Prop := pick none' [(3, XL3 k kp)]
noncomputable def JJ_3_7_12 (k kp : KT) (ag3 : St → Prop) (ag7 : St → Prop) (ag12 : St → Prop) : Nat → St → Prop := pick none' [(15, X15 k kp), (4, X4 k kp ag3), (8, X8 k kp ag3 ag7)]
noncomputable def LL_3_7_12 (k kp : KT) (ag3 : St → Prop) (ag7 : St → Prop) (ag12 : St → Prop) : Nat → St → Prop := pick none' [(3, XL3 k kp), (7, XL7 k kp ag3), (12, XL12 k kp ag3 ag7)]
theorem j15_c (k kp : KT) (J L : Nat → St → Prop) (x1_0 : Bool) (x1_1 : BA) (x1_2 : Zq4) (x1_3 : Zq6) (x1_4 : Zq0) (x3 : Int) : runC cfg 15 J L (pick none' []) [1, 1, 1] body (topK cfg Try.f8 k kp) (m15 x1_0 x1_1 x1_2 x1_3 x1_4 x3) = j15 x1_0 x1_1 x1_2 x1_3 x1_4 x3 (fun y0 => k (.v (.bool y0)) []) := by kernel_rfl
theorem j15_ag (k kp : KT) : agPL cfg 15 (JJ k kp) (LL k kp) [1, 1, 1] body = agPR cfg 15 (pick none' []) [1, 1, 1] body (topK cfg Try.f8 k kp) := by kernel_rfl
theorem j15_raw (k kp : KT) (x1_0 : Bool) (x1_1 : BA) (x1_2 : Zq4) (x1_3 : Zq6) (x1_4 : Zq0) (x3 : Int) : X15 k kp (m15 x1_0 x1_1 x1_2 x1_3 x1_4 x3) = j15 x1_0 x1_1 x1_2 x1_3 x1_4 x3 (fun y0 => k (.v (.bool y0)) []) :=
  Eq.mp (by kernel_rfl) ((atP_run (j15_ag k kp) (m15 x1_0 x1_1 x1_2 x1_3 x1_4 x3)).trans (j15_c k kp (JJ k kp) (LL k kp) x1_0 x1_1 x1_2 x1_3 x1_4 x3))
theorem j15_eq (k kp : KT) (x1_0 : Bool) (x1_1 : BA) (x1_2 : Zq4) (x1_3 : Zq6) (x1_4 : Zq0) (x3 : Int) : X15 k kp (m15 x1_0 x1_1 x1_2 x1_3 x1_4 x3) = j15' x1_0 x1_1 x1_2 x1_3 x1_4 x3 (fun y0 => k (.v (.bool y0)) []) := by
  rw [j15_raw]; rfl
theorem j4_c (k kp : KT) (J L : Nat → St → Prop) (ag3 : St → Prop) (x1_0 : Bool) (x1_1 : BA) (x1_2 : Zq4) (x1_3 : Zq6) (x1_4 : Zq0) (x3 x4 : Int) : runC cfg 4 J L (pick none' [(3, ag3)]) [1, 1, 0, 1, 0, 0, 1, 1] body (topK cfg Try.f8 k kp) (m4 x1_0 x1_1 x1_2 x1_3 x1_4 x3 x4) = j4 (fun x3 x4 => ag3 (mL3 x1_0 x1_1 x1_2 x1_3 x1_4 x3 x4)) x1_0 x1_1 x1_2 x1_3 x1_4 x3 x4 (fun y0 => k (.v (.bool y0)) []) := by kernel_rfl
theorem j4_ag (k kp : KT) (ag3 : St → Prop) : agPL cfg 4 (JJ_3 k kp ag3) (LL_3 k kp ag3) [1, 1, 0, 1, 0, 0, 1, 1] body = agPR cfg 4 (pick none' [(3, ag3)]) [1, 1, 0, 1, 0, 0, 1, 1] body (topK cfg Try.f8 k kp) := by kernel_rfl
theorem j4_raw (k kp : KT) (ag3 : St → Prop) (x1_0 : Bool) (x1_1 : BA) (x1_2 : Zq4) (x1_3 : Zq6) (x1_4 : Zq0) (x3 x4 : Int) : X4 k kp ag3 (m4 x1_0 x1_1 x1_2 x1_3 x1_4 x3 x4) = j4 (fun x3 x4 => ag3 (mL3 x1_0 x1_1 x1_2 x1_3 x1_4 x3 x4)) x1_0 x1_1 x1_2 x1_3 x1_4 x3 x4 (fun y0 => k (.v (.bool y0)) []) :=
  Eq.mp (by kernel_rfl) ((atP_run (j4_ag k kp ag3) (m4 x1_0 x1_1 x1_2 x1_3 x1_4 x3 x4)).trans (j4_c k kp (JJ_3 k kp ag3) (LL_3 k kp ag3) ag3 x1_0 x1_1 x1_2 x1_3 x1_4 x3 x4))
theorem j4_eq (k kp : KT) (ag3 : St → Prop) (x1_0 : Bool) (x1_1 : BA) (x1_2 : Zq4) (x1_3 : Zq6) (x1_4 : Zq0) (x3 x4 : Int) : X4 k kp ag3 (m4 x1_0 x1_1 x1_2 x1_3 x1_4 x3 x4) = j4' (fun x3 x4 => ag3 (mL3 x1_0 x1_1 x1_2 x1_3 x1_4 x3 x4)) x1_0 x1_1 x1_2 x1_3 x1_4 x3 x4 (fun y0 => k (.v (.bool y0)) []) := by
  rw [j4_raw]; rfl
theorem j8_c (k kp : KT) (J L : Nat → St → Prop) (ag3 : St → Prop) (ag7 : St → Prop) (x1_0 : Bool) (x1_1 : BA) (x1_2 : Zq4) (x1_3 : Zq6) (x1_4 : Zq0) (x3 x4 x5 : Int) : runC cfg 8 J L (pick none' [(3, ag3), (7, ag7)]) [1, 1, 0, 1, 0, 0, 1, 0, 0, 1, 1, 0, 0, 1, 1] body (topK cfg Try.f8 k kp) (m8 x1_0 x1_1 x1_2 x1_3 x1_4 x3 x4 x5) = j8 (fun x3 x5 => ag7 (mL7 x1_0 x1_1 x1_2 x1_3 x1_4 x3 x4 x5)) x1_0 x1_1 x1_2 x1_3 x1_4 x3 x4 x5 (fun y0 => k (.v (.bool y0)) []) := by kernel_rfl
theorem j8_ag (k kp : KT) (ag3 : St → Prop) (ag7 : St → Prop) : agPL cfg 8 (JJ_3_7 k kp ag3 ag7) (LL_3_7 k kp ag3 ag7) [1, 1, 0, 1, 0, 0, 1, 0, 0, 1, 1, 0, 0, 1, 1] body = agPR cfg 8 (pick none' [(3, ag3), (7, ag7)]) [1, 1, 0, 1, 0, 0, 1, 0, 0, 1, 1, 0, 0, 1, 1] body (topK cfg Try.f8 k kp) := by kernel_rfl
theorem j8_raw (k kp : KT) (ag3 : St → Prop) (ag7 : St → Prop) (x1_0 : Bool) (x1_1 : BA) (x1_2 : Zq4) (x1_3 : Zq6) (x1_4 : Zq0) (x3 x4 x5 : Int) : X8 k kp ag3 ag7 (m8 x1_0 x1_1 x1_2 x1_3 x1_4 x3 x4 x5) = j8 (fun x3 x5 => ag7 (mL7 x1_0 x1_1 x1_2 x1_3 x1_4 x3 x4 x5)) x1_0 x1_1 x1_2 x1_3 x1_4 x3 x4 x5 (fun y0 => k (.v (.bool y0)) []) :=
  Eq.mp (by kernel_rfl) ((atP_run (j8_ag k kp ag3 ag7) (m8 x1_0 x1_1 x1_2 x1_3 x1_4 x3 x4 x5)).trans (j8_c k kp (JJ_3_7 k kp ag3 ag7) (LL_3_7 k kp ag3 ag7) ag3 ag7 x1_0 x1_1 x1_2 x1_3 x1_4 x3 x4 x5))
theorem j8_eq (k kp : KT) (ag3 : St → Prop) (ag7 : St → Prop) (x1_0 : Bool) (x1_1 : BA) (x1_2 : Zq4) (x1_3 : Zq6) (x1_4 : Zq0) (x3 x4 x5 : Int) : X8 k kp ag3 ag7 (m8 x1_0 x1_1 x1_2 x1_3 x1_4 x3 x4 x5) = j8' (fun x3 x5 => ag7 (mL7 x1_0 x1_1 x1_2 x1_3 x1_4 x3 x4 x5)) x1_0 x1_1 x1_2 x1_3 x1_4 x3 x4 x5 (fun y0 => k (.v (.bool y0)) []) := by
  rw [j8_raw]; rfl
theorem l12_c (k kp : KT) (J L : Nat → St → Prop) (ag3 : St → Prop) (ag7 : St → Prop) (ag12 : St → Prop) (x1_0 : Bool) (x1_1 : BA) (x1_2 : Zq4) (x1_3 : Zq6) (x1_4 : Zq0) (x3 x4 : Int) (x5 x7 : Int) (b0_0 b0_1 : Int) (b0_2 b0_3 b0_4 : Int) (b0_5 : Zq6) (b0_6 : BA) (b0_7 : Int) (b0_8 : LB) (b0_9 : LI) : runC cfg 1000001 J L (pick none' [(3, ag3), (7, ag7), (12, ag12)]) [1, 1, 0, 1, 0, 0, 1, 0, 0, 1, 1, 0, 0, 1, 0, 0, 1, 1, 1, 0, 0] body (topK cfg Try.f8 k kp) (mL12 x1_0 x1_1 x1_2 x1_3 x1_4 x3 x4 x5 x7 b0_0 b0_1 b0_2 b0_3 b0_4 b0_5 b0_6 b0_7 b0_8 b0_9) = l12 (fun x1_0 x1_1 x1_2 x1_3 x1_4 x3 x4 x5 => J 8 (m8 x1_0 x1_1 x1_2 x1_3 x1_4 x3 x4 x5)) (fun x3 x7 b0_0 b0_1 b0_2 b0_3 b0_4 b0_5 b0_6 b0_7 b0_8 b0_9 => ag12 (mL12 x1_0 x1_1 x1_2 x1_3 x1_4 x3 x4 x5 x7 b0_0 b0_1 b0_2 b0_3 b0_4 b0_5 b0_6 b0_7 b0_8 b0_9)) x1_0 x1_1 x1_2 x1_3 x1_4 x3 x4 x5 x7 b0_0 b0_1 b0_2 b0_3 b0_4 b0_5 b0_6 b0_7 b0_8 b0_9 (fun y0 => k (.v (.bool y0)) []) := by kernel_rfl
theorem l12_ag (k kp : KT) (ag3 : St → Prop) (ag7 : St → Prop) (ag12 : St → Prop) : agPL cfg 1000001 (JJ_3_7_12 k kp ag3 ag7 ag12) (LL_3_7_12 k kp ag3 ag7 ag12) [1, 1, 0, 1, 0, 0, 1, 0, 0, 1, 1, 0, 0, 1, 0, 0, 1, 1, 1, 0, 0] body = agPR cfg 1000001 (pick none' [(3, ag3), (7, ag7), (12, ag12)]) [1, 1, 0, 1, 0, 0, 1, 0, 0, 1, 1, 0, 0, 1, 0, 0, 1, 1, 1, 0, 0] body (topK cfg Try.f8 k kp) := by kernel_rfl
theorem l12_raw (k kp : KT) (ag3 : St → Prop) (ag7 : St → Prop) (ag12 : St → Prop) (x1_0 : Bool) (x1_1 : BA) (x1_2 : Zq4) (x1_3 : Zq6) (x1_4 : Zq0) (x3 x4 : Int) (x5 x7 : Int) (b0_0 b0_1 : Int) (b0_2 b0_3 b0_4 : Int) (b0_5 : Zq6) (b0_6 : BA) (b0_7 : Int) (b0_8 : LB) (b0_9 : LI) : YL12 k kp ag3 ag7 ag12 (mL12 x1_0 x1_1 x1_2 x1_3 x1_4 x3 x4 x5 x7 b0_0 b0_1 b0_2 b0_3 b0_4 b0_5 b0_6 b0_7 b0_8 b0_9) = l12 (fun x1_0 x1_1 x1_2 x1_3 x1_4 x3 x4 x5 => X8 k kp ag3 ag7 (m8 x1_0 x1_1 x1_2 x1_3 x1_4 x3 x4 x5)) (fun x3 x7 b0_0 b0_1 b0_2 b0_3 b0_4 b0_5 b0_6 b0_7 b0_8 b0_9 => ag12 (mL12 x1_0 x1_1 x1_2 x1_3 x1_4 x3 x4 x5 x7 b0_0 b0_1 b0_2 b0_3 b0_4 b0_5 b0_6 b0_7 b0_8 b0_9)) x1_0 x1_1 x1_2 x1_3 x1_4 x3 x4 x5 x7 b0_0 b0_1 b0_2 b0_3 b0_4 b0_5 b0_6 b0_7 b0_8 b0_9 (fun y0 => k (.v (.bool y0)) []) :=
  Eq.mp (by kernel_rfl) ((atP_run (l12_ag k kp ag3 ag7 ag12) (mL12 x1_0 x1_1 x1_2 x1_3 x1_4 x3 x4 x5 x7 b0_0 b0_1 b0_2 b0_3 b0_4 b0_5 b0_6 b0_7 b0_8 b0_9)).trans (l12_c k kp (JJ_3_7_12 k kp ag3 ag7 ag12) (LL_3_7_12 k kp ag3 ag7 ag12) ag3 ag7 ag12 x1_0 x1_1 x1_2 x1_3 x1_4 x3 x4 x5 x7 b0_0 b0_1 b0_2 b0_3 b0_4 b0_5 b0_6 b0_7 b0_8 b0_9))
theorem l12_eq (k kp : KT) (ag3 : St → Prop) (ag7 : St → Prop) (x1_0 : Bool) (x1_1 : BA) (x1_2 : Zq4) (x1_3 : Zq6) (x1_4 : Zq0) (x3 x4 : Int) (x5 x7 : Int) (b0_0 b0_1 : Int) (b0_2 b0_3 b0_4 : Int) (b0_5 : Zq6) (b0_6 : BA) (b0_7 : Int) (b0_8 : LB) (b0_9 : LI) : XL12 k kp ag3 ag7 (mL12 x1_0 x1_1 x1_2 x1_3 x1_4 x3 x4 x5 x7 b0_0 b0_1 b0_2 b0_3 b0_4 b0_5 b0_6 b0_7 b0_8 b0_9) = l12' (fun x3 x5 => ag7 (mL7 x1_0 x1_1 x1_2 x1_3 x1_4 x3 x4 x5)) x1_0 x1_1 x1_2 x1_3 x1_4 x3 x4 x5 x7 b0_0 b0_1 b0_2 b0_3 b0_4 b0_5 b0_6 b0_7 b0_8 b0_9 (fun y0 => k (.v (.bool y0)) []) :=
  loop_eq (mk := fun (s : Int × Int × Int × Int × Int × Int × Int × Zq6 × BA × Int × LB × LI) => mL12 x1_0 x1_1 x1_2 x1_3 x1_4 s.1 x4 x5 s.2.1 s.2.2.1 s.2.2.2.1 s.2.2.2.2.1 s.2.2.2.2.2.1 s.2.2.2.2.2.2.1 s.2.2.2.2.2.2.2.1 s.2.2.2.2.2.2.2.2.1 s.2.2.2.2.2.2.2.2.2.1 s.2.2.2.2.2.2.2.2.2.2.1 s.2.2.2.2.2.2.2.2.2.2.2) (fun again s => by rw [l12_raw k kp ag3 ag7 again x1_0 x1_1 x1_2 x1_3 x1_4 s.1 x4 x5 s.2.1 s.2.2.1 s.2.2.2.1 s.2.2.2.2.1 s.2.2.2.2.2.1 s.2.2.2.2.2.2.1 s.2.2.2.2.2.2.2.1 s.2.2.2.2.2.2.2.2.1 s.2.2.2.2.2.2.2.2.2.1 s.2.2.2.2.2.2.2.2.2.2.1 s.2.2.2.2.2.2.2.2.2.2.2]; simp only [j8_eq]; first | done | rfl) (x3, x7, b0_0, b0_1, b0_2, b0_3, b0_4, b0_5, b0_6, b0_7, b0_8, b0_9)
theorem l7_c (k kp : KT) (J L : Nat → St → Prop) (ag3 : St → Prop) (ag7 : St → Prop) (x1_0 : Bool) (x1_1 : BA) (x1_2 : Zq4) (x1_3 : Zq6) (x1_4 : Zq0) (x3 x4 x5 : Int) : runC cfg 1000001 J L (pick none' [(3, ag3), (7, ag7)]) [1, 1, 0, 1, 0, 0, 1, 0, 0, 1, 1, 0, 0] body (topK cfg Try.f8 k kp) (mL7 x1_0 x1_1 x1_2 x1_3 x1_4 x3 x4 x5) = l7 (fun x1_0 x1_1 x1_2 x1_3 x1_4 x3 x4 x5 x7 b0_0 b0_1 b0_2 b0_3 b0_4 b0_5 b0_6 b0_7 b0_8 b0_9 => L 12 (mL12 x1_0 x1_1 x1_2 x1_3 x1_4 x3 x4 x5 x7 b0_0 b0_1 b0_2 b0_3 b0_4 b0_5 b0_6 b0_7 b0_8 b0_9)) (fun x1_0 x1_1 x1_2 x1_3 x1_4 x3 x4 => J 4 (m4 x1_0 x1_1 x1_2 x1_3 x1_4 x3 x4)) x1_0 x1_1 x1_2 x1_3 x1_4 x3 x4 x5 (fun y0 => k (.v (.bool y0)) []) := by kernel_rfl
theorem l7_ag (k kp : KT) (ag3 : St → Prop) (ag7 : St → Prop) : agPL cfg 1000001 (JJ_3_7 k kp ag3 ag7) (LL_3_7 k kp ag3 ag7) [1, 1, 0, 1, 0, 0, 1, 0, 0, 1, 1, 0, 0] body = agPR cfg 1000001 (pick none' [(3, ag3), (7, ag7)]) [1, 1, 0, 1, 0, 0, 1, 0, 0, 1, 1, 0, 0] body (topK cfg Try.f8 k kp) := by kernel_rfl
theorem l7_raw (k kp : KT) (ag3 : St → Prop) (ag7 : St → Prop) (x1_0 : Bool) (x1_1 : BA) (x1_2 : Zq4) (x1_3 : Zq6) (x1_4 : Zq0) (x3 x4 x5 : Int) : YL7 k kp ag3 ag7 (mL7 x1_0 x1_1 x1_2 x1_3 x1_4 x3 x4 x5) = l7 (fun x1_0 x1_1 x1_2 x1_3 x1_4 x3 x4 x5 x7 b0_0 b0_1 b0_2 b0_3 b0_4 b0_5 b0_6 b0_7 b0_8 b0_9 => XL12 k kp ag3 ag7 (mL12 x1_0 x1_1 x1_2 x1_3 x1_4 x3 x4 x5 x7 b0_0 b0_1 b0_2 b0_3 b0_4 b0_5 b0_6 b0_7 b0_8 b0_9)) (fun x1_0 x1_1 x1_2 x1_3 x1_4 x3 x4 => X4 k kp ag3 (m4 x1_0 x1_1 x1_2 x1_3 x1_4 x3 x4)) x1_0 x1_1 x1_2 x1_3 x1_4 x3 x4 x5 (fun y0 => k (.v (.bool y0)) []) :=
  Eq.mp (by kernel_rfl) ((atP_run (l7_ag k kp ag3 ag7) (mL7 x1_0 x1_1 x1_2 x1_3 x1_4 x3 x4 x5)).trans (l7_c k kp (JJ_3_7 k kp ag3 ag7) (LL_3_7 k kp ag3 ag7) ag3 ag7 x1_0 x1_1 x1_2 x1_3 x1_4 x3 x4 x5))
theorem l7_eq (k kp : KT) (ag3 : St → Prop) (x1_0 : Bool) (x1_1 : BA) (x1_2 : Zq4) (x1_3 : Zq6) (x1_4 : Zq0) (x3 x4 x5 : Int) : XL7 k kp ag3 (mL7 x1_0 x1_1 x1_2 x1_3 x1_4 x3 x4 x5) = l7' (fun x3 x4 => ag3 (mL3 x1_0 x1_1 x1_2 x1_3 x1_4 x3 x4)) x1_0 x1_1 x1_2 x1_3 x1_4 x3 x4 x5 (fun y0 => k (.v (.bool y0)) []) :=
  loop_eq (mk := fun (s : Int × Int) => mL7 x1_0 x1_1 x1_2 x1_3 x1_4 s.1 x4 s.2) (fun again s => by rw [l7_raw k kp ag3 again x1_0 x1_1 x1_2 x1_3 x1_4 s.1 x4 s.2]; simp only [l12_eq, j4_eq]; first | done | rfl) (x3, x5)
theorem l3_c (k kp : KT) (J L : Nat → St → Prop) (ag3 : St → Prop) (x1_0 : Bool) (x1_1 : BA) (x1_2 : Zq4) (x1_3 : Zq6) (x1_4 : Zq0) (x3 x4 : Int) : runC cfg 1000001 J L (pick none' [(3, ag3)]) [1, 1, 0, 1, 0, 0] body (topK cfg Try.f8 k kp) (mL3 x1_0 x1_1 x1_2 x1_3 x1_4 x3 x4) = l3 (fun x1_0 x1_1 x1_2 x1_3 x1_4 x3 x4 x5 => L 7 (mL7 x1_0 x1_1 x1_2 x1_3 x1_4 x3 x4 x5)) (fun x1_0 x1_1 x1_2 x1_3 x1_4 x3 => J 15 (m15 x1_0 x1_1 x1_2 x1_3 x1_4 x3)) x1_0 x1_1 x1_2 x1_3 x1_4 x3 x4 (fun y0 => k (.v (.bool y0)) []) := by kernel_rfl
theorem l3_ag (k kp : KT) (ag3 : St → Prop) : agPL cfg 1000001 (JJ_3 k kp ag3) (LL_3 k kp ag3) [1, 1, 0, 1, 0, 0] body = agPR cfg 1000001 (pick none' [(3, ag3)]) [1, 1, 0, 1, 0, 0] body (topK cfg Try.f8 k kp) := by kernel_rfl
theorem l3_raw (k kp : KT) (ag3 : St → Prop) (x1_0 : Bool) (x1_1 : BA) (x1_2 : Zq4) (x1_3 : Zq6) (x1_4 : Zq0) (x3 x4 : Int) : YL3 k kp ag3 (mL3 x1_0 x1_1 x1_2 x1_3 x1_4 x3 x4) = l3 (fun x1_0 x1_1 x1_2 x1_3 x1_4 x3 x4 x5 => XL7 k kp ag3 (mL7 x1_0 x1_1 x1_2 x1_3 x1_4 x3 x4 x5)) (fun x1_0 x1_1 x1_2 x1_3 x1_4 x3 => X15 k kp (m15 x1_0 x1_1 x1_2 x1_3 x1_4 x3)) x1_0 x1_1 x1_2 x1_3 x1_4 x3 x4 (fun y0 => k (.v (.bool y0)) []) :=
  Eq.mp (by kernel_rfl) ((atP_run (l3_ag k kp ag3) (mL3 x1_0 x1_1 x1_2 x1_3 x1_4 x3 x4)).trans (l3_c k kp (JJ_3 k kp ag3) (LL_3 k kp ag3) ag3 x1_0 x1_1 x1_2 x1_3 x1_4 x3 x4))
theorem l3_eq (k kp : KT) (x1_0 : Bool) (x1_1 : BA) (x1_2 : Zq4) (x1_3 : Zq6) (x1_4 : Zq0) (x3 x4 : Int) : XL3 k kp (mL3 x1_0 x1_1 x1_2 x1_3 x1_4 x3 x4) = l3' x1_0 x1_1 x1_2 x1_3 x1_4 x3 x4 (fun y0 => k (.v (.bool y0)) []) :=
  loop_eq (mk := fun (s : Int × Int) => mL3 x1_0 x1_1 x1_2 x1_3 x1_4 s.1 s.2) (fun again s => by rw [l3_raw k kp again x1_0 x1_1 x1_2 x1_3 x1_4 s.1 s.2]; simp only [l7_eq, j15_eq]; first | done | rfl) (x3, x4)
theorem c_c (k kp : KT) (J L : Nat → St → Prop) (x0_0 : Bool) (x0_1 : BA) (x0_2 : Zq4) (x0_3 : Zq6) (x0_4 : Zq0) : runC cfg 1000001 J L none'' [] body (topK cfg Try.f8 k kp) (st0 Try.f8 [(.agg [(.v (.bool x0_0)), (.v (.string x0_1)), (.fz (Ty.pair Zy2 Zy2) x0_2), (.fz Zy0 x0_3), (.fz Zy1 x0_4)])] []) = c (fun x1_0 x1_1 x1_2 x1_3 x1_4 x3 x4 => L 3 (mL3 x1_0 x1_1 x1_2 x1_3 x1_4 x3 x4)) x0_0 x0_1 x0_2 x0_3 x0_4 (fun y0 => k (.v (.bool y0)) []) := by kernel_rfl
theorem c_ag (k kp : KT) : agPL cfg 1000001 (JJ k kp) (LL k kp) [] body = agPR cfg 1000001 none'' [] body (topK cfg Try.f8 k kp) := by kernel_rfl
theorem body_is : Try.f8.body = some body := by kernel_rfl
theorem c_raw (k kp : KT) (x0_0 : Bool) (x0_1 : BA) (x0_2 : Zq4) (x0_3 : Zq6) (x0_4 : Zq0) : funW cfg Try.f8 [(.agg [(.v (.bool x0_0)), (.v (.string x0_1)), (.fz (Ty.pair Zy2 Zy2) x0_2), (.fz Zy0 x0_3), (.fz Zy1 x0_4)])] [] k kp = c (fun x1_0 x1_1 x1_2 x1_3 x1_4 x3 x4 => XL3 k kp (mL3 x1_0 x1_1 x1_2 x1_3 x1_4 x3 x4)) x0_0 x0_1 x0_2 x0_3 x0_4 (fun y0 => k (.v (.bool y0)) []) :=
  Eq.mp (by kernel_rfl) ((funW_run (AG := none'') body_is (c_ag k kp) [(.agg [(.v (.bool x0_0)), (.v (.string x0_1)), (.fz (Ty.pair Zy2 Zy2) x0_2), (.fz Zy0 x0_3), (.fz Zy1 x0_4)])] []).trans (c_c k kp (JJ k kp) (LL k kp) x0_0 x0_1 x0_2 x0_3 x0_4))
theorem f_eq (k kp : KT) (x0_0 : Bool) (x0_1 : BA) (x0_2 : Zq4) (x0_3 : Zq6) (x0_4 : Zq0) : funW cfg Try.f8 [(.agg [(.v (.bool x0_0)), (.v (.string x0_1)), (.fz (Ty.pair Zy2 Zy2) x0_2), (.fz Zy0 x0_3), (.fz Zy1 x0_4)])] [] k kp = f x0_0 x0_1 x0_2 x0_3 x0_4 (fun y0 => k (.v (.bool y0)) []) := by
  rw [f_def, c_raw]; simp only [l3_eq]; first | done | rfl
noncomputable def ent0 : Entry := fun args blks k _ => match args, blks with
  | [d0], [] => aAgg 5 d0 fun l => aCons l fun d0_0 l => aCons l fun d0_1 l => aCons l fun d0_2 l => aCons l fun d0_3 l => aCons l fun d0_4 l => aNil l (aBool d0_0 fun x0_0 => aStr d0_1 fun x0_1 => aFz (Ty.pair Zy2 Zy2) d0_2 fun x0_2 => aFz Zy0 d0_3 fun x0_3 => aFz Zy1 d0_4 fun x0_4 => f x0_0 x0_1 x0_2 x0_3 x0_4 (fun y0 => k (.v (.bool y0)) []))
  | _, _ => False
noncomputable def ent : Entry := fun args blks k kp => ent0 (convB [.cells [none, none, some (Ty.pair Zy2 Zy2), some Zy0, some Zy1]] args) blks k kp
theorem ok : EntOk Try.prog 0 0 8 ent := by
  refine EntOk.convB (EntOk.of (funW_ok (cfg := cfg) (tyOk_of rfl rfl tyL_ok) (eqOk_of (P := Try.prog) rfl rfl (by kernel_rfl)) mixed_ok (tab_ok ?_) Try.func8 (by rfl) (by rfl)) ?_) _
  · intro p hp
    cases hp
  · intro args blks k kp h k' kp'
    match args, blks, h with
    | [d0], [], h =>
    dsimp only [ent0] at h
    have h9 := aAgg_elim h; clear h; obtain ⟨_, rfl, h⟩ := h9
    have h9 := aCons_elim h; clear h; obtain ⟨d0_0, _, rfl, h⟩ := h9
    have h9 := aCons_elim h; clear h; obtain ⟨d0_1, _, rfl, h⟩ := h9
    have h9 := aCons_elim h; clear h; obtain ⟨d0_2, _, rfl, h⟩ := h9
    have h9 := aCons_elim h; clear h; obtain ⟨d0_3, _, rfl, h⟩ := h9
    have h9 := aCons_elim h; clear h; obtain ⟨d0_4, _, rfl, h⟩ := h9
    have h9 := aNil_elim h; clear h; obtain ⟨rfl, h⟩ := h9
    have h9 := aBool_elim h; clear h; obtain ⟨x0_0, rfl, h⟩ := h9
    have h9 := aStr_elim h; clear h; obtain ⟨x0_1, rfl, h⟩ := h9
    have h9 := aFz_elim (t := (Ty.pair Zy2 Zy2)) h; clear h; obtain ⟨x0_2, rfl, h⟩ := h9
    have h9 := aFz_elim (t := Zy0) h; clear h; obtain ⟨x0_3, rfl, h⟩ := h9
    have h9 := aFz_elim (t := Zy1) h; clear h; obtain ⟨x0_4, rfl, h⟩ := h9
    exact (f_eq k' kp' x0_0 x0_1 x0_2 x0_3 x0_4).symm
end N8
end Go.Proofs.Yh

namespace Go.Proofs.Yh.Sh
open Go Go.Aw Go.Proofs Go.RowKit
theorem push_bytes (l : List Int) (x : Int) : (bytesOf l).push (UInt8.ofNat x.toNat) = bytesOf (l ++ [x]) := by
  apply ByteArray.ext
  unfold bytesOf
  rw [ByteArray.data_push]
  simp
theorem wb_s {x : Int} {l : List Int} {k : ByteArray → Prop} (hx : isB x) (hl : l.length + 1 ≤ 140737488355328) (h : k (bytesOf (l ++ [x]))) : wb x (bytesOf l) k := by
  rw [wb_def]
  refine ⟨hx, by rw [bytesOf_size]; exact hl, ?_⟩
  rw [push_bytes]; exact h
theorem ws_s {t l : List Int} {k : Int → ByteArray → Prop} (hl : l.length + t.length ≤ 140737488355328) (h : k (t.length : Int) (bytesOf (l ++ t))) : ws (bytesOf t) (bytesOf l) k := by
  rw [ws_def]
  refine ⟨by rw [bytesOf_size, bytesOf_size]; exact hl, ?_⟩
  rw [← bytesOf_append, bytesOf_size]; exact h
theorem bs_s {s : ByteArray} {k : ByteArray → Prop} (h : k s) : bs s k := by
  rw [bs_def]; exact h
def hexL (n : Int) : Int := if n < 10 then 48 + n else 87 + n
def oneL (c : Int) : List Int := if c = 10 then [92, 110] else if c = 9 then [92, 116] else if c = 34 then [92, 34] else if c = 92 then [92, 92] else if 32 ≤ c ∧ c ≤ 126 then [c] else [92, 120, hexL (c / 16), hexL (c % 16)]
def qputL (l : List Int) : List Int := 34 :: (l.flatMap oneL ++ [34])
theorem oneL_len (c : Int) : (oneL c).length ≤ 4 := by
  unfold oneL
  repeat' split
  all_goals simp
theorem flat_len : ∀ l : List Int, (l.flatMap oneL).length ≤ 4 * l.length
  | [] => by simp
  | c :: l => by
    rw [List.flatMap_cons, List.length_append, List.length_cons]
    have := oneL_len c
    have := flat_len l
    omega
theorem hexes_get (n : Int) (h0 : 0 ≤ n) (h1 : n < 16) : byteAt (ByteArray.mk #[48, 49, 50, 51, 52, 53, 54, 55, 56, 57, 97, 98, 99, 100, 101, 102]) n = hexL n := by
  obtain ⟨m, rfl⟩ : ∃ m : Nat, n = m := ⟨n.toNat, by omega⟩
  have hm : m < 16 := by omega
  have : ∀ j : Fin 16, byteAt (ByteArray.mk #[48, 49, 50, 51, 52, 53, 54, 55, 56, 57, 97, 98, 99, 100, 101, 102]) (j.val : Int) = hexL (j.val : Int) := by decide
  exact this ⟨m, hm⟩
theorem hexes_ext (n : Int) (h0 : 0 ≤ n) (h1 : n < 16) : ByteArray.extract (ByteArray.mk #[48, 49, 50, 51, 52, 53, 54, 55, 56, 57, 97, 98, 99, 100, 101, 102]) (Int.toNat n) (Int.toNat (n + 1)) = bytesOf [hexL n] := by
  obtain ⟨m, rfl⟩ : ∃ m : Nat, n = m := ⟨n.toNat, by omega⟩
  have hm : m < 16 := by omega
  have : ∀ j : Fin 16, ByteArray.extract (ByteArray.mk #[48, 49, 50, 51, 52, 53, 54, 55, 56, 57, 97, 98, 99, 100, 101, 102]) (Int.toNat (j.val : Int)) (Int.toNat ((j.val : Int) + 1)) = bytesOf [hexL (j.val : Int)] := by
    intro j
    apply eq_of_ofBytes
    revert j
    decide
  exact this ⟨m, hm⟩
theorem hexL_isB (n : Int) (h0 : 0 ≤ n) (h1 : n < 16) : isB (hexL n) := by
  unfold hexL isB; split <;> omega
theorem plain_s (c : Int) (hc : isB c) (k : Bool → Prop) (h : k (decide (32 ≤ c ∧ c ≤ 126 ∧ c ≠ 34 ∧ c ≠ 92))) : N59.f c k := by
  rw [N59.f_def]
  unfold N59.f0 N59.c
  simp only [br_dec, br_bne]
  have e : ∀ b : Bool, decide (32 ≤ c ∧ c ≤ 126 ∧ c ≠ 34 ∧ c ≠ 92) = b → k b := fun b hb => hb ▸ h
  split
  · split
    · split
      · exact e _ (decide_eq_false (by omega))
      · refine e _ ?_
        by_cases h92 : c = 92
        · rw [decide_eq_false (by omega)]; subst h92; rfl
        · rw [decide_eq_true (by omega)]; simp [h92]
    · exact e _ (decide_eq_false (by omega))
  · exact e _ (decide_eq_false (by omega))
theorem qletter_s (c : Int) (hc : isB c) (k : Int → Bool → Prop) (h : if c = 10 then k 110 true else if c = 9 then k 116 true else if c = 34 ∨ c = 92 then k c true else k 0 false) : N60.f c k := by
  rw [N60.f_def]
  unfold N60.f0 N60.c N60.j2000008' N60.j2000008 N60.j9' N60.j9
  simp only [br_beq]
  repeat' split
  all_goals simp_all
theorem fdiv16 (c : Int) (hc : isB c) : Int.fdiv c (2 ^ min (Int.toNat (4 : Int)) 8) = c / 16 := by
  unfold isB at hc
  rw [show (2 : Int) ^ min (Int.toNat (4 : Int)) 8 = 16 from rfl, Int.fdiv_eq_ediv_of_nonneg _ (by decide)]
theorem and15 (c : Int) (hc : isB c) : andI IntKind.u8 c 15 = c % 16 := by
  unfold isB at hc
  obtain ⟨m, rfl⟩ : ∃ m : Nat, c = m := ⟨c.toNat, by omega⟩
  have hm : m < 256 := by omega
  have : ∀ j : Fin 256, andI IntKind.u8 (j.val : Int) 15 = (j.val : Int) % 16 := by decide +kernel
  exact this ⟨m, hm⟩
theorem take_flat {L : List Int} {i : Nat} (h : i < L.length) (f : Int → List Int) : (L.take (i + 1)).flatMap f = (L.take i).flatMap f ++ f (L.getD i 0) := by
  rw [List.take_succ_eq_append_getElem h, List.flatMap_append]
  simp [List.getD, List.getElem?_eq_getElem h]
theorem put_s_q (x : ByteArray) (hx : x.size ≤ 1000000000000) (k : ByteArray → Prop) (h : k (bytesOf (qputL (ofBytes x)))) : N37.f x k := by
  rw [N37.f_def]
  unfold N37.f0 N37.c
  have hn := ofBytes_length x
  rw [show ByteArray.empty = bytesOf [] from rfl]
  refine wb_s ⟨by decide, by decide⟩ (by simp) ?_
  unfold N37.l4'
  refine loopS_of (fun s : Int × ByteArray => ∃ i : Nat, s.1 = i ∧ i ≤ (ofBytes x).length ∧ s.2 = bytesOf (34 :: ((ofBytes x).take i).flatMap oneL)) (fun s => (ofBytes x).length - s.1.toNat) ?_ ⟨0, rfl, Nat.zero_le _, rfl⟩
  rintro again ⟨a, b⟩ ⟨i, e1, hi, e2⟩ hag
  simp only at e1 e2
  subst e1; subst e2
  unfold N37.l4 N37.j16' N37.j16 N37.j17' N37.j17
  dsimp only
  have hfl := flat_len ((ofBytes x).take i)
  have hln : ((ofBytes x).take i).length ≤ i := by simp; omega
  refine br_of (fun hlt => ?_) (fun hge => ?_)
  · have hlt : i < (ofBytes x).length := by simp at hlt; omega
    have hc := getD_isB x i
    have step : ∀ l : List Int, l = 34 :: (((ofBytes x).take i).flatMap oneL ++ oneL ((ofBytes x).getD i 0)) → again (IntKind.i64.wrap ((i : Int) + 1), bytesOf l) := by
      rintro l rfl
      rw [wrap_id (by omega) (by omega)]
      refine hag _ ⟨i + 1, by simp, by omega, ?_⟩ (by simp only; omega)
      rw [take_flat hlt]
    rw [byteAt_eq]
    generalize (ofBytes x).getD i 0 = c at *
    have hc' := hc
    unfold isB at hc'
    refine ⟨⟨by omega, by omega, by omega⟩, plain_s c hc _ ?_⟩
    refine br_of (fun hp => ?_) (fun hp => ?_)
    · have hp := of_decide_eq_true hp
      refine wb_s hc (by simp only [List.length_cons, List.length_append, List.length_nil]; omega) (step _ ?_)
      unfold oneL
      rw [if_neg (by omega), if_neg (by omega), if_neg (by omega), if_neg (by omega), if_pos ⟨hp.1, hp.2.1⟩]
      rfl
    · have hp := of_decide_eq_false hp
      refine wb_s ⟨by decide, by decide⟩ (by simp only [List.length_cons, List.length_append, List.length_nil]; omega) (qletter_s c hc _ ?_)
      split
      · rename_i hh; subst hh
        exact wb_s ⟨by decide, by decide⟩ (by simp only [List.length_cons, List.length_append, List.length_nil]; omega) (step _ (by simp [oneL]))
      · split
        · rename_i hh; subst hh
          exact wb_s ⟨by decide, by decide⟩ (by simp only [List.length_cons, List.length_append, List.length_nil]; omega) (step _ (by simp [oneL]))
        · split
          · rename_i hh
            refine wb_s hc (by simp only [List.length_cons, List.length_append, List.length_nil]; omega) (step _ ?_)
            rcases hh with rfl | rfl <;> simp [oneL]
          · rename_i h1 h2 h3
            refine wb_s ⟨by decide, by decide⟩ (by simp only [List.length_cons, List.length_append, List.length_nil]; omega) ⟨by decide, ?_⟩
            rw [fdiv16 c hc, and15 c hc, hexes_get _ (by omega) (by omega), hexes_get _ (by omega) (by omega)]
            refine ⟨⟨by omega, by omega, by show c / 16 ≤ 15; omega⟩, wb_s (hexL_isB _ (by omega) (by omega)) (by simp only [List.length_cons, List.length_append, List.length_nil]; omega) ⟨⟨by omega, by omega, by show c % 16 ≤ 15; omega⟩, wb_s (hexL_isB _ (by omega) (by omega)) (by simp only [List.length_cons, List.length_append, List.length_nil]; omega) (step _ ?_)⟩⟩
            unfold oneL
            rw [if_neg h1, if_neg h2, if_neg (fun e => h3 (.inl e)), if_neg (fun e => h3 (.inr e)), if_neg (by omega)]
            simp
  · have hge : i = (ofBytes x).length := by simp at hge; omega
    subst hge
    rw [List.take_length] at *
    exact wb_s ⟨by decide, by decide⟩ (by simp only [List.length_cons, List.length_append, List.length_nil]; omega) (bs_s h)
theorem one_s (c : Int) (hc : isB c) (k : ByteArray → Prop) (h : k (bytesOf (oneL c))) : N63.f c k := by
  rw [N63.f_def]
  unfold N63.f0 N63.c N63.j2000011' N63.j2000011 N63.j12' N63.j12
  unfold oneL at h
  have hc' := hc
  unfold isB at hc'
  have last : k (bytesOf [92, 120, hexL (c / 16), hexL (c % 16)]) → N63.j12 c k := by
    intro h
    unfold N63.j12
    have e1 : IntKind.u8.wrap (Int.tdiv c 16) = c / 16 := by rw [Int.tdiv_eq_ediv_of_nonneg hc'.1, wu8_eq]; omega
    have e2 : Int.tmod c 16 = c % 16 := Int.tmod_eq_emod_of_nonneg hc'.1
    have e3 : IntKind.u8.wrap (c / 16 + 1) = c / 16 + 1 := by rw [wu8_eq]; omega
    have e4 : IntKind.u8.wrap (c % 16 + 1) = c % 16 + 1 := by rw [wu8_eq]; omega
    rw [e1, e2, e3, e4, hexes_ext _ (by omega) (by omega), hexes_ext _ (by omega) (by omega), show ByteArray.mk #[92, 120] = bytesOf [92, 120] from rfl, ← bytesOf_append, ← bytesOf_append]
    refine ⟨by decide, by decide, ⟨by omega, by omega, by show c / 16 + 1 ≤ 16; omega⟩, by rw [bytesOf_size, bytesOf_size]; simp, by decide, by decide, ⟨by omega, by omega, by show c % 16 + 1 ≤ 16; omega⟩, by rw [bytesOf_size, bytesOf_size]; simp, h⟩
  simp only [br_beq]
  split
  · rename_i e; rw [if_pos e] at h; exact h
  · rename_i h1; rw [if_neg h1] at h
    split
    · rename_i e; rw [if_pos e] at h; exact h
    · rename_i h2; rw [if_neg h2] at h
      split
      · rename_i e; rw [if_pos e] at h; exact h
      · rename_i h3; rw [if_neg h3] at h
        split
        · rename_i e; rw [if_pos e] at h; exact h
        · rename_i h4; rw [if_neg h4] at h
          simp only [br_dec, br_false]
          split
          · rename_i h5
            split
            · rename_i h6; rw [if_pos ⟨h5, h6⟩] at h; exact h
            · rename_i h6; rw [if_neg (fun e => h6 e.2)] at h; exact last h
          · rename_i h5; rw [if_neg (fun e => h5 e.1)] at h; exact last h
theorem putr_s_q (x : ByteArray) (hx : x.size ≤ 1000000000000) (k : ByteArray → Prop) (h : k (bytesOf (qputL (ofBytes x)))) : N41.f x k := by
  rw [N41.f_def]
  unfold N41.f0 N41.c
  have hn := ofBytes_length x
  rw [show ByteArray.mk #[34] = bytesOf [34] from rfl]
  unfold N41.l3'
  refine loopS_of (fun s : ByteArray × Int => ∃ i : Nat, s.2 = i ∧ i ≤ (ofBytes x).length ∧ s.1 = bytesOf (34 :: ((ofBytes x).take i).flatMap oneL)) (fun s => (ofBytes x).length - s.2.toNat) ?_ ⟨0, rfl, Nat.zero_le _, rfl⟩
  rintro again ⟨b, a⟩ ⟨i, e1, hi, e2⟩ hag
  simp only at e1 e2
  subst e1; subst e2
  unfold N41.l3 N41.j6' N41.j6
  dsimp only
  have hfl := flat_len ((ofBytes x).take i)
  have hln : ((ofBytes x).take i).length ≤ i := by simp; omega
  refine br_of (fun hlt => ?_) (fun hge => ?_)
  · have hlt : i < (ofBytes x).length := by simp at hlt; omega
    rw [byteAt_eq]
    have h4 := oneL_len ((ofBytes x).getD i 0)
    refine ⟨⟨by omega, by omega, by omega⟩, one_s _ (getD_isB x i) _ ⟨?_, ?_⟩⟩
    · rw [bytesOf_size, bytesOf_size]; simp only [List.length_cons, List.length_append, List.length_nil]; omega
    · rw [wrap_id (by omega) (by omega), ← bytesOf_append]
      refine hag _ ⟨i + 1, by simp, by omega, ?_⟩ (by simp only; omega)
      rw [take_flat hlt]; rfl
  · have hge : i = (ofBytes x).length := by simp at hge; omega
    subst hge
    rw [List.take_length] at *
    rw [show ByteArray.mk #[34] = bytesOf [34] from rfl, ← bytesOf_append]
    refine ⟨?_, h⟩
    rw [bytesOf_size, bytesOf_size]; simp only [List.length_cons, List.length_append, List.length_nil]; omega
end Go.Proofs.Yh.Sh

namespace Go.Proofs.Yh.Sh
open Go Go.Aw Go.Proofs Go.RowKit
abbrev Opd := Int × (Int × (Int × Int))
abbrev Ins := Int × (Opd × (List Opd × (ByteArray × (Int × (List ByteArray × List Int)))))
abbrev Blo := ByteArray × (Bool × (List Opd × List Ins))
abbrev dO : Opd := (0, (0, (0, 0)))
abbrev dI : Ins := (0, ((0, (0, (0, 0))), (([] : List Opd), (ByteArray.empty, (0, (([] : List ByteArray), ([] : List Int)))))))
abbrev dB : Blo := (ByteArray.empty, (false, (([] : List Opd), ([] : List Ins))))
theorem size_mk (a : Array UInt8) : (ByteArray.mk a).size = a.size := rfl
theorem z1 (a : UInt8) : (ByteArray.mk #[a]).size = 1 := rfl
theorem z2 (a b : UInt8) : (ByteArray.mk #[a, b]).size = 2 := rfl
theorem z3 (a b c : UInt8) : (ByteArray.mk #[a, b, c]).size = 3 := rfl
theorem z4 (a b c d : UInt8) : (ByteArray.mk #[a, b, c, d]).size = 4 := rfl
theorem z5 (a b c d e : UInt8) : (ByteArray.mk #[a, b, c, d, e]).size = 5 := rfl
theorem z6 (a b c d e f : UInt8) : (ByteArray.mk #[a, b, c, d, e, f]).size = 6 := rfl
theorem z8 (a b c d e f g h : UInt8) : (ByteArray.mk #[a, b, c, d, e, f, g, h]).size = 8 := rfl
theorem z0 : (ByteArray.mk #[]).size = 0 := rfl
theorem mt : ByteArray.mk #[] = ByteArray.empty := rfl
theorem mt_size : ByteArray.empty.size = 0 := rfl
theorem ws_b {t s : ByteArray} {k : Int → ByteArray → Prop} (hl : s.size + t.size ≤ 140737488355328) (h : k (t.size : Int) (s ++ t)) : ws t s k := by
  rw [ws_def]
  exact ⟨hl, h⟩
theorem bs_b {s : ByteArray} {k : ByteArray → Prop} (h : k s) : bs s k := by
  rw [bs_def]; exact h
theorem push_b (s : ByteArray) (b : UInt8) : s.push b = s ++ ByteArray.mk #[b] := by
  obtain ⟨d⟩ := s
  show ByteArray.mk (d.push b) = _
  apply ByteArray.ext
  rw [ByteArray.data_append]
  show d.push b = d ++ #[b]
  simp
theorem wb_b {x : Int} {s : ByteArray} {k : ByteArray → Prop} (hx : 0 ≤ x ∧ x < 256) (hl : s.size + 1 ≤ 140737488355328) (h : k (s ++ ByteArray.mk #[UInt8.ofNat x.toNat])) : wb x s k := by
  rw [wb_def]
  exact ⟨hx, hl, by rw [push_b]; exact h⟩
theorem beq_b (a b : ByteArray) : beqS a b = decide (a = b) := by
  by_cases h : a = b
  · rw [(beqS_iff a b).2 h, decide_eq_true h]
  · rw [decide_eq_false h]
    cases hh : beqS a b with
    | false => rfl
    | true => exact absurd ((beqS_iff a b).1 hh) h
def putB (n : Int) : ByteArray := bytesOf (putL n)
theorem putB_size (n : Int) : (putB n).size ≤ 21 := by unfold putB; rw [bytesOf_size]; exact (putL_len n).2
theorem nameI_size (a b c : Int) : (nameI a b c).size ≤ 23 := by
  unfold nameI
  have := (putL_len c).2
  repeat' split
  all_goals first | (rw [bytesOf_size]; simp only [List.length_cons]; omega) | (rw [size_mk]; simp)
def opndS (o : Opd) : ByteArray := if o.1 = 0 then ByteArray.mk #[95] else if o.1 = 1 then ByteArray.mk #[37] ++ putB o.2.2.1 else
  if o.1 = 4 then putB o.2.2.1 else if o.1 = 2 then nameI 2 o.2.1 o.2.2.1 ++ ByteArray.mk #[58] ++ (ByteArray.mk #[37] ++ putB o.2.2.2) else
  if o.1 = 3 then nameI 3 0 o.2.2.1 ++ ByteArray.mk #[58] ++ (ByteArray.mk #[37] ++ putB o.2.2.2) else ByteArray.mk #[63]
theorem opndS_size (o : Opd) : (opndS o).size ≤ 60 := by
  unfold opndS
  have := putB_size o.2.2.1
  have := putB_size o.2.2.2
  have := nameI_size 2 o.2.1 o.2.2.1
  have := nameI_size 3 0 o.2.2.1
  repeat' split
  all_goals ((try simp only [ByteArray.size_append, z0, z1, z2, z3, z4, z5, z6, z8, mt_size]); omega)
def opdOk (o : Opd) : Prop := in64 o.1 ∧ in64 o.2.1 ∧ in64 o.2.2.1 ∧ in64 o.2.2.2
theorem vreg_s (n : Int) (hn : in64 n) (k : ByteArray → Prop) (h : k (ByteArray.mk #[37] ++ putB n)) : N16.f n k := by
  rw [N16.f_def]
  unfold N16.f0 N16.c
  refine put_s n hn _ ⟨?_, h⟩
  have := putB_size n
  unfold putB at this
  simp only [size_mk, List.size_toArray, List.length_cons, List.length_nil]; omega
theorem at_s (a b c d : Int) (k : Int → Int → Int → Bool → Prop) (h : if a = 2 then k 2 b c true else if a = 3 then k 3 0 c true else k 0 0 0 false) : N44.f a b c d k := by
  rw [N44.f_def]
  unfold N44.f0 N44.c
  simp only [br_beq]
  exact h
theorem opnd_s (a b c d : Int) (ok : opdOk (a, (b, (c, d)))) (k : ByteArray → Prop) (h : k (opndS (a, (b, (c, d))))) : N14.f a b c d k := by
  obtain ⟨o1, o2, o3, o4⟩ := ok
  rw [N14.f_def]
  unfold N14.f0 N14.c
  unfold opndS at h
  simp only [br_beq]
  dsimp only at h o1 o2 o3 o4
  split
  · rename_i h0; rw [if_pos h0] at h; exact h
  rename_i h0; rw [if_neg h0] at h
  split
  · rename_i h1; rw [if_pos h1] at h; exact vreg_s _ o3 _ h
  rename_i h1; rw [if_neg h1] at h
  split
  · rename_i h1; rw [if_pos h1] at h; exact put_s _ o3 _ h
  rename_i h4; rw [if_neg h4] at h
  have hp := putB_size d
  refine at_s a b c d _ ?_
  split
  · rename_i h2; rw [if_pos h2] at h
    simp only [Bool.not_true, br_false]
    have hn := nameI_size 2 b c
    refine name_s _ _ _ o3 _ ⟨?_, vreg_s _ o4 _ ⟨?_, h⟩⟩
    all_goals (simp only [ByteArray.size_append, z0, z1, z2, z3, z4, z5, z6, z8, mt_size]; omega)
  rename_i h2; rw [if_neg h2] at h
  split
  · rename_i h3; rw [if_pos h3] at h
    simp only [Bool.not_true, br_false]
    have hn := nameI_size 3 0 c
    refine name_s _ _ _ o3 _ ⟨?_, vreg_s _ o4 _ ⟨?_, h⟩⟩
    all_goals (simp only [ByteArray.size_append, z0, z1, z2, z3, z4, z5, z6, z8, mt_size]; omega)
  rename_i h3; rw [if_neg h3] at h
  exact h
theorem opndr_s (a b c d : Int) (ok : opdOk (a, (b, (c, d)))) (k : ByteArray → Prop) (h : k (opndS (a, (b, (c, d))))) : N15.f a b c d k := by
  obtain ⟨o1, o2, o3, o4⟩ := ok
  rw [N15.f_def]
  unfold N15.f0 N15.c
  unfold opndS at h
  simp only [br_beq]
  dsimp only at h o1 o2 o3 o4
  have hp := putB_size d
  have hc := putB_size c
  have col : ByteArray.mk #[58, 37] = ByteArray.mk #[58] ++ ByteArray.mk #[37] := rfl
  refine putr_s _ o4 _ ⟨?_, ?_⟩
  · show (ByteArray.mk #[58, 37]).size + (putB d).size ≤ _
    simp only [ByteArray.size_append, z0, z1, z2, z3, z4, z5, z6, z8, mt_size]; omega
  rw [show bytesOf (putL d) = putB d from rfl]
  split
  · rename_i h0; rw [if_pos h0] at h; exact h
  rename_i h0; rw [if_neg h0] at h
  split
  · rename_i h1; rw [if_pos h1] at h
    refine putr_s _ o3 _ ⟨?_, h⟩
    show (ByteArray.mk #[37]).size + (putB c).size ≤ _
    simp only [ByteArray.size_append, z0, z1, z2, z3, z4, z5, z6, z8, mt_size]; omega
  rename_i h1; rw [if_neg h1] at h
  split
  · rename_i h2; rw [if_neg (by omega), if_pos h2] at h
    have hn := nameI_size 2 b c
    refine namer_s _ _ _ o3 _ ⟨?_, ?_⟩
    · simp only [ByteArray.size_append, z0, z1, z2, z3, z4, z5, z6, z8, mt_size]; omega
    · rw [col]
      simp only [ByteArray.append_assoc] at h ⊢
      exact h
  rename_i h2
  split
  · rename_i h3; rw [if_neg (by omega), if_neg h2, if_pos h3] at h
    have e : nameI 3 0 c = ByteArray.mk #[35] ++ putB c := by
      unfold nameI putB
      rw [if_pos rfl, show (35 :: putL c) = [35] ++ putL c from rfl, bytesOf_append]; rfl
    rw [e] at h
    refine putr_s _ o3 _ ?_
    rw [show bytesOf (putL c) = putB c from rfl]
    refine ⟨?_, ?_, ?_⟩
    · simp only [ByteArray.size_append, z0, z1, z2, z3, z4, z5, z6, z8, mt_size]; omega
    · simp only [ByteArray.size_append, z0, z1, z2, z3, z4, z5, z6, z8, mt_size]; omega
    · rw [col]
      simp only [ByteArray.append_assoc] at h ⊢
      exact h
  rename_i h3
  split
  · rename_i h4; rw [if_pos h4] at h; exact putr_s _ o3 _ h
  rename_i h4; rw [if_neg h4, if_neg h2, if_neg h3] at h
  exact h
def opsS (l : List Opd) : List ByteArray := l.map opndS
theorem getD_memA {α : Type} {l : List α} {d : α} {i : Nat} (h : i < l.length) : l.getD i d ∈ l := by
  rw [List.getD, List.getElem?_eq_getElem h]; exact List.getElem_mem h
theorem take_map_snoc {α β : Type} {l : List α} {d : α} {i : Nat} (h : i < l.length) (f : α → β) : (l.take (i + 1)).map f = (l.take i).map f ++ [f (l.getD i d)] := by
  rw [List.take_succ_eq_append_getElem h, List.map_append]
  simp [List.getD, List.getElem?_eq_getElem h]
theorem lenlt {i n : Nat} : (decide ((i : Int) < (n : Int)) = true) ↔ i < n := by simp
theorem inBk {i n : Nat} (h : i < n) : inB 0 (i : Int) ((n : Int) - 1) := ⟨by omega, by omega, by omega⟩
theorem operands_s (l : List Opd) (ok : ∀ o ∈ l, opdOk o) (hl : l.length ≤ 1000000000000) (k : List ByteArray → Prop) (h : k (opsS l)) : N29.f l k := by
  rw [N29.f_def]
  unfold N29.f0 N29.c N29.l3'
  refine loopS_of (fun s : Int × List ByteArray => ∃ i : Nat, s.1 = i ∧ i ≤ l.length ∧ s.2 = (l.take i).map opndS) (fun s => l.length - s.1.toNat) ?_ ⟨0, rfl, Nat.zero_le _, rfl⟩
  rintro again ⟨a, b⟩ ⟨i, e1, hi, e2⟩ hag
  simp only at e1 e2
  subst e1; subst e2
  unfold N29.l3 N29.j7' N29.j7
  dsimp only
  refine br_of (fun hlt => ?_) (fun hge => ?_)
  · have hlt := lenlt.1 hlt
    refine ⟨inBk hlt, ?_⟩
    simp only [Int.toNat_natCast]
    refine opnd_s _ _ _ _ (ok _ (getD_memA hlt)) _ ⟨?_, ?_⟩
    · unfold room; simp only [List.length_map, List.length_take, List.length_singleton]; omega
    · rw [wrap_id (by omega) (by omega)]
      refine hag _ ⟨i + 1, by simp, by omega, ?_⟩ (by simp only; omega)
      rw [take_map_snoc (d := dO) hlt]; rfl
  · have hge : i = l.length := by simp at hge; omega
    subst hge
    rw [List.take_length]
    exact h
theorem operandsr_s (l : List Opd) (ok : ∀ o ∈ l, opdOk o) (hl : l.length ≤ 1000000000000) (k : List ByteArray → Prop) (h : k (opsS l)) : N33.f l k := by
  rw [N33.f_def]
  unfold N33.f0 N33.c N33.l3'
  refine loopS_of (fun s : Int × List ByteArray => ∃ i : Nat, s.1 = i ∧ i ≤ l.length ∧ s.2 = (l.take i).map opndS) (fun s => l.length - s.1.toNat) ?_ ⟨0, rfl, Nat.zero_le _, rfl⟩
  rintro again ⟨a, b⟩ ⟨i, e1, hi, e2⟩ hag
  simp only at e1 e2
  subst e1; subst e2
  unfold N33.l3 N33.j6' N33.j6
  dsimp only
  refine br_of (fun hlt => ?_) (fun hge => ?_)
  · have hlt := lenlt.1 hlt
    refine ⟨inBk hlt, ?_⟩
    simp only [Int.toNat_natCast]
    refine opndr_s _ _ _ _ (ok _ (getD_memA hlt)) _ ⟨?_, ?_⟩
    · unfold room; simp only [List.length_map, List.length_take, List.length_singleton]; omega
    · rw [wrap_id (by omega) (by omega)]
      refine hag _ ⟨i + 1, by simp, by omega, ?_⟩ (by simp only; omega)
      rw [take_map_snoc (d := dO) hlt]; rfl
  · have hge : i = l.length := by simp at hge; omega
    subst hge
    rw [List.take_length]
    exact h
def cb : ByteArray := ByteArray.mk #[44, 32]
def joinS (xs : List ByteArray) : ByteArray := joinB xs cb
theorem joinTail_snoc (sep : List UInt8) (y : List UInt8) (r : List (List UInt8)) : Lib.joinTail sep (r ++ [y]) = Lib.joinTail sep r ++ (sep ++ y) := by
  unfold Lib.joinTail
  rw [List.map_append, List.flatten_append]
  simp
theorem joinS_nil : joinS [] = ByteArray.empty := rfl
theorem joinS_snoc (xs : List ByteArray) (y : ByteArray) : joinS (xs ++ [y]) = if xs = [] then y else joinS xs ++ cb ++ y := by
  cases xs with
  | nil =>
    rw [if_pos rfl]
    unfold joinS joinB
    rw [List.nil_append, List.map_singleton, Lib.join_one]
  | cons x r =>
    rw [if_neg (by simp)]
    unfold joinS joinB
    rw [List.cons_append, List.map_cons, Lib.join_cons, List.map_append, List.map_singleton, joinTail_snoc, List.map_cons, Lib.join_cons]
    apply ByteArray.ext
    simp only [ByteArray.data_append]
    apply Array.toList_inj.1
    simp
def szL (xs : List ByteArray) : Nat := (xs.map fun x => x.size + 2).sum
theorem szL_append (a b : List ByteArray) : szL (a ++ b) = szL a + szL b := by unfold szL; rw [List.map_append, List.sum_append]
theorem szL_one (a : ByteArray) : szL [a] = a.size + 2 := by simp [szL]
theorem joinS_size_take (xs : List ByteArray) : ∀ i, i ≤ xs.length → (joinS (xs.take i)).size ≤ szL (xs.take i)
  | 0, _ => by rw [List.take_zero, joinS_nil]; exact Nat.zero_le _
  | i + 1, hi => by
    have ih := joinS_size_take xs i (by omega)
    rw [List.take_succ_eq_append_getElem (by omega : i < xs.length), joinS_snoc, szL_append, szL_one]
    split
    · omega
    · rw [ByteArray.size_append, ByteArray.size_append, show cb.size = 2 from rfl]; omega
theorem joinS_size (xs : List ByteArray) : (joinS xs).size ≤ szL xs := by
  have := joinS_size_take xs xs.length (Nat.le_refl _)
  rwa [List.take_length] at this
theorem szL_len (xs : List ByteArray) : 2 * xs.length ≤ szL xs := by
  unfold szL
  induction xs with
  | nil => exact Nat.zero_le _
  | cons x r ih => rw [List.map_cons, List.sum_cons, List.length_cons]; omega
theorem szL_take (xs : List ByteArray) (i : Nat) : szL (xs.take i) ≤ szL xs := by
  conv => rhs; rw [← List.take_append_drop i xs, szL_append]
  omega
theorem szL_mem {xs : List ByteArray} {x : ByteArray} (h : x ∈ xs) : x.size + 2 ≤ szL xs := by
  unfold szL
  induction xs with
  | nil => cases h
  | cons y r ih =>
    rw [List.map_cons, List.sum_cons]
    rcases List.mem_cons.1 h with rfl | h
    · omega
    · have := ih h; omega
theorem jn_b {xs : List ByteArray} {k : ByteArray → Prop} (hl : szL xs ≤ 140737488355328) (h : k (joinS xs)) : jn xs (ByteArray.mk #[44, 32]) k := by
  rw [jn_def]
  have h1 := joinS_size xs
  have h2 := szL_len xs
  unfold joinS cb at h1 h
  exact ⟨by omega, by omega, h⟩
theorem between_s (o : ByteArray) (l : List ByteArray) (e s : ByteArray) (k : ByteArray → Prop) (hl : o.size + szL l + e.size + s.size ≤ 1000000000000) (h : k (s ++ o ++ joinS l ++ e)) : N28.f o l e s k := by
  have h1 := joinS_size l
  rw [N28.f_def]
  unfold N28.f0 N28.c
  refine ws_b (by omega) ?_
  rw [N55.f_def]
  unfold N55.f0 N55.c
  refine jn_b (by omega) (ws_b (by rw [ByteArray.size_append]; omega) (ws_b (by rw [ByteArray.size_append, ByteArray.size_append]; omega) h))
theorem join_s (l : List ByteArray) (hl : szL l ≤ 1000000000000) (k : ByteArray → Prop) (h : k (joinS l)) : N32.f l k := by
  rw [N32.f_def]
  unfold N32.f0 N32.c N32.l3'
  refine loopS_of (fun s : ByteArray × Int => ∃ i : Nat, s.2 = i ∧ i ≤ l.length ∧ s.1 = joinS (l.take i)) (fun s => l.length - s.2.toNat) ?_ ⟨0, rfl, Nat.zero_le _, rfl⟩
  rintro again ⟨b, a⟩ ⟨i, e1, hi, e2⟩ hag
  simp only at e1 e2
  subst e1; subst e2
  unfold N32.l3 N32.j7' N32.j7 N32.j8' N32.j8 N32.j4' N32.j4
  dsimp only
  have hlen := szL_len l
  refine br_of (fun hlt => ?_) (fun hge => ?_)
  · have hlt := lenlt.1 hlt
    have h1 := joinS_size_take l i (by omega)
    have h2 := szL_take l i
    have h3 := szL_mem (getD_memA (d := ByteArray.empty) hlt)
    have hs := joinS_snoc (l.take i) (l.getD i ByteArray.empty)
    rw [show l.take i ++ [l.getD i ByteArray.empty] = l.take (i + 1) by rw [List.take_succ_eq_append_getElem hlt]; simp [List.getD, List.getElem?_eq_getElem hlt]] at hs
    simp only [Int.toNat_natCast]
    rw [wrap_id (by omega) (by omega)]
    refine br_of (fun hp => ⟨?_, inBk hlt, ?_, hag _ ⟨i + 1, by simp, by omega, ?_⟩ (by simp only; omega)⟩) (fun hz => ⟨inBk hlt, ?_, hag _ ⟨i + 1, by simp, by omega, ?_⟩ (by simp only; omega)⟩)
    · simp only [ByteArray.size_append, z0, z1, z2, z3, z4, z5, z6, z8, mt_size]; omega
    · simp only [ByteArray.size_append, z0, z1, z2, z3, z4, z5, z6, z8, mt_size]; omega
    · have hp : 0 < i := by simp at hp; omega
      rw [if_neg (by intro e; have := congrArg List.length e; rw [List.length_take, List.length_nil] at this; omega)] at hs
      exact hs.symm
    · omega
    · have hz : i = 0 := by simp at hz; omega
      subst hz
      rw [List.take_zero, if_pos rfl] at hs
      rw [List.take_zero, joinS_nil, ByteArray.empty_append]
      exact hs.symm
  · have hge : i = l.length := by simp at hge; omega
    subst hge
    rw [List.take_length]
    exact h
def opNm (n : Int) : ByteArray :=
  if n = 1 then ByteArray.mk #[97, 100, 100] else if n = 2 then ByteArray.mk #[115, 117, 98] else if n = 3 then ByteArray.mk #[109, 117, 108] else if n = 4 then ByteArray.mk #[97, 110, 100] else
  if n = 5 then ByteArray.mk #[111, 114] else if n = 6 then ByteArray.mk #[120, 111, 114] else if n = 7 then ByteArray.mk #[115, 104, 108] else if n = 8 then ByteArray.mk #[115, 104, 114] else
  if n = 9 then ByteArray.mk #[115, 97, 114] else if n = 10 then ByteArray.mk #[100, 105, 118] else if n = 11 then ByteArray.mk #[114, 101, 109] else if n = 12 then ByteArray.mk #[101, 113] else
  if n = 13 then ByteArray.mk #[110, 101] else if n = 14 then ByteArray.mk #[108, 116] else if n = 15 then ByteArray.mk #[108, 101] else if n = 16 then ByteArray.mk #[99, 111, 112, 121] else
  if n = 17 then ByteArray.mk #[108, 111, 97, 100] else if n = 18 then ByteArray.mk #[115, 116, 111, 114, 101] else if n = 19 then ByteArray.mk #[99, 97, 108, 108] else if n = 20 then ByteArray.mk #[98, 114] else
  if n = 21 then ByteArray.mk #[98, 114, 105, 102] else if n = 22 then ByteArray.mk #[115, 119, 105, 116, 99, 104] else if n = 23 then ByteArray.mk #[114, 101, 116] else if n = 24 then ByteArray.mk #[109, 111, 118, 101] else
  if n = 25 then ByteArray.mk #[115, 112, 105, 108, 108] else if n = 26 then ByteArray.mk #[114, 101, 108, 111, 97, 100] else if n = 27 then ByteArray.mk #[115, 119, 97, 112] else ByteArray.empty
def isOp (n : Int) : Prop := 1 ≤ n ∧ n ≤ 27
instance (n : Int) : Decidable (isOp n) := inferInstanceAs (Decidable (1 ≤ n ∧ n ≤ 27))
def mnemS (n : Int) : ByteArray := if isOp n then opNm n else ByteArray.mk #[63]
theorem isOp_cases {n : Int} (h : isOp n) : n = 1 ∨ n = 2 ∨ n = 3 ∨ n = 4 ∨ n = 5 ∨ n = 6 ∨ n = 7 ∨ n = 8 ∨ n = 9 ∨ n = 10 ∨ n = 11 ∨ n = 12 ∨ n = 13 ∨ n = 14 ∨ n = 15 ∨ n = 16 ∨ n = 17 ∨ n = 18 ∨ n = 19 ∨ n = 20 ∨ n = 21 ∨ n = 22 ∨ n = 23 ∨ n = 24 ∨ n = 25 ∨ n = 26 ∨ n = 27 := by
  unfold isOp at h; omega
theorem opNm_size (n : Int) : (opNm n).size ≤ 6 := by
  by_cases hi : isOp n
  · rcases isOp_cases hi with rfl | rfl | rfl | rfl | rfl | rfl | rfl | rfl | rfl | rfl | rfl | rfl | rfl | rfl | rfl | rfl | rfl | rfl | rfl | rfl | rfl | rfl | rfl | rfl | rfl | rfl | rfl <;> decide
  · unfold isOp at hi
    unfold opNm
    repeat (rw [if_neg (by omega)])
    decide
theorem mnemS_size (n : Int) : (mnemS n).size ≤ 6 := by
  unfold mnemS
  split
  · exact opNm_size n
  · decide
theorem br_ne {a b : Int} (h : a ≠ b) {p q : Prop} : br (a == b) p q = q := by simp [h]
theorem find_s (n : Int) (hn : in64 n) (k : ByteArray → Int → Int → Int → Int → Bool → Bool → Prop) (h : ∀ d a b l m, k (if isOp n then opNm n else ByteArray.empty) d a b l m (decide (isOp n))) : N66.f n k := by
  rw [N66.f_def]
  unfold N66.f0 N66.c N66.j2000003' N66.j2000003 N66.j5' N66.j5
  by_cases hi : isOp n
  · rw [if_pos hi, decide_eq_true hi] at h
    rcases isOp_cases hi with rfl | rfl | rfl | rfl | rfl | rfl | rfl | rfl | rfl | rfl | rfl | rfl | rfl | rfl | rfl | rfl | rfl | rfl | rfl | rfl | rfl | rfl | rfl | rfl | rfl | rfl | rfl <;> exact h _ _ _ _ _
  · rw [if_neg hi, decide_eq_false hi] at h
    unfold isOp at hi
    dsimp only
    by_cases h1 : n ≥ 1
    · rw [decide_eq_true h1, br_true, decide_eq_false (by omega), br_false]
      repeat (rw [br_ne (by omega)])
      exact h _ _ _ _ _
    · rw [decide_eq_false h1, br_false, br_false]
      repeat (rw [br_ne (by omega)])
      exact h _ _ _ _ _
theorem mnem_s (x : Ins) (hn : in64 x.1) (k : ByteArray → Prop) (h : k (mnemS x.1)) : N36.f x.1 x.2.1.1 x.2.1.2.1 x.2.1.2.2.1 x.2.1.2.2.2 x.2.2.1 x.2.2.2.1 x.2.2.2.2.1 x.2.2.2.2.2.1 x.2.2.2.2.2.2 k := by
  rw [N36.f_def]
  unfold N36.f0 N36.c
  rw [N57.f_def]
  unfold N57.f0 N57.c
  refine find_s _ hn _ fun d a b l m => ?_
  unfold mnemS at h
  simp only [br_not, br_dec]
  split
  · rename_i hi
    rw [N58.f_def]
    unfold N58.f0 N58.c
    refine find_s _ hn _ fun d a b l m => ?_
    rw [if_pos hi] at h ⊢
    exact h
  · rename_i hi
    rw [if_neg hi] at h
    exact h
end Go.Proofs.Yh.Sh

namespace Go.Proofs.Yh.Sh
open Go Go.Aw Go.Proofs Go.RowKit
abbrev Row := ByteArray × (ByteArray × (List ByteArray × (Int × Bool)))
abbrev dR : Row := (ByteArray.empty, (ByteArray.empty, (([] : List ByteArray), (0, false))))
def twoS : List ByteArray := [ByteArray.mk #[97, 100, 100], ByteArray.mk #[115, 117, 98], ByteArray.mk #[109, 117, 108], ByteArray.mk #[97, 110, 100], ByteArray.mk #[111, 114], ByteArray.mk #[120, 111, 114], ByteArray.mk #[115, 104, 108], ByteArray.mk #[115, 104, 114], ByteArray.mk #[115, 97, 114], ByteArray.mk #[100, 105, 118], ByteArray.mk #[114, 101, 109], ByteArray.mk #[101, 113], ByteArray.mk #[110, 101], ByteArray.mk #[108, 116], ByteArray.mk #[108, 101]]
def rowOf (s : ByteArray) : Row := (s, (ByteArray.mk #[103], ([ByteArray.mk #[103], ByteArray.mk #[103, 105]], (0, false))))
theorem allRows_s (k : List Row → Prop) (h : ∀ rows : List Row, rows.length = 27 → (∀ n, isOp n → (rows.getD (n - 1).toNat dR).1 = opNm n) → k rows) : N62.f k := by
  rw [N62.f_def]
  unfold N62.f0 N62.c N62.l4'
  refine loopS_of (fun s : Int × List Row × List ByteArray => ∃ i : Nat, s.1 = i ∧ i ≤ 15 ∧ s.2.1 = (twoS.take i).map rowOf ∧ s.2.2 = twoS) (fun s => 15 - s.1.toNat) ?_ ⟨0, rfl, Nat.zero_le _, rfl, rfl⟩
  rintro again ⟨a, b, c⟩ ⟨i, e1, hi, e2, e3⟩ hag
  simp only at e1 e2 e3
  subst e1; subst e2; subst e3
  unfold N62.l4 N62.j7' N62.j7
  dsimp only
  have hl : twoS.length = 15 := rfl
  refine br_of (fun hlt => ?_) (fun hge => ?_)
  · have hlt : i < 15 := by simp at hlt; omega
    rw [hl]
    refine ⟨⟨by omega, by omega, by omega⟩, ?_, ?_⟩
    · unfold room; simp only [List.length_map, List.length_take, List.length_singleton]; omega
    · rw [wrap_id (by omega) (by omega)]
      refine hag _ ⟨i + 1, by simp, by omega, ?_, rfl⟩ (by simp only; omega)
      rw [Int.toNat_natCast, take_map_snoc (d := ByteArray.empty) (by omega)]; rfl
  · have hge : i = 15 := by simp at hge; omega
    subst hge
    rw [show (twoS.take 15).map rowOf = twoS.map rowOf from rfl]
    have hr : ∀ n, n ≤ 27 → room n 72 := by intro n hn; unfold room; omega
    refine ⟨hr _ (by decide), hr _ (by decide), hr _ (by decide), hr _ (by decide), hr _ (by decide), hr _ (by decide), hr _ (by decide), hr _ (by decide), hr _ (by decide), hr _ (by decide), hr _ (by decide), hr _ (by decide), ?_⟩
    refine h _ rfl fun n hn => ?_
    rcases isOp_cases hn with rfl | rfl | rfl | rfl | rfl | rfl | rfl | rfl | rfl | rfl | rfl | rfl | rfl | rfl | rfl | rfl | rfl | rfl | rfl | rfl | rfl | rfl | rfl | rfl | rfl | rfl | rfl <;> rfl
theorem findr_s (n : Int) (hn : in64 n) (k : ByteArray → ByteArray → Int → Bool → Bool → Prop) (k1 : ByteArray → ByteArray → List ByteArray → Int → Bool → Bool → Prop) (h0 : ¬ isOp n → ∀ s d l a, k s d l a false) (h1 : isOp n → ∀ d a l m, k1 (opNm n) d a l m true) : N40.f n k k1 := by
  rw [N40.f_def]
  unfold N40.f0 N40.c N40.j2000003' N40.j2000003 N40.j4' N40.j4
  refine allRows_s _ fun rows hl hr => ?_
  rw [hl]
  simp only [br_dec, br_true]
  unfold isOp at *
  unfold in64 at hn
  split
  · exact h0 (by omega) _ _ _ _
  · split
    · exact h0 (by omega) _ _ _ _
    · rw [wrap_id (by omega) (by omega), hr n (by omega)]
      exact ⟨⟨by omega, by omega, by omega⟩, h1 (by omega) _ _ _ _⟩
def insOk (x : Ins) : Prop := in64 x.1 ∧ opdOk x.2.1 ∧ (∀ o ∈ x.2.2.1, opdOk o) ∧ in64 x.2.2.2.2.1 ∧ (∀ n ∈ x.2.2.2.2.2.2, in64 n)
def insZ (x : Ins) : Nat := x.2.2.1.length + x.2.2.2.1.size + szL x.2.2.2.2.2.1 + x.2.2.2.2.2.2.length + 1
def nthS (l : List ByteArray) (i : Nat) : ByteArray := if i < l.length then l.getD i ByteArray.empty else ByteArray.empty
theorem nthS_size (l : List ByteArray) (i : Nat) : (nthS l i).size ≤ szL l := by
  unfold nthS
  split
  · rename_i h; have := szL_mem (getD_memA (d := ByteArray.empty) h); omega
  · rw [mt_size]; exact Nat.zero_le _
theorem nth_s (l : List ByteArray) (i : Nat) (k : ByteArray → Prop) (h : k (nthS l i)) : N42.f l (i : Int) k := by
  rw [N42.f_def]
  unfold N42.f0 N42.c
  unfold nthS at h
  refine br_of (fun hlt => ?_) (fun hge => ?_)
  · have hlt := lenlt.1 hlt
    rw [if_pos hlt] at h
    exact ⟨inBk hlt, h⟩
  · have hge : ¬ i < l.length := by simp at hge; omega
    rw [if_neg hge] at h
    exact h
theorem label_s (x : Ins) (i : Nat) (k : ByteArray → Prop) (h : k (nthS x.2.2.2.2.2.1 i)) : N61.f (i : Int) x.1 x.2.1.1 x.2.1.2.1 x.2.1.2.2.1 x.2.1.2.2.2 x.2.2.1 x.2.2.2.1 x.2.2.2.2.1 x.2.2.2.2.2.1 x.2.2.2.2.2.2 k := by
  rw [N61.f_def]
  unfold N61.f0 N61.c
  unfold nthS at h
  refine br_of (fun hlt => ?_) (fun hge => ?_)
  · have hlt := lenlt.1 hlt
    rw [if_pos hlt] at h
    exact ⟨inBk hlt, h⟩
  · have hge : ¬ i < x.2.2.2.2.2.1.length := by simp at hge; omega
    rw [if_neg hge] at h
    exact h
def caseS (x : Ins) (i : Nat) : ByteArray := putB (x.2.2.2.2.2.2.getD i 0) ++ ByteArray.mk #[58, 32] ++ nthS x.2.2.2.2.2.1 i
def casesS (x : Ins) : List ByteArray := (List.range x.2.2.2.2.2.2.length).map (caseS x) ++ [ByteArray.mk #[101, 108, 115, 101, 58, 32] ++ nthS x.2.2.2.2.2.1 x.2.2.2.2.2.2.length]
theorem caseS_size (x : Ins) (i : Nat) : (caseS x i).size ≤ 23 + (nthS x.2.2.2.2.2.1 i).size := by
  unfold caseS
  have := putB_size (x.2.2.2.2.2.2.getD i 0)
  simp only [ByteArray.size_append, z2]; omega
theorem cases_s (x : Ins) (ok : insOk x) (hz : insZ x ≤ 1000000000) (k : List ByteArray → Prop) (h : k (casesS x)) : N39.f x.1 x.2.1.1 x.2.1.2.1 x.2.1.2.2.1 x.2.1.2.2.2 x.2.2.1 x.2.2.2.1 x.2.2.2.2.1 x.2.2.2.2.2.1 x.2.2.2.2.2.2 k := by
  rw [N39.f_def]
  unfold N39.f0 N39.c N39.l4'
  unfold insZ at hz
  obtain ⟨_, _, _, _, ok5⟩ := ok
  refine loopS_of (fun s : Int × List ByteArray => ∃ i : Nat, s.1 = i ∧ i ≤ x.2.2.2.2.2.2.length ∧ s.2 = (List.range i).map (caseS x)) (fun s => x.2.2.2.2.2.2.length - s.1.toNat) ?_ ⟨0, rfl, Nat.zero_le _, rfl⟩
  rintro again ⟨a, b⟩ ⟨i, e1, hi, e2⟩ hag
  simp only at e1 e2
  subst e1; subst e2
  unfold N39.l4 N39.j8' N39.j8
  dsimp only
  refine br_of (fun hlt => ?_) (fun hge => ?_)
  · have hlt := lenlt.1 hlt
    refine ⟨inBk hlt, ?_⟩
    simp only [Int.toNat_natCast]
    have hp := putB_size (x.2.2.2.2.2.2.getD i 0)
    have hn := nthS_size x.2.2.2.2.2.1 i
    refine put_s _ (ok5 _ (getD_memA hlt)) _ ?_
    rw [show bytesOf (putL (x.2.2.2.2.2.2.getD i 0)) = putB (x.2.2.2.2.2.2.getD i 0) from rfl]
    refine ⟨?_, label_s x i _ ⟨?_, ?_, ?_⟩⟩
    · simp only [ByteArray.size_append, z2]; omega
    · simp only [ByteArray.size_append, z2]; omega
    · unfold room; simp only [List.length_map, List.length_range, List.length_singleton]; omega
    · rw [wrap_id (by omega) (by omega)]
      refine hag _ ⟨i + 1, by simp, by omega, ?_⟩ (by simp only; omega)
      rw [List.range_succ, List.map_append]; rfl
  · have hge : i = x.2.2.2.2.2.2.length := by simp at hge; omega
    subst hge
    have hn := nthS_size x.2.2.2.2.2.1 x.2.2.2.2.2.2.length
    refine label_s x _ _ ⟨?_, ?_, h⟩
    · simp only [ByteArray.size_append, z6]; omega
    · unfold room; simp only [List.length_map, List.length_range, List.length_singleton]; omega
def tailS (x : Ins) (l : List ByteArray) : List ByteArray :=
  if (x.1 = 17 ∨ x.1 = 18) then (if 0 < l.length ∧ x.2.2.2.2.1 ≠ 0 then l.set (l.length - 1) (l.getD (l.length - 1) ByteArray.empty ++ (ByteArray.mk #[32, 43, 32] ++ putB x.2.2.2.2.1)) else l)
  else if x.1 = 20 ∨ x.1 = 21 then l ++ x.2.2.2.2.2.1 else l
def partsS (x : Ins) : List ByteArray := tailS x (opsS x.2.2.1)
theorem opsS_length (l : List Opd) : (opsS l).length = l.length := by unfold opsS; simp
theorem opsS_getD (l : List Opd) (i : Nat) : ((opsS l).getD i ByteArray.empty).size ≤ 60 := by
  by_cases h : i < (opsS l).length
  · have := getD_memA (d := ByteArray.empty) h
    obtain ⟨o, _, e⟩ := List.mem_map.1 this
    rw [← e]; exact opndS_size o
  · rw [List.getD, List.getElem?_eq_none (by omega)]; exact Nat.zero_le _
theorem parts_s (x : Ins) (ok : insOk x) (hz : insZ x ≤ 1000000000) (k : List ByteArray → Prop) (h : k (partsS x)) : N38.f x.1 x.2.1.1 x.2.1.2.1 x.2.1.2.2.1 x.2.1.2.2.2 x.2.2.1 x.2.2.2.1 x.2.2.2.2.1 x.2.2.2.2.2.1 x.2.2.2.2.2.2 k := by
  rw [N38.f_def]
  unfold N38.f0 N38.c N38.j2000005' N38.j2000005 N38.j2000007' N38.j2000007 N38.j2000010' N38.j2000010 N38.j11' N38.j11
  unfold insZ at hz
  obtain ⟨_, _, ok3, ok4, _⟩ := ok
  refine operands_s _ ok3 (by omega) _ ?_
  unfold partsS tailS at h
  have hl := opsS_length x.2.2.1
  have hg := opsS_getD x.2.2.1 ((opsS x.2.2.1).length - 1)
  have hsz := szL_len x.2.2.2.2.2.1
  have hp := putB_size x.2.2.2.2.1
  dsimp only
  have main : ∀ b : Bool, (b = true ↔ (x.1 = 17 ∨ x.1 = 18)) → N38.j2000005' x.1 x.2.1.1 x.2.1.2.1 x.2.1.2.2.1 x.2.1.2.2.2 x.2.2.1 x.2.2.2.1 x.2.2.2.2.1 x.2.2.2.2.2.1 x.2.2.2.2.2.2 x.1 b (opsS x.2.2.1) k := by
    intro b hb
    unfold N38.j2000005' N38.j2000005 N38.j2000007' N38.j2000007 N38.j2000010' N38.j2000010 N38.j11' N38.j11
    dsimp only
    refine br_of (fun hbt => ?_) (fun hbf => ?_)
    · rw [if_pos (hb.1 hbt)] at h
      rw [wrap_id (n := ((opsS x.2.2.1).length : Int) - 1) (by omega) (by omega)]
      refine br_of (fun hp0 => ?_) (fun hp0 => ?_)
      · have hp0 : 0 < (opsS x.2.2.1).length := by simp at hp0; omega
        rw [show Int.toNat (((opsS x.2.2.1).length : Int) - 1) = (opsS x.2.2.1).length - 1 by omega]
        refine br_of (fun hne => ?_) (fun heq => ?_)
        · have hne : x.2.2.2.2.1 ≠ 0 := by simpa using hne
          rw [if_pos ⟨hp0, hne⟩] at h
          refine ⟨⟨by omega, by omega, by omega⟩, put_s _ ok4 _ ?_⟩
          rw [show bytesOf (putL x.2.2.2.2.1) = putB x.2.2.2.2.1 from rfl]
          refine ⟨?_, ?_, ⟨by omega, by omega, by omega⟩, h⟩
          · simp only [ByteArray.size_append, z3]; omega
          · simp only [ByteArray.size_append, z3]; omega
        · have heq : x.2.2.2.2.1 = 0 := by simpa using heq
          rw [if_neg (fun q => q.2 heq)] at h
          exact h
      · have hp0 : ¬ 0 < (opsS x.2.2.1).length := by simp at hp0; omega
        rw [if_neg (fun q => hp0 q.1)] at h
        rw [br_false]
        exact h
    · rw [if_neg (fun q => by rw [hb.2 q] at hbf; cases hbf)] at h
      have two : ∀ b : Bool, (b = true ↔ (x.1 = 20 ∨ x.1 = 21)) → br b (room ((opsS x.2.2.1).length + x.2.2.2.2.2.1.length) 16 ∧ k (opsS x.2.2.1 ++ x.2.2.2.2.2.1)) (k (opsS x.2.2.1)) := by
        intro b hb
        refine br_of (fun hbt => ?_) (fun hbf => ?_)
        · rw [if_pos (hb.1 hbt)] at h
          exact ⟨by unfold room; omega, h⟩
        · rw [if_neg (fun q => by rw [hb.2 q] at hbf; cases hbf)] at h
          exact h
      refine br_of (fun h20 => two _ ?_) (fun h20 => two _ ?_)
      · have : x.1 = 20 := by simpa using h20
        simp [this]
      · have : ¬ x.1 = 20 := by simpa using h20
        simp [this]
  refine br_of (fun h17 => main _ ?_) (fun h17 => main _ ?_)
  · have : x.1 = 17 := by simpa using h17
    simp [this]
  · have : ¬ x.1 = 17 := by simpa using h17
    simp [this]
end Go.Proofs.Yh.Sh

namespace Go.Proofs.Yh.Sh
open Go Go.Aw Go.Proofs Go.RowKit
theorem qputL_lenX (l : List Int) : (qputL l).length ≤ 4 * l.length + 2 := by
  unfold qputL
  have := flat_len l
  rw [List.length_cons, List.length_append, List.length_singleton]; omega
def quoB (s : ByteArray) : ByteArray := bytesOf (qputL (ofBytes s))
theorem quoB_size (s : ByteArray) : (quoB s).size ≤ 4 * s.size + 2 := by
  unfold quoB
  rw [bytesOf_size]
  have := qputL_lenX (ofBytes s)
  rw [ofBytes_length] at this
  exact this
theorem szL_ops (l : List Opd) : szL (opsS l) ≤ 62 * l.length := by
  unfold opsS szL
  induction l with
  | nil => exact Nat.zero_le _
  | cons o l ih =>
    rw [List.map_cons, List.map_cons, List.sum_cons, List.length_cons]
    have := opndS_size o
    omega
theorem szL_set (l : List ByteArray) (i : Nat) (y : ByteArray) : szL (l.set i y) ≤ szL l + y.size := by
  unfold szL
  induction l generalizing i with
  | nil => simp
  | cons x l ih =>
    cases i with
    | zero => rw [List.set_cons_zero, List.map_cons, List.map_cons, List.sum_cons, List.sum_cons]; omega
    | succ i => rw [List.set_cons_succ, List.map_cons, List.map_cons, List.sum_cons, List.sum_cons]; have := ih i; omega
theorem szL_parts (x : Ins) : szL (partsS x) ≤ 62 * x.2.2.1.length + 90 + szL x.2.2.2.2.2.1 := by
  unfold partsS tailS
  have h1 := szL_ops x.2.2.1
  have h2 := opsS_getD x.2.2.1 ((opsS x.2.2.1).length - 1)
  have h3 := putB_size x.2.2.2.2.1
  repeat' split
  · have := szL_set (opsS x.2.2.1) ((opsS x.2.2.1).length - 1) ((opsS x.2.2.1).getD ((opsS x.2.2.1).length - 1) ByteArray.empty ++ (ByteArray.mk #[32, 43, 32] ++ putB x.2.2.2.2.1))
    simp only [ByteArray.size_append, z3] at this
    omega
  · omega
  · rw [szL_append]; omega
  · omega
theorem szL_cases (x : Ins) : szL (casesS x) ≤ 27 * x.2.2.2.2.2.2.length + 2 * szL x.2.2.2.2.2.1 + 8 := by
  have key : ∀ n, szL ((List.range n).map (caseS x)) ≤ 27 * n + szL (x.2.2.2.2.2.1.take n) := by
    intro n
    induction n with
    | zero => exact Nat.zero_le _
    | succ n ih =>
      rw [List.range_succ, List.map_append, szL_append, List.map_singleton, szL_one]
      have h1 := caseS_size x n
      unfold nthS at h1
      by_cases hn : n < x.2.2.2.2.2.1.length
      · rw [if_pos hn] at h1
        have e : x.2.2.2.2.2.1.take (n + 1) = x.2.2.2.2.2.1.take n ++ [x.2.2.2.2.2.1.getD n ByteArray.empty] := by
          rw [List.take_succ_eq_append_getElem hn]; simp [List.getD, List.getElem?_eq_getElem hn]
        rw [e, szL_append, szL_one]
        omega
      · rw [if_neg hn, mt_size] at h1
        rw [List.take_of_length_le (by omega)] at ih ⊢
        omega
  have h1 := key x.2.2.2.2.2.2.length
  have h2 := szL_take x.2.2.2.2.2.1 x.2.2.2.2.2.2.length
  have h3 := nthS_size x.2.2.2.2.2.1 x.2.2.2.2.2.2.length
  unfold casesS
  rw [szL_append, szL_one, ByteArray.size_append, z6]
  omega
def preS (x : Ins) : ByteArray := if x.2.1.1 = 0 then ByteArray.empty else opndS x.2.1 ++ ByteArray.mk #[32, 61, 32]
def argsS (x : Ins) : ByteArray := if 0 < (partsS x).length then ByteArray.mk #[32] ++ joinS (partsS x) else ByteArray.empty
def swS (x : Ins) : ByteArray := if x.1 = 22 then ByteArray.mk #[32, 91] ++ joinS (casesS x) ++ ByteArray.mk #[93] else ByteArray.empty
def instrS (x : Ins) : ByteArray := preS x ++ mnemS x.1 ++ if x.1 = 19 then ByteArray.mk #[32] ++ quoB x.2.2.2.1 ++ ByteArray.mk #[40] ++ joinS (opsS x.2.2.1) ++ ByteArray.mk #[41] else argsS x ++ swS x
theorem preS_size (x : Ins) : (preS x).size ≤ 63 := by
  unfold preS
  have := opndS_size x.2.1
  split
  · rw [mt_size]; omega
  · rw [ByteArray.size_append, z3]; omega
theorem instrS_size (x : Ins) : (instrS x).size ≤ 300 * insZ x := by
  unfold instrS insZ argsS swS
  have h1 := preS_size x
  have h2 := mnemS_size x.1
  have h3 := quoB_size x.2.2.2.1
  have h4 := joinS_size (opsS x.2.2.1)
  have h5 := szL_ops x.2.2.1
  have h6 := joinS_size (partsS x)
  have h7 := szL_parts x
  have h8 := joinS_size (casesS x)
  have h9 := szL_cases x
  repeat' split
  all_goals (simp only [ByteArray.size_append, z1, z2, mt_size]; omega)
theorem instr_s (x : Ins) (ok : insOk x) (hz : insZ x ≤ 1000000000) (k : ByteArray → Prop) (h : k (instrS x)) : N12.f x.1 x.2.1.1 x.2.1.2.1 x.2.1.2.2.1 x.2.1.2.2.2 x.2.2.1 x.2.2.2.1 x.2.2.2.2.1 x.2.2.2.2.2.1 x.2.2.2.2.2.2 k := by
  rw [N12.f_def]
  unfold N12.f0 N12.c
  have ok' := ok
  obtain ⟨ok1, ok2, ok3, ok4, ok5⟩ := ok
  have hz' := hz
  unfold insZ at hz'
  have h1 := preS_size x
  have h2 := mnemS_size x.1
  have h3 := quoB_size x.2.2.2.1
  have h4 := joinS_size (opsS x.2.2.1)
  have h5 := szL_ops x.2.2.1
  have h6 := joinS_size (partsS x)
  have h7 := szL_parts x
  have h8 := joinS_size (casesS x)
  have h9 := szL_cases x
  have rest : N12.j4' x.1 x.2.1.1 x.2.1.2.1 x.2.1.2.2.1 x.2.1.2.2.2 x.2.2.1 x.2.2.2.1 x.2.2.2.2.1 x.2.2.2.2.2.1 x.2.2.2.2.2.2 (preS x) k := by
    unfold N12.j4' N12.j4
    refine mnem_s x ok1 _ (ws_b (by omega) ?_)
    unfold instrS at h
    refine br_of (fun h19 => ?_) (fun h19 => ?_)
    · have h19 : x.1 = 19 := by simpa using h19
      rw [if_pos h19] at h
      refine put_s_q _ (by omega) _ ?_
      rw [show bytesOf (qputL (ofBytes x.2.2.2.1)) = quoB x.2.2.2.1 from rfl]
      refine ⟨?_, ?_, operands_s _ ok3 (by omega) _ (between_s _ _ _ _ _ ?_ (bs_s ?_))⟩
      · rw [z1]; omega
      · rw [ByteArray.size_append, z1, z1]; omega
      · simp only [ByteArray.size_append, z1]; omega
      · simp only [ByteArray.append_assoc] at h ⊢
        exact h
    · have h19 : ¬ x.1 = 19 := by simpa using h19
      rw [if_neg h19] at h
      have fin : ∀ b : ByteArray, b = preS x ++ mnemS x.1 ++ argsS x → b.size ≤ 500000000000 → N12.j11' x.1 x.2.1.1 x.2.1.2.1 x.2.1.2.2.1 x.2.1.2.2.2 x.2.2.1 x.2.2.2.1 x.2.2.2.2.1 x.2.2.2.2.2.1 x.2.2.2.2.2.2 b k := by
        intro b hb hbs
        unfold N12.j11' N12.j11 N12.j13' N12.j13
        rw [← ByteArray.append_assoc, ← hb] at h
        unfold swS at h
        refine br_of (fun h22 => ?_) (fun h22 => ?_)
        · have h22 : x.1 = 22 := by simpa using h22
          rw [if_pos h22] at h
          refine cases_s x ok' hz _ (between_s _ _ _ _ _ ?_ (bs_s ?_))
          · simp only [z1, z2]; omega
          · simp only [ByteArray.append_assoc] at h ⊢
            exact h
        · have h22 : ¬ x.1 = 22 := by simpa using h22
          rw [if_neg h22, ByteArray.append_empty] at h
          exact bs_s h
      refine parts_s x ok' hz _ ?_
      unfold argsS at fin
      refine br_of (fun hp => ?_) (fun hp => ?_)
      · have hp : 0 < (partsS x).length := by simp at hp; omega
        refine between_s _ _ _ _ _ ?_ (fin _ ?_ ?_)
        · simp only [ByteArray.size_append, z1, z0]; omega
        · rw [if_pos hp, mt, ByteArray.append_empty]
          simp only [ByteArray.append_assoc]
        · simp only [ByteArray.size_append, z1, z0]; omega
      · have hp : ¬ 0 < (partsS x).length := by have := of_decide_eq_false hp; omega
        refine fin _ ?_ ?_
        · rw [if_neg hp, ByteArray.append_empty]
        · simp only [ByteArray.size_append]; omega
  unfold preS at rest
  refine br_of (fun hd => ?_) (fun hd => ?_)
  · have hd : ¬ x.2.1.1 = 0 := by simpa using hd
    rw [if_neg hd] at rest
    have h0 := opndS_size x.2.1
    refine opnd_s _ _ _ _ ok2 _ ⟨?_, ws_b ?_ ?_⟩
    · rw [z3]; show (opndS x.2.1).size + 3 ≤ _; omega
    · rw [ByteArray.size_append, z3, mt_size]; show 0 + ((opndS x.2.1).size + 3) ≤ _; omega
    · rw [ByteArray.empty_append]
      exact rest
  · have hd : x.2.1.1 = 0 := by simpa using hd
    rw [if_pos hd] at rest
    exact rest
end Go.Proofs.Yh.Sh

namespace Go.Proofs.Yh.Sh
open Go Go.Aw Go.Proofs Go.RowKit
theorem instrr_sw (x : Ins) (ok : insOk x) (hz : insZ x ≤ 1000000000) (b : ByteArray) (hb : b.size ≤ 500000000000) (k : ByteArray → Prop) (h : k (b ++ swS x)) : N13.j17' x.1 x.2.1.1 x.2.1.2.1 x.2.1.2.2.1 x.2.1.2.2.2 x.2.2.1 x.2.2.2.1 x.2.2.2.2.1 x.2.2.2.2.2.1 x.2.2.2.2.2.2 b k := by
  unfold N13.j17' N13.j17 N13.l21'
  have hz' := hz
  unfold insZ at hz'
  obtain ⟨_, _, _, _, ok5⟩ := ok
  unfold swS at h
  refine br_of (fun h22 => ?_) (fun h22 => ?_)
  · have h22 : ¬ x.1 = 22 := by simpa using h22
    rw [if_neg h22, ByteArray.append_empty] at h
    exact h
  have h22 : x.1 = 22 := by simpa using h22
  rw [if_pos h22] at h
  refine loopS_of (fun s : Int × List ByteArray => ∃ i : Nat, s.1 = i ∧ i ≤ x.2.2.2.2.2.2.length ∧ s.2 = (List.range i).map (caseS x)) (fun s => x.2.2.2.2.2.2.length - s.1.toNat) ?_ ⟨0, rfl, Nat.zero_le _, rfl⟩
  rintro again ⟨a, b'⟩ ⟨i, e1, hi, e2⟩ hag
  simp only at e1 e2
  subst e1; subst e2
  unfold N13.l21 N13.j24' N13.j24
  dsimp only
  refine br_of (fun hlt => ?_) (fun hge => ?_)
  · have hlt := lenlt.1 hlt
    refine ⟨inBk hlt, ?_⟩
    simp only [Int.toNat_natCast]
    have hp := putB_size (x.2.2.2.2.2.2.getD i 0)
    have hn := nthS_size x.2.2.2.2.2.1 i
    refine putr_s _ (ok5 _ (getD_memA hlt)) _ ?_
    rw [show bytesOf (putL (x.2.2.2.2.2.2.getD i 0)) = putB (x.2.2.2.2.2.2.getD i 0) from rfl]
    refine ⟨?_, nth_s _ i _ ⟨?_, ?_, ?_⟩⟩
    · simp only [ByteArray.size_append, z2]; omega
    · simp only [ByteArray.size_append, z2]; omega
    · unfold room; simp only [List.length_map, List.length_range, List.length_singleton]; omega
    · rw [wrap_id (by omega) (by omega)]
      refine hag _ ⟨i + 1, by simp, by omega, ?_⟩ (by simp only; omega)
      rw [List.range_succ, List.map_append]; rfl
  · have hge : i = x.2.2.2.2.2.2.length := by have := of_decide_eq_false hge; omega
    subst hge
    have hn := nthS_size x.2.2.2.2.2.1 x.2.2.2.2.2.2.length
    have h8 := joinS_size (casesS x)
    have h9 := szL_cases x
    refine ⟨?_, nth_s _ _ _ ⟨?_, ?_, ?_⟩⟩
    · simp only [ByteArray.size_append, z2]; omega
    · simp only [ByteArray.size_append, z6]; omega
    · unfold room; simp only [List.length_map, List.length_range, List.length_singleton]; omega
    · refine join_s (casesS x) (by omega) _ ⟨?_, ?_, ?_⟩
      · simp only [ByteArray.size_append, z2]; omega
      · simp only [ByteArray.size_append, z2, z1]; omega
      · simp only [ByteArray.append_assoc] at h ⊢
        exact h
theorem instrr_args (x : Ins) (ok : insOk x) (hz : insZ x ≤ 1000000000) (b : ByteArray) (hb : b.size ≤ 100000000000) (k : ByteArray → Prop) (h : k (b ++ (argsS x ++ swS x))) : N13.j15' x.1 x.2.1.1 x.2.1.2.1 x.2.1.2.2.1 x.2.1.2.2.2 x.2.2.1 x.2.2.2.1 x.2.2.2.2.1 x.2.2.2.2.2.1 x.2.2.2.2.2.2 b (partsS x) k := by
  unfold N13.j15' N13.j15
  have hz' := hz
  unfold insZ at hz'
  have h6 := joinS_size (partsS x)
  have h7 := szL_parts x
  unfold argsS at h
  refine br_of (fun hp => ?_) (fun hp => ?_)
  · have hp := of_decide_eq_true hp
    rw [if_pos (by omega)] at h
    refine ⟨?_, join_s _ (by omega) _ ⟨?_, instrr_sw x ok hz _ ?_ k ?_⟩⟩
    · simp only [ByteArray.size_append, z1]; omega
    · simp only [ByteArray.size_append, z1]; omega
    · simp only [ByteArray.size_append, z1]; omega
    · simp only [ByteArray.append_assoc] at h ⊢
      exact h
  · have hp := of_decide_eq_false hp
    rw [if_neg (by omega), ByteArray.empty_append] at h
    exact instrr_sw x ok hz _ (by omega) k h
theorem instrr_labels (x : Ins) (ok : insOk x) (hz : insZ x ≤ 1000000000) (b : ByteArray) (hb : b.size ≤ 100000000000) (l : List ByteArray) (hl : l.length ≤ 1000000000) (h1 : x.1 = 20 ∨ x.1 = 21 → partsS x = l ++ x.2.2.2.2.2.1) (h2 : ¬ (x.1 = 20 ∨ x.1 = 21) → partsS x = l) (k : ByteArray → Prop) (h : k (b ++ (argsS x ++ swS x))) : N13.j13' x.1 x.2.1.1 x.2.1.2.1 x.2.1.2.2.1 x.2.1.2.2.2 x.2.2.1 x.2.2.2.1 x.2.2.2.2.1 x.2.2.2.2.2.1 x.2.2.2.2.2.2 b l k := by
  unfold N13.j13' N13.j13 N13.j2000014' N13.j2000014
  have hz' := hz
  unfold insZ at hz'
  have hsz := szL_len x.2.2.2.2.2.1
  have two : ∀ c : Bool, (c = true ↔ (x.1 = 20 ∨ x.1 = 21)) → br c (room (l.length + x.2.2.2.2.2.1.length) 16 ∧ N13.j15' x.1 x.2.1.1 x.2.1.2.1 x.2.1.2.2.1 x.2.1.2.2.2 x.2.2.1 x.2.2.2.1 x.2.2.2.2.1 x.2.2.2.2.2.1 x.2.2.2.2.2.2 b (l ++ x.2.2.2.2.2.1) k) (N13.j15' x.1 x.2.1.1 x.2.1.2.1 x.2.1.2.2.1 x.2.1.2.2.2 x.2.2.1 x.2.2.2.1 x.2.2.2.2.1 x.2.2.2.2.2.1 x.2.2.2.2.2.2 b l k) := by
    intro c hc
    refine br_of (fun hbt => ?_) (fun hbf => ?_)
    · refine ⟨by unfold room; omega, ?_⟩
      rw [← h1 (hc.1 hbt)]
      exact instrr_args x ok hz b hb k h
    · rw [← h2 (fun q => by rw [hc.2 q] at hbf; cases hbf)]
      exact instrr_args x ok hz b hb k h
  refine br_of (fun h20 => ?_) (fun h20 => two _ ?_)
  · have : x.1 = 20 := by simpa using h20
    exact two true (by simp [this])
  · have : ¬ x.1 = 20 := by simpa using h20
    simp [this]
theorem instrr_off (x : Ins) (ok : insOk x) (hz : insZ x ≤ 1000000000) (b : ByteArray) (hb : b.size ≤ 100000000000) (c : Bool) (hc : c = true ↔ ((x.1 = 17 ∨ x.1 = 18) ∧ 0 < (opsS x.2.2.1).length ∧ x.2.2.2.2.1 ≠ 0)) (k : ByteArray → Prop) (h : k (b ++ (argsS x ++ swS x))) : N13.j2000012' x.1 x.2.1.1 x.2.1.2.1 x.2.1.2.2.1 x.2.1.2.2.2 x.2.2.1 x.2.2.2.1 x.2.2.2.2.1 x.2.2.2.2.2.1 x.2.2.2.2.2.2 b c (opsS x.2.2.1) k := by
  unfold N13.j2000012' N13.j2000012
  have hz' := hz
  unfold insZ at hz'
  obtain ⟨_, _, _, ok4, _⟩ := id ok
  have hl := opsS_length x.2.2.1
  have hg := opsS_getD x.2.2.1 ((opsS x.2.2.1).length - 1)
  have hp := putB_size x.2.2.2.2.1
  refine br_of (fun hbt => ?_) (fun hbf => ?_)
  · obtain ⟨q1, q2, q3⟩ := hc.1 hbt
    rw [wrap_id (n := ((opsS x.2.2.1).length : Int) - 1) (by omega) (by omega), show Int.toNat (((opsS x.2.2.1).length : Int) - 1) = (opsS x.2.2.1).length - 1 by omega]
    refine ⟨⟨by omega, by omega, by omega⟩, ?_, putr_s _ ok4 _ ?_⟩
    · rw [z3]; omega
    · rw [show bytesOf (putL x.2.2.2.2.1) = putB x.2.2.2.2.1 from rfl]
      refine ⟨?_, ⟨by omega, by omega, by omega⟩, instrr_labels x ok hz b hb _ (by simp; omega) (fun q => ?_) (fun _ => ?_) k h⟩
      · rw [ByteArray.size_append, z3]; omega
      · omega
      · unfold partsS tailS
        rw [if_pos q1, if_pos ⟨q2, q3⟩]
        simp only [ByteArray.append_assoc]
  · refine instrr_labels x ok hz b hb _ (by omega) (fun q => ?_) (fun q => ?_) k h
    · unfold partsS tailS
      rw [if_neg (by omega), if_pos q]
    · unfold partsS tailS
      by_cases q1 : x.1 = 17 ∨ x.1 = 18
      · rw [if_pos q1, if_neg (fun q2 => by rw [hc.2 ⟨q1, q2⟩] at hbf; cases hbf)]
      · rw [if_neg q1, if_neg q]
theorem instrr_s (x : Ins) (ok : insOk x) (hz : insZ x ≤ 1000000000) (k : ByteArray → Prop) (h : k (instrS x)) : N13.f x.1 x.2.1.1 x.2.1.2.1 x.2.1.2.2.1 x.2.1.2.2.2 x.2.2.1 x.2.2.2.1 x.2.2.2.2.1 x.2.2.2.2.2.1 x.2.2.2.2.2.2 k := by
  rw [N13.f_def]
  unfold N13.f0 N13.c
  have ok' := ok
  obtain ⟨ok1, ok2, ok3, ok4, ok5⟩ := ok
  have hz' := hz
  unfold insZ at hz'
  have h1 := preS_size x
  have h2 := mnemS_size x.1
  have h3 := quoB_size x.2.2.2.1
  have h4 := joinS_size (opsS x.2.2.1)
  have h5 := szL_ops x.2.2.1
  unfold instrS at h
  have named : ∀ d a l m, N13.j7' x.1 x.2.1.1 x.2.1.2.1 x.2.1.2.2.1 x.2.1.2.2.2 x.2.2.1 x.2.2.2.1 x.2.2.2.2.1 x.2.2.2.2.2.1 x.2.2.2.2.2.2 (preS x) (mnemS x.1) d a l m k := by
    intro d a l m
    unfold N13.j7' N13.j7
    refine ⟨by omega, operandsr_s _ ok3 (by omega) _ ?_⟩
    refine br_of (fun h19 => ?_) (fun h19 => ?_)
    · have h19 : x.1 = 19 := by simpa using h19
      rw [if_pos h19] at h
      refine ⟨?_, putr_s_q _ (by omega) _ ?_⟩
      · simp only [ByteArray.size_append, z1]; omega
      rw [show bytesOf (qputL (ofBytes x.2.2.2.1)) = quoB x.2.2.2.1 from rfl]
      refine ⟨?_, ?_, join_s _ (by omega) _ ⟨?_, ?_, ?_⟩⟩
      · simp only [ByteArray.size_append, z1]; omega
      · simp only [ByteArray.size_append, z1]; omega
      · simp only [ByteArray.size_append, z1]; omega
      · simp only [ByteArray.size_append, z1]; omega
      · simp only [ByteArray.append_assoc] at h ⊢
        exact h
    · have h19 : ¬ x.1 = 19 := by simpa using h19
      rw [if_neg h19] at h
      have off : ∀ c : Bool, (c = true ↔ ((x.1 = 17 ∨ x.1 = 18) ∧ 0 < (opsS x.2.2.1).length ∧ x.2.2.2.2.1 ≠ 0)) → N13.j2000012' x.1 x.2.1.1 x.2.1.2.1 x.2.1.2.2.1 x.2.1.2.2.2 x.2.2.1 x.2.2.2.1 x.2.2.2.2.1 x.2.2.2.2.2.1 x.2.2.2.2.2.2 (preS x ++ mnemS x.1) c (opsS x.2.2.1) k := fun c hc =>
        instrr_off x ok' hz _ (by rw [ByteArray.size_append]; omega) c hc k h
      have sub : (x.1 = 17 ∨ x.1 = 18) → br (decide (((opsS x.2.2.1).length : Int) > 0)) (N13.j2000012' x.1 x.2.1.1 x.2.1.2.1 x.2.1.2.2.1 x.2.1.2.2.2 x.2.2.1 x.2.2.2.1 x.2.2.2.2.1 x.2.2.2.2.2.1 x.2.2.2.2.2.2 (preS x ++ mnemS x.1) (x.2.2.2.2.1 != 0) (opsS x.2.2.1) k) (N13.j2000012' x.1 x.2.1.1 x.2.1.2.1 x.2.1.2.2.1 x.2.1.2.2.2 x.2.2.1 x.2.2.2.1 x.2.2.2.2.1 x.2.2.2.2.2.1 x.2.2.2.2.2.2 (preS x ++ mnemS x.1) false (opsS x.2.2.1) k) := by
        intro hq
        refine br_of (fun hp => off _ ?_) (fun hp => off _ ?_)
        · have hp := of_decide_eq_true hp
          simp only [hq, true_and, bne_iff_ne, ne_eq]
          exact ⟨fun q => ⟨by omega, q⟩, fun q => q.2⟩
        · have hp := of_decide_eq_false hp
          exact ⟨fun q => (by cases q), fun q => (by omega)⟩
      refine br_of (fun h17 => ?_) (fun h17 => br_of (fun h18 => ?_) (fun h18 => ?_))
      · exact sub (.inl (by simpa using h17))
      · exact sub (.inr (by simpa using h18))
      · have h17 : ¬ x.1 = 17 := by simpa using h17
        have h18 : ¬ x.1 = 18 := by simpa using h18
        exact off false ⟨fun q => (by cases q), fun q => (by omega)⟩
  have rest : N13.j4' x.1 x.2.1.1 x.2.1.2.1 x.2.1.2.2.1 x.2.1.2.2.2 x.2.2.1 x.2.2.2.1 x.2.2.2.2.1 x.2.2.2.2.2.1 x.2.2.2.2.2.2 (preS x) k := by
    unfold N13.j4' N13.j4
    refine findr_s _ ok1 _ _ (fun hi s d l a => ?_) (fun hi d a l m => ?_)
    · have hm : mnemS x.1 = ByteArray.mk #[63] := by unfold mnemS; rw [if_neg hi]
      rw [Bool.not_false, br_true, ← hm]
      exact named _ _ _ _
    · have hm : mnemS x.1 = opNm x.1 := by unfold mnemS; rw [if_pos hi]
      rw [Bool.not_true, br_false, ← hm]
      exact named _ _ _ _
  unfold preS at rest
  refine br_of (fun hd => ?_) (fun hd => ?_)
  · have hd : ¬ x.2.1.1 = 0 := by simpa using hd
    rw [if_neg hd] at rest
    have h0 := opndS_size x.2.1
    refine opndr_s _ _ _ _ ok2 _ ⟨?_, ?_⟩
    · rw [z3]; show (opndS x.2.1).size + 3 ≤ _; omega
    · exact rest
  · have hd : x.2.1.1 = 0 := by simpa using hd
    rw [if_pos hd] at rest
    exact rest
end Go.Proofs.Yh.Sh

namespace Go.Proofs.Yh.Sh
open Go Go.Aw Go.Proofs Go.RowKit
def catF {α : Type} (f : α → ByteArray) (l : List α) : ByteArray := l.foldl (fun s x => s ++ f x) ByteArray.empty
theorem catF_succ {α : Type} (f : α → ByteArray) {l : List α} {d : α} {i : Nat} (h : i < l.length) : catF f (l.take (i + 1)) = catF f (l.take i) ++ f (l.getD i d) := by
  unfold catF
  rw [List.take_succ_eq_append_getElem h, List.foldl_append]
  simp [List.getD, List.getElem?_eq_getElem h]
theorem catF_zero {α : Type} (f : α → ByteArray) (l : List α) : catF f (l.take 0) = ByteArray.empty := rfl
theorem sum_take {α : Type} (z : α → Nat) (l : List α) (i : Nat) : ((l.take i).map z).sum ≤ (l.map z).sum := by
  conv => rhs; rw [← List.take_append_drop i l, List.map_append, List.sum_append]
  omega
theorem sum_mem {α : Type} (z : α → Nat) {l : List α} {x : α} (h : x ∈ l) : z x ≤ (l.map z).sum := by
  induction l with
  | nil => cases h
  | cons y r ih =>
    rw [List.map_cons, List.sum_cons]
    rcases List.mem_cons.1 h with rfl | h
    · omega
    · have := ih h; omega
theorem catF_size {α : Type} (f : α → ByteArray) (z : α → Nat) (c : Nat) (l : List α) (h : ∀ x ∈ l, (f x).size ≤ c * z x) : ∀ i, i ≤ l.length → (catF f (l.take i)).size ≤ c * ((l.take i).map z).sum
  | 0, _ => by rw [catF_zero, mt_size]; exact Nat.zero_le _
  | i + 1, hi => by
    have ih := catF_size f z c l h i (by omega)
    have hx := h _ (List.getElem_mem (by omega : i < l.length))
    rw [catF_succ f (d := l[i]) (by omega), ByteArray.size_append, List.take_succ_eq_append_getElem (by omega), List.map_append, List.sum_append]
    simp only [List.map_cons, List.map_nil, List.sum_cons, List.sum_nil, Nat.add_zero, Nat.mul_add]
    rw [List.getD, List.getElem?_eq_getElem (by omega)]
    show _ + (f l[i]).size ≤ _
    omega
theorem catF_le {α : Type} (f : α → ByteArray) (z : α → Nat) (c : Nat) (l : List α) (h : ∀ x ∈ l, (f x).size ≤ c * z x) {i : Nat} (hi : i ≤ l.length) : (catF f (l.take i)).size ≤ c * (l.map z).sum :=
  Nat.le_trans (catF_size f z c l h i hi) (Nat.mul_le_mul_left _ (sum_take z l i))
def insZs (l : List Ins) : Nat := (l.map insZ).sum
def blkZ (b : Blo) : Nat := b.1.size + b.2.2.1.length + insZs b.2.2.2 + 1
def blkOk (b : Blo) : Prop := (∀ o ∈ b.2.2.1, opdOk o) ∧ ∀ x ∈ b.2.2.2, insOk x
def inS (l : List Opd) : ByteArray := if 0 < l.length then ByteArray.mk #[32, 91] ++ joinS (opsS l) ++ ByteArray.mk #[93] else ByteArray.empty
def headS (b : Blo) : ByteArray := (bif b.2.1 then ByteArray.mk #[101, 100, 103, 101, 32] else ByteArray.empty) ++ b.1 ++ inS b.2.2.1 ++ ByteArray.mk #[58]
def rowS (x : Ins) : ByteArray := ByteArray.mk #[32, 32] ++ instrS x ++ ByteArray.mk #[59, 10]
def blockS (b : Blo) : ByteArray := headS b ++ ByteArray.mk #[10] ++ catF rowS b.2.2.2
theorem inS_size (l : List Opd) : (inS l).size ≤ 62 * l.length + 3 := by
  unfold inS
  have h1 := joinS_size (opsS l)
  have h2 := szL_ops l
  split
  · simp only [ByteArray.size_append, z1, z2]; omega
  · rw [mt_size]; omega
theorem headS_size (b : Blo) : (headS b).size ≤ b.1.size + 62 * b.2.2.1.length + 9 := by
  unfold headS
  have := inS_size b.2.2.1
  cases b.2.1
  · simp only [cond_false, ByteArray.size_append, z1, mt_size]; omega
  · simp only [cond_true, ByteArray.size_append, z1, z5]; omega
theorem rowS_size (x : Ins) : (rowS x).size ≤ 304 * insZ x := by
  unfold rowS
  have := instrS_size x
  have : 1 ≤ insZ x := by unfold insZ; omega
  simp only [ByteArray.size_append, z2]; omega
theorem blockS_size (b : Blo) : (blockS b).size ≤ 400 * blkZ b := by
  unfold blockS blkZ
  have h1 := headS_size b
  have h2 := catF_le rowS insZ 304 b.2.2.2 (fun x _ => rowS_size x) (Nat.le_refl _)
  rw [List.take_length] at h2
  unfold insZs
  simp only [ByteArray.size_append, z1]; omega
theorem head_s (b : Blo) (ok : ∀ o ∈ b.2.2.1, opdOk o) (hz : b.1.size + b.2.2.1.length ≤ 1000000000) (k : ByteArray → Prop) (h : k (headS b)) : N17.f b.1 b.2.1 b.2.2.1 b.2.2.2 k := by
  rw [N17.f_def]
  unfold N17.f0 N17.c
  have h1 := joinS_size (opsS b.2.2.1)
  have h2 := szL_ops b.2.2.1
  unfold headS at h
  have rest : ∀ p : ByteArray, p.size ≤ 10 → k (p ++ b.1 ++ inS b.2.2.1 ++ ByteArray.mk #[58]) → N17.j4' b.1 b.2.1 b.2.2.1 b.2.2.2 p k := by
    intro p hp h
    unfold N17.j4' N17.j4 N17.j7' N17.j7
    refine ws_b (by omega) ?_
    unfold inS at h
    refine br_of (fun hl => ?_) (fun hl => ?_)
    · have hl := of_decide_eq_true hl
      rw [if_pos (by omega)] at h
      refine operands_s _ ok (by omega) _ (between_s _ _ _ _ _ ?_ (wb_b ⟨by decide, by decide⟩ ?_ (bs_b ?_)))
      · simp only [ByteArray.size_append, z1, z2]; omega
      · simp only [ByteArray.size_append, z1, z2]; omega
      · simp only [ByteArray.append_assoc] at h ⊢
        exact h
    · have hl := of_decide_eq_false hl
      rw [if_neg (by omega), ByteArray.append_empty] at h
      refine wb_b ⟨by decide, by decide⟩ ?_ (bs_b h)
      simp only [ByteArray.size_append]; omega
  cases hb : b.2.1 with
  | true =>
    rw [hb, cond_true] at h
    rw [hb] at rest
    refine ws_b (by rw [mt_size, z5]; omega) ?_
    rw [ByteArray.empty_append]
    exact rest _ (by rw [z5]; omega) h
  | false =>
    rw [hb, cond_false] at h
    rw [hb] at rest
    exact rest _ (by rw [mt_size]; omega) h
theorem headr_s (b : Blo) (ok : ∀ o ∈ b.2.2.1, opdOk o) (hz : b.1.size + b.2.2.1.length ≤ 1000000000) (k : ByteArray → Prop) (h : k (headS b)) : N35.f b.1 b.2.1 b.2.2.1 b.2.2.2 k := by
  rw [N35.f_def]
  unfold N35.f0 N35.c
  have h1 := joinS_size (opsS b.2.2.1)
  have h2 := szL_ops b.2.2.1
  unfold headS at h
  have rest : ∀ p : ByteArray, p.size ≤ 10 + b.1.size → k (p ++ inS b.2.2.1 ++ ByteArray.mk #[58]) → N35.j4' b.1 b.2.1 b.2.2.1 b.2.2.2 p k := by
    intro p hp h
    unfold N35.j4' N35.j4 N35.j6' N35.j6
    unfold inS at h
    refine br_of (fun hl => ?_) (fun hl => ?_)
    · have hl := of_decide_eq_true hl
      rw [if_pos (by omega)] at h
      refine ⟨?_, operandsr_s _ ok (by omega) _ (join_s _ (by omega) _ ⟨?_, ?_, ?_, ?_⟩)⟩
      · simp only [ByteArray.size_append, z1, z2]; omega
      · simp only [ByteArray.size_append, z1, z2]; omega
      · simp only [ByteArray.size_append, z1, z2]; omega
      · simp only [ByteArray.size_append, z1, z2]; omega
      · simp only [ByteArray.append_assoc] at h ⊢
        exact h
    · have hl := of_decide_eq_false hl
      rw [if_neg (by omega), ByteArray.append_empty] at h
      refine ⟨?_, h⟩
      simp only [ByteArray.size_append, z1]; omega
  cases hb : b.2.1 with
  | true =>
    rw [hb, cond_true] at h
    rw [hb] at rest
    refine ⟨by rw [z5]; omega, rest _ (by rw [ByteArray.size_append, z5]; omega) h⟩
  | false =>
    rw [hb, cond_false, ByteArray.empty_append] at h
    rw [hb] at rest
    exact rest _ (by omega) h
theorem block_s (b : Blo) (ok : blkOk b) (hz : blkZ b ≤ 1000000000) (k : ByteArray → Prop) (h : k (blockS b)) : N18.f b.1 b.2.1 b.2.2.1 b.2.2.2 k := by
  rw [N18.f_def]
  unfold N18.f0 N18.c N18.l4'
  have hz' := hz
  unfold blkZ insZs at hz'
  have h1 := headS_size b
  have hlen : b.2.2.2.length ≤ (b.2.2.2.map insZ).sum := by
    generalize b.2.2.2 = l
    induction l with
    | nil => exact Nat.zero_le _
    | cons x l ih => rw [List.map_cons, List.sum_cons, List.length_cons]; have : 1 ≤ insZ x := by unfold insZ; omega
                     omega
  refine head_s b ok.1 (by omega) _ ⟨?_, ws_b ?_ ?_⟩
  · rw [z1]; omega
  · simp only [ByteArray.size_append, z1, mt_size]; omega
  rw [ByteArray.empty_append]
  unfold blockS at h
  refine loopS_of (fun s : Int × ByteArray => ∃ i : Nat, s.1 = i ∧ i ≤ b.2.2.2.length ∧ s.2 = headS b ++ ByteArray.mk #[10] ++ catF rowS (b.2.2.2.take i)) (fun s => b.2.2.2.length - s.1.toNat) ?_ ⟨0, rfl, Nat.zero_le _, by rw [catF_zero, ByteArray.append_empty]⟩
  rintro again ⟨a, t⟩ ⟨i, e1, hi, e2⟩ hag
  simp only at e1 e2
  subst e1; subst e2
  unfold N18.l4 N18.j8' N18.j8
  dsimp only
  have hc := catF_le rowS insZ 304 b.2.2.2 (fun x _ => rowS_size x) hi
  refine br_of (fun hlt => ?_) (fun hge => ?_)
  · have hlt := lenlt.1 hlt
    refine ⟨inBk hlt, ?_⟩
    simp only [Int.toNat_natCast]
    have hm := getD_memA (d := dI) hlt
    have hzx := sum_mem insZ hm
    have hsx := instrS_size (b.2.2.2.getD i dI)
    refine instr_s _ (ok.2 _ hm) (by omega) _ ⟨?_, ?_, ws_b ?_ ?_⟩
    · simp only [ByteArray.size_append, z2]; omega
    · simp only [ByteArray.size_append, z2]; omega
    · simp only [ByteArray.size_append, z2, z1]; omega
    · rw [wrap_id (by omega) (by omega)]
      refine hag _ ⟨i + 1, by simp, by omega, ?_⟩ (by simp only; omega)
      rw [catF_succ rowS (d := dI) hlt]
      unfold rowS
      simp only [ByteArray.append_assoc]
  · have hge : i = b.2.2.2.length := by have := of_decide_eq_false hge; omega
    subst hge
    rw [List.take_length]
    exact bs_b h
end Go.Proofs.Yh.Sh

namespace Go.Proofs.Yh.Sh
open Go Go.Aw Go.Proofs Go.RowKit
abbrev Reg := Int × Int
abbrev Fun := Bool × (ByteArray × (List Reg × (List Opd × List Blo)))
def regS (r : Reg) : ByteArray := ByteArray.mk #[32] ++ (ByteArray.mk #[37] ++ putB r.1) ++ ByteArray.mk #[58] ++ letterL r.2
def regsS (l : List Reg) : ByteArray := ByteArray.mk #[114, 101, 103, 115] ++ catF regS l ++ ByteArray.mk #[59, 10]
def regsO (l : List Reg) : ByteArray := if 0 < l.length then regsS l else ByteArray.empty
def blksZ (l : List Blo) : Nat := (l.map blkZ).sum
def funZ (f : Fun) : Nat := f.2.1.size + f.2.2.1.length + f.2.2.2.1.length + blksZ f.2.2.2.2 + 1
def funOk (f : Fun) : Prop := (∀ r ∈ f.2.2.1, in64 r.1) ∧ (∀ o ∈ f.2.2.2.1, opdOk o) ∧ ∀ b ∈ f.2.2.2.2, blkOk b
def topS (f : Fun) : ByteArray := (bif f.1 then ByteArray.mk #[109, 97, 99, 104, 105, 110, 101, 32] else ByteArray.mk #[102, 117, 110, 99, 32]) ++ f.2.1 ++ ByteArray.mk #[40] ++ joinS (opsS f.2.2.2.1) ++ ByteArray.mk #[41, 32, 123, 10] ++ regsO f.2.2.1
def funcS (f : Fun) : ByteArray := topS f ++ catF blockS f.2.2.2.2 ++ ByteArray.mk #[125, 10]
theorem letterL_size (c : Int) : (letterL c).size ≤ 1 := by
  unfold letterL
  repeat' split
  all_goals decide
theorem regS_size (r : Reg) : (regS r).size ≤ 25 * 1 := by
  unfold regS
  have := putB_size r.1
  have := letterL_size r.2
  simp only [ByteArray.size_append, z1]; omega
theorem ones_sum {α : Type} (l : List α) : (l.map fun _ => 1).sum = l.length := by
  induction l with
  | nil => rfl
  | cons x l ih => rw [List.map_cons, List.sum_cons, ih, List.length_cons]; omega
theorem regs_le (l : List Reg) {i : Nat} (hi : i ≤ l.length) : (catF regS (l.take i)).size ≤ 25 * l.length := by
  have := catF_le regS (fun _ => 1) 25 l (fun x _ => regS_size x) hi
  rw [ones_sum] at this
  exact this
theorem regsO_size (l : List Reg) : (regsO l).size ≤ 25 * l.length + 6 := by
  unfold regsO regsS
  have := regs_le l (Nat.le_refl _)
  rw [List.take_length] at this
  split
  · simp only [ByteArray.size_append, z4, z2]; omega
  · rw [mt_size]; omega
theorem topS_size (f : Fun) : (topS f).size ≤ f.2.1.size + 62 * f.2.2.2.1.length + 25 * f.2.2.1.length + 30 := by
  unfold topS
  have h1 := joinS_size (opsS f.2.2.2.1)
  have h2 := szL_ops f.2.2.2.1
  have h3 := regsO_size f.2.2.1
  cases f.1
  · simp only [cond_false, ByteArray.size_append, z1, z4, z5]; omega
  · simp only [cond_true, ByteArray.size_append, z1, z4, z8]; omega
theorem funcS_size (f : Fun) : (funcS f).size ≤ 500 * funZ f := by
  unfold funcS funZ blksZ
  have h1 := topS_size f
  have h2 := catF_le blockS blkZ 400 f.2.2.2.2 (fun x _ => blockS_size x) (Nat.le_refl _)
  rw [List.take_length] at h2
  simp only [ByteArray.size_append, z2]; omega
theorem regs_s (l : List Reg) (ok : ∀ r ∈ l, in64 r.1) (hl : l.length ≤ 1000000000) (k : ByteArray → Prop) (h : k (regsS l)) : N30.f l k := by
  rw [N30.f_def]
  unfold N30.f0 N30.c N30.l4'
  refine ws_b (by rw [mt_size, z4]; omega) ?_
  rw [ByteArray.empty_append]
  unfold regsS at h
  refine loopS_of (fun s : Int × ByteArray => ∃ i : Nat, s.1 = i ∧ i ≤ l.length ∧ s.2 = ByteArray.mk #[114, 101, 103, 115] ++ catF regS (l.take i)) (fun s => l.length - s.1.toNat) ?_ ⟨0, rfl, Nat.zero_le _, by rw [catF_zero, ByteArray.append_empty]⟩
  rintro again ⟨a, t⟩ ⟨i, e1, hi, e2⟩ hag
  simp only at e1 e2
  subst e1; subst e2
  unfold N30.l4 N30.j8' N30.j8
  dsimp only
  have hc := regs_le l hi
  refine br_of (fun hlt => ?_) (fun hge => ?_)
  · have hlt := lenlt.1 hlt
    refine ⟨inBk hlt, ?_⟩
    simp only [Int.toNat_natCast]
    have hm := getD_memA (d := ((0, 0) : Reg)) hlt
    have hp := putB_size (l.getD i (0, 0)).1
    have hll := letterL_size (l.getD i (0, 0)).2
    refine vreg_s _ (ok _ hm) _ ⟨?_, ?_, letter_s _ _ ⟨?_, ws_b ?_ ?_⟩⟩
    · simp only [ByteArray.size_append, z1]; omega
    · simp only [ByteArray.size_append, z1]; omega
    · simp only [ByteArray.size_append, z1]; omega
    · simp only [ByteArray.size_append, z1, z4]; omega
    · rw [wrap_id (by omega) (by omega)]
      refine hag _ ⟨i + 1, by simp, by omega, ?_⟩ (by simp only; omega)
      rw [catF_succ regS (d := ((0, 0) : Reg)) hlt]
      unfold regS
      simp only [ByteArray.append_assoc]
  · have hge : i = l.length := by have := of_decide_eq_false hge; omega
    subst hge
    rw [List.take_length] at hc ⊢
    refine ws_b ?_ (bs_b h)
    simp only [ByteArray.size_append, z2, z4]; omega
theorem func_s (f : Fun) (ok : funOk f) (hz : funZ f ≤ 1000000000) (k : ByteArray → Prop) (h : k (funcS f)) : N10.f f.1 f.2.1 f.2.2.1 f.2.2.2.1 f.2.2.2.2 k := by
  rw [N10.f_def]
  unfold N10.f0 N10.c
  obtain ⟨ok1, ok2, ok3⟩ := ok
  have hz' := hz
  unfold funZ blksZ at hz'
  have h1 := joinS_size (opsS f.2.2.2.1)
  have h2 := szL_ops f.2.2.2.1
  have h3 := regsO_size f.2.2.1
  have hlen : f.2.2.2.2.length ≤ (f.2.2.2.2.map blkZ).sum := by
    generalize f.2.2.2.2 = l
    induction l with
    | nil => exact Nat.zero_le _
    | cons x l ih => rw [List.map_cons, List.sum_cons, List.length_cons]; have : 1 ≤ blkZ x := by unfold blkZ; omega
                     omega
  unfold funcS topS at h
  have blocks : ∀ b : ByteArray, b.size ≤ 100000000000 → k (b ++ catF blockS f.2.2.2.2 ++ ByteArray.mk #[125, 10]) → N10.j8' f.1 f.2.1 f.2.2.1 f.2.2.2.1 f.2.2.2.2 b k := by
    intro b hb h
    unfold N10.j8' N10.j8 N10.l9'
    refine loopS_of (fun s : Int × ByteArray => ∃ i : Nat, s.1 = i ∧ i ≤ f.2.2.2.2.length ∧ s.2 = b ++ catF blockS (f.2.2.2.2.take i)) (fun s => f.2.2.2.2.length - s.1.toNat) ?_ ⟨0, rfl, Nat.zero_le _, by rw [catF_zero, ByteArray.append_empty]⟩
    rintro again ⟨a, t⟩ ⟨i, e1, hi, e2⟩ hag
    simp only at e1 e2
    subst e1; subst e2
    unfold N10.l9 N10.j13' N10.j13
    dsimp only
    have hc := catF_le blockS blkZ 400 f.2.2.2.2 (fun x _ => blockS_size x) hi
    refine br_of (fun hlt => ?_) (fun hge => ?_)
    · have hlt := lenlt.1 hlt
      refine ⟨inBk hlt, ?_⟩
      simp only [Int.toNat_natCast]
      have hm := getD_memA (d := dB) hlt
      have hzx := sum_mem blkZ hm
      have hsx := blockS_size (f.2.2.2.2.getD i dB)
      refine block_s _ (ok3 _ hm) (by omega) _ (ws_b ?_ ?_)
      · simp only [ByteArray.size_append]; omega
      · rw [wrap_id (by omega) (by omega)]
        refine hag _ ⟨i + 1, by simp, by omega, ?_⟩ (by simp only; omega)
        rw [catF_succ blockS (d := dB) hlt]
        simp only [ByteArray.append_assoc]
    · have hge : i = f.2.2.2.2.length := by have := of_decide_eq_false hge; omega
      subst hge
      rw [List.take_length] at hc ⊢
      refine ws_b ?_ (bs_b h)
      simp only [ByteArray.size_append, z2]; omega
  have rest : ∀ p : ByteArray, p.size ≤ 10 → k (p ++ f.2.1 ++ ByteArray.mk #[40] ++ joinS (opsS f.2.2.2.1) ++ ByteArray.mk #[41, 32, 123, 10] ++ regsO f.2.2.1 ++ catF blockS f.2.2.2.2 ++ ByteArray.mk #[125, 10]) → N10.j5' f.1 f.2.1 f.2.2.1 f.2.2.2.1 f.2.2.2.2 p k := by
    intro p hp h
    unfold N10.j5' N10.j5
    refine ⟨?_, operands_s _ ok2 (by omega) _ (between_s _ _ _ _ _ ?_ ?_)⟩
    · rw [z1]; omega
    · simp only [ByteArray.size_append, z1, z4]; omega
    unfold regsO at h h3
    refine br_of (fun hl => ?_) (fun hl => ?_)
    · have hl := of_decide_eq_true hl
      rw [if_pos (by omega)] at h h3
      refine regs_s _ ok1 (by omega) _ (ws_b ?_ (blocks _ ?_ ?_))
      · simp only [ByteArray.size_append, z1, z4]; omega
      · simp only [ByteArray.size_append, z1, z4]; omega
      · simp only [ByteArray.append_assoc] at h ⊢
        exact h
    · have hl := of_decide_eq_false hl
      rw [if_neg (by omega), ByteArray.append_empty] at h
      refine blocks _ ?_ ?_
      · simp only [ByteArray.size_append, z1, z4]; omega
      · simp only [ByteArray.append_assoc] at h ⊢
        exact h
  cases hb : f.1 with
  | true =>
    rw [hb, cond_true] at h
    rw [hb] at rest
    refine ws_b (by rw [mt_size, z8]; omega) ?_
    rw [ByteArray.empty_append]
    exact rest _ (by rw [z8]; omega) h
  | false =>
    rw [hb, cond_false] at h
    rw [hb] at rest
    refine ws_b (by rw [mt_size, z5]; omega) ?_
    rw [ByteArray.empty_append]
    exact rest _ (by rw [z5]; omega) h
end Go.Proofs.Yh.Sh

