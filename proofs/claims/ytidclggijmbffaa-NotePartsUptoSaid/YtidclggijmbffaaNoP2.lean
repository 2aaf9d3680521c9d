/- Functions of the program as plain functions, each with the proof that the code comes to them. -/
import Derived.Test.YtidclggijmbffaaNoP0
import Derived.Test.YtidclggijmbffaaNoP1
set_option linter.unusedVariables false
set_option linter.unusedSimpArgs false
namespace Go.Proofs.Yh
open Go Go.Aw Go.Proofs
set_option maxRecDepth 100000
set_option maxHeartbeats 4000000
namespace N12
noncomputable def cfg : Cfg := { P := Try.prog, ty := tys, E := tab [(14, N14.ent), (27, N27.ent), (36, N36.ent), (37, N37.ent), (29, N29.ent), (28, N28.ent), (31, N31.ent), (38, N38.ent), (39, N39.ent)], atSeq := tab [(4, ⟨[(1, .keep), (3, .keep)]⟩), (11, ⟨[(1, .keep), (3, .keep)]⟩), (13, ⟨[(3, .keep)]⟩)], atLoop := tab [], outs := [], eqT := tab [], bT := tab [(68, 5)], fzB := [1] }
noncomputable def body : Code := bodyOf Try.f12
def j4 (j11 : Int → Int → Int → Int → Int → Zq6 → BA → Int → LB → LI → BA → Prop) (x1_0 x1_1 : Int) (x1_2 x1_3 x1_4 : Int) (x1_5 : Zq6) (x1_6 : BA) (x1_7 : Int) (x1_8 : LB) (x1_9 : LI) (b0 : BA) (k : BA → Prop) : Prop :=
  (N36.f x1_0 x1_1 x1_2 x1_3 x1_4 x1_5 x1_6 x1_7 x1_8 x1_9 (fun (y0_2 : BA) => (ws y0_2 b0 (fun (y_3 : Int) (z_3 : BA) => (br (x1_0 == (19 : Int)) (N37.f x1_6 (fun (y0_4 : BA) => ((((ByteArray.mk #[32])).size + (y0_4).size ≤ 9223372036854775807) ∧ (((((ByteArray.mk #[32]) ++ y0_4)).size + ((ByteArray.mk #[40])).size ≤ 9223372036854775807) ∧ (N29.f x1_5 (fun (z0_5 : LB) => (N28.f (((ByteArray.mk #[32]) ++ y0_4) ++ (ByteArray.mk #[40])) z0_5 (ByteArray.mk #[41]) z_3 (fun (z0_6 : BA) => (bs z0_6 (fun (y_7 : BA) => (k y_7))))))))))) (N38.f x1_0 x1_1 x1_2 x1_3 x1_4 x1_5 x1_6 x1_7 x1_8 x1_9 (fun (z0_8 : LB) => (br (decide (((((z0_8).length : Nat) : Int)) > (0 : Int))) (N28.f (ByteArray.mk #[32]) z0_8 (ByteArray.mk #[]) z_3 (fun (z0_9 : BA) => (j11 x1_0 x1_1 x1_2 x1_3 x1_4 x1_5 x1_6 x1_7 x1_8 x1_9 z0_9))) (j11 x1_0 x1_1 x1_2 x1_3 x1_4 x1_5 x1_6 x1_7 x1_8 x1_9 z_3)))))))))
def j11 (j13 : BA → Prop) (x1_0 x1_1 : Int) (x1_2 x1_3 x1_4 : Int) (x1_5 : Zq6) (x1_6 : BA) (x1_7 : Int) (x1_8 : LB) (x1_9 : LI) (b0 : BA) (k : BA → Prop) : Prop :=
  (br (x1_0 == (22 : Int)) (N39.f x1_0 x1_1 x1_2 x1_3 x1_4 x1_5 x1_6 x1_7 x1_8 x1_9 (fun (z0_10 : LB) => (N28.f (ByteArray.mk #[32, 91]) z0_10 (ByteArray.mk #[93]) b0 (fun (z0_11 : BA) => (j13 z0_11))))) (j13 b0))
def j13 (b0 : BA) (k : BA → Prop) : Prop :=
  (bs b0 (fun (y_12 : BA) => (k y_12)))
def c (j4 : Int → Int → Int → Int → Int → Zq6 → BA → Int → LB → LI → BA → Prop) (x0_0 x0_1_0 : Int) (x0_1_1 x0_1_2 x0_1_3 : Int) (x0_2 : Zq6) (x0_3 : BA) (x0_4 : Int) (x0_5 : LB) (x0_6 : LI) (k : BA → Prop) : Prop :=
  (br (x0_1_0 != (0 : Int)) (N14.f x0_1_0 x0_1_1 x0_1_2 x0_1_3 (fun (y0_0 : BA) => (((y0_0).size + ((ByteArray.mk #[32, 61, 32])).size ≤ 9223372036854775807) ∧ (ws (y0_0 ++ (ByteArray.mk #[32, 61, 32])) ByteArray.empty (fun (y_1 : Int) (z_1 : BA) => (j4 x0_0 x0_1_0 x0_1_1 x0_1_2 x0_1_3 x0_2 x0_3 x0_4 x0_5 x0_6 z_1)))))) (j4 x0_0 x0_1_0 x0_1_1 x0_1_2 x0_1_3 x0_2 x0_3 x0_4 x0_5 x0_6 ByteArray.empty))
def j13' (b0 : BA) (k : BA → Prop) : Prop := j13 b0 k
def j11' (x1_0 x1_1 : Int) (x1_2 x1_3 x1_4 : Int) (x1_5 : Zq6) (x1_6 : BA) (x1_7 : Int) (x1_8 : LB) (x1_9 : LI) (b0 : BA) (k : BA → Prop) : Prop := j11 (fun b0 => j13' b0 k) x1_0 x1_1 x1_2 x1_3 x1_4 x1_5 x1_6 x1_7 x1_8 x1_9 b0 k
def j4' (x1_0 x1_1 : Int) (x1_2 x1_3 x1_4 : Int) (x1_5 : Zq6) (x1_6 : BA) (x1_7 : Int) (x1_8 : LB) (x1_9 : LI) (b0 : BA) (k : BA → Prop) : Prop := j4 (fun x1_0 x1_1 x1_2 x1_3 x1_4 x1_5 x1_6 x1_7 x1_8 x1_9 b0 => j11' x1_0 x1_1 x1_2 x1_3 x1_4 x1_5 x1_6 x1_7 x1_8 x1_9 b0 k) x1_0 x1_1 x1_2 x1_3 x1_4 x1_5 x1_6 x1_7 x1_8 x1_9 b0 k
def f0 (x0_0 x0_1_0 : Int) (x0_1_1 x0_1_2 x0_1_3 : Int) (x0_2 : Zq6) (x0_3 : BA) (x0_4 : Int) (x0_5 : LB) (x0_6 : LI) (k : BA → Prop) : Prop := c (fun x1_0 x1_1 x1_2 x1_3 x1_4 x1_5 x1_6 x1_7 x1_8 x1_9 b0 => j4' x1_0 x1_1 x1_2 x1_3 x1_4 x1_5 x1_6 x1_7 x1_8 x1_9 b0 k) x0_0 x0_1_0 x0_1_1 x0_1_2 x0_1_3 x0_2 x0_3 x0_4 x0_5 x0_6 k
theorem f_ex : ∃ g, g = f0 := ⟨_, rfl⟩
noncomputable def f := Classical.choose f_ex
theorem f_def : f = f0 := Classical.choose_spec f_ex
def m4 (x1_0 x1_1 : Int) (x1_2 x1_3 x1_4 : Int) (x1_5 : Zq6) (x1_6 : BA) (x1_7 : Int) (x1_8 : LB) (x1_9 : LI) (b0 : BA) : St := { tmps := mkT 48 0 [(1, (.fp [(.v (.int .i64 x1_0)), (.v (.int .i64 x1_1)), (.v (.int .i64 x1_2)), (.v (.int .i64 x1_3)), (.v (.int .i64 x1_4)), (.fz Zy0 x1_5), (.v (.string x1_6)), (.v (.int .i64 x1_7)), (.fz Ty.str x1_8), (.fz Zy2 x1_9)])), (3, (.ptr 0 0))], hp := [(.bld 68 5 b0)], m := 0 }
def m11 (x1_0 x1_1 : Int) (x1_2 x1_3 x1_4 : Int) (x1_5 : Zq6) (x1_6 : BA) (x1_7 : Int) (x1_8 : LB) (x1_9 : LI) (b0 : BA) : St := { tmps := mkT 48 0 [(1, (.fp [(.v (.int .i64 x1_0)), (.v (.int .i64 x1_1)), (.v (.int .i64 x1_2)), (.v (.int .i64 x1_3)), (.v (.int .i64 x1_4)), (.fz Zy0 x1_5), (.v (.string x1_6)), (.v (.int .i64 x1_7)), (.fz Ty.str x1_8), (.fz Zy2 x1_9)])), (3, (.ptr 0 0))], hp := [(.bld 68 5 b0)], m := 0 }
def m13 (b0 : BA) : St := { tmps := mkT 48 0 [(3, (.ptr 0 0))], hp := [(.bld 68 5 b0)], m := 0 }
noncomputable def X4 (k kp : KT) : St → Prop := atP cfg (pick none' []) [1, 1, 1] body (topK cfg Try.f12 k kp)
noncomputable def X11 (k kp : KT) : St → Prop := atP cfg (pick none' []) [1, 1, 1, 1, 1, 1] body (topK cfg Try.f12 k kp)
noncomputable def X13 (k kp : KT) : St → Prop := atP cfg (pick none' []) [1, 1, 1, 1, 1, 1, 1] body (topK cfg Try.f12 k kp)
noncomputable def JJ (k kp : KT) : Nat → St → Prop := pick none' [(4, X4 k kp), (11, X11 k kp), (13, X13 k kp)]
noncomputable def LL (k kp : KT) : Nat → St → Prop := pick none' []
theorem j13_c (k kp : KT) (J L : Nat → St → Prop) (b0 : BA) : runC cfg 13 J L (pick none' []) [1, 1, 1, 1, 1, 1, 1] body (topK cfg Try.f12 k kp) (m13 b0) = j13 b0 (fun y0 => k (.v (.string y0)) []) := by kernel_rfl
theorem j13_ag (k kp : KT) : agPL cfg 13 (JJ k kp) (LL k kp) [1, 1, 1, 1, 1, 1, 1] body = agPR cfg 13 (pick none' []) [1, 1, 1, 1, 1, 1, 1] body (topK cfg Try.f12 k kp) := by kernel_rfl
theorem j13_raw (k kp : KT) (b0 : BA) : X13 k kp (m13 b0) = j13 b0 (fun y0 => k (.v (.string y0)) []) :=
  Eq.mp (by kernel_rfl) ((atP_run (j13_ag k kp) (m13 b0)).trans (j13_c k kp (JJ k kp) (LL k kp) b0))
theorem j13_eq (k kp : KT) (b0 : BA) : X13 k kp (m13 b0) = j13' b0 (fun y0 => k (.v (.string y0)) []) := by
  rw [j13_raw]; rfl
theorem j11_c (k kp : KT) (J L : Nat → St → Prop) (x1_0 x1_1 : Int) (x1_2 x1_3 x1_4 : Int) (x1_5 : Zq6) (x1_6 : BA) (x1_7 : Int) (x1_8 : LB) (x1_9 : LI) (b0 : BA) : runC cfg 11 J L (pick none' []) [1, 1, 1, 1, 1, 1] body (topK cfg Try.f12 k kp) (m11 x1_0 x1_1 x1_2 x1_3 x1_4 x1_5 x1_6 x1_7 x1_8 x1_9 b0) = j11 (fun b0 => J 13 (m13 b0)) x1_0 x1_1 x1_2 x1_3 x1_4 x1_5 x1_6 x1_7 x1_8 x1_9 b0 (fun y0 => k (.v (.string y0)) []) := by kernel_rfl
theorem j11_ag (k kp : KT) : agPL cfg 11 (JJ k kp) (LL k kp) [1, 1, 1, 1, 1, 1] body = agPR cfg 11 (pick none' []) [1, 1, 1, 1, 1, 1] body (topK cfg Try.f12 k kp) := by kernel_rfl
theorem j11_raw (k kp : KT) (x1_0 x1_1 : Int) (x1_2 x1_3 x1_4 : Int) (x1_5 : Zq6) (x1_6 : BA) (x1_7 : Int) (x1_8 : LB) (x1_9 : LI) (b0 : BA) : X11 k kp (m11 x1_0 x1_1 x1_2 x1_3 x1_4 x1_5 x1_6 x1_7 x1_8 x1_9 b0) = j11 (fun b0 => X13 k kp (m13 b0)) x1_0 x1_1 x1_2 x1_3 x1_4 x1_5 x1_6 x1_7 x1_8 x1_9 b0 (fun y0 => k (.v (.string y0)) []) :=
  Eq.mp (by kernel_rfl) ((atP_run (j11_ag k kp) (m11 x1_0 x1_1 x1_2 x1_3 x1_4 x1_5 x1_6 x1_7 x1_8 x1_9 b0)).trans (j11_c k kp (JJ k kp) (LL k kp) x1_0 x1_1 x1_2 x1_3 x1_4 x1_5 x1_6 x1_7 x1_8 x1_9 b0))
theorem j11_eq (k kp : KT) (x1_0 x1_1 : Int) (x1_2 x1_3 x1_4 : Int) (x1_5 : Zq6) (x1_6 : BA) (x1_7 : Int) (x1_8 : LB) (x1_9 : LI) (b0 : BA) : X11 k kp (m11 x1_0 x1_1 x1_2 x1_3 x1_4 x1_5 x1_6 x1_7 x1_8 x1_9 b0) = j11' x1_0 x1_1 x1_2 x1_3 x1_4 x1_5 x1_6 x1_7 x1_8 x1_9 b0 (fun y0 => k (.v (.string y0)) []) := by
  rw [j11_raw]; simp only [j13_eq]; first | done | rfl
theorem j4_c (k kp : KT) (J L : Nat → St → Prop) (x1_0 x1_1 : Int) (x1_2 x1_3 x1_4 : Int) (x1_5 : Zq6) (x1_6 : BA) (x1_7 : Int) (x1_8 : LB) (x1_9 : LI) (b0 : BA) : runC cfg 4 J L (pick none' []) [1, 1, 1] body (topK cfg Try.f12 k kp) (m4 x1_0 x1_1 x1_2 x1_3 x1_4 x1_5 x1_6 x1_7 x1_8 x1_9 b0) = j4 (fun x1_0 x1_1 x1_2 x1_3 x1_4 x1_5 x1_6 x1_7 x1_8 x1_9 b0 => J 11 (m11 x1_0 x1_1 x1_2 x1_3 x1_4 x1_5 x1_6 x1_7 x1_8 x1_9 b0)) x1_0 x1_1 x1_2 x1_3 x1_4 x1_5 x1_6 x1_7 x1_8 x1_9 b0 (fun y0 => k (.v (.string y0)) []) := by kernel_rfl
theorem j4_ag (k kp : KT) : agPL cfg 4 (JJ k kp) (LL k kp) [1, 1, 1] body = agPR cfg 4 (pick none' []) [1, 1, 1] body (topK cfg Try.f12 k kp) := by kernel_rfl
theorem j4_raw (k kp : KT) (x1_0 x1_1 : Int) (x1_2 x1_3 x1_4 : Int) (x1_5 : Zq6) (x1_6 : BA) (x1_7 : Int) (x1_8 : LB) (x1_9 : LI) (b0 : BA) : X4 k kp (m4 x1_0 x1_1 x1_2 x1_3 x1_4 x1_5 x1_6 x1_7 x1_8 x1_9 b0) = j4 (fun x1_0 x1_1 x1_2 x1_3 x1_4 x1_5 x1_6 x1_7 x1_8 x1_9 b0 => X11 k kp (m11 x1_0 x1_1 x1_2 x1_3 x1_4 x1_5 x1_6 x1_7 x1_8 x1_9 b0)) x1_0 x1_1 x1_2 x1_3 x1_4 x1_5 x1_6 x1_7 x1_8 x1_9 b0 (fun y0 => k (.v (.string y0)) []) :=
  Eq.mp (by kernel_rfl) ((atP_run (j4_ag k kp) (m4 x1_0 x1_1 x1_2 x1_3 x1_4 x1_5 x1_6 x1_7 x1_8 x1_9 b0)).trans (j4_c k kp (JJ k kp) (LL k kp) x1_0 x1_1 x1_2 x1_3 x1_4 x1_5 x1_6 x1_7 x1_8 x1_9 b0))
theorem j4_eq (k kp : KT) (x1_0 x1_1 : Int) (x1_2 x1_3 x1_4 : Int) (x1_5 : Zq6) (x1_6 : BA) (x1_7 : Int) (x1_8 : LB) (x1_9 : LI) (b0 : BA) : X4 k kp (m4 x1_0 x1_1 x1_2 x1_3 x1_4 x1_5 x1_6 x1_7 x1_8 x1_9 b0) = j4' x1_0 x1_1 x1_2 x1_3 x1_4 x1_5 x1_6 x1_7 x1_8 x1_9 b0 (fun y0 => k (.v (.string y0)) []) := by
  rw [j4_raw]; simp only [j11_eq]; first | done | rfl
theorem c_c (k kp : KT) (J L : Nat → St → Prop) (x0_0 x0_1_0 : Int) (x0_1_1 x0_1_2 x0_1_3 : Int) (x0_2 : Zq6) (x0_3 : BA) (x0_4 : Int) (x0_5 : LB) (x0_6 : LI) : runC cfg 1000001 J L none'' [] body (topK cfg Try.f12 k kp) (st0 Try.f12 [(.agg [(.v (.int .i64 x0_0)), (.v (.int .i64 x0_1_0)), (.v (.int .i64 x0_1_1)), (.v (.int .i64 x0_1_2)), (.v (.int .i64 x0_1_3)), (.fz Zy0 x0_2), (.v (.string x0_3)), (.v (.int .i64 x0_4)), (.fz Ty.str x0_5), (.fz Zy2 x0_6)])] []) = c (fun x1_0 x1_1 x1_2 x1_3 x1_4 x1_5 x1_6 x1_7 x1_8 x1_9 b0 => J 4 (m4 x1_0 x1_1 x1_2 x1_3 x1_4 x1_5 x1_6 x1_7 x1_8 x1_9 b0)) x0_0 x0_1_0 x0_1_1 x0_1_2 x0_1_3 x0_2 x0_3 x0_4 x0_5 x0_6 (fun y0 => k (.v (.string y0)) []) := by kernel_rfl
theorem c_ag (k kp : KT) : agPL cfg 1000001 (JJ k kp) (LL k kp) [] body = agPR cfg 1000001 none'' [] body (topK cfg Try.f12 k kp) := by kernel_rfl
theorem body_is : Try.f12.body = some body := by kernel_rfl
theorem c_raw (k kp : KT) (x0_0 x0_1_0 : Int) (x0_1_1 x0_1_2 x0_1_3 : Int) (x0_2 : Zq6) (x0_3 : BA) (x0_4 : Int) (x0_5 : LB) (x0_6 : LI) : funW cfg Try.f12 [(.agg [(.v (.int .i64 x0_0)), (.v (.int .i64 x0_1_0)), (.v (.int .i64 x0_1_1)), (.v (.int .i64 x0_1_2)), (.v (.int .i64 x0_1_3)), (.fz Zy0 x0_2), (.v (.string x0_3)), (.v (.int .i64 x0_4)), (.fz Ty.str x0_5), (.fz Zy2 x0_6)])] [] k kp = c (fun x1_0 x1_1 x1_2 x1_3 x1_4 x1_5 x1_6 x1_7 x1_8 x1_9 b0 => X4 k kp (m4 x1_0 x1_1 x1_2 x1_3 x1_4 x1_5 x1_6 x1_7 x1_8 x1_9 b0)) x0_0 x0_1_0 x0_1_1 x0_1_2 x0_1_3 x0_2 x0_3 x0_4 x0_5 x0_6 (fun y0 => k (.v (.string y0)) []) :=
  Eq.mp (by kernel_rfl) ((funW_run (AG := none'') body_is (c_ag k kp) [(.agg [(.v (.int .i64 x0_0)), (.v (.int .i64 x0_1_0)), (.v (.int .i64 x0_1_1)), (.v (.int .i64 x0_1_2)), (.v (.int .i64 x0_1_3)), (.fz Zy0 x0_2), (.v (.string x0_3)), (.v (.int .i64 x0_4)), (.fz Ty.str x0_5), (.fz Zy2 x0_6)])] []).trans (c_c k kp (JJ k kp) (LL k kp) x0_0 x0_1_0 x0_1_1 x0_1_2 x0_1_3 x0_2 x0_3 x0_4 x0_5 x0_6))
theorem f_eq (k kp : KT) (x0_0 x0_1_0 : Int) (x0_1_1 x0_1_2 x0_1_3 : Int) (x0_2 : Zq6) (x0_3 : BA) (x0_4 : Int) (x0_5 : LB) (x0_6 : LI) : funW cfg Try.f12 [(.agg [(.v (.int .i64 x0_0)), (.v (.int .i64 x0_1_0)), (.v (.int .i64 x0_1_1)), (.v (.int .i64 x0_1_2)), (.v (.int .i64 x0_1_3)), (.fz Zy0 x0_2), (.v (.string x0_3)), (.v (.int .i64 x0_4)), (.fz Ty.str x0_5), (.fz Zy2 x0_6)])] [] k kp = f x0_0 x0_1_0 x0_1_1 x0_1_2 x0_1_3 x0_2 x0_3 x0_4 x0_5 x0_6 (fun y0 => k (.v (.string y0)) []) := by
  rw [f_def, c_raw]; simp only [j4_eq]; first | done | rfl
noncomputable def ent0 : Entry := fun args blks k _ => match args, blks with
  | [d0], [] => aAgg 10 d0 fun l => aCons l fun d0_0 l => aCons l fun d0_1 l => aCons l fun d0_2 l => aCons l fun d0_3 l => aCons l fun d0_4 l => aCons l fun d0_5 l => aCons l fun d0_6 l => aCons l fun d0_7 l => aCons l fun d0_8 l => aCons l fun d0_9 l => aNil l (aInt IntKind.i64 d0_0 fun x0_0 => aInt IntKind.i64 d0_1 fun x0_1_0 => aInt IntKind.i64 d0_2 fun x0_1_1 => aInt IntKind.i64 d0_3 fun x0_1_2 => aInt IntKind.i64 d0_4 fun x0_1_3 => aFz Zy0 d0_5 fun x0_2 => aStr d0_6 fun x0_3 => aInt IntKind.i64 d0_7 fun x0_4 => aFz Ty.str d0_8 fun x0_5 => aFz Zy2 d0_9 fun x0_6 => f x0_0 x0_1_0 x0_1_1 x0_1_2 x0_1_3 x0_2 x0_3 x0_4 x0_5 x0_6 (fun y0 => k (.v (.string y0)) []))
  | _, _ => False
noncomputable def ent : Entry := fun args blks k kp => ent0 (convB [.cells [none, none, none, none, none, some Zy0, none, none, some Ty.str, some Zy2]] args) blks k kp
theorem ok : EntOk Try.prog 0 0 12 ent := by
  refine EntOk.convB (EntOk.of (funW_ok (cfg := cfg) (tyOk_of rfl rfl tyL_ok) (eqOk_of (P := Try.prog) rfl rfl (by kernel_rfl)) mixed_ok (tab_ok ?_) Try.func12 (by rfl) (by rfl)) ?_) _
  · intro p hp
    simp only [List.mem_cons, List.not_mem_nil, or_false] at hp
    rcases hp with rfl | rfl | rfl | rfl | rfl | rfl | rfl | rfl | rfl
    · exact N14.ok
    · exact N27.ok
    · exact N36.ok
    · exact N37.ok
    · exact N29.ok
    · exact N28.ok
    · exact N31.ok
    · exact N38.ok
    · exact N39.ok
  · intro args blks k kp h k' kp'
    match args, blks, h with
    | [d0], [], h =>
    dsimp only [ent0] at h
    have h9 := aAgg_elim h; clear h; obtain ⟨_, rfl, h⟩ := h9
    have h9 := aCons_elim h; clear h; obtain ⟨d0_0, _, rfl, h⟩ := h9
    have h9 := aCons_elim h; clear h; obtain ⟨d0_1, _, rfl, h⟩ := h9
    have h9 := aCons_elim h; clear h; obtain ⟨d0_2, _, rfl, h⟩ := h9
    have h9 := aCons_elim h; clear h; obtain ⟨d0_3, _, rfl, h⟩ := h9
    have h9 := aCons_elim h; clear h; obtain ⟨d0_4, _, rfl, h⟩ := h9
    have h9 := aCons_elim h; clear h; obtain ⟨d0_5, _, rfl, h⟩ := h9
    have h9 := aCons_elim h; clear h; obtain ⟨d0_6, _, rfl, h⟩ := h9
    have h9 := aCons_elim h; clear h; obtain ⟨d0_7, _, rfl, h⟩ := h9
    have h9 := aCons_elim h; clear h; obtain ⟨d0_8, _, rfl, h⟩ := h9
    have h9 := aCons_elim h; clear h; obtain ⟨d0_9, _, rfl, h⟩ := h9
    have h9 := aNil_elim h; clear h; obtain ⟨rfl, h⟩ := h9
    have h9 := aInt_elim h; clear h; obtain ⟨x0_0, rfl, h⟩ := h9
    have h9 := aInt_elim h; clear h; obtain ⟨x0_1_0, rfl, h⟩ := h9
    have h9 := aInt_elim h; clear h; obtain ⟨x0_1_1, rfl, h⟩ := h9
    have h9 := aInt_elim h; clear h; obtain ⟨x0_1_2, rfl, h⟩ := h9
    have h9 := aInt_elim h; clear h; obtain ⟨x0_1_3, rfl, h⟩ := h9
    have h9 := aFz_elim (t := Zy0) h; clear h; obtain ⟨x0_2, rfl, h⟩ := h9
    have h9 := aStr_elim h; clear h; obtain ⟨x0_3, rfl, h⟩ := h9
    have h9 := aInt_elim h; clear h; obtain ⟨x0_4, rfl, h⟩ := h9
    have h9 := aFz_elim (t := Ty.str) h; clear h; obtain ⟨x0_5, rfl, h⟩ := h9
    have h9 := aFz_elim (t := Zy2) h; clear h; obtain ⟨x0_6, rfl, h⟩ := h9
    exact (f_eq k' kp' x0_0 x0_1_0 x0_1_1 x0_1_2 x0_1_3 x0_2 x0_3 x0_4 x0_5 x0_6).symm
end N12
end Go.Proofs.Yh

namespace Go.Proofs.Yh
open Go Go.Aw Go.Proofs
set_option maxRecDepth 100000
set_option maxHeartbeats 4000000
namespace N17
noncomputable def cfg : Cfg := { P := Try.prog, ty := tys, E := tab [(27, N27.ent), (29, N29.ent), (28, N28.ent), (47, N47.ent), (31, N31.ent)], atSeq := tab [(4, ⟨[(1, .keep), (3, .keep)]⟩), (7, ⟨[(3, .keep)]⟩)], atLoop := tab [], outs := [], eqT := tab [], bT := tab [(68, 5)], fzB := [1] }
noncomputable def body : Code := bodyOf Try.f17
def j4 (j7 : BA → Prop) (x1_0 : BA) (x1_1 : Bool) (x1_2 : Zq6) (x1_3 : (List Zq2)) (b0 : BA) (k : BA → Prop) : Prop :=
  (ws x1_0 b0 (fun (y_1 : Int) (z_1 : BA) => (br (decide (((((x1_2).length : Nat) : Int)) > (0 : Int))) (N29.f x1_2 (fun (z0_2 : LB) => (N28.f (ByteArray.mk #[32, 91]) z0_2 (ByteArray.mk #[93]) z_1 (fun (z0_3 : BA) => (j7 z0_3))))) (j7 z_1))))
def j7 (b0 : BA) (k : BA → Prop) : Prop :=
  (wb (58 : Int) b0 (fun (z_4 : BA) => (bs z_4 (fun (y_5 : BA) => (k y_5)))))
def c (j4 : BA → Bool → Zq6 → (List Zq2) → BA → Prop) (x0_0 : BA) (x0_1 : Bool) (x0_2 : Zq6) (x0_3 : (List Zq2)) (k : BA → Prop) : Prop :=
  (br x0_1 (ws (ByteArray.mk #[101, 100, 103, 101, 32]) ByteArray.empty (fun (y_0 : Int) (z_0 : BA) => (j4 x0_0 x0_1 x0_2 x0_3 z_0))) (j4 x0_0 x0_1 x0_2 x0_3 ByteArray.empty))
def j7' (b0 : BA) (k : BA → Prop) : Prop := j7 b0 k
def j4' (x1_0 : BA) (x1_1 : Bool) (x1_2 : Zq6) (x1_3 : (List Zq2)) (b0 : BA) (k : BA → Prop) : Prop := j4 (fun b0 => j7' b0 k) x1_0 x1_1 x1_2 x1_3 b0 k
def f0 (x0_0 : BA) (x0_1 : Bool) (x0_2 : Zq6) (x0_3 : (List Zq2)) (k : BA → Prop) : Prop := c (fun x1_0 x1_1 x1_2 x1_3 b0 => j4' x1_0 x1_1 x1_2 x1_3 b0 k) x0_0 x0_1 x0_2 x0_3 k
theorem f_ex : ∃ g, g = f0 := ⟨_, rfl⟩
noncomputable def f := Classical.choose f_ex
theorem f_def : f = f0 := Classical.choose_spec f_ex
def m4 (x1_0 : BA) (x1_1 : Bool) (x1_2 : Zq6) (x1_3 : (List Zq2)) (b0 : BA) : St := { tmps := mkT 24 0 [(1, (.fp [(.v (.string x1_0)), (.v (.bool x1_1)), (.fz Zy0 x1_2), (.fz Zy3 x1_3)])), (3, (.ptr 0 0))], hp := [(.bld 68 5 b0)], m := 0 }
def m7 (b0 : BA) : St := { tmps := mkT 24 0 [(3, (.ptr 0 0))], hp := [(.bld 68 5 b0)], m := 0 }
noncomputable def X4 (k kp : KT) : St → Prop := atP cfg (pick none' []) [1, 1, 1] body (topK cfg Try.f17 k kp)
noncomputable def X7 (k kp : KT) : St → Prop := atP cfg (pick none' []) [1, 1, 1, 1, 1] body (topK cfg Try.f17 k kp)
noncomputable def JJ (k kp : KT) : Nat → St → Prop := pick none' [(4, X4 k kp), (7, X7 k kp)]
noncomputable def LL (k kp : KT) : Nat → St → Prop := pick none' []
theorem j7_c (k kp : KT) (J L : Nat → St → Prop) (b0 : BA) : runC cfg 7 J L (pick none' []) [1, 1, 1, 1, 1] body (topK cfg Try.f17 k kp) (m7 b0) = j7 b0 (fun y0 => k (.v (.string y0)) []) := by kernel_rfl
theorem j7_ag (k kp : KT) : agPL cfg 7 (JJ k kp) (LL k kp) [1, 1, 1, 1, 1] body = agPR cfg 7 (pick none' []) [1, 1, 1, 1, 1] body (topK cfg Try.f17 k kp) := by kernel_rfl
theorem j7_raw (k kp : KT) (b0 : BA) : X7 k kp (m7 b0) = j7 b0 (fun y0 => k (.v (.string y0)) []) :=
  Eq.mp (by kernel_rfl) ((atP_run (j7_ag k kp) (m7 b0)).trans (j7_c k kp (JJ k kp) (LL k kp) b0))
theorem j7_eq (k kp : KT) (b0 : BA) : X7 k kp (m7 b0) = j7' b0 (fun y0 => k (.v (.string y0)) []) := by
  rw [j7_raw]; rfl
theorem j4_c (k kp : KT) (J L : Nat → St → Prop) (x1_0 : BA) (x1_1 : Bool) (x1_2 : Zq6) (x1_3 : (List Zq2)) (b0 : BA) : runC cfg 4 J L (pick none' []) [1, 1, 1] body (topK cfg Try.f17 k kp) (m4 x1_0 x1_1 x1_2 x1_3 b0) = j4 (fun b0 => J 7 (m7 b0)) x1_0 x1_1 x1_2 x1_3 b0 (fun y0 => k (.v (.string y0)) []) := by kernel_rfl
theorem j4_ag (k kp : KT) : agPL cfg 4 (JJ k kp) (LL k kp) [1, 1, 1] body = agPR cfg 4 (pick none' []) [1, 1, 1] body (topK cfg Try.f17 k kp) := by kernel_rfl
theorem j4_raw (k kp : KT) (x1_0 : BA) (x1_1 : Bool) (x1_2 : Zq6) (x1_3 : (List Zq2)) (b0 : BA) : X4 k kp (m4 x1_0 x1_1 x1_2 x1_3 b0) = j4 (fun b0 => X7 k kp (m7 b0)) x1_0 x1_1 x1_2 x1_3 b0 (fun y0 => k (.v (.string y0)) []) :=
  Eq.mp (by kernel_rfl) ((atP_run (j4_ag k kp) (m4 x1_0 x1_1 x1_2 x1_3 b0)).trans (j4_c k kp (JJ k kp) (LL k kp) x1_0 x1_1 x1_2 x1_3 b0))
theorem j4_eq (k kp : KT) (x1_0 : BA) (x1_1 : Bool) (x1_2 : Zq6) (x1_3 : (List Zq2)) (b0 : BA) : X4 k kp (m4 x1_0 x1_1 x1_2 x1_3 b0) = j4' x1_0 x1_1 x1_2 x1_3 b0 (fun y0 => k (.v (.string y0)) []) := by
  rw [j4_raw]; simp only [j7_eq]; first | done | rfl
theorem c_c (k kp : KT) (J L : Nat → St → Prop) (x0_0 : BA) (x0_1 : Bool) (x0_2 : Zq6) (x0_3 : (List Zq2)) : runC cfg 1000001 J L none'' [] body (topK cfg Try.f17 k kp) (st0 Try.f17 [(.agg [(.v (.string x0_0)), (.v (.bool x0_1)), (.fz Zy0 x0_2), (.fz Zy3 x0_3)])] []) = c (fun x1_0 x1_1 x1_2 x1_3 b0 => J 4 (m4 x1_0 x1_1 x1_2 x1_3 b0)) x0_0 x0_1 x0_2 x0_3 (fun y0 => k (.v (.string y0)) []) := by kernel_rfl
theorem c_ag (k kp : KT) : agPL cfg 1000001 (JJ k kp) (LL k kp) [] body = agPR cfg 1000001 none'' [] body (topK cfg Try.f17 k kp) := by kernel_rfl
theorem body_is : Try.f17.body = some body := by kernel_rfl
theorem c_raw (k kp : KT) (x0_0 : BA) (x0_1 : Bool) (x0_2 : Zq6) (x0_3 : (List Zq2)) : funW cfg Try.f17 [(.agg [(.v (.string x0_0)), (.v (.bool x0_1)), (.fz Zy0 x0_2), (.fz Zy3 x0_3)])] [] k kp = c (fun x1_0 x1_1 x1_2 x1_3 b0 => X4 k kp (m4 x1_0 x1_1 x1_2 x1_3 b0)) x0_0 x0_1 x0_2 x0_3 (fun y0 => k (.v (.string y0)) []) :=
  Eq.mp (by kernel_rfl) ((funW_run (AG := none'') body_is (c_ag k kp) [(.agg [(.v (.string x0_0)), (.v (.bool x0_1)), (.fz Zy0 x0_2), (.fz Zy3 x0_3)])] []).trans (c_c k kp (JJ k kp) (LL k kp) x0_0 x0_1 x0_2 x0_3))
theorem f_eq (k kp : KT) (x0_0 : BA) (x0_1 : Bool) (x0_2 : Zq6) (x0_3 : (List Zq2)) : funW cfg Try.f17 [(.agg [(.v (.string x0_0)), (.v (.bool x0_1)), (.fz Zy0 x0_2), (.fz Zy3 x0_3)])] [] k kp = f x0_0 x0_1 x0_2 x0_3 (fun y0 => k (.v (.string y0)) []) := by
  rw [f_def, c_raw]; simp only [j4_eq]; first | done | rfl
noncomputable def ent0 : Entry := fun args blks k _ => match args, blks with
  | [d0], [] => aAgg 4 d0 fun l => aCons l fun d0_0 l => aCons l fun d0_1 l => aCons l fun d0_2 l => aCons l fun d0_3 l => aNil l (aStr d0_0 fun x0_0 => aBool d0_1 fun x0_1 => aFz Zy0 d0_2 fun x0_2 => aFz Zy3 d0_3 fun x0_3 => f x0_0 x0_1 x0_2 x0_3 (fun y0 => k (.v (.string y0)) []))
  | _, _ => False
noncomputable def ent : Entry := fun args blks k kp => ent0 (convB [.cells [none, none, some Zy0, some Zy3]] args) blks k kp
theorem ok : EntOk Try.prog 0 0 17 ent := by
  refine EntOk.convB (EntOk.of (funW_ok (cfg := cfg) (tyOk_of rfl rfl tyL_ok) (eqOk_of (P := Try.prog) rfl rfl (by kernel_rfl)) mixed_ok (tab_ok ?_) Try.func17 (by rfl) (by rfl)) ?_) _
  · intro p hp
    simp only [List.mem_cons, List.not_mem_nil, or_false] at hp
    rcases hp with rfl | rfl | rfl | rfl | rfl
    · exact N27.ok
    · exact N29.ok
    · exact N28.ok
    · exact N47.ok
    · exact N31.ok
  · intro args blks k kp h k' kp'
    match args, blks, h with
    | [d0], [], h =>
    dsimp only [ent0] at h
    have h9 := aAgg_elim h; clear h; obtain ⟨_, rfl, h⟩ := h9
    have h9 := aCons_elim h; clear h; obtain ⟨d0_0, _, rfl, h⟩ := h9
    have h9 := aCons_elim h; clear h; obtain ⟨d0_1, _, rfl, h⟩ := h9
    have h9 := aCons_elim h; clear h; obtain ⟨d0_2, _, rfl, h⟩ := h9
    have h9 := aCons_elim h; clear h; obtain ⟨d0_3, _, rfl, h⟩ := h9
    have h9 := aNil_elim h; clear h; obtain ⟨rfl, h⟩ := h9
    have h9 := aStr_elim h; clear h; obtain ⟨x0_0, rfl, h⟩ := h9
    have h9 := aBool_elim h; clear h; obtain ⟨x0_1, rfl, h⟩ := h9
    have h9 := aFz_elim (t := Zy0) h; clear h; obtain ⟨x0_2, rfl, h⟩ := h9
    have h9 := aFz_elim (t := Zy3) h; clear h; obtain ⟨x0_3, rfl, h⟩ := h9
    exact (f_eq k' kp' x0_0 x0_1 x0_2 x0_3).symm
end N17
end Go.Proofs.Yh

namespace Go.Proofs.Yh
open Go Go.Aw Go.Proofs
set_option maxRecDepth 100000
set_option maxHeartbeats 4000000
namespace N18
noncomputable def cfg : Cfg := { P := Try.prog, ty := tys, E := tab [(17, N17.ent), (27, N27.ent), (12, N12.ent), (31, N31.ent)], atSeq := tab [(8, ⟨[(3, .keep)]⟩)], atLoop := tab [(4, ⟨[(3, .keep), (12, .keep), (13, .keep), (14, .keep)]⟩)], outs := [], eqT := tab [], bT := tab [(68, 5)], fzB := [1] }
noncomputable def body : Code := bodyOf Try.f18
def l4 (j8 : BA → Prop) (ag4 : Int → BA → Prop) (x12 : (List Zq2)) (x13 x14 : Int) (b0 : BA) (k : BA → Prop) : Prop :=
  (br (decide (x14 < x13)) ((inB 0 x14 ((((x12).length : Nat) : Int) - 1)) ∧ (N12.f (x12.getD (Int.toNat x14) ((0, ((0, (0, (0, 0))), (([] : List Zq1), (ByteArray.empty, (0, (([] : List BA), ([] : List Int))))))))).1 (x12.getD (Int.toNat x14) ((0, ((0, (0, (0, 0))), (([] : List Zq1), (ByteArray.empty, (0, (([] : List BA), ([] : List Int))))))))).2.1.1 (x12.getD (Int.toNat x14) ((0, ((0, (0, (0, 0))), (([] : List Zq1), (ByteArray.empty, (0, (([] : List BA), ([] : List Int))))))))).2.1.2.1 (x12.getD (Int.toNat x14) ((0, ((0, (0, (0, 0))), (([] : List Zq1), (ByteArray.empty, (0, (([] : List BA), ([] : List Int))))))))).2.1.2.2.1 (x12.getD (Int.toNat x14) ((0, ((0, (0, (0, 0))), (([] : List Zq1), (ByteArray.empty, (0, (([] : List BA), ([] : List Int))))))))).2.1.2.2.2 (x12.getD (Int.toNat x14) ((0, ((0, (0, (0, 0))), (([] : List Zq1), (ByteArray.empty, (0, (([] : List BA), ([] : List Int))))))))).2.2.1 (x12.getD (Int.toNat x14) ((0, ((0, (0, (0, 0))), (([] : List Zq1), (ByteArray.empty, (0, (([] : List BA), ([] : List Int))))))))).2.2.2.1 (x12.getD (Int.toNat x14) ((0, ((0, (0, (0, 0))), (([] : List Zq1), (ByteArray.empty, (0, (([] : List BA), ([] : List Int))))))))).2.2.2.2.1 (x12.getD (Int.toNat x14) ((0, ((0, (0, (0, 0))), (([] : List Zq1), (ByteArray.empty, (0, (([] : List BA), ([] : List Int))))))))).2.2.2.2.2.1 (x12.getD (Int.toNat x14) ((0, ((0, (0, (0, 0))), (([] : List Zq1), (ByteArray.empty, (0, (([] : List BA), ([] : List Int))))))))).2.2.2.2.2.2 (fun (y0_2 : BA) => ((((ByteArray.mk #[32, 32])).size + (y0_2).size ≤ 9223372036854775807) ∧ (((((ByteArray.mk #[32, 32]) ++ y0_2)).size + ((ByteArray.mk #[59, 10])).size ≤ 9223372036854775807) ∧ (ws (((ByteArray.mk #[32, 32]) ++ y0_2) ++ (ByteArray.mk #[59, 10])) b0 (fun (y_3 : Int) (z_3 : BA) => (ag4 (IntKind.i64.wrap (x14 + (1 : Int))) z_3)))))))) (j8 b0))
def j8 (b0 : BA) (k : BA → Prop) : Prop :=
  (bs b0 (fun (y_4 : BA) => (k y_4)))
def c (l4 : (List Zq2) → Int → Int → BA → Prop) (x0_0 : BA) (x0_1 : Bool) (x0_2 : Zq6) (x0_3 : (List Zq2)) (k : BA → Prop) : Prop :=
  (N17.f x0_0 x0_1 x0_2 x0_3 (fun (y0_0 : BA) => (((y0_0).size + ((ByteArray.mk #[10])).size ≤ 9223372036854775807) ∧ (ws (y0_0 ++ (ByteArray.mk #[10])) ByteArray.empty (fun (y_1 : Int) (z_1 : BA) => (l4 x0_3 ((((x0_3).length : Nat) : Int)) (0 : Int) z_1))))))
def j8' (b0 : BA) (k : BA → Prop) : Prop := j8 b0 k
def l4' (x12 : (List Zq2)) (x13 x14 : Int) (b0 : BA) (k : BA → Prop) : Prop := ∃ n, loopS (fun (ag : (Int × BA) → Prop) (s : Int × BA) => l4 (fun b0 => j8' b0 k) (fun x14 b0 => ag (x14, b0)) x12 x13 s.1 s.2 k) n (x14, b0)
def f0 (x0_0 : BA) (x0_1 : Bool) (x0_2 : Zq6) (x0_3 : (List Zq2)) (k : BA → Prop) : Prop := c (fun x12 x13 x14 b0 => l4' x12 x13 x14 b0 k) x0_0 x0_1 x0_2 x0_3 k
theorem f_ex : ∃ g, g = f0 := ⟨_, rfl⟩
noncomputable def f := Classical.choose f_ex
theorem f_def : f = f0 := Classical.choose_spec f_ex
def mL4 (x12 : (List Zq2)) (x13 x14 : Int) (b0 : BA) : St := { tmps := mkT 27 0 [(3, (.ptr 0 0)), (12, (.fz Zy3 x12)), (13, (.v (.int .i64 x13))), (14, (.v (.int .i64 x14)))], hp := [(.bld 68 5 b0)], m := 0 }
def m8 (b0 : BA) : St := { tmps := mkT 27 0 [(3, (.ptr 0 0))], hp := [(.bld 68 5 b0)], m := 0 }
noncomputable def YL4 (k kp : KT) : (St → Prop) → St → Prop := loopB cfg (sub [1, 1, 1, 0, 1, 0, 0] body) (contK cfg (pick none' []) [1, 1, 1, 0, 1, 0] body (topK cfg Try.f18 k kp))
noncomputable def XL4 (k kp : KT) : St → Prop := fun st => ∃ n, loopN (YL4 k kp) n st
noncomputable def X8 (k kp : KT) : St → Prop := atP cfg (pick none' []) [1, 1, 1, 1] body (topK cfg Try.f18 k kp)
noncomputable def JJ_4 (k kp : KT) (ag4 : St → Prop) : Nat → St → Prop := pick none' [(8, X8 k kp)]
noncomputable def LL_4 (k kp : KT) (ag4 : St → Prop) : Nat → St → Prop := pick none' [(4, XL4 k kp)]
noncomputable def JJ (k kp : KT) : Nat → St → Prop := pick none' [(8, X8 k kp)]
noncomputable def LL (k kp : KT) : Nat → St → Prop := pick none' [(4, XL4 k kp)]
theorem j8_c (k kp : KT) (J L : Nat → St → Prop) (b0 : BA) : runC cfg 8 J L (pick none' []) [1, 1, 1, 1] body (topK cfg Try.f18 k kp) (m8 b0) = j8 b0 (fun y0 => k (.v (.string y0)) []) := by kernel_rfl
theorem j8_ag (k kp : KT) : agPL cfg 8 (JJ k kp) (LL k kp) [1, 1, 1, 1] body = agPR cfg 8 (pick none' []) [1, 1, 1, 1] body (topK cfg Try.f18 k kp) := by kernel_rfl
theorem j8_raw (k kp : KT) (b0 : BA) : X8 k kp (m8 b0) = j8 b0 (fun y0 => k (.v (.string y0)) []) :=
  Eq.mp (by kernel_rfl) ((atP_run (j8_ag k kp) (m8 b0)).trans (j8_c k kp (JJ k kp) (LL k kp) b0))
theorem j8_eq (k kp : KT) (b0 : BA) : X8 k kp (m8 b0) = j8' b0 (fun y0 => k (.v (.string y0)) []) := by
  rw [j8_raw]; rfl
theorem l4_c (k kp : KT) (J L : Nat → St → Prop) (ag4 : St → Prop) (x12 : (List Zq2)) (x13 x14 : Int) (b0 : BA) : runC cfg 1000001 J L (pick none' [(4, ag4)]) [1, 1, 1, 0, 1, 0, 0] body (topK cfg Try.f18 k kp) (mL4 x12 x13 x14 b0) = l4 (fun b0 => J 8 (m8 b0)) (fun x14 b0 => ag4 (mL4 x12 x13 x14 b0)) x12 x13 x14 b0 (fun y0 => k (.v (.string y0)) []) := by kernel_rfl
theorem l4_ag (k kp : KT) (ag4 : St → Prop) : agPL cfg 1000001 (JJ_4 k kp ag4) (LL_4 k kp ag4) [1, 1, 1, 0, 1, 0, 0] body = agPR cfg 1000001 (pick none' [(4, ag4)]) [1, 1, 1, 0, 1, 0, 0] body (topK cfg Try.f18 k kp) := by kernel_rfl
theorem l4_raw (k kp : KT) (ag4 : St → Prop) (x12 : (List Zq2)) (x13 x14 : Int) (b0 : BA) : YL4 k kp ag4 (mL4 x12 x13 x14 b0) = l4 (fun b0 => X8 k kp (m8 b0)) (fun x14 b0 => ag4 (mL4 x12 x13 x14 b0)) x12 x13 x14 b0 (fun y0 => k (.v (.string y0)) []) :=
  Eq.mp (by kernel_rfl) ((atP_run (l4_ag k kp ag4) (mL4 x12 x13 x14 b0)).trans (l4_c k kp (JJ_4 k kp ag4) (LL_4 k kp ag4) ag4 x12 x13 x14 b0))
theorem l4_eq (k kp : KT) (x12 : (List Zq2)) (x13 x14 : Int) (b0 : BA) : XL4 k kp (mL4 x12 x13 x14 b0) = l4' x12 x13 x14 b0 (fun y0 => k (.v (.string y0)) []) :=
  loop_eq (mk := fun (s : Int × BA) => mL4 x12 x13 s.1 s.2) (fun again s => by rw [l4_raw k kp again x12 x13 s.1 s.2]; simp only [j8_eq]; first | done | rfl) (x14, b0)
theorem c_c (k kp : KT) (J L : Nat → St → Prop) (x0_0 : BA) (x0_1 : Bool) (x0_2 : Zq6) (x0_3 : (List Zq2)) : runC cfg 1000001 J L none'' [] body (topK cfg Try.f18 k kp) (st0 Try.f18 [(.agg [(.v (.string x0_0)), (.v (.bool x0_1)), (.fz Zy0 x0_2), (.fz Zy3 x0_3)])] []) = c (fun x12 x13 x14 b0 => L 4 (mL4 x12 x13 x14 b0)) x0_0 x0_1 x0_2 x0_3 (fun y0 => k (.v (.string y0)) []) := by kernel_rfl
theorem c_ag (k kp : KT) : agPL cfg 1000001 (JJ k kp) (LL k kp) [] body = agPR cfg 1000001 none'' [] body (topK cfg Try.f18 k kp) := by kernel_rfl
theorem body_is : Try.f18.body = some body := by kernel_rfl
theorem c_raw (k kp : KT) (x0_0 : BA) (x0_1 : Bool) (x0_2 : Zq6) (x0_3 : (List Zq2)) : funW cfg Try.f18 [(.agg [(.v (.string x0_0)), (.v (.bool x0_1)), (.fz Zy0 x0_2), (.fz Zy3 x0_3)])] [] k kp = c (fun x12 x13 x14 b0 => XL4 k kp (mL4 x12 x13 x14 b0)) x0_0 x0_1 x0_2 x0_3 (fun y0 => k (.v (.string y0)) []) :=
  Eq.mp (by kernel_rfl) ((funW_run (AG := none'') body_is (c_ag k kp) [(.agg [(.v (.string x0_0)), (.v (.bool x0_1)), (.fz Zy0 x0_2), (.fz Zy3 x0_3)])] []).trans (c_c k kp (JJ k kp) (LL k kp) x0_0 x0_1 x0_2 x0_3))
theorem f_eq (k kp : KT) (x0_0 : BA) (x0_1 : Bool) (x0_2 : Zq6) (x0_3 : (List Zq2)) : funW cfg Try.f18 [(.agg [(.v (.string x0_0)), (.v (.bool x0_1)), (.fz Zy0 x0_2), (.fz Zy3 x0_3)])] [] k kp = f x0_0 x0_1 x0_2 x0_3 (fun y0 => k (.v (.string y0)) []) := by
  rw [f_def, c_raw]; simp only [l4_eq]; first | done | rfl
noncomputable def ent0 : Entry := fun args blks k _ => match args, blks with
  | [d0], [] => aAgg 4 d0 fun l => aCons l fun d0_0 l => aCons l fun d0_1 l => aCons l fun d0_2 l => aCons l fun d0_3 l => aNil l (aStr d0_0 fun x0_0 => aBool d0_1 fun x0_1 => aFz Zy0 d0_2 fun x0_2 => aFz Zy3 d0_3 fun x0_3 => f x0_0 x0_1 x0_2 x0_3 (fun y0 => k (.v (.string y0)) []))
  | _, _ => False
noncomputable def ent : Entry := fun args blks k kp => ent0 (convB [.cells [none, none, some Zy0, some Zy3]] args) blks k kp
theorem ok : EntOk Try.prog 0 0 18 ent := by
  refine EntOk.convB (EntOk.of (funW_ok (cfg := cfg) (tyOk_of rfl rfl tyL_ok) (eqOk_of (P := Try.prog) rfl rfl (by kernel_rfl)) mixed_ok (tab_ok ?_) Try.func18 (by rfl) (by rfl)) ?_) _
  · intro p hp
    simp only [List.mem_cons, List.not_mem_nil, or_false] at hp
    rcases hp with rfl | rfl | rfl | rfl
    · exact N17.ok
    · exact N27.ok
    · exact N12.ok
    · exact N31.ok
  · intro args blks k kp h k' kp'
    match args, blks, h with
    | [d0], [], h =>
    dsimp only [ent0] at h
    have h9 := aAgg_elim h; clear h; obtain ⟨_, rfl, h⟩ := h9
    have h9 := aCons_elim h; clear h; obtain ⟨d0_0, _, rfl, h⟩ := h9
    have h9 := aCons_elim h; clear h; obtain ⟨d0_1, _, rfl, h⟩ := h9
    have h9 := aCons_elim h; clear h; obtain ⟨d0_2, _, rfl, h⟩ := h9
    have h9 := aCons_elim h; clear h; obtain ⟨d0_3, _, rfl, h⟩ := h9
    have h9 := aNil_elim h; clear h; obtain ⟨rfl, h⟩ := h9
    have h9 := aStr_elim h; clear h; obtain ⟨x0_0, rfl, h⟩ := h9
    have h9 := aBool_elim h; clear h; obtain ⟨x0_1, rfl, h⟩ := h9
    have h9 := aFz_elim (t := Zy0) h; clear h; obtain ⟨x0_2, rfl, h⟩ := h9
    have h9 := aFz_elim (t := Zy3) h; clear h; obtain ⟨x0_3, rfl, h⟩ := h9
    exact (f_eq k' kp' x0_0 x0_1 x0_2 x0_3).symm
end N18
end Go.Proofs.Yh

namespace Go.Proofs.Yh
open Go Go.Aw Go.Proofs
set_option maxRecDepth 100000
set_option maxHeartbeats 4000000
namespace N30
noncomputable def cfg : Cfg := { P := Try.prog, ty := tys, E := tab [(27, N27.ent), (16, N16.ent), (49, N49.ent), (31, N31.ent)], atSeq := tab [(8, ⟨[(3, .keep)]⟩)], atLoop := tab [(4, ⟨[(3, .keep), (8, .keep), (9, .keep), (10, .keep)]⟩)], outs := [], eqT := tab [], bT := tab [(68, 5)] }
noncomputable def body : Code := bodyOf Try.f30
def l4 (j8 : BA → Prop) (ag4 : Int → BA → Prop) (x8 : Zq4) (x9 x10 : Int) (b0 : BA) (k : BA → Prop) : Prop :=
  (br (decide (x10 < x9)) ((inB 0 x10 ((((x8).length : Nat) : Int) - 1)) ∧ (N16.f (x8.getD (Int.toNat x10) ((0, 0))).1 (fun (y0_1 : BA) => ((((ByteArray.mk #[32])).size + (y0_1).size ≤ 9223372036854775807) ∧ (((((ByteArray.mk #[32]) ++ y0_1)).size + ((ByteArray.mk #[58])).size ≤ 9223372036854775807) ∧ (N49.f (x8.getD (Int.toNat x10) ((0, 0))).2 (fun (y0_2 : BA) => ((((((ByteArray.mk #[32]) ++ y0_1) ++ (ByteArray.mk #[58]))).size + (y0_2).size ≤ 9223372036854775807) ∧ (ws ((((ByteArray.mk #[32]) ++ y0_1) ++ (ByteArray.mk #[58])) ++ y0_2) b0 (fun (y_3 : Int) (z_3 : BA) => (ag4 (IntKind.i64.wrap (x10 + (1 : Int))) z_3))))))))))) (j8 b0))
def j8 (b0 : BA) (k : BA → Prop) : Prop :=
  (ws (ByteArray.mk #[59, 10]) b0 (fun (y_4 : Int) (z_4 : BA) => (bs z_4 (fun (y_5 : BA) => (k y_5)))))
def c (l4 : Zq4 → Int → Int → BA → Prop) (x0 : Zq4) (k : BA → Prop) : Prop :=
  (ws (ByteArray.mk #[114, 101, 103, 115]) ByteArray.empty (fun (y_0 : Int) (z_0 : BA) => (l4 x0 ((((x0).length : Nat) : Int)) (0 : Int) z_0)))
def j8' (b0 : BA) (k : BA → Prop) : Prop := j8 b0 k
def l4' (x8 : Zq4) (x9 x10 : Int) (b0 : BA) (k : BA → Prop) : Prop := ∃ n, loopS (fun (ag : (Int × BA) → Prop) (s : Int × BA) => l4 (fun b0 => j8' b0 k) (fun x10 b0 => ag (x10, b0)) x8 x9 s.1 s.2 k) n (x10, b0)
def f0 (x0 : Zq4) (k : BA → Prop) : Prop := c (fun x8 x9 x10 b0 => l4' x8 x9 x10 b0 k) x0 k
theorem f_ex : ∃ g, g = f0 := ⟨_, rfl⟩
noncomputable def f := Classical.choose f_ex
theorem f_def : f = f0 := Classical.choose_spec f_ex
def mL4 (x8 : Zq4) (x9 x10 : Int) (b0 : BA) : St := { tmps := mkT 30 0 [(3, (.ptr 0 0)), (8, (.fz (Ty.pair Zy2 Zy2) x8)), (9, (.v (.int .i64 x9))), (10, (.v (.int .i64 x10)))], hp := [(.bld 68 5 b0)], m := 0 }
def m8 (b0 : BA) : St := { tmps := mkT 30 0 [(3, (.ptr 0 0))], hp := [(.bld 68 5 b0)], m := 0 }
noncomputable def YL4 (k kp : KT) : (St → Prop) → St → Prop := loopB cfg (sub [1, 1, 1, 0, 1, 0, 0] body) (contK cfg (pick none' []) [1, 1, 1, 0, 1, 0] body (topK cfg Try.f30 k kp))
noncomputable def XL4 (k kp : KT) : St → Prop := fun st => ∃ n, loopN (YL4 k kp) n st
noncomputable def X8 (k kp : KT) : St → Prop := atP cfg (pick none' []) [1, 1, 1, 1] body (topK cfg Try.f30 k kp)
noncomputable def JJ_4 (k kp : KT) (ag4 : St → Prop) : Nat → St → Prop := pick none' [(8, X8 k kp)]
noncomputable def LL_4 (k kp : KT) (ag4 : St → Prop) : Nat → St → Prop := pick none' [(4, XL4 k kp)]
noncomputable def JJ (k kp : KT) : Nat → St → Prop := pick none' [(8, X8 k kp)]
noncomputable def LL (k kp : KT) : Nat → St → Prop := pick none' [(4, XL4 k kp)]
theorem j8_c (k kp : KT) (J L : Nat → St → Prop) (b0 : BA) : runC cfg 8 J L (pick none' []) [1, 1, 1, 1] body (topK cfg Try.f30 k kp) (m8 b0) = j8 b0 (fun y0 => k (.v (.string y0)) []) := by kernel_rfl
theorem j8_ag (k kp : KT) : agPL cfg 8 (JJ k kp) (LL k kp) [1, 1, 1, 1] body = agPR cfg 8 (pick none' []) [1, 1, 1, 1] body (topK cfg Try.f30 k kp) := by kernel_rfl
theorem j8_raw (k kp : KT) (b0 : BA) : X8 k kp (m8 b0) = j8 b0 (fun y0 => k (.v (.string y0)) []) :=
  Eq.mp (by kernel_rfl) ((atP_run (j8_ag k kp) (m8 b0)).trans (j8_c k kp (JJ k kp) (LL k kp) b0))
theorem j8_eq (k kp : KT) (b0 : BA) : X8 k kp (m8 b0) = j8' b0 (fun y0 => k (.v (.string y0)) []) := by
  rw [j8_raw]; rfl
theorem l4_c (k kp : KT) (J L : Nat → St → Prop) (ag4 : St → Prop) (x8 : Zq4) (x9 x10 : Int) (b0 : BA) : runC cfg 1000001 J L (pick none' [(4, ag4)]) [1, 1, 1, 0, 1, 0, 0] body (topK cfg Try.f30 k kp) (mL4 x8 x9 x10 b0) = l4 (fun b0 => J 8 (m8 b0)) (fun x10 b0 => ag4 (mL4 x8 x9 x10 b0)) x8 x9 x10 b0 (fun y0 => k (.v (.string y0)) []) := by kernel_rfl
theorem l4_ag (k kp : KT) (ag4 : St → Prop) : agPL cfg 1000001 (JJ_4 k kp ag4) (LL_4 k kp ag4) [1, 1, 1, 0, 1, 0, 0] body = agPR cfg 1000001 (pick none' [(4, ag4)]) [1, 1, 1, 0, 1, 0, 0] body (topK cfg Try.f30 k kp) := by kernel_rfl
theorem l4_raw (k kp : KT) (ag4 : St → Prop) (x8 : Zq4) (x9 x10 : Int) (b0 : BA) : YL4 k kp ag4 (mL4 x8 x9 x10 b0) = l4 (fun b0 => X8 k kp (m8 b0)) (fun x10 b0 => ag4 (mL4 x8 x9 x10 b0)) x8 x9 x10 b0 (fun y0 => k (.v (.string y0)) []) :=
  Eq.mp (by kernel_rfl) ((atP_run (l4_ag k kp ag4) (mL4 x8 x9 x10 b0)).trans (l4_c k kp (JJ_4 k kp ag4) (LL_4 k kp ag4) ag4 x8 x9 x10 b0))
theorem l4_eq (k kp : KT) (x8 : Zq4) (x9 x10 : Int) (b0 : BA) : XL4 k kp (mL4 x8 x9 x10 b0) = l4' x8 x9 x10 b0 (fun y0 => k (.v (.string y0)) []) :=
  loop_eq (mk := fun (s : Int × BA) => mL4 x8 x9 s.1 s.2) (fun again s => by rw [l4_raw k kp again x8 x9 s.1 s.2]; simp only [j8_eq]; first | done | rfl) (x10, b0)
theorem c_c (k kp : KT) (J L : Nat → St → Prop) (x0 : Zq4) : runC cfg 1000001 J L none'' [] body (topK cfg Try.f30 k kp) (st0 Try.f30 [(.fz (Ty.pair Zy2 Zy2) x0)] []) = c (fun x8 x9 x10 b0 => L 4 (mL4 x8 x9 x10 b0)) x0 (fun y0 => k (.v (.string y0)) []) := by kernel_rfl
theorem c_ag (k kp : KT) : agPL cfg 1000001 (JJ k kp) (LL k kp) [] body = agPR cfg 1000001 none'' [] body (topK cfg Try.f30 k kp) := by kernel_rfl
theorem body_is : Try.f30.body = some body := by kernel_rfl
theorem c_raw (k kp : KT) (x0 : Zq4) : funW cfg Try.f30 [(.fz (Ty.pair Zy2 Zy2) x0)] [] k kp = c (fun x8 x9 x10 b0 => XL4 k kp (mL4 x8 x9 x10 b0)) x0 (fun y0 => k (.v (.string y0)) []) :=
  Eq.mp (by kernel_rfl) ((funW_run (AG := none'') body_is (c_ag k kp) [(.fz (Ty.pair Zy2 Zy2) x0)] []).trans (c_c k kp (JJ k kp) (LL k kp) x0))
theorem f_eq (k kp : KT) (x0 : Zq4) : funW cfg Try.f30 [(.fz (Ty.pair Zy2 Zy2) x0)] [] k kp = f x0 (fun y0 => k (.v (.string y0)) []) := by
  rw [f_def, c_raw]; simp only [l4_eq]; first | done | rfl
noncomputable def ent0 : Entry := fun args blks k _ => match args, blks with
  | [d0], [] => aFz (Ty.pair Zy2 Zy2) d0 fun x0 => f x0 (fun y0 => k (.v (.string y0)) [])
  | _, _ => False
noncomputable def ent : Entry := fun args blks k kp => ent0 (convB [.one (Ty.pair Zy2 Zy2)] args) blks k kp
theorem ok : EntOk Try.prog 0 0 30 ent := by
  refine EntOk.convB (EntOk.of (funW_ok (cfg := cfg) (tyOk_of rfl rfl tyL_ok) (eqOk_of (P := Try.prog) rfl rfl (by kernel_rfl)) mixed_ok (tab_ok ?_) Try.func30 (by rfl) (by rfl)) ?_) _
  · intro p hp
    simp only [List.mem_cons, List.not_mem_nil, or_false] at hp
    rcases hp with rfl | rfl | rfl | rfl
    · exact N27.ok
    · exact N16.ok
    · exact N49.ok
    · exact N31.ok
  · intro args blks k kp h k' kp'
    match args, blks, h with
    | [d0], [], h =>
    dsimp only [ent0] at h
    have h9 := aFz_elim (t := (Ty.pair Zy2 Zy2)) h; clear h; obtain ⟨x0, rfl, h⟩ := h9
    exact (f_eq k' kp' x0).symm
end N30
end Go.Proofs.Yh

namespace Go.Proofs.Yh
open Go Go.Aw Go.Proofs
set_option maxRecDepth 100000
set_option maxHeartbeats 4000000
namespace N10
noncomputable def cfg : Cfg := { P := Try.prog, ty := tys, E := tab [(27, N27.ent), (29, N29.ent), (28, N28.ent), (30, N30.ent), (18, N18.ent), (31, N31.ent)], atSeq := tab [(5, ⟨[(1, .keep), (3, .keep)]⟩), (8, ⟨[(1, .keep), (3, .keep)]⟩), (13, ⟨[(3, .keep)]⟩)], atLoop := tab [(9, ⟨[(3, .keep), (29, .keep), (30, .keep), (31, .keep)]⟩)], outs := [], eqT := tab [], bT := tab [(68, 5)], fzB := [1] }
noncomputable def body : Code := bodyOf Try.f10
def j5 (j8 : Bool → BA → Zq4 → Zq6 → Zq0 → BA → Prop) (x1_0 : Bool) (x1_1 : BA) (x1_2 : Zq4) (x1_3 : Zq6) (x1_4 : Zq0) (b0 : BA) (k : BA → Prop) : Prop :=
  (((x1_1).size + ((ByteArray.mk #[40])).size ≤ 9223372036854775807) ∧ (N29.f x1_3 (fun (z0_2 : LB) => (N28.f (x1_1 ++ (ByteArray.mk #[40])) z0_2 (ByteArray.mk #[41, 32, 123, 10]) b0 (fun (z0_3 : BA) => (br (decide (((((x1_2).length : Nat) : Int)) > (0 : Int))) (N30.f x1_2 (fun (y0_4 : BA) => (ws y0_4 z0_3 (fun (y_5 : Int) (z_5 : BA) => (j8 x1_0 x1_1 x1_2 x1_3 x1_4 z_5))))) (j8 x1_0 x1_1 x1_2 x1_3 x1_4 z0_3)))))))
def j8 (l9 : Zq0 → Int → Int → BA → Prop) (x1_0 : Bool) (x1_1 : BA) (x1_2 : Zq4) (x1_3 : Zq6) (x1_4 : Zq0) (b0 : BA) (k : BA → Prop) : Prop :=
  (l9 x1_4 ((((x1_4).length : Nat) : Int)) (0 : Int) b0)
def l9 (j13 : BA → Prop) (ag9 : Int → BA → Prop) (x29 : Zq0) (x30 x31 : Int) (b0 : BA) (k : BA → Prop) : Prop :=
  (br (decide (x31 < x30)) ((inB 0 x31 ((((x29).length : Nat) : Int) - 1)) ∧ (N18.f (x29.getD (Int.toNat x31) ((ByteArray.empty, (false, (([] : List Zq1), ([] : List Zq2)))))).1 (x29.getD (Int.toNat x31) ((ByteArray.empty, (false, (([] : List Zq1), ([] : List Zq2)))))).2.1 (x29.getD (Int.toNat x31) ((ByteArray.empty, (false, (([] : List Zq1), ([] : List Zq2)))))).2.2.1 (x29.getD (Int.toNat x31) ((ByteArray.empty, (false, (([] : List Zq1), ([] : List Zq2)))))).2.2.2 (fun (y0_6 : BA) => (ws y0_6 b0 (fun (y_7 : Int) (z_7 : BA) => (ag9 (IntKind.i64.wrap (x31 + (1 : Int))) z_7)))))) (j13 b0))
def j13 (b0 : BA) (k : BA → Prop) : Prop :=
  (ws (ByteArray.mk #[125, 10]) b0 (fun (y_8 : Int) (z_8 : BA) => (bs z_8 (fun (y_9 : BA) => (k y_9)))))
def c (j5 : Bool → BA → Zq4 → Zq6 → Zq0 → BA → Prop) (x0_0 : Bool) (x0_1 : BA) (x0_2 : Zq4) (x0_3 : Zq6) (x0_4 : Zq0) (k : BA → Prop) : Prop :=
  (br x0_0 (ws (ByteArray.mk #[109, 97, 99, 104, 105, 110, 101, 32]) ByteArray.empty (fun (y_0 : Int) (z_0 : BA) => (j5 x0_0 x0_1 x0_2 x0_3 x0_4 z_0))) (ws (ByteArray.mk #[102, 117, 110, 99, 32]) ByteArray.empty (fun (y_1 : Int) (z_1 : BA) => (j5 x0_0 x0_1 x0_2 x0_3 x0_4 z_1))))
def j13' (b0 : BA) (k : BA → Prop) : Prop := j13 b0 k
def l9' (x29 : Zq0) (x30 x31 : Int) (b0 : BA) (k : BA → Prop) : Prop := ∃ n, loopS (fun (ag : (Int × BA) → Prop) (s : Int × BA) => l9 (fun b0 => j13' b0 k) (fun x31 b0 => ag (x31, b0)) x29 x30 s.1 s.2 k) n (x31, b0)
def j8' (x1_0 : Bool) (x1_1 : BA) (x1_2 : Zq4) (x1_3 : Zq6) (x1_4 : Zq0) (b0 : BA) (k : BA → Prop) : Prop := j8 (fun x29 x30 x31 b0 => l9' x29 x30 x31 b0 k) x1_0 x1_1 x1_2 x1_3 x1_4 b0 k
def j5' (x1_0 : Bool) (x1_1 : BA) (x1_2 : Zq4) (x1_3 : Zq6) (x1_4 : Zq0) (b0 : BA) (k : BA → Prop) : Prop := j5 (fun x1_0 x1_1 x1_2 x1_3 x1_4 b0 => j8' x1_0 x1_1 x1_2 x1_3 x1_4 b0 k) x1_0 x1_1 x1_2 x1_3 x1_4 b0 k
def f0 (x0_0 : Bool) (x0_1 : BA) (x0_2 : Zq4) (x0_3 : Zq6) (x0_4 : Zq0) (k : BA → Prop) : Prop := c (fun x1_0 x1_1 x1_2 x1_3 x1_4 b0 => j5' x1_0 x1_1 x1_2 x1_3 x1_4 b0 k) x0_0 x0_1 x0_2 x0_3 x0_4 k
theorem f_ex : ∃ g, g = f0 := ⟨_, rfl⟩
noncomputable def f := Classical.choose f_ex
theorem f_def : f = f0 := Classical.choose_spec f_ex
def m5 (x1_0 : Bool) (x1_1 : BA) (x1_2 : Zq4) (x1_3 : Zq6) (x1_4 : Zq0) (b0 : BA) : St := { tmps := mkT 44 0 [(1, (.fp [(.v (.bool x1_0)), (.v (.string x1_1)), (.fz (Ty.pair Zy2 Zy2) x1_2), (.fz Zy0 x1_3), (.fz Zy1 x1_4)])), (3, (.ptr 0 0))], hp := [(.bld 68 5 b0)], m := 0 }
def m8 (x1_0 : Bool) (x1_1 : BA) (x1_2 : Zq4) (x1_3 : Zq6) (x1_4 : Zq0) (b0 : BA) : St := { tmps := mkT 44 0 [(1, (.fp [(.v (.bool x1_0)), (.v (.string x1_1)), (.fz (Ty.pair Zy2 Zy2) x1_2), (.fz Zy0 x1_3), (.fz Zy1 x1_4)])), (3, (.ptr 0 0))], hp := [(.bld 68 5 b0)], m := 0 }
def mL9 (x29 : Zq0) (x30 x31 : Int) (b0 : BA) : St := { tmps := mkT 44 0 [(3, (.ptr 0 0)), (29, (.fz Zy1 x29)), (30, (.v (.int .i64 x30))), (31, (.v (.int .i64 x31)))], hp := [(.bld 68 5 b0)], m := 0 }
def m13 (b0 : BA) : St := { tmps := mkT 44 0 [(3, (.ptr 0 0))], hp := [(.bld 68 5 b0)], m := 0 }
noncomputable def X5 (k kp : KT) : St → Prop := atP cfg (pick none' []) [1, 1, 1] body (topK cfg Try.f10 k kp)
noncomputable def X8 (k kp : KT) : St → Prop := atP cfg (pick none' []) [1, 1, 1, 1, 1] body (topK cfg Try.f10 k kp)
noncomputable def YL9 (k kp : KT) : (St → Prop) → St → Prop := loopB cfg (sub [1, 1, 1, 1, 1, 0, 1, 0, 0] body) (contK cfg (pick none' []) [1, 1, 1, 1, 1, 0, 1, 0] body (topK cfg Try.f10 k kp))
noncomputable def XL9 (k kp : KT) : St → Prop := fun st => ∃ n, loopN (YL9 k kp) n st
noncomputable def X13 (k kp : KT) : St → Prop := atP cfg (pick none' []) [1, 1, 1, 1, 1, 1] body (topK cfg Try.f10 k kp)
noncomputable def JJ (k kp : KT) : Nat → St → Prop := pick none' [(5, X5 k kp), (8, X8 k kp), (13, X13 k kp)]
noncomputable def LL (k kp : KT) : Nat → St → Prop := pick none' [(9, XL9 k kp)]
noncomputable def JJ_9 (k kp : KT) (ag9 : St → Prop) : Nat → St → Prop := pick none' [(5, X5 k kp), (8, X8 k kp), (13, X13 k kp)]
noncomputable def LL_9 (k kp : KT) (ag9 : St → Prop) : Nat → St → Prop := pick none' [(9, XL9 k kp)]
theorem j13_c (k kp : KT) (J L : Nat → St → Prop) (b0 : BA) : runC cfg 13 J L (pick none' []) [1, 1, 1, 1, 1, 1] body (topK cfg Try.f10 k kp) (m13 b0) = j13 b0 (fun y0 => k (.v (.string y0)) []) := by kernel_rfl
theorem j13_ag (k kp : KT) : agPL cfg 13 (JJ k kp) (LL k kp) [1, 1, 1, 1, 1, 1] body = agPR cfg 13 (pick none' []) [1, 1, 1, 1, 1, 1] body (topK cfg Try.f10 k kp) := by kernel_rfl
theorem j13_raw (k kp : KT) (b0 : BA) : X13 k kp (m13 b0) = j13 b0 (fun y0 => k (.v (.string y0)) []) :=
  Eq.mp (by kernel_rfl) ((atP_run (j13_ag k kp) (m13 b0)).trans (j13_c k kp (JJ k kp) (LL k kp) b0))
theorem j13_eq (k kp : KT) (b0 : BA) : X13 k kp (m13 b0) = j13' b0 (fun y0 => k (.v (.string y0)) []) := by
  rw [j13_raw]; rfl
theorem l9_c (k kp : KT) (J L : Nat → St → Prop) (ag9 : St → Prop) (x29 : Zq0) (x30 x31 : Int) (b0 : BA) : runC cfg 1000001 J L (pick none' [(9, ag9)]) [1, 1, 1, 1, 1, 0, 1, 0, 0] body (topK cfg Try.f10 k kp) (mL9 x29 x30 x31 b0) = l9 (fun b0 => J 13 (m13 b0)) (fun x31 b0 => ag9 (mL9 x29 x30 x31 b0)) x29 x30 x31 b0 (fun y0 => k (.v (.string y0)) []) := by kernel_rfl
theorem l9_ag (k kp : KT) (ag9 : St → Prop) : agPL cfg 1000001 (JJ_9 k kp ag9) (LL_9 k kp ag9) [1, 1, 1, 1, 1, 0, 1, 0, 0] body = agPR cfg 1000001 (pick none' [(9, ag9)]) [1, 1, 1, 1, 1, 0, 1, 0, 0] body (topK cfg Try.f10 k kp) := by kernel_rfl
theorem l9_raw (k kp : KT) (ag9 : St → Prop) (x29 : Zq0) (x30 x31 : Int) (b0 : BA) : YL9 k kp ag9 (mL9 x29 x30 x31 b0) = l9 (fun b0 => X13 k kp (m13 b0)) (fun x31 b0 => ag9 (mL9 x29 x30 x31 b0)) x29 x30 x31 b0 (fun y0 => k (.v (.string y0)) []) :=
  Eq.mp (by kernel_rfl) ((atP_run (l9_ag k kp ag9) (mL9 x29 x30 x31 b0)).trans (l9_c k kp (JJ_9 k kp ag9) (LL_9 k kp ag9) ag9 x29 x30 x31 b0))
theorem l9_eq (k kp : KT) (x29 : Zq0) (x30 x31 : Int) (b0 : BA) : XL9 k kp (mL9 x29 x30 x31 b0) = l9' x29 x30 x31 b0 (fun y0 => k (.v (.string y0)) []) :=
  loop_eq (mk := fun (s : Int × BA) => mL9 x29 x30 s.1 s.2) (fun again s => by rw [l9_raw k kp again x29 x30 s.1 s.2]; simp only [j13_eq]; first | done | rfl) (x31, b0)
theorem j8_c (k kp : KT) (J L : Nat → St → Prop) (x1_0 : Bool) (x1_1 : BA) (x1_2 : Zq4) (x1_3 : Zq6) (x1_4 : Zq0) (b0 : BA) : runC cfg 8 J L (pick none' []) [1, 1, 1, 1, 1] body (topK cfg Try.f10 k kp) (m8 x1_0 x1_1 x1_2 x1_3 x1_4 b0) = j8 (fun x29 x30 x31 b0 => L 9 (mL9 x29 x30 x31 b0)) x1_0 x1_1 x1_2 x1_3 x1_4 b0 (fun y0 => k (.v (.string y0)) []) := by kernel_rfl
theorem j8_ag (k kp : KT) : agPL cfg 8 (JJ k kp) (LL k kp) [1, 1, 1, 1, 1] body = agPR cfg 8 (pick none' []) [1, 1, 1, 1, 1] body (topK cfg Try.f10 k kp) := by kernel_rfl
theorem j8_raw (k kp : KT) (x1_0 : Bool) (x1_1 : BA) (x1_2 : Zq4) (x1_3 : Zq6) (x1_4 : Zq0) (b0 : BA) : X8 k kp (m8 x1_0 x1_1 x1_2 x1_3 x1_4 b0) = j8 (fun x29 x30 x31 b0 => XL9 k kp (mL9 x29 x30 x31 b0)) x1_0 x1_1 x1_2 x1_3 x1_4 b0 (fun y0 => k (.v (.string y0)) []) :=
  Eq.mp (by kernel_rfl) ((atP_run (j8_ag k kp) (m8 x1_0 x1_1 x1_2 x1_3 x1_4 b0)).trans (j8_c k kp (JJ k kp) (LL k kp) x1_0 x1_1 x1_2 x1_3 x1_4 b0))
theorem j8_eq (k kp : KT) (x1_0 : Bool) (x1_1 : BA) (x1_2 : Zq4) (x1_3 : Zq6) (x1_4 : Zq0) (b0 : BA) : X8 k kp (m8 x1_0 x1_1 x1_2 x1_3 x1_4 b0) = j8' x1_0 x1_1 x1_2 x1_3 x1_4 b0 (fun y0 => k (.v (.string y0)) []) := by
  rw [j8_raw]; simp only [l9_eq]; first | done | rfl
theorem j5_c (k kp : KT) (J L : Nat → St → Prop) (x1_0 : Bool) (x1_1 : BA) (x1_2 : Zq4) (x1_3 : Zq6) (x1_4 : Zq0) (b0 : BA) : runC cfg 5 J L (pick none' []) [1, 1, 1] body (topK cfg Try.f10 k kp) (m5 x1_0 x1_1 x1_2 x1_3 x1_4 b0) = j5 (fun x1_0 x1_1 x1_2 x1_3 x1_4 b0 => J 8 (m8 x1_0 x1_1 x1_2 x1_3 x1_4 b0)) x1_0 x1_1 x1_2 x1_3 x1_4 b0 (fun y0 => k (.v (.string y0)) []) := by kernel_rfl
theorem j5_ag (k kp : KT) : agPL cfg 5 (JJ k kp) (LL k kp) [1, 1, 1] body = agPR cfg 5 (pick none' []) [1, 1, 1] body (topK cfg Try.f10 k kp) := by kernel_rfl
theorem j5_raw (k kp : KT) (x1_0 : Bool) (x1_1 : BA) (x1_2 : Zq4) (x1_3 : Zq6) (x1_4 : Zq0) (b0 : BA) : X5 k kp (m5 x1_0 x1_1 x1_2 x1_3 x1_4 b0) = j5 (fun x1_0 x1_1 x1_2 x1_3 x1_4 b0 => X8 k kp (m8 x1_0 x1_1 x1_2 x1_3 x1_4 b0)) x1_0 x1_1 x1_2 x1_3 x1_4 b0 (fun y0 => k (.v (.string y0)) []) :=
  Eq.mp (by kernel_rfl) ((atP_run (j5_ag k kp) (m5 x1_0 x1_1 x1_2 x1_3 x1_4 b0)).trans (j5_c k kp (JJ k kp) (LL k kp) x1_0 x1_1 x1_2 x1_3 x1_4 b0))
theorem j5_eq (k kp : KT) (x1_0 : Bool) (x1_1 : BA) (x1_2 : Zq4) (x1_3 : Zq6) (x1_4 : Zq0) (b0 : BA) : X5 k kp (m5 x1_0 x1_1 x1_2 x1_3 x1_4 b0) = j5' x1_0 x1_1 x1_2 x1_3 x1_4 b0 (fun y0 => k (.v (.string y0)) []) := by
  rw [j5_raw]; simp only [j8_eq]; first | done | rfl
theorem c_c (k kp : KT) (J L : Nat → St → Prop) (x0_0 : Bool) (x0_1 : BA) (x0_2 : Zq4) (x0_3 : Zq6) (x0_4 : Zq0) : runC cfg 1000001 J L none'' [] body (topK cfg Try.f10 k kp) (st0 Try.f10 [(.agg [(.v (.bool x0_0)), (.v (.string x0_1)), (.fz (Ty.pair Zy2 Zy2) x0_2), (.fz Zy0 x0_3), (.fz Zy1 x0_4)])] []) = c (fun x1_0 x1_1 x1_2 x1_3 x1_4 b0 => J 5 (m5 x1_0 x1_1 x1_2 x1_3 x1_4 b0)) x0_0 x0_1 x0_2 x0_3 x0_4 (fun y0 => k (.v (.string y0)) []) := by kernel_rfl
theorem c_ag (k kp : KT) : agPL cfg 1000001 (JJ k kp) (LL k kp) [] body = agPR cfg 1000001 none'' [] body (topK cfg Try.f10 k kp) := by kernel_rfl
theorem body_is : Try.f10.body = some body := by kernel_rfl
theorem c_raw (k kp : KT) (x0_0 : Bool) (x0_1 : BA) (x0_2 : Zq4) (x0_3 : Zq6) (x0_4 : Zq0) : funW cfg Try.f10 [(.agg [(.v (.bool x0_0)), (.v (.string x0_1)), (.fz (Ty.pair Zy2 Zy2) x0_2), (.fz Zy0 x0_3), (.fz Zy1 x0_4)])] [] k kp = c (fun x1_0 x1_1 x1_2 x1_3 x1_4 b0 => X5 k kp (m5 x1_0 x1_1 x1_2 x1_3 x1_4 b0)) x0_0 x0_1 x0_2 x0_3 x0_4 (fun y0 => k (.v (.string y0)) []) :=
  Eq.mp (by kernel_rfl) ((funW_run (AG := none'') body_is (c_ag k kp) [(.agg [(.v (.bool x0_0)), (.v (.string x0_1)), (.fz (Ty.pair Zy2 Zy2) x0_2), (.fz Zy0 x0_3), (.fz Zy1 x0_4)])] []).trans (c_c k kp (JJ k kp) (LL k kp) x0_0 x0_1 x0_2 x0_3 x0_4))
theorem f_eq (k kp : KT) (x0_0 : Bool) (x0_1 : BA) (x0_2 : Zq4) (x0_3 : Zq6) (x0_4 : Zq0) : funW cfg Try.f10 [(.agg [(.v (.bool x0_0)), (.v (.string x0_1)), (.fz (Ty.pair Zy2 Zy2) x0_2), (.fz Zy0 x0_3), (.fz Zy1 x0_4)])] [] k kp = f x0_0 x0_1 x0_2 x0_3 x0_4 (fun y0 => k (.v (.string y0)) []) := by
  rw [f_def, c_raw]; simp only [j5_eq]; first | done | rfl
noncomputable def ent0 : Entry := fun args blks k _ => match args, blks with
  | [d0], [] => aAgg 5 d0 fun l => aCons l fun d0_0 l => aCons l fun d0_1 l => aCons l fun d0_2 l => aCons l fun d0_3 l => aCons l fun d0_4 l => aNil l (aBool d0_0 fun x0_0 => aStr d0_1 fun x0_1 => aFz (Ty.pair Zy2 Zy2) d0_2 fun x0_2 => aFz Zy0 d0_3 fun x0_3 => aFz Zy1 d0_4 fun x0_4 => f x0_0 x0_1 x0_2 x0_3 x0_4 (fun y0 => k (.v (.string y0)) []))
  | _, _ => False
noncomputable def ent : Entry := fun args blks k kp => ent0 (convB [.cells [none, none, some (Ty.pair Zy2 Zy2), some Zy0, some Zy1]] args) blks k kp
theorem ok : EntOk Try.prog 0 0 10 ent := by
  refine EntOk.convB (EntOk.of (funW_ok (cfg := cfg) (tyOk_of rfl rfl tyL_ok) (eqOk_of (P := Try.prog) rfl rfl (by kernel_rfl)) mixed_ok (tab_ok ?_) Try.func10 (by rfl) (by rfl)) ?_) _
  · intro p hp
    simp only [List.mem_cons, List.not_mem_nil, or_false] at hp
    rcases hp with rfl | rfl | rfl | rfl | rfl | rfl
    · exact N27.ok
    · exact N29.ok
    · exact N28.ok
    · exact N30.ok
    · exact N18.ok
    · exact N31.ok
  · intro args blks k kp h k' kp'
    match args, blks, h with
    | [d0], [], h =>
    dsimp only [ent0] at h
    have h9 := aAgg_elim h; clear h; obtain ⟨_, rfl, h⟩ := h9
    have h9 := aCons_elim h; clear h; obtain ⟨d0_0, _, rfl, h⟩ := h9
    have h9 := aCons_elim h; clear h; obtain ⟨d0_1, _, rfl, h⟩ := h9
    have h9 := aCons_elim h; clear h; obtain ⟨d0_2, _, rfl, h⟩ := h9
    have h9 := aCons_elim h; clear h; obtain ⟨d0_3, _, rfl, h⟩ := h9
    have h9 := aCons_elim h; clear h; obtain ⟨d0_4, _, rfl, h⟩ := h9
    have h9 := aNil_elim h; clear h; obtain ⟨rfl, h⟩ := h9
    have h9 := aBool_elim h; clear h; obtain ⟨x0_0, rfl, h⟩ := h9
    have h9 := aStr_elim h; clear h; obtain ⟨x0_1, rfl, h⟩ := h9
    have h9 := aFz_elim (t := (Ty.pair Zy2 Zy2)) h; clear h; obtain ⟨x0_2, rfl, h⟩ := h9
    have h9 := aFz_elim (t := Zy0) h; clear h; obtain ⟨x0_3, rfl, h⟩ := h9
    have h9 := aFz_elim (t := Zy1) h; clear h; obtain ⟨x0_4, rfl, h⟩ := h9
    exact (f_eq k' kp' x0_0 x0_1 x0_2 x0_3 x0_4).symm
end N10
end Go.Proofs.Yh

namespace Go.Proofs.Yh
open Go Go.Aw Go.Proofs
set_option maxRecDepth 100000
set_option maxHeartbeats 4000000
namespace N15
noncomputable def cfg : Cfg := { P := Try.prog, ty := tys, E := tab [(34, N34.ent), (46, N46.ent)], atSeq := tab [], atLoop := tab [], outs := [], eqT := tab [], bT := tab [], fzB := [1] }
noncomputable def body : Code := bodyOf Try.f15
def c (x0_0 x0_1 : Int) (x0_2 x0_3 : Int) (k : BA → Prop) : Prop :=
  (N34.f x0_3 (fun (y0_0 : BA) => ((((ByteArray.mk #[58, 37])).size + (y0_0).size ≤ 9223372036854775807) ∧ (br (x0_0 == (0 : Int)) (k (ByteArray.mk #[95])) (br (x0_0 == (1 : Int)) (N34.f x0_2 (fun (y0_1 : BA) => ((((ByteArray.mk #[37])).size + (y0_1).size ≤ 9223372036854775807) ∧ (k ((ByteArray.mk #[37]) ++ y0_1))))) (br (x0_0 == (2 : Int)) (N46.f (2 : Int) x0_1 x0_2 (fun (y0_2 : BA) => (((y0_2).size + (((ByteArray.mk #[58, 37]) ++ y0_0)).size ≤ 9223372036854775807) ∧ (k (y0_2 ++ ((ByteArray.mk #[58, 37]) ++ y0_0)))))) (br (x0_0 == (3 : Int)) (N34.f x0_2 (fun (y0_3 : BA) => ((((ByteArray.mk #[35])).size + (y0_3).size ≤ 9223372036854775807) ∧ (((((ByteArray.mk #[35]) ++ y0_3)).size + (((ByteArray.mk #[58, 37]) ++ y0_0)).size ≤ 9223372036854775807) ∧ (k (((ByteArray.mk #[35]) ++ y0_3) ++ ((ByteArray.mk #[58, 37]) ++ y0_0))))))) (br (x0_0 == (4 : Int)) (N34.f x0_2 (fun (y0_4 : BA) => (k y0_4))) (k (ByteArray.mk #[63]))))))))))
def f0 (x0_0 x0_1 : Int) (x0_2 x0_3 : Int) (k : BA → Prop) : Prop := c x0_0 x0_1 x0_2 x0_3 k
theorem f_ex : ∃ g, g = f0 := ⟨_, rfl⟩
noncomputable def f := Classical.choose f_ex
theorem f_def : f = f0 := Classical.choose_spec f_ex
noncomputable def JJ (k kp : KT) : Nat → St → Prop := pick none' []
noncomputable def LL (k kp : KT) : Nat → St → Prop := pick none' []
theorem c_c (k kp : KT) (J L : Nat → St → Prop) (x0_0 x0_1 : Int) (x0_2 x0_3 : Int) : runC cfg 1000001 J L none'' [] body (topK cfg Try.f15 k kp) (st0 Try.f15 [(.agg [(.v (.int .i64 x0_0)), (.v (.int .i64 x0_1)), (.v (.int .i64 x0_2)), (.v (.int .i64 x0_3))])] []) = c x0_0 x0_1 x0_2 x0_3 (fun y0 => k (.v (.string y0)) []) := by kernel_rfl
theorem c_ag (k kp : KT) : agPL cfg 1000001 (JJ k kp) (LL k kp) [] body = agPR cfg 1000001 none'' [] body (topK cfg Try.f15 k kp) := by kernel_rfl
theorem body_is : Try.f15.body = some body := by kernel_rfl
theorem c_raw (k kp : KT) (x0_0 x0_1 : Int) (x0_2 x0_3 : Int) : funW cfg Try.f15 [(.agg [(.v (.int .i64 x0_0)), (.v (.int .i64 x0_1)), (.v (.int .i64 x0_2)), (.v (.int .i64 x0_3))])] [] k kp = c x0_0 x0_1 x0_2 x0_3 (fun y0 => k (.v (.string y0)) []) :=
  Eq.mp (by kernel_rfl) ((funW_run (AG := none'') body_is (c_ag k kp) [(.agg [(.v (.int .i64 x0_0)), (.v (.int .i64 x0_1)), (.v (.int .i64 x0_2)), (.v (.int .i64 x0_3))])] []).trans (c_c k kp (JJ k kp) (LL k kp) x0_0 x0_1 x0_2 x0_3))
theorem f_eq (k kp : KT) (x0_0 x0_1 : Int) (x0_2 x0_3 : Int) : funW cfg Try.f15 [(.agg [(.v (.int .i64 x0_0)), (.v (.int .i64 x0_1)), (.v (.int .i64 x0_2)), (.v (.int .i64 x0_3))])] [] k kp = f x0_0 x0_1 x0_2 x0_3 (fun y0 => k (.v (.string y0)) []) := by
  rw [f_def, c_raw]; rfl
noncomputable def ent0 : Entry := fun args blks k _ => match args, blks with
  | [d0], [] => aAgg 4 d0 fun l => aCons l fun d0_0 l => aCons l fun d0_1 l => aCons l fun d0_2 l => aCons l fun d0_3 l => aNil l (aInt IntKind.i64 d0_0 fun x0_0 => aInt IntKind.i64 d0_1 fun x0_1 => aInt IntKind.i64 d0_2 fun x0_2 => aInt IntKind.i64 d0_3 fun x0_3 => f x0_0 x0_1 x0_2 x0_3 (fun y0 => k (.v (.string y0)) []))
  | _, _ => False
noncomputable def ent : Entry := fun args blks k kp => ent0 (convB [.no] args) blks k kp
theorem ok : EntOk Try.prog 0 0 15 ent := by
  refine EntOk.convB (EntOk.of (funW_ok (cfg := cfg) (tyOk_of rfl rfl tyL_ok) (eqOk_of (P := Try.prog) rfl rfl (by kernel_rfl)) mixed_ok (tab_ok ?_) Try.func15 (by rfl) (by rfl)) ?_) _
  · intro p hp
    simp only [List.mem_cons, List.not_mem_nil, or_false] at hp
    rcases hp with rfl | rfl
    · exact N34.ok
    · exact N46.ok
  · intro args blks k kp h k' kp'
    match args, blks, h with
    | [d0], [], h =>
    dsimp only [ent0] at h
    have h9 := aAgg_elim h; clear h; obtain ⟨_, rfl, h⟩ := h9
    have h9 := aCons_elim h; clear h; obtain ⟨d0_0, _, rfl, h⟩ := h9
    have h9 := aCons_elim h; clear h; obtain ⟨d0_1, _, rfl, h⟩ := h9
    have h9 := aCons_elim h; clear h; obtain ⟨d0_2, _, rfl, h⟩ := h9
    have h9 := aCons_elim h; clear h; obtain ⟨d0_3, _, rfl, h⟩ := h9
    have h9 := aNil_elim h; clear h; obtain ⟨rfl, h⟩ := h9
    have h9 := aInt_elim h; clear h; obtain ⟨x0_0, rfl, h⟩ := h9
    have h9 := aInt_elim h; clear h; obtain ⟨x0_1, rfl, h⟩ := h9
    have h9 := aInt_elim h; clear h; obtain ⟨x0_2, rfl, h⟩ := h9
    have h9 := aInt_elim h; clear h; obtain ⟨x0_3, rfl, h⟩ := h9
    exact (f_eq k' kp' x0_0 x0_1 x0_2 x0_3).symm
end N15
end Go.Proofs.Yh

namespace Go.Proofs.Yh
open Go Go.Aw Go.Proofs
set_option maxRecDepth 100000
set_option maxHeartbeats 4000000
namespace N32
noncomputable def cfg : Cfg := { P := Try.prog, ty := tys, E := tab [], atSeq := tab [(7, ⟨[(0, .keep), (3, .keep), (4, .keep)]⟩), (8, ⟨[(3, .keep)]⟩), (4, ⟨[(0, .keep), (3, .keep), (4, .keep)]⟩)], atLoop := tab [(3, ⟨[(0, .keep), (3, .keep), (4, .keep)]⟩)], outs := [], eqT := tab [], bT := tab [] }
noncomputable def body : Code := bodyOf Try.f32
def l3 (j7 : LB → BA → Int → Prop) (j8 : BA → Prop) (x0 : LB) (x3 : BA) (x4 : Int) (k : BA → Prop) : Prop :=
  (br (decide (x4 < ((((x0).length : Nat) : Int)))) (br (decide (x4 > (0 : Int))) (((x3).size + ((ByteArray.mk #[44, 32])).size ≤ 9223372036854775807) ∧ (j7 x0 (x3 ++ (ByteArray.mk #[44, 32])) x4)) (j7 x0 x3 x4)) (j8 x3))
def j7 (j4 : LB → BA → Int → Prop) (x0 : LB) (x3 : BA) (x4 : Int) (k : BA → Prop) : Prop :=
  ((inB 0 x4 ((((x0).length : Nat) : Int) - 1)) ∧ (((x3).size + ((x0.getD (Int.toNat x4) (ByteArray.empty))).size ≤ 9223372036854775807) ∧ (j4 x0 (x3 ++ (x0.getD (Int.toNat x4) (ByteArray.empty))) x4)))
def j8 (x3 : BA) (k : BA → Prop) : Prop :=
  (k x3)
def j4 (ag3 : BA → Int → Prop) (x0 : LB) (x3 : BA) (x4 : Int) (k : BA → Prop) : Prop :=
  (ag3 x3 (IntKind.i64.wrap (x4 + (1 : Int))))
def c (l3 : LB → BA → Int → Prop) (x0 : LB) (k : BA → Prop) : Prop :=
  (l3 x0 (ByteArray.mk #[]) (0 : Int))
def j8' (x3 : BA) (k : BA → Prop) : Prop := j8 x3 k
def j4' (ag3 : BA → Int → Prop) (x0 : LB) (x3 : BA) (x4 : Int) (k : BA → Prop) : Prop := j4 ag3 x0 x3 x4 k
def j7' (ag3 : BA → Int → Prop) (x0 : LB) (x3 : BA) (x4 : Int) (k : BA → Prop) : Prop := j7 (fun x0 x3 x4 => j4' ag3 x0 x3 x4 k) x0 x3 x4 k
def l3' (x0 : LB) (x3 : BA) (x4 : Int) (k : BA → Prop) : Prop := ∃ n, loopS (fun (ag : (BA × Int) → Prop) (s : BA × Int) => l3 (fun x0 x3 x4 => j7' (fun x3 x4 => ag (x3, x4)) x0 x3 x4 k) (fun x3 => j8' x3 k) x0 s.1 s.2 k) n (x3, x4)
def f0 (x0 : LB) (k : BA → Prop) : Prop := c (fun x0 x3 x4 => l3' x0 x3 x4 k) x0 k
theorem f_ex : ∃ g, g = f0 := ⟨_, rfl⟩
noncomputable def f := Classical.choose f_ex
theorem f_def : f = f0 := Classical.choose_spec f_ex
def mL3 (x0 : LB) (x3 : BA) (x4 : Int) : St := { tmps := mkT 22 0 [(0, (.fz Ty.str x0)), (3, (.v (.string x3))), (4, (.v (.int .i64 x4)))], hp := [], m := 0 }
def m7 (x0 : LB) (x3 : BA) (x4 : Int) : St := { tmps := mkT 22 0 [(0, (.fz Ty.str x0)), (3, (.v (.string x3))), (4, (.v (.int .i64 x4)))], hp := [], m := 0 }
def m8 (x3 : BA) : St := { tmps := mkT 22 0 [(3, (.v (.string x3)))], hp := [], m := 0 }
def m4 (x0 : LB) (x3 : BA) (x4 : Int) : St := { tmps := mkT 22 0 [(0, (.fz Ty.str x0)), (3, (.v (.string x3))), (4, (.v (.int .i64 x4)))], hp := [], m := 0 }
noncomputable def YL3 (k kp : KT) : (St → Prop) → St → Prop := loopB cfg (sub [1, 1, 0, 1, 0, 0] body) (contK cfg (pick none' []) [1, 1, 0, 1, 0] body (topK cfg Try.f32 k kp))
noncomputable def XL3 (k kp : KT) : St → Prop := fun st => ∃ n, loopN (YL3 k kp) n st
noncomputable def X7 (k kp : KT) (ag3 : St → Prop) : St → Prop := atP cfg (pick none' [(3, ag3)]) [1, 1, 0, 1, 0, 0, 1, 0, 0, 1] body (topK cfg Try.f32 k kp)
noncomputable def X8 (k kp : KT) : St → Prop := atP cfg (pick none' []) [1, 1, 1] body (topK cfg Try.f32 k kp)
noncomputable def X4 (k kp : KT) (ag3 : St → Prop) : St → Prop := atP cfg (pick none' [(3, ag3)]) [1, 1, 0, 1, 0, 0, 1, 1] body (topK cfg Try.f32 k kp)
noncomputable def JJ_3 (k kp : KT) (ag3 : St → Prop) : Nat → St → Prop := pick none' [(7, X7 k kp ag3), (8, X8 k kp), (4, X4 k kp ag3)]
noncomputable def LL_3 (k kp : KT) (ag3 : St → Prop) : Nat → St → Prop := pick none' [(3, XL3 k kp)]
noncomputable def JJ (k kp : KT) : Nat → St → Prop := pick none' [(8, X8 k kp)]
noncomputable def LL (k kp : KT) : Nat → St → Prop := pick none' [(3, XL3 k kp)]
theorem j8_c (k kp : KT) (J L : Nat → St → Prop) (x3 : BA) : runC cfg 8 J L (pick none' []) [1, 1, 1] body (topK cfg Try.f32 k kp) (m8 x3) = j8 x3 (fun y0 => k (.v (.string y0)) []) := by kernel_rfl
theorem j8_ag (k kp : KT) : agPL cfg 8 (JJ k kp) (LL k kp) [1, 1, 1] body = agPR cfg 8 (pick none' []) [1, 1, 1] body (topK cfg Try.f32 k kp) := by kernel_rfl
theorem j8_raw (k kp : KT) (x3 : BA) : X8 k kp (m8 x3) = j8 x3 (fun y0 => k (.v (.string y0)) []) :=
  Eq.mp (by kernel_rfl) ((atP_run (j8_ag k kp) (m8 x3)).trans (j8_c k kp (JJ k kp) (LL k kp) x3))
theorem j8_eq (k kp : KT) (x3 : BA) : X8 k kp (m8 x3) = j8' x3 (fun y0 => k (.v (.string y0)) []) := by
  rw [j8_raw]; rfl
theorem j4_c (k kp : KT) (J L : Nat → St → Prop) (ag3 : St → Prop) (x0 : LB) (x3 : BA) (x4 : Int) : runC cfg 4 J L (pick none' [(3, ag3)]) [1, 1, 0, 1, 0, 0, 1, 1] body (topK cfg Try.f32 k kp) (m4 x0 x3 x4) = j4 (fun x3 x4 => ag3 (mL3 x0 x3 x4)) x0 x3 x4 (fun y0 => k (.v (.string y0)) []) := by kernel_rfl
theorem j4_ag (k kp : KT) (ag3 : St → Prop) : agPL cfg 4 (JJ_3 k kp ag3) (LL_3 k kp ag3) [1, 1, 0, 1, 0, 0, 1, 1] body = agPR cfg 4 (pick none' [(3, ag3)]) [1, 1, 0, 1, 0, 0, 1, 1] body (topK cfg Try.f32 k kp) := by kernel_rfl
theorem j4_raw (k kp : KT) (ag3 : St → Prop) (x0 : LB) (x3 : BA) (x4 : Int) : X4 k kp ag3 (m4 x0 x3 x4) = j4 (fun x3 x4 => ag3 (mL3 x0 x3 x4)) x0 x3 x4 (fun y0 => k (.v (.string y0)) []) :=
  Eq.mp (by kernel_rfl) ((atP_run (j4_ag k kp ag3) (m4 x0 x3 x4)).trans (j4_c k kp (JJ_3 k kp ag3) (LL_3 k kp ag3) ag3 x0 x3 x4))
theorem j4_eq (k kp : KT) (ag3 : St → Prop) (x0 : LB) (x3 : BA) (x4 : Int) : X4 k kp ag3 (m4 x0 x3 x4) = j4' (fun x3 x4 => ag3 (mL3 x0 x3 x4)) x0 x3 x4 (fun y0 => k (.v (.string y0)) []) := by
  rw [j4_raw]; rfl
theorem j7_c (k kp : KT) (J L : Nat → St → Prop) (ag3 : St → Prop) (x0 : LB) (x3 : BA) (x4 : Int) : runC cfg 7 J L (pick none' [(3, ag3)]) [1, 1, 0, 1, 0, 0, 1, 0, 0, 1] body (topK cfg Try.f32 k kp) (m7 x0 x3 x4) = j7 (fun x0 x3 x4 => J 4 (m4 x0 x3 x4)) x0 x3 x4 (fun y0 => k (.v (.string y0)) []) := by kernel_rfl
theorem j7_ag (k kp : KT) (ag3 : St → Prop) : agPL cfg 7 (JJ_3 k kp ag3) (LL_3 k kp ag3) [1, 1, 0, 1, 0, 0, 1, 0, 0, 1] body = agPR cfg 7 (pick none' [(3, ag3)]) [1, 1, 0, 1, 0, 0, 1, 0, 0, 1] body (topK cfg Try.f32 k kp) := by kernel_rfl
theorem j7_raw (k kp : KT) (ag3 : St → Prop) (x0 : LB) (x3 : BA) (x4 : Int) : X7 k kp ag3 (m7 x0 x3 x4) = j7 (fun x0 x3 x4 => X4 k kp ag3 (m4 x0 x3 x4)) x0 x3 x4 (fun y0 => k (.v (.string y0)) []) :=
  Eq.mp (by kernel_rfl) ((atP_run (j7_ag k kp ag3) (m7 x0 x3 x4)).trans (j7_c k kp (JJ_3 k kp ag3) (LL_3 k kp ag3) ag3 x0 x3 x4))
theorem j7_eq (k kp : KT) (ag3 : St → Prop) (x0 : LB) (x3 : BA) (x4 : Int) : X7 k kp ag3 (m7 x0 x3 x4) = j7' (fun x3 x4 => ag3 (mL3 x0 x3 x4)) x0 x3 x4 (fun y0 => k (.v (.string y0)) []) := by
  rw [j7_raw]; simp only [j4_eq]; first | done | rfl
theorem l3_c (k kp : KT) (J L : Nat → St → Prop) (ag3 : St → Prop) (x0 : LB) (x3 : BA) (x4 : Int) : runC cfg 1000001 J L (pick none' [(3, ag3)]) [1, 1, 0, 1, 0, 0] body (topK cfg Try.f32 k kp) (mL3 x0 x3 x4) = l3 (fun x0 x3 x4 => J 7 (m7 x0 x3 x4)) (fun x3 => J 8 (m8 x3)) x0 x3 x4 (fun y0 => k (.v (.string y0)) []) := by kernel_rfl
theorem l3_ag (k kp : KT) (ag3 : St → Prop) : agPL cfg 1000001 (JJ_3 k kp ag3) (LL_3 k kp ag3) [1, 1, 0, 1, 0, 0] body = agPR cfg 1000001 (pick none' [(3, ag3)]) [1, 1, 0, 1, 0, 0] body (topK cfg Try.f32 k kp) := by kernel_rfl
theorem l3_raw (k kp : KT) (ag3 : St → Prop) (x0 : LB) (x3 : BA) (x4 : Int) : YL3 k kp ag3 (mL3 x0 x3 x4) = l3 (fun x0 x3 x4 => X7 k kp ag3 (m7 x0 x3 x4)) (fun x3 => X8 k kp (m8 x3)) x0 x3 x4 (fun y0 => k (.v (.string y0)) []) :=
  Eq.mp (by kernel_rfl) ((atP_run (l3_ag k kp ag3) (mL3 x0 x3 x4)).trans (l3_c k kp (JJ_3 k kp ag3) (LL_3 k kp ag3) ag3 x0 x3 x4))
theorem l3_eq (k kp : KT) (x0 : LB) (x3 : BA) (x4 : Int) : XL3 k kp (mL3 x0 x3 x4) = l3' x0 x3 x4 (fun y0 => k (.v (.string y0)) []) :=
  loop_eq (mk := fun (s : BA × Int) => mL3 x0 s.1 s.2) (fun again s => by rw [l3_raw k kp again x0 s.1 s.2]; simp only [j7_eq, j8_eq]; first | done | rfl) (x3, x4)
theorem c_c (k kp : KT) (J L : Nat → St → Prop) (x0 : LB) : runC cfg 1000001 J L none'' [] body (topK cfg Try.f32 k kp) (st0 Try.f32 [(.fz Ty.str x0)] []) = c (fun x0 x3 x4 => L 3 (mL3 x0 x3 x4)) x0 (fun y0 => k (.v (.string y0)) []) := by kernel_rfl
theorem c_ag (k kp : KT) : agPL cfg 1000001 (JJ k kp) (LL k kp) [] body = agPR cfg 1000001 none'' [] body (topK cfg Try.f32 k kp) := by kernel_rfl
theorem body_is : Try.f32.body = some body := by kernel_rfl
theorem c_raw (k kp : KT) (x0 : LB) : funW cfg Try.f32 [(.fz Ty.str x0)] [] k kp = c (fun x0 x3 x4 => XL3 k kp (mL3 x0 x3 x4)) x0 (fun y0 => k (.v (.string y0)) []) :=
  Eq.mp (by kernel_rfl) ((funW_run (AG := none'') body_is (c_ag k kp) [(.fz Ty.str x0)] []).trans (c_c k kp (JJ k kp) (LL k kp) x0))
theorem f_eq (k kp : KT) (x0 : LB) : funW cfg Try.f32 [(.fz Ty.str x0)] [] k kp = f x0 (fun y0 => k (.v (.string y0)) []) := by
  rw [f_def, c_raw]; simp only [l3_eq]; first | done | rfl
noncomputable def ent0 : Entry := fun args blks k _ => match args, blks with
  | [d0], [] => aFz Ty.str d0 fun x0 => f x0 (fun y0 => k (.v (.string y0)) [])
  | _, _ => False
noncomputable def ent : Entry := fun args blks k kp => ent0 (convB [.one Ty.str] args) blks k kp
theorem ok : EntOk Try.prog 0 0 32 ent := by
  refine EntOk.convB (EntOk.of (funW_ok (cfg := cfg) (tyOk_of rfl rfl tyL_ok) (eqOk_of (P := Try.prog) rfl rfl (by kernel_rfl)) mixed_ok (tab_ok ?_) Try.func32 (by rfl) (by rfl)) ?_) _
  · intro p hp
    cases hp
  · intro args blks k kp h k' kp'
    match args, blks, h with
    | [d0], [], h =>
    dsimp only [ent0] at h
    have h9 := aFz_elim (t := Ty.str) h; clear h; obtain ⟨x0, rfl, h⟩ := h9
    exact (f_eq k' kp' x0).symm
end N32
end Go.Proofs.Yh

namespace Go.Proofs.Yh
open Go Go.Aw Go.Proofs
set_option maxRecDepth 100000
set_option maxHeartbeats 4000000
namespace N33
noncomputable def cfg : Cfg := { P := Try.prog, ty := tys, E := tab [(15, N15.ent)], atSeq := tab [(6, ⟨[(3, .keep)]⟩)], atLoop := tab [(3, ⟨[(0, .keep), (3, .own 9 Ty.str), (4, .keep)]⟩)], outs := [], eqT := tab [], bT := tab [] }
noncomputable def body : Code := bodyOf Try.f33
def l3 (j6 : LB → Prop) (ag3 : Int → LB → Prop) (x0 : Zq6) (x4 : Int) (b0 : LB) (k : LB → Prop) : Prop :=
  (br (decide (x4 < ((((x0).length : Nat) : Int)))) ((inB 0 x4 ((((x0).length : Nat) : Int) - 1)) ∧ (N15.f (x0.getD (Int.toNat x4) ((0, (0, (0, 0))))).1 (x0.getD (Int.toNat x4) ((0, (0, (0, 0))))).2.1 (x0.getD (Int.toNat x4) ((0, (0, (0, 0))))).2.2.1 (x0.getD (Int.toNat x4) ((0, (0, (0, 0))))).2.2.2 (fun (y0_0 : BA) => ((room ((b0).length + (([y0_0] : List BA)).length) 16) ∧ (ag3 (IntKind.i64.wrap (x4 + (1 : Int))) (b0 ++ ([y0_0] : List BA))))))) (j6 b0))
def j6 (b0 : LB) (k : LB → Prop) : Prop :=
  (k b0)
def c (l3 : Zq6 → Int → LB → Prop) (x0 : Zq6) (k : LB → Prop) : Prop :=
  (l3 x0 (0 : Int) ([] : List BA))
def j6' (b0 : LB) (k : LB → Prop) : Prop := j6 b0 k
def l3' (x0 : Zq6) (x4 : Int) (b0 : LB) (k : LB → Prop) : Prop := ∃ n, loopS (fun (ag : (Int × LB) → Prop) (s : Int × LB) => l3 (fun b0 => j6' b0 k) (fun x4 b0 => ag (x4, b0)) x0 s.1 s.2 k) n (x4, b0)
def f0 (x0 : Zq6) (k : LB → Prop) : Prop := c (fun x0 x4 b0 => l3' x0 x4 b0 k) x0 k
theorem f_ex : ∃ g, g = f0 := ⟨_, rfl⟩
noncomputable def f := Classical.choose f_ex
theorem f_def : f = f0 := Classical.choose_spec f_ex
def mL3 (x0 : Zq6) (x4 : Int) (b0 : LB) : St := { tmps := mkT 20 0 [(0, (.fz Zy0 x0)), (3, (.sl 0 0)), (4, (.v (.int .i64 x4)))], hp := [(.lst 9 Ty.str b0 0 false)], m := 0 }
def m6 (b0 : LB) : St := { tmps := mkT 20 0 [(3, (.sl 0 0))], hp := [(.lst 9 Ty.str b0 0 false)], m := 0 }
noncomputable def YL3 (k kp : KT) : (St → Prop) → St → Prop := loopB cfg (sub [1, 1, 0, 1, 0, 0] body) (contK cfg (pick none' []) [1, 1, 0, 1, 0] body (topK cfg Try.f33 k kp))
noncomputable def XL3 (k kp : KT) : St → Prop := fun st => ∃ n, loopN (YL3 k kp) n st
noncomputable def X6 (k kp : KT) : St → Prop := atP cfg (pick none' []) [1, 1, 1] body (topK cfg Try.f33 k kp)
noncomputable def JJ_3 (k kp : KT) (ag3 : St → Prop) : Nat → St → Prop := pick none' [(6, X6 k kp)]
noncomputable def LL_3 (k kp : KT) (ag3 : St → Prop) : Nat → St → Prop := pick none' [(3, XL3 k kp)]
noncomputable def JJ (k kp : KT) : Nat → St → Prop := pick none' [(6, X6 k kp)]
noncomputable def LL (k kp : KT) : Nat → St → Prop := pick none' [(3, XL3 k kp)]
theorem j6_c (k kp : KT) (J L : Nat → St → Prop) (b0 : LB) : runC cfg 6 J L (pick none' []) [1, 1, 1] body (topK cfg Try.f33 k kp) (m6 b0) = j6 b0 (fun z0 => k (.sl 0 0) [(.lst 9 Ty.str z0 0 false)]) := by kernel_rfl
theorem j6_ag (k kp : KT) : agPL cfg 6 (JJ k kp) (LL k kp) [1, 1, 1] body = agPR cfg 6 (pick none' []) [1, 1, 1] body (topK cfg Try.f33 k kp) := by kernel_rfl
theorem j6_raw (k kp : KT) (b0 : LB) : X6 k kp (m6 b0) = j6 b0 (fun z0 => k (.sl 0 0) [(.lst 9 Ty.str z0 0 false)]) :=
  Eq.mp (by kernel_rfl) ((atP_run (j6_ag k kp) (m6 b0)).trans (j6_c k kp (JJ k kp) (LL k kp) b0))
theorem j6_eq (k kp : KT) (b0 : LB) : X6 k kp (m6 b0) = j6' b0 (fun z0 => k (.sl 0 0) [(.lst 9 Ty.str z0 0 false)]) := by
  rw [j6_raw]; rfl
theorem l3_c (k kp : KT) (J L : Nat → St → Prop) (ag3 : St → Prop) (x0 : Zq6) (x4 : Int) (b0 : LB) : runC cfg 1000001 J L (pick none' [(3, ag3)]) [1, 1, 0, 1, 0, 0] body (topK cfg Try.f33 k kp) (mL3 x0 x4 b0) = l3 (fun b0 => J 6 (m6 b0)) (fun x4 b0 => ag3 (mL3 x0 x4 b0)) x0 x4 b0 (fun z0 => k (.sl 0 0) [(.lst 9 Ty.str z0 0 false)]) := by kernel_rfl
theorem l3_ag (k kp : KT) (ag3 : St → Prop) : agPL cfg 1000001 (JJ_3 k kp ag3) (LL_3 k kp ag3) [1, 1, 0, 1, 0, 0] body = agPR cfg 1000001 (pick none' [(3, ag3)]) [1, 1, 0, 1, 0, 0] body (topK cfg Try.f33 k kp) := by kernel_rfl
theorem l3_raw (k kp : KT) (ag3 : St → Prop) (x0 : Zq6) (x4 : Int) (b0 : LB) : YL3 k kp ag3 (mL3 x0 x4 b0) = l3 (fun b0 => X6 k kp (m6 b0)) (fun x4 b0 => ag3 (mL3 x0 x4 b0)) x0 x4 b0 (fun z0 => k (.sl 0 0) [(.lst 9 Ty.str z0 0 false)]) :=
  Eq.mp (by kernel_rfl) ((atP_run (l3_ag k kp ag3) (mL3 x0 x4 b0)).trans (l3_c k kp (JJ_3 k kp ag3) (LL_3 k kp ag3) ag3 x0 x4 b0))
theorem l3_eq (k kp : KT) (x0 : Zq6) (x4 : Int) (b0 : LB) : XL3 k kp (mL3 x0 x4 b0) = l3' x0 x4 b0 (fun z0 => k (.sl 0 0) [(.lst 9 Ty.str z0 0 false)]) :=
  loop_eq (mk := fun (s : Int × LB) => mL3 x0 s.1 s.2) (fun again s => by rw [l3_raw k kp again x0 s.1 s.2]; simp only [j6_eq]; first | done | rfl) (x4, b0)
theorem c_c (k kp : KT) (J L : Nat → St → Prop) (x0 : Zq6) : runC cfg 1000001 J L none'' [] body (topK cfg Try.f33 k kp) (st0 Try.f33 [(.fz Zy0 x0)] []) = c (fun x0 x4 b0 => L 3 (mL3 x0 x4 b0)) x0 (fun z0 => k (.sl 0 0) [(.lst 9 Ty.str z0 0 false)]) := by kernel_rfl
theorem c_ag (k kp : KT) : agPL cfg 1000001 (JJ k kp) (LL k kp) [] body = agPR cfg 1000001 none'' [] body (topK cfg Try.f33 k kp) := by kernel_rfl
theorem body_is : Try.f33.body = some body := by kernel_rfl
theorem c_raw (k kp : KT) (x0 : Zq6) : funW cfg Try.f33 [(.fz Zy0 x0)] [] k kp = c (fun x0 x4 b0 => XL3 k kp (mL3 x0 x4 b0)) x0 (fun z0 => k (.sl 0 0) [(.lst 9 Ty.str z0 0 false)]) :=
  Eq.mp (by kernel_rfl) ((funW_run (AG := none'') body_is (c_ag k kp) [(.fz Zy0 x0)] []).trans (c_c k kp (JJ k kp) (LL k kp) x0))
theorem f_eq (k kp : KT) (x0 : Zq6) : funW cfg Try.f33 [(.fz Zy0 x0)] [] k kp = f x0 (fun z0 => k (.sl 0 0) [(.lst 9 Ty.str z0 0 false)]) := by
  rw [f_def, c_raw]; simp only [l3_eq]; first | done | rfl
noncomputable def ent0 : Entry := fun args blks k _ => match args, blks with
  | [d0], [] => aFz Zy0 d0 fun x0 => f x0 (fun z0 => k (.sl 0 0) [(.lst 9 Ty.str z0 0 false)])
  | _, _ => False
noncomputable def ent : Entry := fun args blks k kp => ent0 (convB [.one Zy0] args) blks k kp
theorem ok : EntOk Try.prog 0 0 33 ent := by
  refine EntOk.convB (EntOk.of (funW_ok (cfg := cfg) (tyOk_of rfl rfl tyL_ok) (eqOk_of (P := Try.prog) rfl rfl (by kernel_rfl)) mixed_ok (tab_ok ?_) Try.func33 (by rfl) (by rfl)) ?_) _
  · intro p hp
    simp only [List.mem_cons, List.not_mem_nil, or_false] at hp
    rcases hp with rfl
    · exact N15.ok
  · intro args blks k kp h k' kp'
    match args, blks, h with
    | [d0], [], h =>
    dsimp only [ent0] at h
    have h9 := aFz_elim (t := Zy0) h; clear h; obtain ⟨x0, rfl, h⟩ := h9
    exact (f_eq k' kp' x0).symm
end N33
end Go.Proofs.Yh

namespace Go.Proofs.Yh
open Go Go.Aw Go.Proofs
set_option maxRecDepth 100000
set_option maxHeartbeats 4000000
namespace N62
noncomputable def cfg : Cfg := { P := Try.prog, ty := tys, E := tab [], atSeq := tab [(7, ⟨[(1, .keep)]⟩)], atLoop := tab [(4, ⟨[(1, .own 83 (Ty.pair Ty.str (Ty.pair Ty.str (Ty.pair (Ty.list Ty.str) (Ty.pair Zy2 Ty.bool))))), (2, .keep), (3, .keep)]⟩)], outs := [], eqT := tab [], bT := tab [] }
noncomputable def body : Code := bodyOf Try.f62
def l4 (j7 : Zq5 → Prop) (ag4 : Int → Zq5 → LB → Prop) (x3 : Int) (b0 : Zq5) (b1 : LB) (k : Zq5 → Prop) : Prop :=
  (br (decide (x3 < (15 : Int))) ((inB 0 x3 ((((b1).length : Nat) : Int) - 1)) ∧ ((room ((b0).length + (([((b1.getD (Int.toNat x3) (ByteArray.empty)), ((ByteArray.mk #[103]), (([(ByteArray.mk #[103]), (ByteArray.mk #[103, 105])] : List BA), ((0 : Int), false))))] : List (BA × (BA × (LB × (Int × Bool)))))).length) 72) ∧ (ag4 (IntKind.i64.wrap (x3 + (1 : Int))) (b0 ++ ([((b1.getD (Int.toNat x3) (ByteArray.empty)), ((ByteArray.mk #[103]), (([(ByteArray.mk #[103]), (ByteArray.mk #[103, 105])] : List BA), ((0 : Int), false))))] : List (BA × (BA × (LB × (Int × Bool)))))) b1))) (j7 b0))
def j7 (b0 : Zq5) (k : Zq5 → Prop) : Prop :=
  ((room ((b0).length + (([((ByteArray.mk #[99, 111, 112, 121]), ((ByteArray.mk #[103, 120]), (([(ByteArray.mk #[103, 120, 105])] : List BA), ((0 : Int), false))))] : List (BA × (BA × (LB × (Int × Bool)))))).length) 72) ∧ ((room (((b0 ++ ([((ByteArray.mk #[99, 111, 112, 121]), ((ByteArray.mk #[103, 120]), (([(ByteArray.mk #[103, 120, 105])] : List BA), ((0 : Int), false))))] : List (BA × (BA × (LB × (Int × Bool))))))).length + (([((ByteArray.mk #[108, 111, 97, 100]), ((ByteArray.mk #[103]), (([(ByteArray.mk #[120])] : List BA), ((0 : Int), false))))] : List (BA × (BA × (LB × (Int × Bool)))))).length) 72) ∧ ((room ((((b0 ++ ([((ByteArray.mk #[99, 111, 112, 121]), ((ByteArray.mk #[103, 120]), (([(ByteArray.mk #[103, 120, 105])] : List BA), ((0 : Int), false))))] : List (BA × (BA × (LB × (Int × Bool)))))) ++ ([((ByteArray.mk #[108, 111, 97, 100]), ((ByteArray.mk #[103]), (([(ByteArray.mk #[120])] : List BA), ((0 : Int), false))))] : List (BA × (BA × (LB × (Int × Bool))))))).length + (([((ByteArray.mk #[115, 116, 111, 114, 101]), ((ByteArray.mk #[]), (([(ByteArray.mk #[103]), (ByteArray.mk #[120])] : List BA), ((0 : Int), false))))] : List (BA × (BA × (LB × (Int × Bool)))))).length) 72) ∧ ((room (((((b0 ++ ([((ByteArray.mk #[99, 111, 112, 121]), ((ByteArray.mk #[103, 120]), (([(ByteArray.mk #[103, 120, 105])] : List BA), ((0 : Int), false))))] : List (BA × (BA × (LB × (Int × Bool)))))) ++ ([((ByteArray.mk #[108, 111, 97, 100]), ((ByteArray.mk #[103]), (([(ByteArray.mk #[120])] : List BA), ((0 : Int), false))))] : List (BA × (BA × (LB × (Int × Bool)))))) ++ ([((ByteArray.mk #[115, 116, 111, 114, 101]), ((ByteArray.mk #[]), (([(ByteArray.mk #[103]), (ByteArray.mk #[120])] : List BA), ((0 : Int), false))))] : List (BA × (BA × (LB × (Int × Bool))))))).length + (([((ByteArray.mk #[99, 97, 108, 108]), ((ByteArray.mk #[103, 110]), (([(ByteArray.mk #[103, 105, 115]), (ByteArray.mk #[103, 105, 115]), (ByteArray.mk #[103, 105, 115]), (ByteArray.mk #[103, 105, 115]), (ByteArray.mk #[103, 105, 115]), (ByteArray.mk #[103, 105, 115]), (ByteArray.mk #[103, 105, 115]), (ByteArray.mk #[103, 105, 115])] : List BA), ((0 : Int), false))))] : List (BA × (BA × (LB × (Int × Bool)))))).length) 72) ∧ ((room ((((((b0 ++ ([((ByteArray.mk #[99, 111, 112, 121]), ((ByteArray.mk #[103, 120]), (([(ByteArray.mk #[103, 120, 105])] : List BA), ((0 : Int), false))))] : List (BA × (BA × (LB × (Int × Bool)))))) ++ ([((ByteArray.mk #[108, 111, 97, 100]), ((ByteArray.mk #[103]), (([(ByteArray.mk #[120])] : List BA), ((0 : Int), false))))] : List (BA × (BA × (LB × (Int × Bool)))))) ++ ([((ByteArray.mk #[115, 116, 111, 114, 101]), ((ByteArray.mk #[]), (([(ByteArray.mk #[103]), (ByteArray.mk #[120])] : List BA), ((0 : Int), false))))] : List (BA × (BA × (LB × (Int × Bool)))))) ++ ([((ByteArray.mk #[99, 97, 108, 108]), ((ByteArray.mk #[103, 110]), (([(ByteArray.mk #[103, 105, 115]), (ByteArray.mk #[103, 105, 115]), (ByteArray.mk #[103, 105, 115]), (ByteArray.mk #[103, 105, 115]), (ByteArray.mk #[103, 105, 115]), (ByteArray.mk #[103, 105, 115]), (ByteArray.mk #[103, 105, 115]), (ByteArray.mk #[103, 105, 115])] : List BA), ((0 : Int), false))))] : List (BA × (BA × (LB × (Int × Bool))))))).length + (([((ByteArray.mk #[98, 114]), ((ByteArray.mk #[]), (([] : List BA), ((1 : Int), false))))] : List (BA × (BA × (LB × (Int × Bool)))))).length) 72) ∧ ((room (((((((b0 ++ ([((ByteArray.mk #[99, 111, 112, 121]), ((ByteArray.mk #[103, 120]), (([(ByteArray.mk #[103, 120, 105])] : List BA), ((0 : Int), false))))] : List (BA × (BA × (LB × (Int × Bool)))))) ++ ([((ByteArray.mk #[108, 111, 97, 100]), ((ByteArray.mk #[103]), (([(ByteArray.mk #[120])] : List BA), ((0 : Int), false))))] : List (BA × (BA × (LB × (Int × Bool)))))) ++ ([((ByteArray.mk #[115, 116, 111, 114, 101]), ((ByteArray.mk #[]), (([(ByteArray.mk #[103]), (ByteArray.mk #[120])] : List BA), ((0 : Int), false))))] : List (BA × (BA × (LB × (Int × Bool)))))) ++ ([((ByteArray.mk #[99, 97, 108, 108]), ((ByteArray.mk #[103, 110]), (([(ByteArray.mk #[103, 105, 115]), (ByteArray.mk #[103, 105, 115]), (ByteArray.mk #[103, 105, 115]), (ByteArray.mk #[103, 105, 115]), (ByteArray.mk #[103, 105, 115]), (ByteArray.mk #[103, 105, 115]), (ByteArray.mk #[103, 105, 115]), (ByteArray.mk #[103, 105, 115])] : List BA), ((0 : Int), false))))] : List (BA × (BA × (LB × (Int × Bool)))))) ++ ([((ByteArray.mk #[98, 114]), ((ByteArray.mk #[]), (([] : List BA), ((1 : Int), false))))] : List (BA × (BA × (LB × (Int × Bool))))))).length + (([((ByteArray.mk #[98, 114, 105, 102]), ((ByteArray.mk #[]), (([(ByteArray.mk #[103])] : List BA), ((2 : Int), false))))] : List (BA × (BA × (LB × (Int × Bool)))))).length) 72) ∧ ((room ((((((((b0 ++ ([((ByteArray.mk #[99, 111, 112, 121]), ((ByteArray.mk #[103, 120]), (([(ByteArray.mk #[103, 120, 105])] : List BA), ((0 : Int), false))))] : List (BA × (BA × (LB × (Int × Bool)))))) ++ ([((ByteArray.mk #[108, 111, 97, 100]), ((ByteArray.mk #[103]), (([(ByteArray.mk #[120])] : List BA), ((0 : Int), false))))] : List (BA × (BA × (LB × (Int × Bool)))))) ++ ([((ByteArray.mk #[115, 116, 111, 114, 101]), ((ByteArray.mk #[]), (([(ByteArray.mk #[103]), (ByteArray.mk #[120])] : List BA), ((0 : Int), false))))] : List (BA × (BA × (LB × (Int × Bool)))))) ++ ([((ByteArray.mk #[99, 97, 108, 108]), ((ByteArray.mk #[103, 110]), (([(ByteArray.mk #[103, 105, 115]), (ByteArray.mk #[103, 105, 115]), (ByteArray.mk #[103, 105, 115]), (ByteArray.mk #[103, 105, 115]), (ByteArray.mk #[103, 105, 115]), (ByteArray.mk #[103, 105, 115]), (ByteArray.mk #[103, 105, 115]), (ByteArray.mk #[103, 105, 115])] : List BA), ((0 : Int), false))))] : List (BA × (BA × (LB × (Int × Bool)))))) ++ ([((ByteArray.mk #[98, 114]), ((ByteArray.mk #[]), (([] : List BA), ((1 : Int), false))))] : List (BA × (BA × (LB × (Int × Bool)))))) ++ ([((ByteArray.mk #[98, 114, 105, 102]), ((ByteArray.mk #[]), (([(ByteArray.mk #[103])] : List BA), ((2 : Int), false))))] : List (BA × (BA × (LB × (Int × Bool))))))).length + (([((ByteArray.mk #[115, 119, 105, 116, 99, 104]), ((ByteArray.mk #[]), (([(ByteArray.mk #[103])] : List BA), ((-1 : Int), false))))] : List (BA × (BA × (LB × (Int × Bool)))))).length) 72) ∧ ((room (((((((((b0 ++ ([((ByteArray.mk #[99, 111, 112, 121]), ((ByteArray.mk #[103, 120]), (([(ByteArray.mk #[103, 120, 105])] : List BA), ((0 : Int), false))))] : List (BA × (BA × (LB × (Int × Bool)))))) ++ ([((ByteArray.mk #[108, 111, 97, 100]), ((ByteArray.mk #[103]), (([(ByteArray.mk #[120])] : List BA), ((0 : Int), false))))] : List (BA × (BA × (LB × (Int × Bool)))))) ++ ([((ByteArray.mk #[115, 116, 111, 114, 101]), ((ByteArray.mk #[]), (([(ByteArray.mk #[103]), (ByteArray.mk #[120])] : List BA), ((0 : Int), false))))] : List (BA × (BA × (LB × (Int × Bool)))))) ++ ([((ByteArray.mk #[99, 97, 108, 108]), ((ByteArray.mk #[103, 110]), (([(ByteArray.mk #[103, 105, 115]), (ByteArray.mk #[103, 105, 115]), (ByteArray.mk #[103, 105, 115]), (ByteArray.mk #[103, 105, 115]), (ByteArray.mk #[103, 105, 115]), (ByteArray.mk #[103, 105, 115]), (ByteArray.mk #[103, 105, 115]), (ByteArray.mk #[103, 105, 115])] : List BA), ((0 : Int), false))))] : List (BA × (BA × (LB × (Int × Bool)))))) ++ ([((ByteArray.mk #[98, 114]), ((ByteArray.mk #[]), (([] : List BA), ((1 : Int), false))))] : List (BA × (BA × (LB × (Int × Bool)))))) ++ ([((ByteArray.mk #[98, 114, 105, 102]), ((ByteArray.mk #[]), (([(ByteArray.mk #[103])] : List BA), ((2 : Int), false))))] : List (BA × (BA × (LB × (Int × Bool)))))) ++ ([((ByteArray.mk #[115, 119, 105, 116, 99, 104]), ((ByteArray.mk #[]), (([(ByteArray.mk #[103])] : List BA), ((-1 : Int), false))))] : List (BA × (BA × (LB × (Int × Bool))))))).length + (([((ByteArray.mk #[114, 101, 116]), ((ByteArray.mk #[]), (([(ByteArray.mk #[103, 105])] : List BA), ((0 : Int), false))))] : List (BA × (BA × (LB × (Int × Bool)))))).length) 72) ∧ ((room ((((((((((b0 ++ ([((ByteArray.mk #[99, 111, 112, 121]), ((ByteArray.mk #[103, 120]), (([(ByteArray.mk #[103, 120, 105])] : List BA), ((0 : Int), false))))] : List (BA × (BA × (LB × (Int × Bool)))))) ++ ([((ByteArray.mk #[108, 111, 97, 100]), ((ByteArray.mk #[103]), (([(ByteArray.mk #[120])] : List BA), ((0 : Int), false))))] : List (BA × (BA × (LB × (Int × Bool)))))) ++ ([((ByteArray.mk #[115, 116, 111, 114, 101]), ((ByteArray.mk #[]), (([(ByteArray.mk #[103]), (ByteArray.mk #[120])] : List BA), ((0 : Int), false))))] : List (BA × (BA × (LB × (Int × Bool)))))) ++ ([((ByteArray.mk #[99, 97, 108, 108]), ((ByteArray.mk #[103, 110]), (([(ByteArray.mk #[103, 105, 115]), (ByteArray.mk #[103, 105, 115]), (ByteArray.mk #[103, 105, 115]), (ByteArray.mk #[103, 105, 115]), (ByteArray.mk #[103, 105, 115]), (ByteArray.mk #[103, 105, 115]), (ByteArray.mk #[103, 105, 115]), (ByteArray.mk #[103, 105, 115])] : List BA), ((0 : Int), false))))] : List (BA × (BA × (LB × (Int × Bool)))))) ++ ([((ByteArray.mk #[98, 114]), ((ByteArray.mk #[]), (([] : List BA), ((1 : Int), false))))] : List (BA × (BA × (LB × (Int × Bool)))))) ++ ([((ByteArray.mk #[98, 114, 105, 102]), ((ByteArray.mk #[]), (([(ByteArray.mk #[103])] : List BA), ((2 : Int), false))))] : List (BA × (BA × (LB × (Int × Bool)))))) ++ ([((ByteArray.mk #[115, 119, 105, 116, 99, 104]), ((ByteArray.mk #[]), (([(ByteArray.mk #[103])] : List BA), ((-1 : Int), false))))] : List (BA × (BA × (LB × (Int × Bool)))))) ++ ([((ByteArray.mk #[114, 101, 116]), ((ByteArray.mk #[]), (([(ByteArray.mk #[103, 105])] : List BA), ((0 : Int), false))))] : List (BA × (BA × (LB × (Int × Bool))))))).length + (([((ByteArray.mk #[109, 111, 118, 101]), ((ByteArray.mk #[103, 120]), (([(ByteArray.mk #[103, 120])] : List BA), ((0 : Int), true))))] : List (BA × (BA × (LB × (Int × Bool)))))).length) 72) ∧ ((room (((((((((((b0 ++ ([((ByteArray.mk #[99, 111, 112, 121]), ((ByteArray.mk #[103, 120]), (([(ByteArray.mk #[103, 120, 105])] : List BA), ((0 : Int), false))))] : List (BA × (BA × (LB × (Int × Bool)))))) ++ ([((ByteArray.mk #[108, 111, 97, 100]), ((ByteArray.mk #[103]), (([(ByteArray.mk #[120])] : List BA), ((0 : Int), false))))] : List (BA × (BA × (LB × (Int × Bool)))))) ++ ([((ByteArray.mk #[115, 116, 111, 114, 101]), ((ByteArray.mk #[]), (([(ByteArray.mk #[103]), (ByteArray.mk #[120])] : List BA), ((0 : Int), false))))] : List (BA × (BA × (LB × (Int × Bool)))))) ++ ([((ByteArray.mk #[99, 97, 108, 108]), ((ByteArray.mk #[103, 110]), (([(ByteArray.mk #[103, 105, 115]), (ByteArray.mk #[103, 105, 115]), (ByteArray.mk #[103, 105, 115]), (ByteArray.mk #[103, 105, 115]), (ByteArray.mk #[103, 105, 115]), (ByteArray.mk #[103, 105, 115]), (ByteArray.mk #[103, 105, 115]), (ByteArray.mk #[103, 105, 115])] : List BA), ((0 : Int), false))))] : List (BA × (BA × (LB × (Int × Bool)))))) ++ ([((ByteArray.mk #[98, 114]), ((ByteArray.mk #[]), (([] : List BA), ((1 : Int), false))))] : List (BA × (BA × (LB × (Int × Bool)))))) ++ ([((ByteArray.mk #[98, 114, 105, 102]), ((ByteArray.mk #[]), (([(ByteArray.mk #[103])] : List BA), ((2 : Int), false))))] : List (BA × (BA × (LB × (Int × Bool)))))) ++ ([((ByteArray.mk #[115, 119, 105, 116, 99, 104]), ((ByteArray.mk #[]), (([(ByteArray.mk #[103])] : List BA), ((-1 : Int), false))))] : List (BA × (BA × (LB × (Int × Bool)))))) ++ ([((ByteArray.mk #[114, 101, 116]), ((ByteArray.mk #[]), (([(ByteArray.mk #[103, 105])] : List BA), ((0 : Int), false))))] : List (BA × (BA × (LB × (Int × Bool)))))) ++ ([((ByteArray.mk #[109, 111, 118, 101]), ((ByteArray.mk #[103, 120]), (([(ByteArray.mk #[103, 120])] : List BA), ((0 : Int), true))))] : List (BA × (BA × (LB × (Int × Bool))))))).length + (([((ByteArray.mk #[115, 112, 105, 108, 108]), ((ByteArray.mk #[115]), (([(ByteArray.mk #[103, 120])] : List BA), ((0 : Int), true))))] : List (BA × (BA × (LB × (Int × Bool)))))).length) 72) ∧ ((room ((((((((((((b0 ++ ([((ByteArray.mk #[99, 111, 112, 121]), ((ByteArray.mk #[103, 120]), (([(ByteArray.mk #[103, 120, 105])] : List BA), ((0 : Int), false))))] : List (BA × (BA × (LB × (Int × Bool)))))) ++ ([((ByteArray.mk #[108, 111, 97, 100]), ((ByteArray.mk #[103]), (([(ByteArray.mk #[120])] : List BA), ((0 : Int), false))))] : List (BA × (BA × (LB × (Int × Bool)))))) ++ ([((ByteArray.mk #[115, 116, 111, 114, 101]), ((ByteArray.mk #[]), (([(ByteArray.mk #[103]), (ByteArray.mk #[120])] : List BA), ((0 : Int), false))))] : List (BA × (BA × (LB × (Int × Bool)))))) ++ ([((ByteArray.mk #[99, 97, 108, 108]), ((ByteArray.mk #[103, 110]), (([(ByteArray.mk #[103, 105, 115]), (ByteArray.mk #[103, 105, 115]), (ByteArray.mk #[103, 105, 115]), (ByteArray.mk #[103, 105, 115]), (ByteArray.mk #[103, 105, 115]), (ByteArray.mk #[103, 105, 115]), (ByteArray.mk #[103, 105, 115]), (ByteArray.mk #[103, 105, 115])] : List BA), ((0 : Int), false))))] : List (BA × (BA × (LB × (Int × Bool)))))) ++ ([((ByteArray.mk #[98, 114]), ((ByteArray.mk #[]), (([] : List BA), ((1 : Int), false))))] : List (BA × (BA × (LB × (Int × Bool)))))) ++ ([((ByteArray.mk #[98, 114, 105, 102]), ((ByteArray.mk #[]), (([(ByteArray.mk #[103])] : List BA), ((2 : Int), false))))] : List (BA × (BA × (LB × (Int × Bool)))))) ++ ([((ByteArray.mk #[115, 119, 105, 116, 99, 104]), ((ByteArray.mk #[]), (([(ByteArray.mk #[103])] : List BA), ((-1 : Int), false))))] : List (BA × (BA × (LB × (Int × Bool)))))) ++ ([((ByteArray.mk #[114, 101, 116]), ((ByteArray.mk #[]), (([(ByteArray.mk #[103, 105])] : List BA), ((0 : Int), false))))] : List (BA × (BA × (LB × (Int × Bool)))))) ++ ([((ByteArray.mk #[109, 111, 118, 101]), ((ByteArray.mk #[103, 120]), (([(ByteArray.mk #[103, 120])] : List BA), ((0 : Int), true))))] : List (BA × (BA × (LB × (Int × Bool)))))) ++ ([((ByteArray.mk #[115, 112, 105, 108, 108]), ((ByteArray.mk #[115]), (([(ByteArray.mk #[103, 120])] : List BA), ((0 : Int), true))))] : List (BA × (BA × (LB × (Int × Bool))))))).length + (([((ByteArray.mk #[114, 101, 108, 111, 97, 100]), ((ByteArray.mk #[103, 120]), (([(ByteArray.mk #[115])] : List BA), ((0 : Int), true))))] : List (BA × (BA × (LB × (Int × Bool)))))).length) 72) ∧ ((room (((((((((((((b0 ++ ([((ByteArray.mk #[99, 111, 112, 121]), ((ByteArray.mk #[103, 120]), (([(ByteArray.mk #[103, 120, 105])] : List BA), ((0 : Int), false))))] : List (BA × (BA × (LB × (Int × Bool)))))) ++ ([((ByteArray.mk #[108, 111, 97, 100]), ((ByteArray.mk #[103]), (([(ByteArray.mk #[120])] : List BA), ((0 : Int), false))))] : List (BA × (BA × (LB × (Int × Bool)))))) ++ ([((ByteArray.mk #[115, 116, 111, 114, 101]), ((ByteArray.mk #[]), (([(ByteArray.mk #[103]), (ByteArray.mk #[120])] : List BA), ((0 : Int), false))))] : List (BA × (BA × (LB × (Int × Bool)))))) ++ ([((ByteArray.mk #[99, 97, 108, 108]), ((ByteArray.mk #[103, 110]), (([(ByteArray.mk #[103, 105, 115]), (ByteArray.mk #[103, 105, 115]), (ByteArray.mk #[103, 105, 115]), (ByteArray.mk #[103, 105, 115]), (ByteArray.mk #[103, 105, 115]), (ByteArray.mk #[103, 105, 115]), (ByteArray.mk #[103, 105, 115]), (ByteArray.mk #[103, 105, 115])] : List BA), ((0 : Int), false))))] : List (BA × (BA × (LB × (Int × Bool)))))) ++ ([((ByteArray.mk #[98, 114]), ((ByteArray.mk #[]), (([] : List BA), ((1 : Int), false))))] : List (BA × (BA × (LB × (Int × Bool)))))) ++ ([((ByteArray.mk #[98, 114, 105, 102]), ((ByteArray.mk #[]), (([(ByteArray.mk #[103])] : List BA), ((2 : Int), false))))] : List (BA × (BA × (LB × (Int × Bool)))))) ++ ([((ByteArray.mk #[115, 119, 105, 116, 99, 104]), ((ByteArray.mk #[]), (([(ByteArray.mk #[103])] : List BA), ((-1 : Int), false))))] : List (BA × (BA × (LB × (Int × Bool)))))) ++ ([((ByteArray.mk #[114, 101, 116]), ((ByteArray.mk #[]), (([(ByteArray.mk #[103, 105])] : List BA), ((0 : Int), false))))] : List (BA × (BA × (LB × (Int × Bool)))))) ++ ([((ByteArray.mk #[109, 111, 118, 101]), ((ByteArray.mk #[103, 120]), (([(ByteArray.mk #[103, 120])] : List BA), ((0 : Int), true))))] : List (BA × (BA × (LB × (Int × Bool)))))) ++ ([((ByteArray.mk #[115, 112, 105, 108, 108]), ((ByteArray.mk #[115]), (([(ByteArray.mk #[103, 120])] : List BA), ((0 : Int), true))))] : List (BA × (BA × (LB × (Int × Bool)))))) ++ ([((ByteArray.mk #[114, 101, 108, 111, 97, 100]), ((ByteArray.mk #[103, 120]), (([(ByteArray.mk #[115])] : List BA), ((0 : Int), true))))] : List (BA × (BA × (LB × (Int × Bool))))))).length + (([((ByteArray.mk #[115, 119, 97, 112]), ((ByteArray.mk #[]), (([(ByteArray.mk #[103, 120, 115]), (ByteArray.mk #[103, 120, 115])] : List BA), ((0 : Int), true))))] : List (BA × (BA × (LB × (Int × Bool)))))).length) 72) ∧ (k ((((((((((((b0 ++ ([((ByteArray.mk #[99, 111, 112, 121]), ((ByteArray.mk #[103, 120]), (([(ByteArray.mk #[103, 120, 105])] : List BA), ((0 : Int), false))))] : List (BA × (BA × (LB × (Int × Bool)))))) ++ ([((ByteArray.mk #[108, 111, 97, 100]), ((ByteArray.mk #[103]), (([(ByteArray.mk #[120])] : List BA), ((0 : Int), false))))] : List (BA × (BA × (LB × (Int × Bool)))))) ++ ([((ByteArray.mk #[115, 116, 111, 114, 101]), ((ByteArray.mk #[]), (([(ByteArray.mk #[103]), (ByteArray.mk #[120])] : List BA), ((0 : Int), false))))] : List (BA × (BA × (LB × (Int × Bool)))))) ++ ([((ByteArray.mk #[99, 97, 108, 108]), ((ByteArray.mk #[103, 110]), (([(ByteArray.mk #[103, 105, 115]), (ByteArray.mk #[103, 105, 115]), (ByteArray.mk #[103, 105, 115]), (ByteArray.mk #[103, 105, 115]), (ByteArray.mk #[103, 105, 115]), (ByteArray.mk #[103, 105, 115]), (ByteArray.mk #[103, 105, 115]), (ByteArray.mk #[103, 105, 115])] : List BA), ((0 : Int), false))))] : List (BA × (BA × (LB × (Int × Bool)))))) ++ ([((ByteArray.mk #[98, 114]), ((ByteArray.mk #[]), (([] : List BA), ((1 : Int), false))))] : List (BA × (BA × (LB × (Int × Bool)))))) ++ ([((ByteArray.mk #[98, 114, 105, 102]), ((ByteArray.mk #[]), (([(ByteArray.mk #[103])] : List BA), ((2 : Int), false))))] : List (BA × (BA × (LB × (Int × Bool)))))) ++ ([((ByteArray.mk #[115, 119, 105, 116, 99, 104]), ((ByteArray.mk #[]), (([(ByteArray.mk #[103])] : List BA), ((-1 : Int), false))))] : List (BA × (BA × (LB × (Int × Bool)))))) ++ ([((ByteArray.mk #[114, 101, 116]), ((ByteArray.mk #[]), (([(ByteArray.mk #[103, 105])] : List BA), ((0 : Int), false))))] : List (BA × (BA × (LB × (Int × Bool)))))) ++ ([((ByteArray.mk #[109, 111, 118, 101]), ((ByteArray.mk #[103, 120]), (([(ByteArray.mk #[103, 120])] : List BA), ((0 : Int), true))))] : List (BA × (BA × (LB × (Int × Bool)))))) ++ ([((ByteArray.mk #[115, 112, 105, 108, 108]), ((ByteArray.mk #[115]), (([(ByteArray.mk #[103, 120])] : List BA), ((0 : Int), true))))] : List (BA × (BA × (LB × (Int × Bool)))))) ++ ([((ByteArray.mk #[114, 101, 108, 111, 97, 100]), ((ByteArray.mk #[103, 120]), (([(ByteArray.mk #[115])] : List BA), ((0 : Int), true))))] : List (BA × (BA × (LB × (Int × Bool)))))) ++ ([((ByteArray.mk #[115, 119, 97, 112]), ((ByteArray.mk #[]), (([(ByteArray.mk #[103, 120, 115]), (ByteArray.mk #[103, 120, 115])] : List BA), ((0 : Int), true))))] : List (BA × (BA × (LB × (Int × Bool)))))))))))))))))))
def c (l4 : Int → Zq5 → LB → Prop) (k : Zq5 → Prop) : Prop :=
  (l4 (0 : Int) ([] : List (BA × (BA × (LB × (Int × Bool))))) ([(ByteArray.mk #[97, 100, 100]), (ByteArray.mk #[115, 117, 98]), (ByteArray.mk #[109, 117, 108]), (ByteArray.mk #[97, 110, 100]), (ByteArray.mk #[111, 114]), (ByteArray.mk #[120, 111, 114]), (ByteArray.mk #[115, 104, 108]), (ByteArray.mk #[115, 104, 114]), (ByteArray.mk #[115, 97, 114]), (ByteArray.mk #[100, 105, 118]), (ByteArray.mk #[114, 101, 109]), (ByteArray.mk #[101, 113]), (ByteArray.mk #[110, 101]), (ByteArray.mk #[108, 116]), (ByteArray.mk #[108, 101])] : List BA))
def j7' (b0 : Zq5) (k : Zq5 → Prop) : Prop := j7 b0 k
def l4' (x3 : Int) (b0 : Zq5) (b1 : LB) (k : Zq5 → Prop) : Prop := ∃ n, loopS (fun (ag : (Int × Zq5 × LB) → Prop) (s : Int × Zq5 × LB) => l4 (fun b0 => j7' b0 k) (fun x3 b0 b1 => ag (x3, b0, b1)) s.1 s.2.1 s.2.2 k) n (x3, b0, b1)
def f0 (k : Zq5 → Prop) : Prop := c (fun x3 b0 b1 => l4' x3 b0 b1 k) k
theorem f_ex : ∃ g, g = f0 := ⟨_, rfl⟩
noncomputable def f := Classical.choose f_ex
theorem f_def : f = f0 := Classical.choose_spec f_ex
def mL4 (x3 : Int) (b0 : Zq5) (b1 : LB) : St := { tmps := mkT 78 0 [(1, (.sl 0 0)), (2, (.sl 1 0)), (3, (.v (.int .i64 x3)))], hp := [(.lst 83 (Ty.pair Ty.str (Ty.pair Ty.str (Ty.pair (Ty.list Ty.str) (Ty.pair Zy2 Ty.bool)))) b0 0 false), (.lst 9 Ty.str b1 0 false)], m := 0 }
def m7 (b0 : Zq5) : St := { tmps := mkT 78 0 [(1, (.sl 0 0))], hp := [(.lst 83 (Ty.pair Ty.str (Ty.pair Ty.str (Ty.pair (Ty.list Ty.str) (Ty.pair Zy2 Ty.bool)))) b0 0 false)], m := 0 }
noncomputable def YL4 (k kp : KT) : (St → Prop) → St → Prop := loopB cfg (sub [1, 1, 1, 0, 1, 0, 0] body) (contK cfg (pick none' []) [1, 1, 1, 0, 1, 0] body (topK cfg Try.f62 k kp))
noncomputable def XL4 (k kp : KT) : St → Prop := fun st => ∃ n, loopN (YL4 k kp) n st
noncomputable def X7 (k kp : KT) : St → Prop := atP cfg (pick none' []) [1, 1, 1, 1] body (topK cfg Try.f62 k kp)
noncomputable def JJ_4 (k kp : KT) (ag4 : St → Prop) : Nat → St → Prop := pick none' [(7, X7 k kp)]
noncomputable def LL_4 (k kp : KT) (ag4 : St → Prop) : Nat → St → Prop := pick none' [(4, XL4 k kp)]
noncomputable def JJ (k kp : KT) : Nat → St → Prop := pick none' [(7, X7 k kp)]
noncomputable def LL (k kp : KT) : Nat → St → Prop := pick none' [(4, XL4 k kp)]
theorem j7_c (k kp : KT) (J L : Nat → St → Prop) (b0 : Zq5) : runC cfg 7 J L (pick none' []) [1, 1, 1, 1] body (topK cfg Try.f62 k kp) (m7 b0) = j7 b0 (fun z0 => k (.sl 0 0) [(.lst 83 (Ty.pair Ty.str (Ty.pair Ty.str (Ty.pair (Ty.list Ty.str) (Ty.pair Zy2 Ty.bool)))) z0 0 false)]) := by kernel_rfl
theorem j7_ag (k kp : KT) : agPL cfg 7 (JJ k kp) (LL k kp) [1, 1, 1, 1] body = agPR cfg 7 (pick none' []) [1, 1, 1, 1] body (topK cfg Try.f62 k kp) := by kernel_rfl
theorem j7_raw (k kp : KT) (b0 : Zq5) : X7 k kp (m7 b0) = j7 b0 (fun z0 => k (.sl 0 0) [(.lst 83 (Ty.pair Ty.str (Ty.pair Ty.str (Ty.pair (Ty.list Ty.str) (Ty.pair Zy2 Ty.bool)))) z0 0 false)]) :=
  Eq.mp (by kernel_rfl) ((atP_run (j7_ag k kp) (m7 b0)).trans (j7_c k kp (JJ k kp) (LL k kp) b0))
theorem j7_eq (k kp : KT) (b0 : Zq5) : X7 k kp (m7 b0) = j7' b0 (fun z0 => k (.sl 0 0) [(.lst 83 (Ty.pair Ty.str (Ty.pair Ty.str (Ty.pair (Ty.list Ty.str) (Ty.pair Zy2 Ty.bool)))) z0 0 false)]) := by
  rw [j7_raw]; rfl
theorem l4_c (k kp : KT) (J L : Nat → St → Prop) (ag4 : St → Prop) (x3 : Int) (b0 : Zq5) (b1 : LB) : runC cfg 1000001 J L (pick none' [(4, ag4)]) [1, 1, 1, 0, 1, 0, 0] body (topK cfg Try.f62 k kp) (mL4 x3 b0 b1) = l4 (fun b0 => J 7 (m7 b0)) (fun x3 b0 b1 => ag4 (mL4 x3 b0 b1)) x3 b0 b1 (fun z0 => k (.sl 0 0) [(.lst 83 (Ty.pair Ty.str (Ty.pair Ty.str (Ty.pair (Ty.list Ty.str) (Ty.pair Zy2 Ty.bool)))) z0 0 false)]) := by kernel_rfl
theorem l4_ag (k kp : KT) (ag4 : St → Prop) : agPL cfg 1000001 (JJ_4 k kp ag4) (LL_4 k kp ag4) [1, 1, 1, 0, 1, 0, 0] body = agPR cfg 1000001 (pick none' [(4, ag4)]) [1, 1, 1, 0, 1, 0, 0] body (topK cfg Try.f62 k kp) := by kernel_rfl
theorem l4_raw (k kp : KT) (ag4 : St → Prop) (x3 : Int) (b0 : Zq5) (b1 : LB) : YL4 k kp ag4 (mL4 x3 b0 b1) = l4 (fun b0 => X7 k kp (m7 b0)) (fun x3 b0 b1 => ag4 (mL4 x3 b0 b1)) x3 b0 b1 (fun z0 => k (.sl 0 0) [(.lst 83 (Ty.pair Ty.str (Ty.pair Ty.str (Ty.pair (Ty.list Ty.str) (Ty.pair Zy2 Ty.bool)))) z0 0 false)]) :=
  Eq.mp (by kernel_rfl) ((atP_run (l4_ag k kp ag4) (mL4 x3 b0 b1)).trans (l4_c k kp (JJ_4 k kp ag4) (LL_4 k kp ag4) ag4 x3 b0 b1))
theorem l4_eq (k kp : KT) (x3 : Int) (b0 : Zq5) (b1 : LB) : XL4 k kp (mL4 x3 b0 b1) = l4' x3 b0 b1 (fun z0 => k (.sl 0 0) [(.lst 83 (Ty.pair Ty.str (Ty.pair Ty.str (Ty.pair (Ty.list Ty.str) (Ty.pair Zy2 Ty.bool)))) z0 0 false)]) :=
  loop_eq (mk := fun (s : Int × Zq5 × LB) => mL4 s.1 s.2.1 s.2.2) (fun again s => by rw [l4_raw k kp again s.1 s.2.1 s.2.2]; simp only [j7_eq]; first | done | rfl) (x3, b0, b1)
theorem c_c (k kp : KT) (J L : Nat → St → Prop) : runC cfg 1000001 J L none'' [] body (topK cfg Try.f62 k kp) (st0 Try.f62 [] []) = c (fun x3 b0 b1 => L 4 (mL4 x3 b0 b1)) (fun z0 => k (.sl 0 0) [(.lst 83 (Ty.pair Ty.str (Ty.pair Ty.str (Ty.pair (Ty.list Ty.str) (Ty.pair Zy2 Ty.bool)))) z0 0 false)]) := by kernel_rfl
theorem c_ag (k kp : KT) : agPL cfg 1000001 (JJ k kp) (LL k kp) [] body = agPR cfg 1000001 none'' [] body (topK cfg Try.f62 k kp) := by kernel_rfl
theorem body_is : Try.f62.body = some body := by kernel_rfl
theorem c_raw (k kp : KT) : funW cfg Try.f62 [] [] k kp = c (fun x3 b0 b1 => XL4 k kp (mL4 x3 b0 b1)) (fun z0 => k (.sl 0 0) [(.lst 83 (Ty.pair Ty.str (Ty.pair Ty.str (Ty.pair (Ty.list Ty.str) (Ty.pair Zy2 Ty.bool)))) z0 0 false)]) :=
  Eq.mp (by kernel_rfl) ((funW_run (AG := none'') body_is (c_ag k kp) [] []).trans (c_c k kp (JJ k kp) (LL k kp)))
theorem f_eq (k kp : KT) : funW cfg Try.f62 [] [] k kp = f (fun z0 => k (.sl 0 0) [(.lst 83 (Ty.pair Ty.str (Ty.pair Ty.str (Ty.pair (Ty.list Ty.str) (Ty.pair Zy2 Ty.bool)))) z0 0 false)]) := by
  rw [f_def, c_raw]; simp only [l4_eq]; first | done | rfl
noncomputable def ent0 : Entry := fun args blks k _ => match args, blks with
  | [], [] => f (fun z0 => k (.sl 0 0) [(.lst 83 (Ty.pair Ty.str (Ty.pair Ty.str (Ty.pair (Ty.list Ty.str) (Ty.pair Zy2 Ty.bool)))) z0 0 false)])
  | _, _ => False
noncomputable def ent : Entry := fun args blks k kp => ent0 (convB [] args) blks k kp
theorem ok : EntOk Try.prog 0 0 62 ent := by
  refine EntOk.convB (EntOk.of (funW_ok (cfg := cfg) (tyOk_of rfl rfl tyL_ok) (eqOk_of (P := Try.prog) rfl rfl (by kernel_rfl)) mixed_ok (tab_ok ?_) Try.func62 (by rfl) (by rfl)) ?_) _
  · intro p hp
    cases hp
  · intro args blks k kp h k' kp'
    match args, blks, h with
    | [], [], h =>
    dsimp only [ent0] at h
    exact (f_eq k' kp').symm
end N62
end Go.Proofs.Yh

namespace Go.Proofs.Yh
open Go Go.Aw Go.Proofs
set_option maxRecDepth 100000
set_option maxHeartbeats 4000000
namespace N40
noncomputable def cfg : Cfg := { P := Try.prog, ty := tys, E := tab [(62, N62.ent)], atSeq := tab [(2000003, ⟨[(0, .keep), (2, .keep), (4, .keep), (13, .keep)]⟩), (4, ⟨[(0, .keep), (2, .keep), (4, .keep)]⟩)], atLoop := tab [], outs := [], eqT := tab [], bT := tab [] }
noncomputable def body : Code := bodyOf Try.f40
def j2000003 (j4 : Int → BA → BA → Int → Bool → Zq5 → Prop) (x0 : Int) (x13 : Bool) (b0_0 b0_1 : BA) (b0_3 : Int) (b0_4 : Bool) (b1 : Zq5) (k : BA → BA → Int → Bool → Bool → Prop) (k1 : BA → BA → LB → Int → Bool → Bool → Prop) : Prop :=
  (br x13 (k (ByteArray.mk #[]) (ByteArray.mk #[]) (0 : Int) false false) (j4 x0 b0_0 b0_1 b0_3 b0_4 b1))
def j4 (x0 : Int) (b0_0 b0_1 : BA) (b0_3 : Int) (b0_4 : Bool) (b1 : Zq5) (k : BA → BA → Int → Bool → Bool → Prop) (k1 : BA → BA → LB → Int → Bool → Bool → Prop) : Prop :=
  ((inB 0 (IntKind.i64.wrap (x0 - (1 : Int))) ((((b1).length : Nat) : Int) - 1)) ∧ (k1 (b1.getD (Int.toNat (IntKind.i64.wrap (x0 - (1 : Int)))) ((ByteArray.empty, (ByteArray.empty, (([] : List BA), (0, false)))))).1 (b1.getD (Int.toNat (IntKind.i64.wrap (x0 - (1 : Int)))) ((ByteArray.empty, (ByteArray.empty, (([] : List BA), (0, false)))))).2.1 (b1.getD (Int.toNat (IntKind.i64.wrap (x0 - (1 : Int)))) ((ByteArray.empty, (ByteArray.empty, (([] : List BA), (0, false)))))).2.2.1 (b1.getD (Int.toNat (IntKind.i64.wrap (x0 - (1 : Int)))) ((ByteArray.empty, (ByteArray.empty, (([] : List BA), (0, false)))))).2.2.2.1 (b1.getD (Int.toNat (IntKind.i64.wrap (x0 - (1 : Int)))) ((ByteArray.empty, (ByteArray.empty, (([] : List BA), (0, false)))))).2.2.2.2 true))
def c (j2000003 : Int → Bool → BA → BA → Int → Bool → Zq5 → Prop) (x0 : Int) (k : BA → BA → Int → Bool → Bool → Prop) (k1 : BA → BA → LB → Int → Bool → Bool → Prop) : Prop :=
  (N62.f (fun (z0_0 : Zq5) => (br (decide (x0 < (1 : Int))) (j2000003 x0 true (ByteArray.mk #[]) (ByteArray.mk #[]) (0 : Int) false z0_0) (j2000003 x0 (decide (x0 > ((((z0_0).length : Nat) : Int)))) (ByteArray.mk #[]) (ByteArray.mk #[]) (0 : Int) false z0_0))))
def j4' (x0 : Int) (b0_0 b0_1 : BA) (b0_3 : Int) (b0_4 : Bool) (b1 : Zq5) (k : BA → BA → Int → Bool → Bool → Prop) (k1 : BA → BA → LB → Int → Bool → Bool → Prop) : Prop := j4 x0 b0_0 b0_1 b0_3 b0_4 b1 k k1
def j2000003' (x0 : Int) (x13 : Bool) (b0_0 b0_1 : BA) (b0_3 : Int) (b0_4 : Bool) (b1 : Zq5) (k : BA → BA → Int → Bool → Bool → Prop) (k1 : BA → BA → LB → Int → Bool → Bool → Prop) : Prop := j2000003 (fun x0 b0_0 b0_1 b0_3 b0_4 b1 => j4' x0 b0_0 b0_1 b0_3 b0_4 b1 k k1) x0 x13 b0_0 b0_1 b0_3 b0_4 b1 k k1
def f0 (x0 : Int) (k : BA → BA → Int → Bool → Bool → Prop) (k1 : BA → BA → LB → Int → Bool → Bool → Prop) : Prop := c (fun x0 x13 b0_0 b0_1 b0_3 b0_4 b1 => j2000003' x0 x13 b0_0 b0_1 b0_3 b0_4 b1 k k1) x0 k k1
theorem f_ex : ∃ g, g = f0 := ⟨_, rfl⟩
noncomputable def f := Classical.choose f_ex
theorem f_def : f = f0 := Classical.choose_spec f_ex
def m2000003 (x0 : Int) (x13 : Bool) (b0_0 b0_1 : BA) (b0_3 : Int) (b0_4 : Bool) (b1 : Zq5) : St := { tmps := mkT 20 0 [(0, (.v (.int .i64 x0))), (2, (.ptr 0 0)), (4, (.sl 1 0)), (13, (.v (.bool x13)))], hp := [(.box 83 [(.v (.string b0_0)), (.v (.string b0_1)), (.v (Value.slice none 0 0)), (.v (.int .i64 b0_3)), (.v (.bool b0_4))]), (.lst 83 (Ty.pair Ty.str (Ty.pair Ty.str (Ty.pair (Ty.list Ty.str) (Ty.pair Zy2 Ty.bool)))) b1 0 false)], m := 0 }
def m4 (x0 : Int) (b0_0 b0_1 : BA) (b0_3 : Int) (b0_4 : Bool) (b1 : Zq5) : St := { tmps := mkT 20 0 [(0, (.v (.int .i64 x0))), (2, (.ptr 0 0)), (4, (.sl 1 0))], hp := [(.box 83 [(.v (.string b0_0)), (.v (.string b0_1)), (.v (Value.slice none 0 0)), (.v (.int .i64 b0_3)), (.v (.bool b0_4))]), (.lst 83 (Ty.pair Ty.str (Ty.pair Ty.str (Ty.pair (Ty.list Ty.str) (Ty.pair Zy2 Ty.bool)))) b1 0 false)], m := 0 }
noncomputable def X2000003 (k kp : KT) : St → Prop := atP cfg (pick none' []) [1, 1, 0, 1] body (topK cfg Try.f40 k kp)
noncomputable def X4 (k kp : KT) : St → Prop := atP cfg (pick none' []) [1, 1, 1] body (topK cfg Try.f40 k kp)
noncomputable def JJ (k kp : KT) : Nat → St → Prop := pick none' [(2000003, X2000003 k kp), (4, X4 k kp)]
noncomputable def LL (k kp : KT) : Nat → St → Prop := pick none' []
theorem j4_c (k kp : KT) (J L : Nat → St → Prop) (x0 : Int) (b0_0 b0_1 : BA) (b0_3 : Int) (b0_4 : Bool) (b1 : Zq5) : runC cfg 4 J L (pick none' []) [1, 1, 1] body (topK cfg Try.f40 k kp) (m4 x0 b0_0 b0_1 b0_3 b0_4 b1) = j4 x0 b0_0 b0_1 b0_3 b0_4 b1 (fun y0_0 y0_1 y0_3 y0_4 y1 => k (.tup [(.agg [(.v (.string y0_0)), (.v (.string y0_1)), (.v (Value.slice none 0 0)), (.v (.int .i64 y0_3)), (.v (.bool y0_4))]), (.v (.bool y1))]) []) (fun y0_0 y0_1 y0_2 y0_3 y0_4 y1 => k (.tup [(.agg [(.v (.string y0_0)), (.v (.string y0_1)), (.fz Ty.str y0_2), (.v (.int .i64 y0_3)), (.v (.bool y0_4))]), (.v (.bool y1))]) []) := by kernel_rfl
theorem j4_ag (k kp : KT) : agPL cfg 4 (JJ k kp) (LL k kp) [1, 1, 1] body = agPR cfg 4 (pick none' []) [1, 1, 1] body (topK cfg Try.f40 k kp) := by kernel_rfl
theorem j4_raw (k kp : KT) (x0 : Int) (b0_0 b0_1 : BA) (b0_3 : Int) (b0_4 : Bool) (b1 : Zq5) : X4 k kp (m4 x0 b0_0 b0_1 b0_3 b0_4 b1) = j4 x0 b0_0 b0_1 b0_3 b0_4 b1 (fun y0_0 y0_1 y0_3 y0_4 y1 => k (.tup [(.agg [(.v (.string y0_0)), (.v (.string y0_1)), (.v (Value.slice none 0 0)), (.v (.int .i64 y0_3)), (.v (.bool y0_4))]), (.v (.bool y1))]) []) (fun y0_0 y0_1 y0_2 y0_3 y0_4 y1 => k (.tup [(.agg [(.v (.string y0_0)), (.v (.string y0_1)), (.fz Ty.str y0_2), (.v (.int .i64 y0_3)), (.v (.bool y0_4))]), (.v (.bool y1))]) []) :=
  Eq.mp (by kernel_rfl) ((atP_run (j4_ag k kp) (m4 x0 b0_0 b0_1 b0_3 b0_4 b1)).trans (j4_c k kp (JJ k kp) (LL k kp) x0 b0_0 b0_1 b0_3 b0_4 b1))
theorem j4_eq (k kp : KT) (x0 : Int) (b0_0 b0_1 : BA) (b0_3 : Int) (b0_4 : Bool) (b1 : Zq5) : X4 k kp (m4 x0 b0_0 b0_1 b0_3 b0_4 b1) = j4' x0 b0_0 b0_1 b0_3 b0_4 b1 (fun y0_0 y0_1 y0_3 y0_4 y1 => k (.tup [(.agg [(.v (.string y0_0)), (.v (.string y0_1)), (.v (Value.slice none 0 0)), (.v (.int .i64 y0_3)), (.v (.bool y0_4))]), (.v (.bool y1))]) []) (fun y0_0 y0_1 y0_2 y0_3 y0_4 y1 => k (.tup [(.agg [(.v (.string y0_0)), (.v (.string y0_1)), (.fz Ty.str y0_2), (.v (.int .i64 y0_3)), (.v (.bool y0_4))]), (.v (.bool y1))]) []) := by
  rw [j4_raw]; rfl
theorem j2000003_c (k kp : KT) (J L : Nat → St → Prop) (x0 : Int) (x13 : Bool) (b0_0 b0_1 : BA) (b0_3 : Int) (b0_4 : Bool) (b1 : Zq5) : runC cfg 2000003 J L (pick none' []) [1, 1, 0, 1] body (topK cfg Try.f40 k kp) (m2000003 x0 x13 b0_0 b0_1 b0_3 b0_4 b1) = j2000003 (fun x0 b0_0 b0_1 b0_3 b0_4 b1 => J 4 (m4 x0 b0_0 b0_1 b0_3 b0_4 b1)) x0 x13 b0_0 b0_1 b0_3 b0_4 b1 (fun y0_0 y0_1 y0_3 y0_4 y1 => k (.tup [(.agg [(.v (.string y0_0)), (.v (.string y0_1)), (.v (Value.slice none 0 0)), (.v (.int .i64 y0_3)), (.v (.bool y0_4))]), (.v (.bool y1))]) []) (fun y0_0 y0_1 y0_2 y0_3 y0_4 y1 => k (.tup [(.agg [(.v (.string y0_0)), (.v (.string y0_1)), (.fz Ty.str y0_2), (.v (.int .i64 y0_3)), (.v (.bool y0_4))]), (.v (.bool y1))]) []) := by kernel_rfl
theorem j2000003_ag (k kp : KT) : agPL cfg 2000003 (JJ k kp) (LL k kp) [1, 1, 0, 1] body = agPR cfg 2000003 (pick none' []) [1, 1, 0, 1] body (topK cfg Try.f40 k kp) := by kernel_rfl
theorem j2000003_raw (k kp : KT) (x0 : Int) (x13 : Bool) (b0_0 b0_1 : BA) (b0_3 : Int) (b0_4 : Bool) (b1 : Zq5) : X2000003 k kp (m2000003 x0 x13 b0_0 b0_1 b0_3 b0_4 b1) = j2000003 (fun x0 b0_0 b0_1 b0_3 b0_4 b1 => X4 k kp (m4 x0 b0_0 b0_1 b0_3 b0_4 b1)) x0 x13 b0_0 b0_1 b0_3 b0_4 b1 (fun y0_0 y0_1 y0_3 y0_4 y1 => k (.tup [(.agg [(.v (.string y0_0)), (.v (.string y0_1)), (.v (Value.slice none 0 0)), (.v (.int .i64 y0_3)), (.v (.bool y0_4))]), (.v (.bool y1))]) []) (fun y0_0 y0_1 y0_2 y0_3 y0_4 y1 => k (.tup [(.agg [(.v (.string y0_0)), (.v (.string y0_1)), (.fz Ty.str y0_2), (.v (.int .i64 y0_3)), (.v (.bool y0_4))]), (.v (.bool y1))]) []) :=
  Eq.mp (by kernel_rfl) ((atP_run (j2000003_ag k kp) (m2000003 x0 x13 b0_0 b0_1 b0_3 b0_4 b1)).trans (j2000003_c k kp (JJ k kp) (LL k kp) x0 x13 b0_0 b0_1 b0_3 b0_4 b1))
theorem j2000003_eq (k kp : KT) (x0 : Int) (x13 : Bool) (b0_0 b0_1 : BA) (b0_3 : Int) (b0_4 : Bool) (b1 : Zq5) : X2000003 k kp (m2000003 x0 x13 b0_0 b0_1 b0_3 b0_4 b1) = j2000003' x0 x13 b0_0 b0_1 b0_3 b0_4 b1 (fun y0_0 y0_1 y0_3 y0_4 y1 => k (.tup [(.agg [(.v (.string y0_0)), (.v (.string y0_1)), (.v (Value.slice none 0 0)), (.v (.int .i64 y0_3)), (.v (.bool y0_4))]), (.v (.bool y1))]) []) (fun y0_0 y0_1 y0_2 y0_3 y0_4 y1 => k (.tup [(.agg [(.v (.string y0_0)), (.v (.string y0_1)), (.fz Ty.str y0_2), (.v (.int .i64 y0_3)), (.v (.bool y0_4))]), (.v (.bool y1))]) []) := by
  rw [j2000003_raw]; simp only [j4_eq]; first | done | rfl
theorem c_c (k kp : KT) (J L : Nat → St → Prop) (x0 : Int) : runC cfg 1000001 J L none'' [] body (topK cfg Try.f40 k kp) (st0 Try.f40 [(.v (.int .i64 x0))] []) = c (fun x0 x13 b0_0 b0_1 b0_3 b0_4 b1 => J 2000003 (m2000003 x0 x13 b0_0 b0_1 b0_3 b0_4 b1)) x0 (fun y0_0 y0_1 y0_3 y0_4 y1 => k (.tup [(.agg [(.v (.string y0_0)), (.v (.string y0_1)), (.v (Value.slice none 0 0)), (.v (.int .i64 y0_3)), (.v (.bool y0_4))]), (.v (.bool y1))]) []) (fun y0_0 y0_1 y0_2 y0_3 y0_4 y1 => k (.tup [(.agg [(.v (.string y0_0)), (.v (.string y0_1)), (.fz Ty.str y0_2), (.v (.int .i64 y0_3)), (.v (.bool y0_4))]), (.v (.bool y1))]) []) := by kernel_rfl
theorem c_ag (k kp : KT) : agPL cfg 1000001 (JJ k kp) (LL k kp) [] body = agPR cfg 1000001 none'' [] body (topK cfg Try.f40 k kp) := by kernel_rfl
theorem body_is : Try.f40.body = some body := by kernel_rfl
theorem c_raw (k kp : KT) (x0 : Int) : funW cfg Try.f40 [(.v (.int .i64 x0))] [] k kp = c (fun x0 x13 b0_0 b0_1 b0_3 b0_4 b1 => X2000003 k kp (m2000003 x0 x13 b0_0 b0_1 b0_3 b0_4 b1)) x0 (fun y0_0 y0_1 y0_3 y0_4 y1 => k (.tup [(.agg [(.v (.string y0_0)), (.v (.string y0_1)), (.v (Value.slice none 0 0)), (.v (.int .i64 y0_3)), (.v (.bool y0_4))]), (.v (.bool y1))]) []) (fun y0_0 y0_1 y0_2 y0_3 y0_4 y1 => k (.tup [(.agg [(.v (.string y0_0)), (.v (.string y0_1)), (.fz Ty.str y0_2), (.v (.int .i64 y0_3)), (.v (.bool y0_4))]), (.v (.bool y1))]) []) :=
  Eq.mp (by kernel_rfl) ((funW_run (AG := none'') body_is (c_ag k kp) [(.v (.int .i64 x0))] []).trans (c_c k kp (JJ k kp) (LL k kp) x0))
theorem f_eq (k kp : KT) (x0 : Int) : funW cfg Try.f40 [(.v (.int .i64 x0))] [] k kp = f x0 (fun y0_0 y0_1 y0_3 y0_4 y1 => k (.tup [(.agg [(.v (.string y0_0)), (.v (.string y0_1)), (.v (Value.slice none 0 0)), (.v (.int .i64 y0_3)), (.v (.bool y0_4))]), (.v (.bool y1))]) []) (fun y0_0 y0_1 y0_2 y0_3 y0_4 y1 => k (.tup [(.agg [(.v (.string y0_0)), (.v (.string y0_1)), (.fz Ty.str y0_2), (.v (.int .i64 y0_3)), (.v (.bool y0_4))]), (.v (.bool y1))]) []) := by
  rw [f_def, c_raw]; simp only [j2000003_eq]; first | done | rfl
noncomputable def ent0 : Entry := fun args blks k _ => match args, blks with
  | [d0], [] => aInt IntKind.i64 d0 fun x0 => f x0 (fun y0_0 y0_1 y0_3 y0_4 y1 => k (.tup [(.agg [(.v (.string y0_0)), (.v (.string y0_1)), (.v (Value.slice none 0 0)), (.v (.int .i64 y0_3)), (.v (.bool y0_4))]), (.v (.bool y1))]) []) (fun y0_0 y0_1 y0_2 y0_3 y0_4 y1 => k (.tup [(.agg [(.v (.string y0_0)), (.v (.string y0_1)), (.fz Ty.str y0_2), (.v (.int .i64 y0_3)), (.v (.bool y0_4))]), (.v (.bool y1))]) [])
  | _, _ => False
noncomputable def ent : Entry := fun args blks k kp => ent0 (convB [.no] args) blks k kp
theorem ok : EntOk Try.prog 0 0 40 ent := by
  refine EntOk.convB (EntOk.of (funW_ok (cfg := cfg) (tyOk_of rfl rfl tyL_ok) (eqOk_of (P := Try.prog) rfl rfl (by kernel_rfl)) mixed_ok (tab_ok ?_) Try.func40 (by rfl) (by rfl)) ?_) _
  · intro p hp
    simp only [List.mem_cons, List.not_mem_nil, or_false] at hp
    rcases hp with rfl
    · exact N62.ok
  · intro args blks k kp h k' kp'
    match args, blks, h with
    | [d0], [], h =>
    dsimp only [ent0] at h
    have h9 := aInt_elim h; clear h; obtain ⟨x0, rfl, h⟩ := h9
    exact (f_eq k' kp' x0).symm
end N40
end Go.Proofs.Yh

namespace Go.Proofs.Yh
open Go Go.Aw Go.Proofs
set_option maxRecDepth 100000
set_option maxHeartbeats 4000000
namespace N63
noncomputable def cfg : Cfg := { P := Try.prog, ty := tys, E := tab [], atSeq := tab [(2000011, ⟨[(0, .keep), (18, .keep)]⟩), (12, ⟨[(0, .keep)]⟩)], atLoop := tab [], outs := [], eqT := tab [], bT := tab [] }
noncomputable def body : Code := bodyOf Try.f63
def j2000011 (j12 : Int → Prop) (x0 : Int) (x18 : Bool) (k : BA → Prop) : Prop :=
  (br x18 (k (bytesOf ([x0] : List Int))) (j12 x0))
def j12 (x0 : Int) (k : BA → Prop) : Prop :=
  (((16 : Int) ≠ 0) ∧ (((16 : Int) ≠ 0) ∧ ((inB (IntKind.u8.wrap (Int.tdiv x0 (16 : Int))) (IntKind.u8.wrap ((IntKind.u8.wrap (Int.tdiv x0 (16 : Int))) + (1 : Int))) ((((ByteArray.mk #[48, 49, 50, 51, 52, 53, 54, 55, 56, 57, 97, 98, 99, 100, 101, 102])).size : Nat) : Int)) ∧ ((((ByteArray.mk #[92, 120])).size + ((ByteArray.extract (ByteArray.mk #[48, 49, 50, 51, 52, 53, 54, 55, 56, 57, 97, 98, 99, 100, 101, 102]) (Int.toNat (IntKind.u8.wrap (Int.tdiv x0 (16 : Int)))) (Int.toNat (IntKind.u8.wrap ((IntKind.u8.wrap (Int.tdiv x0 (16 : Int))) + (1 : Int)))))).size ≤ 9223372036854775807) ∧ (((16 : Int) ≠ 0) ∧ (((16 : Int) ≠ 0) ∧ ((inB (Int.tmod x0 (16 : Int)) (IntKind.u8.wrap ((Int.tmod x0 (16 : Int)) + (1 : Int))) ((((ByteArray.mk #[48, 49, 50, 51, 52, 53, 54, 55, 56, 57, 97, 98, 99, 100, 101, 102])).size : Nat) : Int)) ∧ (((((ByteArray.mk #[92, 120]) ++ (ByteArray.extract (ByteArray.mk #[48, 49, 50, 51, 52, 53, 54, 55, 56, 57, 97, 98, 99, 100, 101, 102]) (Int.toNat (IntKind.u8.wrap (Int.tdiv x0 (16 : Int)))) (Int.toNat (IntKind.u8.wrap ((IntKind.u8.wrap (Int.tdiv x0 (16 : Int))) + (1 : Int))))))).size + ((ByteArray.extract (ByteArray.mk #[48, 49, 50, 51, 52, 53, 54, 55, 56, 57, 97, 98, 99, 100, 101, 102]) (Int.toNat (Int.tmod x0 (16 : Int))) (Int.toNat (IntKind.u8.wrap ((Int.tmod x0 (16 : Int)) + (1 : Int)))))).size ≤ 9223372036854775807) ∧ (k (((ByteArray.mk #[92, 120]) ++ (ByteArray.extract (ByteArray.mk #[48, 49, 50, 51, 52, 53, 54, 55, 56, 57, 97, 98, 99, 100, 101, 102]) (Int.toNat (IntKind.u8.wrap (Int.tdiv x0 (16 : Int)))) (Int.toNat (IntKind.u8.wrap ((IntKind.u8.wrap (Int.tdiv x0 (16 : Int))) + (1 : Int)))))) ++ (ByteArray.extract (ByteArray.mk #[48, 49, 50, 51, 52, 53, 54, 55, 56, 57, 97, 98, 99, 100, 101, 102]) (Int.toNat (Int.tmod x0 (16 : Int))) (Int.toNat (IntKind.u8.wrap ((Int.tmod x0 (16 : Int)) + (1 : Int)))))))))))))))
def c (j2000011 : Int → Bool → Prop) (x0 : Int) (k : BA → Prop) : Prop :=
  (br (x0 == (10 : Int)) (k (ByteArray.mk #[92, 110])) (br (x0 == (9 : Int)) (k (ByteArray.mk #[92, 116])) (br (x0 == (34 : Int)) (k (ByteArray.mk #[92, 34])) (br (x0 == (92 : Int)) (k (ByteArray.mk #[92, 92])) (br (decide (x0 ≥ (32 : Int))) (j2000011 x0 (decide (x0 ≤ (126 : Int)))) (j2000011 x0 false))))))
def j12' (x0 : Int) (k : BA → Prop) : Prop := j12 x0 k
def j2000011' (x0 : Int) (x18 : Bool) (k : BA → Prop) : Prop := j2000011 (fun x0 => j12' x0 k) x0 x18 k
def f0 (x0 : Int) (k : BA → Prop) : Prop := c (fun x0 x18 => j2000011' x0 x18 k) x0 k
theorem f_ex : ∃ g, g = f0 := ⟨_, rfl⟩
noncomputable def f := Classical.choose f_ex
theorem f_def : f = f0 := Classical.choose_spec f_ex
def m2000011 (x0 : Int) (x18 : Bool) : St := { tmps := mkT 38 0 [(0, (.v (.int IntKind.u8 x0))), (18, (.v (.bool x18)))], hp := [], m := 0 }
def m12 (x0 : Int) : St := { tmps := mkT 38 0 [(0, (.v (.int IntKind.u8 x0)))], hp := [], m := 0 }
noncomputable def X2000011 (k kp : KT) : St → Prop := atP cfg (pick none' []) [1, 1, 0, 1] body (topK cfg Try.f63 k kp)
noncomputable def X12 (k kp : KT) : St → Prop := atP cfg (pick none' []) [1, 1, 1] body (topK cfg Try.f63 k kp)
noncomputable def JJ (k kp : KT) : Nat → St → Prop := pick none' [(2000011, X2000011 k kp), (12, X12 k kp)]
noncomputable def LL (k kp : KT) : Nat → St → Prop := pick none' []
theorem j12_c (k kp : KT) (J L : Nat → St → Prop) (x0 : Int) : runC cfg 12 J L (pick none' []) [1, 1, 1] body (topK cfg Try.f63 k kp) (m12 x0) = j12 x0 (fun y0 => k (.v (.string y0)) []) := by kernel_rfl
theorem j12_ag (k kp : KT) : agPL cfg 12 (JJ k kp) (LL k kp) [1, 1, 1] body = agPR cfg 12 (pick none' []) [1, 1, 1] body (topK cfg Try.f63 k kp) := by kernel_rfl
theorem j12_raw (k kp : KT) (x0 : Int) : X12 k kp (m12 x0) = j12 x0 (fun y0 => k (.v (.string y0)) []) :=
  Eq.mp (by kernel_rfl) ((atP_run (j12_ag k kp) (m12 x0)).trans (j12_c k kp (JJ k kp) (LL k kp) x0))
theorem j12_eq (k kp : KT) (x0 : Int) : X12 k kp (m12 x0) = j12' x0 (fun y0 => k (.v (.string y0)) []) := by
  rw [j12_raw]; rfl
theorem j2000011_c (k kp : KT) (J L : Nat → St → Prop) (x0 : Int) (x18 : Bool) : runC cfg 2000011 J L (pick none' []) [1, 1, 0, 1] body (topK cfg Try.f63 k kp) (m2000011 x0 x18) = j2000011 (fun x0 => J 12 (m12 x0)) x0 x18 (fun y0 => k (.v (.string y0)) []) := by kernel_rfl
theorem j2000011_ag (k kp : KT) : agPL cfg 2000011 (JJ k kp) (LL k kp) [1, 1, 0, 1] body = agPR cfg 2000011 (pick none' []) [1, 1, 0, 1] body (topK cfg Try.f63 k kp) := by kernel_rfl
theorem j2000011_raw (k kp : KT) (x0 : Int) (x18 : Bool) : X2000011 k kp (m2000011 x0 x18) = j2000011 (fun x0 => X12 k kp (m12 x0)) x0 x18 (fun y0 => k (.v (.string y0)) []) :=
  Eq.mp (by kernel_rfl) ((atP_run (j2000011_ag k kp) (m2000011 x0 x18)).trans (j2000011_c k kp (JJ k kp) (LL k kp) x0 x18))
theorem j2000011_eq (k kp : KT) (x0 : Int) (x18 : Bool) : X2000011 k kp (m2000011 x0 x18) = j2000011' x0 x18 (fun y0 => k (.v (.string y0)) []) := by
  rw [j2000011_raw]; simp only [j12_eq]; first | done | rfl
theorem c_c (k kp : KT) (J L : Nat → St → Prop) (x0 : Int) : runC cfg 1000001 J L none'' [] body (topK cfg Try.f63 k kp) (st0 Try.f63 [(.v (.int IntKind.u8 x0))] []) = c (fun x0 x18 => J 2000011 (m2000011 x0 x18)) x0 (fun y0 => k (.v (.string y0)) []) := by kernel_rfl
theorem c_ag (k kp : KT) : agPL cfg 1000001 (JJ k kp) (LL k kp) [] body = agPR cfg 1000001 none'' [] body (topK cfg Try.f63 k kp) := by kernel_rfl
theorem body_is : Try.f63.body = some body := by kernel_rfl
theorem c_raw (k kp : KT) (x0 : Int) : funW cfg Try.f63 [(.v (.int IntKind.u8 x0))] [] k kp = c (fun x0 x18 => X2000011 k kp (m2000011 x0 x18)) x0 (fun y0 => k (.v (.string y0)) []) :=
  Eq.mp (by kernel_rfl) ((funW_run (AG := none'') body_is (c_ag k kp) [(.v (.int IntKind.u8 x0))] []).trans (c_c k kp (JJ k kp) (LL k kp) x0))
theorem f_eq (k kp : KT) (x0 : Int) : funW cfg Try.f63 [(.v (.int IntKind.u8 x0))] [] k kp = f x0 (fun y0 => k (.v (.string y0)) []) := by
  rw [f_def, c_raw]; simp only [j2000011_eq]; first | done | rfl
noncomputable def ent0 : Entry := fun args blks k _ => match args, blks with
  | [d0], [] => aInt IntKind.u8 d0 fun x0 => f x0 (fun y0 => k (.v (.string y0)) [])
  | _, _ => False
noncomputable def ent : Entry := fun args blks k kp => ent0 (convB [.no] args) blks k kp
theorem ok : EntOk Try.prog 0 0 63 ent := by
  refine EntOk.convB (EntOk.of (funW_ok (cfg := cfg) (tyOk_of rfl rfl tyL_ok) (eqOk_of (P := Try.prog) rfl rfl (by kernel_rfl)) mixed_ok (tab_ok ?_) Try.func63 (by rfl) (by rfl)) ?_) _
  · intro p hp
    cases hp
  · intro args blks k kp h k' kp'
    match args, blks, h with
    | [d0], [], h =>
    dsimp only [ent0] at h
    have h9 := aInt_elim h; clear h; obtain ⟨x0, rfl, h⟩ := h9
    exact (f_eq k' kp' x0).symm
end N63
end Go.Proofs.Yh

namespace Go.Proofs.Yh
open Go Go.Aw Go.Proofs
set_option maxRecDepth 100000
set_option maxHeartbeats 4000000
namespace N41
noncomputable def cfg : Cfg := { P := Try.prog, ty := tys, E := tab [(63, N63.ent)], atSeq := tab [(6, ⟨[(3, .keep)]⟩)], atLoop := tab [(3, ⟨[(0, .keep), (3, .keep), (4, .keep)]⟩)], outs := [], eqT := tab [], bT := tab [] }
noncomputable def body : Code := bodyOf Try.f41
def l3 (j6 : BA → Prop) (ag3 : BA → Int → Prop) (x0 x3 : BA) (x4 : Int) (k : BA → Prop) : Prop :=
  (br (decide (x4 < ((((x0).size : Nat) : Int)))) ((inB 0 x4 ((((x0).size : Nat) : Int) - 1)) ∧ (N63.f (byteAt x0 x4) (fun (y0_0 : BA) => (((x3).size + (y0_0).size ≤ 9223372036854775807) ∧ (ag3 (x3 ++ y0_0) (IntKind.i64.wrap (x4 + (1 : Int)))))))) (j6 x3))
def j6 (x3 : BA) (k : BA → Prop) : Prop :=
  (((x3).size + ((ByteArray.mk #[34])).size ≤ 9223372036854775807) ∧ (k (x3 ++ (ByteArray.mk #[34]))))
def c (l3 : BA → BA → Int → Prop) (x0 : BA) (k : BA → Prop) : Prop :=
  (l3 x0 (ByteArray.mk #[34]) (0 : Int))
def j6' (x3 : BA) (k : BA → Prop) : Prop := j6 x3 k
def l3' (x0 x3 : BA) (x4 : Int) (k : BA → Prop) : Prop := ∃ n, loopS (fun (ag : (BA × Int) → Prop) (s : BA × Int) => l3 (fun x3 => j6' x3 k) (fun x3 x4 => ag (x3, x4)) x0 s.1 s.2 k) n (x3, x4)
def f0 (x0 : BA) (k : BA → Prop) : Prop := c (fun x0 x3 x4 => l3' x0 x3 x4 k) x0 k
theorem f_ex : ∃ g, g = f0 := ⟨_, rfl⟩
noncomputable def f := Classical.choose f_ex
theorem f_def : f = f0 := Classical.choose_spec f_ex
def mL3 (x0 x3 : BA) (x4 : Int) : St := { tmps := mkT 19 0 [(0, (.v (.string x0))), (3, (.v (.string x3))), (4, (.v (.int .i64 x4)))], hp := [], m := 0 }
def m6 (x3 : BA) : St := { tmps := mkT 19 0 [(3, (.v (.string x3)))], hp := [], m := 0 }
noncomputable def YL3 (k kp : KT) : (St → Prop) → St → Prop := loopB cfg (sub [1, 1, 0, 1, 0, 0] body) (contK cfg (pick none' []) [1, 1, 0, 1, 0] body (topK cfg Try.f41 k kp))
noncomputable def XL3 (k kp : KT) : St → Prop := fun st => ∃ n, loopN (YL3 k kp) n st
noncomputable def X6 (k kp : KT) : St → Prop := atP cfg (pick none' []) [1, 1, 1] body (topK cfg Try.f41 k kp)
noncomputable def JJ_3 (k kp : KT) (ag3 : St → Prop) : Nat → St → Prop := pick none' [(6, X6 k kp)]
noncomputable def LL_3 (k kp : KT) (ag3 : St → Prop) : Nat → St → Prop := pick none' [(3, XL3 k kp)]
noncomputable def JJ (k kp : KT) : Nat → St → Prop := pick none' [(6, X6 k kp)]
noncomputable def LL (k kp : KT) : Nat → St → Prop := pick none' [(3, XL3 k kp)]
theorem j6_c (k kp : KT) (J L : Nat → St → Prop) (x3 : BA) : runC cfg 6 J L (pick none' []) [1, 1, 1] body (topK cfg Try.f41 k kp) (m6 x3) = j6 x3 (fun y0 => k (.v (.string y0)) []) := by kernel_rfl
theorem j6_ag (k kp : KT) : agPL cfg 6 (JJ k kp) (LL k kp) [1, 1, 1] body = agPR cfg 6 (pick none' []) [1, 1, 1] body (topK cfg Try.f41 k kp) := by kernel_rfl
theorem j6_raw (k kp : KT) (x3 : BA) : X6 k kp (m6 x3) = j6 x3 (fun y0 => k (.v (.string y0)) []) :=
  Eq.mp (by kernel_rfl) ((atP_run (j6_ag k kp) (m6 x3)).trans (j6_c k kp (JJ k kp) (LL k kp) x3))
theorem j6_eq (k kp : KT) (x3 : BA) : X6 k kp (m6 x3) = j6' x3 (fun y0 => k (.v (.string y0)) []) := by
  rw [j6_raw]; rfl
theorem l3_c (k kp : KT) (J L : Nat → St → Prop) (ag3 : St → Prop) (x0 x3 : BA) (x4 : Int) : runC cfg 1000001 J L (pick none' [(3, ag3)]) [1, 1, 0, 1, 0, 0] body (topK cfg Try.f41 k kp) (mL3 x0 x3 x4) = l3 (fun x3 => J 6 (m6 x3)) (fun x3 x4 => ag3 (mL3 x0 x3 x4)) x0 x3 x4 (fun y0 => k (.v (.string y0)) []) := by kernel_rfl
theorem l3_ag (k kp : KT) (ag3 : St → Prop) : agPL cfg 1000001 (JJ_3 k kp ag3) (LL_3 k kp ag3) [1, 1, 0, 1, 0, 0] body = agPR cfg 1000001 (pick none' [(3, ag3)]) [1, 1, 0, 1, 0, 0] body (topK cfg Try.f41 k kp) := by kernel_rfl
theorem l3_raw (k kp : KT) (ag3 : St → Prop) (x0 x3 : BA) (x4 : Int) : YL3 k kp ag3 (mL3 x0 x3 x4) = l3 (fun x3 => X6 k kp (m6 x3)) (fun x3 x4 => ag3 (mL3 x0 x3 x4)) x0 x3 x4 (fun y0 => k (.v (.string y0)) []) :=
  Eq.mp (by kernel_rfl) ((atP_run (l3_ag k kp ag3) (mL3 x0 x3 x4)).trans (l3_c k kp (JJ_3 k kp ag3) (LL_3 k kp ag3) ag3 x0 x3 x4))
theorem l3_eq (k kp : KT) (x0 x3 : BA) (x4 : Int) : XL3 k kp (mL3 x0 x3 x4) = l3' x0 x3 x4 (fun y0 => k (.v (.string y0)) []) :=
  loop_eq (mk := fun (s : BA × Int) => mL3 x0 s.1 s.2) (fun again s => by rw [l3_raw k kp again x0 s.1 s.2]; simp only [j6_eq]; first | done | rfl) (x3, x4)
theorem c_c (k kp : KT) (J L : Nat → St → Prop) (x0 : BA) : runC cfg 1000001 J L none'' [] body (topK cfg Try.f41 k kp) (st0 Try.f41 [(.v (.string x0))] []) = c (fun x0 x3 x4 => L 3 (mL3 x0 x3 x4)) x0 (fun y0 => k (.v (.string y0)) []) := by kernel_rfl
theorem c_ag (k kp : KT) : agPL cfg 1000001 (JJ k kp) (LL k kp) [] body = agPR cfg 1000001 none'' [] body (topK cfg Try.f41 k kp) := by kernel_rfl
theorem body_is : Try.f41.body = some body := by kernel_rfl
theorem c_raw (k kp : KT) (x0 : BA) : funW cfg Try.f41 [(.v (.string x0))] [] k kp = c (fun x0 x3 x4 => XL3 k kp (mL3 x0 x3 x4)) x0 (fun y0 => k (.v (.string y0)) []) :=
  Eq.mp (by kernel_rfl) ((funW_run (AG := none'') body_is (c_ag k kp) [(.v (.string x0))] []).trans (c_c k kp (JJ k kp) (LL k kp) x0))
theorem f_eq (k kp : KT) (x0 : BA) : funW cfg Try.f41 [(.v (.string x0))] [] k kp = f x0 (fun y0 => k (.v (.string y0)) []) := by
  rw [f_def, c_raw]; simp only [l3_eq]; first | done | rfl
noncomputable def ent0 : Entry := fun args blks k _ => match args, blks with
  | [d0], [] => aStr d0 fun x0 => f x0 (fun y0 => k (.v (.string y0)) [])
  | _, _ => False
noncomputable def ent : Entry := fun args blks k kp => ent0 (convB [.no] args) blks k kp
theorem ok : EntOk Try.prog 0 0 41 ent := by
  refine EntOk.convB (EntOk.of (funW_ok (cfg := cfg) (tyOk_of rfl rfl tyL_ok) (eqOk_of (P := Try.prog) rfl rfl (by kernel_rfl)) mixed_ok (tab_ok ?_) Try.func41 (by rfl) (by rfl)) ?_) _
  · intro p hp
    simp only [List.mem_cons, List.not_mem_nil, or_false] at hp
    rcases hp with rfl
    · exact N63.ok
  · intro args blks k kp h k' kp'
    match args, blks, h with
    | [d0], [], h =>
    dsimp only [ent0] at h
    have h9 := aStr_elim h; clear h; obtain ⟨x0, rfl, h⟩ := h9
    exact (f_eq k' kp' x0).symm
end N41
end Go.Proofs.Yh

namespace Go.Proofs.Yh
open Go Go.Aw Go.Proofs
set_option maxRecDepth 100000
set_option maxHeartbeats 4000000
namespace N42
noncomputable def cfg : Cfg := { P := Try.prog, ty := tys, E := tab [], atSeq := tab [], atLoop := tab [], outs := [], eqT := tab [], bT := tab [] }
noncomputable def body : Code := bodyOf Try.f42
def c (x0 : LB) (x1 : Int) (k : BA → Prop) : Prop :=
  (br (decide (x1 < ((((x0).length : Nat) : Int)))) ((inB 0 x1 ((((x0).length : Nat) : Int) - 1)) ∧ (k (x0.getD (Int.toNat x1) (ByteArray.empty)))) (k (ByteArray.mk #[])))
def f0 (x0 : LB) (x1 : Int) (k : BA → Prop) : Prop := c x0 x1 k
theorem f_ex : ∃ g, g = f0 := ⟨_, rfl⟩
noncomputable def f := Classical.choose f_ex
theorem f_def : f = f0 := Classical.choose_spec f_ex
noncomputable def JJ (k kp : KT) : Nat → St → Prop := pick none' []
noncomputable def LL (k kp : KT) : Nat → St → Prop := pick none' []
theorem c_c (k kp : KT) (J L : Nat → St → Prop) (x0 : LB) (x1 : Int) : runC cfg 1000001 J L none'' [] body (topK cfg Try.f42 k kp) (st0 Try.f42 [(.fz Ty.str x0), (.v (.int .i64 x1))] []) = c x0 x1 (fun y0 => k (.v (.string y0)) []) := by kernel_rfl
theorem c_ag (k kp : KT) : agPL cfg 1000001 (JJ k kp) (LL k kp) [] body = agPR cfg 1000001 none'' [] body (topK cfg Try.f42 k kp) := by kernel_rfl
theorem body_is : Try.f42.body = some body := by kernel_rfl
theorem c_raw (k kp : KT) (x0 : LB) (x1 : Int) : funW cfg Try.f42 [(.fz Ty.str x0), (.v (.int .i64 x1))] [] k kp = c x0 x1 (fun y0 => k (.v (.string y0)) []) :=
  Eq.mp (by kernel_rfl) ((funW_run (AG := none'') body_is (c_ag k kp) [(.fz Ty.str x0), (.v (.int .i64 x1))] []).trans (c_c k kp (JJ k kp) (LL k kp) x0 x1))
theorem f_eq (k kp : KT) (x0 : LB) (x1 : Int) : funW cfg Try.f42 [(.fz Ty.str x0), (.v (.int .i64 x1))] [] k kp = f x0 x1 (fun y0 => k (.v (.string y0)) []) := by
  rw [f_def, c_raw]; rfl
noncomputable def ent0 : Entry := fun args blks k _ => match args, blks with
  | [d0, d1], [] => aFz Ty.str d0 fun x0 => aInt IntKind.i64 d1 fun x1 => f x0 x1 (fun y0 => k (.v (.string y0)) [])
  | _, _ => False
noncomputable def ent : Entry := fun args blks k kp => ent0 (convB [.one Ty.str, .no] args) blks k kp
theorem ok : EntOk Try.prog 0 0 42 ent := by
  refine EntOk.convB (EntOk.of (funW_ok (cfg := cfg) (tyOk_of rfl rfl tyL_ok) (eqOk_of (P := Try.prog) rfl rfl (by kernel_rfl)) mixed_ok (tab_ok ?_) Try.func42 (by rfl) (by rfl)) ?_) _
  · intro p hp
    cases hp
  · intro args blks k kp h k' kp'
    match args, blks, h with
    | [d0, d1], [], h =>
    dsimp only [ent0] at h
    have h9 := aFz_elim (t := Ty.str) h; clear h; obtain ⟨x0, rfl, h⟩ := h9
    have h9 := aInt_elim h; clear h; obtain ⟨x1, rfl, h⟩ := h9
    exact (f_eq k' kp' x0 x1).symm
end N42
end Go.Proofs.Yh

namespace Go.Proofs.Yh
open Go Go.Aw Go.Proofs
set_option maxRecDepth 100000
set_option maxHeartbeats 4000000
namespace N13
noncomputable def cfg : Cfg := { P := Try.prog, ty := tys, E := tab [(15, N15.ent), (40, N40.ent), (33, N33.ent), (41, N41.ent), (32, N32.ent), (34, N34.ent), (42, N42.ent)], atSeq := tab [(4, ⟨[(1, .keep), (3, .keep)]⟩), (7, ⟨[(1, .keep), (3, .keep), (4, .cells [(2, none, Ty.str)])]⟩), (2000012, ⟨[(1, .keep), (3, .keep), (6, .keep), (64, .keep)]⟩), (13, ⟨[(1, .keep), (3, .keep), (6, .keep)]⟩), (2000014, ⟨[(1, .keep), (3, .keep), (6, .keep), (88, .keep)]⟩), (15, ⟨[(1, .keep), (3, .keep), (6, .keep)]⟩), (17, ⟨[(1, .keep), (3, .keep)]⟩), (24, ⟨[(1, .keep), (3, .keep), (7, .ownS 9 Ty.str)]⟩)], atLoop := tab [(21, ⟨[(1, .keep), (3, .keep), (7, .ownS 9 Ty.str), (8, .keep)]⟩)], outs := [], eqT := tab [], bT := tab [], fzB := [1] }
noncomputable def body : Code := bodyOf Try.f13
def j4 (j7 : Int → Int → Int → Int → Int → Zq6 → BA → Int → LB → LI → BA → BA → BA → LB → Int → Bool → Prop) (x1_0 x1_1 : Int) (x1_2 x1_3 x1_4 : Int) (x1_5 : Zq6) (x1_6 : BA) (x1_7 : Int) (x1_8 : LB) (x1_9 : LI) (x3 : BA) (k : BA → Prop) : Prop :=
  (N40.f x1_0 (fun (y0_0_1 y0_1_1 : BA) (y0_3_1 : Int) (y0_4_1 : Bool) (y1_1 : Bool) => (br (!y1_1) (j7 x1_0 x1_1 x1_2 x1_3 x1_4 x1_5 x1_6 x1_7 x1_8 x1_9 x3 (ByteArray.mk #[63]) y0_1_1 ([] : List BA) y0_3_1 y0_4_1) (j7 x1_0 x1_1 x1_2 x1_3 x1_4 x1_5 x1_6 x1_7 x1_8 x1_9 x3 y0_0_1 y0_1_1 ([] : List BA) y0_3_1 y0_4_1))) (fun (y0_0_2 y0_1_2 : BA) (y0_2_2 : LB) (y0_3_2 : Int) (y0_4_2 : Bool) (y1_2 : Bool) => (br (!y1_2) (j7 x1_0 x1_1 x1_2 x1_3 x1_4 x1_5 x1_6 x1_7 x1_8 x1_9 x3 (ByteArray.mk #[63]) y0_1_2 y0_2_2 y0_3_2 y0_4_2) (j7 x1_0 x1_1 x1_2 x1_3 x1_4 x1_5 x1_6 x1_7 x1_8 x1_9 x3 y0_0_2 y0_1_2 y0_2_2 y0_3_2 y0_4_2))))
def j7 (j2000012 : Int → Int → Int → Int → Int → Zq6 → BA → Int → LB → LI → BA → Bool → LB → Prop) (x1_0 x1_1 : Int) (x1_2 x1_3 x1_4 : Int) (x1_5 : Zq6) (x1_6 : BA) (x1_7 : Int) (x1_8 : LB) (x1_9 : LI) (x3 b0_0 b0_1 : BA) (b0_2 : LB) (b0_3 : Int) (b0_4 : Bool) (k : BA → Prop) : Prop :=
  (((x3).size + (b0_0).size ≤ 9223372036854775807) ∧ (N33.f x1_5 (fun (z0_3 : LB) => (br (x1_0 == (19 : Int)) ((((x3 ++ b0_0)).size + ((ByteArray.mk #[32])).size ≤ 9223372036854775807) ∧ (N41.f x1_6 (fun (y0_4 : BA) => (((((x3 ++ b0_0) ++ (ByteArray.mk #[32]))).size + (y0_4).size ≤ 9223372036854775807) ∧ ((((((x3 ++ b0_0) ++ (ByteArray.mk #[32])) ++ y0_4)).size + ((ByteArray.mk #[40])).size ≤ 9223372036854775807) ∧ (N32.f z0_3 (fun (y0_5 : BA) => (((((((x3 ++ b0_0) ++ (ByteArray.mk #[32])) ++ y0_4) ++ (ByteArray.mk #[40]))).size + (y0_5).size ≤ 9223372036854775807) ∧ ((((((((x3 ++ b0_0) ++ (ByteArray.mk #[32])) ++ y0_4) ++ (ByteArray.mk #[40])) ++ y0_5)).size + ((ByteArray.mk #[41])).size ≤ 9223372036854775807) ∧ (k ((((((x3 ++ b0_0) ++ (ByteArray.mk #[32])) ++ y0_4) ++ (ByteArray.mk #[40])) ++ y0_5) ++ (ByteArray.mk #[41])))))))))))) (br (x1_0 == (17 : Int)) (br (decide (((((z0_3).length : Nat) : Int)) > (0 : Int))) (j2000012 x1_0 x1_1 x1_2 x1_3 x1_4 x1_5 x1_6 x1_7 x1_8 x1_9 (x3 ++ b0_0) (x1_7 != (0 : Int)) z0_3) (j2000012 x1_0 x1_1 x1_2 x1_3 x1_4 x1_5 x1_6 x1_7 x1_8 x1_9 (x3 ++ b0_0) false z0_3)) (br (x1_0 == (18 : Int)) (br (decide (((((z0_3).length : Nat) : Int)) > (0 : Int))) (j2000012 x1_0 x1_1 x1_2 x1_3 x1_4 x1_5 x1_6 x1_7 x1_8 x1_9 (x3 ++ b0_0) (x1_7 != (0 : Int)) z0_3) (j2000012 x1_0 x1_1 x1_2 x1_3 x1_4 x1_5 x1_6 x1_7 x1_8 x1_9 (x3 ++ b0_0) false z0_3)) (j2000012 x1_0 x1_1 x1_2 x1_3 x1_4 x1_5 x1_6 x1_7 x1_8 x1_9 (x3 ++ b0_0) false z0_3)))))))
def j2000012 (j13 : Int → Int → Int → Int → Int → Zq6 → BA → Int → LB → LI → BA → LB → Prop) (x1_0 x1_1 : Int) (x1_2 x1_3 x1_4 : Int) (x1_5 : Zq6) (x1_6 : BA) (x1_7 : Int) (x1_8 : LB) (x1_9 : LI) (x3 : BA) (x64 : Bool) (b0 : LB) (k : BA → Prop) : Prop :=
  (br x64 ((inB 0 (IntKind.i64.wrap (((((b0).length : Nat) : Int)) - (1 : Int))) ((((b0).length : Nat) : Int) - 1)) ∧ ((((b0.getD (Int.toNat (IntKind.i64.wrap (((((b0).length : Nat) : Int)) - (1 : Int)))) (ByteArray.empty))).size + ((ByteArray.mk #[32, 43, 32])).size ≤ 9223372036854775807) ∧ (N34.f x1_7 (fun (y0_6 : BA) => (((((b0.getD (Int.toNat (IntKind.i64.wrap (((((b0).length : Nat) : Int)) - (1 : Int)))) (ByteArray.empty)) ++ (ByteArray.mk #[32, 43, 32]))).size + (y0_6).size ≤ 9223372036854775807) ∧ ((inB 0 (IntKind.i64.wrap (((((b0).length : Nat) : Int)) - (1 : Int))) ((((b0).length : Nat) : Int) - 1)) ∧ (j13 x1_0 x1_1 x1_2 x1_3 x1_4 x1_5 x1_6 x1_7 x1_8 x1_9 x3 (b0.set (Int.toNat (IntKind.i64.wrap (((((b0).length : Nat) : Int)) - (1 : Int)))) (((b0.getD (Int.toNat (IntKind.i64.wrap (((((b0).length : Nat) : Int)) - (1 : Int)))) (ByteArray.empty)) ++ (ByteArray.mk #[32, 43, 32])) ++ y0_6))))))))) (j13 x1_0 x1_1 x1_2 x1_3 x1_4 x1_5 x1_6 x1_7 x1_8 x1_9 x3 b0))
def j13 (j2000014 : Int → Int → Int → Int → Int → Zq6 → BA → Int → LB → LI → BA → Bool → LB → Prop) (x1_0 x1_1 : Int) (x1_2 x1_3 x1_4 : Int) (x1_5 : Zq6) (x1_6 : BA) (x1_7 : Int) (x1_8 : LB) (x1_9 : LI) (x3 : BA) (b0 : LB) (k : BA → Prop) : Prop :=
  (br (x1_0 == (20 : Int)) (j2000014 x1_0 x1_1 x1_2 x1_3 x1_4 x1_5 x1_6 x1_7 x1_8 x1_9 x3 true b0) (j2000014 x1_0 x1_1 x1_2 x1_3 x1_4 x1_5 x1_6 x1_7 x1_8 x1_9 x3 (x1_0 == (21 : Int)) b0))
def j2000014 (j15 : Int → Int → Int → Int → Int → Zq6 → BA → Int → LB → LI → BA → LB → Prop) (x1_0 x1_1 : Int) (x1_2 x1_3 x1_4 : Int) (x1_5 : Zq6) (x1_6 : BA) (x1_7 : Int) (x1_8 : LB) (x1_9 : LI) (x3 : BA) (x88 : Bool) (b0 : LB) (k : BA → Prop) : Prop :=
  (br x88 ((room ((b0).length + (x1_8).length) 16) ∧ (j15 x1_0 x1_1 x1_2 x1_3 x1_4 x1_5 x1_6 x1_7 x1_8 x1_9 x3 (b0 ++ x1_8))) (j15 x1_0 x1_1 x1_2 x1_3 x1_4 x1_5 x1_6 x1_7 x1_8 x1_9 x3 b0))
def j15 (j17 : Int → Int → Int → Int → Int → Zq6 → BA → Int → LB → LI → BA → Prop) (x1_0 x1_1 : Int) (x1_2 x1_3 x1_4 : Int) (x1_5 : Zq6) (x1_6 : BA) (x1_7 : Int) (x1_8 : LB) (x1_9 : LI) (x3 : BA) (b0 : LB) (k : BA → Prop) : Prop :=
  (br (decide (((((b0).length : Nat) : Int)) > (0 : Int))) (((x3).size + ((ByteArray.mk #[32])).size ≤ 9223372036854775807) ∧ (N32.f b0 (fun (y0_7 : BA) => ((((x3 ++ (ByteArray.mk #[32]))).size + (y0_7).size ≤ 9223372036854775807) ∧ (j17 x1_0 x1_1 x1_2 x1_3 x1_4 x1_5 x1_6 x1_7 x1_8 x1_9 ((x3 ++ (ByteArray.mk #[32])) ++ y0_7)))))) (j17 x1_0 x1_1 x1_2 x1_3 x1_4 x1_5 x1_6 x1_7 x1_8 x1_9 x3))
def j17 (l21 : Int → Int → Int → Int → Int → Zq6 → BA → Int → LB → LI → BA → Int → LB → Prop) (x1_0 x1_1 : Int) (x1_2 x1_3 x1_4 : Int) (x1_5 : Zq6) (x1_6 : BA) (x1_7 : Int) (x1_8 : LB) (x1_9 : LI) (x3 : BA) (k : BA → Prop) : Prop :=
  (br (x1_0 != (22 : Int)) (k x3) (l21 x1_0 x1_1 x1_2 x1_3 x1_4 x1_5 x1_6 x1_7 x1_8 x1_9 x3 (0 : Int) ([] : List BA)))
def l21 (j24 : Int → Int → Int → Int → Int → Zq6 → BA → Int → LB → LI → BA → LB → Prop) (ag21 : Int → LB → Prop) (x1_0 x1_1 : Int) (x1_2 x1_3 x1_4 : Int) (x1_5 : Zq6) (x1_6 : BA) (x1_7 : Int) (x1_8 : LB) (x1_9 : LI) (x3 : BA) (x8 : Int) (b0 : LB) (k : BA → Prop) : Prop :=
  (br (decide (x8 < ((((x1_9).length : Nat) : Int)))) ((inB 0 x8 ((((x1_9).length : Nat) : Int) - 1)) ∧ (N34.f (x1_9.getD (Int.toNat x8) (0)) (fun (y0_8 : BA) => (((y0_8).size + ((ByteArray.mk #[58, 32])).size ≤ 9223372036854775807) ∧ (N42.f x1_8 x8 (fun (y0_9 : BA) => ((((y0_8 ++ (ByteArray.mk #[58, 32]))).size + (y0_9).size ≤ 9223372036854775807) ∧ ((room ((b0).length + (([((y0_8 ++ (ByteArray.mk #[58, 32])) ++ y0_9)] : List BA)).length) 16) ∧ (ag21 (IntKind.i64.wrap (x8 + (1 : Int))) (b0 ++ ([((y0_8 ++ (ByteArray.mk #[58, 32])) ++ y0_9)] : List BA))))))))))) (j24 x1_0 x1_1 x1_2 x1_3 x1_4 x1_5 x1_6 x1_7 x1_8 x1_9 x3 b0))
def j24 (x1_0 x1_1 : Int) (x1_2 x1_3 x1_4 : Int) (x1_5 : Zq6) (x1_6 : BA) (x1_7 : Int) (x1_8 : LB) (x1_9 : LI) (x3 : BA) (b0 : LB) (k : BA → Prop) : Prop :=
  (((x3).size + ((ByteArray.mk #[32, 91])).size ≤ 9223372036854775807) ∧ (N42.f x1_8 ((((x1_9).length : Nat) : Int)) (fun (y0_10 : BA) => ((((ByteArray.mk #[101, 108, 115, 101, 58, 32])).size + (y0_10).size ≤ 9223372036854775807) ∧ ((room ((b0).length + (([((ByteArray.mk #[101, 108, 115, 101, 58, 32]) ++ y0_10)] : List BA)).length) 16) ∧ (N32.f (b0 ++ ([((ByteArray.mk #[101, 108, 115, 101, 58, 32]) ++ y0_10)] : List BA)) (fun (y0_11 : BA) => ((((x3 ++ (ByteArray.mk #[32, 91]))).size + (y0_11).size ≤ 9223372036854775807) ∧ (((((x3 ++ (ByteArray.mk #[32, 91])) ++ y0_11)).size + ((ByteArray.mk #[93])).size ≤ 9223372036854775807) ∧ (k (((x3 ++ (ByteArray.mk #[32, 91])) ++ y0_11) ++ (ByteArray.mk #[93]))))))))))))
def c (j4 : Int → Int → Int → Int → Int → Zq6 → BA → Int → LB → LI → BA → Prop) (x0_0 x0_1_0 : Int) (x0_1_1 x0_1_2 x0_1_3 : Int) (x0_2 : Zq6) (x0_3 : BA) (x0_4 : Int) (x0_5 : LB) (x0_6 : LI) (k : BA → Prop) : Prop :=
  (br (x0_1_0 != (0 : Int)) (N15.f x0_1_0 x0_1_1 x0_1_2 x0_1_3 (fun (y0_0 : BA) => (((y0_0).size + ((ByteArray.mk #[32, 61, 32])).size ≤ 9223372036854775807) ∧ (j4 x0_0 x0_1_0 x0_1_1 x0_1_2 x0_1_3 x0_2 x0_3 x0_4 x0_5 x0_6 (y0_0 ++ (ByteArray.mk #[32, 61, 32])))))) (j4 x0_0 x0_1_0 x0_1_1 x0_1_2 x0_1_3 x0_2 x0_3 x0_4 x0_5 x0_6 (ByteArray.mk #[])))
def j24' (x1_0 x1_1 : Int) (x1_2 x1_3 x1_4 : Int) (x1_5 : Zq6) (x1_6 : BA) (x1_7 : Int) (x1_8 : LB) (x1_9 : LI) (x3 : BA) (b0 : LB) (k : BA → Prop) : Prop := j24 x1_0 x1_1 x1_2 x1_3 x1_4 x1_5 x1_6 x1_7 x1_8 x1_9 x3 b0 k
def l21' (x1_0 x1_1 : Int) (x1_2 x1_3 x1_4 : Int) (x1_5 : Zq6) (x1_6 : BA) (x1_7 : Int) (x1_8 : LB) (x1_9 : LI) (x3 : BA) (x8 : Int) (b0 : LB) (k : BA → Prop) : Prop := ∃ n, loopS (fun (ag : (Int × LB) → Prop) (s : Int × LB) => l21 (fun x1_0 x1_1 x1_2 x1_3 x1_4 x1_5 x1_6 x1_7 x1_8 x1_9 x3 b0 => j24' x1_0 x1_1 x1_2 x1_3 x1_4 x1_5 x1_6 x1_7 x1_8 x1_9 x3 b0 k) (fun x8 b0 => ag (x8, b0)) x1_0 x1_1 x1_2 x1_3 x1_4 x1_5 x1_6 x1_7 x1_8 x1_9 x3 s.1 s.2 k) n (x8, b0)
def j17' (x1_0 x1_1 : Int) (x1_2 x1_3 x1_4 : Int) (x1_5 : Zq6) (x1_6 : BA) (x1_7 : Int) (x1_8 : LB) (x1_9 : LI) (x3 : BA) (k : BA → Prop) : Prop := j17 (fun x1_0 x1_1 x1_2 x1_3 x1_4 x1_5 x1_6 x1_7 x1_8 x1_9 x3 x8 b0 => l21' x1_0 x1_1 x1_2 x1_3 x1_4 x1_5 x1_6 x1_7 x1_8 x1_9 x3 x8 b0 k) x1_0 x1_1 x1_2 x1_3 x1_4 x1_5 x1_6 x1_7 x1_8 x1_9 x3 k
def j15' (x1_0 x1_1 : Int) (x1_2 x1_3 x1_4 : Int) (x1_5 : Zq6) (x1_6 : BA) (x1_7 : Int) (x1_8 : LB) (x1_9 : LI) (x3 : BA) (b0 : LB) (k : BA → Prop) : Prop := j15 (fun x1_0 x1_1 x1_2 x1_3 x1_4 x1_5 x1_6 x1_7 x1_8 x1_9 x3 => j17' x1_0 x1_1 x1_2 x1_3 x1_4 x1_5 x1_6 x1_7 x1_8 x1_9 x3 k) x1_0 x1_1 x1_2 x1_3 x1_4 x1_5 x1_6 x1_7 x1_8 x1_9 x3 b0 k
def j2000014' (x1_0 x1_1 : Int) (x1_2 x1_3 x1_4 : Int) (x1_5 : Zq6) (x1_6 : BA) (x1_7 : Int) (x1_8 : LB) (x1_9 : LI) (x3 : BA) (x88 : Bool) (b0 : LB) (k : BA → Prop) : Prop := j2000014 (fun x1_0 x1_1 x1_2 x1_3 x1_4 x1_5 x1_6 x1_7 x1_8 x1_9 x3 b0 => j15' x1_0 x1_1 x1_2 x1_3 x1_4 x1_5 x1_6 x1_7 x1_8 x1_9 x3 b0 k) x1_0 x1_1 x1_2 x1_3 x1_4 x1_5 x1_6 x1_7 x1_8 x1_9 x3 x88 b0 k
def j13' (x1_0 x1_1 : Int) (x1_2 x1_3 x1_4 : Int) (x1_5 : Zq6) (x1_6 : BA) (x1_7 : Int) (x1_8 : LB) (x1_9 : LI) (x3 : BA) (b0 : LB) (k : BA → Prop) : Prop := j13 (fun x1_0 x1_1 x1_2 x1_3 x1_4 x1_5 x1_6 x1_7 x1_8 x1_9 x3 x88 b0 => j2000014' x1_0 x1_1 x1_2 x1_3 x1_4 x1_5 x1_6 x1_7 x1_8 x1_9 x3 x88 b0 k) x1_0 x1_1 x1_2 x1_3 x1_4 x1_5 x1_6 x1_7 x1_8 x1_9 x3 b0 k
def j2000012' (x1_0 x1_1 : Int) (x1_2 x1_3 x1_4 : Int) (x1_5 : Zq6) (x1_6 : BA) (x1_7 : Int) (x1_8 : LB) (x1_9 : LI) (x3 : BA) (x64 : Bool) (b0 : LB) (k : BA → Prop) : Prop := j2000012 (fun x1_0 x1_1 x1_2 x1_3 x1_4 x1_5 x1_6 x1_7 x1_8 x1_9 x3 b0 => j13' x1_0 x1_1 x1_2 x1_3 x1_4 x1_5 x1_6 x1_7 x1_8 x1_9 x3 b0 k) x1_0 x1_1 x1_2 x1_3 x1_4 x1_5 x1_6 x1_7 x1_8 x1_9 x3 x64 b0 k
def j7' (x1_0 x1_1 : Int) (x1_2 x1_3 x1_4 : Int) (x1_5 : Zq6) (x1_6 : BA) (x1_7 : Int) (x1_8 : LB) (x1_9 : LI) (x3 b0_0 b0_1 : BA) (b0_2 : LB) (b0_3 : Int) (b0_4 : Bool) (k : BA → Prop) : Prop := j7 (fun x1_0 x1_1 x1_2 x1_3 x1_4 x1_5 x1_6 x1_7 x1_8 x1_9 x3 x64 b0 => j2000012' x1_0 x1_1 x1_2 x1_3 x1_4 x1_5 x1_6 x1_7 x1_8 x1_9 x3 x64 b0 k) x1_0 x1_1 x1_2 x1_3 x1_4 x1_5 x1_6 x1_7 x1_8 x1_9 x3 b0_0 b0_1 b0_2 b0_3 b0_4 k
def j4' (x1_0 x1_1 : Int) (x1_2 x1_3 x1_4 : Int) (x1_5 : Zq6) (x1_6 : BA) (x1_7 : Int) (x1_8 : LB) (x1_9 : LI) (x3 : BA) (k : BA → Prop) : Prop := j4 (fun x1_0 x1_1 x1_2 x1_3 x1_4 x1_5 x1_6 x1_7 x1_8 x1_9 x3 b0_0 b0_1 b0_2 b0_3 b0_4 => j7' x1_0 x1_1 x1_2 x1_3 x1_4 x1_5 x1_6 x1_7 x1_8 x1_9 x3 b0_0 b0_1 b0_2 b0_3 b0_4 k) x1_0 x1_1 x1_2 x1_3 x1_4 x1_5 x1_6 x1_7 x1_8 x1_9 x3 k
def f0 (x0_0 x0_1_0 : Int) (x0_1_1 x0_1_2 x0_1_3 : Int) (x0_2 : Zq6) (x0_3 : BA) (x0_4 : Int) (x0_5 : LB) (x0_6 : LI) (k : BA → Prop) : Prop := c (fun x1_0 x1_1 x1_2 x1_3 x1_4 x1_5 x1_6 x1_7 x1_8 x1_9 x3 => j4' x1_0 x1_1 x1_2 x1_3 x1_4 x1_5 x1_6 x1_7 x1_8 x1_9 x3 k) x0_0 x0_1_0 x0_1_1 x0_1_2 x0_1_3 x0_2 x0_3 x0_4 x0_5 x0_6 k
theorem f_ex : ∃ g, g = f0 := ⟨_, rfl⟩
noncomputable def f := Classical.choose f_ex
theorem f_def : f = f0 := Classical.choose_spec f_ex
def m4 (x1_0 x1_1 : Int) (x1_2 x1_3 x1_4 : Int) (x1_5 : Zq6) (x1_6 : BA) (x1_7 : Int) (x1_8 : LB) (x1_9 : LI) (x3 : BA) : St := { tmps := mkT 142 0 [(1, (.fp [(.v (.int .i64 x1_0)), (.v (.int .i64 x1_1)), (.v (.int .i64 x1_2)), (.v (.int .i64 x1_3)), (.v (.int .i64 x1_4)), (.fz Zy0 x1_5), (.v (.string x1_6)), (.v (.int .i64 x1_7)), (.fz Ty.str x1_8), (.fz Zy2 x1_9)])), (3, (.v (.string x3)))], hp := [], m := 0 }
def m7 (x1_0 x1_1 : Int) (x1_2 x1_3 x1_4 : Int) (x1_5 : Zq6) (x1_6 : BA) (x1_7 : Int) (x1_8 : LB) (x1_9 : LI) (x3 b0_0 b0_1 : BA) (b0_2 : LB) (b0_3 : Int) (b0_4 : Bool) : St := { tmps := mkT 142 0 [(1, (.fp [(.v (.int .i64 x1_0)), (.v (.int .i64 x1_1)), (.v (.int .i64 x1_2)), (.v (.int .i64 x1_3)), (.v (.int .i64 x1_4)), (.fz Zy0 x1_5), (.v (.string x1_6)), (.v (.int .i64 x1_7)), (.fz Ty.str x1_8), (.fz Zy2 x1_9)])), (3, (.v (.string x3))), (4, (.ptr 0 0))], hp := [(.box 83 [(.v (.string b0_0)), (.v (.string b0_1)), (.fz Ty.str b0_2), (.v (.int .i64 b0_3)), (.v (.bool b0_4))])], m := 0 }
def m2000012 (x1_0 x1_1 : Int) (x1_2 x1_3 x1_4 : Int) (x1_5 : Zq6) (x1_6 : BA) (x1_7 : Int) (x1_8 : LB) (x1_9 : LI) (x3 : BA) (x64 : Bool) (b0 : LB) : St := { tmps := mkT 142 0 [(1, (.fp [(.v (.int .i64 x1_0)), (.v (.int .i64 x1_1)), (.v (.int .i64 x1_2)), (.v (.int .i64 x1_3)), (.v (.int .i64 x1_4)), (.fz Zy0 x1_5), (.v (.string x1_6)), (.v (.int .i64 x1_7)), (.fz Ty.str x1_8), (.fz Zy2 x1_9)])), (3, (.v (.string x3))), (6, (.sl 0 0)), (64, (.v (.bool x64)))], hp := [(.lst 9 Ty.str b0 0 false)], m := 0 }
def m13 (x1_0 x1_1 : Int) (x1_2 x1_3 x1_4 : Int) (x1_5 : Zq6) (x1_6 : BA) (x1_7 : Int) (x1_8 : LB) (x1_9 : LI) (x3 : BA) (b0 : LB) : St := { tmps := mkT 142 0 [(1, (.fp [(.v (.int .i64 x1_0)), (.v (.int .i64 x1_1)), (.v (.int .i64 x1_2)), (.v (.int .i64 x1_3)), (.v (.int .i64 x1_4)), (.fz Zy0 x1_5), (.v (.string x1_6)), (.v (.int .i64 x1_7)), (.fz Ty.str x1_8), (.fz Zy2 x1_9)])), (3, (.v (.string x3))), (6, (.sl 0 0))], hp := [(.lst 9 Ty.str b0 0 false)], m := 0 }
def m2000014 (x1_0 x1_1 : Int) (x1_2 x1_3 x1_4 : Int) (x1_5 : Zq6) (x1_6 : BA) (x1_7 : Int) (x1_8 : LB) (x1_9 : LI) (x3 : BA) (x88 : Bool) (b0 : LB) : St := { tmps := mkT 142 0 [(1, (.fp [(.v (.int .i64 x1_0)), (.v (.int .i64 x1_1)), (.v (.int .i64 x1_2)), (.v (.int .i64 x1_3)), (.v (.int .i64 x1_4)), (.fz Zy0 x1_5), (.v (.string x1_6)), (.v (.int .i64 x1_7)), (.fz Ty.str x1_8), (.fz Zy2 x1_9)])), (3, (.v (.string x3))), (6, (.sl 0 0)), (88, (.v (.bool x88)))], hp := [(.lst 9 Ty.str b0 0 false)], m := 0 }
def m15 (x1_0 x1_1 : Int) (x1_2 x1_3 x1_4 : Int) (x1_5 : Zq6) (x1_6 : BA) (x1_7 : Int) (x1_8 : LB) (x1_9 : LI) (x3 : BA) (b0 : LB) : St := { tmps := mkT 142 0 [(1, (.fp [(.v (.int .i64 x1_0)), (.v (.int .i64 x1_1)), (.v (.int .i64 x1_2)), (.v (.int .i64 x1_3)), (.v (.int .i64 x1_4)), (.fz Zy0 x1_5), (.v (.string x1_6)), (.v (.int .i64 x1_7)), (.fz Ty.str x1_8), (.fz Zy2 x1_9)])), (3, (.v (.string x3))), (6, (.sl 0 0))], hp := [(.lst 9 Ty.str b0 0 false)], m := 0 }
def m17 (x1_0 x1_1 : Int) (x1_2 x1_3 x1_4 : Int) (x1_5 : Zq6) (x1_6 : BA) (x1_7 : Int) (x1_8 : LB) (x1_9 : LI) (x3 : BA) : St := { tmps := mkT 142 0 [(1, (.fp [(.v (.int .i64 x1_0)), (.v (.int .i64 x1_1)), (.v (.int .i64 x1_2)), (.v (.int .i64 x1_3)), (.v (.int .i64 x1_4)), (.fz Zy0 x1_5), (.v (.string x1_6)), (.v (.int .i64 x1_7)), (.fz Ty.str x1_8), (.fz Zy2 x1_9)])), (3, (.v (.string x3)))], hp := [], m := 0 }
def mL21 (x1_0 x1_1 : Int) (x1_2 x1_3 x1_4 : Int) (x1_5 : Zq6) (x1_6 : BA) (x1_7 : Int) (x1_8 : LB) (x1_9 : LI) (x3 : BA) (x8 : Int) (b0 : LB) : St := { tmps := mkT 142 0 [(1, (.fp [(.v (.int .i64 x1_0)), (.v (.int .i64 x1_1)), (.v (.int .i64 x1_2)), (.v (.int .i64 x1_3)), (.v (.int .i64 x1_4)), (.fz Zy0 x1_5), (.v (.string x1_6)), (.v (.int .i64 x1_7)), (.fz Ty.str x1_8), (.fz Zy2 x1_9)])), (3, (.v (.string x3))), (7, (.sl 0 0)), (8, (.v (.int .i64 x8)))], hp := [(.lst 9 Ty.str b0 0 true)], m := 0 }
def m24 (x1_0 x1_1 : Int) (x1_2 x1_3 x1_4 : Int) (x1_5 : Zq6) (x1_6 : BA) (x1_7 : Int) (x1_8 : LB) (x1_9 : LI) (x3 : BA) (b0 : LB) : St := { tmps := mkT 142 0 [(1, (.fp [(.v (.int .i64 x1_0)), (.v (.int .i64 x1_1)), (.v (.int .i64 x1_2)), (.v (.int .i64 x1_3)), (.v (.int .i64 x1_4)), (.fz Zy0 x1_5), (.v (.string x1_6)), (.v (.int .i64 x1_7)), (.fz Ty.str x1_8), (.fz Zy2 x1_9)])), (3, (.v (.string x3))), (7, (.sl 0 0))], hp := [(.lst 9 Ty.str b0 0 true)], m := 0 }
noncomputable def X4 (k kp : KT) : St → Prop := atP cfg (pick none' []) [1, 1, 1] body (topK cfg Try.f13 k kp)
noncomputable def X7 (k kp : KT) : St → Prop := atP cfg (pick none' []) [1, 1, 1, 1, 1] body (topK cfg Try.f13 k kp)
noncomputable def X2000012 (k kp : KT) : St → Prop := atP cfg (pick none' []) [1, 1, 1, 1, 1, 1, 1, 1, 0, 1] body (topK cfg Try.f13 k kp)
noncomputable def X13 (k kp : KT) : St → Prop := atP cfg (pick none' []) [1, 1, 1, 1, 1, 1, 1, 1, 1] body (topK cfg Try.f13 k kp)
noncomputable def X2000014 (k kp : KT) : St → Prop := atP cfg (pick none' []) [1, 1, 1, 1, 1, 1, 1, 1, 1, 0, 1] body (topK cfg Try.f13 k kp)
noncomputable def X15 (k kp : KT) : St → Prop := atP cfg (pick none' []) [1, 1, 1, 1, 1, 1, 1, 1, 1, 1] body (topK cfg Try.f13 k kp)
noncomputable def X17 (k kp : KT) : St → Prop := atP cfg (pick none' []) [1, 1, 1, 1, 1, 1, 1, 1, 1, 1, 1] body (topK cfg Try.f13 k kp)
noncomputable def YL21 (k kp : KT) : (St → Prop) → St → Prop := loopB cfg (sub [1, 1, 1, 1, 1, 1, 1, 1, 1, 1, 1, 1, 1, 0, 1, 0, 0] body) (contK cfg (pick none' []) [1, 1, 1, 1, 1, 1, 1, 1, 1, 1, 1, 1, 1, 0, 1, 0] body (topK cfg Try.f13 k kp))
noncomputable def XL21 (k kp : KT) : St → Prop := fun st => ∃ n, loopN (YL21 k kp) n st
noncomputable def X24 (k kp : KT) : St → Prop := atP cfg (pick none' []) [1, 1, 1, 1, 1, 1, 1, 1, 1, 1, 1, 1, 1, 1] body (topK cfg Try.f13 k kp)
noncomputable def JJ (k kp : KT) : Nat → St → Prop := pick none' [(4, X4 k kp), (7, X7 k kp), (2000012, X2000012 k kp), (13, X13 k kp), (2000014, X2000014 k kp), (15, X15 k kp), (17, X17 k kp), (24, X24 k kp)]
noncomputable def LL (k kp : KT) : Nat → St → Prop := pick none' [(21, XL21 k kp)]
noncomputable def JJ_21 (k kp : KT) (ag21 : St → Prop) : Nat → St → Prop := pick none' [(4, X4 k kp), (7, X7 k kp), (2000012, X2000012 k kp), (13, X13 k kp), (2000014, X2000014 k kp), (15, X15 k kp), (17, X17 k kp), (24, X24 k kp)]
noncomputable def LL_21 (k kp : KT) (ag21 : St → Prop) : Nat → St → Prop := pick none' [(21, XL21 k kp)]
theorem j24_c (k kp : KT) (J L : Nat → St → Prop) (x1_0 x1_1 : Int) (x1_2 x1_3 x1_4 : Int) (x1_5 : Zq6) (x1_6 : BA) (x1_7 : Int) (x1_8 : LB) (x1_9 : LI) (x3 : BA) (b0 : LB) : runC cfg 24 J L (pick none' []) [1, 1, 1, 1, 1, 1, 1, 1, 1, 1, 1, 1, 1, 1] body (topK cfg Try.f13 k kp) (m24 x1_0 x1_1 x1_2 x1_3 x1_4 x1_5 x1_6 x1_7 x1_8 x1_9 x3 b0) = j24 x1_0 x1_1 x1_2 x1_3 x1_4 x1_5 x1_6 x1_7 x1_8 x1_9 x3 b0 (fun y0 => k (.v (.string y0)) []) := by kernel_rfl
theorem j24_ag (k kp : KT) : agPL cfg 24 (JJ k kp) (LL k kp) [1, 1, 1, 1, 1, 1, 1, 1, 1, 1, 1, 1, 1, 1] body = agPR cfg 24 (pick none' []) [1, 1, 1, 1, 1, 1, 1, 1, 1, 1, 1, 1, 1, 1] body (topK cfg Try.f13 k kp) := by kernel_rfl
theorem j24_raw (k kp : KT) (x1_0 x1_1 : Int) (x1_2 x1_3 x1_4 : Int) (x1_5 : Zq6) (x1_6 : BA) (x1_7 : Int) (x1_8 : LB) (x1_9 : LI) (x3 : BA) (b0 : LB) : X24 k kp (m24 x1_0 x1_1 x1_2 x1_3 x1_4 x1_5 x1_6 x1_7 x1_8 x1_9 x3 b0) = j24 x1_0 x1_1 x1_2 x1_3 x1_4 x1_5 x1_6 x1_7 x1_8 x1_9 x3 b0 (fun y0 => k (.v (.string y0)) []) :=
  Eq.mp (by kernel_rfl) ((atP_run (j24_ag k kp) (m24 x1_0 x1_1 x1_2 x1_3 x1_4 x1_5 x1_6 x1_7 x1_8 x1_9 x3 b0)).trans (j24_c k kp (JJ k kp) (LL k kp) x1_0 x1_1 x1_2 x1_3 x1_4 x1_5 x1_6 x1_7 x1_8 x1_9 x3 b0))
theorem j24_eq (k kp : KT) (x1_0 x1_1 : Int) (x1_2 x1_3 x1_4 : Int) (x1_5 : Zq6) (x1_6 : BA) (x1_7 : Int) (x1_8 : LB) (x1_9 : LI) (x3 : BA) (b0 : LB) : X24 k kp (m24 x1_0 x1_1 x1_2 x1_3 x1_4 x1_5 x1_6 x1_7 x1_8 x1_9 x3 b0) = j24' x1_0 x1_1 x1_2 x1_3 x1_4 x1_5 x1_6 x1_7 x1_8 x1_9 x3 b0 (fun y0 => k (.v (.string y0)) []) := by
  rw [j24_raw]; rfl
theorem l21_c (k kp : KT) (J L : Nat → St → Prop) (ag21 : St → Prop) (x1_0 x1_1 : Int) (x1_2 x1_3 x1_4 : Int) (x1_5 : Zq6) (x1_6 : BA) (x1_7 : Int) (x1_8 : LB) (x1_9 : LI) (x3 : BA) (x8 : Int) (b0 : LB) : runC cfg 1000001 J L (pick none' [(21, ag21)]) [1, 1, 1, 1, 1, 1, 1, 1, 1, 1, 1, 1, 1, 0, 1, 0, 0] body (topK cfg Try.f13 k kp) (mL21 x1_0 x1_1 x1_2 x1_3 x1_4 x1_5 x1_6 x1_7 x1_8 x1_9 x3 x8 b0) = l21 (fun x1_0 x1_1 x1_2 x1_3 x1_4 x1_5 x1_6 x1_7 x1_8 x1_9 x3 b0 => J 24 (m24 x1_0 x1_1 x1_2 x1_3 x1_4 x1_5 x1_6 x1_7 x1_8 x1_9 x3 b0)) (fun x8 b0 => ag21 (mL21 x1_0 x1_1 x1_2 x1_3 x1_4 x1_5 x1_6 x1_7 x1_8 x1_9 x3 x8 b0)) x1_0 x1_1 x1_2 x1_3 x1_4 x1_5 x1_6 x1_7 x1_8 x1_9 x3 x8 b0 (fun y0 => k (.v (.string y0)) []) := by kernel_rfl
theorem l21_ag (k kp : KT) (ag21 : St → Prop) : agPL cfg 1000001 (JJ_21 k kp ag21) (LL_21 k kp ag21) [1, 1, 1, 1, 1, 1, 1, 1, 1, 1, 1, 1, 1, 0, 1, 0, 0] body = agPR cfg 1000001 (pick none' [(21, ag21)]) [1, 1, 1, 1, 1, 1, 1, 1, 1, 1, 1, 1, 1, 0, 1, 0, 0] body (topK cfg Try.f13 k kp) := by kernel_rfl
theorem l21_raw (k kp : KT) (ag21 : St → Prop) (x1_0 x1_1 : Int) (x1_2 x1_3 x1_4 : Int) (x1_5 : Zq6) (x1_6 : BA) (x1_7 : Int) (x1_8 : LB) (x1_9 : LI) (x3 : BA) (x8 : Int) (b0 : LB) : YL21 k kp ag21 (mL21 x1_0 x1_1 x1_2 x1_3 x1_4 x1_5 x1_6 x1_7 x1_8 x1_9 x3 x8 b0) = l21 (fun x1_0 x1_1 x1_2 x1_3 x1_4 x1_5 x1_6 x1_7 x1_8 x1_9 x3 b0 => X24 k kp (m24 x1_0 x1_1 x1_2 x1_3 x1_4 x1_5 x1_6 x1_7 x1_8 x1_9 x3 b0)) (fun x8 b0 => ag21 (mL21 x1_0 x1_1 x1_2 x1_3 x1_4 x1_5 x1_6 x1_7 x1_8 x1_9 x3 x8 b0)) x1_0 x1_1 x1_2 x1_3 x1_4 x1_5 x1_6 x1_7 x1_8 x1_9 x3 x8 b0 (fun y0 => k (.v (.string y0)) []) :=
  Eq.mp (by kernel_rfl) ((atP_run (l21_ag k kp ag21) (mL21 x1_0 x1_1 x1_2 x1_3 x1_4 x1_5 x1_6 x1_7 x1_8 x1_9 x3 x8 b0)).trans (l21_c k kp (JJ_21 k kp ag21) (LL_21 k kp ag21) ag21 x1_0 x1_1 x1_2 x1_3 x1_4 x1_5 x1_6 x1_7 x1_8 x1_9 x3 x8 b0))
theorem l21_eq (k kp : KT) (x1_0 x1_1 : Int) (x1_2 x1_3 x1_4 : Int) (x1_5 : Zq6) (x1_6 : BA) (x1_7 : Int) (x1_8 : LB) (x1_9 : LI) (x3 : BA) (x8 : Int) (b0 : LB) : XL21 k kp (mL21 x1_0 x1_1 x1_2 x1_3 x1_4 x1_5 x1_6 x1_7 x1_8 x1_9 x3 x8 b0) = l21' x1_0 x1_1 x1_2 x1_3 x1_4 x1_5 x1_6 x1_7 x1_8 x1_9 x3 x8 b0 (fun y0 => k (.v (.string y0)) []) :=
  loop_eq (mk := fun (s : Int × LB) => mL21 x1_0 x1_1 x1_2 x1_3 x1_4 x1_5 x1_6 x1_7 x1_8 x1_9 x3 s.1 s.2) (fun again s => by rw [l21_raw k kp again x1_0 x1_1 x1_2 x1_3 x1_4 x1_5 x1_6 x1_7 x1_8 x1_9 x3 s.1 s.2]; simp only [j24_eq]; first | done | rfl) (x8, b0)
theorem j17_c (k kp : KT) (J L : Nat → St → Prop) (x1_0 x1_1 : Int) (x1_2 x1_3 x1_4 : Int) (x1_5 : Zq6) (x1_6 : BA) (x1_7 : Int) (x1_8 : LB) (x1_9 : LI) (x3 : BA) : runC cfg 17 J L (pick none' []) [1, 1, 1, 1, 1, 1, 1, 1, 1, 1, 1] body (topK cfg Try.f13 k kp) (m17 x1_0 x1_1 x1_2 x1_3 x1_4 x1_5 x1_6 x1_7 x1_8 x1_9 x3) = j17 (fun x1_0 x1_1 x1_2 x1_3 x1_4 x1_5 x1_6 x1_7 x1_8 x1_9 x3 x8 b0 => L 21 (mL21 x1_0 x1_1 x1_2 x1_3 x1_4 x1_5 x1_6 x1_7 x1_8 x1_9 x3 x8 b0)) x1_0 x1_1 x1_2 x1_3 x1_4 x1_5 x1_6 x1_7 x1_8 x1_9 x3 (fun y0 => k (.v (.string y0)) []) := by kernel_rfl
theorem j17_ag (k kp : KT) : agPL cfg 17 (JJ k kp) (LL k kp) [1, 1, 1, 1, 1, 1, 1, 1, 1, 1, 1] body = agPR cfg 17 (pick none' []) [1, 1, 1, 1, 1, 1, 1, 1, 1, 1, 1] body (topK cfg Try.f13 k kp) := by kernel_rfl
theorem j17_raw (k kp : KT) (x1_0 x1_1 : Int) (x1_2 x1_3 x1_4 : Int) (x1_5 : Zq6) (x1_6 : BA) (x1_7 : Int) (x1_8 : LB) (x1_9 : LI) (x3 : BA) : X17 k kp (m17 x1_0 x1_1 x1_2 x1_3 x1_4 x1_5 x1_6 x1_7 x1_8 x1_9 x3) = j17 (fun x1_0 x1_1 x1_2 x1_3 x1_4 x1_5 x1_6 x1_7 x1_8 x1_9 x3 x8 b0 => XL21 k kp (mL21 x1_0 x1_1 x1_2 x1_3 x1_4 x1_5 x1_6 x1_7 x1_8 x1_9 x3 x8 b0)) x1_0 x1_1 x1_2 x1_3 x1_4 x1_5 x1_6 x1_7 x1_8 x1_9 x3 (fun y0 => k (.v (.string y0)) []) :=
  Eq.mp (by kernel_rfl) ((atP_run (j17_ag k kp) (m17 x1_0 x1_1 x1_2 x1_3 x1_4 x1_5 x1_6 x1_7 x1_8 x1_9 x3)).trans (j17_c k kp (JJ k kp) (LL k kp) x1_0 x1_1 x1_2 x1_3 x1_4 x1_5 x1_6 x1_7 x1_8 x1_9 x3))
theorem j17_eq (k kp : KT) (x1_0 x1_1 : Int) (x1_2 x1_3 x1_4 : Int) (x1_5 : Zq6) (x1_6 : BA) (x1_7 : Int) (x1_8 : LB) (x1_9 : LI) (x3 : BA) : X17 k kp (m17 x1_0 x1_1 x1_2 x1_3 x1_4 x1_5 x1_6 x1_7 x1_8 x1_9 x3) = j17' x1_0 x1_1 x1_2 x1_3 x1_4 x1_5 x1_6 x1_7 x1_8 x1_9 x3 (fun y0 => k (.v (.string y0)) []) := by
  rw [j17_raw]; simp only [l21_eq]; first | done | rfl
theorem j15_c (k kp : KT) (J L : Nat → St → Prop) (x1_0 x1_1 : Int) (x1_2 x1_3 x1_4 : Int) (x1_5 : Zq6) (x1_6 : BA) (x1_7 : Int) (x1_8 : LB) (x1_9 : LI) (x3 : BA) (b0 : LB) : runC cfg 15 J L (pick none' []) [1, 1, 1, 1, 1, 1, 1, 1, 1, 1] body (topK cfg Try.f13 k kp) (m15 x1_0 x1_1 x1_2 x1_3 x1_4 x1_5 x1_6 x1_7 x1_8 x1_9 x3 b0) = j15 (fun x1_0 x1_1 x1_2 x1_3 x1_4 x1_5 x1_6 x1_7 x1_8 x1_9 x3 => J 17 (m17 x1_0 x1_1 x1_2 x1_3 x1_4 x1_5 x1_6 x1_7 x1_8 x1_9 x3)) x1_0 x1_1 x1_2 x1_3 x1_4 x1_5 x1_6 x1_7 x1_8 x1_9 x3 b0 (fun y0 => k (.v (.string y0)) []) := by kernel_rfl
theorem j15_ag (k kp : KT) : agPL cfg 15 (JJ k kp) (LL k kp) [1, 1, 1, 1, 1, 1, 1, 1, 1, 1] body = agPR cfg 15 (pick none' []) [1, 1, 1, 1, 1, 1, 1, 1, 1, 1] body (topK cfg Try.f13 k kp) := by kernel_rfl
theorem j15_raw (k kp : KT) (x1_0 x1_1 : Int) (x1_2 x1_3 x1_4 : Int) (x1_5 : Zq6) (x1_6 : BA) (x1_7 : Int) (x1_8 : LB) (x1_9 : LI) (x3 : BA) (b0 : LB) : X15 k kp (m15 x1_0 x1_1 x1_2 x1_3 x1_4 x1_5 x1_6 x1_7 x1_8 x1_9 x3 b0) = j15 (fun x1_0 x1_1 x1_2 x1_3 x1_4 x1_5 x1_6 x1_7 x1_8 x1_9 x3 => X17 k kp (m17 x1_0 x1_1 x1_2 x1_3 x1_4 x1_5 x1_6 x1_7 x1_8 x1_9 x3)) x1_0 x1_1 x1_2 x1_3 x1_4 x1_5 x1_6 x1_7 x1_8 x1_9 x3 b0 (fun y0 => k (.v (.string y0)) []) :=
  Eq.mp (by kernel_rfl) ((atP_run (j15_ag k kp) (m15 x1_0 x1_1 x1_2 x1_3 x1_4 x1_5 x1_6 x1_7 x1_8 x1_9 x3 b0)).trans (j15_c k kp (JJ k kp) (LL k kp) x1_0 x1_1 x1_2 x1_3 x1_4 x1_5 x1_6 x1_7 x1_8 x1_9 x3 b0))
theorem j15_eq (k kp : KT) (x1_0 x1_1 : Int) (x1_2 x1_3 x1_4 : Int) (x1_5 : Zq6) (x1_6 : BA) (x1_7 : Int) (x1_8 : LB) (x1_9 : LI) (x3 : BA) (b0 : LB) : X15 k kp (m15 x1_0 x1_1 x1_2 x1_3 x1_4 x1_5 x1_6 x1_7 x1_8 x1_9 x3 b0) = j15' x1_0 x1_1 x1_2 x1_3 x1_4 x1_5 x1_6 x1_7 x1_8 x1_9 x3 b0 (fun y0 => k (.v (.string y0)) []) := by
  rw [j15_raw]; simp only [j17_eq]; first | done | rfl
theorem j2000014_c (k kp : KT) (J L : Nat → St → Prop) (x1_0 x1_1 : Int) (x1_2 x1_3 x1_4 : Int) (x1_5 : Zq6) (x1_6 : BA) (x1_7 : Int) (x1_8 : LB) (x1_9 : LI) (x3 : BA) (x88 : Bool) (b0 : LB) : runC cfg 2000014 J L (pick none' []) [1, 1, 1, 1, 1, 1, 1, 1, 1, 0, 1] body (topK cfg Try.f13 k kp) (m2000014 x1_0 x1_1 x1_2 x1_3 x1_4 x1_5 x1_6 x1_7 x1_8 x1_9 x3 x88 b0) = j2000014 (fun x1_0 x1_1 x1_2 x1_3 x1_4 x1_5 x1_6 x1_7 x1_8 x1_9 x3 b0 => J 15 (m15 x1_0 x1_1 x1_2 x1_3 x1_4 x1_5 x1_6 x1_7 x1_8 x1_9 x3 b0)) x1_0 x1_1 x1_2 x1_3 x1_4 x1_5 x1_6 x1_7 x1_8 x1_9 x3 x88 b0 (fun y0 => k (.v (.string y0)) []) := by kernel_rfl
theorem j2000014_ag (k kp : KT) : agPL cfg 2000014 (JJ k kp) (LL k kp) [1, 1, 1, 1, 1, 1, 1, 1, 1, 0, 1] body = agPR cfg 2000014 (pick none' []) [1, 1, 1, 1, 1, 1, 1, 1, 1, 0, 1] body (topK cfg Try.f13 k kp) := by kernel_rfl
theorem j2000014_raw (k kp : KT) (x1_0 x1_1 : Int) (x1_2 x1_3 x1_4 : Int) (x1_5 : Zq6) (x1_6 : BA) (x1_7 : Int) (x1_8 : LB) (x1_9 : LI) (x3 : BA) (x88 : Bool) (b0 : LB) : X2000014 k kp (m2000014 x1_0 x1_1 x1_2 x1_3 x1_4 x1_5 x1_6 x1_7 x1_8 x1_9 x3 x88 b0) = j2000014 (fun x1_0 x1_1 x1_2 x1_3 x1_4 x1_5 x1_6 x1_7 x1_8 x1_9 x3 b0 => X15 k kp (m15 x1_0 x1_1 x1_2 x1_3 x1_4 x1_5 x1_6 x1_7 x1_8 x1_9 x3 b0)) x1_0 x1_1 x1_2 x1_3 x1_4 x1_5 x1_6 x1_7 x1_8 x1_9 x3 x88 b0 (fun y0 => k (.v (.string y0)) []) :=
  Eq.mp (by kernel_rfl) ((atP_run (j2000014_ag k kp) (m2000014 x1_0 x1_1 x1_2 x1_3 x1_4 x1_5 x1_6 x1_7 x1_8 x1_9 x3 x88 b0)).trans (j2000014_c k kp (JJ k kp) (LL k kp) x1_0 x1_1 x1_2 x1_3 x1_4 x1_5 x1_6 x1_7 x1_8 x1_9 x3 x88 b0))
theorem j2000014_eq (k kp : KT) (x1_0 x1_1 : Int) (x1_2 x1_3 x1_4 : Int) (x1_5 : Zq6) (x1_6 : BA) (x1_7 : Int) (x1_8 : LB) (x1_9 : LI) (x3 : BA) (x88 : Bool) (b0 : LB) : X2000014 k kp (m2000014 x1_0 x1_1 x1_2 x1_3 x1_4 x1_5 x1_6 x1_7 x1_8 x1_9 x3 x88 b0) = j2000014' x1_0 x1_1 x1_2 x1_3 x1_4 x1_5 x1_6 x1_7 x1_8 x1_9 x3 x88 b0 (fun y0 => k (.v (.string y0)) []) := by
  rw [j2000014_raw]; simp only [j15_eq]; first | done | rfl
theorem j13_c (k kp : KT) (J L : Nat → St → Prop) (x1_0 x1_1 : Int) (x1_2 x1_3 x1_4 : Int) (x1_5 : Zq6) (x1_6 : BA) (x1_7 : Int) (x1_8 : LB) (x1_9 : LI) (x3 : BA) (b0 : LB) : runC cfg 13 J L (pick none' []) [1, 1, 1, 1, 1, 1, 1, 1, 1] body (topK cfg Try.f13 k kp) (m13 x1_0 x1_1 x1_2 x1_3 x1_4 x1_5 x1_6 x1_7 x1_8 x1_9 x3 b0) = j13 (fun x1_0 x1_1 x1_2 x1_3 x1_4 x1_5 x1_6 x1_7 x1_8 x1_9 x3 x88 b0 => J 2000014 (m2000014 x1_0 x1_1 x1_2 x1_3 x1_4 x1_5 x1_6 x1_7 x1_8 x1_9 x3 x88 b0)) x1_0 x1_1 x1_2 x1_3 x1_4 x1_5 x1_6 x1_7 x1_8 x1_9 x3 b0 (fun y0 => k (.v (.string y0)) []) := by kernel_rfl
theorem j13_ag (k kp : KT) : agPL cfg 13 (JJ k kp) (LL k kp) [1, 1, 1, 1, 1, 1, 1, 1, 1] body = agPR cfg 13 (pick none' []) [1, 1, 1, 1, 1, 1, 1, 1, 1] body (topK cfg Try.f13 k kp) := by kernel_rfl
theorem j13_raw (k kp : KT) (x1_0 x1_1 : Int) (x1_2 x1_3 x1_4 : Int) (x1_5 : Zq6) (x1_6 : BA) (x1_7 : Int) (x1_8 : LB) (x1_9 : LI) (x3 : BA) (b0 : LB) : X13 k kp (m13 x1_0 x1_1 x1_2 x1_3 x1_4 x1_5 x1_6 x1_7 x1_8 x1_9 x3 b0) = j13 (fun x1_0 x1_1 x1_2 x1_3 x1_4 x1_5 x1_6 x1_7 x1_8 x1_9 x3 x88 b0 => X2000014 k kp (m2000014 x1_0 x1_1 x1_2 x1_3 x1_4 x1_5 x1_6 x1_7 x1_8 x1_9 x3 x88 b0)) x1_0 x1_1 x1_2 x1_3 x1_4 x1_5 x1_6 x1_7 x1_8 x1_9 x3 b0 (fun y0 => k (.v (.string y0)) []) :=
  Eq.mp (by kernel_rfl) ((atP_run (j13_ag k kp) (m13 x1_0 x1_1 x1_2 x1_3 x1_4 x1_5 x1_6 x1_7 x1_8 x1_9 x3 b0)).trans (j13_c k kp (JJ k kp) (LL k kp) x1_0 x1_1 x1_2 x1_3 x1_4 x1_5 x1_6 x1_7 x1_8 x1_9 x3 b0))
theorem j13_eq (k kp : KT) (x1_0 x1_1 : Int) (x1_2 x1_3 x1_4 : Int) (x1_5 : Zq6) (x1_6 : BA) (x1_7 : Int) (x1_8 : LB) (x1_9 : LI) (x3 : BA) (b0 : LB) : X13 k kp (m13 x1_0 x1_1 x1_2 x1_3 x1_4 x1_5 x1_6 x1_7 x1_8 x1_9 x3 b0) = j13' x1_0 x1_1 x1_2 x1_3 x1_4 x1_5 x1_6 x1_7 x1_8 x1_9 x3 b0 (fun y0 => k (.v (.string y0)) []) := by
  rw [j13_raw]; simp only [j2000014_eq]; first | done | rfl
theorem j2000012_c (k kp : KT) (J L : Nat → St → Prop) (x1_0 x1_1 : Int) (x1_2 x1_3 x1_4 : Int) (x1_5 : Zq6) (x1_6 : BA) (x1_7 : Int) (x1_8 : LB) (x1_9 : LI) (x3 : BA) (x64 : Bool) (b0 : LB) : runC cfg 2000012 J L (pick none' []) [1, 1, 1, 1, 1, 1, 1, 1, 0, 1] body (topK cfg Try.f13 k kp) (m2000012 x1_0 x1_1 x1_2 x1_3 x1_4 x1_5 x1_6 x1_7 x1_8 x1_9 x3 x64 b0) = j2000012 (fun x1_0 x1_1 x1_2 x1_3 x1_4 x1_5 x1_6 x1_7 x1_8 x1_9 x3 b0 => J 13 (m13 x1_0 x1_1 x1_2 x1_3 x1_4 x1_5 x1_6 x1_7 x1_8 x1_9 x3 b0)) x1_0 x1_1 x1_2 x1_3 x1_4 x1_5 x1_6 x1_7 x1_8 x1_9 x3 x64 b0 (fun y0 => k (.v (.string y0)) []) := by kernel_rfl
theorem j2000012_ag (k kp : KT) : agPL cfg 2000012 (JJ k kp) (LL k kp) [1, 1, 1, 1, 1, 1, 1, 1, 0, 1] body = agPR cfg 2000012 (pick none' []) [1, 1, 1, 1, 1, 1, 1, 1, 0, 1] body (topK cfg Try.f13 k kp) := by kernel_rfl
theorem j2000012_raw (k kp : KT) (x1_0 x1_1 : Int) (x1_2 x1_3 x1_4 : Int) (x1_5 : Zq6) (x1_6 : BA) (x1_7 : Int) (x1_8 : LB) (x1_9 : LI) (x3 : BA) (x64 : Bool) (b0 : LB) : X2000012 k kp (m2000012 x1_0 x1_1 x1_2 x1_3 x1_4 x1_5 x1_6 x1_7 x1_8 x1_9 x3 x64 b0) = j2000012 (fun x1_0 x1_1 x1_2 x1_3 x1_4 x1_5 x1_6 x1_7 x1_8 x1_9 x3 b0 => X13 k kp (m13 x1_0 x1_1 x1_2 x1_3 x1_4 x1_5 x1_6 x1_7 x1_8 x1_9 x3 b0)) x1_0 x1_1 x1_2 x1_3 x1_4 x1_5 x1_6 x1_7 x1_8 x1_9 x3 x64 b0 (fun y0 => k (.v (.string y0)) []) :=
  Eq.mp (by kernel_rfl) ((atP_run (j2000012_ag k kp) (m2000012 x1_0 x1_1 x1_2 x1_3 x1_4 x1_5 x1_6 x1_7 x1_8 x1_9 x3 x64 b0)).trans (j2000012_c k kp (JJ k kp) (LL k kp) x1_0 x1_1 x1_2 x1_3 x1_4 x1_5 x1_6 x1_7 x1_8 x1_9 x3 x64 b0))
theorem j2000012_eq (k kp : KT) (x1_0 x1_1 : Int) (x1_2 x1_3 x1_4 : Int) (x1_5 : Zq6) (x1_6 : BA) (x1_7 : Int) (x1_8 : LB) (x1_9 : LI) (x3 : BA) (x64 : Bool) (b0 : LB) : X2000012 k kp (m2000012 x1_0 x1_1 x1_2 x1_3 x1_4 x1_5 x1_6 x1_7 x1_8 x1_9 x3 x64 b0) = j2000012' x1_0 x1_1 x1_2 x1_3 x1_4 x1_5 x1_6 x1_7 x1_8 x1_9 x3 x64 b0 (fun y0 => k (.v (.string y0)) []) := by
  rw [j2000012_raw]; simp only [j13_eq]; first | done | rfl
theorem j7_c (k kp : KT) (J L : Nat → St → Prop) (x1_0 x1_1 : Int) (x1_2 x1_3 x1_4 : Int) (x1_5 : Zq6) (x1_6 : BA) (x1_7 : Int) (x1_8 : LB) (x1_9 : LI) (x3 b0_0 b0_1 : BA) (b0_2 : LB) (b0_3 : Int) (b0_4 : Bool) : runC cfg 7 J L (pick none' []) [1, 1, 1, 1, 1] body (topK cfg Try.f13 k kp) (m7 x1_0 x1_1 x1_2 x1_3 x1_4 x1_5 x1_6 x1_7 x1_8 x1_9 x3 b0_0 b0_1 b0_2 b0_3 b0_4) = j7 (fun x1_0 x1_1 x1_2 x1_3 x1_4 x1_5 x1_6 x1_7 x1_8 x1_9 x3 x64 b0 => J 2000012 (m2000012 x1_0 x1_1 x1_2 x1_3 x1_4 x1_5 x1_6 x1_7 x1_8 x1_9 x3 x64 b0)) x1_0 x1_1 x1_2 x1_3 x1_4 x1_5 x1_6 x1_7 x1_8 x1_9 x3 b0_0 b0_1 b0_2 b0_3 b0_4 (fun y0 => k (.v (.string y0)) []) := by kernel_rfl
theorem j7_ag (k kp : KT) : agPL cfg 7 (JJ k kp) (LL k kp) [1, 1, 1, 1, 1] body = agPR cfg 7 (pick none' []) [1, 1, 1, 1, 1] body (topK cfg Try.f13 k kp) := by kernel_rfl
theorem j7_raw (k kp : KT) (x1_0 x1_1 : Int) (x1_2 x1_3 x1_4 : Int) (x1_5 : Zq6) (x1_6 : BA) (x1_7 : Int) (x1_8 : LB) (x1_9 : LI) (x3 b0_0 b0_1 : BA) (b0_2 : LB) (b0_3 : Int) (b0_4 : Bool) : X7 k kp (m7 x1_0 x1_1 x1_2 x1_3 x1_4 x1_5 x1_6 x1_7 x1_8 x1_9 x3 b0_0 b0_1 b0_2 b0_3 b0_4) = j7 (fun x1_0 x1_1 x1_2 x1_3 x1_4 x1_5 x1_6 x1_7 x1_8 x1_9 x3 x64 b0 => X2000012 k kp (m2000012 x1_0 x1_1 x1_2 x1_3 x1_4 x1_5 x1_6 x1_7 x1_8 x1_9 x3 x64 b0)) x1_0 x1_1 x1_2 x1_3 x1_4 x1_5 x1_6 x1_7 x1_8 x1_9 x3 b0_0 b0_1 b0_2 b0_3 b0_4 (fun y0 => k (.v (.string y0)) []) :=
  Eq.mp (by kernel_rfl) ((atP_run (j7_ag k kp) (m7 x1_0 x1_1 x1_2 x1_3 x1_4 x1_5 x1_6 x1_7 x1_8 x1_9 x3 b0_0 b0_1 b0_2 b0_3 b0_4)).trans (j7_c k kp (JJ k kp) (LL k kp) x1_0 x1_1 x1_2 x1_3 x1_4 x1_5 x1_6 x1_7 x1_8 x1_9 x3 b0_0 b0_1 b0_2 b0_3 b0_4))
theorem j7_eq (k kp : KT) (x1_0 x1_1 : Int) (x1_2 x1_3 x1_4 : Int) (x1_5 : Zq6) (x1_6 : BA) (x1_7 : Int) (x1_8 : LB) (x1_9 : LI) (x3 b0_0 b0_1 : BA) (b0_2 : LB) (b0_3 : Int) (b0_4 : Bool) : X7 k kp (m7 x1_0 x1_1 x1_2 x1_3 x1_4 x1_5 x1_6 x1_7 x1_8 x1_9 x3 b0_0 b0_1 b0_2 b0_3 b0_4) = j7' x1_0 x1_1 x1_2 x1_3 x1_4 x1_5 x1_6 x1_7 x1_8 x1_9 x3 b0_0 b0_1 b0_2 b0_3 b0_4 (fun y0 => k (.v (.string y0)) []) := by
  rw [j7_raw]; simp only [j2000012_eq]; first | done | rfl
theorem j4_c (k kp : KT) (J L : Nat → St → Prop) (x1_0 x1_1 : Int) (x1_2 x1_3 x1_4 : Int) (x1_5 : Zq6) (x1_6 : BA) (x1_7 : Int) (x1_8 : LB) (x1_9 : LI) (x3 : BA) : runC cfg 4 J L (pick none' []) [1, 1, 1] body (topK cfg Try.f13 k kp) (m4 x1_0 x1_1 x1_2 x1_3 x1_4 x1_5 x1_6 x1_7 x1_8 x1_9 x3) = j4 (fun x1_0 x1_1 x1_2 x1_3 x1_4 x1_5 x1_6 x1_7 x1_8 x1_9 x3 b0_0 b0_1 b0_2 b0_3 b0_4 => J 7 (m7 x1_0 x1_1 x1_2 x1_3 x1_4 x1_5 x1_6 x1_7 x1_8 x1_9 x3 b0_0 b0_1 b0_2 b0_3 b0_4)) x1_0 x1_1 x1_2 x1_3 x1_4 x1_5 x1_6 x1_7 x1_8 x1_9 x3 (fun y0 => k (.v (.string y0)) []) := by kernel_rfl
theorem j4_ag (k kp : KT) : agPL cfg 4 (JJ k kp) (LL k kp) [1, 1, 1] body = agPR cfg 4 (pick none' []) [1, 1, 1] body (topK cfg Try.f13 k kp) := by kernel_rfl
theorem j4_raw (k kp : KT) (x1_0 x1_1 : Int) (x1_2 x1_3 x1_4 : Int) (x1_5 : Zq6) (x1_6 : BA) (x1_7 : Int) (x1_8 : LB) (x1_9 : LI) (x3 : BA) : X4 k kp (m4 x1_0 x1_1 x1_2 x1_3 x1_4 x1_5 x1_6 x1_7 x1_8 x1_9 x3) = j4 (fun x1_0 x1_1 x1_2 x1_3 x1_4 x1_5 x1_6 x1_7 x1_8 x1_9 x3 b0_0 b0_1 b0_2 b0_3 b0_4 => X7 k kp (m7 x1_0 x1_1 x1_2 x1_3 x1_4 x1_5 x1_6 x1_7 x1_8 x1_9 x3 b0_0 b0_1 b0_2 b0_3 b0_4)) x1_0 x1_1 x1_2 x1_3 x1_4 x1_5 x1_6 x1_7 x1_8 x1_9 x3 (fun y0 => k (.v (.string y0)) []) :=
  Eq.mp (by kernel_rfl) ((atP_run (j4_ag k kp) (m4 x1_0 x1_1 x1_2 x1_3 x1_4 x1_5 x1_6 x1_7 x1_8 x1_9 x3)).trans (j4_c k kp (JJ k kp) (LL k kp) x1_0 x1_1 x1_2 x1_3 x1_4 x1_5 x1_6 x1_7 x1_8 x1_9 x3))
theorem j4_eq (k kp : KT) (x1_0 x1_1 : Int) (x1_2 x1_3 x1_4 : Int) (x1_5 : Zq6) (x1_6 : BA) (x1_7 : Int) (x1_8 : LB) (x1_9 : LI) (x3 : BA) : X4 k kp (m4 x1_0 x1_1 x1_2 x1_3 x1_4 x1_5 x1_6 x1_7 x1_8 x1_9 x3) = j4' x1_0 x1_1 x1_2 x1_3 x1_4 x1_5 x1_6 x1_7 x1_8 x1_9 x3 (fun y0 => k (.v (.string y0)) []) := by
  rw [j4_raw]; simp only [j7_eq]; first | done | rfl
theorem c_c (k kp : KT) (J L : Nat → St → Prop) (x0_0 x0_1_0 : Int) (x0_1_1 x0_1_2 x0_1_3 : Int) (x0_2 : Zq6) (x0_3 : BA) (x0_4 : Int) (x0_5 : LB) (x0_6 : LI) : runC cfg 1000001 J L none'' [] body (topK cfg Try.f13 k kp) (st0 Try.f13 [(.agg [(.v (.int .i64 x0_0)), (.v (.int .i64 x0_1_0)), (.v (.int .i64 x0_1_1)), (.v (.int .i64 x0_1_2)), (.v (.int .i64 x0_1_3)), (.fz Zy0 x0_2), (.v (.string x0_3)), (.v (.int .i64 x0_4)), (.fz Ty.str x0_5), (.fz Zy2 x0_6)])] []) = c (fun x1_0 x1_1 x1_2 x1_3 x1_4 x1_5 x1_6 x1_7 x1_8 x1_9 x3 => J 4 (m4 x1_0 x1_1 x1_2 x1_3 x1_4 x1_5 x1_6 x1_7 x1_8 x1_9 x3)) x0_0 x0_1_0 x0_1_1 x0_1_2 x0_1_3 x0_2 x0_3 x0_4 x0_5 x0_6 (fun y0 => k (.v (.string y0)) []) := by kernel_rfl
theorem c_ag (k kp : KT) : agPL cfg 1000001 (JJ k kp) (LL k kp) [] body = agPR cfg 1000001 none'' [] body (topK cfg Try.f13 k kp) := by kernel_rfl
theorem body_is : Try.f13.body = some body := by kernel_rfl
theorem c_raw (k kp : KT) (x0_0 x0_1_0 : Int) (x0_1_1 x0_1_2 x0_1_3 : Int) (x0_2 : Zq6) (x0_3 : BA) (x0_4 : Int) (x0_5 : LB) (x0_6 : LI) : funW cfg Try.f13 [(.agg [(.v (.int .i64 x0_0)), (.v (.int .i64 x0_1_0)), (.v (.int .i64 x0_1_1)), (.v (.int .i64 x0_1_2)), (.v (.int .i64 x0_1_3)), (.fz Zy0 x0_2), (.v (.string x0_3)), (.v (.int .i64 x0_4)), (.fz Ty.str x0_5), (.fz Zy2 x0_6)])] [] k kp = c (fun x1_0 x1_1 x1_2 x1_3 x1_4 x1_5 x1_6 x1_7 x1_8 x1_9 x3 => X4 k kp (m4 x1_0 x1_1 x1_2 x1_3 x1_4 x1_5 x1_6 x1_7 x1_8 x1_9 x3)) x0_0 x0_1_0 x0_1_1 x0_1_2 x0_1_3 x0_2 x0_3 x0_4 x0_5 x0_6 (fun y0 => k (.v (.string y0)) []) :=
  Eq.mp (by kernel_rfl) ((funW_run (AG := none'') body_is (c_ag k kp) [(.agg [(.v (.int .i64 x0_0)), (.v (.int .i64 x0_1_0)), (.v (.int .i64 x0_1_1)), (.v (.int .i64 x0_1_2)), (.v (.int .i64 x0_1_3)), (.fz Zy0 x0_2), (.v (.string x0_3)), (.v (.int .i64 x0_4)), (.fz Ty.str x0_5), (.fz Zy2 x0_6)])] []).trans (c_c k kp (JJ k kp) (LL k kp) x0_0 x0_1_0 x0_1_1 x0_1_2 x0_1_3 x0_2 x0_3 x0_4 x0_5 x0_6))
theorem f_eq (k kp : KT) (x0_0 x0_1_0 : Int) (x0_1_1 x0_1_2 x0_1_3 : Int) (x0_2 : Zq6) (x0_3 : BA) (x0_4 : Int) (x0_5 : LB) (x0_6 : LI) : funW cfg Try.f13 [(.agg [(.v (.int .i64 x0_0)), (.v (.int .i64 x0_1_0)), (.v (.int .i64 x0_1_1)), (.v (.int .i64 x0_1_2)), (.v (.int .i64 x0_1_3)), (.fz Zy0 x0_2), (.v (.string x0_3)), (.v (.int .i64 x0_4)), (.fz Ty.str x0_5), (.fz Zy2 x0_6)])] [] k kp = f x0_0 x0_1_0 x0_1_1 x0_1_2 x0_1_3 x0_2 x0_3 x0_4 x0_5 x0_6 (fun y0 => k (.v (.string y0)) []) := by
  rw [f_def, c_raw]; simp only [j4_eq]; first | done | rfl
noncomputable def ent0 : Entry := fun args blks k _ => match args, blks with
  | [d0], [] => aAgg 10 d0 fun l => aCons l fun d0_0 l => aCons l fun d0_1 l => aCons l fun d0_2 l => aCons l fun d0_3 l => aCons l fun d0_4 l => aCons l fun d0_5 l => aCons l fun d0_6 l => aCons l fun d0_7 l => aCons l fun d0_8 l => aCons l fun d0_9 l => aNil l (aInt IntKind.i64 d0_0 fun x0_0 => aInt IntKind.i64 d0_1 fun x0_1_0 => aInt IntKind.i64 d0_2 fun x0_1_1 => aInt IntKind.i64 d0_3 fun x0_1_2 => aInt IntKind.i64 d0_4 fun x0_1_3 => aFz Zy0 d0_5 fun x0_2 => aStr d0_6 fun x0_3 => aInt IntKind.i64 d0_7 fun x0_4 => aFz Ty.str d0_8 fun x0_5 => aFz Zy2 d0_9 fun x0_6 => f x0_0 x0_1_0 x0_1_1 x0_1_2 x0_1_3 x0_2 x0_3 x0_4 x0_5 x0_6 (fun y0 => k (.v (.string y0)) []))
  | _, _ => False
noncomputable def ent : Entry := fun args blks k kp => ent0 (convB [.cells [none, none, none, none, none, some Zy0, none, none, some Ty.str, some Zy2]] args) blks k kp
theorem ok : EntOk Try.prog 0 0 13 ent := by
  refine EntOk.convB (EntOk.of (funW_ok (cfg := cfg) (tyOk_of rfl rfl tyL_ok) (eqOk_of (P := Try.prog) rfl rfl (by kernel_rfl)) mixed_ok (tab_ok ?_) Try.func13 (by rfl) (by rfl)) ?_) _
  · intro p hp
    simp only [List.mem_cons, List.not_mem_nil, or_false] at hp
    rcases hp with rfl | rfl | rfl | rfl | rfl | rfl | rfl
    · exact N15.ok
    · exact N40.ok
    · exact N33.ok
    · exact N41.ok
    · exact N32.ok
    · exact N34.ok
    · exact N42.ok
  · intro args blks k kp h k' kp'
    match args, blks, h with
    | [d0], [], h =>
    dsimp only [ent0] at h
    have h9 := aAgg_elim h; clear h; obtain ⟨_, rfl, h⟩ := h9
    have h9 := aCons_elim h; clear h; obtain ⟨d0_0, _, rfl, h⟩ := h9
    have h9 := aCons_elim h; clear h; obtain ⟨d0_1, _, rfl, h⟩ := h9
    have h9 := aCons_elim h; clear h; obtain ⟨d0_2, _, rfl, h⟩ := h9
    have h9 := aCons_elim h; clear h; obtain ⟨d0_3, _, rfl, h⟩ := h9
    have h9 := aCons_elim h; clear h; obtain ⟨d0_4, _, rfl, h⟩ := h9
    have h9 := aCons_elim h; clear h; obtain ⟨d0_5, _, rfl, h⟩ := h9
    have h9 := aCons_elim h; clear h; obtain ⟨d0_6, _, rfl, h⟩ := h9
    have h9 := aCons_elim h; clear h; obtain ⟨d0_7, _, rfl, h⟩ := h9
    have h9 := aCons_elim h; clear h; obtain ⟨d0_8, _, rfl, h⟩ := h9
    have h9 := aCons_elim h; clear h; obtain ⟨d0_9, _, rfl, h⟩ := h9
    have h9 := aNil_elim h; clear h; obtain ⟨rfl, h⟩ := h9
    have h9 := aInt_elim h; clear h; obtain ⟨x0_0, rfl, h⟩ := h9
    have h9 := aInt_elim h; clear h; obtain ⟨x0_1_0, rfl, h⟩ := h9
    have h9 := aInt_elim h; clear h; obtain ⟨x0_1_1, rfl, h⟩ := h9
    have h9 := aInt_elim h; clear h; obtain ⟨x0_1_2, rfl, h⟩ := h9
    have h9 := aInt_elim h; clear h; obtain ⟨x0_1_3, rfl, h⟩ := h9
    have h9 := aFz_elim (t := Zy0) h; clear h; obtain ⟨x0_2, rfl, h⟩ := h9
    have h9 := aStr_elim h; clear h; obtain ⟨x0_3, rfl, h⟩ := h9
    have h9 := aInt_elim h; clear h; obtain ⟨x0_4, rfl, h⟩ := h9
    have h9 := aFz_elim (t := Ty.str) h; clear h; obtain ⟨x0_5, rfl, h⟩ := h9
    have h9 := aFz_elim (t := Zy2) h; clear h; obtain ⟨x0_6, rfl, h⟩ := h9
    exact (f_eq k' kp' x0_0 x0_1_0 x0_1_1 x0_1_2 x0_1_3 x0_2 x0_3 x0_4 x0_5 x0_6).symm
end N13
end Go.Proofs.Yh

