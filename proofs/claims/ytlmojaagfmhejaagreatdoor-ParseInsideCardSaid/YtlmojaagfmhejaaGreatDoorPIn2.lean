/- Functions of the program as plain functions, each with the proof that the code comes to them. -/
import Derived.Test.YtlmojaagfmhejaaGreatDoorPIn0
import Derived.Test.YtlmojaagfmhejaaGreatDoorPIn1
import Derived.Test.YtlmojaagfmhejaaGreatDoorT3
set_option linter.unusedVariables false
set_option linter.unusedSimpArgs false
set_option linter.unusedSectionVars false
set_option maxRecDepth 100000
set_option maxHeartbeats 4000000
namespace Go.Proofs.Yf
open Go Go.Aw Go.Proofs
namespace N101
noncomputable def cfg : Cfg := { cb with E := tab [(98, N98.ent), (99, N99.ent), (96, N96.ent), (95, N95.ent), (146, N146.ent), (94, N94.ent), (144, N144.ent), (147, N147.ent), (148, N148.ent)], atSeq := tab [(3, ks [0, 2, 3]), (5, ks [0, 2, 3]), (9, ks [0, 2, 3]), (12, ⟨[(0, .keep), (2, .keep), (3, .cells [(2, some 82, (Ty.pair Zy3 Zy0))])]⟩), (14, ks [0, 2, 3]), (15, ks [2, 3])], atLoop := tab [(13, ⟨[(0, .keep), (2, .keep), (3, .cells [(3, some 84, (Ty.pair Zy3 (Ty.pair (Ty.pair Zy3 Zy0) (Ty.pair (Ty.list (Ty.pair Zy3 Zy0)) (Ty.pair Ty.str (Ty.pair Zy3 (Ty.pair (Ty.list Ty.str) (Ty.list Zy3))))))))])]⟩)], lt := [30, 31, 32, 34, 36, 54, 55, 56, 58, 60], ms := [(31, 3), (55, 3)], ns := true }
noncomputable def body : Code := bodyOf Tryz.f101
def j3 (j5 : Zq0 → Int → BA → Bool → BA → Bool → Prop) (aa : Zq0) (ab : Int) (ad : BA) (ae : Bool) (af : BA) (ac : Bool) (k : BA → Bool → Zq2 → (List Zq1) → Zq0 → Int → Prop) (kp : Err → Prop) : Prop :=
 (br ac (j5 aa (IntKind.i64.wrap (ab + (1 : Int))) ad ae af ac) (j5 aa ab ad ae af ac))
def j5 (j9 : Zq0 → Int → BA → Bool → BA → Bool → Prop) (aa : Zq0) (ab : Int) (ad : BA) (ae : Bool) (af : BA) (ac : Bool) (k : BA → Bool → Zq2 → (List Zq1) → Zq0 → Int → Prop) (kp : Err → Prop) : Prop :=
 (N96.f (1 : Int) aa ab (fun gd bf ge gf gh bg bh => (br ac (N95.f (ByteArray.mk #[46]) bg bh (fun bt bu => (N96.f (1 : Int) bt bu (fun gi bv gj gk gl bw bx => (N146.f bf bv (fun gm => (j9 bw bx ad ae gm ac)))) kp)) kp) (j9 bg bh ad ae bf ac))) kp)
def j9 (j12 : Zq0 → Int → BA → Bool → BA → Bool → Zq2 → Prop) (aa : Zq0) (ab : Int) (ad : BA) (ae : Bool) (af : BA) (ac : Bool) (k : BA → Bool → Zq2 → (List Zq1) → Zq0 → Int → Prop) (kp : Err → Prop) : Prop :=
 (N94.f (ByteArray.mk #[91]) aa ab (fun gn bi bj => (br gn (N144.f bi bj (fun bz b0 go => (N95.f (ByteArray.mk #[93]) bz b0 (fun b1 b2 => (j12 b1 b2 ad ae af ac go)) kp)) kp) (j12 bi bj ad ae af ac ([] : List (Int × (Int × (Int × Int))))))))
def j12 (l13 : Zq0 → Int → BA → Bool → BA → Bool → Zq2 → (List Zq1) → Prop) (aa : Zq0) (ab : Int) (ad : BA) (ae : Bool) (af : BA) (ac : Bool) (b3 : Zq2) (k : BA → Bool → Zq2 → (List Zq1) → Zq0 → Int → Prop) (kp : Err → Prop) : Prop :=
 (N95.f (ByteArray.mk #[58]) aa ab (fun b5 b6 => (l13 b5 b6 ad ae af ac b3 ([] : List Zq1))) kp)
def l13 (j14 : Zq0 → Int → BA → Bool → BA → Bool → Zq2 → (List Zq1) → Prop) (j15 : Zq0 → Int → BA → Bool → BA → Bool → Zq2 → (List Zq1) → Prop) (aa : Zq0) (ab : Int) (ad : BA) (ae : Bool) (af : BA) (ac : Bool) (b3 : Zq2) (b4 : (List Zq1)) (k : BA → Bool → Zq2 → (List Zq1) → Zq0 → Int → Prop) (kp : Err → Prop) : Prop :=
 (N98.f (ByteArray.mk #[125]) aa ab (fun gb ah ai => (br (!gb) (N147.f ah ai (fun gc aj ak => (br (!gc) (j14 aj ak ad ae af ac b3 b4) (j15 aj ak ad ae af ac b3 b4)))) (j15 ah ai ad ae af ac b3 b4))))
def j14 (ag13 : Zq0 → Int → BA → Bool → BA → Bool → Zq2 → (List Zq1) → Prop) (aa : Zq0) (ab : Int) (ad : BA) (ae : Bool) (af : BA) (ac : Bool) (b3 : Zq2) (b4 : (List Zq1)) (k : BA → Bool → Zq2 → (List Zq1) → Zq0 → Int → Prop) (kp : Err → Prop) : Prop :=
 (N148.f aa ab (fun al am an ao ap aq ar au bm bn => ((room ((b4).length + (([(al, ((am, (an, (ao, ap))), (aq, (ar, (au, (([] : List BA), ([] : List Int)))))))] : List Zq1)).length) 136) ∧ (ag13 bm bn ad ae af ac b3 (b4 ++ ([(al, ((am, (an, (ao, ap))), (aq, (ar, (au, (([] : List BA), ([] : List Int)))))))] : List Zq1))))) (fun av aw ax ay az a0 a1 a2 a3 bo bp => ((room ((b4).length + (([(av, ((aw, (ax, (ay, az))), (a0, (a1, (a2, (a3, ([] : List Int)))))))] : List Zq1)).length) 136) ∧ (ag13 bo bp ad ae af ac b3 (b4 ++ ([(av, ((aw, (ax, (ay, az))), (a0, (a1, (a2, (a3, ([] : List Int)))))))] : List Zq1))))) (fun a4 a5 a6 a7 a8 a9 ba bb bc bd bq bs => ((room ((b4).length + (([(a4, ((a5, (a6, (a7, a8))), (a9, (ba, (bb, (bc, bd))))))] : List Zq1)).length) 136) ∧ (ag13 bq bs ad ae af ac b3 (b4 ++ ([(a4, ((a5, (a6, (a7, a8))), (a9, (ba, (bb, (bc, bd))))))] : List Zq1))))) kp)
def j15 (aa : Zq0) (ab : Int) (ad : BA) (ae : Bool) (af : BA) (ac : Bool) (b3 : Zq2) (b4 : (List Zq1)) (k : BA → Bool → Zq2 → (List Zq1) → Zq0 → Int → Prop) (kp : Err → Prop) : Prop :=
 (k af ac b3 b4 aa ab)
def c (j3 : Zq0 → Int → BA → Bool → BA → Bool → Prop) (aa : Zq0) (ab : Int) (k : BA → Bool → Zq2 → (List Zq1) → Zq0 → Int → Prop) (kp : Err → Prop) : Prop :=
 (N98.f (ByteArray.mk #[101, 100, 103, 101]) aa ab (fun b7 bk bl => (br b7 (N99.f bk bl (fun b8 gp gq gr gs b9 ga => (j3 b9 ga (ByteArray.mk #[]) false (ByteArray.mk #[]) (b8 == (1 : Int))))) (j3 bk bl (ByteArray.mk #[]) false (ByteArray.mk #[]) false))))
def j14' ag13 aa ab ad ae af ac b3 b4 k kp := j14 ag13 aa ab ad ae af ac b3 b4 k kp
def j15' aa ab ad ae af ac b3 b4 k kp := j15 aa ab ad ae af ac b3 b4 k kp
def l13' (aa : Zq0) (ab : Int) (ad : BA) (ae : Bool) (af : BA) (ac : Bool) (b3 : Zq2) (b4 : (List Zq1)) (k : BA → Bool → Zq2 → (List Zq1) → Zq0 → Int → Prop) (kp : Err → Prop) : Prop := ∃ n, loopS (fun ag (s : Zq0 × Int × BA × Bool × BA × Bool × Zq2 × (List Zq1)) => l13 (fun aa ab ad ae af ac b3 b4 => j14' (fun aa ab ad ae af ac b3 b4 => ag (aa, ab, ad, ae, af, ac, b3, b4)) aa ab ad ae af ac b3 b4 k kp) (fun aa ab ad ae af ac b3 b4 => j15' aa ab ad ae af ac b3 b4 k kp) s.1 s.2.1 s.2.2.1 s.2.2.2.1 s.2.2.2.2.1 s.2.2.2.2.2.1 s.2.2.2.2.2.2.1 s.2.2.2.2.2.2.2 k kp) n (aa, ab, ad, ae, af, ac, b3, b4)
def j12' aa ab ad ae af ac b3 k kp := j12 (fun aa ab ad ae af ac b3 b4 => l13' aa ab ad ae af ac b3 b4 k kp) aa ab ad ae af ac b3 k kp
def j9' aa ab ad ae af ac k kp := j9 (fun aa ab ad ae af ac b3 => j12' aa ab ad ae af ac b3 k kp) aa ab ad ae af ac k kp
def j5' aa ab ad ae af ac k kp := j5 (fun aa ab ad ae af ac => j9' aa ab ad ae af ac k kp) aa ab ad ae af ac k kp
def j3' aa ab ad ae af ac k kp := j3 (fun aa ab ad ae af ac => j5' aa ab ad ae af ac k kp) aa ab ad ae af ac k kp
def f0 aa ab k kp := c (fun aa ab ad ae af ac => j3' aa ab ad ae af ac k kp) aa ab k kp
noncomputable def f := sld f0
theorem f_def : f = f0 := sld_eq f0
def m3 (aa : Zq0) (ab : Int) (ad : BA) (ae : Bool) (af : BA) (ac : Bool) : St := { tmps := mkT 62 0 [(0, (.ptr 0 0)), (2, (.ptr 1 0)), (3, (.ptr 2 0))], hp := [(.box 124 [(.fz Zy1 aa), (.v (.int .i64 ab))]), (.box 80 [(.v (.string ad)), (.v (.bool ae)), (.v (Value.slice none 0 0)), (.v (Value.slice none 0 0))]), (.box 80 [(.v (.string af)), (.v (.bool ac)), (.v (Value.slice none 0 0)), (.v (Value.slice none 0 0))])], m := 1 }
def M3 (g : St → Prop) aa ab ad ae af ac := g (m3 aa ab ad ae af ac)
def m5 (aa : Zq0) (ab : Int) (ad : BA) (ae : Bool) (af : BA) (ac : Bool) : St := { tmps := mkT 62 0 [(0, (.ptr 0 0)), (2, (.ptr 1 0)), (3, (.ptr 2 0))], hp := [(.box 124 [(.fz Zy1 aa), (.v (.int .i64 ab))]), (.box 80 [(.v (.string ad)), (.v (.bool ae)), (.v (Value.slice none 0 0)), (.v (Value.slice none 0 0))]), (.box 80 [(.v (.string af)), (.v (.bool ac)), (.v (Value.slice none 0 0)), (.v (Value.slice none 0 0))])], m := 1 }
def M5 (g : St → Prop) aa ab ad ae af ac := g (m5 aa ab ad ae af ac)
def m9 (aa : Zq0) (ab : Int) (ad : BA) (ae : Bool) (af : BA) (ac : Bool) : St := { tmps := mkT 62 0 [(0, (.ptr 0 0)), (2, (.ptr 1 0)), (3, (.ptr 2 0))], hp := [(.box 124 [(.fz Zy1 aa), (.v (.int .i64 ab))]), (.box 80 [(.v (.string ad)), (.v (.bool ae)), (.v (Value.slice none 0 0)), (.v (Value.slice none 0 0))]), (.box 80 [(.v (.string af)), (.v (.bool ac)), (.v (Value.slice none 0 0)), (.v (Value.slice none 0 0))])], m := 1 }
def M9 (g : St → Prop) aa ab ad ae af ac := g (m9 aa ab ad ae af ac)
def m12 (aa : Zq0) (ab : Int) (ad : BA) (ae : Bool) (af : BA) (ac : Bool) (b3 : Zq2) : St := { tmps := mkT 62 0 [(0, (.ptr 0 0)), (2, (.ptr 1 0)), (3, (.ptr 2 0))], hp := [(.box 124 [(.fz Zy1 aa), (.v (.int .i64 ab))]), (.box 80 [(.v (.string ad)), (.v (.bool ae)), (.v (Value.slice none 0 0)), (.v (Value.slice none 0 0))]), (.box 80 [(.v (.string af)), (.v (.bool ac)), (.sl 3 0), (.v (Value.slice none 0 0))]), (.lst 82 (Ty.pair Zy3 Zy0) b3 0 false)], m := 1 }
def M12 (g : St → Prop) aa ab ad ae af ac b3 := g (m12 aa ab ad ae af ac b3)
def mL13 (aa : Zq0) (ab : Int) (ad : BA) (ae : Bool) (af : BA) (ac : Bool) (b3 : Zq2) (b4 : (List Zq1)) : St := { tmps := mkT 62 0 [(0, (.ptr 0 0)), (2, (.ptr 1 0)), (3, (.ptr 2 0))], hp := [(.box 124 [(.fz Zy1 aa), (.v (.int .i64 ab))]), (.box 80 [(.v (.string ad)), (.v (.bool ae)), (.v (Value.slice none 0 0)), (.v (Value.slice none 0 0))]), (.box 80 [(.v (.string af)), (.v (.bool ac)), (.sl 3 0), (.sl 4 0)]), (.lst 82 (Ty.pair Zy3 Zy0) b3 0 false), (.lst 84 (Ty.pair Zy3 (Ty.pair (Ty.pair Zy3 Zy0) (Ty.pair (Ty.list (Ty.pair Zy3 Zy0)) (Ty.pair Ty.str (Ty.pair Zy3 (Ty.pair (Ty.list Ty.str) (Ty.list Zy3))))))) b4 0 false)], m := 1 }
def ML13 (g : St → Prop) aa ab ad ae af ac b3 b4 := g (mL13 aa ab ad ae af ac b3 b4)
def m14 (aa : Zq0) (ab : Int) (ad : BA) (ae : Bool) (af : BA) (ac : Bool) (b3 : Zq2) (b4 : (List Zq1)) : St := { tmps := mkT 62 0 [(0, (.ptr 0 0)), (2, (.ptr 1 0)), (3, (.ptr 2 0))], hp := [(.box 124 [(.fz Zy1 aa), (.v (.int .i64 ab))]), (.box 80 [(.v (.string ad)), (.v (.bool ae)), (.v (Value.slice none 0 0)), (.v (Value.slice none 0 0))]), (.box 80 [(.v (.string af)), (.v (.bool ac)), (.sl 3 0), (.sl 4 0)]), (.lst 82 (Ty.pair Zy3 Zy0) b3 0 false), (.lst 84 (Ty.pair Zy3 (Ty.pair (Ty.pair Zy3 Zy0) (Ty.pair (Ty.list (Ty.pair Zy3 Zy0)) (Ty.pair Ty.str (Ty.pair Zy3 (Ty.pair (Ty.list Ty.str) (Ty.list Zy3))))))) b4 0 false)], m := 1 }
def M14 (g : St → Prop) aa ab ad ae af ac b3 b4 := g (m14 aa ab ad ae af ac b3 b4)
def m15 (aa : Zq0) (ab : Int) (ad : BA) (ae : Bool) (af : BA) (ac : Bool) (b3 : Zq2) (b4 : (List Zq1)) : St := { tmps := mkT 62 0 [(2, (.ptr 1 0)), (3, (.ptr 2 0))], hp := [(.box 124 [(.fz Zy1 aa), (.v (.int .i64 ab))]), (.box 80 [(.v (.string ad)), (.v (.bool ae)), (.v (Value.slice none 0 0)), (.v (Value.slice none 0 0))]), (.box 80 [(.v (.string af)), (.v (.bool ac)), (.sl 3 0), (.sl 4 0)]), (.lst 82 (Ty.pair Zy3 Zy0) b3 0 false), (.lst 84 (Ty.pair Zy3 (Ty.pair (Ty.pair Zy3 Zy0) (Ty.pair (Ty.list (Ty.pair Zy3 Zy0)) (Ty.pair Ty.str (Ty.pair Zy3 (Ty.pair (Ty.list Ty.str) (Ty.list Zy3))))))) b4 0 false)], m := 1 }
def M15 (g : St → Prop) aa ab ad ae af ac b3 b4 := g (m15 aa ab ad ae af ac b3 b4)
def K0 (k : KT) (b7 : BA) (gt : Bool) (gu : Zq2) (gv : (List Zq1)) (gw : Zq0) (gx : Int) : Prop := k (.agg [(.v (.string b7)), (.v (.bool gt)), (.fz (Ty.pair Zy3 Zy0) gu), (.fz (Ty.pair Zy3 (Ty.pair (Ty.pair Zy3 Zy0) (Ty.pair (Ty.list (Ty.pair Zy3 Zy0)) (Ty.pair Ty.str (Ty.pair Zy3 (Ty.pair (Ty.list Ty.str) (Ty.list Zy3))))))) gv)]) [(.box 124 [(.fz Zy1 gw), (.v (.int .i64 gx))])]
def KE (kp : KT) (e : Err) : Prop := kp (.er e) (List.replicate 1 .dead)
noncomputable def T (k kp : KT) := topK cfg Tryz.f101 k kp
noncomputable def X3 (k kp : KT) : St → Prop := atP cfg (pick none' []) [1, 1, 1] body (T k kp)
noncomputable def X5 (k kp : KT) : St → Prop := atP cfg (pick none' []) [1, 1, 1, 1] body (T k kp)
noncomputable def X9 (k kp : KT) : St → Prop := atP cfg (pick none' []) [1, 1, 1, 1, 1, 1] body (T k kp)
noncomputable def X12 (k kp : KT) : St → Prop := atP cfg (pick none' []) [1, 1, 1, 1, 1, 1, 1] body (T k kp)
noncomputable def YL13 (k kp : KT) : (St → Prop) → St → Prop := loopB cfg (sub [1, 1, 1, 1, 1, 1, 1, 1, 0, 0, 0] body) (contK cfg (pick none' []) [1, 1, 1, 1, 1, 1, 1, 1, 0, 0] body (T k kp))
noncomputable def XL13 (k kp : KT) : St → Prop := fun st => ∃ n, loopN (YL13 k kp) n st
noncomputable def X14 (k kp : KT) (ag13 : St → Prop) : St → Prop := atP cfg (pick none' [(13, ag13)]) [1, 1, 1, 1, 1, 1, 1, 1, 0, 0, 0, 1] body (T k kp)
noncomputable def X15 (k kp : KT) : St → Prop := atP cfg (pick none' []) [1, 1, 1, 1, 1, 1, 1, 1, 1] body (T k kp)
noncomputable def JJ (k kp : KT) : Nat → St → Prop := pick none' [(3, X3 k kp), (5, X5 k kp), (9, X9 k kp), (12, X12 k kp), (15, X15 k kp)]
noncomputable def LL (k kp : KT) : Nat → St → Prop := pick none' [(13, XL13 k kp)]
noncomputable def JJ_13 (k kp : KT) (ag13 : St → Prop) : Nat → St → Prop := pick none' [(3, X3 k kp), (5, X5 k kp), (9, X9 k kp), (12, X12 k kp), (14, X14 k kp ag13), (15, X15 k kp)]
noncomputable def LL_13 (k kp : KT) (ag13 : St → Prop) : Nat → St → Prop := pick none' [(13, XL13 k kp)]
theorem j14_eq (k kp ag13) : M14 (X14 k kp ag13) = fun aa ab ad ae af ac b3 b4 => j14' (fun aa ab ad ae af ac b3 b4 => ag13 (mL13 aa ab ad ae af ac b3 b4)) aa ab ad ae af ac b3 b4 (K0 k) (KE kp) := by
 funext aa ab ad ae af ac b3 b4
 exact raw_eq (own:=14) rfl (JJ_13 k kp ag13) (LL_13 k kp ag13) (fun J L => j14 (fun aa ab ad ae af ac b3 b4 => ag13 (mL13 aa ab ad ae af ac b3 b4)) aa ab ad ae af ac b3 b4 (K0 k) (KE kp)) (by kernel_rfl) (fun _ _ => by kernel_rfl) rfl
theorem j15_eq (k kp) : M15 (X15 k kp) = fun aa ab ad ae af ac b3 b4 => j15' aa ab ad ae af ac b3 b4 (K0 k) (KE kp) := by
 funext aa ab ad ae af ac b3 b4
 exact raw_eq (own:=15) rfl (JJ k kp) (LL k kp) (fun J L => j15 aa ab ad ae af ac b3 b4 (K0 k) (KE kp)) (by kernel_rfl) (fun _ _ => by kernel_rfl) rfl
theorem l13_eq (k kp) : ML13 (XL13 k kp) = fun aa ab ad ae af ac b3 b4 => l13' aa ab ad ae af ac b3 b4 (K0 k) (KE kp) := by
 funext aa ab ad ae af ac b3 b4
 exact loop_eq (mk := fun (s : Zq0 × Int × BA × Bool × BA × Bool × Zq2 × (List Zq1)) => match s with | (aa, ab, ad, ae, af, ac, b3, b4) => mL13 aa ab ad ae af ac b3 b4) (fun ag13 s => match s with | (aa, ab, ad, ae, af, ac, b3, b4) => raw_eq (own:=1000001) (cfg := cfg) (AG := (pick none' [(13, ag13)])) (p := [1, 1, 1, 1, 1, 1, 1, 1, 0, 0, 0]) (c := body) (K := (T k kp)) (st := mL13 aa ab ad ae af ac b3 b4) (by kernel_rfl) (JJ_13 k kp ag13) (LL_13 k kp ag13) (fun J L => l13 (M14 (J 14)) (M15 (J 15)) aa ab ad ae af ac b3 b4 (K0 k) (KE kp)) (by kernel_rfl) (fun _ _ => by kernel_rfl) (by erw [j14_eq k kp ag13, j15_eq k kp] <;> rfl)) (aa, ab, ad, ae, af, ac, b3, b4)
theorem j12_eq (k kp) : M12 (X12 k kp) = fun aa ab ad ae af ac b3 => j12' aa ab ad ae af ac b3 (K0 k) (KE kp) := by
 funext aa ab ad ae af ac b3
 exact raw_eq (own:=12) rfl (JJ k kp) (LL k kp) (fun J L => j12 (ML13 (L 13)) aa ab ad ae af ac b3 (K0 k) (KE kp)) (by kernel_rfl) (fun _ _ => by kernel_rfl) (by erw [l13_eq k kp] <;> rfl)
theorem j9_eq (k kp) : M9 (X9 k kp) = fun aa ab ad ae af ac => j9' aa ab ad ae af ac (K0 k) (KE kp) := by
 funext aa ab ad ae af ac
 exact raw_eq (own:=9) rfl (JJ k kp) (LL k kp) (fun J L => j9 (M12 (J 12)) aa ab ad ae af ac (K0 k) (KE kp)) (by kernel_rfl) (fun _ _ => by kernel_rfl) (by erw [j12_eq k kp] <;> rfl)
theorem j5_eq (k kp) : M5 (X5 k kp) = fun aa ab ad ae af ac => j5' aa ab ad ae af ac (K0 k) (KE kp) := by
 funext aa ab ad ae af ac
 exact raw_eq (own:=5) rfl (JJ k kp) (LL k kp) (fun J L => j5 (M9 (J 9)) aa ab ad ae af ac (K0 k) (KE kp)) (by kernel_rfl) (fun _ _ => by kernel_rfl) (by erw [j9_eq k kp] <;> rfl)
theorem j3_eq (k kp) : M3 (X3 k kp) = fun aa ab ad ae af ac => j3' aa ab ad ae af ac (K0 k) (KE kp) := by
 funext aa ab ad ae af ac
 exact raw_eq (own:=3) rfl (JJ k kp) (LL k kp) (fun J L => j3 (M5 (J 5)) aa ab ad ae af ac (K0 k) (KE kp)) (by kernel_rfl) (fun _ _ => by kernel_rfl) (by erw [j5_eq k kp] <;> rfl)
def pa (aa : Zq0) (ab : Int) : List D := [(.ptr 0 0)]
def pb (aa : Zq0) (ab : Int) : List Blk := [(.box 124 [(.fz Zy1 aa), (.v (.int .i64 ab))])]
theorem body_is : Tryz.f101.body = some body := by kernel_rfl
theorem f_eq (k kp aa ab) : funW cfg Tryz.f101 (pa aa ab) (pb aa ab) k kp = f aa ab (K0 k) (KE kp) :=
 raw_fun (own := 1000001) none'' (JJ k kp) (LL k kp) (fun J L => c (M3 (J 3)) aa ab (K0 k) (KE kp)) body_is (by kernel_rfl) (fun J L => by kernel_rfl) (by rw [f_def]; erw [j3_eq k kp] <;> rfl)
noncomputable def ent0 : Entry := fun args blks k kp => match args, blks with
 | [d0], [e0] => aPtr 0 0 d0 (aBox 124 e0 fun l => aCons l fun gy l => aCons l fun gz l => aNil l (aFz Zy1 gy fun aa => aInt IntKind.i64 gz fun ab => f aa ab (K0 k) (KE kp)))
 | _, _ => False
noncomputable def ent : Entry := cvE [.no] ent0
theorem ok : EntOk Tryz.prog 112 157 101 ent := by
 refine fnOk (cfg := cfg) rfl rfl rfl rfl (by kernel_rfl) ?_ Tryz.func101 (by rfl) (by rfl) ?_
 ·exact tab_c N98.ok <| tab_c N99.ok <| tab_c N96.ok <| tab_c N95.ok <| tab_c N146.ok <| tab_c N94.ok <| tab_c N144.ok <| tab_c N147.ok <| tab_c N148.ok <| tab_n
 ·intro args blks k kp h k' kp'
  match args, blks, h with
  | [d0], [e0], h =>
  dsimp only [ent0] at h
  repeat ((first|have q := aPtr_elim h|have q := aBox_elim h|have q := aCons_elim h|have q := aNil_elim h|have q := aFz_elim h|have q := aInt_elim h); clear h; first|obtain ⟨rfl, h⟩ := q|obtain ⟨_, rfl, h⟩ := q|obtain ⟨_, _, rfl, h⟩ := q)
  exact (f_eq ..).symm
end N101
namespace N112
noncomputable def cfg : Cfg := { cb with E := tab [], atSeq := tab [(2000002, ks [0, 8]), (3, ks [0])] }
noncomputable def body : Code := bodyOf Tryz.f112
def j2000002 (j3 : Int → Prop) (x0 : Int) (x8 : Bool) (k : BA → Prop) : Prop :=
 (br x8 (k (ByteArray.mk #[])) (j3 x0))
def j3 (x0 : Int) (k : BA → Prop) : Prop :=
 ((inB x0 (IntKind.i64.wrap (x0 + (1 : Int))) ((((ByteArray.mk #[103, 120])).size : Nat) : Int)) ∧ (k (ByteArray.extract (ByteArray.mk #[103, 120]) (Int.toNat x0) (Int.toNat (IntKind.i64.wrap (x0 + (1 : Int)))))))
def c (j2000002 : Int → Bool → Prop) (x0 : Int) (k : BA → Prop) : Prop :=
 (br (decide (x0 < (0 : Int))) (j2000002 x0 true) (j2000002 x0 (decide (x0 ≥ (2 : Int)))))
def j3' x0 k := j3 x0 k
def j2000002' x0 x8 k := j2000002 (fun x0 => j3' x0 k) x0 x8 k
def f0 x0 k := c (fun x0 x8 => j2000002' x0 x8 k) x0 k
noncomputable def f := sld f0
theorem f_def : f = f0 := sld_eq f0
def m2000002 (x0 : Int) (x8 : Bool) : St := { tmps := mkT 13 0 [(0, (.v (.int .i64 x0))), (8, (.v (.bool x8)))], hp := [], m := 0 }
def M2000002 (g : St → Prop) x0 x8 := g (m2000002 x0 x8)
def m3 (x0 : Int) : St := { tmps := mkT 13 0 [(0, (.v (.int .i64 x0)))], hp := [], m := 0 }
def M3 (g : St → Prop) x0 := g (m3 x0)
def K0 (k : KT) (y0 : BA) : Prop := k (.v (.string y0)) []
noncomputable def T (k kp : KT) := topK cfg Tryz.f112 k kp
noncomputable def X2000002 (k kp : KT) : St → Prop := atP cfg (pick none' []) [1, 0, 1] body (T k kp)
noncomputable def X3 (k kp : KT) : St → Prop := atP cfg (pick none' []) [1, 1] body (T k kp)
noncomputable def JJ (k kp : KT) : Nat → St → Prop := pick none' [(2000002, X2000002 k kp), (3, X3 k kp)]
noncomputable def LL (k kp : KT) : Nat → St → Prop := pick none' []
theorem j3_eq (k kp) : M3 (X3 k kp) = fun x0 => j3' x0 (K0 k) := by
 funext x0
 exact raw_eq (own:=3) rfl (JJ k kp) (LL k kp) (fun J L => j3 x0 (K0 k)) (by kernel_rfl) (fun _ _ => by kernel_rfl) rfl
theorem j2000002_eq (k kp) : M2000002 (X2000002 k kp) = fun x0 x8 => j2000002' x0 x8 (K0 k) := by
 funext x0 x8
 exact raw_eq (own:=2000002) rfl (JJ k kp) (LL k kp) (fun J L => j2000002 (M3 (J 3)) x0 x8 (K0 k)) (by kernel_rfl) (fun _ _ => by kernel_rfl) (by erw [j3_eq k kp] <;> rfl)
def pa (x0 : Int) : List D := [(.v (.int .i64 x0))]
def pb (x0 : Int) : List Blk := []
theorem body_is : Tryz.f112.body = some body := by kernel_rfl
theorem f_eq (k kp x0) : funW cfg Tryz.f112 (pa x0) (pb x0) k kp = f x0 (K0 k) :=
 raw_fun (own := 1000001) none'' (JJ k kp) (LL k kp) (fun J L => c (M2000002 (J 2000002)) x0 (K0 k)) body_is (by kernel_rfl) (fun J L => by kernel_rfl) (by rw [f_def]; erw [j2000002_eq k kp] <;> rfl)
noncomputable def ent0 : Entry := fun args blks k _ => match args, blks with
 | [d0], [] => aInt IntKind.i64 d0 fun x0 => f x0 (K0 k)
 | _, _ => False
noncomputable def ent : Entry := cvE [.no] ent0
theorem ok : EntOk Tryz.prog 112 157 112 ent := by
 refine fnOk (cfg := cfg) rfl rfl rfl rfl (by kernel_rfl) ?_ Tryz.func112 (by rfl) (by rfl) ?_
 ·exact tab_n
 ·intro args blks k kp h k' kp'
  match args, blks, h with
  | [d0], [], h =>
  dsimp only [ent0] at h
  repeat ((first|have q := aInt_elim h); clear h; first|obtain ⟨rfl, h⟩ := q|obtain ⟨_, rfl, h⟩ := q|obtain ⟨_, _, rfl, h⟩ := q)
  exact (f_eq ..).symm
end N112
namespace N145
noncomputable def cfg : Cfg := { cb with E := tab [(112, N112.ent)], atSeq := tab [(7, ⟨[]⟩)], atLoop := tab [(2, ks [0, 5])] }
noncomputable def body : Code := bodyOf Tryz.f145
def l2 (j7 : Prop) (ag2 : Int → Prop) (x0 : BA) (x5 : Int) (k : Int → Bool → Prop) : Prop :=
 (br (decide (x5 < (2 : Int))) (N112.f x5 (fun aa => (br (beqS aa x0) (k x5 true) (ag2 (IntKind.i64.wrap (x5 + (1 : Int))))))) (j7))
def j7 (k : Int → Bool → Prop) : Prop :=
 (k (0 : Int) false)
def c (l2 : BA → Int → Prop) (x0 : BA) (k : Int → Bool → Prop) : Prop :=
 (l2 x0 (0 : Int))
def j7' k := j7 k
def l2' (x0 : BA) (x5 : Int) (k : Int → Bool → Prop) : Prop := ∃ n, loopS (fun ag (s : Int) => l2 (j7' k) (fun x5 => ag (x5)) x0 s k) n (x5)
def f0 x0 k := c (fun x0 x5 => l2' x0 x5 k) x0 k
noncomputable def f := sld f0
theorem f_def : f = f0 := sld_eq f0
def mL2 (x0 : BA) (x5 : Int) : St := { tmps := mkT 14 0 [(0, (.v (.string x0))), (5, (.v (.int .i64 x5)))], hp := [], m := 0 }
def ML2 (g : St → Prop) x0 x5 := g (mL2 x0 x5)
def m7 : St := { tmps := mkT 14 0 [], hp := [], m := 0 }
def M7 (g : St → Prop) := g (m7)
def K0 (k : KT) (y0 : Int) (y1 : Bool) : Prop := k (.tup [(.v (.int .i64 y0)), (.v (.bool y1))]) []
noncomputable def T (k kp : KT) := topK cfg Tryz.f145 k kp
noncomputable def YL2 (k kp : KT) : (St → Prop) → St → Prop := loopB cfg (sub [1, 0, 1, 0, 0] body) (contK cfg (pick none' []) [1, 0, 1, 0] body (T k kp))
noncomputable def XL2 (k kp : KT) : St → Prop := fun st => ∃ n, loopN (YL2 k kp) n st
noncomputable def X7 (k kp : KT) : St → Prop := atP cfg (pick none' []) [1, 1] body (T k kp)
noncomputable def JJ_2 (k kp : KT) (ag2 : St → Prop) : Nat → St → Prop := pick none' [(7, X7 k kp)]
noncomputable def LL_2 (k kp : KT) (ag2 : St → Prop) : Nat → St → Prop := pick none' [(2, XL2 k kp)]
noncomputable def JJ (k kp : KT) : Nat → St → Prop := pick none' [(7, X7 k kp)]
noncomputable def LL (k kp : KT) : Nat → St → Prop := pick none' [(2, XL2 k kp)]
theorem j7_eq (k kp) : M7 (X7 k kp) = j7' (K0 k) := by
 exact raw_eq (own:=7) rfl (JJ k kp) (LL k kp) (fun J L => j7 (K0 k)) (by kernel_rfl) (fun _ _ => by kernel_rfl) rfl
theorem l2_eq (k kp) : ML2 (XL2 k kp) = fun x0 x5 => l2' x0 x5 (K0 k) := by
 funext x0 x5
 exact loop_eq (mk := fun (s : Int) => match s with | x5 => mL2 x0 x5) (fun ag2 s => match s with | x5 => raw_eq (own:=1000001) (cfg := cfg) (AG := (pick none' [(2, ag2)])) (p := [1, 0, 1, 0, 0]) (c := body) (K := (T k kp)) (st := mL2 x0 x5) (by kernel_rfl) (JJ_2 k kp ag2) (LL_2 k kp ag2) (fun J L => l2 (M7 (J 7)) (fun x5 => ag2 (mL2 x0 x5)) x0 x5 (K0 k)) (by kernel_rfl) (fun _ _ => by kernel_rfl) (by erw [j7_eq k kp] <;> rfl)) (x5)
def pa (x0 : BA) : List D := [(.v (.string x0))]
def pb (x0 : BA) : List Blk := []
theorem body_is : Tryz.f145.body = some body := by kernel_rfl
theorem f_eq (k kp x0) : funW cfg Tryz.f145 (pa x0) (pb x0) k kp = f x0 (K0 k) :=
 raw_fun (own := 1000001) none'' (JJ k kp) (LL k kp) (fun J L => c (ML2 (L 2)) x0 (K0 k)) body_is (by kernel_rfl) (fun J L => by kernel_rfl) (by rw [f_def]; erw [l2_eq k kp] <;> rfl)
noncomputable def ent0 : Entry := fun args blks k _ => match args, blks with
 | [d0], [] => aStr d0 fun x0 => f x0 (K0 k)
 | _, _ => False
noncomputable def ent : Entry := cvE [.no] ent0
theorem ok : EntOk Tryz.prog 112 157 145 ent := by
 refine fnOk (cfg := cfg) rfl rfl rfl rfl (by kernel_rfl) ?_ Tryz.func145 (by rfl) (by rfl) ?_
 ·exact tab_c N112.ok <| tab_n
 ·intro args blks k kp h k' kp'
  match args, blks, h with
  | [d0], [], h =>
  dsimp only [ent0] at h
  repeat ((first|have q := aStr_elim h); clear h; first|obtain ⟨rfl, h⟩ := q|obtain ⟨_, rfl, h⟩ := q|obtain ⟨_, _, rfl, h⟩ := q)
  exact (f_eq ..).symm
end N145
namespace N100
noncomputable def cfg : Cfg := { cb with E := tab [(95, N95.ent), (143, N143.ent), (96, N96.ent), (145, N145.ent), (142, N142.ent)], atSeq := tab [(4, ks [0, 3]), (11, ks [0, 3]), (2000008, ks [0, 3, 4, 5, 36]), (9, ks [0, 3, 4, 5])], atLoop := tab [(3, ⟨[(0, .keep), (3, .own 89 (Ty.pair Zy3 Zy3))]⟩)] }
noncomputable def body : Code := bodyOf Tryz.f100
def l3 (j4 : Zq0 → Int → (List (Int × Int)) → Prop) (j11 : Zq0 → Int → (List (Int × Int)) → Prop) (aa : Zq0) (ab : Int) (b1 : (List (Int × Int))) (k : Zq0 → Int → (List (Int × Int)) → Prop) (kp : Err → Prop) : Prop :=
 (br (((((b1).length : Nat) : Int)) == (0 : Int)) (j4 aa ab b1) (N143.f aa ab (fun au a8 a9 ba bb aj ak => (br (au == (4 : Int)) (j4 aj ak b1) (j11 aj ak b1)))))
def j4 (j2000008 : Int → Bool → Zq0 → Int → Int → BA → Int → Int → Int → (List (Int × Int)) → Prop) (aa : Zq0) (ab : Int) (b1 : (List (Int × Int))) (k : Zq0 → Int → (List (Int × Int)) → Prop) (kp : Err → Prop) : Prop :=
 (N96.f (4 : Int) aa ab (fun al am an ao ap av aw => (N95.f (ByteArray.mk #[58]) av aw (fun ax ay => (N143.f ax ay (fun bc az bd bf bg a0 a1 => (N145.f az (fun a7 bh => (N143.f a0 a1 (fun a2 bi bj bk bl aq ar => (br (a2 != (1 : Int)) (j2000008 a7 true aq ar al am an ao ap b1) (j2000008 a7 (!bh) aq ar al am an ao ap b1))))))))) kp)) kp)
def j11 (aa : Zq0) (ab : Int) (b1 : (List (Int × Int))) (k : Zq0 → Int → (List (Int × Int)) → Prop) (kp : Err → Prop) : Prop :=
 (N95.f (ByteArray.mk #[59]) aa ab (fun a3 a4 => (k a3 a4 b1)) kp)
def j2000008 (j9 : Int → Zq0 → Int → Int → BA → Int → Int → Int → (List (Int × Int)) → Prop) (x5 : Int) (ai : Bool) (aa : Zq0) (ab ad : Int) (ae : BA) (ac af ah : Int) (b2 : (List (Int × Int))) (k : Zq0 → Int → (List (Int × Int)) → Prop) (kp : Err → Prop) : Prop :=
 (br ai (N142.f (20 : Int) aa ab kp) (j9 x5 aa ab ad ae ac af ah b2))
def j9 (ag3 : Zq0 → Int → (List (Int × Int)) → Prop) (x5 : Int) (aa : Zq0) (ab ad : Int) (ae : BA) (ac af ah : Int) (b2 : (List (Int × Int))) (k : Zq0 → Int → (List (Int × Int)) → Prop) (kp : Err → Prop) : Prop :=
 ((room ((b2).length + (([(ac, x5)] : List (Int × Int))).length) 16) ∧ (ag3 aa (IntKind.i64.wrap (ab + (1 : Int))) (b2 ++ ([(ac, x5)] : List (Int × Int)))))
def c (l3 : Zq0 → Int → (List (Int × Int)) → Prop) (aa : Zq0) (ab : Int) (k : Zq0 → Int → (List (Int × Int)) → Prop) (kp : Err → Prop) : Prop :=
 (N95.f (ByteArray.mk #[114, 101, 103, 115]) aa ab (fun a5 a6 => (l3 a5 a6 ([] : List (Int × Int)))) kp)
def j11' aa ab b1 k kp := j11 aa ab b1 k kp
def j9' ag3 x5 aa ab ad ae ac af ah b2 k kp := j9 ag3 x5 aa ab ad ae ac af ah b2 k kp
def j2000008' ag3 x5 ai aa ab ad ae ac af ah b2 k kp := j2000008 (fun x5 aa ab ad ae ac af ah b2 => j9' ag3 x5 aa ab ad ae ac af ah b2 k kp) x5 ai aa ab ad ae ac af ah b2 k kp
def j4' ag3 aa ab b1 k kp := j4 (fun x5 ai aa ab ad ae ac af ah b2 => j2000008' ag3 x5 ai aa ab ad ae ac af ah b2 k kp) aa ab b1 k kp
def l3' (aa : Zq0) (ab : Int) (b1 : (List (Int × Int))) (k : Zq0 → Int → (List (Int × Int)) → Prop) (kp : Err → Prop) : Prop := ∃ n, loopS (fun ag (s : Zq0 × Int × (List (Int × Int))) => l3 (fun aa ab b1 => j4' (fun aa ab b1 => ag (aa, ab, b1)) aa ab b1 k kp) (fun aa ab b1 => j11' aa ab b1 k kp) s.1 s.2.1 s.2.2 k kp) n (aa, ab, b1)
def f0 aa ab k kp := c (fun aa ab b1 => l3' aa ab b1 k kp) aa ab k kp
noncomputable def f := sld f0
theorem f_def : f = f0 := sld_eq f0
def mL3 (aa : Zq0) (ab : Int) (b1 : (List (Int × Int))) : St := { tmps := mkT 56 0 [(0, (.ptr 0 0)), (3, (.sl 1 0))], hp := [(.box 124 [(.fz Zy1 aa), (.v (.int .i64 ab))]), (.lst 89 (Ty.pair Zy3 Zy3) b1 0 false)], m := 1 }
def ML3 (g : St → Prop) aa ab b1 := g (mL3 aa ab b1)
def m4 (aa : Zq0) (ab : Int) (b1 : (List (Int × Int))) : St := { tmps := mkT 56 0 [(0, (.ptr 0 0)), (3, (.sl 1 0))], hp := [(.box 124 [(.fz Zy1 aa), (.v (.int .i64 ab))]), (.lst 89 (Ty.pair Zy3 Zy3) b1 0 false)], m := 1 }
def M4 (g : St → Prop) aa ab b1 := g (m4 aa ab b1)
def m11 (aa : Zq0) (ab : Int) (b1 : (List (Int × Int))) : St := { tmps := mkT 56 0 [(0, (.ptr 0 0)), (3, (.sl 1 0))], hp := [(.box 124 [(.fz Zy1 aa), (.v (.int .i64 ab))]), (.lst 89 (Ty.pair Zy3 Zy3) b1 0 false)], m := 1 }
def M11 (g : St → Prop) aa ab b1 := g (m11 aa ab b1)
def m2000008 (x5 : Int) (ai : Bool) (aa : Zq0) (ab ad : Int) (ae : BA) (ac af ah : Int) (b2 : (List (Int × Int))) : St := { tmps := mkT 56 0 [(0, (.ptr 0 0)), (3, (.sl 2 0)), (4, (.ptr 1 0)), (5, (.v (.int .i64 x5))), (36, (.v (.bool ai)))], hp := [(.box 124 [(.fz Zy1 aa), (.v (.int .i64 ab))]), (.box 102 [(.v (.int .i64 ad)), (.v (.string ae)), (.v (.int .i64 ac)), (.v (.int .i64 af)), (.v (.int .i64 ah))]), (.lst 89 (Ty.pair Zy3 Zy3) b2 0 false)], m := 1 }
def M2000008 (g : St → Prop) x5 ai aa ab ad ae ac af ah b2 := g (m2000008 x5 ai aa ab ad ae ac af ah b2)
def m9 (x5 : Int) (aa : Zq0) (ab ad : Int) (ae : BA) (ac af ah : Int) (b2 : (List (Int × Int))) : St := { tmps := mkT 56 0 [(0, (.ptr 0 0)), (3, (.sl 2 0)), (4, (.ptr 1 0)), (5, (.v (.int .i64 x5)))], hp := [(.box 124 [(.fz Zy1 aa), (.v (.int .i64 ab))]), (.box 102 [(.v (.int .i64 ad)), (.v (.string ae)), (.v (.int .i64 ac)), (.v (.int .i64 af)), (.v (.int .i64 ah))]), (.lst 89 (Ty.pair Zy3 Zy3) b2 0 false)], m := 1 }
def M9 (g : St → Prop) x5 aa ab ad ae ac af ah b2 := g (m9 x5 aa ab ad ae ac af ah b2)
def K0 (k : KT) (bm : Zq0) (bn : Int) (z1 : (List (Int × Int))) : Prop := k (.sl 1 0) [(.box 124 [(.fz Zy1 bm), (.v (.int .i64 bn))]), (.lst 89 (Ty.pair Zy3 Zy3) z1 0 false)]
def KE (kp : KT) (e : Err) : Prop := kp (.er e) (List.replicate 1 .dead)
noncomputable def T (k kp : KT) := topK cfg Tryz.f100 k kp
noncomputable def YL3 (k kp : KT) : (St → Prop) → St → Prop := loopB cfg (sub [1, 1, 1, 0, 0, 0] body) (contK cfg (pick none' []) [1, 1, 1, 0, 0] body (T k kp))
noncomputable def XL3 (k kp : KT) : St → Prop := fun st => ∃ n, loopN (YL3 k kp) n st
noncomputable def X4 (k kp : KT) (ag3 : St → Prop) : St → Prop := atP cfg (pick none' [(3, ag3)]) [1, 1, 1, 0, 0, 0, 1] body (T k kp)
noncomputable def X11 (k kp : KT) : St → Prop := atP cfg (pick none' []) [1, 1, 1, 1] body (T k kp)
noncomputable def X2000008 (k kp : KT) (ag3 : St → Prop) : St → Prop := atP cfg (pick none' [(3, ag3)]) [1, 1, 1, 0, 0, 0, 1, 0, 1, 1, 1, 0, 1] body (T k kp)
noncomputable def X9 (k kp : KT) (ag3 : St → Prop) : St → Prop := atP cfg (pick none' [(3, ag3)]) [1, 1, 1, 0, 0, 0, 1, 0, 1, 1, 1, 1] body (T k kp)
noncomputable def JJ_3 (k kp : KT) (ag3 : St → Prop) : Nat → St → Prop := pick none' [(4, X4 k kp ag3), (11, X11 k kp), (2000008, X2000008 k kp ag3), (9, X9 k kp ag3)]
noncomputable def LL_3 (k kp : KT) (ag3 : St → Prop) : Nat → St → Prop := pick none' [(3, XL3 k kp)]
noncomputable def JJ (k kp : KT) : Nat → St → Prop := pick none' [(11, X11 k kp)]
noncomputable def LL (k kp : KT) : Nat → St → Prop := pick none' [(3, XL3 k kp)]
theorem j11_eq (k kp) : M11 (X11 k kp) = fun aa ab b1 => j11' aa ab b1 (K0 k) (KE kp) := by
 funext aa ab b1
 exact raw_eq (own:=11) rfl (JJ k kp) (LL k kp) (fun J L => j11 aa ab b1 (K0 k) (KE kp)) (by kernel_rfl) (fun _ _ => by kernel_rfl) rfl
theorem j9_eq (k kp ag3) : M9 (X9 k kp ag3) = fun x5 aa ab ad ae ac af ah b2 => j9' (fun aa ab b1 => ag3 (mL3 aa ab b1)) x5 aa ab ad ae ac af ah b2 (K0 k) (KE kp) := by
 funext x5 aa ab ad ae ac af ah b2
 exact raw_eq (own:=9) rfl (JJ_3 k kp ag3) (LL_3 k kp ag3) (fun J L => j9 (fun aa ab b1 => ag3 (mL3 aa ab b1)) x5 aa ab ad ae ac af ah b2 (K0 k) (KE kp)) (by kernel_rfl) (fun _ _ => by kernel_rfl) rfl
theorem j2000008_eq (k kp ag3) : M2000008 (X2000008 k kp ag3) = fun x5 ai aa ab ad ae ac af ah b2 => j2000008' (fun aa ab b1 => ag3 (mL3 aa ab b1)) x5 ai aa ab ad ae ac af ah b2 (K0 k) (KE kp) := by
 funext x5 ai aa ab ad ae ac af ah b2
 exact raw_eq (own:=2000008) rfl (JJ_3 k kp ag3) (LL_3 k kp ag3) (fun J L => j2000008 (M9 (J 9)) x5 ai aa ab ad ae ac af ah b2 (K0 k) (KE kp)) (by kernel_rfl) (fun _ _ => by kernel_rfl) (by erw [j9_eq k kp ag3] <;> rfl)
theorem j4_eq (k kp ag3) : M4 (X4 k kp ag3) = fun aa ab b1 => j4' (fun aa ab b1 => ag3 (mL3 aa ab b1)) aa ab b1 (K0 k) (KE kp) := by
 funext aa ab b1
 exact raw_eq (own:=4) rfl (JJ_3 k kp ag3) (LL_3 k kp ag3) (fun J L => j4 (M2000008 (J 2000008)) aa ab b1 (K0 k) (KE kp)) (by kernel_rfl) (fun _ _ => by kernel_rfl) (by erw [j2000008_eq k kp ag3] <;> rfl)
theorem l3_eq (k kp) : ML3 (XL3 k kp) = fun aa ab b1 => l3' aa ab b1 (K0 k) (KE kp) := by
 funext aa ab b1
 exact loop_eq (mk := fun (s : Zq0 × Int × (List (Int × Int))) => match s with | (aa, ab, b1) => mL3 aa ab b1) (fun ag3 s => match s with | (aa, ab, b1) => raw_eq (own:=1000001) (cfg := cfg) (AG := (pick none' [(3, ag3)])) (p := [1, 1, 1, 0, 0, 0]) (c := body) (K := (T k kp)) (st := mL3 aa ab b1) (by kernel_rfl) (JJ_3 k kp ag3) (LL_3 k kp ag3) (fun J L => l3 (M4 (J 4)) (M11 (J 11)) aa ab b1 (K0 k) (KE kp)) (by kernel_rfl) (fun _ _ => by kernel_rfl) (by erw [j4_eq k kp ag3, j11_eq k kp] <;> rfl)) (aa, ab, b1)
def pa (aa : Zq0) (ab : Int) : List D := [(.ptr 0 0)]
def pb (aa : Zq0) (ab : Int) : List Blk := [(.box 124 [(.fz Zy1 aa), (.v (.int .i64 ab))])]
theorem body_is : Tryz.f100.body = some body := by kernel_rfl
theorem f_eq (k kp aa ab) : funW cfg Tryz.f100 (pa aa ab) (pb aa ab) k kp = f aa ab (K0 k) (KE kp) :=
 raw_fun (own := 1000001) none'' (JJ k kp) (LL k kp) (fun J L => c (ML3 (L 3)) aa ab (K0 k) (KE kp)) body_is (by kernel_rfl) (fun J L => by kernel_rfl) (by rw [f_def]; erw [l3_eq k kp] <;> rfl)
noncomputable def ent0 : Entry := fun args blks k kp => match args, blks with
 | [d0], [e0] => aPtr 0 0 d0 (aBox 124 e0 fun l => aCons l fun bo l => aCons l fun bp l => aNil l (aFz Zy1 bo fun aa => aInt IntKind.i64 bp fun ab => f aa ab (K0 k) (KE kp)))
 | _, _ => False
noncomputable def ent : Entry := cvE [.no] ent0
theorem ok : EntOk Tryz.prog 112 157 100 ent := by
 refine fnOk (cfg := cfg) rfl rfl rfl rfl (by kernel_rfl) ?_ Tryz.func100 (by rfl) (by rfl) ?_
 ·exact tab_c N95.ok <| tab_c N143.ok <| tab_c N96.ok <| tab_c N145.ok <| tab_c N142.ok <| tab_n
 ·intro args blks k kp h k' kp'
  match args, blks, h with
  | [d0], [e0], h =>
  dsimp only [ent0] at h
  repeat ((first|have q := aPtr_elim h|have q := aBox_elim h|have q := aCons_elim h|have q := aNil_elim h|have q := aFz_elim h|have q := aInt_elim h); clear h; first|obtain ⟨rfl, h⟩ := q|obtain ⟨_, rfl, h⟩ := q|obtain ⟨_, _, rfl, h⟩ := q)
  exact (f_eq ..).symm
end N100
namespace N51
noncomputable def cfg : Cfg := { cb with E := tab [(94, N94.ent), (95, N95.ent), (96, N96.ent), (97, N97.ent), (98, N98.ent), (99, N99.ent), (100, N100.ent), (101, N101.ent)], atSeq := tab [(5, ks [0, 2, 3]), (2000010, ks [0, 2, 3, 30]), (11, ⟨[(0, .keep), (2, .keep), (3, .cells [(2, some 89, (Ty.pair Zy3 Zy3))])]⟩), (13, ks [0, 2, 3])], atLoop := tab [(11, ⟨[(0, .keep), (2, .keep), (3, .cells [(4, some 80, Zy2)])]⟩)], lt := [37, 38, 39, 41, 43], ms := [(38, 3)], ns := true }
noncomputable def body : Code := bodyOf Tryz.f51
def j5 (j2000010 : Bool → Zq0 → Int → Bool → BA → Bool → BA → Zq2 → Prop) (aa : Zq0) (ab : Int) (ad : Bool) (ae : BA) (ac : Bool) (af : BA) (k : Bool → BA → (List (Int × Int)) → Zq2 → Zq3 → Zq0 → Int → Prop) (kp : Err → Prop) : Prop :=
 (N96.f (1 : Int) aa ab (fun bh am bi bj bk a0 a1 => (N95.f (ByteArray.mk #[40]) a0 a1 (fun a2 a3 => (N97.f (ByteArray.mk #[41]) a2 a3 (fun a4 a5 bg => (N95.f (ByteArray.mk #[123]) a4 a5 (fun a6 a7 => (N98.f (ByteArray.mk #[114, 101, 103, 115]) a6 a7 (fun bl an ao => (br bl (N99.f an ao (fun a8 bm bn bo bp a9 ba => (j2000010 (a8 == (4 : Int)) a9 ba ad ae ac am bg))) (j2000010 false an ao ad ae ac am bg))))) kp)) kp)) kp)) kp)
def j2000010 (j11 : Zq0 → Int → Bool → BA → Bool → BA → (List (Int × Int)) → Zq2 → Prop) (al : Bool) (aa : Zq0) (ab : Int) (ad : Bool) (ae : BA) (ac : Bool) (af : BA) (b3 : Zq2) (k : Bool → BA → (List (Int × Int)) → Zq2 → Zq3 → Zq0 → Int → Prop) (kp : Err → Prop) : Prop :=
 (br al (N100.f aa ab (fun bb bc bq => (j11 bb bc ad ae ac af bq b3)) kp) (j11 aa ab ad ae ac af ([] : List (Int × Int)) b3))
def j11 (l11 : Zq0 → Int → Bool → BA → Bool → BA → (List (Int × Int)) → Zq2 → Zq3 → Prop) (aa : Zq0) (ab : Int) (ad : Bool) (ae : BA) (ac : Bool) (af : BA) (b3 : (List (Int × Int))) (b4 : Zq2) (k : Bool → BA → (List (Int × Int)) → Zq2 → Zq3 → Zq0 → Int → Prop) (kp : Err → Prop) : Prop :=
 (l11 aa ab ad ae ac af b3 b4 ([] : List (BA × (Bool × (Zq2 × (List Zq1))))))
def l11 (j13 : Zq0 → Int → Bool → BA → Bool → BA → (List (Int × Int)) → Zq2 → Zq3 → Prop) (ag11 : Zq0 → Int → Bool → BA → Bool → BA → (List (Int × Int)) → Zq2 → Zq3 → Prop) (aa : Zq0) (ab : Int) (ad : Bool) (ae : BA) (ac : Bool) (af : BA) (b3 : (List (Int × Int))) (b4 : Zq2) (b5 : Zq3) (k : Bool → BA → (List (Int × Int)) → Zq2 → Zq3 → Zq0 → Int → Prop) (kp : Err → Prop) : Prop :=
 (N98.f (ByteArray.mk #[125]) aa ab (fun bs ap aq => (br (!bs) (N101.f ap aq (fun ah ai aj ak aw ax => ((room ((b5).length + (([(ah, (ai, (aj, ak)))] : List (BA × (Bool × (Zq2 × (List Zq1)))))).length) 72) ∧ (ag11 aw ax ad ae ac af b3 b4 (b5 ++ ([(ah, (ai, (aj, ak)))] : List (BA × (Bool × (Zq2 × (List Zq1))))))))) kp) (j13 ap aq ad ae ac af b3 b4 b5))))
def j13 (aa : Zq0) (ab : Int) (ad : Bool) (ae : BA) (ac : Bool) (af : BA) (b3 : (List (Int × Int))) (b4 : Zq2) (b5 : Zq3) (k : Bool → BA → (List (Int × Int)) → Zq2 → Zq3 → Zq0 → Int → Prop) (kp : Err → Prop) : Prop :=
 (N95.f (ByteArray.mk #[125]) aa ab (fun ay az => (k ac af b3 b4 b5 ay az)) kp)
def c (j5 : Zq0 → Int → Bool → BA → Bool → BA → Prop) (aa : Zq0) (ab : Int) (k : Bool → BA → (List (Int × Int)) → Zq2 → Zq3 → Zq0 → Int → Prop) (kp : Err → Prop) : Prop :=
 (N94.f (ByteArray.mk #[109, 97, 99, 104, 105, 110, 101]) aa ab (fun ar au av => (br (!ar) (N95.f (ByteArray.mk #[102, 117, 110, 99]) au av (fun bd bf => (j5 bd bf false (ByteArray.mk #[]) ar (ByteArray.mk #[]))) kp) (j5 au av false (ByteArray.mk #[]) ar (ByteArray.mk #[])))))
def j13' aa ab ad ae ac af b3 b4 b5 k kp := j13 aa ab ad ae ac af b3 b4 b5 k kp
def l11' (aa : Zq0) (ab : Int) (ad : Bool) (ae : BA) (ac : Bool) (af : BA) (b3 : (List (Int × Int))) (b4 : Zq2) (b5 : Zq3) (k : Bool → BA → (List (Int × Int)) → Zq2 → Zq3 → Zq0 → Int → Prop) (kp : Err → Prop) : Prop := ∃ n, loopS (fun ag (s : Zq0 × Int × Bool × BA × Bool × BA × (List (Int × Int)) × Zq2 × Zq3) => l11 (fun aa ab ad ae ac af b3 b4 b5 => j13' aa ab ad ae ac af b3 b4 b5 k kp) (fun aa ab ad ae ac af b3 b4 b5 => ag (aa, ab, ad, ae, ac, af, b3, b4, b5)) s.1 s.2.1 s.2.2.1 s.2.2.2.1 s.2.2.2.2.1 s.2.2.2.2.2.1 s.2.2.2.2.2.2.1 s.2.2.2.2.2.2.2.1 s.2.2.2.2.2.2.2.2 k kp) n (aa, ab, ad, ae, ac, af, b3, b4, b5)
def j11' aa ab ad ae ac af b3 b4 k kp := j11 (fun aa ab ad ae ac af b3 b4 b5 => l11' aa ab ad ae ac af b3 b4 b5 k kp) aa ab ad ae ac af b3 b4 k kp
def j2000010' al aa ab ad ae ac af b3 k kp := j2000010 (fun aa ab ad ae ac af b3 b4 => j11' aa ab ad ae ac af b3 b4 k kp) al aa ab ad ae ac af b3 k kp
def j5' aa ab ad ae ac af k kp := j5 (fun al aa ab ad ae ac af b3 => j2000010' al aa ab ad ae ac af b3 k kp) aa ab ad ae ac af k kp
def f0 aa ab k kp := c (fun aa ab ad ae ac af => j5' aa ab ad ae ac af k kp) aa ab k kp
noncomputable def f := sld f0
theorem f_def : f = f0 := sld_eq f0
def m5 (aa : Zq0) (ab : Int) (ad : Bool) (ae : BA) (ac : Bool) (af : BA) : St := { tmps := mkT 47 0 [(0, (.ptr 0 0)), (2, (.ptr 1 0)), (3, (.ptr 2 0))], hp := [(.box 124 [(.fz Zy1 aa), (.v (.int .i64 ab))]), (.box 31 [(.v (.bool ad)), (.v (.string ae)), (.v (Value.slice none 0 0)), (.v (Value.slice none 0 0)), (.v (Value.slice none 0 0))]), (.box 31 [(.v (.bool ac)), (.v (.string af)), (.v (Value.slice none 0 0)), (.v (Value.slice none 0 0)), (.v (Value.slice none 0 0))])], m := 1 }
def M5 (g : St → Prop) aa ab ad ae ac af := g (m5 aa ab ad ae ac af)
def m2000010 (al : Bool) (aa : Zq0) (ab : Int) (ad : Bool) (ae : BA) (ac : Bool) (af : BA) (b3 : Zq2) : St := { tmps := mkT 47 0 [(0, (.ptr 0 0)), (2, (.ptr 1 0)), (3, (.ptr 2 0)), (30, (.v (.bool al)))], hp := [(.box 124 [(.fz Zy1 aa), (.v (.int .i64 ab))]), (.box 31 [(.v (.bool ad)), (.v (.string ae)), (.v (Value.slice none 0 0)), (.v (Value.slice none 0 0)), (.v (Value.slice none 0 0))]), (.box 31 [(.v (.bool ac)), (.v (.string af)), (.v (Value.slice none 0 0)), (.sl 3 0), (.v (Value.slice none 0 0))]), (.lst 82 (Ty.pair Zy3 Zy0) b3 0 false)], m := 1 }
def M2000010 (g : St → Prop) al aa ab ad ae ac af b3 := g (m2000010 al aa ab ad ae ac af b3)
def m11 (aa : Zq0) (ab : Int) (ad : Bool) (ae : BA) (ac : Bool) (af : BA) (b3 : (List (Int × Int))) (b4 : Zq2) : St := { tmps := mkT 47 0 [(0, (.ptr 0 0)), (2, (.ptr 1 0)), (3, (.ptr 2 0))], hp := [(.box 124 [(.fz Zy1 aa), (.v (.int .i64 ab))]), (.box 31 [(.v (.bool ad)), (.v (.string ae)), (.v (Value.slice none 0 0)), (.v (Value.slice none 0 0)), (.v (Value.slice none 0 0))]), (.box 31 [(.v (.bool ac)), (.v (.string af)), (.sl 3 0), (.sl 4 0), (.v (Value.slice none 0 0))]), (.lst 89 (Ty.pair Zy3 Zy3) b3 0 false), (.lst 82 (Ty.pair Zy3 Zy0) b4 0 false)], m := 1 }
def M11 (g : St → Prop) aa ab ad ae ac af b3 b4 := g (m11 aa ab ad ae ac af b3 b4)
def mL11 (aa : Zq0) (ab : Int) (ad : Bool) (ae : BA) (ac : Bool) (af : BA) (b3 : (List (Int × Int))) (b4 : Zq2) (b5 : Zq3) : St := { tmps := mkT 47 0 [(0, (.ptr 0 0)), (2, (.ptr 1 0)), (3, (.ptr 2 0))], hp := [(.box 124 [(.fz Zy1 aa), (.v (.int .i64 ab))]), (.box 31 [(.v (.bool ad)), (.v (.string ae)), (.v (Value.slice none 0 0)), (.v (Value.slice none 0 0)), (.v (Value.slice none 0 0))]), (.box 31 [(.v (.bool ac)), (.v (.string af)), (.sl 3 0), (.sl 4 0), (.sl 5 0)]), (.lst 89 (Ty.pair Zy3 Zy3) b3 0 false), (.lst 82 (Ty.pair Zy3 Zy0) b4 0 false), (.lst 80 Zy2 b5 0 false)], m := 1 }
def ML11 (g : St → Prop) aa ab ad ae ac af b3 b4 b5 := g (mL11 aa ab ad ae ac af b3 b4 b5)
def m13 (aa : Zq0) (ab : Int) (ad : Bool) (ae : BA) (ac : Bool) (af : BA) (b3 : (List (Int × Int))) (b4 : Zq2) (b5 : Zq3) : St := { tmps := mkT 47 0 [(0, (.ptr 0 0)), (2, (.ptr 1 0)), (3, (.ptr 2 0))], hp := [(.box 124 [(.fz Zy1 aa), (.v (.int .i64 ab))]), (.box 31 [(.v (.bool ad)), (.v (.string ae)), (.v (Value.slice none 0 0)), (.v (Value.slice none 0 0)), (.v (Value.slice none 0 0))]), (.box 31 [(.v (.bool ac)), (.v (.string af)), (.sl 3 0), (.sl 4 0), (.sl 5 0)]), (.lst 89 (Ty.pair Zy3 Zy3) b3 0 false), (.lst 82 (Ty.pair Zy3 Zy0) b4 0 false), (.lst 80 Zy2 b5 0 false)], m := 1 }
def M13 (g : St → Prop) aa ab ad ae ac af b3 b4 b5 := g (m13 aa ab ad ae ac af b3 b4 b5)
def K0 (k : KT) (ar : Bool) (bt : BA) (bu : (List (Int × Int))) (bv : Zq2) (bw : Zq3) (bx : Zq0) (bz : Int) : Prop := k (.agg [(.v (.bool ar)), (.v (.string bt)), (.fz (Ty.pair Zy3 Zy3) bu), (.fz (Ty.pair Zy3 Zy0) bv), (.fz Zy2 bw)]) [(.box 124 [(.fz Zy1 bx), (.v (.int .i64 bz))])]
def KE (kp : KT) (e : Err) : Prop := kp (.er e) (List.replicate 1 .dead)
noncomputable def T (k kp : KT) := topK cfg Tryz.f51 k kp
noncomputable def X5 (k kp : KT) : St → Prop := atP cfg (pick none' []) [1, 1, 1, 1] body (T k kp)
noncomputable def X2000010 (k kp : KT) : St → Prop := atP cfg (pick none' []) [1, 1, 1, 1, 1, 1, 1, 1, 0, 1] body (T k kp)
noncomputable def X11 (k kp : KT) : St → Prop := atP cfg (pick none' []) [1, 1, 1, 1, 1, 1, 1, 1, 1] body (T k kp)
noncomputable def YL11 (k kp : KT) : (St → Prop) → St → Prop := loopB cfg (sub [1, 1, 1, 1, 1, 1, 1, 1, 1, 0, 0, 0] body) (contK cfg (pick none' []) [1, 1, 1, 1, 1, 1, 1, 1, 1, 0, 0] body (T k kp))
noncomputable def XL11 (k kp : KT) : St → Prop := fun st => ∃ n, loopN (YL11 k kp) n st
noncomputable def X13 (k kp : KT) : St → Prop := atP cfg (pick none' []) [1, 1, 1, 1, 1, 1, 1, 1, 1, 1] body (T k kp)
noncomputable def JJ (k kp : KT) : Nat → St → Prop := pick none' [(5, X5 k kp), (2000010, X2000010 k kp), (11, X11 k kp), (13, X13 k kp)]
noncomputable def LL (k kp : KT) : Nat → St → Prop := pick none' [(11, XL11 k kp)]
noncomputable def JJ_11 (k kp : KT) (ag11 : St → Prop) : Nat → St → Prop := pick none' [(5, X5 k kp), (2000010, X2000010 k kp), (11, X11 k kp), (13, X13 k kp)]
noncomputable def LL_11 (k kp : KT) (ag11 : St → Prop) : Nat → St → Prop := pick none' [(11, XL11 k kp)]
theorem j13_eq (k kp) : M13 (X13 k kp) = fun aa ab ad ae ac af b3 b4 b5 => j13' aa ab ad ae ac af b3 b4 b5 (K0 k) (KE kp) := by
 funext aa ab ad ae ac af b3 b4 b5
 exact raw_eq (own:=13) rfl (JJ k kp) (LL k kp) (fun J L => j13 aa ab ad ae ac af b3 b4 b5 (K0 k) (KE kp)) (by kernel_rfl) (fun _ _ => by kernel_rfl) rfl
theorem l11_eq (k kp) : ML11 (XL11 k kp) = fun aa ab ad ae ac af b3 b4 b5 => l11' aa ab ad ae ac af b3 b4 b5 (K0 k) (KE kp) := by
 funext aa ab ad ae ac af b3 b4 b5
 exact loop_eq (mk := fun (s : Zq0 × Int × Bool × BA × Bool × BA × (List (Int × Int)) × Zq2 × Zq3) => match s with | (aa, ab, ad, ae, ac, af, b3, b4, b5) => mL11 aa ab ad ae ac af b3 b4 b5) (fun ag11 s => match s with | (aa, ab, ad, ae, ac, af, b3, b4, b5) => raw_eq (own:=1000001) (cfg := cfg) (AG := (pick none' [(11, ag11)])) (p := [1, 1, 1, 1, 1, 1, 1, 1, 1, 0, 0, 0]) (c := body) (K := (T k kp)) (st := mL11 aa ab ad ae ac af b3 b4 b5) (by kernel_rfl) (JJ_11 k kp ag11) (LL_11 k kp ag11) (fun J L => l11 (M13 (J 13)) (fun aa ab ad ae ac af b3 b4 b5 => ag11 (mL11 aa ab ad ae ac af b3 b4 b5)) aa ab ad ae ac af b3 b4 b5 (K0 k) (KE kp)) (by kernel_rfl) (fun _ _ => by kernel_rfl) (by erw [j13_eq k kp] <;> rfl)) (aa, ab, ad, ae, ac, af, b3, b4, b5)
theorem j11_eq (k kp) : M11 (X11 k kp) = fun aa ab ad ae ac af b3 b4 => j11' aa ab ad ae ac af b3 b4 (K0 k) (KE kp) := by
 funext aa ab ad ae ac af b3 b4
 exact raw_eq (own:=11) rfl (JJ k kp) (LL k kp) (fun J L => j11 (ML11 (L 11)) aa ab ad ae ac af b3 b4 (K0 k) (KE kp)) (by kernel_rfl) (fun _ _ => by kernel_rfl) (by erw [l11_eq k kp] <;> rfl)
theorem j2000010_eq (k kp) : M2000010 (X2000010 k kp) = fun al aa ab ad ae ac af b3 => j2000010' al aa ab ad ae ac af b3 (K0 k) (KE kp) := by
 funext al aa ab ad ae ac af b3
 exact raw_eq (own:=2000010) rfl (JJ k kp) (LL k kp) (fun J L => j2000010 (M11 (J 11)) al aa ab ad ae ac af b3 (K0 k) (KE kp)) (by kernel_rfl) (fun _ _ => by kernel_rfl) (by erw [j11_eq k kp] <;> rfl)
theorem j5_eq (k kp) : M5 (X5 k kp) = fun aa ab ad ae ac af => j5' aa ab ad ae ac af (K0 k) (KE kp) := by
 funext aa ab ad ae ac af
 exact raw_eq (own:=5) rfl (JJ k kp) (LL k kp) (fun J L => j5 (M2000010 (J 2000010)) aa ab ad ae ac af (K0 k) (KE kp)) (by kernel_rfl) (fun _ _ => by kernel_rfl) (by erw [j2000010_eq k kp] <;> rfl)
def pa (aa : Zq0) (ab : Int) : List D := [(.ptr 0 0)]
def pb (aa : Zq0) (ab : Int) : List Blk := [(.box 124 [(.fz Zy1 aa), (.v (.int .i64 ab))])]
theorem body_is : Tryz.f51.body = some body := by kernel_rfl
theorem f_eq (k kp aa ab) : funW cfg Tryz.f51 (pa aa ab) (pb aa ab) k kp = f aa ab (K0 k) (KE kp) :=
 raw_fun (own := 1000001) none'' (JJ k kp) (LL k kp) (fun J L => c (M5 (J 5)) aa ab (K0 k) (KE kp)) body_is (by kernel_rfl) (fun J L => by kernel_rfl) (by rw [f_def]; erw [j5_eq k kp] <;> rfl)
noncomputable def ent0 : Entry := fun args blks k kp => match args, blks with
 | [d0], [e0] => aPtr 0 0 d0 (aBox 124 e0 fun l => aCons l fun b0 l => aCons l fun b1 l => aNil l (aFz Zy1 b0 fun aa => aInt IntKind.i64 b1 fun ab => f aa ab (K0 k) (KE kp)))
 | _, _ => False
noncomputable def ent : Entry := cvE [.no] ent0
theorem ok : EntOk Tryz.prog 112 157 51 ent := by
 refine fnOk (cfg := cfg) rfl rfl rfl rfl (by kernel_rfl) ?_ Tryz.func51 (by rfl) (by rfl) ?_
 ·exact tab_c N94.ok <| tab_c N95.ok <| tab_c N96.ok <| tab_c N97.ok <| tab_c N98.ok <| tab_c N99.ok <| tab_c N100.ok <| tab_c N101.ok <| tab_n
 ·intro args blks k kp h k' kp'
  match args, blks, h with
  | [d0], [e0], h =>
  dsimp only [ent0] at h
  repeat ((first|have q := aPtr_elim h|have q := aBox_elim h|have q := aCons_elim h|have q := aNil_elim h|have q := aFz_elim h|have q := aInt_elim h); clear h; first|obtain ⟨rfl, h⟩ := q|obtain ⟨_, rfl, h⟩ := q|obtain ⟨_, _, rfl, h⟩ := q)
  exact (f_eq ..).symm
end N51
end Go.Proofs.Yf
namespace Go.Aw
open Go Go.RowKit
theorem ofN (c a : Int) (h : c ≠ 0) : newE c a = .flt c a := by unfold newE; rw [if_neg h]
theorem err_nil (c a : Int) : (newE c a).isNil = decide (c = 0) := by
 unfold newE
 split
 ·rename_i h; simp [h, Err.isNil]
 ·rename_i h; simp [h, Err.isNil]
end Go.Aw
namespace Go.Proofs.Yf
open Go Go.Aw Go.Proofs Go.RowKit
def KP (kp : Err → Prop) (c p : Int) : Prop := kp (.wrg 180 (newE c p))
def opRows : List (ByteArray × Int × Int × Int × Int × Bool) := [(⟨#[97, 100, 100]⟩, 1, 1, 5, 0, false), (⟨#[115, 117, 98]⟩, 1, 1, 5, 0, false), (⟨#[109, 117, 108]⟩, 1, 1, 5, 0, false), (⟨#[97, 110, 100]⟩, 1, 1, 5, 0, false), (⟨#[111, 114]⟩, 1, 1, 5, 0, false), (⟨#[120, 111, 114]⟩, 1, 1, 5, 0, false), (⟨#[115, 104, 108]⟩, 1, 1, 5, 0, false), (⟨#[115, 104, 114]⟩, 1, 1, 5, 0, false), (⟨#[115, 97, 114]⟩, 1, 1, 5, 0, false), (⟨#[100, 105, 118]⟩, 1, 1, 5, 0, false), (⟨#[114, 101, 109]⟩, 1, 1, 5, 0, false), (⟨#[101, 113]⟩, 1, 1, 5, 0, false), (⟨#[110, 101]⟩, 1, 1, 5, 0, false), (⟨#[108, 116]⟩, 1, 1, 5, 0, false), (⟨#[108, 101]⟩, 1, 1, 5, 0, false), (⟨#[99, 111, 112, 121]⟩, 3, 7, 0, 0, false), (⟨#[108, 111, 97, 100]⟩, 1, 2, 0, 0, false), (⟨#[115, 116, 111, 114, 101]⟩, 0, 1, 2, 0, false), (⟨#[99, 97, 108, 108]⟩, 17, 13, 0, 0, false), (⟨#[98, 114]⟩, 0, 0, 0, 1, false), (⟨#[98, 114, 105, 102]⟩, 0, 1, 0, 2, false), (⟨#[115, 119, 105, 116, 99, 104]⟩, 0, 1, 0, -1, false), (⟨#[114, 101, 116]⟩, 0, 5, 0, 0, false), (⟨#[109, 111, 118, 101]⟩, 3, 3, 0, 0, true), (⟨#[115, 112, 105, 108, 108]⟩, 8, 3, 0, 0, true), (⟨#[114, 101, 108, 111, 97, 100]⟩, 3, 8, 0, 0, true), (⟨#[115, 119, 97, 112]⟩, 0, 11, 11, 0, true)]
def opRow (j : Nat) : ByteArray × Int × Int × Int × Int × Bool := opRows.getD j (ByteArray.empty, 0, 0, 0, 0, false)
theorem row_c : ∀ (j : Nat) (hj : j < 27) (k : ByteArray → Int → Int → Int → Int → Bool → Bool → Prop) (h : k (opRow j).1 (opRow j).2.1 (opRow j).2.2.1 (opRow j).2.2.2.1 (opRow j).2.2.2.2.1 (opRow j).2.2.2.2.2 true), N186.f ((j + 1 : Nat) : Int) k
 | 0, _, k, h => by rw [N186.f_def]; exact h
 | 1, _, k, h => by rw [N186.f_def]; exact h
 | 2, _, k, h => by rw [N186.f_def]; exact h
 | 3, _, k, h => by rw [N186.f_def]; exact h
 | 4, _, k, h => by rw [N186.f_def]; exact h
 | 5, _, k, h => by rw [N186.f_def]; exact h
 | 6, _, k, h => by rw [N186.f_def]; exact h
 | 7, _, k, h => by rw [N186.f_def]; exact h
 | 8, _, k, h => by rw [N186.f_def]; exact h
 | 9, _, k, h => by rw [N186.f_def]; exact h
 | 10, _, k, h => by rw [N186.f_def]; exact h
 | 11, _, k, h => by rw [N186.f_def]; exact h
 | 12, _, k, h => by rw [N186.f_def]; exact h
 | 13, _, k, h => by rw [N186.f_def]; exact h
 | 14, _, k, h => by rw [N186.f_def]; exact h
 | 15, _, k, h => by rw [N186.f_def]; exact h
 | 16, _, k, h => by rw [N186.f_def]; exact h
 | 17, _, k, h => by rw [N186.f_def]; exact h
 | 18, _, k, h => by rw [N186.f_def]; exact h
 | 19, _, k, h => by rw [N186.f_def]; exact h
 | 20, _, k, h => by rw [N186.f_def]; exact h
 | 21, _, k, h => by rw [N186.f_def]; exact h
 | 22, _, k, h => by rw [N186.f_def]; exact h
 | 23, _, k, h => by rw [N186.f_def]; exact h
 | 24, _, k, h => by rw [N186.f_def]; exact h
 | 25, _, k, h => by rw [N186.f_def]; exact h
 | 26, _, k, h => by rw [N186.f_def]; exact h
 | j + 27, hj, k, h => absurd hj (by omega)
theorem opRow_name : ∀ j : Nat, j < 27 → (opRow j).1 = opNames.getD j ByteArray.empty := by decide
theorem opRow_args : ∀ j : Nat, j < 27 → ((j + 1 : Nat) : Int) ≠ 19 → (if (opRow j).2.2.1 = 0 then 0 else if (opRow j).2.2.2.1 = 0 then 1 else 2 : Nat) = opArgs ((j + 1 : Nat) : Int) := by decide
theorem name_c (j : Nat) (hj : j < 27) (k : ByteArray → Prop) (h : k (opNames.getD j ByteArray.empty)) : N175.f ((j + 1 : Nat) : Int) k := by
 rw [N175.f_def]
 unfold N175.f0 N175.c
 refine row_c j hj _ ?_
 rw [opRow_name j hj]; exact h
theorem find_drop : ∀ (j : Nat), j < 27 → opNames.drop j = opNames.getD j ByteArray.empty :: opNames.drop (j + 1) := by decide
theorem find_range (s : ByteArray) : opFind s = 0 ∨ 1 ≤ opFind s ∧ opFind s ≤ 27 := opFind_range s
theorem find_c (s : ByteArray) (k : Int → Bool → Prop) (h : k (opFind s) (decide (opFind s ≠ 0))) : N164.f s k := by
 rw [N164.f_def]
 unfold N164.f0 N164.c N164.l2'
 refine loopS_of (fun x : Int => ∃ j : Nat, x = ((j + 1 : Nat) : Int) ∧ j ≤ 27 ∧ opFindL s (opNames.drop j) ((j + 1 : Nat) : Int) = opFind s) (fun x => 28 - x.toNat) ?_ ⟨0, rfl, by omega, rfl⟩
 rintro again x ⟨j, rfl, hj, he⟩ hag
 unfold N164.l2
 refine br_of (fun h1 => ?_) (fun h1 => ?_)
 ·have h1 := of_decide_eq_true h1
  have hj : j < 27 := by omega
  refine name_c j hj _ ?_
  rw [find_drop j hj] at he
  unfold opFindL at he
  refine br_of (fun h2 => ?_) (fun h2 => ?_)
  ·rw [if_pos h2] at he
   rw [← he, show decide ((((j + 1 : Nat) : Int)) ≠ 0) = true by simp; omega] at h
   exact h
  ·rw [if_neg (by rw [h2]; decide)] at he
   have hw : IntKind.i64.wrap (((j + 1 : Nat) : Int) + 1) = ((j + 1 + 1 : Nat) : Int) := by rw [wrap_id (by omega) (by omega)]; omega
   rw [hw]
   exact hag _ ⟨j + 1, rfl, by omega, by rw [← he]; rfl⟩ (by simp; omega)
 ·have h1 := of_decide_eq_false h1
  have hj : j = 27 := by omega
  subst hj
  have he : opFind s = 0 := by rw [← he]; rfl
  rw [he] at h
  exact h
theorem args_c {o : Int} (h1 : 1 ≤ o) (h2 : o ≤ 27) (h3 : o ≠ 19) (k : Int → Int → Prop) (h : k (opArgs o) (opArgs o)) : N176.f o k := by
 obtain ⟨j, rfl⟩ : ∃ j : Nat, o = ((j + 1 : Nat) : Int) := ⟨(o - 1).toNat, by omega⟩
 have hj : j < 27 := by omega
 rw [N176.f_def]
 unfold N176.f0 N176.c
 refine row_c j hj _ ?_
 rw [show (((j + 1 : Nat) : Int) == 19) = false by simpa using h3, br_false]
 simp only [PR.go_ok, Bool.not_true, br_false]
 have go : ∀ (nm : ByteArray) (d a b m : Int) (x : Bool), k ((if a = 0 then 0 else if b = 0 then 1 else 2 : Nat) : Int) ((if a = 0 then 0 else if b = 0 then 1 else 2 : Nat) : Int) → N176.l7' 0 nm d a b m x k := by
  intro nm d a b m x h
  refine ⟨3, ?_⟩
  by_cases ha : a = 0
  ·subst ha; exact h
  ·have ea : (a != 0) = true := bne_iff_ne.2 ha
   rw [if_neg ha] at h
   show br (a != 0) _ _
   rw [ea, br_true]
   by_cases hb : b = 0
   ·subst hb; exact h
   ·have eb : (b != 0) = true := bne_iff_ne.2 hb
    rw [if_neg hb] at h
    show br (b != 0) _ _
    rw [eb, br_true]
    exact h
 refine go _ _ _ _ _ _ ?_
 rw [opRow_args j hj h3]; exact h
theorem letter_c (c : Int) (h1 : 0 ≤ c) (h2 : c < 2) (k : ByteArray → Prop) (h : k (if c = 0 then sG else sX)) : N112.f c k := by
 rw [N112.f_def]
 obtain rfl | rfl : c = 0 ∨ c = 1 := by omega
 ·exact ⟨⟨by decide, by decide, by decide⟩, h⟩
 ·exact ⟨⟨by decide, by decide, by decide⟩, h⟩
theorem class_c (s : ByteArray) (k : Int → Bool → Prop) (h : if beqS s sG = true then k 0 true else if beqS s sX = true then k 1 true else k 0 false) : N145.f s k := by
 rw [N145.f_def]
 unfold N145.f0 N145.c
 refine ⟨3, ?_⟩
 have cm : ∀ a b : ByteArray, beqS a b = beqS b a := fun a b => by
  rw [Bool.eq_iff_iff, beqS_iff, beqS_iff]; exact eq_comm
 simp only [loopS, N145.l2]
 rw [show decide ((0 : Int) < 2) = true from rfl, br_true]
 refine letter_c 0 (by omega) (by omega) _ ?_
 rw [if_pos rfl, cm]
 refine br_of (fun h1 => ?_) (fun h1 => ?_)
 ·rw [if_pos h1] at h; exact h
 ·rw [if_neg (by rw [h1]; decide)] at h
  rw [show IntKind.i64.wrap ((0 : Int) + 1) = 1 from by decide, show decide ((1 : Int) < 2) = true from rfl, br_true]
  refine letter_c 1 (by omega) (by omega) _ ?_
  rw [if_neg (by decide), cm]
  refine br_of (fun h2 => ?_) (fun h2 => ?_)
  ·rw [if_pos h2] at h; exact h
  ·rw [if_neg (by rw [h2]; decide)] at h
   rw [show IntKind.i64.wrap ((1 : Int) + 1) = 2 from by decide, show decide ((2 : Int) < 2) = false from rfl, br_false]
   exact h
section
variable {l : List LTok} (T : LexP l) {i : Nat} (hi : i < l.length)
include T hi
theorem now_c (k : Int → ByteArray → Int → Int → Int → List LTok → Int → Prop) (h : k (tokAt l i).1 (tokAt l i).2.1 (tokAt l i).2.2.1 (tokAt l i).2.2.2.1 (tokAt l i).2.2.2.2 l i) : N143.f l i k := by
 rw [N143.f_def]
 unfold N143.f0 N143.c
 rw [Int.toNat_natCast]
 exact ⟨⟨by omega, by omega, by omega⟩, h⟩
theorem behind_c (k : Int → ByteArray → Int → Int → Int → List LTok → Int → Prop) (h : k (bhd l i).1 (bhd l i).2.1 (bhd l i).2.2.1 (bhd l i).2.2.2.1 (bhd l i).2.2.2.2 l i) : N99.f l i k := by
 have := T.len
 rw [N99.f_def]
 unfold N99.f0 N99.c
 have e : mmv false (IntKind.i64.wrap ((i : Int) + 1)) (IntKind.i64.wrap (((l.length : Nat) : Int) - 1)) = ((min (i + 1) (l.length - 1) : Nat) : Int) := by
  rw [wrap_id (by omega) (by omega), wrap_id (by omega) (by omega)]
  unfold mmv
  simp only
  split <;> omega
 rw [e, Int.toNat_natCast]
 exact ⟨⟨by omega, by omega, by omega⟩, h⟩
omit T hi in
theorem tkis_c (t : LTok) (s : ByteArray) (k : Bool → Prop) (h : k (isTk t s)) : N109.f t.1 t.2.1 t.2.2.1 t.2.2.2.1 t.2.2.2.2 s k := by
 rw [N109.f_def]
 unfold N109.f0 N109.c
 have h : k ((decide (t.1 = 1) || decide (t.1 = 7)) && beqS t.2.1 s) := h
 simp only [br_beq]
 split
 ·rename_i h1; simpa [h1] using h
 ·rename_i h1
  split
  ·rename_i h2; simpa [h2] using h
  ·rename_i h2; simpa [h1, h2] using h
theorem is_c (s : ByteArray) (k : Bool → List LTok → Int → Prop) (h : k (isTk (tokAt l i) s) l i) : N98.f s l i k := by
 rw [N98.f_def]
 unfold N98.f0 N98.c
 exact now_c T hi _ (tkis_c _ _ _ h)
theorem step_w : IntKind.i64.wrap ((i : Int) + 1) = ((i + 1 : Nat) : Int) := by
 have := T.len
 rw [wrap_id (by omega) (by omega)]; omega
theorem take_c (s : ByteArray) {kq : Int → Int → Prop} (k : Bool → List LTok → Int → Prop) (h : (takeP s l i).go (fun b j => k b l j) kq) : N94.f s l i k := by
 rw [N94.f_def]
 unfold N94.f0 N94.c
 refine is_c T hi _ _ ?_
 unfold takeP at h
 rw [step_w T hi]
 refine br_of (fun h1 => ?_) (fun h1 => ?_)
 ·rw [if_neg (by simpa using h1)] at h; exact h
 ·rw [if_pos (by simpa using h1)] at h; exact h
theorem fail_c (c : Int) (kp : Err → Prop) (h : KP kp c (tokAt l i).pos) : N142.f c l i kp := by
 rw [N142.f_def]
 unfold N142.f0 N142.c
 exact now_c T hi _ h
theorem sign_c (s : ByteArray) (k : List LTok → Int → Prop) (kp : Err → Prop) (h : (signP s l i).go (fun _ j => k l j) (KP kp)) : N95.f s l i k kp := by
 rw [N95.f_def]
 unfold N95.f0 N95.c
 refine take_c T hi _ (kq := fun _ _ => False) _ ?_
 unfold signP at h
 unfold takeP
 split
 ·rename_i h1
  rw [if_pos h1] at h
  simp only [PR.go_ok, Bool.not_true, br_false]; exact h
 ·rename_i h1
  rw [if_neg h1] at h
  simp only [PR.go_ok, Bool.not_false, br_true]; exact fail_c T hi _ _ h
theorem kind_c (x : Int) (k : Int → ByteArray → Int → Int → Int → List LTok → Int → Prop) (kp : Err → Prop) (h : (kindP x l i).go (fun t j => k t.1 t.2.1 t.2.2.1 t.2.2.2.1 t.2.2.2.2 l j) (KP kp)) : N96.f x l i k kp := by
 rw [N96.f_def]
 unfold N96.f0 N96.c
 refine now_c T hi _ ?_
 unfold kindP at h
 unfold N96.j4' N96.j4
 rw [br_bne]
 by_cases h1 : (tokAt l i).kind = x
 ·rw [if_pos h1] at h; rw [if_pos (show (tokAt l i).1 = x from h1)]; dsimp only; rw [step_w T hi]; exact h
 ·rw [if_neg h1] at h; rw [if_neg (show ¬ (tokAt l i).1 = x from h1)]; exact fail_c T hi _ _ h
theorem loc_c (k : Int → Int → Int → List LTok → Int → Prop) (kp : Err → Prop) (h : (locP l i).go (fun p j => k p.1 p.2.1 p.2.2 l j) (KP kp)) : N173.f l i k kp := by
 rw [N173.f_def]
 unfold N173.f0 N173.c
 refine now_c T hi _ ?_
 unfold locP at h
 rw [br_beq, br_beq, step_w T hi]
 by_cases h1 : (tokAt l i).kind = 5
 ·rw [if_pos (show (tokAt l i).1 = 5 from h1)]; rw [if_pos h1] at h; exact h
 ·rw [if_neg (show ¬ (tokAt l i).1 = 5 from h1)]
  rw [if_neg h1] at h
  by_cases h2 : (tokAt l i).kind = 6
  ·rw [if_pos (show (tokAt l i).1 = 6 from h2)]; rw [if_pos h2] at h; exact h
  ·rw [if_neg (show ¬ (tokAt l i).1 = 6 from h2)]; rw [if_neg h2] at h; exact fail_c T hi _ _ h
theorem value_c (k : Int → List LTok → Int → Prop) (kp : Err → Prop) (h : (valueP l i).go (fun n j => k n l j) (KP kp)) : N174.f l i k kp := by
 rw [N174.f_def]
 unfold N174.f0 N174.c
 refine ⟨T.len, ?_⟩
 unfold valueP at h
 unfold N174.j4' N174.j4
 rw [err_nil]
 by_cases hc : (foldV l i).code = 0
 ·rw [if_pos hc] at h
  rw [show (!decide ((foldV l i).code = 0)) = false by simp [hc], br_false]
  obtain ⟨n, b, e, _⟩ := foldV_in T hi hc
  rw [e] at h ⊢
  rw [ok_at] at h
  exact h
 ·rw [if_neg hc] at h
  rw [show (!decide ((foldV l i).code = 0)) = true by simp [hc], br_true]
  exact h
end
theorem room_of {n b m : Nat} (h : n ≤ m) (hm : m ≤ 1000000001) (hb : b ≤ 1000) : room n b := by
 unfold room
 have h1 : n * (b + 1) ≤ 1000000001 * 1001 := Nat.mul_le_mul (by omega) (by omega)
 omega
section
variable {l : List LTok} (T : LexP l) {i : Nat} (hi : i < l.length)
include T hi
theorem opnd_c (k : Int → Int → Int → Int → List LTok → Int → Prop) (kp : Err → Prop) (h : (opndP l i).go (fun a j => k a.1 a.2.1 a.2.2.1 a.2.2.2 l j) (KP kp)) : N163.f l i k kp := by
 rw [N163.f_def]
 unfold N163.f0 N163.c
 refine now_c T hi _ ?_
 unfold opndP at h
 have regs : ((tokAt l i).kind = 5 ∨ (tokAt l i).kind = 6) → (tokAt l i).kind ≠ 4 → N163.j2000008' true l i 0 0 0 0 k kp := by
  intro h5 h4
  rw [if_neg h4, if_pos h5] at h
  unfold N163.j2000008' N163.j2000008
  rw [br_true]
  refine loc_c T hi _ _ (bindgo' step_loc T hi h fun p j g1 g2 h => ?_)
  refine sign_c T g2 _ _ _ (bindgo' (step_sign _) T g2 h fun _ j2 g3 g4 h => ?_)
  exact kind_c T g4 _ _ _ (bindgo' (step_kind (by decide)) T g4 h fun v j3 g5 g6 h => h)
 have rest : (tokAt l i).kind ≠ 4 → ¬ ((tokAt l i).kind = 5 ∨ (tokAt l i).kind = 6) → N163.j2000008' false l i 0 0 0 0 k kp := by
  intro h4 h5
  rw [if_neg h4, if_neg h5] at h
  unfold N163.j2000008' N163.j2000008 N163.j11' N163.j11
  rw [br_false]
  refine take_c T hi _ (kq := fun _ _ => False) _ ?_
  unfold takeP
  split
  ·rename_i h1
   rw [if_pos h1] at h
   simp only [PR.go_ok, Bool.not_false, br_true]; exact h
  ·rename_i h1
   rw [if_neg h1] at h
   simp only [PR.go_ok, Bool.not_true, br_false]
   exact value_c T hi _ _ (bindgo' step_value T hi h fun n j g1 g2 h => h)
 refine br_of (fun h1 => ?_) (fun h1 => ?_)
 ·have h1 : (tokAt l i).kind = 4 := eq_of_beq h1
  rw [if_pos h1] at h
  rw [step_w T hi]; exact h
 ·have h1 : (tokAt l i).kind ≠ 4 := beq_eq_false_iff_ne.1 h1
  refine br_of (fun h2 => ?_) (fun h2 => ?_)
  ·rw [h2]
   exact regs (.inl (eq_of_beq h2)) h1
  ·have h2 : (tokAt l i).kind ≠ 5 := beq_eq_false_iff_ne.1 h2
   by_cases h3 : (tokAt l i).kind = 6
   ·rw [show ((tokAt l i).1 == 6) = true from beq_iff_eq.2 h3]
    exact regs (.inr h3) h1
   ·rw [show ((tokAt l i).1 == 6) = false from beq_eq_false_iff_ne.2 h3]
    exact rest h1 (fun h => h.elim h2 h3)
theorem some_c (k : List LTok → Int → List OpT → Prop) (kp : Err → Prop) (h : (someP l i).go (fun a j => k l j a) (KP kp)) : N144.f l i k kp := by
 have hlen := T.len
 rw [N144.f_def]
 unfold N144.f0 N144.c
 refine opnd_c T hi _ _ (bindgo' step_opnd T hi h fun a j g1 g2 h => ?_)
 unfold N144.l2'
 refine loopS_of (fun s : List LTok × Int × List OpT => s.1 = l ∧ ∃ j : Nat, s.2.1 = j ∧ j < l.length ∧ s.2.2.length ≤ j ∧ (manyP (takeP sComma) opndP l j).go (fun r m => k l m (s.2.2 ++ r)) (KP kp))
  (fun s => l.length - s.2.1.toNat) ?_ ⟨rfl, j, rfl, g2, by simp; omega, by
    rw [go_bind] at h; exact h⟩
 rintro again ⟨l', _, out⟩ ⟨el, j, rfl, hj, ho, h⟩ hag
 have el : l' = l := el
 subst el
 dsimp only at hj ho h hag ⊢
 rw [many_eq (stay_take _) step_opnd T hj] at h
 unfold N144.l2
 refine take_c T hj _ _ (bindgo (stay_take _) T hj h fun b j2 q1 q2 h => ?_)
 cases b with
 | true =>
   rw [br_true]
   simp only [if_true] at h
   refine opnd_c T q2 _ _ (bindgo' step_opnd T q2 h fun a j3 q3 q4 h => ?_)
   refine ⟨room_of (m := l'.length) (by simp; omega) (by omega) (by decide), ?_⟩
   refine hag _ ⟨rfl, j3, rfl, q4, by simp; omega, ?_⟩ (by simp; omega)
   rw [go_bind] at h
   refine PR.go_mono h (fun r m _ h => ?_) fun _ _ _ h => h
   dsimp only
   rw [List.append_assoc]; exact h
 | false =>
   rw [br_false]
   simp only [Bool.false_eq_true, if_false] at h
   unfold N144.j4' N144.j4
   rw [go_ret, List.append_nil] at h
   exact h
theorem any_c (e : ByteArray) (k : List LTok → Int → List OpT → Prop) (kp : Err → Prop) (h : (anyP e l i).go (fun a j => k l j a) (KP kp)) : N97.f e l i k kp := by
 rw [N97.f_def]
 unfold N97.f0 N97.c
 refine take_c T hi _ _ (bindgo (stay_take _) T hi h fun b j q1 q2 h => ?_)
 cases b with
 | true => rw [br_true]; exact h
 | false =>
   rw [br_false]
   simp only [Bool.false_eq_true, if_false] at h
   refine some_c T q2 _ _ (bindgo' step_some T q2 h fun a j3 q3 q4 h => ?_)
   exact sign_c T q4 _ _ _ (bindgo' (step_sign _) T q4 h fun _ j4 q5 q6 h => h)
omit T hi in
theorem edge_c {s t : ByteArray} (hs : s.size ≤ 65536) (ht : t.size ≤ 65536) (k : ByteArray → Prop) (h : k (s ++ sDot ++ t)) : N146.f s t k := by
 rw [N146.f_def]
 unfold N146.f0 N146.c
 have e : (s ++ sDot).size = s.size + 1 := by rw [ByteArray.size_append]; rfl
 refine ⟨?_, ?_, h⟩
 ·show s.size + 1 ≤ _; omega
 ·rw [e]; omega
theorem tok_txt {x : Int} {t : LTok} {j : Nat} (h : kindP x l i = .ok t j) : t.text.size ≤ 65536 := by
 unfold kindP at h
 split at h
 ·cases h; exact T.txt i
 ·cases h
theorem label_c (k : ByteArray → List LTok → Int → Prop) (kp : Err → Prop) (h : (labelP l i).go (fun s j => k s l j) (KP kp)) : N178.f l i k kp := by
 rw [N178.f_def]
 unfold N178.f0 N178.c
 unfold labelP at h
 rw [go_bind] at h
 refine kind_c T hi _ _ _ (PR.go_mono h (fun t j e h => ?_) fun _ _ _ h => h)
 obtain ⟨g1, g2⟩ := step_kind (by decide) l T i t j hi e
 have st := tok_txt T hi e
 refine take_c T g2 _ _ (bindgo (stay_take _) T g2 h fun b j2 q1 q2 h => ?_)
 cases b with
 | true =>
   rw [br_true]
   simp only [if_true] at h
   rw [go_bind] at h
   refine kind_c T q2 _ _ _ (PR.go_mono h (fun u j3 e2 h => ?_) fun _ _ _ h => h)
   exact edge_c st (tok_txt T q2 e2) _ h
 | false => rw [br_false]; exact h
theorem cases_c (k : List LTok → Int → List Int → List ByteArray → Prop) (kp : Err → Prop) (h : (casesP l i).go (fun c j => k l j c.1 c.2) (KP kp)) : N179.f l i k kp := by
 have hlen := T.len
 rw [N179.f_def]
 unfold N179.f0 N179.c
 refine sign_c T hi _ _ _ (bindgo' (step_sign _) T hi h fun _ j g1 g2 h => ?_)
 unfold N179.l2'
 refine loopS_of (fun s : List LTok × Int × List Int × List ByteArray => s.1 = l ∧ ∃ j : Nat, s.2.1 = j ∧ j < l.length ∧ s.2.2.1.length ≤ j ∧ s.2.2.2.length ≤ j ∧
  ((manyP (notIs sElse) caseP).bind (fun r => (signP sElse).bind fun _ => (signP sColon).bind fun _ => labelP.bind fun x => (signP sRB).bind fun _ => .ret (s.2.2.1 ++ r.map (·.1), s.2.2.2 ++ (r.map (·.2) ++ [x]))) l j).go (fun c m => k l m c.1 c.2) (KP kp))
  (fun s => l.length - s.2.1.toNat) ?_ ⟨rfl, j, rfl, g2, Nat.zero_le _, Nat.zero_le _, h⟩
 rintro again ⟨l', _, o1, o2⟩ ⟨el, j, rfl, hj, ho1, ho2, h⟩ hag
 have el : l' = l := el
 subst el
 dsimp only at hj ho1 ho2 h hag ⊢
 unfold N179.l2
 refine is_c T hj _ _ ?_
 rw [go_bind, many_eq (stay_notIs _) step_case T hj, go_bind] at h
 unfold notIs at h
 rw [PR.go_ok] at h
 refine br_of (fun hb => ?_) (fun hb => ?_)
 ·rw [hb] at h
  simp only [if_true] at h
  rw [go_bind] at h
  unfold caseP at h
  rw [go_bind] at h
  refine value_c T hj _ _ (PR.go_mono (go_step step_value T hj h) (fun n j2 _ h => ?_) fun _ _ _ h => h)
  obtain ⟨q1, q2, h⟩ := h
  refine ⟨room_of (m := l'.length) (by simp; omega) (by omega) (by decide), ?_⟩
  rw [go_bind] at h
  refine sign_c T q2 _ _ _ (PR.go_mono (go_step (step_sign _) T q2 h) (fun _ j3 _ h => ?_) fun _ _ _ h => h)
  obtain ⟨q3, q4, h⟩ := h
  rw [go_bind] at h
  refine label_c T q4 _ _ (PR.go_mono (go_step Aw.step_label T q4 h) (fun x j4 _ h => ?_) fun _ _ _ h => h)
  obtain ⟨q5, q6, h⟩ := h
  refine ⟨room_of (m := l'.length) (by simp; omega) (by omega) (by decide), ?_⟩
  rw [go_bind] at h
  refine sign_c T q6 _ _ _ (PR.go_mono (go_step (step_sign _) T q6 h) (fun _ j5 _ h => ?_) fun _ _ _ h => h)
  obtain ⟨q7, q8, h⟩ := h
  refine hag _ ⟨rfl, j5, rfl, q8, by simp; omega, by simp; omega, ?_⟩ (by simp; omega)
  dsimp only
  rw [go_ret, go_bind] at h
  rw [go_bind]
  refine PR.go_mono h (fun r m _ h => ?_) fun _ _ _ h => h
  rw [go_ret] at h
  simpa [List.append_assoc] using h
 ·rw [hb] at h
  simp only [Bool.false_eq_true, if_false] at h
  rw [go_ret] at h
  unfold N179.j7' N179.j7
  refine sign_c T hj _ _ _ (bindgo' (step_sign _) T hj h fun _ j2 q1 q2 h => ?_)
  refine sign_c T q2 _ _ _ (bindgo' (step_sign _) T q2 h fun _ j3 q3 q4 h => ?_)
  refine label_c T q4 _ _ (bindgo' Aw.step_label T q4 h fun x j4 q5 q6 h => ?_)
  refine ⟨room_of (m := l'.length) (by simp; omega) (by omega) (by decide), ?_⟩
  refine sign_c T q6 _ _ _ (bindgo' (step_sign _) T q6 h fun _ j5 q7 q8 h => ?_)
  rw [go_ret] at h
  simpa using h
theorem places_c (n : Nat) (hn : n ≤ 2) (k : List LTok → Int → List OpT → Prop) (kp : Err → Prop) (h : (placesP n l i).go (fun a j => k l j a) (KP kp)) : N177.f n l i k kp := by
 have hlen := T.len
 rw [N177.f_def]
 unfold N177.f0 N177.c N177.l3'
 refine loopS_of (fun s : Int × List LTok × Int × List OpT => s.2.1 = l ∧ ∃ (c j : Nat), s.1 = c ∧ s.2.2.1 = j ∧ j < l.length ∧ c ≤ n ∧ s.2.2.2.length = c ∧
  ((if c = 0 ∨ c = n then Psr.ret () else signP sComma).bind (fun _ => placesP (n - c)) l j).go (fun r m => k l m (s.2.2.2 ++ r)) (KP kp))
  (fun s => n - s.1.toNat) ?_ ⟨rfl, 0, i, rfl, rfl, hi, Nat.zero_le _, rfl, by
    rw [if_pos (.inl rfl), go_bind, go_ret]; exact h⟩
 rintro again ⟨_, l', _, out⟩ ⟨el, c, j, rfl, rfl, hj, hc, ho, h⟩ hag
 have el : l' = l := el
 subst el
 dsimp only at hj hc ho h hag ⊢
 unfold N177.l3
 have body : ∀ j : Nat, j < l'.length → c < n → (placesP (n - c) l' j).go (fun r m => k l' m (out ++ r)) (KP kp) → N177.j7' (fun x8 b0_0 b0_1 b1 => again (x8, b0_0, b0_1, b1)) n c l' j out k kp := by
  intro j hj hlt h
  obtain ⟨m, hm⟩ : ∃ m, n - c = m + 1 := ⟨n - c - 1, by omega⟩
  rw [hm] at h
  unfold placesP at h
  unfold N177.j7' N177.j7
  refine opnd_c T hj _ _ (bindgo' step_opnd T hj h fun a j2 q1 q2 h => ?_)
  refine ⟨room_of (m := l'.length) (by simp; omega) (by omega) (by decide), ?_⟩
  unfold N177.j8' N177.j8
  have hw : IntKind.i64.wrap ((c : Int) + 1) = ((c + 1 : Nat) : Int) := by rw [wrap_id (by omega) (by omega)]; omega
  dsimp only
  rw [hw]
  refine hag _ ⟨rfl, c + 1, j2, rfl, rfl, q2, by omega, by simp [ho], ?_⟩ (by simp; omega)
  dsimp only
  rw [go_bind] at h ⊢
  have e : (if c + 1 = 0 ∨ c + 1 = n then Psr.ret () else signP sComma) = (if m = 0 then Psr.ret () else signP sComma) := by
   by_cases hm0 : m = 0
   ·rw [if_pos (.inr (by omega)), if_pos hm0]
   ·rw [if_neg (by omega), if_neg hm0]
  rw [e, show n - (c + 1) = m by omega]
  refine PR.go_mono h (fun _ j3 _ h => ?_) fun _ _ _ h => h
  rw [go_bind] at h
  refine PR.go_mono h (fun r m _ h => ?_) fun _ _ _ h => h
  rw [go_ret] at h
  rw [List.append_assoc]; exact h
 refine br_of (fun h1 => ?_) (fun h1 => ?_)
 ·have h1 : c < n := by have := of_decide_eq_true h1; omega
  refine br_of (fun h2 => ?_) (fun h2 => ?_)
  ·have h2 : 0 < c := by have := of_decide_eq_true h2; omega
   rw [if_neg (by omega)] at h
   refine sign_c T hj _ _ _ (bindgo' (step_sign _) T hj h fun _ j2 q1 q2 h => ?_)
   exact body j2 q2 h1 h
  ·have h2 : c = 0 := by have := of_decide_eq_false h2; omega
   rw [if_pos (.inl h2), go_bind, go_ret] at h
   exact body j hj h1 h
 ·have h1 : c = n := by have := of_decide_eq_false h1; omega
  rw [if_pos (.inr h1), go_bind, go_ret, h1, Nat.sub_self] at h
  unfold placesP at h
  rw [go_ret, List.append_nil] at h
  unfold N177.j9' N177.j9
  exact h
end
section
variable {l : List LTok} (T : LexP l) {i : Nat} (hi : i < l.length)
include T hi
theorem rest_c {o : Int} (ho1 : 1 ≤ o) (ho2 : o ≤ 27) (d0 d1 d2 d3 : Int) {k : List LTok → Int → Int → Int → Int → Int → Int → ByteArray → Int → List OpT → Prop} {k1 : List LTok → Int → Int → Int → Int → Int → Int → ByteArray → Int → List OpT → List ByteArray → Prop}
 {k2 : List LTok → Int → Int → Int → Int → Int → Int → ByteArray → Int → List OpT → List ByteArray → List Int → Prop} {kp : Err → Prop} (G : InT → Nat → Prop)
 (hk : ∀ (j : Nat) a nm off, j < l.length → G (o, (d0, d1, d2, d3), a, nm, off, [], []) j → k l j o d0 d1 d2 d3 nm off a) (hk1 : ∀ (j : Nat) a nm off ls, j < l.length → G (o, (d0, d1, d2, d3), a, nm, off, ls, []) j → k1 l j o d0 d1 d2 d3 nm off a ls)
 (hk2 : ∀ (j : Nat) a nm off ls cs, j < l.length → G (o, (d0, d1, d2, d3), a, nm, off, ls, cs) j → k2 l j o d0 d1 d2 d3 nm off a ls cs) (h : (restP o (d0, d1, d2, d3) l i).go G (KP kp)) :
 N165.f l i o d0 d1 d2 d3 (ByteArray.mk #[]) 0 k k1 k2 kp := by
 have hlen := T.len
 rw [N165.f_def]
 unfold N165.f0 N165.c
 unfold restP at h
 refine br_of (fun h19 => ?_) (fun h19 => ?_)
 ·rw [if_pos (eq_of_beq h19)] at h
  refine kind_c T hi _ _ _ (bindgo' (step_kind (by decide)) T hi h fun t j g1 g2 h => ?_)
  refine sign_c T g2 _ _ _ (bindgo' (step_sign _) T g2 h fun _ j2 g3 g4 h => ?_)
  exact any_c T g4 _ _ _ (bindgo (stay_any _) T g4 h fun a j3 g5 g6 h => hk _ _ _ _ g6 h)
 ·have h19 := beq_eq_false_iff_ne.1 h19
  rw [if_neg h19] at h
  refine args_c ho1 ho2 h19 _ ?_
  have hn : opArgs o ≤ 2 := by unfold opArgs; split <;> (try split) <;> omega
  refine places_c T hi (opArgs o) hn _ _ (bindgo (stay_places _) T hi h fun a j g1 g2 h => ?_)
  have offs : (o = 17 ∨ o = 18) → N165.j2000009' o true l j o d0 d1 d2 d3 (ByteArray.mk #[]) 0 a k k1 k2 kp := by
   intro h17
   rw [if_pos h17] at h
   unfold N165.j2000009' N165.j2000009
   rw [br_true]
   unfold offP at h
   rw [go_bind] at h
   refine take_c T g2 _ _ (bindgo (stay_take _) T g2 h fun b j2 q1 q2 h => ?_)
   cases b with
   | true =>
     rw [br_true]
     simp only [if_true] at h
     exact value_c T q2 _ _ (PR.go_mono (go_step step_value T q2 h) (fun n j3 _ h => hk _ _ _ _ h.2.1 h.2.2) fun _ _ _ h => h)
   | false =>
     rw [br_false]
     exact hk _ _ _ _ q2 h
  have others : ¬ (o = 17 ∨ o = 18) → N165.j2000009' o false l j o d0 d1 d2 d3 (ByteArray.mk #[]) 0 a k k1 k2 kp := by
   intro h17
   rw [if_neg h17] at h
   unfold N165.j2000009' N165.j2000009
   rw [br_false]
   refine br_of (fun h20 => ?_) (fun h20 => ?_)
   ·rw [if_pos (eq_of_beq h20)] at h
    exact label_c T g2 _ _ (bindgo' Aw.step_label T g2 h fun s j2 q1 q2 h => hk1 _ _ _ _ _ q2 h)
   ·rw [if_neg (beq_eq_false_iff_ne.1 h20)] at h
    refine br_of (fun h21 => ?_) (fun h21 => ?_)
    ·rw [if_pos (eq_of_beq h21)] at h
     unfold N165.l15'
     refine ⟨3, ?_⟩
     simp only [loopS, N165.l15]
     rw [show decide ((0 : Int) < 2) = true from rfl, br_true]
     refine sign_c T g2 _ _ _ (bindgo' (step_sign _) T g2 h fun _ j2 q1 q2 h => ?_)
     refine label_c T q2 _ _ (bindgo' Aw.step_label T q2 h fun s j3 q3 q4 h => ?_)
     refine ⟨room_of (m := l.length) (by simp; omega) (by omega) (by decide), ?_⟩
     rw [show IntKind.i64.wrap ((0 : Int) + 1) = 1 from by decide, show decide ((1 : Int) < 2) = true from rfl, br_true]
     refine sign_c T q4 _ _ _ (bindgo' (step_sign _) T q4 h fun _ j4 q5 q6 h => ?_)
     refine label_c T q6 _ _ (bindgo' Aw.step_label T q6 h fun t j5 q7 q8 h => ?_)
     refine ⟨room_of (m := l.length) (by simp; omega) (by omega) (by decide), ?_⟩
     rw [show IntKind.i64.wrap ((1 : Int) + 1) = 2 from by decide, show decide ((2 : Int) < 2) = false from rfl, br_false]
     exact hk1 _ _ _ _ _ q8 h
    ·rw [if_neg (beq_eq_false_iff_ne.1 h21)] at h
     refine br_of (fun h22 => ?_) (fun h22 => ?_)
     ·rw [if_pos (eq_of_beq h22)] at h
      exact cases_c T g2 _ _ (bindgo' step_cases T g2 h fun c j2 q1 q2 h => hk2 _ _ _ _ _ _ q2 h)
     ·rw [if_neg (beq_eq_false_iff_ne.1 h22)] at h
      exact hk _ _ _ _ g2 h
  refine br_of (fun h17 => ?_) (fun h17 => ?_)
  ·rw [h17]; exact offs (.inl (eq_of_beq h17))
  ·have h17 := beq_eq_false_iff_ne.1 h17
   by_cases h18 : o = 18
   ·rw [show (o == 18) = true from beq_iff_eq.2 h18]; exact offs (.inr h18)
   ·rw [show (o == 18) = false from beq_eq_false_iff_ne.2 h18]; exact others (fun h => h.elim h17 h18)
theorem instr_c {k : Int → Int → Int → Int → Int → List OpT → ByteArray → Int → List LTok → Int → Prop} {k1 : Int → Int → Int → Int → Int → List OpT → ByteArray → Int → List ByteArray → List LTok → Int → Prop}
 {k2 : Int → Int → Int → Int → Int → List OpT → ByteArray → Int → List ByteArray → List Int → List LTok → Int → Prop} {kp : Err → Prop} (G : InT → Nat → Prop)
 (hk : ∀ (j : Nat) o d0 d1 d2 d3 a nm off, j < l.length → G (o, (d0, d1, d2, d3), a, nm, off, [], []) j → k o d0 d1 d2 d3 a nm off l j) (hk1 : ∀ (j : Nat) o d0 d1 d2 d3 a nm off ls, j < l.length → G (o, (d0, d1, d2, d3), a, nm, off, ls, []) j → k1 o d0 d1 d2 d3 a nm off ls l j)
 (hk2 : ∀ (j : Nat) o d0 d1 d2 d3 a nm off ls cs, j < l.length → G (o, (d0, d1, d2, d3), a, nm, off, ls, cs) j → k2 o d0 d1 d2 d3 a nm off ls cs l j) (h : (instrP l i).go G (KP kp)) : N148.f l i k k1 k2 kp := by
 have hlen := T.len
 rw [N148.f_def]
 unfold N148.f0 N148.c
 refine now_c T hi _ ?_
 unfold instrP at h
 rw [go_bind] at h
 have main : ∀ (gv : Bool) (d0 d1 d2 d3 : Int) (j : Nat), j < l.length → (gv = false → (tokAt l j).kind = 1) → ((opP gv).bind (fun o => (restP o (d0, d1, d2, d3)).bind fun x => (signP sSemi).bind fun _ => .ret x) l j).go G (KP kp) →
  N148.j9' gv l j 0 0 0 0 0 (ByteArray.mk #[]) 0 0 d0 d1 d2 d3 (ByteArray.mk #[]) 0 k k1 k2 kp := by
  intro gv d0 d1 d2 d3 j hj hgv h
  unfold N148.j9' N148.j9
  refine now_c T hj _ (find_c _ _ (now_c T hj _ ?_))
  rw [go_bind] at h
  unfold opP at h
  have bad : ¬ ((tokAt l j).kind = 1 ∧ opFind (tokAt l j).text ≠ 0) → ∀ x6, N148.j2000011' gv x6 true l j 0 0 0 0 0 (ByteArray.mk #[]) 0 0 d0 d1 d2 d3 (ByteArray.mk #[]) 0 k k1 k2 kp := by
   intro hb x6
   rw [if_neg hb] at h
   unfold N148.j2000011' N148.j2000011 N148.j13' N148.j13
   rw [br_true]
   cases gv with
   | true =>
     rw [Bool.not_true, br_false]
     exact fail_c T hj _ _ h
   | false =>
     rw [Bool.not_false, br_true]
     have hj1 := not_last T.last hj (by rw [hgv rfl]; decide)
     dsimp only
     rw [step_w T hj]
     exact fail_c T hj1 _ _ h
  have good : (tokAt l j).kind = 1 ∧ opFind (tokAt l j).text ≠ 0 → N148.j2000011' gv (opFind (tokAt l j).text) false l j 0 0 0 0 0 (ByteArray.mk #[]) 0 0 d0 d1 d2 d3 (ByteArray.mk #[]) 0 k k1 k2 kp := by
   intro hg
   rw [if_pos hg, PR.go_ok] at h
   unfold N148.j2000011' N148.j2000011 N148.j14' N148.j14
   rw [br_false]
   have hj1 := not_last T.last hj (by rw [hg.1]; decide)
   dsimp only
   rw [step_w T hj]
   have ho := (find_range (tokAt l j).text).resolve_left hg.2
   rw [go_bind] at h
   refine rest_c T hj1 ho.1 ho.2 d0 d1 d2 d3 _ ?_ ?_ ?_ h
   ·intro j2 a nm off q h
    exact sign_c T q _ _ _ (bindgo' (step_sign _) T q h fun _ j3 q1 q2 h => hk _ _ _ _ _ _ _ _ _ q2 h)
   ·intro j2 a nm off ls q h
    exact sign_c T q _ _ _ (bindgo' (step_sign _) T q h fun _ j3 q1 q2 h => hk1 _ _ _ _ _ _ _ _ _ _ q2 h)
   ·intro j2 a nm off ls cs q h
    exact sign_c T q _ _ _ (bindgo' (step_sign _) T q h fun _ j3 q1 q2 h => hk2 _ _ _ _ _ _ _ _ _ _ _ q2 h)
  refine br_of (fun h1 => ?_) (fun h1 => ?_)
  ·exact bad (fun h' => (bne_iff_ne.1 h1) h'.1) _
  ·have h1 : (tokAt l j).kind = 1 := by
    have := bne_eq_false_iff_eq.1 h1
    exact this
   by_cases h2 : opFind (tokAt l j).text = 0
   ·rw [show (!decide (opFind (tokAt l j).2.1 ≠ 0)) = true by rw [show opFind (tokAt l j).2.1 = 0 from h2]; rfl]
    exact bad (fun h' => h'.2 h2) _
   ·rw [show (!decide (opFind (tokAt l j).2.1 ≠ 0)) = false by
     rw [show decide (opFind (tokAt l j).2.1 ≠ 0) = true from decide_eq_true h2]; rfl]
    exact good ⟨h1, h2⟩
 unfold dstP at h
 refine br_of (fun h1 => ?_) (fun h1 => ?_)
 ·have h1' : ¬ (tokAt l i).kind = 1 := bne_iff_ne.1 h1
  rw [if_neg h1'] at h
  rw [h1]
  refine now_c T hi _ ?_
  have gives : ((tokAt l i).kind = 4 ∨ (tokAt l i).kind = 5 ∨ (tokAt l i).kind = 6) → N148.j2000006' true false l i 0 0 0 0 0 (ByteArray.mk #[]) 0 0 0 0 0 0 (ByteArray.mk #[]) 0 k k1 k2 kp := by
   intro hg
   rw [if_pos hg] at h
   unfold N148.j2000006' N148.j2000006 N148.j7' N148.j7
   rw [br_false]
   dsimp only
   refine opnd_c T hi _ _ (bindgo' step_opnd T hi h fun a j g1 g2 h => ?_)
   refine sign_c T g2 _ _ _ (bindgo' (step_sign _) T g2 h fun _ j2 g3 g4 h => ?_)
   exact main true a.1 a.2.1 a.2.2.1 a.2.2.2 j2 g4 (fun h => by cases h) h
  have none : ¬ ((tokAt l i).kind = 4 ∨ (tokAt l i).kind = 5 ∨ (tokAt l i).kind = 6) → N148.j2000006' true true l i 0 0 0 0 0 (ByteArray.mk #[]) 0 0 0 0 0 0 (ByteArray.mk #[]) 0 k k1 k2 kp := by
   intro hg
   rw [if_neg hg] at h
   unfold N148.j2000006' N148.j2000006
   rw [br_true]
   exact fail_c T hi _ _ h
  refine br_of (fun h4 => ?_) (fun h4 => ?_)
  ·have h4 : ¬ (tokAt l i).kind = 4 := bne_iff_ne.1 h4
   refine br_of (fun h5 => ?_) (fun h5 => ?_)
   ·have h5 : ¬ (tokAt l i).kind = 5 := bne_iff_ne.1 h5
    by_cases h6 : (tokAt l i).kind = 6
    ·rw [show ((tokAt l i).1 != 6) = false from bne_eq_false_iff_eq.2 h6]; exact gives (.inr (.inr h6))
    ·rw [show ((tokAt l i).1 != 6) = true from bne_iff_ne.2 h6]
     exact none (fun h => h.elim h4 fun h => h.elim h5 h6)
   ·exact gives (.inr (.inl (bne_eq_false_iff_eq.1 h5)))
  ·exact gives (.inl (bne_eq_false_iff_eq.1 h4))
 ·have h1' : (tokAt l i).kind = 1 := bne_eq_false_iff_eq.1 h1
  rw [if_pos h1', PR.go_ok] at h
  rw [h1]
  exact main false 0 0 0 0 i hi (fun _ => h1') h
theorem head_c (k : Bool → List LTok → Int → Prop) (h : k (headB l i) l i) : N147.f l i k := by
 rw [N147.f_def]
 unfold N147.f0 N147.c
 refine now_c T hi _ ?_
 unfold headB at h
 refine br_of (fun h1 => ?_) (fun h1 => ?_)
 ·rw [show decide ((tokAt l i).kind = 1) = false from decide_eq_false (bne_iff_ne.1 h1), Bool.false_and] at h
  exact h
 ·rw [show decide ((tokAt l i).kind = 1) = true from decide_eq_true (bne_eq_false_iff_eq.1 h1), Bool.true_and] at h
  refine behind_c T hi _ (tkis_c _ _ _ ?_)
  refine br_of (fun h2 => ?_) (fun h2 => ?_)
  ·rw [show isTk (bhd l i) sColon = true from h2, Bool.true_or, Bool.true_or] at h; exact h
  ·rw [show isTk (bhd l i) sColon = false from h2, Bool.false_or] at h
   refine tkis_c _ _ _ (br_of (fun h3 => ?_) (fun h3 => ?_))
   ·rw [show isTk (bhd l i) sLB = true from h3, Bool.true_or] at h; exact h
   ·rw [show isTk (bhd l i) sLB = false from h3, Bool.false_or] at h
    refine is_c T hi _ _ (br_of (fun h4 => ?_) (fun h4 => ?_))
    ·rw [show isTk (tokAt l i) sEdge = true from h4, Bool.true_and] at h
     have e : ((bhd l i).1 == 1) = decide ((bhd l i).kind = 1) := by rw [Bool.eq_iff_iff, beq_iff_eq, decide_eq_true_eq]; rfl
     rw [e]; exact h
    ·rw [show isTk (tokAt l i) sEdge = false from h4, Bool.false_and] at h; exact h
end
section
variable {l : List LTok} (T : LexP l) {i : Nat} (hi : i < l.length)
include T hi
theorem block_c (k : ByteArray → Bool → List OpT → List InT → List LTok → Int → Prop) (kp : Err → Prop) (h : (blockP l i).go (fun b j => k b.1 b.2.1 b.2.2.1 b.2.2.2 l j) (KP kp)) : N101.f l i k kp := by
 have hlen := T.len
 rw [N101.f_def]
 unfold N101.f0 N101.c
 unfold blockP at h
 have main : ∀ (e : Bool) (j : Nat), j < l.length → ((nameP e).bind (fun s => inP.bind fun a => (signP sColon).bind fun _ => (manyP moreB instrP).bind fun c => .ret (s, e, a, c)) l j).go (fun b j => k b.1 b.2.1 b.2.2.1 b.2.2.2 l j) (KP kp) →
  N101.j5' l j (ByteArray.mk #[]) false (ByteArray.mk #[]) e k kp := by
  intro e j hj h
  have behind : ∀ (s : ByteArray) (j : Nat), j < l.length → (inP.bind (fun a => (signP sColon).bind fun _ => (manyP moreB instrP).bind fun c => .ret (s, e, a, c)) l j).go (fun b j => k b.1 b.2.1 b.2.2.1 b.2.2.2 l j) (KP kp) →
   N101.j9' l j (ByteArray.mk #[]) false s e k kp := by
   intro s j hj h
   have code : ∀ (a : List OpT) (j : Nat), j < l.length → ((signP sColon).bind (fun _ => (manyP moreB instrP).bind fun c => .ret (s, e, a, c)) l j).go (fun b j => k b.1 b.2.1 b.2.2.1 b.2.2.2 l j) (KP kp) →
    N101.j12' l j (ByteArray.mk #[]) false s e a k kp := by
    intro a j hj h
    unfold N101.j12' N101.j12
    refine sign_c T hj _ _ _ (bindgo' (step_sign _) T hj h fun _ j2 g1 g2 h => ?_)
    unfold N101.l13'
    refine loopS_of (fun x : List LTok × Int × ByteArray × Bool × ByteArray × Bool × List OpT × List InT => ∃ (j : Nat) (out : List InT), x = (l, (j : Int), ByteArray.mk #[], false, s, e, a, out) ∧ j < l.length ∧ out.length ≤ j ∧
     (manyP moreB instrP l j).go (fun c m => k s e a (out ++ c) l m) (KP kp)) (fun x => l.length - x.2.1.toNat) ?_ ⟨j2, [], rfl, g2, Nat.zero_le _, by
       rw [go_bind] at h; exact h⟩
    rintro again _ ⟨j, out, rfl, hj, ho, h⟩ hag
    dsimp only
    unfold N101.l13
    rw [many_eq stay_moreB step_instr T hj, go_bind] at h
    unfold moreB at h
    rw [PR.go_ok] at h
    have stop : (!isTk (tokAt l j) sRC && !headB l j) = false → N101.j15' l j (ByteArray.mk #[]) false s e a out k kp := by
     intro hb
     rw [hb] at h
     simp only [Bool.false_eq_true, if_false] at h
     rw [go_ret, List.append_nil] at h
     unfold N101.j15' N101.j15
     exact h
    refine is_c T hj _ _ (br_of (fun h1 => ?_) (fun h1 => ?_))
    ·have h1 : isTk (tokAt l j) sRC = false := by simpa using h1
     refine head_c T hj _ (br_of (fun h2 => ?_) (fun h2 => ?_))
     ·have h2 : headB l j = false := by simpa using h2
      rw [h1, h2] at h
      simp only [Bool.not_false, Bool.and_self, if_true] at h
      rw [go_bind] at h
      have h := go_step step_instr T hj h
      unfold N101.j14' N101.j14
      refine instr_c T hj _ ?_ ?_ ?_ h
      ·rintro j3 o d0 d1 d2 d3 a' nm off q ⟨q1, q2, h⟩
       refine ⟨room_of (m := l.length) (by simp; omega) (by omega) (by decide), ?_⟩
       refine hag _ ⟨j3, _, rfl, q2, by simp; omega, ?_⟩ (by simp; omega)
       rw [go_bind] at h
       refine PR.go_mono h (fun r m _ h => ?_) fun _ _ _ h => h
       rw [go_ret] at h
       rw [List.append_assoc]; exact h
      ·rintro j3 o d0 d1 d2 d3 a' nm off ls q ⟨q1, q2, h⟩
       refine ⟨room_of (m := l.length) (by simp; omega) (by omega) (by decide), ?_⟩
       refine hag _ ⟨j3, _, rfl, q2, by simp; omega, ?_⟩ (by simp; omega)
       rw [go_bind] at h
       refine PR.go_mono h (fun r m _ h => ?_) fun _ _ _ h => h
       rw [go_ret] at h
       rw [List.append_assoc]; exact h
      ·rintro j3 o d0 d1 d2 d3 a' nm off ls cs q ⟨q1, q2, h⟩
       refine ⟨room_of (m := l.length) (by simp; omega) (by omega) (by decide), ?_⟩
       refine hag _ ⟨j3, _, rfl, q2, by simp; omega, ?_⟩ (by simp; omega)
       rw [go_bind] at h
       refine PR.go_mono h (fun r m _ h => ?_) fun _ _ _ h => h
       rw [go_ret] at h
       rw [List.append_assoc]; exact h
     ·have h2 : headB l j = true := by simpa using h2
      exact stop (by rw [h2, Bool.not_true, Bool.and_false])
    ·have h1 : isTk (tokAt l j) sRC = true := by simpa using h1
     exact stop (by rw [h1, Bool.not_true, Bool.false_and])
   unfold N101.j9' N101.j9
   unfold inP at h
   rw [go_bind, go_bind] at h
   refine take_c T hj _ _ (PR.go_mono (go_stay (stay_take _) T hj h) (fun b j2 _ h => ?_) fun _ _ _ h => h)
   obtain ⟨q1, q2, h⟩ := h
   cases b with
   | true =>
     rw [br_true]
     simp only [if_true] at h
     rw [go_bind] at h
     refine some_c T q2 _ _ (PR.go_mono (go_step step_some T q2 h) (fun a j3 _ h => ?_) fun _ _ _ h => h)
     obtain ⟨q3, q4, h⟩ := h
     rw [go_bind] at h
     refine sign_c T q4 _ _ _ (PR.go_mono (go_step (step_sign _) T q4 h) (fun _ j4 _ h => ?_) fun _ _ _ h => h)
     obtain ⟨q5, q6, h⟩ := h
     exact code a j4 q6 h
   | false =>
     rw [br_false]
     simp only [Bool.false_eq_true, if_false] at h
     exact code [] j2 q2 h
  unfold N101.j5' N101.j5
  unfold nameP at h
  rw [go_bind, go_bind] at h
  refine kind_c T hj _ _ _ (PR.go_mono h (fun t j2 ek h => ?_) fun _ _ _ h => h)
  obtain ⟨q1, q2⟩ := step_kind (by decide) l T j t j2 hj ek
  have st := tok_txt T hj ek
  cases e with
  | true =>
    rw [br_true]
    simp only [if_true] at h
    rw [go_bind] at h
    refine sign_c T q2 _ _ _ (PR.go_mono (go_step (step_sign _) T q2 h) (fun _ j3 _ h => ?_) fun _ _ _ h => h)
    obtain ⟨q3, q4, h⟩ := h
    rw [go_bind] at h
    refine kind_c T q4 _ _ _ (PR.go_mono h (fun u j4 ek2 h => ?_) fun _ _ _ h => h)
    obtain ⟨q5, q6⟩ := step_kind (by decide) l T j3 u j4 q4 ek2
    exact edge_c st (tok_txt T q4 ek2) _ (behind _ j4 q6 h)
  | false =>
    rw [br_false]
    simp only [Bool.false_eq_true, if_false] at h
    exact behind _ j2 q2 h
 have start : ∀ e, e = decide (isTk (tokAt l i) sEdge = true ∧ (bhd l i).kind = 1) → N101.j3' l i (ByteArray.mk #[]) false (ByteArray.mk #[]) e k kp := by
  rintro e rfl
  unfold N101.j3' N101.j3
  rw [go_bind] at h
  unfold edgeP at h
  by_cases he : isTk (tokAt l i) sEdge = true ∧ (bhd l i).kind = 1
  ·rw [if_pos he, PR.go_ok] at h
   have hj1 := not_last T.last hi (isTk_ne he.1)
   rw [decide_eq_true he, br_true]
   dsimp only
   rw [step_w T hi]
   exact main true (i + 1) hj1 h
  ·rw [if_neg he, PR.go_ok] at h
   rw [decide_eq_false he, br_false]
   exact main false i hi h
 refine is_c T hi _ _ (br_of (fun h1 => ?_) (fun h1 => ?_))
 ·refine behind_c T hi _ ?_
  have e : ((bhd l i).1 == 1) = decide (isTk (tokAt l i) sEdge = true ∧ (bhd l i).kind = 1) := by
   rw [Bool.eq_iff_iff, beq_iff_eq, decide_eq_true_eq]
   exact ⟨fun h => ⟨h1, h⟩, fun h => h.2⟩
  exact start _ e
 ·refine start _ ?_
  rw [eq_comm, decide_eq_false_iff_not]
  exact fun h => by rw [h1] at h; exact absurd h.1 (by decide)
theorem regs_c (k : List LTok → Int → List (Int × Int) → Prop) (kp : Err → Prop) (h : (regsP l i).go (fun a j => k l j a) (KP kp)) : N100.f l i k kp := by
 have hlen := T.len
 rw [N100.f_def]
 unfold N100.f0 N100.c
 refine sign_c T hi _ _ _ (bindgo' (step_sign _) T hi h fun _ j g1 g2 h => ?_)
 unfold N100.l3'
 refine loopS_of (fun s : List LTok × Int × List (Int × Int) => s.1 = l ∧ ∃ j : Nat, s.2.1 = j ∧ j < l.length ∧ s.2.2.length ≤ j ∧
  PR.go ((if s.2.2 = [] then (regP.bind fun a => (manyP (isKind 4) regP).bind fun r => (signP sSemi).bind fun _ => .ret (a :: r)) else ((manyP (isKind 4) regP).bind fun r => (signP sSemi).bind fun _ => Psr.ret (s.2.2 ++ r)) : Psr (List (Int × Int))) l j) (fun a m => k l m a) (KP kp))
  (fun s => l.length - s.2.1.toNat) ?_ ⟨rfl, j, rfl, g2, Nat.zero_le _, by rw [if_pos rfl]; exact h⟩
 rintro again ⟨l', _, out⟩ ⟨el, j, rfl, hj, ho, h⟩ hag
 have el : l' = l := el
 subst el
 dsimp only at hj ho h hag ⊢
 have body : (regP.bind (fun a => (manyP (isKind 4) regP).bind fun r => (signP sSemi).bind fun _ => Psr.ret (out ++ a :: r)) l' j).go (fun a m => k l' m a) (KP kp) → N100.j4' (fun b0_0 b0_1 b1 => again (b0_0, b0_1, b1)) l' j out k kp := by
  intro h
  unfold N100.j4' N100.j4
  rw [go_bind] at h
  unfold regP at h
  rw [go_bind] at h
  refine kind_c T hj _ _ _ (PR.go_mono (go_step (step_kind (by decide)) T hj h) (fun v j2 _ h => ?_) fun _ _ _ h => h)
  obtain ⟨q1, q2, h⟩ := h
  rw [go_bind] at h
  refine sign_c T q2 _ _ _ (PR.go_mono (go_step (step_sign _) T q2 h) (fun _ j3 _ h => ?_) fun _ _ _ h => h)
  obtain ⟨q3, q4, h⟩ := h
  rw [go_bind] at h
  refine now_c T q4 _ (class_c _ _ ?_)
  unfold classP at h
  have fin : ∀ (c : Int) (ok : Bool), (tokAt l' j3).kind = 1 → ok = true → (Psr.ret (v.num, c) l' (j3 + 1)).go (fun a j => ((manyP (isKind 4) regP).bind (fun r => (signP sSemi).bind fun _ => Psr.ret (out ++ a :: r)) l' j).go (fun a m => k l' m a) (KP kp)) (KP kp) →
   N143.f l' j3 (fun y0_0_6 y0_1_6 y0_2_6 y0_3_6 y0_4_6 z0_0_6 z0_1_6 => br (y0_0_6 != 1) (N100.j2000008' (fun b0_0 b0_1 b1 => again (b0_0, b0_1, b1)) c true z0_0_6 z0_1_6 v.1 v.2.1 v.2.2.1 v.2.2.2.1 v.2.2.2.2 out k kp) (N100.j2000008' (fun b0_0 b0_1 b1 => again (b0_0, b0_1, b1)) c (!ok) z0_0_6 z0_1_6 v.1 v.2.1 v.2.2.1 v.2.2.2.1 v.2.2.2.2 out k kp)) := by
   rintro c ok hk rfl h
   refine now_c T q4 _ ?_
   rw [show ((tokAt l' j3).1 != 1) = false from bne_eq_false_iff_eq.2 hk, br_false]
   unfold N100.j2000008' N100.j2000008 N100.j9' N100.j9
   rw [Bool.not_true, br_false]
   have q6 := not_last T.last q4 (by rw [hk]; decide)
   dsimp only
   refine ⟨room_of (m := l'.length) (by simp; omega) (by omega) (by decide), ?_⟩
   rw [step_w T q4]
   refine hag _ ⟨rfl, j3 + 1, rfl, q6, by simp; omega, ?_⟩ (by simp; omega)
   dsimp only
   rw [if_neg (by simp)]
   rw [go_ret] at h
   simp only [List.append_assoc, List.cons_append, List.nil_append]
   exact h
  have bad : ∀ (c : Int) (ok : Bool), ¬ ((tokAt l' j3).kind = 1 ∧ ok = true) → KP kp 20 (tokAt l' j3).pos →
   N143.f l' j3 (fun y0_0_6 y0_1_6 y0_2_6 y0_3_6 y0_4_6 z0_0_6 z0_1_6 => br (y0_0_6 != 1) (N100.j2000008' (fun b0_0 b0_1 b1 => again (b0_0, b0_1, b1)) c true z0_0_6 z0_1_6 v.1 v.2.1 v.2.2.1 v.2.2.2.1 v.2.2.2.2 out k kp) (N100.j2000008' (fun b0_0 b0_1 b1 => again (b0_0, b0_1, b1)) c (!ok) z0_0_6 z0_1_6 v.1 v.2.1 v.2.2.1 v.2.2.2.1 v.2.2.2.2 out k kp)) := by
   intro c ok hn h
   refine now_c T q4 _ ?_
   unfold N100.j2000008' N100.j2000008
   refine br_of (fun h1 => ?_) (fun h1 => ?_)
   ·rw [br_true]; exact fail_c T q4 _ _ h
   ·cases ok with
    | true => exact absurd ⟨bne_eq_false_iff_eq.1 h1, rfl⟩ hn
    | false => rw [Bool.not_false, br_true]; exact fail_c T q4 _ _ h
  by_cases hG : beqS (tokAt l' j3).2.1 sG = true
  ·rw [if_pos hG]
   by_cases hk : (tokAt l' j3).kind = 1
   ·rw [if_pos ⟨hk, hG⟩] at h
    exact fin 0 true hk rfl h
   ·rw [if_neg (fun h => hk h.1), if_neg (fun h => hk h.1)] at h
    exact bad 0 true (fun h => hk h.1) h
  ·rw [if_neg hG]
   rw [if_neg (fun h => hG h.2)] at h
   by_cases hX : beqS (tokAt l' j3).2.1 sX = true
   ·rw [if_pos hX]
    by_cases hk : (tokAt l' j3).kind = 1
    ·rw [if_pos ⟨hk, hX⟩] at h
     exact fin 1 true hk rfl h
    ·rw [if_neg (fun h => hk h.1)] at h
     exact bad 1 true (fun h => hk h.1) h
   ·rw [if_neg hX]
    rw [if_neg (fun h => hX h.2)] at h
    exact bad 0 false (fun h => by cases h.2) h
 unfold N100.l3
 refine br_of (fun h1 => ?_) (fun h1 => ?_)
 ·have h1 : out = [] := by
   have := eq_of_beq h1
   cases out with
   | nil => rfl
   | cons a r => simp at this; omega
  subst h1
  rw [if_pos rfl] at h
  exact body h
 ·have h1 : out ≠ [] := by
   rintro rfl
   exact absurd h1 (by decide)
  rw [if_neg h1, go_bind, many_eq (stay_isKind _) step_reg T hj, go_bind] at h
  unfold isKind at h
  rw [PR.go_ok] at h
  refine now_c T hj _ (br_of (fun h2 => ?_) (fun h2 => ?_))
  ·rw [show decide ((tokAt l' j).kind = 4) = true from decide_eq_true (eq_of_beq h2)] at h
   simp only [if_true] at h
   refine body ?_
   rw [go_bind] at h ⊢
   refine PR.go_mono h (fun a m _ h => ?_) fun _ _ _ h => h
   rw [go_bind] at h ⊢
   exact h
  ·rw [show decide ((tokAt l' j).kind = 4) = false from decide_eq_false (beq_eq_false_iff_ne.1 h2)] at h
   simp only [Bool.false_eq_true, if_false] at h
   rw [go_ret, List.append_nil] at h
   unfold N100.j11' N100.j11
   exact sign_c T hj _ _ _ (bindgo' (step_sign _) T hj h fun _ j2 q1 q2 h => h)
theorem func_c (k : Bool → ByteArray → List (Int × Int) → List OpT → List BkT → List LTok → Int → Prop) (kp : Err → Prop) (h : (funcP l i).go (fun f j => k f.1 f.2.1 f.2.2.1 f.2.2.2.1 f.2.2.2.2 l j) (KP kp)) : N51.f l i k kp := by
 have hlen := T.len
 rw [N51.f_def]
 unfold N51.f0 N51.c
 unfold funcP at h
 rw [go_bind] at h
 unfold machP at h
 rw [go_bind] at h
 have main : ∀ (m : Bool) (j : Nat), j < l.length → ((kindP 1).bind (fun t => (signP sOpen).bind fun _ => (anyP sClose).bind fun a => (signP sLC).bind fun _ => optRegs.bind fun g => (manyP (notIs sRC) blockP).bind fun bs => (signP sRC).bind fun _ => .ret (m, t.text, g, a, bs)) l j).go (fun f j => k f.1 f.2.1 f.2.2.1 f.2.2.2.1 f.2.2.2.2 l j) (KP kp) →
  N51.j5' l j false (ByteArray.mk #[]) m (ByteArray.mk #[]) k kp := by
  intro m j hj h
  unfold N51.j5' N51.j5
  refine kind_c T hj _ _ _ (bindgo' (step_kind (by decide)) T hj h fun t j2 g1 g2 h => ?_)
  refine sign_c T g2 _ _ _ (bindgo' (step_sign _) T g2 h fun _ j3 g3 g4 h => ?_)
  refine any_c T g4 _ _ _ (bindgo (stay_any _) T g4 h fun a j4 g5 g6 h => ?_)
  refine sign_c T g6 _ _ _ (bindgo' (step_sign _) T g6 h fun _ j5 g7 g8 h => ?_)
  have blocks : ∀ (g : List (Int × Int)) (j : Nat), j < l.length → ((manyP (notIs sRC) blockP).bind (fun bs => (signP sRC).bind fun _ => .ret (m, t.text, g, a, bs)) l j).go (fun f j => k f.1 f.2.1 f.2.2.1 f.2.2.2.1 f.2.2.2.2 l j) (KP kp) →
   N51.j11' l j false (ByteArray.mk #[]) m t.text g a k kp := by
   intro g j hj h
   unfold N51.j11' N51.j11 N51.l11'
   refine loopS_of (fun x : List LTok × Int × Bool × ByteArray × Bool × ByteArray × List (Int × Int) × List OpT × List BkT => ∃ (j : Nat) (out : List BkT), x = (l, (j : Int), false, ByteArray.mk #[], m, t.text, g, a, out) ∧ j < l.length ∧ out.length ≤ j ∧
    ((manyP (notIs sRC) blockP).bind (fun bs => (signP sRC).bind fun _ => .ret (m, t.text, g, a, out ++ bs)) l j).go (fun f j => k f.1 f.2.1 f.2.2.1 f.2.2.2.1 f.2.2.2.2 l j) (KP kp)) (fun x => l.length - x.2.1.toNat) ?_ ⟨j, [], rfl, hj, Nat.zero_le _, h⟩
   rintro again _ ⟨j, out, rfl, hj, ho, h⟩ hag
   dsimp only
   unfold N51.l11
   rw [go_bind, many_eq (stay_notIs _) Aw.step_block T hj, go_bind] at h
   unfold notIs at h
   rw [PR.go_ok] at h
   refine is_c T hj _ _ (br_of (fun h1 => ?_) (fun h1 => ?_))
   ·rw [h1] at h
    simp only [if_true] at h
    rw [go_bind] at h
    refine block_c T hj _ _ (PR.go_mono (go_step Aw.step_block T hj h) (fun b j2 _ h => ?_) fun _ _ _ h => h)
    obtain ⟨q1, q2, h⟩ := h
    refine ⟨room_of (m := l.length) (by simp; omega) (by omega) (by decide), ?_⟩
    refine hag _ ⟨j2, _, rfl, q2, by simp; omega, ?_⟩ (by simp; omega)
    rw [go_bind] at h ⊢
    refine PR.go_mono h (fun r m' _ h => ?_) fun _ _ _ h => h
    rw [go_ret] at h
    simpa only [List.append_assoc, List.cons_append, List.nil_append] using h
   ·rw [h1] at h
    simp only [Bool.false_eq_true, if_false] at h
    rw [go_ret, List.append_nil] at h
    unfold N51.j13' N51.j13
    exact sign_c T hj _ _ _ (bindgo' (step_sign _) T hj h fun _ j2 q1 q2 h => h)
  unfold optRegs at h
  rw [go_bind, go_bind] at h
  unfold hasRegs at h
  rw [PR.go_ok] at h
  have opt : ∀ x, x = (isTk (tokAt l j5) sRegs && decide ((bhd l j5).kind = 4)) → N51.j2000010' x l j5 false (ByteArray.mk #[]) m t.text a k kp := by
   rintro x rfl
   unfold N51.j2000010' N51.j2000010
   cases hx : (isTk (tokAt l j5) sRegs && decide ((bhd l j5).kind = 4)) with
   | true =>
     rw [hx] at h
     simp only [if_true] at h
     rw [br_true]
     refine regs_c T g8 _ _ (PR.go_mono (go_stay stay_regs T g8 h) (fun g j6 _ h => ?_) fun _ _ _ h => h)
     exact blocks g j6 h.2.1 h.2.2
   | false =>
     rw [hx] at h
     simp only [Bool.false_eq_true, if_false] at h
     rw [br_false]
     exact blocks [] j5 g8 h
  refine is_c T g8 _ _ (br_of (fun h1 => ?_) (fun h1 => ?_))
  ·refine behind_c T g8 _ (opt _ ?_)
   rw [show isTk (tokAt l j5) sRegs = true from h1, Bool.true_and, Bool.eq_iff_iff, beq_iff_eq, decide_eq_true_eq]
   rfl
  ·refine opt _ ?_
   rw [show isTk (tokAt l j5) sRegs = false from h1, Bool.false_and]
 refine take_c T hi _ _ (PR.go_mono (go_stay (stay_take _) T hi h) (fun b j _ h => ?_) fun _ _ _ h => h)
 obtain ⟨g1, g2, h⟩ := h
 cases b with
 | true =>
   rw [Bool.not_true, br_false]
   simp only [if_true] at h
   exact main true j g2 h
 | false =>
   rw [Bool.not_false, br_true]
   simp only [Bool.false_eq_true, if_false] at h
   rw [go_bind] at h
   refine sign_c T g2 _ _ _ (PR.go_mono (go_step (step_sign _) T g2 h) (fun _ j2 _ h => ?_) fun _ _ _ h => h)
   exact main false j2 h.2.1 h.2.2
end
end Go.Proofs.Yf
namespace Go.Aw
open Go Go.RowKit
theorem rest_eq (s : ByteArray) (p : Nat) (hp : p ≤ s.size) : ByteArray.extract s (Int.toNat (p : Int)) (Int.toNat ((s.size : Nat) : Int)) = bytesOf ((ofBytes s).drop p) := by
 apply eq_of_ofBytes
 rw [ofBytes_extract, ofBytes_bytesOf (fun y hy => ofBytes_isB s y (List.mem_of_mem_drop hy)), Int.toNat_natCast, Int.toNat_natCast, List.take_of_length_le (by rw [ofBytes_length]; exact Nat.le_refl _)]
theorem part_eq (s : ByteArray) (p n : Nat) : ByteArray.extract s (Int.toNat (p : Int)) (Int.toNat ((p + n : Nat) : Int)) = bytesOf (((ofBytes s).drop p).take n) := by
 apply eq_of_ofBytes
 rw [ofBytes_extract, ofBytes_bytesOf (fun y hy => ofBytes_isB s y (List.mem_of_mem_drop (List.mem_of_mem_take hy))), Int.toNat_natCast, Int.toNat_natCast, List.drop_take]
 congr 1; omega
theorem scanL_off (M : Nat) : ∀ (f : Nat) (r : List Int) (i d : Int) (out t : List Int) (e c : Int), scanL M f r i out = (t, e, c) → scanL M f r (i + d) out = (t, e + d, c)
 | 0, r, i, d, out, t, e, c, h => by unfold scanL at *; cases h; rfl
 | f + 1, r, i, d, out, t, e, c, h => by
   unfold scanL at h ⊢
   split at h
   ·cases h; rfl
   ·split
    ·rename_i h1; rw [if_pos h1] at h; cases h; rfl
    ·rename_i h1; rw [if_neg h1] at h
     split
     ·rename_i h2; rw [if_pos h2] at h; cases h; congr 1; congr 1; omega
     ·rename_i h2; rw [if_neg h2] at h
      split
      ·rename_i h3; rw [if_pos h3] at h; cases h; rfl
      ·rename_i h3; rw [if_neg h3] at h
       split
       ·rename_i h4; rw [if_pos h4] at h
        have := scanL_off M f _ _ d _ t e c h
        rw [show i + 1 + d = i + d + 1 by omega] at this
        exact this
       ·rename_i h4; rw [if_neg h4] at h
        split
        ·rename_i h5; rw [h5] at h; cases h; rfl
        ·rename_i v n h5; rw [h5] at h
         have := scanL_off M f _ _ d _ t e c h
         rw [show i + 1 + (n : Int) + d = i + d + 1 + n by omega] at this
         exact this
theorem scanL_fuel (M : Nat) : ∀ (f g : Nat) (r : List Int) (i : Int) (out : List Int), r.length < f → r.length < g → scanL M f r i out = scanL M g r i out
 | 0, _, _, _, _, h, _ => by omega
 | _, 0, _, _, _, _, h => by omega
 | f + 1, g + 1, r, i, out, h1, h2 => by
   unfold scanL
   cases r with
   | nil => rfl
   | cons c r =>
     simp only [List.length_cons] at h1 h2
     dsimp only
     rw [scanL_fuel M f g r (i + 1) (out ++ [c]) (by omega) (by omega)]
     cases hesc : escL r with
     | none => rfl
     | some vn =>
       obtain ⟨v, n⟩ := vn
       dsimp only
       have := esc_pos hesc
       rw [scanL_fuel M f g (r.drop n) (i + 1 + n) (out ++ [v]) (by simp [List.length_drop]; omega) (by simp [List.length_drop]; omega)]
theorem tokS_quote (L : List Int) (p : Nat) (hp : p < L.length) (hq : L.getD p 0 = 34) {t : List Int} {e c : Int} (h : scanL 64 (L.length + 1) (L.drop (p + 1)) (p + 1) [] = (t, e, c)) :
 tokS (L.drop p) = if c = 0 then ⟨3, t, 0, 0, (e - p).toNat, 0, 0⟩ else .bad c (e - p) := by
 rw [drop_get (d := 0) hp, hq, tokS_34]
 have h2 := scanL_off 64 _ _ _ (-(p : Int)) _ _ _ _ h
 rw [scanL_fuel 64 (L.length + 1) ((L.drop (p + 1)).length + 1) _ _ _ (by rw [List.length_drop]; omega) (by omega), show (p : Int) + 1 + -(p : Int) = 1 by omega] at h2
 rw [h2]
 rfl
end Go.Aw
namespace Go.Proofs.Yf
open Go Go.Aw Go.Proofs
namespace N82
noncomputable def cfg : Cfg := { cb with E := tab [], atSeq := tab [(3, ks [0, 3]), (5, ks [3])], atLoop := tab [(2, ⟨[(0, .keep), (3, .own 5 (Ty.int IntKind.u8))]⟩)] }
noncomputable def body : Code := bodyOf Tryz.f82
def l2 (j3 : Int → LI → Prop) (j5 : LI → Prop) (x0 : Int) (b0 : LI) (k : LI → Prop) : Prop :=
 (br (decide (x0 > (0 : Int))) (j3 x0 b0) (br (((((b0).length : Nat) : Int)) == (0 : Int)) (j3 x0 b0) (j5 b0)))
def j3 (ag2 : Int → LI → Prop) (x0 : Int) (b0 : LI) (k : LI → Prop) : Prop :=
 (((10 : Int) ≠ 0) ∧ ((room ((b0).length + (([(IntKind.u8.wrap (IntKind.u64.wrap ((48 : Int) + (Int.tmod x0 (10 : Int)))))] : List Int)).length) 1) ∧ (((10 : Int) ≠ 0) ∧ (ag2 (IntKind.u64.wrap (Int.tdiv x0 (10 : Int))) (b0 ++ ([(IntKind.u8.wrap (IntKind.u64.wrap ((48 : Int) + (Int.tmod x0 (10 : Int)))))] : List Int))))))
def j5 (b0 : LI) (k : LI → Prop) : Prop :=
 (k b0)
def c (l2 : Int → LI → Prop) (x0 : Int) (k : LI → Prop) : Prop :=
 (l2 x0 ([] : List Int))
def j3' ag2 x0 b0 k := j3 ag2 x0 b0 k
def j5' b0 k := j5 b0 k
def l2' (x0 : Int) (b0 : LI) (k : LI → Prop) : Prop := ∃ n, loopS (fun ag (s : Int × LI) => l2 (fun x0 b0 => j3' (fun x0 b0 => ag (x0, b0)) x0 b0 k) (fun b0 => j5' b0 k) s.1 s.2 k) n (x0, b0)
def f0 x0 k := c (fun x0 b0 => l2' x0 b0 k) x0 k
noncomputable def f := sld f0
theorem f_def : f = f0 := sld_eq f0
def mL2 (x0 : Int) (b0 : LI) : St := { tmps := mkT 21 0 [(0, (.v (.int IntKind.u64 x0))), (3, (.sl 0 0))], hp := [(.lst 5 (Ty.int IntKind.u8) b0 0 false)], m := 0 }
def ML2 (g : St → Prop) x0 b0 := g (mL2 x0 b0)
def m3 (x0 : Int) (b0 : LI) : St := { tmps := mkT 21 0 [(0, (.v (.int IntKind.u64 x0))), (3, (.sl 0 0))], hp := [(.lst 5 (Ty.int IntKind.u8) b0 0 false)], m := 0 }
def M3 (g : St → Prop) x0 b0 := g (m3 x0 b0)
def m5 (b0 : LI) : St := { tmps := mkT 21 0 [(3, (.sl 0 0))], hp := [(.lst 5 (Ty.int IntKind.u8) b0 0 false)], m := 0 }
def M5 (g : St → Prop) b0 := g (m5 b0)
def K0 (k : KT) (z0 : LI) : Prop := k (.sl 0 0) [(.lst 5 (Ty.int IntKind.u8) z0 0 false)]
noncomputable def T (k kp : KT) := topK cfg Tryz.f82 k kp
noncomputable def YL2 (k kp : KT) : (St → Prop) → St → Prop := loopB cfg (sub [1, 1, 0, 0, 0] body) (contK cfg (pick none' []) [1, 1, 0, 0] body (T k kp))
noncomputable def XL2 (k kp : KT) : St → Prop := fun st => ∃ n, loopN (YL2 k kp) n st
noncomputable def X3 (k kp : KT) (ag2 : St → Prop) : St → Prop := atP cfg (pick none' [(2, ag2)]) [1, 1, 0, 0, 0, 1] body (T k kp)
noncomputable def X5 (k kp : KT) : St → Prop := atP cfg (pick none' []) [1, 1, 1] body (T k kp)
noncomputable def JJ_2 (k kp : KT) (ag2 : St → Prop) : Nat → St → Prop := pick none' [(3, X3 k kp ag2), (5, X5 k kp)]
noncomputable def LL_2 (k kp : KT) (ag2 : St → Prop) : Nat → St → Prop := pick none' [(2, XL2 k kp)]
noncomputable def JJ (k kp : KT) : Nat → St → Prop := pick none' [(5, X5 k kp)]
noncomputable def LL (k kp : KT) : Nat → St → Prop := pick none' [(2, XL2 k kp)]
theorem j3_eq (k kp ag2) : M3 (X3 k kp ag2) = fun x0 b0 => j3' (fun x0 b0 => ag2 (mL2 x0 b0)) x0 b0 (K0 k) := by
 funext x0 b0
 exact raw_eq (own:=3) rfl (JJ_2 k kp ag2) (LL_2 k kp ag2) (fun J L => j3 (fun x0 b0 => ag2 (mL2 x0 b0)) x0 b0 (K0 k)) (by kernel_rfl) (fun _ _ => by kernel_rfl) rfl
theorem j5_eq (k kp) : M5 (X5 k kp) = fun b0 => j5' b0 (K0 k) := by
 funext b0
 exact raw_eq (own:=5) rfl (JJ k kp) (LL k kp) (fun J L => j5 b0 (K0 k)) (by kernel_rfl) (fun _ _ => by kernel_rfl) rfl
theorem l2_eq (k kp) : ML2 (XL2 k kp) = fun x0 b0 => l2' x0 b0 (K0 k) := by
 funext x0 b0
 exact loop_eq (mk := fun (s : Int × LI) => match s with | (x0, b0) => mL2 x0 b0) (fun ag2 s => match s with | (x0, b0) => raw_eq (own:=1000001) (cfg := cfg) (AG := (pick none' [(2, ag2)])) (p := [1, 1, 0, 0, 0]) (c := body) (K := (T k kp)) (st := mL2 x0 b0) (by kernel_rfl) (JJ_2 k kp ag2) (LL_2 k kp ag2) (fun J L => l2 (M3 (J 3)) (M5 (J 5)) x0 b0 (K0 k)) (by kernel_rfl) (fun _ _ => by kernel_rfl) (by erw [j3_eq k kp ag2, j5_eq k kp] <;> rfl)) (x0, b0)
def pa (x0 : Int) : List D := [(.v (.int IntKind.u64 x0))]
def pb (x0 : Int) : List Blk := []
theorem body_is : Tryz.f82.body = some body := by kernel_rfl
theorem f_eq (k kp x0) : funW cfg Tryz.f82 (pa x0) (pb x0) k kp = f x0 (K0 k) :=
 raw_fun (own := 1000001) none'' (JJ k kp) (LL k kp) (fun J L => c (ML2 (L 2)) x0 (K0 k)) body_is (by kernel_rfl) (fun J L => by kernel_rfl) (by rw [f_def]; erw [l2_eq k kp] <;> rfl)
noncomputable def ent0 : Entry := fun args blks k _ => match args, blks with
 | [d0], [] => aInt IntKind.u64 d0 fun x0 => f x0 (K0 k)
 | _, _ => False
noncomputable def ent : Entry := cvE [.no] ent0
theorem ok : EntOk Tryz.prog 112 157 82 ent := by
 refine fnOk (cfg := cfg) rfl rfl rfl rfl (by kernel_rfl) ?_ Tryz.func82 (by rfl) (by rfl) ?_
 ·exact tab_n
 ·intro args blks k kp h k' kp'
  match args, blks, h with
  | [d0], [], h =>
  dsimp only [ent0] at h
  repeat ((first|have q := aInt_elim h); clear h; first|obtain ⟨rfl, h⟩ := q|obtain ⟨_, rfl, h⟩ := q|obtain ⟨_, _, rfl, h⟩ := q)
  exact (f_eq ..).symm
end N82
namespace N40
noncomputable def cfg : Cfg := { cb with E := tab [(82, N82.ent)], atSeq := tab [(6, ks [3, 4]), (11, ks [4])], atLoop := tab [(8, ks [4, 5, 6])] }
noncomputable def body : Code := bodyOf Tryz.f40
def j6 (l8 : BA → Int → LI → Prop) (x3 : Int) (x4 : BA) (k : BA → Prop) : Prop :=
 (N82.f x3 (fun aa => (l8 x4 (IntKind.i64.wrap (((((aa).length : Nat) : Int)) - (1 : Int))) aa)))
def l8 (j11 : BA → Prop) (ag8 : BA → Int → LI → Prop) (x4 : BA) (x6 : Int) (b0 : LI) (k : BA → Prop) : Prop :=
 (br (decide (x6 ≥ (0 : Int))) ((inB 0 x6 ((((b0).length : Nat) : Int) - 1)) ∧ (((x4).size + ((bytesOf ([(b0.getD (Int.toNat x6) (0))] : List Int))).size ≤ 9223372036854775807) ∧ (ag8 (x4 ++ (bytesOf ([(b0.getD (Int.toNat x6) (0))] : List Int))) (IntKind.i64.wrap (x6 - (1 : Int))) b0))) (j11 x4))
def j11 (x4 : BA) (k : BA → Prop) : Prop :=
 (k x4)
def c (j6 : Int → BA → Prop) (x0 : Int) (k : BA → Prop) : Prop :=
 (br (decide (x0 < (0 : Int))) (j6 (IntKind.u64.wrap (0 - (IntKind.u64.wrap x0))) (ByteArray.mk #[45])) (j6 (IntKind.u64.wrap x0) (ByteArray.mk #[])))
def j11' x4 k := j11 x4 k
def l8' (x4 : BA) (x6 : Int) (b0 : LI) (k : BA → Prop) : Prop := ∃ n, loopS (fun ag (s : BA × Int × LI) => l8 (fun x4 => j11' x4 k) (fun x4 x6 b0 => ag (x4, x6, b0)) s.1 s.2.1 s.2.2 k) n (x4, x6, b0)
def j6' x3 x4 k := j6 (fun x4 x6 b0 => l8' x4 x6 b0 k) x3 x4 k
def f0 x0 k := c (fun x3 x4 => j6' x3 x4 k) x0 k
noncomputable def f := sld f0
theorem f_def : f = f0 := sld_eq f0
def m6 (x3 : Int) (x4 : BA) : St := { tmps := mkT 31 0 [(3, (.v (.int IntKind.u64 x3))), (4, (.v (.string x4)))], hp := [], m := 0 }
def M6 (g : St → Prop) x3 x4 := g (m6 x3 x4)
def mL8 (x4 : BA) (x6 : Int) (b0 : LI) : St := { tmps := mkT 31 0 [(4, (.v (.string x4))), (5, (.sl 0 0)), (6, (.v (.int .i64 x6)))], hp := [(.lst 5 (Ty.int IntKind.u8) b0 0 false)], m := 0 }
def ML8 (g : St → Prop) x4 x6 b0 := g (mL8 x4 x6 b0)
def m11 (x4 : BA) : St := { tmps := mkT 31 0 [(4, (.v (.string x4)))], hp := [], m := 0 }
def M11 (g : St → Prop) x4 := g (m11 x4)
def K0 (k : KT) (y0 : BA) : Prop := k (.v (.string y0)) []
noncomputable def T (k kp : KT) := topK cfg Tryz.f40 k kp
noncomputable def X6 (k kp : KT) : St → Prop := atP cfg (pick none' []) [1, 1, 1, 1] body (T k kp)
noncomputable def YL8 (k kp : KT) : (St → Prop) → St → Prop := loopB cfg (sub [1, 1, 1, 1, 1, 0, 1, 0, 0] body) (contK cfg (pick none' []) [1, 1, 1, 1, 1, 0, 1, 0] body (T k kp))
noncomputable def XL8 (k kp : KT) : St → Prop := fun st => ∃ n, loopN (YL8 k kp) n st
noncomputable def X11 (k kp : KT) : St → Prop := atP cfg (pick none' []) [1, 1, 1, 1, 1, 1] body (T k kp)
noncomputable def JJ (k kp : KT) : Nat → St → Prop := pick none' [(6, X6 k kp), (11, X11 k kp)]
noncomputable def LL (k kp : KT) : Nat → St → Prop := pick none' [(8, XL8 k kp)]
noncomputable def JJ_8 (k kp : KT) (ag8 : St → Prop) : Nat → St → Prop := pick none' [(6, X6 k kp), (11, X11 k kp)]
noncomputable def LL_8 (k kp : KT) (ag8 : St → Prop) : Nat → St → Prop := pick none' [(8, XL8 k kp)]
theorem j11_eq (k kp) : M11 (X11 k kp) = fun x4 => j11' x4 (K0 k) := by
 funext x4
 exact raw_eq (own:=11) rfl (JJ k kp) (LL k kp) (fun J L => j11 x4 (K0 k)) (by kernel_rfl) (fun _ _ => by kernel_rfl) rfl
theorem l8_eq (k kp) : ML8 (XL8 k kp) = fun x4 x6 b0 => l8' x4 x6 b0 (K0 k) := by
 funext x4 x6 b0
 exact loop_eq (mk := fun (s : BA × Int × LI) => match s with | (x4, x6, b0) => mL8 x4 x6 b0) (fun ag8 s => match s with | (x4, x6, b0) => raw_eq (own:=1000001) (cfg := cfg) (AG := (pick none' [(8, ag8)])) (p := [1, 1, 1, 1, 1, 0, 1, 0, 0]) (c := body) (K := (T k kp)) (st := mL8 x4 x6 b0) (by kernel_rfl) (JJ_8 k kp ag8) (LL_8 k kp ag8) (fun J L => l8 (M11 (J 11)) (fun x4 x6 b0 => ag8 (mL8 x4 x6 b0)) x4 x6 b0 (K0 k)) (by kernel_rfl) (fun _ _ => by kernel_rfl) (by erw [j11_eq k kp] <;> rfl)) (x4, x6, b0)
theorem j6_eq (k kp) : M6 (X6 k kp) = fun x3 x4 => j6' x3 x4 (K0 k) := by
 funext x3 x4
 exact raw_eq (own:=6) rfl (JJ k kp) (LL k kp) (fun J L => j6 (ML8 (L 8)) x3 x4 (K0 k)) (by kernel_rfl) (fun _ _ => by kernel_rfl) (by erw [l8_eq k kp] <;> rfl)
def pa (x0 : Int) : List D := [(.v (.int .i64 x0))]
def pb (x0 : Int) : List Blk := []
theorem body_is : Tryz.f40.body = some body := by kernel_rfl
theorem f_eq (k kp x0) : funW cfg Tryz.f40 (pa x0) (pb x0) k kp = f x0 (K0 k) :=
 raw_fun (own := 1000001) none'' (JJ k kp) (LL k kp) (fun J L => c (M6 (J 6)) x0 (K0 k)) body_is (by kernel_rfl) (fun J L => by kernel_rfl) (by rw [f_def]; erw [j6_eq k kp] <;> rfl)
noncomputable def ent0 : Entry := fun args blks k _ => match args, blks with
 | [d0], [] => aInt IntKind.i64 d0 fun x0 => f x0 (K0 k)
 | _, _ => False
noncomputable def ent : Entry := cvE [.no] ent0
theorem ok : EntOk Tryz.prog 112 157 40 ent := by
 refine fnOk (cfg := cfg) rfl rfl rfl rfl (by kernel_rfl) ?_ Tryz.func40 (by rfl) (by rfl) ?_
 ·exact tab_c N82.ok <| tab_n
 ·intro args blks k kp h k' kp'
  match args, blks, h with
  | [d0], [], h =>
  dsimp only [ent0] at h
  repeat ((first|have q := aInt_elim h); clear h; first|obtain ⟨rfl, h⟩ := q|obtain ⟨_, rfl, h⟩ := q|obtain ⟨_, _, rfl, h⟩ := q)
  exact (f_eq ..).symm
end N40
namespace N191
noncomputable def cfg : Cfg := { cb with E := tab [] }
noncomputable def body : Code := bodyOf Tryz.f191
def c (x0 : Int) (k : Int → Bool → Prop) : Prop :=
 (br (decide ((IntKind.i64.wrap ((IntKind.i64.wrap x0) - (48 : Int))) ≥ (0 : Int))) (k (IntKind.i64.wrap ((IntKind.i64.wrap x0) - (48 : Int))) (decide ((IntKind.i64.wrap ((IntKind.i64.wrap x0) - (48 : Int))) < (10 : Int)))) (k (IntKind.i64.wrap ((IntKind.i64.wrap x0) - (48 : Int))) false))
def f0 x0 k := c x0 k
noncomputable def f := sld f0
theorem f_def : f = f0 := sld_eq f0
def K0 (k : KT) (y0 : Int) (y1 : Bool) : Prop := k (.tup [(.v (.int .i64 y0)), (.v (.bool y1))]) []
noncomputable def T (k kp : KT) := topK cfg Tryz.f191 k kp
noncomputable def JJ (k kp : KT) : Nat → St → Prop := pick none' []
noncomputable def LL (k kp : KT) : Nat → St → Prop := pick none' []
def pa (x0 : Int) : List D := [(.v (.int IntKind.u8 x0))]
def pb (x0 : Int) : List Blk := []
theorem body_is : Tryz.f191.body = some body := by kernel_rfl
theorem f_eq (k kp x0) : funW cfg Tryz.f191 (pa x0) (pb x0) k kp = f x0 (K0 k) :=
 raw_fun (own := 1000001) none'' (JJ k kp) (LL k kp) (fun J L => c x0 (K0 k)) body_is (by kernel_rfl) (fun J L => by kernel_rfl) (by rw [f_def]; rfl)
noncomputable def ent0 : Entry := fun args blks k _ => match args, blks with
 | [d0], [] => aInt IntKind.u8 d0 fun x0 => f x0 (K0 k)
 | _, _ => False
noncomputable def ent : Entry := cvE [.no] ent0
theorem ok : EntOk Tryz.prog 112 157 191 ent := by
 refine fnOk (cfg := cfg) rfl rfl rfl rfl (by kernel_rfl) ?_ Tryz.func191 (by rfl) (by rfl) ?_
 ·exact tab_n
 ·intro args blks k kp h k' kp'
  match args, blks, h with
  | [d0], [], h =>
  dsimp only [ent0] at h
  repeat ((first|have q := aInt_elim h); clear h; first|obtain ⟨rfl, h⟩ := q|obtain ⟨_, rfl, h⟩ := q|obtain ⟨_, _, rfl, h⟩ := q)
  exact (f_eq ..).symm
end N191
namespace N183
noncomputable def cfg : Cfg := { cb with E := tab [(191, N191.ent)], atSeq := tab [(2000003, ks [0, 4, 6, 19]), (5, ks [0, 4, 6]), (10, ks [4, 5, 6])], atLoop := tab [(6, ks [0, 4, 5, 6])] }
noncomputable def body : Code := bodyOf Tryz.f183
def j2000003 (j5 : BA → Int → Bool → Prop) (x0 : BA) (x4 : Int) (x6 aa : Bool) (k : Int → Int → Bool → Prop) : Prop :=
 (br aa (j5 x0 (IntKind.i64.wrap (x4 + (1 : Int))) true) (j5 x0 x4 x6))
def j5 (l6 : BA → Int → Int → Bool → Prop) (x0 : BA) (x4 : Int) (x6 : Bool) (k : Int → Int → Bool → Prop) : Prop :=
 (l6 x0 x4 x4 x6)
def l6 (j10 : Int → Int → Bool → Prop) (ag6 : Int → Prop) (x0 : BA) (x4 x5 : Int) (x6 : Bool) (k : Int → Int → Bool → Prop) : Prop :=
 (br (decide (x5 < ((((x0).size : Nat) : Int)))) ((inB 0 x5 ((((x0).size : Nat) : Int) - 1)) ∧ (N191.f (byteAt x0 x5) (fun ac ab => (br (!ab) (j10 x4 x5 x6) (ag6 (IntKind.i64.wrap (x5 + (1 : Int)))))))) (j10 x4 x5 x6))
def j10 (x4 x5 : Int) (x6 : Bool) (k : Int → Int → Bool → Prop) : Prop :=
 (k x4 x5 x6)
def c (j2000003 : BA → Int → Bool → Bool → Prop) (x0 : BA) (x1 : Int) (k : Int → Int → Bool → Prop) : Prop :=
 (br (decide (x1 < ((((x0).size : Nat) : Int)))) ((inB 0 x1 ((((x0).size : Nat) : Int) - 1)) ∧ (j2000003 x0 x1 false ((byteAt x0 x1) == (45 : Int)))) (j2000003 x0 x1 false false))
def j10' x4 x5 x6 k := j10 x4 x5 x6 k
def l6' (x0 : BA) (x4 x5 : Int) (x6 : Bool) (k : Int → Int → Bool → Prop) : Prop := ∃ n, loopS (fun ag (s : Int) => l6 (fun x4 x5 x6 => j10' x4 x5 x6 k) (fun x5 => ag (x5)) x0 x4 s x6 k) n (x5)
def j5' x0 x4 x6 k := j5 (fun x0 x4 x5 x6 => l6' x0 x4 x5 x6 k) x0 x4 x6 k
def j2000003' x0 x4 x6 aa k := j2000003 (fun x0 x4 x6 => j5' x0 x4 x6 k) x0 x4 x6 aa k
def f0 x0 x1 k := c (fun x0 x4 x6 aa => j2000003' x0 x4 x6 aa k) x0 x1 k
noncomputable def f := sld f0
theorem f_def : f = f0 := sld_eq f0
def m2000003 (x0 : BA) (x4 : Int) (x6 aa : Bool) : St := { tmps := mkT 41 0 [(0, (.v (.string x0))), (4, (.v (.int .i64 x4))), (6, (.v (.bool x6))), (19, (.v (.bool aa)))], hp := [], m := 0 }
def M2000003 (g : St → Prop) x0 x4 x6 aa := g (m2000003 x0 x4 x6 aa)
def m5 (x0 : BA) (x4 : Int) (x6 : Bool) : St := { tmps := mkT 41 0 [(0, (.v (.string x0))), (4, (.v (.int .i64 x4))), (6, (.v (.bool x6)))], hp := [], m := 0 }
def M5 (g : St → Prop) x0 x4 x6 := g (m5 x0 x4 x6)
def mL6 (x0 : BA) (x4 x5 : Int) (x6 : Bool) : St := { tmps := mkT 41 0 [(0, (.v (.string x0))), (4, (.v (.int .i64 x4))), (5, (.v (.int .i64 x5))), (6, (.v (.bool x6)))], hp := [], m := 0 }
def ML6 (g : St → Prop) x0 x4 x5 x6 := g (mL6 x0 x4 x5 x6)
def m10 (x4 x5 : Int) (x6 : Bool) : St := { tmps := mkT 41 0 [(4, (.v (.int .i64 x4))), (5, (.v (.int .i64 x5))), (6, (.v (.bool x6)))], hp := [], m := 0 }
def M10 (g : St → Prop) x4 x5 x6 := g (m10 x4 x5 x6)
def K0 (k : KT) (y0 y1 : Int) (y2 : Bool) : Prop := k (.tup [(.v (.int .i64 y0)), (.v (.int .i64 y1)), (.v (.bool y2))]) []
noncomputable def T (k kp : KT) := topK cfg Tryz.f183 k kp
noncomputable def X2000003 (k kp : KT) : St → Prop := atP cfg (pick none' []) [1, 1, 0, 1] body (T k kp)
noncomputable def X5 (k kp : KT) : St → Prop := atP cfg (pick none' []) [1, 1, 1] body (T k kp)
noncomputable def YL6 (k kp : KT) : (St → Prop) → St → Prop := loopB cfg (sub [1, 1, 1, 1, 0, 0, 0] body) (contK cfg (pick none' []) [1, 1, 1, 1, 0, 0] body (T k kp))
noncomputable def XL6 (k kp : KT) : St → Prop := fun st => ∃ n, loopN (YL6 k kp) n st
noncomputable def X10 (k kp : KT) : St → Prop := atP cfg (pick none' []) [1, 1, 1, 1, 1] body (T k kp)
noncomputable def JJ (k kp : KT) : Nat → St → Prop := pick none' [(2000003, X2000003 k kp), (5, X5 k kp), (10, X10 k kp)]
noncomputable def LL (k kp : KT) : Nat → St → Prop := pick none' [(6, XL6 k kp)]
noncomputable def JJ_6 (k kp : KT) (ag6 : St → Prop) : Nat → St → Prop := pick none' [(2000003, X2000003 k kp), (5, X5 k kp), (10, X10 k kp)]
noncomputable def LL_6 (k kp : KT) (ag6 : St → Prop) : Nat → St → Prop := pick none' [(6, XL6 k kp)]
theorem j10_eq (k kp) : M10 (X10 k kp) = fun x4 x5 x6 => j10' x4 x5 x6 (K0 k) := by
 funext x4 x5 x6
 exact raw_eq (own:=10) rfl (JJ k kp) (LL k kp) (fun J L => j10 x4 x5 x6 (K0 k)) (by kernel_rfl) (fun _ _ => by kernel_rfl) rfl
theorem l6_eq (k kp) : ML6 (XL6 k kp) = fun x0 x4 x5 x6 => l6' x0 x4 x5 x6 (K0 k) := by
 funext x0 x4 x5 x6
 exact loop_eq (mk := fun (s : Int) => match s with | x5 => mL6 x0 x4 x5 x6) (fun ag6 s => match s with | x5 => raw_eq (own:=1000001) (cfg := cfg) (AG := (pick none' [(6, ag6)])) (p := [1, 1, 1, 1, 0, 0, 0]) (c := body) (K := (T k kp)) (st := mL6 x0 x4 x5 x6) (by kernel_rfl) (JJ_6 k kp ag6) (LL_6 k kp ag6) (fun J L => l6 (M10 (J 10)) (fun x5 => ag6 (mL6 x0 x4 x5 x6)) x0 x4 x5 x6 (K0 k)) (by kernel_rfl) (fun _ _ => by kernel_rfl) (by erw [j10_eq k kp] <;> rfl)) (x5)
theorem j5_eq (k kp) : M5 (X5 k kp) = fun x0 x4 x6 => j5' x0 x4 x6 (K0 k) := by
 funext x0 x4 x6
 exact raw_eq (own:=5) rfl (JJ k kp) (LL k kp) (fun J L => j5 (ML6 (L 6)) x0 x4 x6 (K0 k)) (by kernel_rfl) (fun _ _ => by kernel_rfl) (by erw [l6_eq k kp] <;> rfl)
theorem j2000003_eq (k kp) : M2000003 (X2000003 k kp) = fun x0 x4 x6 aa => j2000003' x0 x4 x6 aa (K0 k) := by
 funext x0 x4 x6 aa
 exact raw_eq (own:=2000003) rfl (JJ k kp) (LL k kp) (fun J L => j2000003 (M5 (J 5)) x0 x4 x6 aa (K0 k)) (by kernel_rfl) (fun _ _ => by kernel_rfl) (by erw [j5_eq k kp] <;> rfl)
def pa (x0 : BA) (x1 : Int) : List D := [(.v (.string x0)), (.v (.int .i64 x1))]
def pb (x0 : BA) (x1 : Int) : List Blk := []
theorem body_is : Tryz.f183.body = some body := by kernel_rfl
theorem f_eq (k kp x0 x1) : funW cfg Tryz.f183 (pa x0 x1) (pb x0 x1) k kp = f x0 x1 (K0 k) :=
 raw_fun (own := 1000001) none'' (JJ k kp) (LL k kp) (fun J L => c (M2000003 (J 2000003)) x0 x1 (K0 k)) body_is (by kernel_rfl) (fun J L => by kernel_rfl) (by rw [f_def]; erw [j2000003_eq k kp] <;> rfl)
noncomputable def ent0 : Entry := fun args blks k _ => match args, blks with
 | [d0, d1], [] => aStr d0 fun x0 => aInt IntKind.i64 d1 fun x1 => f x0 x1 (K0 k)
 | _, _ => False
noncomputable def ent : Entry := cvE [.no, .no] ent0
theorem ok : EntOk Tryz.prog 112 157 183 ent := by
 refine fnOk (cfg := cfg) rfl rfl rfl rfl (by kernel_rfl) ?_ Tryz.func183 (by rfl) (by rfl) ?_
 ·exact tab_c N191.ok <| tab_n
 ·intro args blks k kp h k' kp'
  match args, blks, h with
  | [d0, d1], [], h =>
  dsimp only [ent0] at h
  repeat ((first|have q := aStr_elim h|have q := aInt_elim h); clear h; first|obtain ⟨rfl, h⟩ := q|obtain ⟨_, rfl, h⟩ := q|obtain ⟨_, _, rfl, h⟩ := q)
  exact (f_eq ..).symm
end N183
namespace N184
noncomputable def cfg : Cfg := { cb with E := tab [(191, N191.ent)], atSeq := tab [(10, ks [1, 6])], atLoop := tab [(3, ks [0, 1, 6, 11, 12])] }
noncomputable def body : Code := bodyOf Tryz.f184
def l3 (j10 : Bool → Int → Prop) (ag3 : Int → Int → Prop) (x0 : BA) (x1 : Bool) (x6 ab aa : Int) (k : Int → Bool → Prop) : Prop :=
 (br (decide (aa < ab)) ((inB 0 aa ((((x0).size : Nat) : Int) - 1)) ∧ (N191.f (byteAt x0 aa) (fun ac ad => (((10 : Int) ≠ 0) ∧ (br (decide (x6 < (IntKind.i64.wrap (Int.tdiv (IntKind.i64.wrap ((-9223372036854775808 : Int) + ac)) (10 : Int))))) (k (0 : Int) false) (ag3 (IntKind.i64.wrap ((IntKind.i64.wrap (x6 * (10 : Int))) - ac)) (IntKind.i64.wrap (aa + (1 : Int))))))))) (j10 x1 x6))
def j10 (x1 : Bool) (x6 : Int) (k : Int → Bool → Prop) : Prop :=
 (br x1 (k x6 true) (k (IntKind.i64.wrap (0 - x6)) (decide (x6 ≥ (-9223372036854775807 : Int)))))
def c (l3 : BA → Bool → Int → Int → Int → Prop) (x0 : BA) (x1 : Bool) (k : Int → Bool → Prop) : Prop :=
 (l3 x0 x1 (0 : Int) ((((x0).size : Nat) : Int)) (0 : Int))
def j10' x1 x6 k := j10 x1 x6 k
def l3' (x0 : BA) (x1 : Bool) (x6 ab aa : Int) (k : Int → Bool → Prop) : Prop := ∃ n, loopS (fun ag (s : Int × Int) => l3 (fun x1 x6 => j10' x1 x6 k) (fun x6 aa => ag (x6, aa)) x0 x1 s.1 ab s.2 k) n (x6, aa)
def f0 x0 x1 k := c (fun x0 x1 x6 ab aa => l3' x0 x1 x6 ab aa k) x0 x1 k
noncomputable def f := sld f0
theorem f_def : f = f0 := sld_eq f0
def mL3 (x0 : BA) (x1 : Bool) (x6 ab aa : Int) : St := { tmps := mkT 38 0 [(0, (.v (.string x0))), (1, (.v (.bool x1))), (6, (.v (.int .i64 x6))), (11, (.v (.int .i64 ab))), (12, (.v (.int .i64 aa)))], hp := [], m := 0 }
def ML3 (g : St → Prop) x0 x1 x6 ab aa := g (mL3 x0 x1 x6 ab aa)
def m10 (x1 : Bool) (x6 : Int) : St := { tmps := mkT 38 0 [(1, (.v (.bool x1))), (6, (.v (.int .i64 x6)))], hp := [], m := 0 }
def M10 (g : St → Prop) x1 x6 := g (m10 x1 x6)
def K0 (k : KT) (y0 : Int) (y1 : Bool) : Prop := k (.tup [(.v (.int .i64 y0)), (.v (.bool y1))]) []
noncomputable def T (k kp : KT) := topK cfg Tryz.f184 k kp
noncomputable def YL3 (k kp : KT) : (St → Prop) → St → Prop := loopB cfg (sub [1, 1, 0, 1, 0, 0] body) (contK cfg (pick none' []) [1, 1, 0, 1, 0] body (T k kp))
noncomputable def XL3 (k kp : KT) : St → Prop := fun st => ∃ n, loopN (YL3 k kp) n st
noncomputable def X10 (k kp : KT) : St → Prop := atP cfg (pick none' []) [1, 1, 1] body (T k kp)
noncomputable def JJ_3 (k kp : KT) (ag3 : St → Prop) : Nat → St → Prop := pick none' [(10, X10 k kp)]
noncomputable def LL_3 (k kp : KT) (ag3 : St → Prop) : Nat → St → Prop := pick none' [(3, XL3 k kp)]
noncomputable def JJ (k kp : KT) : Nat → St → Prop := pick none' [(10, X10 k kp)]
noncomputable def LL (k kp : KT) : Nat → St → Prop := pick none' [(3, XL3 k kp)]
theorem j10_eq (k kp) : M10 (X10 k kp) = fun x1 x6 => j10' x1 x6 (K0 k) := by
 funext x1 x6
 exact raw_eq (own:=10) rfl (JJ k kp) (LL k kp) (fun J L => j10 x1 x6 (K0 k)) (by kernel_rfl) (fun _ _ => by kernel_rfl) rfl
theorem l3_eq (k kp) : ML3 (XL3 k kp) = fun x0 x1 x6 ab aa => l3' x0 x1 x6 ab aa (K0 k) := by
 funext x0 x1 x6 ab aa
 exact loop_eq (mk := fun (s : Int × Int) => match s with | (x6, aa) => mL3 x0 x1 x6 ab aa) (fun ag3 s => match s with | (x6, aa) => raw_eq (own:=1000001) (cfg := cfg) (AG := (pick none' [(3, ag3)])) (p := [1, 1, 0, 1, 0, 0]) (c := body) (K := (T k kp)) (st := mL3 x0 x1 x6 ab aa) (by kernel_rfl) (JJ_3 k kp ag3) (LL_3 k kp ag3) (fun J L => l3 (M10 (J 10)) (fun x6 aa => ag3 (mL3 x0 x1 x6 ab aa)) x0 x1 x6 ab aa (K0 k)) (by kernel_rfl) (fun _ _ => by kernel_rfl) (by erw [j10_eq k kp] <;> rfl)) (x6, aa)
def pa (x0 : BA) (x1 : Bool) : List D := [(.v (.string x0)), (.v (.bool x1))]
def pb (x0 : BA) (x1 : Bool) : List Blk := []
theorem body_is : Tryz.f184.body = some body := by kernel_rfl
theorem f_eq (k kp x0 x1) : funW cfg Tryz.f184 (pa x0 x1) (pb x0 x1) k kp = f x0 x1 (K0 k) :=
 raw_fun (own := 1000001) none'' (JJ k kp) (LL k kp) (fun J L => c (ML3 (L 3)) x0 x1 (K0 k)) body_is (by kernel_rfl) (fun J L => by kernel_rfl) (by rw [f_def]; erw [l3_eq k kp] <;> rfl)
noncomputable def ent0 : Entry := fun args blks k _ => match args, blks with
 | [d0, d1], [] => aStr d0 fun x0 => aBool d1 fun x1 => f x0 x1 (K0 k)
 | _, _ => False
noncomputable def ent : Entry := cvE [.no, .no] ent0
theorem ok : EntOk Tryz.prog 112 157 184 ent := by
 refine fnOk (cfg := cfg) rfl rfl rfl rfl (by kernel_rfl) ?_ Tryz.func184 (by rfl) (by rfl) ?_
 ·exact tab_c N191.ok <| tab_n
 ·intro args blks k kp h k' kp'
  match args, blks, h with
  | [d0, d1], [], h =>
  dsimp only [ent0] at h
  repeat ((first|have q := aStr_elim h|have q := aBool_elim h); clear h; first|obtain ⟨rfl, h⟩ := q|obtain ⟨_, rfl, h⟩ := q|obtain ⟨_, _, rfl, h⟩ := q)
  exact (f_eq ..).symm
end N184
namespace N171
noncomputable def cfg : Cfg := { cb with E := tab [(183, N183.ent), (184, N184.ent)], atSeq := tab [(2000002, ks [0, 1, 19]), (3, ks [0, 1]), (2000006, ks [0, 7, 8, 9, 27]), (7, ks [0, 7, 8, 9])] }
noncomputable def body : Code := bodyOf Tryz.f171
def j2000002 (j3 : BA → Int → Prop) (x0 : BA) (x1 : Int) (ac : Bool) (k : Int → Int → Int → Prop) : Prop :=
 (br ac (k (0 : Int) (0 : Int) (1 : Int)) (j3 x0 x1))
def j3 (j2000006 : BA → Int → Int → Bool → Bool → Prop) (x0 : BA) (x1 : Int) (k : Int → Int → Int → Prop) : Prop :=
 (N183.f x0 x1 (fun aa ab ae => (br (ab == aa) (j2000006 x0 aa ab ae (ab == aa)) ((inB 0 aa ((((x0).size : Nat) : Int) - 1)) ∧ (br ((byteAt x0 aa) == (48 : Int)) (br (decide (ab > (IntKind.i64.wrap (aa + (1 : Int))))) (j2000006 x0 aa ab ae true) (j2000006 x0 aa ab ae ae)) (j2000006 x0 aa ab ae false))))))
def j2000006 (j7 : BA → Int → Int → Bool → Prop) (x0 : BA) (x7 x8 : Int) (x9 ad : Bool) (k : Int → Int → Int → Prop) : Prop :=
 (br ad (k (0 : Int) (0 : Int) (12 : Int)) (j7 x0 x7 x8 x9))
def j7 (x0 : BA) (x7 x8 : Int) (x9 : Bool) (k : Int → Int → Int → Prop) : Prop :=
 ((inB x7 x8 (((x0).size : Nat) : Int)) ∧ (N184.f (ByteArray.extract x0 (Int.toNat x7) (Int.toNat x8)) x9 (fun af ah => (br (!ah) (k (0 : Int) (0 : Int) (2 : Int)) (k af x8 (0 : Int))))))
def c (j2000002 : BA → Int → Bool → Prop) (x0 : BA) (x1 : Int) (k : Int → Int → Int → Prop) : Prop :=
 (br (decide (x1 < (0 : Int))) (j2000002 x0 x1 true) (j2000002 x0 x1 (decide (x1 > ((((x0).size : Nat) : Int))))))
def j7' x0 x7 x8 x9 k := j7 x0 x7 x8 x9 k
def j2000006' x0 x7 x8 x9 ad k := j2000006 (fun x0 x7 x8 x9 => j7' x0 x7 x8 x9 k) x0 x7 x8 x9 ad k
def j3' x0 x1 k := j3 (fun x0 x7 x8 x9 ad => j2000006' x0 x7 x8 x9 ad k) x0 x1 k
def j2000002' x0 x1 ac k := j2000002 (fun x0 x1 => j3' x0 x1 k) x0 x1 ac k
def f0 x0 x1 k := c (fun x0 x1 ac => j2000002' x0 x1 ac k) x0 x1 k
noncomputable def f := sld f0
theorem f_def : f = f0 := sld_eq f0
def m2000002 (x0 : BA) (x1 : Int) (ac : Bool) : St := { tmps := mkT 57 0 [(0, (.v (.string x0))), (1, (.v (.int .i64 x1))), (19, (.v (.bool ac)))], hp := [], m := 0 }
def M2000002 (g : St → Prop) x0 x1 ac := g (m2000002 x0 x1 ac)
def m3 (x0 : BA) (x1 : Int) : St := { tmps := mkT 57 0 [(0, (.v (.string x0))), (1, (.v (.int .i64 x1)))], hp := [], m := 0 }
def M3 (g : St → Prop) x0 x1 := g (m3 x0 x1)
def m2000006 (x0 : BA) (x7 x8 : Int) (x9 ad : Bool) : St := { tmps := mkT 57 0 [(0, (.v (.string x0))), (7, (.v (.int .i64 x7))), (8, (.v (.int .i64 x8))), (9, (.v (.bool x9))), (27, (.v (.bool ad)))], hp := [], m := 0 }
def M2000006 (g : St → Prop) x0 x7 x8 x9 ad := g (m2000006 x0 x7 x8 x9 ad)
def m7 (x0 : BA) (x7 x8 : Int) (x9 : Bool) : St := { tmps := mkT 57 0 [(0, (.v (.string x0))), (7, (.v (.int .i64 x7))), (8, (.v (.int .i64 x8))), (9, (.v (.bool x9)))], hp := [], m := 0 }
def M7 (g : St → Prop) x0 x7 x8 x9 := g (m7 x0 x7 x8 x9)
def K0 (k : KT) (y0 y1 y2 : Int) : Prop := k (.tup [(.v (.int .i64 y0)), (.v (.int .i64 y1)), (.v (.int .i64 y2))]) []
noncomputable def T (k kp : KT) := topK cfg Tryz.f171 k kp
noncomputable def X2000002 (k kp : KT) : St → Prop := atP cfg (pick none' []) [1, 0, 1] body (T k kp)
noncomputable def X3 (k kp : KT) : St → Prop := atP cfg (pick none' []) [1, 1] body (T k kp)
noncomputable def X2000006 (k kp : KT) : St → Prop := atP cfg (pick none' []) [1, 1, 1, 0, 0, 1] body (T k kp)
noncomputable def X7 (k kp : KT) : St → Prop := atP cfg (pick none' []) [1, 1, 1, 1] body (T k kp)
noncomputable def JJ (k kp : KT) : Nat → St → Prop := pick none' [(2000002, X2000002 k kp), (3, X3 k kp), (2000006, X2000006 k kp), (7, X7 k kp)]
noncomputable def LL (k kp : KT) : Nat → St → Prop := pick none' []
theorem j7_eq (k kp) : M7 (X7 k kp) = fun x0 x7 x8 x9 => j7' x0 x7 x8 x9 (K0 k) := by
 funext x0 x7 x8 x9
 exact raw_eq (own:=7) rfl (JJ k kp) (LL k kp) (fun J L => j7 x0 x7 x8 x9 (K0 k)) (by kernel_rfl) (fun _ _ => by kernel_rfl) rfl
theorem j2000006_eq (k kp) : M2000006 (X2000006 k kp) = fun x0 x7 x8 x9 ad => j2000006' x0 x7 x8 x9 ad (K0 k) := by
 funext x0 x7 x8 x9 ad
 exact raw_eq (own:=2000006) rfl (JJ k kp) (LL k kp) (fun J L => j2000006 (M7 (J 7)) x0 x7 x8 x9 ad (K0 k)) (by kernel_rfl) (fun _ _ => by kernel_rfl) (by erw [j7_eq k kp] <;> rfl)
theorem j3_eq (k kp) : M3 (X3 k kp) = fun x0 x1 => j3' x0 x1 (K0 k) := by
 funext x0 x1
 exact raw_eq (own:=3) rfl (JJ k kp) (LL k kp) (fun J L => j3 (M2000006 (J 2000006)) x0 x1 (K0 k)) (by kernel_rfl) (fun _ _ => by kernel_rfl) (by erw [j2000006_eq k kp] <;> rfl)
theorem j2000002_eq (k kp) : M2000002 (X2000002 k kp) = fun x0 x1 ac => j2000002' x0 x1 ac (K0 k) := by
 funext x0 x1 ac
 exact raw_eq (own:=2000002) rfl (JJ k kp) (LL k kp) (fun J L => j2000002 (M3 (J 3)) x0 x1 ac (K0 k)) (by kernel_rfl) (fun _ _ => by kernel_rfl) (by erw [j3_eq k kp] <;> rfl)
def pa (x0 : BA) (x1 : Int) : List D := [(.v (.string x0)), (.v (.int .i64 x1))]
def pb (x0 : BA) (x1 : Int) : List Blk := []
theorem body_is : Tryz.f171.body = some body := by kernel_rfl
theorem f_eq (k kp x0 x1) : funW cfg Tryz.f171 (pa x0 x1) (pb x0 x1) k kp = f x0 x1 (K0 k) :=
 raw_fun (own := 1000001) none'' (JJ k kp) (LL k kp) (fun J L => c (M2000002 (J 2000002)) x0 x1 (K0 k)) body_is (by kernel_rfl) (fun J L => by kernel_rfl) (by rw [f_def]; erw [j2000002_eq k kp] <;> rfl)
noncomputable def ent0 : Entry := fun args blks k _ => match args, blks with
 | [d0, d1], [] => aStr d0 fun x0 => aInt IntKind.i64 d1 fun x1 => f x0 x1 (K0 k)
 | _, _ => False
noncomputable def ent : Entry := cvE [.no, .no] ent0
theorem ok : EntOk Tryz.prog 112 157 171 ent := by
 refine fnOk (cfg := cfg) rfl rfl rfl rfl (by kernel_rfl) ?_ Tryz.func171 (by rfl) (by rfl) ?_
 ·exact tab_c N183.ok <| tab_c N184.ok <| tab_n
 ·intro args blks k kp h k' kp'
  match args, blks, h with
  | [d0, d1], [], h =>
  dsimp only [ent0] at h
  repeat ((first|have q := aStr_elim h|have q := aInt_elim h); clear h; first|obtain ⟨rfl, h⟩ := q|obtain ⟨_, rfl, h⟩ := q|obtain ⟨_, _, rfl, h⟩ := q)
  exact (f_eq ..).symm
end N171
end Go.Proofs.Yf
namespace Go.Proofs.Yf
open Go Go.Aw Go.Proofs Go.RowKit
theorem digit_s (x : Int) (hx : isB x) (k : Int → Bool → Prop) (h : k (x - 48) (decide (isD x))) : N191.f x k := by
 obtain ⟨h1, h2⟩ := hx
 rw [N191.f_def]
 unfold N191.f0 N191.c
 have e : IntKind.i64.wrap (IntKind.i64.wrap x - 48) = x - 48 := by
  rw [wrap_id (n := x) (by omega) (by omega), wrap_id (by omega) (by omega)]
 simp only [e]
 simp only [br_dec]
 split
 ·rename_i h0
  have : decide (x - 48 < 10) = decide (isD x) := by rw [Bool.eq_iff_iff, decide_eq_true_eq, decide_eq_true_eq]; unfold isD; omega
  rw [this]; exact h
 ·rename_i h0
  have : decide (isD x) = false := by rw [decide_eq_false_iff_not]; unfold isD; omega
  rw [this] at h; exact h
theorem span_s (s : ByteArray) (hs : s.size ≤ reachBytes) (p : Nat) (hp : p ≤ s.size) (k : Int → Int → Bool → Prop)
 (h : ∀ minus fr, minus = (decide (p < (ofBytes s).length) && ((ofBytes s).getD p 0 == 45)) → fr = p + minus.toNat → k (fr : Int) ((fr + run ((ofBytes s).drop fr) : Nat) : Int) minus) : N183.f s (p : Int) k := by
 have hr : reachBytes < 2 ^ 47 := reachBytes_lt
 have hl := ofBytes_length s
 rw [N183.f_def]
 unfold N183.f0 N183.c
 have tail : ∀ minus fr, minus = (decide (p < (ofBytes s).length) && ((ofBytes s).getD p 0 == 45)) → fr = p + minus.toNat → fr ≤ s.size → N183.j5' s (fr : Int) minus k := by
  intro minus fr hm hf hfs
  have hk := h minus fr hm hf
  unfold N183.j5' N183.j5 N183.l6'
  have hrl := run_le ((ofBytes s).drop fr)
  rw [List.length_drop, hl] at hrl
  refine loopS_of (fun x : Int => ∃ j : Nat, x = ((fr + j : Nat) : Int) ∧ j ≤ run ((ofBytes s).drop fr)) (fun x => (s.size - x).toNat) ?_ ⟨0, rfl, Nat.zero_le _⟩
  rintro again x ⟨j, rfl, hj⟩ hag
  unfold N183.l6 N183.j10' N183.j10
  dsimp only
  refine br_of (fun hlt => ?_) (fun hge => ?_)
  ·have hlt : fr + j < s.size := by simp at hlt; omega
   refine ⟨⟨by omega, by omega, by omega⟩, digit_s _ ?_ _ ?_⟩
   ·rw [byteAt_eq]; exact getD_isB _ _
   ·rw [byteAt_eq]
    have ew : IntKind.i64.wrap (((fr + j : Nat) : Int) + 1) = ((fr + (j + 1) : Nat) : Int) := by rw [wrap_id (by omega) (by omega)]; omega
    rw [ew]
    simp only [br_not, br_dec]
    split
    ·rename_i hd
     refine hag _ ⟨j + 1, rfl, ?_⟩ (by omega)
     rcases Nat.lt_or_ge j (run ((ofBytes s).drop fr)) with hh | hh
     ·omega
     ·exact absurd hd (run_step (by omega) (by omega))
    ·rename_i hd
     have : j = run ((ofBytes s).drop fr) := by
      rcases Nat.lt_or_ge j (run ((ofBytes s).drop fr)) with hh | hh
      ·exact absurd (runIn hh) hd
      ·omega
     rw [this]; exact hk
  ·have hge : ¬ fr + j < s.size := by simp at hge; omega
   have : j = run ((ofBytes s).drop fr) := by omega
   rw [this]; exact hk
 unfold N183.j2000003' N183.j2000003
 refine br_of (fun hlt => ?_) (fun hge => ?_)
 ·have hlt : p < s.size := by simp at hlt; omega
  refine ⟨⟨by omega, by omega, by omega⟩, ?_⟩
  rw [byteAt_eq]
  have ew : IntKind.i64.wrap ((p : Int) + 1) = ((p + 1 : Nat) : Int) := by rw [wrap_id (by omega) (by omega)]; omega
  refine br_of (fun h45 => ?_) (fun h45 => ?_)
  ·rw [ew]
   exact tail true (p + 1) (by rw [h45, hl]; simp [hlt]) rfl (by omega)
  ·exact tail false p (by rw [h45]; simp) rfl hp
 ·have hge : ¬ p < s.size := by simp at hge; omega
  exact tail false p (by rw [hl]; simp [hge]) rfl hp
theorem value_s (s : ByteArray) (hs : s.size ≤ reachBytes) (hd : ∀ x ∈ ofBytes s, isD x) (minus : Bool) (k : Int → Bool → Prop)
 (h : if val (ofBytes s) > 2 ^ 63 then k 0 false else if minus = true then k (-(val (ofBytes s) : Int)) true else k (w64 (val (ofBytes s))) (decide (val (ofBytes s) < 2 ^ 63))) : N184.f s minus k := by
 have hr : reachBytes < 2 ^ 47 := reachBytes_lt
 have hl := ofBytes_length s
 rw [N184.f_def]
 unfold N184.f0 N184.c N184.l3'
 refine loopS_of (fun x : Int × Int => ∃ i : Nat, x.2 = i ∧ i ≤ s.size ∧ x.1 = -(val ((ofBytes s).take i) : Int) ∧ val ((ofBytes s).take i) ≤ 2 ^ 63) (fun x => (s.size - x.2).toNat) ?_ ⟨0, rfl, Nat.zero_le _, rfl, by show val [] ≤ _; decide⟩
 rintro again ⟨x, j⟩ ⟨i, rfl, hi, rfl, hv⟩ hag
 simp only at hag hv ⊢
 unfold N184.l3 N184.j10' N184.j10
 dsimp only
 refine br_of (fun hlt => ?_) (fun hge => ?_)
 ·have hlt : i < s.size := by simp at hlt; omega
  have hD : isD ((ofBytes s).getD i 0) := by
   have hi2 : i < (ofBytes s).length := by omega
   simp only [List.getD, List.getElem?_eq_getElem hi2, Option.getD_some]
   exact hd _ (List.getElem_mem hi2)
  have hv2 := val_take_succ (by omega : i < (ofBytes s).length)
  have hv3 := val_take (ofBytes s) (i + 1)
  rw [byteAt_eq]
  refine ⟨⟨by omega, by omega, by omega⟩, digit_s _ (getD_isB _ _) _ ⟨by decide, ?_⟩⟩
  obtain ⟨d1, d2⟩ := hD
  generalize (ofBytes s).getD i 0 = c at *
  generalize hV : val ((ofBytes s).take i) = V at *
  have e1 : IntKind.i64.wrap (Int.tdiv (IntKind.i64.wrap (-9223372036854775808 + (c - 48))) 10) = -(((9223372036854775808 - (c - 48)) / 10)) := by
   rw [wrap_id (n := -9223372036854775808 + (c - 48)) (by omega) (by omega), tdiv10, if_pos (by omega), wrap_id (by omega) (by omega)]
   omega
  rw [e1]
  refine br_of (fun hov => ?_) (fun hov => ?_)
  ·have hov : -(V : Int) < -((9223372036854775808 - (c - 48)) / 10) := by simpa using hov
   rw [if_pos (by omega)] at h
   exact h
  ·have hov : ¬ -(V : Int) < -((9223372036854775808 - (c - 48)) / 10) := by simpa using hov
   have e2 : IntKind.i64.wrap (IntKind.i64.wrap (-(V : Int) * 10) - (c - 48)) = -((10 * V + (c - 48).toNat : Nat) : Int) := by
    rw [wrap_id (n := -(V : Int) * 10) (by omega) (by omega), wrap_id (by omega) (by omega)]
    omega
   have e3 : IntKind.i64.wrap ((i : Int) + 1) = ((i + 1 : Nat) : Int) := by rw [wrap_id (by omega) (by omega)]; omega
   rw [e2, e3]
   exact hag _ ⟨i + 1, rfl, by omega, by rw [hv2], by rw [hv2]; omega⟩ (by simp; omega)
 ·have hge : i = s.size := by simp at hge; omega
  subst hge
  rw [List.take_of_length_le (by omega)] at hv ⊢
  rw [if_neg (by omega)] at h
  generalize val (ofBytes s) = V at *
  cases minus with
  | true => simpa using h
  | false =>
    simp only [br_false]
    have e1 : decide (-(V : Int) ≥ -9223372036854775807) = decide (V < 2 ^ 63) := by rw [Bool.eq_iff_iff]; simp; omega
    have e2 : (0 - -(V : Int)) = (V : Int) := by omega
    rw [e1, e2]
    simpa using h
theorem dscan_s (s : ByteArray) (hs : s.size ≤ reachBytes) (at_ : Int) (k : Int → Int → Int → Prop) (h : k (scanI (ofBytes s) at_).1 (scanI (ofBytes s) at_).2.1 (scanI (ofBytes s) at_).2.2) : N171.f s at_ k := by
 have hr : reachBytes < 2 ^ 47 := reachBytes_lt
 have hl := ofBytes_length s
 rw [N171.f_def]
 unfold N171.f0 N171.c N171.j2000002' N171.j2000002 N171.j3' N171.j3 N171.j2000006' N171.j2000006 N171.j7' N171.j7
 dsimp only
 unfold scanI at h
 dsimp only at h
 rw [hl] at h
 by_cases hout : at_ < 0 ∨ at_ > (s.size : Int)
 ·rw [if_pos hout] at h
  refine br_of (fun h1 => h) (fun h1 => ?_)
  have h1 : ¬ at_ < 0 := by simpa using h1
  have : decide (at_ > (s.size : Int)) = true := by simp; omega
  rw [this]; exact h
 ·rw [if_neg hout] at h
  have e1 : decide (at_ < 0) = false := by simp; omega
  have e2 : decide (at_ > (s.size : Int)) = false := by simp; omega
  rw [e1, e2]
  simp only [br_false]
  obtain ⟨p, rfl⟩ : ∃ p : Nat, at_ = p := ⟨at_.toNat, by omega⟩
  rw [Int.toNat_natCast] at h
  refine span_s s hs p (by omega) _ ?_
  intro minus fr hm hf
  rw [hl] at hm
  rw [← hm, ← hf] at h
  have hfr : fr ≤ s.size := by
   cases minus with
   | false => simp at hf; omega
   | true =>
     have : p < s.size := by
      by_cases hh : p < s.size
      ·exact hh
      ·simp [hh] at hm
     simp at hf; omega
  have hrl := run_le ((ofBytes s).drop fr)
  rw [List.length_drop, hl] at hrl
  generalize hR : run ((ofBytes s).drop fr) = r at *
  rw [byteAt_eq]
  have eqr : ((((fr + r : Nat) : Int)) == (fr : Int)) = decide (r = 0) := by rw [Bool.eq_iff_iff]; simp; omega
  rw [eqr]
  have good : ¬ (r = 0 ∨ ((ofBytes s).getD fr 0 = 48 ∧ (1 < r ∨ minus = true))) → ((inB (fr : Int) ((fr + r : Nat) : Int) (((s).size : Nat) : Int)) ∧ (N184.f (ByteArray.extract s (Int.toNat (fr : Int)) (Int.toNat ((fr + r : Nat) : Int))) minus (fun (y0_1 : Int) (y1_1 : Bool) => (br (!y1_1) (k (0 : Int) (0 : Int) (2 : Int)) (k y0_1 ((fr + r : Nat) : Int) (0 : Int)))))) := by
   intro hg
   rw [if_neg hg] at h
   refine ⟨⟨by omega, by omega, by omega⟩, ?_⟩
   rw [Int.toNat_natCast, Int.toNat_natCast]
   have hex : ofBytes (s.extract fr (fr + r)) = ((ofBytes s).drop fr).take r := by
    rw [ofBytes_extract, List.drop_take]; congr 1; omega
   have hsz : (s.extract fr (fr + r)).size ≤ reachBytes := by rw [ByteArray.size_extract]; omega
   refine value_s _ hsz ?_ _ _ ?_
   ·rw [hex, ← hR]; exact run_isD _
   ·rw [hex]
    generalize val (((ofBytes s).drop fr).take r) = V at *
    by_cases h1 : V > 2 ^ 63
    ·rw [if_pos h1]
     rw [if_pos (.inl h1)] at h
     exact h
    ·rw [if_neg h1]
     cases minus with
     | true =>
       rw [if_neg (by simp; omega)] at h
       simpa using h
     | false =>
       simp only [Bool.false_eq_true, if_false]
       by_cases h2 : V < 2 ^ 63
       ·rw [if_neg (by simp; omega)] at h
        have : decide (V < 2 ^ 63) = true := by simpa using h2
        rw [this, w64_id ⟨by omega, by omega⟩]
        simpa using h
       ·have : decide (V < 2 ^ 63) = false := by simpa using h2
        rw [if_pos (.inr ⟨by omega, rfl⟩)] at h
        rw [this]; exact h
  by_cases hr0 : r = 0
  ·rw [if_pos (.inl hr0)] at h
   have : decide (r = 0) = true := by simpa using hr0
   rw [this]; exact h
  ·have : decide (r = 0) = false := by simpa using hr0
   rw [this]
   simp only [br_false]
   refine ⟨⟨by omega, by omega, by omega⟩, ?_⟩
   have ew : IntKind.i64.wrap ((fr : Int) + 1) = (fr : Int) + 1 := wrap_id (by omega) (by omega)
   rw [ew]
   simp only [br_beq, br_dec]
   split
   ·rename_i h48
    split
    ·rename_i h1
     rw [if_pos (.inr ⟨h48, .inl (by omega)⟩)] at h
     exact h
    ·rename_i h1
     refine br_of (fun hmt => ?_) (fun hmt => ?_)
     ·rw [if_pos (.inr ⟨h48, .inr hmt⟩)] at h
      exact h
     ·exact good (by rintro (h3 | ⟨_, h3 | h3⟩) <;> first | omega | (rw [hmt] at h3; cases h3))
   ·rename_i h48
    exact good (by rintro (h3 | ⟨h3, _⟩) <;> first | omega | exact h48 h3)
end Go.Proofs.Yf
namespace Go.Proofs.Yf
open Go Go.Aw Go.Proofs
namespace N127
noncomputable def cfg : Cfg := { cb with E := tab [] }
noncomputable def body : Code := bodyOf Tryz.f127
def c (x0 : Int) (k : Bool → Prop) : Prop :=
 (br (decide (x0 ≥ (97 : Int))) (br (decide (x0 ≤ (122 : Int))) (k true) (k (x0 == (95 : Int)))) (k (x0 == (95 : Int))))
def f0 x0 k := c x0 k
noncomputable def f := sld f0
theorem f_def : f = f0 := sld_eq f0
def K0 (k : KT) (y0 : Bool) : Prop := k (.v (.bool y0)) []
noncomputable def T (k kp : KT) := topK cfg Tryz.f127 k kp
noncomputable def JJ (k kp : KT) : Nat → St → Prop := pick none' []
noncomputable def LL (k kp : KT) : Nat → St → Prop := pick none' []
def pa (x0 : Int) : List D := [(.v (.int IntKind.u8 x0))]
def pb (x0 : Int) : List Blk := []
theorem body_is : Tryz.f127.body = some body := by kernel_rfl
theorem f_eq (k kp x0) : funW cfg Tryz.f127 (pa x0) (pb x0) k kp = f x0 (K0 k) :=
 raw_fun (own := 1000001) none'' (JJ k kp) (LL k kp) (fun J L => c x0 (K0 k)) body_is (by kernel_rfl) (fun J L => by kernel_rfl) (by rw [f_def]; rfl)
noncomputable def ent0 : Entry := fun args blks k _ => match args, blks with
 | [d0], [] => aInt IntKind.u8 d0 fun x0 => f x0 (K0 k)
 | _, _ => False
noncomputable def ent : Entry := cvE [.no] ent0
theorem ok : EntOk Tryz.prog 112 157 127 ent := by
 refine fnOk (cfg := cfg) rfl rfl rfl rfl (by kernel_rfl) ?_ Tryz.func127 (by rfl) (by rfl) ?_
 ·exact tab_n
 ·intro args blks k kp h k' kp'
  match args, blks, h with
  | [d0], [], h =>
  dsimp only [ent0] at h
  repeat ((first|have q := aInt_elim h); clear h; first|obtain ⟨rfl, h⟩ := q|obtain ⟨_, rfl, h⟩ := q|obtain ⟨_, _, rfl, h⟩ := q)
  exact (f_eq ..).symm
end N127
namespace N141
noncomputable def cfg : Cfg := { cb with E := tab [] }
noncomputable def body : Code := bodyOf Tryz.f141
def c (x0 : Int) (k : Bool → Prop) : Prop :=
 (br (decide (x0 ≥ (97 : Int))) (br (decide (x0 ≤ (122 : Int))) (k true) (k (x0 == (95 : Int)))) (k (x0 == (95 : Int))))
def f0 x0 k := c x0 k
noncomputable def f := sld f0
theorem f_def : f = f0 := sld_eq f0
def K0 (k : KT) (y0 : Bool) : Prop := k (.v (.bool y0)) []
noncomputable def T (k kp : KT) := topK cfg Tryz.f141 k kp
noncomputable def JJ (k kp : KT) : Nat → St → Prop := pick none' []
noncomputable def LL (k kp : KT) : Nat → St → Prop := pick none' []
def pa (x0 : Int) : List D := [(.v (.int IntKind.u8 x0))]
def pb (x0 : Int) : List Blk := []
theorem body_is : Tryz.f141.body = some body := by kernel_rfl
theorem f_eq (k kp x0) : funW cfg Tryz.f141 (pa x0) (pb x0) k kp = f x0 (K0 k) :=
 raw_fun (own := 1000001) none'' (JJ k kp) (LL k kp) (fun J L => c x0 (K0 k)) body_is (by kernel_rfl) (fun J L => by kernel_rfl) (by rw [f_def]; rfl)
noncomputable def ent0 : Entry := fun args blks k _ => match args, blks with
 | [d0], [] => aInt IntKind.u8 d0 fun x0 => f x0 (K0 k)
 | _, _ => False
noncomputable def ent : Entry := cvE [.no] ent0
theorem ok : EntOk Tryz.prog 112 157 141 ent := by
 refine fnOk (cfg := cfg) rfl rfl rfl rfl (by kernel_rfl) ?_ Tryz.func141 (by rfl) (by rfl) ?_
 ·exact tab_n
 ·intro args blks k kp h k' kp'
  match args, blks, h with
  | [d0], [], h =>
  dsimp only [ent0] at h
  repeat ((first|have q := aInt_elim h); clear h; first|obtain ⟨rfl, h⟩ := q|obtain ⟨_, rfl, h⟩ := q|obtain ⟨_, _, rfl, h⟩ := q)
  exact (f_eq ..).symm
end N141
namespace N91
noncomputable def cfg : Cfg := { cb with E := tab [(141, N141.ent)], atSeq := tab [(2000002, ks [0, 1, 20]), (3, ks [0, 1]), (5, ks [0, 5]), (6, ks [5])], atLoop := tab [(4, ks [0, 5])] }
noncomputable def body : Code := bodyOf Tryz.f91
def j2000002 (j3 : BA → Int → Prop) (x0 : BA) (x1 : Int) (aa : Bool) (k : Int → Prop) : Prop :=
 (br aa (k x1) (j3 x0 x1))
def j3 (l4 : BA → Int → Prop) (x0 : BA) (x1 : Int) (k : Int → Prop) : Prop :=
 (l4 x0 (IntKind.i64.wrap (x1 + (1 : Int))))
def l4 (j5 : BA → Int → Prop) (j6 : Int → Prop) (x0 : BA) (x5 : Int) (k : Int → Prop) : Prop :=
 (br (decide (x5 < ((((x0).size : Nat) : Int)))) ((inB 0 x5 ((((x0).size : Nat) : Int) - 1)) ∧ (N141.f (byteAt x0 x5) (fun ab => (br ab (j5 x0 x5) ((inB 0 x5 ((((x0).size : Nat) : Int) - 1)) ∧ (br (decide ((byteAt x0 x5) ≥ (48 : Int))) ((inB 0 x5 ((((x0).size : Nat) : Int) - 1)) ∧ (br (decide ((byteAt x0 x5) ≤ (57 : Int))) (j5 x0 x5) (j6 x5))) (j6 x5))))))) (j6 x5))
def j5 (ag4 : Int → Prop) (x0 : BA) (x5 : Int) (k : Int → Prop) : Prop :=
 (ag4 (IntKind.i64.wrap (x5 + (1 : Int))))
def j6 (x5 : Int) (k : Int → Prop) : Prop :=
 (k x5)
def c (j2000002 : BA → Int → Bool → Prop) (x0 : BA) (x1 : Int) (k : Int → Prop) : Prop :=
 (br (decide (x1 < (0 : Int))) (j2000002 x0 x1 true) (br (decide (x1 ≥ ((((x0).size : Nat) : Int)))) (j2000002 x0 x1 true) ((inB 0 x1 ((((x0).size : Nat) : Int) - 1)) ∧ (N141.f (byteAt x0 x1) (fun ac => (j2000002 x0 x1 (!ac)))))))
def j5' ag4 x0 x5 k := j5 ag4 x0 x5 k
def j6' x5 k := j6 x5 k
def l4' (x0 : BA) (x5 : Int) (k : Int → Prop) : Prop := ∃ n, loopS (fun ag (s : Int) => l4 (fun x0 x5 => j5' (fun x5 => ag (x5)) x0 x5 k) (fun x5 => j6' x5 k) x0 s k) n (x5)
def j3' x0 x1 k := j3 (fun x0 x5 => l4' x0 x5 k) x0 x1 k
def j2000002' x0 x1 aa k := j2000002 (fun x0 x1 => j3' x0 x1 k) x0 x1 aa k
def f0 x0 x1 k := c (fun x0 x1 aa => j2000002' x0 x1 aa k) x0 x1 k
noncomputable def f := sld f0
theorem f_def : f = f0 := sld_eq f0
def m2000002 (x0 : BA) (x1 : Int) (aa : Bool) : St := { tmps := mkT 49 0 [(0, (.v (.string x0))), (1, (.v (.int .i64 x1))), (20, (.v (.bool aa)))], hp := [], m := 0 }
def M2000002 (g : St → Prop) x0 x1 aa := g (m2000002 x0 x1 aa)
def m3 (x0 : BA) (x1 : Int) : St := { tmps := mkT 49 0 [(0, (.v (.string x0))), (1, (.v (.int .i64 x1)))], hp := [], m := 0 }
def M3 (g : St → Prop) x0 x1 := g (m3 x0 x1)
def mL4 (x0 : BA) (x5 : Int) : St := { tmps := mkT 49 0 [(0, (.v (.string x0))), (5, (.v (.int .i64 x5)))], hp := [], m := 0 }
def ML4 (g : St → Prop) x0 x5 := g (mL4 x0 x5)
def m5 (x0 : BA) (x5 : Int) : St := { tmps := mkT 49 0 [(0, (.v (.string x0))), (5, (.v (.int .i64 x5)))], hp := [], m := 0 }
def M5 (g : St → Prop) x0 x5 := g (m5 x0 x5)
def m6 (x5 : Int) : St := { tmps := mkT 49 0 [(5, (.v (.int .i64 x5)))], hp := [], m := 0 }
def M6 (g : St → Prop) x5 := g (m6 x5)
def K0 (k : KT) (y0 : Int) : Prop := k (.v (.int .i64 y0)) []
noncomputable def T (k kp : KT) := topK cfg Tryz.f91 k kp
noncomputable def X2000002 (k kp : KT) : St → Prop := atP cfg (pick none' []) [1, 0, 1] body (T k kp)
noncomputable def X3 (k kp : KT) : St → Prop := atP cfg (pick none' []) [1, 1] body (T k kp)
noncomputable def YL4 (k kp : KT) : (St → Prop) → St → Prop := loopB cfg (sub [1, 1, 1, 0, 0, 0] body) (contK cfg (pick none' []) [1, 1, 1, 0, 0] body (T k kp))
noncomputable def XL4 (k kp : KT) : St → Prop := fun st => ∃ n, loopN (YL4 k kp) n st
noncomputable def X5 (k kp : KT) (ag4 : St → Prop) : St → Prop := atP cfg (pick none' [(4, ag4)]) [1, 1, 1, 0, 0, 0, 1] body (T k kp)
noncomputable def X6 (k kp : KT) : St → Prop := atP cfg (pick none' []) [1, 1, 1, 1] body (T k kp)
noncomputable def JJ (k kp : KT) : Nat → St → Prop := pick none' [(2000002, X2000002 k kp), (3, X3 k kp), (6, X6 k kp)]
noncomputable def LL (k kp : KT) : Nat → St → Prop := pick none' [(4, XL4 k kp)]
noncomputable def JJ_4 (k kp : KT) (ag4 : St → Prop) : Nat → St → Prop := pick none' [(2000002, X2000002 k kp), (3, X3 k kp), (5, X5 k kp ag4), (6, X6 k kp)]
noncomputable def LL_4 (k kp : KT) (ag4 : St → Prop) : Nat → St → Prop := pick none' [(4, XL4 k kp)]
theorem j5_eq (k kp ag4) : M5 (X5 k kp ag4) = fun x0 x5 => j5' (fun x5 => ag4 (mL4 x0 x5)) x0 x5 (K0 k) := by
 funext x0 x5
 exact raw_eq (own:=5) rfl (JJ_4 k kp ag4) (LL_4 k kp ag4) (fun J L => j5 (fun x5 => ag4 (mL4 x0 x5)) x0 x5 (K0 k)) (by kernel_rfl) (fun _ _ => by kernel_rfl) rfl
theorem j6_eq (k kp) : M6 (X6 k kp) = fun x5 => j6' x5 (K0 k) := by
 funext x5
 exact raw_eq (own:=6) rfl (JJ k kp) (LL k kp) (fun J L => j6 x5 (K0 k)) (by kernel_rfl) (fun _ _ => by kernel_rfl) rfl
theorem l4_eq (k kp) : ML4 (XL4 k kp) = fun x0 x5 => l4' x0 x5 (K0 k) := by
 funext x0 x5
 exact loop_eq (mk := fun (s : Int) => match s with | x5 => mL4 x0 x5) (fun ag4 s => match s with | x5 => raw_eq (own:=1000001) (cfg := cfg) (AG := (pick none' [(4, ag4)])) (p := [1, 1, 1, 0, 0, 0]) (c := body) (K := (T k kp)) (st := mL4 x0 x5) (by kernel_rfl) (JJ_4 k kp ag4) (LL_4 k kp ag4) (fun J L => l4 (M5 (J 5)) (M6 (J 6)) x0 x5 (K0 k)) (by kernel_rfl) (fun _ _ => by kernel_rfl) (by erw [j5_eq k kp ag4, j6_eq k kp] <;> rfl)) (x5)
theorem j3_eq (k kp) : M3 (X3 k kp) = fun x0 x1 => j3' x0 x1 (K0 k) := by
 funext x0 x1
 exact raw_eq (own:=3) rfl (JJ k kp) (LL k kp) (fun J L => j3 (ML4 (L 4)) x0 x1 (K0 k)) (by kernel_rfl) (fun _ _ => by kernel_rfl) (by erw [l4_eq k kp] <;> rfl)
theorem j2000002_eq (k kp) : M2000002 (X2000002 k kp) = fun x0 x1 aa => j2000002' x0 x1 aa (K0 k) := by
 funext x0 x1 aa
 exact raw_eq (own:=2000002) rfl (JJ k kp) (LL k kp) (fun J L => j2000002 (M3 (J 3)) x0 x1 aa (K0 k)) (by kernel_rfl) (fun _ _ => by kernel_rfl) (by erw [j3_eq k kp] <;> rfl)
def pa (x0 : BA) (x1 : Int) : List D := [(.v (.string x0)), (.v (.int .i64 x1))]
def pb (x0 : BA) (x1 : Int) : List Blk := []
theorem body_is : Tryz.f91.body = some body := by kernel_rfl
theorem f_eq (k kp x0 x1) : funW cfg Tryz.f91 (pa x0 x1) (pb x0 x1) k kp = f x0 x1 (K0 k) :=
 raw_fun (own := 1000001) none'' (JJ k kp) (LL k kp) (fun J L => c (M2000002 (J 2000002)) x0 x1 (K0 k)) body_is (by kernel_rfl) (fun J L => by kernel_rfl) (by rw [f_def]; erw [j2000002_eq k kp] <;> rfl)
noncomputable def ent0 : Entry := fun args blks k _ => match args, blks with
 | [d0, d1], [] => aStr d0 fun x0 => aInt IntKind.i64 d1 fun x1 => f x0 x1 (K0 k)
 | _, _ => False
noncomputable def ent : Entry := cvE [.no, .no] ent0
theorem ok : EntOk Tryz.prog 112 157 91 ent := by
 refine fnOk (cfg := cfg) rfl rfl rfl rfl (by kernel_rfl) ?_ Tryz.func91 (by rfl) (by rfl) ?_
 ·exact tab_c N141.ok <| tab_n
 ·intro args blks k kp h k' kp'
  match args, blks, h with
  | [d0, d1], [], h =>
  dsimp only [ent0] at h
  repeat ((first|have q := aStr_elim h|have q := aInt_elim h); clear h; first|obtain ⟨rfl, h⟩ := q|obtain ⟨_, rfl, h⟩ := q|obtain ⟨_, _, rfl, h⟩ := q)
  exact (f_eq ..).symm
end N91
namespace N172
noncomputable def cfg : Cfg := { cb with E := tab [(127, N127.ent)] }
noncomputable def body : Code := bodyOf Tryz.f172
def c (x0 : Int) (k : Bool → Prop) : Prop :=
 (N127.f x0 (fun aa => (br aa (k true) (br (decide (x0 ≥ (48 : Int))) (k (decide (x0 ≤ (57 : Int)))) (k false)))))
def f0 x0 k := c x0 k
noncomputable def f := sld f0
theorem f_def : f = f0 := sld_eq f0
def K0 (k : KT) (y0 : Bool) : Prop := k (.v (.bool y0)) []
noncomputable def T (k kp : KT) := topK cfg Tryz.f172 k kp
noncomputable def JJ (k kp : KT) : Nat → St → Prop := pick none' []
noncomputable def LL (k kp : KT) : Nat → St → Prop := pick none' []
def pa (x0 : Int) : List D := [(.v (.int IntKind.u8 x0))]
def pb (x0 : Int) : List Blk := []
theorem body_is : Tryz.f172.body = some body := by kernel_rfl
theorem f_eq (k kp x0) : funW cfg Tryz.f172 (pa x0) (pb x0) k kp = f x0 (K0 k) :=
 raw_fun (own := 1000001) none'' (JJ k kp) (LL k kp) (fun J L => c x0 (K0 k)) body_is (by kernel_rfl) (fun J L => by kernel_rfl) (by rw [f_def]; rfl)
noncomputable def ent0 : Entry := fun args blks k _ => match args, blks with
 | [d0], [] => aInt IntKind.u8 d0 fun x0 => f x0 (K0 k)
 | _, _ => False
noncomputable def ent : Entry := cvE [.no] ent0
theorem ok : EntOk Tryz.prog 112 157 172 ent := by
 refine fnOk (cfg := cfg) rfl rfl rfl rfl (by kernel_rfl) ?_ Tryz.func172 (by rfl) (by rfl) ?_
 ·exact tab_c N127.ok <| tab_n
 ·intro args blks k kp h k' kp'
  match args, blks, h with
  | [d0], [], h =>
  dsimp only [ent0] at h
  repeat ((first|have q := aInt_elim h); clear h; first|obtain ⟨rfl, h⟩ := q|obtain ⟨_, rfl, h⟩ := q|obtain ⟨_, _, rfl, h⟩ := q)
  exact (f_eq ..).symm
end N172
namespace N158
noncomputable def cfg : Cfg := { cb with E := tab [(127, N127.ent), (172, N172.ent)], atSeq := tab [(2000002, ks [0, 1, 19]), (3, ks [0, 1]), (4, ks [0, 1]), (5, ks [1])], atLoop := tab [(3, ks [0, 1])] }
noncomputable def body : Code := bodyOf Tryz.f158
def j2000002 (j3 : BA → Int → Prop) (x0 : BA) (x1 : Int) (aa : Bool) (k : Int → Prop) : Prop :=
 (br aa (k x1) (j3 x0 x1))
def j3 (l3 : BA → Int → Prop) (x0 : BA) (x1 : Int) (k : Int → Prop) : Prop :=
 (l3 x0 x1)
def l3 (j4 : BA → Int → Prop) (j5 : Int → Prop) (x0 : BA) (x1 : Int) (k : Int → Prop) : Prop :=
 (br (decide (x1 < ((((x0).size : Nat) : Int)))) ((inB 0 x1 ((((x0).size : Nat) : Int) - 1)) ∧ (N172.f (byteAt x0 x1) (fun ab => (br ab (j4 x0 x1) (j5 x1))))) (j5 x1))
def j4 (ag3 : Int → Prop) (x0 : BA) (x1 : Int) (k : Int → Prop) : Prop :=
 (ag3 (IntKind.i64.wrap (x1 + (1 : Int))))
def j5 (x1 : Int) (k : Int → Prop) : Prop :=
 (k x1)
def c (j2000002 : BA → Int → Bool → Prop) (x0 : BA) (x1 : Int) (k : Int → Prop) : Prop :=
 (br (decide (x1 < (0 : Int))) (j2000002 x0 x1 true) (br (decide (x1 ≥ ((((x0).size : Nat) : Int)))) (j2000002 x0 x1 true) ((inB 0 x1 ((((x0).size : Nat) : Int) - 1)) ∧ (N127.f (byteAt x0 x1) (fun ac => (j2000002 x0 x1 (!ac)))))))
def j4' ag3 x0 x1 k := j4 ag3 x0 x1 k
def j5' x1 k := j5 x1 k
def l3' (x0 : BA) (x1 : Int) (k : Int → Prop) : Prop := ∃ n, loopS (fun ag (s : Int) => l3 (fun x0 x1 => j4' (fun x1 => ag (x1)) x0 x1 k) (fun x1 => j5' x1 k) x0 s k) n (x1)
def j3' x0 x1 k := j3 (fun x0 x1 => l3' x0 x1 k) x0 x1 k
def j2000002' x0 x1 aa k := j2000002 (fun x0 x1 => j3' x0 x1 k) x0 x1 aa k
def f0 x0 x1 k := c (fun x0 x1 aa => j2000002' x0 x1 aa k) x0 x1 k
noncomputable def f := sld f0
theorem f_def : f = f0 := sld_eq f0
def m2000002 (x0 : BA) (x1 : Int) (aa : Bool) : St := { tmps := mkT 34 0 [(0, (.v (.string x0))), (1, (.v (.int .i64 x1))), (19, (.v (.bool aa)))], hp := [], m := 0 }
def M2000002 (g : St → Prop) x0 x1 aa := g (m2000002 x0 x1 aa)
def m3 (x0 : BA) (x1 : Int) : St := { tmps := mkT 34 0 [(0, (.v (.string x0))), (1, (.v (.int .i64 x1)))], hp := [], m := 0 }
def M3 (g : St → Prop) x0 x1 := g (m3 x0 x1)
def mL3 (x0 : BA) (x1 : Int) : St := { tmps := mkT 34 0 [(0, (.v (.string x0))), (1, (.v (.int .i64 x1)))], hp := [], m := 0 }
def ML3 (g : St → Prop) x0 x1 := g (mL3 x0 x1)
def m4 (x0 : BA) (x1 : Int) : St := { tmps := mkT 34 0 [(0, (.v (.string x0))), (1, (.v (.int .i64 x1)))], hp := [], m := 0 }
def M4 (g : St → Prop) x0 x1 := g (m4 x0 x1)
def m5 (x1 : Int) : St := { tmps := mkT 34 0 [(1, (.v (.int .i64 x1)))], hp := [], m := 0 }
def M5 (g : St → Prop) x1 := g (m5 x1)
def K0 (k : KT) (y0 : Int) : Prop := k (.v (.int .i64 y0)) []
noncomputable def T (k kp : KT) := topK cfg Tryz.f158 k kp
noncomputable def X2000002 (k kp : KT) : St → Prop := atP cfg (pick none' []) [1, 0, 1] body (T k kp)
noncomputable def X3 (k kp : KT) : St → Prop := atP cfg (pick none' []) [1, 1] body (T k kp)
noncomputable def YL3 (k kp : KT) : (St → Prop) → St → Prop := loopB cfg (sub [1, 1, 0, 0, 0] body) (contK cfg (pick none' []) [1, 1, 0, 0] body (T k kp))
noncomputable def XL3 (k kp : KT) : St → Prop := fun st => ∃ n, loopN (YL3 k kp) n st
noncomputable def X4 (k kp : KT) (ag3 : St → Prop) : St → Prop := atP cfg (pick none' [(3, ag3)]) [1, 1, 0, 0, 0, 1] body (T k kp)
noncomputable def X5 (k kp : KT) : St → Prop := atP cfg (pick none' []) [1, 1, 1] body (T k kp)
noncomputable def JJ (k kp : KT) : Nat → St → Prop := pick none' [(2000002, X2000002 k kp), (3, X3 k kp), (5, X5 k kp)]
noncomputable def LL (k kp : KT) : Nat → St → Prop := pick none' [(3, XL3 k kp)]
noncomputable def JJ_3 (k kp : KT) (ag3 : St → Prop) : Nat → St → Prop := pick none' [(2000002, X2000002 k kp), (3, X3 k kp), (4, X4 k kp ag3), (5, X5 k kp)]
noncomputable def LL_3 (k kp : KT) (ag3 : St → Prop) : Nat → St → Prop := pick none' [(3, XL3 k kp)]
theorem j4_eq (k kp ag3) : M4 (X4 k kp ag3) = fun x0 x1 => j4' (fun x1 => ag3 (mL3 x0 x1)) x0 x1 (K0 k) := by
 funext x0 x1
 exact raw_eq (own:=4) rfl (JJ_3 k kp ag3) (LL_3 k kp ag3) (fun J L => j4 (fun x1 => ag3 (mL3 x0 x1)) x0 x1 (K0 k)) (by kernel_rfl) (fun _ _ => by kernel_rfl) rfl
theorem j5_eq (k kp) : M5 (X5 k kp) = fun x1 => j5' x1 (K0 k) := by
 funext x1
 exact raw_eq (own:=5) rfl (JJ k kp) (LL k kp) (fun J L => j5 x1 (K0 k)) (by kernel_rfl) (fun _ _ => by kernel_rfl) rfl
theorem l3_eq (k kp) : ML3 (XL3 k kp) = fun x0 x1 => l3' x0 x1 (K0 k) := by
 funext x0 x1
 exact loop_eq (mk := fun (s : Int) => match s with | x1 => mL3 x0 x1) (fun ag3 s => match s with | x1 => raw_eq (own:=1000001) (cfg := cfg) (AG := (pick none' [(3, ag3)])) (p := [1, 1, 0, 0, 0]) (c := body) (K := (T k kp)) (st := mL3 x0 x1) (by kernel_rfl) (JJ_3 k kp ag3) (LL_3 k kp ag3) (fun J L => l3 (M4 (J 4)) (M5 (J 5)) x0 x1 (K0 k)) (by kernel_rfl) (fun _ _ => by kernel_rfl) (by erw [j4_eq k kp ag3, j5_eq k kp] <;> rfl)) (x1)
theorem j3_eq (k kp) : M3 (X3 k kp) = fun x0 x1 => j3' x0 x1 (K0 k) := by
 funext x0 x1
 exact raw_eq (own:=3) rfl (JJ k kp) (LL k kp) (fun J L => j3 (ML3 (L 3)) x0 x1 (K0 k)) (by kernel_rfl) (fun _ _ => by kernel_rfl) (by erw [l3_eq k kp] <;> rfl)
theorem j2000002_eq (k kp) : M2000002 (X2000002 k kp) = fun x0 x1 aa => j2000002' x0 x1 aa (K0 k) := by
 funext x0 x1 aa
 exact raw_eq (own:=2000002) rfl (JJ k kp) (LL k kp) (fun J L => j2000002 (M3 (J 3)) x0 x1 aa (K0 k)) (by kernel_rfl) (fun _ _ => by kernel_rfl) (by erw [j3_eq k kp] <;> rfl)
def pa (x0 : BA) (x1 : Int) : List D := [(.v (.string x0)), (.v (.int .i64 x1))]
def pb (x0 : BA) (x1 : Int) : List Blk := []
theorem body_is : Tryz.f158.body = some body := by kernel_rfl
theorem f_eq (k kp x0 x1) : funW cfg Tryz.f158 (pa x0 x1) (pb x0 x1) k kp = f x0 x1 (K0 k) :=
 raw_fun (own := 1000001) none'' (JJ k kp) (LL k kp) (fun J L => c (M2000002 (J 2000002)) x0 x1 (K0 k)) body_is (by kernel_rfl) (fun J L => by kernel_rfl) (by rw [f_def]; erw [j2000002_eq k kp] <;> rfl)
noncomputable def ent0 : Entry := fun args blks k _ => match args, blks with
 | [d0, d1], [] => aStr d0 fun x0 => aInt IntKind.i64 d1 fun x1 => f x0 x1 (K0 k)
 | _, _ => False
noncomputable def ent : Entry := cvE [.no, .no] ent0
theorem ok : EntOk Tryz.prog 112 157 158 ent := by
 refine fnOk (cfg := cfg) rfl rfl rfl rfl (by kernel_rfl) ?_ Tryz.func158 (by rfl) (by rfl) ?_
 ·exact tab_c N127.ok <| tab_c N172.ok <| tab_n
 ·intro args blks k kp h k' kp'
  match args, blks, h with
  | [d0, d1], [], h =>
  dsimp only [ent0] at h
  repeat ((first|have q := aStr_elim h|have q := aInt_elim h); clear h; first|obtain ⟨rfl, h⟩ := q|obtain ⟨_, rfl, h⟩ := q|obtain ⟨_, _, rfl, h⟩ := q)
  exact (f_eq ..).symm
end N158
end Go.Proofs.Yf
