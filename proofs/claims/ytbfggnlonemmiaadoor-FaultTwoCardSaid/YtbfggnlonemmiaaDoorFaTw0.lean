/- Two errors are told as one text just if they are of one code, at one place, within the same, where no part has a colon: the statement of FaultTwo, its card. -/
import Derived.Test.YtbfggnlonemmiaaDoorProg
import Derived.Test.YtbfggnlonemmiaaDoorT2
import Derived.WalkKit
import Derived.LaidEql
import Derived.Stop.Asserts
import Derived.RowKitTokens
import Derived.Elder7
import Derived.Deep.RegionHeld3
import Derived.Deep.AppendLies
import Derived.Test.YtbfggnlonemmiaaDoorRows
import Derived.ChangeSame
import Derived.ChangeVars
import Derived.JoinedOf
import Derived.RowKit
import Derived.LaidLaws
import Derived.LaidHandle
import Derived.Stop.Joined
import Derived.Test.YtbfggnlonemmiaaDoorCards
import Derived.Test.YtbfggnlonemmiaaDoorTie
import Derived.SevenTiedAt
import Derived.Deep.DeepHandedRow
import Derived.ProofKit
import Derived.OpenShut
import Derived.ShutString
import Derived.ChangeOld
import Derived.Below
import Derived.SizedLaws
import Derived.Deep.CondSized
namespace Go.Proofs.Yd
open Go Go.Aw Go.Proofs Go.RowKit Go.Extern.Stop Go.Stop Go.Extern
set_option linter.unusedVariables false
set_option linter.unusedSimpArgs false

/-! ### Errors are made -/
theorem F.new_run (c a : Int) (w : World) : Calls Tryd.prog 15 #[.int .i64 c, .int .i64 a] w fun e w' => if c = 0 then e = .returned .nilIface ∧ w' = w else e = .returned (.iface 40 (.pointer (some ⟨w.heap.size, 0, none⟩))) ∧ w' = w.alloc (.cells #[.int .i64 c, .int .i64 a] 43) := by
  go_enter Tryd.func15, Tryd.ntmps15
  by_cases hc : c = 0
  · subst hc
    go_wp2
    go_ret
    exact ⟨rfl, rfl⟩
  · go_wp2
    go_ret
    exact ⟨rfl, rfl⟩
namespace N15
noncomputable def ent : Entry := newEnt
theorem ok : EntOk Tryd.prog 40 49 15 ent := new_ok Tryd.func15 (by kernel_rfl) (by kernel_rfl) F.new_run
end N15
theorem F.in_nil (s : ByteArray) (w : World) : Calls Tryd.prog 14 #[.string s, .nilIface] w fun e w' => e = .returned .nilIface ∧ w' = w := by
  go_enter Tryd.func14, Tryd.ntmps14
  go_wp2
  go_ret
  exact ⟨rfl, rfl⟩
theorem F.in_run (s : ByteArray) (t : TypeId) (v : Value) (w : World) : Calls Tryd.prog 14 #[.string s, .iface t v] w fun e w' => e = .returned (.iface 49 (.pointer (some ⟨w.heap.size, 0, none⟩))) ∧ w' = w.alloc (.cells #[.string s, .iface t v] 51) := by
  go_enter Tryd.func14, Tryd.ntmps14
  go_wp2
  go_ret
  exact ⟨rfl, rfl⟩
namespace N14
noncomputable def ent : Entry := inEnt
theorem ok : EntOk Tryd.prog 40 49 14 ent := in_ok Tryd.func14 (by kernel_rfl) (by kernel_rfl) F.in_nil F.in_run
end N14

/-! ### errors.As, of which a fault is asked -/
theorem F.hdl : hdlOf Tryd.prog = some (0, .iface 73 (.agg #[.pointer (some ⟨1, 26, none⟩)])) := by kernel_rfl
theorem F.valueOfPF (t : Addr) (w : World) : (ReflectliteValue.unpack (.iface 53 (.pointer (some t)))).run Tryd.prog w
    = .ok (.agg #[.pointer (some ⟨1, 53, none⟩), .pointer (some ⟨w.heap.size, 0, none⟩), .int .u64 150]) (w.alloc (.cells #[.pointer (some t)] 53)) := by kernel_rfl
theorem F.typePF (a : Addr) (w : World) : (ReflectliteValue.methodAny (ReflectliteValue.valueError "reflectlite.Value.Type" 0) (fun t _ _ _ => ReflectliteType.toType t) #[.agg #[.pointer (some ⟨1, 53, none⟩), .pointer (some a), .int .u64 150]]).run Tryd.prog w
    = .ok (.iface 73 (.agg #[.pointer (some ⟨1, 53, none⟩)])) w := by kernel_rfl
theorem F.methodKind (h : Value) (w : World) : (Go.method 219 73 (.agg #[h]) "Kind").run Tryd.prog w = .ok (44, h) w := by kernel_rfl
theorem F.kindPF (w : World) : ((ReflectliteType.abiMethod fun t => (fun a : Nat => Value.int IntKind.u8 (a : Int)) <$> Rtype.kind t) #[.pointer (some ⟨1, 53, none⟩)]).run Tryd.prog w = .ok (.int .u8 22) w := by kernel_rfl
theorem F.kindF (w : World) : ((ReflectliteType.abiMethod fun t => (fun a : Nat => Value.int IntKind.u8 (a : Int)) <$> Rtype.kind t) #[.pointer (some ⟨1, 40, none⟩)]).run Tryd.prog w = .ok (.int .u8 22) w := by kernel_rfl
theorem F.rlm (z : Sem Value) (f : TypeId → Addr → Nat → Nat → Sem Value) (v : Value) :
    ReflectliteValue.method z f #[v] = (do match ← ReflectliteValue.parts v with | none => z | some (t, a, fl) => f t a fl (fl % 32)) := rfl
theorem F.partsPF (a : Addr) (w : World) : (ReflectliteValue.parts (.agg #[.pointer (some ⟨1, 53, none⟩), .pointer (some a), .int .u64 150])).run Tryd.prog w = .ok (some (53, a, 150)) w := by kernel_rfl
theorem F.isNilPF (a p : Addr) (W : World) (ha : W.cell? a = some (.pointer (some p))) :
    (ReflectliteValue.method (ReflectliteValue.valueError "reflectlite.Value.IsNil" 0) ReflectliteValue.isNil #[.agg #[.pointer (some ⟨1, 53, none⟩), .pointer (some a), .int .u64 150]]).run Tryd.prog W = .ok (.bool false) W := by
  rw [F.rlm]
  simp only [Sem.run_bind, F.partsPF, Result.andThen]
  simp [ReflectliteValue.isNil, loadVar, isAgg, underlying, Tryd.underlying53, ha, Result.andThen]
theorem F.methodElem (h : Value) (w : World) : (Go.method 219 73 (.agg #[h]) "Elem").run Tryd.prog w = .ok (59, .agg #[h]) w := by kernel_rfl
theorem F.methodImplements (h : Value) (w : World) : (Go.method 219 73 (.agg #[h]) "Implements").run Tryd.prog w = .ok (60, .agg #[h]) w := by kernel_rfl
theorem F.methodAssignableTo (h : Value) (w : World) : (Go.method 219 73 (.agg #[h]) "AssignableTo").run Tryd.prog w = .ok (57, .agg #[h]) w := by kernel_rfl
theorem F.elemPF (w : World) : (ReflectliteType.method ReflectliteType.elem #[.agg #[.pointer (some ⟨1, 53, none⟩)]]).run Tryd.prog w = .ok (.iface 73 (.agg #[.pointer (some ⟨1, 40, none⟩)])) w := by kernel_rfl
theorem F.implementsF (w : World) : (ReflectliteType.relation "Implements" ReflectliteType.implements_ #[.agg #[.pointer (some ⟨1, 40, none⟩)], .iface 73 (.agg #[.pointer (some ⟨1, 26, none⟩)])]).run Tryd.prog w = .ok (.bool true) w := by kernel_rfl
theorem F.typeOfF (v : Value) (w : World) : (ReflectliteType.typeOf #[.iface 40 v]).run Tryd.prog w = .ok (.iface 73 (.agg #[.pointer (some ⟨1, 40, none⟩)])) w := by kernel_rfl
theorem F.typeOfW (v : Value) (w : World) : (ReflectliteType.typeOf #[.iface 49 v]).run Tryd.prog w = .ok (.iface 73 (.agg #[.pointer (some ⟨1, 49, none⟩)])) w := by kernel_rfl
theorem F.assignableF (w : World) : (ReflectliteType.relation "AssignableTo" ReflectliteType.assignableTo #[.agg #[.pointer (some ⟨1, 40, none⟩)], .iface 73 (.agg #[.pointer (some ⟨1, 40, none⟩)])]).run Tryd.prog w = .ok (.bool true) w := by kernel_rfl
theorem F.assignableW (w : World) : (ReflectliteType.relation "AssignableTo" ReflectliteType.assignableTo #[.agg #[.pointer (some ⟨1, 49, none⟩)], .iface 73 (.agg #[.pointer (some ⟨1, 40, none⟩)])]).run Tryd.prog w = .ok (.bool false) w := by kernel_rfl
theorem F.valueOfF (e : Addr) (w : World) : (ReflectliteValue.unpack (.iface 40 (.pointer (some e)))).run Tryd.prog w
    = .ok (.agg #[.pointer (some ⟨1, 40, none⟩), .pointer (some ⟨w.heap.size, 0, none⟩), .int .u64 150]) (w.alloc (.cells #[.pointer (some e)] 40)) := by kernel_rfl
theorem F.elemOfPF (w : World) : (Rtype.elem? 53).run Tryd.prog w = .ok (some 40) w := by kernel_rfl
theorem F.mkF (p : Addr) (w : World) : (ReflectliteValue.mk 40 p ReflectliteValue.flagAddr).run Tryd.prog w = .ok (.agg #[.pointer (some ⟨1, 40, none⟩), .pointer (some p), .int .u64 406]) w := by kernel_rfl
theorem F.elemVPF (a p : Addr) (W : World) (ha : W.cell? a = some (.pointer (some p))) :
    (ReflectliteValue.method (ReflectliteValue.valueError "reflectlite.Value.Elem" 0) ReflectliteValue.elem #[.agg #[.pointer (some ⟨1, 53, none⟩), .pointer (some a), .int .u64 150]]).run Tryd.prog W
      = .ok (.agg #[.pointer (some ⟨1, 40, none⟩), .pointer (some p), .int .u64 406]) W := by
  rw [F.rlm]
  simp only [Sem.run_bind, F.partsPF, Result.andThen]
  simp [ReflectliteValue.elem, loadVar, isAgg, underlying, Tryd.underlying53, ha, Result.andThen, F.elemOfPF, F.mkF]
theorem F.rls (v x : Value) : ReflectliteValue.set #[v, x] = (do
    let (some (dst, a, fl), some (src, b, _)) := (← ReflectliteValue.parts v, ← ReflectliteValue.parts x)
      | unsupported (.noEntry "extern/(internal/reflectlite.Value).Set.zeroValue")
    if fl / ReflectliteValue.flagAddr % 2 == 0 then unsupported (.noEntry "extern/(internal/reflectlite.Value).Set.unaddressable")
    let val ← loadVar src b
    if ← Rtype.directlyAssignable dst src then storeVar dst a val
    else if ← Rtype.implements dst src then
      if (← Rtype.kind src) == 20 then
        match val with
        | .nilIface => unsupported (.noEntry "extern/reflectlite: a nil value of one interface type handed on as a value of another")
        | _ => storeVar dst a val
      else storeVar dst a (.iface src val)
    else panicString ("reflectlite.Set: value of type " ++ (← Rtype.spelt src) ++ " is not assignable to type " ++ (← Rtype.spelt dst))
    pure (.tuple #[])) := rfl
theorem F.partsFa (a : Addr) (w : World) : (ReflectliteValue.parts (.agg #[.pointer (some ⟨1, 40, none⟩), .pointer (some a), .int .u64 406])).run Tryd.prog w = .ok (some (40, a, 406)) w := by kernel_rfl
theorem F.partsF (a : Addr) (w : World) : (ReflectliteValue.parts (.agg #[.pointer (some ⟨1, 40, none⟩), .pointer (some a), .int .u64 150])).run Tryd.prog w = .ok (some (40, a, 150)) w := by kernel_rfl
theorem F.directF (w : World) : (Rtype.directlyAssignable 40 40).run Tryd.prog w = .ok true w := by kernel_rfl
theorem F.sizeF (w : World) : (sizeOf 40).run Tryd.prog w = .ok 1 w := by kernel_rfl
theorem F.setF (ta b e : Addr) (old : Value) (W : World) (hb : W.cell? b = some (.pointer (some e))) (ht : W.cell? ta = some old) (hf : W.frozen? ta = false) :
    (ReflectliteValue.set #[.agg #[.pointer (some ⟨1, 40, none⟩), .pointer (some ta), .int .u64 406], .agg #[.pointer (some ⟨1, 40, none⟩), .pointer (some b), .int .u64 150]]).run Tryd.prog W
      = .ok (.tuple #[]) (W.setCell ta (.pointer (some e))) := by
  rw [F.rls]
  simp only [Sem.run_bind, F.partsFa, F.partsF, Result.andThen]
  simp [ReflectliteValue.flagAddr, loadVar, isAgg, underlying, Tryd.underlying40, hb, Result.andThen, F.directF, storeVar, Value.cells, storeCells, Addr.add]
  rw [run_store Tryd.prog W ta _ _ (by rfl)]
  simp [ht, hf]
theorem F.noAsW (v : Value) (xT : TypeId) (w : World) : (Instr.typeAssert (.iface 49 v) xT 85 true).run Tryd.prog w = .ok (.tuple #[.nilIface, .bool false]) w := run_typeAssert_lacksB Tryd.underlying85 (by kernel_rfl) (by kernel_rfl) v xT w
theorem F.hasUnwrapW (v : Value) (xT : TypeId) (w : World) : (Instr.typeAssert (.iface 49 v) xT 78 true).run Tryd.prog w = .ok (.tuple #[.iface 49 v, .bool true]) w := run_typeAssert_hasB Tryd.underlying78 (by kernel_rfl) v xT w
theorem F.methodUnwrap (v : Value) (w : World) : (Go.method 219 49 v "Unwrap").run Tryd.prog w = .ok (52, v) w := by kernel_rfl

/-- The fault, and how deep it lies: what the loop goes by. -/
abbrev ChainF (B : Nat) (W : World) (u : Value) (e : Err) : Prop := RepE W (fun a => a.block < B) 40 49 e u ∧ plainE e = true
open Classical in
noncomputable def chainLen (B : Nat) (W : World) (u : Value) : Nat := if h : ∃ e, ChainF B W u e then depthE h.choose else 0
theorem chainLen_eq {B : Nat} {W : World} {u : Value} {e : Err} (h : ChainF B W u e) : chainLen B W u = depthE e := by
  unfold chainLen
  rw [dif_pos ⟨e, h⟩]
  have hc := Exists.choose_spec (p := fun e => ChainF B W u e) ⟨e, h⟩
  rw [RepE.unique (by decide) hc.1 hc.2 h.1 h.2]

abbrev hF : Value := .pointer (some ⟨1, 40, none⟩)
abbrev hPF : Value := .pointer (some ⟨1, 53, none⟩)
abbrev asB (W : World) (tv : Addr) : World := W.alloc (.cells #[hPF, .pointer (some tv), .int .u64 150] 65)
def asPost (W : World) (tv t : Addr) (B : Nat) (o : Option (Int × Int)) (ev : Ending) (w' : World) : Prop := match o with
  | none => ev = .returned (.bool false) ∧ w' = asB W tv
  | some (c, a) => ∃ pb po, (W.cell? ⟨pb, po, none⟩ = some (.int .i64 c) ∧ W.cell? ⟨pb, po + 1, none⟩ = some (.int .i64 a) ∧ pb < B) ∧ ev = .returned (.bool true) ∧
      w' = ((asB W tv).alloc (.cells #[.pointer (some ⟨pb, po, none⟩)] 40)).setCell t (.pointer (some ⟨pb, po, none⟩))
set_option maxHeartbeats 4000000 in
set_option maxRecDepth 1000000 in
theorem F.as_chain (W : World) (t tv : Addr) (old : Value) (ht : W.cell? t = some old) (hf : W.frozen? t = false) (hv : W.cell? tv = some (.pointer (some t))) (B : Nat) (hB : B ≤ W.heap.size) (e : Err) (u : Value) (hch : ChainF B W u e) (hnil : e.isNil = false) :
    Calls Tryd.prog 27 #[u, .iface 53 (.pointer (some t)), .agg #[hPF, .pointer (some tv), .int .u64 150], .iface 73 (.agg #[hF])] W fun ev w' =>
      asPost W tv t B (rootE e) ev w' := by
  have h6 := @run_callFunc_extern Tryd.prog 24 _ (fun args => ReflectliteValue.unpack (args.getD 0 (.tuple #[]))) Tryd.func24 (by kernel_rfl) (by kernel_rfl) (by kernel_rfl) (by kernel_rfl)
  have h10 := @run_callFunc_extern Tryd.prog 22 _ ReflectliteType.typeOf Tryd.func22 (by kernel_rfl) (by kernel_rfl) (by kernel_rfl) (by kernel_rfl)
  have h35 := @run_callFunc_extern Tryd.prog 57 _ (ReflectliteType.relation "AssignableTo" ReflectliteType.assignableTo) Tryd.func57 (by kernel_rfl) (by kernel_rfl) (by kernel_rfl) (by kernel_rfl)
  have h11 := @run_callFunc_extern Tryd.prog 28 _ (ReflectliteValue.method (ReflectliteValue.valueError "reflectlite.Value.Elem" 0) ReflectliteValue.elem) Tryd.func28 (by kernel_rfl) (by kernel_rfl) (by kernel_rfl) (by kernel_rfl)
  have h12 := @run_callFunc_extern Tryd.prog 29 _ ReflectliteValue.set Tryd.func29 (by kernel_rfl) (by kernel_rfl) (by kernel_rfl) (by kernel_rfl)
  have tO := F.typeOfF
  have tW := F.typeOfW
  have mA := F.methodAssignableTo
  have aF := F.assignableF
  have aW := F.assignableW
  have vF := F.valueOfF
  have nA := F.noAsW
  have hU := F.hasUnwrapW
  have mU := F.methodUnwrap
  have htl : t.block < W.heap.size := World.block_lt_of_cell? W t ht
  have hvl : tv.block < W.heap.size := World.block_lt_of_cell? W tv hv
  have keep : ∀ a : Addr, a.block < W.heap.size → (asB W tv).cell? a = W.cell? a := fun a ha => World.cell?_alloc_lt _ _ a ha
  have el := F.elemVPF tv t (asB W tv) (by rw [keep tv hvl]; exact hv)
  go_enter Tryd.func27, Tryd.ntmps27
  go_wp2
  go_loopw [0] (fun E' wl => wl = asB W tv ∧ ∃ e', ChainF B W E' e' ∧ e'.isNil = false ∧ rootE e' = rootE e) (fun E' _ => chainLen B W E')
  case atStart => exact ⟨rfl, e, hch, hnil, rfl⟩
  case round =>
    obtain ⟨rfl, e', ⟨hc', hp'⟩, hn', hre⟩ := hrel
    cases e' with
    | nil => cases hn'
    | wrg q i => cases hp'
    | flt c a =>
      obtain ⟨p, rfl, hat⟩ := hc'
      obtain ⟨pb, po, rfl, hpb, h0, h1⟩ := hat.flat2
      have st := F.setF t ⟨W.heap.size + 1, 0, none⟩ ⟨pb, po, none⟩ old ((asB W tv).alloc (.cells #[.pointer (some ⟨pb, po, none⟩)] 40)) (by simp)
        (by rw [World.cell?_alloc_lt _ _ t (by simp; omega), keep t htl]; exact ht)
        (by rw [World.frozen?_alloc_old _ _ t (by simp; omega), World.frozen?_alloc_old _ _ t (by omega)]; exact hf)
      clear hat hch
      go_wp2
      go_ret
      rw [← hre]
      exact ⟨pb, po, ⟨h0, h1, hpb⟩, rfl, rfl⟩
    | win s i =>
      obtain ⟨p, v, rfl, hat, hin⟩ := hc'
      obtain ⟨pb, po, rfl, hpb, h0, h1⟩ := hat.flat2
      have hp1 : (asB W tv).cell? ⟨pb, po + 1, none⟩ = some v := by rw [keep _ (Nat.lt_of_lt_of_le hpb hB)]; exact h1
      rcases hin.isNil with ⟨rfl, rfl⟩ | ⟨hni, u1, v1, rfl⟩
      · clear hat hin hch
        go_wp2
        go_ret
        rw [← hre]
        exact ⟨rfl, rfl⟩
      · have hlen := chainLen_eq (B := B) (W := W) ⟨hin, hp'⟩
        have hlen0 := chainLen_eq (B := B) (W := W) (e := .win s i) ⟨⟨_, _, rfl, hat, hin⟩, hp'⟩
        have HC : Hid (ChainF B W (.iface u1 v1) i) := ⟨hin, hp'⟩
        clear hin hat hch
        go_wp2
        go_roundw
        case rel => exact ⟨trivial, i, HC.out, hni, hre⟩
        case measure =>
          show chainLen B W (.iface u1 v1) < _
          rw [hlen, hlen0]; exact Nat.lt_succ_self _
theorem F.As_nil (t : Value) (w : World) : Calls Tryd.prog 20 #[.nilIface, t] w fun e w' => e = .returned (.bool false) ∧ w' = w := by
  go_enter Tryd.func20, Tryd.ntmps20
  go_wp2
  go_ret
  exact ⟨rfl, rfl⟩

abbrev asW0 (w : World) (t : Addr) : World := (w.alloc (.cells #[.pointer (some t)] 53)).alloc (.cells #[hPF, .pointer (some ⟨w.heap.size, 0, none⟩), .int .u64 150] 65)
abbrev asW (w : World) (t : Addr) : World := (asW0 w t).alloc (.cells #[hPF, .pointer (some ⟨w.heap.size, 0, none⟩), .int .u64 150] 65)
def asPostW (w : World) (t : Addr) (B : Nat) (o : Option (Int × Int)) (ev : Ending) (w' : World) : Prop := match o with
  | none => ev = .returned (.bool false) ∧ w' = asW w t
  | some (c, a) => ∃ pb po, (w.cell? ⟨pb, po, none⟩ = some (.int .i64 c) ∧ w.cell? ⟨pb, po + 1, none⟩ = some (.int .i64 a) ∧ pb < B) ∧ ev = .returned (.bool true) ∧
      w' = ((asW w t).alloc (.cells #[.pointer (some ⟨pb, po, none⟩)] 40)).setCell t (.pointer (some ⟨pb, po, none⟩))
abbrev rtW (w : World) : World := w.alloc (.cells #[.pointer none] 40)
set_option maxHeartbeats 4000000 in
set_option maxRecDepth 1000000 in
theorem F.As_run (w : World) (t : Addr) (old : Value) (hg : w.cell? ⟨0, 0, none⟩ = some (.iface 73 (.agg #[.pointer (some ⟨1, 26, none⟩)]))) (ht : w.cell? t = some old) (hf : w.frozen? t = false) (B : Nat) (hB : B ≤ w.heap.size) (e : Err) (ty : TypeId) (x : Value) (hch : ChainF B w (.iface ty x) e) :
    Calls Tryd.prog 20 #[.iface ty x, .iface 53 (.pointer (some t))] w fun ev w' =>
      asPostW w t B (rootE e) ev w' := by
  have h6 := @run_callFunc_extern Tryd.prog 24 _ (fun args => ReflectliteValue.unpack (args.getD 0 (.tuple #[]))) Tryd.func24 (by kernel_rfl) (by kernel_rfl) (by kernel_rfl) (by kernel_rfl)
  have h7 := @run_callFunc_extern Tryd.prog 25 _ (ReflectliteValue.methodAny (ReflectliteValue.valueError "reflectlite.Value.Type" 0) (fun t _ _ _ => ReflectliteType.toType t)) Tryd.func25 (by kernel_rfl) (by kernel_rfl) (by kernel_rfl) (by kernel_rfl)
  have h8 := @run_callFunc_extern Tryd.prog 26 _ (ReflectliteValue.method (ReflectliteValue.valueError "reflectlite.Value.IsNil" 0) ReflectliteValue.isNil) Tryd.func26 (by kernel_rfl) (by kernel_rfl) (by kernel_rfl) (by kernel_rfl)
  have h27 := @run_callFunc_extern Tryd.prog 44 _ (ReflectliteType.abiMethod fun t => do pure (.int .u8 (← Rtype.kind t))) Tryd.func44 (by kernel_rfl) (by kernel_rfl) (by kernel_rfl) (by kernel_rfl)
  have h37 := @run_callFunc_extern Tryd.prog 59 _ (ReflectliteType.method ReflectliteType.elem) Tryd.func59 (by kernel_rfl) (by kernel_rfl) (by kernel_rfl) (by kernel_rfl)
  have h38 := @run_callFunc_extern Tryd.prog 60 _ (ReflectliteType.relation "Implements" ReflectliteType.implements_) Tryd.func60 (by kernel_rfl) (by kernel_rfl) (by kernel_rfl) (by kernel_rfl)
  have f6 := F.valueOfPF
  have f7 := F.typePF
  have mK := F.methodKind
  have mE := F.methodElem
  have mI := F.methodImplements
  have k27 := F.kindPF
  have k25 := F.kindF
  have e27 := F.elemPF
  have i25 := F.implementsF
  have n8 := F.isNilPF ⟨w.heap.size, 0, none⟩ t (asW0 w t) (by simp)
  have hlt : 0 < w.heap.size := World.block_lt_of_cell? w ⟨0, 0, none⟩ hg
  have htl : t.block < w.heap.size := World.block_lt_of_cell? w t ht
  have old0 : ∀ a : Addr, a.block < w.heap.size → (asW0 w t).cell? a = w.cell? a := fun a ha => by
    rw [World.cell?_alloc_lt _ _ a (by simp; omega), World.cell?_alloc_lt _ _ a ha]
  have hg2 : (asW0 w t).cell? ⟨0, 0, none⟩ = some (.iface 73 (.agg #[.pointer (some ⟨1, 26, none⟩)])) := by rw [old0 _ hlt]; exact hg
  have hni : e.isNil = false := by
    rcases hch.1.isNil with ⟨_, h⟩ | ⟨h, _⟩
    · cases h
    · exact h
  have hchain := F.as_chain (asW0 w t) t ⟨w.heap.size, 0, none⟩ old (by rw [old0 t htl]; exact ht)
    (by rw [World.frozen?_alloc_old _ _ t (by simp; omega), World.frozen?_alloc_old _ _ t (Nat.ne_of_lt htl)]; exact hf) (by simp) B (by simp; omega) e (.iface ty x)
    ⟨hch.1.ext fun a ha => ⟨ha, old0 a (Nat.lt_of_lt_of_le ha hB)⟩, hch.2⟩ hni
  clear hch
  cases hr : rootE e with
  | none =>
    simp only [hr, asPost] at hchain
    go_enter Tryd.func20, Tryd.ntmps20
    go_wp2_with (go_at_call 27; refine hchain.mono ?_; rintro ev w' ⟨rfl, rfl⟩)
    go_ret
    exact ⟨rfl, rfl⟩
  | some ca =>
    obtain ⟨c, a⟩ := ca
    simp only [hr, asPost] at hchain
    go_enter Tryd.func20, Tryd.ntmps20
    go_wp2_with (go_at_call 27; refine hchain.mono ?_; rintro ev w' ⟨pb, po, ⟨h1, h2, h3⟩, rfl, rfl⟩)
    go_ret
    rw [old0 _ (Nat.lt_of_lt_of_le h3 hB)] at h1
    rw [old0 _ (Nat.lt_of_lt_of_le h3 hB)] at h2
    exact ⟨pb, po, ⟨h1, h2, h3⟩, rfl, rfl⟩

/-- The fault in an error. -/
theorem F.root_none (w : World) (hg : w.cell? ⟨0, 0, none⟩ = some (.iface 73 (.agg #[.pointer (some ⟨1, 26, none⟩)]))) (e : Err) (u : Value) (hch : ChainF w.heap.size w u e) (hr : rootE e = none) :
    Calls Tryd.prog 16 #[u] w fun ev w' => ev = .returned (.pointer none) ∧ Below w.heap.size w w' := by
  have hlt : 0 < w.heap.size := World.block_lt_of_cell? w ⟨0, 0, none⟩ hg
  have old1 : ∀ a : Addr, a.block < w.heap.size → (rtW w).cell? a = w.cell? a := fun a ha => World.cell?_alloc_lt _ _ a ha
  have hb1 : Below w.heap.size w (rtW w) := (Below.refl _ _).alloc (Nat.le_refl _) _
  rcases hch.1.isNil with ⟨rfl, rfl⟩ | ⟨hni, ty, x, rfl⟩
  · have h0 := F.As_nil (.iface 53 (.pointer (some ⟨w.heap.size, 0, none⟩))) (rtW w)
    clear hch
    go_enter Tryd.func16, Tryd.ntmps16
    go_wp2_with (go_at_call 20; refine h0.mono ?_; rintro ev w' ⟨rfl, rfl⟩)
    go_ret
    exact ⟨rfl, hb1⟩
  · have h0 := F.As_run (rtW w) ⟨w.heap.size, 0, none⟩ (.pointer none) (by rw [old1 _ hlt]; exact hg) (by simp) (by simp) w.heap.size (by simp) e ty x
      ⟨hch.1.ext fun a ha => ⟨ha, old1 a ha⟩, hch.2⟩
    simp only [hr, asPostW] at h0
    clear hch
    go_enter Tryd.func16, Tryd.ntmps16
    go_wp2_with (go_at_call 20; refine h0.mono ?_; rintro ev w' ⟨rfl, rfl⟩)
    go_ret
    exact ⟨rfl, ((hb1.alloc (by simp) _).alloc (by simp; omega) _).alloc (by simp; omega) _⟩
set_option maxHeartbeats 1000000 in
theorem F.root_some (w : World) (hg : w.cell? ⟨0, 0, none⟩ = some (.iface 73 (.agg #[.pointer (some ⟨1, 26, none⟩)]))) (e : Err) (u : Value) (hch : ChainF w.heap.size w u e) (c a : Int) (hr : rootE e = some (c, a)) :
    Calls Tryd.prog 16 #[u] w fun ev w' => ∃ pb po, ev = .returned (.pointer (some ⟨pb, po, none⟩)) ∧ w'.cell? ⟨pb, po, none⟩ = some (.int .i64 c) ∧ w'.cell? ⟨pb, po + 1, none⟩ = some (.int .i64 a) ∧ Below w.heap.size w w' := by
  have hlt : 0 < w.heap.size := World.block_lt_of_cell? w ⟨0, 0, none⟩ hg
  have old1 : ∀ a : Addr, a.block < w.heap.size → (rtW w).cell? a = w.cell? a := fun a ha => World.cell?_alloc_lt _ _ a ha
  have hb1 : Below w.heap.size w (rtW w) := (Below.refl _ _).alloc (Nat.le_refl _) _
  rcases hch.1.isNil with ⟨rfl, rfl⟩ | ⟨hni, ty, x, rfl⟩
  · cases hr
  · have h0 := F.As_run (rtW w) ⟨w.heap.size, 0, none⟩ (.pointer none) (by rw [old1 _ hlt]; exact hg) (by simp) (by simp) w.heap.size (by simp) e ty x
      ⟨hch.1.ext fun a ha => ⟨ha, old1 a ha⟩, hch.2⟩
    simp only [hr, asPostW] at h0
    have h1 : Calls Tryd.prog 20 #[.iface ty x, .iface 53 (.pointer (some ⟨w.heap.size, 0, none⟩))] (rtW w) fun ev w' => ∃ pb po, ev = .returned (.bool true) ∧ w'.cell? ⟨w.heap.size, 0, none⟩ = some (.pointer (some ⟨pb, po, none⟩)) ∧
        w'.cell? ⟨pb, po, none⟩ = some (.int .i64 c) ∧ w'.cell? ⟨pb, po + 1, none⟩ = some (.int .i64 a) ∧ Below w.heap.size w w' := by
      refine h0.mono ?_
      rintro ev w' ⟨pb, po, ⟨h1, h2, h3⟩, rfl, hw⟩
      have hb3 : Below w.heap.size w w' := by
        rw [hw]
        exact ((((hb1.alloc (by simp) _).alloc (by simp; omega) _).alloc (by simp; omega) _).alloc (by simp; omega) _).setCell (Nat.le_refl _) _
      rw [old1 _ h3] at h1
      rw [old1 _ h3] at h2
      refine ⟨pb, po, rfl, ?_, ?_, ?_, hb3⟩
      · rw [hw]
        have hin : ∃ v, ((asW (rtW w) ⟨w.heap.size, 0, none⟩).alloc (.cells #[.pointer (some ⟨pb, po, none⟩)] 40)).cell? ⟨w.heap.size, 0, none⟩ = some v := by
          refine ⟨.pointer none, ?_⟩
          rw [World.cell?_alloc_lt _ _ _ (by simp; omega), World.cell?_alloc_lt _ _ _ (by simp; omega), World.cell?_alloc_lt _ _ _ (by simp; omega), World.cell?_alloc_lt _ _ _ (by simp)]
          simp
        obtain ⟨v, hv⟩ := hin
        exact World.cell?_setCell_same _ _ _ hv
      · rw [hb3.cell h3]; exact h1
      · rw [hb3.cell h3]; exact h2
    clear hch h0
    go_enter Tryd.func16, Tryd.ntmps16
    go_wp2_with (go_at_call 20; refine h1.mono ?_; rintro ev w' ⟨pb, po, rfl, g1, g2, g3, g4⟩)
    go_ret
    exact ⟨pb, po, rfl, g2, g3, g4⟩
theorem F.of_run (w : World) (hg : w.cell? ⟨0, 0, none⟩ = some (.iface 73 (.agg #[.pointer (some ⟨1, 26, none⟩)]))) (e : Err) (u : Value) (hch : ChainF w.heap.size w u e) :
    Calls Tryd.prog 8 #[u] w fun ev w' => ev = .returned (.int .i64 (ofE e)) ∧ Below w.heap.size w w' := by
  unfold ofE
  cases hr : rootE e with
  | none =>
    have h0 := F.root_none w hg e u hch hr
    clear hch
    go_enter Tryd.func8, Tryd.ntmps8
    go_wp2_with (go_at_call 16; refine h0.mono ?_; rintro ev w' ⟨rfl, hb⟩)
    go_ret
    exact ⟨rfl, hb⟩
  | some ca =>
    obtain ⟨c, a⟩ := ca
    have h0 := F.root_some w hg e u hch c a hr
    clear hch
    go_enter Tryd.func8, Tryd.ntmps8
    go_wp2_with (go_at_call 16; refine h0.mono ?_; rintro ev w' ⟨pb, po, rfl, g1, g2, hb⟩)
    go_ret
    exact ⟨rfl, hb⟩
namespace N8
noncomputable def ent : Entry := erEnt fun e => .int .i64 (ofE e)
theorem ok : EntOk Tryd.prog 40 49 8 ent := er_ok Tryd.func8 (by kernel_rfl) (by kernel_rfl) fun e u w hg hr hp => F.of_run w (hg _ _ F.hdl) e u ⟨hr, hp⟩
end N8
theorem F.at_run (w : World) (hg : w.cell? ⟨0, 0, none⟩ = some (.iface 73 (.agg #[.pointer (some ⟨1, 26, none⟩)]))) (e : Err) (u : Value) (hch : ChainF w.heap.size w u e) :
    Calls Tryd.prog 9 #[u] w fun ev w' => ev = .returned (.int .i64 (atE e)) ∧ Below w.heap.size w w' := by
  unfold atE
  cases hr : rootE e with
  | none =>
    have h0 := F.root_none w hg e u hch hr
    clear hch
    go_enter Tryd.func9, Tryd.ntmps9
    go_wp2_with (go_at_call 16; refine h0.mono ?_; rintro ev w' ⟨rfl, hb⟩)
    go_ret
    exact ⟨rfl, hb⟩
  | some ca =>
    obtain ⟨c, a⟩ := ca
    have h0 := F.root_some w hg e u hch c a hr
    clear hch
    go_enter Tryd.func9, Tryd.ntmps9
    go_wp2_with (go_at_call 16; refine h0.mono ?_; rintro ev w' ⟨pb, po, rfl, g1, g2, hb⟩)
    go_ret
    exact ⟨rfl, hb⟩
namespace N9
noncomputable def ent : Entry := erEnt fun e => .int .i64 (atE e)
theorem ok : EntOk Tryd.prog 40 49 9 ent := er_ok Tryd.func9 (by kernel_rfl) (by kernel_rfl) fun e u w hg hr hp => F.at_run w (hg _ _ F.hdl) e u ⟨hr, hp⟩
end N9

/-! ### errors.Is, of which a code is asked -/
theorem F.isTypeOf (v : Value) (w : World) : (ReflectliteType.typeOf #[.iface 48 v]).run Tryd.prog w = .ok (.iface 73 (.agg #[.pointer (some ⟨1, 48, none⟩)])) w := by kernel_rfl
theorem F.isComparable (w : World) : ((ReflectliteType.method fun t => do Rtype.noPackHeld "Comparable" t; (fun a => Value.bool a.comparable) <$> typeInfo t) #[.agg #[.pointer (some ⟨1, 48, none⟩)]]).run Tryd.prog w = .ok (.bool true) w := by kernel_rfl
theorem F.isMethodComparable (v : Value) (w : World) : (Go.method 219 73 v "Comparable").run Tryd.prog w = .ok (58, v) w := by kernel_rfl
theorem F.hasIsF (v : Value) (xT : TypeId) (w : World) : (Instr.typeAssert (.iface 40 v) xT 75 true).run Tryd.prog w = .ok (.tuple #[.iface 40 v, .bool true]) w := run_typeAssert_hasB Tryd.underlying75 (by kernel_rfl) v xT w
theorem F.noIsW (v : Value) (xT : TypeId) (w : World) : (Instr.typeAssert (.iface 49 v) xT 75 true).run Tryd.prog w = .ok (.tuple #[.nilIface, .bool false]) w := run_typeAssert_lacksB Tryd.underlying75 (by kernel_rfl) (by kernel_rfl) v xT w
theorem F.noUnwrapF (v : Value) (xT : TypeId) (w : World) : (Instr.typeAssert (.iface 40 v) xT 78 true).run Tryd.prog w = .ok (.tuple #[.nilIface, .bool false]) w := run_typeAssert_lacksB Tryd.underlying78 (by kernel_rfl) (by kernel_rfl) v xT w
theorem F.noUnwrapsF (v : Value) (xT : TypeId) (w : World) : (Instr.typeAssert (.iface 40 v) xT 80 true).run Tryd.prog w = .ok (.tuple #[.nilIface, .bool false]) w := run_typeAssert_lacksB Tryd.underlying80 (by kernel_rfl) (by kernel_rfl) v xT w
theorem F.hasUnwrapWi (v : Value) (xT : TypeId) (w : World) : (Instr.typeAssert (.iface 49 v) xT 78 true).run Tryd.prog w = .ok (.tuple #[.iface 49 v, .bool true]) w := run_typeAssert_hasB Tryd.underlying78 (by kernel_rfl) v xT w
theorem F.methodUnwrapi (v : Value) (w : World) : (Go.method 219 49 v "Unwrap").run Tryd.prog w = .ok (52, v) w := by kernel_rfl
theorem F.methodIs (v : Value) (w : World) : (Go.method 219 40 v "Is").run Tryd.prog w = .ok (48, v) w := by kernel_rfl
theorem F.assertK (v : Value) (xT : TypeId) (w : World) : (Instr.typeAssert (.iface 48 v) xT 48 true).run Tryd.prog w = .ok (.tuple #[v, .bool true]) w := by kernel_rfl

abbrev ChainI (B : Nat) (W : World) (u : Value) (e : Err) : Prop := RepE W (fun a => a.block < B) 40 49 e u ∧ plainE e = true
open Classical in
noncomputable def chainLenI (B : Nat) (W : World) (u : Value) : Nat := if h : ∃ e, ChainI B W u e then depthE h.choose else 0
theorem chainLenI_eq {B : Nat} {W : World} {u : Value} {e : Err} (h : ChainI B W u e) : chainLenI B W u = depthE e := by
  unfold chainLenI
  rw [dif_pos ⟨e, h⟩]
  have hc := Exists.choose_spec (p := fun e => ChainI B W u e) ⟨e, h⟩
  rw [RepE.unique (by decide) hc.1 hc.2 h.1 h.2]

set_option maxHeartbeats 4000000 in
set_option maxRecDepth 1000000 in
theorem F.is_chain (W : World) (i : Int) (B : Nat) (e : Err) (u : Value) (hch : ChainI B W u e) (hnil : e.isNil = false) :
    Calls Tryd.prog 23 #[u, .iface 48 (.int .i64 i), .bool true] W fun ev w' => ev = .returned (.bool (hasE e i)) ∧ w' = W := by
  have nW := F.noIsW
  have hF := F.hasIsF
  have uF := F.noUnwrapF
  have vF := F.noUnwrapsF
  have uW := F.hasUnwrapWi
  have mU := F.methodUnwrapi
  have mI := F.methodIs
  have aK := F.assertK
  go_enter Tryd.func23, Tryd.ntmps23
  go_wp2
  go_loopw [0] (fun E' wl => wl = W ∧ ∃ e', ChainI B W E' e' ∧ e'.isNil = false ∧ rootE e' = rootE e) (fun E' _ => chainLenI B W E')
  case atStart => exact ⟨rfl, e, hch, hnil, rfl⟩
  case round =>
    obtain ⟨rfl, e', ⟨hc', hp'⟩, hn', hre⟩ := hrel
    cases e' with
    | nil => cases hn'
    | wrg q i => cases hp'
    | flt c a =>
      obtain ⟨p, rfl, hat⟩ := hc'
      obtain ⟨pb, po, rfl, hpb, h0, h1⟩ := hat.flat2
      have hty := run_eql_iface_types (P := Tryd.prog) 40 48 (.pointer (some ⟨pb, po, none⟩)) (.int .i64 i) Tryd.underlying26 (by decide) wr
      clear hat hch
      have hres : hasE e i = (c == i) := by unfold hasE; rw [← hre]; rfl
      by_cases hci : c = i
      · subst hci
        go_wp2
        go_ret
        exact ⟨by rw [hres]; simp, rfl⟩
      · have hci' : ¬ i = c := fun h => hci h.symm
        go_wp2
        go_ret
        exact ⟨by rw [hres]; simp [hci], rfl⟩
    | win s i' =>
      obtain ⟨p, v, rfl, hat, hin⟩ := hc'
      obtain ⟨pb, po, rfl, hpb, h0, h1⟩ := hat.flat2
      have hty := run_eql_iface_types (P := Tryd.prog) 49 48 (.pointer (some ⟨pb, po, none⟩)) (.int .i64 i) Tryd.underlying26 (by decide) wr
      clear hch
      rcases hin.isNil with ⟨rfl, rfl⟩ | ⟨hni, u1, v1, rfl⟩
      · go_wp2
        go_ret
        refine ⟨?_, rfl⟩
        unfold hasE; rw [← hre]; rfl
      · have hlen := chainLenI_eq (B := B) (W := wr) ⟨hin, hp'⟩
        have hlen0 := chainLenI_eq (B := B) (W := wr) (e := .win s i') ⟨⟨_, _, rfl, hat, hin⟩, hp'⟩
        have HC : Hid (ChainI B wr (.iface u1 v1) i') := ⟨hin, hp'⟩
        clear hin hat
        go_wp2
        go_roundw
        case rel => exact ⟨trivial, i', HC.out, hni, hre⟩
        case measure =>
          show chainLenI B wr (.iface u1 v1) < _
          rw [hlen, hlen0]; exact Nat.lt_succ_self _

set_option maxRecDepth 1000000 in
theorem F.Is_run (w : World) (i : Int) (B : Nat) (e : Err) (u : Value) (hch : ChainI B w u e) :
    Calls Tryd.prog 19 #[u, .iface 48 (.int .i64 i)] w fun ev w' => ev = .returned (.bool (hasE e i)) ∧ w' = w := by
  have h10 := @run_callFunc_extern Tryd.prog 22 _ ReflectliteType.typeOf Tryd.func22 (by kernel_rfl) (by kernel_rfl) (by kernel_rfl) (by kernel_rfl)
  have h30 := @run_callFunc_extern Tryd.prog 58 _ (ReflectliteType.method fun t => do Rtype.noPackHeld "Comparable" t; pure (.bool (← typeInfo t).comparable)) Tryd.func58 (by kernel_rfl) (by kernel_rfl) (by kernel_rfl) (by kernel_rfl)
  have tK := F.isTypeOf
  have cK := F.isComparable
  have mC := F.isMethodComparable
  rcases hch.1.isNil with ⟨rfl, rfl⟩ | ⟨hni, ty, x, rfl⟩
  · have hnl := run_eql_iface_nil_left (P := Tryd.prog) (w := w) 48 (.int .i64 i) Tryd.underlying26
    go_enter Tryd.func19, Tryd.ntmps19
    go_wp2
    go_ret
    exact ⟨rfl, rfl⟩
  · have h0 := F.is_chain w i B e (.iface ty x) hch hni
    clear hch
    go_enter Tryd.func19, Tryd.ntmps19
    go_wp2_with (go_at_call 23; refine h0.mono ?_; rintro ev w' ⟨rfl, rfl⟩)
    go_ret
    exact ⟨rfl, rfl⟩
theorem F.has_run (w : World) (i : Int) (e : Err) (u : Value) (hch : ChainI w.heap.size w u e) :
    Calls Tryd.prog 13 #[u, .int .i64 i] w fun ev w' => ev = .returned (.bool (hasE e i)) ∧ Below w.heap.size w w' := by
  have h0 := F.Is_run w i w.heap.size e u hch
  clear hch
  go_enter Tryd.func13, Tryd.ntmps13
  go_wp2_with (go_at_call 19; refine h0.mono ?_; rintro ev w' ⟨rfl, rfl⟩)
  go_ret
  exact ⟨rfl, Below.refl _ _⟩
namespace N13
noncomputable def ent : Entry := erEnt2 fun e i => .bool (hasE e i)
theorem ok : EntOk Tryd.prog 40 49 13 ent := er_ok2 Tryd.func13 (by kernel_rfl) (by kernel_rfl) fun e i u w hr hp => F.has_run w i e u ⟨hr, hp⟩
end N13
end Go.Proofs.Yd
namespace Go.Proofs.Yd
open Go Go.Aw Go.Proofs Go.RowKit Go.Extern.Stop Go.Stop Go.Extern
set_option linter.unusedVariables false
set_option linter.unusedSimpArgs false

/-! ### The parts of an error -/
theorem F.assertNil (xT : TypeId) (w : World) : (Instr.typeAssert .nilIface xT 49 true).run Tryd.prog w = .ok (.tuple #[.pointer none, .bool false]) w := by kernel_rfl
theorem F.assertWF (v : Value) (xT : TypeId) (w : World) : (Instr.typeAssert (.iface 40 v) xT 49 true).run Tryd.prog w = .ok (.tuple #[.pointer none, .bool false]) w := by kernel_rfl
theorem F.assertWW (v : Value) (xT : TypeId) (w : World) : (Instr.typeAssert (.iface 49 v) xT 49 true).run Tryd.prog w = .ok (.tuple #[v, .bool true]) w := by kernel_rfl
theorem F.infoStr : (Tryd.prog.info? 9).map (fun i => (i.zero, i.size, i.bytes)) = some (some (.string ⟨#[]⟩), 1, 16) := by kernel_rfl

set_option maxRecDepth 1000000 in
set_option maxHeartbeats 4000000 in
theorem F.parts_run (B : Nat) : ∀ (e : Err) (u v : Value) (xs : List ByteArray) (w : World), RepE w (fun a => a.block < B) 40 49 e u → plainE e = true → B ≤ w.heap.size → w.ownsRow B 9 1 v xs.length (xs.map .string) → xs.length + (pathE e).length ≤ 1000001 →
    Calls Tryd.prog 17 #[u, v] w fun ev w' => ∃ v', ev = .returned v' ∧ w'.ownsRow B 9 1 v' (xs.length + (pathE e).length) ((xs ++ pathE e).map .string) ∧ Below B w w' := by
  obtain ⟨i0, hi0, hz0, hz1, hz2⟩ := info_parts F.infoStr
  have aN := F.assertNil
  have aF := F.assertWF
  have aW := F.assertWW
  intro e
  induction e with
  | nil =>
    intro u v xs w hr hp hB ho hl
    cases hr
    go_enter Tryd.func17, Tryd.ntmps17
    go_wp2
    go_ret
    exact ⟨v, rfl, by simpa [pathE] using ho, Below.refl _ _⟩
  | flt c a =>
    intro u v xs w hr hp hB ho hl
    obtain ⟨p, rfl, hat⟩ := hr
    clear hat
    go_enter Tryd.func17, Tryd.ntmps17
    go_wp2
    go_ret
    exact ⟨v, rfl, by simpa [pathE] using ho, Below.refl _ _⟩
  | wrg t i => intro u v xs w hr hp; cases hp
  | win s i ih =>
    intro u v xs w hr hp hB ho hl
    obtain ⟨p, vi, rfl, hat, hin⟩ := hr
    obtain ⟨pb, po, rfl, hpb, h0, h1⟩ := hat.flat2
    have hown : ∀ k, v.ownBlock = some k → B ≤ k := by
      intro k hk
      rcases ho.2 with ⟨rfl, _⟩ | ⟨g, cap, cur, rfl, hg, _⟩
      · cases hk
      · cases hk; exact hg
    have hpl : (pathE (.win s i)).length = (pathE i).length + 1 := rfl
    have key : ∀ (g cap : Nat) (w0 w1 : World), Below B w w0 → B ≤ w0.heap.size → w1.ownsRow B 9 1 (.slice (some ⟨g, 0, none⟩) (xs.length + 1) cap) (xs.length + 1) (xs.map .string ++ [.string s]) → w0.grownBy w1 v.ownBlock →
        Calls Tryd.prog 17 #[vi, .slice (some ⟨g, 0, none⟩) (xs.length + 1) cap] w1 fun ev w' => ∃ v', ev = .returned v' ∧ w'.ownsRow B 9 1 v' (xs.length + (pathE (.win s i)).length) ((xs ++ pathE (.win s i)).map .string) ∧ Below B w w' := by
      intro g cap w0 w1 hb0 hs0 ho1 hg1
      have hb1 : Below B w w1 := hb0.grown hg1 hs0 hown
      have := ih vi (.slice (some ⟨g, 0, none⟩) (xs.length + 1) cap) (xs ++ [s]) w1 (hin.ext fun a ha => ⟨ha, hb1.cell ha⟩) hp (Nat.le_trans hB hb1.size) (by simpa using ho1) (by simp; omega)
      refine this.mono ?_
      rintro ev w' ⟨v', rfl, g1, g2⟩
      refine ⟨v', rfl, ?_, hb1.trans g2⟩
      have e1 : (xs ++ [s]).length + (pathE i).length = xs.length + (pathE (.win s i)).length := by rw [hpl]; simp; omega
      have e2 : xs ++ [s] ++ pathE i = xs ++ pathE (.win s i) := by simp [pathE]
      rw [e1, e2] at g1
      exact g1
    have hne : some pb ≠ v.ownBlock := fun h => by have := hown pb h.symm; omega
    have hlt : pb < w.heap.size := Nat.lt_of_lt_of_le hpb hB
    have hbd : Below B w w := Below.refl _ _
    clear hat hin ih
    go_enter Tryd.func17, Tryd.ntmps17
    go_wp2_with fail
    go_region_held3 (fun w' => w'.cell? ⟨pb, po, none⟩ = some (.string s) ∧ w'.cell? ⟨pb, po + 1, none⟩ = some vi)
      (first
        | go_keep
        | exact ⟨(g2.cell hpb).trans h0, (g2.cell hpb).trans h1⟩
        | (go_split_ands
           refine ⟨?_, ?_⟩
           · (rw [hgrow.cell_far _ (by simp; omega) hne]; assumption)
           · (rw [hgrow.cell_far _ (by simp; omega) hne]; assumption)))
      (first
        | (refine step_append_lies _ (by rfl) _ _ _ (by rfl) B 9 i0 _ 1 16 Tryd.underlying23 hi0 hz0 hz1 hz2 rfl (by omega) v xs.length (xs.map .string) (by rfl) ((ho.alloc _).drew)
            ⟨w.heap.size, 0, none⟩ 1 1 [.string s] (by rfl) (by rfl) (World.news_of_block (cs := #[.string s]) (t := 9) (fr := (0, 0)) (heap_alloc_new w _)) (by simp [Value.oneCell'])
            (by omega) (by simp [maxLen]; omega) (by omega) (by simp; omega) (w.heap.size + 1) (by simp) ?_; intro gg cap w1 hown1 hgrow hat hlt1)
        | (go_at_call 17; refine (key _ _ _ _ ((hbd.alloc hB _).drew) (by simp; omega) hown1 hgrow).mono ?_; rintro ev w2 ⟨v', rfl, g1, g2⟩))
    go_wp2
    go_ret
    exact ⟨v', rfl, g1, g2⟩

theorem F.path_run (e : Err) (u : Value) (w : World) (hr : RepE w (fun a => a.block < w.heap.size) 40 49 e u) (hp : plainE e = true) (hl : (pathE e).length ≤ 1000000) :
    Calls Tryd.prog 11 #[u] w fun ev w' => ∃ v, ev = .returned v ∧ Below w.heap.size w w' ∧ RepT w' (fun a => w.heap.size ≤ a.block ∧ a.block < w'.heap.size) (.list .str) (pathE e) [v] := by
  have h0 := F.parts_run w.heap.size e u (.slice none 0 0) [] w hr hp (Nat.le_refl _) ⟨rfl, .inl ⟨rfl, rfl⟩⟩ (by simp; omega)
  clear hr
  go_enter Tryd.func11, Tryd.ntmps11
  go_wp2_with (go_at_call 17; refine h0.mono ?_; rintro ev w' ⟨v', rfl, g1, g2⟩)
  go_ret
  refine ⟨v', rfl, g2, ?_⟩
  simp only [List.length_nil, Nat.zero_add, List.nil_append] at g1
  rcases g1.2 with ⟨rfl, hn⟩ | ⟨g, cap, cur, rfl, hg, hc, h1, h2, h3, h4⟩
  · have : pathE e = [] := List.length_eq_zero_iff.1 hn
    rw [this]
    exact ⟨none, 0, rfl, Nat.le_refl _, fun h => absurd rfl h⟩
  · refine ⟨some ⟨g, 0, none⟩, cap, rfl, h1, fun _ => ⟨_, rfl, fun i x hx => ?_⟩⟩
    have hlt : g < w'.heap.size := by
      by_cases hlt : g < w'.heap.size
      · exact hlt
      · rw [Array.getElem?_eq_none (by omega)] at hc
        cases hc
    refine ⟨[.string x], rfl, ?_⟩
    intro j y hj
    match j, hj with
    | 0, hj =>
      cases hj
      rw [add_zero, add_flat, show i * Ty.str.size = i from Nat.mul_one i, Nat.zero_add]
      refine ⟨⟨hg, hlt⟩, ?_⟩
      have hx' : (List.map Value.string (pathE e))[i]? = some (.string x) := by
        rw [List.getElem?_map, show (pathE e)[i]? = some x from hx]
        rfl
      have := g1.cells (g := g) rfl i _ hx'
      rw [add_flat, Nat.zero_add] at this
      exact this
namespace N11
noncomputable def ent : Entry := erEntL pathE
theorem ok : EntOk Tryd.prog 40 49 11 ent := er_okL Tryd.func11 (by kernel_rfl) (by kernel_rfl) fun e u w hr hp hl => F.path_run e u w hr hp hl
end N11
end Go.Proofs.Yd
namespace Go.Proofs.Yd
open Go.Aw Go.Proofs
set_option linter.unusedVariables false
set_option linter.unusedSimpArgs false
set_option maxRecDepth 100000
def tyL : List (Nat × Ty) := [(5, (Ty.int IntKind.u8)), (9, Ty.str)]
def tys : Nat → Option Ty := tab tyL
theorem mixed_ok : Tryd.prog.follows .mixedOrders = true := by kernel_rfl
theorem tyL_ok : tyL.all (tyRight Tryd.prog) = true := by kernel_rfl
end Go.Proofs.Yd
namespace Go.Proofs.Yd
open Go Go.Aw Go.Proofs
set_option linter.unusedVariables false
set_option linter.unusedSimpArgs false
set_option maxRecDepth 100000
/-! dyehouse/deci.Put -/
namespace N49
noncomputable def cfg : Cfg := { P := Tryd.prog, tf := 40, tw := 49, ty := tys, E := tab [], atSeq := tab [(8, ⟨[(0, .keep), (3, .keep), (4, .keep), (5, .keep), (6, .keep)]⟩), (11, ⟨[(0, .keep), (3, .keep), (4, .keep)]⟩), (4, ⟨[(0, .keep), (3, .keep), (4, .keep), (5, .keep)]⟩), (14, ⟨[(3, .keep), (4, .keep)]⟩)], atLoop := tab [(5, ⟨[(0, .keep), (3, .keep), (4, .keep), (5, .keep)]⟩)], outs := [], eqT := tab [], bT := tab [] }
noncomputable def body : Code := bodyOf Tryd.f49
def l5 (j8 : Int → Int → Int → Int → (List Int) → Prop) (x0 : Int) (x4 : Int) (x5 : Int) (b0 : (List Int)) (k : ByteArray → Prop) : Prop :=
  (((10 : Int) ≠ 0) ∧ (br (decide ((Int.tmod x5 (10 : Int)) < (0 : Int))) (j8 x0 x4 x5 (IntKind.i64.wrap (0 - (Int.tmod x5 (10 : Int)))) b0) (j8 x0 x4 x5 (Int.tmod x5 (10 : Int)) b0)))
def j8 (j11 : Int → Int → (List Int) → Prop) (j4 : Int → Int → Int → (List Int) → Prop) (x0 : Int) (x4 : Int) (x5 : Int) (x6 : Int) (b0 : (List Int)) (k : ByteArray → Prop) : Prop :=
  ((inB 0 (IntKind.i64.wrap (x4 - (1 : Int))) (((20 : Nat) : Int) - 1)) ∧ (((10 : Int) ≠ 0) ∧ (br ((IntKind.i64.wrap (Int.tdiv x5 (10 : Int))) == (0 : Int)) (j11 x0 (IntKind.i64.wrap (x4 - (1 : Int))) (b0.set (Int.toNat (IntKind.i64.wrap (x4 - (1 : Int)))) (IntKind.u8.wrap (IntKind.i64.wrap ((48 : Int) + x6))))) (j4 x0 (IntKind.i64.wrap (x4 - (1 : Int))) x5 (b0.set (Int.toNat (IntKind.i64.wrap (x4 - (1 : Int)))) (IntKind.u8.wrap (IntKind.i64.wrap ((48 : Int) + x6))))))))
def j11 (j14 : Int → (List Int) → Prop) (x0 : Int) (x4 : Int) (b0 : (List Int)) (k : ByteArray → Prop) : Prop :=
  (br (decide (x0 < (0 : Int))) ((inB 0 (IntKind.i64.wrap (x4 - (1 : Int))) (((20 : Nat) : Int) - 1)) ∧ (j14 (IntKind.i64.wrap (x4 - (1 : Int))) (b0.set (Int.toNat (IntKind.i64.wrap (x4 - (1 : Int)))) (45 : Int)))) (j14 x4 b0))
def j4 (ag5 : Int → Int → (List Int) → Prop) (x0 : Int) (x4 : Int) (x5 : Int) (b0 : (List Int)) (k : ByteArray → Prop) : Prop :=
  (((10 : Int) ≠ 0) ∧ (ag5 x4 (IntKind.i64.wrap (Int.tdiv x5 (10 : Int))) b0))
def j14 (x4 : Int) (b0 : (List Int)) (k : ByteArray → Prop) : Prop :=
  ((inB x4 (20 : Int) (20 : Int)) ∧ (((20 : Int) ≤ ((20 : Nat) : Int)) ∧ (k (bytesOf (List.drop (Int.toNat x4) (List.take (Int.toNat (20 : Int)) b0))))))
def c (l5 : Int → Int → Int → (List Int) → Prop) (x0 : Int) (k : ByteArray → Prop) : Prop :=
  (l5 x0 (20 : Int) x0 (List.replicate 20 (0)))
def j4' (ag5 : Int → Int → (List Int) → Prop) (x0 : Int) (x4 : Int) (x5 : Int) (b0 : (List Int)) (k : ByteArray → Prop) : Prop := j4 ag5 x0 x4 x5 b0 k
def j14' (x4 : Int) (b0 : (List Int)) (k : ByteArray → Prop) : Prop := j14 x4 b0 k
def j11' (x0 : Int) (x4 : Int) (b0 : (List Int)) (k : ByteArray → Prop) : Prop := j11 (fun x4 b0 => j14' x4 b0 k) x0 x4 b0 k
def j8' (ag5 : Int → Int → (List Int) → Prop) (x0 : Int) (x4 : Int) (x5 : Int) (x6 : Int) (b0 : (List Int)) (k : ByteArray → Prop) : Prop := j8 (fun x0 x4 b0 => j11' x0 x4 b0 k) (fun x0 x4 x5 b0 => j4' ag5 x0 x4 x5 b0 k) x0 x4 x5 x6 b0 k
def l5' (x0 : Int) (x4 : Int) (x5 : Int) (b0 : (List Int)) (k : ByteArray → Prop) : Prop := ∃ n, loopS (fun (ag : (Int × Int × (List Int)) → Prop) (s : Int × Int × (List Int)) => l5 (fun x0 x4 x5 x6 b0 => j8' (fun x4 x5 b0 => ag (x4, x5, b0)) x0 x4 x5 x6 b0 k) x0 s.1 s.2.1 s.2.2 k) n (x4, x5, b0)
def f0 (x0 : Int) (k : ByteArray → Prop) : Prop := c (fun x0 x4 x5 b0 => l5' x0 x4 x5 b0 k) x0 k
theorem f_ex : ∃ g : Int → (ByteArray → Prop) → Prop, g = f0 := ⟨_, rfl⟩
noncomputable def f : Int → (ByteArray → Prop) → Prop := Classical.choose f_ex
theorem f_def : f = f0 := Classical.choose_spec f_ex
def mL5 (x0 : Int) (x4 : Int) (x5 : Int) (b0 : (List Int)) : St := { tmps := mkT 35 0 [(0, (.v (.int IntKind.i64 x0))), (3, (.ptr 0 0)), (4, (.v (.int IntKind.i64 x4))), (5, (.v (.int IntKind.i64 x5)))], hp := [(.arr 104 20 (Ty.int IntKind.u8) b0 false)], m := 0 }
def m8 (x0 : Int) (x4 : Int) (x5 : Int) (x6 : Int) (b0 : (List Int)) : St := { tmps := mkT 35 0 [(0, (.v (.int IntKind.i64 x0))), (3, (.ptr 0 0)), (4, (.v (.int IntKind.i64 x4))), (5, (.v (.int IntKind.i64 x5))), (6, (.v (.int IntKind.i64 x6)))], hp := [(.arr 104 20 (Ty.int IntKind.u8) b0 false)], m := 0 }
def m11 (x0 : Int) (x4 : Int) (b0 : (List Int)) : St := { tmps := mkT 35 0 [(0, (.v (.int IntKind.i64 x0))), (3, (.ptr 0 0)), (4, (.v (.int IntKind.i64 x4)))], hp := [(.arr 104 20 (Ty.int IntKind.u8) b0 false)], m := 0 }
def m4 (x0 : Int) (x4 : Int) (x5 : Int) (b0 : (List Int)) : St := { tmps := mkT 35 0 [(0, (.v (.int IntKind.i64 x0))), (3, (.ptr 0 0)), (4, (.v (.int IntKind.i64 x4))), (5, (.v (.int IntKind.i64 x5)))], hp := [(.arr 104 20 (Ty.int IntKind.u8) b0 false)], m := 0 }
def m14 (x4 : Int) (b0 : (List Int)) : St := { tmps := mkT 35 0 [(3, (.ptr 0 0)), (4, (.v (.int IntKind.i64 x4)))], hp := [(.arr 104 20 (Ty.int IntKind.u8) b0 false)], m := 0 }
noncomputable def YL5 (k kp : D → List Blk → Prop) : (St → Prop) → St → Prop := loopB cfg (sub [1, 1, 1, 0, 1, 0, 0] body) (contK cfg (pick none' []) [1, 1, 1, 0, 1, 0] body (topK cfg Tryd.f49 k kp))
noncomputable def XL5 (k kp : D → List Blk → Prop) : St → Prop := fun st => ∃ n, loopN (YL5 k kp) n st
noncomputable def X8 (k kp : D → List Blk → Prop) (ag5 : St → Prop) : St → Prop := atP cfg (pick none' [(5, ag5)]) [1, 1, 1, 0, 1, 0, 0, 0, 0, 1, 1] body (topK cfg Tryd.f49 k kp)
noncomputable def X11 (k kp : D → List Blk → Prop) : St → Prop := atP cfg (pick none' []) [1, 1, 1, 1] body (topK cfg Tryd.f49 k kp)
noncomputable def X4 (k kp : D → List Blk → Prop) (ag5 : St → Prop) : St → Prop := atP cfg (pick none' [(5, ag5)]) [1, 1, 1, 0, 1, 0, 0, 1] body (topK cfg Tryd.f49 k kp)
noncomputable def X14 (k kp : D → List Blk → Prop) : St → Prop := atP cfg (pick none' []) [1, 1, 1, 1, 1] body (topK cfg Tryd.f49 k kp)
noncomputable def JJ_5 (k kp : D → List Blk → Prop) (ag5 : St → Prop) : Nat → St → Prop := pick none' [(8, X8 k kp ag5), (11, X11 k kp), (4, X4 k kp ag5), (14, X14 k kp)]
noncomputable def LL_5 (k kp : D → List Blk → Prop) (ag5 : St → Prop) : Nat → St → Prop := pick none' [(5, XL5 k kp)]
noncomputable def JJ (k kp : D → List Blk → Prop) : Nat → St → Prop := pick none' [(11, X11 k kp), (14, X14 k kp)]
noncomputable def LL (k kp : D → List Blk → Prop) : Nat → St → Prop := pick none' [(5, XL5 k kp)]
theorem j4_c (k kp : D → List Blk → Prop) (J L : Nat → St → Prop) (ag5 : St → Prop) (x0 : Int) (x4 : Int) (x5 : Int) (b0 : (List Int)) : runC cfg 4 J L (pick none' [(5, ag5)]) [1, 1, 1, 0, 1, 0, 0, 1] body (topK cfg Tryd.f49 k kp) (m4 x0 x4 x5 b0) = j4 (fun x4 x5 b0 => ag5 (mL5 x0 x4 x5 b0)) x0 x4 x5 b0 (fun y0 => k (.v (.string y0)) []) := by kernel_rfl
theorem j4_ag (k kp : D → List Blk → Prop) (ag5 : St → Prop) : agPL cfg 4 (JJ_5 k kp ag5) (LL_5 k kp ag5) [1, 1, 1, 0, 1, 0, 0, 1] body = agPR cfg 4 (pick none' [(5, ag5)]) [1, 1, 1, 0, 1, 0, 0, 1] body (topK cfg Tryd.f49 k kp) := by kernel_rfl
theorem j4_raw (k kp : D → List Blk → Prop) (ag5 : St → Prop) (x0 : Int) (x4 : Int) (x5 : Int) (b0 : (List Int)) : X4 k kp ag5 (m4 x0 x4 x5 b0) = j4 (fun x4 x5 b0 => ag5 (mL5 x0 x4 x5 b0)) x0 x4 x5 b0 (fun y0 => k (.v (.string y0)) []) :=
  Eq.mp (by kernel_rfl) ((atP_run (j4_ag k kp ag5) (m4 x0 x4 x5 b0)).trans (j4_c k kp (JJ_5 k kp ag5) (LL_5 k kp ag5) ag5 x0 x4 x5 b0))
theorem j4_eq (k kp : D → List Blk → Prop) (ag5 : St → Prop) (x0 : Int) (x4 : Int) (x5 : Int) (b0 : (List Int)) : X4 k kp ag5 (m4 x0 x4 x5 b0) = j4' (fun x4 x5 b0 => ag5 (mL5 x0 x4 x5 b0)) x0 x4 x5 b0 (fun y0 => k (.v (.string y0)) []) := by
  rw [j4_raw]; rfl
theorem j14_c (k kp : D → List Blk → Prop) (J L : Nat → St → Prop) (x4 : Int) (b0 : (List Int)) : runC cfg 14 J L (pick none' []) [1, 1, 1, 1, 1] body (topK cfg Tryd.f49 k kp) (m14 x4 b0) = j14 x4 b0 (fun y0 => k (.v (.string y0)) []) := by kernel_rfl
theorem j14_ag (k kp : D → List Blk → Prop) : agPL cfg 14 (JJ k kp) (LL k kp) [1, 1, 1, 1, 1] body = agPR cfg 14 (pick none' []) [1, 1, 1, 1, 1] body (topK cfg Tryd.f49 k kp) := by kernel_rfl
theorem j14_raw (k kp : D → List Blk → Prop) (x4 : Int) (b0 : (List Int)) : X14 k kp (m14 x4 b0) = j14 x4 b0 (fun y0 => k (.v (.string y0)) []) :=
  Eq.mp (by kernel_rfl) ((atP_run (j14_ag k kp) (m14 x4 b0)).trans (j14_c k kp (JJ k kp) (LL k kp) x4 b0))
theorem j14_eq (k kp : D → List Blk → Prop) (x4 : Int) (b0 : (List Int)) : X14 k kp (m14 x4 b0) = j14' x4 b0 (fun y0 => k (.v (.string y0)) []) := by
  rw [j14_raw]; rfl
theorem j11_c (k kp : D → List Blk → Prop) (J L : Nat → St → Prop) (x0 : Int) (x4 : Int) (b0 : (List Int)) : runC cfg 11 J L (pick none' []) [1, 1, 1, 1] body (topK cfg Tryd.f49 k kp) (m11 x0 x4 b0) = j11 (fun x4 b0 => J 14 (m14 x4 b0)) x0 x4 b0 (fun y0 => k (.v (.string y0)) []) := by kernel_rfl
theorem j11_ag (k kp : D → List Blk → Prop) : agPL cfg 11 (JJ k kp) (LL k kp) [1, 1, 1, 1] body = agPR cfg 11 (pick none' []) [1, 1, 1, 1] body (topK cfg Tryd.f49 k kp) := by kernel_rfl
theorem j11_raw (k kp : D → List Blk → Prop) (x0 : Int) (x4 : Int) (b0 : (List Int)) : X11 k kp (m11 x0 x4 b0) = j11 (fun x4 b0 => X14 k kp (m14 x4 b0)) x0 x4 b0 (fun y0 => k (.v (.string y0)) []) :=
  Eq.mp (by kernel_rfl) ((atP_run (j11_ag k kp) (m11 x0 x4 b0)).trans (j11_c k kp (JJ k kp) (LL k kp) x0 x4 b0))
theorem j11_eq (k kp : D → List Blk → Prop) (x0 : Int) (x4 : Int) (b0 : (List Int)) : X11 k kp (m11 x0 x4 b0) = j11' x0 x4 b0 (fun y0 => k (.v (.string y0)) []) := by
  rw [j11_raw]; simp only [j14_eq]; first | done | rfl
theorem j8_c (k kp : D → List Blk → Prop) (J L : Nat → St → Prop) (ag5 : St → Prop) (x0 : Int) (x4 : Int) (x5 : Int) (x6 : Int) (b0 : (List Int)) : runC cfg 8 J L (pick none' [(5, ag5)]) [1, 1, 1, 0, 1, 0, 0, 0, 0, 1, 1] body (topK cfg Tryd.f49 k kp) (m8 x0 x4 x5 x6 b0) = j8 (fun x0 x4 b0 => J 11 (m11 x0 x4 b0)) (fun x0 x4 x5 b0 => J 4 (m4 x0 x4 x5 b0)) x0 x4 x5 x6 b0 (fun y0 => k (.v (.string y0)) []) := by kernel_rfl
theorem j8_ag (k kp : D → List Blk → Prop) (ag5 : St → Prop) : agPL cfg 8 (JJ_5 k kp ag5) (LL_5 k kp ag5) [1, 1, 1, 0, 1, 0, 0, 0, 0, 1, 1] body = agPR cfg 8 (pick none' [(5, ag5)]) [1, 1, 1, 0, 1, 0, 0, 0, 0, 1, 1] body (topK cfg Tryd.f49 k kp) := by kernel_rfl
theorem j8_raw (k kp : D → List Blk → Prop) (ag5 : St → Prop) (x0 : Int) (x4 : Int) (x5 : Int) (x6 : Int) (b0 : (List Int)) : X8 k kp ag5 (m8 x0 x4 x5 x6 b0) = j8 (fun x0 x4 b0 => X11 k kp (m11 x0 x4 b0)) (fun x0 x4 x5 b0 => X4 k kp ag5 (m4 x0 x4 x5 b0)) x0 x4 x5 x6 b0 (fun y0 => k (.v (.string y0)) []) :=
  Eq.mp (by kernel_rfl) ((atP_run (j8_ag k kp ag5) (m8 x0 x4 x5 x6 b0)).trans (j8_c k kp (JJ_5 k kp ag5) (LL_5 k kp ag5) ag5 x0 x4 x5 x6 b0))
theorem j8_eq (k kp : D → List Blk → Prop) (ag5 : St → Prop) (x0 : Int) (x4 : Int) (x5 : Int) (x6 : Int) (b0 : (List Int)) : X8 k kp ag5 (m8 x0 x4 x5 x6 b0) = j8' (fun x4 x5 b0 => ag5 (mL5 x0 x4 x5 b0)) x0 x4 x5 x6 b0 (fun y0 => k (.v (.string y0)) []) := by
  rw [j8_raw]; simp only [j11_eq, j4_eq]; first | done | rfl
theorem l5_c (k kp : D → List Blk → Prop) (J L : Nat → St → Prop) (ag5 : St → Prop) (x0 : Int) (x4 : Int) (x5 : Int) (b0 : (List Int)) : runC cfg 1000001 J L (pick none' [(5, ag5)]) [1, 1, 1, 0, 1, 0, 0] body (topK cfg Tryd.f49 k kp) (mL5 x0 x4 x5 b0) = l5 (fun x0 x4 x5 x6 b0 => J 8 (m8 x0 x4 x5 x6 b0)) x0 x4 x5 b0 (fun y0 => k (.v (.string y0)) []) := by kernel_rfl
theorem l5_ag (k kp : D → List Blk → Prop) (ag5 : St → Prop) : agPL cfg 1000001 (JJ_5 k kp ag5) (LL_5 k kp ag5) [1, 1, 1, 0, 1, 0, 0] body = agPR cfg 1000001 (pick none' [(5, ag5)]) [1, 1, 1, 0, 1, 0, 0] body (topK cfg Tryd.f49 k kp) := by kernel_rfl
theorem l5_raw (k kp : D → List Blk → Prop) (ag5 : St → Prop) (x0 : Int) (x4 : Int) (x5 : Int) (b0 : (List Int)) : YL5 k kp ag5 (mL5 x0 x4 x5 b0) = l5 (fun x0 x4 x5 x6 b0 => X8 k kp ag5 (m8 x0 x4 x5 x6 b0)) x0 x4 x5 b0 (fun y0 => k (.v (.string y0)) []) :=
  Eq.mp (by kernel_rfl) ((atP_run (l5_ag k kp ag5) (mL5 x0 x4 x5 b0)).trans (l5_c k kp (JJ_5 k kp ag5) (LL_5 k kp ag5) ag5 x0 x4 x5 b0))
theorem l5_eq (k kp : D → List Blk → Prop) (x0 : Int) (x4 : Int) (x5 : Int) (b0 : (List Int)) : XL5 k kp (mL5 x0 x4 x5 b0) = l5' x0 x4 x5 b0 (fun y0 => k (.v (.string y0)) []) :=
  loop_eq (mk := fun (s : Int × Int × (List Int)) => mL5 x0 s.1 s.2.1 s.2.2) (fun again s => by rw [l5_raw k kp again x0 s.1 s.2.1 s.2.2]; simp only [j8_eq]; first | done | rfl) (x4, x5, b0)
theorem c_c (k kp : D → List Blk → Prop) (J L : Nat → St → Prop) (x0 : Int) : runC cfg 1000001 J L none'' [] body (topK cfg Tryd.f49 k kp) (st0 Tryd.f49 [(.v (.int IntKind.i64 x0))] []) = c (fun x0 x4 x5 b0 => L 5 (mL5 x0 x4 x5 b0)) x0 (fun y0 => k (.v (.string y0)) []) := by kernel_rfl
theorem c_ag (k kp : D → List Blk → Prop) : agPL cfg 1000001 (JJ k kp) (LL k kp) [] body = agPR cfg 1000001 none'' [] body (topK cfg Tryd.f49 k kp) := by kernel_rfl
theorem body_is : Tryd.f49.body = some body := by kernel_rfl
theorem c_raw (k kp : D → List Blk → Prop) (x0 : Int) : funW cfg Tryd.f49 [(.v (.int IntKind.i64 x0))] [] k kp = c (fun x0 x4 x5 b0 => XL5 k kp (mL5 x0 x4 x5 b0)) x0 (fun y0 => k (.v (.string y0)) []) :=
  Eq.mp (by kernel_rfl) ((funW_run (AG := none'') body_is (c_ag k kp) [(.v (.int IntKind.i64 x0))] []).trans (c_c k kp (JJ k kp) (LL k kp) x0))
theorem f_eq (k kp : D → List Blk → Prop) (x0 : Int) : funW cfg Tryd.f49 [(.v (.int IntKind.i64 x0))] [] k kp = f x0 (fun y0 => k (.v (.string y0)) []) := by
  rw [f_def, c_raw]; simp only [l5_eq]; first | done | rfl
noncomputable def ent0 : Entry := fun args blks k _ => match args, blks with
  | [d0], [] => aInt IntKind.i64 d0 fun x0 => f x0 (fun y0 => k (.v (.string y0)) [])
  | _, _ => False
noncomputable def ent : Entry := fun args blks k kp => ent0 (convB [.no] args) blks k kp
theorem ok : EntOk Tryd.prog 40 49 49 ent := by
  refine EntOk.convB (EntOk.of (funW_ok (cfg := cfg) (tyOk_of rfl rfl tyL_ok) (eqOk_of (P := Tryd.prog) rfl rfl (by kernel_rfl)) mixed_ok (tab_ok ?_) Tryd.func49 (by rfl) (by rfl)) ?_) _
  · intro p hp
    cases hp
  · intro args blks k kp h k' kp'
    match args, blks, h with
    | [d0], [], h =>
    dsimp only [ent0] at h
    have h9 := aInt_elim h; clear h; obtain ⟨x0, rfl, h⟩ := h9
    exact (f_eq k' kp' x0).symm
end N49
end Go.Proofs.Yd
namespace Go.Proofs.Yd
open Go Go.Aw Go.Proofs
set_option linter.unusedVariables false
set_option linter.unusedSimpArgs false
set_option maxRecDepth 100000
/-! dyehouse/dyehouseref02.digits -/
namespace N21
noncomputable def cfg : Cfg := { P := Tryd.prog, tf := 40, tw := 49, ty := tys, E := tab [], atSeq := tab [(3, ⟨[(0, .keep), (3, .keep)]⟩), (5, ⟨[(3, .keep)]⟩)], atLoop := tab [(2, ⟨[(0, .keep), (3, .own 5 (Ty.int IntKind.u8))]⟩)], outs := [], eqT := tab [], bT := tab [] }
noncomputable def body : Code := bodyOf Tryd.f21
def l2 (j3 : Int → (List Int) → Prop) (j5 : (List Int) → Prop) (x0 : Int) (b0 : (List Int)) (k : (List Int) → Prop) : Prop :=
  (br (decide (x0 > (0 : Int))) (j3 x0 b0) (br (((((b0).length : Nat) : Int)) == (0 : Int)) (j3 x0 b0) (j5 b0)))
def j3 (ag2 : Int → (List Int) → Prop) (x0 : Int) (b0 : (List Int)) (k : (List Int) → Prop) : Prop :=
  (((10 : Int) ≠ 0) ∧ ((room ((b0).length + (([(IntKind.u8.wrap (IntKind.u64.wrap ((48 : Int) + (Int.tmod x0 (10 : Int)))))] : List Int)).length) 1) ∧ (((10 : Int) ≠ 0) ∧ (ag2 (IntKind.u64.wrap (Int.tdiv x0 (10 : Int))) (b0 ++ ([(IntKind.u8.wrap (IntKind.u64.wrap ((48 : Int) + (Int.tmod x0 (10 : Int)))))] : List Int))))))
def j5 (b0 : (List Int)) (k : (List Int) → Prop) : Prop :=
  (k b0)
def c (l2 : Int → (List Int) → Prop) (x0 : Int) (k : (List Int) → Prop) : Prop :=
  (l2 x0 ([] : List Int))
def j3' (ag2 : Int → (List Int) → Prop) (x0 : Int) (b0 : (List Int)) (k : (List Int) → Prop) : Prop := j3 ag2 x0 b0 k
def j5' (b0 : (List Int)) (k : (List Int) → Prop) : Prop := j5 b0 k
def l2' (x0 : Int) (b0 : (List Int)) (k : (List Int) → Prop) : Prop := ∃ n, loopS (fun (ag : (Int × (List Int)) → Prop) (s : Int × (List Int)) => l2 (fun x0 b0 => j3' (fun x0 b0 => ag (x0, b0)) x0 b0 k) (fun b0 => j5' b0 k) s.1 s.2 k) n (x0, b0)
def f0 (x0 : Int) (k : (List Int) → Prop) : Prop := c (fun x0 b0 => l2' x0 b0 k) x0 k
theorem f_ex : ∃ g : Int → ((List Int) → Prop) → Prop, g = f0 := ⟨_, rfl⟩
noncomputable def f : Int → ((List Int) → Prop) → Prop := Classical.choose f_ex
theorem f_def : f = f0 := Classical.choose_spec f_ex
def mL2 (x0 : Int) (b0 : (List Int)) : St := { tmps := mkT 21 0 [(0, (.v (.int IntKind.u64 x0))), (3, (.sl 0 0))], hp := [(.lst 5 (Ty.int IntKind.u8) b0 0 false)], m := 0 }
def m3 (x0 : Int) (b0 : (List Int)) : St := { tmps := mkT 21 0 [(0, (.v (.int IntKind.u64 x0))), (3, (.sl 0 0))], hp := [(.lst 5 (Ty.int IntKind.u8) b0 0 false)], m := 0 }
def m5 (b0 : (List Int)) : St := { tmps := mkT 21 0 [(3, (.sl 0 0))], hp := [(.lst 5 (Ty.int IntKind.u8) b0 0 false)], m := 0 }
noncomputable def YL2 (k kp : D → List Blk → Prop) : (St → Prop) → St → Prop := loopB cfg (sub [1, 1, 0, 0, 0] body) (contK cfg (pick none' []) [1, 1, 0, 0] body (topK cfg Tryd.f21 k kp))
noncomputable def XL2 (k kp : D → List Blk → Prop) : St → Prop := fun st => ∃ n, loopN (YL2 k kp) n st
noncomputable def X3 (k kp : D → List Blk → Prop) (ag2 : St → Prop) : St → Prop := atP cfg (pick none' [(2, ag2)]) [1, 1, 0, 0, 0, 1] body (topK cfg Tryd.f21 k kp)
noncomputable def X5 (k kp : D → List Blk → Prop) : St → Prop := atP cfg (pick none' []) [1, 1, 1] body (topK cfg Tryd.f21 k kp)
noncomputable def JJ_2 (k kp : D → List Blk → Prop) (ag2 : St → Prop) : Nat → St → Prop := pick none' [(3, X3 k kp ag2), (5, X5 k kp)]
noncomputable def LL_2 (k kp : D → List Blk → Prop) (ag2 : St → Prop) : Nat → St → Prop := pick none' [(2, XL2 k kp)]
noncomputable def JJ (k kp : D → List Blk → Prop) : Nat → St → Prop := pick none' [(5, X5 k kp)]
noncomputable def LL (k kp : D → List Blk → Prop) : Nat → St → Prop := pick none' [(2, XL2 k kp)]
theorem j3_c (k kp : D → List Blk → Prop) (J L : Nat → St → Prop) (ag2 : St → Prop) (x0 : Int) (b0 : (List Int)) : runC cfg 3 J L (pick none' [(2, ag2)]) [1, 1, 0, 0, 0, 1] body (topK cfg Tryd.f21 k kp) (m3 x0 b0) = j3 (fun x0 b0 => ag2 (mL2 x0 b0)) x0 b0 (fun z0 => k (.sl 0 0) [(.lst 5 (Ty.int IntKind.u8) z0 0 false)]) := by kernel_rfl
theorem j3_ag (k kp : D → List Blk → Prop) (ag2 : St → Prop) : agPL cfg 3 (JJ_2 k kp ag2) (LL_2 k kp ag2) [1, 1, 0, 0, 0, 1] body = agPR cfg 3 (pick none' [(2, ag2)]) [1, 1, 0, 0, 0, 1] body (topK cfg Tryd.f21 k kp) := by kernel_rfl
theorem j3_raw (k kp : D → List Blk → Prop) (ag2 : St → Prop) (x0 : Int) (b0 : (List Int)) : X3 k kp ag2 (m3 x0 b0) = j3 (fun x0 b0 => ag2 (mL2 x0 b0)) x0 b0 (fun z0 => k (.sl 0 0) [(.lst 5 (Ty.int IntKind.u8) z0 0 false)]) :=
  Eq.mp (by kernel_rfl) ((atP_run (j3_ag k kp ag2) (m3 x0 b0)).trans (j3_c k kp (JJ_2 k kp ag2) (LL_2 k kp ag2) ag2 x0 b0))
theorem j3_eq (k kp : D → List Blk → Prop) (ag2 : St → Prop) (x0 : Int) (b0 : (List Int)) : X3 k kp ag2 (m3 x0 b0) = j3' (fun x0 b0 => ag2 (mL2 x0 b0)) x0 b0 (fun z0 => k (.sl 0 0) [(.lst 5 (Ty.int IntKind.u8) z0 0 false)]) := by
  rw [j3_raw]; rfl
theorem j5_c (k kp : D → List Blk → Prop) (J L : Nat → St → Prop) (b0 : (List Int)) : runC cfg 5 J L (pick none' []) [1, 1, 1] body (topK cfg Tryd.f21 k kp) (m5 b0) = j5 b0 (fun z0 => k (.sl 0 0) [(.lst 5 (Ty.int IntKind.u8) z0 0 false)]) := by kernel_rfl
theorem j5_ag (k kp : D → List Blk → Prop) : agPL cfg 5 (JJ k kp) (LL k kp) [1, 1, 1] body = agPR cfg 5 (pick none' []) [1, 1, 1] body (topK cfg Tryd.f21 k kp) := by kernel_rfl
theorem j5_raw (k kp : D → List Blk → Prop) (b0 : (List Int)) : X5 k kp (m5 b0) = j5 b0 (fun z0 => k (.sl 0 0) [(.lst 5 (Ty.int IntKind.u8) z0 0 false)]) :=
  Eq.mp (by kernel_rfl) ((atP_run (j5_ag k kp) (m5 b0)).trans (j5_c k kp (JJ k kp) (LL k kp) b0))
theorem j5_eq (k kp : D → List Blk → Prop) (b0 : (List Int)) : X5 k kp (m5 b0) = j5' b0 (fun z0 => k (.sl 0 0) [(.lst 5 (Ty.int IntKind.u8) z0 0 false)]) := by
  rw [j5_raw]; rfl
theorem l2_c (k kp : D → List Blk → Prop) (J L : Nat → St → Prop) (ag2 : St → Prop) (x0 : Int) (b0 : (List Int)) : runC cfg 1000001 J L (pick none' [(2, ag2)]) [1, 1, 0, 0, 0] body (topK cfg Tryd.f21 k kp) (mL2 x0 b0) = l2 (fun x0 b0 => J 3 (m3 x0 b0)) (fun b0 => J 5 (m5 b0)) x0 b0 (fun z0 => k (.sl 0 0) [(.lst 5 (Ty.int IntKind.u8) z0 0 false)]) := by kernel_rfl
theorem l2_ag (k kp : D → List Blk → Prop) (ag2 : St → Prop) : agPL cfg 1000001 (JJ_2 k kp ag2) (LL_2 k kp ag2) [1, 1, 0, 0, 0] body = agPR cfg 1000001 (pick none' [(2, ag2)]) [1, 1, 0, 0, 0] body (topK cfg Tryd.f21 k kp) := by kernel_rfl
theorem l2_raw (k kp : D → List Blk → Prop) (ag2 : St → Prop) (x0 : Int) (b0 : (List Int)) : YL2 k kp ag2 (mL2 x0 b0) = l2 (fun x0 b0 => X3 k kp ag2 (m3 x0 b0)) (fun b0 => X5 k kp (m5 b0)) x0 b0 (fun z0 => k (.sl 0 0) [(.lst 5 (Ty.int IntKind.u8) z0 0 false)]) :=
  Eq.mp (by kernel_rfl) ((atP_run (l2_ag k kp ag2) (mL2 x0 b0)).trans (l2_c k kp (JJ_2 k kp ag2) (LL_2 k kp ag2) ag2 x0 b0))
theorem l2_eq (k kp : D → List Blk → Prop) (x0 : Int) (b0 : (List Int)) : XL2 k kp (mL2 x0 b0) = l2' x0 b0 (fun z0 => k (.sl 0 0) [(.lst 5 (Ty.int IntKind.u8) z0 0 false)]) :=
  loop_eq (mk := fun (s : Int × (List Int)) => mL2 s.1 s.2) (fun again s => by rw [l2_raw k kp again s.1 s.2]; simp only [j3_eq, j5_eq]; first | done | rfl) (x0, b0)
theorem c_c (k kp : D → List Blk → Prop) (J L : Nat → St → Prop) (x0 : Int) : runC cfg 1000001 J L none'' [] body (topK cfg Tryd.f21 k kp) (st0 Tryd.f21 [(.v (.int IntKind.u64 x0))] []) = c (fun x0 b0 => L 2 (mL2 x0 b0)) x0 (fun z0 => k (.sl 0 0) [(.lst 5 (Ty.int IntKind.u8) z0 0 false)]) := by kernel_rfl
theorem c_ag (k kp : D → List Blk → Prop) : agPL cfg 1000001 (JJ k kp) (LL k kp) [] body = agPR cfg 1000001 none'' [] body (topK cfg Tryd.f21 k kp) := by kernel_rfl
theorem body_is : Tryd.f21.body = some body := by kernel_rfl
theorem c_raw (k kp : D → List Blk → Prop) (x0 : Int) : funW cfg Tryd.f21 [(.v (.int IntKind.u64 x0))] [] k kp = c (fun x0 b0 => XL2 k kp (mL2 x0 b0)) x0 (fun z0 => k (.sl 0 0) [(.lst 5 (Ty.int IntKind.u8) z0 0 false)]) :=
  Eq.mp (by kernel_rfl) ((funW_run (AG := none'') body_is (c_ag k kp) [(.v (.int IntKind.u64 x0))] []).trans (c_c k kp (JJ k kp) (LL k kp) x0))
theorem f_eq (k kp : D → List Blk → Prop) (x0 : Int) : funW cfg Tryd.f21 [(.v (.int IntKind.u64 x0))] [] k kp = f x0 (fun z0 => k (.sl 0 0) [(.lst 5 (Ty.int IntKind.u8) z0 0 false)]) := by
  rw [f_def, c_raw]; simp only [l2_eq]; first | done | rfl
noncomputable def ent0 : Entry := fun args blks k _ => match args, blks with
  | [d0], [] => aInt IntKind.u64 d0 fun x0 => f x0 (fun z0 => k (.sl 0 0) [(.lst 5 (Ty.int IntKind.u8) z0 0 false)])
  | _, _ => False
noncomputable def ent : Entry := fun args blks k kp => ent0 (convB [.no] args) blks k kp
theorem ok : EntOk Tryd.prog 40 49 21 ent := by
  refine EntOk.convB (EntOk.of (funW_ok (cfg := cfg) (tyOk_of rfl rfl tyL_ok) (eqOk_of (P := Tryd.prog) rfl rfl (by kernel_rfl)) mixed_ok (tab_ok ?_) Tryd.func21 (by rfl) (by rfl)) ?_) _
  · intro p hp
    cases hp
  · intro args blks k kp h k' kp'
    match args, blks, h with
    | [d0], [], h =>
    dsimp only [ent0] at h
    have h9 := aInt_elim h; clear h; obtain ⟨x0, rfl, h⟩ := h9
    exact (f_eq k' kp' x0).symm
end N21
end Go.Proofs.Yd
namespace Go.Proofs.Yd
open Go Go.Aw Go.Proofs
set_option linter.unusedVariables false
set_option linter.unusedSimpArgs false
set_option maxRecDepth 100000
/-! dyehouse/dyehouseref02.Put -/
namespace N18
noncomputable def cfg : Cfg := { P := Tryd.prog, tf := 40, tw := 49, ty := tys, E := tab [(21, N21.ent)], atSeq := tab [(6, ⟨[(3, .keep), (4, .keep)]⟩), (11, ⟨[(4, .keep)]⟩)], atLoop := tab [(8, ⟨[(4, .keep), (5, .keep), (6, .keep)]⟩)], outs := [], eqT := tab [], bT := tab [] }
noncomputable def body : Code := bodyOf Tryd.f18
def j6 (l8 : ByteArray → Int → (List Int) → Prop) (x3 : Int) (x4 : ByteArray) (k : ByteArray → Prop) : Prop :=
  (N21.f x3 (fun (z0_0 : (List Int)) => (l8 x4 (IntKind.i64.wrap (((((z0_0).length : Nat) : Int)) - (1 : Int))) z0_0)))
def l8 (j11 : ByteArray → Prop) (ag8 : ByteArray → Int → (List Int) → Prop) (x4 : ByteArray) (x6 : Int) (b0 : (List Int)) (k : ByteArray → Prop) : Prop :=
  (br (decide (x6 ≥ (0 : Int))) ((inB 0 x6 ((((b0).length : Nat) : Int) - 1)) ∧ (((x4).size + ((bytesOf ([(b0.getD (Int.toNat x6) (0))] : List Int))).size ≤ 9223372036854775807) ∧ (ag8 (x4 ++ (bytesOf ([(b0.getD (Int.toNat x6) (0))] : List Int))) (IntKind.i64.wrap (x6 - (1 : Int))) b0))) (j11 x4))
def j11 (x4 : ByteArray) (k : ByteArray → Prop) : Prop :=
  (k x4)
def c (j6 : Int → ByteArray → Prop) (x0 : Int) (k : ByteArray → Prop) : Prop :=
  (br (decide (x0 < (0 : Int))) (j6 (IntKind.u64.wrap (0 - (IntKind.u64.wrap x0))) (ByteArray.mk #[45])) (j6 (IntKind.u64.wrap x0) (ByteArray.mk #[])))
def j11' (x4 : ByteArray) (k : ByteArray → Prop) : Prop := j11 x4 k
def l8' (x4 : ByteArray) (x6 : Int) (b0 : (List Int)) (k : ByteArray → Prop) : Prop := ∃ n, loopS (fun (ag : (ByteArray × Int × (List Int)) → Prop) (s : ByteArray × Int × (List Int)) => l8 (fun x4 => j11' x4 k) (fun x4 x6 b0 => ag (x4, x6, b0)) s.1 s.2.1 s.2.2 k) n (x4, x6, b0)
def j6' (x3 : Int) (x4 : ByteArray) (k : ByteArray → Prop) : Prop := j6 (fun x4 x6 b0 => l8' x4 x6 b0 k) x3 x4 k
def f0 (x0 : Int) (k : ByteArray → Prop) : Prop := c (fun x3 x4 => j6' x3 x4 k) x0 k
theorem f_ex : ∃ g : Int → (ByteArray → Prop) → Prop, g = f0 := ⟨_, rfl⟩
noncomputable def f : Int → (ByteArray → Prop) → Prop := Classical.choose f_ex
theorem f_def : f = f0 := Classical.choose_spec f_ex
def m6 (x3 : Int) (x4 : ByteArray) : St := { tmps := mkT 31 0 [(3, (.v (.int IntKind.u64 x3))), (4, (.v (.string x4)))], hp := [], m := 0 }
def mL8 (x4 : ByteArray) (x6 : Int) (b0 : (List Int)) : St := { tmps := mkT 31 0 [(4, (.v (.string x4))), (5, (.sl 0 0)), (6, (.v (.int IntKind.i64 x6)))], hp := [(.lst 5 (Ty.int IntKind.u8) b0 0 false)], m := 0 }
def m11 (x4 : ByteArray) : St := { tmps := mkT 31 0 [(4, (.v (.string x4)))], hp := [], m := 0 }
noncomputable def X6 (k kp : D → List Blk → Prop) : St → Prop := atP cfg (pick none' []) [1, 1, 1, 1] body (topK cfg Tryd.f18 k kp)
noncomputable def YL8 (k kp : D → List Blk → Prop) : (St → Prop) → St → Prop := loopB cfg (sub [1, 1, 1, 1, 1, 0, 1, 0, 0] body) (contK cfg (pick none' []) [1, 1, 1, 1, 1, 0, 1, 0] body (topK cfg Tryd.f18 k kp))
noncomputable def XL8 (k kp : D → List Blk → Prop) : St → Prop := fun st => ∃ n, loopN (YL8 k kp) n st
noncomputable def X11 (k kp : D → List Blk → Prop) : St → Prop := atP cfg (pick none' []) [1, 1, 1, 1, 1, 1] body (topK cfg Tryd.f18 k kp)
noncomputable def JJ (k kp : D → List Blk → Prop) : Nat → St → Prop := pick none' [(6, X6 k kp), (11, X11 k kp)]
noncomputable def LL (k kp : D → List Blk → Prop) : Nat → St → Prop := pick none' [(8, XL8 k kp)]
noncomputable def JJ_8 (k kp : D → List Blk → Prop) (ag8 : St → Prop) : Nat → St → Prop := pick none' [(6, X6 k kp), (11, X11 k kp)]
noncomputable def LL_8 (k kp : D → List Blk → Prop) (ag8 : St → Prop) : Nat → St → Prop := pick none' [(8, XL8 k kp)]
theorem j11_c (k kp : D → List Blk → Prop) (J L : Nat → St → Prop) (x4 : ByteArray) : runC cfg 11 J L (pick none' []) [1, 1, 1, 1, 1, 1] body (topK cfg Tryd.f18 k kp) (m11 x4) = j11 x4 (fun y0 => k (.v (.string y0)) []) := by kernel_rfl
theorem j11_ag (k kp : D → List Blk → Prop) : agPL cfg 11 (JJ k kp) (LL k kp) [1, 1, 1, 1, 1, 1] body = agPR cfg 11 (pick none' []) [1, 1, 1, 1, 1, 1] body (topK cfg Tryd.f18 k kp) := by kernel_rfl
theorem j11_raw (k kp : D → List Blk → Prop) (x4 : ByteArray) : X11 k kp (m11 x4) = j11 x4 (fun y0 => k (.v (.string y0)) []) :=
  Eq.mp (by kernel_rfl) ((atP_run (j11_ag k kp) (m11 x4)).trans (j11_c k kp (JJ k kp) (LL k kp) x4))
theorem j11_eq (k kp : D → List Blk → Prop) (x4 : ByteArray) : X11 k kp (m11 x4) = j11' x4 (fun y0 => k (.v (.string y0)) []) := by
  rw [j11_raw]; rfl
theorem l8_c (k kp : D → List Blk → Prop) (J L : Nat → St → Prop) (ag8 : St → Prop) (x4 : ByteArray) (x6 : Int) (b0 : (List Int)) : runC cfg 1000001 J L (pick none' [(8, ag8)]) [1, 1, 1, 1, 1, 0, 1, 0, 0] body (topK cfg Tryd.f18 k kp) (mL8 x4 x6 b0) = l8 (fun x4 => J 11 (m11 x4)) (fun x4 x6 b0 => ag8 (mL8 x4 x6 b0)) x4 x6 b0 (fun y0 => k (.v (.string y0)) []) := by kernel_rfl
theorem l8_ag (k kp : D → List Blk → Prop) (ag8 : St → Prop) : agPL cfg 1000001 (JJ_8 k kp ag8) (LL_8 k kp ag8) [1, 1, 1, 1, 1, 0, 1, 0, 0] body = agPR cfg 1000001 (pick none' [(8, ag8)]) [1, 1, 1, 1, 1, 0, 1, 0, 0] body (topK cfg Tryd.f18 k kp) := by kernel_rfl
theorem l8_raw (k kp : D → List Blk → Prop) (ag8 : St → Prop) (x4 : ByteArray) (x6 : Int) (b0 : (List Int)) : YL8 k kp ag8 (mL8 x4 x6 b0) = l8 (fun x4 => X11 k kp (m11 x4)) (fun x4 x6 b0 => ag8 (mL8 x4 x6 b0)) x4 x6 b0 (fun y0 => k (.v (.string y0)) []) :=
  Eq.mp (by kernel_rfl) ((atP_run (l8_ag k kp ag8) (mL8 x4 x6 b0)).trans (l8_c k kp (JJ_8 k kp ag8) (LL_8 k kp ag8) ag8 x4 x6 b0))
theorem l8_eq (k kp : D → List Blk → Prop) (x4 : ByteArray) (x6 : Int) (b0 : (List Int)) : XL8 k kp (mL8 x4 x6 b0) = l8' x4 x6 b0 (fun y0 => k (.v (.string y0)) []) :=
  loop_eq (mk := fun (s : ByteArray × Int × (List Int)) => mL8 s.1 s.2.1 s.2.2) (fun again s => by rw [l8_raw k kp again s.1 s.2.1 s.2.2]; simp only [j11_eq]; first | done | rfl) (x4, x6, b0)
theorem j6_c (k kp : D → List Blk → Prop) (J L : Nat → St → Prop) (x3 : Int) (x4 : ByteArray) : runC cfg 6 J L (pick none' []) [1, 1, 1, 1] body (topK cfg Tryd.f18 k kp) (m6 x3 x4) = j6 (fun x4 x6 b0 => L 8 (mL8 x4 x6 b0)) x3 x4 (fun y0 => k (.v (.string y0)) []) := by kernel_rfl
theorem j6_ag (k kp : D → List Blk → Prop) : agPL cfg 6 (JJ k kp) (LL k kp) [1, 1, 1, 1] body = agPR cfg 6 (pick none' []) [1, 1, 1, 1] body (topK cfg Tryd.f18 k kp) := by kernel_rfl
theorem j6_raw (k kp : D → List Blk → Prop) (x3 : Int) (x4 : ByteArray) : X6 k kp (m6 x3 x4) = j6 (fun x4 x6 b0 => XL8 k kp (mL8 x4 x6 b0)) x3 x4 (fun y0 => k (.v (.string y0)) []) :=
  Eq.mp (by kernel_rfl) ((atP_run (j6_ag k kp) (m6 x3 x4)).trans (j6_c k kp (JJ k kp) (LL k kp) x3 x4))
theorem j6_eq (k kp : D → List Blk → Prop) (x3 : Int) (x4 : ByteArray) : X6 k kp (m6 x3 x4) = j6' x3 x4 (fun y0 => k (.v (.string y0)) []) := by
  rw [j6_raw]; simp only [l8_eq]; first | done | rfl
theorem c_c (k kp : D → List Blk → Prop) (J L : Nat → St → Prop) (x0 : Int) : runC cfg 1000001 J L none'' [] body (topK cfg Tryd.f18 k kp) (st0 Tryd.f18 [(.v (.int IntKind.i64 x0))] []) = c (fun x3 x4 => J 6 (m6 x3 x4)) x0 (fun y0 => k (.v (.string y0)) []) := by kernel_rfl
theorem c_ag (k kp : D → List Blk → Prop) : agPL cfg 1000001 (JJ k kp) (LL k kp) [] body = agPR cfg 1000001 none'' [] body (topK cfg Tryd.f18 k kp) := by kernel_rfl
theorem body_is : Tryd.f18.body = some body := by kernel_rfl
theorem c_raw (k kp : D → List Blk → Prop) (x0 : Int) : funW cfg Tryd.f18 [(.v (.int IntKind.i64 x0))] [] k kp = c (fun x3 x4 => X6 k kp (m6 x3 x4)) x0 (fun y0 => k (.v (.string y0)) []) :=
  Eq.mp (by kernel_rfl) ((funW_run (AG := none'') body_is (c_ag k kp) [(.v (.int IntKind.i64 x0))] []).trans (c_c k kp (JJ k kp) (LL k kp) x0))
theorem f_eq (k kp : D → List Blk → Prop) (x0 : Int) : funW cfg Tryd.f18 [(.v (.int IntKind.i64 x0))] [] k kp = f x0 (fun y0 => k (.v (.string y0)) []) := by
  rw [f_def, c_raw]; simp only [j6_eq]; first | done | rfl
noncomputable def ent0 : Entry := fun args blks k _ => match args, blks with
  | [d0], [] => aInt IntKind.i64 d0 fun x0 => f x0 (fun y0 => k (.v (.string y0)) [])
  | _, _ => False
noncomputable def ent : Entry := fun args blks k kp => ent0 (convB [.no] args) blks k kp
theorem ok : EntOk Tryd.prog 40 49 18 ent := by
  refine EntOk.convB (EntOk.of (funW_ok (cfg := cfg) (tyOk_of rfl rfl tyL_ok) (eqOk_of (P := Tryd.prog) rfl rfl (by kernel_rfl)) mixed_ok (tab_ok ?_) Tryd.func18 (by rfl) (by rfl)) ?_) _
  · intro p hp
    simp only [List.mem_cons, List.not_mem_nil, or_false] at hp
    rcases hp with rfl
    · exact N21.ok
  · intro args blks k kp h k' kp'
    match args, blks, h with
    | [d0], [], h =>
    dsimp only [ent0] at h
    have h9 := aInt_elim h; clear h; obtain ⟨x0, rfl, h⟩ := h9
    exact (f_eq k' kp' x0).symm
end N18
end Go.Proofs.Yd
namespace Go.Proofs.Yd
open Go Go.Aw Go.Proofs Go.RowKit
set_option linter.unusedVariables false
set_option linter.unusedSimpArgs false

/-- A number's text. -/
def putL (n : Int) : List Int := (if n < 0 then [45] else []) ++ (dl 20 n.natAbs).reverse

theorem put_s (n : Int) (hn : in64 n) (k : ByteArray → Prop) (h : k (bytesOf (putL n))) : N49.f n k := by
  unfold in64 at hn
  rw [N49.f_def]
  unfold N49.f0 N49.c N49.l5'
  refine loopS_of (fun s : Int × Int × List Int => ∃ a : Nat, s.1 = (a : Int) + 1 ∧ 1 ≤ a ∧ a < 20 ∧ s.2.2.length = 20 ∧ s.2.1.natAbs < 10 ^ a ∧ (n < 0 → s.2.1 ≤ 0) ∧ (0 ≤ n → 0 ≤ s.2.1) ∧ in64 s.2.1 ∧
    (dl (a + 1) s.2.1.natAbs).reverse ++ s.2.2.drop (a + 1) = (dl 20 n.natAbs).reverse) (fun s => s.1.toNat) ?_
    ⟨19, rfl, by omega, by omega, by simp, by show n.natAbs < 10 ^ 19; omega, fun h => Int.le_of_lt h, fun h => h, hn, by simp⟩
  rintro again ⟨x, m, b⟩ ⟨a, rfl, ha1, ha2, hlen, hm, hs1, hs2, hin, hd⟩ hag
  simp only at hlen hm hs1 hs2 hin hd hag ⊢
  unfold in64 at hin
  unfold N49.l5 N49.j8' N49.j8 N49.j11' N49.j11 N49.j4' N49.j4 N49.j14' N49.j14
  dsimp only
  have hmod := tmod10 m
  have hdiv := tdiv10 m
  have hdi : IntKind.i64.wrap (Int.tdiv m 10) = Int.tdiv m 10 := by rw [hdiv]; apply wrap_id <;> split <;> omega
  have ewa : IntKind.i64.wrap ((a : Int) + 1 - 1) = (a : Int) := by rw [wrap_id (by omega) (by omega)]; omega
  rw [hdi, ewa]
  simp only [Int.toNat_natCast]
  -- what is done with the digit
  have main : ∀ d : Int, d = ((m.natAbs % 10 : Nat) : Int) → ((inB 0 (a : Int) (((20 : Nat) : Int) - 1)) ∧ (((10 : Int) ≠ 0) ∧ (br (Int.tdiv m 10 == (0 : Int))
      (br (decide (n < (0 : Int))) ((inB 0 (IntKind.i64.wrap ((a : Int) - (1 : Int))) (((20 : Nat) : Int) - 1)) ∧ ((inB (IntKind.i64.wrap ((a : Int) - (1 : Int))) (20 : Int) (20 : Int)) ∧ (((20 : Int) ≤ ((20 : Nat) : Int)) ∧ (k (bytesOf (List.drop (Int.toNat (IntKind.i64.wrap ((a : Int) - (1 : Int)))) (List.take (Int.toNat (20 : Int)) ((b.set a (IntKind.u8.wrap (IntKind.i64.wrap ((48 : Int) + d)))).set (Int.toNat (IntKind.i64.wrap ((a : Int) - (1 : Int)))) (45 : Int))))))))) ((inB (a : Int) (20 : Int) (20 : Int)) ∧ (((20 : Int) ≤ ((20 : Nat) : Int)) ∧ (k (bytesOf (List.drop a (List.take (Int.toNat (20 : Int)) (b.set a (IntKind.u8.wrap (IntKind.i64.wrap ((48 : Int) + d)))))))))))
      (((10 : Int) ≠ 0) ∧ again ((a : Int), Int.tdiv m 10, b.set a (IntKind.u8.wrap (IntKind.i64.wrap ((48 : Int) + d)))))))) := by
    rintro d rfl
    have ed : IntKind.u8.wrap (IntKind.i64.wrap ((48 : Int) + ((m.natAbs % 10 : Nat) : Int))) = ((48 + m.natAbs % 10 : Nat) : Int) := by
      rw [wrap_id (by omega) (by omega), wu8_eq]; omega
    rw [ed]
    have hset := drop_set_self (x := ((48 + m.natAbs % 10 : Nat) : Int)) (by omega : a < b.length)
    rw [dl_succ a] at hd
    have hlen' : (b.set a ((48 + m.natAbs % 10 : Nat) : Int)).length = 20 := by simpa using hlen
    generalize hb' : b.set a ((48 + m.natAbs % 10 : Nat) : Int) = b' at *
    refine ⟨⟨by omega, by omega, by omega⟩, by decide, ?_⟩
    have e20 : Int.toNat 20 = 20 := rfl
    rw [e20]
    by_cases hz : m.natAbs / 10 = 0
    · have : Int.tdiv m 10 = 0 := by rw [hdiv, hz]; split <;> rfl
      rw [this]
      simp only [beq_self_eq_true, br_true]
      rw [if_pos hz] at hd
      have hres : b'.drop a = (dl 20 n.natAbs).reverse := by rw [hset, ← hd]; simp
      simp only [br_dec]
      split
      · rename_i hn0
        have ew : IntKind.i64.wrap ((a : Int) - 1) = ((a - 1 : Nat) : Int) := by rw [wrap_id (by omega) (by omega)]; omega
        rw [ew]
        refine ⟨⟨by omega, by omega, by omega⟩, ⟨by omega, by omega, by omega⟩, by decide, ?_⟩
        rw [Int.toNat_natCast, List.take_of_length_le (by simp; omega), drop_set_self (by omega), show a - 1 + 1 = a by omega, hres]
        have : putL n = 45 :: (dl 20 n.natAbs).reverse := by unfold putL; rw [if_pos hn0]; rfl
        rw [← this]; exact h
      · rename_i hn0
        refine ⟨⟨by omega, by omega, by omega⟩, by decide, ?_⟩
        rw [List.take_of_length_le (by omega), hres]
        have : putL n = (dl 20 n.natAbs).reverse := by unfold putL; rw [if_neg hn0]; rfl
        rw [← this]; exact h
    · have hne : Int.tdiv m 10 ≠ 0 := by rw [hdiv]; split <;> omega
      have hnb : (Int.tdiv m 10 == 0) = false := by simpa using hne
      rw [hnb]
      simp only [br_false]
      rw [if_neg hz] at hd
      obtain ⟨c, rfl⟩ : ∃ c, a = c + 1 := ⟨a - 1, by omega⟩
      have hm' : m.natAbs / 10 < 10 ^ c := by rw [Nat.pow_succ] at hm; omega
      have hc : 1 ≤ c := by
        rcases Nat.eq_zero_or_pos c with h0 | h0
        · subst h0; simp at hm'; omega
        · exact h0
      have hab : (Int.tdiv m 10).natAbs = m.natAbs / 10 := by rw [hdiv]; split <;> omega
      refine ⟨by decide, hag _ ⟨c, rfl, hc, by omega, hlen', by rw [hab]; exact hm', fun h0 => ?_, fun h0 => ?_, ?_, ?_⟩ (by simp <;> omega)⟩
      · have := hs1 h0
        show Int.tdiv m 10 ≤ 0
        rw [hdiv]; split <;> omega
      · have := hs2 h0
        show 0 ≤ Int.tdiv m 10
        rw [hdiv]; split <;> omega
      · show in64 (Int.tdiv m 10)
        unfold in64
        rw [hdiv]; split <;> omega
      · show (dl (c + 1) (Int.tdiv m 10).natAbs).reverse ++ b'.drop (c + 1) = _
        rw [hab, hset, ← hd]
        simp
  refine ⟨by decide, br_of (fun hneg => ?_) (fun hneg => ?_)⟩
  · have hneg : Int.tmod m 10 < 0 := by simpa using hneg
    have e : IntKind.i64.wrap (0 - Int.tmod m 10) = ((m.natAbs % 10 : Nat) : Int) := by
      rw [wrap_id (by rw [hmod] at *; split at hneg <;> omega) (by rw [hmod] at *; split at hneg <;> omega)]
      rw [hmod] at *; split at hneg <;> rename_i hh <;> (try rw [if_pos hh]) <;> omega
    rw [e]
    exact main _ rfl
  · have hneg : ¬ Int.tmod m 10 < 0 := by simpa using hneg
    refine main _ ?_
    rw [hmod] at *
    split at hneg <;> rename_i hh <;> (try rw [if_pos hh]) <;> (try rw [if_neg hh]) <;> omega

theorem u64neg (n : Int) (hn : in64 n) : IntKind.u64.wrap (if n < 0 then 0 - IntKind.u64.wrap n else n) = (n.natAbs : Int) := by
  unfold in64 at hn
  simp only [wu64_eq]
  split <;> omega

theorem wu64_id' {n : Int} (h1 : 0 ≤ n) (h2 : n < 18446744073709551616) : IntKind.u64.wrap n = n := by rw [wu64_eq]; omega

theorem digits_s (U : Nat) (hU : U < 10 ^ 20) (hU2 : U < 2 ^ 64) (k : List Int → Prop) (h : k (dl 20 U)) : N21.f (U : Int) k := by
  rw [N21.f_def]
  unfold N21.f0 N21.c N21.l2'
  refine loopS_of (fun s : Int × List Int => ∃ u : Nat, s.1 = u ∧ u < 2 ^ 64 ∧ ((s.2 ≠ [] ∧ u = 0 ∧ s.2 = dl 20 U) ∨ (∃ f, u < 10 ^ f ∧ s.2.length + f = 20 ∧ 1 ≤ f ∧ (s.2 = [] ∨ u ≠ 0) ∧ s.2 ++ dl f u = dl 20 U))) (fun s => 2 * s.1.toNat + (if s.2 = [] then 1 else 0)) ?_
    ⟨U, rfl, hU2, .inr ⟨20, hU, rfl, by decide, .inl rfl, rfl⟩⟩
  rintro again ⟨x, b⟩ ⟨u, rfl, hu, hcase⟩ hag
  simp only at hcase hag ⊢
  unfold N21.l2 N21.j3' N21.j3 N21.j5' N21.j5
  dsimp only
  have emod : Int.tmod (u : Int) 10 = ((u % 10 : Nat) : Int) := by norm_cast
  have ediv : Int.tdiv (u : Int) 10 = ((u / 10 : Nat) : Int) := by norm_cast
  have go : (b = [] ∨ u ≠ 0) → (((10 : Int) ≠ 0) ∧ ((room (b.length + (([(IntKind.u8.wrap (IntKind.u64.wrap ((48 : Int) + (Int.tmod (u : Int) (10 : Int)))))] : List Int)).length) 1) ∧ (((10 : Int) ≠ 0) ∧
      (again (IntKind.u64.wrap (Int.tdiv (u : Int) (10 : Int)), b ++ ([(IntKind.u8.wrap (IntKind.u64.wrap ((48 : Int) + (Int.tmod (u : Int) (10 : Int)))))] : List Int)))))) := by
    intro hbu
    rw [emod, ediv]
    have ed : IntKind.u8.wrap (IntKind.u64.wrap ((48 : Int) + ((u % 10 : Nat) : Int))) = ((48 + u % 10 : Nat) : Int) := by
      rw [wu64_id' (by omega) (by omega), wu8_eq]; omega
    rw [ed, wu64_id' (by omega) (by omega)]
    have hc2 : ∃ f, u < 10 ^ f ∧ b.length + f = 20 ∧ 1 ≤ f ∧ b ++ dl f u = dl 20 U := by
      rcases hcase with ⟨h1, h2, h3⟩ | ⟨f, h1, h2, h3, _, h5⟩
      · rcases hbu with h | h
        · exact absurd h h1
        · exact absurd h2 h
      · exact ⟨f, h1, h2, h3, h5⟩
    obtain ⟨f, h1, h2, h3, h5⟩ := hc2
    obtain ⟨g, rfl⟩ : ∃ g, f = g + 1 := ⟨f - 1, by omega⟩
    refine ⟨by decide, ?_, by decide, hag _ ⟨u / 10, rfl, by omega, ?_⟩ ?_⟩
    · unfold room; simp; omega
    · rw [dl_succ g] at h5
      have hg : u / 10 < 10 ^ g := by rw [Nat.pow_succ] at h1; omega
      by_cases hz : u / 10 = 0
      · rw [if_pos hz] at h5
        exact .inl ⟨by simp, hz, h5⟩
      · rw [if_neg hz] at h5
        refine .inr ⟨g, hg, by simp; omega, ?_, .inr hz, by rw [← h5]; simp⟩
        rcases Nat.eq_zero_or_pos g with h0 | h0
        · subst h0; simp at hg; omega
        · exact h0
    · simp only [Int.toNat_natCast]
      rw [if_neg (by simp)]
      rcases hbu with h | h
      · rw [if_pos h]; omega
      · split <;> omega
  refine br_of (fun h0 => ?_) (fun h0 => ?_)
  · have h0 : 0 < u := by simp at h0; omega
    exact go (.inr (by omega))
  · have h0 : u = 0 := by simp at h0; omega
    refine br_of (fun hb => ?_) (fun hb => ?_)
    · have hb : b = [] := by simpa using hb
      exact go (.inl hb)
    · have hb : b ≠ [] := by simpa using hb
      rcases hcase with ⟨h1, h2, h3⟩ | ⟨f, h1, h2, h3, h4, h5⟩
      · rw [h3]; exact h
      · rcases h4 with h4 | h4
        · exact absurd h4 hb
        · exact absurd h0 h4

theorem putr_s (n : Int) (hn : in64 n) (k : ByteArray → Prop) (h : k (bytesOf (putL n))) : N18.f n k := by
  have hn' := hn
  unfold in64 at hn'
  rw [N18.f_def]
  unfold N18.f0 N18.c
  have tail : ∀ s0 : List Int, s0 ++ (dl 20 n.natAbs).reverse = putL n → s0.length ≤ 1 → N18.j6' (n.natAbs : Int) (bytesOf s0) k := by
    intro s0 hs0 hl0
    unfold N18.j6' N18.j6
    refine digits_s _ (by omega) (by omega) _ ?_
    unfold N18.l8'
    have hlen := dl_len_le 20 n.natAbs
    have ew : IntKind.i64.wrap ((((dl 20 n.natAbs).length : Nat) : Int) - 1) = (((dl 20 n.natAbs).length : Nat) : Int) - 1 := wrap_id (by omega) (by omega)
    rw [ew]
    generalize hD : dl 20 n.natAbs = D at *
    refine loopS_of (fun s : ByteArray × Int × List Int => ∃ i : Nat, s.2.1 = (i : Int) - 1 ∧ i ≤ D.length ∧ s.2.2 = D ∧ s.1 = bytesOf (s0 ++ (D.drop i).reverse)) (fun s => (s.2.1 + 1).toNat) ?_
      ⟨D.length, rfl, Nat.le_refl _, rfl, by simp⟩
    rintro again ⟨t, x, b⟩ ⟨i, e1, hi, e2, e3⟩ hag
    simp only at e1 e2 e3
    subst e1; subst e2; subst e3
    simp only at hag ⊢
    unfold N18.l8 N18.j11' N18.j11
    dsimp only
    refine br_of (fun hlt => ?_) (fun hge => ?_)
    · obtain ⟨m, rfl⟩ : ∃ m, i = m + 1 := ⟨i - 1, by simp at hlt; omega⟩
      have ei : ((m + 1 : Nat) : Int) - 1 = (m : Int) := by omega
      rw [ei]
      have ewm : IntKind.i64.wrap ((m : Int) - 1) = (m : Int) - 1 := wrap_id (by omega) (by omega)
      rw [ewm, Int.toNat_natCast]
      refine ⟨⟨by omega, by omega, by omega⟩, ?_, ?_⟩
      · rw [bytesOf_size, bytesOf_size]; simp; omega
      · rw [← bytesOf_append]
        refine hag _ ⟨m, rfl, by omega, rfl, ?_⟩ (by simp <;> omega)
        rw [drop_get (d := 0) (by omega : m < b.length)]
        simp
    · have : i = 0 := by simp at hge; omega
      subst this
      simp only [List.drop_zero]
      rw [hs0]; exact h
  refine br_of (fun hneg => ?_) (fun hneg => ?_)
  · have hneg : n < 0 := by simpa using hneg
    have e : IntKind.u64.wrap (0 - IntKind.u64.wrap n) = (n.natAbs : Int) := by simp only [wu64_eq]; omega
    rw [e]
    exact tail [45] (by unfold putL; rw [if_pos hneg]) (by simp)
  · have hneg : ¬ n < 0 := by simpa using hneg
    have e : IntKind.u64.wrap n = (n.natAbs : Int) := by simp only [wu64_eq]; omega
    rw [e]
    exact tail [] (by unfold putL; rw [if_neg hneg]) (by simp)

end Go.Proofs.Yd
namespace Go.Proofs.Yd
open Go Go.Aw Go.Proofs Go.RowKit
set_option linter.unusedVariables false
set_option linter.unusedSimpArgs false

theorem putL_len (n : Int) : 1 ≤ (putL n).length ∧ (putL n).length ≤ 21 := by
  unfold putL
  have h1 := dl_len_le 20 n.natAbs
  have h2 : 0 < (dl 20 n.natAbs).length := dl_len_pos 19 n.natAbs
  rw [List.length_append, List.length_reverse]
  split <;> simp <;> omega
theorem putL_ch (n : Int) : ∀ x ∈ putL n, x = 45 ∨ isD x := by
  intro x hx
  unfold putL at hx
  rcases List.mem_append.1 hx with h | h
  · split at h
    · simp at h; exact .inl h
    · cases h
  · exact .inr (dl_isD 20 _ x (List.mem_reverse.1 h))
theorem putL_isB (n : Int) : ∀ x ∈ putL n, isB x := by
  intro x hx
  rcases putL_ch n x hx with rfl | h
  · exact ⟨by decide, by decide⟩
  · exact ⟨by have := h.1; omega, by have := h.2; omega⟩
theorem putL_inj {n m : Int} (hn : in64 n) (hm : in64 m) (h : putL n = putL m) : n = m := by
  unfold in64 at hn hm
  have v : ∀ n : Int, n.natAbs < 10 ^ 20 → val (dl 20 n.natAbs).reverse = n.natAbs := fun n hn => dl_val 20 n.natAbs hn
  have hd : ∀ n : Int, (dl 20 n.natAbs).reverse.head? ≠ some 45 := by
    intro n e
    have : (45 : Int) ∈ (dl 20 n.natAbs).reverse := List.mem_of_head? e
    have := dl_isD 20 _ 45 (List.mem_reverse.1 this)
    exact absurd this.1 (by decide)
  unfold putL at h
  have vn := v n (by omega)
  have vm := v m (by omega)
  by_cases h1 : n < 0 <;> by_cases h2 : m < 0
  · rw [if_pos h1, if_pos h2] at h
    have := congrArg val (List.append_cancel_left h)
    omega
  · rw [if_pos h1, if_neg h2] at h
    exact absurd (by rw [List.nil_append] at h; rw [← h]; rfl) (hd m)
  · rw [if_neg h1, if_pos h2] at h
    exact absurd (by rw [List.nil_append] at h; rw [h]; rfl) (hd n)
  · rw [if_neg h1, if_neg h2] at h
    have := congrArg val (List.append_cancel_left h)
    omega

end Go.Proofs.Yd
namespace Go.Proofs.Yd
open Go Go.Aw Go.Proofs
set_option linter.unusedVariables false
set_option linter.unusedSimpArgs false
set_option maxRecDepth 100000
/-! dyehouse/dyehouselaw05.made -/
namespace N7
noncomputable def cfg : Cfg := { P := Tryd.prog, tf := 40, tw := 49, ty := tys, E := tab [(15, N15.ent), (14, N14.ent)], atSeq := tab [(6, ⟨[(7, .keep)]⟩)], atLoop := tab [(3, ⟨[(2, .keep), (7, .keep), (8, .keep)]⟩)], outs := [], eqT := tab [], bT := tab [] }
noncomputable def body : Code := bodyOf Tryd.f7
def l3 (j6 : Err → Prop) (ag3 : Err → Int → Prop) (x2 : (List ByteArray)) (x7 : Err) (x8 : Int) (k : Err → Prop) : Prop :=
  (br (decide (x8 ≥ (0 : Int))) ((inB 0 x8 ((((x2).length : Nat) : Int) - 1)) ∧ (ag3 (inE (x2.getD (Int.toNat x8) (ByteArray.empty)) x7) (IntKind.i64.wrap (x8 - (1 : Int))))) (j6 x7))
def j6 (x7 : Err) (k : Err → Prop) : Prop :=
  (k x7)
def c (l3 : (List ByteArray) → Err → Int → Prop) (x0 : Int) (x1 : Int) (x2 : (List ByteArray)) (k : Err → Prop) : Prop :=
  (l3 x2 (newE x0 x1) (IntKind.i64.wrap (((((x2).length : Nat) : Int)) - (1 : Int))))
def j6' (x7 : Err) (k : Err → Prop) : Prop := j6 x7 k
def l3' (x2 : (List ByteArray)) (x7 : Err) (x8 : Int) (k : Err → Prop) : Prop := ∃ n, loopS (fun (ag : (Err × Int) → Prop) (s : Err × Int) => l3 (fun x7 => j6' x7 k) (fun x7 x8 => ag (x7, x8)) x2 s.1 s.2 k) n (x7, x8)
def f0 (x0 : Int) (x1 : Int) (x2 : (List ByteArray)) (k : Err → Prop) : Prop := c (fun x2 x7 x8 => l3' x2 x7 x8 k) x0 x1 x2 k
theorem f_ex : ∃ g : Int → Int → (List ByteArray) → (Err → Prop) → Prop, g = f0 := ⟨_, rfl⟩
noncomputable def f : Int → Int → (List ByteArray) → (Err → Prop) → Prop := Classical.choose f_ex
theorem f_def : f = f0 := Classical.choose_spec f_ex
def mL3 (x2 : (List ByteArray)) (x7 : Err) (x8 : Int) : St := { tmps := mkT 26 0 [(2, (.fz Ty.str x2)), (7, (.er x7)), (8, (.v (.int IntKind.i64 x8)))], hp := [], m := 0 }
def m6 (x7 : Err) : St := { tmps := mkT 26 0 [(7, (.er x7))], hp := [], m := 0 }
noncomputable def YL3 (k kp : D → List Blk → Prop) : (St → Prop) → St → Prop := loopB cfg (sub [1, 1, 0, 1, 0, 0] body) (contK cfg (pick none' []) [1, 1, 0, 1, 0] body (topK cfg Tryd.f7 k kp))
noncomputable def XL3 (k kp : D → List Blk → Prop) : St → Prop := fun st => ∃ n, loopN (YL3 k kp) n st
noncomputable def X6 (k kp : D → List Blk → Prop) : St → Prop := atP cfg (pick none' []) [1, 1, 1] body (topK cfg Tryd.f7 k kp)
noncomputable def JJ_3 (k kp : D → List Blk → Prop) (ag3 : St → Prop) : Nat → St → Prop := pick none' [(6, X6 k kp)]
noncomputable def LL_3 (k kp : D → List Blk → Prop) (ag3 : St → Prop) : Nat → St → Prop := pick none' [(3, XL3 k kp)]
noncomputable def JJ (k kp : D → List Blk → Prop) : Nat → St → Prop := pick none' [(6, X6 k kp)]
noncomputable def LL (k kp : D → List Blk → Prop) : Nat → St → Prop := pick none' [(3, XL3 k kp)]
theorem j6_c (k kp : D → List Blk → Prop) (J L : Nat → St → Prop) (x7 : Err) : runC cfg 6 J L (pick none' []) [1, 1, 1] body (topK cfg Tryd.f7 k kp) (m6 x7) = j6 x7 (fun y0 => k (.er y0) []) := by kernel_rfl
theorem j6_ag (k kp : D → List Blk → Prop) : agPL cfg 6 (JJ k kp) (LL k kp) [1, 1, 1] body = agPR cfg 6 (pick none' []) [1, 1, 1] body (topK cfg Tryd.f7 k kp) := by kernel_rfl
theorem j6_raw (k kp : D → List Blk → Prop) (x7 : Err) : X6 k kp (m6 x7) = j6 x7 (fun y0 => k (.er y0) []) :=
  Eq.mp (by kernel_rfl) ((atP_run (j6_ag k kp) (m6 x7)).trans (j6_c k kp (JJ k kp) (LL k kp) x7))
theorem j6_eq (k kp : D → List Blk → Prop) (x7 : Err) : X6 k kp (m6 x7) = j6' x7 (fun y0 => k (.er y0) []) := by
  rw [j6_raw]; rfl
theorem l3_c (k kp : D → List Blk → Prop) (J L : Nat → St → Prop) (ag3 : St → Prop) (x2 : (List ByteArray)) (x7 : Err) (x8 : Int) : runC cfg 1000001 J L (pick none' [(3, ag3)]) [1, 1, 0, 1, 0, 0] body (topK cfg Tryd.f7 k kp) (mL3 x2 x7 x8) = l3 (fun x7 => J 6 (m6 x7)) (fun x7 x8 => ag3 (mL3 x2 x7 x8)) x2 x7 x8 (fun y0 => k (.er y0) []) := by kernel_rfl
theorem l3_ag (k kp : D → List Blk → Prop) (ag3 : St → Prop) : agPL cfg 1000001 (JJ_3 k kp ag3) (LL_3 k kp ag3) [1, 1, 0, 1, 0, 0] body = agPR cfg 1000001 (pick none' [(3, ag3)]) [1, 1, 0, 1, 0, 0] body (topK cfg Tryd.f7 k kp) := by kernel_rfl
theorem l3_raw (k kp : D → List Blk → Prop) (ag3 : St → Prop) (x2 : (List ByteArray)) (x7 : Err) (x8 : Int) : YL3 k kp ag3 (mL3 x2 x7 x8) = l3 (fun x7 => X6 k kp (m6 x7)) (fun x7 x8 => ag3 (mL3 x2 x7 x8)) x2 x7 x8 (fun y0 => k (.er y0) []) :=
  Eq.mp (by kernel_rfl) ((atP_run (l3_ag k kp ag3) (mL3 x2 x7 x8)).trans (l3_c k kp (JJ_3 k kp ag3) (LL_3 k kp ag3) ag3 x2 x7 x8))
theorem l3_eq (k kp : D → List Blk → Prop) (x2 : (List ByteArray)) (x7 : Err) (x8 : Int) : XL3 k kp (mL3 x2 x7 x8) = l3' x2 x7 x8 (fun y0 => k (.er y0) []) :=
  loop_eq (mk := fun (s : Err × Int) => mL3 x2 s.1 s.2) (fun again s => by rw [l3_raw k kp again x2 s.1 s.2]; simp only [j6_eq]; first | done | rfl) (x7, x8)
theorem c_c (k kp : D → List Blk → Prop) (J L : Nat → St → Prop) (x0 : Int) (x1 : Int) (x2 : (List ByteArray)) : runC cfg 1000001 J L none'' [] body (topK cfg Tryd.f7 k kp) (st0 Tryd.f7 [(.v (.int IntKind.i64 x0)), (.v (.int IntKind.i64 x1)), (.fz Ty.str x2)] []) = c (fun x2 x7 x8 => L 3 (mL3 x2 x7 x8)) x0 x1 x2 (fun y0 => k (.er y0) []) := by kernel_rfl
theorem c_ag (k kp : D → List Blk → Prop) : agPL cfg 1000001 (JJ k kp) (LL k kp) [] body = agPR cfg 1000001 none'' [] body (topK cfg Tryd.f7 k kp) := by kernel_rfl
theorem body_is : Tryd.f7.body = some body := by kernel_rfl
theorem c_raw (k kp : D → List Blk → Prop) (x0 : Int) (x1 : Int) (x2 : (List ByteArray)) : funW cfg Tryd.f7 [(.v (.int IntKind.i64 x0)), (.v (.int IntKind.i64 x1)), (.fz Ty.str x2)] [] k kp = c (fun x2 x7 x8 => XL3 k kp (mL3 x2 x7 x8)) x0 x1 x2 (fun y0 => k (.er y0) []) :=
  Eq.mp (by kernel_rfl) ((funW_run (AG := none'') body_is (c_ag k kp) [(.v (.int IntKind.i64 x0)), (.v (.int IntKind.i64 x1)), (.fz Ty.str x2)] []).trans (c_c k kp (JJ k kp) (LL k kp) x0 x1 x2))
theorem f_eq (k kp : D → List Blk → Prop) (x0 : Int) (x1 : Int) (x2 : (List ByteArray)) : funW cfg Tryd.f7 [(.v (.int IntKind.i64 x0)), (.v (.int IntKind.i64 x1)), (.fz Ty.str x2)] [] k kp = f x0 x1 x2 (fun y0 => k (.er y0) []) := by
  rw [f_def, c_raw]; simp only [l3_eq]; first | done | rfl
noncomputable def ent0 : Entry := fun args blks k _ => match args, blks with
  | [d0, d1, d2], [] => aInt IntKind.i64 d0 fun x0 => aInt IntKind.i64 d1 fun x1 => aFz Ty.str d2 fun x2 => f x0 x1 x2 (fun y0 => k (.er y0) [])
  | _, _ => False
noncomputable def ent : Entry := fun args blks k kp => ent0 (convB [.no, .no, .one Ty.str] args) blks k kp
theorem ok : EntOk Tryd.prog 40 49 7 ent := by
  refine EntOk.convB (EntOk.of (funW_ok (cfg := cfg) (tyOk_of rfl rfl tyL_ok) (eqOk_of (P := Tryd.prog) rfl rfl (by kernel_rfl)) mixed_ok (tab_ok ?_) Tryd.func7 (by rfl) (by rfl)) ?_) _
  · intro p hp
    simp only [List.mem_cons, List.not_mem_nil, or_false] at hp
    rcases hp with rfl | rfl
    · exact N15.ok
    · exact N14.ok
  · intro args blks k kp h k' kp'
    match args, blks, h with
    | [d0, d1, d2], [], h =>
    dsimp only [ent0] at h
    have h9 := aInt_elim h; clear h; obtain ⟨x0, rfl, h⟩ := h9
    have h9 := aInt_elim h; clear h; obtain ⟨x1, rfl, h⟩ := h9
    have h9 := aFz_elim (t := Ty.str) h; clear h; obtain ⟨x2, rfl, h⟩ := h9
    exact (f_eq k' kp' x0 x1 x2).symm
end N7
end Go.Proofs.Yd
namespace Go.Proofs.Yd
open Go Go.Aw Go.Proofs
set_option linter.unusedVariables false
set_option linter.unusedSimpArgs false
set_option maxRecDepth 100000
/-! dyehouse/dyehouseref05.Text -/
namespace N12
noncomputable def cfg : Cfg := { P := Tryd.prog, tf := 40, tw := 49, ty := tys, E := tab [(18, N18.ent)], atSeq := tab [(8, ⟨[(0, .keep), (1, .keep), (7, .keep)]⟩)], atLoop := tab [(5, ⟨[(0, .keep), (1, .keep), (2, .keep), (7, .keep), (8, .keep)]⟩)], outs := [], eqT := tab [], bT := tab [] }
noncomputable def body : Code := bodyOf Tryd.f12
def l5 (j8 : Int → Int → ByteArray → Prop) (ag5 : ByteArray → Int → Prop) (x0 : Int) (x1 : Int) (x2 : (List ByteArray)) (x7 : ByteArray) (x8 : Int) (k : ByteArray → Prop) : Prop :=
  (br (decide (x8 < ((((x2).length : Nat) : Int)))) ((inB 0 x8 ((((x2).length : Nat) : Int) - 1)) ∧ (((x7).size + ((x2.getD (Int.toNat x8) (ByteArray.empty))).size ≤ 9223372036854775807) ∧ ((((x7 ++ (x2.getD (Int.toNat x8) (ByteArray.empty)))).size + ((ByteArray.mk #[58, 32])).size ≤ 9223372036854775807) ∧ (ag5 ((x7 ++ (x2.getD (Int.toNat x8) (ByteArray.empty))) ++ (ByteArray.mk #[58, 32])) (IntKind.i64.wrap (x8 + (1 : Int))))))) (j8 x0 x1 x7))
def j8 (x0 : Int) (x1 : Int) (x7 : ByteArray) (k : ByteArray → Prop) : Prop :=
  (N18.f x0 (fun (y0_0 : ByteArray) => (((x7).size + (y0_0).size ≤ 9223372036854775807) ∧ ((((x7 ++ y0_0)).size + ((ByteArray.mk #[32, 97, 116, 32])).size ≤ 9223372036854775807) ∧ (N18.f x1 (fun (y0_1 : ByteArray) => (((((x7 ++ y0_0) ++ (ByteArray.mk #[32, 97, 116, 32]))).size + (y0_1).size ≤ 9223372036854775807) ∧ (k (((x7 ++ y0_0) ++ (ByteArray.mk #[32, 97, 116, 32])) ++ y0_1)))))))))
def c (l5 : Int → Int → (List ByteArray) → ByteArray → Int → Prop) (x0 : Int) (x1 : Int) (x2 : (List ByteArray)) (k : ByteArray → Prop) : Prop :=
  (br (x0 == (0 : Int)) (k (ByteArray.mk #[])) (l5 x0 x1 x2 (ByteArray.mk #[]) (0 : Int)))
def j8' (x0 : Int) (x1 : Int) (x7 : ByteArray) (k : ByteArray → Prop) : Prop := j8 x0 x1 x7 k
def l5' (x0 : Int) (x1 : Int) (x2 : (List ByteArray)) (x7 : ByteArray) (x8 : Int) (k : ByteArray → Prop) : Prop := ∃ n, loopS (fun (ag : (ByteArray × Int) → Prop) (s : ByteArray × Int) => l5 (fun x0 x1 x7 => j8' x0 x1 x7 k) (fun x7 x8 => ag (x7, x8)) x0 x1 x2 s.1 s.2 k) n (x7, x8)
def f0 (x0 : Int) (x1 : Int) (x2 : (List ByteArray)) (k : ByteArray → Prop) : Prop := c (fun x0 x1 x2 x7 x8 => l5' x0 x1 x2 x7 x8 k) x0 x1 x2 k
theorem f_ex : ∃ g : Int → Int → (List ByteArray) → (ByteArray → Prop) → Prop, g = f0 := ⟨_, rfl⟩
noncomputable def f : Int → Int → (List ByteArray) → (ByteArray → Prop) → Prop := Classical.choose f_ex
theorem f_def : f = f0 := Classical.choose_spec f_ex
def mL5 (x0 : Int) (x1 : Int) (x2 : (List ByteArray)) (x7 : ByteArray) (x8 : Int) : St := { tmps := mkT 32 0 [(0, (.v (.int IntKind.i64 x0))), (1, (.v (.int IntKind.i64 x1))), (2, (.fz Ty.str x2)), (7, (.v (.string x7))), (8, (.v (.int IntKind.i64 x8)))], hp := [], m := 0 }
def m8 (x0 : Int) (x1 : Int) (x7 : ByteArray) : St := { tmps := mkT 32 0 [(0, (.v (.int IntKind.i64 x0))), (1, (.v (.int IntKind.i64 x1))), (7, (.v (.string x7)))], hp := [], m := 0 }
noncomputable def YL5 (k kp : D → List Blk → Prop) : (St → Prop) → St → Prop := loopB cfg (sub [1, 1, 1, 0, 1, 0, 0] body) (contK cfg (pick none' []) [1, 1, 1, 0, 1, 0] body (topK cfg Tryd.f12 k kp))
noncomputable def XL5 (k kp : D → List Blk → Prop) : St → Prop := fun st => ∃ n, loopN (YL5 k kp) n st
noncomputable def X8 (k kp : D → List Blk → Prop) : St → Prop := atP cfg (pick none' []) [1, 1, 1, 1] body (topK cfg Tryd.f12 k kp)
noncomputable def JJ_5 (k kp : D → List Blk → Prop) (ag5 : St → Prop) : Nat → St → Prop := pick none' [(8, X8 k kp)]
noncomputable def LL_5 (k kp : D → List Blk → Prop) (ag5 : St → Prop) : Nat → St → Prop := pick none' [(5, XL5 k kp)]
noncomputable def JJ (k kp : D → List Blk → Prop) : Nat → St → Prop := pick none' [(8, X8 k kp)]
noncomputable def LL (k kp : D → List Blk → Prop) : Nat → St → Prop := pick none' [(5, XL5 k kp)]
theorem j8_c (k kp : D → List Blk → Prop) (J L : Nat → St → Prop) (x0 : Int) (x1 : Int) (x7 : ByteArray) : runC cfg 8 J L (pick none' []) [1, 1, 1, 1] body (topK cfg Tryd.f12 k kp) (m8 x0 x1 x7) = j8 x0 x1 x7 (fun y0 => k (.v (.string y0)) []) := by kernel_rfl
theorem j8_ag (k kp : D → List Blk → Prop) : agPL cfg 8 (JJ k kp) (LL k kp) [1, 1, 1, 1] body = agPR cfg 8 (pick none' []) [1, 1, 1, 1] body (topK cfg Tryd.f12 k kp) := by kernel_rfl
theorem j8_raw (k kp : D → List Blk → Prop) (x0 : Int) (x1 : Int) (x7 : ByteArray) : X8 k kp (m8 x0 x1 x7) = j8 x0 x1 x7 (fun y0 => k (.v (.string y0)) []) :=
  Eq.mp (by kernel_rfl) ((atP_run (j8_ag k kp) (m8 x0 x1 x7)).trans (j8_c k kp (JJ k kp) (LL k kp) x0 x1 x7))
theorem j8_eq (k kp : D → List Blk → Prop) (x0 : Int) (x1 : Int) (x7 : ByteArray) : X8 k kp (m8 x0 x1 x7) = j8' x0 x1 x7 (fun y0 => k (.v (.string y0)) []) := by
  rw [j8_raw]; rfl
theorem l5_c (k kp : D → List Blk → Prop) (J L : Nat → St → Prop) (ag5 : St → Prop) (x0 : Int) (x1 : Int) (x2 : (List ByteArray)) (x7 : ByteArray) (x8 : Int) : runC cfg 1000001 J L (pick none' [(5, ag5)]) [1, 1, 1, 0, 1, 0, 0] body (topK cfg Tryd.f12 k kp) (mL5 x0 x1 x2 x7 x8) = l5 (fun x0 x1 x7 => J 8 (m8 x0 x1 x7)) (fun x7 x8 => ag5 (mL5 x0 x1 x2 x7 x8)) x0 x1 x2 x7 x8 (fun y0 => k (.v (.string y0)) []) := by kernel_rfl
theorem l5_ag (k kp : D → List Blk → Prop) (ag5 : St → Prop) : agPL cfg 1000001 (JJ_5 k kp ag5) (LL_5 k kp ag5) [1, 1, 1, 0, 1, 0, 0] body = agPR cfg 1000001 (pick none' [(5, ag5)]) [1, 1, 1, 0, 1, 0, 0] body (topK cfg Tryd.f12 k kp) := by kernel_rfl
theorem l5_raw (k kp : D → List Blk → Prop) (ag5 : St → Prop) (x0 : Int) (x1 : Int) (x2 : (List ByteArray)) (x7 : ByteArray) (x8 : Int) : YL5 k kp ag5 (mL5 x0 x1 x2 x7 x8) = l5 (fun x0 x1 x7 => X8 k kp (m8 x0 x1 x7)) (fun x7 x8 => ag5 (mL5 x0 x1 x2 x7 x8)) x0 x1 x2 x7 x8 (fun y0 => k (.v (.string y0)) []) :=
  Eq.mp (by kernel_rfl) ((atP_run (l5_ag k kp ag5) (mL5 x0 x1 x2 x7 x8)).trans (l5_c k kp (JJ_5 k kp ag5) (LL_5 k kp ag5) ag5 x0 x1 x2 x7 x8))
theorem l5_eq (k kp : D → List Blk → Prop) (x0 : Int) (x1 : Int) (x2 : (List ByteArray)) (x7 : ByteArray) (x8 : Int) : XL5 k kp (mL5 x0 x1 x2 x7 x8) = l5' x0 x1 x2 x7 x8 (fun y0 => k (.v (.string y0)) []) :=
  loop_eq (mk := fun (s : ByteArray × Int) => mL5 x0 x1 x2 s.1 s.2) (fun again s => by rw [l5_raw k kp again x0 x1 x2 s.1 s.2]; simp only [j8_eq]; first | done | rfl) (x7, x8)
theorem c_c (k kp : D → List Blk → Prop) (J L : Nat → St → Prop) (x0 : Int) (x1 : Int) (x2 : (List ByteArray)) : runC cfg 1000001 J L none'' [] body (topK cfg Tryd.f12 k kp) (st0 Tryd.f12 [(.v (.int IntKind.i64 x0)), (.v (.int IntKind.i64 x1)), (.fz Ty.str x2)] []) = c (fun x0 x1 x2 x7 x8 => L 5 (mL5 x0 x1 x2 x7 x8)) x0 x1 x2 (fun y0 => k (.v (.string y0)) []) := by kernel_rfl
theorem c_ag (k kp : D → List Blk → Prop) : agPL cfg 1000001 (JJ k kp) (LL k kp) [] body = agPR cfg 1000001 none'' [] body (topK cfg Tryd.f12 k kp) := by kernel_rfl
theorem body_is : Tryd.f12.body = some body := by kernel_rfl
theorem c_raw (k kp : D → List Blk → Prop) (x0 : Int) (x1 : Int) (x2 : (List ByteArray)) : funW cfg Tryd.f12 [(.v (.int IntKind.i64 x0)), (.v (.int IntKind.i64 x1)), (.fz Ty.str x2)] [] k kp = c (fun x0 x1 x2 x7 x8 => XL5 k kp (mL5 x0 x1 x2 x7 x8)) x0 x1 x2 (fun y0 => k (.v (.string y0)) []) :=
  Eq.mp (by kernel_rfl) ((funW_run (AG := none'') body_is (c_ag k kp) [(.v (.int IntKind.i64 x0)), (.v (.int IntKind.i64 x1)), (.fz Ty.str x2)] []).trans (c_c k kp (JJ k kp) (LL k kp) x0 x1 x2))
theorem f_eq (k kp : D → List Blk → Prop) (x0 : Int) (x1 : Int) (x2 : (List ByteArray)) : funW cfg Tryd.f12 [(.v (.int IntKind.i64 x0)), (.v (.int IntKind.i64 x1)), (.fz Ty.str x2)] [] k kp = f x0 x1 x2 (fun y0 => k (.v (.string y0)) []) := by
  rw [f_def, c_raw]; simp only [l5_eq]; first | done | rfl
noncomputable def ent0 : Entry := fun args blks k _ => match args, blks with
  | [d0, d1, d2], [] => aInt IntKind.i64 d0 fun x0 => aInt IntKind.i64 d1 fun x1 => aFz Ty.str d2 fun x2 => f x0 x1 x2 (fun y0 => k (.v (.string y0)) [])
  | _, _ => False
noncomputable def ent : Entry := fun args blks k kp => ent0 (convB [.no, .no, .one Ty.str] args) blks k kp
theorem ok : EntOk Tryd.prog 40 49 12 ent := by
  refine EntOk.convB (EntOk.of (funW_ok (cfg := cfg) (tyOk_of rfl rfl tyL_ok) (eqOk_of (P := Tryd.prog) rfl rfl (by kernel_rfl)) mixed_ok (tab_ok ?_) Tryd.func12 (by rfl) (by rfl)) ?_) _
  · intro p hp
    simp only [List.mem_cons, List.not_mem_nil, or_false] at hp
    rcases hp with rfl
    · exact N18.ok
  · intro args blks k kp h k' kp'
    match args, blks, h with
    | [d0, d1, d2], [], h =>
    dsimp only [ent0] at h
    have h9 := aInt_elim h; clear h; obtain ⟨x0, rfl, h⟩ := h9
    have h9 := aInt_elim h; clear h; obtain ⟨x1, rfl, h⟩ := h9
    have h9 := aFz_elim (t := Ty.str) h; clear h; obtain ⟨x2, rfl, h⟩ := h9
    exact (f_eq k' kp' x0 x1 x2).symm
end N12
end Go.Proofs.Yd
namespace Go.Proofs.Yd
open Go Go.Aw Go.Proofs Go.RowKit Go.Extern.Stop Go.Stop Go.Extern
set_option linter.unusedVariables false
set_option linter.unusedSimpArgs false

/-! ### An error's text -/
theorem F.methodErrorF (v : Value) (w : World) : (Go.method 219 40 v "Error").run Tryd.prog w = .ok (47, v) w := by kernel_rfl
theorem F.methodErrorW (v : Value) (w : World) : (Go.method 219 49 v "Error").run Tryd.prog w = .ok (51, v) w := by kernel_rfl
theorem F.put_run (n : Int) (hn : in64 n) (w : World) (hG : ∀ g v, hdlOf Tryd.prog = some (g, v) → w.cell? ⟨g, 0, none⟩ = some v) : Calls Tryd.prog 49 #[.int .i64 n] w fun ev w' => ev = .returned (.string (bytesOf (putZ n))) ∧ Below w.heap.size w w' :=
  calls_of (ds := [.v (.int .i64 n)]) N49.ok hG ⟨_, _, rfl, by simp only [Rep], by simp only [RepL]⟩ _ (show N49.ent _ _ _ _ from put_s n hn _ rfl)

theorem F.put_at (n : Int) (hn : in64 n) (w : World) (hG : ∀ g v, hdlOf Tryd.prog = some (g, v) → w.cell? ⟨g, 0, none⟩ = some v) : ∃ X : ByteArray, bytesOf (putZ n) = X ∧ X.size ≤ 21 ∧ ∀ w1, Below w.heap.size w w1 → Calls Tryd.prog 49 #[.int .i64 n] w1 fun ev w' => ev = .returned (.string X) ∧ Below w.heap.size w w' := by
  refine ⟨_, rfl, by rw [bytesOf_size]; exact (putZ_len n).2, fun w1 hb => ?_⟩
  refine (F.put_run n hn w1 ?_).mono ?_
  · intro g v hg
    have := hG g v hg
    rw [hb.cell (World.block_lt_of_cell? _ _ this)]
    exact this
  · rintro ev w' ⟨rfl, hb2⟩
    exact ⟨rfl, hb.trans (hb2.mono hb.size)⟩
theorem F.textF {X Y : ByteArray} {c a : Int} (hX : bytesOf (putZ c) = X) (hY : bytesOf (putZ a) = Y) : X ++ ⟨#[32, 97, 116, 32]⟩ ++ Y = textB (.flt c a) := by
  subst hX; subst hY
  unfold textB textL
  rw [bytesOf_append, bytesOf_append]
  rfl
set_option maxRecDepth 1000000 in
set_option maxHeartbeats 1000000 in
theorem F.errF_run (c a : Int) (hc : in64 c) (ha : in64 a) (pb po : Nat) (w : World) (hpb : pb < w.heap.size) (hG : ∀ g v, hdlOf Tryd.prog = some (g, v) → w.cell? ⟨g, 0, none⟩ = some v) (h0 : w.cell? ⟨pb, po, none⟩ = some (.int .i64 c)) (h1 : w.cell? ⟨pb, po + 1, none⟩ = some (.int .i64 a)) :
    Calls Tryd.prog 47 #[.pointer (some ⟨pb, po, none⟩)] w fun ev w' => ev = .returned (.string (textB (.flt c a))) ∧ Below w.heap.size w w' := by
  obtain ⟨X, eX, zX, kX⟩ := F.put_at c hc w hG
  obtain ⟨Y, eY, zY, kY⟩ := F.put_at a ha w hG
  have eT := F.textF eX eY
  have s1 : (9223372036854775807 < X.size + 4) = False := by simp; omega
  have s2 : (9223372036854775807 < X.size + 4 + Y.size) = False := by simp; omega
  clear hG eX eY hc ha zX zY
  go_enter Tryd.func47, Tryd.ntmps47
  go_wp2_with fail
  go_region_held3 (fun w' => w'.cell? ⟨pb, po, none⟩ = some (.int .i64 c) ∧ w'.cell? ⟨pb, po + 1, none⟩ = some (.int .i64 a))
    (first
      | go_keep
      | exact ⟨(hq2.cell hpb).trans h0, (hq2.cell hpb).trans h1⟩
      | exact ⟨(hq.cell hpb).trans h0, (hq.cell hpb).trans h1⟩)
    (first
      | (go_at_call 49; refine (kY _ hq).mono ?_; rintro ev w2 ⟨rfl, hq2⟩)
      | (go_at_call 49; refine (kX _ (Below.refl _ _).drew).mono ?_; rintro ev w1 ⟨rfl, hq⟩))
  go_wp2
  go_ret
  exact ⟨rfl, hq2⟩
set_option maxRecDepth 1000000 in
set_option maxHeartbeats 1000000 in
theorem F.errW_runF (s Y : ByteArray) (vi : Value) (hs : s.size + 2 + Y.size ≤ 9223372036854775807) (pb po : Nat) (w : World) (hpb : pb < w.heap.size) (h0 : w.cell? ⟨pb, po, none⟩ = some (.string s)) (h1 : w.cell? ⟨pb, po + 1, none⟩ = some (.iface 40 vi))
    (kY : ∀ w1, Below w.heap.size w w1 → Calls Tryd.prog 47 #[vi] w1 fun ev w' => ev = .returned (.string Y) ∧ Below w.heap.size w w') :
    Calls Tryd.prog 51 #[.pointer (some ⟨pb, po, none⟩)] w fun ev w' => ev = .returned (.string (s ++ ⟨#[58, 32]⟩ ++ Y)) ∧ Below w.heap.size w w' := by
  have s1 : (9223372036854775807 < s.size + 2) = False := by simp; omega
  have s2 : (9223372036854775807 < s.size + 2 + Y.size) = False := by simp; omega
  have mE := F.methodErrorF
  clear hs
  go_enter Tryd.func51, Tryd.ntmps51
  go_wp2_with fail
  go_region_held3 (fun w' => w'.cell? ⟨pb, po, none⟩ = some (.string s) ∧ w'.cell? ⟨pb, po + 1, none⟩ = some (.iface 40 vi))
    (first
      | go_keep
      | exact ⟨(hq.cell hpb).trans h0, (hq.cell hpb).trans h1⟩)
    (first
      | (go_at_call 47; refine (kY _ (Below.refl _ _).drew).mono ?_; rintro ev w1 ⟨rfl, hq⟩))
  go_wp2
  go_ret
  exact ⟨rfl, hq⟩
set_option maxRecDepth 1000000 in
set_option maxHeartbeats 1000000 in
theorem F.errW_runW (s Y : ByteArray) (vi : Value) (hs : s.size + 2 + Y.size ≤ 9223372036854775807) (pb po : Nat) (w : World) (hpb : pb < w.heap.size) (h0 : w.cell? ⟨pb, po, none⟩ = some (.string s)) (h1 : w.cell? ⟨pb, po + 1, none⟩ = some (.iface 49 vi))
    (kY : ∀ w1, Below w.heap.size w w1 → Calls Tryd.prog 51 #[vi] w1 fun ev w' => ev = .returned (.string Y) ∧ Below w.heap.size w w') :
    Calls Tryd.prog 51 #[.pointer (some ⟨pb, po, none⟩)] w fun ev w' => ev = .returned (.string (s ++ ⟨#[58, 32]⟩ ++ Y)) ∧ Below w.heap.size w w' := by
  have s1 : (9223372036854775807 < s.size + 2) = False := by simp; omega
  have s2 : (9223372036854775807 < s.size + 2 + Y.size) = False := by simp; omega
  have mE := F.methodErrorW
  clear hs
  go_enter Tryd.func51, Tryd.ntmps51
  go_wp2_with fail
  go_region_held3 (fun w' => w'.cell? ⟨pb, po, none⟩ = some (.string s) ∧ w'.cell? ⟨pb, po + 1, none⟩ = some (.iface 49 vi))
    (first
      | go_keep
      | exact ⟨(hq.cell hpb).trans h0, (hq.cell hpb).trans h1⟩)
    (first
      | (go_at_call 51; refine (kY _ (Below.refl _ _).drew).mono ?_; rintro ev w1 ⟨rfl, hq⟩))
  go_wp2
  go_ret
  exact ⟨rfl, hq⟩

theorem F.textW {s : ByteArray} {e : Err} : s ++ ⟨#[58, 32]⟩ ++ textB e = textB (.win s e) := by
  unfold textB
  show _ = bytesOf (ofBytes s ++ [58, 32] ++ textL e)
  rw [bytesOf_append, bytesOf_append, bytesOf_ofBytes]
  rfl
abbrev ChainT (w : World) (u : Value) (e : Err) : Prop := RepE w (fun a => a.block < w.heap.size) 40 49 e u
/-- What an error's method gives. -/
theorem F.err_run : ∀ (e : Err), solidE e → (textL e).length ≤ 9223372036854775807 → ∀ (u : Value) (w : World), ChainT w u e → (∀ g v, hdlOf Tryd.prog = some (g, v) → w.cell? ⟨g, 0, none⟩ = some v) →
    (∃ v, u = .iface 40 v ∧ Calls Tryd.prog 47 #[v] w fun ev w' => ev = .returned (.string (textB e)) ∧ Below w.heap.size w w') ∨
    (∃ v, u = .iface 49 v ∧ Calls Tryd.prog 51 #[v] w fun ev w' => ev = .returned (.string (textB e)) ∧ Below w.heap.size w w') := by
  intro e
  induction e with
  | nil => intro h; exact h.elim
  | wrg t i => intro h; exact h.elim
  | flt c a =>
    intro hs hl u w hr hG
    obtain ⟨p, rfl, hat⟩ := hr
    obtain ⟨pb, po, rfl, hpb, h0, h1⟩ := hat.flat2
    exact .inl ⟨_, rfl, F.errF_run c a hs.1 hs.2 pb po w hpb hG h0 h1⟩
  | win s i ih =>
    intro hs hl u w hr hG
    obtain ⟨p, vi, rfl, hat, hin⟩ := hr
    obtain ⟨pb, po, rfl, hpb, h0, h1⟩ := hat.flat2
    have hlen : (textL (.win s i)).length = s.size + 2 + (textL i).length := by
      show (ofBytes s ++ [58, 32] ++ textL i).length = _
      simp [ofBytes_length]; omega
    have hsz : s.size + 2 + (textB i).size ≤ 9223372036854775807 := by
      unfold textB
      rw [bytesOf_size]
      omega
    have tr : ∀ w1, Below w.heap.size w w1 → ChainT w1 vi i ∧ ∀ g v, hdlOf Tryd.prog = some (g, v) → w1.cell? ⟨g, 0, none⟩ = some v := by
      intro w1 hb
      refine ⟨hin.ext fun a ha => ⟨Nat.lt_of_lt_of_le ha hb.size, hb.cell ha⟩, fun g v hg => ?_⟩
      have := hG g v hg
      rw [hb.cell (World.block_lt_of_cell? _ _ this)]
      exact this
    have up : ∀ {w1 w2 : World}, Below w.heap.size w w1 → Below w1.heap.size w1 w2 → Below w.heap.size w w2 := fun h1 h2 => h1.trans (h2.mono h1.size)
    refine .inr ⟨_, rfl, ?_⟩
    rw [← F.textW]
    rcases ih hs (by omega) vi w hin hG with ⟨v, rfl, _⟩ | ⟨v, rfl, _⟩
    · refine F.errW_runF s (textB i) v hsz pb po w hpb h0 h1 fun w1 hb => ?_
      obtain ⟨h2, h3⟩ := tr w1 hb
      rcases ih hs (by omega) _ w1 h2 h3 with ⟨v', e, h⟩ | ⟨v', e, _⟩
      · cases e
        refine h.mono ?_
        rintro ev w' ⟨rfl, hb2⟩
        exact ⟨rfl, up hb hb2⟩
      · cases e
    · refine F.errW_runW s (textB i) v hsz pb po w hpb h0 h1 fun w1 hb => ?_
      obtain ⟨h2, h3⟩ := tr w1 hb
      rcases ih hs (by omega) _ w1 h2 h3 with ⟨v', e, _⟩ | ⟨v', e, h⟩
      · cases e
      · cases e
        refine h.mono ?_
        rintro ev w' ⟨rfl, hb2⟩
        exact ⟨rfl, up hb hb2⟩

theorem F.text_run (e : Err) (u : Value) (w : World) (hG : ∀ g v, hdlOf Tryd.prog = some (g, v) → w.cell? ⟨g, 0, none⟩ = some v) (hr : ChainT w u e) (ht : textOk e) :
    Calls Tryd.prog 10 #[u] w fun ev w' => ev = .returned (.string (textB e)) ∧ Below w.heap.size w w' := by
  have mF := F.methodErrorF
  have mW := F.methodErrorW
  rcases ht with ⟨rfl | hs, hl⟩
  · cases hr
    clear hG
    go_enter Tryd.func10, Tryd.ntmps10
    go_wp2
    go_ret
    exact ⟨rfl, Below.refl _ _⟩
  · rcases F.err_run e hs hl u w hr hG with ⟨v, rfl, h⟩ | ⟨v, rfl, h⟩
    · clear hG hr
      go_enter Tryd.func10, Tryd.ntmps10
      go_wp2_with (go_at_call 47; refine h.mono ?_; rintro ev w' ⟨rfl, hb⟩)
      go_ret
      exact ⟨rfl, hb⟩
    · clear hG hr
      go_enter Tryd.func10, Tryd.ntmps10
      go_wp2_with (go_at_call 51; refine h.mono ?_; rintro ev w' ⟨rfl, hb⟩)
      go_ret
      exact ⟨rfl, hb⟩
namespace N10
def ent : Entry := erEntT textOk fun e => .string (textB e)
theorem ok : EntOk Tryd.prog 40 49 10 ent := er_okT Tryd.func10 (by kernel_rfl) (by kernel_rfl) fun e u w hg hr ht => F.text_run e u w hg hr ht
end N10
end Go.Proofs.Yd
namespace Go.Proofs.Yd
open Go Go.Aw Go.Proofs
set_option linter.unusedVariables false
set_option linter.unusedSimpArgs false
set_option maxRecDepth 100000
/-! dyehouse/dyehouselaw05.works -/
namespace N6
noncomputable def cfg : Cfg := { P := Tryd.prog, tf := 40, tw := 49, ty := tys, E := tab [(15, N15.ent), (14, N14.ent), (8, N8.ent), (9, N9.ent), (13, N13.ent), (10, N10.ent), (11, N11.ent)], atSeq := tab [], atLoop := tab [], outs := [], eqT := tab [], bT := tab [] }
noncomputable def body : Code := bodyOf Tryd.f6
def c (k : Bool → Prop) : Prop :=
  ((plainE (inE (ByteArray.mk #[102, 117, 110, 99]) (newE (32 : Int) (7 : Int))) = true) ∧ (br ((ofE (inE (ByteArray.mk #[102, 117, 110, 99]) (newE (32 : Int) (7 : Int)))) == (32 : Int)) ((plainE (inE (ByteArray.mk #[102, 117, 110, 99]) (newE (32 : Int) (7 : Int))) = true) ∧ (br ((atE (inE (ByteArray.mk #[102, 117, 110, 99]) (newE (32 : Int) (7 : Int)))) == (7 : Int)) ((plainE (inE (ByteArray.mk #[102, 117, 110, 99]) (newE (32 : Int) (7 : Int))) = true) ∧ (br (hasE (inE (ByteArray.mk #[102, 117, 110, 99]) (newE (32 : Int) (7 : Int))) (32 : Int)) ((plainE (inE (ByteArray.mk #[102, 117, 110, 99]) (newE (32 : Int) (7 : Int))) = true) ∧ (br (!(hasE (inE (ByteArray.mk #[102, 117, 110, 99]) (newE (32 : Int) (7 : Int))) (31 : Int))) ((textOk (inE (ByteArray.mk #[102, 117, 110, 99]) (newE (32 : Int) (7 : Int)))) ∧ (br (beqS (textB (inE (ByteArray.mk #[102, 117, 110, 99]) (newE (32 : Int) (7 : Int)))) (ByteArray.mk #[102, 117, 110, 99, 58, 32, 51, 50, 32, 97, 116, 32, 55])) ((plainE (inE (ByteArray.mk #[102, 117, 110, 99]) (newE (32 : Int) (7 : Int))) = true) ∧ (((pathE (inE (ByteArray.mk #[102, 117, 110, 99]) (newE (32 : Int) (7 : Int)))).length ≤ 1000000) ∧ (br ((((((pathE (inE (ByteArray.mk #[102, 117, 110, 99]) (newE (32 : Int) (7 : Int))))).length : Nat) : Int)) == (1 : Int)) ((plainE Err.nil = true) ∧ (k ((ofE Err.nil) == (0 : Int)))) (k false)))) (k false))) (k false))) (k false))) (k false))) (k false)))
def f0 (k : Bool → Prop) : Prop := c k
theorem f_ex : ∃ g : (Bool → Prop) → Prop, g = f0 := ⟨_, rfl⟩
noncomputable def f : (Bool → Prop) → Prop := Classical.choose f_ex
theorem f_def : f = f0 := Classical.choose_spec f_ex
noncomputable def JJ (k kp : D → List Blk → Prop) : Nat → St → Prop := pick none' []
noncomputable def LL (k kp : D → List Blk → Prop) : Nat → St → Prop := pick none' []
theorem c_c (k kp : D → List Blk → Prop) (J L : Nat → St → Prop) : runC cfg 1000001 J L none'' [] body (topK cfg Tryd.f6 k kp) (st0 Tryd.f6 [] []) = c (fun y0 => k (.v (.bool y0)) []) := by kernel_rfl
theorem c_ag (k kp : D → List Blk → Prop) : agPL cfg 1000001 (JJ k kp) (LL k kp) [] body = agPR cfg 1000001 none'' [] body (topK cfg Tryd.f6 k kp) := by kernel_rfl
theorem body_is : Tryd.f6.body = some body := by kernel_rfl
theorem c_raw (k kp : D → List Blk → Prop) : funW cfg Tryd.f6 [] [] k kp = c (fun y0 => k (.v (.bool y0)) []) :=
  Eq.mp (by kernel_rfl) ((funW_run (AG := none'') body_is (c_ag k kp) [] []).trans (c_c k kp (JJ k kp) (LL k kp)))
theorem f_eq (k kp : D → List Blk → Prop) : funW cfg Tryd.f6 [] [] k kp = f (fun y0 => k (.v (.bool y0)) []) := by
  rw [f_def, c_raw]; rfl
noncomputable def ent0 : Entry := fun args blks k _ => match args, blks with
  | [], [] => f (fun y0 => k (.v (.bool y0)) [])
  | _, _ => False
noncomputable def ent : Entry := fun args blks k kp => ent0 (convB [] args) blks k kp
theorem ok : EntOk Tryd.prog 40 49 6 ent := by
  refine EntOk.convB (EntOk.of (funW_ok (cfg := cfg) (tyOk_of rfl rfl tyL_ok) (eqOk_of (P := Tryd.prog) rfl rfl (by kernel_rfl)) mixed_ok (tab_ok ?_) Tryd.func6 (by rfl) (by rfl)) ?_) _
  · intro p hp
    simp only [List.mem_cons, List.not_mem_nil, or_false] at hp
    rcases hp with rfl | rfl | rfl | rfl | rfl | rfl | rfl
    · exact N15.ok
    · exact N14.ok
    · exact N8.ok
    · exact N9.ok
    · exact N13.ok
    · exact N10.ok
    · exact N11.ok
  · intro args blks k kp h k' kp'
    match args, blks, h with
    | [], [], h =>
    dsimp only [ent0] at h
    exact (f_eq k' kp').symm
end N6
end Go.Proofs.Yd
namespace Go.Proofs.Yd
open Go Go.Aw Go.Proofs Go.RowKit
set_option linter.unusedVariables false
set_option linter.unusedSimpArgs false

def madeE (c a : Int) (ps : List ByteArray) : Err := ps.foldr inE (newE c a)
theorem putZ_eq (n : Int) : putZ n = putL n := rfl

theorem made_s (c a : Int) (ps : List ByteArray) (hl : ps.length ≤ 1000000) (k : Err → Prop) (h : k (madeE c a ps)) : N7.f c a ps k := by
  rw [N7.f_def]
  unfold N7.f0 N7.c N7.l3'
  rw [wrap_id (n := (ps.length : Int) - 1) (by omega) (by omega)]
  refine loopS_of (fun s : Err × Int => ∃ i : Nat, s.2 = (i : Int) - 1 ∧ i ≤ ps.length ∧ s.1 = (ps.drop i).foldr inE (newE c a)) (fun s => (s.2 + 1).toNat) ?_ ⟨ps.length, rfl, Nat.le_refl _, by simp⟩
  rintro again ⟨e, j⟩ ⟨i, e1, hi, e2⟩ hag
  simp only at e1 e2
  subst e1; subst e2
  unfold N7.l3 N7.j6' N7.j6
  dsimp only
  refine br_of (fun hge => ?_) (fun hlt => ?_)
  · have h1 : 1 ≤ i := by simp at hge; omega
    refine ⟨⟨by omega, by omega, by omega⟩, ?_⟩
    rw [wrap_id (n := (i : Int) - 1 - 1) (by omega) (by omega), show ((i : Int) - 1).toNat = i - 1 by omega]
    refine hag _ ⟨i - 1, by simp only; omega, by omega, ?_⟩ (by simp only; omega)
    rw [drop_get (i := i - 1) (d := ByteArray.empty) (by omega), show i - 1 + 1 = i by omega]
    rfl
  · have h0 : i = 0 := by simp at hlt; omega
    subst h0
    exact h

theorem made_nil (a : Int) (ps : List ByteArray) : madeE 0 a ps = .nil := by
  unfold madeE
  induction ps with
  | nil => rfl
  | cons p ps ih => rw [List.foldr_cons, ih]; rfl
theorem made_win {c : Int} (hc : c ≠ 0) (a : Int) (ps : List ByteArray) : madeE c a ps = ps.foldr .win (.flt c a) := by
  have hne : ∀ ps : List ByteArray, (ps.foldr Err.win (Err.flt c a)).isNil = false := by intro ps; cases ps <;> rfl
  unfold madeE
  induction ps with
  | nil => simp [newE, hc]
  | cons p ps ih =>
    rw [List.foldr_cons, ih, List.foldr_cons]
    have := hne ps
    revert this
    cases ps.foldr Err.win (Err.flt c a) <;> intro h <;> first | rfl | cases h
theorem made_root {c : Int} (hc : c ≠ 0) (a : Int) (ps : List ByteArray) : rootE (madeE c a ps) = some (c, a) ∧ pathE (madeE c a ps) = ps ∧ plainE (madeE c a ps) = true ∧ (in64 c → in64 a → solidE (madeE c a ps)) := by
  rw [made_win hc]
  induction ps with
  | nil => exact ⟨rfl, rfl, rfl, fun h1 h2 => ⟨h1, h2⟩⟩
  | cons p ps ih =>
    obtain ⟨h1, h2, h3, h4⟩ := ih
    exact ⟨h1, by rw [List.foldr_cons]; show p :: pathE _ = _; rw [h2], h3, h4⟩
theorem made_plain (c a : Int) (ps : List ByteArray) : plainE (madeE c a ps) = true := by
  by_cases hc : c = 0
  · subst hc; rw [made_nil]; rfl
  · exact (made_root hc a ps).2.2.1

def ahead (ps : List ByteArray) : List Int := ps.flatMap fun s => ofBytes s ++ [58, 32]
theorem made_text {c : Int} (hc : c ≠ 0) (a : Int) (ps : List ByteArray) : textL (madeE c a ps) = ahead ps ++ (putL c ++ [32, 97, 116, 32] ++ putL a) := by
  rw [made_win hc]
  induction ps with
  | nil => rfl
  | cons p ps ih =>
    rw [List.foldr_cons]
    show ofBytes p ++ [58, 32] ++ textL _ = _
    rw [ih]
    simp [ahead]
theorem ahead_len {ps : List ByteArray} {M : Nat} (h : ∀ p ∈ ps, p.size ≤ M) : (ahead ps).length ≤ ps.length * (M + 2) := by
  induction ps with
  | nil => simp [ahead]
  | cons p ps ih =>
    have h1 := h p (by simp)
    have h2 := ih (fun q hq => h q (by simp [hq]))
    have : (ahead (p :: ps)).length = p.size + 2 + (ahead ps).length := by simp [ahead, ofBytes_length]; omega
    rw [this, List.length_cons, Nat.succ_mul]
    omega
theorem wf_strs {ps : List ByteArray} (w : Ty.Wf (Ty.list Ty.str) ps) : ∀ p ∈ ps, p.size ≤ 140737488351232 := fun p hp => w.2 p hp

theorem text_s (c a : Int) (hc : in64 c) (ha : in64 a) (ps : List ByteArray) (hl : ps.length ≤ 30) (hz : ∀ p ∈ ps, p.size ≤ 140737488351232) (k : ByteArray → Prop) (h : k (if c = 0 then ByteArray.mk #[] else textB (madeE c a ps))) : N12.f c a ps k := by
  rw [N12.f_def]
  unfold N12.f0 N12.c
  simp only [br_beq]
  by_cases h0 : c = 0
  · rw [if_pos h0] at h ⊢; exact h
  · rw [if_neg h0] at h ⊢
    unfold N12.l5'
    refine loopS_of (fun s : ByteArray × Int => ∃ i : Nat, s.2 = (i : Int) ∧ i ≤ ps.length ∧ s.1 = bytesOf (ahead (ps.take i))) (fun s => ps.length - s.2.toNat) ?_ ⟨0, rfl, Nat.zero_le _, rfl⟩
    rintro again ⟨b, j⟩ ⟨i, e1, hi, e2⟩ hag
    simp only at e1 e2
    subst e1; subst e2
    unfold N12.l5 N12.j8' N12.j8
    dsimp only
    have hA := ahead_len (ps := ps.take i) (M := 140737488351232) fun p hp => hz p (List.mem_of_mem_take hp)
    have hti : (ps.take i).length ≤ 30 := by rw [List.length_take]; omega
    have hA' : (ahead (ps.take i)).length ≤ 30 * (140737488351232 + 2) := Nat.le_trans hA (Nat.mul_le_mul_right _ hti)
    refine br_of (fun hlt => ?_) (fun hge => ?_)
    · have hlt : i < ps.length := by simp at hlt; omega
      refine ⟨⟨by omega, by omega, by omega⟩, ?_⟩
      rw [Int.toNat_natCast]
      have hp := hz (ps.getD i ByteArray.empty) (by rw [List.getD, List.getElem?_eq_getElem hlt]; exact List.getElem_mem hlt)
      have hs2 : (ByteArray.mk #[58, 32]).size = 2 := rfl
      refine ⟨by rw [bytesOf_size]; omega, by rw [ByteArray.size_append, bytesOf_size, hs2]; omega, ?_⟩
      rw [wrap_id (n := (i : Int) + 1) (by omega) (by omega)]
      refine hag _ ⟨i + 1, by simp, by omega, ?_⟩ (by simp only; omega)
      rw [List.take_succ_eq_append_getElem hlt]
      unfold ahead
      rw [List.flatMap_append, bytesOf_append, List.getD, List.getElem?_eq_getElem hlt]
      simp only [List.flatMap_cons, List.flatMap_nil, List.append_nil, Option.getD_some]
      rw [bytesOf_append, bytesOf_ofBytes, ← ByteArray.append_assoc]
      rfl
    · have hge : i = ps.length := by simp at hge; omega
      subst hge
      rw [List.take_length] at hA' ⊢
      have z1 := (putL_len c).2
      have z2 := (putL_len a).2
      have hs4 : (ByteArray.mk #[32, 97, 116, 32]).size = 4 := rfl
      refine putr_s c hc _ ⟨by rw [bytesOf_size, bytesOf_size]; omega, by rw [ByteArray.size_append, bytesOf_size, bytesOf_size, hs4]; omega, putr_s a ha _ ⟨by rw [ByteArray.size_append, ByteArray.size_append, bytesOf_size, bytesOf_size, bytesOf_size, hs4]; omega, ?_⟩⟩
      have : textB (madeE c a ps) = bytesOf (ahead ps) ++ bytesOf (putL c) ++ ByteArray.mk #[32, 97, 116, 32] ++ bytesOf (putL a) := by
        unfold textB
        rw [made_text h0, bytesOf_append, bytesOf_append, bytesOf_append, ← ByteArray.append_assoc, ← ByteArray.append_assoc]
        rfl
      rw [← this]
      exact h

theorem works_f (k : Bool → Prop) (h : k true) : N6.f k := by
  rw [N6.f_def]
  unfold N6.f0 N6.c
  have hok : textOk (inE (ByteArray.mk #[102, 117, 110, 99]) (newE (32 : Int) (7 : Int))) := by
    refine ⟨.inr ?_, ?_⟩
    · show in64 32 ∧ in64 7
      unfold in64
      omega
    · show (textL (inE (ByteArray.mk #[102, 117, 110, 99]) (newE (32 : Int) (7 : Int)))).length ≤ _
      have : (textL (inE (ByteArray.mk #[102, 117, 110, 99]) (newE (32 : Int) (7 : Int)))).length = 13 := by decide
      omega
  have hb : beqS (textB (inE (ByteArray.mk #[102, 117, 110, 99]) (newE (32 : Int) (7 : Int)))) (ByteArray.mk #[102, 117, 110, 99, 58, 32, 51, 50, 32, 97, 116, 32, 55]) = true := by decide
  refine ⟨rfl, ?_⟩
  rw [show ((ofE (inE (ByteArray.mk #[102, 117, 110, 99]) (newE (32 : Int) (7 : Int)))) == (32 : Int)) = true from rfl, br_true]
  refine ⟨rfl, ?_⟩
  rw [show ((atE (inE (ByteArray.mk #[102, 117, 110, 99]) (newE (32 : Int) (7 : Int)))) == (7 : Int)) = true from rfl, br_true]
  refine ⟨rfl, ?_⟩
  rw [show hasE (inE (ByteArray.mk #[102, 117, 110, 99]) (newE (32 : Int) (7 : Int))) (32 : Int) = true from rfl, br_true]
  refine ⟨rfl, ?_⟩
  rw [show (!(hasE (inE (ByteArray.mk #[102, 117, 110, 99]) (newE (32 : Int) (7 : Int))) (31 : Int))) = true from rfl, br_true]
  refine ⟨hok, ?_⟩
  rw [hb, br_true]
  exact ⟨rfl, by decide, rfl, h⟩
end Go.Proofs.Yd
namespace Go.Proofs.Yd
open Go Go.Aw Go.Proofs
set_option linter.unusedVariables false
set_option linter.unusedSimpArgs false
set_option maxRecDepth 100000
/-! dyehouse/dyehouselaw05.FaultTwo -/
namespace N5
noncomputable def cfg : Cfg := { P := Tryd.prog, tf := 40, tw := 49, ty := tys, E := tab [(6, N6.ent), (7, N7.ent), (10, N10.ent)], atSeq := tab [(2000002, ⟨[(2, .keep), (3, .keep), (4, .keep), (5, .keep), (33, .keep)]⟩), (3, ⟨[(2, .keep), (3, .keep), (4, .keep), (5, .keep)]⟩), (12, ⟨[(2, .keep), (3, .keep), (4, .keep), (5, .keep)]⟩), (6, ⟨[(2, .keep), (3, .keep), (4, .keep), (5, .keep), (9, .keep), (10, .keep)]⟩), (13, ⟨[(2, .keep), (3, .keep), (4, .keep), (5, .keep), (12, .keep)]⟩), (16, ⟨[(2, .keep), (3, .keep), (4, .keep), (5, .keep), (13, .keep)]⟩), (17, ⟨[(2, .keep), (3, .keep), (4, .keep), (5, .keep), (12, .keep)]⟩)], atLoop := tab [(5, ⟨[(2, .keep), (3, .keep), (4, .keep), (5, .keep), (9, .keep), (10, .keep)]⟩), (8, ⟨[(2, .keep), (3, .keep), (4, .keep), (5, .keep), (9, .keep), (10, .keep), (11, .keep)]⟩), (14, ⟨[(2, .keep), (3, .keep), (4, .keep), (5, .keep), (12, .keep), (13, .keep)]⟩)], outs := [], eqT := tab [(36, [(Ty.int IntKind.i64), (Ty.int IntKind.i64)])], bT := tab [] }
noncomputable def body : Code := bodyOf Tryd.f5
def j2000002 (j3 : (List ByteArray) → (List ByteArray) → Int → Int → Int → Int → Prop) (x2 : (List ByteArray)) (x3 : (List ByteArray)) (x33 : Bool) (b0_0 : Int) (b0_1 : Int) (b1_0 : Int) (b1_1 : Int) (k : Bool → Prop) : Prop :=
  (br x33 (N6.f (fun (y0_0 : Bool) => (k y0_0))) (j3 x2 x3 b0_0 b0_1 b1_0 b1_1))
def j3 (l5 : (List ByteArray) → (List ByteArray) → Int → Int → Int → Int → Int → (List ByteArray) → Prop) (x2 : (List ByteArray)) (x3 : (List ByteArray)) (b0_0 : Int) (b0_1 : Int) (b1_0 : Int) (b1_1 : Int) (k : Bool → Prop) : Prop :=
  ((room ((([] : List ByteArray)).length + (x2).length) 16) ∧ ((room (((([] : List ByteArray) ++ x2)).length + (x3).length) 16) ∧ (l5 x2 x3 (0 : Int) b0_0 b0_1 b1_0 b1_1 ((([] : List ByteArray) ++ x2) ++ x3))))
def l5 (l8 : (List ByteArray) → (List ByteArray) → Int → Int → Int → Int → Int → Int → (List ByteArray) → Prop) (j12 : (List ByteArray) → (List ByteArray) → Int → Int → Int → Int → Prop) (x2 : (List ByteArray)) (x3 : (List ByteArray)) (x10 : Int) (b0_0 : Int) (b0_1 : Int) (b1_0 : Int) (b1_1 : Int) (b2 : (List ByteArray)) (k : Bool → Prop) : Prop :=
  (br (decide (x10 < ((((b2).length : Nat) : Int)))) (l8 x2 x3 x10 (0 : Int) b0_0 b0_1 b1_0 b1_1 b2) (j12 x2 x3 b0_0 b0_1 b1_0 b1_1))
def l8 (j6 : (List ByteArray) → (List ByteArray) → Int → Int → Int → Int → Int → (List ByteArray) → Prop) (ag8 : Int → Int → Int → Int → Int → (List ByteArray) → Prop) (x2 : (List ByteArray)) (x3 : (List ByteArray)) (x10 : Int) (x11 : Int) (b0_0 : Int) (b0_1 : Int) (b1_0 : Int) (b1_1 : Int) (b2 : (List ByteArray)) (k : Bool → Prop) : Prop :=
  ((inB 0 x10 ((((b2).length : Nat) : Int) - 1)) ∧ (br (decide (x11 < (((((b2.getD (Int.toNat x10) (ByteArray.empty))).size : Nat) : Int)))) ((inB 0 x10 ((((b2).length : Nat) : Int) - 1)) ∧ ((inB 0 x11 (((((b2.getD (Int.toNat x10) (ByteArray.empty))).size : Nat) : Int) - 1)) ∧ (br ((byteAt (b2.getD (Int.toNat x10) (ByteArray.empty)) x11) == (58 : Int)) (N6.f (fun (y0_1 : Bool) => (k y0_1))) (ag8 (IntKind.i64.wrap (x11 + (1 : Int))) b0_0 b0_1 b1_0 b1_1 b2)))) (j6 x2 x3 x10 b0_0 b0_1 b1_0 b1_1 b2)))
def j12 (j13 : (List ByteArray) → (List ByteArray) → Bool → Int → Int → Int → Int → Prop) (x2 : (List ByteArray)) (x3 : (List ByteArray)) (b0_0 : Int) (b0_1 : Int) (b1_0 : Int) (b1_1 : Int) (k : Bool → Prop) : Prop :=
  (br ((b0_0 == b1_0) && ((b0_1 == b1_1) && true)) (j13 x2 x3 (((((x2).length : Nat) : Int)) == ((((x3).length : Nat) : Int))) b0_0 b0_1 b1_0 b1_1) (j13 x2 x3 false b0_0 b0_1 b1_0 b1_1))
def j6 (ag5 : Int → Int → Int → Int → Int → (List ByteArray) → Prop) (x2 : (List ByteArray)) (x3 : (List ByteArray)) (x10 : Int) (b0_0 : Int) (b0_1 : Int) (b1_0 : Int) (b1_1 : Int) (b2 : (List ByteArray)) (k : Bool → Prop) : Prop :=
  (ag5 (IntKind.i64.wrap (x10 + (1 : Int))) b0_0 b0_1 b1_0 b1_1 b2)
def j13 (l14 : (List ByteArray) → (List ByteArray) → Bool → Int → Int → Int → Int → Int → Prop) (x2 : (List ByteArray)) (x3 : (List ByteArray)) (x12 : Bool) (b0_0 : Int) (b0_1 : Int) (b1_0 : Int) (b1_1 : Int) (k : Bool → Prop) : Prop :=
  (l14 x2 x3 x12 (0 : Int) b0_0 b0_1 b1_0 b1_1)
def l14 (j16 : (List ByteArray) → (List ByteArray) → Int → Int → Int → Int → Int → Prop) (j17 : (List ByteArray) → (List ByteArray) → Bool → Int → Int → Int → Int → Prop) (x2 : (List ByteArray)) (x3 : (List ByteArray)) (x12 : Bool) (x13 : Int) (b0_0 : Int) (b0_1 : Int) (b1_0 : Int) (b1_1 : Int) (k : Bool → Prop) : Prop :=
  (br x12 (br (decide (x13 < ((((x2).length : Nat) : Int)))) (j16 x2 x3 x13 b0_0 b0_1 b1_0 b1_1) (j17 x2 x3 x12 b0_0 b0_1 b1_0 b1_1)) (j17 x2 x3 x12 b0_0 b0_1 b1_0 b1_1))
def j16 (ag14 : Bool → Int → Int → Int → Int → Int → Prop) (x2 : (List ByteArray)) (x3 : (List ByteArray)) (x13 : Int) (b0_0 : Int) (b0_1 : Int) (b1_0 : Int) (b1_1 : Int) (k : Bool → Prop) : Prop :=
  ((inB 0 x13 ((((x2).length : Nat) : Int) - 1)) ∧ ((inB 0 x13 ((((x3).length : Nat) : Int) - 1)) ∧ (ag14 (beqS (x2.getD (Int.toNat x13) (ByteArray.empty)) (x3.getD (Int.toNat x13) (ByteArray.empty))) (IntKind.i64.wrap (x13 + (1 : Int))) b0_0 b0_1 b1_0 b1_1)))
def j17 (x2 : (List ByteArray)) (x3 : (List ByteArray)) (x12 : Bool) (b0_0 : Int) (b0_1 : Int) (b1_0 : Int) (b1_1 : Int) (k : Bool → Prop) : Prop :=
  (N7.f b0_0 b0_1 x2 (fun (y0_2 : Err) => (N7.f b1_0 b1_1 x3 (fun (y0_3 : Err) => ((textOk y0_2) ∧ ((textOk y0_3) ∧ (br ((beqS (textB y0_2) (textB y0_3)) == x12) (N6.f (fun (y0_4 : Bool) => (k y0_4))) (k false))))))))
def c (j2000002 : (List ByteArray) → (List ByteArray) → Bool → Int → Int → Int → Int → Prop) (x0_0 : Int) (x0_1 : Int) (x1_0 : Int) (x1_1 : Int) (x2 : (List ByteArray)) (x3 : (List ByteArray)) (k : Bool → Prop) : Prop :=
  (br (decide (((((x2).length : Nat) : Int)) > (12 : Int))) (j2000002 x2 x3 true x0_0 x0_1 x1_0 x1_1) (br (decide (((((x3).length : Nat) : Int)) > (12 : Int))) (j2000002 x2 x3 true x0_0 x0_1 x1_0 x1_1) (br (x0_0 == (0 : Int)) (j2000002 x2 x3 true x0_0 x0_1 x1_0 x1_1) (j2000002 x2 x3 (x1_0 == (0 : Int)) x0_0 x0_1 x1_0 x1_1))))
def j6' (ag5 : Int → Int → Int → Int → Int → (List ByteArray) → Prop) (x2 : (List ByteArray)) (x3 : (List ByteArray)) (x10 : Int) (b0_0 : Int) (b0_1 : Int) (b1_0 : Int) (b1_1 : Int) (b2 : (List ByteArray)) (k : Bool → Prop) : Prop := j6 ag5 x2 x3 x10 b0_0 b0_1 b1_0 b1_1 b2 k
def j16' (ag14 : Bool → Int → Int → Int → Int → Int → Prop) (x2 : (List ByteArray)) (x3 : (List ByteArray)) (x13 : Int) (b0_0 : Int) (b0_1 : Int) (b1_0 : Int) (b1_1 : Int) (k : Bool → Prop) : Prop := j16 ag14 x2 x3 x13 b0_0 b0_1 b1_0 b1_1 k
def j17' (x2 : (List ByteArray)) (x3 : (List ByteArray)) (x12 : Bool) (b0_0 : Int) (b0_1 : Int) (b1_0 : Int) (b1_1 : Int) (k : Bool → Prop) : Prop := j17 x2 x3 x12 b0_0 b0_1 b1_0 b1_1 k
def l8' (ag5 : Int → Int → Int → Int → Int → (List ByteArray) → Prop) (x2 : (List ByteArray)) (x3 : (List ByteArray)) (x10 : Int) (x11 : Int) (b0_0 : Int) (b0_1 : Int) (b1_0 : Int) (b1_1 : Int) (b2 : (List ByteArray)) (k : Bool → Prop) : Prop := ∃ n, loopS (fun (ag : (Int × Int × Int × Int × Int × (List ByteArray)) → Prop) (s : Int × Int × Int × Int × Int × (List ByteArray)) => l8 (fun x2 x3 x10 b0_0 b0_1 b1_0 b1_1 b2 => j6' ag5 x2 x3 x10 b0_0 b0_1 b1_0 b1_1 b2 k) (fun x11 b0_0 b0_1 b1_0 b1_1 b2 => ag (x11, b0_0, b0_1, b1_0, b1_1, b2)) x2 x3 x10 s.1 s.2.1 s.2.2.1 s.2.2.2.1 s.2.2.2.2.1 s.2.2.2.2.2 k) n (x11, b0_0, b0_1, b1_0, b1_1, b2)
def l14' (x2 : (List ByteArray)) (x3 : (List ByteArray)) (x12 : Bool) (x13 : Int) (b0_0 : Int) (b0_1 : Int) (b1_0 : Int) (b1_1 : Int) (k : Bool → Prop) : Prop := ∃ n, loopS (fun (ag : (Bool × Int × Int × Int × Int × Int) → Prop) (s : Bool × Int × Int × Int × Int × Int) => l14 (fun x2 x3 x13 b0_0 b0_1 b1_0 b1_1 => j16' (fun x12 x13 b0_0 b0_1 b1_0 b1_1 => ag (x12, x13, b0_0, b0_1, b1_0, b1_1)) x2 x3 x13 b0_0 b0_1 b1_0 b1_1 k) (fun x2 x3 x12 b0_0 b0_1 b1_0 b1_1 => j17' x2 x3 x12 b0_0 b0_1 b1_0 b1_1 k) x2 x3 s.1 s.2.1 s.2.2.1 s.2.2.2.1 s.2.2.2.2.1 s.2.2.2.2.2 k) n (x12, x13, b0_0, b0_1, b1_0, b1_1)
def j13' (x2 : (List ByteArray)) (x3 : (List ByteArray)) (x12 : Bool) (b0_0 : Int) (b0_1 : Int) (b1_0 : Int) (b1_1 : Int) (k : Bool → Prop) : Prop := j13 (fun x2 x3 x12 x13 b0_0 b0_1 b1_0 b1_1 => l14' x2 x3 x12 x13 b0_0 b0_1 b1_0 b1_1 k) x2 x3 x12 b0_0 b0_1 b1_0 b1_1 k
def j12' (x2 : (List ByteArray)) (x3 : (List ByteArray)) (b0_0 : Int) (b0_1 : Int) (b1_0 : Int) (b1_1 : Int) (k : Bool → Prop) : Prop := j12 (fun x2 x3 x12 b0_0 b0_1 b1_0 b1_1 => j13' x2 x3 x12 b0_0 b0_1 b1_0 b1_1 k) x2 x3 b0_0 b0_1 b1_0 b1_1 k
def l5' (x2 : (List ByteArray)) (x3 : (List ByteArray)) (x10 : Int) (b0_0 : Int) (b0_1 : Int) (b1_0 : Int) (b1_1 : Int) (b2 : (List ByteArray)) (k : Bool → Prop) : Prop := ∃ n, loopS (fun (ag : (Int × Int × Int × Int × Int × (List ByteArray)) → Prop) (s : Int × Int × Int × Int × Int × (List ByteArray)) => l5 (fun x2 x3 x10 x11 b0_0 b0_1 b1_0 b1_1 b2 => l8' (fun x10 b0_0 b0_1 b1_0 b1_1 b2 => ag (x10, b0_0, b0_1, b1_0, b1_1, b2)) x2 x3 x10 x11 b0_0 b0_1 b1_0 b1_1 b2 k) (fun x2 x3 b0_0 b0_1 b1_0 b1_1 => j12' x2 x3 b0_0 b0_1 b1_0 b1_1 k) x2 x3 s.1 s.2.1 s.2.2.1 s.2.2.2.1 s.2.2.2.2.1 s.2.2.2.2.2 k) n (x10, b0_0, b0_1, b1_0, b1_1, b2)
def j3' (x2 : (List ByteArray)) (x3 : (List ByteArray)) (b0_0 : Int) (b0_1 : Int) (b1_0 : Int) (b1_1 : Int) (k : Bool → Prop) : Prop := j3 (fun x2 x3 x10 b0_0 b0_1 b1_0 b1_1 b2 => l5' x2 x3 x10 b0_0 b0_1 b1_0 b1_1 b2 k) x2 x3 b0_0 b0_1 b1_0 b1_1 k
def j2000002' (x2 : (List ByteArray)) (x3 : (List ByteArray)) (x33 : Bool) (b0_0 : Int) (b0_1 : Int) (b1_0 : Int) (b1_1 : Int) (k : Bool → Prop) : Prop := j2000002 (fun x2 x3 b0_0 b0_1 b1_0 b1_1 => j3' x2 x3 b0_0 b0_1 b1_0 b1_1 k) x2 x3 x33 b0_0 b0_1 b1_0 b1_1 k
def f0 (x0_0 : Int) (x0_1 : Int) (x1_0 : Int) (x1_1 : Int) (x2 : (List ByteArray)) (x3 : (List ByteArray)) (k : Bool → Prop) : Prop := c (fun x2 x3 x33 b0_0 b0_1 b1_0 b1_1 => j2000002' x2 x3 x33 b0_0 b0_1 b1_0 b1_1 k) x0_0 x0_1 x1_0 x1_1 x2 x3 k
theorem f_ex : ∃ g : Int → Int → Int → Int → (List ByteArray) → (List ByteArray) → (Bool → Prop) → Prop, g = f0 := ⟨_, rfl⟩
noncomputable def f : Int → Int → Int → Int → (List ByteArray) → (List ByteArray) → (Bool → Prop) → Prop := Classical.choose f_ex
theorem f_def : f = f0 := Classical.choose_spec f_ex
def m2000002 (x2 : (List ByteArray)) (x3 : (List ByteArray)) (x33 : Bool) (b0_0 : Int) (b0_1 : Int) (b1_0 : Int) (b1_1 : Int) : St := { tmps := mkT 113 0 [(2, (.fz Ty.str x2)), (3, (.fz Ty.str x3)), (4, (.ptr 0 0)), (5, (.ptr 1 0)), (33, (.v (.bool x33)))], hp := [(.box 36 [(.v (.int IntKind.i64 b0_0)), (.v (.int IntKind.i64 b0_1))]), (.box 36 [(.v (.int IntKind.i64 b1_0)), (.v (.int IntKind.i64 b1_1))])], m := 0 }
def m3 (x2 : (List ByteArray)) (x3 : (List ByteArray)) (b0_0 : Int) (b0_1 : Int) (b1_0 : Int) (b1_1 : Int) : St := { tmps := mkT 113 0 [(2, (.fz Ty.str x2)), (3, (.fz Ty.str x3)), (4, (.ptr 0 0)), (5, (.ptr 1 0))], hp := [(.box 36 [(.v (.int IntKind.i64 b0_0)), (.v (.int IntKind.i64 b0_1))]), (.box 36 [(.v (.int IntKind.i64 b1_0)), (.v (.int IntKind.i64 b1_1))])], m := 0 }
def mL5 (x2 : (List ByteArray)) (x3 : (List ByteArray)) (x10 : Int) (b0_0 : Int) (b0_1 : Int) (b1_0 : Int) (b1_1 : Int) (b2 : (List ByteArray)) : St := { tmps := mkT 113 0 [(2, (.fz Ty.str x2)), (3, (.fz Ty.str x3)), (4, (.ptr 0 0)), (5, (.ptr 1 0)), (9, (.sl 2 0)), (10, (.v (.int IntKind.i64 x10)))], hp := [(.box 36 [(.v (.int IntKind.i64 b0_0)), (.v (.int IntKind.i64 b0_1))]), (.box 36 [(.v (.int IntKind.i64 b1_0)), (.v (.int IntKind.i64 b1_1))]), (.lst 9 Ty.str b2 0 false)], m := 0 }
def mL8 (x2 : (List ByteArray)) (x3 : (List ByteArray)) (x10 : Int) (x11 : Int) (b0_0 : Int) (b0_1 : Int) (b1_0 : Int) (b1_1 : Int) (b2 : (List ByteArray)) : St := { tmps := mkT 113 0 [(2, (.fz Ty.str x2)), (3, (.fz Ty.str x3)), (4, (.ptr 0 0)), (5, (.ptr 1 0)), (9, (.sl 2 0)), (10, (.v (.int IntKind.i64 x10))), (11, (.v (.int IntKind.i64 x11)))], hp := [(.box 36 [(.v (.int IntKind.i64 b0_0)), (.v (.int IntKind.i64 b0_1))]), (.box 36 [(.v (.int IntKind.i64 b1_0)), (.v (.int IntKind.i64 b1_1))]), (.lst 9 Ty.str b2 0 false)], m := 0 }
def m12 (x2 : (List ByteArray)) (x3 : (List ByteArray)) (b0_0 : Int) (b0_1 : Int) (b1_0 : Int) (b1_1 : Int) : St := { tmps := mkT 113 0 [(2, (.fz Ty.str x2)), (3, (.fz Ty.str x3)), (4, (.ptr 0 0)), (5, (.ptr 1 0))], hp := [(.box 36 [(.v (.int IntKind.i64 b0_0)), (.v (.int IntKind.i64 b0_1))]), (.box 36 [(.v (.int IntKind.i64 b1_0)), (.v (.int IntKind.i64 b1_1))])], m := 0 }
def m6 (x2 : (List ByteArray)) (x3 : (List ByteArray)) (x10 : Int) (b0_0 : Int) (b0_1 : Int) (b1_0 : Int) (b1_1 : Int) (b2 : (List ByteArray)) : St := { tmps := mkT 113 0 [(2, (.fz Ty.str x2)), (3, (.fz Ty.str x3)), (4, (.ptr 0 0)), (5, (.ptr 1 0)), (9, (.sl 2 0)), (10, (.v (.int IntKind.i64 x10)))], hp := [(.box 36 [(.v (.int IntKind.i64 b0_0)), (.v (.int IntKind.i64 b0_1))]), (.box 36 [(.v (.int IntKind.i64 b1_0)), (.v (.int IntKind.i64 b1_1))]), (.lst 9 Ty.str b2 0 false)], m := 0 }
def m13 (x2 : (List ByteArray)) (x3 : (List ByteArray)) (x12 : Bool) (b0_0 : Int) (b0_1 : Int) (b1_0 : Int) (b1_1 : Int) : St := { tmps := mkT 113 0 [(2, (.fz Ty.str x2)), (3, (.fz Ty.str x3)), (4, (.ptr 0 0)), (5, (.ptr 1 0)), (12, (.v (.bool x12)))], hp := [(.box 36 [(.v (.int IntKind.i64 b0_0)), (.v (.int IntKind.i64 b0_1))]), (.box 36 [(.v (.int IntKind.i64 b1_0)), (.v (.int IntKind.i64 b1_1))])], m := 0 }
def mL14 (x2 : (List ByteArray)) (x3 : (List ByteArray)) (x12 : Bool) (x13 : Int) (b0_0 : Int) (b0_1 : Int) (b1_0 : Int) (b1_1 : Int) : St := { tmps := mkT 113 0 [(2, (.fz Ty.str x2)), (3, (.fz Ty.str x3)), (4, (.ptr 0 0)), (5, (.ptr 1 0)), (12, (.v (.bool x12))), (13, (.v (.int IntKind.i64 x13)))], hp := [(.box 36 [(.v (.int IntKind.i64 b0_0)), (.v (.int IntKind.i64 b0_1))]), (.box 36 [(.v (.int IntKind.i64 b1_0)), (.v (.int IntKind.i64 b1_1))])], m := 0 }
def m16 (x2 : (List ByteArray)) (x3 : (List ByteArray)) (x13 : Int) (b0_0 : Int) (b0_1 : Int) (b1_0 : Int) (b1_1 : Int) : St := { tmps := mkT 113 0 [(2, (.fz Ty.str x2)), (3, (.fz Ty.str x3)), (4, (.ptr 0 0)), (5, (.ptr 1 0)), (13, (.v (.int IntKind.i64 x13)))], hp := [(.box 36 [(.v (.int IntKind.i64 b0_0)), (.v (.int IntKind.i64 b0_1))]), (.box 36 [(.v (.int IntKind.i64 b1_0)), (.v (.int IntKind.i64 b1_1))])], m := 0 }
def m17 (x2 : (List ByteArray)) (x3 : (List ByteArray)) (x12 : Bool) (b0_0 : Int) (b0_1 : Int) (b1_0 : Int) (b1_1 : Int) : St := { tmps := mkT 113 0 [(2, (.fz Ty.str x2)), (3, (.fz Ty.str x3)), (4, (.ptr 0 0)), (5, (.ptr 1 0)), (12, (.v (.bool x12)))], hp := [(.box 36 [(.v (.int IntKind.i64 b0_0)), (.v (.int IntKind.i64 b0_1))]), (.box 36 [(.v (.int IntKind.i64 b1_0)), (.v (.int IntKind.i64 b1_1))])], m := 0 }
noncomputable def X2000002 (k kp : D → List Blk → Prop) : St → Prop := atP cfg (pick none' []) [1, 0, 1] body (topK cfg Tryd.f5 k kp)
noncomputable def X3 (k kp : D → List Blk → Prop) : St → Prop := atP cfg (pick none' []) [1, 1] body (topK cfg Tryd.f5 k kp)
noncomputable def YL5 (k kp : D → List Blk → Prop) : (St → Prop) → St → Prop := loopB cfg (sub [1, 1, 1, 0, 1, 0, 0] body) (contK cfg (pick none' []) [1, 1, 1, 0, 1, 0] body (topK cfg Tryd.f5 k kp))
noncomputable def XL5 (k kp : D → List Blk → Prop) : St → Prop := fun st => ∃ n, loopN (YL5 k kp) n st
noncomputable def YL8 (k kp : D → List Blk → Prop) (ag5 : St → Prop) : (St → Prop) → St → Prop := loopB cfg (sub [1, 1, 1, 0, 1, 0, 0, 1, 0, 0, 1, 0, 0] body) (contK cfg (pick none' [(5, ag5)]) [1, 1, 1, 0, 1, 0, 0, 1, 0, 0, 1, 0] body (topK cfg Tryd.f5 k kp))
noncomputable def XL8 (k kp : D → List Blk → Prop) (ag5 : St → Prop) : St → Prop := fun st => ∃ n, loopN (YL8 k kp ag5) n st
noncomputable def X12 (k kp : D → List Blk → Prop) : St → Prop := atP cfg (pick none' []) [1, 1, 1, 1] body (topK cfg Tryd.f5 k kp)
noncomputable def X6 (k kp : D → List Blk → Prop) (ag5 : St → Prop) : St → Prop := atP cfg (pick none' [(5, ag5)]) [1, 1, 1, 0, 1, 0, 0, 1, 1] body (topK cfg Tryd.f5 k kp)
noncomputable def X13 (k kp : D → List Blk → Prop) : St → Prop := atP cfg (pick none' []) [1, 1, 1, 1, 1] body (topK cfg Tryd.f5 k kp)
noncomputable def YL14 (k kp : D → List Blk → Prop) : (St → Prop) → St → Prop := loopB cfg (sub [1, 1, 1, 1, 1, 0, 1, 0, 0] body) (contK cfg (pick none' []) [1, 1, 1, 1, 1, 0, 1, 0] body (topK cfg Tryd.f5 k kp))
noncomputable def XL14 (k kp : D → List Blk → Prop) : St → Prop := fun st => ∃ n, loopN (YL14 k kp) n st
noncomputable def X16 (k kp : D → List Blk → Prop) (ag14 : St → Prop) : St → Prop := atP cfg (pick none' [(14, ag14)]) [1, 1, 1, 1, 1, 0, 1, 0, 0, 1] body (topK cfg Tryd.f5 k kp)
noncomputable def X17 (k kp : D → List Blk → Prop) : St → Prop := atP cfg (pick none' []) [1, 1, 1, 1, 1, 1] body (topK cfg Tryd.f5 k kp)
noncomputable def JJ (k kp : D → List Blk → Prop) : Nat → St → Prop := pick none' [(2000002, X2000002 k kp), (3, X3 k kp), (12, X12 k kp), (13, X13 k kp), (17, X17 k kp)]
noncomputable def LL (k kp : D → List Blk → Prop) : Nat → St → Prop := pick none' [(5, XL5 k kp), (14, XL14 k kp)]
noncomputable def JJ_5 (k kp : D → List Blk → Prop) (ag5 : St → Prop) : Nat → St → Prop := pick none' [(2000002, X2000002 k kp), (3, X3 k kp), (12, X12 k kp), (6, X6 k kp ag5), (13, X13 k kp), (17, X17 k kp)]
noncomputable def LL_5 (k kp : D → List Blk → Prop) (ag5 : St → Prop) : Nat → St → Prop := pick none' [(5, XL5 k kp), (8, XL8 k kp ag5), (14, XL14 k kp)]
noncomputable def JJ_5_8 (k kp : D → List Blk → Prop) (ag5 : St → Prop) (ag8 : St → Prop) : Nat → St → Prop := pick none' [(2000002, X2000002 k kp), (3, X3 k kp), (12, X12 k kp), (6, X6 k kp ag5), (13, X13 k kp), (17, X17 k kp)]
noncomputable def LL_5_8 (k kp : D → List Blk → Prop) (ag5 : St → Prop) (ag8 : St → Prop) : Nat → St → Prop := pick none' [(5, XL5 k kp), (8, XL8 k kp ag5), (14, XL14 k kp)]
noncomputable def JJ_14 (k kp : D → List Blk → Prop) (ag14 : St → Prop) : Nat → St → Prop := pick none' [(2000002, X2000002 k kp), (3, X3 k kp), (12, X12 k kp), (13, X13 k kp), (16, X16 k kp ag14), (17, X17 k kp)]
noncomputable def LL_14 (k kp : D → List Blk → Prop) (ag14 : St → Prop) : Nat → St → Prop := pick none' [(5, XL5 k kp), (14, XL14 k kp)]
theorem j6_c (k kp : D → List Blk → Prop) (J L : Nat → St → Prop) (ag5 : St → Prop) (x2 : (List ByteArray)) (x3 : (List ByteArray)) (x10 : Int) (b0_0 : Int) (b0_1 : Int) (b1_0 : Int) (b1_1 : Int) (b2 : (List ByteArray)) : runC cfg 6 J L (pick none' [(5, ag5)]) [1, 1, 1, 0, 1, 0, 0, 1, 1] body (topK cfg Tryd.f5 k kp) (m6 x2 x3 x10 b0_0 b0_1 b1_0 b1_1 b2) = j6 (fun x10 b0_0 b0_1 b1_0 b1_1 b2 => ag5 (mL5 x2 x3 x10 b0_0 b0_1 b1_0 b1_1 b2)) x2 x3 x10 b0_0 b0_1 b1_0 b1_1 b2 (fun y0 => k (.v (.bool y0)) []) := by kernel_rfl
theorem j6_ag (k kp : D → List Blk → Prop) (ag5 : St → Prop) : agPL cfg 6 (JJ_5 k kp ag5) (LL_5 k kp ag5) [1, 1, 1, 0, 1, 0, 0, 1, 1] body = agPR cfg 6 (pick none' [(5, ag5)]) [1, 1, 1, 0, 1, 0, 0, 1, 1] body (topK cfg Tryd.f5 k kp) := by kernel_rfl
theorem j6_raw (k kp : D → List Blk → Prop) (ag5 : St → Prop) (x2 : (List ByteArray)) (x3 : (List ByteArray)) (x10 : Int) (b0_0 : Int) (b0_1 : Int) (b1_0 : Int) (b1_1 : Int) (b2 : (List ByteArray)) : X6 k kp ag5 (m6 x2 x3 x10 b0_0 b0_1 b1_0 b1_1 b2) = j6 (fun x10 b0_0 b0_1 b1_0 b1_1 b2 => ag5 (mL5 x2 x3 x10 b0_0 b0_1 b1_0 b1_1 b2)) x2 x3 x10 b0_0 b0_1 b1_0 b1_1 b2 (fun y0 => k (.v (.bool y0)) []) :=
  Eq.mp (by kernel_rfl) ((atP_run (j6_ag k kp ag5) (m6 x2 x3 x10 b0_0 b0_1 b1_0 b1_1 b2)).trans (j6_c k kp (JJ_5 k kp ag5) (LL_5 k kp ag5) ag5 x2 x3 x10 b0_0 b0_1 b1_0 b1_1 b2))
theorem j6_eq (k kp : D → List Blk → Prop) (ag5 : St → Prop) (x2 : (List ByteArray)) (x3 : (List ByteArray)) (x10 : Int) (b0_0 : Int) (b0_1 : Int) (b1_0 : Int) (b1_1 : Int) (b2 : (List ByteArray)) : X6 k kp ag5 (m6 x2 x3 x10 b0_0 b0_1 b1_0 b1_1 b2) = j6' (fun x10 b0_0 b0_1 b1_0 b1_1 b2 => ag5 (mL5 x2 x3 x10 b0_0 b0_1 b1_0 b1_1 b2)) x2 x3 x10 b0_0 b0_1 b1_0 b1_1 b2 (fun y0 => k (.v (.bool y0)) []) := by
  rw [j6_raw]; rfl
theorem j16_c (k kp : D → List Blk → Prop) (J L : Nat → St → Prop) (ag14 : St → Prop) (x2 : (List ByteArray)) (x3 : (List ByteArray)) (x13 : Int) (b0_0 : Int) (b0_1 : Int) (b1_0 : Int) (b1_1 : Int) : runC cfg 16 J L (pick none' [(14, ag14)]) [1, 1, 1, 1, 1, 0, 1, 0, 0, 1] body (topK cfg Tryd.f5 k kp) (m16 x2 x3 x13 b0_0 b0_1 b1_0 b1_1) = j16 (fun x12 x13 b0_0 b0_1 b1_0 b1_1 => ag14 (mL14 x2 x3 x12 x13 b0_0 b0_1 b1_0 b1_1)) x2 x3 x13 b0_0 b0_1 b1_0 b1_1 (fun y0 => k (.v (.bool y0)) []) := by kernel_rfl
theorem j16_ag (k kp : D → List Blk → Prop) (ag14 : St → Prop) : agPL cfg 16 (JJ_14 k kp ag14) (LL_14 k kp ag14) [1, 1, 1, 1, 1, 0, 1, 0, 0, 1] body = agPR cfg 16 (pick none' [(14, ag14)]) [1, 1, 1, 1, 1, 0, 1, 0, 0, 1] body (topK cfg Tryd.f5 k kp) := by kernel_rfl
theorem j16_raw (k kp : D → List Blk → Prop) (ag14 : St → Prop) (x2 : (List ByteArray)) (x3 : (List ByteArray)) (x13 : Int) (b0_0 : Int) (b0_1 : Int) (b1_0 : Int) (b1_1 : Int) : X16 k kp ag14 (m16 x2 x3 x13 b0_0 b0_1 b1_0 b1_1) = j16 (fun x12 x13 b0_0 b0_1 b1_0 b1_1 => ag14 (mL14 x2 x3 x12 x13 b0_0 b0_1 b1_0 b1_1)) x2 x3 x13 b0_0 b0_1 b1_0 b1_1 (fun y0 => k (.v (.bool y0)) []) :=
  Eq.mp (by kernel_rfl) ((atP_run (j16_ag k kp ag14) (m16 x2 x3 x13 b0_0 b0_1 b1_0 b1_1)).trans (j16_c k kp (JJ_14 k kp ag14) (LL_14 k kp ag14) ag14 x2 x3 x13 b0_0 b0_1 b1_0 b1_1))
theorem j16_eq (k kp : D → List Blk → Prop) (ag14 : St → Prop) (x2 : (List ByteArray)) (x3 : (List ByteArray)) (x13 : Int) (b0_0 : Int) (b0_1 : Int) (b1_0 : Int) (b1_1 : Int) : X16 k kp ag14 (m16 x2 x3 x13 b0_0 b0_1 b1_0 b1_1) = j16' (fun x12 x13 b0_0 b0_1 b1_0 b1_1 => ag14 (mL14 x2 x3 x12 x13 b0_0 b0_1 b1_0 b1_1)) x2 x3 x13 b0_0 b0_1 b1_0 b1_1 (fun y0 => k (.v (.bool y0)) []) := by
  rw [j16_raw]; rfl
theorem j17_c (k kp : D → List Blk → Prop) (J L : Nat → St → Prop) (x2 : (List ByteArray)) (x3 : (List ByteArray)) (x12 : Bool) (b0_0 : Int) (b0_1 : Int) (b1_0 : Int) (b1_1 : Int) : runC cfg 17 J L (pick none' []) [1, 1, 1, 1, 1, 1] body (topK cfg Tryd.f5 k kp) (m17 x2 x3 x12 b0_0 b0_1 b1_0 b1_1) = j17 x2 x3 x12 b0_0 b0_1 b1_0 b1_1 (fun y0 => k (.v (.bool y0)) []) := by kernel_rfl
theorem j17_ag (k kp : D → List Blk → Prop) : agPL cfg 17 (JJ k kp) (LL k kp) [1, 1, 1, 1, 1, 1] body = agPR cfg 17 (pick none' []) [1, 1, 1, 1, 1, 1] body (topK cfg Tryd.f5 k kp) := by kernel_rfl
theorem j17_raw (k kp : D → List Blk → Prop) (x2 : (List ByteArray)) (x3 : (List ByteArray)) (x12 : Bool) (b0_0 : Int) (b0_1 : Int) (b1_0 : Int) (b1_1 : Int) : X17 k kp (m17 x2 x3 x12 b0_0 b0_1 b1_0 b1_1) = j17 x2 x3 x12 b0_0 b0_1 b1_0 b1_1 (fun y0 => k (.v (.bool y0)) []) :=
  Eq.mp (by kernel_rfl) ((atP_run (j17_ag k kp) (m17 x2 x3 x12 b0_0 b0_1 b1_0 b1_1)).trans (j17_c k kp (JJ k kp) (LL k kp) x2 x3 x12 b0_0 b0_1 b1_0 b1_1))
theorem j17_eq (k kp : D → List Blk → Prop) (x2 : (List ByteArray)) (x3 : (List ByteArray)) (x12 : Bool) (b0_0 : Int) (b0_1 : Int) (b1_0 : Int) (b1_1 : Int) : X17 k kp (m17 x2 x3 x12 b0_0 b0_1 b1_0 b1_1) = j17' x2 x3 x12 b0_0 b0_1 b1_0 b1_1 (fun y0 => k (.v (.bool y0)) []) := by
  rw [j17_raw]; rfl
theorem l8_c (k kp : D → List Blk → Prop) (J L : Nat → St → Prop) (ag5 : St → Prop) (ag8 : St → Prop) (x2 : (List ByteArray)) (x3 : (List ByteArray)) (x10 : Int) (x11 : Int) (b0_0 : Int) (b0_1 : Int) (b1_0 : Int) (b1_1 : Int) (b2 : (List ByteArray)) : runC cfg 1000001 J L (pick none' [(5, ag5), (8, ag8)]) [1, 1, 1, 0, 1, 0, 0, 1, 0, 0, 1, 0, 0] body (topK cfg Tryd.f5 k kp) (mL8 x2 x3 x10 x11 b0_0 b0_1 b1_0 b1_1 b2) = l8 (fun x2 x3 x10 b0_0 b0_1 b1_0 b1_1 b2 => J 6 (m6 x2 x3 x10 b0_0 b0_1 b1_0 b1_1 b2)) (fun x11 b0_0 b0_1 b1_0 b1_1 b2 => ag8 (mL8 x2 x3 x10 x11 b0_0 b0_1 b1_0 b1_1 b2)) x2 x3 x10 x11 b0_0 b0_1 b1_0 b1_1 b2 (fun y0 => k (.v (.bool y0)) []) := by kernel_rfl
theorem l8_ag (k kp : D → List Blk → Prop) (ag5 : St → Prop) (ag8 : St → Prop) : agPL cfg 1000001 (JJ_5_8 k kp ag5 ag8) (LL_5_8 k kp ag5 ag8) [1, 1, 1, 0, 1, 0, 0, 1, 0, 0, 1, 0, 0] body = agPR cfg 1000001 (pick none' [(5, ag5), (8, ag8)]) [1, 1, 1, 0, 1, 0, 0, 1, 0, 0, 1, 0, 0] body (topK cfg Tryd.f5 k kp) := by kernel_rfl
theorem l8_raw (k kp : D → List Blk → Prop) (ag5 : St → Prop) (ag8 : St → Prop) (x2 : (List ByteArray)) (x3 : (List ByteArray)) (x10 : Int) (x11 : Int) (b0_0 : Int) (b0_1 : Int) (b1_0 : Int) (b1_1 : Int) (b2 : (List ByteArray)) : YL8 k kp ag5 ag8 (mL8 x2 x3 x10 x11 b0_0 b0_1 b1_0 b1_1 b2) = l8 (fun x2 x3 x10 b0_0 b0_1 b1_0 b1_1 b2 => X6 k kp ag5 (m6 x2 x3 x10 b0_0 b0_1 b1_0 b1_1 b2)) (fun x11 b0_0 b0_1 b1_0 b1_1 b2 => ag8 (mL8 x2 x3 x10 x11 b0_0 b0_1 b1_0 b1_1 b2)) x2 x3 x10 x11 b0_0 b0_1 b1_0 b1_1 b2 (fun y0 => k (.v (.bool y0)) []) :=
  Eq.mp (by kernel_rfl) ((atP_run (l8_ag k kp ag5 ag8) (mL8 x2 x3 x10 x11 b0_0 b0_1 b1_0 b1_1 b2)).trans (l8_c k kp (JJ_5_8 k kp ag5 ag8) (LL_5_8 k kp ag5 ag8) ag5 ag8 x2 x3 x10 x11 b0_0 b0_1 b1_0 b1_1 b2))
theorem l8_eq (k kp : D → List Blk → Prop) (ag5 : St → Prop) (x2 : (List ByteArray)) (x3 : (List ByteArray)) (x10 : Int) (x11 : Int) (b0_0 : Int) (b0_1 : Int) (b1_0 : Int) (b1_1 : Int) (b2 : (List ByteArray)) : XL8 k kp ag5 (mL8 x2 x3 x10 x11 b0_0 b0_1 b1_0 b1_1 b2) = l8' (fun x10 b0_0 b0_1 b1_0 b1_1 b2 => ag5 (mL5 x2 x3 x10 b0_0 b0_1 b1_0 b1_1 b2)) x2 x3 x10 x11 b0_0 b0_1 b1_0 b1_1 b2 (fun y0 => k (.v (.bool y0)) []) :=
  loop_eq (mk := fun (s : Int × Int × Int × Int × Int × (List ByteArray)) => mL8 x2 x3 x10 s.1 s.2.1 s.2.2.1 s.2.2.2.1 s.2.2.2.2.1 s.2.2.2.2.2) (fun again s => by rw [l8_raw k kp ag5 again x2 x3 x10 s.1 s.2.1 s.2.2.1 s.2.2.2.1 s.2.2.2.2.1 s.2.2.2.2.2]; simp only [j6_eq]; first | done | rfl) (x11, b0_0, b0_1, b1_0, b1_1, b2)
theorem l14_c (k kp : D → List Blk → Prop) (J L : Nat → St → Prop) (ag14 : St → Prop) (x2 : (List ByteArray)) (x3 : (List ByteArray)) (x12 : Bool) (x13 : Int) (b0_0 : Int) (b0_1 : Int) (b1_0 : Int) (b1_1 : Int) : runC cfg 1000001 J L (pick none' [(14, ag14)]) [1, 1, 1, 1, 1, 0, 1, 0, 0] body (topK cfg Tryd.f5 k kp) (mL14 x2 x3 x12 x13 b0_0 b0_1 b1_0 b1_1) = l14 (fun x2 x3 x13 b0_0 b0_1 b1_0 b1_1 => J 16 (m16 x2 x3 x13 b0_0 b0_1 b1_0 b1_1)) (fun x2 x3 x12 b0_0 b0_1 b1_0 b1_1 => J 17 (m17 x2 x3 x12 b0_0 b0_1 b1_0 b1_1)) x2 x3 x12 x13 b0_0 b0_1 b1_0 b1_1 (fun y0 => k (.v (.bool y0)) []) := by kernel_rfl
theorem l14_ag (k kp : D → List Blk → Prop) (ag14 : St → Prop) : agPL cfg 1000001 (JJ_14 k kp ag14) (LL_14 k kp ag14) [1, 1, 1, 1, 1, 0, 1, 0, 0] body = agPR cfg 1000001 (pick none' [(14, ag14)]) [1, 1, 1, 1, 1, 0, 1, 0, 0] body (topK cfg Tryd.f5 k kp) := by kernel_rfl
theorem l14_raw (k kp : D → List Blk → Prop) (ag14 : St → Prop) (x2 : (List ByteArray)) (x3 : (List ByteArray)) (x12 : Bool) (x13 : Int) (b0_0 : Int) (b0_1 : Int) (b1_0 : Int) (b1_1 : Int) : YL14 k kp ag14 (mL14 x2 x3 x12 x13 b0_0 b0_1 b1_0 b1_1) = l14 (fun x2 x3 x13 b0_0 b0_1 b1_0 b1_1 => X16 k kp ag14 (m16 x2 x3 x13 b0_0 b0_1 b1_0 b1_1)) (fun x2 x3 x12 b0_0 b0_1 b1_0 b1_1 => X17 k kp (m17 x2 x3 x12 b0_0 b0_1 b1_0 b1_1)) x2 x3 x12 x13 b0_0 b0_1 b1_0 b1_1 (fun y0 => k (.v (.bool y0)) []) :=
  Eq.mp (by kernel_rfl) ((atP_run (l14_ag k kp ag14) (mL14 x2 x3 x12 x13 b0_0 b0_1 b1_0 b1_1)).trans (l14_c k kp (JJ_14 k kp ag14) (LL_14 k kp ag14) ag14 x2 x3 x12 x13 b0_0 b0_1 b1_0 b1_1))
theorem l14_eq (k kp : D → List Blk → Prop) (x2 : (List ByteArray)) (x3 : (List ByteArray)) (x12 : Bool) (x13 : Int) (b0_0 : Int) (b0_1 : Int) (b1_0 : Int) (b1_1 : Int) : XL14 k kp (mL14 x2 x3 x12 x13 b0_0 b0_1 b1_0 b1_1) = l14' x2 x3 x12 x13 b0_0 b0_1 b1_0 b1_1 (fun y0 => k (.v (.bool y0)) []) :=
  loop_eq (mk := fun (s : Bool × Int × Int × Int × Int × Int) => mL14 x2 x3 s.1 s.2.1 s.2.2.1 s.2.2.2.1 s.2.2.2.2.1 s.2.2.2.2.2) (fun again s => by rw [l14_raw k kp again x2 x3 s.1 s.2.1 s.2.2.1 s.2.2.2.1 s.2.2.2.2.1 s.2.2.2.2.2]; simp only [j16_eq, j17_eq]; first | done | rfl) (x12, x13, b0_0, b0_1, b1_0, b1_1)
theorem j13_c (k kp : D → List Blk → Prop) (J L : Nat → St → Prop) (x2 : (List ByteArray)) (x3 : (List ByteArray)) (x12 : Bool) (b0_0 : Int) (b0_1 : Int) (b1_0 : Int) (b1_1 : Int) : runC cfg 13 J L (pick none' []) [1, 1, 1, 1, 1] body (topK cfg Tryd.f5 k kp) (m13 x2 x3 x12 b0_0 b0_1 b1_0 b1_1) = j13 (fun x2 x3 x12 x13 b0_0 b0_1 b1_0 b1_1 => L 14 (mL14 x2 x3 x12 x13 b0_0 b0_1 b1_0 b1_1)) x2 x3 x12 b0_0 b0_1 b1_0 b1_1 (fun y0 => k (.v (.bool y0)) []) := by kernel_rfl
theorem j13_ag (k kp : D → List Blk → Prop) : agPL cfg 13 (JJ k kp) (LL k kp) [1, 1, 1, 1, 1] body = agPR cfg 13 (pick none' []) [1, 1, 1, 1, 1] body (topK cfg Tryd.f5 k kp) := by kernel_rfl
theorem j13_raw (k kp : D → List Blk → Prop) (x2 : (List ByteArray)) (x3 : (List ByteArray)) (x12 : Bool) (b0_0 : Int) (b0_1 : Int) (b1_0 : Int) (b1_1 : Int) : X13 k kp (m13 x2 x3 x12 b0_0 b0_1 b1_0 b1_1) = j13 (fun x2 x3 x12 x13 b0_0 b0_1 b1_0 b1_1 => XL14 k kp (mL14 x2 x3 x12 x13 b0_0 b0_1 b1_0 b1_1)) x2 x3 x12 b0_0 b0_1 b1_0 b1_1 (fun y0 => k (.v (.bool y0)) []) :=
  Eq.mp (by kernel_rfl) ((atP_run (j13_ag k kp) (m13 x2 x3 x12 b0_0 b0_1 b1_0 b1_1)).trans (j13_c k kp (JJ k kp) (LL k kp) x2 x3 x12 b0_0 b0_1 b1_0 b1_1))
theorem j13_eq (k kp : D → List Blk → Prop) (x2 : (List ByteArray)) (x3 : (List ByteArray)) (x12 : Bool) (b0_0 : Int) (b0_1 : Int) (b1_0 : Int) (b1_1 : Int) : X13 k kp (m13 x2 x3 x12 b0_0 b0_1 b1_0 b1_1) = j13' x2 x3 x12 b0_0 b0_1 b1_0 b1_1 (fun y0 => k (.v (.bool y0)) []) := by
  rw [j13_raw]; simp only [l14_eq]; first | done | rfl
theorem j12_c (k kp : D → List Blk → Prop) (J L : Nat → St → Prop) (x2 : (List ByteArray)) (x3 : (List ByteArray)) (b0_0 : Int) (b0_1 : Int) (b1_0 : Int) (b1_1 : Int) : runC cfg 12 J L (pick none' []) [1, 1, 1, 1] body (topK cfg Tryd.f5 k kp) (m12 x2 x3 b0_0 b0_1 b1_0 b1_1) = j12 (fun x2 x3 x12 b0_0 b0_1 b1_0 b1_1 => J 13 (m13 x2 x3 x12 b0_0 b0_1 b1_0 b1_1)) x2 x3 b0_0 b0_1 b1_0 b1_1 (fun y0 => k (.v (.bool y0)) []) := by kernel_rfl
theorem j12_ag (k kp : D → List Blk → Prop) : agPL cfg 12 (JJ k kp) (LL k kp) [1, 1, 1, 1] body = agPR cfg 12 (pick none' []) [1, 1, 1, 1] body (topK cfg Tryd.f5 k kp) := by kernel_rfl
theorem j12_raw (k kp : D → List Blk → Prop) (x2 : (List ByteArray)) (x3 : (List ByteArray)) (b0_0 : Int) (b0_1 : Int) (b1_0 : Int) (b1_1 : Int) : X12 k kp (m12 x2 x3 b0_0 b0_1 b1_0 b1_1) = j12 (fun x2 x3 x12 b0_0 b0_1 b1_0 b1_1 => X13 k kp (m13 x2 x3 x12 b0_0 b0_1 b1_0 b1_1)) x2 x3 b0_0 b0_1 b1_0 b1_1 (fun y0 => k (.v (.bool y0)) []) :=
  Eq.mp (by kernel_rfl) ((atP_run (j12_ag k kp) (m12 x2 x3 b0_0 b0_1 b1_0 b1_1)).trans (j12_c k kp (JJ k kp) (LL k kp) x2 x3 b0_0 b0_1 b1_0 b1_1))
theorem j12_eq (k kp : D → List Blk → Prop) (x2 : (List ByteArray)) (x3 : (List ByteArray)) (b0_0 : Int) (b0_1 : Int) (b1_0 : Int) (b1_1 : Int) : X12 k kp (m12 x2 x3 b0_0 b0_1 b1_0 b1_1) = j12' x2 x3 b0_0 b0_1 b1_0 b1_1 (fun y0 => k (.v (.bool y0)) []) := by
  rw [j12_raw]; simp only [j13_eq]; first | done | rfl
theorem l5_c (k kp : D → List Blk → Prop) (J L : Nat → St → Prop) (ag5 : St → Prop) (x2 : (List ByteArray)) (x3 : (List ByteArray)) (x10 : Int) (b0_0 : Int) (b0_1 : Int) (b1_0 : Int) (b1_1 : Int) (b2 : (List ByteArray)) : runC cfg 1000001 J L (pick none' [(5, ag5)]) [1, 1, 1, 0, 1, 0, 0] body (topK cfg Tryd.f5 k kp) (mL5 x2 x3 x10 b0_0 b0_1 b1_0 b1_1 b2) = l5 (fun x2 x3 x10 x11 b0_0 b0_1 b1_0 b1_1 b2 => L 8 (mL8 x2 x3 x10 x11 b0_0 b0_1 b1_0 b1_1 b2)) (fun x2 x3 b0_0 b0_1 b1_0 b1_1 => J 12 (m12 x2 x3 b0_0 b0_1 b1_0 b1_1)) x2 x3 x10 b0_0 b0_1 b1_0 b1_1 b2 (fun y0 => k (.v (.bool y0)) []) := by kernel_rfl
theorem l5_ag (k kp : D → List Blk → Prop) (ag5 : St → Prop) : agPL cfg 1000001 (JJ_5 k kp ag5) (LL_5 k kp ag5) [1, 1, 1, 0, 1, 0, 0] body = agPR cfg 1000001 (pick none' [(5, ag5)]) [1, 1, 1, 0, 1, 0, 0] body (topK cfg Tryd.f5 k kp) := by kernel_rfl
theorem l5_raw (k kp : D → List Blk → Prop) (ag5 : St → Prop) (x2 : (List ByteArray)) (x3 : (List ByteArray)) (x10 : Int) (b0_0 : Int) (b0_1 : Int) (b1_0 : Int) (b1_1 : Int) (b2 : (List ByteArray)) : YL5 k kp ag5 (mL5 x2 x3 x10 b0_0 b0_1 b1_0 b1_1 b2) = l5 (fun x2 x3 x10 x11 b0_0 b0_1 b1_0 b1_1 b2 => XL8 k kp ag5 (mL8 x2 x3 x10 x11 b0_0 b0_1 b1_0 b1_1 b2)) (fun x2 x3 b0_0 b0_1 b1_0 b1_1 => X12 k kp (m12 x2 x3 b0_0 b0_1 b1_0 b1_1)) x2 x3 x10 b0_0 b0_1 b1_0 b1_1 b2 (fun y0 => k (.v (.bool y0)) []) :=
  Eq.mp (by kernel_rfl) ((atP_run (l5_ag k kp ag5) (mL5 x2 x3 x10 b0_0 b0_1 b1_0 b1_1 b2)).trans (l5_c k kp (JJ_5 k kp ag5) (LL_5 k kp ag5) ag5 x2 x3 x10 b0_0 b0_1 b1_0 b1_1 b2))
theorem l5_eq (k kp : D → List Blk → Prop) (x2 : (List ByteArray)) (x3 : (List ByteArray)) (x10 : Int) (b0_0 : Int) (b0_1 : Int) (b1_0 : Int) (b1_1 : Int) (b2 : (List ByteArray)) : XL5 k kp (mL5 x2 x3 x10 b0_0 b0_1 b1_0 b1_1 b2) = l5' x2 x3 x10 b0_0 b0_1 b1_0 b1_1 b2 (fun y0 => k (.v (.bool y0)) []) :=
  loop_eq (mk := fun (s : Int × Int × Int × Int × Int × (List ByteArray)) => mL5 x2 x3 s.1 s.2.1 s.2.2.1 s.2.2.2.1 s.2.2.2.2.1 s.2.2.2.2.2) (fun again s => by rw [l5_raw k kp again x2 x3 s.1 s.2.1 s.2.2.1 s.2.2.2.1 s.2.2.2.2.1 s.2.2.2.2.2]; simp only [l8_eq, j12_eq]; first | done | rfl) (x10, b0_0, b0_1, b1_0, b1_1, b2)
theorem j3_c (k kp : D → List Blk → Prop) (J L : Nat → St → Prop) (x2 : (List ByteArray)) (x3 : (List ByteArray)) (b0_0 : Int) (b0_1 : Int) (b1_0 : Int) (b1_1 : Int) : runC cfg 3 J L (pick none' []) [1, 1] body (topK cfg Tryd.f5 k kp) (m3 x2 x3 b0_0 b0_1 b1_0 b1_1) = j3 (fun x2 x3 x10 b0_0 b0_1 b1_0 b1_1 b2 => L 5 (mL5 x2 x3 x10 b0_0 b0_1 b1_0 b1_1 b2)) x2 x3 b0_0 b0_1 b1_0 b1_1 (fun y0 => k (.v (.bool y0)) []) := by kernel_rfl
theorem j3_ag (k kp : D → List Blk → Prop) : agPL cfg 3 (JJ k kp) (LL k kp) [1, 1] body = agPR cfg 3 (pick none' []) [1, 1] body (topK cfg Tryd.f5 k kp) := by kernel_rfl
theorem j3_raw (k kp : D → List Blk → Prop) (x2 : (List ByteArray)) (x3 : (List ByteArray)) (b0_0 : Int) (b0_1 : Int) (b1_0 : Int) (b1_1 : Int) : X3 k kp (m3 x2 x3 b0_0 b0_1 b1_0 b1_1) = j3 (fun x2 x3 x10 b0_0 b0_1 b1_0 b1_1 b2 => XL5 k kp (mL5 x2 x3 x10 b0_0 b0_1 b1_0 b1_1 b2)) x2 x3 b0_0 b0_1 b1_0 b1_1 (fun y0 => k (.v (.bool y0)) []) :=
  Eq.mp (by kernel_rfl) ((atP_run (j3_ag k kp) (m3 x2 x3 b0_0 b0_1 b1_0 b1_1)).trans (j3_c k kp (JJ k kp) (LL k kp) x2 x3 b0_0 b0_1 b1_0 b1_1))
theorem j3_eq (k kp : D → List Blk → Prop) (x2 : (List ByteArray)) (x3 : (List ByteArray)) (b0_0 : Int) (b0_1 : Int) (b1_0 : Int) (b1_1 : Int) : X3 k kp (m3 x2 x3 b0_0 b0_1 b1_0 b1_1) = j3' x2 x3 b0_0 b0_1 b1_0 b1_1 (fun y0 => k (.v (.bool y0)) []) := by
  rw [j3_raw]; simp only [l5_eq]; first | done | rfl
theorem j2000002_c (k kp : D → List Blk → Prop) (J L : Nat → St → Prop) (x2 : (List ByteArray)) (x3 : (List ByteArray)) (x33 : Bool) (b0_0 : Int) (b0_1 : Int) (b1_0 : Int) (b1_1 : Int) : runC cfg 2000002 J L (pick none' []) [1, 0, 1] body (topK cfg Tryd.f5 k kp) (m2000002 x2 x3 x33 b0_0 b0_1 b1_0 b1_1) = j2000002 (fun x2 x3 b0_0 b0_1 b1_0 b1_1 => J 3 (m3 x2 x3 b0_0 b0_1 b1_0 b1_1)) x2 x3 x33 b0_0 b0_1 b1_0 b1_1 (fun y0 => k (.v (.bool y0)) []) := by kernel_rfl
theorem j2000002_ag (k kp : D → List Blk → Prop) : agPL cfg 2000002 (JJ k kp) (LL k kp) [1, 0, 1] body = agPR cfg 2000002 (pick none' []) [1, 0, 1] body (topK cfg Tryd.f5 k kp) := by kernel_rfl
theorem j2000002_raw (k kp : D → List Blk → Prop) (x2 : (List ByteArray)) (x3 : (List ByteArray)) (x33 : Bool) (b0_0 : Int) (b0_1 : Int) (b1_0 : Int) (b1_1 : Int) : X2000002 k kp (m2000002 x2 x3 x33 b0_0 b0_1 b1_0 b1_1) = j2000002 (fun x2 x3 b0_0 b0_1 b1_0 b1_1 => X3 k kp (m3 x2 x3 b0_0 b0_1 b1_0 b1_1)) x2 x3 x33 b0_0 b0_1 b1_0 b1_1 (fun y0 => k (.v (.bool y0)) []) :=
  Eq.mp (by kernel_rfl) ((atP_run (j2000002_ag k kp) (m2000002 x2 x3 x33 b0_0 b0_1 b1_0 b1_1)).trans (j2000002_c k kp (JJ k kp) (LL k kp) x2 x3 x33 b0_0 b0_1 b1_0 b1_1))
theorem j2000002_eq (k kp : D → List Blk → Prop) (x2 : (List ByteArray)) (x3 : (List ByteArray)) (x33 : Bool) (b0_0 : Int) (b0_1 : Int) (b1_0 : Int) (b1_1 : Int) : X2000002 k kp (m2000002 x2 x3 x33 b0_0 b0_1 b1_0 b1_1) = j2000002' x2 x3 x33 b0_0 b0_1 b1_0 b1_1 (fun y0 => k (.v (.bool y0)) []) := by
  rw [j2000002_raw]; simp only [j3_eq]; first | done | rfl
theorem c_c (k kp : D → List Blk → Prop) (J L : Nat → St → Prop) (x0_0 : Int) (x0_1 : Int) (x1_0 : Int) (x1_1 : Int) (x2 : (List ByteArray)) (x3 : (List ByteArray)) : runC cfg 1000001 J L none'' [] body (topK cfg Tryd.f5 k kp) (st0 Tryd.f5 [(.agg [(.v (.int IntKind.i64 x0_0)), (.v (.int IntKind.i64 x0_1))]), (.agg [(.v (.int IntKind.i64 x1_0)), (.v (.int IntKind.i64 x1_1))]), (.fz Ty.str x2), (.fz Ty.str x3)] []) = c (fun x2 x3 x33 b0_0 b0_1 b1_0 b1_1 => J 2000002 (m2000002 x2 x3 x33 b0_0 b0_1 b1_0 b1_1)) x0_0 x0_1 x1_0 x1_1 x2 x3 (fun y0 => k (.v (.bool y0)) []) := by kernel_rfl
theorem c_ag (k kp : D → List Blk → Prop) : agPL cfg 1000001 (JJ k kp) (LL k kp) [] body = agPR cfg 1000001 none'' [] body (topK cfg Tryd.f5 k kp) := by kernel_rfl
theorem body_is : Tryd.f5.body = some body := by kernel_rfl
theorem c_raw (k kp : D → List Blk → Prop) (x0_0 : Int) (x0_1 : Int) (x1_0 : Int) (x1_1 : Int) (x2 : (List ByteArray)) (x3 : (List ByteArray)) : funW cfg Tryd.f5 [(.agg [(.v (.int IntKind.i64 x0_0)), (.v (.int IntKind.i64 x0_1))]), (.agg [(.v (.int IntKind.i64 x1_0)), (.v (.int IntKind.i64 x1_1))]), (.fz Ty.str x2), (.fz Ty.str x3)] [] k kp = c (fun x2 x3 x33 b0_0 b0_1 b1_0 b1_1 => X2000002 k kp (m2000002 x2 x3 x33 b0_0 b0_1 b1_0 b1_1)) x0_0 x0_1 x1_0 x1_1 x2 x3 (fun y0 => k (.v (.bool y0)) []) :=
  Eq.mp (by kernel_rfl) ((funW_run (AG := none'') body_is (c_ag k kp) [(.agg [(.v (.int IntKind.i64 x0_0)), (.v (.int IntKind.i64 x0_1))]), (.agg [(.v (.int IntKind.i64 x1_0)), (.v (.int IntKind.i64 x1_1))]), (.fz Ty.str x2), (.fz Ty.str x3)] []).trans (c_c k kp (JJ k kp) (LL k kp) x0_0 x0_1 x1_0 x1_1 x2 x3))
theorem f_eq (k kp : D → List Blk → Prop) (x0_0 : Int) (x0_1 : Int) (x1_0 : Int) (x1_1 : Int) (x2 : (List ByteArray)) (x3 : (List ByteArray)) : funW cfg Tryd.f5 [(.agg [(.v (.int IntKind.i64 x0_0)), (.v (.int IntKind.i64 x0_1))]), (.agg [(.v (.int IntKind.i64 x1_0)), (.v (.int IntKind.i64 x1_1))]), (.fz Ty.str x2), (.fz Ty.str x3)] [] k kp = f x0_0 x0_1 x1_0 x1_1 x2 x3 (fun y0 => k (.v (.bool y0)) []) := by
  rw [f_def, c_raw]; simp only [j2000002_eq]; first | done | rfl
noncomputable def ent0 : Entry := fun args blks k _ => match args, blks with
  | [d0, d1, d2, d3], [] => aAgg 2 d0 fun l => aCons l fun d0_0 l => aCons l fun d0_1 l => aNil l (aInt IntKind.i64 d0_0 fun x0_0 => aInt IntKind.i64 d0_1 fun x0_1 => aAgg 2 d1 fun l => aCons l fun d1_0 l => aCons l fun d1_1 l => aNil l (aInt IntKind.i64 d1_0 fun x1_0 => aInt IntKind.i64 d1_1 fun x1_1 => aFz Ty.str d2 fun x2 => aFz Ty.str d3 fun x3 => f x0_0 x0_1 x1_0 x1_1 x2 x3 (fun y0 => k (.v (.bool y0)) [])))
  | _, _ => False
noncomputable def ent : Entry := fun args blks k kp => ent0 (convB [.no, .no, .one Ty.str, .one Ty.str] args) blks k kp
theorem ok : EntOk Tryd.prog 40 49 5 ent := by
  refine EntOk.convB (EntOk.of (funW_ok (cfg := cfg) (tyOk_of rfl rfl tyL_ok) (eqOk_of (P := Tryd.prog) rfl rfl (by kernel_rfl)) mixed_ok (tab_ok ?_) Tryd.func5 (by rfl) (by rfl)) ?_) _
  · intro p hp
    simp only [List.mem_cons, List.not_mem_nil, or_false] at hp
    rcases hp with rfl | rfl | rfl
    · exact N6.ok
    · exact N7.ok
    · exact N10.ok
  · intro args blks k kp h k' kp'
    match args, blks, h with
    | [d0, d1, d2, d3], [], h =>
    dsimp only [ent0] at h
    have h9 := aAgg_elim h; clear h; obtain ⟨_, rfl, h⟩ := h9
    have h9 := aCons_elim h; clear h; obtain ⟨d0_0, _, rfl, h⟩ := h9
    have h9 := aCons_elim h; clear h; obtain ⟨d0_1, _, rfl, h⟩ := h9
    have h9 := aNil_elim h; clear h; obtain ⟨rfl, h⟩ := h9
    have h9 := aInt_elim h; clear h; obtain ⟨x0_0, rfl, h⟩ := h9
    have h9 := aInt_elim h; clear h; obtain ⟨x0_1, rfl, h⟩ := h9
    have h9 := aAgg_elim h; clear h; obtain ⟨_, rfl, h⟩ := h9
    have h9 := aCons_elim h; clear h; obtain ⟨d1_0, _, rfl, h⟩ := h9
    have h9 := aCons_elim h; clear h; obtain ⟨d1_1, _, rfl, h⟩ := h9
    have h9 := aNil_elim h; clear h; obtain ⟨rfl, h⟩ := h9
    have h9 := aInt_elim h; clear h; obtain ⟨x1_0, rfl, h⟩ := h9
    have h9 := aInt_elim h; clear h; obtain ⟨x1_1, rfl, h⟩ := h9
    have h9 := aFz_elim (t := Ty.str) h; clear h; obtain ⟨x2, rfl, h⟩ := h9
    have h9 := aFz_elim (t := Ty.str) h; clear h; obtain ⟨x3, rfl, h⟩ := h9
    exact (f_eq k' kp' x0_0 x0_1 x1_0 x1_1 x2 x3).symm
end N5
end Go.Proofs.Yd
namespace Go.Proofs.Yd
open Go Go.Aw Go.Proofs Go.Proofs.YtbfggnlonemmiaaDoor Go.ChangeShapes Go.WideShapes Go.RowKit

/-! ### What the row says of the variable that errors.As looks at -/
theorem Tryd.et : Tryd.prog.globalNamed "errors.errorType" = some 0 := by kernel_rfl
theorem Tryd.rt : (Tryd.prog.cutTypes.find? (·.1 == "internal/reflectlite.rtype")).map (·.2) = some 73 := by kernel_rfl
theorem Tryd.oneRow : ((List.range 119).filter fun t => Tryd.prog.rowNamed t [101, 114, 114, 111, 114]) = [26] := by kernel_rfl
theorem Tryd.typesSize : Tryd.prog.types.size = 119 := by kernel_rfl
theorem handle_of_laid {W : World} (h : laidMetH Tryd.prog [("errors.errorType", Rows.laid_errors_errorType)] W) : W.cell? ⟨0, 0, none⟩ = some (.iface 73 (.agg #[.pointer (some ⟨1, 26, none⟩)])) := by
  have h' : laidMet Tryd.prog [] W ∧ handlesMet Tryd.prog [("errors.errorType", Rows.laid_errors_errorType)] W := h
  obtain ⟨name, u, ty, e1, e2, e3, e4, e5⟩ := h'.2 _ (List.mem_singleton.2 rfl)
  have en : name = [101, 114, 114, 111, 114] := (Option.some.inj e1).symm
  subst en
  obtain rfl := Option.some.inj (Tryd.rt.symm.trans e2)
  have hm : ty ∈ (List.range 119).filter fun t => Tryd.prog.rowNamed t [101, 114, 114, 111, 114] := List.mem_filter.2 ⟨List.mem_range.2 (by rw [← Tryd.typesSize]; exact e3), e4⟩
  rw [Tryd.oneRow] at hm
  obtain rfl := List.mem_singleton.1 hm
  have hh : typeHandle Tryd.prog 26 = .pointer (some ⟨1, 26, none⟩) := by kernel_rfl
  rw [hh] at e5
  simpa using World.var?_cell Tryd.et e5 0
theorem hand {W : World} (h : laidMetH Tryd.prog [("errors.errorType", Rows.laid_errors_errorType)] W) : ∀ g v, hdlOf Tryd.prog = some (g, v) → W.cell? ⟨g, 0, none⟩ = some v := by
  intro g v hg
  rw [F.hdl] at hg
  cases hg
  exact handle_of_laid h
noncomputable def laidWorld (os : Os) : World :=
  let w0 := World.holding Tryd.prog os ⟨#[], #[], []⟩
  { w0 with heap := w0.heap.modify 0 fun
      | .cells _ t frozen => .cells #[.iface 73 (.agg #[.pointer (some ⟨1, 26, none⟩)])] t frozen
      | o => o }
theorem laid_met (os : Os) (args : Array Value) : laidMetH Tryd.prog [("errors.errorType", Rows.laid_errors_errorType)] ((laidWorld os).forCall (fun _ _ => 0) ⟨#[], args, []⟩).memory :=
  laidMetH_of_parts (laidMet_nil _ _) (by kernel_rfl)
end Go.Proofs.Yd
namespace Go.Proofs.Yd.FaultTwo
open Go Go.Aw Go.Proofs Go.Proofs.YtbfggnlonemmiaaDoor Go.ChangeShapes Go.WideShapes Go.ChangeAt Go.RowKit
set_option linter.unusedVariables false
set_option linter.unusedSimpArgs false
set_option maxRecDepth 100000
/-! 5 dyehouse/dyehouselaw05.FaultTwo -/
def Pure : Prop := ∀ (x0 : (Int × Int)) (w0 : Ty.Wf (Ty.pair (Ty.int IntKind.i64) (Ty.int IntKind.i64)) x0) (x1 : (Int × Int)) (w1 : Ty.Wf (Ty.pair (Ty.int IntKind.i64) (Ty.int IntKind.i64)) x1) (x2 : (List ByteArray)) (w2 : Ty.Wf (Ty.list Ty.str) x2) (x3 : (List ByteArray)) (w3 : Ty.Wf (Ty.list Ty.str) x3), N5.f x0.1 x0.2 x1.1 x1.2 x2 x3 (fun y0 => y0 = true)
theorem own : ownKnob Tryd.prog.godebug = none := by kernel_rfl
theorem laid : laidOutB Tryd.prog = true := by kernel_rfl
set_option maxRecDepth 100000 in
theorem lifted (pure : Pure) (os : Os) (started : os.Started) (H : Type) (enc : TypeId × Value → H) (F : Stop.Interp) :
    ReturnsInHanded {} Tryd.checked os 5 .any ((OpenSpec.ofChange Rows.faultTwoSpec).preRow enc Tryd.prog Tryd.f5 Rows.faultTwoRow.domain false Rows.faultTwoRow.laid) (((OpenSpec.ofChange Rows.faultTwoSpec).at F).post enc Tryd.prog Tryd.f5 false true false false) := by
  obtain ⟨places, hx⟩ : ∃ places, DataW.whole enc Tryd.prog ((laidWorld os).forCall (fun _ _ => 0) ⟨#[], #[(Value.agg #[(Value.int IntKind.i64 (0 : Int)), (Value.int IntKind.i64 (0 : Int))]), (Value.agg #[(Value.int IntKind.i64 (0 : Int)), (Value.int IntKind.i64 (0 : Int))]), .slice none 0 0, .slice none 0 0], []⟩).memory Tryd.f5.params.toList Rows.faultTwoSpec.vars false (#[(Value.agg #[(Value.int IntKind.i64 (0 : Int)), (Value.int IntKind.i64 (0 : Int))]), (Value.agg #[(Value.int IntKind.i64 (0 : Int)), (Value.int IntKind.i64 (0 : Int))]), .slice none 0 0, .slice none 0 0] : Array Value).toList 60 = some ([(.agg [(.lit (.int IntKind.i64 0)), (.lit (.int IntKind.i64 0))]), (.agg [(.lit (.int IntKind.i64 0)), (.lit (.int IntKind.i64 0))]), .nil, .nil], [], places) := ⟨[], by kernel_rfl⟩
  refine returnsInHanded_of_row (C := Tryd.checked) (s := (OpenSpec.ofChange Rows.faultTwoSpec)) own started (by kernel_rfl) Tryd.func5
    (witness_row_at (enc := enc) (C := Tryd.checked) false (laidWorld os) #[(Value.agg #[(Value.int IntKind.i64 (0 : Int)), (Value.int IntKind.i64 (0 : Int))]), (Value.agg #[(Value.int IntKind.i64 (0 : Int)), (Value.int IntKind.i64 (0 : Int))]), .slice none 0 0, .slice none 0 0] rfl (by kernel_rfl) (by kernel_rfl) (by kernel_rfl)
      (OpenSpec.preRow_of_cond 60 hx (by kernel_rfl) (fun k hk => by cases hk) (by kernel_rfl) (laid_met os _))) ?_
  intro W base args ds gs before hval0 hW hcnd hcond hsz0 hL _ _
  have hsz : (DataW.weightsEach Tryd.prog (Tryd.f5.params.toList ++ Rows.faultTwoSpec.plain.varTypes Tryd.prog) (ds ++ gs)).all (· ≤ reachBytes) = true := hsz0
  have hval : ∀ (j : Nat) t v, Tryd.f5.params[j]? = some t → args[j]? = some v → Value.okWide Tryd.prog W .any base t v := hval0
  have hW' := hW
  have hlt := hW.lt
  obtain ⟨p, q, hA0, hV, rfl, hfz, hnd⟩ := hW
  have hA : DataW.TrodAll enc Tryd.prog W 0 (fun _ => true) true Tryd.f5.params.toList args.toList ds p := hA0
  have hAk := hA
  rw [Tryd.params5] at hA hval hsz
  obtain ⟨v0, vs0, d0, ds0, p0, q0, hargs, rfl, rfl, h0, r0⟩ := trodAll_cons hA
  obtain ⟨v1, vs1, d1, ds1, p1, q1, rfl, rfl, rfl, h1, r1⟩ := trodAll_cons r0
  obtain ⟨v2, vs2, d2, ds2, p2, q2, rfl, rfl, rfl, h2, r2⟩ := trodAll_cons r1
  obtain ⟨v3, vs3, d3, ds3, p3, q3, rfl, rfl, rfl, h3, r3⟩ := trodAll_cons r2
  obtain ⟨rfl, rfl, rfl⟩ := trodAll_nil r3
  obtain rfl : args = #[v0, v1, v2, v3] := by cases args; simp_all
  obtain ⟨rfl, rfl⟩ := trodVars_none hV
  obtain ⟨x0, k0, w0, q0⟩ := arg_agg (tf := 40) (tw := 49) (n := 60) (ty := (Ty.pair (Ty.int IntKind.i64) (Ty.int IntKind.i64))) (.inr ⟨_, _, Tryd.underlying36⟩) (hval 0 36 v0 rfl rfl) (by kernel_rfl) h0 (fun m hm => of_decide_eq_true (List.all_eq_true.1 hsz m (DataW.weights_mem_each (j := 0) rfl rfl m hm)))
  obtain ⟨x1, k1, w1, q1⟩ := arg_agg (tf := 40) (tw := 49) (n := 60) (ty := (Ty.pair (Ty.int IntKind.i64) (Ty.int IntKind.i64))) (.inr ⟨_, _, Tryd.underlying36⟩) (hval 1 36 v1 rfl rfl) (by kernel_rfl) h1 (fun m hm => of_decide_eq_true (List.all_eq_true.1 hsz m (DataW.weights_mem_each (j := 1) rfl rfl m hm)))
  obtain ⟨x2, k2, w2, q2⟩ := arg_list (tf := 40) (tw := 49) (n := 30) (te := Ty.str) (e := 9) (by kernel_rfl) (hval 2 23 v2 rfl rfl) (by kernel_rfl) h2 (fun m hm => of_decide_eq_true (List.all_eq_true.1 hsz m (DataW.weights_mem_each (j := 2) rfl rfl m hm)))
  obtain ⟨x3, k3, w3, q3⟩ := arg_list (tf := 40) (tw := 49) (n := 30) (te := Ty.str) (e := 9) (by kernel_rfl) (hval 3 23 v3 rfl rfl) (by kernel_rfl) h3 (fun m hm => of_decide_eq_true (List.all_eq_true.1 hsz m (DataW.weights_mem_each (j := 3) rfl rfl m hm)))
  refine (law_ofG N5.ok (W := W) (hand hL) (us := [v0, v1, v2, v3]) (ds := [.agg (expand (Ty.pair (Ty.int IntKind.i64) (Ty.int IntKind.i64)) x0), .agg (expand (Ty.pair (Ty.int IntKind.i64) (Ty.int IntKind.i64)) x1), .fz Ty.str x2, .fz Ty.str x3]) ⟨_, _, rfl, k0, ⟨_, _, rfl, k1, ⟨_, _, rfl, k2, ⟨_, _, rfl, k3, by simp only [RepL]⟩⟩⟩⟩ (show N5.ent _ _ _ _ from pure x0 w0 x1 w1 x2 w2 x3 w3)).mono fun e W' ⟨he, bel⟩ => ?_
  subst he
  exact ⟨_, rfl, _, _, _, [], _, [], hW', trodAll_mk1 (shut_bool (by kernel_rfl) _), trodAll_below laid bel (by kernel_rfl) hAk (fun x hx => hlt x (by simpa using hx)), rfl, bel.frame _, fun h => by cases h⟩
theorem said (pure : Pure) : Rows.FaultTwoSaid :=
  OpenClaim.holds_of_cond 5 Tryd.f5 rfl rfl rfl rfl rfl rfl rfl ⟨rfl, rfl, rfl, rfl, rfl⟩ rfl rfl rfl rfl rfl (by kernel_rfl) Tryd.func5 (by kernel_rfl)
    (of_decide_eq_true (by kernel_rfl)) (by unfold Func.isWrapper; first | (rw [if_pos (by decide +kernel)]; kernel_rfl) | (rw [if_neg (by decide +kernel)]; exact ⟨rfl, rfl⟩))
    (fun os started H enc _ F => by rw [OpenClaim.pre_eq_preRow]; exact lifted pure os started H enc F)
theorem holds (pure : Pure) : Rows.FaultTwoCardSaid :=
  Claim7.holds_tied_plain_at .later [] _ _ _ _ (said pure) (fun _ h => by cases h) (by kernel_rfl) (fun _ h => by cases h) faultTwo_row_tie rfl ⟨rfl, rfl⟩ (by kernel_rfl) rfl
    (fun f fn hf hfn => by
      obtain rfl : f = 5 := Option.some.inj ((show Tryd.prog.funcNamed "dyehouse/dyehouselaw05.FaultTwo" = some 5 by kernel_rfl).symm.trans hf) |>.symm
      obtain rfl : fn = Tryd.f5 := (Option.some.inj (Tryd.func5.symm.trans hfn)).symm
      refine ⟨by kernel_rfl, fun j t ht => ?_⟩
      rw [Tryd.params5] at ht
      have hm : t ∈ ([36, 36, 23, 23] : List TypeId) := by simpa using Array.mem_of_getElem? ht
      simp only [List.mem_cons, List.not_mem_nil, or_false] at hm
      rcases hm with rfl | rfl | rfl | rfl
      · exact (show Tryd.prog.wantsStandIn 36 = false by kernel_rfl)
      · exact (show Tryd.prog.wantsStandIn 36 = false by kernel_rfl)
      · exact (show Tryd.prog.wantsStandIn 23 = false by kernel_rfl)
      · exact (show Tryd.prog.wantsStandIn 23 = false by kernel_rfl)
    )
    (by kernel_rfl)
end Go.Proofs.Yd.FaultTwo
namespace Go.Proofs.Yd.FaultTwo
open Go Go.Aw Go.Proofs Go.RowKit
set_option linter.unusedVariables false
set_option linter.unusedSimpArgs false

/-! ### Texts without a colon are told apart -/
theorem cut_colon {p q r r' : List Int} (hp : 58 ∉ p) (hq : 58 ∉ q) (h : p ++ 58 :: r = q ++ 58 :: r') : p = q ∧ r = r' := by
  induction p generalizing q with
  | nil =>
    cases q with
    | nil => exact ⟨rfl, (List.cons.inj h).2⟩
    | cons b q =>
      have := (List.cons.inj h).1
      exact absurd (by rw [this]; simp) hq
  | cons a p ih =>
    cases q with
    | nil =>
      have := (List.cons.inj h).1
      exact absurd (by rw [← this]; simp) hp
    | cons b q =>
      obtain ⟨h1, h2⟩ := List.cons.inj h
      obtain ⟨h3, h4⟩ := ih (fun hh => hp (by simp [hh])) (fun hh => hq (by simp [hh])) h2
      exact ⟨by rw [h1, h3], h4⟩
theorem no_colon_put (n : Int) : 58 ∉ putL n := by
  intro h
  rcases putL_ch n 58 h with h | h
  · cases h
  · unfold isD at h; omega
theorem no_space_put (n : Int) : 32 ∉ putL n := by
  intro h
  rcases putL_ch n 32 h with h | h
  · cases h
  · unfold isD at h; omega
theorem cut_space {p q r r' : List Int} (hp : 32 ∉ p) (hq : 32 ∉ q) (h : p ++ 32 :: r = q ++ 32 :: r') : p = q ∧ r = r' := by
  induction p generalizing q with
  | nil =>
    cases q with
    | nil => exact ⟨rfl, (List.cons.inj h).2⟩
    | cons b q =>
      have := (List.cons.inj h).1
      exact absurd (by rw [this]; simp) hq
  | cons a p ih =>
    cases q with
    | nil =>
      have := (List.cons.inj h).1
      exact absurd (by rw [← this]; simp) hp
    | cons b q =>
      obtain ⟨h1, h2⟩ := List.cons.inj h
      obtain ⟨h3, h4⟩ := ih (fun hh => hp (by simp [hh])) (fun hh => hq (by simp [hh])) h2
      exact ⟨by rw [h1, h3], h4⟩
def base (c a : Int) : List Int := putL c ++ [32, 97, 116, 32] ++ putL a
theorem base_inj {c a c' a' : Int} (h1 : in64 c) (h2 : in64 a) (h3 : in64 c') (h4 : in64 a') (h : base c a = base c' a') : c = c' ∧ a = a' := by
  unfold base at h
  simp only [List.append_assoc, List.cons_append, List.nil_append] at h
  obtain ⟨e1, e2⟩ := cut_space (no_space_put c) (no_space_put c') h
  have e3 : putL a = putL a' := by simpa using e2
  exact ⟨putL_inj h1 h3 e1, putL_inj h2 h4 e3⟩
theorem base_colon (c a : Int) : 58 ∉ base c a := by
  unfold base
  intro h
  simp only [List.mem_append, List.mem_cons, List.not_mem_nil, or_false] at h
  rcases h with (h | h) | h
  · exact no_colon_put c h
  · omega
  · exact no_colon_put a h
theorem all_inj {c a c' a' : Int} (h1 : in64 c) (h2 : in64 a) (h3 : in64 c') (h4 : in64 a') : ∀ {ps qs : List ByteArray}, (∀ p ∈ ps, 58 ∉ ofBytes p) → (∀ q ∈ qs, 58 ∉ ofBytes q) → ahead ps ++ base c a = ahead qs ++ base c' a' → ps = qs ∧ c = c' ∧ a = a'
  | [], [], _, _, h => ⟨rfl, base_inj h1 h2 h3 h4 (by simpa [ahead] using h)⟩
  | [], q :: qs, hp, hq, h => by
    exfalso
    refine base_colon c a ?_
    have : ahead [] ++ base c a = base c a := rfl
    rw [this] at h
    rw [h]
    simp [ahead]
  | p :: ps, [], hp, hq, h => by
    exfalso
    refine base_colon c' a' ?_
    have : ahead [] ++ base c' a' = base c' a' := rfl
    rw [this] at h
    rw [← h]
    simp [ahead]
  | p :: ps, q :: qs, hp, hq, h => by
    have e1 : ahead (p :: ps) ++ base c a = ofBytes p ++ 58 :: (32 :: (ahead ps ++ base c a)) := by simp [ahead]
    have e2 : ahead (q :: qs) ++ base c' a' = ofBytes q ++ 58 :: (32 :: (ahead qs ++ base c' a')) := by simp [ahead]
    rw [e1, e2] at h
    obtain ⟨g1, g2⟩ := cut_colon (hp p (by simp)) (hq q (by simp)) h
    obtain ⟨g3, g4, g5⟩ := all_inj h1 h2 h3 h4 (fun x hx => hp x (by simp [hx])) (fun x hx => hq x (by simp [hx])) ((List.cons.inj g2).2)
    exact ⟨by rw [eq_of_ofBytes g1, g3], g4, g5⟩

theorem textB_made {c : Int} (hc : c ≠ 0) (a : Int) (ps : List ByteArray) : textB (madeE c a ps) = bytesOf (ahead ps ++ base c a) := by
  unfold textB
  rw [made_text hc]
  rfl
theorem isB_all (c a : Int) (ps : List ByteArray) : ∀ x ∈ ahead ps ++ base c a, isB x := by
  intro x hx
  rcases List.mem_append.1 hx with h | h
  · unfold ahead at h
    rw [List.mem_flatMap] at h
    obtain ⟨p, _, h⟩ := h
    rcases List.mem_append.1 h with h | h
    · exact ofBytes_isB p x h
    · simp at h
      unfold isB
      omega
  · unfold base at h
    simp only [List.mem_append, List.mem_cons, List.not_mem_nil, or_false] at h
    rcases h with (h | h) | h
    · exact putL_isB c x h
    · unfold isB; omega
    · exact putL_isB a x h

theorem beq_text {c a c' a' : Int} (hc : c ≠ 0) (hc' : c' ≠ 0) (h1 : in64 c) (h2 : in64 a) (h3 : in64 c') (h4 : in64 a') {ps qs : List ByteArray} (hp : ∀ p ∈ ps, 58 ∉ ofBytes p) (hq : ∀ q ∈ qs, 58 ∉ ofBytes q) :
    beqS (textB (madeE c a ps)) (textB (madeE c' a' qs)) = decide ((c = c' ∧ a = a') ∧ ps = qs) := by
  rw [textB_made hc, textB_made hc']
  by_cases h : (c = c' ∧ a = a') ∧ ps = qs
  · obtain ⟨⟨rfl, rfl⟩, rfl⟩ := h
    rw [beqS_self]
    simp
  · rw [decide_eq_false h]
    cases hb : beqS (bytesOf (ahead ps ++ base c a)) (bytesOf (ahead qs ++ base c' a')) with
    | false => rfl
    | true =>
      have e := (beqS_iff _ _).1 hb
      have e2 : ahead ps ++ base c a = ahead qs ++ base c' a' := by
        rw [← ofBytes_bytesOf (isB_all c a ps), ← ofBytes_bytesOf (isB_all c' a' qs), e]
      obtain ⟨g1, g2, g3⟩ := all_inj h1 h2 h3 h4 hp hq e2
      exact absurd ⟨⟨g2, g3⟩, g1⟩ h

theorem getD_mem' {l : List ByteArray} {i : Nat} (h : i < l.length) : l.getD i ByteArray.empty ∈ l := by
  rw [List.getD, List.getElem?_eq_getElem h]; exact List.getElem_mem h

theorem pure : Pure := by
  intro x w0 y w1 ps w2 qs w3
  obtain ⟨c, a⟩ := x
  obtain ⟨c', a'⟩ := y
  have h1 : in64 c := wf64 w0.1
  have h2 : in64 a := wf64 w0.2
  have h3 : in64 c' := wf64 w1.1
  have h4 : in64 a' := wf64 w1.2
  have hz := wf_strs w2
  have hz' := wf_strs w3
  have hw : N6.f (fun y => y = true) := works_f _ rfl
  rw [N5.f_def]
  unfold N5.f0 N5.c
  dsimp only
  have stop : ∀ A B C D : Int, N5.j2000002' ps qs true A B C D (fun y => y = true) := by
    intro A B C D
    unfold N5.j2000002' N5.j2000002
    rw [br_true]
    exact hw
  refine br_of (fun _ => stop _ _ _ _) (fun hn1 => ?_)
  have hl1 : ps.length ≤ 12 := by simp at hn1; omega
  refine br_of (fun _ => stop _ _ _ _) (fun hn2 => ?_)
  have hl2 : qs.length ≤ 12 := by simp at hn2; omega
  rw [br_beq]
  by_cases hc : c = 0
  · rw [if_pos hc]; exact stop _ _ _ _
  rw [if_neg hc]
  unfold N5.j2000002' N5.j2000002
  rw [br_beq]
  by_cases hc' : c' = 0
  · rw [if_pos hc']; exact hw
  rw [if_neg hc']
  unfold N5.j3' N5.j3
  refine ⟨by unfold room; simp; omega, by unfold room; simp; omega, ?_⟩
  rw [List.nil_append]
  -- the end: both texts
  have A1 := ahead_len (ps := ps) (M := 140737488351232) hz
  have A2 := ahead_len (ps := qs) (M := 140737488351232) hz'
  have A1' : (ahead ps).length ≤ 12 * (140737488351232 + 2) := Nat.le_trans A1 (Nat.mul_le_mul_right _ hl1)
  have A2' : (ahead qs).length ≤ 12 * (140737488351232 + 2) := Nat.le_trans A2 (Nat.mul_le_mul_right _ hl2)
  have ok : ∀ (c a : Int) (ps : List ByteArray), c ≠ 0 → in64 c → in64 a → (ahead ps).length ≤ 12 * (140737488351232 + 2) → textOk (madeE c a ps) := by
    intro c a ps hc h1 h2 hA
    refine ⟨.inr ((made_root hc a ps).2.2.2 h1 h2), ?_⟩
    have z1 := (putL_len c).2
    have z2 := (putL_len a).2
    rw [made_text hc, List.length_append, List.length_append, List.length_append]
    simp
    omega
  have fin : ((∀ p ∈ ps, 58 ∉ ofBytes p) ∧ (∀ q ∈ qs, 58 ∉ ofBytes q)) → ∀ same : Bool, same = decide ((c = c' ∧ a = a') ∧ ps = qs) → N5.j17' ps qs same c a c' a' (fun y => y = true) := by
    rintro ⟨hp, hq⟩ same rfl
    unfold N5.j17' N5.j17
    refine made_s c a ps (by omega) _ (made_s c' a' qs (by omega) _ ?_)
    refine ⟨ok c a ps hc h1 h2 A1', ok c' a' qs hc' h3 h4 A2', ?_⟩
    rw [beq_text hc hc' h1 h2 h3 h4 hp hq, beq_self_eq_true, br_true]
    exact hw
  have j12 : ((∀ p ∈ ps, 58 ∉ ofBytes p) ∧ (∀ q ∈ qs, 58 ∉ ofBytes q)) → N5.j12' ps qs c a c' a' (fun y => y = true) := by
    intro hno
    have j14 : ∀ same : Bool, same = (decide (c = c' ∧ a = a') && decide (ps.length = qs.length)) → N5.j13' ps qs same c a c' a' (fun y => y = true) := by
      intro same hs
      unfold N5.j13' N5.j13 N5.l14'
      refine loopS_of (fun s : Bool × Int × Int × Int × Int × Int => ∃ i : Nat, s.2.1 = (i : Int) ∧ i ≤ ps.length ∧ s.2.2 = (c, a, c', a') ∧ s.1 = (same && decide (ps.take i = qs.take i))) (fun s => ps.length - s.2.1.toNat) ?_ ⟨0, rfl, Nat.zero_le _, rfl, by simp⟩
      rintro again ⟨sm, j, r⟩ ⟨i, e1, hi, e2, e3⟩ hag
      simp only at e1 e2 e3
      subst e1; subst e2; subst e3
      unfold N5.l14
      dsimp only
      have last : (same && decide (ps.take i = qs.take i)) = true → i = ps.length → N5.j17' ps qs (same && decide (ps.take i = qs.take i)) c a c' a' (fun y => y = true) := by
        intro hsm hi
        refine fin hno _ ?_
        rw [hsm]
        simp only [Bool.and_eq_true, decide_eq_true_eq] at hsm
        obtain ⟨g1, g2⟩ := hsm
        rw [hs] at g1
        simp only [Bool.and_eq_true, decide_eq_true_eq] at g1
        rw [hi, List.take_length, g1.2, List.take_length] at g2
        exact (decide_eq_true ⟨g1.1, g2⟩).symm
      refine br_of (fun hsm => ?_) (fun hsm => ?_)
      · refine br_of (fun hlt => ?_) (fun hge => ?_)
        · have hlt : i < ps.length := by simp at hlt; omega
          have hqq : i < qs.length := by
            simp only [Bool.and_eq_true, decide_eq_true_eq] at hsm
            rw [hs] at hsm
            simp only [Bool.and_eq_true, decide_eq_true_eq] at hsm
            omega
          unfold N5.j16' N5.j16
          refine ⟨⟨by omega, by omega, by omega⟩, ⟨by omega, by omega, by omega⟩, ?_⟩
          rw [wrap_id (n := (i : Int) + 1) (by omega) (by omega), Int.toNat_natCast]
          refine hag _ ⟨i + 1, by simp, by omega, rfl, ?_⟩ (by simp only; omega)
          simp only [Bool.and_eq_true, decide_eq_true_eq] at hsm
          obtain ⟨s1, s2⟩ := hsm
          rw [s1, Bool.true_and]
          rw [List.take_succ_eq_append_getElem hlt, List.take_succ_eq_append_getElem hqq, s2]
          rw [List.getD, List.getElem?_eq_getElem hlt, List.getD, List.getElem?_eq_getElem hqq]
          simp only [Option.getD_some]
          by_cases e : ps[i] = qs[i]
          · rw [e, beqS_self]; simp
          · rw [decide_eq_false (by intro h; exact e (List.cons.inj (List.append_cancel_left h)).1)]
            cases hb : beqS ps[i] qs[i] with
            | false => rfl
            | true => exact absurd ((beqS_iff _ _).1 hb) e
        · have : i = ps.length := by simp at hge; omega
          exact last hsm this
      · refine fin hno _ ?_
        rw [hsm]
        symm
        refine decide_eq_false fun hh => ?_
        obtain ⟨h5, h6⟩ := hh
        rw [hs, h6] at hsm
        simp [h5] at hsm
    unfold N5.j12' N5.j12
    have e0 : ((c == c') && ((a == a') && true)) = decide (c = c' ∧ a = a') := by
      rw [Bool.and_true, Bool.decide_and]
      rfl
    rw [e0]
    refine br_of (fun h => ?_) (fun h => ?_)
    · refine j14 _ ?_
      rw [h, Bool.true_and]
      by_cases e : ps.length = qs.length
      · simp [e]
      · rw [decide_eq_false e]; simp; omega
    · refine j14 _ ?_
      rw [h, Bool.false_and]
  -- the look for colons
  unfold N5.l5'
  refine loopS_of (fun s : Int × Int × Int × Int × Int × List ByteArray => ∃ i : Nat, s.1 = (i : Int) ∧ i ≤ (ps ++ qs).length ∧ s.2 = (c, a, c', a', ps ++ qs) ∧ ∀ j, j < i → 58 ∉ ofBytes ((ps ++ qs).getD j ByteArray.empty)) (fun s => (ps ++ qs).length - s.1.toNat) ?_ ⟨0, rfl, Nat.zero_le _, rfl, fun j hj => by omega⟩
  rintro again ⟨j, r⟩ ⟨i, e1, hi, e2, hno⟩ hag
  simp only at e1 e2
  subst e1; subst e2
  have hlen : (ps ++ qs).length ≤ 24 := by rw [List.length_append]; omega
  unfold N5.l5
  dsimp only
  refine br_of (fun hlt => ?_) (fun hge => ?_)
  · have hlt : i < (ps ++ qs).length := by simp at hlt ⊢; omega
    have hsz : ((ps ++ qs).getD i ByteArray.empty).size ≤ 140737488351232 := by
      rcases List.mem_append.1 (getD_mem' hlt) with h | h
      · exact hz _ h
      · exact hz' _ h
    unfold N5.l8'
    refine loopS_of (fun s : Int × Int × Int × Int × Int × List ByteArray => ∃ k : Nat, s.1 = (k : Int) ∧ k ≤ ((ps ++ qs).getD i ByteArray.empty).size ∧ s.2 = (c, a, c', a', ps ++ qs) ∧ ∀ j, j < k → (ofBytes ((ps ++ qs).getD i ByteArray.empty)).getD j 0 ≠ 58) (fun s => ((ps ++ qs).getD i ByteArray.empty).size - s.1.toNat) ?_ ⟨0, rfl, Nat.zero_le _, rfl, fun j hj => by omega⟩
    rintro again2 ⟨j, r⟩ ⟨k, e1, hk, e2, hno2⟩ hag2
    simp only at e1 e2
    subst e1; subst e2
    unfold N5.l8 N5.j6' N5.j6
    dsimp only
    have hin : inB 0 (i : Int) (((ps ++ qs).length : Int) - 1) := ⟨by omega, by omega, by omega⟩
    refine ⟨hin, ?_⟩
    rw [Int.toNat_natCast]
    refine br_of (fun hlt2 => ?_) (fun hge2 => ?_)
    · have hlt2 : k < ((ps ++ qs).getD i ByteArray.empty).size := by simp only [decide_eq_true_eq] at hlt2; omega
      refine ⟨hin, ⟨by omega, by omega, by omega⟩, ?_⟩
      rw [byteAt_eq, br_beq]
      by_cases h58 : (ofBytes ((ps ++ qs).getD i ByteArray.empty)).getD k 0 = 58
      · rw [if_pos h58]; exact hw
      · rw [if_neg h58, wrap_id (n := (k : Int) + 1) (by omega) (by omega)]
        refine hag2 _ ⟨k + 1, by simp, by omega, rfl, fun j hj => ?_⟩ (by simp only; omega)
        rcases Nat.lt_or_ge j k with g | g
        · exact hno2 j g
        · have : j = k := by omega
          subst this; exact h58
    · have hk2 : k = ((ps ++ qs).getD i ByteArray.empty).size := by simp only [decide_eq_false_iff_not] at hge2; omega
      rw [wrap_id (n := (i : Int) + 1) (by omega) (by omega)]
      refine hag _ ⟨i + 1, by simp, by omega, rfl, fun j hj => ?_⟩ (by simp only; omega)
      rcases Nat.lt_or_ge j i with g | g
      · exact hno j g
      · have : j = i := by omega
        subst this
        intro hm
        obtain ⟨n, hn, e⟩ := List.getElem_of_mem hm
        refine hno2 n (by rw [hk2, ← ofBytes_length]; exact hn) ?_
        rw [List.getD, List.getElem?_eq_getElem hn]
        exact e
  · have hiE : i = (ps ++ qs).length := by simp only [decide_eq_false_iff_not] at hge; omega
    refine j12 ⟨fun p hp => ?_, fun q hq => ?_⟩
    · obtain ⟨n, hn, e⟩ := List.getElem_of_mem (List.mem_append_left qs hp)
      have := hno n (by omega)
      rw [List.getD, List.getElem?_eq_getElem hn] at this
      rw [← e]; exact this
    · obtain ⟨n, hn, e⟩ := List.getElem_of_mem (List.mem_append_right ps hq)
      have := hno n (by omega)
      rw [List.getD, List.getElem?_eq_getElem hn] at this
      rw [← e]; exact this

theorem proved : Go.Proofs.YtbfggnlonemmiaaDoor.Rows.FaultTwoCardSaid := holds pure
end Go.Proofs.Yd.FaultTwo
namespace Go.Proofs.YtbfggnlonemmiaaDoor
/-- The statement. -/
theorem faultTwoCard_holds : Rows.FaultTwoCardSaid := Go.Proofs.Yd.FaultTwo.proved
#print axioms faultTwoCard_holds
end Go.Proofs.YtbfggnlonemmiaaDoor
