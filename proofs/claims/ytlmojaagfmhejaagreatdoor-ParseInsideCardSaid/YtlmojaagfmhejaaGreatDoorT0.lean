/- Words for the proof of the statement: plain data in place of memory. -/
import Derived.Calls
import Derived.KernelRfl
import Derived.Below
import Derived.Laws.Cells
import Derived.Laws.CopyRow
import GoSem.ClaimJoined
import Derived.Laws.Strings
import Derived.Laws.Entries
import Derived.Laws.Small
import Derived.WideLaws
import Derived.Laws.StructEq
import Derived.Laws.BytesArg
import Derived.Laws.AppendOwn
import Derived.Lib.AppendStr
set_option linter.unusedVariables false
set_option linter.unusedSimpArgs false
set_option linter.unusedSectionVars false
set_option maxRecDepth 100000
set_option maxHeartbeats 4000000
namespace Go.Aw
inductive Ty where
 | int (k : IntKind) | bool | str | list (t : Ty) | pair (a b : Ty)
 deriving DecidableEq, Inhabited
def Ty.den : Ty → Type
 | .int _ => Int
 | .bool => Bool
 | .str => ByteArray
 | .list t => List t.den
 | .pair a b => a.den × b.den
def Ty.size : Ty → Nat
 | .pair a b => a.size + b.size
 | _ => 1
def Ty.dflt : (t : Ty) → t.den
 | .int _ => (0 : Int)
 | .bool => false
 | .str => ByteArray.empty
 | .list t => ([] : List t.den)
 | .pair a b => (a.dflt, b.dflt)
inductive Err where
 | nil
 | flt (code at_ : Int)
 | win (part : ByteArray) (inner : Err)
 | wrg (t : TypeId) (inner : Err)
 deriving Inhabited
def Err.isNil : Err → Bool
 | .nil => true
 | _ => false
inductive D where
 | v (x : Value)
 | agg (cs : List D)
 | tup (ds : List D)
 | fz (t : Ty) (l : List t.den)
 | sl (b ver : Nat)
 | ptr (b off : Nat)
 | ep (b ver : Nat) (i : Int) (off : Nat)
 | fp (cs : List D)
 | er (e : Err)
 | av (t : Ty) (n : Nat) (l : List t.den)
 | clo (f : FuncId) (first caps : List D)
 | bad
instance : Inhabited D := ⟨.bad⟩
inductive Blk where
 | box (ty : TypeId) (cs : List D)
 | lst (e : TypeId) (t : Ty) (l : List t.den) (ver : Nat) (sealed : Bool)
 | arr (ty : TypeId) (n : Nat) (t : Ty) (l : List t.den) (sealed : Bool)
 | bld (ty e : TypeId) (s : ByteArray)
 | itr (s : ByteArray) (pos : Nat)
 | dead
instance : Inhabited Blk := ⟨.dead⟩
def expand : (t : Ty) → t.den → List D
 | .int k, x => [.v (.int k x)]
 | .bool, x => [.v (.bool x)]
 | .str, x => [.v (.string x)]
 | .list t, x => [.fz t x]
 | .pair a b, x => expand a x.1 ++ expand b x.2
def packInt (k : IntKind) : List D → Option (Int × List D)
 | .v (.int k' n) :: r => if k' = k then some (n, r) else none
 | _ => none
def packBool : List D → Option (Bool × List D)
 | .v (.bool b) :: r => some (b, r)
 | _ => none
def packStr : List D → Option (ByteArray × List D)
 | .v (.string s) :: r => some (s, r)
 | _ => none
def packList (t : Ty) : List D → Option (List t.den × List D)
 | .fz t' l :: r => if h : t' = t then some (h ▸ l, r) else none
 | .v (.slice none 0 0) :: r => some ([], r)
 | _ => none
def pack : (t : Ty) → List D → Option (t.den × List D)
 | .int k, ds => packInt k ds
 | .bool, ds => packBool ds
 | .str, ds => packStr ds
 | .list t, ds => packList t ds
 | .pair a b, ds =>
   match pack a ds with
   | some (x, r) => match pack b r with
     | some (y, r') => some ((x, y), r')
     | none => none
   | none => none
def D.cells : D → List D
 | .agg cs => cs
 | d => [d]
def ofV1 : Value → D
 | .nilIface => .er .nil
 | x => .v x
def ofVal : Value → D
 | .agg cs => .agg (cs.toList.map ofV1)
 | x => ofV1 x
structure St where
 tmps : List D
 hp : List Blk
 m : Nat
def St.opd (s : St) : Operand → D
 | .tmp t => s.tmps.getD t .bad
 | .const x => ofVal x
 | .global _ => .bad
 | .func f => .clo f [] []
def br (b : Bool) (p q : Prop) : Prop :=
 match b with
 | true => p
 | false => q
abbrev Entry := List D → List Blk → (D → List Blk → Prop) → (D → List Blk → Prop) → Prop
inductive Mode where
 | keep
 | own (e : TypeId) (t : Ty)
 | ownS (e : TypeId) (t : Ty)
 | cold (t : Ty)
 | cells (l : List (Nat × Option TypeId × Ty))
structure Canon where
 slots : List (Nat × Mode)
structure Cfg where
 P : Program
 tf : TypeId := 0
 tw : TypeId := 0
 ty : TypeId → Option Ty
 E : FuncId → Option Entry
 eqT : TypeId → Option (List Ty) := fun _ => none
 bT : TypeId → Option TypeId := fun _ => none
 fzB : List Nat := []
 lt : List Nat := []
 pd : List (Nat × TypeId) := []
 ms : List (Nat × Nat) := []
 ns : Bool := false
 atSeq : Nat → Option Canon := fun _ => none
 atLoop : Nat → Option Canon := fun _ => none
 atExit : Nat → Option Canon := fun _ => none
 outs : List Mode := []
def getB (hp : List Blk) (b : Nat) : Blk := hp.getD b .dead
def nthIdx (x : Nat) : List Nat → Nat → Option Nat
 | [], _ => none
 | y :: r, i => if y = x then some i else nthIdx x r (i + 1)
def idxOf (x : Nat) (l : List Nat) : List Nat × Nat :=
 match nthIdx x l 0 with
 | some i => (l, i)
 | none => (l ++ [x], l.length)
def below0 (n : Nat) : D → Bool
 | .sl b _ | .ptr b _ | .ep b _ _ _ => Nat.blt b n
 | .v _ | .fz _ _ | .av _ _ _ | .er _ => true
 | _ => false
def below (n : Nat) : D → Bool
 | .agg cs | .fp cs => cs.all (below0 n)
 | .clo _ fs cs => fs.all (below0 n) && cs.all (below0 n)
 | d => below0 n d
def refs (n : Nat) : D → Bool
 | .agg cs | .tup cs | .fp cs => cs.all (below n)
 | .clo _ fs cs => fs.all (below n) && cs.all (below n)
 | d => below0 n d
def sealB : Blk → Blk
 | .lst e t l ver _ => .lst e t l ver true
 | x => x
def frz (hp : List Blk) : D → Option (D × List Blk)
 | .v x => some (.v x, hp)
 | .fz t l => some (.fz t l, hp)
 | .av t n l => some (.av t n l, hp)
 | .er e => some (.er e, hp)
 | .fp cs => match cs.all (below0 0) with
   | true => some (.fp cs, hp)
   | false => none
 | .sl b ver =>
   match getB hp b with
   | .lst e t l ver' _ => if ver' = ver then some (.fz t l, hp.set b (.lst e t l ver true)) else none
   | _ => none
 | _ => none
def frzAll (hp : List Blk) : List D → Option (List D × List Blk)
 | [] => some ([], hp)
 | d :: r => match frz hp d with
   | some (d', hp') => match frzAll hp' r with
     | some (r', hp'') => some (d' :: r', hp'')
     | none => none
   | none => none
def argD (hp : List Blk) (ids : List Nat) : D → Option (D × List Blk × List Nat)
 | .ptr b off => match idxOf b ids with
   | (ids', j) => some (.ptr j off, hp, ids')
 | .agg cs => match frzAll hp cs with
   | some (cs', hp') => some (.agg cs', hp', ids)
   | none => none
 | d => match frz hp d with
   | some (d', hp') => some (d', hp', ids)
   | none => none
def argsFlat (hp : List Blk) (ids : List Nat) : List D → Option (List D × List Blk × List Nat)
 | [] => some ([], hp, ids)
 | d :: r => match argD hp ids d with
   | some (d', hp', ids') => match argsFlat hp' ids' r with
     | some (r', hp'', ids'') => some (d' :: r', hp'', ids'')
     | none => none
   | none => none
def argsD (hp : List Blk) (ids : List Nat) : List D → Option (List D × List Blk × List Nat)
 | [] => some ([], hp, ids)
 | .clo f fs cs :: r =>
   match argsFlat hp ids fs with
   | some (fs', hp1, ids1) => match argsFlat hp1 ids1 cs with
     | some (cs', hp2, ids2) => match argsD hp2 ids2 r with
       | some (r', hp3, ids3) => some (.clo f fs' cs' :: r', hp3, ids3)
       | none => none
     | none => none
   | none => none
 | d :: r => match argD hp ids d with
   | some (d', hp', ids') => match argsD hp' ids' r with
     | some (r', hp'', ids'') => some (d' :: r', hp'', ids'')
     | none => none
   | none => none
def frzQ (hp : List Blk) : D → Option D
 | .v x => some (.v x)
 | .fz t l => some (.fz t l)
 | .av t n l => some (.av t n l)
 | .er e => some (.er e)
 | .fp cs => match cs.all (below0 0) with
   | true => some (.fp cs)
   | false => none
 | .sl b ver =>
   match getB hp b with
   | .lst _ t l ver' true => if ver' = ver then some (.fz t l) else none
   | _ => none
 | _ => none
def frzQs (hp : List Blk) : List D → Option (List D)
 | [] => some []
 | d :: r => match frzQ hp d with
   | some d' => match frzQs hp r with
     | some r' => some (d' :: r')
     | none => none
   | none => none
def argQ (hp : List Blk) : D → Option D
 | .agg cs => match frzQs hp cs with
   | some cs' => some (.agg cs')
   | none => none
 | .clo f fs cs => match frzQs hp fs with
   | some fs' => match frzQs hp cs with
     | some cs' => some (.clo f fs' cs')
     | none => none
   | none => none
 | d => frzQ hp d
def argsQ (hp : List Blk) : List D → Option (List D)
 | [] => some []
 | d :: r => match argQ hp d with
   | some d' => match argsQ hp r with
     | some r' => some (d' :: r')
     | none => none
   | none => none
def coll (n : Nat) (hp acc : List Blk) : D → Option (D × List Blk × List Blk)
 | .sl b ver =>
   match getB hp b with
   | .lst e t l ver' false => if ver' = ver then some (.sl (n + acc.length) 0, hp.set b .dead, acc ++ [.lst e t l 0 false]) else none
   | .lst _ t l ver' true => if ver' = ver then some (.fz t l, hp, acc) else none
   | _ => none
 | .v x => some (.v x, hp, acc)
 | .fz t l => some (.fz t l, hp, acc)
 | .av t n l => some (.av t n l, hp, acc)
 | .er e => some (.er e, hp, acc)
 | .fp cs => match cs.all (below0 0) with
   | true => some (.fp cs, hp, acc)
   | false => none
 | _ => none
def collAll (n : Nat) (hp acc : List Blk) : List D → Option (List D × List Blk × List Blk)
 | [] => some ([], hp, acc)
 | d :: r => match coll n hp acc d with
   | some (d', hp', acc') => match collAll n hp' acc' r with
     | some (r', hp'', acc'') => some (d' :: r', hp'', acc'')
     | none => none
   | none => none
def collP (n : Nat) (ids : List Nat) (hp acc : List Blk) : D → Option (D × List Blk × List Blk)
 | .ptr b off => match nthIdx b ids 0 with
   | some j => some (.ptr j off, hp, acc)
   | none => none
 | d => coll n hp acc d
def collPs (n : Nat) (ids : List Nat) (hp acc : List Blk) : List D → Option (List D × List Blk × List Blk)
 | [] => some ([], hp, acc)
 | d :: r => match collP n ids hp acc d with
   | some (d', hp', acc') => match collPs n ids hp' acc' r with
     | some (r', hp'', acc'') => some (d' :: r', hp'', acc'')
     | none => none
   | none => none
def lift (n : Nat) (ids : List Nat) (hp acc : List Blk) (b : Nat) : Option (Blk × List Blk × List Blk) :=
 match getB hp b with
 | .box ty cs => match collPs n ids hp acc cs with
   | some (cs', hp', acc') => some (.box ty cs', hp', acc')
   | none => none
 | .arr ty e t l s => some (.arr ty e t l s, hp, acc)
 | .bld ty e s => some (.bld ty e s, hp, acc)
 | .itr s pos => some (.itr s pos, hp, acc)
 | _ => none
def lifts (n : Nat) (ids : List Nat) (hp acc : List Blk) : List Nat → Option (List Blk × List Blk × List Blk)
 | [] => some ([], hp, acc)
 | b :: r => match lift n ids hp acc b with
   | some (x, hp', acc') => match lifts n ids hp' acc' r with
     | some (xs, hp'', acc'') => some (x :: xs, hp'', acc'')
     | none => none
   | none => none
def ren (ids : List Nat) (N : Nat) (j : Nat) : Nat := if j < ids.length then ids.getD j 0 else N + (j - ids.length)
def ren0 (ids : List Nat) (N : Nat) : D → D
 | .sl j ver => .sl (ren ids N j) ver
 | .ptr j off => .ptr (ren ids N j) off
 | .ep j ver i off => .ep (ren ids N j) ver i off
 | .v x => .v x
 | .fz t l => .fz t l
 | .av t n l => .av t n l
 | .er e => .er e
 | _ => .bad
def renC (ids : List Nat) (N : Nat) : D → D
 | .agg cs => .agg (cs.map (ren0 ids N))
 | .fp cs => .fp (cs.map (ren0 ids N))
 | .clo f fs cs => .clo f (fs.map (ren0 ids N)) (cs.map (ren0 ids N))
 | d => ren0 ids N d
def renB (ids : List Nat) (N : Nat) : Blk → Blk
 | .box ty cs => .box ty (cs.map (renC ids N))
 | b => b
def putBack (hp : List Blk) : List Nat → List Blk → List Blk
 | b :: r, x :: xs => putBack (hp.set b x) r xs
 | _, _ => hp
def renR (ids : List Nat) (N : Nat) : D → D
 | .tup ds => .tup (ds.map (renC ids N))
 | d => renC ids N d
def fixD (blks : List Blk) : D → Option D
 | .sl j ver => match getB blks j with
   | .lst _ t l ver' _ => if ver' = ver then some (.fz t l) else none
   | _ => none
 | d => match below 0 d with
   | true => some d
   | false => none
def fixAll (blks : List Blk) : List D → Option (List D)
 | [] => some []
 | d :: r => match fixD blks d with
   | some d' => match fixAll blks r with
     | some r' => some (d' :: r')
     | none => none
   | none => none
def fixR (blks : List Blk) : D → Option D
 | .tup ds => match fixAll blks ds with
   | some ds' => some (.tup ds')
   | none => none
 | d => fixD blks d
def beqS (a b : ByteArray) : Bool := a.data.toList == b.data.toList
def eqCells : List Ty → List D → List D → Option Bool
 | [], [], [] => some true
 | .int k :: ts, .v (.int k1 a) :: r, .v (.int k2 b) :: s => if k1 = k ∧ k2 = k then (eqCells ts r s).map ((a == b) && ·) else none
 | .bool :: ts, .v (.bool a) :: r, .v (.bool b) :: s => (eqCells ts r s).map ((a == b) && ·)
 | .str :: ts, .v (.string a) :: r, .v (.string b) :: s => (eqCells ts r s).map (beqS a b && ·)
 | _, _, _ => none
def intW (op : BinOp) (k : IntKind) (a b : Int) (K : D → Prop) : Prop :=
 match op with
 | .add => K (.v (.int k (k.wrap (a + b))))
 | .sub => K (.v (.int k (k.wrap (a - b))))
 | .mul => K (.v (.int k (k.wrap (a * b))))
 | .quo => b ≠ 0 ∧ K (.v (.int k (k.wrap (a.tdiv b))))
 | .rem => b ≠ 0 ∧ K (.v (.int k (a.tmod b)))
 | .and => K (.v (.int k (k.wrap (BitVec.ofInt k.bits a &&& BitVec.ofInt k.bits b).toNat)))
 | .or => K (.v (.int k (k.wrap (BitVec.ofInt k.bits a ||| BitVec.ofInt k.bits b).toNat)))
 | .xor => K (.v (.int k (k.wrap (BitVec.ofInt k.bits a ^^^ BitVec.ofInt k.bits b).toNat)))
 | .andNot => K (.v (.int k (k.wrap (BitVec.ofInt k.bits a &&& ~~~ (BitVec.ofInt k.bits b)).toNat)))
 | .eql => K (.v (.bool (a == b)))
 | .neq => K (.v (.bool (a != b)))
 | .lss => K (.v (.bool (decide (a < b))))
 | .leq => K (.v (.bool (decide (a ≤ b))))
 | .gtr => K (.v (.bool (decide (a > b))))
 | .geq => K (.v (.bool (decide (a ≥ b))))
 | _ => False
def strW (op : BinOp) (a b : ByteArray) (K : D → Prop) : Prop :=
 match op with
 | .add => a.size + b.size ≤ 9223372036854775807 ∧ K (.v (.string (a ++ b)))
 | .eql => K (.v (.bool (beqS a b)))
 | .neq => K (.v (.bool (!(beqS a b))))
 | _ => False
def und (P : Program) (t : TypeId) : Option TypeDesc := P.underlying t
def isC : Operand → Bool
 | .const _ => true
 | _ => false
def binW (cfg : Cfg) (t : TypeId) (kc : Bool) (op : BinOp) (x y : D) (K : D → Prop) : Prop :=
 match x, y with
 | .v (.int k a), .v (.int k' b) =>
   match op with
   | .shl => 0 ≤ b ∧ K (.v (.int k (k.wrap (a * 2 ^ min b.toNat k.bits))))
   | .shr => 0 ≤ b ∧ K (.v (.int k (a.fdiv (2 ^ min b.toNat k.bits))))
   | _ => if k = k' then intW op k a b K else False
 | .v (.string a), .v (.string b) => strW op a b K
 | .v (.bool a), .v (.bool b) =>
   match und cfg.P t, op with
   | some .bool, .eql => K (.v (.bool (a == b)))
   | some .bool, .neq => K (.v (.bool (!(a == b))))
   | _, _ => False
 | .er e, .er .nil =>
   match und cfg.P t, kc, op with
   | some (.interface _), true, .eql => K (.v (.bool e.isNil))
   | some (.interface _), true, .neq => K (.v (.bool (!e.isNil)))
   | _, _, _ => False
 | .agg xs, .agg ys =>
   match cfg.eqT t with
   | some ts => (match eqCells ts xs ys, op with
     | some b, .eql => K (.v (.bool b))
     | some b, .neq => K (.v (.bool (!b)))
     | _, _ => False)
   | none => False
 | .clo .., .v .nilFunc =>
   match und cfg.P t, op with
   | some (.func ..), .eql => K (.v (.bool false))
   | some (.func ..), .neq => K (.v (.bool true))
   | _, _ => False
 | .v .nilFunc, .v .nilFunc =>
   match und cfg.P t, kc, op with
   | some (.func ..), true, .eql => K (.v (.bool true))
   | some (.func ..), true, .neq => K (.v (.bool false))
   | _, _, _ => False
 | _, _ => False
def unW (op : UnOp) (x : D) (K : D → Prop) : Prop :=
 match op, x with
 | .neg, .v (.int k n) => K (.v (.int k (k.wrap (0 - n))))
 | .not, .v (.bool b) => K (.v (.bool (!b)))
 | _, _ => False
def szOf (P : Program) (t : TypeId) : Option Nat := (P.info? t).map (·.size)
def zeroOf (P : Program) (t : TypeId) : Option Value := (P.info? t).bind (·.zero)
def aggT (P : Program) (t : TypeId) : Option Bool :=
 match und P t with
 | some (.struct _) | some (.array _ _) => some true
 | some _ => some false
 | none => none
def zeroCellsAre (P : Program) (ty : TypeId) (t : Ty) (n : Nat) : Bool :=
 match zeroOf P ty, t with
 | some (.agg cs), .int k => Nat.beq cs.size n && cs.toList.all fun | .int k' n => k' == k && n == 0 | _ => false
 | some (.agg cs), .bool => Nat.beq cs.size n && cs.toList.all fun | .bool b => !b | _ => false
 | _, _ => false
def over (cs : List D) (off : Nat) : List D → List D
 | [] => cs
 | d :: r => over (cs.set off d) (off + 1) r
def oneD : D → Bool
 | .v (.agg _) | .v (.tuple _) => false
 | .agg _ | .tup _ | .av _ _ _ | .bad => false
 | _ => true
def fillD (place : Nat → Option (Nat × Nat)) (cells : List D) : List (Nat × D) → Option (List D)
 | [] => some cells
 | (i, x) :: rest =>
   match place i with
   | none => none
   | some (off, size) => if x.cells.length = size ∧ off + size ≤ cells.length ∧ x.cells.all oneD = true then fillD place (over cells off x.cells) rest else none
def chunks (t : Ty) : Nat → List D → Option (List t.den)
 | 0, [] => some []
 | 0, _ :: _ => none
 | n + 1, ds => match pack t ds with
   | some (x, r) => match chunks t n r with
     | some xs => some (x :: xs)
     | none => none
   | none => none
def byteAt (s : ByteArray) (n : Int) : Int := ((s.data.getD n.toNat 0).toNat : Int)
def bytesOf (l : List Int) : ByteArray := ⟨(l.map fun n => UInt8.ofNat n.toNat).toArray⟩
def ofBytes (s : ByteArray) : List Int := s.data.toList.map fun b => (b.toNat : Int)
def idxBr (i : Int) (K : Nat → Prop) : Nat → Nat → Prop
 | 0, _ => False
 | n + 1, j => br (decide (i = (j : Int))) (K j) (idxBr i K n (j + 1))
def partD (P : Program) (t : TypeId) (cs : List D) (off : Nat) (K : D → Prop) : Prop :=
 match aggT P t with
 | some true =>
   match szOf P t with
   | some n => if off + n ≤ cs.length then K (.agg ((cs.drop off).take n)) else False
   | none => False
 | some false =>
   match cs[off]? with
   | some d => K d
   | none => False
 | none => False
def loadW (P : Program) (hp : List Blk) (t : TypeId) (a : D) (K : D → Prop) : Prop :=
 match a with
 | .ptr b off =>
   match getB hp b with
   | .box _ cs => partD P t cs off K
   | .arr ty n t' l _ =>
     match aggT P t, szOf P t with
     | some true, some m => if off = 0 ∧ m = n * t'.size then K (.av t' n l) else False
     | _, _ => False
   | _ => False
 | .fp cs => partD P t cs 0 K
 | .ep b ver i off =>
   match getB hp b with
   | .lst _ t' l ver' _ => if ver' = ver then partD P t (expand t' (l.getD i.toNat t'.dflt)) off K else False
   | .arr _ _ t' l _ => partD P t (expand t' (l.getD i.toNat t'.dflt)) off K
   | _ => False
 | _ => False
def storeW (P : Program) (hp : List Blk) (t : TypeId) (a x : D) (K : List Blk → Prop) : Prop :=
 match szOf P t with
 | none => False
 | some n =>
   match a, x with
   | .ptr b off, .av t' n' l' =>
     match getB hp b with
     | .arr ty n'' t l false => if h : t' = t then (if off = 0 ∧ n' = n'' ∧ n = n'' * t.size then K (hp.set b (.arr ty n'' t (h ▸ l') false)) else False) else False
     | _ => False
   | .ptr b off, x =>
     match getB hp b with
     | .box ty cs => if x.cells.length = n ∧ off + n ≤ cs.length ∧ x.cells.all oneD = true then K (hp.set b (.box ty (over cs off x.cells))) else False
     | _ => False
   | .ep b ver i off, x =>
     match getB hp b with
     | .lst e t l ver' false =>
       if ver' = ver ∧ x.cells.length = n ∧ off + n ≤ t.size ∧ x.cells.all oneD = true then
        match pack t (over (expand t (l.getD i.toNat t.dflt)) off x.cells) with
        | some (y, []) => K (hp.set b (.lst e t (l.set i.toNat y) ver false))
        | _ => False
       else False
     | .arr ty e t l false =>
       if x.cells.length = n ∧ off + n ≤ t.size ∧ x.cells.all oneD = true then
        match pack t (over (expand t (l.getD i.toNat t.dflt)) off x.cells) with
        | some (y, []) => K (hp.set b (.arr ty e t (l.set i.toNat y) false))
        | _ => False
       else False
     | _ => False
   | _, _ => False
def bound (st : St) (o : Option Operand) (dflt : Int) : Option Int :=
 match o with
 | none => some dflt
 | some x => match st.opd x with
   | .v (.int _ n) => some n
   | _ => none
def inB (lo hi top : Int) : Prop := 0 ≤ lo ∧ lo ≤ hi ∧ hi ≤ top
def sliceW (P : Program) (q : Bool) (st : St) (t : TypeId) (x : D) (lo hi mx : Option Operand) (K : D → List Blk → Prop) : Prop :=
 match und P t, x, mx with
 | some .string, .v (.string s), none =>
   match bound st lo 0, bound st hi s.size with
   | some l, some h => inB l h s.size ∧ K (.v (.string (s.extract l.toNat h.toNat))) st.hp
   | _, _ => False
 | some (.slice e), .fz t l, none =>
   match bound st lo 0, bound st hi l.length with
   | some a, some h => if szOf P e = some t.size then inB a h l.length ∧ K (.fz t ((l.take h.toNat).drop a.toNat)) st.hp else False
   | _, _ => False
 | some (.slice e'), .sl b ver, none =>
   match getB st.hp b with
   | .lst e t l ver' s =>
     match bound st lo 0, bound st hi l.length with
     | some a, some h =>
       if ver' = ver ∧ szOf P e' = some t.size then
        inB a h l.length ∧ (match q, s with
         | true, true => K (.fz t ((l.take h.toNat).drop a.toNat)) st.hp
         | true, false => False
         | false, _ => K (.fz t ((l.take h.toNat).drop a.toNat)) (st.hp.set b (.lst e t l ver true)))
       else False
     | _, _ => False
   | _ => False
 | some (.array n' e), .ptr b 0, some m =>
   match getB st.hp b, q, hi with
   | .arr ty n t l _, false, some y =>
     match bound st lo 0, st.opd y, st.opd m with
     | some a, .v (.int _ h), .v (.int _ m) => if n' = n ∧ szOf P e = some t.size then inB a h m ∧ m ≤ n ∧ K (.fz t ((l.take h.toNat).drop a.toNat)) (st.hp.set b (.arr ty n t l true)) else False
     | _, _, _ => False
   | _, _, _ => False
 | _, _, _ => False
def convW (P : Program) (hp : List Blk) (src dst : TypeId) (x : D) (K : D → Prop) : Prop :=
 match und P src, und P dst, x with
 | some _, some (.int k), .v (.int _ n) => K (.v (.int k (k.wrap n)))
 | some _, some .string, .v (.string s) => K (.v (.string s))
 | some (.slice e), some .string, .fz (.int .u8) l => match und P e with
   | some (.int .u8) => K (.v (.string (bytesOf l)))
   | _ => False
 | some (.slice e), some .string, .sl b ver =>
   match getB hp b with
   | .lst _ (.int .u8) l ver' _ => match und P e with
     | some (.int .u8) => if ver' = ver then K (.v (.string (bytesOf l))) else False
     | _ => False
   | _ => False
 | _, _, _ => False
def fieldOff (P : Program) (s : TypeId) (f : Nat) : Option (Nat × TypeId) :=
 match und P s with
 | some (.struct fs) => (fs[f]?).map fun x => (x.offset, x.type)
 | _ => none
def room (n bytes : Nat) : Prop := n * (bytes + 1) ≤ 70368744177664
def lenOfD (hp : List Blk) (d : Option TypeDesc) (x : D) : Option Int :=
 match d, x with
 | some .string, .v (.string s) => some s.size
 | some (.slice _), .v (.slice none 0 0) => some 0
 | some (.slice _), .fz _ l => some l.length
 | some (.slice _), .sl b ver => match getB hp b with
   | .lst _ _ l ver' _ => if ver' = ver then some l.length else none
   | _ => none
 | _, _ => none
def srcOf (hp : List Blk) (t : Ty) : D → Option (List t.den)
 | .v (.slice none 0 0) => some []
 | .fz t' l => if h : t' = t then some (h ▸ l) else none
 | .sl b ver => match getB hp b with
   | .lst _ t' l ver' _ => if ver' = ver then (if h : t' = t then some (h ▸ l) else none) else none
   | _ => none
 | _ => none
def srcS (P : Program) (tx : TypeId) : (t : Ty) → D → Option (List t.den)
 | .int .u8, .v (.string s) => match und P tx with
   | some .string => some (ofBytes s)
   | _ => none
 | _, _ => none
def appendW (cfg : Cfg) (hp : List Blk) (argT tx : TypeId) (s x : D) (K : D → List Blk → Prop) : Prop :=
 match und cfg.P argT with
 | some (.slice e) =>
   match cfg.ty e, (cfg.P.info? e).map (·.bytes) with
   | some t, some bytes =>
     match (match Nat.beq tx argT with | true => srcOf hp t x | false => srcS cfg.P tx t x) with
     | some l' =>
       match s with
       | .v (.slice none 0 0) => room l'.length bytes ∧ K (.sl hp.length 0) (hp ++ [.lst e t l' 0 false])
       | .sl b ver =>
         match getB hp b with
         | .lst e' t' l ver' sealed =>
           if h : t = t' then
            if ver' = ver ∧ e' = e then room (l.length + l'.length) bytes ∧ K (.sl b (ver + 1)) (hp.set b (.lst e' t' (l ++ (h ▸ l')) (ver + 1) sealed)) else False
           else False
         | _ => False
       | _ => False
     | none => False
   | _, _ => False
 | _ => False
def callW (cfg : Cfg) (q : Bool) (hp : List Blk) (f : FuncId) (args : List D) (K : D → List Blk → Prop) (KP : D → List Blk → Prop) : Prop :=
 match cfg.E f with
 | none => False
 | some en =>
   match q with
   | true =>
     match argsQ hp args with
     | none => False
     | some args' => en args' [] (fun d blks' => match fixR blks' d with
        | some d' => K d' hp
        | none => False) (fun _ _ => False)
   | false =>
     match argsD hp [] args with
     | none => False
     | some (args', hp1, ids) =>
       match lifts ids.length ids hp1 [] ids with
       | none => False
       | some (bs, hp2, acc) => en args' (bs ++ acc)
          (fun d blks' => K (renR ids hp2.length d) (putBack hp2 ids ((blks'.take ids.length).map (renB ids hp2.length)) ++ (blks'.drop ids.length).map (renB ids hp2.length)))
          (fun d blks' => KP (renR ids hp2.length d) (putBack hp2 ids ((blks'.take ids.length).map (renB ids hp2.length)) ++ (blks'.drop ids.length).map (renB ids hp2.length)))
def mmv (isMax : Bool) (a b : Int) : Int :=
 match isMax with
 | true => if b > a then b else a
 | false => if b < a then b else a
def minMaxW (isMax : Bool) (ds : List D) (K : D → Prop) : Prop :=
 match ds with
 | [.v (.int k a), .v (.int k' b)] => if k' = k then K (.v (.int k (mmv isMax a b))) else False
 | _ => False
def bldZ (cfg : Cfg) (elem : TypeId) (z : Value) : Option TypeId :=
 match cfg.bT elem with
 | some e => (match z.cells.toList with
   | [.pointer none, .slice none 0 0] => some e
   | _ => none)
 | none => none
def memN (x : Nat) : List Nat → Bool
 | [] => false
 | y :: r => match Nat.beq x y with
   | true => true
   | false => memN x r
def fzO (cfg : Cfg) : Option Tmp → Bool
 | some t => memN t cfg.fzB
 | none => false
def errOf (cfg : Cfg) (t : TypeId) : List D → Option Err
 | [.v (.int .i64 c), .v (.int .i64 a)] => if t = cfg.tf then some (.flt c a) else none
 | [.v (.string s), .er e] => if t = cfg.tw then some (.win s e) else none
 | _ => none
def opW (cfg : Cfg) (q : Bool) (o : Oper) (st : St) (K : D → List Blk → Prop) (KP : D → List Blk → Prop) : Prop :=
 match o.op with
 | .move x | .assign x => K (st.opd x) st.hp
 | .pick c a b =>
   match st.opd c with
   | .v (.bool t) =>
     match st.opd a, st.opd b with
     | .v (.bool x), .v (.bool y) => K (.v (.bool (match t with | true => x | false => y))) st.hp
     | x, y => br t (K x st.hp) (K y st.hp)
   | _ => False
 | .alloc elem =>
   match q with
   | true => False
   | false =>
     match und cfg.P elem with
     | some (.array n e) =>
       match cfg.ty e with
       | some t => if 4 < n ∧ zeroCellsAre cfg.P elem t n = true then K (.ptr st.hp.length 0) (st.hp ++ [.arr elem n t (List.replicate n t.dflt) false]) else
         (match zeroOf cfg.P elem with
         | some z => K (.ptr st.hp.length 0) (st.hp ++ [.box elem ((ofVal z).cells)])
         | none => False)
       | none => False
     | some _ =>
       match zeroOf cfg.P elem with
       | some z => match bldZ cfg elem z with
         | some e => K (.ptr st.hp.length 0) (st.hp ++ [.bld elem e ByteArray.empty])
         | none => K (.ptr st.hp.length 0) (st.hp ++ [.box elem ((ofVal z).cells)])
       | none => False
     | none => False
 | .box elem x =>
   match q || fzO cfg o.dst, st.opd x with
   | true, .av .. => False
   | true, d => if d.cells.all oneD = true then K (.fp d.cells) st.hp else False
   | false, .av t n l => K (.ptr st.hp.length 0) (st.hp ++ [.arr elem n t l false])
   | false, d => if d.cells.all oneD = true then K (.ptr st.hp.length 0) (st.hp ++ [.box elem d.cells]) else False
 | .build t parts =>
   match zeroOf cfg.P t, und cfg.P t with
   | some z, some (.struct fs) =>
     if (fs.all fun f => (szOf cfg.P f.type).isSome) = true then
     match fillD (fun i => match fs[i]? with | some f => (szOf cfg.P f.type).map fun n => (f.offset, n) | none => none) (ofVal z).cells (parts.toList.map fun p => (p.1, st.opd p.2)) with
     | some cs => K (.agg cs) st.hp
     | none => False
     else False
   | some z, some (.array _ e) =>
     match szOf cfg.P e with
     | some n => match fillD (fun i => some (i * n, n)) (ofVal z).cells (parts.toList.map fun p => (p.1, st.opd p.2)) with
       | some cs => K (.agg cs) st.hp
       | none => False
     | none => False
   | _, _ => False
 | .buildSlice t len parts =>
   match und cfg.P t with
   | some (.slice e) =>
     match cfg.ty e, szOf cfg.P e, zeroOf cfg.P e with
     | some te, some n, some z =>
       if 16777216 < len * n then False else
       match fillD (fun i => some (i * n, n)) ((List.replicate len (ofVal z).cells).flatten) (parts.toList.map fun p => (p.1, st.opd p.2)) with
       | some cs =>
         match q with
         | true => match chunks te len cs with
           | some l => K (.fz te l) st.hp
           | none => False
         | false => match frzAll st.hp cs with
           | some (cs', hp') => match chunks te len cs' with
             | some l => K (.sl hp'.length 0) (hp' ++ [.lst e te l 0 false])
             | none => False
           | none => False
       | none => False
     | _, _, _ => False
   | _ => False
 | .load t a => loadW cfg.P st.hp t (st.opd a) fun d => K d st.hp
 | .store t a x => match q with
   | true => False
   | false => storeW cfg.P st.hp t (st.opd a) (st.opd x) fun hp => K (.v undef) hp
 | .nilCheck x =>
   match st.opd x with
   | .ptr b off => K (.ptr b off) st.hp
   | .fp cs => K (.fp cs) st.hp
   | .clo f fs cs => K (.clo f fs cs) st.hp
   | _ => False
 | .binOp op t x y _ => binW cfg t (isC x || isC y) op (st.opd x) (st.opd y) fun d => K d st.hp
 | .unOp op _ x => unW op (st.opd x) fun d => K d st.hp
 | .convert src dst x => convW cfg.P st.hp src dst (st.opd x) fun d => K d st.hp
 | .makeInterface t x =>
   match und cfg.P t, st.opd x with
   | some (.interface _), _ => False
   | some _, .v x => K (.v (.iface t x)) st.hp
   | some _, .fp cs => match errOf cfg t cs with
     | some e => K (.er e) st.hp
     | none => False
   | some _, .agg [.er e] => K (.er (.wrg t e)) st.hp
   | _, _ => False
 | .makeFunc (.func f) first caps => K (.clo f (first.toList.map st.opd) (caps.toList.map st.opd)) st.hp
 | .slice t x lo hi mx => sliceW cfg.P q st t (st.opd x) lo hi mx K
 | .fieldAddr s x f =>
   match fieldOff cfg.P s f with
   | some (off, ft) =>
     if szOf cfg.P ft = some 0 ∨ szOf cfg.P ft = none then False else
     match st.opd x with
     | .ptr b o => K (.ptr b (o + off)) st.hp
     | .fp cs => K (.fp (cs.drop off)) st.hp
     | .ep b ver i o =>
       match getB st.hp b with
       | .lst _ _ _ ver' _ => if ver' = ver then K (.ep b ver i (o + off)) st.hp else False
       | .arr _ _ _ _ _ => K (.ep b ver i (o + off)) st.hp
       | _ => False
     | _ => False
   | none => False
 | .field t x f =>
   match fieldOff cfg.P t f, st.opd x with
   | some (off, ft), .agg cs => partD cfg.P ft cs off fun d => K d st.hp
   | _, _ => False
 | .indexAddr t x ix =>
   match und cfg.P t, st.opd x, st.opd ix with
   | some (.slice e), .fz t l, .v (.int _ i) =>
     match szOf cfg.P e with
     | some m => if m = t.size then inB 0 i (l.length - 1) ∧ K (.fp (expand t (l.getD i.toNat t.dflt))) st.hp else False
     | none => False
   | some (.slice e), .sl b ver, .v (.int _ i) =>
     match getB st.hp b, szOf cfg.P e with
     | .lst _ t l ver' _, some m => if ver' = ver ∧ m = t.size then inB 0 i (l.length - 1) ∧ K (.ep b ver i 0) st.hp else False
     | _, _ => False
   | some (.array n e), .ptr b off, .v (.int _ i) =>
     match getB st.hp b, szOf cfg.P e with
     | .arr _ n' t _ _, some m => if off = 0 ∧ n' = n ∧ m = t.size then inB 0 i (n - 1) ∧ K (.ep b 0 i 0) st.hp else False
     | .box .., some m => idxBr i (fun j => K (.ptr b (off + j * m)) st.hp) n 0
     | _, _ => False
   | some (.array n e), .fp cs, .v (.int _ i) =>
     match szOf cfg.P e with
     | some m => idxBr i (fun j => K (.fp (cs.drop (j * m))) st.hp) n 0
     | none => False
   | _, _, _ => False
 | .index t x ix =>
   match und cfg.P t, st.opd x, st.opd ix with
   | some .string, .v (.string s), .v (.int _ i) => inB 0 i (s.size - 1) ∧ K (.v (.int .u8 (byteAt s i))) st.hp
   | some (.array n e), .agg cs, .v (.int _ i) =>
     match szOf cfg.P e with
     | some m => idxBr i (fun j => partD cfg.P e cs (j * m) fun d => K d st.hp) n 0
     | none => False
   | some (.array n e), .av t n' l, .v (.int _ i) =>
     match szOf cfg.P e with
     | some m => if n' = n ∧ m = t.size ∧ aggT cfg.P e = some false then inB 0 i (n - 1) ∧ partD cfg.P e (expand t (l.getD i.toNat t.dflt)) 0 fun d => K d st.hp else False
     | none => False
   | _, _, _ => False
 | .extract x i =>
   match st.opd x with
   | .tup ds => match ds[i]? with
     | some d => K d st.hp
     | none => False
   | _ => False
 | .call c =>
   match c.callee with
   | .value f =>
     match st.opd f with
     | .clo fn first caps => callW cfg q st.hp fn (first ++ c.args.toList.map st.opd ++ caps) K KP
     | _ => False
   | .builtin .len =>
     match c.argTypes[0]?, c.args.toList.map st.opd with
     | some t, [x] => match lenOfD st.hp (und cfg.P t) x with
       | some n => K (.v (.int .i64 n)) st.hp
       | none => False
     | _, _ => False
   | .builtin .append =>
     match q, c.argTypes.toList, c.args.toList.map st.opd with
     | false, [t, t'], [s, x] => appendW cfg st.hp t t' s x K
     | _, _, _ => False
   | .builtin .max => minMaxW true (c.args.toList.map st.opd) fun d => K d st.hp
   | .builtin .min => minMaxW false (c.args.toList.map st.opd) fun d => K d st.hp
   | _ => False
 | .range t x => match q, und cfg.P t, st.opd x with
   | false, some .string, .v (.string s) => K (.ptr st.hp.length 0) (st.hp ++ [.itr s 0])
   | _, _, _ => False
 | .next it true => match q, st.opd it with
   | false, .ptr b 0 => match getB st.hp b with
     | .itr s pos => br (decide (pos < s.size))
       (K (.tup [.v (.bool true), .v (.int .i64 pos), .v (.int .i32 (Utf8.decode s pos).1)]) (st.hp.set b (.itr s (pos + (Utf8.decode s pos).2))))
       (K (.tup [.v (.bool false)]) st.hp)
     | _ => False
   | _, _ => False
 | .panic x => match q, st.opd x with
   | false, .v (.iface t u) => KP (.v (.iface t u)) st.hp
   | false, .er (.wrg t e) => KP (.er (.wrg t e)) st.hp
   | _, _ => False
 | _ => False
inductive Ex where
 | normal | exit (id : Nat) | ret | panic (d : D) | goto (l : Nat)
def St.put (st : St) (dst : Option Tmp) (d : D) (hp : List Blk) : St :=
 match dst with
 | some t => { tmps := st.tmps.set t d, hp, m := st.m }
 | none => { tmps := st.tmps, hp, m := st.m }
def slotOf (ops : Array Oper) (j : Nat) : Option Tmp := (ops[j]?).bind (·.dst)
def operW (cfg : Cfg) (q : Bool) (ops : Array Oper) (o : Oper) (st : St) (K : St → Prop) (KP : D → St → Prop) : Prop :=
 match o.guard with
 | none => opW cfg q o st (fun d hp => K (st.put o.dst d hp)) (fun d hp => KP d { st with hp })
 | some (j, want) =>
   match slotOf ops j with
   | none => False
   | some s =>
     match st.tmps.getD s .bad with
     | .v (.bool b) =>
       br b
        (match want with
         | true => opW cfg q o (st.put (some s) (.v (.bool true)) st.hp) (fun d hp => K ((st.put (some s) (.v (.bool true)) st.hp).put o.dst d hp)) (fun d hp => KP d { st with hp })
         | false => K ((st.put (some s) (.v (.bool true)) st.hp).put o.dst (.v undef) st.hp))
        (match want with
         | false => opW cfg q o (st.put (some s) (.v (.bool false)) st.hp) (fun d hp => K ((st.put (some s) (.v (.bool false)) st.hp).put o.dst d hp)) (fun d hp => KP d { st with hp })
         | true => K ((st.put (some s) (.v (.bool false)) st.hp).put o.dst (.v undef) st.hp))
     | .v (.tuple vs) => if vs.size = 0 then K (st.put o.dst (.v undef) st.hp) else False
     | _ => False
def opsW (cfg : Cfg) (q : Bool) (ops : Array Oper) : List Oper → St → (St → Prop) → (D → St → Prop) → Prop
 | [], st, K, _ => K st
 | o :: r, st, K, KP => operW cfg q ops o st (fun st' => opsW cfg q ops r st' K KP) KP
def plainT (P : Program) (t : TypeId) : Bool := match und P t with
 | some (.int _) | some .bool | some .string => true
 | _ => false
def callsIn0 (P : Program) (ops : Array Oper) : Bool := ops.toList.any fun o => match o.op with
 | .call { callee := .value (.func _), argTypes := ts, .. } => !(ts.toList.all (plainT P))
 | .call { callee := .value _, .. } => true
 | _ => false
def callsIn (cfg : Cfg) (ops : Array Oper) : Bool := !cfg.ns && callsIn0 cfg.P ops
def namesOf (ops : Array Oper) (o : Oper) : List Tmp :=
 o.dst.toList ++ ((o.op.operands.toList.filterMap fun | .tmp t => some t | _ => none) ++
  (match o.guard with
   | some (g, _) => ((ops[g]?).bind (·.dst)).toList
   | none => []))
def ordOk (ops : Array Oper) : Bool :=
 let b := Region.before ops
 let ws := ops.toList.zipIdx.filterMap fun x => x.1.dst.map fun d => (d, x.2)
 ops.toList.zipIdx.all fun x =>
  (x.1.after.toList.all fun e => !Region.binds .any e || Nat.blt e.on x.2) &&
  (namesOf ops x.1).all fun t => ws.all fun y => !(Nat.beq y.1 t) || Nat.beq y.2 x.2 || (b.getD (max y.2 x.2) 0).testBit (min y.2 x.2)
def barAt (ops : Array Oper) (b : Array Nat) (i : Nat) : Bool := (List.range ops.size).all fun j => Nat.beq j i || (b.getD (max j i) 0).testBit (min j i)
def bars (ops : Array Oper) : List Bool := let b := Region.before ops; (List.range ops.size).map (barAt ops b)
def opsD (cfg : Cfg) (ops : Array Oper) : List Oper → List Bool → St → (St → Prop) → Prop
 | [], _, st, K => K st
 | o :: r, bs, st, K => operW cfg (!bs.headD false) ops o st (fun st' => opsD cfg ops r bs.tail st' K) (fun _ _ => False)
def isV : D → Bool
 | .v _ | .er _ => true
 | _ => false
def zeroBox (cfg : Cfg) (ty : TypeId) : Option Blk := match und cfg.P ty with
 | some (.array _ _) => none
 | some _ => match zeroOf cfg.P ty with
   | some z => match bldZ cfg ty z with
     | some _ => none
     | none => match (ofVal z).cells.all isV with
       | true => some (.box ty (ofVal z).cells)
       | false => none
   | none => none
 | none => none
def lightOp : Op → Bool
 | .move _ | .assign _ | .pick .. | .build .. | .buildSlice .. | .load .. | .nilCheck _ | .binOp .. | .unOp .. | .convert .. | .fieldAddr .. | .field .. | .indexAddr .. | .index .. | .extract .. | .slice .. => true
 | _ => false
def lightO (cfg : Cfg) (o : Oper) : Bool := match o.dst with
 | some t => lightOp o.op && memN t cfg.lt
 | none => false
def pendTy (t : Nat) : List (Nat × TypeId) → Option TypeId
 | [] => none
 | (s, ty) :: r => match Nat.beq s t with
   | true => some ty
   | false => pendTy t r
def pendO (cfg : Cfg) (o : Oper) : Option (Nat × TypeId) := match o.op, o.guard, o.dst with
 | .alloc ty, none, some t => match pendTy t cfg.pd with
   | some ty' => match Nat.beq ty' ty with
     | true => some (t, ty)
     | false => none
   | none => none
 | _, _, _ => none
def namedBy (o : Oper) : List Nat := o.op.operands.toList.filterMap fun | .tmp t => some t | _ => none
def firstUse (t : Nat) : List Oper → Nat → Option Nat
 | [], _ => none
 | o :: r, n => match memN t (namedBy o) with
   | true => some n
   | false => firstUse t r (n + 1)
def isPend (cfg : Cfg) (t : Nat) (o : Oper) : Bool := match pendO cfg o with
 | some p => Nat.beq p.1 t
 | none => false
def adoptsAt (cfg : Cfg) (ops : Array Oper) (i : Nat) : List (Nat × TypeId) := cfg.pd.filter fun p =>
 ops.toList.any (isPend cfg p.1) && (match firstUse p.1 ops.toList 0 with
  | some j => Nat.beq j i
  | none => false)
def adoptL (cfg : Cfg) : List (Nat × TypeId) → St → Option St
 | [], st => some st
 | (t, ty) :: r, st => match zeroBox cfg ty with
   | some b => adoptL cfg r { tmps := st.tmps.set t (.ptr st.hp.length 0), hp := st.hp ++ [b], m := st.m }
   | none => none
def isLst : Blk → Bool
 | .lst .. => true
 | _ => false
def isDead : Blk → Bool
 | .dead => true
 | _ => false
def deadAt (M : List Blk) (b : Nat) : Bool := isDead (getB M b)
def ptrFree0 (M : List Blk) : D → Bool
 | .ptr b _ => deadAt M b
 | _ => true
def ptrFree (M : List Blk) : D → Bool
 | .clo _ fs cs => fs.all (ptrFree0 M) && cs.all (ptrFree0 M)
 | d => ptrFree0 M d
def touchOp (M : List Blk) (st : St) : Op → Bool
 | .store _ a _ => match st.opd a with
   | .ptr b _ | .ep b _ _ _ => deadAt M b
   | _ => true
 | .buildSlice .. | .load .. | .fieldAddr .. | .indexAddr .. | .move _ | .assign _ => true
 | .call c => match c.callee with
   | .builtin .len => true
   | .value f => match st.opd f with
     | .clo _ first caps => (first ++ c.args.toList.map st.opd ++ caps).all (ptrFree M)
     | _ => true
   | .builtin .append => true
   | _ => false
 | _ => false
def stableAt (st : St) (ms : List Nat) (b : Nat) : Bool := ms.any fun s => match st.tmps.getD s .bad with
 | .ptr b' _ => Nat.beq b' b
 | _ => false
def maskGo (f : Nat → Bool) : List Blk → Nat → List Blk
 | [], _ => []
 | x :: r, n => (match f n, isLst x with
   | true, false => x
   | _, _ => .dead) :: maskGo f r (n + 1)
def dstIs (t : Nat) (o : Oper) : Bool := match o.dst with
 | some s => Nat.beq s t
 | none => false
def msAt (cfg : Cfg) (ops : Array Oper) : List Nat := (cfg.ms.filter fun p => ops.toList.any (dstIs p.1)).map (·.2)
def maskB (cfg : Cfg) (ops : Array Oper) (st : St) : List Blk := match msAt cfg ops with
 | [] => []
 | ms => maskGo (stableAt st ms) st.hp 0
def lateOk (cfg : Cfg) (ops : Array Oper) (b : Array Nat) (i : Nat) : Bool := ops.toList.zipIdx.all fun x => !(lightO cfg x.1) || (Nat.blt x.2 i && (b.getD i 0).testBit x.2)
def keepOk (cfg : Cfg) (ops : Array Oper) (M : List Blk) (i : Nat) (st : St) (o : Oper) : Bool := match M with
 | [] => true
 | _ => (o.guard.isNone && touchOp M st o.op) || lateOk cfg ops (Region.before ops) i
def stepE (cfg : Cfg) (ops : Array Oper) (M : List Blk) (i : Nat) (bar : Bool) (o : Oper) (st : St) (K : St → Prop) : Prop :=
 match lightO cfg o with
 | true => operW cfg true ops o { tmps := st.tmps, hp := M, m := st.m } (fun st' => K { tmps := st'.tmps, hp := st.hp, m := st'.m }) (fun _ _ => False)
 | false => match pendO cfg o with
   | some (t, ty) => match zeroBox cfg ty with
     | some _ => match Nat.blt t st.tmps.length with
       | true => K (st.put (some t) .bad st.hp)
       | false => False
     | none => False
   | none => match bar with
     | true => match adoptL cfg (adoptsAt cfg ops i) st with
       | some st' => match keepOk cfg ops M i st' o with
         | true => operW cfg false ops o st' K (fun _ _ => False)
         | false => False
       | none => False
     | false => operW cfg true ops o st K (fun _ _ => False)
def opsE (cfg : Cfg) (ops : Array Oper) (M : List Blk) : List Oper → Nat → List Bool → St → (St → Prop) → Prop
 | [], _, _, st, K => K st
 | o :: r, i, bs, st, K => stepE cfg ops M i (bs.headD false) o st (fun st' => opsE cfg ops M r (i + 1) bs.tail st' K)
def panOk (ops : Array Oper) (i : Nat) : Bool := let b := Region.before ops; (List.range ops.size).all fun j => Nat.ble j i || (b.getD j 0).testBit i
def stepP (cfg : Cfg) (ops : Array Oper) (M : List Blk) (i : Nat) (bar : Bool) (o : Oper) (st : St) (K : St → Prop) (KP : D → St → Prop) : Prop :=
 match lightO cfg o with
 | true => operW cfg true ops o { tmps := st.tmps, hp := M, m := st.m } (fun st' => K { tmps := st'.tmps, hp := st.hp, m := st'.m }) (fun _ _ => False)
 | false => match pendO cfg o with
   | some (t, ty) => match zeroBox cfg ty with
     | some _ => match Nat.blt t st.tmps.length with
       | true => K (st.put (some t) .bad st.hp)
       | false => False
     | none => False
   | none => match bar with
     | true => match adoptL cfg (adoptsAt cfg ops i) st with
       | some st' => match keepOk cfg ops M i st' o with
         | true => operW cfg false ops o st' K (fun d s => match panOk ops i && o.guard.isNone with
           | true => KP d s
           | false => False)
         | false => False
       | none => False
     | false => operW cfg true ops o st K (fun _ _ => False)
def opsP (cfg : Cfg) (ops : Array Oper) (M : List Blk) : List Oper → Nat → List Bool → St → (St → Prop) → (D → St → Prop) → Prop
 | [], _, _, st, K, _ => K st
 | o :: r, i, bs, st, K, KP => stepP cfg ops M i (bs.headD false) o st (fun st' => opsP cfg ops M r (i + 1) bs.tail st' K KP) KP
def asideO (cfg : Cfg) (o : Oper) : Bool := lightO cfg o || (pendO cfg o).isSome
def ordOkE (cfg : Cfg) (ops : Array Oper) : Bool :=
 let b := Region.before ops
 let ws := ops.toList.zipIdx.flatMap fun x => (x.1.dst.toList ++ (adoptsAt cfg ops x.2).map (·.1)).map fun d => (d, x.2)
 ops.toList.zipIdx.all fun x =>
  (x.1.after.toList.all fun e => !Region.binds .any e || Nat.blt e.on x.2) &&
  (namesOf ops x.1).all fun t => ws.all fun y => !(Nat.beq y.1 t) || Nat.beq y.2 x.2 || (b.getD (max y.2 x.2) 0).testBit (min y.2 x.2)
def nodupN : List Nat → Bool
 | [] => true
 | x :: r => !memN x r && nodupN r
def pdOk (cfg : Cfg) (ops : Array Oper) : Bool :=
 nodupN (cfg.pd.map (·.1)) && ops.toList.zipIdx.all fun x => match x.1.dst with
  | some t => (match pendTy t cfg.pd with
    | some _ => isPend cfg t x.1 && ((ops.toList.zipIdx.all fun y => Nat.beq y.2 x.2 || !(dstIs t y.1)) && (match firstUse t ops.toList 0 with
      | some j => Nat.blt x.2 j
      | none => true))
    | none => true)
  | none => true
def barAtE (cfg : Cfg) (ops : Array Oper) (b : Array Nat) (i : Nat) : Bool := (List.range ops.size).all fun j => Nat.beq j i || (match ops[j]? with | some o => asideO cfg o | none => true) || (b.getD (max j i) 0).testBit (min j i)
def barsE (cfg : Cfg) (ops : Array Oper) : List Bool := let b := Region.before ops; (List.range ops.size).map (barAtE cfg ops b)
def regionW (cfg : Cfg) (ops : Array Oper) (draw : Bool) (st : St) (K : St → Prop) (KP : D → St → Prop) : Prop :=
 match draw with
 | false => opsW cfg false ops ops.toList st K KP
 | true => match cfg.lt, cfg.pd with
   | [], [] => (match ordOk ops with
     | true => opsD cfg ops ops.toList (bars ops) { st with hp := match callsIn cfg ops with | true => st.hp.map sealB | false => st.hp } K
     | false => False)
   | _, _ => match ordOkE cfg ops && pdOk cfg ops with
     | true => (fun s0 : St => opsP cfg ops (maskB cfg ops s0) ops.toList 0 (barsE cfg ops) s0 K KP) { st with hp := match callsIn cfg ops with | true => st.hp.map sealB | false => st.hp }
     | false => False
def firstReg : Code → Nat
 | .region id _ _ => id
 | .seq a _ => firstReg a
 | .block _ b => firstReg b
 | .loop b => firstReg b
 | .scope b => firstReg b
 | .cond _ a b => match Nat.beq (firstReg a) 1000000, Nat.beq (firstReg b) 1000000 with
   | true, true => 1000000
   | true, false => firstReg b + 2000000
   | false, _ => firstReg a + 2000000
 | _ => 1000000
def prepOwn (hp : List Blk) (e : TypeId) (t : Ty) : D → Option (D × List Blk)
 | .v (.slice none 0 0) => some (.sl hp.length 0, hp ++ [.lst e t [] 0 false])
 | .sl b ver => match getB hp b with
   | .lst e' t' _ ver' _ => if ver' = ver ∧ e' = e ∧ t' = t then some (.sl b ver, hp) else none
   | _ => none
 | _ => none
def sealD (hp : List Blk) : D → List Blk
 | .sl b _ => hp.set b (sealB (getB hp b))
 | _ => hp
def prepD0 (hp : List Blk) : Mode → D → Option (D × List Blk)
 | .keep, d => some (d, hp)
 | .own e t, d => prepOwn hp e t d
 | .ownS e t, d => match prepOwn hp e t d with
   | some (d', hp') => some (d', sealD hp' d')
   | none => none
 | .cold t, .v (.slice none 0 0) => some (.fz t [], hp)
 | .cold t, .fz t' l => if t' = t then some (.fz t' l, hp) else none
 | .cold t, .sl b ver => match getB hp b with
   | .lst e' t' l ver' _ => if ver' = ver ∧ t' = t then some (.fz t' l, hp.set b (.lst e' t' l ver' true)) else none
   | _ => none
 | _, _ => none
def cMode (e : Option TypeId) (t : Ty) : Mode := match e with
 | some e => .own e t
 | none => .cold t
def prepCells (b : Nat) : List (Nat × Option TypeId × Ty) → List Blk → Option (List Blk)
 | [], hp => some hp
 | (o, e, t) :: r, hp => match getB hp b with
   | .box _ cs => match prepD0 hp (cMode e t) (cs.getD o .bad) with
     | some (d, hp') => match getB hp' b with
       | .box ty' cs' => prepCells b r (hp'.set b (.box ty' (cs'.set o d)))
       | _ => none
     | none => none
   | _ => none
def prepD (hp : List Blk) : Mode → D → Option (D × List Blk)
 | .cells l, .ptr b off => match prepCells b l hp with
   | some hp' => some (.ptr b off, hp')
   | none => none
 | m, d => prepD0 hp m d
def prepAll : List (Nat × Mode) → List D → List Blk → Option (List D × List Blk)
 | [], tmps, hp => some (tmps, hp)
 | (s, m) :: r, tmps, hp => match prepD hp m (tmps.getD s .bad) with
   | some (d, hp') => prepAll r (tmps.set s d) hp'
   | none => none
def ptrIds0 (ids : List Nat) : List D → List Nat
 | [] => ids
 | .ptr b _ :: r => ptrIds0 (idxOf b ids).1 r
 | _ :: r => ptrIds0 ids r
def ptrIds (ids : List Nat) (tmps : List D) : List (Nat × Mode) → List Nat
 | [] => ids
 | (s, _) :: r => match tmps.getD s .bad with
   | .ptr b _ => ptrIds (idxOf b ids).1 tmps r
   | .clo _ fs cs => ptrIds (ptrIds0 (ptrIds0 ids fs) cs) tmps r
   | _ => ptrIds ids tmps r
def capK (ids : List Nat) : D → D
 | .ptr b off => match nthIdx b ids 0 with
   | some j => .ptr j off
   | none => .bad
 | d => match below 0 d with
   | true => d
   | false => .bad
def collOwn (n : Nat) (hp acc : List Blk) : D → Option (D × List Blk × List Blk)
 | .sl b ver =>
   match getB hp b with
   | .lst e t l ver' s => if ver' = ver then some (.sl (n + acc.length) 0, hp.set b .dead, acc ++ [.lst e t l 0 s]) else none
   | _ => none
 | _ => none
def outK0 (n : Nat) (ids : List Nat) (hp acc : List Blk) : D → Option (D × List Blk × List Blk)
 | .ptr b off => some (capK ids (.ptr b off), hp, acc)
 | .agg cs => match collAll n hp acc cs with
   | some (cs', hp', acc') => some (.agg cs', hp', acc')
   | none => none
 | .clo f fs cs => some (.clo f (fs.map (capK ids)) (cs.map (capK ids)), hp, acc)
 | d => coll n hp acc d
def outK (n : Nat) (ids : List Nat) (hp acc : List Blk) : Mode → D → Option (D × List Blk × List Blk)
 | .own _ _, d => collOwn n hp acc d
 | .ownS _ _, d => collOwn n hp acc d
 | _, d => outK0 n ids hp acc d
def outKeep (n : Nat) (ids : List Nat) (tmps : List D) : List (Nat × Mode) → List Blk → List Blk → List D → Option (List D × List Blk)
 | [], _, acc, res => some (res, acc)
 | (s, m) :: r, hp, acc, res => match outK n ids hp acc m (tmps.getD s .bad) with
   | some (d, hp', acc') => outKeep n ids tmps r hp' acc' (res.set s d)
   | none => none
def upto : Nat → List Nat
 | 0 => []
 | n + 1 => upto n ++ [n]
def canonGo (c : Canon) (m : Nat) (tmps : List D) (hp : List Blk) (ids : List Nat) (K : St → Prop) : Prop :=
 match lifts ids.length ids hp [] ids with
 | some (bs, hp', acc) => match outKeep ids.length ids tmps c.slots hp' acc (List.replicate tmps.length .bad) with
   | some (res, acc') => K { tmps := res, hp := bs ++ acc', m }
   | none => False
 | none => False
def canonW (c : Option Canon) (st : St) (K : St → Prop) : Prop :=
 match c with
 | none => K st
 | some c => match prepAll c.slots st.tmps st.hp with
   | some (tmps, hp) => canonGo c st.m tmps hp (ptrIds (upto st.m) tmps c.slots) K
   | none => False
def loopN (body : (St → Prop) → St → Prop) : Nat → St → Prop
 | 0, _ => False
 | n + 1, st => body (loopN body n) st
def codeW (cfg : Cfg) : Code → (Ex → St → Prop) → St → Prop
 | .skip, K, st => K .normal st
 | .label _, K, st => K .normal st
 | .region _ ops draw, K, st => regionW cfg ops draw st (K .normal) (fun d st' => K (.panic d) st')
 | .seq a b, K, st => codeW cfg a (fun e st' => match e with
    | .normal => canonW (cfg.atSeq (firstReg b)) st' (codeW cfg b K)
    | e => K e st') st
 | .cond c a b, K, st => match st.opd c with
   | .v (.bool t) => br t (codeW cfg a K st) (codeW cfg b K st)
   | _ => False
 | .block id b, K, st => codeW cfg b (fun e st' => match e with
    | .exit id' => (match Nat.beq id' id with | true => K .normal st' | false => K (.exit id') st')
    | e => K e st') st
 | .loop b, K, st => canonW (cfg.atLoop (firstReg b)) st fun st =>
    ∃ n, loopN (fun again => codeW cfg b (fun e st' => match e with
     | .normal => canonW (cfg.atLoop (firstReg b)) st' again
     | e => K e st')) n st
 | .exit id, K, st => canonW (cfg.atExit id) st (K (.exit id))
 | .ret, K, st => K .ret st
 | .scope b, K, st => codeW cfg b (fun e st' => match e with
    | .goto _ => False
    | e => K e st') st
 | .goto l, K, st => K (.goto l) st
 | _, _, _ => False
def seqK (cfg : Cfg) (b : Code) (K : Ex → St → Prop) : Ex → St → Prop := fun e st' => match e with
 | .normal => canonW (cfg.atSeq (firstReg b)) st' (codeW cfg b K)
 | e => K e st'
def blockK (id : Nat) (K : Ex → St → Prop) : Ex → St → Prop := fun e st' => match e with
 | .exit id' => (match Nat.beq id' id with | true => K .normal st' | false => K (.exit id') st')
 | e => K e st'
def scopeK (K : Ex → St → Prop) : Ex → St → Prop := fun e st' => match e with
 | .goto _ => False
 | e => K e st'
def loopK (cfg : Cfg) (b : Code) (again : St → Prop) (K : Ex → St → Prop) : Ex → St → Prop := fun e st' => match e with
 | .normal => canonW (cfg.atLoop (firstReg b)) st' again
 | e => K e st'
def resultsW (P : Program) (st : St) : List ResultVar → (List D → Prop) → Prop
 | [], K => K []
 | .tmp t :: r, K => resultsW P st r fun ds => K (st.tmps.getD t .bad :: ds)
 | .cell t ty :: r, K => loadW P st.hp ty (st.tmps.getD t .bad) fun d => resultsW P st r fun ds => K (d :: ds)
def outF (hp : List Blk) : D → Option (D × List Blk)
 | .agg cs => match frzAll hp cs with
   | some (cs', hp') => some (.agg cs', hp')
   | none => none
 | d => some (d, hp)
def outM (hp : List Blk) : Mode → D → Option (D × List Blk)
 | .keep, d => outF hp d
 | m, d => prepD hp m d
def outFs (hp : List Blk) : List Mode → List D → Option (List D × List Blk)
 | _, [] => some ([], hp)
 | ms, d :: r => match outM hp (ms.headD .keep) d with
   | some (d', hp') => match outFs hp' ms.tail r with
     | some (r', hp'') => some (d' :: r', hp'')
     | none => none
   | none => none
def capD (m : Nat) : D → Bool
 | .v _ | .fz _ _ | .av _ _ _ | .er _ => true
 | .ptr j _ => Nat.blt j m
 | _ => false
def outD (m : Nat) (hp acc : List Blk) : D → Option (D × List Blk × List Blk)
 | .agg cs => match collAll m hp acc cs with
   | some (cs', hp', acc') => some (.agg cs', hp', acc')
   | none => none
 | .ptr j off => match Nat.blt j m with
   | true => some (.ptr j off, hp, acc)
   | false => none
 | .clo f fs cs => match fs.all (capD m) && cs.all (capD m) with
   | true => some (.clo f fs cs, hp, acc)
   | false => none
 | d => coll m hp acc d
def outAll (m : Nat) (hp acc : List Blk) : List D → Option (List D × List Blk × List Blk)
 | [] => some ([], hp, acc)
 | d :: r => match outD m hp acc d with
   | some (d', hp', acc') => match outAll m hp' acc' r with
     | some (r', hp'', acc'') => some (d' :: r', hp'', acc'')
     | none => none
   | none => none
def oneOf : List D → D
 | [d] => d
 | ds => .tup ds
def goW (ms : List Mode) (st : St) (ds : List D) (k : List D → List Blk → Prop) : Prop :=
 match outFs st.hp ms ds with
 | some (ds1, hp1) => match lifts st.m (upto st.m) hp1 [] (upto st.m) with
   | some (bs, hp', acc) => match outAll st.m hp' acc ds1 with
     | some (ds', _, acc') => k ds' (bs ++ acc')
     | none => False
   | none => False
 | none => False
def retW (cfg : Cfg) (fn : Func) (k : D → List Blk → Prop) (st : St) : Prop :=
 resultsW cfg.P st fn.results.toList fun ds => goW cfg.outs st ds fun ds' bs => k (oneOf ds') bs
def panW (k : D → List Blk → Prop) (d : D) (st : St) : Prop :=
 match d with
 | .er e => k (.er e) (List.replicate st.m .dead)
 | .v x => k (.v x) (List.replicate st.m .dead)
 | _ => False
def nBoxes : List Blk → Nat
 | [] => 0
 | b :: r => match isLst b with
   | true => 0
   | false => nBoxes r + 1
def topK (cfg : Cfg) (fn : Func) (k kp : D → List Blk → Prop) : Ex → St → Prop := fun e st => match e with
 | .normal | .ret => retW cfg fn k st
 | .panic d => panW kp d st
 | _ => False
def funW (cfg : Cfg) (fn : Func) : Entry := fun args blks k kp =>
 match fn.body with
 | none => False
 | some c => codeW cfg c (topK cfg fn k kp) { tmps := args ++ List.replicate (fn.ntmps - args.length) (.v undef), hp := blks, m := nBoxes blks }
end Go.Aw
namespace Go.Aw
open Go.RowKit
theorem add_add (a : Addr) (i j : Nat) : (a.add i).add j = a.add (i + j) := by
 unfold Addr.add
 by_cases h1 : i = 0
 ·subst h1; simp
 ·by_cases h2 : j = 0
  ·subst h2; simp [h1]
  ·rw [if_neg h2, if_neg h1, if_neg (by omega)]
   simp [Nat.add_assoc]
theorem add_block (a : Addr) (i : Nat) : (a.add i).block = a.block := by unfold Addr.add; split <;> rfl
theorem add_plain (g j : Nat) : (⟨g, 0, none⟩ : Addr).add j = ⟨g, j, none⟩ := by unfold Addr.add; split <;> simp_all
theorem add_zero (a : Addr) : a.add 0 = a := by simp [Addr.add]
def At (w : World) (fr : Addr → Prop) (a : Addr) (us : List Value) : Prop :=
 ∀ j u, us[j]? = some u → fr (a.add j) ∧ w.cell? (a.add j) = some u
def RepS (w : World) (fr : Addr → Prop) {α : Type} (R : α → List Value → Prop) (sz : Nat) (l : List α) (us : List Value) : Prop :=
 ∃ (A : Option Addr) (c : Nat), us = [.slice A l.length c] ∧ l.length ≤ c ∧
  (l ≠ [] → ∃ a, A = some a ∧ ∀ (i : Nat) (x : α), l[i]? = some x → ∃ us, R x us ∧ At w fr (a.add (i * sz)) us)
def RepT (w : World) (fr : Addr → Prop) : (t : Ty) → t.den → List Value → Prop
 | .int k, x, us => us = [.int k x]
 | .bool, x, us => us = [.bool x]
 | .str, x, us => us = [.string x]
 | .pair a b, x, us => ∃ u v, us = u ++ v ∧ RepT w fr a x.1 u ∧ RepT w fr b x.2 v
 | .list t, l, us => RepS w fr (RepT w fr t) t.size l us
def RepA (w : World) (fr : Addr → Prop) (t : Ty) : List t.den → List Value → Prop
 | [], us => us = []
 | x :: l, us => ∃ u v, us = u ++ v ∧ RepT w fr t x u ∧ RepA w fr t l v
def RepE (w : World) (fr : Addr → Prop) (tf tw : TypeId) : Err → Value → Prop
 | .nil, u => u = .nilIface
 | .flt c a, u => ∃ p, u = .iface tf (.pointer (some p)) ∧ At w fr p [.int .i64 c, .int .i64 a]
 | .win s e, u => ∃ p v, u = .iface tw (.pointer (some p)) ∧ At w fr p [.string s, v] ∧ RepE w fr tf tw e v
 | .wrg t e, u => ∃ v, u = .iface t (.agg #[v]) ∧ RepE w fr tf tw e v
structure Cx where
 w : World
 fr : Addr → Prop
 cv : Nat → Value
 hp : List Blk
 tf : TypeId
 tw : TypeId
def adr : Value → Option Addr
 | .pointer p => p
 | .iface _ (.pointer p) => p
 | _ => none
mutual
def Rep (c : Cx) : D → Value → Prop
 | .v x, u => u = x
 | .agg cs, u => ∃ us, u = .agg us.toArray ∧ RepL c cs us
 | .tup ds, u => ∃ us, u = .tuple us.toArray ∧ RepL c ds us
 | .fz t l, u => RepT c.w c.fr (.list t) l [u]
 | .av t n l, u => ∃ us, u = .agg us.toArray ∧ RepA c.w c.fr t l us ∧ l.length = n
 | .sl b ver, u => b < c.hp.length ∧ u.oneCell' = true ∧ (match getB c.hp b with
    | .lst _ _ _ ver' _ => ver ≤ ver' ∧ (ver' = ver → u = c.cv b)
    | .dead => True
    | _ => False)
 | .ptr b off, u => b < c.hp.length ∧ isLst (getB c.hp b) = false ∧ ∃ a, adr (c.cv b) = some a ∧ u = .pointer (some (a.add off))
 | .ep b ver i off, u => b < c.hp.length ∧ u.oneCell' = true ∧ (match getB c.hp b with
    | .lst _ t l ver' _ => ver ≤ ver' ∧ (ver' = ver → ∃ a n k, c.cv b = .slice (some a) n k ∧ 0 ≤ i ∧ i < l.length ∧ u = .pointer (some ((a.add (i.toNat * t.size)).add off)))
    | .arr _ _ t l _ => ∃ a, c.cv b = .pointer (some a) ∧ 0 ≤ i ∧ i < l.length ∧ u = .pointer (some ((a.add (i.toNat * t.size)).add off))
    | .dead => True
    | _ => False)
 | .fp cs, u => ∃ a us, u = .pointer (some a) ∧ RepL c cs us ∧ At c.w c.fr a us
 | .er e, u => RepE c.w c.fr c.tf c.tw e u
 | .clo f fs cs, u => ∃ us vs, u = .func (.func f) us.toArray vs.toArray ∧ RepL c fs us ∧ RepL c cs vs
 | .bad, _ => True
def RepL (c : Cx) : List D → List Value → Prop
 | [], us => us = []
 | d :: r, us => ∃ u us', us = u :: us' ∧ Rep c d u ∧ RepL c r us'
end
def cb : Value → Nat → Prop
 | .pointer (some a), i => a.block = i
 | .slice (some a) _ _, i => a.block = i
 | .iface r (.pointer (some a)), i => a.block = i ∨ r = i + 1
 | _, _ => False
def live : Blk → Bool
 | .dead => false
 | _ => true
def BRep (c : Cx) (b : Nat) : Blk → Prop
 | .box ty cs => ∃ B us, c.cv b = .pointer (some ⟨B, 0, none⟩) ∧ c.w.heap[B]? = some (.cells us.toArray ty (0, 0)) ∧ RepL c cs us ∧ ∀ a, a.block = B → ¬ c.fr a
 | .arr ty n t l s => ∃ B us, c.cv b = .pointer (some ⟨B, 0, none⟩) ∧ c.w.heap[B]? = some (.cells us.toArray ty (0, 0)) ∧ RepA c.w c.fr t l us ∧ l.length = n ∧
    (s = false → ∀ a, a.block = B → ¬ c.fr a) ∧ (s = true → ∀ j, j < us.length → c.fr ⟨B, j, none⟩)
 | .lst e t l _ s => ∃ A cap, c.cv b = .slice A l.length cap ∧ ((A = none ∧ cap = 0 ∧ l = []) ∨
    ∃ B us vs, A = some ⟨B, 0, none⟩ ∧ c.w.heap[B]? = some (.cells (us ++ vs).toArray e (0, 0)) ∧ l.length ≤ cap ∧ (us.length + vs.length = cap * t.size ∧ cap ≤ maxLen) ∧ RepA c.w c.fr t l us ∧
     (∀ a, a.block = B → (s = false ∨ us.length ≤ a.off) → ¬ c.fr a) ∧ (s = true → ∀ j, j < us.length → c.fr ⟨B, j, none⟩))
 | .bld ty e s => ∃ B r p A cap, c.cv b = .iface r (.pointer (some ⟨B, 0, none⟩)) ∧ c.w.heap[B]? = some (.cells #[p, .slice A s.size cap] ty (0, 0)) ∧ (∀ a, a.block = B → ¬ c.fr a) ∧
    ((p = .pointer none ∧ A = none) ∨ p = .pointer (some ⟨B, 0, none⟩)) ∧ ((r = 0 ∧ A = none ∧ cap = 0 ∧ s.size = 0) ∨
     ∃ R us vs, r = R + 1 ∧ R ≠ B ∧ A = some ⟨R, 0, none⟩ ∧ c.w.heap[R]? = some (.cells (us ++ vs).toArray e (0, 0)) ∧
      s.size ≤ cap ∧ (us.length + vs.length = cap ∧ cap ≤ maxLen) ∧ RepA c.w c.fr (.int .u8) (ofBytes s) us ∧ ∀ a, a.block = R → ¬ c.fr a)
 | .itr s pos => ∃ B, c.cv b = .pointer (some ⟨B, 0, none⟩) ∧ c.w.heap[B]? = some (.stringIter s pos) ∧ ∀ a, a.block = B → ¬ c.fr a
 | .dead => True
structure HRep (c : Cx) : Prop where
 blk : ∀ b, b < c.hp.length → BRep c b (getB c.hp b)
 apart : ∀ b b' B, b < c.hp.length → b' < c.hp.length → b ≠ b' → live (getB c.hp b) = true → live (getB c.hp b') = true → cb (c.cv b) B → ¬ cb (c.cv b') B
 frin : ∀ a, c.fr a → a.block < c.w.heap.size
theorem RepL_length {c : Cx} : ∀ {ds : List D} {us : List Value}, RepL c ds us → us.length = ds.length
 | [], us, h => by simp only [RepL] at h; simp [h]
 | d :: r, us, h => by
   simp only [RepL] at h
   obtain ⟨u, us', rfl, _, h⟩ := h
   simp [RepL_length h]
theorem RepL_append {c : Cx} : ∀ {ds es : List D} {us vs : List Value}, RepL c ds us → RepL c es vs → RepL c (ds ++ es) (us ++ vs)
 | [], es, us, vs, h, h' => by simp only [RepL] at h; subst h; simpa using h'
 | d :: r, es, us, vs, h, h' => by
   simp only [RepL] at h
   obtain ⟨u, us', rfl, hd, h⟩ := h
   simp only [List.cons_append, RepL]
   exact ⟨u, us' ++ vs, rfl, hd, RepL_append h h'⟩
theorem RepL_split {c : Cx} : ∀ {ds es : List D} {us : List Value}, RepL c (ds ++ es) us → ∃ u v, us = u ++ v ∧ RepL c ds u ∧ RepL c es v
 | [], es, us, h => ⟨[], us, rfl, by simp only [RepL], h⟩
 | d :: r, es, us, h => by
   simp only [List.cons_append, RepL] at h
   obtain ⟨u, us', rfl, hd, h⟩ := h
   obtain ⟨v, v', rfl, h1, h2⟩ := RepL_split h
   exact ⟨u :: v, v', rfl, by simp only [RepL]; exact ⟨u, v, rfl, hd, h1⟩, h2⟩
theorem RepL_get {c : Cx} : ∀ {ds : List D} {us : List Value} {i : Nat} {d : D}, RepL c ds us → ds[i]? = some d → ∃ u, us[i]? = some u ∧ Rep c d u
 | [], us, i, d, h, hi => by simp at hi
 | e :: r, us, 0, d, h, hi => by
   simp only [RepL] at h
   obtain ⟨u, us', rfl, hd, h⟩ := h
   simp at hi; subst hi
   exact ⟨u, rfl, hd⟩
 | e :: r, us, i + 1, d, h, hi => by
   simp only [RepL] at h
   obtain ⟨u, us', rfl, hd, h⟩ := h
   simp at hi
   simpa using RepL_get h hi
theorem RepL_set {c : Cx} : ∀ {ds : List D} {us : List Value} (i : Nat) {d : D} {u : Value}, RepL c ds us → Rep c d u → RepL c (ds.set i d) (us.set i u)
 | [], us, i, d, u, h, hd => by simp only [RepL] at h; subst h; simp [RepL]
 | e :: r, us, 0, d, u, h, hd => by
   simp only [RepL] at h
   obtain ⟨u', us', rfl, he, h⟩ := h
   simp only [List.set_cons_zero, RepL]
   exact ⟨u, us', rfl, hd, h⟩
 | e :: r, us, i + 1, d, u, h, hd => by
   simp only [RepL] at h
   obtain ⟨u', us', rfl, he, h⟩ := h
   simp only [List.set_cons_succ, RepL]
   exact ⟨u', us'.set i u, rfl, he, RepL_set i h hd⟩
theorem RepL_take {c : Cx} {ds : List D} {us : List Value} (n : Nat) (h : RepL c ds us) : RepL c (ds.take n) (us.take n) := by
 have h2 : RepL c (ds.take n ++ ds.drop n) us := by rw [List.take_append_drop]; exact h
 obtain ⟨u, v, rfl, h1, h3⟩ := RepL_split h2
 have := RepL_length h1
 have h4 := RepL_length h3
 simp only [List.length_take, List.length_drop] at this h4
 by_cases hn : n ≤ ds.length
 ·rw [show (u ++ v).take n = u by rw [List.take_append_of_le_length (by omega), List.take_of_length_le (by omega)]]; exact h1
 ·have hv : v = [] := List.length_eq_zero_iff.1 (by omega)
  subst hv
  rw [List.take_of_length_le (by omega)] at h1 ⊢
  rw [List.append_nil, List.take_of_length_le (by omega)]
  exact h1
theorem RepL_drop {c : Cx} {ds : List D} {us : List Value} (n : Nat) (h : RepL c ds us) : RepL c (ds.drop n) (us.drop n) := by
 have h2 : RepL c (ds.take n ++ ds.drop n) us := by rw [List.take_append_drop]; exact h
 obtain ⟨u, v, rfl, h1, h3⟩ := RepL_split h2
 have := RepL_length h1
 have h4 := RepL_length h3
 simp only [List.length_take, List.length_drop] at this h4
 by_cases hn : n ≤ ds.length
 ·rw [show (u ++ v).drop n = v by rw [List.drop_append_of_le_length (by omega), List.drop_of_length_le (by omega)]; simp]; exact h3
 ·have hv : v = [] := List.length_eq_zero_iff.1 (by omega)
  subst hv
  rw [List.append_nil, List.drop_of_length_le (by omega), List.drop_of_length_le (by omega)]
  simp only [RepL]
def Ext (w : World) (fr : Addr → Prop) (w' : World) (fr' : Addr → Prop) : Prop := ∀ a, fr a → fr' a ∧ w'.cell? a = w.cell? a
theorem Ext.refl (w : World) (fr : Addr → Prop) : Ext w fr w fr := fun _ h => ⟨h, rfl⟩
theorem Ext.trans {w w' w'' : World} {fr fr' fr'' : Addr → Prop} (h : Ext w fr w' fr') (h' : Ext w' fr' w'' fr'') : Ext w fr w'' fr'' :=
 fun a ha => ⟨(h' a (h a ha).1).1, (h' a (h a ha).1).2.trans (h a ha).2⟩
theorem At.ext {w w' : World} {fr fr' : Addr → Prop} {a : Addr} {us : List Value} (h : At w fr a us) (he : Ext w fr w' fr') : At w' fr' a us :=
 fun j u hj => ⟨(he _ (h j u hj).1).1, (he _ (h j u hj).1).2.trans (h j u hj).2⟩
theorem RepT.ext {w w' : World} {fr fr' : Addr → Prop} (he : Ext w fr w' fr') : ∀ {t : Ty} {x : t.den} {us : List Value}, RepT w fr t x us → RepT w' fr' t x us
 | .int k, x, us, h => h
 | .bool, x, us, h => h
 | .str, x, us, h => h
 | .pair a b, x, us, h => by
   obtain ⟨u, v, rfl, h1, h2⟩ := h
   exact ⟨u, v, rfl, h1.ext he, h2.ext he⟩
 | .list t, l, us, h => by
   obtain ⟨A, c, rfl, hc, h⟩ := h
   refine ⟨A, c, rfl, hc, fun hl => ?_⟩
   obtain ⟨a, hA, h'⟩ := h hl
   refine ⟨a, hA, fun i x hx => ?_⟩
   obtain ⟨us, h1, h2⟩ := h' i x hx
   exact ⟨us, h1.ext he, h2.ext he⟩
theorem RepA.ext {w w' : World} {fr fr' : Addr → Prop} (he : Ext w fr w' fr') {t : Ty} : ∀ {l : List t.den} {us : List Value}, RepA w fr t l us → RepA w' fr' t l us
 | [], us, h => h
 | x :: l, us, h => by
   obtain ⟨u, v, rfl, h1, h2⟩ := h
   exact ⟨u, v, rfl, h1.ext he, RepA.ext he h2⟩
theorem RepE.ext {w w' : World} {fr fr' : Addr → Prop} {tf tw : TypeId} (he : Ext w fr w' fr') : ∀ {e : Err} {u : Value}, RepE w fr tf tw e u → RepE w' fr' tf tw e u
 | .nil, u, h => h
 | .flt c a, u, h => by
   obtain ⟨p, rfl, h⟩ := h
   exact ⟨p, rfl, h.ext he⟩
 | .win s e, u, h => by
   obtain ⟨p, v, rfl, h, h'⟩ := h
   exact ⟨p, v, rfl, h.ext he, RepE.ext he h'⟩
 | .wrg t e, u, h => by
   obtain ⟨v, rfl, h⟩ := h
   exact ⟨v, rfl, RepE.ext he h⟩
theorem RepT.length {w : World} {fr : Addr → Prop} : ∀ {t : Ty} {x : t.den} {us : List Value}, RepT w fr t x us → us.length = t.size
 | .int k, x, us, h => by cases h; rfl
 | .bool, x, us, h => by cases h; rfl
 | .str, x, us, h => by cases h; rfl
 | .pair a b, x, us, h => by
   obtain ⟨u, v, rfl, h1, h2⟩ := h
   simp [h1.length, h2.length, Ty.size]
 | .list t, l, us, h => by
   obtain ⟨A, c, rfl, hc, h⟩ := h
   rfl
theorem RepA.length {w : World} {fr : Addr → Prop} {t : Ty} : ∀ {l : List t.den} {us : List Value}, RepA w fr t l us → us.length = l.length * t.size
 | [], us, h => by cases h; simp
 | x :: l, us, h => by
   obtain ⟨u, v, rfl, h1, h2⟩ := h
   have := RepA.length h2
   rw [List.length_append, h1.length, this, List.length_cons, Nat.succ_mul]; omega
theorem RepA.append {w : World} {fr : Addr → Prop} {t : Ty} : ∀ {l m : List t.den} {us vs : List Value}, RepA w fr t l us → RepA w fr t m vs → RepA w fr t (l ++ m) (us ++ vs)
 | [], m, us, vs, h, h' => by cases h; exact h'
 | x :: l, m, us, vs, h, h' => by
   obtain ⟨u, v, rfl, h1, h2⟩ := h
   exact ⟨u, v ++ vs, by simp, h1, RepA.append h2 h'⟩
theorem RepA.get {w : World} {fr : Addr → Prop} {t : Ty} : ∀ {l : List t.den} {us : List Value} {i : Nat} {x : t.den}, RepA w fr t l us → l[i]? = some x →
 ∃ u, RepT w fr t x u ∧ ∀ j v, u[j]? = some v → us[i * t.size + j]? = some v
 | [], us, i, x, h, hi => by simp at hi
 | y :: l, us, 0, x, h, hi => by
   obtain ⟨u, v, rfl, h1, h2⟩ := h
   simp at hi; subst hi
   refine ⟨u, h1, fun j v' hj => ?_⟩
   rw [Nat.zero_mul, Nat.zero_add, List.getElem?_append_left (List.getElem?_eq_some_iff.1 hj).1]; exact hj
 | y :: l, us, i + 1, x, h, hi => by
   obtain ⟨u, v, rfl, h1, h2⟩ := h
   simp at hi
   obtain ⟨u', h3, h4⟩ := RepA.get h2 hi
   refine ⟨u', h3, fun j v' hj => ?_⟩
   have := h4 j v' hj
   rw [List.getElem?_append_right (by rw [h1.length, Nat.succ_mul]; omega), h1.length, show (i + 1) * t.size + j - t.size = i * t.size + j by rw [Nat.succ_mul]; omega]
   exact this
theorem RepT.expand {c : Cx} : ∀ {t : Ty} {x : t.den} {us : List Value}, RepT c.w c.fr t x us → RepL c (expand t x) us
 | .int k, x, us, h => by cases h; simp [Aw.expand, RepL, Rep]
 | .bool, x, us, h => by cases h; simp [Aw.expand, RepL, Rep]
 | .str, x, us, h => by cases h; simp [Aw.expand, RepL, Rep]
 | .pair a b, x, us, h => by
   obtain ⟨u, v, rfl, h1, h2⟩ := h
   exact RepL_append h1.expand h2.expand
 | .list t, l, us, h => by
   obtain ⟨A, k, rfl, hc, h⟩ := h
   simp only [Aw.expand, RepL, Rep]
   exact ⟨_, [], rfl, ⟨A, k, rfl, hc, h⟩, rfl⟩
theorem cast_den {t t' : Ty} (h : t' = t) (l : List t'.den) {w : World} {fr : Addr → Prop} {us : List Value} (hl : RepT w fr (.list t') l us) : RepT w fr (.list t) (h ▸ l) us := by
 subst h; exact hl
theorem pack_rep {c : Cx} : ∀ {t : Ty} {ds : List D} {us : List Value} {x : t.den} {r : List D}, RepL c ds us → pack t ds = some (x, r) →
 ∃ u v, us = u ++ v ∧ RepT c.w c.fr t x u ∧ RepL c r v
 | .int k, ds, us, x, r, h, hp => by
   replace hp : packInt k ds = some (x, r) := hp
   unfold packInt at hp
   split at hp
   ·split at hp
    ·rename_i hk
     subst hk
     cases hp
     simp only [RepL, Rep] at h
     obtain ⟨u, us', rfl, rfl, h⟩ := h
     exact ⟨[_], us', rfl, rfl, h⟩
    ·cases hp
   ·cases hp
 | .bool, ds, us, x, r, h, hp => by
   replace hp : packBool ds = some (x, r) := hp
   unfold packBool at hp
   split at hp
   ·cases hp
    simp only [RepL, Rep] at h
    obtain ⟨u, us', rfl, rfl, h⟩ := h
    exact ⟨[_], us', rfl, rfl, h⟩
   ·cases hp
 | .str, ds, us, x, r, h, hp => by
   replace hp : packStr ds = some (x, r) := hp
   unfold packStr at hp
   split at hp
   ·cases hp
    simp only [RepL, Rep] at h
    obtain ⟨u, us', rfl, rfl, h⟩ := h
    exact ⟨[_], us', rfl, rfl, h⟩
   ·cases hp
 | .list t, ds, us, x, r, h, hp => by
   replace hp : packList t ds = some (x, r) := hp
   unfold packList at hp
   split at hp
   ·split at hp
    ·rename_i h1
     cases hp
     simp only [RepL, Rep] at h
     obtain ⟨u, us', rfl, hu, h⟩ := h
     exact ⟨[u], us', rfl, cast_den h1 _ hu, h⟩
    ·cases hp
   ·cases hp
    simp only [RepL, Rep] at h
    obtain ⟨u, us', rfl, rfl, h⟩ := h
    exact ⟨[_], us', rfl, ⟨none, 0, rfl, Nat.le_refl _, fun h => absurd rfl h⟩, h⟩
   ·cases hp
 | .pair a b, ds, us, x, r, h, hp => by
   unfold pack at hp
   split at hp
   ·rename_i y r1 h1
    split at hp
    ·rename_i z r2 h2
     cases hp
     obtain ⟨u, v, rfl, hu, hv⟩ := pack_rep h h1
     obtain ⟨u', v', rfl, hu', hv'⟩ := pack_rep hv h2
     exact ⟨u ++ u', v', by simp, ⟨u, u', rfl, hu, hu'⟩, hv'⟩
    ·cases hp
   ·cases hp
def BLe (u u' : Value) : Blk → Blk → Prop
 | .box ty cs, .box ty' cs' => ty' = ty ∧ cs'.length = cs.length ∧ u' = u
 | .arr ty e t l _, .arr ty' e' t' l' _ => ty' = ty ∧ e' = e ∧ t' = t ∧ l'.length = l.length ∧ u' = u
 | .lst e t l ver _, .lst e' t' l' ver' _ => e' = e ∧ t' = t ∧ ver ≤ ver' ∧ (ver' = ver → u' = u ∧ l'.length = l.length)
 | .lst _ _ _ _ _, .dead => True
 | .bld ty e _, .bld ty' e' _ => ty' = ty ∧ e' = e ∧ adr u' = adr u
 | .bld _ _ _, .dead => adr u' = adr u
 | .itr s _, .itr s' _ => s' = s ∧ u' = u
 | _, .dead => u' = u
 | _, _ => False
theorem BLe.refl (u : Value) : ∀ b : Blk, BLe u u b b
 | .box _ _ => ⟨rfl, rfl, rfl⟩
 | .arr _ _ _ _ _ => ⟨rfl, rfl, rfl, rfl, rfl⟩
 | .lst _ _ _ _ _ => ⟨rfl, rfl, Nat.le_refl _, fun _ => ⟨rfl, rfl⟩⟩
 | .bld _ _ _ => ⟨rfl, rfl, rfl⟩
 | .itr _ _ => ⟨rfl, rfl⟩
 | .dead => rfl
theorem BLe.dead (u : Value) : ∀ b : Blk, BLe u u b .dead
 | .box _ _ => rfl
 | .arr _ _ _ _ _ => rfl
 | .lst _ _ _ _ _ => trivial
 | .bld _ _ _ => rfl
 | .itr _ _ => rfl
 | .dead => rfl
theorem BLe.trans {u u' u'' : Value} : ∀ {x y z : Blk}, BLe u u' x y → BLe u' u'' y z → BLe u u'' x z
 | .box _ _, .box _ _, .box _ _, ⟨h1, h2, h3⟩, ⟨k1, k2, k3⟩ => ⟨k1.trans h1, k2.trans h2, k3.trans h3⟩
 | .box _ _, .box _ _, .dead, ⟨_, _, h3⟩, (k : _ = _) => k.trans h3
 | .box _ _, .dead, .dead, (h : _ = _), (k : _ = _) => k.trans h
 | .arr _ _ _ _ _, .arr _ _ _ _ _, .arr _ _ _ _ _, ⟨h1, h2, h3, h4, h5⟩, ⟨k1, k2, k3, k4, k5⟩ => ⟨k1.trans h1, k2.trans h2, k3.trans h3, k4.trans h4, k5.trans h5⟩
 | .arr _ _ _ _ _, .arr _ _ _ _ _, .dead, ⟨_, _, _, _, h5⟩, (k : _ = _) => k.trans h5
 | .arr _ _ _ _ _, .dead, .dead, (h : _ = _), (k : _ = _) => k.trans h
 | .lst _ _ _ v _, .lst _ _ _ v' _, .lst _ _ _ v'' _, ⟨h1, h2, h3, h4⟩, ⟨k1, k2, k3, k4⟩ =>
   ⟨k1.trans h1, k2.trans h2, Nat.le_trans h3 k3, fun e => by
    have e1 : v' = v := by omega
    have e2 : v'' = v' := by omega
    exact ⟨(k4 e2).1.trans (h4 e1).1, (k4 e2).2.trans (h4 e1).2⟩⟩
 | .dead, .dead, .dead, (h : _ = _), (k : _ = _) => k.trans h
 | .bld _ _ _, .bld _ _ _, .bld _ _ _, ⟨h1, h2, h3⟩, ⟨k1, k2, k3⟩ => ⟨k1.trans h1, k2.trans h2, k3.trans h3⟩
 | .bld _ _ _, .bld _ _ _, .dead, ⟨_, _, h3⟩, (k : adr _ = adr _) => k.trans h3
 | .bld _ _ _, .dead, .dead, (h : adr _ = adr _), (k : _ = _) => (congrArg adr k).trans h
 | .itr _ _, .itr _ _, .itr _ _, ⟨h1, h2⟩, ⟨k1, k2⟩ => ⟨k1.trans h1, k2.trans h2⟩
 | .itr _ _, .itr _ _, .dead, ⟨_, h⟩, (k : _ = _) => k.trans h
 | .itr _ _, .dead, .dead, (h : _ = _), (k : _ = _) => k.trans h
 | .lst _ _ _ _ _, .dead, .dead, _, _ => trivial
 | .lst _ _ _ _ _, .lst _ _ _ _ _, .dead, _, _ => trivial
structure HpLe (c c' : Cx) : Prop where
 len : c.hp.length ≤ c'.hp.length
 blk : ∀ b, b < c.hp.length → BLe (c.cv b) (c'.cv b) (getB c.hp b) (getB c'.hp b)
 ext : Ext c.w c.fr c'.w c'.fr
 tf : c'.tf = c.tf
 tw : c'.tw = c.tw
def hdlOf (P : Program) : Option (Nat × Value) :=
 match P.globalNamed "errors.errorType", P.cutTypes.find? (·.1 == "internal/reflectlite.rtype"), (List.range P.types.size).find? (fun t => P.rowNamed t [101, 114, 114, 111, 114]) with
 | some g, some r, some t => some (g, .iface r.2 (.agg #[typeHandle P t]))
 | _, _, _ => none
def TOk (P : Program) (tf tw : TypeId) (c : Cx) : Prop := (c.tf = tf ∧ c.tw = tw) ∧ ∀ g v, hdlOf P = some (g, v) → At c.w c.fr ⟨g, 0, none⟩ [v]
theorem TOk.step {P : Program} {tf tw : TypeId} {c c' : Cx} (h : TOk P tf tw c) (h1 : c'.tf = c.tf) (h2 : c'.tw = c.tw) (h3 : Ext c.w c.fr c'.w c'.fr) : TOk P tf tw c' :=
 ⟨⟨h1.trans h.1.1, h2.trans h.1.2⟩, fun g v hg => (h.2 g v hg).ext h3⟩
theorem HpLe.refl (c : Cx) : HpLe c c := ⟨Nat.le_refl _, fun _ _ => BLe.refl _ _, Ext.refl _ _, rfl, rfl⟩
theorem HpLe.trans {a b c : Cx} (h : HpLe a b) (k : HpLe b c) : HpLe a c :=
 ⟨Nat.le_trans h.len k.len, fun i hi => (h.blk i hi).trans (k.blk i (Nat.lt_of_lt_of_le hi h.len)), h.ext.trans k.ext, k.tf.trans h.tf, k.tw.trans h.tw⟩
theorem BLe.ptr {u u' : Value} {a : Addr} : ∀ {x y : Blk}, BLe u u' x y → isLst x = false → adr u = some a → adr u' = some a
 | .box _ _, .box _ _, ⟨_, _, h⟩, _, e => (congrArg adr h).trans e
 | .box _ _, .dead, (h : _ = _), _, e => (congrArg adr h).trans e
 | .arr _ _ _ _ _, .arr _ _ _ _ _, ⟨_, _, _, _, h⟩, _, e => (congrArg adr h).trans e
 | .arr _ _ _ _ _, .dead, (h : _ = _), _, e => (congrArg adr h).trans e
 | .bld _ _ _, .bld _ _ _, ⟨_, _, h⟩, _, e => h.trans e
 | .bld _ _ _, .dead, (h : adr _ = adr _), _, e => h.trans e
 | .itr _ _, .itr _ _, ⟨_, h⟩, _, e => (congrArg adr h).trans e
 | .itr _ _, .dead, (h : _ = _), _, e => (congrArg adr h).trans e
 | .dead, .dead, (h : _ = _), _, e => (congrArg adr h).trans e
mutual
theorem Rep.mono {c c' : Cx} (hl : HpLe c c') : ∀ {d : D} {u : Value}, Rep c d u → Rep c' d u
 | .v x, u, h => by simp only [Rep] at h ⊢; exact h
 | .agg cs, u, h => by
   simp only [Rep] at h ⊢
   obtain ⟨us, rfl, h⟩ := h
   exact ⟨us, rfl, RepL.mono hl h⟩
 | .tup ds, u, h => by
   simp only [Rep] at h ⊢
   obtain ⟨us, rfl, h⟩ := h
   exact ⟨us, rfl, RepL.mono hl h⟩
 | .fz t l, u, h => by simp only [Rep] at h ⊢; exact h.ext hl.ext
 | .av t n l, u, h => by
   simp only [Rep] at h ⊢
   obtain ⟨us, rfl, h, h'⟩ := h
   exact ⟨us, rfl, h.ext hl.ext, h'⟩
 | .sl b ver, u, h => by
   simp only [Rep] at h ⊢
   obtain ⟨hb, ho, h⟩ := h
   refine ⟨Nat.lt_of_lt_of_le hb hl.len, ho, ?_⟩
   have hk := hl.blk b hb
   revert h hk
   cases getB c.hp b <;> cases getB c'.hp b <;> simp only [BLe] <;> intro h hk <;> try trivial
   obtain ⟨h1, h2⟩ := h
   obtain ⟨k1, k2, k3, k4⟩ := hk
   exact ⟨Nat.le_trans h1 k3, fun e => by
    have e' := Nat.le_antisymm (e ▸ k3) h1
    exact (h2 e').trans (k4 (by omega)).1.symm⟩
 | .ptr b off, u, h => by
   simp only [Rep] at h ⊢
   obtain ⟨hb, hn, a, h1, rfl⟩ := h
   have hk := hl.blk b hb
   refine ⟨Nat.lt_of_lt_of_le hb hl.len, ?_, a, hk.ptr hn h1, rfl⟩
   revert hn hk
   cases getB c.hp b <;> cases getB c'.hp b <;> simp [BLe, isLst]
 | .ep b ver i off, u, h => by
   simp only [Rep] at h ⊢
   obtain ⟨hb, ho, h⟩ := h
   refine ⟨Nat.lt_of_lt_of_le hb hl.len, ho, ?_⟩
   have hk := hl.blk b hb
   revert h hk
   cases getB c.hp b <;> cases getB c'.hp b <;> simp only [BLe] <;> intro h hk <;> try trivial
   ·obtain ⟨h1, h2⟩ := h
    obtain ⟨k1, rfl, k3, k4⟩ := hk
    exact ⟨Nat.le_trans h1 k3, fun e => by
     have e' := Nat.le_antisymm (e ▸ k3) h1
     obtain ⟨a, n, k, g1, g2, g3, g4⟩ := h2 e'
     have := k4 (by omega)
     exact ⟨a, n, k, this.1.trans g1, g2, by rw [this.2]; exact g3, g4⟩⟩
   ·obtain ⟨a, g1, g2, g3, g4⟩ := h
    obtain ⟨_, _, rfl, k4, k5⟩ := hk
    exact ⟨a, k5.trans g1, g2, by rw [k4]; exact g3, g4⟩
 | .fp cs, u, h => by
   simp only [Rep] at h ⊢
   obtain ⟨a, us, rfl, h, h'⟩ := h
   exact ⟨a, us, rfl, RepL.mono hl h, h'.ext hl.ext⟩
 | .er e, u, h => by simp only [Rep] at h ⊢; rw [hl.tf, hl.tw]; exact h.ext hl.ext
 | .clo f fs cs, u, h => by
   simp only [Rep] at h ⊢
   obtain ⟨us, vs, rfl, h, h'⟩ := h
   exact ⟨us, vs, rfl, RepL.mono hl h, RepL.mono hl h'⟩
 | .bad, u, h => by simp only [Rep]
theorem RepL.mono {c c' : Cx} (hl : HpLe c c') : ∀ {ds : List D} {us : List Value}, RepL c ds us → RepL c' ds us
 | [], us, h => by simp only [RepL] at h ⊢; exact h
 | d :: r, us, h => by
   simp only [RepL] at h ⊢
   obtain ⟨u, us', rfl, h, h'⟩ := h
   exact ⟨u, us', rfl, Rep.mono hl h, RepL.mono hl h'⟩
end
def Own (c : Cx) (i : Nat) : Prop := ∃ b, b < c.hp.length ∧ live (getB c.hp b) = true ∧ cb (c.cv b) i
structure Stp (c c' : Cx) : Prop where
 le : HpLe c c'
 os : c'.w.os = c.w.os
 tape : c'.w.tape = c.w.tape
 output : c'.w.output = c.w.output
 size : c.w.heap.size ≤ c'.w.heap.size
 keep : ∀ i, i < c.w.heap.size → ¬ Own c i → c'.w.heap[i]? = c.w.heap[i]?
 fresh : ∀ i, Own c' i → c.w.heap.size ≤ i ∨ Own c i
 frnew : ∀ a, c'.fr a → c.fr a ∨ c.w.heap.size ≤ a.block ∨ Own c a.block
theorem Stp.refl (c : Cx) : Stp c c := ⟨HpLe.refl c, rfl, rfl, rfl, Nat.le_refl _, fun _ _ _ => rfl, fun _ h => .inr h, fun _ h => .inl h⟩
theorem Stp.trans {a b c : Cx} (h : Stp a b) (k : Stp b c) : Stp a c where
 le := h.le.trans k.le
 os := k.os.trans h.os
 tape := k.tape.trans h.tape
 output := k.output.trans h.output
 size := Nat.le_trans h.size k.size
 keep i hi hn := (k.keep i (Nat.lt_of_lt_of_le hi h.size) (fun ho => by
  rcases h.fresh i ho with h1 | h1
  ·omega
  ·exact hn h1)).trans (h.keep i hi hn)
 fresh i ho := by
  rcases k.fresh i ho with h1 | h1
  ·exact .inl (Nat.le_trans h.size h1)
  ·exact h.fresh i h1
 frnew x hx := by
  rcases k.frnew x hx with h1 | h1 | h1
  ·exact h.frnew x h1
  ·exact .inr (.inl (Nat.le_trans h.size h1))
  ·exact .inr (h.fresh _ h1)
theorem BRep.keep {c c' : Cx} (hl : HpLe c c') {b : Nat} (hcv : c'.cv b = c.cv b) (hB : ∀ B, cb (c.cv b) B → c'.w.heap[B]? = c.w.heap[B]?)
 (hfr : ∀ a B, cb (c.cv b) B → a.block = B → c'.fr a → c.fr a) : ∀ {x : Blk}, BRep c b x → BRep c' b x
 | .box ty cs, h => by
   obtain ⟨B, us, h1, h2, h3, h4⟩ := h
   exact ⟨B, us, hcv.trans h1, (hB B (by rw [h1]; rfl)).trans h2, RepL.mono hl h3, fun a ha hf => h4 a ha (hfr a B (by rw [h1]; rfl) ha hf)⟩
 | .arr ty e t l s, h => by
   obtain ⟨B, us, h1, h2, h3, hn, h4, h5⟩ := h
   exact ⟨B, us, hcv.trans h1, (hB B (by rw [h1]; rfl)).trans h2, h3.ext hl.ext, hn, fun hs a ha hf => h4 hs a ha (hfr a B (by rw [h1]; rfl) ha hf), fun hs j hj => (hl.ext _ (h5 hs j hj)).1⟩
 | .lst e t l ver s, h => by
   obtain ⟨A, cap, h1, h2⟩ := h
   refine ⟨A, cap, hcv.trans h1, ?_⟩
   rcases h2 with h2 | ⟨B, us, vs, rfl, h3, h4, h5, h6, h7, h8⟩
   ·exact .inl h2
   ·exact .inr ⟨B, us, vs, rfl, (hB B (by rw [h1]; rfl)).trans h3, h4, h5, h6.ext hl.ext, fun a ha hs hf => h7 a ha hs (hfr a B (by rw [h1]; rfl) ha hf), fun hs j hj => (hl.ext _ (h8 hs j hj)).1⟩
 | .bld ty e s, h => by
   obtain ⟨B, r, p, A, cap, h1, h2, h3, h4, h5⟩ := h
   have kB : cb (c.cv b) B := by rw [h1]; exact .inl rfl
   refine ⟨B, r, p, A, cap, hcv.trans h1, (hB B kB).trans h2, fun a ha hf => h3 a ha (hfr a B kB ha hf), h4, ?_⟩
   rcases h5 with h5 | ⟨R, us, vs, k1, k2, k3, k4, k5, k6, k7, k8⟩
   ·exact .inl h5
   ·have kR : cb (c.cv b) R := by rw [h1]; exact .inr k1
    exact .inr ⟨R, us, vs, k1, k2, k3, (hB R kR).trans k4, k5, k6, k7.ext hl.ext, fun a ha hf => k8 a ha (hfr a R kR ha hf)⟩
 | .itr s pos, h => by
   obtain ⟨B, h1, h2, h3⟩ := h
   have kB : cb (c.cv b) B := by rw [h1]; rfl
   exact ⟨B, hcv.trans h1, (hB B kB).trans h2, fun a ha hf => h3 a ha (hfr a B kB ha hf)⟩
 | .dead, _ => trivial
theorem BRep.lt {c : Cx} {b : Nat} {B : Nat} (hB : cb (c.cv b) B) : ∀ {x : Blk}, live x = true → BRep c b x → B < c.w.heap.size
 | .box ty cs, _, ⟨B', us, h1, h2, _⟩ => by
   rw [h1] at hB; cases hB
   exact (Array.getElem?_eq_some_iff.1 h2).1
 | .arr ty e t l s, _, ⟨B', us, h1, h2, _⟩ => by
   rw [h1] at hB; cases hB
   exact (Array.getElem?_eq_some_iff.1 h2).1
 | .lst e t l ver s, _, ⟨A, cap, h1, h2⟩ => by
   rcases h2 with ⟨rfl, rfl, rfl⟩ | ⟨B', us, vs, rfl, h3, _⟩
   ·rw [h1] at hB; cases hB
   ·rw [h1] at hB; cases hB
    exact (Array.getElem?_eq_some_iff.1 h3).1
 | .itr s pos, _, ⟨B', h1, h2, _⟩ => by
   rw [h1] at hB; cases hB
   exact (Array.getElem?_eq_some_iff.1 h2).1
 | .bld ty e s, _, ⟨B', r, p, A, cap, h1, h2, h3, h4, h5⟩ => by
   rw [h1] at hB
   rcases hB with hB | hB
   ·have hB : B' = B := hB
    subst hB
    exact (Array.getElem?_eq_some_iff.1 h2).1
   ·have hB : r = B + 1 := hB
    rcases h5 with ⟨h5, _⟩ | ⟨R, us, vs, k1, _, _, k4, _⟩
    ·exact absurd (h5.symm.trans hB) (Nat.succ_ne_zero B).symm
    ·have : R = B := Nat.succ.inj (k1.symm.trans hB)
     subst this
     exact (Array.getElem?_eq_some_iff.1 k4).1
theorem HRep.own_lt {c : Cx} (H : HRep c) {i : Nat} (h : Own c i) : i < c.w.heap.size := by
 obtain ⟨b, hb, hl, hi⟩ := h
 exact BRep.lt hi hl (H.blk b hb)
structure Upd (c c' : Cx) (b0 : Nat) : Prop where
 lt : b0 < c'.hp.length
 len : ∀ b, b < c'.hp.length → b ≠ b0 → b < c.hp.length
 oth : ∀ b, b < c.hp.length → b ≠ b0 → getB c'.hp b = getB c.hp b ∧ c'.cv b = c.cv b
 heap : ∀ i, i < c.w.heap.size → (b0 < c.hp.length → live (getB c.hp b0) = true → ¬ cb (c.cv b0) i) → c'.w.heap[i]? = c.w.heap[i]?
 size : c.w.heap.size ≤ c'.w.heap.size
 os : c'.w.os = c.w.os
 tape : c'.w.tape = c.w.tape
 output : c'.w.output = c.w.output
 fr : ∀ a, c'.fr a → c.fr a ∨ c.w.heap.size ≤ a.block ∨ (b0 < c.hp.length ∧ live (getB c.hp b0) = true ∧ cb (c.cv b0) a.block)
 frin : ∀ a, c'.fr a → a.block < c'.w.heap.size
 new : BRep c' b0 (getB c'.hp b0)
 at_ : ∀ B, live (getB c'.hp b0) = true → cb (c'.cv b0) B → c.w.heap.size ≤ B ∨ (b0 < c.hp.length ∧ live (getB c.hp b0) = true ∧ cb (c.cv b0) B)
theorem Upd.hrep {c c' : Cx} {b0 : Nat} (U : Upd c c' b0) (H : HRep c) (hl : HpLe c c') : HRep c' where
 blk b hb := by
  by_cases e : b = b0
  ·subst e; exact U.new
  ·have hb' := U.len b hb e
   obtain ⟨h1, h2⟩ := U.oth b hb' e
   rw [h1]
   by_cases hv : live (getB c.hp b) = true
   ·refine BRep.keep hl h2 (fun B hB => U.heap B (BRep.lt hB hv (H.blk b hb')) (fun h0 hv0 hc => H.apart b b0 B hb' h0 e hv hv0 hB hc)) (fun a B hB ha hf => ?_) (H.blk b hb')
    rcases U.fr a hf with h3 | h3 | ⟨h0, hv0, h3⟩
    ·exact h3
    ·have := BRep.lt hB hv (H.blk b hb'); omega
    ·exact absurd (ha ▸ h3) (H.apart b b0 B hb' h0 e hv hv0 hB)
   ·cases hg : getB c.hp b <;> rw [hg] at hv <;> simp [live] at hv
    trivial
 apart b b' B hb hb' hne hv hv' hB hB' := by
  by_cases e : b = b0
  ·subst e
   have hb1 := U.len b' hb' (Ne.symm hne)
   obtain ⟨h1, h2⟩ := U.oth b' hb1 (Ne.symm hne)
   rw [h1] at hv'; rw [h2] at hB'
   rcases U.at_ B hv hB with h3 | ⟨h0, hv0, h3⟩
   ·have := BRep.lt hB' hv' (H.blk b' hb1); omega
   ·exact H.apart b b' B h0 hb1 hne hv0 hv' h3 hB'
  ·have hb1 := U.len b hb e
   obtain ⟨h1, h2⟩ := U.oth b hb1 e
   rw [h1] at hv; rw [h2] at hB
   by_cases e' : b' = b0
   ·subst e'
    rcases U.at_ B hv' hB' with h3 | ⟨h0, hv0, h3⟩
    ·have := BRep.lt hB hv (H.blk b hb1); omega
    ·exact H.apart b b' B hb1 h0 hne hv hv0 hB h3
   ·have hb2 := U.len b' hb' e'
    obtain ⟨k1, k2⟩ := U.oth b' hb2 e'
    rw [k1] at hv'; rw [k2] at hB'
    exact H.apart b b' B hb1 hb2 hne hv hv' hB hB'
 frin := U.frin
theorem Upd.stp {c c' : Cx} {b0 : Nat} (U : Upd c c' b0) (hl : HpLe c c') : Stp c c' where
 le := hl
 os := U.os
 tape := U.tape
 output := U.output
 size := U.size
 keep i hi hn := U.heap i hi (fun h0 hv hc => hn ⟨b0, h0, hv, hc⟩)
 fresh i ho := by
  obtain ⟨b, hb, hv, hc⟩ := ho
  by_cases e : b = b0
  ·subst e
   rcases U.at_ i hv hc with h | ⟨h0, hv0, h⟩
   ·exact .inl h
   ·exact .inr ⟨b, h0, hv0, h⟩
  ·have hb1 := U.len b hb e
   obtain ⟨h1, h2⟩ := U.oth b hb1 e
   rw [h1] at hv; rw [h2] at hc
   exact .inr ⟨b, hb1, hv, hc⟩
 frnew a ha := by
  rcases U.fr a ha with h | h | ⟨h0, hv, h⟩
  ·exact .inl h
  ·exact .inr (.inl h)
  ·exact .inr (.inr ⟨b0, h0, hv, h⟩)
theorem HRep.grow {c c' : Cx} (H : HRep c) (hl : HpLe c c') (hhp : c'.hp = c.hp) (hcv : ∀ b, b < c.hp.length → c'.cv b = c.cv b)
 (hheap : ∀ i, i < c.w.heap.size → c'.w.heap[i]? = c.w.heap[i]?) (hsize : c.w.heap.size ≤ c'.w.heap.size) (hfr : ∀ a, c'.fr a → c.fr a ∨ c.w.heap.size ≤ a.block) (hin : ∀ a, c'.fr a → a.block < c'.w.heap.size) : HRep c' where
 blk b hb := by
  rw [hhp] at hb ⊢
  by_cases hv : live (getB c.hp b) = true
  ·refine BRep.keep hl (hcv b hb) (fun B hB => hheap B (BRep.lt hB hv (H.blk b hb))) (fun a B hB ha hf => ?_) (H.blk b hb)
   rcases hfr a hf with h | h
   ·exact h
   ·have := BRep.lt hB hv (H.blk b hb); omega
  ·cases hg : getB c.hp b <;> rw [hg] at hv <;> simp [live] at hv
   trivial
 apart b b' B hb hb' hne hv hv' hB hB' := by
  rw [hhp] at hb hb' hv hv'
  rw [hcv b hb] at hB; rw [hcv b' hb'] at hB'
  exact H.apart b b' B hb hb' hne hv hv' hB hB'
 frin := hin
theorem Stp.grow {c c' : Cx} (hl : HpLe c c') (hhp : c'.hp = c.hp) (hcv : ∀ b, b < c.hp.length → c'.cv b = c.cv b)
 (hheap : ∀ i, i < c.w.heap.size → c'.w.heap[i]? = c.w.heap[i]?) (hsize : c.w.heap.size ≤ c'.w.heap.size) (hfr : ∀ a, c'.fr a → c.fr a ∨ c.w.heap.size ≤ a.block)
 (hos : c'.w.os = c.w.os) (htape : c'.w.tape = c.w.tape) (hout : c'.w.output = c.w.output) : Stp c c' where
 le := hl
 os := hos
 tape := htape
 output := hout
 size := hsize
 keep i hi _ := hheap i hi
 fresh i ho := by
  obtain ⟨b, hb, hv, hc⟩ := ho
  rw [hhp] at hb hv; rw [hcv b hb] at hc
  exact .inr ⟨b, hb, hv, hc⟩
 frnew a ha := by
  rcases hfr a ha with h | h
  ·exact .inl h
  ·exact .inr (.inl h)
theorem Rep_v (c : Cx) (x : Value) : Rep c (.v x) x := by simp only [Rep]
theorem beqS_iff (a b : ByteArray) : beqS a b = true ↔ a = b := by
 unfold beqS
 simp only [beq_iff_eq]
 constructor
 ·intro h; cases a; cases b; simp_all
 ·rintro rfl; rfl
theorem beqS_toList (a b : ByteArray) : (a.toList == b.toList) = beqS a b := by
 rw [ByteArray.toList_eq, ByteArray.toList_eq]; rfl
def eqV : List Ty → List Value → List Value → Option Bool
 | [], [], [] => some true
 | .int k :: ts, .int k1 a :: r, .int k2 b :: s => if k1 = k ∧ k2 = k then (eqV ts r s).map ((a == b) && ·) else none
 | .bool :: ts, .bool a :: r, .bool b :: s => (eqV ts r s).map ((a == b) && ·)
 | .str :: ts, .string a :: r, .string b :: s => (eqV ts r s).map (beqS a b && ·)
 | _, _, _ => none
theorem eqCells_eqV {c : Cx} : ∀ {ts : List Ty} {xs ys : List D} {us vs : List Value} {b : Bool}, eqCells ts xs ys = some b → RepL c xs us → RepL c ys vs → eqV ts us vs = some b := by
 intro ts
 induction ts with
 | nil =>
   intro xs ys us vs b h hx hy
   unfold eqCells at h
   split at h
   ·simp only [RepL] at hx hy; subst hx; subst hy; exact h
   ·rename_i e; cases e
   ·rename_i e; cases e
   ·rename_i e; cases e
   ·cases h
 | cons t ts ih =>
   intro xs ys us vs b h hx hy
   unfold eqCells at h
   split at h
   ·rename_i e; cases e
   ·rename_i e1; cases e1
    simp only [RepL] at hx hy
    obtain ⟨u, us', rfl, hx1, hx⟩ := hx
    obtain ⟨v, vs', rfl, hy1, hy⟩ := hy
    simp only [Rep] at hx1 hy1; subst hx1; subst hy1
    split at h
    ·rename_i hk
     obtain ⟨b', h', rfl⟩ := Option.map_eq_some_iff.1 h
     rw [eqV, if_pos hk, ih h' hx hy]; rfl
    ·cases h
   ·rename_i e1; cases e1
    simp only [RepL] at hx hy
    obtain ⟨u, us', rfl, hx1, hx⟩ := hx
    obtain ⟨v, vs', rfl, hy1, hy⟩ := hy
    simp only [Rep] at hx1 hy1; subst hx1; subst hy1
    obtain ⟨b', h', rfl⟩ := Option.map_eq_some_iff.1 h
    rw [eqV, ih h' hx hy]; rfl
   ·rename_i e1; cases e1
    simp only [RepL] at hx hy
    obtain ⟨u, us', rfl, hx1, hx⟩ := hx
    obtain ⟨v, vs', rfl, hy1, hy⟩ := hy
    simp only [Rep] at hx1 hy1; subst hx1; subst hy1
    obtain ⟨b', h', rfl⟩ := Option.map_eq_some_iff.1 h
    rw [eqV, ih h' hx hy]; rfl
   ·cases h
def EqOk (cfg : Cfg) : Prop := ∀ t ts, cfg.eqT t = some ts → ∀ (us vs : List Value) (b : Bool), eqV ts us vs = some b → ∀ (w : World),
 cfg.P.eqGuardType cfg.P.depth t = false ∧ (Op.equal t (.agg us.toArray) (.agg vs.toArray)).run cfg.P w = .ok b w
theorem RepE.isNil {w : World} {fr : Addr → Prop} {tf tw : TypeId} : ∀ {e : Err} {u : Value}, RepE w fr tf tw e u → (e = .nil ∧ u = .nilIface) ∨ (e.isNil = false ∧ ∃ t v, u = .iface t v)
 | .nil, u, h => .inl ⟨rfl, h⟩
 | .flt c a, u, ⟨p, h, _⟩ => .inr ⟨rfl, _, _, h⟩
 | .win s e, u, ⟨p, v, h, _⟩ => .inr ⟨rfl, _, _, h⟩
 | .wrg t e, u, ⟨v, h, _⟩ => .inr ⟨rfl, _, _, h⟩
theorem noOver {n : Nat} (h : n ≤ 9223372036854775807) : ¬ ((n : Int) > IntKind.i64.max) := by
 intro hh
 simp only [IntKind.max, IntKind.signed, IntKind.bits] at hh
 simp at hh
 omega
section
variable {P : Program} (w : World)
theorem eqlI_in (d : Nat) (t u : TypeId) (x : Value) {ms : Array (String × TypeId)} (h : P.underlying t = some (.interface ms)) : (Op.equalIn (d + 1) t (.iface u x) .nilIface).run P w = .ok false w := by
 simp [Op.equalIn, run_underlying h]
theorem eqlN_in (d : Nat) (t : TypeId) {ms : Array (String × TypeId)} (h : P.underlying t = some (.interface ms)) : (Op.equalIn (d + 1) t .nilIface .nilIface).run P w = .ok true w := by
 simp [Op.equalIn, run_underlying h]
theorem eqlF_in (d : Nat) (t : TypeId) {a b : Array TypeId} {v : Bool} {f : Fn} {x y : Array Value} (h : P.underlying t = some (.func a b v)) : (Op.equalIn (d + 1) t (.func f x y) .nilFunc).run P w = .ok false w := by
 simp [Op.equalIn, run_underlying h]
theorem eqlI (t u : TypeId) (x : Value) {ms : Array (String × TypeId)} (h : P.underlying t = some (.interface ms)) : (Op.equal t (.iface u x) .nilIface).run P w = .ok false w := eqlI_in w 9999 t u x h
theorem eqlN (t : TypeId) {ms : Array (String × TypeId)} (h : P.underlying t = some (.interface ms)) : (Op.equal t .nilIface .nilIface).run P w = .ok true w := eqlN_in w 9999 t h
theorem eqlF (t : TypeId) {a b : Array TypeId} {v : Bool} {f : Fn} {x y : Array Value} (h : P.underlying t = some (.func a b v)) : (Op.equal t (.func f x y) .nilFunc).run P w = .ok false w := eqlF_in w 9999 t h
theorem eqlFN_in (d : Nat) (t : TypeId) {a b : Array TypeId} {v : Bool} (h : P.underlying t = some (.func a b v)) : (Op.equalIn (d + 1) t .nilFunc .nilFunc).run P w = .ok true w := by
 simp [Op.equalIn, run_underlying h]
theorem eqlFN (t : TypeId) {a b : Array TypeId} {v : Bool} (h : P.underlying t = some (.func a b v)) : (Op.equal t .nilFunc .nilFunc).run P w = .ok true w := eqlFN_in w 9999 t h
theorem run_eql {t : TypeId} {x y : Value} {b : Bool} (hb : binOp .eql t x y = (do pure (.bool (← Op.equal t x y)))) (h : (Op.equal t x y).run P w = .ok b w) : (binOp .eql t x y).run P w = .ok (.bool b) w := by
 rw [hb]; simp [h]
theorem run_neq {t : TypeId} {x y : Value} {b : Bool} (hb : binOp .neq t x y = (do pure (.bool (!(← Op.equal t x y))))) (h : (Op.equal t x y).run P w = .ok b w) : (binOp .neq t x y).run P w = .ok (.bool (!b)) w := by
 rw [hb]; simp [h]
theorem run_guarded {op : BinOp} {t : TypeId} {xo yo : Operand} {u v r : Value} (hg : (eqGuard op t xo yo u v).run P w = .ok () w) (h : (binOp op t u v).run P w = .ok r w) :
 (do eqGuard op t xo yo u v; binOp op t u v : Sem Value).run P w = .ok r w := by
 simp [hg, h]
theorem guard_agg {op : BinOp} {t : TypeId} {xo yo : Operand} {us vs : Array Value} (h : P.eqGuardType P.depth t = false) : (eqGuard op t xo yo (.agg us) (.agg vs)).run P w = .ok () w := by
 exact run_eqGuard_agg w op t xo yo us vs h
end
theorem binW_run {cfg : Cfg} {c : Cx} {t : TypeId} {op : BinOp} {x y : D} {K : D → Prop} {u v : Value} (xo yo : Operand)
 (h : binW cfg t (isC xo || isC yo) op x y K) (hx : Rep c x u) (hy : Rep c y v) (heq : EqOk cfg) :
 ∃ d r, K d ∧ Rep c d r ∧ (do eqGuard op t xo yo u v; binOp op t u v : Sem Value).run cfg.P c.w = .ok r c.w := by
 unfold binW at h
 split at h
 ·simp only [Rep] at hx hy; subst hx; subst hy
  split at h
  ·refine ⟨_, _, h.2, Rep_v _ _, ?_⟩
   have h0 := h.1
   simp [eqGuard, binOp, Op.shift, Int.not_lt.2 h0]
  ·refine ⟨_, _, h.2, Rep_v _ _, ?_⟩
   have h0 := h.1
   simp [eqGuard, binOp, Op.shift, Int.not_lt.2 h0]
  ·split at h
   ·rename_i hk; subst hk
    unfold intW at h
    split at h <;> first
     | exact h.elim
     | (refine ⟨_, _, h, Rep_v _ _, ?_⟩
        simp [eqGuard, binOp, Op.intArith, Op.intBits, Op.intCmp]; done)
     | (refine ⟨_, _, h.2, Rep_v _ _, ?_⟩
        have h0 := h.1
        simp [eqGuard, binOp, Op.intDiv, h0]; done)
   ·exact h.elim
 ·simp only [Rep] at hx hy; subst hx; subst hy
  unfold strW at h
  split at h
  ·refine ⟨_, _, h.2, Rep_v _ _, ?_⟩
   have h1 := noOver h.1
   rw [eqGuard_add]
   simp only [binOp, Op.stringOp, if_neg h1]
   rfl
  ·refine ⟨_, _, h, Rep_v _ _, ?_⟩
   simp [eqGuard, binOp, Op.stringOp, ← beqS_toList]
  ·refine ⟨_, _, h, Rep_v _ _, ?_⟩
   simp [eqGuard, binOp, Op.stringOp, ← beqS_toList]
  ·exact h.elim
 ·simp only [Rep] at hx hy; subst hx; subst hy
  split at h
  ·rename_i hu
   exact ⟨_, _, h, Rep_v _ _, run_guarded _ (by rw [eqGuard_at_bool]; rfl) (run_eql_bool _ t _ _ hu)⟩
  ·rename_i hu
   exact ⟨_, _, h, Rep_v _ _, run_guarded _ (by rw [eqGuard_at_bool]; rfl) (run_neq_bool _ t _ _ hu)⟩
  ·exact h.elim
 ·simp only [Rep] at hx hy; subst hy
  split at h
  ·rename_i hu hk
   refine ⟨_, _, h, Rep_v _ _, ?_⟩
   rcases hx.isNil with ⟨rfl, rfl⟩ | ⟨hn, t', v', rfl⟩
   ·refine run_guarded _ ?_ (run_eql _ rfl (eqlN _ t hu))
    cases xo <;> cases yo <;> simp [isC] at hk <;> rfl
   ·rw [hn]
    exact run_guarded _ rfl (run_eql _ rfl (eqlI _ t _ _ hu))
  ·rename_i hu hk
   refine ⟨_, _, h, Rep_v _ _, ?_⟩
   rcases hx.isNil with ⟨rfl, rfl⟩ | ⟨hn, t', v', rfl⟩
   ·refine run_guarded _ ?_ (run_neq _ rfl (eqlN _ t hu))
    cases xo <;> cases yo <;> simp [isC] at hk <;> rfl
   ·rw [hn]
    exact run_guarded _ rfl (run_neq _ rfl (eqlI _ t _ _ hu))
  ·exact h.elim
 ·simp only [Rep] at hx hy
  obtain ⟨us, rfl, hx⟩ := hx
  obtain ⟨vs, rfl, hy⟩ := hy
  split at h
  ·rename_i ts ht
   split at h
   ·rename_i b hb
    obtain ⟨h1, h2⟩ := heq t ts ht us vs b (eqCells_eqV hb hx hy) c.w
    exact ⟨_, _, h, Rep_v _ _, run_guarded _ (guard_agg _ h1) (run_eql _ rfl h2)⟩
   ·rename_i b hb
    obtain ⟨h1, h2⟩ := heq t ts ht us vs b (eqCells_eqV hb hx hy) c.w
    exact ⟨_, _, h, Rep_v _ _, run_guarded _ (guard_agg _ h1) (run_neq _ rfl h2)⟩
   ·exact h.elim
  ·exact h.elim
 ·simp only [Rep] at hx hy; subst hy
  obtain ⟨us, vs, rfl, _, _⟩ := hx
  split at h
  ·rename_i hu
   exact ⟨_, _, h, Rep_v _ _, run_guarded _ rfl (run_eql _ rfl (eqlF _ t hu))⟩
  ·rename_i hu
   exact ⟨_, _, h, Rep_v _ _, run_guarded _ rfl (run_neq _ rfl (eqlF _ t hu))⟩
  ·exact h.elim
 ·simp only [Rep] at hx hy; subst hx; subst hy
  split at h
  ·rename_i hu hk
   refine ⟨_, _, h, Rep_v _ _, run_guarded _ ?_ (run_eql _ rfl (eqlFN _ t hu))⟩
   cases xo <;> cases yo <;> simp [isC] at hk <;> rfl
  ·rename_i hu hk
   refine ⟨_, _, h, Rep_v _ _, run_guarded _ ?_ (run_neq _ rfl (eqlFN _ t hu))⟩
   cases xo <;> cases yo <;> simp [isC] at hk <;> rfl
  ·exact h.elim
 ·exact h.elim
def Quiet (c c' : Cx) : Prop := c'.hp = c.hp ∧ (∀ b, b < c.hp.length → c'.cv b = c.cv b) ∧ ∀ i, i < c.w.heap.size → c'.w.heap[i]? = c.w.heap[i]?
def Out (q : Bool) (c : Cx) (K : D → List Blk → Prop) (v : Value) (w' : World) : Prop :=
 ∃ d c', c'.w = w' ∧ K d c'.hp ∧ Rep c' d v ∧ HRep c' ∧ Stp c c' ∧ (q = true → Quiet c c')
theorem Quiet.refl (c : Cx) : Quiet c c := ⟨rfl, fun _ _ => rfl, fun _ _ => rfl⟩
theorem Out.same {q : Bool} {c : Cx} {K : D → List Blk → Prop} {d : D} {v : Value} (H : HRep c) (h : K d c.hp) (hd : Rep c d v) : Out q c K v c.w :=
 ⟨d, c, rfl, h, hd, H, Stp.refl c, fun _ => Quiet.refl c⟩
theorem ofV1_rep (c : Cx) (x : Value) : Rep c (ofV1 x) x := by
 unfold ofV1
 split
 ·simp only [Rep, RepE]
 ·exact Rep_v _ _
theorem RepL_vals (c : Cx) : ∀ us : List Value, RepL c (us.map ofV1) us
 | [] => by simp only [List.map_nil, RepL]
 | u :: r => by
   simp only [List.map_cons, RepL]
   exact ⟨u, r, rfl, ofV1_rep _ _, RepL_vals c r⟩
theorem ofVal_rep (c : Cx) (x : Value) : Rep c (ofVal x) x := by
 unfold ofVal
 split
 ·rename_i cs
  simp only [Rep]
  exact ⟨cs.toList, by simp, RepL_vals c _⟩
 ·exact ofV1_rep _ _
theorem opd_rep {c : Cx} {st : St} {a : Act} (hr : RepL c st.tmps a.tmps.toList) (x : Operand) : Rep c (st.opd x) (a.eval x) := by
 cases x with
 | tmp t =>
   simp only [St.opd, Act.eval]
   cases h : st.tmps[t]? with
   | none => simp [List.getD, h, Rep]
   | some d =>
     obtain ⟨u, hu, hd⟩ := RepL_get hr h
     have hu' : a.tmps[t]? = some u := by simpa using hu
     simp [List.getD, h, Array.getD_eq_getD_getElem?, hu', hd]
 | const v => exact ofVal_rep c v
 | global g => simp [St.opd, Rep]
 | func f =>
   simp only [St.opd, Act.eval, Rep]
   exact ⟨[], [], rfl, by simp only [RepL], by simp only [RepL]⟩
theorem opds_rep {c : Cx} {st : St} {a : Act} (hr : RepL c st.tmps a.tmps.toList) : ∀ xs : List Operand, RepL c (xs.map st.opd) (xs.map a.eval)
 | [] => by simp only [List.map_nil, RepL]
 | x :: r => by
   simp only [List.map_cons, RepL]
   exact ⟨_, _, rfl, opd_rep hr x, opds_rep hr r⟩
section
variable {P : Program} {o : Oper} {a : Act} {w w' : World} {v : Value} {next : Act → World → Prop} {Q : Exit → Act → World → Prop}
theorem wp_val (hr : (execOp a.eval o).run P w = .ok (.value v) w') (h : next (a.put o.dst v) w') : o.wp P a w next Q := by
 unfold Oper.wp; rw [hr]; exact h
theorem wp_skip' (hr : (execOp a.eval o).run P w = .ok .skip w') (h : next (a.put o.dst undef) w') : o.wp P a w next Q := by
 unfold Oper.wp; rw [hr]; exact h
theorem wp_pan (hr : (execOp a.eval o).run P w = .halt (.panic v) w') (h : Q (.panic [{ v, recovered := false }]) a w') : o.wp P a w next Q := by
 unfold Oper.wp; rw [hr]; exact h
end
def NextO (q : Bool) (c : Cx) (o : Oper) (a : Act) (K : D → List Blk → Prop) (a' : Act) (w' : World) : Prop := ∃ v, a' = a.put o.dst v ∧ Out q c K v w'
def PanO (c : Cx) (a : Act) (KP : D → List Blk → Prop) (e : Exit) (a' : Act) (w' : World) : Prop := a' = a ∧ ∃ p, e = .panic [{ v := p, recovered := false }] ∧ Out false c KP p w'
section
variable {P : Program} {c : Cx} {o : Oper} {a : Act} {q : Bool} {K KP : D → List Blk → Prop}
theorem sound_val {v : Value} {w' : World} (hr : (execOp a.eval o).run P c.w = .ok (.value v) w') (h : Out q c K v w') : o.wp P a c.w (NextO q c o a K) (PanO c a KP) :=
 wp_val hr ⟨v, rfl, h⟩
theorem sound_skip {w' : World} (hr : (execOp a.eval o).run P c.w = .ok .skip w') (h : Out q c K undef w') : o.wp P a c.w (NextO q c o a K) (PanO c a KP) :=
 wp_skip' hr ⟨undef, rfl, h⟩
end
theorem br_elim {b : Bool} {p q : Prop} (h : br b p q) : (b = true ∧ p) ∨ (b = false ∧ q) := by
 cases b
 ·exact .inr ⟨rfl, h⟩
 ·exact .inl ⟨rfl, h⟩
theorem aggT_run {P : Program} {t : TypeId} {b : Bool} (w : World) (h : aggT P t = some b) : (isAgg t).run P w = .ok b w := by
 unfold aggT und at h
 unfold isAgg
 cases hu : P.underlying t with
 | none => rw [hu] at h; cases h
 | some d =>
   rw [hu] at h
   simp only [Sem.run_bind, run_underlying hu, Result.andThen_ok]
   cases d <;> cases h <;> rfl
theorem szOf_run {P : Program} {t : TypeId} {n : Nat} (w : World) (h : szOf P t = some n) : (sizeOf t).run P w = .ok n w := by
 unfold szOf at h
 cases hi : P.info? t with
 | none => rw [hi] at h; cases h
 | some i =>
   rw [hi] at h; cases h
   simp [sizeOf, typeInfo, hi]
theorem zeroOf_run {P : Program} {t : TypeId} {v : Value} (w : World) (h : zeroOf P t = some v) : (zeroValue t).run P w = .ok v w := by
 unfold zeroOf at h
 cases hi : P.info? t with
 | none => rw [hi] at h; cases h
 | some i =>
   rw [hi] at h
   have h' : i.zero = some v := h
   simp [zeroValue, typeInfo, hi, h']
theorem partD_part {P : Program} {c : Cx} {t : TypeId} {cs : List D} {off : Nat} {K : D → Prop} {us : List Value} (h : partD P t cs off K) (hr : RepL c cs us) (w : World) :
 ∃ d v, K d ∧ Rep c d v ∧ (part t us.toArray off).run P w = .ok v w := by
 unfold partD at h
 split at h
 ·rename_i ha
  split at h
  ·rename_i n hn
   split at h
   ·refine ⟨_, .agg ((us.drop off).take n).toArray, h, ?_, ?_⟩
    ·simp only [Rep]
     exact ⟨_, rfl, RepL_take n (RepL_drop off hr)⟩
    ·simp only [part, Sem.run_bind, aggT_run w ha, Result.andThen_ok, if_true, szOf_run w hn]
     simp [List.extract_eq_take_drop, List.take_drop]
   ·exact h.elim
  ·exact h.elim
 ·rename_i ha
  split at h
  ·rename_i d hd
   obtain ⟨u, hu, hd'⟩ := RepL_get hr hd
   refine ⟨_, u, h, hd', ?_⟩
   simp [part, aggT_run w ha, hu]
  ·exact h.elim
 ·exact h.elim
theorem partD_load {P : Program} {c : Cx} {t : TypeId} {cs : List D} {off : Nat} {K : D → Prop} {us : List Value} {p : Addr} (h : partD P t cs off K) (hr : RepL c cs us)
 (hm : ∀ j u, us[j]? = some u → c.w.cell? (p.add j) = some u) : ∃ d v, K d ∧ Rep c d v ∧ (loadVar t (p.add off)).run P c.w = .ok v c.w := by
 unfold partD at h
 split at h
 ·rename_i ha
  split at h
  ·rename_i n hn
   split at h
   ·rename_i hl
    refine ⟨_, .agg ((us.drop off).take n).toArray, h, ?_, ?_⟩
    ·simp only [Rep]
     exact ⟨_, rfl, RepL_take n (RepL_drop off hr)⟩
    ·simp only [loadVar, Sem.run_bind, aggT_run _ ha, Result.andThen_ok, if_true, szOf_run _ hn]
     have hlen : ((us.drop off).take n).length = n := by
      rw [List.length_take, List.length_drop, RepL_length hr]; omega
     have := run_loadCells_list (P := P) c.w (p.add off) ((us.drop off).take n) (fun j v hj => by
      rw [add_add]
      refine hm _ _ ?_
      rw [List.getElem?_take] at hj
      split at hj
      ·rw [List.getElem?_drop] at hj; exact hj
      ·cases hj)
     rw [hlen] at this
     simp [this]
   ·exact h.elim
  ·exact h.elim
 ·rename_i ha
  split at h
  ·rename_i d hd
   obtain ⟨u, hu, hd'⟩ := RepL_get hr hd
   refine ⟨_, u, h, hd', ?_⟩
   simp [loadVar, aggT_run _ ha, hm _ _ hu]
  ·exact h.elim
 ·exact h.elim
theorem unW_run {c : Cx} {op : UnOp} {x : D} {K : D → Prop} {u : Value} (P : Program) (h : unW op x K) (hx : Rep c x u) : ∃ d r, K d ∧ Rep c d r ∧ (Op.unary op u).run P c.w = .ok r c.w := by
 unfold unW at h
 split at h
 ·simp only [Rep] at hx; subst hx
  exact ⟨_, _, h, Rep_v _ _, rfl⟩
 ·simp only [Rep] at hx; subst hx
  exact ⟨_, _, h, Rep_v _ _, rfl⟩
 ·exact h.elim
theorem fin_oob {i : Int} {n : Nat} (h : inB 0 i (n - 1)) : 0 ≤ i ∧ i < n ∧ i.toNat < n := by
 unfold inB at h; omega
theorem cell_row {w : World} {B : Nat} {us : List Value} {t : TypeId} (h : w.heap[B]? = some (.cells us.toArray t (0, 0))) (j : Nat) : w.cell? ⟨B, j, none⟩ = us[j]? := by
 simp [World.cell?, h]
theorem getB_lt {hp : List Blk} {b : Nat} (h : getB hp b ≠ .dead) : b < hp.length := by
 rcases Nat.lt_or_ge b hp.length with h1 | h1
 ·exact h1
 ·exact absurd (by simp [getB, List.getD, List.getElem?_eq_none h1]) h
theorem getB_set {hp : List Blk} {b b' : Nat} (x : Blk) (h : b < hp.length) : getB (hp.set b x) b' = if b' = b then x else getB hp b' := by
 unfold getB
 simp only [List.getD_eq_getElem?_getD, List.getElem?_set]
 by_cases e : b' = b
 ·subst e; simp [h]
 ·rw [if_neg (fun h => e h.symm), if_neg e]
theorem getB_app {hp : List Blk} {b : Nat} (x : Blk) : getB (hp ++ [x]) b = if b = hp.length then x else getB hp b := by
 unfold getB
 simp only [List.getD_eq_getElem?_getD]
 by_cases e : b = hp.length
 ·subst e; simp
 ·rw [if_neg e]
  rcases Nat.lt_or_ge b hp.length with h | h
  ·rw [List.getElem?_append_left h]
  ·rw [List.getElem?_append_right h, List.getElem?_eq_none (by simp; omega), List.getElem?_eq_none h]
theorem RepS.elem {c : Cx} {t : Ty} {l : List t.den} {u : Value} {A : Option Addr} {n k : Nat} (h : RepT c.w c.fr (.list t) l [u]) (hu : u = .slice A n k) :
 n = l.length ∧ l.length ≤ k ∧ ∀ (i : Nat) (hi : i < l.length), ∃ a us, A = some a ∧ RepL c (expand t (l.getD i t.dflt)) us ∧ At c.w c.fr (a.add (i * t.size)) us := by
 obtain ⟨A', k', h1, h2, h3⟩ := h
 cases h1
 cases hu
 refine ⟨rfl, h2, fun i hi => ?_⟩
 obtain ⟨a, rfl, h4⟩ := h3 (fun e => by simp [e] at hi)
 obtain ⟨us, h5, h6⟩ := h4 i (l.getD i t.dflt) (by simp [List.getD, hi])
 exact ⟨a, us, rfl, h5.expand, h6⟩
theorem lst_elem {c : Cx} {b : Nat} {e : TypeId} {t : Ty} {l : List t.den} {ver : Nat} {s : Bool} (hb : BRep c b (.lst e t l ver s)) {i : Nat} (hi : i < l.length) :
 ∃ B us, c.cv b = .slice (some ⟨B, 0, none⟩) l.length (match c.cv b with | .slice _ _ k => k | _ => 0) ∧ RepT c.w c.fr t (l.getD i t.dflt) us ∧ ∀ j u, us[j]? = some u → c.w.cell? ⟨B, i * t.size + j, none⟩ = some u := by
 obtain ⟨A, cap, h1, h2⟩ := hb
 rcases h2 with ⟨rfl, rfl, rfl⟩ | ⟨B, us, vs, rfl, h3, h4, h5, h6, h7, h8⟩
 ·simp at hi
 ·obtain ⟨x, hx, hg⟩ := RepA.get h6 (show l[i]? = some (l.getD i t.dflt) by simp [List.getD, hi])
  refine ⟨B, x, by simp [h1], hx, fun j u hj => ?_⟩
  have h3' : c.w.heap[B]? = some (.cells (us ++ vs).toArray e (0, 0)) := h3
  rw [cell_row h3', List.getElem?_append_left (List.getElem?_eq_some_iff.1 (hg j u hj)).1]
  exact hg j u hj
theorem arr_elem {c : Cx} {b : Nat} {ty n : TypeId} {t : Ty} {l : List t.den} {s : Bool} (hb : BRep c b (.arr ty n t l s)) {i : Nat} (hi : i < l.length) :
 ∃ B us, c.cv b = .pointer (some ⟨B, 0, none⟩) ∧ RepT c.w c.fr t (l.getD i t.dflt) us ∧ ∀ j u, us[j]? = some u → c.w.cell? ⟨B, i * t.size + j, none⟩ = some u := by
 obtain ⟨B, us, h1, h2, h3, h4, h5, h6⟩ := hb
 obtain ⟨x, hx, hg⟩ := RepA.get h3 (show l[i]? = some (l.getD i t.dflt) by simp [List.getD, hi])
 exact ⟨B, x, h1, hx, fun j u hj => by rw [cell_row h2]; exact hg j u hj⟩
theorem toNat_lt {i : Int} {n : Nat} (h0 : 0 ≤ i) (h : i < n) : i.toNat < n := by omega
theorem loadW_run {P : Program} {c : Cx} {t : TypeId} {x : D} {K : D → Prop} {u : Value} (h : loadW P c.hp t x K) (hx : Rep c x u) (H : HRep c) :
 ∃ d v, K d ∧ Rep c d v ∧ (Instr.loadAt t u).run P c.w = .ok v c.w := by
 unfold loadW at h
 split at h
 ·rename_i b off
  simp only [Rep] at hx
  obtain ⟨hb, hl, a, ha, rfl⟩ := hx
  have hB := H.blk b hb
  split at h
  ·rename_i ty cs hg
   rw [hg] at hB
   obtain ⟨B, us, h1, h2, h3, h4⟩ := hB
   rw [h1] at ha; cases ha
   obtain ⟨d, v, hk, hd, hr⟩ := partD_load (p := ⟨B, 0, none⟩) h h3 (fun j u hj => by rw [add_plain, cell_row h2]; exact hj)
   refine ⟨d, v, hk, hd, ?_⟩
   simpa [Instr.loadAt, Instr.sureAddr] using hr
  ·rename_i ty n t' l s hg
   rw [hg] at hB
   obtain ⟨B, us, h1, h2, h3, hn, h4⟩ := hB
   rw [h1] at ha; cases ha
   split at h
   ·rename_i m hag hsz
    split at h
    ·rename_i hh
     obtain ⟨rfl, rfl⟩ := hh
     refine ⟨_, .agg us.toArray, h, ?_, ?_⟩
     ·simp only [Rep]; exact ⟨us, rfl, h3, hn⟩
     ·have hlen : us.length = n * t'.size := by rw [h3.length, hn]
      have := run_loadCells_list (P := P) c.w ⟨B, 0, none⟩ us (fun j v hj => by rw [add_plain, cell_row h2]; exact hj)
      rw [hlen] at this
      simp [Instr.loadAt, Instr.sureAddr, add_zero, loadVar, aggT_run _ hag, szOf_run _ hsz, this]
    ·exact h.elim
   ·exact h.elim
  ·exact h.elim
 ·rename_i cs
  simp only [Rep] at hx
  obtain ⟨a, us, rfl, h1, h2⟩ := hx
  obtain ⟨d, v, hk, hd, hr⟩ := partD_load (p := a) h h1 (fun j u hj => (h2 j u hj).2)
  refine ⟨d, v, hk, hd, ?_⟩
  rw [add_zero] at hr
  simpa [Instr.loadAt, Instr.sureAddr] using hr
 ·rename_i b ver i off
  simp only [Rep] at hx
  obtain ⟨hb, _, hx⟩ := hx
  have hB := H.blk b hb
  split at h
  ·rename_i e t' l ver' s hg
   rw [hg] at hB hx
   split at h
   ·rename_i hv
    obtain ⟨a, n, k, g1, g2, g3, rfl⟩ := hx.2 hv
    obtain ⟨B, us, k1, k2, k3⟩ := lst_elem hB (toNat_lt g2 g3)
    rw [g1] at k1; cases k1
    obtain ⟨d, v, hk, hd, hr⟩ := partD_load (p := (⟨B, 0, none⟩ : Addr).add (i.toNat * t'.size)) h k2.expand (fun j u hj => by rw [add_add, add_plain]; exact k3 j u hj)
    refine ⟨d, v, hk, hd, ?_⟩
    simpa [Instr.loadAt, Instr.sureAddr] using hr
   ·exact h.elim
  ·rename_i ty n t' l s hg
   rw [hg] at hB hx
   obtain ⟨a, g1, g2, g3, rfl⟩ := hx
   obtain ⟨B, us, k1, k2, k3⟩ := arr_elem hB (toNat_lt g2 g3)
   rw [g1] at k1; cases k1
   obtain ⟨d, v, hk, hd, hr⟩ := partD_load (p := (⟨B, 0, none⟩ : Addr).add (i.toNat * t'.size)) h k2.expand (fun j u hj => by rw [add_add, add_plain]; exact k3 j u hj)
   refine ⟨d, v, hk, hd, ?_⟩
   simpa [Instr.loadAt, Instr.sureAddr] using hr
  ·exact h.elim
 ·exact h.elim
theorem lst_fz {c : Cx} {b : Nat} {e : TypeId} {t : Ty} {l : List t.den} {ver : Nat} (hb : BRep c b (.lst e t l ver true)) : Rep c (.fz t l) (c.cv b) := by
 obtain ⟨A, cap, h1, h2⟩ := hb
 simp only [Rep]
 rcases h2 with ⟨rfl, rfl, rfl⟩ | ⟨B, us, vs, rfl, h3, h4, h5, h6, h7, h8⟩
 ·exact ⟨none, 0, by rw [h1], Nat.le_refl _, fun h => absurd rfl h⟩
 ·refine ⟨_, cap, by rw [h1], h4, fun _ => ⟨_, rfl, fun i x hx => ?_⟩⟩
  obtain ⟨u, hu, hg⟩ := RepA.get h6 hx
  refine ⟨u, hu, fun j v hj => ?_⟩
  have hlt := (List.getElem?_eq_some_iff.1 (hg j v hj)).1
  rw [add_add, add_plain, cell_row h3, List.getElem?_append_left hlt]
  exact ⟨h8 rfl _ hlt, hg j v hj⟩
theorem set_same {hp : List Blk} {b : Nat} {x : Blk} (h : getB hp b = x) (hb : b < hp.length) : hp.set b x = hp := by
 apply List.ext_getElem?
 intro i
 rw [List.getElem?_set]
 by_cases e : b = i
 ·subst e
  simp only [if_pos rfl, hb, if_true]
  unfold getB at h
  rw [List.getD_eq_getElem?_getD, List.getElem?_eq_getElem hb] at h
  simp at h
  rw [List.getElem?_eq_getElem hb, h]
 ·rw [if_neg e]
theorem seal_lst {c : Cx} (H : HRep c) {b : Nat} {e : TypeId} {t : Ty} {l : List t.den} {ver : Nat} {s : Bool} (hg : getB c.hp b = .lst e t l ver s) (hb : b < c.hp.length) :
 ∃ c', c'.w = c.w ∧ c'.hp = c.hp.set b (.lst e t l ver true) ∧ c'.cv = c.cv ∧ HRep c' ∧ Stp c c' ∧ Rep c' (.fz t l) (c.cv b) := by
 cases s with
 | true =>
   have hB := H.blk b hb
   rw [hg] at hB
   exact ⟨c, rfl, (set_same hg hb).symm, rfl, H, Stp.refl c, lst_fz hB⟩
 | false =>
   have hB := H.blk b hb
   rw [hg] at hB
   obtain ⟨A, cap, h1, h2⟩ := hB
   let n := l.length * t.size
   let c' : Cx := { c with hp := c.hp.set b (.lst e t l ver true), fr := fun a => c.fr a ∨ (cb (c.cv b) a.block ∧ a.spot = none ∧ a.off < n) }
   have hg' : ∀ b', getB c'.hp b' = if b' = b then .lst e t l ver true else getB c.hp b' := fun b' => getB_set _ hb
   have hle : HpLe c c' := by
    refine ⟨by simp [c'], fun b' hb' => ?_, fun a ha => ⟨.inl ha, rfl⟩, rfl, rfl⟩
    rw [hg' b']
    by_cases e' : b' = b
    ·subst e'
     rw [if_pos rfl, hg]
     exact ⟨rfl, rfl, Nat.le_refl _, fun _ => ⟨rfl, rfl⟩⟩
    ·rw [if_neg e']; exact BLe.refl _ _
   have hnew : BRep c' b (.lst e t l ver true) := by
    refine ⟨A, cap, h1, ?_⟩
    rcases h2 with h2 | ⟨B, us, vs, rfl, h3, h4, h5, h6, h7, h8⟩
    ·exact .inl h2
    ·have hus : us.length = n := h6.length
     refine .inr ⟨B, us, vs, rfl, h3, h4, h5, h6.ext hle.ext, fun a ha hs hf => ?_, fun _ j hj => .inr ⟨by rw [h1]; rfl, rfl, by rw [← hus]; exact hj⟩⟩
     rcases hf with hf | ⟨_, _, hf⟩
     ·exact h7 a ha (.inl rfl) hf
     ·rcases hs with hs | hs
      ·cases hs
      ·omega
   have U : Upd c c' b := {
    lt := by simpa [c'] using hb
    len := fun b' hb' _ => by simpa [c'] using hb'
    oth := fun b' hb' hne => ⟨by rw [hg' b', if_neg hne], rfl⟩
    heap := fun i hi _ => rfl
    size := Nat.le_refl _
    os := rfl, tape := rfl, output := rfl
    fr := fun a ha => ha.imp id fun h => .inr ⟨hb, by rw [hg]; rfl, h.1⟩
    frin := fun a ha => by
     rcases ha with ha | ⟨ha, _⟩
     ·exact H.frin a ha
     ·exact BRep.lt (c := c) ha (x := .lst e t l ver false) rfl ⟨A, cap, h1, h2⟩
    new := by rw [hg' b, if_pos rfl]; exact hnew
    at_ := fun B _ hB => .inr ⟨hb, by rw [hg]; rfl, hB⟩ }
   exact ⟨c', rfl, rfl, rfl, U.hrep H hle, U.stp hle, lst_fz hnew⟩
theorem fst_bounds {P : Program} {w : World} {k : IntKind} {i : Int} {n : Nat} {code : BoundsCode} (h0 : 0 ≤ i) (h1 : i ≤ n) : (Instr.sliceBound (.int k i) n code).run P w = .ok i.toNat w := by
 simp [Instr.sliceBound, asIntOf, h0, h1]
theorem bound_rep {c : Cx} {st : St} {a : Act} (hr : RepL c st.tmps a.tmps.toList) {o : Option Operand} {d n : Int} (h : bound st o d = some n) :
 (o = none ∧ n = d) ∨ ∃ x k, o = some x ∧ a.eval x = .int k n := by
 unfold bound at h
 split at h
 ·cases h; exact .inl ⟨rfl, rfl⟩
 ·rename_i x
  split at h
  ·rename_i k m hx
   cases h
   have := opd_rep hr x
   rw [hx] at this
   simp only [Rep] at this
   exact .inr ⟨x, k, rfl, this⟩
  ·cases h
theorem bounds_run {P : Program} {w : World} {a : Act} {lo hi : Option Operand} {l h : Int} {n k : Nat} (s : Bool)
 (hl : (lo = none ∧ l = 0) ∨ ∃ x k, lo = some x ∧ a.eval x = .int k l) (hh : (hi = none ∧ h = n) ∨ ∃ x k, hi = some x ∧ a.eval x = .int k h)
 (hb : 0 ≤ l ∧ l ≤ h ∧ h ≤ n) (hk : n ≤ k) :
 (Instr.sliceBounds s n k (lo.map a.eval) (hi.map a.eval) none).run P w = .ok (l.toNat, h.toNat, k) w := by
 obtain ⟨h1, h2, h3⟩ := hb
 have hh2 : h ≤ k := by omega
 have hl2 : l ≤ (h.toNat : Int) := by omega
 have hh0 : 0 ≤ h := by omega
 rcases hl with ⟨rfl, rfl⟩ | ⟨x, kx, rfl, hx⟩ <;> rcases hh with ⟨rfl, rfl⟩ | ⟨y, ky, rfl, hy⟩
 ·simp [Instr.sliceBounds]
 ·simp [Instr.sliceBounds, hy, fst_bounds hh0 hh2]
 ·simp only [Int.toNat_natCast] at hl2
  simp [Instr.sliceBounds, hx, fst_bounds h1 hl2]
 ·simp [Instr.sliceBounds, hy, hx, fst_bounds hh0 hh2, fst_bounds h1 hl2]
theorem cut_rep {w : World} {fr : Addr → Prop} {t : Ty} {l : List t.den} {A : Option Addr} {k : Nat} {i j : Nat} (h : RepT w fr (.list t) l [.slice A l.length k]) (hij : i ≤ j) (hj : j ≤ l.length) :
 RepT w fr (.list t) ((l.take j).drop i) [.slice (if k = i then A else A.map (·.add (i * t.size))) (j - i) (k - i)] := by
 obtain ⟨A', k', h1, h2, h3⟩ := h
 cases h1
 have hlen : ((l.take j).drop i).length = j - i := by simp; omega
 refine ⟨_, _, by rw [hlen], by rw [hlen]; omega, fun hne => ?_⟩
 have hi : i < j := by
  rcases Nat.lt_or_ge i j with h | h
  ·exact h
  ·exact absurd (List.length_eq_zero_iff.1 (by rw [hlen]; omega)) hne
 obtain ⟨a, rfl, h4⟩ := h3 (fun e => by simp [e] at hj; omega)
 rw [if_neg (by omega)]
 refine ⟨_, rfl, fun m x hx => ?_⟩
 have hm : l[i + m]? = some x := by
  rw [List.getElem?_drop, List.getElem?_take] at hx
  split at hx
  ·exact hx
  ·cases hx
 obtain ⟨us, h5, h6⟩ := h4 _ x hm
 refine ⟨us, h5, ?_⟩
 rw [add_add, show i * t.size + m * t.size = (i + m) * t.size by rw [Nat.add_mul]]
 exact h6
theorem run_slice_string {P : Program} {w : World} {t : TypeId} {s : ByteArray} {x : Value} {lo hi : Option Value} {l h k : Nat} (ht : P.underlying t = some .string) (hx : x = .string s)
 (hb : (Instr.sliceBounds false s.size s.size lo hi none).run P w = .ok (l, h, k) w) : (Instr.sliceAt t x lo hi none).run P w = .ok (.string (s.extract l h)) w := by
 subst hx
 simp [Instr.sliceAt, Instr.slice, run_underlying ht, hb]
theorem run_slice_slice {P : Program} {w : World} {t e : TypeId} {A : Option Addr} {n k : Nat} {lo hi : Option Value} {l h sz : Nat} (ht : P.underlying t = some (.slice e)) (hs : szOf P e = some sz)
 (hb : (Instr.sliceBounds true n k lo hi none).run P w = .ok (l, h, k) w) : (Instr.sliceAt t (.slice A n k) lo hi none).run P w = .ok (.slice (if k = l then A else A.map (·.add (l * sz))) (h - l) (k - l)) w := by
 simp [Instr.sliceAt, Instr.slice, run_underlying ht, hb, szOf_run w hs]
theorem seal_arr {c : Cx} (H : HRep c) {b : Nat} {ty n : TypeId} {t : Ty} {l : List t.den} {s : Bool} (hg : getB c.hp b = .arr ty n t l s) (hb : b < c.hp.length) :
 ∃ c', c'.w = c.w ∧ c'.hp = c.hp.set b (.arr ty n t l true) ∧ c'.cv = c.cv ∧ HRep c' ∧ Stp c c' ∧ BRep c' b (.arr ty n t l true) := by
 have hB := H.blk b hb
 rw [hg] at hB
 cases s with
 | true => exact ⟨c, rfl, (set_same hg hb).symm, rfl, H, Stp.refl c, hB⟩
 | false =>
   have hB' := hB
   obtain ⟨B, us, h1, h2, h3, h4, h5, h6⟩ := hB
   let c' : Cx := { c with hp := c.hp.set b (.arr ty n t l true), fr := fun a => c.fr a ∨ (cb (c.cv b) a.block ∧ a.spot = none ∧ a.off < us.length) }
   have hg' : ∀ b', getB c'.hp b' = if b' = b then .arr ty n t l true else getB c.hp b' := fun b' => getB_set _ hb
   have hle : HpLe c c' := by
    refine ⟨by simp [c'], fun b' hb' => ?_, fun a ha => ⟨.inl ha, rfl⟩, rfl, rfl⟩
    rw [hg' b']
    by_cases e' : b' = b
    ·subst e'
     rw [if_pos rfl, hg]
     exact ⟨rfl, rfl, rfl, rfl, rfl⟩
    ·rw [if_neg e']; exact BLe.refl _ _
   have hnew : BRep c' b (.arr ty n t l true) :=
    ⟨B, us, h1, h2, h3.ext hle.ext, h4, (fun e => by cases e), fun _ j hj => .inr ⟨by rw [h1]; rfl, rfl, hj⟩⟩
   have U : Upd c c' b := {
    lt := by simpa [c'] using hb
    len := fun b' hb' _ => by simpa [c'] using hb'
    oth := fun b' hb' hne => ⟨by rw [hg' b', if_neg hne], rfl⟩
    heap := fun i hi _ => rfl
    size := Nat.le_refl _
    os := rfl, tape := rfl, output := rfl
    fr := fun a ha => ha.imp id fun h => .inr ⟨hb, by rw [hg]; rfl, h.1⟩
    frin := fun a ha => by
     rcases ha with ha | ⟨ha, _⟩
     ·exact H.frin a ha
     ·exact BRep.lt (c := c) ha (x := .arr ty n t l false) rfl hB'
    new := by rw [hg' b, if_pos rfl]; exact hnew
    at_ := fun B _ hB => .inr ⟨hb, by rw [hg]; rfl, hB⟩ }
   exact ⟨c', rfl, rfl, rfl, U.hrep H hle, U.stp hle, hnew⟩
theorem sliceW_out {P : Program} {q : Bool} {c : Cx} {st : St} {a : Act} (hr : RepL c st.tmps a.tmps.toList) (hhp : c.hp = st.hp) (H : HRep c) {tt : TypeId} {x : D} {u : Value} (hx : Rep c x u) {lo hi mx : Option Operand} {K : D → List Blk → Prop}
 (h : sliceW P q st tt x lo hi mx K) : ∃ v, (Instr.sliceAt tt u (lo.map a.eval) (hi.map a.eval) (mx.map a.eval)).run P c.w = .ok v c.w ∧ Out q c K v c.w := by
 unfold sliceW at h
 rw [← hhp] at h
 split at h
 ·rename_i s ht
  simp only [Rep] at hx; subst hx
  split at h
  ·rename_i l hh hl hh'
   obtain ⟨hb, h⟩ := h
   refine ⟨_, run_slice_string ht rfl (bounds_run false (bound_rep hr hl) (bound_rep hr hh') hb (Nat.le_refl _)), Out.same H h (Rep_v _ _)⟩
  ·exact h.elim
 ·rename_i e t l ht
  split at h
  ·rename_i lo' hi' hl hh
   split at h
   ·rename_i hs
    obtain ⟨hb, h⟩ := h
    have hx' := hx
    simp only [Rep] at hx
    obtain ⟨A, k, h1, h2, h3⟩ := hx
    cases h1
    obtain ⟨b1, b2, b3⟩ := hb
    refine ⟨_, run_slice_slice ht hs (bounds_run true (bound_rep hr hl) (bound_rep hr hh) ⟨b1, b2, b3⟩ h2), Out.same H h ?_⟩
    simp only [Rep] at hx' ⊢
    exact cut_rep hx' (by omega) (by omega)
   ·exact h.elim
  ·exact h.elim
 ·rename_i e' b ver ht
  simp only [Rep] at hx
  obtain ⟨hb0, _, hx⟩ := hx
  split at h
  ·rename_i e t l ver' s hg
   rw [hg] at hx
   split at h
   ·rename_i lo' hi' hl hh
    split at h
    ·rename_i hs
     obtain ⟨hv, hs⟩ := hs
     obtain ⟨hb, h⟩ := h
     have hu := hx.2 hv
     obtain ⟨b1, b2, b3⟩ := hb
     have key : ∀ c' : Cx, c'.w = c.w → Rep c' (.fz t l) u → ∃ v, (Instr.sliceAt tt u (lo.map a.eval) (hi.map a.eval) none).run P c.w = .ok v c.w ∧ Rep c' (.fz t ((l.take hi'.toNat).drop lo'.toNat)) v := by
      intro c' hw hx'
      have hx2 := hx'
      simp only [Rep] at hx'
      obtain ⟨A, k, h1, h2, h3⟩ := hx'
      cases h1
      refine ⟨_, run_slice_slice ht hs (bounds_run true (bound_rep hr hl) (bound_rep hr hh) ⟨b1, b2, b3⟩ h2), ?_⟩
      simp only [Rep] at hx2 ⊢
      exact cut_rep hx2 (by omega) (by omega)
     have hblk := H.blk b hb0
     rw [hg] at hblk
     split at h
     ·obtain ⟨v, hr1, hr2⟩ := key c rfl (by rw [hu]; exact lst_fz hblk)
      exact ⟨v, hr1, Out.same H h hr2⟩
     ·exact h.elim
     ·obtain ⟨c', e1, e2, e3, H', S', R'⟩ := seal_lst H hg hb0
      obtain ⟨v, hr1, hr2⟩ := key c' e1 (by rw [hu]; exact R')
      exact ⟨v, hr1, _, c', e1, by rw [e2, hv]; exact h, hr2, H', S', fun e => by cases e⟩
    ·exact h.elim
   ·exact h.elim
  ·exact h.elim
 ·rename_i n' e b m ht
  split at h
  ·rename_i ty n t l s y hg
   split at h
   ·rename_i lo' ky hi' km m' hl hh hm
    split at h
    ·rename_i hs
     obtain ⟨rfl, hs⟩ := hs
     obtain ⟨⟨b1, b2, b3⟩, b4, h⟩ := h
     have hb0 : b < c.hp.length := getB_lt (by rw [hg]; simp)
     obtain ⟨c', e1, e2, e3, H', S', R'⟩ := seal_arr H hg hb0
     simp only [Rep] at hx
     obtain ⟨_, _, p, hp, rfl⟩ := hx
     obtain ⟨B, us, g1, g2, g3, g4, g5, g6⟩ := R'
     rw [← e3, g1] at hp
     cases hp
     have hme := opd_rep hr m
     rw [hm] at hme
     simp only [Rep] at hme
     have hye := opd_rep hr y
     rw [hh] at hye
     simp only [Rep] at hye
     have hrun : (Instr.sliceBounds false n' n' (lo.map a.eval) (some (a.eval y)) (some (a.eval m))).run P c.w = .ok (lo'.toNat, hi'.toNat, m'.toNat) c.w := by
      have m0 : 0 ≤ m' := by omega
      have hl2 : lo' ≤ (hi'.toNat : Int) := by omega
      have hh2 : hi' ≤ (m'.toNat : Int) := by omega
      have hh0 : 0 ≤ hi' := by omega
      rcases bound_rep hr hl with ⟨rfl, rfl⟩ | ⟨x, kx, rfl, hx⟩
      ·simp [Instr.sliceBounds, hme, hye, fst_bounds m0 b4, fst_bounds hh0 hh2]
      ·simp [Instr.sliceBounds, hme, hye, hx, fst_bounds m0 b4, fst_bounds hh0 hh2, fst_bounds b1 hl2]
     refine ⟨.slice (some (if m'.toNat = lo'.toNat then (⟨B, 0, none⟩ : Addr) else (⟨B, 0, none⟩ : Addr).add (lo'.toNat * t.size))) (hi'.toNat - lo'.toNat) (m'.toNat - lo'.toNat), ?_, _, c', e1, by rw [e2]; exact h, ?_, H', S', fun e => by cases e⟩
     ·simp [Instr.sliceAt, run_underlying ht, Instr.sureAddr, add_zero, hrun, szOf_run _ hs]
     ·simp only [Rep]
      have hlen : ((l.take hi'.toNat).drop lo'.toNat).length = hi'.toNat - lo'.toNat := by simp; omega
      refine ⟨_, _, by rw [hlen], by rw [hlen]; omega, fun hne => ?_⟩
      have hi0 : lo'.toNat < hi'.toNat := by
       rcases Nat.lt_or_ge lo'.toNat hi'.toNat with h | h
       ·exact h
       ·exact absurd (List.length_eq_zero_iff.1 (by rw [hlen]; omega)) hne
      rw [if_neg (by omega)]
      refine ⟨_, rfl, fun i x hx => ?_⟩
      have hx' : l[lo'.toNat + i]? = some x := by
       rw [List.getElem?_drop, List.getElem?_take] at hx
       split at hx
       ·exact hx
       ·cases hx
      obtain ⟨u, hu, hg'⟩ := RepA.get g3 hx'
      refine ⟨u, hu, fun j v hj => ?_⟩
      have hlt := (List.getElem?_eq_some_iff.1 (hg' j v hj)).1
      rw [add_add, add_add, add_plain, show lo'.toNat * t.size + (i * t.size + j) = (lo'.toNat + i) * t.size + j by rw [Nat.add_mul]; omega, cell_row g2]
      exact ⟨g6 rfl _ hlt, hg' j v hj⟩
    ·exact h.elim
   ·exact h.elim
  ·exact h.elim
 ·exact h.elim
theorem run_conv_bytes {P : Program} {w : World} {src dst e : TypeId} {A : Option Addr} {k : Nat} {l : List Int} (hs : P.underlying src = some (.slice e)) (he : P.underlying e = some (.int .u8)) (hd : P.underlying dst = some .string)
 (h : l ≠ [] → ∃ a, A = some a ∧ ∀ (i : Nat) (x : Int), l[i]? = some x → w.cell? (a.add i) = some (.int .u8 x)) : (convert src dst (.slice A l.length k)).run P w = .ok (.string (bytesOf l)) w := by
 cases l with
 | nil =>
   cases A with
   | none => exact run_convert_bytes_nil w src e hs he 0 k dst hd
   | some a =>
     rw [List.length_nil, run_convert_bytes_string w src dst e _ 0 k hs he hd, run_bytesToString w a 0 k [] (by simp [loadCells, loadCellsFrom])]
     rfl
 | cons y l =>
   obtain ⟨a, rfl, h'⟩ := h (by simp)
   have hl : (loadCells a (y :: l).length).run P w = .ok ((y :: l).map (Value.int .u8)).toArray w := by
    have := run_loadCells_list (P := P) w a ((y :: l).map (Value.int .u8)) (fun j v hj => by
     rw [List.getElem?_map] at hj
     cases hx : (y :: l)[j]? with
     | none => rw [hx] at hj; cases hj
     | some x =>
       rw [hx] at hj; cases hj
       exact h' j x hx)
    simpa using this
   rw [run_convert_bytes_string w src dst e _ _ k hs he hd, run_bytesToString w a _ k (y :: l) hl, foldl_push_bytes]
   simp [bytesOf, ByteArray.empty, ByteArray.emptyWithCapacity]
   try rfl
theorem convW_run {P : Program} {c : Cx} {src dst : TypeId} {x : D} {K : D → Prop} {u : Value} (h : convW P c.hp src dst x K) (hx : Rep c x u) (H : HRep c) :
 ∃ d v, K d ∧ Rep c d v ∧ (convert src dst u).run P c.w = .ok v c.w := by
 unfold convW at h
 split at h
 ·rename_i ds k kk n hs hd
  simp only [Rep] at hx; subst hx
  refine ⟨_, _, h, Rep_v _ _, ?_⟩
  have hs' : P.underlying src = some ds := hs
  have hd' : P.underlying dst = some (.int k) := hd
  simp [convert, run_underlying hs', run_underlying hd', Conv.intToInt]
 ·rename_i ds s hs hd
  simp only [Rep] at hx; subst hx
  refine ⟨_, _, h, Rep_v _ _, ?_⟩
  have hs' : P.underlying src = some ds := hs
  have hd' : P.underlying dst = some .string := hd
  simp [convert, run_underlying hs', run_underlying hd']
 ·rename_i e l hs hd
  split at h
  ·rename_i he
   simp only [Rep] at hx
   obtain ⟨A, k, h1, h2, h3⟩ := hx
   cases h1
   refine ⟨_, _, h, Rep_v _ _, run_conv_bytes hs he hd fun hne => ?_⟩
   obtain ⟨a, rfl, h4⟩ := h3 hne
   refine ⟨a, rfl, fun i x hx => ?_⟩
   obtain ⟨us, h5, h6⟩ := h4 i x hx
   cases h5
   have := (h6 0 _ rfl).2
   simpa [Ty.size, add_zero] using this
  ·exact h.elim
 ·rename_i e b ver hs hd
  simp only [Rep] at hx
  obtain ⟨hb0, _, hx⟩ := hx
  split at h
  ·rename_i e' l ver' s hg
   rw [hg] at hx
   split at h
   ·rename_i he
    split at h
    ·rename_i hv
     have hB := H.blk b hb0
     rw [hg] at hB
     have hu := hx.2 hv
     obtain ⟨A, cap, h1, h2⟩ := hB
     rw [h1] at hu; subst hu
     refine ⟨_, _, h, Rep_v _ _, run_conv_bytes hs he hd fun hne => ?_⟩
     rcases h2 with ⟨rfl, rfl, rfl⟩ | ⟨B, us, vs, rfl, h3, h4, h5, h6, h7, h8⟩
     ·exact absurd rfl hne
     ·refine ⟨_, rfl, fun i x hx => ?_⟩
      obtain ⟨w', hw', hg'⟩ := RepA.get h6 hx
      cases hw'
      have := hg' 0 _ rfl
      simp only [Ty.size, Nat.mul_one, Nat.add_zero] at this
      rw [add_plain, cell_row h3, List.getElem?_append_left (List.getElem?_eq_some_iff.1 this).1]
      exact this
    ·exact h.elim
   ·exact h.elim
  ·exact h.elim
 ·exact h.elim
theorem lenOf_run {P : Program} {c : Cx} {x : D} {n : Int} {u : Value} {t : TypeId} (ts : Array TypeId) (ht : ts[0]? = some t) (ty : TypeId) (h : lenOfD c.hp (und P t) x = some n) (hx : Rep c x u) (H : HRep c) :
 (Builtin.len_ ts ty #[u]).run P c.w = .ok (.int .i64 n) c.w := by
 have sl : ∀ {e : TypeId} {A : Option Addr} {m k : Nat}, und P t = some (.slice e) → (Builtin.len_ ts ty #[.slice A m k]).run P c.w = .ok (.int .i64 m) c.w := by
  intro e A m k he
  have he' : P.underlying t = some (.slice e) := he
  simp [Builtin.len_, ht, run_underlying he', goInt]
 unfold lenOfD at h
 split at h
 ·rename_i s hu
  cases h
  simp only [Rep] at hx; subst hx
  have ht' : P.underlying t = some .string := hu
  simp [Builtin.len_, ht, run_underlying ht', goInt]
 ·rename_i hu
  cases h
  simp only [Rep] at hx; subst hx
  exact sl hu
 ·rename_i t' l hu
  cases h
  simp only [Rep] at hx
  obtain ⟨A, k, h1, h2, h3⟩ := hx
  cases h1
  exact sl hu
 ·rename_i e b ver hu
  simp only [Rep] at hx
  obtain ⟨hb0, _, hx⟩ := hx
  split at h
  ·rename_i e' t' l ver' s hg
   rw [hg] at hx
   split at h
   ·rename_i hv
    cases h
    have hB := H.blk b hb0
    rw [hg] at hB
    have hu' := hx.2 hv
    obtain ⟨A, cap, h1, h2⟩ := hB
    rw [h1] at hu'; subst hu'
    exact sl hu
   ·cases h
  ·cases h
 ·cases h
theorem indexAddr_run {P : Program} {w : World} {t e : TypeId} {a : Addr} {n k : Nat} {kd : IntKind} {i : Int} {m : Nat} (ht : und P t = some (.slice e)) (hs : szOf P e = some m) (h0 : 0 ≤ i) (h1 : i < n) :
 (Instr.indexAt t (.slice (some a) n k) (.int kd i)).run P w = .ok (.pointer (some (a.add (i.toNat * m)))) w := by
 have ht' : P.underlying t = some (.slice e) := ht
 simp [Instr.indexAt, asIntOf, run_underlying ht', h0, h1, szOf_run w hs]
theorem indexArr_run {P : Program} {w : World} {t e : TypeId} {a : Addr} {n : Nat} {kd : IntKind} {i : Int} {m : Nat} (ht : und P t = some (.array n e)) (hs : szOf P e = some m) (h0 : 0 ≤ i) (h1 : i < n) :
 (Instr.indexAt t (.pointer (some a)) (.int kd i)).run P w = .ok (.pointer (some (a.add (i.toNat * m)))) w := by
 have ht' : P.underlying t = some (.array n e) := ht
 simp [Instr.indexAt, asIntOf, run_underlying ht', h0, h1, szOf_run w hs, Instr.sureAddr]
theorem idxBr_elim {i : Int} {K : Nat → Prop} : ∀ {n j : Nat}, idxBr i K n j → ∃ m : Nat, i = m ∧ j ≤ m ∧ m < j + n ∧ K m
 | 0, j, h => h.elim
 | n + 1, j, h => by
   rcases br_elim h with ⟨h1, h2⟩ | ⟨h1, h2⟩
   ·exact ⟨j, by simpa using h1, Nat.le_refl _, by omega, h2⟩
   ·obtain ⟨m, h3, h4, h5, h6⟩ := idxBr_elim h2
    exact ⟨m, h3, by omega, by omega, h6⟩
theorem fieldOff_spec {P : Program} {s : TypeId} {f off : Nat} {ft : TypeId} (h : fieldOff P s f = some (off, ft)) : ∃ fs x, P.underlying s = some (.struct fs) ∧ fs[f]? = some x ∧ x.offset = off ∧ x.type = ft := by
 unfold fieldOff und at h
 split at h
 ·rename_i fs hu
  cases hx : fs[f]? with
  | none => rw [hx] at h; cases h
  | some x =>
    rw [hx] at h
    cases h
    exact ⟨fs, x, hu, hx, rfl, rfl⟩
 ·cases h
theorem fieldAt_run {P : Program} {w : World} {s : TypeId} {f off n : Nat} {ft : TypeId} {a : Addr} (h : fieldOff P s f = some (off, ft)) (hn : szOf P ft = some n) (h0 : n ≠ 0) :
 (Instr.fieldAt s (.pointer (some a)) f).run P w = .ok (.pointer (some (a.add off))) w := by
 obtain ⟨fs, x, h1, h2, rfl, rfl⟩ := fieldOff_spec h
 simp [Instr.fieldAt, run_underlying h1, h2, Instr.sureAddr, fieldPlace, szOf_run w hn, h0]
theorem cell_of_heap {w w' : World} {a : Addr} (h : w'.heap[a.block]? = w.heap[a.block]?) : w'.cell? a = w.cell? a := by simp [World.cell?, h]
theorem mk_obj {c : Cx} (H : HRep c) (blk : Blk) (ob : Obj) (u : Value) (w' : World) (hw : w'.heap = c.w.heap.push ob) (hos : w'.os = c.w.os) (htape : w'.tape = c.w.tape) (hout : w'.output = c.w.output)
 (hcb : ∀ B, cb u B → B = c.w.heap.size)
 (hnew : ∀ c' : Cx, HpLe c c' → c'.cv c.hp.length = u → c'.w.heap[c.w.heap.size]? = some ob → (∀ a, a.block = c.w.heap.size → ¬ c'.fr a) → BRep c' c.hp.length blk) :
 ∃ c', c'.w = w' ∧ c'.hp = c.hp ++ [blk] ∧ c'.cv c.hp.length = u ∧ HRep c' ∧ Stp c c' := by
 let c' : Cx := { c with w := w', hp := c.hp ++ [blk], cv := fun b => if b = c.hp.length then u else c.cv b }
 have hold : ∀ i, i < c.w.heap.size → w'.heap[i]? = c.w.heap[i]? := fun i hi => by
  rw [hw, Array.getElem?_push, if_neg (by omega)]
 have hle : HpLe c c' := by
  refine ⟨by simp [c'], fun b hb => ?_, fun a ha => ⟨ha, cell_of_heap (hold _ (H.frin a ha))⟩, rfl, rfl⟩
  have h1 : getB c'.hp b = getB c.hp b := by
   show getB (c.hp ++ [blk]) b = _
   rw [getB_app, if_neg (by omega)]
  have h2 : c'.cv b = c.cv b := by
   show (if b = c.hp.length then u else c.cv b) = _
   rw [if_neg (by omega)]
  rw [h1, h2]; exact BLe.refl _ _
 have hn : getB c'.hp c.hp.length = blk := by
  show getB (c.hp ++ [blk]) _ = _
  rw [getB_app, if_pos rfl]
 have hcv : c'.cv c.hp.length = u := by
  show (if _ = _ then u else _) = u
  rw [if_pos rfl]
 have U : Upd c c' c.hp.length := {
  lt := by simp [c']
  len := fun b hb hne => by simp [c'] at hb; omega
  oth := fun b hb hne => by
   refine ⟨?_, ?_⟩
   ·show getB (c.hp ++ [blk]) b = _
    rw [getB_app, if_neg (by omega)]
   ·show (if b = c.hp.length then u else c.cv b) = _
    rw [if_neg (by omega)]
  heap := fun i hi _ => hold i hi
  size := by show c.w.heap.size ≤ w'.heap.size; rw [hw]; simp
  os := hos, tape := htape, output := hout
  fr := fun a ha => .inl ha
  frin := fun a ha => by
   show a.block < w'.heap.size
   rw [hw]; have := H.frin a ha; simp; omega
  new := by
   rw [hn]
   exact hnew c' hle hcv (by show w'.heap[_]? = _; rw [hw]; simp) (fun a ha hf => by have := H.frin a hf; omega)
  at_ := fun B _ hB => by
   rw [hcv] at hB
   exact .inl (by rw [hcb B hB]; exact Nat.le_refl _) }
 exact ⟨c', rfl, rfl, hcv, U.hrep H hle, U.stp hle⟩
theorem mk_blk {c : Cx} (H : HRep c) (blk : Blk) (cells : Array Value) (ty : TypeId) (u : Value) (w' : World) (hw : w'.heap = c.w.heap.push (.cells cells ty)) (hos : w'.os = c.w.os) (htape : w'.tape = c.w.tape) (hout : w'.output = c.w.output)
 (hcb : ∀ B, cb u B → B = c.w.heap.size)
 (hnew : ∀ c' : Cx, HpLe c c' → c'.cv c.hp.length = u → c'.w.heap[c.w.heap.size]? = some (.cells cells ty (0, 0)) → (∀ a, a.block = c.w.heap.size → ¬ c'.fr a) → BRep c' c.hp.length blk) :
 ∃ c', c'.w = w' ∧ c'.hp = c.hp ++ [blk] ∧ c'.cv c.hp.length = u ∧ HRep c' ∧ Stp c c' := mk_obj H blk (.cells cells ty) u w' hw hos htape hout hcb hnew
theorem set_blkF {c : Cx} (H : HRep c) {b : Nat} (hb : b < c.hp.length) (hlive : live (getB c.hp b) = true) (blk' : Blk) (u' : Value) (w' : World) (F : Addr → Prop) (hle0 : BLe (c.cv b) u' (getB c.hp b) blk')
 (hos : w'.os = c.w.os) (htape : w'.tape = c.w.tape) (hout : w'.output = c.w.output) (hsize : c.w.heap.size ≤ w'.heap.size)
 (hheap : ∀ i, i < c.w.heap.size → ¬ cb (c.cv b) i → w'.heap[i]? = c.w.heap[i]?) (hcells : ∀ a, c.fr a → cb (c.cv b) a.block → w'.cell? a = c.w.cell? a)
 (hF : ∀ a, F a → (c.w.heap.size ≤ a.block ∧ a.block < w'.heap.size) ∨ cb (c.cv b) a.block)
 (hcb : ∀ B, live blk' = true → cb u' B → c.w.heap.size ≤ B ∨ cb (c.cv b) B)
 (hnew : ∀ c' : Cx, HpLe c c' → c'.w = w' → (∀ a, c'.fr a ↔ c.fr a ∨ F a) → c'.cv b = u' → BRep c' b blk') :
 ∃ c', c'.w = w' ∧ c'.hp = c.hp.set b blk' ∧ c'.cv b = u' ∧ HRep c' ∧ Stp c c' ∧ BRep c' b blk' := by
 let c' : Cx := { c with w := w', hp := c.hp.set b blk', cv := fun b' => if b' = b then u' else c.cv b', fr := fun a => c.fr a ∨ F a }
 have hg' : ∀ b', getB c'.hp b' = if b' = b then blk' else getB c.hp b' := fun b' => getB_set _ hb
 have hcv : ∀ b', c'.cv b' = if b' = b then u' else c.cv b' := fun _ => rfl
 have hle : HpLe c c' := by
  refine ⟨by simp [c'], fun b' hb' => ?_, fun a ha => ⟨.inl ha, ?_⟩, rfl, rfl⟩
  ·rw [hg' b', hcv b']
   by_cases e : b' = b
   ·subst e; simpa using hle0
   ·rw [if_neg e, if_neg e]; exact BLe.refl _ _
  ·by_cases e : cb (c.cv b) a.block
   ·exact hcells a ha e
   ·exact cell_of_heap (hheap _ (H.frin a ha) e)
 have hn := hnew c' hle rfl (fun _ => Iff.rfl) (by rw [hcv b, if_pos rfl])
 have U : Upd c c' b := {
  lt := by simpa [c'] using hb
  len := fun b' hb' _ => by simpa [c'] using hb'
  oth := fun b' hb' hne => ⟨by rw [hg' b', if_neg hne], by rw [hcv b', if_neg hne]⟩
  heap := fun i hi h => hheap i hi (h hb hlive)
  size := hsize
  os := hos, tape := htape, output := hout
  fr := fun a ha => by
   rcases ha with ha | ha
   ·exact .inl ha
   ·rcases hF a ha with h | h
    ·exact .inr (.inl h.1)
    ·exact .inr (.inr ⟨hb, hlive, h⟩)
  frin := fun a ha => by
   rcases ha with ha | ha
   ·exact Nat.lt_of_lt_of_le (H.frin a ha) hsize
   ·rcases hF a ha with h | h
    ·exact h.2
    ·exact Nat.lt_of_lt_of_le (BRep.lt h hlive (H.blk b hb)) hsize
  new := by rw [hg' b, if_pos rfl]; exact hn
  at_ := fun B hl hB => by
   rw [hg' b, if_pos rfl] at hl
   rw [hcv b, if_pos rfl] at hB
   rcases hcb B hl hB with h | h
   ·exact .inl h
   ·exact .inr ⟨hb, hlive, h⟩ }
 exact ⟨c', rfl, rfl, by rw [hcv b, if_pos rfl], U.hrep H hle, U.stp hle, hn⟩
theorem set_blk {c : Cx} (H : HRep c) {b : Nat} (hb : b < c.hp.length) (hlive : live (getB c.hp b) = true) (blk' : Blk) (u' : Value) (w' : World) (hle0 : BLe (c.cv b) u' (getB c.hp b) blk')
 (hos : w'.os = c.w.os) (htape : w'.tape = c.w.tape) (hout : w'.output = c.w.output) (hsize : c.w.heap.size ≤ w'.heap.size)
 (hheap : ∀ i, i < c.w.heap.size → ¬ cb (c.cv b) i → w'.heap[i]? = c.w.heap[i]?) (hcells : ∀ a, c.fr a → cb (c.cv b) a.block → w'.cell? a = c.w.cell? a)
 (hcb : ∀ B, live blk' = true → cb u' B → c.w.heap.size ≤ B ∨ cb (c.cv b) B)
 (hnew : ∀ c' : Cx, HpLe c c' → c'.w = w' → c'.fr = c.fr → c'.cv b = u' → BRep c' b blk') :
 ∃ c', c'.w = w' ∧ c'.hp = c.hp.set b blk' ∧ c'.cv b = u' ∧ HRep c' ∧ Stp c c' := by
 obtain ⟨c', h1, h2, h3, h4, h5, _⟩ := set_blkF H hb hlive blk' u' w' (fun _ => False) hle0 hos htape hout hsize hheap hcells (fun _ h => h.elim) hcb
  (fun c' hl hw hfr hcv => hnew c' hl hw (funext fun a => propext ((hfr a).trans (by simp))) hcv)
 exact ⟨c', h1, h2, h3, h4, h5⟩
theorem mk_box {c : Cx} (H : HRep c) (ty : TypeId) {cs : List D} {us : List Value} (h : RepL c cs us) :
 ∃ c', c'.w = c.w.alloc (.cells us.toArray ty) ∧ c'.hp = c.hp ++ [.box ty cs] ∧ HRep c' ∧ Stp c c' ∧ Rep c' (.ptr c.hp.length 0) (.pointer (some ⟨c.w.heap.size, 0, none⟩)) := by
 obtain ⟨c', e1, e2, e3, H', S'⟩ := mk_blk H (.box ty cs) us.toArray ty (.pointer (some ⟨c.w.heap.size, 0, none⟩)) (c.w.alloc (.cells us.toArray ty)) rfl rfl rfl rfl (fun B hB => by cases hB; rfl)
  (fun c' hl hcv hh hf => ⟨_, us, hcv, hh, h.mono hl, hf⟩)
 refine ⟨c', e1, e2, H', S', ?_⟩
 simp only [Rep]
 rw [e2, getB_app, if_pos rfl]
 exact ⟨by simp, rfl, _, by rw [e3]; rfl, by simp [Addr.add]⟩
theorem mk_bld {c : Cx} (H : HRep c) (ty e : TypeId) :
 ∃ c', c'.w = c.w.alloc (.cells #[.pointer none, .slice none 0 0] ty) ∧ c'.hp = c.hp ++ [.bld ty e ByteArray.empty] ∧ HRep c' ∧ Stp c c' ∧ Rep c' (.ptr c.hp.length 0) (.pointer (some ⟨c.w.heap.size, 0, none⟩)) := by
 obtain ⟨c', e1, e2, e3, H', S'⟩ := mk_blk H (.bld ty e ByteArray.empty) #[.pointer none, .slice none 0 0] ty (.iface 0 (.pointer (some ⟨c.w.heap.size, 0, none⟩))) (c.w.alloc (.cells #[.pointer none, .slice none 0 0] ty)) rfl rfl rfl rfl
  (fun B hB => by
    rcases hB with hB | hB
    ·exact (show c.w.heap.size = B from hB).symm
    ·exact absurd (show (0 : Nat) = B + 1 from hB) (by omega))
  (fun c' hl hcv hh hf => ⟨_, 0, _, none, 0, hcv, hh, hf, .inl ⟨rfl, rfl⟩, .inl ⟨rfl, rfl, rfl, rfl⟩⟩)
 refine ⟨c', e1, e2, H', S', ?_⟩
 simp only [Rep]
 rw [e2, getB_app, if_pos rfl]
 exact ⟨by simp, rfl, _, by rw [e3]; rfl, by simp [Addr.add]⟩
theorem mk_arr {c : Cx} (H : HRep c) (ty n : TypeId) {t : Ty} {l : List t.den} {us : List Value} (h : RepA c.w c.fr t l us) (hn : l.length = n) :
 ∃ c', c'.w = c.w.alloc (.cells us.toArray ty) ∧ c'.hp = c.hp ++ [.arr ty n t l false] ∧ HRep c' ∧ Stp c c' ∧ Rep c' (.ptr c.hp.length 0) (.pointer (some ⟨c.w.heap.size, 0, none⟩)) := by
 obtain ⟨c', e1, e2, e3, H', S'⟩ := mk_blk H (.arr ty n t l false) us.toArray ty (.pointer (some ⟨c.w.heap.size, 0, none⟩)) (c.w.alloc (.cells us.toArray ty)) rfl rfl rfl rfl (fun B hB => by cases hB; rfl)
  (fun c' hl hcv hh hf => ⟨_, us, hcv, hh, h.ext hl.ext, hn, fun _ => hf, fun e => by cases e⟩)
 refine ⟨c', e1, e2, H', S', ?_⟩
 simp only [Rep]
 rw [e2, getB_app, if_pos rfl]
 exact ⟨by simp, rfl, _, by rw [e3]; rfl, by simp [Addr.add]⟩
theorem mk_lst {c : Cx} (H : HRep c) (e : TypeId) {t : Ty} {l : List t.den} {us vs : List Value} {cap : Nat} (w' : World) (hw : w'.heap = c.w.heap.push (.cells (us ++ vs).toArray e)) (hos : w'.os = c.w.os) (htape : w'.tape = c.w.tape) (hout : w'.output = c.w.output)
 (h : RepA c.w c.fr t l us) (hcap : l.length ≤ cap) (hlen : us.length + vs.length = cap * t.size) (hmax : cap ≤ maxLen) :
 ∃ c', c'.w = w' ∧ c'.hp = c.hp ++ [.lst e t l 0 false] ∧ HRep c' ∧ Stp c c' ∧ Rep c' (.sl c.hp.length 0) (.slice (some ⟨c.w.heap.size, 0, none⟩) l.length cap) := by
 obtain ⟨c', e1, e2, e3, H', S'⟩ := mk_blk H (.lst e t l 0 false) (us ++ vs).toArray e (.slice (some ⟨c.w.heap.size, 0, none⟩) l.length cap) w' hw hos htape hout (fun B hB => by cases hB; rfl)
  (fun c' hl hcv hh hf => ⟨_, cap, hcv, .inr ⟨_, us, vs, rfl, hh, hcap, ⟨hlen, hmax⟩, h.ext hl.ext, fun a ha _ => hf a ha, fun e => by cases e⟩⟩)
 refine ⟨c', e1, e2, H', S', ?_⟩
 simp only [Rep]
 rw [e2, getB_app, if_pos rfl]
 exact ⟨by simp, rfl, Nat.le_refl _, fun _ => e3.symm⟩
theorem mk_itr {c : Cx} (H : HRep c) (s : ByteArray) :
 ∃ c', c'.w = c.w.alloc (.stringIter s 0) ∧ c'.hp = c.hp ++ [.itr s 0] ∧ HRep c' ∧ Stp c c' ∧ Rep c' (.ptr c.hp.length 0) (.pointer (some ⟨c.w.heap.size, 0, none⟩)) := by
 obtain ⟨c', e1, e2, e3, H', S'⟩ := mk_obj H (.itr s 0) (.stringIter s 0) (.pointer (some ⟨c.w.heap.size, 0, none⟩)) (c.w.alloc (.stringIter s 0)) rfl rfl rfl rfl (fun B hB => by cases hB; rfl)
  (fun c' hl hcv hh hf => ⟨c.w.heap.size, hcv, hh, hf⟩)
 refine ⟨c', e1, e2, H', S', ?_⟩
 simp only [Rep]
 rw [e2, getB_app, if_pos rfl]
 exact ⟨by simp, rfl, _, by rw [e3]; rfl, by simp [Addr.add]⟩
theorem set_itr {c : Cx} (H : HRep c) {b B : Nat} {s : ByteArray} {pos : Nat} (hb : b < c.hp.length) (hg : getB c.hp b = .itr s pos) (hcv : c.cv b = .pointer (some ⟨B, 0, none⟩)) (hB : c.w.heap[B]? = some (.stringIter s pos)) (hfr : ∀ a, a.block = B → ¬ c.fr a) (pos' : Nat) :
 ∃ c', c'.w = { c.w with heap := c.w.heap.setIfInBounds B (.stringIter s pos') } ∧ c'.hp = c.hp.set b (.itr s pos') ∧ HRep c' ∧ Stp c c' := by
 have hlt := (Array.getElem?_eq_some_iff.1 hB).1
 obtain ⟨c', e1, e2, e3, H', S'⟩ := set_blk H hb (by rw [hg]; rfl) (.itr s pos') (c.cv b) { c.w with heap := c.w.heap.setIfInBounds B (.stringIter s pos') } (by rw [hg]; exact ⟨rfl, rfl⟩) rfl rfl rfl (by simp)
  (fun i hi hne => by
    simp only [Array.getElem?_setIfInBounds]
    rw [if_neg (fun e => hne (by rw [hcv, ← e]; rfl))])
  (fun a ha hc => absurd ha (hfr a (by rw [hcv] at hc; exact hc.symm))) (fun B' _ h => .inr h)
  (fun c' hl hw hf hv => ⟨B, hv.trans hcv, by rw [hw]; simp [hlt], by rw [hf]; exact hfr⟩)
 exact ⟨c', e1, e2, H', S'⟩
theorem one_rep {c : Cx} {d : D} {u : Value} (h : oneD d = true) (hd : Rep c d u) : u.oneCell' = true ∧ u.cells = #[u] := by
 have key : u.oneCell' = true → u.oneCell' = true ∧ u.cells = #[u] := fun h => ⟨h, by cases u <;> first | rfl | cases h⟩
 refine key ?_
 cases d <;> simp only [Rep] at hd
 ·subst hd; cases u <;> first | rfl | cases h
 ·cases h
 ·cases h
 ·obtain ⟨A, k, h1, h2, h3⟩ := hd; cases h1; rfl
 ·exact hd.2.1
 ·obtain ⟨_, _, a, _, rfl⟩ := hd; rfl
 ·exact hd.2.1
 ·obtain ⟨a, us, rfl, _⟩ := hd; rfl
 ·rcases hd.isNil with ⟨_, rfl⟩ | ⟨_, t, v, rfl⟩ <;> rfl
 ·cases h
 ·obtain ⟨us, vs, rfl, _⟩ := hd; rfl
 ·cases h
theorem ones_rep {c : Cx} : ∀ {ds : List D} {us : List Value}, ds.all oneD = true → RepL c ds us → ∀ u ∈ us, u.oneCell' = true
 | [], us, h, hr => by simp only [RepL] at hr; subst hr; simp
 | d :: r, us, h, hr => by
   simp only [RepL] at hr
   obtain ⟨u, us', rfl, hd, hr⟩ := hr
   simp only [List.all_cons, Bool.and_eq_true] at h
   intro v hv
   rcases List.mem_cons.1 hv with rfl | hv
   ·exact (one_rep h.1 hd).1
   ·exact ones_rep h.2 hr v hv
theorem cells_rep {c : Cx} {d : D} {u : Value} (h : d.cells.all oneD = true) (hd : Rep c d u) : RepL c d.cells u.cells.toList := by
 by_cases hone : oneD d = true
 ·rw [(one_rep hone hd).2]
  have : d.cells = [d] := by cases d <;> first | rfl | cases hone
  rw [this]
  simp only [RepL]
  exact ⟨u, [], rfl, hd, rfl⟩
 ·cases d with
  | agg cs =>
    simp only [Rep] at hd
    obtain ⟨us, rfl, hd⟩ := hd
    simpa [D.cells, Value.cells] using hd
  | _ => simp only [D.cells, List.all_cons, List.all_nil, Bool.and_true] at h; exact absurd h hone
def overV (us : List Value) (off : Nat) : List Value → List Value
 | [] => us
 | v :: r => overV (us.set off v) (off + 1) r
theorem RepL_over {c : Cx} : ∀ {xs : List D} {vs : List Value} {cs : List D} {us : List Value} {off : Nat}, RepL c xs vs → RepL c cs us → RepL c (over cs off xs) (overV us off vs)
 | [], vs, cs, us, off, h, h' => by simp only [RepL] at h; subst h; exact h'
 | x :: xs, vs, cs, us, off, h, h' => by
   simp only [RepL] at h
   obtain ⟨v, vs', rfl, hx, h⟩ := h
   show RepL c (over (cs.set off x) (off + 1) xs) (overV (us.set off v) (off + 1) vs')
   exact RepL_over h (RepL_set off h' hx)
theorem overV_eq : ∀ (vs us : List Value) (off : Nat), off + vs.length ≤ us.length → overV us off vs = us.take off ++ vs ++ us.drop (off + vs.length)
 | [], us, off, h => by simp [overV]
 | v :: r, us, off, h => by
   simp only [List.length_cons] at h
   rw [overV, overV_eq r _ _ (by simp; omega)]
   have hset : us.set off v = us.take off ++ v :: us.drop (off + 1) := by
    rw [List.set_eq_take_append_cons_drop, if_pos (by omega)]
   have hl : (us.take off).length = off := by rw [List.length_take]; omega
   have h1 : (us.set off v).take (off + 1) = us.take off ++ [v] := by
    rw [hset, List.take_append, List.take_of_length_le (by omega), hl]
    simp
   have h2 : (us.set off v).drop (off + 1 + r.length) = us.drop (off + (r.length + 1)) := by
    rw [hset, List.drop_append, List.drop_of_length_le (by omega), hl, show off + 1 + r.length - off = r.length + 1 by omega]
    simp only [List.nil_append, List.drop_succ_cons, List.drop_drop]
    congr 1; omega
   rw [h1, h2]
   simp
theorem overV_length (vs us : List Value) (off : Nat) : (overV us off vs).length = us.length := by
 induction vs generalizing us off with
 | nil => rfl
 | cons v r ih => rw [overV, ih]; simp
theorem run_storeVar_at {P : Program} {w : World} {B off n : Nat} {t ty : TypeId} {us : List Value} {v : Value} (hB : w.heap[B]? = some (.cells us.toArray ty (0, 0))) (hn : szOf P t = some n) (hv : v.cells.toList.length = n)
 (hl : off + n ≤ us.length) (h1 : ∀ u ∈ v.cells.toList, u.oneCell' = true) :
 (Instr.storeAt t (.pointer (some ⟨B, off, none⟩)) v).run P w = .ok () (w.setRow B (overV us off v.cells.toList).toArray) := by
 have hs := run_storeCells_at P B off ty v.cells.toList 0 us.toArray w hB (by simp; simp at hv; omega) h1
 have hv' : v.cells.size = n := by simpa using hv
 rw [overV_eq _ _ _ (by rw [hv]; exact hl)]
 simp only [Nat.add_zero] at hs
 simp only [Instr.storeAt, Sem.run_bind, Instr.sureAddr, Sem.run_pure, Result.andThen_ok, storeVar, szOf_run w hn, hv', ne_eq, not_true_eq_false, if_false]
 rw [hs]
theorem RepA_set {w : World} {fr : Addr → Prop} {t : Ty} : ∀ {l : List t.den} {us : List Value} {i : Nat} {y : t.den} {u : List Value}, RepA w fr t l us → i < l.length → RepT w fr t y u →
 RepA w fr t (l.set i y) (us.take (i * t.size) ++ u ++ us.drop ((i + 1) * t.size))
 | [], us, i, y, u, h, hi, hy => by simp at hi
 | x :: l, us, 0, y, u, h, hi, hy => by
   obtain ⟨a, b, rfl, h1, h2⟩ := h
   refine ⟨u, b, ?_, hy, h2⟩
   simp [← h1.length]
 | x :: l, us, i + 1, y, u, h, hi, hy => by
   obtain ⟨a, b, rfl, h1, h2⟩ := h
   refine ⟨a, _, ?_, h1, RepA_set h2 (by simpa using hi) hy⟩
   rw [← h1.length, Nat.succ_mul, Nat.succ_mul, List.take_append, List.drop_append]
   have e1 : i * a.length + a.length - a.length = i * a.length := by omega
   have e2 : (i + 1) * a.length + a.length - a.length = (i + 1) * a.length := by omega
   rw [e1, e2, List.take_of_length_le (by omega), List.drop_of_length_le (by omega)]
   simp [List.append_assoc, Nat.succ_mul]
theorem overV_mid {a b d : List Value} (vs : List Value) (off : Nat) (h : off + vs.length ≤ b.length) : overV (a ++ b ++ d) (a.length + off) vs = a ++ overV b off vs ++ d := by
 rw [overV_eq _ _ _ (by simp; omega), overV_eq _ _ _ h]
 rw [List.append_assoc a b d, List.take_append, List.take_of_length_le (by omega), show a.length + off - a.length = off by omega,
  List.drop_append, List.drop_of_length_le (by omega), show a.length + off + vs.length - a.length = off + vs.length by omega, List.take_append_of_le_length (by omega), List.drop_append_of_le_length h]
 simp [List.append_assoc]
theorem split3 (us : List Value) (p n : Nat) : us = us.take p ++ (us.drop p).take n ++ us.drop (p + n) := by
 rw [List.append_assoc, ← List.drop_drop, List.take_append_drop, List.take_append_drop]
theorem elem_store {c : Cx} {t : Ty} {l : List t.den} {us : List Value} {i off : Nat} {xs : List D} {vs : List Value} {y : t.den} (h : RepA c.w c.fr t l us) (hi : i < l.length) (hx : RepL c xs vs) (hoff : off + xs.length ≤ t.size)
 (hp : pack t (over (expand t (l.getD i t.dflt)) off xs) = some (y, [])) : RepA c.w c.fr t (l.set i y) (overV us (i * t.size + off) vs) := by
 obtain ⟨u, hu, hg⟩ := RepA.get h (show l[i]? = some (l.getD i t.dflt) by simp [List.getD, hi])
 have hlen := h.length
 have hle : (i + 1) * t.size ≤ us.length := by rw [hlen]; exact Nat.mul_le_mul_right _ hi
 rw [Nat.succ_mul] at hle
 have hmid : (us.drop (i * t.size)).take t.size = u := by
  apply List.ext_getElem?
  intro j
  rw [List.getElem?_take]
  split
  ·rename_i hj
   rw [List.getElem?_drop]
   have : j < u.length := by rw [hu.length]; exact hj
   rw [hg j u[j] (by simp [this])]
   simp [this]
  ·rw [List.getElem?_eq_none (by rw [hu.length]; omega)]
 have hvl := RepL_length hx
 obtain ⟨a, b, hab, h1, h2⟩ := pack_rep (RepL_over (off := off) hx hu.expand) hp
 simp only [RepL] at h2; subst h2
 rw [List.append_nil] at hab
 have := RepA_set h hi h1
 rw [← hab] at this
 have e : overV us (i * t.size + off) vs = us.take (i * t.size) ++ overV u off vs ++ us.drop ((i + 1) * t.size) := by
  conv => lhs; rw [split3 us (i * t.size) t.size, hmid]
  have ht : (us.take (i * t.size)).length = i * t.size := by rw [List.length_take]; omega
  have := overV_mid (a := us.take (i * t.size)) (b := u) (d := us.drop (i * t.size + t.size)) vs off (by rw [hu.length, hvl]; exact hoff)
  rw [ht] at this
  rw [this, Nat.succ_mul]
 rw [e]; exact this
theorem RepT.ones {w : World} {fr : Addr → Prop} : ∀ {t : Ty} {x : t.den} {us : List Value}, RepT w fr t x us → ∀ u ∈ us, u.oneCell' = true
 | .int k, x, us, h => by cases h; simp [Value.oneCell']
 | .bool, x, us, h => by cases h; simp [Value.oneCell']
 | .str, x, us, h => by cases h; simp [Value.oneCell']
 | .pair a b, x, us, h => by
   obtain ⟨u, v, rfl, h1, h2⟩ := h
   intro z hz
   rcases List.mem_append.1 hz with hz | hz
   ·exact h1.ones z hz
   ·exact h2.ones z hz
 | .list t, l, us, h => by
   obtain ⟨A, k, rfl, _⟩ := h
   simp [Value.oneCell']
theorem RepA.ones {w : World} {fr : Addr → Prop} {t : Ty} : ∀ {l : List t.den} {us : List Value}, RepA w fr t l us → ∀ u ∈ us, u.oneCell' = true
 | [], us, h => by cases h; simp
 | x :: l, us, h => by
   obtain ⟨u, v, rfl, h1, h2⟩ := h
   intro z hz
   rcases List.mem_append.1 hz with hz | hz
   ·exact h1.ones z hz
   ·exact RepA.ones h2 z hz
theorem setRow_facts (w : World) (B : Nat) (cs : Array Value) : (w.setRow B cs).os = w.os ∧ (w.setRow B cs).tape = w.tape ∧ (w.setRow B cs).output = w.output ∧ (w.setRow B cs).heap.size = w.heap.size :=
 ⟨rfl, rfl, rfl, size_setRow w B cs⟩
theorem storeW_out {P : Program} {c : Cx} {t : TypeId} {a x : D} {K : List Blk → Prop} {u v : Value} (h : storeW P c.hp t a x K) (ha : Rep c a u) (hx : Rep c x v) (H : HRep c) :
 ∃ c', (Instr.storeAt t u v).run P c.w = .ok () c'.w ∧ K c'.hp ∧ HRep c' ∧ Stp c c' := by
 unfold storeW at h
 split at h
 ·exact h.elim
 ·rename_i n hn
  split at h
  ·
   rename_i b off t' n' l'
   simp only [Rep] at ha hx
   obtain ⟨hb, _, p, hp, rfl⟩ := ha
   obtain ⟨us', rfl, hx, hxl⟩ := hx
   split at h
   ·rename_i ty n'' t l hg
    split at h
    ·rename_i ht
     subst ht
     split at h
     ·rename_i hh
      obtain ⟨rfl, rfl, rfl⟩ := hh
      have hB := H.blk b hb
      rw [hg] at hB
      obtain ⟨B, us, h1, h2, h3, h4, h5, h6⟩ := hB
      rw [h1] at hp; cases hp
      have hul : us'.length = us.length := by rw [hx.length, h3.length, hxl, h4]
      have hul2 : us'.length = n' * t'.size := by rw [hx.length, hxl]
      have hrun := run_storeVar_at (P := P) (w := c.w) (off := 0) (v := .agg us'.toArray) h2 hn (by simpa [Value.cells] using hul2) (by omega) (by simpa [Value.cells] using hx.ones)
      obtain ⟨f1, f2, f3, f4⟩ := setRow_facts c.w B (overV us 0 us').toArray
      have hov : overV us 0 us' = us' := by rw [overV_eq _ _ _ (by omega)]; simp [hul]
      obtain ⟨c', e1, e2, e3, H', S'⟩ := set_blk H hb (by rw [hg]; rfl) (.arr ty n' t' l' false) (c.cv b) (c.w.setRow B (overV us 0 us').toArray) (by rw [hg]; exact ⟨rfl, rfl, rfl, by rw [hxl, h4], rfl⟩) f1 f2 f3 (by rw [f4]; exact Nat.le_refl _)
       (fun i hi hne => setRow_other _ _ _ _ (fun e => hne (by rw [h1, e]; rfl))) (fun p hp hpb => absurd hp (h5 rfl p (by rw [h1] at hpb; cases hpb; rfl))) (fun B _ hB => .inr hB)
       (fun c' hl hw hfr hcv => ⟨B, us', hcv.trans h1, by rw [hw, setRow_heap _ _ _ _ _ _ h2, hov], hx.ext hl.ext, hxl, fun _ p hp => by rw [hfr]; exact h5 rfl p hp, fun e => by cases e⟩)
      refine ⟨c', ?_, by rw [e2]; exact h, H', S'⟩
      rw [add_zero, e1]
      simpa [Value.cells] using hrun
     ·exact h.elim
    ·exact h.elim
   ·exact h.elim
  ·
   rename_i b off hnav
   simp only [Rep] at ha
   obtain ⟨hb, _, p, hp, rfl⟩ := ha
   split at h
   ·rename_i ty cs hg
    split at h
    ·rename_i hh
     obtain ⟨hl, hoff, hone⟩ := hh
     have hB := H.blk b hb
     rw [hg] at hB
     obtain ⟨B, us, h1, h2, h3, h4⟩ := hB
     rw [h1] at hp; cases hp
     have hc := cells_rep hone hx
     have hcl := RepL_length hc
     have hul := RepL_length h3
     have hrun := run_storeVar_at (P := P) (w := c.w) (off := off) (v := v) h2 hn (by rw [hcl]; exact hl) (by omega) (ones_rep hone hc)
     obtain ⟨f1, f2, f3, f4⟩ := setRow_facts c.w B (overV us off v.cells.toList).toArray
     obtain ⟨c', e1, e2, e3, H', S'⟩ := set_blk H hb (by rw [hg]; rfl) (.box ty (over cs off x.cells)) (c.cv b) (c.w.setRow B (overV us off v.cells.toList).toArray)
      (by rw [hg]; refine ⟨rfl, ?_, rfl⟩; have := RepL_length (RepL_over (off := off) hc h3); rw [overV_length] at this; omega) f1 f2 f3 (by rw [f4]; exact Nat.le_refl _)
      (fun i hi hne => setRow_other _ _ _ _ (fun e => hne (by rw [h1, e]; rfl))) (fun p hp hpb => absurd hp (h4 p (by rw [h1] at hpb; cases hpb; rfl))) (fun B _ hB => .inr hB)
      (fun c' hl hw hfr hcv => ⟨B, _, hcv.trans h1, by rw [hw]; exact setRow_heap _ _ _ _ _ _ h2, (RepL_over (off := off) hc h3).mono hl, fun p hp => by rw [hfr]; exact h4 p hp⟩)
     refine ⟨c', ?_, by rw [e2]; exact h, H', S'⟩
     rw [add_plain, e1]
     exact hrun
    ·exact h.elim
   ·exact h.elim
  ·
   rename_i b ver i off
   simp only [Rep] at ha
   obtain ⟨hb, _, ha⟩ := ha
   have hB := H.blk b hb
   split at h
   ·rename_i e t' l ver' hg
    rw [hg] at hB ha
    split at h
    ·rename_i hh
     obtain ⟨hv, hl, hoff, hone⟩ := hh
     split at h
     ·rename_i y hy
      obtain ⟨a, m, k, g1, g2, g3, rfl⟩ := ha.2 hv
      obtain ⟨A, cap, h1, h2⟩ := hB
      rcases h2 with ⟨rfl, rfl, rfl⟩ | ⟨B, us, vs, rfl, h3, h4, h5, h6, h7, h8⟩
      ·simp at g3; omega
      ·rw [h1] at g1; cases g1
       have hc := cells_rep hone hx
       have hcl := RepL_length hc
       have hi := toNat_lt g2 g3
       have hst := elem_store h6 hi hc (by omega) hy
       have hle : (i.toNat + 1) * t'.size ≤ us.length := by rw [h6.length]; exact Nat.mul_le_mul_right _ hi
       rw [Nat.succ_mul] at hle
       have hrun := run_storeVar_at (P := P) (w := c.w) (off := i.toNat * t'.size + off) (v := v) h3 hn (by rw [hcl]; exact hl) (by simp; omega) (ones_rep hone hc)
       have hov : overV (us ++ vs) (i.toNat * t'.size + off) v.cells.toList = overV us (i.toNat * t'.size + off) v.cells.toList ++ vs := by
        have := overV_mid (a := []) (b := us) (d := vs) v.cells.toList (i.toNat * t'.size + off) (by rw [hcl]; omega)
        simpa using this
       rw [hov] at hrun
       obtain ⟨f1, f2, f3, f4⟩ := setRow_facts c.w B (overV us (i.toNat * t'.size + off) v.cells.toList ++ vs).toArray
       obtain ⟨c', e1, e2, e3, H', S'⟩ := set_blk H hb (by rw [hg]; rfl) (.lst e t' (l.set i.toNat y) ver false) (c.cv b) (c.w.setRow B (overV us (i.toNat * t'.size + off) v.cells.toList ++ vs).toArray)
        (by rw [hg, hv]; exact ⟨rfl, rfl, Nat.le_refl _, fun _ => ⟨rfl, by simp⟩⟩) f1 f2 f3 (by rw [f4]; exact Nat.le_refl _)
        (fun i hi hne => setRow_other _ _ _ _ (fun e => hne (by rw [h1, e]; rfl))) (fun p hp hpb => absurd hp (h7 p (by rw [h1] at hpb; cases hpb; rfl) (.inl rfl))) (fun B _ hB => .inr hB)
        (fun c' hl' hw hfr hcv => ⟨_, k, by rw [hcv, h1]; simp, .inr ⟨B, overV us (i.toNat * t'.size + off) v.cells.toList, vs, rfl, by rw [hw]; exact setRow_heap _ _ _ _ _ _ h3, by simpa using h4, by rw [overV_length]; exact h5, hst.ext hl'.ext,
          fun p hp _ => by rw [hfr]; exact h7 p hp (.inl rfl), fun e => by cases e⟩⟩)
       refine ⟨c', ?_, by rw [e2]; exact h, H', S'⟩
       rw [add_add, add_plain, e1]
       exact hrun
     ·exact h.elim
    ·exact h.elim
   ·rename_i ty m t' l hg
    rw [hg] at hB ha
    split at h
    ·rename_i hh
     obtain ⟨hl, hoff, hone⟩ := hh
     split at h
     ·rename_i y hy
      obtain ⟨a, g1, g2, g3, rfl⟩ := ha
      obtain ⟨B, us, h1, h2, h3, h4, h5, h6⟩ := hB
      rw [h1] at g1; cases g1
      have hc := cells_rep hone hx
      have hcl := RepL_length hc
      have hi := toNat_lt g2 g3
      have hst := elem_store h3 hi hc (by omega) hy
      have hle : (i.toNat + 1) * t'.size ≤ us.length := by rw [h3.length]; exact Nat.mul_le_mul_right _ hi
      rw [Nat.succ_mul] at hle
      have hrun := run_storeVar_at (P := P) (w := c.w) (off := i.toNat * t'.size + off) (v := v) h2 hn (by rw [hcl]; exact hl) (by omega) (ones_rep hone hc)
      obtain ⟨f1, f2, f3, f4⟩ := setRow_facts c.w B (overV us (i.toNat * t'.size + off) v.cells.toList).toArray
      obtain ⟨c', e1, e2, e3, H', S'⟩ := set_blk H hb (by rw [hg]; rfl) (.arr ty m t' (l.set i.toNat y) false) (c.cv b) (c.w.setRow B (overV us (i.toNat * t'.size + off) v.cells.toList).toArray)
       (by rw [hg]; exact ⟨rfl, rfl, rfl, by simp, rfl⟩) f1 f2 f3 (by rw [f4]; exact Nat.le_refl _)
       (fun i hi hne => setRow_other _ _ _ _ (fun e => hne (by rw [h1, e]; rfl))) (fun p hp hpb => absurd hp (h5 rfl p (by rw [h1] at hpb; cases hpb; rfl))) (fun B _ hB => .inr hB)
       (fun c' hl' hw hfr hcv => ⟨B, _, hcv.trans h1, by rw [hw]; exact setRow_heap _ _ _ _ _ _ h2, hst.ext hl'.ext, by simpa using h4, fun _ p hp => by rw [hfr]; exact h5 rfl p hp, fun e => by cases e⟩)
      refine ⟨c', ?_, by rw [e2]; exact h, H', S'⟩
      rw [add_add, add_plain, e1]
      exact hrun
     ·exact h.elim
    ·exact h.elim
   ·exact h.elim
  ·exact h.elim
def TyOk (cfg : Cfg) : Prop := ∀ e t, cfg.ty e = some t → ∃ i z, cfg.P.info? e = some i ∧ i.size = t.size ∧ i.zero = some z ∧ z.cells.size = t.size ∧ 0 < t.size
theorem gatherA {w : World} {fr : Addr → Prop} {t : Ty} {a : Addr} : ∀ {l : List t.den} (k : Nat), (∀ (i : Nat) (x : t.den), l[i]? = some x → ∃ us, RepT w fr t x us ∧ At w fr (a.add ((k + i) * t.size)) us) →
 ∃ us, RepA w fr t l us ∧ ∀ j u, us[j]? = some u → w.cell? (a.add (k * t.size + j)) = some u
 | [], k, h => ⟨[], rfl, fun j u hj => by simp at hj⟩
 | x :: l, k, h => by
   obtain ⟨us, h1, h2⟩ := h 0 x rfl
   obtain ⟨vs, h3, h4⟩ := gatherA (l := l) (k + 1) (fun i y hy => by
    obtain ⟨us, h5, h6⟩ := h (i + 1) y (by simpa using hy)
    exact ⟨us, h5, by rw [show k + 1 + i = k + (i + 1) by omega]; exact h6⟩)
   refine ⟨us ++ vs, ⟨us, vs, rfl, h1, h3⟩, fun j u hj => ?_⟩
   rcases Nat.lt_or_ge j us.length with hlt | hge
   ·rw [List.getElem?_append_left hlt] at hj
    have := (h2 j u hj).2
    rwa [add_add, Nat.add_zero] at this
   ·rw [List.getElem?_append_right hge] at hj
    have := h4 _ u hj
    rw [Nat.succ_mul] at this
    have e : k * t.size + t.size + (j - us.length) = k * t.size + j := by rw [← h1.length]; omega
    rwa [e] at this
theorem srcOf_rep {c : Cx} {t : Ty} {x : D} {l : List t.den} {v : Value} (h : srcOf c.hp t x = some l) (hx : Rep c x v) (H : HRep c) :
 ∃ A k, v = .slice A l.length k ∧ (l ≠ [] → ∃ a us, A = some a ∧ RepA c.w c.fr t l us ∧ ∀ j u, us[j]? = some u → c.w.cell? (a.add j) = some u) := by
 unfold srcOf at h
 split at h
 ·cases h
  simp only [Rep] at hx; subst hx
  exact ⟨none, 0, rfl, fun h => absurd rfl h⟩
 ·rename_i t' l'
  split at h
  ·rename_i ht
   subst ht
   cases h
   simp only [Rep] at hx
   obtain ⟨A, k, h1, h2, h3⟩ := hx
   cases h1
   refine ⟨A, k, rfl, fun hne => ?_⟩
   obtain ⟨a, rfl, h4⟩ := h3 hne
   obtain ⟨us, h5, h6⟩ := gatherA 0 (fun i x hx => by simpa using h4 i x hx)
   exact ⟨a, us, rfl, h5, fun j u hj => by simpa using h6 j u hj⟩
  ·cases h
 ·rename_i b ver
  simp only [Rep] at hx
  obtain ⟨hb, _, hx⟩ := hx
  split at h
  ·rename_i e t' l' ver' s hg
   rw [hg] at hx
   split at h
   ·rename_i hv
    split at h
    ·rename_i ht
     subst ht
     cases h
     have hB := H.blk b hb
     rw [hg] at hB
     obtain ⟨A, cap, h1, h2⟩ := hB
     have hu := hx.2 hv
     refine ⟨A, cap, by rw [hu, h1], fun hne => ?_⟩
     rcases h2 with ⟨_, _, rfl⟩ | ⟨B, us, vs, rfl, h3, h4, h5, h6, h7, h8⟩
     ·exact absurd rfl hne
     ·exact ⟨_, us, rfl, h6, fun j u hj => by rw [add_plain, cell_row h3, List.getElem?_append_left (List.getElem?_eq_some_iff.1 hj).1]; exact hj⟩
    ·cases h
   ·cases h
  ·cases h
 ·cases h
theorem run_append_zero {P : Program} {w : World} {t ty e : TypeId} {i : TypeInfo} {A B : Option Addr} {n c k : Nat} (ht : P.underlying t = some (.slice e)) (hi : P.info? e = some i) (hn : n ≤ c) :
 (Builtin.append_ #[t, t] ty #[.slice B n c, .slice A 0 k]).run P w = .ok (.slice B n c) w := by
 cases A <;> cases B <;> simp [Builtin.append_, run_underlying ht, sizeOf, typeInfo, hi, Builtin.lenOf, hn, Builtin.firstCells, loadCells, loadCellsFrom, storeCells]
theorem mk_nil {c : Cx} (H : HRep c) (e : TypeId) (t : Ty) :
 ∃ c', c'.w = c.w ∧ c'.hp = c.hp ++ [.lst e t [] 0 false] ∧ HRep c' ∧ Stp c c' ∧ Rep c' (.sl c.hp.length 0) (.slice none 0 0) := by
 let c' : Cx := { c with hp := c.hp ++ [.lst e t [] 0 false], cv := fun b => if b = c.hp.length then .slice none 0 0 else c.cv b }
 have hg : ∀ b, getB c'.hp b = if b = c.hp.length then .lst e t [] 0 false else getB c.hp b := fun b => getB_app _
 have hcv : ∀ b, c'.cv b = if b = c.hp.length then .slice none 0 0 else c.cv b := fun _ => rfl
 have hle : HpLe c c' := by
  refine ⟨by simp [c'], fun b hb => ?_, fun a ha => ⟨ha, rfl⟩, rfl, rfl⟩
  rw [hg b, hcv b, if_neg (by omega), if_neg (by omega)]; exact BLe.refl _ _
 have U : Upd c c' c.hp.length := {
  lt := by simp [c']
  len := fun b hb hne => by simp [c'] at hb; omega
  oth := fun b hb hne => by rw [hg b, hcv b, if_neg (by omega), if_neg (by omega)]; exact ⟨rfl, rfl⟩
  heap := fun i hi _ => rfl
  size := Nat.le_refl _
  os := rfl, tape := rfl, output := rfl
  fr := fun a ha => .inl ha
  frin := fun a ha => H.frin a ha
  new := by
   rw [hg, if_pos rfl]
   exact ⟨none, 0, by rw [hcv, if_pos rfl]; rfl, .inl ⟨rfl, rfl, rfl⟩⟩
  at_ := fun B _ hB => by rw [hcv, if_pos rfl] at hB; cases hB }
 refine ⟨c', rfl, rfl, U.hrep H hle, U.stp hle, ?_⟩
 simp only [Rep]
 rw [hg, if_pos rfl, hcv, if_pos rfl]
 exact ⟨by simp [c'], rfl, Nat.le_refl _, fun _ => rfl⟩
theorem zeroCells_len (z : Array Value) (n : Nat) : (Builtin.zeroCells z n).toList.length = n * z.size := by simp [Builtin.zeroCells]
theorem append_new {cfg : Cfg} {c : Cx} (H : HRep c) {e : TypeId} {t : Ty} {i : TypeInfo} {z : Value} (hz : z.cells.size = t.size) {l : List t.den} {us : List Value} (hl : RepA c.w c.fr t l us) (old : Nat) (hmax : l.length ≤ maxLen) :
 ∃ c', c'.w = c.w.drew.alloc (.cells (us ++ (Builtin.zeroCells z.cells (grownCap c.w l.length old e - l.length)).toList).toArray e) ∧ c'.hp = c.hp ++ [.lst e t l 0 false] ∧ HRep c' ∧ Stp c c' ∧
  Rep c' (.sl c.hp.length 0) (.slice (some ⟨c.w.heap.size, 0, none⟩) l.length (grownCap c.w l.length old e)) := by
 have hge := grownCap_ge c.w l.length old e
 refine mk_lst H e (c.w.drew.alloc _) rfl rfl rfl rfl hl hge ?_ (grownCap_le_maxLen _ _ _ _ hmax)
 rw [zeroCells_len, hl.length, hz, ← Nat.add_mul]
 congr 1
 omega
theorem room_spec {n bytes : Nat} (h : room n bytes) : n ≤ maxLen ∧ (n : Int) ≤ 9223372036854775807 ∧ n * bytes ≤ 140737488355328 := by
 unfold room at h
 rw [Nat.mul_succ] at h
 refine ⟨?_, ?_, ?_⟩
 ·unfold maxLen; omega
 ·omega
 ·omega
structure AppSrc (P : Program) (w : World) (fr : Addr → Prop) (tt tx ty e : TypeId) (i : TypeInfo) (z : Value) (t : Ty) (v : Value) (l' : List t.den) : Prop where
 zero : l' = [] → ∀ B n cp, n ≤ cp → (Builtin.append_ #[tt, tx] ty #[.slice B n cp, v]).run P w = .ok (.slice B n cp) w
 more : l' ≠ [] → ∃ us', RepA w fr t l' us' ∧
  ((l'.length : Int) ≤ 9223372036854775807 → l'.length * i.bytes ≤ 281474976710656 → (Builtin.append_ #[tt, tx] ty #[.slice none 0 0, v]).run P w =
    .ok (.slice (some ⟨w.heap.size, 0, none⟩) l'.length (grownCap w l'.length 0 e)) (w.drew.alloc (.cells (us'.toArray ++ Builtin.zeroCells z.cells (grownCap w l'.length 0 e - l'.length)) e))) ∧
  (∀ (b : Addr) (sLen sCap : Nat) (olds : List Value), olds.length = sLen * i.size → (∀ j v, olds[j]? = some v → w.cell? (b.add j) = some v) → sCap < sLen + l'.length → ((sLen + l'.length : Nat) : Int) ≤ 9223372036854775807 →
    Builtin.nextslicecap (sLen + l'.length) sCap * i.bytes ≤ 281474976710656 → (Builtin.append_ #[tt, tx] ty #[.slice (some b) sLen sCap, v]).run P w =
    .ok (.slice (some ⟨w.heap.size, 0, none⟩) (sLen + l'.length) (grownCap w (sLen + l'.length) sCap e)) (w.drew.alloc (.cells (olds.toArray ++ us'.toArray ++ Builtin.zeroCells z.cells (grownCap w (sLen + l'.length) sCap e - (sLen + l'.length))) e))) ∧
  (∀ (g sLen sCap : Nat) (cur : Array Value), w.heap[g]? = some (.cells cur e (0, 0)) → sLen + l'.length ≤ sCap → sLen * i.size + us'.length ≤ cur.size → (Builtin.append_ #[tt, tx] ty #[.slice (some ⟨g, 0, none⟩) sLen sCap, v]).run P w =
    .ok (.slice (some ⟨g, 0, none⟩) (sLen + l'.length) sCap) (w.setRow g (cur.toList.take (sLen * i.size) ++ us' ++ cur.toList.drop (sLen * i.size + us'.length)).toArray))
theorem appSrc_slice {c : Cx} {P : Program} {tt ty e : TypeId} {i : TypeInfo} {z : Value} {t : Ty} {x : D} {l' : List t.den} {v : Value} (hu' : P.underlying tt = some (.slice e)) (hi : P.info? e = some i) (hz : i.zero = some z) (hsz : i.size = t.size)
 (hsrc : srcOf c.hp t x = some l') (hx : Rep c x v) (H : HRep c) : AppSrc P c.w c.fr tt tt ty e i z t v l' := by
 obtain ⟨A, k, rfl, hsrc'⟩ := srcOf_rep hsrc hx H
 refine ⟨fun h B n cp hn => by subst h; exact run_append_zero hu' hi hn, fun hne => ?_⟩
 obtain ⟨a, us, rfl, ha, hm⟩ := hsrc' hne
 have hpos' : 0 < l'.length := List.length_pos_iff.2 hne
 exact ⟨us, ha, fun h63 h48 => run_append_nil (P := P) c.w tt ty e i z hu' hi hz a l'.length k us (by rw [ha.length, hsz]) hm hpos' h63 h48,
  fun b sLen sCap olds h1 h2 h3 h4 h5 => run_append_grow (P := P) c.w tt ty e i z hu' hi hz b sLen sCap olds h1 h2 a l'.length k us (by rw [ha.length, hsz]) hm h3 h4 h5,
  fun g sLen sCap cur h1 h2 h3 => run_append_room (P := P) c.w tt ty e i hu' hi g sLen sCap cur h1 a l'.length k us (by rw [ha.length, hsz]) hm ha.ones h2 h3⟩
theorem repA_bytes {w : World} {fr : Addr → Prop} : ∀ (l : List UInt8), RepA w fr (.int .u8) (l.map fun b => (b.toNat : Int)) (l.map fun b => Value.int .u8 b.toNat)
 | [] => rfl
 | b :: l => ⟨[.int .u8 b.toNat], _, rfl, rfl, repA_bytes l⟩
theorem appSrc_string {c : Cx} {P : Program} {tt tx ty e : TypeId} {i : TypeInfo} {z : Value} {s : ByteArray} (hu' : P.underlying tt = some (.slice e)) (hus : P.underlying tx = some .string) (hi : P.info? e = some i) (hz : i.zero = some z) (hsz : i.size = 1) :
 AppSrc P c.w c.fr tt tx ty e i z (.int .u8) (.string s) (ofBytes s) := by
 have hlen : @List.length Int (ofBytes s) = s.size := by
  unfold ofBytes
  rw [List.length_map, Array.length_toList]; rfl
 have hlen' : @List.length (Ty.den (.int .u8)) (ofBytes s) = s.size := hlen
 refine ⟨fun h B n cp hn => ?_, fun hne => ?_⟩
 ·have hs : s.size = 0 := by rw [← hlen', h]; rfl
  have hd : s.data = #[] := Array.eq_empty_of_size_eq_zero hs
  cases B <;> simp [Builtin.append_, run_underlying hu', run_underlying hus, sizeOf, typeInfo, hi, Builtin.lenOf, hn, hs, hd, Builtin.firstCells, storeCells]
 ·have hpos : 0 < s.size := by
   rw [← hlen']; exact List.length_pos_iff.2 hne
  refine ⟨Lib.strCells s, repA_bytes _, fun h63 h48 => ?_, fun b sLen sCap olds h1 h2 h3 h4 h5 => ?_, fun g sLen sCap cur h1 h2 h3 => ?_⟩
  ·rw [hlen'] at h63 h48 ⊢
   have := run_append_nil_string (P := P) c.w tt tx ty e i z hu' hus hi hz s hpos h63 h48
   rw [this]
   congr 3
   apply Array.ext'
   simp [Lib.strCells]
  ·rw [hlen'] at h3 h4 h5 ⊢
   exact Lib.run_append_grow_string (P := P) c.w tt tx ty e i z hu' hus hi hz b sLen sCap olds h1 h2 s h3 h4 h5
  ·rw [hlen'] at h2 ⊢
   rw [hsz, Nat.mul_one, Lib.strCells_length] at h3 ⊢
   exact Lib.run_append_room_string (P := P) c.w tt tx ty e i hu' hus hi hsz g sLen sCap cur h1 s h2 h3
theorem appendW_out {cfg : Cfg} (T : TyOk cfg) {c : Cx} {tt tx ty : TypeId} {s x : D} {K : D → List Blk → Prop} {u v : Value} (h : appendW cfg c.hp tt tx s x K) (hs : Rep c s u) (hx : Rep c x v) (H : HRep c) :
 ∃ r c', (Builtin.append_ #[tt, tx] ty #[u, v]).run cfg.P c.w = .ok r c'.w ∧ ∃ d, K d c'.hp ∧ Rep c' d r ∧ HRep c' ∧ Stp c c' := by
 unfold appendW at h
 split at h
 ·rename_i e hu
  have hu' : cfg.P.underlying tt = some (.slice e) := hu
  split at h
  ·rename_i t bytes ht hby
   obtain ⟨i, z, hi, hsz, hz, hzc, hpos⟩ := T e t ht
   have hib : i.bytes = bytes := by rw [hi] at hby; exact Option.some.inj hby
   split at h
   ·rename_i l' hsrc
    have S : AppSrc cfg.P c.w c.fr tt tx ty e i z t v l' := by
     split at hsrc
     ·rename_i hbq
      have : tx = tt := Nat.eq_of_beq_eq_true hbq
      subst this
      exact appSrc_slice hu' hi hz hsz hsrc hx H
     ·unfold srcS at hsrc
      split at hsrc
      ·rename_i s0
       split at hsrc
       ·rename_i hus
        cases hsrc
        simp only [Rep] at hx
        subst hx
        exact appSrc_string hu' hus hi hz hsz
       ·cases hsrc
      ·cases hsrc
    split at h
    ·
     obtain ⟨hroom, h⟩ := h
     simp only [Rep] at hs; subst hs
     obtain ⟨r1, r2, r3⟩ := room_spec hroom
     by_cases hne : l' = []
     ·subst hne
      obtain ⟨c', e1, e2, H', S', R'⟩ := mk_nil H e t
      exact ⟨_, c', by rw [e1]; exact S.zero rfl _ _ _ (Nat.le_refl _), _, by rw [e2]; exact h, R', H', S'⟩
     ·obtain ⟨us, ha, S1, _, _⟩ := S.more hne
      obtain ⟨c', e1, e2, H', S', R'⟩ := append_new (cfg := cfg) (e := e) (i := i) H hzc ha 0 r1
      refine ⟨_, c', ?_, _, by rw [e2]; exact h, R', H', S'⟩
      have hpos' : 0 < l'.length := List.length_pos_iff.2 hne
      have hr := S1 r2 (by rw [hib]; omega)
      rw [hr, e1]
      congr 2
      simp
    ·rename_i b ver
     split at h
     ·rename_i e' t' l ver' sealed hg
      split at h
      ·rename_i htt
       subst htt
       split at h
       ·rename_i hve
        obtain ⟨hv, rfl⟩ := hve
        obtain ⟨hroom, h⟩ := h
        obtain ⟨r1, r2, r3⟩ := room_spec hroom
        simp only [Rep] at hs
        obtain ⟨hb, _, hs⟩ := hs
        rw [hg] at hs
        have hu0 := hs.2 hv
        have hB := H.blk b hb
        rw [hg] at hB
        obtain ⟨A0, cap, h1, h2⟩ := hB
        have hlive : live (getB c.hp b) = true := by rw [hg]; rfl
        have hrep : ∀ c' : Cx, c'.hp = c.hp.set b (.lst e' t (l ++ l') (ver + 1) sealed) → ∀ r, r.oneCell' = true → c'.cv b = r → Rep c' (.sl b (ver + 1)) r := by
         intro c' e2 r hone hcv
         simp only [Rep]
         rw [e2, getB_set _ hb, if_pos rfl]
         exact ⟨by simpa using hb, hone, Nat.le_refl _, fun _ => hcv.symm⟩
        have hle0 : ∀ u', BLe (c.cv b) u' (getB c.hp b) (.lst e' t (l ++ l') (ver + 1) sealed) := by
         intro u'
         rw [hg]
         exact ⟨rfl, rfl, by omega, fun e => by omega⟩
        have hn1 : l.length ≤ cap := by
         rcases h2 with ⟨_, rfl, rfl⟩ | ⟨B, us, vs, rfl, h3, h4, h5, h6, h7, h8⟩
         ·exact Nat.le_refl _
         ·exact h4
        by_cases hne : l' = []
        ·
         subst hne
         obtain ⟨c', e1, e2, e3, H', S'⟩ := set_blk H hb hlive (.lst e' t (l ++ []) (ver + 1) sealed) (c.cv b) c.w (hle0 _) rfl rfl rfl (Nat.le_refl _) (fun _ _ _ => rfl) (fun _ _ _ => rfl) (fun B _ hB => .inr hB)
          (fun c' hl hw hfr hcv => by
            refine ⟨A0, cap, by rw [hcv, h1]; simp, ?_⟩
            rcases h2 with ⟨q1, q2, q3⟩ | ⟨B, us, vs, q0, h3, h4, h5, h6, h7, h8⟩
            ·exact .inl ⟨q1, q2, by simp [q3]⟩
            ·exact .inr ⟨B, us, vs, q0, by rw [hw]; exact h3, by simpa using h4, h5, by simpa using h6.ext hl.ext, fun a ha hs' => by rw [hfr]; exact h7 a ha hs', fun hs' j hj => by rw [hfr]; exact h8 hs' j hj⟩)
         refine ⟨_, c', ?_, _, by rw [e2]; exact h, hrep c' e2 _ (by rw [h1]; rfl) e3, H', S'⟩
         rw [e1, hu0, h1]
         exact S.zero rfl _ _ _ hn1
        ·obtain ⟨us', ha, S1, S2, S3⟩ := S.more hne
         have hpos' : 0 < l'.length := List.length_pos_iff.2 hne
         have hlen' : (l ++ l').length = l.length + l'.length := by simp
         have hul' : us'.length = l'.length * t.size := ha.length
         have fresh : ∀ (us : List Value) (old : Nat), RepA c.w c.fr t l us → (sealed = true ∨ sealed = false) →
          ∃ c', c'.w = c.w.drew.alloc (.cells ((us ++ us') ++ (Builtin.zeroCells z.cells (grownCap c.w (l.length + l'.length) old e' - (l.length + l'.length))).toList).toArray e') ∧
          c'.hp = c.hp.set b (.lst e' t (l ++ l') (ver + 1) sealed) ∧ c'.cv b = .slice (some ⟨c.w.heap.size, 0, none⟩) (l.length + l'.length) (grownCap c.w (l.length + l'.length) old e') ∧ HRep c' ∧ Stp c c' := by
          intro us old hus _
          have hge := grownCap_ge c.w (l.length + l'.length) old e'
          have hzl := zeroCells_len z.cells (grownCap c.w (l.length + l'.length) old e' - (l.length + l'.length))
          have hnb : ∀ a : Addr, a.block = c.w.heap.size → ¬ c.fr a := fun a ha hf => by have := H.frin a hf; omega
          obtain ⟨c', e1, e2, e3, H', S', _⟩ := set_blkF H hb hlive (.lst e' t (l ++ l') (ver + 1) sealed) (.slice (some ⟨c.w.heap.size, 0, none⟩) (l.length + l'.length) (grownCap c.w (l.length + l'.length) old e'))
           (c.w.drew.alloc (.cells ((us ++ us') ++ (Builtin.zeroCells z.cells (grownCap c.w (l.length + l'.length) old e' - (l.length + l'.length))).toList).toArray e'))
           (fun a => sealed = true ∧ a.block = c.w.heap.size ∧ a.spot = none ∧ a.off < (us ++ us').length) (hle0 _) rfl rfl rfl (by simp)
           (fun i hi _ => Below.heap_alloc _ _ _ hi) (fun a ha _ => World.cell?_alloc_lt _ _ _ (H.frin a ha)) (fun a ha => .inl ⟨by rw [ha.2.1]; exact Nat.le_refl _, by rw [ha.2.1]; simp⟩) (fun B _ hB => by cases hB; exact .inl (Nat.le_refl _))
           (fun c' hl hw hfr hcv => by
             refine ⟨_, grownCap c.w (l.length + l'.length) old e', by rw [hcv, hlen'], .inr ⟨c.w.heap.size, us ++ us', _, rfl, by rw [hw]; exact heap_alloc_new c.w.drew _, by rw [hlen']; exact hge, ⟨?_, grownCap_le_maxLen _ _ _ _ r1⟩, (hus.append ha).ext hl.ext, fun a ha hs' hf => ?_, fun hs' j hj => (hfr _).2 (.inr ⟨hs', rfl, rfl, hj⟩)⟩⟩
             ·rw [List.length_append, hus.length, hul', hzl, hzc, ← Nat.add_mul, ← Nat.add_mul]
              congr 1; omega
             ·rcases (hfr a).1 hf with hf | ⟨hse, _, _, hlt⟩
              ·exact hnb a ha hf
              ·rcases hs' with hs' | hs'
               ·rw [hs'] at hse; cases hse
               ·omega)
          exact ⟨c', e1, e2, e3, H', S'⟩
         rcases h2 with ⟨rfl, rfl, rfl⟩ | ⟨B, us, vs, rfl, h3, h4, ⟨h5, h5'⟩, h6, h7, h8⟩
         ·obtain ⟨c', e1, e2, e3, H', S'⟩ := fresh [] 0 rfl (by cases sealed <;> simp)
          refine ⟨_, c', ?_, _, by rw [e2]; exact h, hrep c' e2 _ rfl e3, H', S'⟩
          rw [hu0, h1, e1]
          have hr := S1 (by simpa using r2) (by rw [hib]; simp at r3; omega)
          simp only [List.length_nil, Nat.zero_add] at hr ⊢
          rw [hr]
          congr 2
          simp
         ·by_cases hroomy : l.length + l'.length ≤ cap
          ·
           have hlr := S3 B l.length cap (us ++ vs).toArray h3 hroomy
            (by rw [hul', hsz]; simp only [List.size_toArray, List.length_append]; rw [h5, ← Nat.add_mul]; exact Nat.mul_le_mul_right _ hroomy)
           have hrow : ((us ++ vs).toArray.toList.take (l.length * i.size) ++ us' ++ (us ++ vs).toArray.toList.drop (l.length * i.size + us'.length)) = (us ++ us') ++ vs.drop us'.length := by
            have e0 : l.length * i.size = us.length := by rw [hsz, h6.length]
            rw [e0]
            simp only [List.toList_toArray]
            rw [List.take_append_of_le_length (Nat.le_refl _), List.take_length, List.drop_append, List.drop_of_length_le (by omega)]
            simp
           rw [hrow] at hlr
           have hcellB : ∀ p : Addr, c.fr p → cb (c.cv b) p.block → (c.w.setRow B ((us ++ us') ++ vs.drop us'.length).toArray).cell? p = c.w.cell? p := by
            intro p hp hpb
            rw [h1] at hpb
            have hpB : p.block = B := by cases hpb; rfl
            cases hsp : p.spot with
            | some q =>
              have e1 : ∀ w : World, w.cell? p = none := fun w => by
               cases hx : w.cell? p with
               | none => rfl
               | some v => have := World.cell?_spot hx; rw [hsp] at this; cases this
              rw [e1, e1]
            | none =>
              obtain ⟨pb, po, ps⟩ := p
              simp only at hpB hsp
              subst hpB; subst hsp
              have hlt : po < us.length := by
               rcases Nat.lt_or_ge po us.length with hh | hh
               ·exact hh
               ·exact absurd hp (h7 _ rfl (.inr hh))
              rw [cell_row (setRow_heap _ _ _ _ _ _ h3), cell_row h3, List.append_assoc, List.getElem?_append_left hlt, List.getElem?_append_left hlt]
           obtain ⟨f1, f2, f3, f4⟩ := setRow_facts c.w B ((us ++ us') ++ vs.drop us'.length).toArray
           have hvl : us'.length ≤ vs.length := by
            have : us.length + us'.length ≤ us.length + vs.length := by rw [h5, h6.length, hul', ← Nat.add_mul]; exact Nat.mul_le_mul_right _ hroomy
            omega
           obtain ⟨c', e1, e2, e3, H', S', _⟩ := set_blkF H hb hlive (.lst e' t (l ++ l') (ver + 1) sealed) (.slice (some ⟨B, 0, none⟩) (l.length + l'.length) cap) (c.w.setRow B ((us ++ us') ++ vs.drop us'.length).toArray)
            (fun p => sealed = true ∧ p.block = B ∧ p.spot = none ∧ p.off < (us ++ us').length) (hle0 _) f1 f2 f3 (by rw [f4]; exact Nat.le_refl _)
            (fun i hi hne => setRow_other _ _ _ _ (fun e => hne (by rw [h1, e]; rfl))) hcellB (fun p hp => .inr (by rw [h1, hp.2.1]; rfl)) (fun B' _ hB' => .inr (by rw [h1]; exact hB'))
            (fun c' hl hw hfr hcv => by
              refine ⟨_, cap, by rw [hcv, hlen'], .inr ⟨B, us ++ us', vs.drop us'.length, rfl, by rw [hw]; exact setRow_heap _ _ _ _ _ _ h3, by rw [hlen']; exact hroomy, ⟨?_, h5'⟩, (h6.append ha).ext hl.ext, fun p hp hs' hf => ?_, fun hs' j hj => (hfr _).2 (.inr ⟨hs', rfl, rfl, hj⟩)⟩⟩
              ·rw [List.length_append, List.length_drop, ← h5]; omega
              ·rcases (hfr p).1 hf with hf | ⟨hse, _, _, hlt⟩
               ·refine h7 p hp ?_ hf
                rcases hs' with hs' | hs'
                ·exact .inl hs'
                ·rw [List.length_append] at hs'; exact .inr (by omega)
               ·rcases hs' with hs' | hs'
                ·rw [hs'] at hse; cases hse
                ·omega)
           refine ⟨_, c', ?_, _, by rw [e2]; exact h, hrep c' e2 _ rfl e3, H', S'⟩
           rw [hu0, h1, e1]
           exact hlr
          ·obtain ⟨c', e1, e2, e3, H', S'⟩ := fresh us cap h6 (by cases sealed <;> simp)
           refine ⟨_, c', ?_, _, by rw [e2]; exact h, hrep c' e2 _ rfl e3, H', S'⟩
           rw [hu0, h1, e1]
           have hr := S2 ⟨B, 0, none⟩ l.length cap us (by rw [h6.length, hsz]) (fun j u hj => by rw [add_plain, cell_row h3, List.getElem?_append_left (List.getElem?_eq_some_iff.1 hj).1]; exact hj) (by omega) r2 (growslice_fits (by omega) (by rw [hib]; exact r3))
           rw [hr]
           congr 2
           simp
       ·exact h.elim
      ·exact h.elim
     ·exact h.elim
    ·exact h.elim
   ·exact h.elim
  ·exact h.elim
 ·exact h.elim
theorem fold_over (off : Nat) : ∀ (vs : List Value) (k : Nat) (us : Array Value), (vs.zipIdx k).foldl (fun cs (x : Value × Nat) => cs.setIfInBounds (off + x.2) x.1) us = (overV us.toList (off + k) vs).toArray
 | [], k, us => by simp [overV]
 | v :: r, k, us => by
   simp only [List.zipIdx_cons, List.foldl_cons]
   rw [fold_over off r (k + 1) (us.setIfInBounds (off + k) v)]
   simp [overV, Nat.add_assoc]
theorem fill_rep {c : Cx} {place : Nat → Option (Nat × Nat)} : ∀ {parts : List (Nat × D)} {vals : List (Nat × Value)} {cs cs' : List D} {us : List Value}, fillD place cs parts = some cs' → RepL c cs us →
 (parts.map (·.1) = vals.map (·.1) ∧ RepL c (parts.map (·.2)) (vals.map (·.2))) → ∃ us', Instr.fill place us.toArray vals = some us'.toArray ∧ RepL c cs' us'
 | [], vals, cs, cs', us, h, hr, hp => by
   simp only [fillD] at h
   cases h
   cases vals with
   | nil => exact ⟨us, rfl, hr⟩
   | cons v vs => simp at hp
 | (i, x) :: rest, vals, cs, cs', us, h, hr, hp => by
   cases vals with
   | nil => simp at hp
   | cons jv vals =>
     obtain ⟨j, v⟩ := jv
     simp only [List.map_cons, List.cons.injEq, RepL] at hp
     obtain ⟨⟨rfl, hp1⟩, u, us1, ⟨he1, he2⟩, hx, hp2⟩ := hp
     subst he1; subst he2
     simp only [fillD] at h
     split at h
     ·cases h
     ·rename_i off size hpl
      split at h
      ·rename_i hh
       obtain ⟨h1, h2, h3⟩ := hh
       have hc := cells_rep h3 hx
       have hcl := RepL_length hc
       have hul := RepL_length hr
       obtain ⟨us', g1, g2⟩ := fill_rep h (RepL_over (off := off) hc hr) ⟨hp1, hp2⟩
       refine ⟨us', ?_, g2⟩
       simp only [Instr.fill, hpl]
       have hcl' : v.cells.size = size := by rw [← h1, ← hcl]; simp
       rw [if_neg (by rw [hcl']; simp; omega)]
       have := fold_over off v.cells.toList 0 us.toArray
       simp only [Nat.add_zero] at this
       rw [← g1]
       congr 1
       rw [← this, ← Array.foldl_toList, Array.toList_zipIdx]
      ·cases h
theorem opds_parts {c : Cx} {st : St} {a : Act} (hr : RepL c st.tmps a.tmps.toList) (parts : List (Nat × Operand)) :
 (parts.map fun p => (p.1, st.opd p.2)).map (·.1) = (parts.map fun p => (p.1, a.eval p.2)).map (·.1) ∧ RepL c ((parts.map fun p => (p.1, st.opd p.2)).map (·.2)) ((parts.map fun p => (p.1, a.eval p.2)).map (·.2)) := by
 refine ⟨by simp, ?_⟩
 have := opds_rep hr (parts.map (·.2))
 simpa [List.map_map, Function.comp_def] using this
theorem ofVal_cells (c : Cx) (z : Value) : RepL c (ofVal z).cells z.cells.toList := by
 unfold ofVal
 split
 ·simp only [D.cells, Value.cells]; exact RepL_vals c _
 ·rename_i hz
  have : z.cells = #[z] := by cases z <;> first | rfl | exact absurd rfl (hz _)
  have h1 : (ofV1 z).cells = [ofV1 z] := by unfold ofV1; split <;> rfl
  rw [this, h1]
  simp only [RepL]
  exact ⟨z, [], rfl, ofV1_rep _ _, rfl⟩
theorem chunks_rep {c : Cx} {t : Ty} : ∀ {n : Nat} {ds : List D} {us : List Value} {l : List t.den}, chunks t n ds = some l → RepL c ds us → RepA c.w c.fr t l us ∧ l.length = n
 | 0, [], us, l, h, hr => by
   simp only [chunks] at h; cases h
   simp only [RepL] at hr; exact ⟨hr, rfl⟩
 | 0, d :: r, us, l, h, hr => by simp [chunks] at h
 | n + 1, ds, us, l, h, hr => by
   simp only [chunks] at h
   split at h
   ·rename_i x r hp
    split at h
    ·rename_i xs hc
     cases h
     obtain ⟨u, v, rfl, h1, h2⟩ := pack_rep hr hp
     obtain ⟨h3, h4⟩ := chunks_rep hc h2
     exact ⟨⟨u, v, rfl, h1, h3⟩, by simp [h4]⟩
    ·cases h
   ·cases h
theorem rep_zero (z : Array Value) : ∀ (len : Nat), 0 < z.size → ((Array.range (len * z.size)).map fun i => z[i % z.size]!).toList = (List.replicate len z.toList).flatten
 | 0, h => by simp
 | len + 1, h => by
   have ih := rep_zero z len h
   simp only [Array.toList_map, Array.toList_range] at ih ⊢
   rw [Nat.succ_mul, Nat.add_comm, List.range_add, List.map_append, List.replicate_succ, List.flatten_cons, ← ih]
   congr 1
   ·apply List.ext_getElem?
    intro i
    simp only [List.getElem?_map, List.getElem?_range', Array.getElem?_toList]
    rcases Nat.lt_or_ge i z.size with hi | hi
    ·simp [List.getElem?_range hi, Nat.mod_eq_of_lt hi, hi]
    ·simp [hi]
   ·rw [List.map_map]
    apply List.map_congr_left
    intro i _
    simp
theorem mk_frz {c : Cx} (H : HRep c) (ty : TypeId) (us : List Value) :
 ∃ c', c'.w = c.w.alloc (.cells us.toArray ty) ∧ c'.hp = c.hp ∧ HRep c' ∧ Stp c c' ∧ Quiet c c' ∧ HpLe c c' ∧ At c'.w c'.fr ⟨c.w.heap.size, 0, none⟩ us := by
 let c' : Cx := { c with w := c.w.alloc (.cells us.toArray ty), fr := fun a => c.fr a ∨ (a.block = c.w.heap.size) }
 have hold : ∀ i, i < c.w.heap.size → c'.w.heap[i]? = c.w.heap[i]? := fun i hi => Below.heap_alloc _ _ _ hi
 have hle : HpLe c c' := ⟨Nat.le_refl _, fun b _ => BLe.refl _ _, fun a ha => ⟨.inl ha, cell_of_heap (hold _ (H.frin a ha))⟩, rfl, rfl⟩
 have hsz : c.w.heap.size ≤ c'.w.heap.size := by simp [c']
 have hfr : ∀ a, c'.fr a → c.fr a ∨ c.w.heap.size ≤ a.block := fun a ha => ha.imp id fun h => by rw [h]; exact Nat.le_refl _
 refine ⟨c', rfl, rfl, H.grow hle rfl (fun _ _ => rfl) hold hsz hfr (fun a ha => ?_), Stp.grow hle rfl (fun _ _ => rfl) hold hsz hfr rfl rfl rfl, ⟨rfl, fun _ _ => rfl, hold⟩, hle, fun j u hj => ⟨.inr (by simp [add_block]), ?_⟩⟩
 ·rcases ha with ha | ha
  ·exact Nat.lt_of_lt_of_le (H.frin a ha) hsz
  ·show a.block < c'.w.heap.size
   rw [ha]; simp [c']
 ·rw [add_plain]
  show (c.w.alloc _).cell? _ = _
  simp [hj]
theorem run_build {P : Program} {w : World} {t : TypeId} {z : Value} {d : TypeDesc} {parts : Array (Nat × Value)} {place : Nat → Option (Nat × Nat)} {cells : Array Value} (hz : zeroOf P t = some z) (hd : und P t = some d)
 (hpl : (∃ fs, d = .struct fs ∧ ∀ i, place i = match fs[i]? with | some f => (szOf P f.type).map fun n => (f.offset, n) | none => none) ∨ ∃ n e m, d = .array n e ∧ szOf P e = some m ∧ ∀ i, place i = some (i * m, m))
 (hf : Instr.fill place z.cells parts.toList = some cells) (hall : ∀ fs, d = .struct fs → ∀ f ∈ fs, (szOf P f.type).isSome = true) : (Instr.build t parts).run P w = .ok (.agg cells) w := by
 have hd' : P.underlying t = some d := hd
 rcases hpl with ⟨fs, rfl, hp⟩ | ⟨n, e, m, rfl, hm, hp⟩
 ·have hmap : ∀ (l : List Field), (∀ f ∈ l, (szOf P f.type).isSome = true) → (l.mapM fun f => do pure (f.offset, ← sizeOf f.type) : Sem (List (Nat × Nat))).run P w = .ok (l.map fun f => (f.offset, (szOf P f.type).getD 0)) w := by
   intro l
   induction l with
   | nil => intro _; rfl
   | cons f l ih =>
     intro hl
     have h1 := hl f (by simp)
     obtain ⟨n, hn⟩ := Option.isSome_iff_exists.1 h1
     rw [List.mapM_cons]
     have ih' := ih (fun f hf => hl f (by simp [hf]))
     simp only [Sem.run_bind, szOf_run w hn, Result.andThen_ok, Sem.run_pure, ih', List.map_cons, hn, Option.getD_some]
  have hmapA : (fs.mapM fun f => do pure (f.offset, ← sizeOf f.type) : Sem (Array (Nat × Nat))).run P w = .ok (fs.map fun f => (f.offset, (szOf P f.type).getD 0)) w := by
   rw [Array.mapM_eq_mapM_toList]
   rw [Sem.run_map, hmap fs.toList (fun f hf => hall fs rfl f (by simpa using hf))]
   simp only [Result.andThen_ok]
   congr 1
   apply Array.ext'
   simp
  have hfill : Instr.fill (fun i => (fs.map fun f => (f.offset, (szOf P f.type).getD 0))[i]?) z.cells parts.toList = some cells := by
   rw [← hf]
   congr 1
   funext i
   rw [hp i, Array.getElem?_map]
   cases hi : fs[i]? with
   | none => rfl
   | some f =>
     obtain ⟨n, hn⟩ := Option.isSome_iff_exists.1 (hall fs rfl f (Array.mem_of_getElem? hi))
     simp [hn]
  simp only [Instr.build, Sem.run_bind, zeroOf_run w hz, Result.andThen_ok, run_underlying hd', hmapA, hfill]
  rfl
 ·have hfill : Instr.fill (fun i => some (i * m, m)) z.cells parts.toList = some cells := by
   rw [← hf]; congr 1; funext i; rw [hp i]
  simp only [Instr.build, Sem.run_bind, zeroOf_run w hz, Result.andThen_ok, run_underlying hd', szOf_run w hm, hfill]
  rfl
end Go.Aw
