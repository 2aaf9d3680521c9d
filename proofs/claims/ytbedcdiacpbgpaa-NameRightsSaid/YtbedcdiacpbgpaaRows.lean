/-
  No cell of these rows narrows 'for every input' (looked for: loops, veiled, ifaces, maps, wideKeys, modest, calm, conditions, laid).
  DERIVED. THE GIVEN ROWS OF THIS SEAT. 11 by the template 'for every input the law returns true; each argument reads behind the call as it read before'; 0 by the template 'total and deterministic' (their statements: YtbedcdiacpbgpaaTotals.lean).
  GIVEN WITH THE SEED: the statements are not yours to turn. If you find one false, say at which input.
  Laid BY PROGRAM, IN A SANDBOX (cutbox-rows.mjs): the forced cells as the released guide's own fill.sh prints them over the translation 82cc3bffc6a81b6d… (all of the seat's roots in one cut). By AI agents, Wed Nov 11 2026. No macro, syntax, notation, axiom, sorry.
-/
import Derived.Test.YtbedcdiacpbgpaaChecked
import GoSem.Claim
import GoSem.ClaimJoined
import GoSem.ClaimMapViews
import Derived.JoinedTies
import Derived.KernelRfl
namespace Go.Proofs.Ytbedcdiacpbgpaa
/- THE CELL 'sum', in the pinned program and in every row, IS THE sha256 OF THE DUMP (.gsa) THAT YtbedcdiacpbgpaaProg.lean LOADS. Nothing in Lean hashes anything: it is a label: what it is worth is what the hold of that sum in a sandbox is worth. -/
noncomputable def Try.pinned : Pinned := { name := "ytbedcdiacpbgpaa", sum := "82cc3bffc6a81b6d0615817275e183aa9f913cb1950370d4feb2ddf5a92e17bd", checked := Try.checked }
namespace Rows
def none {H : Type} : Left H := { results := [], args := [] }

/-- 'dyehouselaw04.NameRights': WHATEVER THE INPUT: true; the input reads as it did. -/
def nameRightsSpec : ChangeSpec := { name := "nameRights", fn := fun _ => fun
  | [d1, d2, d3] => { results := [.lit (.bool true)], args := [d1, d2, d3] }
  | _ => none }
def nameRightsRow : OpenClaim := { program := "ytbedcdiacpbgpaa", sum := "82cc3bffc6a81b6d0615817275e183aa9f913cb1950370d4feb2ddf5a92e17bd", func := "dyehouse/dyehouselaw04.NameRights", spec := "nameRights", unfollowed := true, recurses := true, apart := false }
def NameRightsSaid : Prop := nameRightsRow.holds Try.pinned (OpenSpec.ofChange nameRightsSpec)

/-- ITS FALSE NEIGHBOUR: 'it returns false'. Refute it at one input. -/
def nameRightsWrong : ChangeSpec := { name := "nameRights", fn := fun _ => fun
  | [d1, d2, d3] => { results := [.lit (.bool false)], args := [d1, d2, d3] }
  | _ => none }
def NameRightsWrongFalsely : Prop := nameRightsRow.holds Try.pinned (OpenSpec.ofChange nameRightsWrong)

/-- 'dyehouselaw04.NameEdges': WHATEVER THE INPUT: true; the input reads as it did. -/
def nameEdgesSpec : ChangeSpec := { name := "nameEdges", fn := fun _ => fun
  | [d1, d2, d3, d4] => { results := [.lit (.bool true)], args := [d1, d2, d3, d4] }
  | _ => none }
def nameEdgesRow : OpenClaim := { program := "ytbedcdiacpbgpaa", sum := "82cc3bffc6a81b6d0615817275e183aa9f913cb1950370d4feb2ddf5a92e17bd", func := "dyehouse/dyehouselaw04.NameEdges", spec := "nameEdges", unfollowed := true, recurses := true, apart := false }
def NameEdgesSaid : Prop := nameEdgesRow.holds Try.pinned (OpenSpec.ofChange nameEdgesSpec)

/-- ITS FALSE NEIGHBOUR: 'it returns false'. Refute it at one input. -/
def nameEdgesWrong : ChangeSpec := { name := "nameEdges", fn := fun _ => fun
  | [d1, d2, d3, d4] => { results := [.lit (.bool false)], args := [d1, d2, d3, d4] }
  | _ => none }
def NameEdgesWrongFalsely : Prop := nameEdgesRow.holds Try.pinned (OpenSpec.ofChange nameEdgesWrong)

/-- 'dyehouselaw04.NameFresh': WHATEVER THE INPUT: true; the input reads as it did. -/
def nameFreshSpec : ChangeSpec := { name := "nameFresh", fn := fun _ => fun
  | [d1, d2] => { results := [.lit (.bool true)], args := [d1, d2] }
  | _ => none }
def nameFreshRow : OpenClaim := { program := "ytbedcdiacpbgpaa", sum := "82cc3bffc6a81b6d0615817275e183aa9f913cb1950370d4feb2ddf5a92e17bd", func := "dyehouse/dyehouselaw04.NameFresh", spec := "nameFresh", unfollowed := true, recurses := true, apart := false }
def NameFreshSaid : Prop := nameFreshRow.holds Try.pinned (OpenSpec.ofChange nameFreshSpec)

/-- ITS FALSE NEIGHBOUR: 'it returns false'. Refute it at one input. -/
def nameFreshWrong : ChangeSpec := { name := "nameFresh", fn := fun _ => fun
  | [d1, d2] => { results := [.lit (.bool false)], args := [d1, d2] }
  | _ => none }
def NameFreshWrongFalsely : Prop := nameFreshRow.holds Try.pinned (OpenSpec.ofChange nameFreshWrong)

/-- 'dyehouselaw01.NumDoes': WHATEVER THE INPUT: true; the input reads as it did. -/
def numDoesSpec : ChangeSpec := { name := "numDoes", fn := fun _ => fun
  | [d1, d2, d3] => { results := [.lit (.bool true)], args := [d1, d2, d3] }
  | _ => none }
def numDoesRow : OpenClaim := { program := "ytbedcdiacpbgpaa", sum := "82cc3bffc6a81b6d0615817275e183aa9f913cb1950370d4feb2ddf5a92e17bd", func := "dyehouse/dyehouselaw01.NumDoes", spec := "numDoes", apart := false }
def NumDoesSaid : Prop := numDoesRow.holds Try.pinned (OpenSpec.ofChange numDoesSpec)

/-- ITS FALSE NEIGHBOUR: 'it returns false'. Refute it at one input. -/
def numDoesWrong : ChangeSpec := { name := "numDoes", fn := fun _ => fun
  | [d1, d2, d3] => { results := [.lit (.bool false)], args := [d1, d2, d3] }
  | _ => none }
def NumDoesWrongFalsely : Prop := numDoesRow.holds Try.pinned (OpenSpec.ofChange numDoesWrong)

/-- 'dyehouselaw01.NumRing': WHATEVER THE INPUT: true; the input reads as it did. -/
def numRingSpec : ChangeSpec := { name := "numRing", fn := fun _ => fun
  | [d1, d2, d3] => { results := [.lit (.bool true)], args := [d1, d2, d3] }
  | _ => none }
def numRingRow : OpenClaim := { program := "ytbedcdiacpbgpaa", sum := "82cc3bffc6a81b6d0615817275e183aa9f913cb1950370d4feb2ddf5a92e17bd", func := "dyehouse/dyehouselaw01.NumRing", spec := "numRing", unfollowed := true, recurses := true, apart := false }
def NumRingSaid : Prop := numRingRow.holds Try.pinned (OpenSpec.ofChange numRingSpec)

/-- ITS FALSE NEIGHBOUR: 'it returns false'. Refute it at one input. -/
def numRingWrong : ChangeSpec := { name := "numRing", fn := fun _ => fun
  | [d1, d2, d3] => { results := [.lit (.bool false)], args := [d1, d2, d3] }
  | _ => none }
def NumRingWrongFalsely : Prop := numRingRow.holds Try.pinned (OpenSpec.ofChange numRingWrong)

/-- 'dyehouselaw01.NumDivides': WHATEVER THE INPUT: true; the input reads as it did. -/
def numDividesSpec : ChangeSpec := { name := "numDivides", fn := fun _ => fun
  | [d1, d2] => { results := [.lit (.bool true)], args := [d1, d2] }
  | _ => none }
def numDividesRow : OpenClaim := { program := "ytbedcdiacpbgpaa", sum := "82cc3bffc6a81b6d0615817275e183aa9f913cb1950370d4feb2ddf5a92e17bd", func := "dyehouse/dyehouselaw01.NumDivides", spec := "numDivides", apart := false }
def NumDividesSaid : Prop := numDividesRow.holds Try.pinned (OpenSpec.ofChange numDividesSpec)

/-- ITS FALSE NEIGHBOUR: 'it returns false'. Refute it at one input. -/
def numDividesWrong : ChangeSpec := { name := "numDivides", fn := fun _ => fun
  | [d1, d2] => { results := [.lit (.bool false)], args := [d1, d2] }
  | _ => none }
def NumDividesWrongFalsely : Prop := numDividesRow.holds Try.pinned (OpenSpec.ofChange numDividesWrong)

/-- 'dyehouselaw01.NumFolds': WHATEVER THE INPUT: true; the input reads as it did. -/
def numFoldsSpec : ChangeSpec := { name := "numFolds", fn := fun _ => fun
  | [d1, d2, d3] => { results := [.lit (.bool true)], args := [d1, d2, d3] }
  | _ => none }
def numFoldsRow : OpenClaim := { program := "ytbedcdiacpbgpaa", sum := "82cc3bffc6a81b6d0615817275e183aa9f913cb1950370d4feb2ddf5a92e17bd", func := "dyehouse/dyehouselaw01.NumFolds", spec := "numFolds", apart := false }
def NumFoldsSaid : Prop := numFoldsRow.holds Try.pinned (OpenSpec.ofChange numFoldsSpec)

/-- ITS FALSE NEIGHBOUR: 'it returns false'. Refute it at one input. -/
def numFoldsWrong : ChangeSpec := { name := "numFolds", fn := fun _ => fun
  | [d1, d2, d3] => { results := [.lit (.bool false)], args := [d1, d2, d3] }
  | _ => none }
def NumFoldsWrongFalsely : Prop := numFoldsRow.holds Try.pinned (OpenSpec.ofChange numFoldsWrong)

/-- 'dyehouselaw01.NumShifts': WHATEVER THE INPUT: true; the input reads as it did. -/
def numShiftsSpec : ChangeSpec := { name := "numShifts", fn := fun _ => fun
  | [d1, d2] => { results := [.lit (.bool true)], args := [d1, d2] }
  | _ => none }
def numShiftsRow : OpenClaim := { program := "ytbedcdiacpbgpaa", sum := "82cc3bffc6a81b6d0615817275e183aa9f913cb1950370d4feb2ddf5a92e17bd", func := "dyehouse/dyehouselaw01.NumShifts", spec := "numShifts", apart := false }
def NumShiftsSaid : Prop := numShiftsRow.holds Try.pinned (OpenSpec.ofChange numShiftsSpec)

/-- ITS FALSE NEIGHBOUR: 'it returns false'. Refute it at one input. -/
def numShiftsWrong : ChangeSpec := { name := "numShifts", fn := fun _ => fun
  | [d1, d2] => { results := [.lit (.bool false)], args := [d1, d2] }
  | _ => none }
def NumShiftsWrongFalsely : Prop := numShiftsRow.holds Try.pinned (OpenSpec.ofChange numShiftsWrong)

/-- 'dyehouselaw02.DeciPuts': WHATEVER THE INPUT: true; the input reads as it did. -/
def deciPutsSpec : ChangeSpec := { name := "deciPuts", fn := fun _ => fun
  | [d1, d2] => { results := [.lit (.bool true)], args := [d1, d2] }
  | _ => none }
def deciPutsRow : OpenClaim := { program := "ytbedcdiacpbgpaa", sum := "82cc3bffc6a81b6d0615817275e183aa9f913cb1950370d4feb2ddf5a92e17bd", func := "dyehouse/dyehouselaw02.DeciPuts", spec := "deciPuts", apart := false }
def DeciPutsSaid : Prop := deciPutsRow.holds Try.pinned (OpenSpec.ofChange deciPutsSpec)

/-- ITS FALSE NEIGHBOUR: 'it returns false'. Refute it at one input. -/
def deciPutsWrong : ChangeSpec := { name := "deciPuts", fn := fun _ => fun
  | [d1, d2] => { results := [.lit (.bool false)], args := [d1, d2] }
  | _ => none }
def DeciPutsWrongFalsely : Prop := deciPutsRow.holds Try.pinned (OpenSpec.ofChange deciPutsWrong)

/-- 'dyehouselaw02.DeciScans': WHATEVER THE INPUT: true; the input reads as it did. -/
def deciScansSpec : ChangeSpec := { name := "deciScans", fn := fun _ => fun
  | [d1, d2] => { results := [.lit (.bool true)], args := [d1, d2] }
  | _ => none }
def deciScansRow : OpenClaim := { program := "ytbedcdiacpbgpaa", sum := "82cc3bffc6a81b6d0615817275e183aa9f913cb1950370d4feb2ddf5a92e17bd", func := "dyehouse/dyehouselaw02.DeciScans", spec := "deciScans", apart := false }
def DeciScansSaid : Prop := deciScansRow.holds Try.pinned (OpenSpec.ofChange deciScansSpec)

/-- ITS FALSE NEIGHBOUR: 'it returns false'. Refute it at one input. -/
def deciScansWrong : ChangeSpec := { name := "deciScans", fn := fun _ => fun
  | [d1, d2] => { results := [.lit (.bool false)], args := [d1, d2] }
  | _ => none }
def DeciScansWrongFalsely : Prop := deciScansRow.holds Try.pinned (OpenSpec.ofChange deciScansWrong)

/-- 'dyehouselaw02.DeciBack': WHATEVER THE INPUT: true; the input reads as it did. -/
def deciBackSpec : ChangeSpec := { name := "deciBack", fn := fun _ => fun
  | [d1, d2, d3] => { results := [.lit (.bool true)], args := [d1, d2, d3] }
  | _ => none }
def deciBackRow : OpenClaim := { program := "ytbedcdiacpbgpaa", sum := "82cc3bffc6a81b6d0615817275e183aa9f913cb1950370d4feb2ddf5a92e17bd", func := "dyehouse/dyehouselaw02.DeciBack", spec := "deciBack", apart := false }
def DeciBackSaid : Prop := deciBackRow.holds Try.pinned (OpenSpec.ofChange deciBackSpec)

/-- ITS FALSE NEIGHBOUR: 'it returns false'. Refute it at one input. -/
def deciBackWrong : ChangeSpec := { name := "deciBack", fn := fun _ => fun
  | [d1, d2, d3] => { results := [.lit (.bool false)], args := [d1, d2, d3] }
  | _ => none }
def DeciBackWrongFalsely : Prop := deciBackRow.holds Try.pinned (OpenSpec.ofChange deciBackWrong)

/- THE SECOND FORM. 'bulk': how many values and letters a reading holds, each counted each time it is reached (what is shared counts as often as it is met; a slice's spare places count too). A statement '..UptoSaid' is the law's where the arguments, and the package variables that the reading takes, are together of bulk at most 1048576: NARROWER than '..Said'. Prove '..Said' where nothing that the law and all that it calls make is longer than what came in: it says more and counts as full. Else prove '..UptoSaid'. A law counts once. -/
mutual
def uptoBulk {H : Type} : DataW H → Nat
  | .lit (.string bytes) => bytes.length + 1
  | .lit _ => 1
  | .nil => 1
  | .ptr d => uptoBulk d + 1
  | .slice elems spare => uptoBulkAll elems + uptoBulkAll spare + 1
  | .agg parts => uptoBulkAll parts + 1
  | .iface _ d => uptoBulk d + 1
  | .map entries => uptoBulkEntries entries + 1
  | .held _ => 1
def uptoBulkAll {H : Type} : List (DataW H) → Nat
  | [] => 0
  | d :: r => uptoBulk d + uptoBulkAll r
def uptoBulkEntries {H : Type} : List (Lit × DataW H) → Nat
  | [] => 0
  | x :: r => uptoBulkEntry x + uptoBulkEntries r
def uptoBulkEntry {H : Type} : Lit × DataW H → Nat
  | (.string bytes, d) => bytes.length + uptoBulk d + 1
  | (_, d) => uptoBulk d + 1
 end
def uptoSmall : (H : Type) → List (DataW H) → Bool := fun _ ds => decide (uptoBulkAll ds ≤ 1048576)
def OpenSpec.upto (s : _root_.Go.ChangeSpec) : _root_.Go.OpenSpec := { _root_.Go.OpenSpec.ofChange s with cond := some uptoSmall }

/-- 'dyehouselaw04.NameRights', WHERE WHAT IT READS IS OF BULK AT MOST 1048576: true; the input reads as it did. -/
def nameRightsUptoRow : OpenClaim := { program := "ytbedcdiacpbgpaa", sum := "82cc3bffc6a81b6d0615817275e183aa9f913cb1950370d4feb2ddf5a92e17bd", func := "dyehouse/dyehouselaw04.NameRights", spec := "nameRights", unfollowed := true, recurses := true, apart := false, narrowed := true }
def NameRightsUptoSaid : Prop := nameRightsUptoRow.holds Try.pinned (OpenSpec.upto nameRightsSpec)

/-- 'dyehouselaw04.NameEdges', WHERE WHAT IT READS IS OF BULK AT MOST 1048576: true; the input reads as it did. -/
def nameEdgesUptoRow : OpenClaim := { program := "ytbedcdiacpbgpaa", sum := "82cc3bffc6a81b6d0615817275e183aa9f913cb1950370d4feb2ddf5a92e17bd", func := "dyehouse/dyehouselaw04.NameEdges", spec := "nameEdges", unfollowed := true, recurses := true, apart := false, narrowed := true }
def NameEdgesUptoSaid : Prop := nameEdgesUptoRow.holds Try.pinned (OpenSpec.upto nameEdgesSpec)

/-- 'dyehouselaw04.NameFresh', WHERE WHAT IT READS IS OF BULK AT MOST 1048576: true; the input reads as it did. -/
def nameFreshUptoRow : OpenClaim := { program := "ytbedcdiacpbgpaa", sum := "82cc3bffc6a81b6d0615817275e183aa9f913cb1950370d4feb2ddf5a92e17bd", func := "dyehouse/dyehouselaw04.NameFresh", spec := "nameFresh", unfollowed := true, recurses := true, apart := false, narrowed := true }
def NameFreshUptoSaid : Prop := nameFreshUptoRow.holds Try.pinned (OpenSpec.upto nameFreshSpec)

/-- 'dyehouselaw01.NumDoes', WHERE WHAT IT READS IS OF BULK AT MOST 1048576: true; the input reads as it did. -/
def numDoesUptoRow : OpenClaim := { program := "ytbedcdiacpbgpaa", sum := "82cc3bffc6a81b6d0615817275e183aa9f913cb1950370d4feb2ddf5a92e17bd", func := "dyehouse/dyehouselaw01.NumDoes", spec := "numDoes", apart := false, narrowed := true }
def NumDoesUptoSaid : Prop := numDoesUptoRow.holds Try.pinned (OpenSpec.upto numDoesSpec)

/-- 'dyehouselaw01.NumRing', WHERE WHAT IT READS IS OF BULK AT MOST 1048576: true; the input reads as it did. -/
def numRingUptoRow : OpenClaim := { program := "ytbedcdiacpbgpaa", sum := "82cc3bffc6a81b6d0615817275e183aa9f913cb1950370d4feb2ddf5a92e17bd", func := "dyehouse/dyehouselaw01.NumRing", spec := "numRing", unfollowed := true, recurses := true, apart := false, narrowed := true }
def NumRingUptoSaid : Prop := numRingUptoRow.holds Try.pinned (OpenSpec.upto numRingSpec)

/-- 'dyehouselaw01.NumDivides', WHERE WHAT IT READS IS OF BULK AT MOST 1048576: true; the input reads as it did. -/
def numDividesUptoRow : OpenClaim := { program := "ytbedcdiacpbgpaa", sum := "82cc3bffc6a81b6d0615817275e183aa9f913cb1950370d4feb2ddf5a92e17bd", func := "dyehouse/dyehouselaw01.NumDivides", spec := "numDivides", apart := false, narrowed := true }
def NumDividesUptoSaid : Prop := numDividesUptoRow.holds Try.pinned (OpenSpec.upto numDividesSpec)

/-- 'dyehouselaw01.NumFolds', WHERE WHAT IT READS IS OF BULK AT MOST 1048576: true; the input reads as it did. -/
def numFoldsUptoRow : OpenClaim := { program := "ytbedcdiacpbgpaa", sum := "82cc3bffc6a81b6d0615817275e183aa9f913cb1950370d4feb2ddf5a92e17bd", func := "dyehouse/dyehouselaw01.NumFolds", spec := "numFolds", apart := false, narrowed := true }
def NumFoldsUptoSaid : Prop := numFoldsUptoRow.holds Try.pinned (OpenSpec.upto numFoldsSpec)

/-- 'dyehouselaw01.NumShifts', WHERE WHAT IT READS IS OF BULK AT MOST 1048576: true; the input reads as it did. -/
def numShiftsUptoRow : OpenClaim := { program := "ytbedcdiacpbgpaa", sum := "82cc3bffc6a81b6d0615817275e183aa9f913cb1950370d4feb2ddf5a92e17bd", func := "dyehouse/dyehouselaw01.NumShifts", spec := "numShifts", apart := false, narrowed := true }
def NumShiftsUptoSaid : Prop := numShiftsUptoRow.holds Try.pinned (OpenSpec.upto numShiftsSpec)

/-- 'dyehouselaw02.DeciPuts', WHERE WHAT IT READS IS OF BULK AT MOST 1048576: true; the input reads as it did. -/
def deciPutsUptoRow : OpenClaim := { program := "ytbedcdiacpbgpaa", sum := "82cc3bffc6a81b6d0615817275e183aa9f913cb1950370d4feb2ddf5a92e17bd", func := "dyehouse/dyehouselaw02.DeciPuts", spec := "deciPuts", apart := false, narrowed := true }
def DeciPutsUptoSaid : Prop := deciPutsUptoRow.holds Try.pinned (OpenSpec.upto deciPutsSpec)

/-- 'dyehouselaw02.DeciScans', WHERE WHAT IT READS IS OF BULK AT MOST 1048576: true; the input reads as it did. -/
def deciScansUptoRow : OpenClaim := { program := "ytbedcdiacpbgpaa", sum := "82cc3bffc6a81b6d0615817275e183aa9f913cb1950370d4feb2ddf5a92e17bd", func := "dyehouse/dyehouselaw02.DeciScans", spec := "deciScans", apart := false, narrowed := true }
def DeciScansUptoSaid : Prop := deciScansUptoRow.holds Try.pinned (OpenSpec.upto deciScansSpec)

/-- 'dyehouselaw02.DeciBack', WHERE WHAT IT READS IS OF BULK AT MOST 1048576: true; the input reads as it did. -/
def deciBackUptoRow : OpenClaim := { program := "ytbedcdiacpbgpaa", sum := "82cc3bffc6a81b6d0615817275e183aa9f913cb1950370d4feb2ddf5a92e17bd", func := "dyehouse/dyehouselaw02.DeciBack", spec := "deciBack", apart := false, narrowed := true }
def DeciBackUptoSaid : Prop := deciBackUptoRow.holds Try.pinned (OpenSpec.upto deciBackSpec)

end Rows
end Go.Proofs.Ytbedcdiacpbgpaa
