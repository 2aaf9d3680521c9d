/-
  No cell of these rows narrows 'for every input' (looked for: loops, veiled, ifaces, maps, wideKeys, modest, calm, conditions, laid).
  DERIVED. THE GIVEN ROWS OF THIS SEAT. 5 by the template 'for every input the law returns true; each argument reads behind the call as it read before'; 0 by the template 'total and deterministic' (their statements: YtidclggijmbffaaTotals.lean).
  GIVEN WITH THE SEED: the statements are not yours to turn. If you find one false, say at which input.
  Laid BY PROGRAM, IN A SANDBOX (cutbox-rows.mjs): the forced cells as the released guide's own fill.sh prints them over the translation b0a2e71de6bbe34d… (all of the seat's roots in one cut). By AI agents, Wed Nov 11 2026. No macro, syntax, notation, axiom, sorry.
-/
import Derived.Test.YtidclggijmbffaaChecked
import GoSem.Claim
import GoSem.ClaimJoined
import GoSem.ClaimMapViews
import Derived.JoinedTies
import Derived.KernelRfl
namespace Go.Proofs.Ytidclggijmbffaa
/- THE CELL 'sum', in the pinned program and in every row, IS THE sha256 OF THE DUMP (.gsa) THAT YtidclggijmbffaaProg.lean LOADS. Nothing in Lean hashes anything: it is a label: what it is worth is what the hold of that sum in a sandbox is worth. -/
noncomputable def Try.pinned : Pinned := { name := "ytidclggijmbffaa", sum := "b0a2e71de6bbe34d9d9225ef4d90a174064acf8a5bd82a14584510b78bc9345c", checked := Try.checked }
namespace Rows
def none {H : Type} : Left H := { results := [], args := [] }

/-- 'dyehouselaw14.ShowFuncs': WHATEVER THE INPUT: true; the input reads as it did. -/
def showFuncsSpec : ChangeSpec := { name := "showFuncs", fn := fun _ => fun
  | [d] => { results := [.lit (.bool true)], args := [d] }
  | _ => none }
def showFuncsRow : OpenClaim := { program := "ytidclggijmbffaa", sum := "b0a2e71de6bbe34d9d9225ef4d90a174064acf8a5bd82a14584510b78bc9345c", func := "dyehouse/dyehouselaw14.ShowFuncs", spec := "showFuncs", inPlace := ["internal/abi.NoEscape", "internal/bytealg.MakeNoZero"], unfollowed := true, recurses := true, apart := false }
def ShowFuncsSaid : Prop := showFuncsRow.holds Try.pinned (OpenSpec.ofChange showFuncsSpec)

/-- ITS FALSE NEIGHBOUR: 'it returns false'. Refute it at one input. -/
def showFuncsWrong : ChangeSpec := { name := "showFuncs", fn := fun _ => fun
  | [d] => { results := [.lit (.bool false)], args := [d] }
  | _ => none }
def ShowFuncsWrongFalsely : Prop := showFuncsRow.holds Try.pinned (OpenSpec.ofChange showFuncsWrong)

/-- 'dyehouselaw14.ShowInstrs': WHATEVER THE INPUT: true; the input reads as it did. -/
def showInstrsSpec : ChangeSpec := { name := "showInstrs", fn := fun _ => fun
  | [d1, d2] => { results := [.lit (.bool true)], args := [d1, d2] }
  | _ => none }
def showInstrsRow : OpenClaim := { program := "ytidclggijmbffaa", sum := "b0a2e71de6bbe34d9d9225ef4d90a174064acf8a5bd82a14584510b78bc9345c", func := "dyehouse/dyehouselaw14.ShowInstrs", spec := "showInstrs", inPlace := ["internal/abi.NoEscape", "internal/bytealg.MakeNoZero"], unfollowed := true, recurses := true, apart := false }
def ShowInstrsSaid : Prop := showInstrsRow.holds Try.pinned (OpenSpec.ofChange showInstrsSpec)

/-- ITS FALSE NEIGHBOUR: 'it returns false'. Refute it at one input. -/
def showInstrsWrong : ChangeSpec := { name := "showInstrs", fn := fun _ => fun
  | [d1, d2] => { results := [.lit (.bool false)], args := [d1, d2] }
  | _ => none }
def ShowInstrsWrongFalsely : Prop := showInstrsRow.holds Try.pinned (OpenSpec.ofChange showInstrsWrong)

/-- 'dyehouselaw14.ShowBlocks': WHATEVER THE INPUT: true; the input reads as it did. -/
def showBlocksSpec : ChangeSpec := { name := "showBlocks", fn := fun _ => fun
  | [d] => { results := [.lit (.bool true)], args := [d] }
  | _ => none }
def showBlocksRow : OpenClaim := { program := "ytidclggijmbffaa", sum := "b0a2e71de6bbe34d9d9225ef4d90a174064acf8a5bd82a14584510b78bc9345c", func := "dyehouse/dyehouselaw14.ShowBlocks", spec := "showBlocks", inPlace := ["internal/abi.NoEscape", "internal/bytealg.MakeNoZero"], unfollowed := true, recurses := true, apart := false }
def ShowBlocksSaid : Prop := showBlocksRow.holds Try.pinned (OpenSpec.ofChange showBlocksSpec)

/-- ITS FALSE NEIGHBOUR: 'it returns false'. Refute it at one input. -/
def showBlocksWrong : ChangeSpec := { name := "showBlocks", fn := fun _ => fun
  | [d] => { results := [.lit (.bool false)], args := [d] }
  | _ => none }
def ShowBlocksWrongFalsely : Prop := showBlocksRow.holds Try.pinned (OpenSpec.ofChange showBlocksWrong)

/-- 'dyehouselaw15.NoteUnits': WHATEVER THE INPUT: true; the input reads as it did. -/
def noteUnitsSpec : ChangeSpec := { name := "noteUnits", fn := fun _ => fun
  | [d] => { results := [.lit (.bool true)], args := [d] }
  | _ => none }
def noteUnitsRow : OpenClaim := { program := "ytidclggijmbffaa", sum := "b0a2e71de6bbe34d9d9225ef4d90a174064acf8a5bd82a14584510b78bc9345c", func := "dyehouse/dyehouselaw15.NoteUnits", spec := "noteUnits", inPlace := ["internal/abi.NoEscape", "internal/bytealg.MakeNoZero"], unfollowed := true, recurses := true, apart := false }
def NoteUnitsSaid : Prop := noteUnitsRow.holds Try.pinned (OpenSpec.ofChange noteUnitsSpec)

/-- ITS FALSE NEIGHBOUR: 'it returns false'. Refute it at one input. -/
def noteUnitsWrong : ChangeSpec := { name := "noteUnits", fn := fun _ => fun
  | [d] => { results := [.lit (.bool false)], args := [d] }
  | _ => none }
def NoteUnitsWrongFalsely : Prop := noteUnitsRow.holds Try.pinned (OpenSpec.ofChange noteUnitsWrong)

/-- 'dyehouselaw15.NoteParts': WHATEVER THE INPUT: true; the input reads as it did. -/
def notePartsSpec : ChangeSpec := { name := "noteParts", fn := fun _ => fun
  | [d1, d2] => { results := [.lit (.bool true)], args := [d1, d2] }
  | _ => none }
def notePartsRow : OpenClaim := { program := "ytidclggijmbffaa", sum := "b0a2e71de6bbe34d9d9225ef4d90a174064acf8a5bd82a14584510b78bc9345c", func := "dyehouse/dyehouselaw15.NoteParts", spec := "noteParts", inPlace := ["internal/abi.NoEscape", "internal/bytealg.MakeNoZero"], unfollowed := true, recurses := true, apart := false }
def NotePartsSaid : Prop := notePartsRow.holds Try.pinned (OpenSpec.ofChange notePartsSpec)

/-- ITS FALSE NEIGHBOUR: 'it returns false'. Refute it at one input. -/
def notePartsWrong : ChangeSpec := { name := "noteParts", fn := fun _ => fun
  | [d1, d2] => { results := [.lit (.bool false)], args := [d1, d2] }
  | _ => none }
def NotePartsWrongFalsely : Prop := notePartsRow.holds Try.pinned (OpenSpec.ofChange notePartsWrong)

/- THE SECOND FORM. 'bulk': how many values and letters a reading holds, each counted each time it is reached (what is shared counts as often as it is met; a slice's spare places count too). A statement '..UptoSaid' is the law's where the arguments, and the package variables that the reading takes, are together of bulk at most 1048576: NARROWER than '..Said'. Prove '..Said' where nothing that the law and all that it calls make is longer than what came in: it says more and counts as full. Else prove '..UptoSaid'. A law counts once. -/
mutual
def uptoBulk {H : Type} : DataW H → Nat
  | .lit (.string bytes) => bytes.length + 1
  | .lit _ => 1
  | .nil => 1
  | .ptr d => uptoBulk d + 1
  | .slice elems spare => uptoBulkAll elems + uptoBulkAll spare + 1
  | .agg parts => uptoBulkAll parts + 1
  | .iface _ d => uptoBulk d + 1
  | .map entries => uptoBulkEntries entries + 1
  | .held _ => 1
def uptoBulkAll {H : Type} : List (DataW H) → Nat
  | [] => 0
  | d :: r => uptoBulk d + uptoBulkAll r
def uptoBulkEntries {H : Type} : List (Lit × DataW H) → Nat
  | [] => 0
  | x :: r => uptoBulkEntry x + uptoBulkEntries r
def uptoBulkEntry {H : Type} : Lit × DataW H → Nat
  | (.string bytes, d) => bytes.length + uptoBulk d + 1
  | (_, d) => uptoBulk d + 1
 end
def uptoSmall : (H : Type) → List (DataW H) → Bool := fun _ ds => decide (uptoBulkAll ds ≤ 1048576)
def OpenSpec.upto (s : _root_.Go.ChangeSpec) : _root_.Go.OpenSpec := { _root_.Go.OpenSpec.ofChange s with cond := some uptoSmall }

/-- 'dyehouselaw14.ShowFuncs', WHERE WHAT IT READS IS OF BULK AT MOST 1048576: true; the input reads as it did. -/
def showFuncsUptoRow : OpenClaim := { program := "ytidclggijmbffaa", sum := "b0a2e71de6bbe34d9d9225ef4d90a174064acf8a5bd82a14584510b78bc9345c", func := "dyehouse/dyehouselaw14.ShowFuncs", spec := "showFuncs", inPlace := ["internal/abi.NoEscape", "internal/bytealg.MakeNoZero"], unfollowed := true, recurses := true, apart := false, narrowed := true }
def ShowFuncsUptoSaid : Prop := showFuncsUptoRow.holds Try.pinned (OpenSpec.upto showFuncsSpec)

/-- 'dyehouselaw14.ShowInstrs', WHERE WHAT IT READS IS OF BULK AT MOST 1048576: true; the input reads as it did. -/
def showInstrsUptoRow : OpenClaim := { program := "ytidclggijmbffaa", sum := "b0a2e71de6bbe34d9d9225ef4d90a174064acf8a5bd82a14584510b78bc9345c", func := "dyehouse/dyehouselaw14.ShowInstrs", spec := "showInstrs", inPlace := ["internal/abi.NoEscape", "internal/bytealg.MakeNoZero"], unfollowed := true, recurses := true, apart := false, narrowed := true }
def ShowInstrsUptoSaid : Prop := showInstrsUptoRow.holds Try.pinned (OpenSpec.upto showInstrsSpec)

/-- 'dyehouselaw14.ShowBlocks', WHERE WHAT IT READS IS OF BULK AT MOST 1048576: true; the input reads as it did. -/
def showBlocksUptoRow : OpenClaim := { program := "ytidclggijmbffaa", sum := "b0a2e71de6bbe34d9d9225ef4d90a174064acf8a5bd82a14584510b78bc9345c", func := "dyehouse/dyehouselaw14.ShowBlocks", spec := "showBlocks", inPlace := ["internal/abi.NoEscape", "internal/bytealg.MakeNoZero"], unfollowed := true, recurses := true, apart := false, narrowed := true }
def ShowBlocksUptoSaid : Prop := showBlocksUptoRow.holds Try.pinned (OpenSpec.upto showBlocksSpec)

/-- 'dyehouselaw15.NoteUnits', WHERE WHAT IT READS IS OF BULK AT MOST 1048576: true; the input reads as it did. -/
def noteUnitsUptoRow : OpenClaim := { program := "ytidclggijmbffaa", sum := "b0a2e71de6bbe34d9d9225ef4d90a174064acf8a5bd82a14584510b78bc9345c", func := "dyehouse/dyehouselaw15.NoteUnits", spec := "noteUnits", inPlace := ["internal/abi.NoEscape", "internal/bytealg.MakeNoZero"], unfollowed := true, recurses := true, apart := false, narrowed := true }
def NoteUnitsUptoSaid : Prop := noteUnitsUptoRow.holds Try.pinned (OpenSpec.upto noteUnitsSpec)

/-- 'dyehouselaw15.NoteParts', WHERE WHAT IT READS IS OF BULK AT MOST 1048576: true; the input reads as it did. -/
def notePartsUptoRow : OpenClaim := { program := "ytidclggijmbffaa", sum := "b0a2e71de6bbe34d9d9225ef4d90a174064acf8a5bd82a14584510b78bc9345c", func := "dyehouse/dyehouselaw15.NoteParts", spec := "noteParts", inPlace := ["internal/abi.NoEscape", "internal/bytealg.MakeNoZero"], unfollowed := true, recurses := true, apart := false, narrowed := true }
def NotePartsUptoSaid : Prop := notePartsUptoRow.holds Try.pinned (OpenSpec.upto notePartsSpec)

end Rows
end Go.Proofs.Ytidclggijmbffaa
