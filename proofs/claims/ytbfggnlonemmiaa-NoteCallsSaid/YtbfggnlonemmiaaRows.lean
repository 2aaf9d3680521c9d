/-
  No cell of these rows narrows 'for every input' (looked for: loops, veiled, ifaces, maps, wideKeys, modest, calm, conditions, laid).
  DERIVED. THE GIVEN ROWS OF THIS SEAT. 12 by the template 'for every input the law returns true; each argument reads behind the call as it read before'; 0 by the template 'total and deterministic' (their statements: YtbfggnlonemmiaaTotals.lean).
  GIVEN WITH THE SEED: the statements are not yours to turn. If you find one false, say at which input.
  Laid BY PROGRAM, IN A SANDBOX (cutbox-rows.mjs): the forced cells as the released guide's own fill.sh prints them over the translation d06dfdf7cfbd97df… (all of the seat's roots in one cut). By AI agents, Wed Nov 11 2026. No macro, syntax, notation, axiom, sorry.
-/
import Derived.Test.YtbfggnlonemmiaaChecked
import GoSem.Claim
import GoSem.ClaimJoined
import GoSem.ClaimMapViews
import Derived.JoinedTies
import Derived.KernelRfl
namespace Go.Proofs.Ytbfggnlonemmiaa
/- THE CELL 'sum', in the pinned program and in every row, IS THE sha256 OF THE DUMP (.gsa) THAT YtbfggnlonemmiaaProg.lean LOADS. Nothing in Lean hashes anything: it is a label: what it is worth is what the hold of that sum in a sandbox is worth. -/
noncomputable def Try.pinned : Pinned := { name := "ytbfggnlonemmiaa", sum := "d06dfdf7cfbd97dfeeae4e57f5d08467f9b33c1d5bfa209fb1c7a028db723212", checked := Try.checked }
namespace Rows
def none {H : Type} : Left H := { results := [], args := [] }

/-- 'dyehouselaw13.TargetChecks': WHATEVER THE INPUT: true; the input reads as it did. -/
def targetChecksSpec : ChangeSpec := { name := "targetChecks", fn := fun _ => fun
  | [d1, d2] => { results := [.lit (.bool true)], args := [d1, d2] }
  | _ => none }
def targetChecksRow : OpenClaim := { program := "ytbfggnlonemmiaa", sum := "d06dfdf7cfbd97dfeeae4e57f5d08467f9b33c1d5bfa209fb1c7a028db723212", func := "dyehouse/dyehouselaw13.TargetChecks", spec := "targetChecks", apart := false }
def TargetChecksSaid : Prop := targetChecksRow.holds Try.pinned (OpenSpec.ofChange targetChecksSpec)

/-- ITS FALSE NEIGHBOUR: 'it returns false'. Refute it at one input. -/
def targetChecksWrong : ChangeSpec := { name := "targetChecks", fn := fun _ => fun
  | [d1, d2] => { results := [.lit (.bool false)], args := [d1, d2] }
  | _ => none }
def TargetChecksWrongFalsely : Prop := targetChecksRow.holds Try.pinned (OpenSpec.ofChange targetChecksWrong)

/-- 'dyehouselaw13.TargetParts': WHATEVER THE INPUT: true; the input reads as it did. -/
def targetPartsSpec : ChangeSpec := { name := "targetParts", fn := fun _ => fun
  | [d1, d2, d3] => { results := [.lit (.bool true)], args := [d1, d2, d3] }
  | _ => none }
def targetPartsRow : OpenClaim := { program := "ytbfggnlonemmiaa", sum := "d06dfdf7cfbd97dfeeae4e57f5d08467f9b33c1d5bfa209fb1c7a028db723212", func := "dyehouse/dyehouselaw13.TargetParts", spec := "targetParts", apart := false }
def TargetPartsSaid : Prop := targetPartsRow.holds Try.pinned (OpenSpec.ofChange targetPartsSpec)

/-- ITS FALSE NEIGHBOUR: 'it returns false'. Refute it at one input. -/
def targetPartsWrong : ChangeSpec := { name := "targetParts", fn := fun _ => fun
  | [d1, d2, d3] => { results := [.lit (.bool false)], args := [d1, d2, d3] }
  | _ => none }
def TargetPartsWrongFalsely : Prop := targetPartsRow.holds Try.pinned (OpenSpec.ofChange targetPartsWrong)

/-- 'dyehouselaw13.TargetLetters': WHATEVER THE INPUT: true; the input reads as it did. -/
def targetLettersSpec : ChangeSpec := { name := "targetLetters", fn := fun _ => fun
  | [d1, d2] => { results := [.lit (.bool true)], args := [d1, d2] }
  | _ => none }
def targetLettersRow : OpenClaim := { program := "ytbfggnlonemmiaa", sum := "d06dfdf7cfbd97dfeeae4e57f5d08467f9b33c1d5bfa209fb1c7a028db723212", func := "dyehouse/dyehouselaw13.TargetLetters", spec := "targetLetters", apart := false }
def TargetLettersSaid : Prop := targetLettersRow.holds Try.pinned (OpenSpec.ofChange targetLettersSpec)

/-- ITS FALSE NEIGHBOUR: 'it returns false'. Refute it at one input. -/
def targetLettersWrong : ChangeSpec := { name := "targetLetters", fn := fun _ => fun
  | [d1, d2] => { results := [.lit (.bool false)], args := [d1, d2] }
  | _ => none }
def TargetLettersWrongFalsely : Prop := targetLettersRow.holds Try.pinned (OpenSpec.ofChange targetLettersWrong)

/-- 'dyehouselaw03.QuotePuts': WHATEVER THE INPUT: true; the input reads as it did. -/
def quotePutsSpec : ChangeSpec := { name := "quotePuts", fn := fun _ => fun
  | [d1, d2, d3] => { results := [.lit (.bool true)], args := [d1, d2, d3] }
  | _ => none }
def quotePutsRow : OpenClaim := { program := "ytbfggnlonemmiaa", sum := "d06dfdf7cfbd97dfeeae4e57f5d08467f9b33c1d5bfa209fb1c7a028db723212", func := "dyehouse/dyehouselaw03.QuotePuts", spec := "quotePuts", inPlace := ["internal/abi.NoEscape"], apart := false }
def QuotePutsSaid : Prop := quotePutsRow.holds Try.pinned (OpenSpec.ofChange quotePutsSpec)

/-- ITS FALSE NEIGHBOUR: 'it returns false'. Refute it at one input. -/
def quotePutsWrong : ChangeSpec := { name := "quotePuts", fn := fun _ => fun
  | [d1, d2, d3] => { results := [.lit (.bool false)], args := [d1, d2, d3] }
  | _ => none }
def QuotePutsWrongFalsely : Prop := quotePutsRow.holds Try.pinned (OpenSpec.ofChange quotePutsWrong)

/-- 'dyehouselaw03.QuoteAgain': WHATEVER THE INPUT: true; the input reads as it did. -/
def quoteAgainSpec : ChangeSpec := { name := "quoteAgain", fn := fun _ => fun
  | [d1, d2] => { results := [.lit (.bool true)], args := [d1, d2] }
  | _ => none }
def quoteAgainRow : OpenClaim := { program := "ytbfggnlonemmiaa", sum := "d06dfdf7cfbd97dfeeae4e57f5d08467f9b33c1d5bfa209fb1c7a028db723212", func := "dyehouse/dyehouselaw03.QuoteAgain", spec := "quoteAgain", inPlace := ["internal/abi.NoEscape"], apart := false }
def QuoteAgainSaid : Prop := quoteAgainRow.holds Try.pinned (OpenSpec.ofChange quoteAgainSpec)

/-- ITS FALSE NEIGHBOUR: 'it returns false'. Refute it at one input. -/
def quoteAgainWrong : ChangeSpec := { name := "quoteAgain", fn := fun _ => fun
  | [d1, d2] => { results := [.lit (.bool false)], args := [d1, d2] }
  | _ => none }
def QuoteAgainWrongFalsely : Prop := quoteAgainRow.holds Try.pinned (OpenSpec.ofChange quoteAgainWrong)

/-- 'dyehouselaw35.ObsTells': WHATEVER THE INPUT: true; the input reads as it did. -/
def obsTellsSpec : ChangeSpec := { name := "obsTells", fn := fun _ => fun
  | [d1, d2] => { results := [.lit (.bool true)], args := [d1, d2] }
  | _ => none }
def obsTellsRow : OpenClaim := { program := "ytbfggnlonemmiaa", sum := "d06dfdf7cfbd97dfeeae4e57f5d08467f9b33c1d5bfa209fb1c7a028db723212", func := "dyehouse/dyehouselaw35.ObsTells", spec := "obsTells", inPlace := ["internal/abi.NoEscape"], unfollowed := true, recurses := true, apart := false }
def ObsTellsSaid : Prop := obsTellsRow.holds Try.pinned (OpenSpec.ofChange obsTellsSpec)

/-- ITS FALSE NEIGHBOUR: 'it returns false'. Refute it at one input. -/
def obsTellsWrong : ChangeSpec := { name := "obsTells", fn := fun _ => fun
  | [d1, d2] => { results := [.lit (.bool false)], args := [d1, d2] }
  | _ => none }
def ObsTellsWrongFalsely : Prop := obsTellsRow.holds Try.pinned (OpenSpec.ofChange obsTellsWrong)

/-- 'dyehouselaw35.ObsTexts': WHATEVER THE INPUT: true; the input reads as it did. -/
def obsTextsSpec : ChangeSpec := { name := "obsTexts", fn := fun _ => fun
  | [d1, d2] => { results := [.lit (.bool true)], args := [d1, d2] }
  | _ => none }
def obsTextsRow : OpenClaim := { program := "ytbfggnlonemmiaa", sum := "d06dfdf7cfbd97dfeeae4e57f5d08467f9b33c1d5bfa209fb1c7a028db723212", func := "dyehouse/dyehouselaw35.ObsTexts", spec := "obsTexts", inPlace := ["internal/abi.NoEscape"], unfollowed := true, recurses := true, apart := false }
def ObsTextsSaid : Prop := obsTextsRow.holds Try.pinned (OpenSpec.ofChange obsTextsSpec)

/-- ITS FALSE NEIGHBOUR: 'it returns false'. Refute it at one input. -/
def obsTextsWrong : ChangeSpec := { name := "obsTexts", fn := fun _ => fun
  | [d1, d2] => { results := [.lit (.bool false)], args := [d1, d2] }
  | _ => none }
def ObsTextsWrongFalsely : Prop := obsTextsRow.holds Try.pinned (OpenSpec.ofChange obsTextsWrong)

/-- 'dyehouselaw35.ObsBegins': WHATEVER THE INPUT: true; the input reads as it did. -/
def obsBeginsSpec : ChangeSpec := { name := "obsBegins", fn := fun _ => fun
  | [d1, d2] => { results := [.lit (.bool true)], args := [d1, d2] }
  | _ => none }
def obsBeginsRow : OpenClaim := { program := "ytbfggnlonemmiaa", sum := "d06dfdf7cfbd97dfeeae4e57f5d08467f9b33c1d5bfa209fb1c7a028db723212", func := "dyehouse/dyehouselaw35.ObsBegins", spec := "obsBegins", inPlace := ["internal/abi.NoEscape"], unfollowed := true, recurses := true, apart := false }
def ObsBeginsSaid : Prop := obsBeginsRow.holds Try.pinned (OpenSpec.ofChange obsBeginsSpec)

/-- ITS FALSE NEIGHBOUR: 'it returns false'. Refute it at one input. -/
def obsBeginsWrong : ChangeSpec := { name := "obsBegins", fn := fun _ => fun
  | [d1, d2] => { results := [.lit (.bool false)], args := [d1, d2] }
  | _ => none }
def ObsBeginsWrongFalsely : Prop := obsBeginsRow.holds Try.pinned (OpenSpec.ofChange obsBeginsWrong)

/-- 'dyehouselaw15.NoteCalls': WHATEVER THE INPUT: true; the input reads as it did. -/
def noteCallsSpec : ChangeSpec := { name := "noteCalls", fn := fun _ => fun
  | [d] => { results := [.lit (.bool true)], args := [d] }
  | _ => none }
def noteCallsRow : OpenClaim := { program := "ytbfggnlonemmiaa", sum := "d06dfdf7cfbd97dfeeae4e57f5d08467f9b33c1d5bfa209fb1c7a028db723212", func := "dyehouse/dyehouselaw15.NoteCalls", spec := "noteCalls", inPlace := ["internal/abi.NoEscape", "internal/bytealg.MakeNoZero"], apart := false }
def NoteCallsSaid : Prop := noteCallsRow.holds Try.pinned (OpenSpec.ofChange noteCallsSpec)

/-- ITS FALSE NEIGHBOUR: 'it returns false'. Refute it at one input. -/
def noteCallsWrong : ChangeSpec := { name := "noteCalls", fn := fun _ => fun
  | [d] => { results := [.lit (.bool false)], args := [d] }
  | _ => none }
def NoteCallsWrongFalsely : Prop := noteCallsRow.holds Try.pinned (OpenSpec.ofChange noteCallsWrong)

/-- 'dyehouselaw06.LinesTells': WHATEVER THE INPUT: true; the input reads as it did. -/
def linesTellsSpec : ChangeSpec := { name := "linesTells", fn := fun _ => fun
  | [d1, d2, d3] => { results := [.lit (.bool true)], args := [d1, d2, d3] }
  | _ => none }
def linesTellsRow : OpenClaim := { program := "ytbfggnlonemmiaa", sum := "d06dfdf7cfbd97dfeeae4e57f5d08467f9b33c1d5bfa209fb1c7a028db723212", func := "dyehouse/dyehouselaw06.LinesTells", spec := "linesTells", inPlace := ["internal/bytealg.IndexByteString", "internal/bytealg.IndexString", "internal/bytealg.CountString", "internal/abi.NoEscape"], named := ["internal/bytealg.MaxLen"], apart := false }
def LinesTellsSaid : Prop := linesTellsRow.holds Try.pinned (OpenSpec.ofChange linesTellsSpec)

/-- ITS FALSE NEIGHBOUR: 'it returns false'. Refute it at one input. -/
def linesTellsWrong : ChangeSpec := { name := "linesTells", fn := fun _ => fun
  | [d1, d2, d3] => { results := [.lit (.bool false)], args := [d1, d2, d3] }
  | _ => none }
def LinesTellsWrongFalsely : Prop := linesTellsRow.holds Try.pinned (OpenSpec.ofChange linesTellsWrong)

/-- 'dyehouselaw06.LinesBack': WHATEVER THE INPUT: true; the input reads as it did. -/
def linesBackSpec : ChangeSpec := { name := "linesBack", fn := fun _ => fun
  | [d1, d2, d3] => { results := [.lit (.bool true)], args := [d1, d2, d3] }
  | _ => none }
def linesBackRow : OpenClaim := { program := "ytbfggnlonemmiaa", sum := "d06dfdf7cfbd97dfeeae4e57f5d08467f9b33c1d5bfa209fb1c7a028db723212", func := "dyehouse/dyehouselaw06.LinesBack", spec := "linesBack", inPlace := ["internal/bytealg.IndexByteString", "internal/bytealg.IndexString", "internal/bytealg.CountString", "internal/abi.NoEscape"], named := ["internal/bytealg.MaxLen"], apart := false }
def LinesBackSaid : Prop := linesBackRow.holds Try.pinned (OpenSpec.ofChange linesBackSpec)

/-- ITS FALSE NEIGHBOUR: 'it returns false'. Refute it at one input. -/
def linesBackWrong : ChangeSpec := { name := "linesBack", fn := fun _ => fun
  | [d1, d2, d3] => { results := [.lit (.bool false)], args := [d1, d2, d3] }
  | _ => none }
def LinesBackWrongFalsely : Prop := linesBackRow.holds Try.pinned (OpenSpec.ofChange linesBackWrong)

/-- 'dyehouselaw06.LinesMarks': WHATEVER THE INPUT: true; the input reads as it did. -/
def linesMarksSpec : ChangeSpec := { name := "linesMarks", fn := fun _ => fun
  | [d1, d2] => { results := [.lit (.bool true)], args := [d1, d2] }
  | _ => none }
def linesMarksRow : OpenClaim := { program := "ytbfggnlonemmiaa", sum := "d06dfdf7cfbd97dfeeae4e57f5d08467f9b33c1d5bfa209fb1c7a028db723212", func := "dyehouse/dyehouselaw06.LinesMarks", spec := "linesMarks", inPlace := ["internal/bytealg.IndexByteString", "internal/bytealg.IndexString", "internal/bytealg.CountString", "internal/abi.NoEscape"], named := ["internal/bytealg.MaxLen"], apart := false }
def LinesMarksSaid : Prop := linesMarksRow.holds Try.pinned (OpenSpec.ofChange linesMarksSpec)

/-- ITS FALSE NEIGHBOUR: 'it returns false'. Refute it at one input. -/
def linesMarksWrong : ChangeSpec := { name := "linesMarks", fn := fun _ => fun
  | [d1, d2] => { results := [.lit (.bool false)], args := [d1, d2] }
  | _ => none }
def LinesMarksWrongFalsely : Prop := linesMarksRow.holds Try.pinned (OpenSpec.ofChange linesMarksWrong)

/- THE SECOND FORM. 'bulk': how many values and letters a reading holds, each counted each time it is reached (what is shared counts as often as it is met; a slice's spare places count too). A statement '..UptoSaid' is the law's where the arguments, and the package variables that the reading takes, are together of bulk at most 1048576: NARROWER than '..Said'. Prove '..Said' where nothing that the law and all that it calls make is longer than what came in: it says more and counts as full. Else prove '..UptoSaid'. A law counts once. -/
mutual
def uptoBulk {H : Type} : DataW H → Nat
  | .lit (.string bytes) => bytes.length + 1
  | .lit _ => 1
  | .nil => 1
  | .ptr d => uptoBulk d + 1
  | .slice elems spare => uptoBulkAll elems + uptoBulkAll spare + 1
  | .agg parts => uptoBulkAll parts + 1
  | .iface _ d => uptoBulk d + 1
  | .map entries => uptoBulkEntries entries + 1
  | .held _ => 1
def uptoBulkAll {H : Type} : List (DataW H) → Nat
  | [] => 0
  | d :: r => uptoBulk d + uptoBulkAll r
def uptoBulkEntries {H : Type} : List (Lit × DataW H) → Nat
  | [] => 0
  | x :: r => uptoBulkEntry x + uptoBulkEntries r
def uptoBulkEntry {H : Type} : Lit × DataW H → Nat
  | (.string bytes, d) => bytes.length + uptoBulk d + 1
  | (_, d) => uptoBulk d + 1
 end
def uptoSmall : (H : Type) → List (DataW H) → Bool := fun _ ds => decide (uptoBulkAll ds ≤ 1048576)
def OpenSpec.upto (s : _root_.Go.ChangeSpec) : _root_.Go.OpenSpec := { _root_.Go.OpenSpec.ofChange s with cond := some uptoSmall }

/-- 'dyehouselaw13.TargetChecks', WHERE WHAT IT READS IS OF BULK AT MOST 1048576: true; the input reads as it did. -/
def targetChecksUptoRow : OpenClaim := { program := "ytbfggnlonemmiaa", sum := "d06dfdf7cfbd97dfeeae4e57f5d08467f9b33c1d5bfa209fb1c7a028db723212", func := "dyehouse/dyehouselaw13.TargetChecks", spec := "targetChecks", apart := false, narrowed := true }
def TargetChecksUptoSaid : Prop := targetChecksUptoRow.holds Try.pinned (OpenSpec.upto targetChecksSpec)

/-- 'dyehouselaw13.TargetParts', WHERE WHAT IT READS IS OF BULK AT MOST 1048576: true; the input reads as it did. -/
def targetPartsUptoRow : OpenClaim := { program := "ytbfggnlonemmiaa", sum := "d06dfdf7cfbd97dfeeae4e57f5d08467f9b33c1d5bfa209fb1c7a028db723212", func := "dyehouse/dyehouselaw13.TargetParts", spec := "targetParts", apart := false, narrowed := true }
def TargetPartsUptoSaid : Prop := targetPartsUptoRow.holds Try.pinned (OpenSpec.upto targetPartsSpec)

/-- 'dyehouselaw13.TargetLetters', WHERE WHAT IT READS IS OF BULK AT MOST 1048576: true; the input reads as it did. -/
def targetLettersUptoRow : OpenClaim := { program := "ytbfggnlonemmiaa", sum := "d06dfdf7cfbd97dfeeae4e57f5d08467f9b33c1d5bfa209fb1c7a028db723212", func := "dyehouse/dyehouselaw13.TargetLetters", spec := "targetLetters", apart := false, narrowed := true }
def TargetLettersUptoSaid : Prop := targetLettersUptoRow.holds Try.pinned (OpenSpec.upto targetLettersSpec)

/-- 'dyehouselaw03.QuotePuts', WHERE WHAT IT READS IS OF BULK AT MOST 1048576: true; the input reads as it did. -/
def quotePutsUptoRow : OpenClaim := { program := "ytbfggnlonemmiaa", sum := "d06dfdf7cfbd97dfeeae4e57f5d08467f9b33c1d5bfa209fb1c7a028db723212", func := "dyehouse/dyehouselaw03.QuotePuts", spec := "quotePuts", inPlace := ["internal/abi.NoEscape"], apart := false, narrowed := true }
def QuotePutsUptoSaid : Prop := quotePutsUptoRow.holds Try.pinned (OpenSpec.upto quotePutsSpec)

/-- 'dyehouselaw03.QuoteAgain', WHERE WHAT IT READS IS OF BULK AT MOST 1048576: true; the input reads as it did. -/
def quoteAgainUptoRow : OpenClaim := { program := "ytbfggnlonemmiaa", sum := "d06dfdf7cfbd97dfeeae4e57f5d08467f9b33c1d5bfa209fb1c7a028db723212", func := "dyehouse/dyehouselaw03.QuoteAgain", spec := "quoteAgain", inPlace := ["internal/abi.NoEscape"], apart := false, narrowed := true }
def QuoteAgainUptoSaid : Prop := quoteAgainUptoRow.holds Try.pinned (OpenSpec.upto quoteAgainSpec)

/-- 'dyehouselaw35.ObsTells', WHERE WHAT IT READS IS OF BULK AT MOST 1048576: true; the input reads as it did. -/
def obsTellsUptoRow : OpenClaim := { program := "ytbfggnlonemmiaa", sum := "d06dfdf7cfbd97dfeeae4e57f5d08467f9b33c1d5bfa209fb1c7a028db723212", func := "dyehouse/dyehouselaw35.ObsTells", spec := "obsTells", inPlace := ["internal/abi.NoEscape"], unfollowed := true, recurses := true, apart := false, narrowed := true }
def ObsTellsUptoSaid : Prop := obsTellsUptoRow.holds Try.pinned (OpenSpec.upto obsTellsSpec)

/-- 'dyehouselaw35.ObsTexts', WHERE WHAT IT READS IS OF BULK AT MOST 1048576: true; the input reads as it did. -/
def obsTextsUptoRow : OpenClaim := { program := "ytbfggnlonemmiaa", sum := "d06dfdf7cfbd97dfeeae4e57f5d08467f9b33c1d5bfa209fb1c7a028db723212", func := "dyehouse/dyehouselaw35.ObsTexts", spec := "obsTexts", inPlace := ["internal/abi.NoEscape"], unfollowed := true, recurses := true, apart := false, narrowed := true }
def ObsTextsUptoSaid : Prop := obsTextsUptoRow.holds Try.pinned (OpenSpec.upto obsTextsSpec)

/-- 'dyehouselaw35.ObsBegins', WHERE WHAT IT READS IS OF BULK AT MOST 1048576: true; the input reads as it did. -/
def obsBeginsUptoRow : OpenClaim := { program := "ytbfggnlonemmiaa", sum := "d06dfdf7cfbd97dfeeae4e57f5d08467f9b33c1d5bfa209fb1c7a028db723212", func := "dyehouse/dyehouselaw35.ObsBegins", spec := "obsBegins", inPlace := ["internal/abi.NoEscape"], unfollowed := true, recurses := true, apart := false, narrowed := true }
def ObsBeginsUptoSaid : Prop := obsBeginsUptoRow.holds Try.pinned (OpenSpec.upto obsBeginsSpec)

/-- 'dyehouselaw15.NoteCalls', WHERE WHAT IT READS IS OF BULK AT MOST 1048576: true; the input reads as it did. -/
def noteCallsUptoRow : OpenClaim := { program := "ytbfggnlonemmiaa", sum := "d06dfdf7cfbd97dfeeae4e57f5d08467f9b33c1d5bfa209fb1c7a028db723212", func := "dyehouse/dyehouselaw15.NoteCalls", spec := "noteCalls", inPlace := ["internal/abi.NoEscape", "internal/bytealg.MakeNoZero"], apart := false, narrowed := true }
def NoteCallsUptoSaid : Prop := noteCallsUptoRow.holds Try.pinned (OpenSpec.upto noteCallsSpec)

/-- 'dyehouselaw06.LinesTells', WHERE WHAT IT READS IS OF BULK AT MOST 1048576: true; the input reads as it did. -/
def linesTellsUptoRow : OpenClaim := { program := "ytbfggnlonemmiaa", sum := "d06dfdf7cfbd97dfeeae4e57f5d08467f9b33c1d5bfa209fb1c7a028db723212", func := "dyehouse/dyehouselaw06.LinesTells", spec := "linesTells", inPlace := ["internal/bytealg.IndexByteString", "internal/bytealg.IndexString", "internal/bytealg.CountString", "internal/abi.NoEscape"], named := ["internal/bytealg.MaxLen"], apart := false, narrowed := true }
def LinesTellsUptoSaid : Prop := linesTellsUptoRow.holds Try.pinned (OpenSpec.upto linesTellsSpec)

/-- 'dyehouselaw06.LinesBack', WHERE WHAT IT READS IS OF BULK AT MOST 1048576: true; the input reads as it did. -/
def linesBackUptoRow : OpenClaim := { program := "ytbfggnlonemmiaa", sum := "d06dfdf7cfbd97dfeeae4e57f5d08467f9b33c1d5bfa209fb1c7a028db723212", func := "dyehouse/dyehouselaw06.LinesBack", spec := "linesBack", inPlace := ["internal/bytealg.IndexByteString", "internal/bytealg.IndexString", "internal/bytealg.CountString", "internal/abi.NoEscape"], named := ["internal/bytealg.MaxLen"], apart := false, narrowed := true }
def LinesBackUptoSaid : Prop := linesBackUptoRow.holds Try.pinned (OpenSpec.upto linesBackSpec)

/-- 'dyehouselaw06.LinesMarks', WHERE WHAT IT READS IS OF BULK AT MOST 1048576: true; the input reads as it did. -/
def linesMarksUptoRow : OpenClaim := { program := "ytbfggnlonemmiaa", sum := "d06dfdf7cfbd97dfeeae4e57f5d08467f9b33c1d5bfa209fb1c7a028db723212", func := "dyehouse/dyehouselaw06.LinesMarks", spec := "linesMarks", inPlace := ["internal/bytealg.IndexByteString", "internal/bytealg.IndexString", "internal/bytealg.CountString", "internal/abi.NoEscape"], named := ["internal/bytealg.MaxLen"], apart := false, narrowed := true }
def LinesMarksUptoSaid : Prop := linesMarksUptoRow.holds Try.pinned (OpenSpec.upto linesMarksSpec)

end Rows
end Go.Proofs.Ytbfggnlonemmiaa
