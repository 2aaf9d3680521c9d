/-
  DERIVED. GIVEN WITH THE SEED: THE CARDS: each row of YtbfggnlonemmiaaDoorRows.lean that lists a variable, with what it lists TIED to the program's text (the seventh form; the later family's looks); each row that meets fmt, with fmt's text TOLD by the authors' own Lean function (tested against real Go, not proved from fmt's source: count such statements apart). THE CARD IS WHAT COUNTS. Prove the row's statement (the work); the ties are given (YtbfggnlonemmiaaDoorTie.lean); close each card by the builder's one call (the guide's Derived/Test/ToyasCard.lean, 'card_holds'). Laid BY PROGRAM, IN A SANDBOX (cutbox-door.mjs). By AI agents, Wed Nov 11 2026. No macro, syntax, notation, axiom, sorry.
-/
import Derived.Test.YtbfggnlonemmiaaDoorRows
import GoSem.ClaimSeven
namespace Go.Proofs.YtbfggnlonemmiaaDoor
namespace Rows

/-- THE TIED CARD OF 'dyehouselaw05.FaultTells'. -/
def faultTellsCard : Claim7 := { stood := { row := faultTellsRow, standIns := [], harness := (true, "ace0fe63c0c54108e59c178f09db5cfdae0bd052fdd2e024314c4bbd23791333"), looks := true }, kinds := [], alts := [], laidByText := true, laidKinds := [.handle], laidTests := true, laidLooks := .later }
def FaultTellsCardSaid : Prop := Claim7.holds Tryd.pinned (.plain (OpenSpec.ofChange faultTellsSpec)) faultTellsCard

/-- THE TIED CARD OF 'dyehouselaw05.FaultKinds'. -/
def faultKindsCard : Claim7 := { stood := { row := faultKindsRow, standIns := [], harness := (true, "ace0fe63c0c54108e59c178f09db5cfdae0bd052fdd2e024314c4bbd23791333"), looks := true }, kinds := [], alts := [], laidByText := true, laidKinds := [.handle], laidTests := true, laidLooks := .later }
def FaultKindsCardSaid : Prop := Claim7.holds Tryd.pinned (.plain (OpenSpec.ofChange faultKindsSpec)) faultKindsCard

/-- THE TIED CARD OF 'dyehouselaw05.FaultTwo'. -/
def faultTwoCard : Claim7 := { stood := { row := faultTwoRow, standIns := [], harness := (true, "ace0fe63c0c54108e59c178f09db5cfdae0bd052fdd2e024314c4bbd23791333"), looks := true }, kinds := [], alts := [], laidByText := true, laidKinds := [.handle], laidTests := true, laidLooks := .later }
def FaultTwoCardSaid : Prop := Claim7.holds Tryd.pinned (.plain (OpenSpec.ofChange faultTwoSpec)) faultTwoCard

/-- THE SECOND FORM's CARD OF 'dyehouselaw05.FaultTells'. -/
def faultTellsUptoCard : Claim7 := { stood := { row := faultTellsUptoRow, standIns := [], harness := (true, "ace0fe63c0c54108e59c178f09db5cfdae0bd052fdd2e024314c4bbd23791333"), looks := true }, kinds := [], alts := [], laidByText := true, laidKinds := [.handle], laidTests := true, laidLooks := .later }
def FaultTellsUptoCardSaid : Prop := Claim7.holds Tryd.pinned (.plain (OpenSpec.upto faultTellsSpec)) faultTellsUptoCard

/-- THE SECOND FORM's CARD OF 'dyehouselaw05.FaultKinds'. -/
def faultKindsUptoCard : Claim7 := { stood := { row := faultKindsUptoRow, standIns := [], harness := (true, "ace0fe63c0c54108e59c178f09db5cfdae0bd052fdd2e024314c4bbd23791333"), looks := true }, kinds := [], alts := [], laidByText := true, laidKinds := [.handle], laidTests := true, laidLooks := .later }
def FaultKindsUptoCardSaid : Prop := Claim7.holds Tryd.pinned (.plain (OpenSpec.upto faultKindsSpec)) faultKindsUptoCard

/-- THE SECOND FORM's CARD OF 'dyehouselaw05.FaultTwo'. -/
def faultTwoUptoCard : Claim7 := { stood := { row := faultTwoUptoRow, standIns := [], harness := (true, "ace0fe63c0c54108e59c178f09db5cfdae0bd052fdd2e024314c4bbd23791333"), looks := true }, kinds := [], alts := [], laidByText := true, laidKinds := [.handle], laidTests := true, laidLooks := .later }
def FaultTwoUptoCardSaid : Prop := Claim7.holds Tryd.pinned (.plain (OpenSpec.upto faultTwoSpec)) faultTwoUptoCard
end Rows
end Go.Proofs.YtbfggnlonemmiaaDoor
