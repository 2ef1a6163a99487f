/-
  DERIVED. GIVEN WITH THE SEED: THE CARDS: each row of YtknmdmimecepfaaGreatDoorRows.lean that lists a variable, with what it lists TIED to the program's text (the seventh form; the later family's looks); each row that meets fmt, with fmt's text TOLD by the authors' own Lean function (tested against real Go, not proved from fmt's source: count such statements apart). THE CARD IS WHAT COUNTS. Prove the row's statement (the work); the ties are given (YtknmdmimecepfaaGreatDoorTie.lean); close each card by the builder's one call (the guide's Derived/Test/ToyasCard.lean, 'card_holds'). Laid BY PROGRAM, IN A SANDBOX (cutbox-door.mjs). By AI agents, Wed Nov 11 2026. No macro, syntax, notation, axiom, sorry.
-/
import Derived.Test.YtknmdmimecepfaaGreatDoorRows
import GoSem.ClaimSeven
namespace Go.Proofs.YtknmdmimecepfaaGreatDoor
namespace Rows

/-- THE TIED CARD OF 'gabletlaw12.AxiomMade'. -/
def axiomMadeCard : Claim7 := { stood := { row := axiomMadeRow, standIns := [], harness := (true, "1b5f3424e11f888f904ced37b0336b64550a5c35321caeb10ec1af3c5a19c065"), looks := false }, kinds := [], alts := [], laidByText := true, laidKinds := [.data, .data, .data], laidTests := true, laidLooks := .later }
def AxiomMadeCardSaid : Prop := Claim7.holds Tryz.pinned (.plain (OpenSpec.ofChange axiomMadeSpec)) axiomMadeCard

/-- THE TIED CARD OF 'gabletlaw12.AxiomArg'. -/
def axiomArgCard : Claim7 := { stood := { row := axiomArgRow, standIns := [], harness := (true, "1b5f3424e11f888f904ced37b0336b64550a5c35321caeb10ec1af3c5a19c065"), looks := false }, kinds := [], alts := [], laidByText := true, laidKinds := [.data, .data, .data], laidTests := true, laidLooks := .later }
def AxiomArgCardSaid : Prop := Claim7.holds Tryz.pinned (.plain (OpenSpec.ofChange axiomArgSpec)) axiomArgCard

/-- THE TIED CARD OF 'gabletlaw12.AxiomFenced'. -/
def axiomFencedCard : Claim7 := { stood := { row := axiomFencedRow, standIns := [], harness := (true, "1b5f3424e11f888f904ced37b0336b64550a5c35321caeb10ec1af3c5a19c065"), looks := false }, kinds := [], alts := [], laidByText := true, laidKinds := [.data, .data, .data], laidTests := true, laidLooks := .later }
def AxiomFencedCardSaid : Prop := Claim7.holds Tryz.pinned (.plain (OpenSpec.ofChange axiomFencedSpec)) axiomFencedCard

/-- THE TIED CARD OF 'gabletlaw12.AxiomStores'. -/
def axiomStoresCard : Claim7 := { stood := { row := axiomStoresRow, standIns := [], harness := (true, "1b5f3424e11f888f904ced37b0336b64550a5c35321caeb10ec1af3c5a19c065"), looks := false }, kinds := [], alts := [], laidByText := true, laidKinds := [.data, .data, .data], laidTests := true, laidLooks := .later }
def AxiomStoresCardSaid : Prop := Claim7.holds Tryz.pinned (.plain (OpenSpec.ofChange axiomStoresSpec)) axiomStoresCard

/-- THE SECOND FORM's CARD OF 'gabletlaw12.AxiomMade'. -/
def axiomMadeUptoCard : Claim7 := { stood := { row := axiomMadeUptoRow, standIns := [], harness := (true, "1b5f3424e11f888f904ced37b0336b64550a5c35321caeb10ec1af3c5a19c065"), looks := false }, kinds := [], alts := [], laidByText := true, laidKinds := [.data, .data, .data], laidTests := true, laidLooks := .later }
def AxiomMadeUptoCardSaid : Prop := Claim7.holds Tryz.pinned (.plain (OpenSpec.upto axiomMadeSpec)) axiomMadeUptoCard

/-- THE SECOND FORM's CARD OF 'gabletlaw12.AxiomArg'. -/
def axiomArgUptoCard : Claim7 := { stood := { row := axiomArgUptoRow, standIns := [], harness := (true, "1b5f3424e11f888f904ced37b0336b64550a5c35321caeb10ec1af3c5a19c065"), looks := false }, kinds := [], alts := [], laidByText := true, laidKinds := [.data, .data, .data], laidTests := true, laidLooks := .later }
def AxiomArgUptoCardSaid : Prop := Claim7.holds Tryz.pinned (.plain (OpenSpec.upto axiomArgSpec)) axiomArgUptoCard

/-- THE SECOND FORM's CARD OF 'gabletlaw12.AxiomFenced'. -/
def axiomFencedUptoCard : Claim7 := { stood := { row := axiomFencedUptoRow, standIns := [], harness := (true, "1b5f3424e11f888f904ced37b0336b64550a5c35321caeb10ec1af3c5a19c065"), looks := false }, kinds := [], alts := [], laidByText := true, laidKinds := [.data, .data, .data], laidTests := true, laidLooks := .later }
def AxiomFencedUptoCardSaid : Prop := Claim7.holds Tryz.pinned (.plain (OpenSpec.upto axiomFencedSpec)) axiomFencedUptoCard

/-- THE SECOND FORM's CARD OF 'gabletlaw12.AxiomStores'. -/
def axiomStoresUptoCard : Claim7 := { stood := { row := axiomStoresUptoRow, standIns := [], harness := (true, "1b5f3424e11f888f904ced37b0336b64550a5c35321caeb10ec1af3c5a19c065"), looks := false }, kinds := [], alts := [], laidByText := true, laidKinds := [.data, .data, .data], laidTests := true, laidLooks := .later }
def AxiomStoresUptoCardSaid : Prop := Claim7.holds Tryz.pinned (.plain (OpenSpec.upto axiomStoresSpec)) axiomStoresUptoCard
end Rows
end Go.Proofs.YtknmdmimecepfaaGreatDoor
