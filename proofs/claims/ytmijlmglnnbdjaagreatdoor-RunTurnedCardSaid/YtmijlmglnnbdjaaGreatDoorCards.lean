/-
  DERIVED. GIVEN WITH THE SEED: THE CARDS: each row of YtmijlmglnnbdjaaGreatDoorRows.lean that lists a variable, with what it lists TIED to the program's text (the seventh form; the later family's looks); each row that meets fmt, with fmt's text TOLD by the authors' own Lean function (tested against real Go, not proved from fmt's source: count such statements apart). THE CARD IS WHAT COUNTS. Prove the row's statement (the work); the ties are given (YtmijlmglnnbdjaaGreatDoorTie.lean); close each card by the builder's one call (the guide's Derived/Test/ToyasCard.lean, 'card_holds'). Laid BY PROGRAM, IN A SANDBOX (cutbox-door.mjs). By AI agents, Wed Nov 11 2026. No macro, syntax, notation, axiom, sorry.
-/
import Derived.Test.YtmijlmglnnbdjaaGreatDoorRows
import GoSem.ClaimSeven
namespace Go.Proofs.YtmijlmglnnbdjaaGreatDoor
namespace Rows

/-- THE TIED CARD OF 'gabletlaw17.RunMade'. -/
def runMadeCard : Claim7 := { stood := { row := runMadeRow, standIns := [], harness := (true, "ba6d5afae969b1ba6e8dab1f90a453da4ed31621b3bee617ee8e666404cd1e90"), looks := false }, kinds := [], alts := [], laidByText := true, laidKinds := [.data, .data, .data], laidTests := true, laidLooks := .later }
def RunMadeCardSaid : Prop := Claim7.holds Tryz.pinned (.plain (OpenSpec.ofChange runMadeSpec)) runMadeCard

/-- THE TIED CARD OF 'gabletlaw17.RunSpoilt'. -/
def runSpoiltCard : Claim7 := { stood := { row := runSpoiltRow, standIns := [], harness := (true, "ba6d5afae969b1ba6e8dab1f90a453da4ed31621b3bee617ee8e666404cd1e90"), looks := false }, kinds := [], alts := [], laidByText := true, laidKinds := [.data, .data, .data], laidTests := true, laidLooks := .later }
def RunSpoiltCardSaid : Prop := Claim7.holds Tryz.pinned (.plain (OpenSpec.ofChange runSpoiltSpec)) runSpoiltCard

/-- THE TIED CARD OF 'gabletlaw17.RunTurned'. -/
def runTurnedCard : Claim7 := { stood := { row := runTurnedRow, standIns := [], harness := (true, "ba6d5afae969b1ba6e8dab1f90a453da4ed31621b3bee617ee8e666404cd1e90"), looks := false }, kinds := [], alts := [], laidByText := true, laidKinds := [.data, .data, .data], laidTests := true, laidLooks := .later }
def RunTurnedCardSaid : Prop := Claim7.holds Tryz.pinned (.plain (OpenSpec.ofChange runTurnedSpec)) runTurnedCard

/-- THE TIED CARD OF 'gabletlaw17.RunWord'. -/
def runWordCard : Claim7 := { stood := { row := runWordRow, standIns := [], harness := (true, "ba6d5afae969b1ba6e8dab1f90a453da4ed31621b3bee617ee8e666404cd1e90"), looks := false }, kinds := [], alts := [], laidByText := true, laidKinds := [.data, .data, .data], laidTests := true, laidLooks := .later }
def RunWordCardSaid : Prop := Claim7.holds Tryz.pinned (.plain (OpenSpec.ofChange runWordSpec)) runWordCard

/-- THE SECOND FORM's CARD OF 'gabletlaw17.RunMade'. -/
def runMadeUptoCard : Claim7 := { stood := { row := runMadeUptoRow, standIns := [], harness := (true, "ba6d5afae969b1ba6e8dab1f90a453da4ed31621b3bee617ee8e666404cd1e90"), looks := false }, kinds := [], alts := [], laidByText := true, laidKinds := [.data, .data, .data], laidTests := true, laidLooks := .later }
def RunMadeUptoCardSaid : Prop := Claim7.holds Tryz.pinned (.plain (OpenSpec.upto runMadeSpec)) runMadeUptoCard

/-- THE SECOND FORM's CARD OF 'gabletlaw17.RunSpoilt'. -/
def runSpoiltUptoCard : Claim7 := { stood := { row := runSpoiltUptoRow, standIns := [], harness := (true, "ba6d5afae969b1ba6e8dab1f90a453da4ed31621b3bee617ee8e666404cd1e90"), looks := false }, kinds := [], alts := [], laidByText := true, laidKinds := [.data, .data, .data], laidTests := true, laidLooks := .later }
def RunSpoiltUptoCardSaid : Prop := Claim7.holds Tryz.pinned (.plain (OpenSpec.upto runSpoiltSpec)) runSpoiltUptoCard

/-- THE SECOND FORM's CARD OF 'gabletlaw17.RunTurned'. -/
def runTurnedUptoCard : Claim7 := { stood := { row := runTurnedUptoRow, standIns := [], harness := (true, "ba6d5afae969b1ba6e8dab1f90a453da4ed31621b3bee617ee8e666404cd1e90"), looks := false }, kinds := [], alts := [], laidByText := true, laidKinds := [.data, .data, .data], laidTests := true, laidLooks := .later }
def RunTurnedUptoCardSaid : Prop := Claim7.holds Tryz.pinned (.plain (OpenSpec.upto runTurnedSpec)) runTurnedUptoCard

/-- THE SECOND FORM's CARD OF 'gabletlaw17.RunWord'. -/
def runWordUptoCard : Claim7 := { stood := { row := runWordUptoRow, standIns := [], harness := (true, "ba6d5afae969b1ba6e8dab1f90a453da4ed31621b3bee617ee8e666404cd1e90"), looks := false }, kinds := [], alts := [], laidByText := true, laidKinds := [.data, .data, .data], laidTests := true, laidLooks := .later }
def RunWordUptoCardSaid : Prop := Claim7.holds Tryz.pinned (.plain (OpenSpec.upto runWordSpec)) runWordUptoCard
end Rows
end Go.Proofs.YtmijlmglnnbdjaaGreatDoor
