/-
  DERIVED. GIVEN WITH THE SEED: THE CARDS: each row of YtliajkheeniljaaGreatDoorRows.lean that lists a variable, with what it lists TIED to the program's text (the seventh form; the later family's looks); each row that meets fmt, with fmt's text TOLD by the authors' own Lean function (tested against real Go, not proved from fmt's source: count such statements apart). THE CARD IS WHAT COUNTS. Prove the row's statement (the work); the ties are given (YtliajkheeniljaaGreatDoorTie.lean); close each card by the builder's one call (the guide's Derived/Test/ToyasCard.lean, 'card_holds'). Laid BY PROGRAM, IN A SANDBOX (cutbox-door.mjs). By AI agents, Wed Nov 11 2026. No macro, syntax, notation, axiom, sorry.
-/
import Derived.Test.YtliajkheeniljaaGreatDoorRows
import GoSem.ClaimSeven
namespace Go.Proofs.YtliajkheeniljaaGreatDoor
namespace Rows

/-- THE TIED CARD OF 'gabletlaw07.StepAny'. -/
def stepAnyCard : Claim7 := { stood := { row := stepAnyRow, standIns := [], harness := (true, "d892adb1179e054dd6d5c063c2c1112e759161ef003ce4a6f8a1d939f97b1849"), looks := false }, kinds := [], alts := [], laidByText := true, laidKinds := [.data, .data, .data], laidTests := true, laidLooks := .later }
def StepAnyCardSaid : Prop := Claim7.holds Tryz.pinned (.plain (OpenSpec.ofChange stepAnySpec)) stepAnyCard

/-- THE TIED CARD OF 'gabletlaw07.StepWalk'. -/
def stepWalkCard : Claim7 := { stood := { row := stepWalkRow, standIns := [], harness := (true, "d892adb1179e054dd6d5c063c2c1112e759161ef003ce4a6f8a1d939f97b1849"), looks := false }, kinds := [], alts := [], laidByText := true, laidKinds := [.data, .data, .data], laidTests := true, laidLooks := .later }
def StepWalkCardSaid : Prop := Claim7.holds Tryz.pinned (.plain (OpenSpec.ofChange stepWalkSpec)) stepWalkCard

/-- THE TIED CARD OF 'gabletlaw07.StepSpoilt'. -/
def stepSpoiltCard : Claim7 := { stood := { row := stepSpoiltRow, standIns := [], harness := (true, "d892adb1179e054dd6d5c063c2c1112e759161ef003ce4a6f8a1d939f97b1849"), looks := false }, kinds := [], alts := [], laidByText := true, laidKinds := [.data, .data, .data], laidTests := true, laidLooks := .later }
def StepSpoiltCardSaid : Prop := Claim7.holds Tryz.pinned (.plain (OpenSpec.ofChange stepSpoiltSpec)) stepSpoiltCard

/-- THE TIED CARD OF 'gabletlaw07.StepFits'. -/
def stepFitsCard : Claim7 := { stood := { row := stepFitsRow, standIns := [], harness := (true, "d892adb1179e054dd6d5c063c2c1112e759161ef003ce4a6f8a1d939f97b1849"), looks := false }, kinds := [], alts := [], laidByText := true, laidKinds := [.data, .data, .data], laidTests := true, laidLooks := .later }
def StepFitsCardSaid : Prop := Claim7.holds Tryz.pinned (.plain (OpenSpec.ofChange stepFitsSpec)) stepFitsCard

/-- THE TIED CARD OF 'gabletlaw07.StepFlushes'. -/
def stepFlushesCard : Claim7 := { stood := { row := stepFlushesRow, standIns := [], harness := (true, "d892adb1179e054dd6d5c063c2c1112e759161ef003ce4a6f8a1d939f97b1849"), looks := false }, kinds := [], alts := [], laidByText := true, laidKinds := [.data, .data, .data], laidTests := true, laidLooks := .later }
def StepFlushesCardSaid : Prop := Claim7.holds Tryz.pinned (.plain (OpenSpec.ofChange stepFlushesSpec)) stepFlushesCard

/-- THE TIED CARD OF 'gabletlaw10.SpaceMade'. -/
def spaceMadeCard : Claim7 := { stood := { row := spaceMadeRow, standIns := [], harness := (true, "d892adb1179e054dd6d5c063c2c1112e759161ef003ce4a6f8a1d939f97b1849"), looks := false }, kinds := [], alts := [], laidByText := true, laidKinds := [.data, .data, .data], laidTests := true, laidLooks := .later }
def SpaceMadeCardSaid : Prop := Claim7.holds Tryz.pinned (.plain (OpenSpec.ofChange spaceMadeSpec)) spaceMadeCard

/-- THE TIED CARD OF 'gabletlaw10.SpaceArg'. -/
def spaceArgCard : Claim7 := { stood := { row := spaceArgRow, standIns := [], harness := (true, "d892adb1179e054dd6d5c063c2c1112e759161ef003ce4a6f8a1d939f97b1849"), looks := false }, kinds := [], alts := [], laidByText := true, laidKinds := [.data, .data, .data], laidTests := true, laidLooks := .later }
def SpaceArgCardSaid : Prop := Claim7.holds Tryz.pinned (.plain (OpenSpec.ofChange spaceArgSpec)) spaceArgCard

/-- THE TIED CARD OF 'gabletlaw10.SpaceReplay'. -/
def spaceReplayCard : Claim7 := { stood := { row := spaceReplayRow, standIns := [], harness := (true, "d892adb1179e054dd6d5c063c2c1112e759161ef003ce4a6f8a1d939f97b1849"), looks := false }, kinds := [], alts := [], laidByText := true, laidKinds := [.data, .data, .data], laidTests := true, laidLooks := .later }
def SpaceReplayCardSaid : Prop := Claim7.holds Tryz.pinned (.plain (OpenSpec.ofChange spaceReplaySpec)) spaceReplayCard

/-- THE TIED CARD OF 'gabletlaw10.SpaceClosed'. -/
def spaceClosedCard : Claim7 := { stood := { row := spaceClosedRow, standIns := [], harness := (true, "d892adb1179e054dd6d5c063c2c1112e759161ef003ce4a6f8a1d939f97b1849"), looks := false }, kinds := [], alts := [], laidByText := true, laidKinds := [.data, .data, .data], laidTests := true, laidLooks := .later }
def SpaceClosedCardSaid : Prop := Claim7.holds Tryz.pinned (.plain (OpenSpec.ofChange spaceClosedSpec)) spaceClosedCard

/-- THE TIED CARD OF 'gabletlaw10.SpaceShort'. -/
def spaceShortCard : Claim7 := { stood := { row := spaceShortRow, standIns := [], harness := (true, "d892adb1179e054dd6d5c063c2c1112e759161ef003ce4a6f8a1d939f97b1849"), looks := false }, kinds := [], alts := [], laidByText := true, laidKinds := [.data, .data, .data], laidTests := true, laidLooks := .later }
def SpaceShortCardSaid : Prop := Claim7.holds Tryz.pinned (.plain (OpenSpec.ofChange spaceShortSpec)) spaceShortCard

/-- THE TIED CARD OF 'gabletlaw10.SpaceRoom'. -/
def spaceRoomCard : Claim7 := { stood := { row := spaceRoomRow, standIns := [], harness := (true, "d892adb1179e054dd6d5c063c2c1112e759161ef003ce4a6f8a1d939f97b1849"), looks := false }, kinds := [], alts := [], laidByText := true, laidKinds := [.data, .data, .data], laidTests := true, laidLooks := .later }
def SpaceRoomCardSaid : Prop := Claim7.holds Tryz.pinned (.plain (OpenSpec.ofChange spaceRoomSpec)) spaceRoomCard

/-- THE SECOND FORM's CARD OF 'gabletlaw07.StepAny'. -/
def stepAnyUptoCard : Claim7 := { stood := { row := stepAnyUptoRow, standIns := [], harness := (true, "d892adb1179e054dd6d5c063c2c1112e759161ef003ce4a6f8a1d939f97b1849"), looks := false }, kinds := [], alts := [], laidByText := true, laidKinds := [.data, .data, .data], laidTests := true, laidLooks := .later }
def StepAnyUptoCardSaid : Prop := Claim7.holds Tryz.pinned (.plain (OpenSpec.upto stepAnySpec)) stepAnyUptoCard

/-- THE SECOND FORM's CARD OF 'gabletlaw07.StepWalk'. -/
def stepWalkUptoCard : Claim7 := { stood := { row := stepWalkUptoRow, standIns := [], harness := (true, "d892adb1179e054dd6d5c063c2c1112e759161ef003ce4a6f8a1d939f97b1849"), looks := false }, kinds := [], alts := [], laidByText := true, laidKinds := [.data, .data, .data], laidTests := true, laidLooks := .later }
def StepWalkUptoCardSaid : Prop := Claim7.holds Tryz.pinned (.plain (OpenSpec.upto stepWalkSpec)) stepWalkUptoCard

/-- THE SECOND FORM's CARD OF 'gabletlaw07.StepSpoilt'. -/
def stepSpoiltUptoCard : Claim7 := { stood := { row := stepSpoiltUptoRow, standIns := [], harness := (true, "d892adb1179e054dd6d5c063c2c1112e759161ef003ce4a6f8a1d939f97b1849"), looks := false }, kinds := [], alts := [], laidByText := true, laidKinds := [.data, .data, .data], laidTests := true, laidLooks := .later }
def StepSpoiltUptoCardSaid : Prop := Claim7.holds Tryz.pinned (.plain (OpenSpec.upto stepSpoiltSpec)) stepSpoiltUptoCard

/-- THE SECOND FORM's CARD OF 'gabletlaw07.StepFits'. -/
def stepFitsUptoCard : Claim7 := { stood := { row := stepFitsUptoRow, standIns := [], harness := (true, "d892adb1179e054dd6d5c063c2c1112e759161ef003ce4a6f8a1d939f97b1849"), looks := false }, kinds := [], alts := [], laidByText := true, laidKinds := [.data, .data, .data], laidTests := true, laidLooks := .later }
def StepFitsUptoCardSaid : Prop := Claim7.holds Tryz.pinned (.plain (OpenSpec.upto stepFitsSpec)) stepFitsUptoCard

/-- THE SECOND FORM's CARD OF 'gabletlaw07.StepFlushes'. -/
def stepFlushesUptoCard : Claim7 := { stood := { row := stepFlushesUptoRow, standIns := [], harness := (true, "d892adb1179e054dd6d5c063c2c1112e759161ef003ce4a6f8a1d939f97b1849"), looks := false }, kinds := [], alts := [], laidByText := true, laidKinds := [.data, .data, .data], laidTests := true, laidLooks := .later }
def StepFlushesUptoCardSaid : Prop := Claim7.holds Tryz.pinned (.plain (OpenSpec.upto stepFlushesSpec)) stepFlushesUptoCard

/-- THE SECOND FORM's CARD OF 'gabletlaw10.SpaceMade'. -/
def spaceMadeUptoCard : Claim7 := { stood := { row := spaceMadeUptoRow, standIns := [], harness := (true, "d892adb1179e054dd6d5c063c2c1112e759161ef003ce4a6f8a1d939f97b1849"), looks := false }, kinds := [], alts := [], laidByText := true, laidKinds := [.data, .data, .data], laidTests := true, laidLooks := .later }
def SpaceMadeUptoCardSaid : Prop := Claim7.holds Tryz.pinned (.plain (OpenSpec.upto spaceMadeSpec)) spaceMadeUptoCard

/-- THE SECOND FORM's CARD OF 'gabletlaw10.SpaceArg'. -/
def spaceArgUptoCard : Claim7 := { stood := { row := spaceArgUptoRow, standIns := [], harness := (true, "d892adb1179e054dd6d5c063c2c1112e759161ef003ce4a6f8a1d939f97b1849"), looks := false }, kinds := [], alts := [], laidByText := true, laidKinds := [.data, .data, .data], laidTests := true, laidLooks := .later }
def SpaceArgUptoCardSaid : Prop := Claim7.holds Tryz.pinned (.plain (OpenSpec.upto spaceArgSpec)) spaceArgUptoCard

/-- THE SECOND FORM's CARD OF 'gabletlaw10.SpaceReplay'. -/
def spaceReplayUptoCard : Claim7 := { stood := { row := spaceReplayUptoRow, standIns := [], harness := (true, "d892adb1179e054dd6d5c063c2c1112e759161ef003ce4a6f8a1d939f97b1849"), looks := false }, kinds := [], alts := [], laidByText := true, laidKinds := [.data, .data, .data], laidTests := true, laidLooks := .later }
def SpaceReplayUptoCardSaid : Prop := Claim7.holds Tryz.pinned (.plain (OpenSpec.upto spaceReplaySpec)) spaceReplayUptoCard

/-- THE SECOND FORM's CARD OF 'gabletlaw10.SpaceClosed'. -/
def spaceClosedUptoCard : Claim7 := { stood := { row := spaceClosedUptoRow, standIns := [], harness := (true, "d892adb1179e054dd6d5c063c2c1112e759161ef003ce4a6f8a1d939f97b1849"), looks := false }, kinds := [], alts := [], laidByText := true, laidKinds := [.data, .data, .data], laidTests := true, laidLooks := .later }
def SpaceClosedUptoCardSaid : Prop := Claim7.holds Tryz.pinned (.plain (OpenSpec.upto spaceClosedSpec)) spaceClosedUptoCard

/-- THE SECOND FORM's CARD OF 'gabletlaw10.SpaceShort'. -/
def spaceShortUptoCard : Claim7 := { stood := { row := spaceShortUptoRow, standIns := [], harness := (true, "d892adb1179e054dd6d5c063c2c1112e759161ef003ce4a6f8a1d939f97b1849"), looks := false }, kinds := [], alts := [], laidByText := true, laidKinds := [.data, .data, .data], laidTests := true, laidLooks := .later }
def SpaceShortUptoCardSaid : Prop := Claim7.holds Tryz.pinned (.plain (OpenSpec.upto spaceShortSpec)) spaceShortUptoCard

/-- THE SECOND FORM's CARD OF 'gabletlaw10.SpaceRoom'. -/
def spaceRoomUptoCard : Claim7 := { stood := { row := spaceRoomUptoRow, standIns := [], harness := (true, "d892adb1179e054dd6d5c063c2c1112e759161ef003ce4a6f8a1d939f97b1849"), looks := false }, kinds := [], alts := [], laidByText := true, laidKinds := [.data, .data, .data], laidTests := true, laidLooks := .later }
def SpaceRoomUptoCardSaid : Prop := Claim7.holds Tryz.pinned (.plain (OpenSpec.upto spaceRoomSpec)) spaceRoomUptoCard
end Rows
end Go.Proofs.YtliajkheeniljaaGreatDoor
