/-
  DERIVED. GIVEN WITH THE SEED: THE CARDS: each row of YtnhahkiojbanfaaGreatDoorRows.lean that lists a variable, with what it lists TIED to the program's text (the seventh form; the later family's looks); each row that meets fmt, with fmt's text TOLD by the authors' own Lean function (tested against real Go, not proved from fmt's source: count such statements apart). THE CARD IS WHAT COUNTS. Prove the row's statement (the work); the ties are given (YtnhahkiojbanfaaGreatDoorTie.lean); close each card by the builder's one call (the guide's Derived/Test/ToyasCard.lean, 'card_holds'). Laid BY PROGRAM, IN A SANDBOX (cutbox-door.mjs). By AI agents, Wed Nov 11 2026. No macro, syntax, notation, axiom, sorry.
-/
import Derived.Test.YtnhahkiojbanfaaGreatDoorRows
import GoSem.ClaimSeven
namespace Go.Proofs.YtnhahkiojbanfaaGreatDoor
namespace Rows

/-- THE TIED CARD OF 'gabletlaw19.RobustMade'. -/
def robustMadeCard : Claim7 := { stood := { row := robustMadeRow, standIns := [], harness := (true, "b0afe261d4580aba95b75c68891bb52daf3ce1eff83e1798479d97d6abc33b28"), looks := false }, kinds := [], alts := [], laidByText := true, laidKinds := [.data, .data, .data], laidTests := true, laidLooks := .later }
def RobustMadeCardSaid : Prop := Claim7.holds Tryz.pinned (.plain (OpenSpec.ofChange robustMadeSpec)) robustMadeCard

/-- THE TIED CARD OF 'gabletlaw19.RobustOdd'. -/
def robustOddCard : Claim7 := { stood := { row := robustOddRow, standIns := [], harness := (true, "b0afe261d4580aba95b75c68891bb52daf3ce1eff83e1798479d97d6abc33b28"), looks := false }, kinds := [], alts := [], laidByText := true, laidKinds := [.data, .data, .data], laidTests := true, laidLooks := .later }
def RobustOddCardSaid : Prop := Claim7.holds Tryz.pinned (.plain (OpenSpec.ofChange robustOddSpec)) robustOddCard

/-- THE TIED CARD OF 'gabletlaw19.RobustShows'. -/
def robustShowsCard : Claim7 := { stood := { row := robustShowsRow, standIns := [], harness := (true, "b0afe261d4580aba95b75c68891bb52daf3ce1eff83e1798479d97d6abc33b28"), looks := false }, kinds := [], alts := [], laidByText := true, laidKinds := [.data, .data, .data], laidTests := true, laidLooks := .later }
def RobustShowsCardSaid : Prop := Claim7.holds Tryz.pinned (.plain (OpenSpec.ofChange robustShowsSpec)) robustShowsCard

/-- THE TIED CARD OF 'gabletlaw19.RobustAlone'. -/
def robustAloneCard : Claim7 := { stood := { row := robustAloneRow, standIns := [], harness := (true, "b0afe261d4580aba95b75c68891bb52daf3ce1eff83e1798479d97d6abc33b28"), looks := false }, kinds := [], alts := [], laidByText := true, laidKinds := [.data, .data, .data], laidTests := true, laidLooks := .later }
def RobustAloneCardSaid : Prop := Claim7.holds Tryz.pinned (.plain (OpenSpec.ofChange robustAloneSpec)) robustAloneCard

/-- THE SECOND FORM's CARD OF 'gabletlaw19.RobustMade'. -/
def robustMadeUptoCard : Claim7 := { stood := { row := robustMadeUptoRow, standIns := [], harness := (true, "b0afe261d4580aba95b75c68891bb52daf3ce1eff83e1798479d97d6abc33b28"), looks := false }, kinds := [], alts := [], laidByText := true, laidKinds := [.data, .data, .data], laidTests := true, laidLooks := .later }
def RobustMadeUptoCardSaid : Prop := Claim7.holds Tryz.pinned (.plain (OpenSpec.upto robustMadeSpec)) robustMadeUptoCard

/-- THE SECOND FORM's CARD OF 'gabletlaw19.RobustOdd'. -/
def robustOddUptoCard : Claim7 := { stood := { row := robustOddUptoRow, standIns := [], harness := (true, "b0afe261d4580aba95b75c68891bb52daf3ce1eff83e1798479d97d6abc33b28"), looks := false }, kinds := [], alts := [], laidByText := true, laidKinds := [.data, .data, .data], laidTests := true, laidLooks := .later }
def RobustOddUptoCardSaid : Prop := Claim7.holds Tryz.pinned (.plain (OpenSpec.upto robustOddSpec)) robustOddUptoCard

/-- THE SECOND FORM's CARD OF 'gabletlaw19.RobustShows'. -/
def robustShowsUptoCard : Claim7 := { stood := { row := robustShowsUptoRow, standIns := [], harness := (true, "b0afe261d4580aba95b75c68891bb52daf3ce1eff83e1798479d97d6abc33b28"), looks := false }, kinds := [], alts := [], laidByText := true, laidKinds := [.data, .data, .data], laidTests := true, laidLooks := .later }
def RobustShowsUptoCardSaid : Prop := Claim7.holds Tryz.pinned (.plain (OpenSpec.upto robustShowsSpec)) robustShowsUptoCard

/-- THE SECOND FORM's CARD OF 'gabletlaw19.RobustAlone'. -/
def robustAloneUptoCard : Claim7 := { stood := { row := robustAloneUptoRow, standIns := [], harness := (true, "b0afe261d4580aba95b75c68891bb52daf3ce1eff83e1798479d97d6abc33b28"), looks := false }, kinds := [], alts := [], laidByText := true, laidKinds := [.data, .data, .data], laidTests := true, laidLooks := .later }
def RobustAloneUptoCardSaid : Prop := Claim7.holds Tryz.pinned (.plain (OpenSpec.upto robustAloneSpec)) robustAloneUptoCard
end Rows
end Go.Proofs.YtnhahkiojbanfaaGreatDoor
