/- RobustMade and RobustOdd: two laws on whether code is robust: the proofs, for every input. -/
import Derived.Test.YtnhahkiojbanfaaGreatDoorRyRobustOddT
set_option linter.all false
namespace Go.Proofs.YtnhahkiojbanfaaGreatDoor
theorem two_hold:Rows.RobustMadeCardSaid/\Rows.RobustOddCardSaid:=⟨zhf,zir⟩
#print axioms two_hold
