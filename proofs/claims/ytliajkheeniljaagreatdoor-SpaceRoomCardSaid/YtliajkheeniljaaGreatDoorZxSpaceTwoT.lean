/- SpaceClosed and SpaceRoom: two laws on all states that are come to: both proofs, for every input. -/
import Derived.Test.YtliajkheeniljaaGreatDoorZxOpenZ
set_option linter.all false
namespace Go.Proofs.YtliajkheeniljaaGreatDoor
theorem both_hold:Rows.SpaceClosedCardSaid/\Rows.SpaceRoomCardSaid:=⟨zgc,zi2⟩
#print axioms both_hold
