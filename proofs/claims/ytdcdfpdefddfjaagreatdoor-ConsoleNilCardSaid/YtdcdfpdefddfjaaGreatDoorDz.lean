/- Proved: a closed fact of the law ConsoleNil: the tables that are laid. -/
import Derived.Test.YtdcdfpdefddfjaaGreatDoorDa
namespace Go.Proofs.YtdcdfpdefddfjaaGreatDoor
open Go
def zipF (P : Program) (w : World) : { F : Nat → Bool // World.variablesZipB P w = (List.range P.globals.size).all F } := ⟨_, rfl⟩

end Go.Proofs.YtdcdfpdefddfjaaGreatDoor
