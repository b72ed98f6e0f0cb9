/- Proved: a closed fact of the law ConsoleNil: the tables that are laid. -/
import Derived.Test.YtdcdfpdefddfjaaGreatDoorDa
namespace Go.Proofs.YtdcdfpdefddfjaaGreatDoor
open Go
theorem d_if (os : Os) : (World.holding Tryz.prog os ⟨#[], #[], []⟩).layIfaces Tryz.prog laidAll (World.laidAll Tryz.prog os laidAll) = true := by kernel_rfl

end Go.Proofs.YtdcdfpdefddfjaaGreatDoor
