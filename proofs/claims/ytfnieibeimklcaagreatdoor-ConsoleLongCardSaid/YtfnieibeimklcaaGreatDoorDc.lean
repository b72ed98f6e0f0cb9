/- Proved: a closed fact of the law ConsoleLong: the tables that are laid. -/
import Derived.Test.YtfnieibeimklcaaGreatDoorDa
namespace Go.Proofs.YtfnieibeimklcaaGreatDoor
open Go
theorem d_if (os : Os) : (World.holding Tryz.prog os ⟨#[], #[], []⟩).layIfaces Tryz.prog laidAll (World.laidAll Tryz.prog os laidAll) = true := by kernel_rfl

end Go.Proofs.YtfnieibeimklcaaGreatDoor
