/- Proved: a closed fact of the law ConsoleLong: the tables that are laid. -/
import Derived.Test.YtfnieibeimklcaaGreatDoorDa
namespace Go.Proofs.YtfnieibeimklcaaGreatDoor
open Go
theorem d_f1 (os : Os) : (Lay.layList Tryz.prog (World.holding Tryz.prog os ⟨#[], #[], []⟩).heap.size laidAll).map (fun y => decide (y.1.map (·.1)).Nodup) = some true := by kernel_rfl

end Go.Proofs.YtfnieibeimklcaaGreatDoor
