/- Proved: a closed fact of the law ConsoleLong: the tables that are laid. -/
import Derived.Test.YtfnieibeimklcaaGreatDoorDa
namespace Go.Proofs.YtfnieibeimklcaaGreatDoor
open Go
theorem w_zip (os : Os) : World.variablesZipB Tryz.prog ((World.laidAll Tryz.prog os laidAll).forCall (fun _ _ => 0) ⟨#[], #[.int .i64 0], []⟩) = true := by
  unfold World.variablesZipB World.laidAll World.holding World.settled begin
  rw [waits_is]
  kernel_rfl

end Go.Proofs.YtfnieibeimklcaaGreatDoor
