/- A closed fact of the tie: package-level tables of the library start as the program's text lays them. -/
import Derived.Test.YtfnieibeimklcaaGreatDoorT0
namespace Go.Proofs.YtfnieibeimklcaaGreatDoor
open Go
theorem t_d (os : Os) (tape : Tape) : varsDone Tryz.prog 400 (varsId Tryz.prog) os tape = true := by kernel_rfl
end Go.Proofs.YtfnieibeimklcaaGreatDoor
