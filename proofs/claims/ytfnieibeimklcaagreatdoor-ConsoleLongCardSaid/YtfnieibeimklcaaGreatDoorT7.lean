/- A closed fact of the tie: package-level tables of the library start as the program's text lays them. -/
import Derived.Test.YtfnieibeimklcaaGreatDoorT0
import Derived.LaidOnce
namespace Go.Proofs.YtfnieibeimklcaaGreatDoor
open Go
theorem t_h3 (os : Os) (tape : Tape) : (DataW.laidRun Tryz.prog (varsWorld Tryz.prog 400 (varsId Tryz.prog) os tape).memory 8 (tieL.map (·.1))).map (fun x => nodupBits 4096 x.2 0) = some true := by kernel_rfl
end Go.Proofs.YtfnieibeimklcaaGreatDoor
