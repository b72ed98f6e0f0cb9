/- A closed fact of the tie: package-level tables of the library start as the program's text lays them. -/
import Derived.Test.YtfnieibeimklcaaGreatDoorT0
import Derived.LaidOnce
namespace Go.Proofs.YtfnieibeimklcaaGreatDoor
open Go
theorem t_h4c (os : Os) (tape : Tape) : (DataW.laidRun Tryz.prog (varsWorld Tryz.prog 400 (varsId Tryz.prog) os tape).memory 8 (((tieL.take 8).drop 5).map (·.1))).map (fun x => laidRowsB Tryz.prog (varsWorld Tryz.prog 400 (varsId Tryz.prog) os tape).memory x.2) = some true := by kernel_rfl

end Go.Proofs.YtfnieibeimklcaaGreatDoor
