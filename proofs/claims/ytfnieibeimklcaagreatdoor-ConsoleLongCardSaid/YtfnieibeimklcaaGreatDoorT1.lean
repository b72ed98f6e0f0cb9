/- A closed fact of the tie: package-level tables of the library start as the program's text lays them. -/
import Derived.Test.YtfnieibeimklcaaGreatDoorT0
namespace Go.Proofs.YtfnieibeimklcaaGreatDoor
open Go
theorem t_k : tieL.map (fun x => Tryz.prog.kindOfLater x.1) = tieK.map some := by kernel_rfl
end Go.Proofs.YtfnieibeimklcaaGreatDoor
