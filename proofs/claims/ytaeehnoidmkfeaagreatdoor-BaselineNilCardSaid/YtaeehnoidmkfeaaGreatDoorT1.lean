/- A closed fact of the tie of the row BaselineNil (package-level tables of the library start as the text lays them), by the kernel. -/
import Derived.Test.YtaeehnoidmkfeaaGreatDoorT0
namespace Go.Proofs.YtaeehnoidmkfeaaGreatDoor
open Go
theorem t_k : tieL.map (fun x => Tryz.prog.kindOfLater x.1) = tieK.map some := by kernel_rfl
end Go.Proofs.YtaeehnoidmkfeaaGreatDoor
