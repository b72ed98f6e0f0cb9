/- A closed fact of the tie of the row BaselineNil (package-level tables of the library start as the text lays them), by the kernel. -/
import Derived.Test.YtaeehnoidmkfeaaGreatDoorT0
namespace Go.Proofs.YtaeehnoidmkfeaaGreatDoor
open Go
theorem t_n : varsNamedLaterB Tryz.prog (varsId Tryz.prog) tieL = true := by kernel_rfl
end Go.Proofs.YtaeehnoidmkfeaaGreatDoor
