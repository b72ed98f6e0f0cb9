/- A closed fact of the tie of the row BaselineNil (package-level tables of the library start as the text lays them), by the kernel. -/
import Derived.Test.YtaeehnoidmkfeaaGreatDoorT0
namespace Go.Proofs.YtaeehnoidmkfeaaGreatDoor
open Go
theorem t_d (os : Os) (tape : Tape) : varsDone Tryz.prog 400 (varsId Tryz.prog) os tape = true := by kernel_rfl
end Go.Proofs.YtaeehnoidmkfeaaGreatDoor
