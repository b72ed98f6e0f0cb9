/- A closed fact of the tie of the row BaselineNil: the listed places are whole rows. -/
import Derived.Test.YtaeehnoidmkfeaaGreatDoorT0
import Derived.LaidOnce
namespace Go.Proofs.YtaeehnoidmkfeaaGreatDoor
open Go
theorem t_h4 (os : Os) (tape : Tape) : (DataW.laidRun Tryz.prog (varsWorld Tryz.prog 400 (varsId Tryz.prog) os tape).memory 8 (tieL.map (·.1))).map (fun x => laidRowsB Tryz.prog (varsWorld Tryz.prog 400 (varsId Tryz.prog) os tape).memory x.2) = some true := by kernel_rfl
end Go.Proofs.YtaeehnoidmkfeaaGreatDoor
