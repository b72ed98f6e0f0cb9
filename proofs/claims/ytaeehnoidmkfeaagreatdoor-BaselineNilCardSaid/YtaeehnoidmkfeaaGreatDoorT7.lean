/- A closed fact of the tie of the row BaselineNil: no place twice, by bits. -/
import Derived.Test.YtaeehnoidmkfeaaGreatDoorT0
import Derived.LaidOnce
namespace Go.Proofs.YtaeehnoidmkfeaaGreatDoor
open Go
theorem t_h3 (os : Os) (tape : Tape) : (DataW.laidRun Tryz.prog (varsWorld Tryz.prog 400 (varsId Tryz.prog) os tape).memory 8 (tieL.map (·.1))).map (fun x => nodupBits 4096 x.2 0) = some true := by kernel_rfl
end Go.Proofs.YtaeehnoidmkfeaaGreatDoor
