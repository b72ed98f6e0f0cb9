/- The law ShrinkNil: its loop, in rows of rounds. -/
import Derived.Test.YtdpohandjgnknaaGreatDoorXe
set_option maxRecDepth 100000
open Go Go.Ev
namespace Go.Proofs.YtdpohandjgnknaaGreatDoor
set_option maxHeartbeats 0 in
theorem row1 : iterB (iterN ((EE 1000000).code lb) 667 st5) st6 = true := by kernel_rfl
end Go.Proofs.YtdpohandjgnknaaGreatDoor
