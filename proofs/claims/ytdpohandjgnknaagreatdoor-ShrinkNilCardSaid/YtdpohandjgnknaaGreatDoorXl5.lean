/- The law ShrinkNil: its loop, in rows of rounds. -/
import Derived.Test.YtdpohandjgnknaaGreatDoorXe
set_option maxRecDepth 100000
open Go Go.Ev
namespace Go.Proofs.YtdpohandjgnknaaGreatDoor
set_option maxHeartbeats 0 in
theorem rest_says : says (endF Tryz.prog (EE (1000000 + 7)) Tryz.f4 ((EE (1000000 + 3)).code rst st8)) true = true := by kernel_rfl
end Go.Proofs.YtdpohandjgnknaaGreatDoor
