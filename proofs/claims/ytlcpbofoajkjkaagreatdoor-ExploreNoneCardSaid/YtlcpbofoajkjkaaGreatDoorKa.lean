/- The law ExploreNone: its known rows, evaluated apart. -/
import Derived.Test.YtlcpbofoajkjkaaGreatDoorEvW
import Derived.Test.YtlcpbofoajkjkaaGreatDoorProg
namespace Go.Proofs.YtlcpbofoajkjkaaGreatDoor
open Go.Ev

set_option maxHeartbeats 0 in
theorem known_says : says ((evs Tryz.prog 100000 100000).call (.fn 8 []) .leaf 0) true = true := by kernel_rfl
end Go.Proofs.YtlcpbofoajkjkaaGreatDoor
