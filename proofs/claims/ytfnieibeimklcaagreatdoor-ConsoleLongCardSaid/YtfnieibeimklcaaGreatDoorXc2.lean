/- known() of the law ConsoleLong, in parts: calls apart. -/
import Derived.Test.YtfnieibeimklcaaGreatDoorXd
set_option maxRecDepth 100000
open Go Go.EvC
namespace Go.Proofs.YtfnieibeimklcaaGreatDoorK
set_option maxHeartbeats 0 in
theorem cf2 : cutB ((evsG gl Tryz.prog pt [c1] 1000000 1000000).call (.fn c2.g c2.args) (trH c2.hin .leaf) c2.nx0) c2 = true := by kernel_rfl
end Go.Proofs.YtfnieibeimklcaaGreatDoorK
