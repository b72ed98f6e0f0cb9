/- known() of the law ConsoleLong, in parts: calls apart. -/
import Derived.Test.YtfnieibeimklcaaGreatDoorXd
set_option maxRecDepth 100000
open Go Go.EvC
namespace Go.Proofs.YtfnieibeimklcaaGreatDoorK
set_option maxHeartbeats 0 in
theorem cf1 : cutB ((evsG gl Tryz.prog pt [] 1000000 1000000).call (.fn c1.g c1.args) (trH c1.hin .leaf) c1.nx0) c1 = true := by kernel_rfl
end Go.Proofs.YtfnieibeimklcaaGreatDoorK
