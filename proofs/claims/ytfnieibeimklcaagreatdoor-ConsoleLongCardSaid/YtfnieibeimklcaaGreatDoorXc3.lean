/- known() of the law ConsoleLong, in parts: calls apart. -/
import Derived.Test.YtfnieibeimklcaaGreatDoorXd
set_option maxRecDepth 100000
open Go Go.EvC
namespace Go.Proofs.YtfnieibeimklcaaGreatDoorK
set_option maxHeartbeats 0 in
theorem cf3 : cutB ((evsG gl Tryz.prog pt [] 1000000 1000000).call (.fn c3.g c3.args) (trH c3.hin .leaf) c3.nx0) c3 = true := by kernel_rfl
end Go.Proofs.YtfnieibeimklcaaGreatDoorK
