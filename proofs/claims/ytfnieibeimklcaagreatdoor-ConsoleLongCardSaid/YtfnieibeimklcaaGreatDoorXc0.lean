/- known() of the law ConsoleLong, in parts: calls apart. -/
import Derived.Test.YtfnieibeimklcaaGreatDoorXd
set_option maxRecDepth 100000
open Go Go.EvC
namespace Go.Proofs.YtfnieibeimklcaaGreatDoorK
set_option maxHeartbeats 0 in
theorem cf0 : cutB ((evsG gl Tryz.prog pt [] 1000000 1000000).call (.fn c0.g c0.args) (trH c0.hin .leaf) c0.nx0) c0 = true := by kernel_rfl
end Go.Proofs.YtfnieibeimklcaaGreatDoorK
