/- known() of the law ConsoleLong, in parts: calls apart. -/
import Derived.Test.YtfnieibeimklcaaGreatDoorXd
set_option maxRecDepth 100000
open Go Go.EvC
namespace Go.Proofs.YtfnieibeimklcaaGreatDoorK
set_option maxHeartbeats 0 in
theorem cf4 : cutB ((evsG gl Tryz.prog pt [] 1000000 1000000).call (.fn c4.g c4.args) (trH c4.hin .leaf) c4.nx0) c4 = true := by kernel_rfl
end Go.Proofs.YtfnieibeimklcaaGreatDoorK
