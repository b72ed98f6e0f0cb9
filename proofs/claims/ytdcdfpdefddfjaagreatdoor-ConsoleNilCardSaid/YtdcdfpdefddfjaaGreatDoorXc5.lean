/- known() of the law ConsoleNil, in parts: calls apart. -/
import Derived.Test.YtdcdfpdefddfjaaGreatDoorXd
set_option maxRecDepth 100000
open Go Go.EvC
namespace Go.Proofs.YtdcdfpdefddfjaaGreatDoorK
set_option maxHeartbeats 0 in
theorem cf5 : cutB ((evsG gl Tryz.prog pt [c0, c2, c3, c4] 1000000 1000000).call (.fn c5.g c5.args) (trH c5.hin .leaf) c5.nx0) c5 = true := by kernel_rfl
end Go.Proofs.YtdcdfpdefddfjaaGreatDoorK
