/- known() of the law ConsoleNil, in parts: a call that calls of numbers begin with. -/
import Derived.Test.YtdcdfpdefddfjaaGreatDoorXd
set_option maxRecDepth 100000
open Go Go.EvC
namespace Go.Proofs.YtdcdfpdefddfjaaGreatDoorK
set_option maxHeartbeats 0 in
theorem w0f : cutB ((evsG gl Tryz.prog [] [] 1000000 1000000).call (.fn w0.g w0.args) (trH w0.hin .leaf) w0.nx0) w0 = true := by kernel_rfl
end Go.Proofs.YtdcdfpdefddfjaaGreatDoorK
