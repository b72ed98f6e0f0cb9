/- known() of the law ConsoleNil, in parts: calls of numbers alone. -/
import Derived.Test.YtdcdfpdefddfjaaGreatDoorXd
set_option maxRecDepth 100000
open Go Go.EvC
namespace Go.Proofs.YtdcdfpdefddfjaaGreatDoorK
/-- What is looked at. -/
noncomputable def pB0 : List AV × AV → Bool := fun p => cond (allL scal2 p.1) (cond (scal2 p.2) (valB ((evsG gl Tryz.prog [] [w0] 1000000 1000000).call (.fn 671 p.1) (trH gl .leaf) 11) p.2) false) false
set_option maxHeartbeats 0 in
theorem pf0_0 : pB0 pe0_0 = true := by kernel_rfl
set_option maxHeartbeats 0 in
theorem pf0_1 : pB0 pe0_1 = true := by kernel_rfl
end Go.Proofs.YtdcdfpdefddfjaaGreatDoorK
