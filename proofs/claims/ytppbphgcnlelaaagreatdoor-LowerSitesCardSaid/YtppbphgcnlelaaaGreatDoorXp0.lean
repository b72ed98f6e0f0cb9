/- known() of the law LowerSites, in parts: calls of numbers alone. -/
import Derived.Test.YtppbphgcnlelaaaGreatDoorXd
set_option maxRecDepth 100000
open Go Go.EvC
namespace Go.Proofs.YtppbphgcnlelaaaGreatDoorK
/-- What is looked at. -/
noncomputable def pB0 : List AV × AV → Bool := fun p => cond (allL scal2 p.1) (cond (scal2 p.2) (valB ((evsG gl Tryz.prog [] [w0] 1000000 1000000).call (.fn 196 p.1) (trH gl .leaf) 7) p.2) false) false
set_option maxHeartbeats 0 in
theorem pf0_0 : pB0 pe0_0 = true := by kernel_rfl
set_option maxHeartbeats 0 in
theorem pf0_1 : pB0 pe0_1 = true := by kernel_rfl
set_option maxHeartbeats 0 in
theorem pf0_2 : pB0 pe0_2 = true := by kernel_rfl
set_option maxHeartbeats 0 in
theorem pf0_3 : pB0 pe0_3 = true := by kernel_rfl
set_option maxHeartbeats 0 in
theorem pf0_4 : pB0 pe0_4 = true := by kernel_rfl
set_option maxHeartbeats 0 in
theorem pf0_5 : pB0 pe0_5 = true := by kernel_rfl
set_option maxHeartbeats 0 in
theorem pf0_6 : pB0 pe0_6 = true := by kernel_rfl
set_option maxHeartbeats 0 in
theorem pf0_7 : pB0 pe0_7 = true := by kernel_rfl
set_option maxHeartbeats 0 in
theorem pf0_8 : pB0 pe0_8 = true := by kernel_rfl
set_option maxHeartbeats 0 in
theorem pf0_9 : pB0 pe0_9 = true := by kernel_rfl
set_option maxHeartbeats 0 in
theorem pf0_10 : pB0 pe0_10 = true := by kernel_rfl
set_option maxHeartbeats 0 in
theorem pf0_11 : pB0 pe0_11 = true := by kernel_rfl
end Go.Proofs.YtppbphgcnlelaaaGreatDoorK
