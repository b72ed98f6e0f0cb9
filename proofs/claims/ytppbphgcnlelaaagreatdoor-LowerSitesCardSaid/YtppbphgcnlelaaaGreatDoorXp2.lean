/- known() of the law LowerSites, in parts: calls of numbers alone. -/
import Derived.Test.YtppbphgcnlelaaaGreatDoorXd
set_option maxRecDepth 100000
open Go Go.EvC
namespace Go.Proofs.YtppbphgcnlelaaaGreatDoorK
/-- What is looked at. -/
noncomputable def pB2 : List AV × AV → Bool := fun p => cond (allL scal2 p.1) (cond (scal2 p.2) (valB ((evsG gl Tryz.prog [] [w0] 1000000 1000000).call (.fn 108 p.1) (trH gl .leaf) 7) p.2) false) false
set_option maxHeartbeats 0 in
theorem pf2_0 : pB2 pe2_0 = true := by kernel_rfl
end Go.Proofs.YtppbphgcnlelaaaGreatDoorK
