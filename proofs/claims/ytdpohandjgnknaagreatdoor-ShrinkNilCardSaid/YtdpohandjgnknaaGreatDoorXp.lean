/- The law ShrinkNil, in parts: calls of numbers alone. -/
import Derived.Test.YtdpohandjgnknaaGreatDoorXd
set_option maxRecDepth 100000
open Go Go.Ev
namespace Go.Proofs.YtdpohandjgnknaaGreatDoor
set_option maxHeartbeats 0 in
theorem pf2 : allL (fun p => cond (allL scal2 p.1) (cond (scal2 p.2) (valB ((evsX Tryz.prog [] [] 1000000 1000000).call (.fn 206 p.1) .leaf 0) p.2) false) false) (pl2) = true := by kernel_rfl
set_option maxHeartbeats 0 in
theorem pf1 : allL (fun p => cond (allL scal2 p.1) (cond (scal2 p.2) (valB ((evsX Tryz.prog [] [] 1000000 1000000).call (.fn 24 p.1) .leaf 0) p.2) false) false) (pl1) = true := by kernel_rfl
set_option maxHeartbeats 0 in
theorem pf0 : allL (fun p => cond (allL scal2 p.1) (cond (scal2 p.2) (valB ((evsX Tryz.prog [] [] 1000000 1000000).call (.fn 146 p.1) .leaf 0) p.2) false) false) (pl0) = true := by kernel_rfl
theorem pt_ok : PuresOK Tryz.prog pt := (pures_cons mixed (pures_cons mixed (pures_cons mixed pures_nil pures_nil pf2) pures_nil pf1) pures_nil pf0)
end Go.Proofs.YtdpohandjgnknaaGreatDoor
