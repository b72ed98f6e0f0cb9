/- known() of the law BaselineNil, in parts: calls of numbers alone. -/
import Derived.Test.YtaeehnoidmkfeaaGreatDoorXd
set_option maxRecDepth 100000
open Go Go.EvC
namespace Go.Proofs.YtaeehnoidmkfeaaGreatDoorK
/-- What is looked at. -/
noncomputable def pB2 : List AV × AV → Bool := fun p => cond (allL scal2 p.1) (cond (scal2 p.2) (valB ((evsG gl Tryz.prog [] [] 1000000 1000000).call (.fn 261 p.1) (trH gl .leaf) 9) p.2) false) false
set_option maxHeartbeats 0 in
theorem pf2_0 : pB2 pe2_0 = true := by kernel_rfl
end Go.Proofs.YtaeehnoidmkfeaaGreatDoorK
