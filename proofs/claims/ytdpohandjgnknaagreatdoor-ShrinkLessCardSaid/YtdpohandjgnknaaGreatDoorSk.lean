/- Laid by program out of its parts: Sk. -/
import Derived.Test.YtdpohandjgnknaaGreatDoorEcV
import Derived.KernelRfl
import Derived.Test.YtdpohandjgnknaaGreatDoorProg
set_option linter.unusedVariables false
set_option linter.unusedSimpArgs false
set_option maxRecDepth 100000
namespace Go.Proofs.Shr
open Go Go.EvC
theorem mixed : Tryz.prog.follows .mixedOrders = true := by kernel_rfl
set_option maxHeartbeats 0 in
theorem known_says : says (ob (ofScalars []) fun args => (evs Tryz.prog 100000 100000).call (.fn 8 args) .leaf 0) true = true := by kernel_rfl
theorem known_any (w : World) : Calls Tryz.prog 8 #[] w fun e w' => e = .returned (.bool true) ∧ RowKit.Below w.heap.size w w' :=
  ev_closed mixed known_says w
end Go.Proofs.Shr
