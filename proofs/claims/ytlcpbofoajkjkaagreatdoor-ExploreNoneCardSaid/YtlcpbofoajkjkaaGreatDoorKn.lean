/- The law ExploreNone: a closed call, evaluated, its known rows apart. -/
import Derived.Test.YtlcpbofoajkjkaaGreatDoorKa
namespace Go.Proofs.YtlcpbofoajkjkaaGreatDoor
open Go.Ev

theorem mixed : Tryz.prog.follows .mixedOrders = true := by kernel_rfl

theorem tabOK : TabOK Tryz.prog 8 [[]] := by
  intro a ha
  rcases List.mem_cons.1 ha with rfl | ha
  · exact ⟨by kernel_rfl, 100000, 100000, known_says⟩
  · cases ha

set_option maxHeartbeats 0 in
theorem law_says : says ((evsT Tryz.prog 8 [[]] 100000 100000).call (.fn 3 []) .leaf 0) true = true := by kernel_rfl

theorem law_any (w : World) : Calls Tryz.prog 3 #[] w fun e w' => e = .returned (.bool true) ∧ RowKit.Below w.heap.size w w' :=
  ev_table mixed tabOK law_says .nil w
end Go.Proofs.YtlcpbofoajkjkaaGreatDoor
