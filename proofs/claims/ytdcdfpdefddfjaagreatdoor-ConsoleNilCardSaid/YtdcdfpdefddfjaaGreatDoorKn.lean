/- known() of the law ConsoleNil: a closed call, evaluated, parts of it apart. -/
import Derived.Test.YtdcdfpdefddfjaaGreatDoorXo
import Derived.Test.YtdcdfpdefddfjaaGreatDoorCd
set_option maxRecDepth 100000
open Go Go.EvC
namespace Go.Proofs.YtdcdfpdefddfjaaGreatDoorK
set_option maxHeartbeats 0 in
theorem known_says : says ((evsG gl Tryz.prog pt [c5] 1000000 1000000).call (.fn 3 []) (trH gl .leaf) 11) true = true := by kernel_rfl

theorem known_any (w : World) (hT : TabsIn gz w) : Calls Tryz.prog 3 #[] w fun e w' => e = .returned (.bool true) ∧ RowKit.Below w.heap.size w w' :=
  ev_cutG mixed pt_ok (cuts_cons ok5 cuts_nil) known_says .nil w (tabs_glob hT)
end Go.Proofs.YtdcdfpdefddfjaaGreatDoorK
