/- known() of the law ConsoleLong, in parts: what was evaluated apart. -/
import Derived.Test.YtfnieibeimklcaaGreatDoorXd
import Derived.Test.YtfnieibeimklcaaGreatDoorXc0
import Derived.Test.YtfnieibeimklcaaGreatDoorXc1
import Derived.Test.YtfnieibeimklcaaGreatDoorXc2
import Derived.Test.YtfnieibeimklcaaGreatDoorXc3
import Derived.Test.YtfnieibeimklcaaGreatDoorXc4
import Derived.Test.YtfnieibeimklcaaGreatDoorEcV
set_option maxRecDepth 100000
open Go Go.EvC
namespace Go.Proofs.YtfnieibeimklcaaGreatDoorK
theorem w0_ok : CutOK Tryz.prog w0 := cut_ofG (gl := gl) mixed puresG_nil cuts_nil w0f
theorem pt_ok : PuresG gl Tryz.prog pt := (puresG_cons mixed puresG_nil puresG_nil (cuts_cons w0_ok cuts_nil) (allL_mk (f := pB0) pf0_0 (allL_mk (f := pB0) pf0_1 rfl)))
theorem ok0 : CutOK Tryz.prog c0 := cut_ofG mixed pt_ok cuts_nil cf0
theorem ok1 : CutOK Tryz.prog c1 := cut_ofG mixed pt_ok cuts_nil cf1
theorem ok2 : CutOK Tryz.prog c2 := cut_ofG mixed pt_ok (cuts_cons ok1 cuts_nil) cf2
theorem ok3 : CutOK Tryz.prog c3 := cut_ofG mixed pt_ok cuts_nil cf3
theorem ok4 : CutOK Tryz.prog c4 := cut_ofG mixed pt_ok cuts_nil cf4
end Go.Proofs.YtfnieibeimklcaaGreatDoorK
section
set_option maxRecDepth 100000
open Go Go.EvC
namespace Go.Proofs.YtfnieibeimklcaaGreatDoorK
set_option maxHeartbeats 0 in
theorem known_says : says ((evsG gl Tryz.prog pt [c0, c2, c3, c4] 1000000 1000000).call (.fn 4 []) (trH gl .leaf) 11) true = true := by kernel_rfl

theorem known_any (w : World) (hT : TabsIn gz w) : Calls Tryz.prog 4 #[] w fun e w' => e = .returned (.bool true) ∧ RowKit.Below w.heap.size w w' :=
  ev_cutG mixed pt_ok (cuts_cons ok0 (cuts_cons ok2 (cuts_cons ok3 (cuts_cons ok4 cuts_nil)))) known_says .nil w (tabs_glob hT)
end Go.Proofs.YtfnieibeimklcaaGreatDoorK
end
