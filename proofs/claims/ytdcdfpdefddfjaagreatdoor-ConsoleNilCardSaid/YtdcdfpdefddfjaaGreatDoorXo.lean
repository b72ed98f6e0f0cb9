/- known() of the law ConsoleNil, in parts: what was evaluated apart. -/
import Derived.Test.YtdcdfpdefddfjaaGreatDoorXw0
import Derived.Test.YtdcdfpdefddfjaaGreatDoorXp0
import Derived.Test.YtdcdfpdefddfjaaGreatDoorXc0
import Derived.Test.YtdcdfpdefddfjaaGreatDoorXc1
import Derived.Test.YtdcdfpdefddfjaaGreatDoorXc2
import Derived.Test.YtdcdfpdefddfjaaGreatDoorXc3
import Derived.Test.YtdcdfpdefddfjaaGreatDoorXc4
import Derived.Test.YtdcdfpdefddfjaaGreatDoorXc5
set_option maxRecDepth 100000
open Go Go.EvC
namespace Go.Proofs.YtdcdfpdefddfjaaGreatDoorK
theorem w0_ok : CutOK Tryz.prog w0 := cut_ofG (gl := gl) mixed puresG_nil cuts_nil w0f
theorem pt_ok : PuresG gl Tryz.prog pt := (puresG_cons mixed puresG_nil puresG_nil (cuts_cons w0_ok cuts_nil) (allL_mk (f := pB0) pf0_0 (allL_mk (f := pB0) pf0_1 rfl)))
theorem ok0 : CutOK Tryz.prog c0 := cut_ofG mixed pt_ok cuts_nil cf0
theorem ok1 : CutOK Tryz.prog c1 := cut_ofG mixed pt_ok cuts_nil cf1
theorem ok2 : CutOK Tryz.prog c2 := cut_ofG mixed pt_ok (cuts_cons ok1 cuts_nil) cf2
theorem ok3 : CutOK Tryz.prog c3 := cut_ofG mixed pt_ok cuts_nil cf3
theorem ok4 : CutOK Tryz.prog c4 := cut_ofG mixed pt_ok cuts_nil cf4
theorem ok5 : CutOK Tryz.prog c5 := cut_ofG mixed pt_ok (cuts_cons ok0 (cuts_cons ok2 (cuts_cons ok3 (cuts_cons ok4 cuts_nil)))) cf5
end Go.Proofs.YtdcdfpdefddfjaaGreatDoorK
