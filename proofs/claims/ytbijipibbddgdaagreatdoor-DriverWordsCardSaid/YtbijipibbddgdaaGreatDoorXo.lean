/- known() of the law DriverWords, in parts: what was evaluated apart. -/
import Derived.Test.YtbijipibbddgdaaGreatDoorXp0
import Derived.Test.YtbijipibbddgdaaGreatDoorXp1
import Derived.Test.YtbijipibbddgdaaGreatDoorXc0
import Derived.Test.YtbijipibbddgdaaGreatDoorXc1
import Derived.Test.YtbijipibbddgdaaGreatDoorXc2
set_option maxRecDepth 100000
open Go Go.EvC
namespace Go.Proofs.YtbijipibbddgdaaGreatDoorK
theorem pt_ok : PuresG gl Tryz.prog pt := (puresG_cons mixed (puresG_cons mixed puresG_nil puresG_nil cuts_nil (allL_mk (f := pB1) pf1_0 rfl)) puresG_nil cuts_nil (allL_mk (f := pB0) pf0_0 rfl))
theorem ok0 : CutOK Tryz.prog c0 := cut_ofG mixed pt_ok cuts_nil cf0
theorem ok1 : CutOK Tryz.prog c1 := cut_ofG mixed pt_ok (cuts_cons ok0 cuts_nil) cf1
theorem ok2 : CutOK Tryz.prog c2 := cut_ofG mixed pt_ok (cuts_cons ok1 cuts_nil) cf2
end Go.Proofs.YtbijipibbddgdaaGreatDoorK
