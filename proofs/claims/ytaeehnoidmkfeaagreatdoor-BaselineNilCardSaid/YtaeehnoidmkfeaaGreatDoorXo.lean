/- known() of the law BaselineNil, in parts: what was evaluated apart. -/
import Derived.Test.YtaeehnoidmkfeaaGreatDoorXp0
import Derived.Test.YtaeehnoidmkfeaaGreatDoorXp1
import Derived.Test.YtaeehnoidmkfeaaGreatDoorXp2
import Derived.Test.YtaeehnoidmkfeaaGreatDoorXp3
import Derived.Test.YtaeehnoidmkfeaaGreatDoorXp4
import Derived.Test.YtaeehnoidmkfeaaGreatDoorXc0
import Derived.Test.YtaeehnoidmkfeaaGreatDoorXc1
set_option maxRecDepth 100000
open Go Go.EvC
namespace Go.Proofs.YtaeehnoidmkfeaaGreatDoorK
theorem pt_ok : PuresG gl Tryz.prog pt := (puresG_cons mixed (puresG_cons mixed (puresG_cons mixed (puresG_cons mixed (puresG_cons mixed puresG_nil puresG_nil cuts_nil (allL_mk (f := pB4) pf4_0 rfl)) puresG_nil cuts_nil (allL_mk (f := pB3) pf3_0 rfl)) puresG_nil cuts_nil (allL_mk (f := pB2) pf2_0 rfl)) puresG_nil cuts_nil (allL_mk (f := pB1) pf1_0 (allL_mk (f := pB1) pf1_1 rfl))) puresG_nil cuts_nil (allL_mk (f := pB0) pf0_0 (allL_mk (f := pB0) pf0_1 rfl)))
theorem ok0 : CutOK Tryz.prog c0 := cut_ofG mixed pt_ok cuts_nil cf0
theorem ok1 : CutOK Tryz.prog c1 := cut_ofG mixed pt_ok (cuts_cons ok0 cuts_nil) cf1
end Go.Proofs.YtaeehnoidmkfeaaGreatDoorK
