/- known() of the law LowerSites, in parts: what was evaluated apart. -/
import Derived.Test.YtppbphgcnlelaaaGreatDoorXw0
import Derived.Test.YtppbphgcnlelaaaGreatDoorXp0
import Derived.Test.YtppbphgcnlelaaaGreatDoorXp1
import Derived.Test.YtppbphgcnlelaaaGreatDoorXp2
import Derived.Test.YtppbphgcnlelaaaGreatDoorXc0
import Derived.Test.YtppbphgcnlelaaaGreatDoorXc1
import Derived.Test.YtppbphgcnlelaaaGreatDoorXc2
set_option maxRecDepth 100000
open Go Go.EvC
namespace Go.Proofs.YtppbphgcnlelaaaGreatDoorK
theorem w0_ok : CutOK Tryz.prog w0 := cut_ofG (gl := gl) mixed puresG_nil cuts_nil w0f
theorem pt_ok : PuresG gl Tryz.prog pt := (puresG_cons mixed (puresG_cons mixed (puresG_cons mixed puresG_nil puresG_nil (cuts_cons w0_ok cuts_nil) (allL_mk (f := pB2) pf2_0 rfl)) puresG_nil (cuts_cons w0_ok cuts_nil) (allL_mk (f := pB1) pf1_0 (allL_mk (f := pB1) pf1_1 (allL_mk (f := pB1) pf1_2 rfl)))) puresG_nil (cuts_cons w0_ok cuts_nil) (allL_mk (f := pB0) pf0_0 (allL_mk (f := pB0) pf0_1 (allL_mk (f := pB0) pf0_2 (allL_mk (f := pB0) pf0_3 (allL_mk (f := pB0) pf0_4 (allL_mk (f := pB0) pf0_5 (allL_mk (f := pB0) pf0_6 (allL_mk (f := pB0) pf0_7 (allL_mk (f := pB0) pf0_8 (allL_mk (f := pB0) pf0_9 (allL_mk (f := pB0) pf0_10 (allL_mk (f := pB0) pf0_11 rfl)))))))))))))
theorem ok0 : CutOK Tryz.prog c0 := cut_ofG mixed pt_ok cuts_nil cf0
theorem ok1 : CutOK Tryz.prog c1 := cut_ofG mixed pt_ok cuts_nil cf1
theorem ok2 : CutOK Tryz.prog c2 := cut_ofG mixed pt_ok cuts_nil cf2
end Go.Proofs.YtppbphgcnlelaaaGreatDoorK
