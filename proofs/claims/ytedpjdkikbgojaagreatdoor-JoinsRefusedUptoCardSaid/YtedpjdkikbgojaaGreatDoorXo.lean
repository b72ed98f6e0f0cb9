/- known() of the law JoinsRefused, in parts: what was evaluated apart. -/
import Derived.Test.YtedpjdkikbgojaaGreatDoorXp0
import Derived.Test.YtedpjdkikbgojaaGreatDoorXp1
import Derived.Test.YtedpjdkikbgojaaGreatDoorXp2
import Derived.Test.YtedpjdkikbgojaaGreatDoorXp3
import Derived.Test.YtedpjdkikbgojaaGreatDoorXc0
import Derived.Test.YtedpjdkikbgojaaGreatDoorXc1
import Derived.Test.YtedpjdkikbgojaaGreatDoorXc2
import Derived.Test.YtedpjdkikbgojaaGreatDoorXc3
set_option maxRecDepth 100000
open Go Go.EvC
namespace Go.Proofs.YtedpjdkikbgojaaGreatDoorK
theorem pt_ok : PuresG gl Tryz.prog pt := (puresG_cons mixed (puresG_cons mixed (puresG_cons mixed (puresG_cons mixed puresG_nil puresG_nil cuts_nil (allL_mk (f := pB3) pf3_0 rfl)) puresG_nil cuts_nil (allL_mk (f := pB2) pf2_0 (allL_mk (f := pB2) pf2_1 (allL_mk (f := pB2) pf2_2 (allL_mk (f := pB2) pf2_3 (allL_mk (f := pB2) pf2_4 (allL_mk (f := pB2) pf2_5 (allL_mk (f := pB2) pf2_6 (allL_mk (f := pB2) pf2_7 (allL_mk (f := pB2) pf2_8 rfl)))))))))) puresG_nil cuts_nil (allL_mk (f := pB1) pf1_0 (allL_mk (f := pB1) pf1_1 (allL_mk (f := pB1) pf1_2 rfl)))) puresG_nil cuts_nil (allL_mk (f := pB0) pf0_0 rfl))
theorem ok0 : CutOK Tryz.prog c0 := cut_ofG mixed pt_ok cuts_nil cf0
theorem ok1 : CutOK Tryz.prog c1 := cut_ofG mixed pt_ok cuts_nil cf1
theorem ok2 : CutOK Tryz.prog c2 := cut_ofG mixed pt_ok cuts_nil cf2
theorem ok3 : CutOK Tryz.prog c3 := cut_ofG mixed pt_ok cuts_nil cf3
end Go.Proofs.YtedpjdkikbgojaaGreatDoorK
