/- known() of the law BaselineLists, in parts: what was evaluated apart. -/
import Derived.Test.YtenbcoedkeddgaaGreatDoorXp0
import Derived.Test.YtenbcoedkeddgaaGreatDoorXp1
import Derived.Test.YtenbcoedkeddgaaGreatDoorXp2
import Derived.Test.YtenbcoedkeddgaaGreatDoorXp3
import Derived.Test.YtenbcoedkeddgaaGreatDoorXc0
set_option maxRecDepth 100000
open Go Go.EvC
namespace Go.Proofs.YtenbcoedkeddgaaGreatDoorK
theorem pt_ok : PuresG gl Tryz.prog pt := (puresG_cons mixed (puresG_cons mixed (puresG_cons mixed (puresG_cons mixed puresG_nil puresG_nil cuts_nil (allL_mk (f := pB3) pf3_0 (allL_mk (f := pB3) pf3_1 rfl))) puresG_nil cuts_nil (allL_mk (f := pB2) pf2_0 rfl)) puresG_nil cuts_nil (allL_mk (f := pB1) pf1_0 (allL_mk (f := pB1) pf1_1 rfl))) puresG_nil cuts_nil (allL_mk (f := pB0) pf0_0 rfl))
theorem ok0 : CutOK Tryz.prog c0 := cut_ofG mixed pt_ok cuts_nil cf0
end Go.Proofs.YtenbcoedkeddgaaGreatDoorK
