/- The law ShrinkNil, in parts: calls apart. -/
import Derived.Test.YtdpohandjgnknaaGreatDoorXca
set_option maxRecDepth 100000
open Go Go.Ev
namespace Go.Proofs.YtdpohandjgnknaaGreatDoor
set_option maxHeartbeats 0 in
theorem cf1 : cutB ((evsX Tryz.prog pt [] 1000000 1000000).call (.fn c1.g c1.args) (trH c1.hin .leaf) c1.nx0) c1 = true := by kernel_rfl
theorem ok1 : CutOK Tryz.prog c1 := cut_of mixed pt_ok cuts_nil cf1
end Go.Proofs.YtdpohandjgnknaaGreatDoor
