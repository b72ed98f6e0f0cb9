/- The law ShrinkNil, in parts: calls apart. -/
import Derived.Test.YtdpohandjgnknaaGreatDoorXp
set_option maxRecDepth 100000
open Go Go.Ev
namespace Go.Proofs.YtdpohandjgnknaaGreatDoor
set_option maxHeartbeats 0 in
theorem cf0 : cutB ((evsX Tryz.prog pt [] 1000000 1000000).call (.fn c0.g c0.args) (trH c0.hin .leaf) c0.nx0) c0 = true := by kernel_rfl
theorem ok0 : CutOK Tryz.prog c0 := cut_of mixed pt_ok cuts_nil cf0
end Go.Proofs.YtdpohandjgnknaaGreatDoor
