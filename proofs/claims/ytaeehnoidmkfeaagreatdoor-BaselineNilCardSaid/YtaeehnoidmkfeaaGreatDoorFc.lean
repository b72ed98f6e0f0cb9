/- The law BaselineNil: closed facts of the program: what is not followed, what is named. -/
import Derived.Test.YtaeehnoidmkfeaaGreatDoorRows
import Derived.WalkKit
import Derived.ProofKit
namespace Go.Proofs.YtaeehnoidmkfeaaGreatDoor

theorem fact_unfollowed : (Rows.baselineNilRow.unfollowed == Tryz.prog.unfollowed 3) = true := by kernel_rfl

end Go.Proofs.YtaeehnoidmkfeaaGreatDoor
