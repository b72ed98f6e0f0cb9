/- The law ShrinkLess: closed facts of the program: what is not followed, what is named. -/
import Derived.Test.YtdpohandjgnknaaGreatDoorRows
import Derived.WalkKit
import Derived.ProofKit
namespace Go.Proofs.YtdpohandjgnknaaGreatDoor

theorem fact_unfollowed : (Rows.shrinkLessRow.unfollowed == Tryz.prog.unfollowed 3) = true := by kernel_rfl

theorem fact_named : (Rows.shrinkLessRow.named == Tryz.prog.varsNamed 3) = true := by kernel_rfl
end Go.Proofs.YtdpohandjgnknaaGreatDoor
