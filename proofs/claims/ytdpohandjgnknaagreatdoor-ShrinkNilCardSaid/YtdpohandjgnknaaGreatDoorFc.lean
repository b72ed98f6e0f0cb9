/- The law ShrinkNil: closed facts of the program: what is not followed, what is named. -/
import Derived.Test.YtdpohandjgnknaaGreatDoorRows
import Derived.WalkKit
import Derived.ProofKit
namespace Go.Proofs.YtdpohandjgnknaaGreatDoor

theorem fact_unfollowed : (Rows.shrinkNilRow.unfollowed == Tryz.prog.unfollowed 4) = true := by kernel_rfl

theorem fact_named : (Rows.shrinkNilRow.named == Tryz.prog.varsNamed 4) = true := by kernel_rfl
end Go.Proofs.YtdpohandjgnknaaGreatDoor
