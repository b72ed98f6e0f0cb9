/- The law ExploreNone: closed facts of the program: what is not followed, what is named. -/
import Derived.Test.YtlcpbofoajkjkaaGreatDoorRows
import Derived.WalkKit
import Derived.ProofKit
namespace Go.Proofs.YtlcpbofoajkjkaaGreatDoor

theorem fact_unfollowed : (Rows.exploreNoneRow.unfollowed == Tryz.prog.unfollowed 3) = true := by kernel_rfl

theorem fact_named : (Rows.exploreNoneRow.named == Tryz.prog.varsNamed 3) = true := by kernel_rfl
end Go.Proofs.YtlcpbofoajkjkaaGreatDoor
