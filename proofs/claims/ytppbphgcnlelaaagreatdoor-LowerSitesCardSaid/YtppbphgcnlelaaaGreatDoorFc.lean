/- The law LowerSites: closed facts of the program: what is not followed, what is named. -/
import Derived.Test.YtppbphgcnlelaaaGreatDoorRows
import Derived.WalkKit
import Derived.ProofKit
namespace Go.Proofs.YtppbphgcnlelaaaGreatDoor

theorem fact_unfollowed : (Rows.lowerSitesRow.unfollowed == Tryz.prog.unfollowed 3) = true := by kernel_rfl

theorem fact_named : (Rows.lowerSitesRow.named == Tryz.prog.varsNamed 3) = true := by kernel_rfl
end Go.Proofs.YtppbphgcnlelaaaGreatDoor
