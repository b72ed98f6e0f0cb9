/- The law LowerSites: closed facts of the program: what is in place, what recurses. -/
import Derived.Test.YtppbphgcnlelaaaGreatDoorRows
import Derived.WalkKit
import Derived.ProofKit
namespace Go.Proofs.YtppbphgcnlelaaaGreatDoor

theorem fact_place : (Rows.lowerSitesRow.inPlace == Tryz.prog.inPlace 3) = true := by kernel_rfl

theorem fact_recurses : (Rows.lowerSitesRow.recurses == Tryz.prog.recurses 3) = true := by kernel_rfl
end Go.Proofs.YtppbphgcnlelaaaGreatDoor
