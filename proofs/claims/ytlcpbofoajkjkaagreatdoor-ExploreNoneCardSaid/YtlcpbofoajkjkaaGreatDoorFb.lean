/- The law ExploreNone: closed facts of the program: what is in place, what recurses. -/
import Derived.Test.YtlcpbofoajkjkaaGreatDoorRows
import Derived.WalkKit
import Derived.ProofKit
namespace Go.Proofs.YtlcpbofoajkjkaaGreatDoor

theorem fact_place : (Rows.exploreNoneRow.inPlace == Tryz.prog.inPlace 3) = true := by kernel_rfl

theorem fact_recurses : (Rows.exploreNoneRow.recurses == Tryz.prog.recurses 3) = true := by kernel_rfl
end Go.Proofs.YtlcpbofoajkjkaaGreatDoor
