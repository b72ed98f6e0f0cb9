/- The law ShrinkLess: closed facts of the program: what is in place, what recurses. -/
import Derived.Test.YtdpohandjgnknaaGreatDoorRows
import Derived.WalkKit
import Derived.ProofKit
namespace Go.Proofs.YtdpohandjgnknaaGreatDoor

theorem fact_place : (Rows.shrinkLessRow.inPlace == Tryz.prog.inPlace 3) = true := by kernel_rfl

theorem fact_recurses : (Rows.shrinkLessRow.recurses == Tryz.prog.recurses 3) = true := by kernel_rfl
end Go.Proofs.YtdpohandjgnknaaGreatDoor
