/- The law ShrinkNil: closed facts of the program: what is in place, what recurses. -/
import Derived.Test.YtdpohandjgnknaaGreatDoorRows
import Derived.WalkKit
import Derived.ProofKit
namespace Go.Proofs.YtdpohandjgnknaaGreatDoor

theorem fact_place : (Rows.shrinkNilRow.inPlace == Tryz.prog.inPlace 4) = true := by kernel_rfl

theorem fact_recurses : (Rows.shrinkNilRow.recurses == Tryz.prog.recurses 4) = true := by kernel_rfl
end Go.Proofs.YtdpohandjgnknaaGreatDoor
