/- The law BaselineNil: closed facts of the program: what is in place, what recurses. -/
import Derived.Test.YtaeehnoidmkfeaaGreatDoorRows
import Derived.WalkKit
import Derived.ProofKit
namespace Go.Proofs.YtaeehnoidmkfeaaGreatDoor

theorem fact_place : (Rows.baselineNilRow.inPlace == Tryz.prog.inPlace 3) = true := by kernel_rfl

theorem fact_recurses : (Rows.baselineNilRow.recurses == Tryz.prog.recurses 3) = true := by kernel_rfl
end Go.Proofs.YtaeehnoidmkfeaaGreatDoor
