/- The law BaselineLists: closed facts of the program: what is in place, what recurses. -/
import Derived.Test.YtenbcoedkeddgaaGreatDoorRows
import Derived.WalkKit
import Derived.ProofKit
namespace Go.Proofs.YtenbcoedkeddgaaGreatDoor

theorem fact_place : (Rows.baselineListsRow.inPlace == Tryz.prog.inPlace 4) = true := by kernel_rfl

theorem fact_recurses : (Rows.baselineListsRow.recurses == Tryz.prog.recurses 4) = true := by kernel_rfl
end Go.Proofs.YtenbcoedkeddgaaGreatDoor
