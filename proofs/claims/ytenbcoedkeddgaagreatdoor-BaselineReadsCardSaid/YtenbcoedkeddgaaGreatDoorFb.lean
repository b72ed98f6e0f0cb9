/- The law BaselineReads: closed facts of the program: what is in place, what recurses. -/
import Derived.Test.YtenbcoedkeddgaaGreatDoorRows
import Derived.WalkKit
import Derived.ProofKit
namespace Go.Proofs.YtenbcoedkeddgaaGreatDoor

theorem fact_place : (Rows.baselineReadsRow.inPlace == Tryz.prog.inPlace 3) = true := by kernel_rfl

theorem fact_recurses : (Rows.baselineReadsRow.recurses == Tryz.prog.recurses 3) = true := by kernel_rfl
end Go.Proofs.YtenbcoedkeddgaaGreatDoor
