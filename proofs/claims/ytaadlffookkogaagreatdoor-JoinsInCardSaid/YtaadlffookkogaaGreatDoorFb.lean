/- The law JoinsIn: closed facts of the program: what is in place, what recurses. -/
import Derived.Test.YtaadlffookkogaaGreatDoorRows
import Derived.WalkKit
import Derived.ProofKit
namespace Go.Proofs.YtaadlffookkogaaGreatDoor

theorem fact_place : (Rows.joinsInRow.inPlace == Tryz.prog.inPlace 3) = true := by kernel_rfl

theorem fact_recurses : (Rows.joinsInRow.recurses == Tryz.prog.recurses 3) = true := by kernel_rfl
end Go.Proofs.YtaadlffookkogaaGreatDoor
