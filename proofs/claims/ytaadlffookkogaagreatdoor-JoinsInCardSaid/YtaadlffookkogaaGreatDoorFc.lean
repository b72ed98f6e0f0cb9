/- The law JoinsIn: closed facts of the program: what is not followed, what is named. -/
import Derived.Test.YtaadlffookkogaaGreatDoorRows
import Derived.WalkKit
import Derived.ProofKit
namespace Go.Proofs.YtaadlffookkogaaGreatDoor

theorem fact_unfollowed : (Rows.joinsInRow.unfollowed == Tryz.prog.unfollowed 3) = true := by kernel_rfl

theorem fact_named : (Rows.joinsInRow.named == Tryz.prog.varsNamed 3) = true := by kernel_rfl
end Go.Proofs.YtaadlffookkogaaGreatDoor
