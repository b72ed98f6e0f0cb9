/- The law DriverWords: closed facts of the program: what is not followed, what is named. -/
import Derived.Test.YtbijipibbddgdaaGreatDoorRows
import Derived.WalkKit
import Derived.ProofKit
namespace Go.Proofs.YtbijipibbddgdaaGreatDoor

theorem fact_unfollowed : (Rows.driverWordsRow.unfollowed == Tryz.prog.unfollowed 3) = true := by kernel_rfl

theorem fact_named : (Rows.driverWordsRow.named == Tryz.prog.varsNamed 3) = true := by kernel_rfl
end Go.Proofs.YtbijipibbddgdaaGreatDoor
