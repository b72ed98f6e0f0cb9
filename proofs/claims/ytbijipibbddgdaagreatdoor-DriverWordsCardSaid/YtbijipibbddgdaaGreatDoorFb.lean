/- The law DriverWords: closed facts of the program: what is in place, what recurses. -/
import Derived.Test.YtbijipibbddgdaaGreatDoorRows
import Derived.WalkKit
import Derived.ProofKit
namespace Go.Proofs.YtbijipibbddgdaaGreatDoor

theorem fact_place : (Rows.driverWordsRow.inPlace == Tryz.prog.inPlace 3) = true := by kernel_rfl

theorem fact_recurses : (Rows.driverWordsRow.recurses == Tryz.prog.recurses 3) = true := by kernel_rfl
end Go.Proofs.YtbijipibbddgdaaGreatDoor
