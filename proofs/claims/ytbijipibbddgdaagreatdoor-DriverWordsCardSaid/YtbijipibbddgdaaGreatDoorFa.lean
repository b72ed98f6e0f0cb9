/- The law DriverWords: closed facts of the program: its tables, maps. -/
import Derived.Test.YtbijipibbddgdaaGreatDoorRows
import Derived.WalkKit
import Derived.ProofKit
namespace Go.Proofs.YtbijipibbddgdaaGreatDoor

theorem fact_laid : laidOutB Tryz.prog = true := by kernel_rfl

theorem fact_rowed : mapsRowed Tryz.prog = true := by kernel_rfl
end Go.Proofs.YtbijipibbddgdaaGreatDoor
