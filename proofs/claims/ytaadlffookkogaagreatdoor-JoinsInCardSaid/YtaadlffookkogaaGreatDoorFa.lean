/- The law JoinsIn: closed facts of the program: its tables, maps. -/
import Derived.Test.YtaadlffookkogaaGreatDoorRows
import Derived.WalkKit
import Derived.ProofKit
namespace Go.Proofs.YtaadlffookkogaaGreatDoor

theorem fact_laid : laidOutB Tryz.prog = true := by kernel_rfl

theorem fact_rowed : mapsRowed Tryz.prog = true := by kernel_rfl
end Go.Proofs.YtaadlffookkogaaGreatDoor
