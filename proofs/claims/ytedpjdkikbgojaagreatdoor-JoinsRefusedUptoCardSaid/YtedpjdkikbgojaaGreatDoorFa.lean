/- The law JoinsRefused: closed facts of the program: its tables, maps. -/
import Derived.Test.YtedpjdkikbgojaaGreatDoorRows
import Derived.WalkKit
import Derived.ProofKit
namespace Go.Proofs.YtedpjdkikbgojaaGreatDoor

theorem fact_laid : laidOutB Tryz.prog = true := by kernel_rfl

theorem fact_rowed : mapsRowed Tryz.prog = true := by kernel_rfl
end Go.Proofs.YtedpjdkikbgojaaGreatDoor
