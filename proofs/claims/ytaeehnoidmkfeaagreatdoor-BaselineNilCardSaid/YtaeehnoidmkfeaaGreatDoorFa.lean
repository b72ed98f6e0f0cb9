/- The law BaselineNil: closed facts of the program: its tables, maps. -/
import Derived.Test.YtaeehnoidmkfeaaGreatDoorRows
import Derived.WalkKit
import Derived.ProofKit
namespace Go.Proofs.YtaeehnoidmkfeaaGreatDoor

theorem fact_laid : laidOutB Tryz.prog = true := by kernel_rfl

theorem fact_rowed : mapsRowed Tryz.prog = true := by kernel_rfl
end Go.Proofs.YtaeehnoidmkfeaaGreatDoor
