/- The law ParsePrints: closed facts of the program: its tables, maps. -/
import Derived.Test.YtlmmbanfhjaioaaGreatDoorRows
import Derived.WalkKit
import Derived.ProofKit
namespace Go.Proofs.YtlmmbanfhjaioaaGreatDoor

theorem AcF : laidOutB Tryz.prog = true := by kernel_rfl

theorem AcJ : mapsRowed Tryz.prog = true := by kernel_rfl
end Go.Proofs.YtlmmbanfhjaioaaGreatDoor
