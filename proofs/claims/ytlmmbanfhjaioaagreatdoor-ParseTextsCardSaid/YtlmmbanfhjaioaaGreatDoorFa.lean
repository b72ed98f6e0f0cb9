/- The law ParseTexts: closed facts of the program: its tables, maps. -/
import Derived.Test.YtlmmbanfhjaioaaGreatDoorRows
import Derived.WalkKit
import Derived.ProofKit
namespace Go.Proofs.YtlmmbanfhjaioaaGreatDoor

theorem Afg : laidOutB Tryz.prog = true := by kernel_rfl

theorem Afk : mapsRowed Tryz.prog = true := by kernel_rfl
end Go.Proofs.YtlmmbanfhjaioaaGreatDoor
