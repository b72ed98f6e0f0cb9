/- The law ParseNests: closed facts of the program: its tables, maps. -/
import Derived.Test.YtlmmbanfhjaioaaDoorRows
import Derived.WalkKit
import Derived.ProofKit
namespace Go.Proofs.YtlmmbanfhjaioaaDoor

theorem Zk9 : laidOutB Tryd.prog = true := by kernel_rfl

theorem Zik : mapsRowed Tryd.prog = true := by kernel_rfl
end Go.Proofs.YtlmmbanfhjaioaaDoor
