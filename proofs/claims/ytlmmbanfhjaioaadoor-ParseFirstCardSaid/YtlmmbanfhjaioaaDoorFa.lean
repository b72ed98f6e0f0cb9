/- The law ParseFirst: closed facts of the program: its tables, maps. -/
import Derived.Test.YtlmmbanfhjaioaaDoorRows
import Derived.WalkKit
import Derived.ProofKit
namespace Go.Proofs.YtlmmbanfhjaioaaDoor

theorem Zmz : laidOutB Tryd.prog = true := by kernel_rfl

theorem Zj7 : mapsRowed Tryd.prog = true := by kernel_rfl
end Go.Proofs.YtlmmbanfhjaioaaDoor
