/- The law ParseNests: closed facts of the program: what is in place, what recurses. -/
import Derived.Test.YtlmmbanfhjaioaaDoorRows
import Derived.WalkKit
import Derived.ProofKit
namespace Go.Proofs.YtlmmbanfhjaioaaDoor

theorem Zie : (Rows.parseNestsRow.inPlace == Tryd.prog.inPlace 4) = true := by kernel_rfl

theorem Zcr : (Rows.parseNestsRow.recurses == Tryd.prog.recurses 4) = true := by kernel_rfl
end Go.Proofs.YtlmmbanfhjaioaaDoor
