/- The law ParseFirst: closed facts of the program: what is in place, what recurses. -/
import Derived.Test.YtlmmbanfhjaioaaDoorRows
import Derived.WalkKit
import Derived.ProofKit
namespace Go.Proofs.YtlmmbanfhjaioaaDoor

theorem Zj8 : (Rows.parseFirstRow.inPlace == Tryd.prog.inPlace 3) = true := by kernel_rfl

theorem Zcw : (Rows.parseFirstRow.recurses == Tryd.prog.recurses 3) = true := by kernel_rfl
end Go.Proofs.YtlmmbanfhjaioaaDoor
