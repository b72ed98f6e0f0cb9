/- The law ParsePrints: closed facts of the program: what is in place, what recurses. -/
import Derived.Test.YtlmmbanfhjaioaaGreatDoorRows
import Derived.WalkKit
import Derived.ProofKit
namespace Go.Proofs.YtlmmbanfhjaioaaGreatDoor

theorem AcH : (Rows.parsePrintsRow.inPlace == Tryz.prog.inPlace 4) = true := by kernel_rfl

theorem AcI : (Rows.parsePrintsRow.recurses == Tryz.prog.recurses 4) = true := by kernel_rfl
end Go.Proofs.YtlmmbanfhjaioaaGreatDoor
