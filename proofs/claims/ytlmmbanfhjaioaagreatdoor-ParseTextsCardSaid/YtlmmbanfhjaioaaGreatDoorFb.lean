/- The law ParseTexts: closed facts of the program: what is in place, what recurses. -/
import Derived.Test.YtlmmbanfhjaioaaGreatDoorRows
import Derived.WalkKit
import Derived.ProofKit
namespace Go.Proofs.YtlmmbanfhjaioaaGreatDoor

theorem Afi : (Rows.parseTextsRow.inPlace == Tryz.prog.inPlace 3) = true := by kernel_rfl

theorem Afj : (Rows.parseTextsRow.recurses == Tryz.prog.recurses 3) = true := by kernel_rfl
end Go.Proofs.YtlmmbanfhjaioaaGreatDoor
