/- The law ParsePrints: closed facts of the program: what is not followed, what is named. -/
import Derived.Test.YtlmmbanfhjaioaaGreatDoorRows
import Derived.WalkKit
import Derived.ProofKit
namespace Go.Proofs.YtlmmbanfhjaioaaGreatDoor

theorem AcK : (Rows.parsePrintsRow.unfollowed == Tryz.prog.unfollowed 4) = true := by kernel_rfl

theorem AcG : (Rows.parsePrintsRow.named == Tryz.prog.varsNamed 4) = true := by kernel_rfl
end Go.Proofs.YtlmmbanfhjaioaaGreatDoor
