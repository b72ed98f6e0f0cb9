/- The law ParseTexts: closed facts of the program: what is not followed, what is named. -/
import Derived.Test.YtlmmbanfhjaioaaGreatDoorRows
import Derived.WalkKit
import Derived.ProofKit
namespace Go.Proofs.YtlmmbanfhjaioaaGreatDoor

theorem Afl : (Rows.parseTextsRow.unfollowed == Tryz.prog.unfollowed 3) = true := by kernel_rfl

theorem Afh : (Rows.parseTextsRow.named == Tryz.prog.varsNamed 3) = true := by kernel_rfl
end Go.Proofs.YtlmmbanfhjaioaaGreatDoor
