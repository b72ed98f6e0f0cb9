/- The law BaselineLists: closed facts of the program: what is not followed, what is named. -/
import Derived.Test.YtenbcoedkeddgaaGreatDoorRows
import Derived.WalkKit
import Derived.ProofKit
namespace Go.Proofs.YtenbcoedkeddgaaGreatDoor

theorem fact_unfollowed : (Rows.baselineListsRow.unfollowed == Tryz.prog.unfollowed 4) = true := by kernel_rfl

theorem fact_named : (Rows.baselineListsRow.named == Tryz.prog.varsNamed 4) = true := by kernel_rfl
end Go.Proofs.YtenbcoedkeddgaaGreatDoor
