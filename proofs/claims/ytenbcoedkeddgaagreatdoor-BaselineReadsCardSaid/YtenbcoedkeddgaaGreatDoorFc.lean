/- The law BaselineReads: closed facts of the program: what is not followed, what is named. -/
import Derived.Test.YtenbcoedkeddgaaGreatDoorRows
import Derived.WalkKit
import Derived.ProofKit
namespace Go.Proofs.YtenbcoedkeddgaaGreatDoor

theorem fact_unfollowed : (Rows.baselineReadsRow.unfollowed == Tryz.prog.unfollowed 3) = true := by kernel_rfl

theorem fact_named : (Rows.baselineReadsRow.named == Tryz.prog.varsNamed 3) = true := by kernel_rfl
end Go.Proofs.YtenbcoedkeddgaaGreatDoor
