/- The law JoinsRefused: closed facts of the program: what is not followed, what is named. -/
import Derived.Test.YtedpjdkikbgojaaGreatDoorRows
import Derived.WalkKit
import Derived.ProofKit
namespace Go.Proofs.YtedpjdkikbgojaaGreatDoor

theorem fact_unfollowed : (Rows.joinsRefusedUptoRow.unfollowed == Tryz.prog.unfollowed 3) = true := by kernel_rfl

theorem fact_named : (Rows.joinsRefusedUptoRow.named == Tryz.prog.varsNamed 3) = true := by kernel_rfl
end Go.Proofs.YtedpjdkikbgojaaGreatDoor
