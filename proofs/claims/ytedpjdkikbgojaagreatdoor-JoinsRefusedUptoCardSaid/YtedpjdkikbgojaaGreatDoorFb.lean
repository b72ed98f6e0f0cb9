/- The law JoinsRefused: closed facts of the program: what is in place, what recurses. -/
import Derived.Test.YtedpjdkikbgojaaGreatDoorRows
import Derived.WalkKit
import Derived.ProofKit
namespace Go.Proofs.YtedpjdkikbgojaaGreatDoor

theorem fact_place : (Rows.joinsRefusedUptoRow.inPlace == Tryz.prog.inPlace 3) = true := by kernel_rfl

theorem fact_recurses : (Rows.joinsRefusedUptoRow.recurses == Tryz.prog.recurses 3) = true := by kernel_rfl
end Go.Proofs.YtedpjdkikbgojaaGreatDoor
