/- The law ConsoleLong: closed facts of the program: what is in place. -/
import Derived.Test.YtfnieibeimklcaaGreatDoorFe
namespace Go.Proofs.YtfnieibeimklcaaGreatDoor
open Go
theorem fact_place : (Rows.consoleLongRow.inPlace == Tryz.prog.inPlace 3) = true := by
  unfold Program.inPlace
  rw [eq_of_beq cl_is]
  kernel_rfl

end Go.Proofs.YtfnieibeimklcaaGreatDoor
