/- The law ConsoleLong: closed facts of the program: what is not followed. -/
import Derived.Test.YtfnieibeimklcaaGreatDoorFe
namespace Go.Proofs.YtfnieibeimklcaaGreatDoor
open Go
theorem unfollowed_is : Tryz.prog.unfollowed 3 = true := by
  unfold Program.unfollowed
  rw [eq_of_beq cl_is]
  kernel_rfl
theorem fact_unfollowed : (Rows.consoleLongRow.unfollowed == Tryz.prog.unfollowed 3) = true := by
  rw [unfollowed_is]; kernel_rfl
theorem fact_recurses : (Rows.consoleLongRow.recurses == Tryz.prog.recurses 3) = true := by
  unfold Program.recurses
  rw [unfollowed_is, Bool.true_or]; kernel_rfl

end Go.Proofs.YtfnieibeimklcaaGreatDoor
