/- The law ConsoleNil: closed facts of the program: what is not followed. -/
import Derived.Test.YtdcdfpdefddfjaaGreatDoorFe
namespace Go.Proofs.YtdcdfpdefddfjaaGreatDoor
open Go
theorem unfollowed_is : Tryz.prog.unfollowed 3 = true := by
  unfold Program.unfollowed
  rw [eq_of_beq cl_is]
  kernel_rfl
theorem fact_unfollowed : (Rows.consoleNilRow.unfollowed == Tryz.prog.unfollowed 3) = true := by
  rw [unfollowed_is]; kernel_rfl
theorem fact_recurses : (Rows.consoleNilRow.recurses == Tryz.prog.recurses 3) = true := by
  unfold Program.recurses
  rw [unfollowed_is, Bool.true_or]; kernel_rfl

end Go.Proofs.YtdcdfpdefddfjaaGreatDoor
