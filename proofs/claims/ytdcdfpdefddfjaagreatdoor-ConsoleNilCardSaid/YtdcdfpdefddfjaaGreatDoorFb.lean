/- The law ConsoleNil: closed facts of the program: what is in place. -/
import Derived.Test.YtdcdfpdefddfjaaGreatDoorFe
namespace Go.Proofs.YtdcdfpdefddfjaaGreatDoor
open Go
theorem fact_place : (Rows.consoleNilRow.inPlace == Tryz.prog.inPlace 3) = true := by
  unfold Program.inPlace
  rw [eq_of_beq cl_is]
  kernel_rfl

end Go.Proofs.YtdcdfpdefddfjaaGreatDoor
