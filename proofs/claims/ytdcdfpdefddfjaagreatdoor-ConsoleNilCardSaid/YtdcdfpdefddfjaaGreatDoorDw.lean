/- Proved: a closed fact of the law ConsoleNil: the tables that are laid. -/
import Derived.Test.YtdcdfpdefddfjaaGreatDoorDa
namespace Go.Proofs.YtdcdfpdefddfjaaGreatDoor
open Go
theorem waits_is : waiting Tryz.prog = #[false, false, false, false, false, false, false, false, false, false, false] := by kernel_rfl

end Go.Proofs.YtdcdfpdefddfjaaGreatDoor
