/- Proved: closed facts of the law ConsoleLong. -/
import Derived.Test.YtfnieibeimklcaaGreatDoorRows
import Derived.WalkKit
import Derived.ProofKit
import Derived.Stop.Joined
namespace Go.Proofs.YtfnieibeimklcaaGreatDoor
open Go
theorem cf2 : (Tryz.prog.stops == []) = true := by kernel_rfl
theorem cf3 : (Tryz.prog.stopKnobs == []) = true := by kernel_rfl
theorem cf4 : Tryz.prog.stopsHeard = true := by kernel_rfl
theorem cf5 : Tryz.prog.mayEnter = true := by kernel_rfl
theorem cf6 : (Rows.consoleLongRow.lifted == Tryz.prog.liftsFinal) = true := by kernel_rfl
theorem cf7 : (Tryz.prog.make == some Rows.consoleLongRow.make) = true := by kernel_rfl
theorem cf8 : Rows.consoleLongRow.wf (OpenSpec.ofChange Rows.consoleLongSpec) = true := by kernel_rfl
theorem cf1 : (Rows.consoleLongRow.plainKeys == Tryz.prog.plainKeys) = true := by kernel_rfl
theorem cf9 : (Rows.consoleLongRow.mapsOut == Tryz.prog.mapsAmong Tryz.f3.resultTypes.toList) = true := by kernel_rfl
end Go.Proofs.YtfnieibeimklcaaGreatDoor
