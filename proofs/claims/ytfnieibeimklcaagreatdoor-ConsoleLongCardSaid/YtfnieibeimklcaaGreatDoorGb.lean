/- Proved: closed facts of the law ConsoleLong, together. -/
import Derived.Test.YtfnieibeimklcaaGreatDoorGa
import Derived.Test.YtfnieibeimklcaaGreatDoorFa
import Derived.Test.YtfnieibeimklcaaGreatDoorFb
import Derived.Test.YtfnieibeimklcaaGreatDoorFc
import Derived.Test.YtfnieibeimklcaaGreatDoorFd
import Derived.JoinedOf
set_option maxRecDepth 1000000
namespace Go.Proofs.YtfnieibeimklcaaGreatDoor
open Go
theorem cf10 : namedTie Tryz.prog Rows.consoleLongRow.named Rows.consoleLongSpec.vars = true := by kernel_rfl
theorem cf11 : (Rows.consoleLongRow.maps == (Tryz.f3.params.toList ++ Rows.consoleLongSpec.plain.varTypes Tryz.prog).any (Tryz.prog.mapsRec ·)) = true := by kernel_rfl
theorem cf12 : Rows.consoleLongSpec.vars.all (Tryz.prog.varReadable ·) = true := by kernel_rfl
theorem cf13 : Tryz.f3.resultTypes.all (fun t => Tryz.prog.readableRec t && decide (t < Tryz.prog.types.size)) = true := by kernel_rfl
theorem cf14 : Rows.consoleLongRow.veiledFits Tryz.prog Tryz.f3.params.toList (Tryz.f3.params.toList ++ Rows.consoleLongSpec.plain.varTypes Tryz.prog) = true := by kernel_rfl
theorem cf15 : (Rows.consoleLongRow.pinned == Rows.consoleLongRow.pinnedBy) = true := by kernel_rfl
theorem cf16 : Tryz.f3.params.all (Tryz.prog.readableRec ·) = true := by kernel_rfl
theorem closed : joinedFacts Tryz.prog 3 Tryz.f3 Rows.consoleLongSpec Rows.consoleLongRow = true := by
  unfold joinedFacts
  rw [fact_laid, fact_rowed, fact_place, fact_recurses, fact_unfollowed, fact_named, cf1, cf2, cf3, cf4, cf5, cf6, cf7, cf8, cf9, cf10, cf11, cf12, cf13, cf15, cf16]
  try rw [cf14]
  kernel_rfl

end Go.Proofs.YtfnieibeimklcaaGreatDoor
