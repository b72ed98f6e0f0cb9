/- Proved: a closed fact of the law ConsoleLong: the tables that are laid. -/
import Derived.Test.YtfnieibeimklcaaGreatDoorDa
namespace Go.Proofs.YtfnieibeimklcaaGreatDoor
open Go
theorem d_f2 (os : Os) : (Lay.layList Tryz.prog (World.holding Tryz.prog os ⟨#[], #[], []⟩).heap.size laidAll).map (fun y => y.1.all fun r => Lay.isRow (World.holding Tryz.prog os ⟨#[], #[], []⟩).heap.toList[r.1]? && !([] : List Nat).contains r.1) = some true := by
  unfold World.holding World.settled begin
  rw [waits_is]
  kernel_rfl

end Go.Proofs.YtfnieibeimklcaaGreatDoor
