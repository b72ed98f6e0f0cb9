/- Proved: a closed fact of the law ConsoleLong: the tables that are laid. -/
import Derived.Test.YtfnieibeimklcaaGreatDoorDa
namespace Go.Proofs.YtfnieibeimklcaaGreatDoor
open Go
theorem w_beg (os : Os) : (((World.laidAll Tryz.prog os laidAll).forCall (fun _ _ => 0) ⟨#[], #[.int .i64 0], []⟩).heap.toList.drop Tryz.checked.prog.globals.size).take ((begin Tryz.checked.prog (fun _ _ => 0) default).world.heap.size - Tryz.checked.prog.globals.size) = (begin Tryz.checked.prog (fun _ _ => 0) default).world.heap.toList.drop Tryz.checked.prog.globals.size := by kernel_rfl

end Go.Proofs.YtfnieibeimklcaaGreatDoor
