/- The law ConsoleLong: closed facts of the witness. -/
import Derived.Test.YtfnieibeimklcaaGreatDoorDa
import Derived.Test.YtfnieibeimklcaaGreatDoorDb1
import Derived.Test.YtfnieibeimklcaaGreatDoorDb2
import Derived.Test.YtfnieibeimklcaaGreatDoorDc
import Derived.Test.YtfnieibeimklcaaGreatDoorDd
import Derived.Test.YtfnieibeimklcaaGreatDoorDe
import Derived.Test.YtfnieibeimklcaaGreatDoorRows
import Derived.Test.YtfnieibeimklcaaGreatDoorChecked
import Derived.Lib.SmallJoins
import Derived.DataReads
import Derived.Carry
import Derived.LaidMore
import Derived.OpenShut
import Derived.Stop.Joined
import Derived.MakeChecks
import Derived.ChangeSlices
import Derived.Lay
namespace Go.Proofs.YtfnieibeimklcaaGreatDoor
open Go.ChangeShapes Go.WideShapes Go.WideMaps Go.WideElems Go.RowKit Go.Joins 

theorem w_init : Tryz.checked.prog.inits.idxOf? 3 = none := by kernel_rfl
theorem w_shape (os : Os) : ((World.laidAll Tryz.prog os laidAll).forCall (fun _ _ => 0) ⟨#[], #[.int .i64 0], []⟩).Shaped Tryz.checked.prog := World.shaped_of_ZipB (P := Tryz.prog) (w_zip os) (w_beg os)
theorem w_ok (os : Os) : Input.okWideB Tryz.checked.prog ((World.laidAll Tryz.prog os laidAll).forCall (fun _ _ => 0) ⟨#[], #[.int .i64 0], []⟩) 3 ⟨#[], #[.int .i64 0], []⟩ = true := by kernel_rfl
theorem w_pre (os : Os) {H : Type} (enc : TypeId × Value → H) : Rows.consoleLongSpec.preB enc Tryz.checked.prog Tryz.f3 [] false ((World.laidAll Tryz.prog os laidAll).forCall (fun _ _ => 0) ⟨#[], #[.int .i64 0], []⟩).memory #[.int .i64 0] 8 = true := by kernel_rfl
theorem w_sz (os : Os) {H : Type} (enc : TypeId × Value → H) : Rows.consoleLongSpec.sizedB enc Tryz.checked.prog Tryz.f3 false ((World.laidAll Tryz.prog os laidAll).forCall (fun _ _ => 0) ⟨#[], #[.int .i64 0], []⟩).memory #[.int .i64 0] 8 = true := by kernel_rfl
end Go.Proofs.YtfnieibeimklcaaGreatDoor
