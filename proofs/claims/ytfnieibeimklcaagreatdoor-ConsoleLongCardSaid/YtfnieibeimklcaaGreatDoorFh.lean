/- The law of the row consoleLong: a closed fact of the program: which variables its entries read. -/
import Derived.Test.YtfnieibeimklcaaGreatDoorFe
namespace Go.Proofs.YtfnieibeimklcaaGreatDoor
open Go
theorem en_is : ((cl.filterMap fun g => (Tryz.prog.funcs[g]?).bind fun fn => if fn.body.isNone then entryReads.lookup fn.name else none) == ["internal/bytealg.MaxLen", "internal/bytealg.MaxLen"]) = true := by kernel_rfl
end Go.Proofs.YtfnieibeimklcaaGreatDoor
