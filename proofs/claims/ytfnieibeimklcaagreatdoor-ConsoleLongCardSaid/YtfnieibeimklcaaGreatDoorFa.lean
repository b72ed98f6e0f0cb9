/- The law ConsoleLong: closed facts of the program: its tables, maps: from what 'Checked' says of each row. -/
import Derived.Test.YtfnieibeimklcaaGreatDoorRows
import Derived.WalkKit
import Derived.ProofKit
import Derived.ClosedOfChecked
namespace Go.Proofs.YtfnieibeimklcaaGreatDoor

theorem fact_types : Tryz.checked.prog.types = Tryz.checked.src.types := by kernel_rfl

theorem fact_rest : (Tryz.checked.prog.globals.all (fun g => decide (g.type < Tryz.checked.prog.types.size)) && Tryz.checked.prog.funcs.all (fun f => f.params.all fun t => decide (t < Tryz.checked.prog.types.size))) = true := by kernel_rfl

theorem fact_laid : laidOutB Tryz.prog = true := Go.ClosedOfChecked.laidOutB_of (Go.ClosedOfChecked.allSpec_of Tryz.checked.wellFormed fact_types) fact_rest

theorem fact_rowed : mapsRowed Tryz.prog = true := Go.ClosedOfChecked.mapsRowed_of (Go.ClosedOfChecked.allSpec_of Tryz.checked.wellFormed fact_types)
end Go.Proofs.YtfnieibeimklcaaGreatDoor
