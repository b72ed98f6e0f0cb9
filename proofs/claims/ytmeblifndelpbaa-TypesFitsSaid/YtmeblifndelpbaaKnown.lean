/- The known cases of the law on types: all of them: from every world the call answers true and leaves what was there as it was. -/
import Derived.Test.YtmeblifndelpbaaKA
import Derived.Test.YtmeblifndelpbaaKB
namespace Go.Proofs.Ytmeblifndelpbaa
open Go.Ev

theorem mixed : Try.prog.follows .mixedOrders = true := by kernel_rfl

theorem tabOK : TabOK Try.prog 11 [textA, textB] := by
  intro a ha
  rcases List.mem_cons.1 ha with rfl | ha
  · exact ⟨by kernel_rfl, 100000, 100000, runA⟩
  · rcases List.mem_cons.1 ha with rfl | ha
    · exact ⟨by kernel_rfl, 100000, 100000, runB⟩
    · cases ha

theorem runK : says ((evsT Try.prog 11 [textA, textB] 100 100).call (.fn 7 []) .leaf 0) true = true := by kernel_rfl

theorem known_any (w : World) : Calls Try.prog 7 #[] w fun e w' => e = .returned (.bool true) ∧ RowKit.Below w.heap.size w w' :=
  ev_table mixed tabOK runK .nil w

end Go.Proofs.Ytmeblifndelpbaa
