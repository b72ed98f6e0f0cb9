/- The law's known(): a closed call, evaluated. -/
import Derived.Test.YtmeblifndelpbaaDoorEvV
import Derived.Test.YtmeblifndelpbaaDoorProg
namespace Go.Proofs.YtmeblifndelpbaaDoor
open Go.Ev

theorem known_says : says (ob (ofScalars []) fun args => (evs Tryd.prog 100000 100000).call (.fn 4 args) .leaf 0) true = true := by kernel_rfl

theorem known_any (w : World) : Calls Tryd.prog 4 #[] w fun e w' => e = .returned (.bool true) ∧ RowKit.Below w.heap.size w w' :=
  ev_closed (by kernel_rfl) known_says w
end Go.Proofs.YtmeblifndelpbaaDoor
