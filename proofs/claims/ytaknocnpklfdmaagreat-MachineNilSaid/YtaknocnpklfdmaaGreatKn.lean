/- The law on machines that are not there: a closed call, evaluated. -/
import Derived.Test.YtaknocnpklfdmaaGreatEvV
import Derived.Test.YtaknocnpklfdmaaGreatProg
namespace Go.Proofs.YtaknocnpklfdmaaGreat
open Go.Ev

theorem law_says : says (ob (ofScalars []) fun args => (evs Tryz.prog 100000 100000).call (.fn 3 args) .leaf 0) true = true := by kernel_rfl

theorem law_any (w : World) : Calls Tryz.prog 3 #[] w fun e w' => e = .returned (.bool true) ∧ RowKit.Below w.heap.size w w' :=
  ev_closed (by kernel_rfl) law_says w
end Go.Proofs.YtaknocnpklfdmaaGreat
