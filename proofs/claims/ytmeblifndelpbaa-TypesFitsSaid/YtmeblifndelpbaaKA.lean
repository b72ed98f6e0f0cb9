/- The known cases of the law on types: the first text, evaluated: the call answers true. -/
import Derived.Test.YtmeblifndelpbaaEvW
import Derived.Test.YtmeblifndelpbaaRows
import Derived.KernelRfl
namespace Go.Proofs.Ytmeblifndelpbaa
open Go.Ev

noncomputable def textA : List AV := [.str 36 (packL [108, 111, 111, 112, 101, 114, 32, 97, 59, 32, 109, 97, 105, 110, 32, 123, 32, 118, 97, 114, 32, 120, 32, 105, 110, 116, 32, 61, 32, 110, 117, 108, 108, 59, 32, 125]), .int .i64 1, .int .i64 18]

theorem runA : says ((evs Try.prog 100000 100000).call (.fn 11 textA) .leaf 0) true = true := by kernel_rfl

end Go.Proofs.Ytmeblifndelpbaa
