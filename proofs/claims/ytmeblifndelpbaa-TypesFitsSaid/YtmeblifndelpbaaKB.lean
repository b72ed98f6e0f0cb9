/- The known cases of the law on types: the second text, evaluated: the call answers true. -/
import Derived.Test.YtmeblifndelpbaaEvW
import Derived.Test.YtmeblifndelpbaaRows
import Derived.KernelRfl
namespace Go.Proofs.Ytmeblifndelpbaa
open Go.Ev

noncomputable def textB : List AV := [.str 41 (packL [108, 111, 111, 112, 101, 114, 32, 97, 59, 32, 109, 97, 105, 110, 32, 123, 32, 108, 111, 103, 32, 49, 32, 43, 32, 40, 102, 110, 32, 123, 32, 125, 32, 61, 61, 32, 50, 41, 59, 32, 125]), .int .i64 1, .int .i64 34]

theorem runB : says ((evs Try.prog 100000 100000).call (.fn 11 textB) .leaf 0) true = true := by kernel_rfl

end Go.Proofs.Ytmeblifndelpbaa
