/- Laid by program out of its parts: TyK1. -/
import Derived.Test.YthallodoidghoaaMg
import Derived.KernelRfl
import Derived.Test.YthallodoidghoaaProg
set_option linter.unusedVariables false
set_option linter.unusedSimpArgs false
/- known() of the laws on types: one of its two texts, evaluated. -/
set_option maxRecDepth 100000
open Go Go.Ev
namespace Go.Proofs.Ythallodoidghoaa
set_option maxHeartbeats 0 in
theorem one1:says ((evs Try.prog 1000000 1000000).call (.fn 9 [.str 41 267267306076399015110246864440622811078472204918960353299971542771082464126617417225900144186060652,.int .i64 1,.int .i64 34]) .leaf 0) true=true:=by kernel_rfl
end Go.Proofs.Ythallodoidghoaa
