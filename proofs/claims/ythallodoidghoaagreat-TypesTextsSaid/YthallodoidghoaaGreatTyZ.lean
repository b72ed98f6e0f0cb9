/- Laid by program out of its parts: TyK1. -/
import Derived.Test.YthallodoidghoaaGreatMg
import Derived.KernelRfl
import Derived.Test.YthallodoidghoaaGreatProg
set_option linter.unusedVariables false
set_option linter.unusedSimpArgs false
set_option maxRecDepth 100000
open Go Go.Ev
namespace Go.Proofs.YthallodoidghoaaGreat
set_option maxHeartbeats 0 in
theorem Alp:says ((RE Tryz.prog 1000000 1000000).call (.fn 12 [.str 41 267267306076399015110246864440622811078472204918960353299971542771082464126617417225900144186060652,.int .i64 1,.int .i64 34]) .leaf 0) true=true:=by kernel_rfl
end Go.Proofs.YthallodoidghoaaGreat
