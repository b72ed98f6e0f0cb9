/- Laid by program out of its parts: TyK0. -/
import Derived.Test.YthallodoidghoaaGreatMg
import Derived.KernelRfl
import Derived.Test.YthallodoidghoaaGreatProg
set_option linter.unusedVariables false
set_option linter.unusedSimpArgs false
set_option maxRecDepth 100000
open Go Go.Ev
namespace Go.Proofs.YthallodoidghoaaGreat
set_option maxHeartbeats 0 in
theorem Alo:says ((RE Tryz.prog 1000000 1000000).call (.fn 12 [.str 36 243078206618063096867588136600946687131506746530633530800382399127361613569651255504748,.int .i64 1,.int .i64 18]) .leaf 0) true=true:=by kernel_rfl
end Go.Proofs.YthallodoidghoaaGreat
