/- Laid by program out of its parts: TyR. -/
import Derived.Test.YthallodoidghoaaTyQa
set_option linter.unusedVariables false
set_option linter.unusedSimpArgs false
set_option maxRecDepth 100000
set_option maxHeartbeats 2000000
open Go Go.Ev
namespace Go.Proofs.Ythallodoidghoaa
--#proofs
end Go.Proofs.Ythallodoidghoaa
