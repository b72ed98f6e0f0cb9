/- Laid by program out of its parts: PbQ, PbR, PbS. -/
import Derived.Test.YthallodoidghoaaGreatPb2
set_option linter.unusedVariables false
set_option linter.unusedSimpArgs false
section
set_option maxRecDepth 100000
set_option maxHeartbeats 2000000
open Go Go.Ev
namespace Go.Proofs.YthallodoidghoaaGreat
end Go.Proofs.YthallodoidghoaaGreat
end
