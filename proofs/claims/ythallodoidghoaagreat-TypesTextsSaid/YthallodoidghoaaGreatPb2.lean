/- Laid by program out of its parts: PbJ, PbK, PbL, PbM, PbN, PbO, PbP. -/
import Derived.Test.YthallodoidghoaaGreatPb1
set_option linter.unusedVariables false
set_option linter.unusedSimpArgs false
section
set_option maxRecDepth 100000
set_option maxHeartbeats 2000000
open Go Go.Ev
namespace Go.Proofs.YthallodoidghoaaGreat
section
variable {Se:Ad->TK->PF} {Br Po T:Ad->PF} {L:Ad} {s:RS}
end
end Go.Proofs.YthallodoidghoaaGreat
end
section
set_option maxRecDepth 100000
set_option maxHeartbeats 2000000
open Go Go.Ev
namespace Go.Proofs.YthallodoidghoaaGreat
--#proofs
end Go.Proofs.YthallodoidghoaaGreat
end
