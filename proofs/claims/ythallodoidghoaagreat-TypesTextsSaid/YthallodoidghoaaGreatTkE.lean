/- Laid by program out of its parts: TkE. -/
import Derived.Test.YthallodoidghoaaGreatTk1
import Derived.Test.YthallodoidghoaaGreatMe
set_option linter.unusedVariables false
set_option linter.unusedSimpArgs false
set_option maxRecDepth 100000
set_option linter.unusedSimpArgs false
open Go Go.Ev
namespace Go.Proofs.YthallodoidghoaaGreat
def ix:List Aj:=[[97,102,116,101,114],[97,114,114],[99,97,108,108],[99,97,110,99,101,108],[99,108,97,115,115],[99,111,109,112],[99,114,101,97,116,101],[100,101,115,116,114,111,121],[100,105,115,97,98,108,101],[101,108,115,101],[101,110,97,98,108,101],[101,118,101,110,116],[102,110],[102,114,111,110,116],[104,97,110,100],[105,102],[105,110,116],[105,116],[106,111,105,110],[108,101,110],[108,111,103],[108,111,111,112,101,114],[109,97,105,110],[110,101,119],[110,117,108,108],[111,102,102],[111,110],[112,111,115,116],[114,101,116,117,114,110],[115,112,97,119,110],[115,116,97,114,116],[115,116,111,112],[116,111],[116,111,107],[118,97,114],[119,104,105,108,101]]
def OA (l:Aj):Bool:=ix.any λw=>decide (l=w)
attribute [local irreducible] ix OA
end Go.Proofs.YthallodoidghoaaGreat
