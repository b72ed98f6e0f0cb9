/- Laid by program out of its parts: SxY, SxZ. -/
import Derived.Test.YtedpjdkikbgojaaGreatDoorMe
import Derived.Test.YtedpjdkikbgojaaGreatDoorMf
import Derived.Sort.Grow
import Derived.Sort.EncStr
import Derived.Test.YtedpjdkikbgojaaGreatDoorMh
set_option linter.unusedVariables false
set_option linter.unusedSimpArgs false
section
/- The symbolic layer, part Y: a contract of the kit's own that turns a row of texts in its place, as a contract of calls that turn objects. -/
namespace Go.Ev
open Go.RowKit Go.Sort Go.Proofs
end Go.Ev
end
section
/- The symbolic layer, part Z: rows of texts as arguments. -/
namespace Go.Ev
theorem appF_row {n i:Nat} {f g:Nat→List AV} {r:List AV} (h1:i < n→f i=r) (h2:¬ i < n→g (i - n)=r):appF n f g i=r:=by
 unfold appF
 by_cases h:i < n
 ·rw [show Nat.blt i n=true from by simpa [Nat.blt_eq] using h,cond_true];exact h1 h
 ·rw [show Nat.blt i n=false from Bool.eq_false_iff.2 fun hb=>h (by simpa [Nat.blt_eq] using hb),cond_false];exact h2 h
end Go.Ev
end
