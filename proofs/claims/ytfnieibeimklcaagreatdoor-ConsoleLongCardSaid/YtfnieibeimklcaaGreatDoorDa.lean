/- Proved: closed facts of the law ConsoleLong: the tables that are laid. -/
import Derived.Test.YtfnieibeimklcaaGreatDoorRows
import Derived.WalkKit
import Derived.ProofKit
import Derived.LaidMore
import Derived.OpenShut
import Derived.Stop.Joined
import Derived.MakeChecks
import Derived.Lay
namespace Go.Proofs.YtfnieibeimklcaaGreatDoor
open Go
def laidAll : List (String × DataW Unit) := [("strings.asciiSpace", Rows.laid_strings_asciiSpace), ("unicode.White_Space", Rows.laid_unicode_White_Space), ("internal/strconv.uint64pow10", Rows.laid_internal_strconv_uint64pow10), ("math/bits.deBruijn32tab", Rows.laid_math_bits_deBruijn32tab), ("math/bits.deBruijn64tab", Rows.laid_math_bits_deBruijn64tab), ("strconv.ErrSyntax", Rows.laid_strconv_ErrSyntax), ("strconv.ErrRange", Rows.laid_strconv_ErrRange), ("unicode/utf8.first", Rows.laid_unicode_utf8_first), ("unicode/utf8.acceptRanges", Rows.laid_unicode_utf8_acceptRanges)]

end Go.Proofs.YtfnieibeimklcaaGreatDoor
section
namespace Go.Proofs.YtfnieibeimklcaaGreatDoor
open Go
def zipF (P : Program) (w : World) : { F : Nat → Bool // World.variablesZipB P w = (List.range P.globals.size).all F } := ⟨_, rfl⟩

end Go.Proofs.YtfnieibeimklcaaGreatDoor
end
section
namespace Go.Proofs.YtfnieibeimklcaaGreatDoor
open Go
theorem waits_is : waiting Tryz.prog = #[false, false, false, false, false, false, false, false, false, false, false] := by kernel_rfl

end Go.Proofs.YtfnieibeimklcaaGreatDoor
end
