/- The law BaselineLists: known() as a contract. -/
import Derived.Test.YtenbcoedkeddgaaGreatDoorKn
import Derived.Test.YtenbcoedkeddgaaGreatDoorBlW
import Derived.Test.YtenbcoedkeddgaaGreatDoorBlX
open Go Go.Ev
namespace Go.Proofs.YtenbcoedkeddgaaGreatDoor
theorem gz_eq : gz0 = Go.Proofs.YtenbcoedkeddgaaGreatDoorK.gz := by kernel_rfl
theorem okK : EntOK Tryz.prog 5 (eK gz0) := ent_cut ⟨_, _, Tryz.func5, by kernel_rfl, rfl⟩ fun w h => Go.Proofs.YtenbcoedkeddgaaGreatDoorK.known_any w (gz_eq ▸ h)
end Go.Proofs.YtenbcoedkeddgaaGreatDoor
