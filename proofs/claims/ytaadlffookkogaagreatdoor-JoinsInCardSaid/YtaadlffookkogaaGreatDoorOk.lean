/- JoinsIn: known() as a contract. -/
import Derived.Test.YtaadlffookkogaaGreatDoorKn
import Derived.Test.YtaadlffookkogaaGreatDoorJiA
import Derived.ChangeSlices
import Derived.OpenShut
import Derived.Test.YtaadlffookkogaaGreatDoorChecked
open Go Go.Ev Go.ChangeShapes Go.RowKit
namespace Go.Proofs.YtaadlffookkogaaGreatDoor
theorem gz_eq : gz0 = Go.Proofs.YtaadlffookkogaaGreatDoorK.gz := by kernel_rfl
theorem okK : EntOK Tryz.prog 4 (eK gz0) := ent_cut ⟨_, _, Tryz.func4, by kernel_rfl, rfl⟩ fun w h => Go.Proofs.YtaadlffookkogaaGreatDoorK.known_any w (gz_eq ▸ h)
end Go.Proofs.YtaadlffookkogaaGreatDoor
