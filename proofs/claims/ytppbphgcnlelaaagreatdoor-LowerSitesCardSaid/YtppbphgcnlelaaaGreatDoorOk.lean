/- The law LowerSites: known() as a contract, the law as one. -/
import Derived.Test.YtppbphgcnlelaaaGreatDoorKn
import Derived.Test.YtppbphgcnlelaaaGreatDoorLsA
open Go Go.Ev
namespace Go.Proofs.YtppbphgcnlelaaaGreatDoor
theorem gz_eq : gz0 = Go.Proofs.YtppbphgcnlelaaaGreatDoorK.gz := by kernel_rfl
theorem okK : EntOK Tryz.prog 6 (eK gz0) := ent_cut ⟨_, _, Tryz.func6, by kernel_rfl, rfl⟩ fun w h => Go.Proofs.YtppbphgcnlelaaaGreatDoorK.known_any w (gz_eq ▸ h)
end Go.Proofs.YtppbphgcnlelaaaGreatDoor
