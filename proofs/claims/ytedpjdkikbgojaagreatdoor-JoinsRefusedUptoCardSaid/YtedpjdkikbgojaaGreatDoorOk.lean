/- The law JoinsRefused: known() as a contract; how much an argument is. -/
import Derived.Test.YtedpjdkikbgojaaGreatDoorKn
import Derived.Test.YtedpjdkikbgojaaGreatDoorJrK
import Derived.Test.YtedpjdkikbgojaaGreatDoorRows
import Derived.Test.YtedpjdkikbgojaaGreatDoorChecked
set_option maxRecDepth 100000
open Go Go.Ev Go.ChangeShapes Go.RowKit
namespace Go.Proofs.YtedpjdkikbgojaaGreatDoor
theorem gz_eq : gz0 = Go.Proofs.YtedpjdkikbgojaaGreatDoorK.gz := by kernel_rfl
theorem okK : EntOK Tryz.prog 6 (eK gz0) := ent_cut ⟨_, _, Tryz.func6, by kernel_rfl, rfl⟩ fun w h => Go.Proofs.YtedpjdkikbgojaaGreatDoorK.known_any w (gz_eq ▸ h)
theorem sm_bulk {H : Type} : ∀ l : List (DataW H), sm Rows.uptoBulk l = Rows.uptoBulkAll l
  | [] => by simp [sm, Rows.uptoBulkAll]
  | d :: l => by rw [sm, Rows.uptoBulkAll, sm_bulk l]
theorem meas {H : Type} : Meas (Rows.uptoBulk (H := H)) :=
  ⟨fun d => by
    cases d with
    | lit l => cases l <;> simp [Rows.uptoBulk]
    | nil => simp [Rows.uptoBulk]
    | ptr d => simp [Rows.uptoBulk]
    | slice elems spare => simp [Rows.uptoBulk]
    | agg parts => simp [Rows.uptoBulk]
    | iface t d => simp [Rows.uptoBulk]
    | map entries => simp [Rows.uptoBulk]
    | held h => simp [Rows.uptoBulk], fun e r => by rw [sm_bulk, Rows.uptoBulk]; omega, fun l => by rw [sm_bulk, Rows.uptoBulk]; omega⟩
end Go.Proofs.YtedpjdkikbgojaaGreatDoor
