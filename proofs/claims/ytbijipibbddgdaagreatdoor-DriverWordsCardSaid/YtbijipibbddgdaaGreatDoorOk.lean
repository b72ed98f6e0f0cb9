/- The law DriverWords: known() as a contract; the argument that is a verdict, as contents. -/
import Derived.Test.YtbijipibbddgdaaGreatDoorKn
import Derived.Test.YtbijipibbddgdaaGreatDoorDwA
import Derived.ChangeSlices
import Derived.OpenShut
import Derived.Test.YtbijipibbddgdaaGreatDoorChecked
set_option maxRecDepth 100000
open Go Go.Ev Go.ChangeShapes Go.RowKit
namespace Go.Proofs.YtbijipibbddgdaaGreatDoor
theorem gz_eq : gz0 = Go.Proofs.YtbijipibbddgdaaGreatDoorK.gz := by kernel_rfl
theorem okK : EntOK Tryz.prog 7 (eK gz0) := ent_cut ⟨_, _, Tryz.func7, by kernel_rfl, rfl⟩ fun w h => Go.Proofs.YtbijipibbddgdaaGreatDoorK.known_any w (gz_eq ▸ h)
theorem verdict_arg {H : Type} {enc : TypeId × Value → H} {w : World} (cs : List Value) (m : Nat) (x : DataW H × List MemPlace)
    (h : DataW.trod enc Tryz.prog w 0 (fun _ => true) true m 27 cs = some x) : ∃ (lim : Int) (a b c : Nat), VRL (wRen w) (argV a b c lim) cs := by
  obtain ⟨xs, n, _, rfl, hl, hlen, hf⟩ := DataW.trod_struct Tryz.underlying27 h
  have hl4 : cs.length = 4 := hl.trans (by kernel_rfl)
  have c0 : Tryz.prog.cellsOf 22 = 1 := by kernel_rfl
  have c1 : Tryz.prog.cellsOf 23 = 1 := by kernel_rfl
  have c2 : Tryz.prog.cellsOf 24 = 1 := by kernel_rfl
  have c3 : Tryz.prog.cellsOf 25 = 1 := by kernel_rfl
  clear h
  match xs, hlen with
  | [y0, y1, y2, y3], _ =>
  match cs, hl4 with
  | [v0, v1, v2, v3], _ =>
    have h0 : DataW.trod enc Tryz.prog w 0 (fun _ => true) true n 22 [v0] = some y0 := by simpa [c0] using hf 0 _ rfl
    have h1 : DataW.trod enc Tryz.prog w 0 (fun _ => true) true n 23 [v1] = some y1 := by simpa [c1] using hf 1 _ rfl
    have h2 : DataW.trod enc Tryz.prog w 0 (fun _ => true) true n 24 [v2] = some y2 := by simpa [c2] using hf 2 _ rfl
    have h3 : DataW.trod enc Tryz.prog w 0 (fun _ => true) true n 25 [v3] = some y3 := by simpa [c3] using hf 3 _ rfl
    obtain ⟨a, ha⟩ := len_arg Tryz.underlying22 (by decide +kernel) h0
    obtain ⟨z, e1, _, _⟩ := DataW.trod_int (k := .i64) (by kernel_rfl) h1
    injection e1 with e1 _
    subst e1
    obtain ⟨b, hb⟩ := len_arg Tryz.underlying24 (by decide +kernel) h2
    obtain ⟨c, hc⟩ := len_arg Tryz.underlying25 (by decide +kernel) h3
    exact ⟨z, a, b, c, .cons _ _ _ _ ha (.cons _ _ _ _ (.int _ _) (.cons _ _ _ _ hb (.cons _ _ _ _ hc .nil)))⟩
end Go.Proofs.YtbijipibbddgdaaGreatDoor
