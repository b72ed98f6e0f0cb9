/- A fact of the tie of the row BaselineNil, from its two halves. -/
import Derived.Test.YtaeehnoidmkfeaaGreatDoorT7
import Derived.Test.YtaeehnoidmkfeaaGreatDoorT8
namespace Go.Proofs.YtaeehnoidmkfeaaGreatDoor
open Go
theorem t_h2 (os : Os) (tape : Tape) : (DataW.laidRun Tryz.prog (varsWorld Tryz.prog 400 (varsId Tryz.prog) os tape).memory 8 (tieL.map (·.1))).map (fun x => decide x.2.Nodup && laidRowsB Tryz.prog (varsWorld Tryz.prog 400 (varsId Tryz.prog) os tape).memory x.2) = some true := by
  have h3 := t_h3 os tape
  have h4 := t_h4 os tape
  revert h3 h4
  generalize (varsWorld Tryz.prog 400 (varsId Tryz.prog) os tape).memory = m
  generalize DataW.laidRun Tryz.prog m 8 (tieL.map (·.1)) = o
  intro h3 h4
  cases o with
  | none => cases h3
  | some x =>
    simp only [Option.map_some, Option.some.injEq] at h3 h4 ⊢
    rw [decide_eq_true (nodupBits_sound h3).1, h4]; rfl
end Go.Proofs.YtaeehnoidmkfeaaGreatDoor
