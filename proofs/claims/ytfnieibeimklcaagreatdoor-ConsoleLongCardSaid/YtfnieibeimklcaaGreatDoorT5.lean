/- A closed fact of the tie: package-level tables of the library start as the program's text lays them. -/
import Derived.Test.YtfnieibeimklcaaGreatDoorT7
import Derived.Test.YtfnieibeimklcaaGreatDoorT8a
import Derived.Test.YtfnieibeimklcaaGreatDoorT8b
import Derived.Test.YtfnieibeimklcaaGreatDoorT8c
import Derived.LaidOnce
namespace Go.Proofs.YtfnieibeimklcaaGreatDoor
open Go
theorem laidRun_app {P : Program} {w : World} {fuel : Nat} : ∀ {a b : List String} {x y : List (String × DataW Unit) × List MemPlace}, DataW.laidRun P w fuel a = some x → DataW.laidRun P w fuel b = some y → DataW.laidRun P w fuel (a ++ b) = some (x.1 ++ y.1, x.2 ++ y.2)
  | [], b, x, y, h1, h2 => by
    injection h1 with h1; subst h1
    exact h2
  | n :: a, b, x, y, h1, h2 => by
    rw [List.cons_append]
    unfold DataW.laidRun at h1 ⊢
    split at h1
    · split at h1
      · split at h1
        · rename_i z v hz hv
          injection h1 with h1; subst h1
          rw [laidRun_app hv h2]
          simp only [List.cons_append, List.append_assoc, *]
        · cases h1
      · cases h1
    · cases h1
theorem rows_app {P : Program} {w : World} {a b : List MemPlace} (h1 : laidRowsB P w a = true) (h2 : laidRowsB P w b = true) : laidRowsB P w (a ++ b) = true := by
  unfold laidRowsB at *
  rw [List.all_append, h1, h2]; rfl
theorem run_app {P : Program} {w : World} {fuel : Nat} {a b : List String} (h1 : (DataW.laidRun P w fuel a).map (fun x => laidRowsB P w x.2) = some true) (h2 : (DataW.laidRun P w fuel b).map (fun x => laidRowsB P w x.2) = some true) : (DataW.laidRun P w fuel (a ++ b)).map (fun x => laidRowsB P w x.2) = some true := by
  cases ha : DataW.laidRun P w fuel a with
  | none => rw [ha] at h1; cases h1
  | some x =>
    cases hb : DataW.laidRun P w fuel b with
    | none => rw [hb] at h2; cases h2
    | some y =>
      rw [ha] at h1
      rw [hb] at h2
      rw [laidRun_app ha hb]
      exact congrArg some (rows_app (Option.some.inj h1) (Option.some.inj h2))
theorem t_h4 (os : Os) (tape : Tape) : (DataW.laidRun Tryz.prog (varsWorld Tryz.prog 400 (varsId Tryz.prog) os tape).memory 8 (tieL.map (·.1))).map (fun x => laidRowsB Tryz.prog (varsWorld Tryz.prog 400 (varsId Tryz.prog) os tape).memory x.2) = some true := by
  have := run_app (run_app (t_h4a os tape) (t_h4b os tape)) (t_h4c os tape)
  exact this

theorem t_h2 (os : Os) (tape : Tape) : (DataW.laidRun Tryz.prog (varsWorld Tryz.prog 400 (varsId Tryz.prog) os tape).memory 8 (tieL.map (·.1))).map (fun x => decide x.2.Nodup && laidRowsB Tryz.prog (varsWorld Tryz.prog 400 (varsId Tryz.prog) os tape).memory x.2) = some true := by
  have h3 := t_h3 os tape
  have h4 := t_h4 os tape
  revert h3 h4
  generalize (varsWorld Tryz.prog 400 (varsId Tryz.prog) os tape).memory = m
  generalize DataW.laidRun Tryz.prog m 8 (tieL.map (·.1)) = o
  intro h3 h4
  cases o with
  | none => cases h3
  | some x =>
    simp only [Option.map_some, Option.some.injEq] at h3 h4 ⊢
    rw [decide_eq_true (nodupBits_sound h3).1, h4]; rfl
end Go.Proofs.YtfnieibeimklcaaGreatDoor
