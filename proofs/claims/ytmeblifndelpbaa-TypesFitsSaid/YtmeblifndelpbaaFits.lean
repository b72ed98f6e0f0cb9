/- Proved of both functions that say which type fits which: each answers fitB. -/
import Derived.Test.YtmeblifndelpbaaRows
import Derived.WalkKit
import Derived.ProofKit
import Derived.OpenShut
namespace Go.Proofs.Ytmeblifndelpbaa
open Go.ChangeShapes Go.WideShapes Go.ChangeAt Go.RowKit

def fitB (a b : Int) : Bool := decide (a = b ∨ (a = 0 ∧ b ≠ 1))

theorem fits5 (a b : Int) (r : Bool) (h : fitB a b = r) (w : World) : Calls Try.prog 5 #[.int .i64 a, .int .i64 b] w fun e w' => e = .returned (.bool r) ∧ w' = w := by
  by_cases h1 : a = b
  · subst h1
    have : r = true := by rw [← h]; simp [fitB]
    subst this
    go_enter Try.func5, Try.ntmps5
    go_wp2
    go_ret
    exact ⟨by simp [*], rfl⟩
  · by_cases h2 : a = 0
    · subst h2
      by_cases h3 : b = 1
      · subst h3
        have : r = false := by rw [← h]; rfl
        subst this
        go_enter Try.func5, Try.ntmps5
        go_wp2
        go_ret
        exact ⟨by simp [*], rfl⟩
      · have : r = true := by rw [← h]; simp [fitB, h3]
        subst this
        go_enter Try.func5, Try.ntmps5
        go_wp2
        go_ret
        exact ⟨by simp [*], rfl⟩
    · have : r = false := by rw [← h]; simp [fitB, h1, h2]
      subst this
      go_enter Try.func5, Try.ntmps5
      go_wp2
      go_ret
      exact ⟨by simp [*], rfl⟩

theorem fits6 (a b : Int) (r : Bool) (h : fitB a b = r) (w : World) : Calls Try.prog 6 #[.int .i64 a, .int .i64 b] w fun e w' => e = .returned (.bool r) ∧ w' = w := by
  by_cases h2 : a = 0
  · subst h2
    by_cases h3 : b = 1
    · subst h3
      have : r = false := by rw [← h]; rfl
      subst this
      go_enter Try.func6, Try.ntmps6
      go_wp2
      go_ret
      exact ⟨by simp [*], rfl⟩
    · have : r = true := by rw [← h]; simp [fitB, h3]
      subst this
      go_enter Try.func6, Try.ntmps6
      go_wp2
      go_ret
      exact ⟨by simp [*], rfl⟩
  · by_cases h1 : a = b
    · subst h1
      have : r = true := by rw [← h]; simp [fitB]
      subst this
      go_enter Try.func6, Try.ntmps6
      go_wp2
      go_ret
      exact ⟨by simp [*], rfl⟩
    · have : r = false := by rw [← h]; simp [fitB, h1, h2]
      subst this
      go_enter Try.func6, Try.ntmps6
      go_wp2
      go_ret
      exact ⟨by simp [*], rfl⟩

end Go.Proofs.Ytmeblifndelpbaa
