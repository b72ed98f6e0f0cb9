/- Laid by program out of its parts: ShA. -/
import Derived.Test.YtdpohandjgnknaaGreatDoorMf
import Derived.KernelRfl
import Derived.Test.YtdpohandjgnknaaGreatDoorProg
set_option linter.unusedVariables false
set_option linter.unusedSimpArgs false
set_option maxRecDepth 100000
set_option linter.unusedSimpArgs false
set_option linter.unusedVariables false
open Go Go.Ev
namespace Go.Proofs.Shr
theorem fol : Tryz.prog.follows .mixedOrders = true := by rfl
noncomputable def eT : Tr AObj → List AV → Option Ct := fun _ args => match args with
  | [] => some (.need True (.ret (.bool true)))
  | _ => none
noncomputable def bar (b : Bool) : Bool := @decide (b = true) (Classical.propDecidable _)
theorem bar_eq (b : Bool) : bar b = b := by unfold bar; cases b <;> simp
noncomputable def barr {α : Type} (a : α) : α := Classical.choose (⟨a, rfl⟩ : ∃ y, y = a)
theorem barr_eq {α : Type} (a : α) : barr a = a := Classical.choose_spec (⟨a, rfl⟩ : ∃ y, y = a)
structure X3 where
  k : Int
  a : Int
  n : Int
  j : Nat
/-- May it be made less? -/
def can (k n : Int) : Bool := (decide (k = 3) && decide (1 < n)) || (decide (k = 4) && !decide (n = 0))
def less (k n : Int) : Int := if can k n then n.tdiv 2 else n
def nearB (a b : Int) : Bool := decide (a = b) || (decide (0 ≤ a) && decide (0 ≤ b) && decide (a < b)) || (decide (a ≤ 0) && decide (b ≤ 0) && decide (b < a))
noncomputable def e5 : Tr AObj → List AV → Option Ct := fun _ args => match args with
  | [.agg [.int .i64 k, .int .i64 a, .int .i64 n]] => some (.need (-9223372036854775808 ≤ n ∧ n ≤ 9223372036854775807) (.ret (.tup [.agg [.int .i64 k, .int .i64 a, .int .i64 (barr (less k n))], .bool (bar (can k n))])))
  | _ => none
noncomputable def e7 : Tr AObj → List AV → Option Ct := fun _ args => match args with
  | [.int .i64 a, .int .i64 b] => some (.need True (.ret (.bool (bar (nearB a b)))))
  | _ => none
noncomputable def tb0 : Tbl := [(5, e5), (6, e5), (7, e7)]
structure I3 (x : X3) : Prop where
  j : x.j ≤ 64
  lo : -(2 ^ (64 - x.j) : Int) < x.n
  hi : x.n < (2 ^ (64 - x.j) : Int)
  r1 : -9223372036854775808 ≤ x.n
  r2 : x.n ≤ 9223372036854775807
noncomputable def S3 : Stn := { X := X3, T := fun _ n0 x => [(1, .ptr n0 0), (3, .ptr (n0 + 1) 0), (4, .bool (bar (can x.k x.n))), (7, .int .i64 x.j)], H := fun _ n0 x => [(n0, .cells 24 .leaf (.per [.int .i64 x.k, .int .i64 x.a, .int .i64 x.n]) 3 false), (n0 + 1, .cells 24 .leaf (.per [.int .i64 x.k, .int .i64 x.a, .int .i64 (barr (less x.k x.n))]) 3 false)], nx := fun _ n0 => n0 + 2, I := fun _ => I3, m := fun x => 70 - x.j }
noncomputable def cx3 : Ctx := { P := Tryz.prog, tb := (8, eT) :: tb0, lp := fun f r => cond (Nat.beq f 3) (cond (Nat.beq r 6) (some S3) none) none, cut := fun _ _ => none }
noncomputable def cxA : Ctx := { P := Tryz.prog, tb := [], lp := fun _ _ => none, cut := fun _ _ => none }

theorem half (n : Int) : (0 ≤ n → n.tdiv 2 = n / 2) ∧ (n ≤ 0 → n.tdiv 2 = -((-n) / 2)) := by
  refine ⟨fun h => Int.tdiv_eq_ediv_of_nonneg h, fun h => ?_⟩
  have h1 : (-n).tdiv 2 = (-n) / 2 := Int.tdiv_eq_ediv_of_nonneg (by omega)
  rw [← h1, Int.neg_tdiv, Int.neg_neg]
theorem half_in {n : Int} (h1 : -9223372036854775808 ≤ n) (h2 : n ≤ 9223372036854775807) : inR .i64 (n.tdiv 2) = true := by
  obtain ⟨a, b⟩ := half n
  refine inR_i64.2 ?_
  by_cases h : 0 ≤ n
  · rw [a h]; omega
  · rw [b (by omega)]; omega
theorem can_iff {k n : Int} : can k n = true ↔ (k = 3 ∧ 1 < n) ∨ (k = 4 ∧ n ≠ 0) := by unfold can; simp
theorem can_iffn {k n : Int} : can k n = false ↔ ¬ ((k = 3 ∧ 1 < n) ∨ (k = 4 ∧ n ≠ 0)) := by rw [← can_iff]; simp
theorem less_y {k n : Int} (h : can k n = true) : less k n = n.tdiv 2 := if_pos h
theorem less_n {k n : Int} (h : can k n = false) : less k n = n := if_neg (by rw [h]; simp)
theorem fin_y {k n : Int} (h : (k = 3 ∧ 1 < n) ∨ (k = 4 ∧ n ≠ 0)) : n.tdiv 2 = less k n ∧ true = can k n := ⟨(less_y (can_iff.2 h)).symm, (can_iff.2 h).symm⟩
theorem fin_n {k n : Int} (h : ¬ ((k = 3 ∧ 1 < n) ∨ (k = 4 ∧ n ≠ 0))) : n = less k n ∧ false = can k n := ⟨(less_n (can_iffn.2 h)).symm, (can_iffn.2 h).symm⟩
theorem near_less {k n : Int} (h : can k n = true) : nearB (less k n) n = true ∧ less k n ≠ n := by
  rw [less_y h]
  rw [can_iff] at h
  obtain ⟨a, b⟩ := half n
  unfold nearB
  by_cases h0 : 0 ≤ n
  · rw [a h0]
    refine ⟨?_, by omega⟩
    simp only [Bool.or_eq_true, Bool.and_eq_true, decide_eq_true_eq]
    omega
  · rw [b (by omega)]
    refine ⟨?_, by omega⟩
    simp only [Bool.or_eq_true, Bool.and_eq_true, decide_eq_true_eq]
    omega
theorem I3.step {x : X3} (h : I3 x) (hc : can x.k x.n = true) : I3 ⟨x.k, x.a, less x.k x.n, x.j + 1⟩ := by
  obtain ⟨h1, h2, h3, h4, h5⟩ := h
  obtain ⟨a, b⟩ := half x.n
  have hc' := can_iff.1 hc
  by_cases hj : x.j = 64
  · rw [hj] at h2 h3
    simp at h2 h3
    omega
  · have hp : (2 : Int) ^ (64 - x.j) = 2 * 2 ^ (64 - (x.j + 1)) := by
      rw [show 64 - x.j = (64 - (x.j + 1)) + 1 by omega, Int.pow_succ, Int.mul_comm]
    rw [hp] at h2 h3
    have e : less x.k x.n = x.n.tdiv 2 := less_y hc
    have hb : -((2 : Int) ^ (64 - (x.j + 1))) < x.n.tdiv 2 ∧ x.n.tdiv 2 < (2 : Int) ^ (64 - (x.j + 1)) := by
      generalize (2 : Int) ^ (64 - (x.j + 1)) = q at h2 h3 ⊢
      by_cases h0 : 0 ≤ x.n
      · rw [a h0]; omega
      · rw [b (by omega)]; omega
    have hr := inR_i64.1 (half_in h4 h5)
    exact ⟨by show x.j + 1 ≤ 64; omega, by simp only [e]; exact hb.1, by simp only [e]; exact hb.2, by simp only [e]; exact hr.1, by simp only [e]; exact hr.2⟩

theorem run5_r : ∀ (k a n : Int), Int.NonNeg (n - Int.negSucc (9223372036854775807 : Nat)) → Int.NonNeg ((9223372036854775807 : Int) - n) → brP (ieq k (3 : Int)) (brP (ilt (1 : Int) n) (sdA (inR IntKind.i64 (Int.tdiv n (2 : Int))) (((true = true ∧ k = k) ∧ (true = true ∧ a = a) ∧ (true = true ∧ Int.tdiv n (2 : Int) = barr (less k n)) ∧ True) ∧ true = bar (can k n) ∧ True)) (brP (ieq k (4 : Int)) (brP (!ieq n (0 : Int)) (sdA (inR IntKind.i64 (Int.tdiv n (2 : Int))) (((true = true ∧ k = k) ∧ (true = true ∧ a = a) ∧ (true = true ∧ Int.tdiv n (2 : Int) = barr (less k n)) ∧ True) ∧ true = bar (can k n) ∧ True)) (((true = true ∧ k = k) ∧ (true = true ∧ a = a) ∧ (true = true ∧ n = barr (less k n)) ∧ True) ∧ false = bar (can k n) ∧ True)) (((true = true ∧ k = k) ∧ (true = true ∧ a = a) ∧ (true = true ∧ n = barr (less k n)) ∧ True) ∧ false = bar (can k n) ∧ True))) (brP (ieq k (4 : Int)) (brP (!ieq n (0 : Int)) (sdA (inR IntKind.i64 (Int.tdiv n (2 : Int))) (((true = true ∧ k = k) ∧ (true = true ∧ a = a) ∧ (true = true ∧ Int.tdiv n (2 : Int) = barr (less k n)) ∧ True) ∧ true = bar (can k n) ∧ True)) (((true = true ∧ k = k) ∧ (true = true ∧ a = a) ∧ (true = true ∧ n = barr (less k n)) ∧ True) ∧ false = bar (can k n) ∧ True)) (((true = true ∧ k = k) ∧ (true = true ∧ a = a) ∧ (true = true ∧ n = barr (less k n)) ∧ True) ∧ false = bar (can k n) ∧ True))
:= by
  intro k a n h1 h2
  simp only [barr_eq, bar_eq, true_and, and_true, eq_self]
  have h1 : -9223372036854775808 ≤ n := h1
  have h2 : n ≤ 9223372036854775807 := h2
  have hi := half_in h1 h2
  repeat' first
    | refine sdA_of hi ?_
    | refine brP_of (fun _ => ?_) (fun _ => ?_)
  all_goals simp only [ieq_iff, ieq_iffn, ilt_iff, ilt_iffn, Bool.not_eq_true', Bool.not_eq_false'] at *
  all_goals first
    | exact fin_y (by omega)
    | exact fin_n (by omega)
theorem run5 : ∀ (k a n : Int), -9223372036854775808 ≤ n → n ≤ 9223372036854775807 → (cRun cxA 60).call 5 [.agg [.int .i64 k, .int .i64 a, .int .i64 n]] .leaf 0 (ResM Tryz.prog false (.tup [.agg [.int .i64 k, .int .i64 a, .int .i64 (barr (less k n))], .bool (bar (can k n))])) :=
  Eq.mpr (by kernel_rfl) run5_r

theorem run6_r : ∀ (k a n : Int), Int.NonNeg (n - Int.negSucc (9223372036854775807 : Nat)) → Int.NonNeg ((9223372036854775807 : Int) - n) → brP (ieq k (3 : Int)) (brP (!ilt n (2 : Int)) (sdA (inR IntKind.i64 (Int.tdiv n (2 : Int))) (((true = true ∧ k = k) ∧ (true = true ∧ a = a) ∧ (true = true ∧ Int.tdiv n (2 : Int) = barr (less k n)) ∧ True) ∧ true = bar (can k n) ∧ True)) (brP (ieq k (4 : Int)) (brP (ilt (0 : Int) n) (sdA (inR IntKind.i64 (Int.tdiv n (2 : Int))) (((true = true ∧ k = k) ∧ (true = true ∧ a = a) ∧ (true = true ∧ Int.tdiv n (2 : Int) = barr (less k n)) ∧ True) ∧ true = bar (can k n) ∧ True)) (brP (ilt n (0 : Int)) (sdA (inR IntKind.i64 (Int.tdiv n (2 : Int))) (((true = true ∧ k = k) ∧ (true = true ∧ a = a) ∧ (true = true ∧ Int.tdiv n (2 : Int) = barr (less k n)) ∧ True) ∧ true = bar (can k n) ∧ True)) (((true = true ∧ k = k) ∧ (true = true ∧ a = a) ∧ (true = true ∧ n = barr (less k n)) ∧ True) ∧ false = bar (can k n) ∧ True))) (((true = true ∧ k = k) ∧ (true = true ∧ a = a) ∧ (true = true ∧ n = barr (less k n)) ∧ True) ∧ false = bar (can k n) ∧ True))) (brP (ieq k (4 : Int)) (brP (ilt (0 : Int) n) (sdA (inR IntKind.i64 (Int.tdiv n (2 : Int))) (((true = true ∧ k = k) ∧ (true = true ∧ a = a) ∧ (true = true ∧ Int.tdiv n (2 : Int) = barr (less k n)) ∧ True) ∧ true = bar (can k n) ∧ True)) (brP (ilt n (0 : Int)) (sdA (inR IntKind.i64 (Int.tdiv n (2 : Int))) (((true = true ∧ k = k) ∧ (true = true ∧ a = a) ∧ (true = true ∧ Int.tdiv n (2 : Int) = barr (less k n)) ∧ True) ∧ true = bar (can k n) ∧ True)) (((true = true ∧ k = k) ∧ (true = true ∧ a = a) ∧ (true = true ∧ n = barr (less k n)) ∧ True) ∧ false = bar (can k n) ∧ True))) (((true = true ∧ k = k) ∧ (true = true ∧ a = a) ∧ (true = true ∧ n = barr (less k n)) ∧ True) ∧ false = bar (can k n) ∧ True))
:= by
  intro k a n h1 h2
  simp only [barr_eq, bar_eq, true_and, and_true, eq_self]
  have h1 : -9223372036854775808 ≤ n := h1
  have h2 : n ≤ 9223372036854775807 := h2
  have hi := half_in h1 h2
  repeat' first
    | refine sdA_of hi ?_
    | refine brP_of (fun _ => ?_) (fun _ => ?_)
  all_goals simp only [ieq_iff, ieq_iffn, ilt_iff, ilt_iffn, Bool.not_eq_true', Bool.not_eq_false'] at *
  all_goals first
    | exact fin_y (by omega)
    | exact fin_n (by omega)
theorem run6 : ∀ (k a n : Int), -9223372036854775808 ≤ n → n ≤ 9223372036854775807 → (cRun cxA 60).call 6 [.agg [.int .i64 k, .int .i64 a, .int .i64 n]] .leaf 0 (ResM Tryz.prog false (.tup [.agg [.int .i64 k, .int .i64 a, .int .i64 (barr (less k n))], .bool (bar (can k n))])) :=
  Eq.mpr (by kernel_rfl) run6_r

theorem run7_r : ∀ (a b : Int), brP (ieq a b) (true = bar (nearB a b)) (brP (!ilt a (0 : Int)) (brP (!ilt b (0 : Int)) (brP (ilt a b) (true = bar (nearB a b)) (brP (!ilt (0 : Int) a) (brP (!ilt (0 : Int) b) (ilt b a = bar (nearB a b)) (false = bar (nearB a b))) (false = bar (nearB a b)))) (brP (!ilt (0 : Int) a) (brP (!ilt (0 : Int) b) (ilt b a = bar (nearB a b)) (false = bar (nearB a b))) (false = bar (nearB a b)))) (brP (!ilt (0 : Int) a) (brP (!ilt (0 : Int) b) (ilt b a = bar (nearB a b)) (false = bar (nearB a b))) (false = bar (nearB a b))))
:= by
  intro a b
  simp only [barr_eq, bar_eq, true_and, and_true, eq_self]
  unfold nearB
  repeat' refine brP_of (fun _ => ?_) (fun _ => ?_)
  all_goals simp only [ieq_iff, ieq_iffn, ilt_iff, ilt_iffn, Bool.not_eq_true', Bool.not_eq_false', ilt_eq] at *
  all_goals grind
theorem run7 : ∀ (a b : Int), (cRun cxA 60).call 7 [.int .i64 a, .int .i64 b] .leaf 0 (ResM Tryz.prog false (.bool (bar (nearB a b)))) :=
  Eq.mpr (by kernel_rfl) run7_r

theorem run3_r : ∀ (k a n : Int), Int.NonNeg (n - Int.negSucc (9223372036854775807 : Nat)) → Int.NonNeg ((9223372036854775807 : Int) - n) → (Int.NonNeg (n - Int.negSucc (9223372036854775807 : Nat)) ∧ Int.NonNeg ((9223372036854775807 : Int) - n)) ∧ (Int.NonNeg (n - Int.negSucc (9223372036854775807 : Nat)) ∧ Int.NonNeg ((9223372036854775807 : Int) - n)) ∧ brP (!(ieq k k && (ieq a a && (ieq (barr (less k n)) (barr (less k n)) && true)))) (false = true) (brP (!bif bar (can k n) then bar (can k n) else !bar (can k n)) (false = true) ((∃ (x0 : X3), I3 x0 ∧ true = true ∧ ((some (0 : Nat) = some (0 : Nat) ∧ true = true) ∧ (some (3 : Nat) = some (3 : Nat) ∧ true = true) ∧ bar (can k n) = bar (can (X3.k x0) (X3.n x0)) ∧ (true = true ∧ (0 : Int) = (↑(X3.j x0) : Int)) ∧ True) ∧ (true = true ∧ true = true ∧ true = true ∧ true = true ∧ ((True ∧ true = true ∧ k = X3.k x0) ∧ true = true ∧ a = X3.a x0) ∧ true = true ∧ n = X3.n x0) ∧ (true = true ∧ true = true ∧ true = true ∧ true = true ∧ ((True ∧ true = true ∧ k = X3.k x0) ∧ true = true ∧ a = X3.a x0) ∧ true = true ∧ barr (less k n) = barr (less (X3.k x0) (X3.n x0))) ∧ True) ∧ ∀ (x : X3), I3 x → brP (bar (can (X3.k x) (X3.n x))) (brP (ilt (↑(X3.j x) : Int) (70 : Int)) (brP (!ieq (X3.k x) (X3.k x)) (false = true) (brP (!ieq (X3.a x) (X3.a x)) (false = true) (True ∧ brP (!bar (nearB (barr (less (X3.k x) (X3.n x))) (X3.n x))) (false = true) (brP (ieq (barr (less (X3.k x) (X3.n x))) (X3.n x)) (false = true) ((Int.NonNeg (barr (less (X3.k x) (X3.n x)) - Int.negSucc (9223372036854775807 : Nat)) ∧ Int.NonNeg ((9223372036854775807 : Int) - barr (less (X3.k x) (X3.n x)))) ∧ sdA (inR IntKind.i64 ((↑(X3.j x) : Int) + (1 : Int))) (∃ (x' : X3), I3 x' ∧ Nat.le (Nat.succ ((70 : Nat) - X3.j x')) ((70 : Nat) - X3.j x) ∧ true = true ∧ ((some (0 : Nat) = some (0 : Nat) ∧ true = true) ∧ (some (1 : Nat) = some (1 : Nat) ∧ true = true) ∧ bar (can (X3.k x) (barr (less (X3.k x) (X3.n x)))) = bar (can (X3.k x') (X3.n x')) ∧ (true = true ∧ (↑(X3.j x) : Int) + (1 : Int) = (↑(X3.j x') : Int)) ∧ True) ∧ (true = true ∧ true = true ∧ true = true ∧ true = true ∧ ((True ∧ true = true ∧ X3.k x = X3.k x') ∧ true = true ∧ X3.a x = X3.a x') ∧ true = true ∧ barr (less (X3.k x) (X3.n x)) = X3.n x') ∧ (true = true ∧ true = true ∧ true = true ∧ true = true ∧ ((True ∧ true = true ∧ X3.k x = X3.k x') ∧ true = true ∧ X3.a x = X3.a x') ∧ true = true ∧ barr (less (X3.k x) (barr (less (X3.k x) (X3.n x)))) = barr (less (X3.k x') (X3.n x'))) ∧ True)))))) (brP (!bar (can (X3.k x) (X3.n x))) (brP (ieq (X3.k x) (X3.k x) && (ieq (X3.a x) (X3.a x) && (ieq (barr (less (X3.k x) (X3.n x))) (X3.n x) && true))) (True ∧ true = true) (false = true)) (false = true))) (brP (!bar (can (X3.k x) (X3.n x))) (brP (ieq (X3.k x) (X3.k x) && (ieq (X3.a x) (X3.a x) && (ieq (barr (less (X3.k x) (X3.n x))) (X3.n x) && true))) (True ∧ true = true) (false = true)) (false = true))))
:= by
  intro k a n h1 h2
  simp only [barr_eq, bar_eq, true_and, and_true, eq_self]
  have h1 : -9223372036854775808 ≤ n := h1
  have h2 : n ≤ 9223372036854775807 := h2
  have hself : ∀ z : Int, ieq z z = true := fun z => ieq_iff.2 rfl
  simp only [hself, Bool.and_true, Bool.not_true]
  refine ⟨⟨h1, h2⟩, ⟨h1, h2⟩, brP_of (fun h => by cases h) fun _ => brP_of (fun h => by cases hb : can k n <;> rw [hb] at h <;> cases h) fun _ => ⟨⟨⟨k, a, n, 0⟩, ⟨Nat.zero_le _, ?_, ?_, h1, h2⟩, ⟨rfl, rfl⟩, ⟨⟨rfl, rfl⟩, rfl⟩, ⟨rfl, rfl⟩, rfl⟩, fun x hI => ?_⟩⟩
  · show -((2 : Int) ^ 64) < n; omega
  · show n < (2 : Int) ^ 64; omega
  · have hj := hI.j
    refine brP_of (fun hc => brP_of (fun _ => ?_) fun h => ?_) fun hc => ?_
    · obtain ⟨n1, n2⟩ := near_less hc
      have hs := hI.step hc
      refine brP_of (fun h => by cases h) fun _ => brP_of (fun h => by cases h) fun _ => brP_of (fun h => by rw [n1] at h; cases h) fun _ => brP_of (fun h => absurd (ieq_iff.1 h) n2) fun _ => ?_
      exact ⟨⟨hs.r1, hs.r2⟩, sdA_of (inR_i64.2 (by omega)) ⟨_, hs, by show (70 - (x.j + 1)).succ ≤ 70 - x.j; omega, ⟨rfl, by simp⟩, ⟨⟨rfl, rfl⟩, rfl⟩, ⟨rfl, rfl⟩, rfl⟩⟩
    · rw [ilt_iffn] at h; omega
    · rw [less_n hc, hself, hc]
      exact trivial
theorem run3 : ∀ (k a n : Int), -9223372036854775808 ≤ n → n ≤ 9223372036854775807 → (cRun cx3 100).call 3 [.agg [.int .i64 k, .int .i64 a, .int .i64 n]] .leaf 0 (ResM Tryz.prog false (.bool true)) :=
  Eq.mpr (by kernel_rfl) run3_r

theorem gl0 {q : Nat × AObj → Prop} : ∀ p ∈ ([] : List (Nat × AObj)), q p := fun _ h => by cases h
theorem ok5 : EntOK Tryz.prog 5 e5 := by
  refine ent_of2 (gl := []) (ng := 0) gl0 fun H args ct hct => ?_
  unfold e5 at hct
  split at hct
  · rename_i k a n
    injection hct with hct; subst hct
    exact ⟨gl0, _, _, rfl, fun hp => ⟨⟨⟨⟨rfl, rfl⟩, ⟨rfl, rfl⟩, ⟨rfl, rfl⟩, trivial⟩, trivial⟩, cxA, 60, rfl, fol, tb_nil, run5 k a n hp.1 hp.2⟩⟩
  · cases hct
theorem ok6 : EntOK Tryz.prog 6 e5 := by
  refine ent_of2 (gl := []) (ng := 0) gl0 fun H args ct hct => ?_
  unfold e5 at hct
  split at hct
  · rename_i k a n
    injection hct with hct; subst hct
    exact ⟨gl0, _, _, rfl, fun hp => ⟨⟨⟨⟨rfl, rfl⟩, ⟨rfl, rfl⟩, ⟨rfl, rfl⟩, trivial⟩, trivial⟩, cxA, 60, rfl, fol, tb_nil, run6 k a n hp.1 hp.2⟩⟩
  · cases hct
theorem ok7 : EntOK Tryz.prog 7 e7 := by
  refine ent_of2 (gl := []) (ng := 0) gl0 fun H args ct hct => ?_
  unfold e7 at hct
  split at hct
  · rename_i a b
    injection hct with hct; subst hct
    exact ⟨gl0, _, _, rfl, fun _ => ⟨⟨⟨rfl, rfl⟩, ⟨rfl, rfl⟩, trivial⟩, cxA, 60, rfl, fol, tb_nil, run7 a b⟩⟩
  · cases hct
theorem ok8 (h : ∀ w : World, Calls Tryz.prog 8 #[] w fun e w' => e = .returned (.bool true) ∧ RowKit.Below w.heap.size w w') : EntOK Tryz.prog 8 eT := ent_of_calls ⟨_, _, Tryz.func8, by kernel_rfl, rfl⟩ fun H args ct hct => by
  unfold eT at hct
  split at hct
  · injection hct with hct
    exact ⟨_, _, hct.symm, fun _ ρ w vs _ hvs => by
      cases hvs
      exact (h w).mono fun e w' ⟨he, hb⟩ => ⟨_, he, .bool true, hb⟩⟩
  · cases hct
noncomputable def e3 : Tr AObj → List AV → Option Ct := fun _ args => match args with
  | [.agg [.int .i64 k, .int .i64 a, .int .i64 n]] => some (.need (-9223372036854775808 ≤ n ∧ n ≤ 9223372036854775807) (.ret (.bool true)))
  | _ => none
theorem ok3 (h : ∀ w : World, Calls Tryz.prog 8 #[] w fun e w' => e = .returned (.bool true) ∧ RowKit.Below w.heap.size w w') : EntOK Tryz.prog 3 e3 := by
  refine ent_of2 (gl := []) (ng := 0) gl0 fun H args ct hct => ?_
  unfold e3 at hct
  split at hct
  · rename_i k a n
    injection hct with hct; subst hct
    exact ⟨gl0, _, _, rfl, fun hp => ⟨⟨⟨⟨rfl, rfl⟩, ⟨rfl, rfl⟩, ⟨rfl, rfl⟩, trivial⟩, trivial⟩, cx3, 100, rfl, fol, tb_cons (ok8 h) (tb_cons ok5 (tb_cons ok6 (tb_cons ok7 tb_nil))), run3 k a n hp.1 hp.2⟩⟩
  · cases hct

end Go.Proofs.Shr
