/- Laid by program out of its parts: TkB. -/
import Derived.Test.YtblcpogddmjonaaDoorTkA
set_option maxRecDepth 10000
set_option linter.unusedSimpArgs false
open Go Go.Ev
namespace Go.Proofs.Tk
/-- How many bytes are such, from the beginning on. -/
def runN (p : Int → Bool) : List UInt8 → Nat
  | [] => 0
  | b :: l => if p (b.toNat : Int) then runN p l + 1 else 0
structure I61 (p : Int → Bool) (l : List UInt8) (k : Nat) : Prop where
  le : k ≤ runN p l
def S61 (g : Nat) (p : Int → Bool) (l : List UInt8) : Stn := { X := Nat, T := fun _ _ k => [(0, .bv l), (1, .fn (.func 62) [] [.ptr 0 0]), (7, .int .i64 l.length), (8, .int .i64 k)], H := fun _ _ _ => [(0, .cells 56 .leaf (.per [.fn (.func g) [] []]) 1 false)], nx := fun _ n0 => n0, I := fun _ => I61 p l, m := fun k => l.length - k }

theorem runN_le (p : Int → Bool) : ∀ l, runN p l ≤ l.length
  | [] => Nat.le_refl _
  | b :: l => by
    rw [runN, List.length_cons]
    have := runN_le p l
    split <;> omega
theorem runN_at (p : Int → Bool) : ∀ (l : List UInt8) (k : Nat), k ≤ runN p l → k < l.length → (k < runN p l ∧ p ((l.getD k 0).toNat : Int) = true) ∨ (k = runN p l ∧ p ((l.getD k 0).toNat : Int) = false)
  | [], k, _, h => absurd h (Nat.not_lt_zero _)
  | b :: l, 0, h, _ => by
    simp only [List.getD_cons_zero]
    rw [runN]
    cases hb : p (b.toNat : Int) with
    | true => exact .inl ⟨by simp, rfl⟩
    | false => exact .inr ⟨by simp, rfl⟩
  | b :: l, k + 1, h, h2 => by
    simp only [List.getD_cons_succ]
    rw [runN] at h ⊢
    cases hb : p (b.toNat : Int) with
    | true =>
      rw [hb, if_pos rfl] at h
      rw [if_pos rfl]
      rcases runN_at p l k (by omega) (by rw [List.length_cons] at h2; omega) with ⟨h3, h4⟩ | ⟨h3, h4⟩
      · exact .inl ⟨by omega, h4⟩
      · exact .inr ⟨by omega, h4⟩
    | false => rw [hb] at h; simp at h
theorem r44_of (p : Int → Bool) : ∀ (l : List UInt8),
  Nat.le (List.length l) (1000000 : Nat) →
    (∃ (x0 : Nat),
        I61 p l x0 ∧
          true = true ∧
            (l = l ∧
                (true = true ∧ True ∧ (some (0 : Nat) = some (0 : Nat) ∧ true = true) ∧ True) ∧
                  (true = true ∧ Int.ofNat (List.length l) = (↑(List.length l) : Int)) ∧
                    (true = true ∧ (0 : Int) = (↑x0 : Int)) ∧ True) ∧
              (true = true ∧ true = true ∧ true = true ∧ true = true ∧ True ∧ true = true ∧ True ∧ True) ∧ True) ∧
      ∀ (x : Nat),
        I61 p l x →
          brP (ilt (↑x : Int) (↑(List.length l) : Int))
            (sdA (inB (↑x : Int) (List.length l))
              (True ∧
                brP (!bar (p (↑(UInt8.toNat (List.getD l (Int.toNat (↑x : Int)) (0 : UInt8))) : Int)))
                  (true = true ∧ (↑x : Int) = (↑(runN p l) : Int))
                  (sdA (inR IntKind.i64 ((↑x : Int) + (1 : Int)))
                    (∃ (x' : Nat),
                      I61 p l x' ∧
                        Nat.le (Nat.succ (List.length l - x')) (List.length l - x) ∧
                          true = true ∧
                            (l = l ∧
                                (true = true ∧ True ∧ (some (0 : Nat) = some (0 : Nat) ∧ true = true) ∧ True) ∧
                                  (true = true ∧ (↑(List.length l) : Int) = (↑(List.length l) : Int)) ∧
                                    (true = true ∧ (↑x : Int) + (1 : Int) = (↑x' : Int)) ∧ True) ∧
                              (true = true ∧
                                  true = true ∧ true = true ∧ true = true ∧ True ∧ true = true ∧ True ∧ True) ∧
                                True))))
            (true = true ∧ Int.ofNat (List.length l) = (↑(runN p l) : Int)) := by
  intro l hl
  simp only [Nat.le_eq] at hl
  refine ⟨⟨0, ⟨Nat.zero_le _⟩, rfl, ⟨rfl, ⟨rfl, trivial, ⟨rfl, rfl⟩, trivial⟩, ⟨rfl, rfl⟩, ⟨rfl, rfl⟩, trivial⟩, ⟨rfl, rfl, rfl, rfl, trivial, rfl, trivial, trivial⟩, trivial⟩, fun k hk => ?_⟩
  have hle := hk.le
  have hlen := runN_le p l
  refine brP_of (fun h => ?_) fun h => ?_
  · rw [ilt_iff] at h
    refine sdA_of (inB_iff.2 (by omega)) ⟨trivial, ?_⟩
    rw [bar_eq, show Int.toNat (k : Int) = k from rfl]
    have hat := runN_at p l k hle (by omega)
    refine brP_of (fun h1 => ?_) fun h1 => ?_
    · refine ⟨rfl, ?_⟩
      rw [Bool.not_eq_true'] at h1
      have : k = runN p l := by rcases hat with ⟨h2, h3⟩ | ⟨h2, h3⟩; · rw [h3] at h1; cases h1
                                · exact h2
      omega
    · rw [Bool.not_eq_false'] at h1
      have : k < runN p l := by rcases hat with ⟨h2, h3⟩ | ⟨h2, h3⟩; · exact h2
                                · rw [h3] at h1; cases h1
      exact sdA_of (inR_i64.2 (by omega)) ⟨k + 1, ⟨this⟩, by simp only [Nat.le_eq]; omega, rfl, ⟨rfl, ⟨rfl, trivial, ⟨rfl, rfl⟩, trivial⟩, ⟨rfl, rfl⟩, ⟨rfl, by omega⟩, trivial⟩, ⟨rfl, rfl, rfl, rfl, trivial, rfl, trivial, trivial⟩, trivial⟩
  · rw [ilt_iffn] at h
    exact ⟨rfl, by simp; omega⟩

theorem run44a_r : ∀ (l : List UInt8),
  Nat.le (List.length l) (1000000 : Nat) →
    (∃ (x0 : Nat),
        I61 (fun (z : Int) => letrI z || digI z) l x0 ∧
          true = true ∧
            (l = l ∧
                (true = true ∧ True ∧ (some (0 : Nat) = some (0 : Nat) ∧ true = true) ∧ True) ∧
                  (true = true ∧ Int.ofNat (List.length l) = (↑(List.length l) : Int)) ∧
                    (true = true ∧ (0 : Int) = (↑x0 : Int)) ∧ True) ∧
              (true = true ∧ true = true ∧ true = true ∧ true = true ∧ True ∧ true = true ∧ True ∧ True) ∧ True) ∧
      ∀ (x : Nat),
        I61 (fun (z : Int) => letrI z || digI z) l x →
          brP (ilt (↑x : Int) (↑(List.length l) : Int))
            (sdA (inB (↑x : Int) (List.length l))
              (True ∧
                brP
                  (!bar
                      (letrI (↑(UInt8.toNat (List.getD l (Int.toNat (↑x : Int)) (0 : UInt8))) : Int) ||
                        digI (↑(UInt8.toNat (List.getD l (Int.toNat (↑x : Int)) (0 : UInt8))) : Int)))
                  (true = true ∧ (↑x : Int) = (↑(runN (fun (z : Int) => letrI z || digI z) l) : Int))
                  (sdA (inR IntKind.i64 ((↑x : Int) + (1 : Int)))
                    (∃ (x' : Nat),
                      I61 (fun (z : Int) => letrI z || digI z) l x' ∧
                        Nat.le (Nat.succ (List.length l - x')) (List.length l - x) ∧
                          true = true ∧
                            (l = l ∧
                                (true = true ∧ True ∧ (some (0 : Nat) = some (0 : Nat) ∧ true = true) ∧ True) ∧
                                  (true = true ∧ (↑(List.length l) : Int) = (↑(List.length l) : Int)) ∧
                                    (true = true ∧ (↑x : Int) + (1 : Int) = (↑x' : Int)) ∧ True) ∧
                              (true = true ∧
                                  true = true ∧ true = true ∧ true = true ∧ True ∧ true = true ∧ True ∧ True) ∧
                                True))))
            (true = true ∧ Int.ofNat (List.length l) = (↑(runN (fun (z : Int) => letrI z || digI z) l) : Int))
:= r44_of _
theorem run44a : ∀ (l : List UInt8), l.length ≤ 1000000 → (cRun (cx1 tbA 61 2 (S61 45 (fun z => letrI z || digI z) l)) 60).call 44 [.bv l, .fn (.func 45) [] []] .leaf 0 (ResM Tryd.prog false (.int .i64 (runN (fun z => letrI z || digI z) l))) :=
  Eq.mpr (by kernel_rfl) run44a_r

theorem run44b_r : ∀ (l : List UInt8),
  Nat.le (List.length l) (1000000 : Nat) →
    (∃ (x0 : Nat),
        I61 digI l x0 ∧
          true = true ∧
            (l = l ∧
                (true = true ∧ True ∧ (some (0 : Nat) = some (0 : Nat) ∧ true = true) ∧ True) ∧
                  (true = true ∧ Int.ofNat (List.length l) = (↑(List.length l) : Int)) ∧
                    (true = true ∧ (0 : Int) = (↑x0 : Int)) ∧ True) ∧
              (true = true ∧ true = true ∧ true = true ∧ true = true ∧ True ∧ true = true ∧ True ∧ True) ∧ True) ∧
      ∀ (x : Nat),
        I61 digI l x →
          brP (ilt (↑x : Int) (↑(List.length l) : Int))
            (sdA (inB (↑x : Int) (List.length l))
              (True ∧
                brP (!bar (digI (↑(UInt8.toNat (List.getD l (Int.toNat (↑x : Int)) (0 : UInt8))) : Int)))
                  (true = true ∧ (↑x : Int) = (↑(runN digI l) : Int))
                  (sdA (inR IntKind.i64 ((↑x : Int) + (1 : Int)))
                    (∃ (x' : Nat),
                      I61 digI l x' ∧
                        Nat.le (Nat.succ (List.length l - x')) (List.length l - x) ∧
                          true = true ∧
                            (l = l ∧
                                (true = true ∧ True ∧ (some (0 : Nat) = some (0 : Nat) ∧ true = true) ∧ True) ∧
                                  (true = true ∧ (↑(List.length l) : Int) = (↑(List.length l) : Int)) ∧
                                    (true = true ∧ (↑x : Int) + (1 : Int) = (↑x' : Int)) ∧ True) ∧
                              (true = true ∧
                                  true = true ∧ true = true ∧ true = true ∧ True ∧ true = true ∧ True ∧ True) ∧
                                True))))
            (true = true ∧ Int.ofNat (List.length l) = (↑(runN digI l) : Int))
:= r44_of _
theorem run44b : ∀ (l : List UInt8), l.length ≤ 1000000 → (cRun (cx1 tbA 61 2 (S61 37 digI l)) 60).call 44 [.bv l, .fn (.func 37) [] []] .leaf 0 (ResM Tryd.prog false (.int .i64 (runN digI l))) :=
  Eq.mpr (by kernel_rfl) run44b_r

theorem run44c_r : ∀ (l : List UInt8),
  Nat.le (List.length l) (1000000 : Nat) →
    (∃ (x0 : Nat),
        I61 (fun (z : Int) => !decide (z = (10 : Int))) l x0 ∧
          true = true ∧
            (l = l ∧
                (true = true ∧ True ∧ (some (0 : Nat) = some (0 : Nat) ∧ true = true) ∧ True) ∧
                  (true = true ∧ Int.ofNat (List.length l) = (↑(List.length l) : Int)) ∧
                    (true = true ∧ (0 : Int) = (↑x0 : Int)) ∧ True) ∧
              (true = true ∧ true = true ∧ true = true ∧ true = true ∧ True ∧ true = true ∧ True ∧ True) ∧ True) ∧
      ∀ (x : Nat),
        I61 (fun (z : Int) => !decide (z = (10 : Int))) l x →
          brP (ilt (↑x : Int) (↑(List.length l) : Int))
            (sdA (inB (↑x : Int) (List.length l))
              (True ∧
                brP
                  (!bar !decide ((↑(UInt8.toNat (List.getD l (Int.toNat (↑x : Int)) (0 : UInt8))) : Int) = (10 : Int)))
                  (true = true ∧ (↑x : Int) = (↑(runN (fun (z : Int) => !decide (z = (10 : Int))) l) : Int))
                  (sdA (inR IntKind.i64 ((↑x : Int) + (1 : Int)))
                    (∃ (x' : Nat),
                      I61 (fun (z : Int) => !decide (z = (10 : Int))) l x' ∧
                        Nat.le (Nat.succ (List.length l - x')) (List.length l - x) ∧
                          true = true ∧
                            (l = l ∧
                                (true = true ∧ True ∧ (some (0 : Nat) = some (0 : Nat) ∧ true = true) ∧ True) ∧
                                  (true = true ∧ (↑(List.length l) : Int) = (↑(List.length l) : Int)) ∧
                                    (true = true ∧ (↑x : Int) + (1 : Int) = (↑x' : Int)) ∧ True) ∧
                              (true = true ∧
                                  true = true ∧ true = true ∧ true = true ∧ True ∧ true = true ∧ True ∧ True) ∧
                                True))))
            (true = true ∧ Int.ofNat (List.length l) = (↑(runN (fun (z : Int) => !decide (z = (10 : Int))) l) : Int))
:= r44_of _
theorem run44c : ∀ (l : List UInt8), l.length ≤ 1000000 → (cRun (cx1 tbA 61 2 (S61 46 (fun z => !decide (z = 10)) l)) 60).call 44 [.bv l, .fn (.func 46) [] []] .leaf 0 (ResM Tryd.prog false (.int .i64 (runN (fun z => !decide (z = 10)) l))) :=
  Eq.mpr (by kernel_rfl) run44c_r

def e44 : Tr AObj → List AV → Option Ct := fun _ args => match args with
  | [.bv l, .fn (.func g) [] []] => cond (Nat.beq g 45) (some (.need (l.length ≤ 1000000) (.ret (.int .i64 (runN (fun z => letrI z || digI z) l)))))
    (cond (Nat.beq g 37) (some (.need (l.length ≤ 1000000) (.ret (.int .i64 (runN digI l)))))
    (cond (Nat.beq g 46) (some (.need (l.length ≤ 1000000) (.ret (.int .i64 (runN (fun z => !decide (z = 10)) l))))) none))
  | _ => none
theorem ok44 : EntOK Tryd.prog 44 e44 := by
  refine ent_of (gl := []) (ng := 0) gl0 fun H args ct hct => ?_
  unfold e44 at hct
  split at hct
  · rename_i l g
    refine ⟨gl0, ⟨rfl, ⟨Nat.beq_refl g, trivial, trivial⟩, trivial⟩, ?_⟩
    cases h1 : Nat.beq g 45 with
    | true =>
      rw [h1] at hct
      obtain rfl := Nat.eq_of_beq_eq_true h1
      injection hct with hct; subst hct
      exact ⟨_, _, rfl, fun hp => ⟨cx1 tbA 61 2 (S61 45 (fun z => letrI z || digI z) l), 60, rfl, fol, tbA_ok, run44a l hp⟩⟩
    | false =>
      rw [h1] at hct
      cases h2 : Nat.beq g 37 with
      | true =>
        rw [h2] at hct
        obtain rfl := Nat.eq_of_beq_eq_true h2
        injection hct with hct; subst hct
        exact ⟨_, _, rfl, fun hp => ⟨cx1 tbA 61 2 (S61 37 digI l), 60, rfl, fol, tbA_ok, run44b l hp⟩⟩
      | false =>
        rw [h2] at hct
        cases h3 : Nat.beq g 46 with
        | true =>
          rw [h3] at hct
          obtain rfl := Nat.eq_of_beq_eq_true h3
          injection hct with hct; subst hct
          exact ⟨_, _, rfl, fun hp => ⟨cx1 tbA 61 2 (S61 46 (fun z => !decide (z = 10)) l), 60, rfl, fol, tbA_ok, run44c l hp⟩⟩
        | false => rw [h3] at hct; cases hct
  · cases hct

end Go.Proofs.Tk
