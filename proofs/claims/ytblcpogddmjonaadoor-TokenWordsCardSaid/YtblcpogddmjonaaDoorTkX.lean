/- Laid by program out of its parts: TkX. -/
import Derived.Test.YtblcpogddmjonaaDoorTkW
set_option maxRecDepth 100000
set_option linter.unusedSimpArgs false
set_option linter.unusedVariables false
open Go Go.Ev
namespace Go.Proofs.Tk
def qA : Prop := (True ∧ True ∧ True ∧ True ∧ True) ∧ True
def qN : Nat → Prop → Prop
  | 0, P => P
  | n + 1, P => True ∧ True ∧ (qA ∧ qA ∧ qA ∧ True) ∧ qN n P
noncomputable def eL7 : Tr AObj → List AV → Option Ct := fun H args => match args with
  | [.bs s] => cond (globB H) (some (.need True (.ret (.bool true)))) none
  | _ => none

theorem qA_mk : qA := ⟨⟨trivial, trivial, trivial, trivial, trivial⟩, trivial⟩
theorem qN_mk {P : Prop} (h : P) : ∀ n, qN n P
  | 0 => h
  | n + 1 => ⟨trivial, trivial, ⟨qA_mk, qA_mk, qA_mk, trivial⟩, qN_mk h n⟩
noncomputable def R7 (s : List UInt8) : Prop := brP (ilt (300 : Int) (Int.ofNat (List.length s))) (True ∧ true = true) (qN 36 (Nat.le (List.length s) (1000000 : Nat) ∧ Nat.le (List.length s) (1000000 : Nat) ∧ True ∧ True ∧
  brP (bif bar (isWordT s) then bar (isWordT s) else !bar (isWordT s)) (Nat.le (List.length s) (1000000 : Nat) ∧ Nat.le (List.length s) (1000000 : Nat) ∧
    brP (bif bar (nameT s) then bar (nameT s) else !bar (nameT s)) (brP (ieq (Prod.fst (numT s)) (Prod.fst (numT s))) (brP (bif bar (Prod.snd (numT s)) then bar (Prod.snd (numT s)) else !bar (Prod.snd (numT s))) (True ∧ true = true) (false = true)) (false = true)) (false = true)) (false = true)))
theorem same_b (b : Bool) {P Q : Prop} (h : P) : brP (bif b then b else !b) P Q := by cases b <;> exact h
theorem run7_r (s : List UInt8) : R7 s := by
  refine brP_of (fun _ => ⟨trivial, rfl⟩) fun h => ?_
  rw [ilt_iffn] at h
  have hl : Nat.le s.length 1000000 := by show s.length ≤ 1000000; have : (s.length : Int) ≤ 300 := h; omega
  refine qN_mk ⟨hl, hl, trivial, trivial, same_b _ ⟨hl, hl, same_b _ ?_⟩⟩ 36
  rw [ieq_self]
  exact same_b _ ⟨trivial, rfl⟩
theorem run7 (s : List UInt8) : (cRun cxW 200).call 7 [.bs s] (mkH glT) 4 (ResM Tryd.prog false (.bool true)) :=
  Eq.mpr (by kernel_rfl) (run7_r s)
theorem ok7 : EntOK Tryd.prog 7 eL7 := by
  refine ent_of2 (gl := glT) (ng := 4) glT_gl fun H args ct hct => ?_
  unfold eL7 at hct
  split at hct
  · rename_i s
    cases hg : globB H with
    | true =>
      rw [hg] at hct
      injection hct with hct; subst hct
      exact ⟨globB_ok hg, _, _, rfl, fun hp => ⟨⟨rfl, trivial⟩, cxW, 200, rfl, fol, tbV_ok, run7 s⟩⟩
    | false => rw [hg] at hct; cases hct
  · cases hct

end Go.Proofs.Tk
