/- Laid by program out of its parts: BlD. -/
import Derived.Test.YtenbcoedkeddgaaGreatDoorBlP
set_option linter.unusedVariables false
set_option linter.unusedSimpArgs false
set_option maxRecDepth 100000
open Go Go.Ev
namespace Go.Proofs.YtenbcoedkeddgaaGreatDoor
noncomputable def eIdx : Tr AObj → List AV → Option Ct := fun _ args => match args with
 | [.bs s, .fn (.func g) [] []] => cond (Nat.beq g 22) (some (.need True (.ret (.int .i64 (barr (idxI s)))))) none
 | _ => none
noncomputable def tbE : Tbl := [(23, eIdx)]
noncomputable def sortT (ss : Txs) : Txs := barr (ss.mergeSort fun x y => decide (x ≤ y))
noncomputable def compT (zs : Txs) : Txs := barr (Lib.compact zs ++ List.replicate (zs.length - (Lib.compact zs).length) [])
noncomputable def compN (zs : Txs) : Nat := barr (Lib.compact zs).length
noncomputable def eSort : HEnt := rowEnt 4611686018427387904 (fun _ => none) sortT
noncomputable def eComp : HEnt := rowEnt 4611686018427387904 (fun zs => some (compN zs)) compT
noncomputable def htL : HTbl := [(34, eSort), (35, eComp)]
theorem nlt_t {a b : Int} (h : (!ilt a b) = true) : b ≤ a := ilt_iffn.1 (by simpa using h)
theorem nlt_f {a b : Int} (h : (!ilt a b) = false) : a < b := ilt_iff.1 (by simpa using h)
theorem ndec_t {p : Prop} [Decidable p] (h : (!decide p) = true) : ¬ p := by simpa using h
theorem ndec_f {p : Prop} [Decidable p] (h : (!decide p) = false) : p := by simpa using h
theorem ndrop_t {s : List UInt8} {k : Nat} (h : (!decide (s.drop k = [])) = true) : k < s.length := by
 have := ndec_t h
 rw [List.drop_eq_nil_iff] at this
 omega
theorem ndrop_f {s : List UInt8} {k : Nat} (h : (!decide (s.drop k = [])) = false) : s.length ≤ k := List.drop_eq_nil_iff.1 (ndec_f h)
theorem oksR : sRace.all okC = true := by decide
theorem oksC : sCycle.all okC = true := by decide
theorem hR_len {s : List UInt8} (h : s.length ≤ 5) : hR s = false := by unfold hR; rw [decide_eq_false (by omega)]; rfl
theorem hC_len {s : List UInt8} (h : s.length ≤ 6) : hC s = false := by unfold hC; rw [decide_eq_false (by omega)]; rfl
theorem hR_take {s : List UInt8} (h : ¬ s.take 5 = sRace) : hR s = false := by unfold hR; rw [decide_eq_false h, Bool.and_false]
theorem hC_take {s : List UInt8} (h : ¬ s.take 6 = sCycle) : hC s = false := by unfold hC; rw [decide_eq_false h, Bool.and_false]
theorem mayN {s : List UInt8} (h : hR s = false) (h2 : hC s = false) : mayL s = false := by unfold mayL headL; rw [h, h2]; rfl
theorem mayR {s : List UInt8} (h : s.take 5 = sRace) (h2 : 5 < s.length) : mayL s = (s.drop 5).all okC := by
 rw [← all_drop h oksR]
 unfold mayL headL hR
 rw [decide_eq_true h, decide_eq_true h2]; rfl
theorem mayC {s : List UInt8} (h : s.take 6 = sCycle) (h2 : 6 < s.length) : mayL s = (s.drop 6).all okC := by
 rw [← all_drop h oksC]
 unfold mayL headL hC
 rw [decide_eq_true h, decide_eq_true h2]; simp
theorem no_both {s : List UInt8} (h : s.take 5 = sRace) (h2 : s.take 6 = sCycle) : False := by
 have := congrArg (List.take 5) h2
 rw [List.take_take, show min 5 6 = 5 from rfl, h] at this
 exact absurd this (by decide)
theorem runMay2_r : ∀ (s : List UInt8), Nat.le (List.length s) 1000000 → brP (!ilt (Int.ofNat (List.length s)) (5 : Int)) (sdA (bif inL (5 : Int) (List.length s) then true else false) (brP (!decide (List.take 5 s = [(114 : UInt8), (97 : UInt8), (99 : UInt8), (101 : UInt8), (32 : UInt8)])) (brP (!ilt (Int.ofNat (List.length s)) (6 : Int)) (sdA (bif inL (6 : Int) (List.length s) then true else false) (brP (!decide (List.take 6 s = [(99 : UInt8), (121 : UInt8), (99 : UInt8), (108 : UInt8), (101 : UInt8), (32 : UInt8)])) (false = mayL s ∧ True) (sdA (inL (6 : Int) (List.length s)) (brP (!decide (List.drop 6 s = [])) (True ∧ ilt (barr (idxI (List.drop 6 s))) (0 : Int) = mayL s ∧ True) (false = mayL s ∧ True))))) (false = mayL s ∧ True)) (sdA (inL (5 : Int) (List.length s)) (brP (!ilt (Int.ofNat (List.length s)) (6 : Int)) (sdA (bif inL (6 : Int) (List.length s) then true else false) (brP (!decide (List.take 6 s = [(99 : UInt8), (121 : UInt8), (99 : UInt8), (108 : UInt8), (101 : UInt8), (32 : UInt8)])) (brP (!decide (List.drop 5 s = [])) (True ∧ ilt (barr (idxI (List.drop 5 s))) (0 : Int) = mayL s ∧ True) (false = mayL s ∧ True)) (sdA (inL (6 : Int) (List.length s)) (brP (!decide (List.drop 6 s = [])) (True ∧ ilt (barr (idxI (List.drop 6 s))) (0 : Int) = mayL s ∧ True) (false = mayL s ∧ True))))) (brP (!decide (List.drop 5 s = [])) (True ∧ ilt (barr (idxI (List.drop 5 s))) (0 : Int) = mayL s ∧ True) (false = mayL s ∧ True)))))) (brP (!ilt (Int.ofNat (List.length s)) (6 : Int)) (sdA (bif inL (6 : Int) (List.length s) then true else false) (brP (!decide (List.take 6 s = [(99 : UInt8), (121 : UInt8), (99 : UInt8), (108 : UInt8), (101 : UInt8), (32 : UInt8)])) (false = mayL s ∧ True) (sdA (inL (6 : Int) (List.length s)) (brP (!decide (List.drop 6 s = [])) (True ∧ ilt (barr (idxI (List.drop 6 s))) (0 : Int) = mayL s ∧ True) (false = mayL s ∧ True))))) (false = mayL s ∧ True))
:= by
 intro s hl
 have hl : s.length ≤ 1000000 := hl
 simp only [barr_eq, bar_eq, true_and, and_true, eq_self, implies_true, Nat.le_eq, cond_tf, cond_cf, nif_tf, Int.toNat_natCast, Int.ofNat_eq_natCast, Nat.ble_eq, Nat.ble_self_eq_true, Bool.true_and, Bool.and_true, Bool.and_self, Option.some.injEq, AV.int.injEq, rowB_self, allBR_self, Nat.mul_one, Nat.beq_refl, allI_true, cond_true, cond_false, ieq_self, Bool.not_true, Bool.not_false, decide_true, brP_f, brP_t, sdA_t, bytesL_packL, List.nil_append]
 refine brP_of (fun r1 => ?_) (fun r1 => ?_)
 ·have r1' := nlt_t r1
  refine sdA_of (inL_iff.2 ⟨by omega, by omega⟩) (brP_of (fun r2 => ?_) (fun r2 => ?_))
  ·have hr : hR s = false := hR_take (ndec_t r2)
   exact brP_of (fun c1 => sdA_of (inL_iff.2 ⟨by omega, by have := nlt_t c1; omega⟩) (brP_of (fun c2 => (mayN hr (hC_take (ndec_t c2))).symm) (fun c2 => sdA_of (inL_iff.2 ⟨by omega, by have := nlt_t c1; omega⟩) (brP_of (fun c3 => by rw [idx_all, mayC (ndec_f c2) (ndrop_t c3)]) (fun c3 => (mayN hr (hC_len (ndrop_f c3))).symm))))) (fun c1 => (mayN hr (hC_len (by have := nlt_f c1; omega))).symm)
  ·refine sdA_of (inL_iff.2 ⟨by omega, by omega⟩) (brP_of (fun c1 => ?_) (fun c1 => ?_))
   ·refine sdA_of (inL_iff.2 ⟨by omega, by have := nlt_t c1; omega⟩) (brP_of (fun c2 => ?_) (fun c2 => (no_both (ndec_f r2) (ndec_f c2)).elim))
    exact brP_of (fun c3 => by rw [idx_all, mayR (ndec_f r2) (ndrop_t c3)]) (fun c3 => (mayN (hR_len (ndrop_f c3)) (hC_len (by have := ndrop_f c3; omega))).symm)
   ·exact brP_of (fun c3 => by rw [idx_all, mayR (ndec_f r2) (ndrop_t c3)]) (fun c3 => (mayN (hR_len (ndrop_f c3)) (hC_len (by have := ndrop_f c3; omega))).symm)
 ·have hr : hR s = false := hR_len (by have := nlt_f r1; omega)
  exact brP_of (fun c1 => sdA_of (inL_iff.2 ⟨by omega, by have := nlt_t c1; omega⟩) (brP_of (fun c2 => (mayN hr (hC_take (ndec_t c2))).symm) (fun c2 => sdA_of (inL_iff.2 ⟨by omega, by have := nlt_t c1; omega⟩) (brP_of (fun c3 => by rw [idx_all, mayC (ndec_f c2) (ndrop_t c3)]) (fun c3 => (mayN hr (hC_len (ndrop_f c3))).symm))))) (fun c1 => (mayN hr (hC_len (by have := nlt_f c1; omega))).symm)
theorem runMay2_b : ∀ s : List UInt8, s.length ≤ 1000000 → (cRun (cxL tbE [] []) 60).call 10 [.bs s] .leaf 0 (ResP Tryz.prog false (.bool (mayL s))) :=
 Eq.mpr (by kernel_rfl) runMay2_r
theorem runMay2 : ∀ s : List UInt8, s.length ≤ 1000000 → (cRun (cxL tbE [] []) 60).call 10 [.bs s] .leaf 0 (ResM Tryz.prog false (.bool (mayL s))) := by
 intros
 rw [← resP_eq]
 apply runMay2_b <;> assumption
end Go.Proofs.YtenbcoedkeddgaaGreatDoor
