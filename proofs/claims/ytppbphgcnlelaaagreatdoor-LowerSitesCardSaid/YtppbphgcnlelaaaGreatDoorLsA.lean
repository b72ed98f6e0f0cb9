/- Laid by program out of its parts: LsA. -/
import Derived.Test.YtppbphgcnlelaaaGreatDoorMi
import Derived.Test.YtppbphgcnlelaaaGreatDoorMh
import Derived.KernelRfl
import Derived.Test.YtppbphgcnlelaaaGreatDoorProg
set_option linter.unusedVariables false
set_option linter.unusedSimpArgs false
set_option maxRecDepth 100000
set_option linter.unusedSimpArgs false
set_option linter.unusedVariables false
open Go Go.Ev
namespace Go.Proofs.YtppbphgcnlelaaaGreatDoor
theorem fol : Tryz.prog.follows .mixedOrders = true := by rfl
/-- known(): it is true where the tables are there. -/
noncomputable def eK (gz : Go.EvC.GZ) : Tr AObj → List AV → Option Ct := fun H args => match args with
  | [] => cond (selG gz H) (some (.need True (.ret (.bool true)))) none
  | _ => none
noncomputable def cxK (gz : Go.EvC.GZ) : Ctx := { P := Tryz.prog, tb := [(6, eK gz)], lp := fun _ _ => none, cut := fun _ _ => none }
def gz0 : Go.EvC.GZ := [(0, .u8, (List.range 256).map fun i => if i = 9 ∨ i = 10 ∨ i = 11 ∨ i = 12 ∨ i = 13 ∨ i = 32 then 1 else 0)]

theorem runLaw_r : ∀ (o : Int), brP (!ilt o (9 : Int)) (brP (!ilt (30 : Int) o) (brP (ieq o (9 : Int)) (brP (bif !ieq o (20 : Int) then true else false) (True ∧ true = true) (false = true)) (brP (ieq o (10 : Int)) (brP (bif !ieq o (20 : Int) then true else false) (True ∧ true = true) (false = true)) (brP (ieq o (11 : Int)) (brP (bif !ieq o (20 : Int) then true else false) (True ∧ true = true) (false = true)) (brP (ieq o (12 : Int)) (brP (bif !ieq o (20 : Int) then true else false) (True ∧ true = true) (false = true)) (brP (ieq o (13 : Int)) (brP (bif !ieq o (20 : Int) then true else false) (True ∧ true = true) (false = true)) (brP (ieq o (14 : Int)) (brP (bif !ieq o (20 : Int) then true else false) (True ∧ true = true) (false = true)) (brP (ieq o (15 : Int)) (brP (bif !ieq o (20 : Int) then true else false) (True ∧ true = true) (false = true)) (brP (ieq o (16 : Int)) (brP (bif !ieq o (20 : Int) then true else false) (True ∧ true = true) (false = true)) (brP (ieq o (17 : Int)) (brP (bif !ieq o (20 : Int) then true else false) (True ∧ true = true) (false = true)) (brP (ieq o (18 : Int)) (brP (bif !ieq o (20 : Int) then true else false) (True ∧ true = true) (false = true)) (brP (ieq o (19 : Int)) (brP (bif !ieq o (20 : Int) then true else false) (True ∧ true = true) (false = true)) (brP (ieq o (21 : Int)) (brP (bif !ieq o (20 : Int) then true else false) (True ∧ true = true) (false = true)) (brP (ieq o (22 : Int)) (brP (bif !ieq o (20 : Int) then true else false) (True ∧ true = true) (false = true)) (brP (ieq o (23 : Int)) (brP (bif !ieq o (20 : Int) then true else false) (True ∧ true = true) (false = true)) (brP (ieq o (24 : Int)) (brP (bif !ieq o (20 : Int) then true else false) (True ∧ true = true) (false = true)) (brP (ieq o (25 : Int)) (brP (bif !ieq o (20 : Int) then true else false) (True ∧ true = true) (false = true)) (brP (ieq o (26 : Int)) (brP (bif !ieq o (20 : Int) then true else false) (True ∧ true = true) (false = true)) (brP (ieq o (27 : Int)) (brP (bif !ieq o (20 : Int) then true else false) (True ∧ true = true) (false = true)) (brP (ieq o (28 : Int)) (brP (bif !ieq o (20 : Int) then true else false) (True ∧ true = true) (false = true)) (brP (ieq o (29 : Int)) (brP (bif !ieq o (20 : Int) then true else false) (True ∧ true = true) (false = true)) (brP (ieq o (30 : Int)) (brP (bif !ieq o (20 : Int) then true else false) (True ∧ true = true) (false = true)) (brP (bif !ieq o (20 : Int) then false else true) (True ∧ true = true) (false = true))))))))))))))))))))))) (brP (ieq o (9 : Int)) (false = true) (brP (ieq o (10 : Int)) (false = true) (brP (ieq o (11 : Int)) (false = true) (brP (ieq o (12 : Int)) (false = true) (brP (ieq o (13 : Int)) (false = true) (brP (ieq o (14 : Int)) (false = true) (brP (ieq o (15 : Int)) (false = true) (brP (ieq o (16 : Int)) (false = true) (brP (ieq o (17 : Int)) (false = true) (brP (ieq o (18 : Int)) (false = true) (brP (ieq o (19 : Int)) (false = true) (brP (ieq o (21 : Int)) (false = true) (brP (ieq o (22 : Int)) (false = true) (brP (ieq o (23 : Int)) (false = true) (brP (ieq o (24 : Int)) (false = true) (brP (ieq o (25 : Int)) (false = true) (brP (ieq o (26 : Int)) (false = true) (brP (ieq o (27 : Int)) (false = true) (brP (ieq o (28 : Int)) (false = true) (brP (ieq o (29 : Int)) (false = true) (brP (ieq o (30 : Int)) (false = true) (True ∧ true = true))))))))))))))))))))))) (brP (ieq o (9 : Int)) (false = true) (brP (ieq o (10 : Int)) (false = true) (brP (ieq o (11 : Int)) (false = true) (brP (ieq o (12 : Int)) (false = true) (brP (ieq o (13 : Int)) (false = true) (brP (ieq o (14 : Int)) (false = true) (brP (ieq o (15 : Int)) (false = true) (brP (ieq o (16 : Int)) (false = true) (brP (ieq o (17 : Int)) (false = true) (brP (ieq o (18 : Int)) (false = true) (brP (ieq o (19 : Int)) (false = true) (brP (ieq o (21 : Int)) (false = true) (brP (ieq o (22 : Int)) (false = true) (brP (ieq o (23 : Int)) (false = true) (brP (ieq o (24 : Int)) (false = true) (brP (ieq o (25 : Int)) (false = true) (brP (ieq o (26 : Int)) (false = true) (brP (ieq o (27 : Int)) (false = true) (brP (ieq o (28 : Int)) (false = true) (brP (ieq o (29 : Int)) (false = true) (brP (ieq o (30 : Int)) (false = true) (True ∧ true = true))))))))))))))))))))))
:= by
  intro o
  simp only [barr_eq, bar_eq, true_and, and_true, eq_self, implies_true, Nat.le_eq, cond_tf, cond_cf, nif_tf, Int.toNat_natCast, Int.ofNat_eq_natCast, Nat.ble_eq, Nat.ble_self_eq_true, Bool.true_and, Bool.and_true, Bool.and_self, Option.some.injEq, AV.int.injEq, rowB_self, allBR_self, Nat.mul_one, Nat.beq_refl, allI_true, cond_true, cond_false, ieq_self, Bool.not_true, Bool.not_false, decide_true, brP_f, brP_t, sdA_t]
  simp only [brP_iff, ilt_eq, ieq_eq, Bool.not_eq_true', Bool.not_eq_false', decide_eq_true_eq, decide_eq_false_iff_not, eq_true_eq_id]
  simp
  omega
theorem runLaw : ∀ o : Int, (cRun (cxK gz0) 60).call 3 [.int .i64 o] (mkH (gzT gz0)) 7 (ResM Tryz.prog false (.bool true)) :=
  Eq.mpr (by kernel_rfl) runLaw_r

theorem okLaw (hk : EntOK Tryz.prog 6 (eK gz0)) : EntOK Tryz.prog 3 (fun H args => match args with
    | [.int .i64 o] => cond (selG gz0 H) (some (.need True (.ret (.bool true)))) none
    | _ => none) := by
  refine ent_of (gl := gzT gz0) (ng := 7) (gzT_gl gz0) fun H args ct hct => ?_
  split at hct
  · rename_i o
    cases hs : selG gz0 H with
    | false => rw [hs] at hct; cases hct
    | true =>
      rw [hs] at hct
      injection hct with hct; subst hct
      exact ⟨selG_gl hs, ⟨⟨rfl, rfl⟩, trivial⟩, _, _, rfl, fun _ => ⟨cxK gz0, 60, rfl, fol, tb_cons hk tb_nil, runLaw o⟩⟩
  · cases hct

end Go.Proofs.YtppbphgcnlelaaaGreatDoor
