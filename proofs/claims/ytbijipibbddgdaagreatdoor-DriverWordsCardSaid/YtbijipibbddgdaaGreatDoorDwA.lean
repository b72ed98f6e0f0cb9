/- Laid by program out of its parts: DwA. -/
import Derived.Test.YtbijipibbddgdaaGreatDoorMi
import Derived.Test.YtbijipibbddgdaaGreatDoorMh
import Derived.KernelRfl
import Derived.Test.YtbijipibbddgdaaGreatDoorProg
set_option linter.unusedVariables false
set_option linter.unusedSimpArgs false
set_option maxRecDepth 100000
set_option linter.unusedSimpArgs false
set_option linter.unusedVariables false
open Go Go.Ev
namespace Go.Proofs.YtbijipibbddgdaaGreatDoor
theorem fol : Tryz.prog.follows .mixedOrders = true := by rfl
/-- known(): it is true where the tables are there. -/
noncomputable def eK (gz : Go.EvC.GZ) : Tr AObj → List AV → Option Ct := fun H args => match args with
  | [] => cond (selG gz H) (some (.need True (.ret (.bool true)))) none
  | _ => none
/-- The errors' words. -/
def wordT (e : Int) : List UInt8 := if e = 3 then [99, 104, 97, 114] else if e = 4 then [115, 121, 110, 116, 97, 120] else if e = 5 then [100, 101, 112, 116, 104] else if e = 6 then [110, 97, 109, 101] else if e = 7 then [116, 119, 105, 99, 101] else if e = 8 then [116, 121, 112, 101] else if e = 9 then [108, 105, 109, 105, 116] else []
noncomputable def eWord : Tr AObj → List AV → Option Ct := fun _ args => match args with
  | [.int .i64 e] => some (.need True (.ret (.bs (barr (wordT e)))))
  | _ => none
noncomputable def cx0 : Ctx := { P := Tryz.prog, tb := [], lp := fun _ _ => none, cut := fun _ _ => none }
noncomputable def cxK (gz : Go.EvC.GZ) : Ctx := { P := Tryz.prog, tb := [(4, eWord), (5, eWord), (7, eK gz)], lp := fun _ _ => none, cut := fun _ _ => none }
def gz0 : Go.EvC.GZ := [(1, .u8, (List.range 256).map fun i => if i = 9 ∨ i = 10 ∨ i = 11 ∨ i = 12 ∨ i = 13 ∨ i = 32 then 1 else 0), (4, .u8, [0, 1, 56, 2, 57, 49, 28, 3, 61, 58, 42, 50, 38, 29, 17, 4, 62, 47, 59, 36, 45, 43, 51, 22, 53, 39, 33, 30, 24, 18, 12, 5, 63, 55, 48, 27, 60, 41, 37, 16, 46, 35, 44, 21, 52, 32, 23, 11, 54, 26, 40, 15, 34, 20, 31, 10, 25, 14, 19, 9, 13, 8, 7, 6])]
def argV (a b c : Nat) (lim : Int) : List AV := [.vec 1 a fun _ => [], .int .i64 lim, .vec 1 b fun _ => [], .vec 1 c fun _ => []]

theorem runW_r : ∀ (e : Int), (bif ieq e (3 : Int) then [(99 : UInt8), (104 : UInt8), (97 : UInt8), (114 : UInt8)] else bif ieq e (4 : Int) then [(115 : UInt8), (121 : UInt8), (110 : UInt8), (116 : UInt8), (97 : UInt8), (120 : UInt8)] else bif ieq e (5 : Int) then [(100 : UInt8), (101 : UInt8), (112 : UInt8), (116 : UInt8), (104 : UInt8)] else bif ieq e (6 : Int) then [(110 : UInt8), (97 : UInt8), (109 : UInt8), (101 : UInt8)] else bif ieq e (7 : Int) then [(116 : UInt8), (119 : UInt8), (105 : UInt8), (99 : UInt8), (101 : UInt8)] else bif ieq e (8 : Int) then [(116 : UInt8), (121 : UInt8), (112 : UInt8), (101 : UInt8)] else bif ieq e (9 : Int) then [(108 : UInt8), (105 : UInt8), (109 : UInt8), (105 : UInt8), (116 : UInt8)] else []) = wordT e
:= by
  intro e
  unfold wordT
  simp only [ieq_eq, cond_eq_ite, beq_iff_eq]
theorem runW : ∀ e : Int, (cRun cx0 60).call 4 [.int .i64 e] .leaf 0 (ResM Tryz.prog false (.bs (wordT e))) :=
  Eq.mpr (by kernel_rfl) runW_r

theorem runR_r : ∀ (e : Int), brP (ieq e (3 : Int)) ([(99 : UInt8), (104 : UInt8), (97 : UInt8), (114 : UInt8)] = wordT e) (brP (ieq e (4 : Int)) ([(115 : UInt8), (121 : UInt8), (110 : UInt8), (116 : UInt8), (97 : UInt8), (120 : UInt8)] = wordT e) (brP (ieq e (5 : Int)) ([(100 : UInt8), (101 : UInt8), (112 : UInt8), (116 : UInt8), (104 : UInt8)] = wordT e) (brP (ieq e (6 : Int)) ([(110 : UInt8), (97 : UInt8), (109 : UInt8), (101 : UInt8)] = wordT e) (brP (ieq e (7 : Int)) ([(116 : UInt8), (119 : UInt8), (105 : UInt8), (99 : UInt8), (101 : UInt8)] = wordT e) (brP (ieq e (8 : Int)) ([(116 : UInt8), (121 : UInt8), (112 : UInt8), (101 : UInt8)] = wordT e) (brP (ieq e (9 : Int)) ([(108 : UInt8), (105 : UInt8), (109 : UInt8), (105 : UInt8), (116 : UInt8)] = wordT e) ([] = wordT e)))))))
:= by
  intro e
  repeat' first
    | exact trivial
    | exact (rfl : true = true)
    | refine sdA_of ?_ ?_
    | refine brP_of (fun _ => ?_) (fun _ => ?_)
    | refine And.intro ?_ ?_
  all_goals simp_all [wordT, ieq_eq]
theorem runR : ∀ e : Int, (cRun cx0 60).call 5 [.int .i64 e] .leaf 0 (ResM Tryz.prog false (.bs (wordT e))) :=
  Eq.mpr (by kernel_rfl) runR_r

theorem okWord {g : FuncId} (h : ∀ e : Int, (cRun cx0 60).call g [.int .i64 e] .leaf 0 (ResM Tryz.prog false (.bs (wordT e)))) : EntOK Tryz.prog g eWord := by
  refine ent_of (gl := []) (ng := 0) gl0 fun H args ct hct => ?_
  unfold eWord at hct
  split at hct
  · rename_i e
    injection hct with hct; subst hct
    exact ⟨gl0, ⟨⟨rfl, rfl⟩, trivial⟩, _, _, rfl, fun _ => ⟨cx0, 60, rfl, fol, tb_nil, by rw [barr_eq]; exact h e⟩⟩
  · cases hct

theorem runLaw_r : ∀ (e lim : Int) (a b c : Nat), brP (ieq (Int.ofNat a) (0 : Int)) (brP (ieq lim (0 : Int)) (brP (ieq (Int.ofNat b) (0 : Int)) (True ∧ True ∧ brP (decide (barr (wordT e) = barr (wordT e))) (brP (ieq (Int.ofNat a) (0 : Int)) (brP (ieq lim (0 : Int)) (brP (ieq (Int.ofNat b) (0 : Int)) (brP (bif ieq (Int.ofNat c) (0 : Int) then ieq (Int.ofNat c) (0 : Int) else !ieq (Int.ofNat c) (0 : Int)) (True ∧ true = true) (false = true)) (brP (!ieq (Int.ofNat c) (0 : Int)) (True ∧ true = true) (false = true))) (brP (!ieq (Int.ofNat c) (0 : Int)) (True ∧ true = true) (false = true))) (brP (!ieq (Int.ofNat c) (0 : Int)) (True ∧ true = true) (false = true))) (false = true)) (True ∧ True ∧ brP (decide (barr (wordT e) = barr (wordT e))) (brP (ieq (Int.ofNat a) (0 : Int)) (brP (ieq lim (0 : Int)) (brP (ieq (Int.ofNat b) (0 : Int)) (brP (bif ieq (Int.ofNat c) (0 : Int) then false else true) (True ∧ true = true) (false = true)) (True ∧ true = true)) (True ∧ true = true)) (True ∧ true = true)) (false = true))) (True ∧ True ∧ brP (decide (barr (wordT e) = barr (wordT e))) (brP (ieq (Int.ofNat a) (0 : Int)) (brP (ieq lim (0 : Int)) (brP (ieq (Int.ofNat b) (0 : Int)) (brP (bif ieq (Int.ofNat c) (0 : Int) then false else true) (True ∧ true = true) (false = true)) (True ∧ true = true)) (True ∧ true = true)) (True ∧ true = true)) (false = true))) (True ∧ True ∧ brP (decide (barr (wordT e) = barr (wordT e))) (brP (ieq (Int.ofNat a) (0 : Int)) (brP (ieq lim (0 : Int)) (brP (ieq (Int.ofNat b) (0 : Int)) (brP (bif ieq (Int.ofNat c) (0 : Int) then false else true) (True ∧ true = true) (false = true)) (True ∧ true = true)) (True ∧ true = true)) (True ∧ true = true)) (false = true))
:= by
  intro e lim a b c
  simp only [barr_eq, bar_eq, true_and, and_true, eq_self, implies_true, Nat.le_eq, cond_tf, cond_cf, nif_tf, Int.toNat_natCast, Int.ofNat_eq_natCast, Nat.ble_eq, Nat.ble_self_eq_true, Bool.true_and, Bool.and_true, Bool.and_self, Option.some.injEq, AV.int.injEq, rowB_self, allBR_self, Nat.mul_one, Nat.beq_refl, allI_true, cond_true, cond_false, ieq_self, Bool.not_true, Bool.not_false, decide_true, brP_f, brP_t, sdA_t, bytesL_packL, List.nil_append]
  generalize ieq (a : Int) 0 = p
  generalize ieq lim 0 = q
  generalize ieq (b : Int) 0 = r
  generalize ieq (c : Int) 0 = s
  cases p <;> cases q <;> cases r <;> cases s <;> simp [brP_iff]
theorem runLaw : ∀ (e lim : Int) (a b c : Nat), (cRun (cxK gz0) 100).call 3 [.int .i64 e, .agg (argV a b c lim)] (mkH (gzT gz0)) 7 (ResM Tryz.prog false (.bool true)) :=
  Eq.mpr (by kernel_rfl) runLaw_r

theorem okLaw (hk : EntOK Tryz.prog 7 (eK gz0)) : EntOK Tryz.prog 3 (fun H args => match args with
    | [.int .i64 _, .agg [.vec 1 _ _, .int .i64 _, .vec 1 _ _, .vec 1 _ _]] => cond (selG gz0 H) (some (.need (∃ e lim a b c, args = [.int .i64 e, .agg (argV a b c lim)]) (.ret (.bool true)))) none
    | _ => none) := by
  refine ent_of2 (gl := gzT gz0) (ng := 7) (gzT_gl gz0) fun H args ct hct => ?_
  split at hct
  · cases hs : selG gz0 H with
    | false => rw [hs] at hct; cases hct
    | true =>
      rw [hs] at hct
      injection hct with hct; subst hct
      refine ⟨selG_gl hs, _, _, rfl, ?_⟩
      rintro ⟨e, lim, a, b, c, h⟩
      rw [h]
      exact ⟨⟨⟨rfl, rfl⟩, ⟨⟨rfl, rfl, ⟨fun _ _ => trivial⟩⟩, ⟨rfl, rfl⟩, ⟨rfl, rfl, ⟨fun _ _ => trivial⟩⟩, ⟨rfl, rfl, ⟨fun _ _ => trivial⟩⟩, trivial⟩, trivial⟩, cxK gz0, 100, rfl, fol, tb_cons (okWord runW) (tb_cons (okWord runR) (tb_cons hk tb_nil)), runLaw e lim a b c⟩
  · cases hct

end Go.Proofs.YtbijipibbddgdaaGreatDoor
