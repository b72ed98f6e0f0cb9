/- Laid by program out of its parts: BlS. -/
import Derived.Test.YtenbcoedkeddgaaGreatDoorBlD
import Derived.Test.YtenbcoedkeddgaaGreatDoorBlT
set_option linter.unusedVariables false
set_option linter.unusedSimpArgs false
set_option maxRecDepth 100000
open Go Go.Ev Go.RowKit Go.Proofs
namespace Go.Proofs.YtenbcoedkeddgaaGreatDoor
theorem okSort : HEntOK Tryz.prog 34 eSort :=
 hent_rows ⟨_, _, Tryz.func34, by kernel_rfl, rfl⟩ (fun ss => by unfold sortT; rw [barr_eq]; exact List.length_mergeSort _) (fun _ _ h => by cases h)
  (fun blk off cap ss w hH hb hcap hbd => (Tryz.slices_Sort_string blk off cap ss w hH hb hbd).mono fun e w' ⟨he, n, os, hw⟩ => ⟨he, n, os, by rw [hw]; unfold sortT; rw [barr_eq]⟩)
  (fun w => (Tryz.slices_Sort_string_none none 0 w).mono fun e w' ⟨he, hw⟩ => ⟨he, 0, #[], by rw [hw]; simp⟩)
theorem comp_len (zs : Txs) : (Lib.compact zs ++ List.replicate (zs.length - (Lib.compact zs).length) []).length = zs.length := by
 have := Lib.compact_length_le zs
 simp; omega
theorem okComp : HEntOK Tryz.prog 35 eComp :=
 hent_rows ⟨_, _, Tryz.func35, by kernel_rfl, rfl⟩ (fun ss => by unfold compT; rw [barr_eq]; exact comp_len ss)
  (fun ss k h => by injection h with h; unfold compN at h; rw [barr_eq] at h; rw [← h]; exact Lib.compact_length_le ss)
  (fun blk off cap ss w hH hb hcap hbd => (Tryz.slices_Compact_string blk off cap ss w hH (by omega) hcap).mono fun e w' ⟨he, q, hw⟩ => ⟨by rw [he]; unfold compN; rw [barr_eq]; rfl, q, #[], by rw [hw]; unfold compT; rw [barr_eq]; simp⟩)
  (fun w => (Tryz.slices_Compact_string_empty none 0 w).mono fun e w' ⟨he, hw⟩ => ⟨by rw [he]; unfold compN; rw [barr_eq]; rfl, 0, #[], by rw [hw]; simp⟩)
theorem htL_ok : HtOK Tryz.prog htL := ht_cons okSort (ht_cons okComp (ht_nil _))
theorem isOdd (w : World) : PredAtRunes Tryz.prog 22 #[] oddP w := fun W r hr hb => by
 unfold FnGives
 by_cases h1 : r < 32 <;> by_cases h2 : 126 < r
 all_goals
  have z1 : (r : Int) < 32 ↔ r < 32 := by omega
  have z2 : (126 : Int) < (r : Int) ↔ 126 < r := by omega
  go_enter Tryz.func22, Tryz.ntmps22
  go_wp2
  all_goals first | (exfalso; omega) | (go_ret; exact ⟨by simp [oddP, h1, h2], 0, rfl⟩)
theorem okIdx : EntOK Tryz.prog 23 eIdx := ent_of_calls ⟨_, _, Tryz.func23, by kernel_rfl, rfl⟩ fun H args ct hct => by
 unfold eIdx at hct
 split at hct
 ·rename_i s g
  cases hg : Nat.beq g 22 with
  | false => rw [hg] at hct; cases hct
  | true =>
   rw [hg, cond_true] at hct
   injection hct with hct
   have hge := Nat.eq_of_beq_eq_true hg
   subst hge
   refine ⟨_, _, hct.symm, fun hp ρ w vs hst hvs => ?_⟩
   cases hvs with
   | cons _ v _ vs1 hv hvs1 =>
   cases hvs1 with
   | cons _ u _ vs2 hu hvs2 =>
   cases hvs2
   cases hv
   cases hu with
   | fn _ _ _ va vc ha hc =>
   cases ha; cases hc
   refine (Tryz.strings_IndexFunc_runes 22 #[] (enters_of Tryz.func22 (by kernel_rfl) rfl) oddP ⟨s.toArray⟩ w (isOdd w)).mono fun e w' ⟨he, hb⟩ => ⟨_, he, ?_, hb⟩
   rw [barr_eq]
   exact .int _ _
 ·cases hct
end Go.Proofs.YtenbcoedkeddgaaGreatDoor
