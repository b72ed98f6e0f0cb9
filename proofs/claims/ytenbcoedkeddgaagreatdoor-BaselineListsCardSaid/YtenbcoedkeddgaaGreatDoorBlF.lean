/- Laid by program out of its parts: BlF. -/
import Derived.Test.YtenbcoedkeddgaaGreatDoorBlL
import Derived.Test.YtenbcoedkeddgaaGreatDoorMi
set_option linter.unusedVariables false
set_option linter.unusedSimpArgs false
set_option maxRecDepth 100000
open Go Go.Ev
namespace Go.Proofs.YtenbcoedkeddgaaGreatDoor
noncomputable def eK (gz : Go.EvC.GZ) : Tr AObj → List AV → Option Ct := fun H args => match args with
 | [] => cond (selG gz H) (some (.need True (.ret (.bool true)))) none
 | _ => none
def gz0 : Go.EvC.GZ := [(3, .u8, (List.range 256).map fun i => if i = 9 ∨ i = 10 ∨ i = 11 ∨ i = 12 ∨ i = 13 ∨ i = 32 then 1 else 0), (7, .u8, [0, 1, 56, 2, 57, 49, 28, 3, 61, 58, 42, 50, 38, 29, 17, 4, 62, 47, 59, 36, 45, 43, 51, 22, 53, 39, 33, 30, 24, 18, 12, 5, 63, 55, 48, 27, 60, 41, 37, 16, 46, 35, 44, 21, 52, 32, 23, 11, 54, 26, 40, 15, 34, 20, 31, 10, 25, 14, 19, 9, 13, 8, 7, 6])]
noncomputable def eOfP : Tr AObj → List AV → Option Ct := fun _ args => match args with
 | [.bs s] => some (.need (s.length ≤ 900000) (.ret (.tup [.vec 1 (barr (ofR s)).1.length (rT (barr (ofR s)).1), .int .i64 (barr (ofR s)).2])))
 | _ => none
theorem okMayR : EntOK Tryz.prog 11 eMay := by
 refine ent_of2 (gl := []) (ng := 0) gl0 fun H args ct hct => ?_
 unfold eMay at hct
 split at hct
 ·rename_i s
  injection hct with hct; subst hct
  refine ⟨gl0, _, _, rfl, fun hp => ?_⟩
  rw [bar_eq]
  exact ⟨⟨rfl, trivial⟩, _, 60, rfl, fol, tb_nil, runMr s hp⟩
 ·cases hct
theorem okMayP : EntOK Tryz.prog 10 eMay := by
 refine ent_of2 (gl := []) (ng := 0) gl0 fun H args ct hct => ?_
 unfold eMay at hct
 split at hct
 ·rename_i s
  injection hct with hct; subst hct
  refine ⟨gl0, _, _, rfl, fun hp => ?_⟩
  rw [bar_eq]
  exact ⟨⟨rfl, trivial⟩, _, 60, rfl, fol, tb_cons okIdx tb_nil, runMay2 s hp⟩
 ·cases hct
theorem okPut : EntOK Tryz.prog 21 ePut := by
 refine ent_tx (gl := []) (ng := 0) gl0 fun H args ct hct => ?_
 unfold ePut at hct
 split at hct
 ·rename_i n f s
  injection hct with hct; subst hct
  refine ⟨gl0, _, _, rfl, fun hp => ⟨?_, ⟨⟨rfl, rfl, ⟨fun i _ => vm_rT _ i⟩⟩, rfl, rfl, trivial⟩, cxL [] [(21, 2, SPut (rowTx n f) s)] [], 60, rfl, fol, tb_nil, ?_⟩⟩
  ·intro a ha
   rcases List.mem_cons.1 ha with rfl | ha
   ·exact hp.1
   ·rcases List.mem_cons.1 ha with rfl | ha
    ·trivial
    ·rw [List.mem_singleton.1 ha]; trivial
  ·have h := runPut (rowTx n f) s (by rw [rowTx_length]; exact hp.2)
   rw [rowTx_length] at h
   exact h
 ·cases hct
theorem okSame : EntOK Tryz.prog 8 eSame := by
 refine ent_tx (gl := []) (ng := 0) gl0 fun H args ct hct => ?_
 unfold eSame at hct
 split at hct
 ·rename_i n f m g
  injection hct with hct; subst hct
  refine ⟨gl0, _, _, rfl, fun hp => ⟨?_, ⟨⟨rfl, rfl, ⟨fun i _ => vm_rT _ i⟩⟩, ⟨rfl, rfl, ⟨fun i _ => vm_rT _ i⟩⟩, trivial⟩, cxL [] [(8, 4, SSame (rowTx n f) (rowTx m g))] [], 60, rfl, fol, tb_nil, ?_⟩⟩
  ·intro a ha
   rcases List.mem_cons.1 ha with rfl | ha
   ·exact hp.1
   ·rw [List.mem_singleton.1 ha]; exact hp.2.1
  ·have h := runSame (rowTx n f) (rowTx m g) (by rw [rowTx_length]; exact hp.2.2.1) (by rw [rowTx_length]; exact hp.2.2.2)
   rw [rowTx_length, rowTx_length] at h
   rw [bar_eq]
   exact h
 ·cases hct
theorem tbB_ok : TbOK Tryz.prog tbB := tb_cons okMayR (tb_cons okPut tb_nil)
theorem tbM_ok : TbOK Tryz.prog tbM := tb_cons okMayP tb_nil
theorem okLstR : EntOK Tryz.prog 14 eLst := by
 refine ent_tx (gl := []) (ng := 0) gl0 fun H args ct hct => ?_
 unfold eLst at hct
 split at hct
 ·rename_i n f
  injection hct with hct; subst hct
  refine ⟨gl0, _, _, rfl, fun hp => ⟨?_, ⟨⟨rfl, rfl, ⟨fun i _ => vm_rT _ i⟩⟩, trivial⟩, cxL tbB [(14, 3, SLst (rowTx n f))] [], 60, rfl, fol, tbB_ok, ?_⟩⟩
  ·intro a ha
   rw [List.mem_singleton.1 ha]; exact hp.1
  ·have h := runLst (rowTx n f) (by rw [rowTx_length]; exact hp.2.1) hp.2.2
   rw [rowTx_length] at h
   exact h
 ·cases hct
theorem okLstP : EntOK Tryz.prog 20 eLst := by
 refine ent_tx (gl := []) (ng := 0) gl0 fun H args ct hct => ?_
 unfold eLst at hct
 split at hct
 ·rename_i n f
  injection hct with hct; subst hct
  refine ⟨gl0, _, _, rfl, fun hp => ⟨?_, ⟨⟨rfl, rfl, ⟨fun i _ => vm_rT _ i⟩⟩, trivial⟩, cxH tbM [(20, 3, SLd (rowTx n f))] [], 60, rfl, fol, tbM_ok, ?_⟩⟩
  ·intro a ha
   rw [List.mem_singleton.1 ha]; exact hp.1
  ·have h := runLd (rowTx n f) (by rw [rowTx_length]; exact hp.2.1) hp.2.2
   rw [rowTx_length] at h
   exact h
 ·cases hct
theorem okSpl : EntOK Tryz.prog 18 eSpl := by
 refine ent_of2 (gl := []) (ng := 0) gl0 fun H args ct hct => ?_
 unfold eSpl at hct
 split at hct
 ·rename_i s
  injection hct with hct; subst hct
  exact ⟨gl0, _, _, rfl, fun hp => ⟨⟨rfl, ⟨rfl, rfl⟩, trivial⟩, _, 60, rfl, fol, tb_nil, runSpl s hp⟩⟩
 ·cases hct
theorem tbO_ok : TbOK Tryz.prog tbO := tb_cons okMayP (tb_cons okLstP (tb_cons okSpl tb_nil))
theorem okOfP : EntOK Tryz.prog 6 eOfP := by
 refine ent_of2 (gl := []) (ng := 0) gl0 fun H args ct hct => ?_
 unfold eOfP at hct
 split at hct
 ·rename_i s
  injection hct with hct; subst hct
  exact ⟨gl0, _, _, rfl, fun hp => ⟨⟨rfl, trivial⟩, _, 60, rfl, fol, tbO_ok, runOfP s hp⟩⟩
 ·cases hct
end Go.Proofs.YtenbcoedkeddgaaGreatDoor
