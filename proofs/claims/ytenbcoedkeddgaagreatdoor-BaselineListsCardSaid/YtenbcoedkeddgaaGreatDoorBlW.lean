/- Laid by program out of its parts: BlW. -/
import Derived.Test.YtenbcoedkeddgaaGreatDoorBlV
set_option linter.unusedVariables false
set_option linter.unusedSimpArgs false
set_option maxRecDepth 100000
open Go Go.Ev
namespace Go.Proofs.YtenbcoedkeddgaaGreatDoor
noncomputable def sumL (L : Txs) (k : Nat) : Nat := barr ((L.take k).map List.length).sum
noncomputable def fewB (L : Txs) : Bool := decide (L.length ≤ 60) && decide (sumL L L.length ≤ 4000)
structure FewK (L : Txs) (k : Nat) : Prop where
 le : k ≤ L.length
 lt : k ≤ 61
noncomputable def SFew (L : Txs) : Stn := thin Nat [0] (fun k => [(3, .int .i64 (sumL L k)), (4, .int .i64 k)]) (fun _ => FewK L) fun k => L.length - k
noncomputable def eFew : Tr AObj → List AV → Option Ct := fun _ args => match args with
 | [.vec 1 n f] => some (.need (allTx n f = true ∧ ∀ s ∈ rowTx n f, s.length ≤ 140737488351232) (.ret (.bool (bar (fewB (rowTx n f))))))
 | _ => none
structure LawK (L : Txs) (k : Nat) : Prop where
 le : k ≤ L.length
noncomputable def SLaw (L : Txs) : Stn := thin Nat [0] (fun k => [(3, .int .i64 k)]) (fun _ => LawK L) fun k => L.length - k
noncomputable def tbL (gz : Go.EvC.GZ) : Tbl := [(5, eK gz), (9, eFew), (10, eMay), (11, eMay), (12, eTxt), (13, eTxt), (6, eOfP), (8, eSame), (14, eLst)]
theorem sum_succ (L : Txs) (k : Nat) (h : k < L.length) : sumL L (k + 1) = sumL L k + (L.getD k []).length := by
 unfold sumL
 rw [barr_eq, barr_eq, take_succE L [] k h, List.map_append, List.sum_append]; simp
theorem sum_zero (L : Txs) : sumL L 0 = 0 := by unfold sumL; rw [barr_eq]; rfl
theorem sum_le (L : Txs) (hs : ∀ s ∈ L, s.length ≤ 140737488351232) : ∀ k, k ≤ L.length → sumL L k ≤ k * 140737488351232
 | 0, _ => by rw [sum_zero]; exact Nat.zero_le _
 | k + 1, h => by
  have h1 := sum_le L hs k (Nat.le_of_succ_le h)
  have h2 := hs _ (getD_memT (C := L) h)
  rw [sum_succ L k h, Nat.add_mul]
  omega
theorem sum_at (L : Txs) : ∀ k i, i < k → k ≤ L.length → (L.getD i []).length ≤ sumL L k
 | 0, i, h, _ => absurd h (Nat.not_lt_zero _)
 | k + 1, i, h, hk => by
  rw [sum_succ L k hk]
  rcases Nat.lt_succ_iff_lt_or_eq.1 h with h | rfl
  ·have := sum_at L k i h (Nat.le_of_succ_le hk)
   omega
  ·omega
theorem lst_srt (L : Txs) : Srt (lstL L) := srt_fold _ [] List.Pairwise.nil
theorem lst_iff (L : Txs) (x : List UInt8) : x ∈ lstL L ↔ x ∈ L.filter mayL := by
 unfold lstL
 rw [fold_mem_iff]
 simp
theorem lst_idem (L : Txs) : lstL (lstL L) = lstL L := by
 refine srt_ext _ _ (lst_srt _) (lst_srt _) fun x => ?_
 rw [lst_iff, List.mem_filter]
 exact ⟨fun h => h.1, fun h => ⟨h, (lst_mem h).2⟩⟩
theorem split_line : ∀ u t : List UInt8, (∀ b ∈ u, b ≠ 10) → splitL (u ++ 10 :: t) = u :: splitL t
 | [], t, _ => by rw [List.nil_append, splitL_cons, if_pos rfl]
 | b :: u, t, h => by
  rw [List.cons_append, splitL_cons, if_neg (h b (List.mem_cons_self ..)), split_line u t fun c hc => h c (List.mem_cons_of_mem _ hc)]; rfl
theorem textL_cons (s : List UInt8) (M : Txs) : textL (s :: M) = (sAllow ++ s) ++ 10 :: textL M := by simp [textL]
theorem may_no10 {s : List UInt8} (h : mayL s = true) : ∀ b ∈ sAllow ++ s, b ≠ 10 := fun b hb e => by
 subst e
 rcases List.mem_append.1 hb with hb | hb
 ·exact absurd hb (by decide)
 ·unfold mayL at h
  have h1 := (Bool.and_eq_true _ _ ▸ h : headL s = true ∧ s.all okC = true).2
  have h2 := List.all_eq_true.1 h1 10 hb
  exact absurd h2 (by decide)
theorem step_line {s : List UInt8} (out : Txs) (h : mayL s = true) : stepP (some out) (sAllow ++ s) = some (out ++ [s]) := by
 have h1 : ¬ (sAllow ++ s = [] ∨ (sAllow ++ s).getD 0 0 = 35) := by
  rintro (e | e)
  ·simp [sAllow] at e
  ·simp [sAllow] at e
 have hd : (sAllow ++ s).drop 6 = s := rfl
 have ht : (sAllow ++ s).take 6 = sAllow := rfl
 have h2 : ¬ lineBad (sAllow ++ s) = true := by
  unfold lineBad
  rw [hd, ht, h, decide_eq_false (show ¬ (sAllow ++ s).length < 6 by simp [sAllow]), decide_eq_true rfl]
  simp
 have e : stepP (some out) (sAllow ++ s) = if sAllow ++ s = [] ∨ (sAllow ++ s).getD 0 0 = 35 then some out else if lineBad (sAllow ++ s) = true then none else some (out ++ [(sAllow ++ s).drop 6]) := rfl
 rw [e, if_neg h1, if_neg h2, hd]
theorem fold_text : ∀ (M out : Txs), (∀ s ∈ M, mayL s = true) → (splitL (textL M)).foldl stepP (some out) = some (out ++ M)
 | [], out, _ => by
  rw [show textL [] = [] from rfl, show splitL [] = [[]] from rfl]
  simp [stepP]
 | s :: M, out, h => by
  rw [textL_cons, split_line _ _ (may_no10 (h s (List.mem_cons_self ..))), List.foldl_cons, step_line out (h s (List.mem_cons_self ..)), fold_text M _ fun t ht => h t (List.mem_cons_of_mem _ ht)]
  simp
theorem text_ends (M : Txs) : textL M = [] ∨ endsN (textL M) = true := by
 rcases List.eq_nil_or_concat M with rfl | ⟨A, s, rfl⟩
 ·exact .inl rfl
 ·refine .inr ?_
  have e : textL (A.concat s) = (textL A ++ sAllow ++ s) ++ [10] := by simp [textL]
  rw [e]
  unfold endsN
  have hl : (textL A ++ sAllow ++ s ++ [10]).length - 1 = (textL A ++ sAllow ++ s).length := by rw [List.length_append, List.length_singleton]; rfl
  rw [hl, List.drop_left]
  rfl
theorem of_text (L : Txs) : ofR (textL (lstL L)) = (lstL L, 0) := by
 have hm : ∀ s ∈ lstL L, mayL s = true := fun s h => (lst_mem h).2
 rw [← of_eq]
 unfold ofP
 rw [if_neg (by
  rintro ⟨h1, h2⟩
  rcases text_ends (lstL L) with h | h
  ·exact h1 h
  ·rw [h] at h2; cases h2), fold_text _ _ hm]
 simp [lst_idem]
theorem text_lenB (b : Nat) : ∀ M : Txs, (∀ s ∈ M, s.length ≤ b) → (textL M).length ≤ M.length * (b + 7)
 | [], _ => by simp [textL]
 | s :: M, h => by
  have h1 := text_lenB b M fun t ht => h t (List.mem_cons_of_mem _ ht)
  have h2 := h s (List.mem_cons_self ..)
  rw [textL_cons, List.length_append, List.length_append, List.length_cons, List.length_cons, Nat.add_mul, show sAllow.length = 6 from rfl]
  omega
theorem runFew_r : ∀ (L : Txs), (∀ (s : List UInt8), List.Mem s L → Nat.le (List.length s) 140737488351232) → (∃ (x0 : Nat), FewK L x0 ∧ true = true ∧ ((true = true ∧ (0 : Int) = (↑(sumL L x0) : Int)) ∧ (true = true ∧ (0 : Int) = (↑x0 : Int)) ∧ (true = true ∧ List.length L = List.length L ∧ AllI fun (i : Nat) => Nat.le (Nat.succ i) (List.length L) → List.getD L i [] = List.getD L i [] ∧ True) ∧ True) ∧ True) ∧ ∀ (x : Nat), FewK L x → brP (ilt (↑x : Int) (Int.ofNat (List.length L))) (brP (!ilt (60 : Int) (↑x : Int)) (sdA (inB (↑x : Int) (List.length L)) (sdA (inR IntKind.i64 ((↑(sumL L x) : Int) + Int.ofNat (List.length (List.getD L (Int.toNat (↑x : Int)) [])))) (sdA (inR IntKind.i64 ((↑x : Int) + (1 : Int))) (∃ (x' : Nat), FewK L x' ∧ Nat.le (Nat.succ (List.length L - x')) (List.length L - x) ∧ true = true ∧ ((true = true ∧ (↑(sumL L x) : Int) + Int.ofNat (List.length (List.getD L (Int.toNat (↑x : Int)) [])) = (↑(sumL L x') : Int)) ∧ (true = true ∧ (↑x : Int) + (1 : Int) = (↑x' : Int)) ∧ (true = true ∧ List.length L = List.length L ∧ AllI fun (i : Nat) => Nat.le (Nat.succ i) (List.length L) → List.getD L i [] = List.getD L i [] ∧ True) ∧ True) ∧ True)))) (brP (!ilt (60 : Int) (Int.ofNat (List.length L))) ((!ilt (4000 : Int) (↑(sumL L x) : Int)) = fewB L ∧ True) (false = fewB L ∧ True))) (brP (!ilt (60 : Int) (Int.ofNat (List.length L))) ((!ilt (4000 : Int) (↑(sumL L x) : Int)) = fewB L ∧ True) (false = fewB L ∧ True))
:= by
 intro L hs
 have hs : ∀ s ∈ L, s.length ≤ 140737488351232 := hs
 simp only [barr_eq, bar_eq, true_and, and_true, eq_self, implies_true, Nat.le_eq, cond_tf, cond_cf, nif_tf, Int.toNat_natCast, Int.ofNat_eq_natCast, Nat.ble_eq, Nat.ble_self_eq_true, Bool.true_and, Bool.and_true, Bool.and_self, Option.some.injEq, AV.int.injEq, rowB_self, allBR_self, Nat.mul_one, Nat.beq_refl, allI_true, cond_true, cond_false, ieq_self, Bool.not_true, Bool.not_false, decide_true, brP_f, brP_t, sdA_t, bytesL_packL, List.nil_append]
 refine ⟨⟨0, ⟨Nat.zero_le _, Nat.zero_le _⟩, by rw [sum_zero]; rfl, rfl⟩, fun x hx => ?_⟩
 have hle := hx.le
 have hlt := hx.lt
 have hsum := sum_le L hs x hle
 have hmx : x * 140737488351232 ≤ 61 * 140737488351232 := Nat.mul_le_mul_right _ hlt
 refine brP_of (fun h => ?_) (fun h => ?_)
 ·have h' : x < L.length := by have := ilt_iff.1 h; omega
  refine brP_of (fun h2 => ?_) (fun h2 => ?_)
  ·have h2' := nlt_t h2
   have hl := hs _ (getD_memT h')
   refine sdA_of (inB_iff.2 ⟨by omega, by omega⟩) (sdA_of (inR_i64.2 ⟨by omega, by omega⟩) (sdA_of (inR_i64.2 ⟨by omega, by omega⟩) ⟨x + 1, ⟨h', by omega⟩, by omega, by rw [sum_succ L x h']; simp, by simp⟩))
  ·have h2' := nlt_f h2
   have hbig : fewB L = false := by unfold fewB; rw [decide_eq_false (by omega)]; rfl
   refine brP_of (fun h3 => ?_) (fun _ => hbig.symm)
   have := nlt_t h3
   omega
 ·have hge : x = L.length := by have := ilt_iffn.1 h; omega
  refine brP_of (fun h3 => ?_) (fun h3 => ?_)
  ·have h3' := nlt_t h3
   unfold fewB
   rw [decide_eq_true (show L.length ≤ 60 by omega), Bool.true_and, hge, ilt_eq]
   by_cases h4 : sumL L L.length ≤ 4000
   ·rw [decide_eq_true h4, decide_eq_false (by omega)]; rfl
   ·rw [decide_eq_false h4, decide_eq_true (by omega)]; rfl
  ·have h3' := nlt_f h3
   unfold fewB
   rw [decide_eq_false (by omega)]; rfl
theorem runFew_b : ∀ L : Txs, (∀ s ∈ L, s.length ≤ 140737488351232) → (cRun (cxL [] [(9, 3, SFew L)] []) 60).call 9 [.vec 1 L.length (rT L)] .leaf 0 (ResP Tryz.prog false (.bool (fewB L))) :=
 Eq.mpr (by kernel_rfl) runFew_r
theorem runFew : ∀ L : Txs, (∀ s ∈ L, s.length ≤ 140737488351232) → (cRun (cxL [] [(9, 3, SFew L)] []) 60).call 9 [.vec 1 L.length (rT L)] .leaf 0 (ResM Tryz.prog false (.bool (fewB L))) := by
 intros
 rw [← resP_eq]
 apply runFew_b <;> assumption
theorem runLawL_r : ∀ (L : Txs), (∀ (s : List UInt8), List.Mem s L → Nat.le (List.length s) 140737488351232) → (decide (∀ (i : Nat), i < List.length L → true = true) = true ∧ ∀ (s : List UInt8), List.Mem s (List.map (fun (i : Nat) => List.getD L i []) (List.range (List.length L))) → Nat.le (List.length s) 140737488351232) ∧ brP (!bar (fewB (List.map (fun (i : Nat) => List.getD L i []) (List.range (List.length L))))) (True ∧ true = true ∧ True) ((∃ (x0 : Nat), LawK L x0 ∧ true = true ∧ ((true = true ∧ (0 : Int) = (↑x0 : Int)) ∧ (true = true ∧ List.length L = List.length L ∧ AllI fun (i : Nat) => Nat.le (Nat.succ i) (List.length L) → List.getD L i [] = List.getD L i [] ∧ True) ∧ True) ∧ (true = true ∧ List.map (fun (z : Int) => AV.int IntKind.u8 z) (List.map (fun (i : Nat) => if i = 9 ∨ i = 10 ∨ i = 11 ∨ i = 12 ∨ i = 13 ∨ i = 32 then (1 : Int) else (0 : Int)) (List.range 256)) = List.map (fun (z : Int) => AV.int IntKind.u8 z) (List.map (fun (i : Nat) => if i = 9 ∨ i = 10 ∨ i = 11 ∨ i = 12 ∨ i = 13 ∨ i = 32 then (1 : Int) else (0 : Int)) (List.range 256))) ∧ (true = true ∧ List.map (fun (z : Int) => AV.int IntKind.u8 z) [(0 : Int), (1 : Int), (56 : Int), (2 : Int), (57 : Int), (49 : Int), (28 : Int), (3 : Int), (61 : Int), (58 : Int), (42 : Int), (50 : Int), (38 : Int), (29 : Int), (17 : Int), (4 : Int), (62 : Int), (47 : Int), (59 : Int), (36 : Int), (45 : Int), (43 : Int), (51 : Int), (22 : Int), (53 : Int), (39 : Int), (33 : Int), (30 : Int), (24 : Int), (18 : Int), (12 : Int), (5 : Int), (63 : Int), (55 : Int), (48 : Int), (27 : Int), (60 : Int), (41 : Int), (37 : Int), (16 : Int), (46 : Int), (35 : Int), (44 : Int), (21 : Int), (52 : Int), (32 : Int), (23 : Int), (11 : Int), (54 : Int), (26 : Int), (40 : Int), (15 : Int), (34 : Int), (20 : Int), (31 : Int), (10 : Int), (25 : Int), (14 : Int), (19 : Int), (9 : Int), (13 : Int), (8 : Int), (7 : Int), (6 : Int)] = List.map (fun (z : Int) => AV.int IntKind.u8 z) [(0 : Int), (1 : Int), (56 : Int), (2 : Int), (57 : Int), (49 : Int), (28 : Int), (3 : Int), (61 : Int), (58 : Int), (42 : Int), (50 : Int), (38 : Int), (29 : Int), (17 : Int), (4 : Int), (62 : Int), (47 : Int), (59 : Int), (36 : Int), (45 : Int), (43 : Int), (51 : Int), (22 : Int), (53 : Int), (39 : Int), (33 : Int), (30 : Int), (24 : Int), (18 : Int), (12 : Int), (5 : Int), (63 : Int), (55 : Int), (48 : Int), (27 : Int), (60 : Int), (41 : Int), (37 : Int), (16 : Int), (46 : Int), (35 : Int), (44 : Int), (21 : Int), (52 : Int), (32 : Int), (23 : Int), (11 : Int), (54 : Int), (26 : Int), (40 : Int), (15 : Int), (34 : Int), (20 : Int), (31 : Int), (10 : Int), (25 : Int), (14 : Int), (19 : Int), (9 : Int), (13 : Int), (8 : Int), (7 : Int), (6 : Int)]) ∧ True) ∧ ∀ (x : Nat), LawK L x → brP (ilt (↑x : Int) (Int.ofNat (List.length L))) (sdA (inB (↑x : Int) (List.length L)) (Nat.le (List.length (List.getD L (Int.toNat (↑x : Int)) [])) 1000000 ∧ sdA (inB (↑x : Int) (List.length L)) (Nat.le (List.length (List.getD L (Int.toNat (↑x : Int)) [])) 1000000 ∧ (((AV.bs (List.getD L (Int.toNat (↑x : Int)) []) = AV.bs (List.getD L (Int.toNat (↑x : Int)) []) ∧ True ∧ True) ∧ True) ∧ ((True ∧ True ∧ True) ∧ True) ∧ ((True ∧ True ∧ True) ∧ True) ∧ True) ∧ brP (!bif bar (mayL (List.getD L (Int.toNat (↑x : Int)) [])) then bar (mayL (List.getD L (Int.toNat (↑x : Int)) [])) else !bar (mayL (List.getD L (Int.toNat (↑x : Int)) []))) (false = true ∧ True) (sdA (inR IntKind.i64 ((↑x : Int) + (1 : Int))) (∃ (x' : Nat), LawK L x' ∧ Nat.le (Nat.succ (List.length L - x')) (List.length L - x) ∧ true = true ∧ ((true = true ∧ (↑x : Int) + (1 : Int) = (↑x' : Int)) ∧ (true = true ∧ List.length L = List.length L ∧ AllI fun (i : Nat) => Nat.le (Nat.succ i) (List.length L) → List.getD L i [] = List.getD L i [] ∧ True) ∧ True) ∧ (true = true ∧ List.map (fun (z : Int) => AV.int IntKind.u8 z) (List.map (fun (i : Nat) => if i = 9 ∨ i = 10 ∨ i = 11 ∨ i = 12 ∨ i = 13 ∨ i = 32 then (1 : Int) else (0 : Int)) (List.range 256)) = List.map (fun (z : Int) => AV.int IntKind.u8 z) (List.map (fun (i : Nat) => if i = 9 ∨ i = 10 ∨ i = 11 ∨ i = 12 ∨ i = 13 ∨ i = 32 then (1 : Int) else (0 : Int)) (List.range 256))) ∧ (true = true ∧ List.map (fun (z : Int) => AV.int IntKind.u8 z) [(0 : Int), (1 : Int), (56 : Int), (2 : Int), (57 : Int), (49 : Int), (28 : Int), (3 : Int), (61 : Int), (58 : Int), (42 : Int), (50 : Int), (38 : Int), (29 : Int), (17 : Int), (4 : Int), (62 : Int), (47 : Int), (59 : Int), (36 : Int), (45 : Int), (43 : Int), (51 : Int), (22 : Int), (53 : Int), (39 : Int), (33 : Int), (30 : Int), (24 : Int), (18 : Int), (12 : Int), (5 : Int), (63 : Int), (55 : Int), (48 : Int), (27 : Int), (60 : Int), (41 : Int), (37 : Int), (16 : Int), (46 : Int), (35 : Int), (44 : Int), (21 : Int), (52 : Int), (32 : Int), (23 : Int), (11 : Int), (54 : Int), (26 : Int), (40 : Int), (15 : Int), (34 : Int), (20 : Int), (31 : Int), (10 : Int), (25 : Int), (14 : Int), (19 : Int), (9 : Int), (13 : Int), (8 : Int), (7 : Int), (6 : Int)] = List.map (fun (z : Int) => AV.int IntKind.u8 z) [(0 : Int), (1 : Int), (56 : Int), (2 : Int), (57 : Int), (49 : Int), (28 : Int), (3 : Int), (61 : Int), (58 : Int), (42 : Int), (50 : Int), (38 : Int), (29 : Int), (17 : Int), (4 : Int), (62 : Int), (47 : Int), (59 : Int), (36 : Int), (45 : Int), (43 : Int), (51 : Int), (22 : Int), (53 : Int), (39 : Int), (33 : Int), (30 : Int), (24 : Int), (18 : Int), (12 : Int), (5 : Int), (63 : Int), (55 : Int), (48 : Int), (27 : Int), (60 : Int), (41 : Int), (37 : Int), (16 : Int), (46 : Int), (35 : Int), (44 : Int), (21 : Int), (52 : Int), (32 : Int), (23 : Int), (11 : Int), (54 : Int), (26 : Int), (40 : Int), (15 : Int), (34 : Int), (20 : Int), (31 : Int), (10 : Int), (25 : Int), (14 : Int), (19 : Int), (9 : Int), (13 : Int), (8 : Int), (7 : Int), (6 : Int)]) ∧ True))))) (sdA (bif goodR 1 (List.length L) fun (i : Nat) => [AV.bs (List.getD L i [])] then decide (List.length L ≤ 9223372036854775807 ∧ List.length L * 16 ≤ 140737488355328) else false) (sdA (bif bif Nat.ble (List.length L * 1) (List.length L * 1) then goodR 1 (List.length L) fun (i : Nat) => [AV.bs (List.getD L i [])] else false then true else false) (sdA (bif bif bif bif bif bif Nat.beq (List.length L) (List.length L) then true else false then true else false then true else false then true else false then true else false then bif bif Nat.beq (List.length L) (List.length L) then true else false then bif Nat.beq (List.length L) (List.length L) then true else false else false else false) ((decide (∀ (i : Nat), i < List.length L → true = true) = true ∧ Nat.le (List.length L) 1000 ∧ ∀ (s : List UInt8), List.Mem s (List.map (fun (i : Nat) => List.getD L i []) (List.range (List.length L))) → Nat.le (List.length s) 1000000) ∧ Nat.le (List.length (barr (textL (lstL (List.map (fun (i : Nat) => List.getD L i []) (List.range (List.length L))))))) 900000 ∧ (decide (∀ (i : Nat), i < List.length L → true = true) = true ∧ Nat.le (List.length L) 1000 ∧ ∀ (s : List UInt8), List.Mem s (List.map (fun (i : Nat) => List.getD L i []) (List.range (List.length L))) → Nat.le (List.length s) 1000000) ∧ brP (decide (barr (textL (lstL (List.map (fun (i : Nat) => List.getD L i []) (List.range (List.length L))))) = barr (textL (lstL (List.map (fun (i : Nat) => List.getD L i []) (List.range (List.length L))))))) ((decide (∀ (i : Nat), i < List.length L → true = true) = true ∧ decide (∀ (i : Nat), i < List.length L → true = true) = true ∧ Nat.le (List.length L) 1000000 ∧ Nat.le (List.length L) 1000000) ∧ brP (bar (decide (List.map (fun (i : Nat) => List.getD L i []) (List.range (List.length L)) = List.map (fun (i : Nat) => List.getD L i []) (List.range (List.length L))))) (brP (ieq (Prod.snd (barr (ofR (barr (textL (lstL (List.map (fun (i : Nat) => List.getD L i []) (List.range (List.length L))))))))) (0 : Int)) ((decide (∀ (i : Nat), i < List.length L → true = true) = true ∧ Nat.le (List.length L) 1000000 ∧ ∀ (s : List UInt8), List.Mem s (List.map (fun (i : Nat) => List.getD L i []) (List.range (List.length L))) → Nat.le (List.length s) 1000000) ∧ (decide (∀ (i : Nat), i < List.length (Prod.fst (barr (ofR (barr (textL (lstL (List.map (fun (i : Nat) => List.getD L i []) (List.range (List.length L))))))))) → true = true) = true ∧ decide (∀ (i : Nat), i < List.length (barr (lstL (List.map (fun (i : Nat) => List.getD L i []) (List.range (List.length L))))) → true = true) = true ∧ Nat.le (List.length (Prod.fst (barr (ofR (barr (textL (lstL (List.map (fun (i : Nat) => List.getD L i []) (List.range (List.length L)))))))))) 1000000 ∧ Nat.le (List.length (barr (lstL (List.map (fun (i : Nat) => List.getD L i []) (List.range (List.length L)))))) 1000000) ∧ brP (bar (decide (List.map (fun (i : Nat) => List.getD (Prod.fst (barr (ofR (barr (textL (lstL (List.map (fun (i : Nat) => List.getD L i []) (List.range (List.length L))))))))) i []) (List.range (List.length (Prod.fst (barr (ofR (barr (textL (lstL (List.map (fun (i : Nat) => List.getD L i []) (List.range (List.length L))))))))))) = List.map (fun (i : Nat) => List.getD (barr (lstL (List.map (fun (i : Nat) => List.getD L i []) (List.range (List.length L))))) i []) (List.range (List.length (barr (lstL (List.map (fun (i : Nat) => List.getD L i []) (List.range (List.length L)))))))))) ((decide (∀ (i : Nat), i < List.length (Prod.fst (barr (ofR (barr (textL (lstL (List.map (fun (i : Nat) => List.getD L i []) (List.range (List.length L))))))))) → true = true) = true ∧ Nat.le (List.length (Prod.fst (barr (ofR (barr (textL (lstL (List.map (fun (i : Nat) => List.getD L i []) (List.range (List.length L)))))))))) 1000 ∧ ∀ (s : List UInt8), List.Mem s (List.map (fun (i : Nat) => List.getD (Prod.fst (barr (ofR (barr (textL (lstL (List.map (fun (i : Nat) => List.getD L i []) (List.range (List.length L))))))))) i []) (List.range (List.length (Prod.fst (barr (ofR (barr (textL (lstL (List.map (fun (i : Nat) => List.getD L i []) (List.range (List.length L)))))))))))) → Nat.le (List.length s) 1000000) ∧ brP (decide (barr (textL (lstL (List.map (fun (i : Nat) => List.getD (Prod.fst (barr (ofR (barr (textL (lstL (List.map (fun (i : Nat) => List.getD L i []) (List.range (List.length L))))))))) i []) (List.range (List.length (Prod.fst (barr (ofR (barr (textL (lstL (List.map (fun (i : Nat) => List.getD L i []) (List.range (List.length L)))))))))))))) = barr (textL (lstL (List.map (fun (i : Nat) => List.getD L i []) (List.range (List.length L))))))) (True ∧ true = true ∧ True) (false = true ∧ True)) (false = true ∧ True)) (false = true ∧ True)) (false = true ∧ True)) (false = true ∧ True))))))
:= by
 intro L hs
 have hs : ∀ s ∈ L, s.length ≤ 140737488351232 := hs
 simp only [barr_eq, bar_eq, true_and, and_true, eq_self, implies_true, Nat.le_eq, cond_tf, cond_cf, nif_tf, Int.toNat_natCast, Int.ofNat_eq_natCast, Nat.ble_eq, Nat.ble_self_eq_true, Bool.true_and, Bool.and_true, Bool.and_self, Option.some.injEq, AV.int.injEq, rowB_self, allBR_self, Nat.mul_one, Nat.beq_refl, allI_true, cond_true, cond_false, ieq_self, Bool.not_true, Bool.not_false, decide_true, brP_f, brP_t, sdA_t, bytesL_packL, List.nil_append]
 simp only [rowTx_map, of_text, lst_idem]
 refine ⟨hs, brP_of (fun _ => trivial) (fun hf => ?_)⟩
 have hf' : fewB L = true := by simpa using hf
 unfold fewB at hf'
 have hf2 := (Bool.and_eq_true _ _ ▸ hf' : decide (L.length ≤ 60) = true ∧ decide (sumL L L.length ≤ 4000) = true)
 have h60 := of_decide_eq_true hf2.1
 have h4000 := of_decide_eq_true hf2.2
 have hsm : ∀ s ∈ L, s.length ≤ 4000 := fun s h => by
  obtain ⟨i, hi, rfl⟩ := List.getElem_of_mem h
  have := sum_at L L.length i hi (Nat.le_refl _)
  rw [getD_getE L [] i hi] at this
  omega
 have hsM : ∀ s ∈ L, s.length ≤ 1000000 := fun s h => by have := hsm s h; omega
 have hll := lst_length L
 have htl := text_lenB 4000 (lstL L) fun s h => hsm s (lst_mem h).1
 have hmul : (lstL L).length * (4000 + 7) ≤ 60 * (4000 + 7) := Nat.mul_le_mul_right _ (by omega)
 have hsN : ∀ s ∈ lstL L, s.length ≤ 1000000 := fun s h => hsM s (lst_mem h).1
 refine ⟨⟨0, ⟨Nat.zero_le _⟩, rfl⟩, fun x hx => brP_of (fun h => ?_) (fun h => ?_)⟩
 ·have h' : x < L.length := by have := ilt_iff.1 h; omega
  have hin : inB (x : Int) L.length = true := inB_iff.2 ⟨by omega, by omega⟩
  have hl := hsM _ (getD_memT h')
  refine sdA_of hin ⟨hl, sdA_of hin ⟨hl, brP_of (fun h2 => ?_) (fun _ => sdA_of (inR_i64.2 ⟨by omega, by omega⟩) ⟨x + 1, ⟨h'⟩, by omega, by simp⟩)⟩⟩
  cases hm : mayL (L.getD x []) <;> rw [hm] at h2 <;> cases h2
 ·refine sdA_of (by rw [goodR_tx, Bool.true_and]; exact decide_eq_true ⟨by omega, by omega⟩) (sdA_of goodR_tx ⟨⟨by omega, hsM⟩, by omega, ⟨by omega, hsM⟩, ⟨by omega, by omega⟩, brP_of (fun _ => ⟨⟨by omega, hsM⟩, ⟨by omega, by omega⟩, brP_of (fun _ => ⟨⟨by omega, hsN⟩, brP_of (fun _ => trivial) (fun h9 => ?_)⟩) (fun h8 => ?_)⟩) (fun h7 => ?_)⟩)
  ·simp at h9
  ·simp at h8
  ·rw [ieq_self] at h7; cases h7
theorem runLawL_b : ∀ L : Txs, (∀ s ∈ L, s.length ≤ 140737488351232) → (cRun (cxL (tbL gz0) [(4, 4, SLaw L)] []) 60).call 4 [.vec 1 L.length (rT L)] (mkH (gzT gz0)) 9 (ResP Tryz.prog false (.bool true)) :=
 Eq.mpr (by kernel_rfl) runLawL_r
theorem runLawL : ∀ L : Txs, (∀ s ∈ L, s.length ≤ 140737488351232) → (cRun (cxL (tbL gz0) [(4, 4, SLaw L)] []) 60).call 4 [.vec 1 L.length (rT L)] (mkH (gzT gz0)) 9 (ResM Tryz.prog false (.bool true)) := by
 intros
 rw [← resP_eq]
 apply runLawL_b <;> assumption
theorem okFew : EntOK Tryz.prog 9 eFew := by
 refine ent_tx (gl := []) (ng := 0) gl0 fun H args ct hct => ?_
 unfold eFew at hct
 split at hct
 ·rename_i n f
  injection hct with hct; subst hct
  refine ⟨gl0, _, _, rfl, fun hp => ⟨?_, ⟨⟨rfl, rfl, ⟨fun i _ => vm_rT _ i⟩⟩, trivial⟩, cxL [] [(9, 3, SFew (rowTx n f))] [], 60, rfl, fol, tb_nil, ?_⟩⟩
  ·intro a ha
   rw [List.mem_singleton.1 ha]; exact hp.1
  ·have h := runFew (rowTx n f) hp.2
   rw [rowTx_length] at h
   rw [bar_eq]
   exact h
 ·cases hct
theorem okLawL (hk : EntOK Tryz.prog 5 (eK gz0)) : EntOK Tryz.prog 4 (fun H args => match args with
  | [.vec 1 n f] => cond (selG gz0 H) (some (.need (∃ L : Txs, n = L.length ∧ f = rT L ∧ ∀ s ∈ L, s.length ≤ 140737488351232) (.ret (.bool true)))) none
  | _ => none) := by
 refine ent_of2 (gl := gzT gz0) (ng := 9) (gzT_gl gz0) fun H args ct hct => ?_
 split at hct
 ·rename_i n f
  cases hs : selG gz0 H with
  | false => rw [hs] at hct; cases hct
  | true =>
   rw [hs] at hct
   injection hct with hct; subst hct
   refine ⟨selG_gl hs, _, _, rfl, ?_⟩
   rintro ⟨L, rfl, rfl, h3⟩
   exact ⟨⟨⟨rfl, rfl, ⟨fun i _ => vm_rT L i⟩⟩, trivial⟩, cxL (tbL gz0) [(4, 4, SLaw L)] [], 60, rfl, fol, tb_cons hk (tb_cons okFew (tb_cons okMayP (tb_cons okMayR (tb_cons okTxtP (tb_cons okTxtR (tb_cons okOfP (tb_cons okSame (tb_cons okLstR tb_nil)))))))), runLawL L h3⟩
 ·cases hct
end Go.Proofs.YtenbcoedkeddgaaGreatDoor
