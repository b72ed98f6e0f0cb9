/- Laid by program out of its parts: TkK. -/
import Derived.Test.YtblcpogddmjonaaDoorTkJ
set_option maxRecDepth 100000
set_option linter.unusedSimpArgs false
set_option linter.unusedVariables false
open Go Go.Ev
namespace Go.Proofs.Tk
noncomputable def eL2 : Tr AObj → List AV → Option Ct := fun H args => match args with
  | [.bv l, .bv m] => cond (globB H) (some (.need True (.ret (.bool true)))) none
  | _ => none
noncomputable def L5 (l : List UInt8) : Stn := thin Nat [5, 7] (fun i => [(9, .int .i64 i)]) (fun _ i => i ≤ (scanR l).1.length) fun i => (scanR l).1.length - i
noncomputable def cx5 (l : List UInt8) : Ctx := { P := Tryd.prog, tb := tbK, lp := fun f r => cond (Nat.beq f 5) (cond (Nat.beq r 8) (some (L5 l)) none) none, cut := fun _ _ => none }

theorem row_app (l m : List UInt8) (i : Nat) : appF l.length (byteRow l) (byteRow m) i = byteRow (l ++ m) i := by
  unfold appF byteRow
  by_cases h : i < l.length
  · rw [show Nat.blt i l.length = true by simpa [Nat.blt_eq] using h, cond_true]
    simp [List.getD_eq_getElem?_getD, List.getElem?_append_left h]
  · rw [show Nat.blt i l.length = false from Bool.eq_false_iff.2 fun hb => h (by simpa [Nat.blt_eq] using hb), cond_false]
    simp [List.getD_eq_getElem?_getD, List.getElem?_append_right (Nat.le_of_not_lt h)]
theorem rowB_app (l m : List UInt8) : rowB (l.length + m.length) (appF l.length (byteRow l) (byteRow m)) = l ++ m := by
  rw [show appF l.length (byteRow l) (byteRow m) = byteRow (l ++ m) from funext (row_app l m), ← List.length_append, rowB_self]
theorem allBR_app (l m : List UInt8) : allBR (l.length + m.length) (appF l.length (byteRow l) (byteRow m)) = true := by
  rw [show appF l.length (byteRow l) (byteRow m) = byteRow (l ++ m) from funext (row_app l m), ← List.length_append, allBR_self]
/-! What stands behind changes no token that ends ahead of it. -/
theorem runN_more {p : Int → Bool} : ∀ (l m : List UInt8), runN p l < l.length → runN p (l ++ m) = runN p l
  | [], m, h => by simp at h
  | b :: l, m, h => by
    rw [List.cons_append, runN, runN]
    rw [runN] at h
    by_cases hb : p (b.toNat : Int) = true
    · rw [if_pos hb, List.length_cons] at h
      rw [if_pos hb, if_pos hb, runN_more l m (by omega)]
    · rw [if_neg hb, if_neg hb]
theorem nxT_more {b : UInt8} {t : List UInt8} (m : List UInt8) (h : (nxT (b :: t)).2 < (b :: t).length) : nxT (b :: (t ++ m)) = nxT (b :: t) := by
  rw [nxT_cons] at h
  rw [nxT_cons, nxT_cons]
  by_cases h1 : letrI (b.toNat : Int) = true
  · rw [if_pos h1] at h
    rw [if_pos h1, if_pos h1, ← List.cons_append, runN_more _ m h]
  · rw [if_neg h1] at h
    rw [if_neg h1, if_neg h1]
    by_cases h2 : digI (b.toNat : Int) = true
    · rw [if_pos h2] at h
      rw [if_pos h2, if_pos h2, ← List.cons_append, runN_more _ m h]
    · rw [if_neg h2] at h
      rw [if_neg h2, if_neg h2]
      by_cases h3 : (b.toNat : Int) = 35
      · rw [if_pos h3] at h
        rw [if_pos h3, if_pos h3, ← List.cons_append, runN_more _ m h]
      · rw [if_neg h3] at h
        rw [if_neg h3, if_neg h3]
        cases t with
        | nil =>
          exfalso
          rw [if_neg (fun h => absurd h.2.1 (by simp))] at h
          split at h <;> simp at h
        | cons c t =>
          simp only [List.cons_append, List.length_cons, List.getD_cons_zero, List.length_append]
          by_cases h4 : (b.toNat : Int) = 61 ∧ 1 ≤ t.length + 1 ∧ (c.toNat : Int) = 61
          · rw [if_pos h4, if_pos ⟨h4.1, by omega, h4.2.2⟩]
          · rw [if_neg h4, if_neg (fun h => h4 ⟨h.1, by omega, h.2.2⟩)]
theorem scn_longer (m : List UInt8) : ∀ (n : Nat) (l : List UInt8) (line col : Int), l.length ≤ n → (scn l line col).1.length - 1 ≤ (scn (l ++ m) line col).1.length ∧ ∀ i, i < (scn l line col).1.length - 1 → (scn (l ++ m) line col).1.getD i t0 = (scn l line col).1.getD i t0
  | _, [], _, _, _ => ⟨Nat.zero_le _, fun i h => by rw [scn_nil] at h; simp at h⟩
  | 0, b :: t, _, _, h => by simp at h
  | n + 1, b :: t, line, col, h => by
    have hn := nxT_pos b t
    obtain ⟨o1, _⟩ := oneT_len b t line col
    rw [List.cons_append, scn_cons, scn_cons b (t ++ m)]
    by_cases hlt : (nxT (b :: t)).2 < (b :: t).length
    · have e1 := nxT_more m hlt
      have e2 : oneT b (t ++ m) line col = oneT b t line col := by
        unfold oneT
        dsimp only
        rw [e1, ← List.cons_append, List.take_append_of_le_length (Nat.le_of_lt hlt)]
      rw [e1, e2, ← List.cons_append, List.drop_append_of_le_length (Nat.le_of_lt hlt)]
      have hl : ((b :: t).drop (nxT (b :: t)).2).length = t.length + 1 - (nxT (b :: t)).2 := by rw [List.length_drop, List.length_cons]
      simp only [List.length_cons] at h
      obtain ⟨i1, i2⟩ := scn_longer m n ((b :: t).drop (nxT (b :: t)).2) (if b = 10 then line + 1 else line) (if b = 10 then 1 else col + (nxT (b :: t)).2) (by omega)
      simp only [List.length_append]
      refine ⟨by omega, fun i hi => ?_⟩
      simp only [List.getD_eq_getElem?_getD] at i2 ⊢
      by_cases hio : i < (oneT b t line col).1.length
      · rw [List.getElem?_append_left hio, List.getElem?_append_left hio]
      · rw [List.getElem?_append_right (by omega), List.getElem?_append_right (by omega)]
        exact i2 _ (by omega)
    · rw [show (b :: t).drop (nxT (b :: t)).2 = [] from List.drop_eq_nil_of_le (by omega), scn_nil]
      simp only [List.append_nil]
      exact ⟨by omega, fun i hi => by omega⟩

theorem run5_r : ∀ (l m : List UInt8), brP (ilt (2000 : Int) (Int.ofNat (List.length l))) (True ∧ true = true) (brP (ilt (2000 : Int) (Int.ofNat (List.length m))) (True ∧ true = true) (Nat.le (List.length l) (1000000 : Nat) ∧ sdA (decide (List.length l ≤ (9223372036854775807 : Nat) ∧ List.length l * (1 : Nat) ≤ (140737488355328 : Nat))) (sdA (bif bif Nat.ble (List.length l * (1 : Nat)) (List.length l * (1 : Nat)) then true else false then decide (List.length l + List.length m ≤ (9223372036854775807 : Nat) ∧ (List.length l + List.length m) * (1 : Nat) ≤ (140737488355328 : Nat)) else false) (sdA (bif bif Nat.ble ((List.length l + List.length m) * (1 : Nat)) ((List.length l + List.length m) * (1 : Nat)) then allBR (List.length l + List.length m) (appF (List.length l) (byteRow l) (byteRow m)) else false then true else false) (sdA (bif bif Nat.beq (List.length l + List.length m) (List.length l + List.length m) then true else false then true else false) (Nat.le (List.length (rowB (List.length l + List.length m) (appF (List.length l) (byteRow l) (byteRow m)))) (1000000 : Nat) ∧ sdA (inR IntKind.i64 (Int.ofNat (List.length (Prod.fst (scanR l))) - (1 : Int))) (brP (ilt (Int.ofNat (List.length (Prod.fst (scanR (rowB (List.length l + List.length m) (appF (List.length l) (byteRow l) (byteRow m))))))) (Int.ofNat (List.length (Prod.fst (scanR l))) - (1 : Int))) (false = true) ((∃ (x0 : Nat), Nat.le x0 (List.length (Prod.fst (scanR l))) ∧ true = true ∧ ((true = true ∧ (0 : Int) = (↑x0 : Int)) ∧ (true = true ∧ List.length (Prod.fst (scanR l)) = List.length (Prod.fst (scanR l)) ∧ AllI fun (i : Nat) => i < List.length (Prod.fst (scanR l)) → (true = true ∧ Tok.kind (List.getD (Prod.fst (scanR l)) i t0) = Tok.kind (List.getD (Prod.fst (scanR l)) i t0)) ∧ Tok.text (List.getD (Prod.fst (scanR l)) i t0) = Tok.text (List.getD (Prod.fst (scanR l)) i t0) ∧ (true = true ∧ Tok.num (List.getD (Prod.fst (scanR l)) i t0) = Tok.num (List.getD (Prod.fst (scanR l)) i t0)) ∧ (true = true ∧ Tok.line (List.getD (Prod.fst (scanR l)) i t0) = Tok.line (List.getD (Prod.fst (scanR l)) i t0)) ∧ (true = true ∧ Tok.col (List.getD (Prod.fst (scanR l)) i t0) = Tok.col (List.getD (Prod.fst (scanR l)) i t0)) ∧ True) ∧ (true = true ∧ List.length (Prod.fst (scanR (rowB (List.length l + List.length m) (appF (List.length l) (byteRow l) (byteRow m))))) = List.length (Prod.fst (scanR (rowB (List.length l + List.length m) (appF (List.length l) (byteRow l) (byteRow m))))) ∧ AllI fun (i : Nat) => i < List.length (Prod.fst (scanR (rowB (List.length l + List.length m) (appF (List.length l) (byteRow l) (byteRow m))))) → (true = true ∧ Tok.kind (List.getD (Prod.fst (scanR (rowB (List.length l + List.length m) (appF (List.length l) (byteRow l) (byteRow m))))) i t0) = Tok.kind (List.getD (Prod.fst (scanR (rowB (List.length l + List.length m) (appF (List.length l) (byteRow l) (byteRow m))))) i t0)) ∧ Tok.text (List.getD (Prod.fst (scanR (rowB (List.length l + List.length m) (appF (List.length l) (byteRow l) (byteRow m))))) i t0) = Tok.text (List.getD (Prod.fst (scanR (rowB (List.length l + List.length m) (appF (List.length l) (byteRow l) (byteRow m))))) i t0) ∧ (true = true ∧ Tok.num (List.getD (Prod.fst (scanR (rowB (List.length l + List.length m) (appF (List.length l) (byteRow l) (byteRow m))))) i t0) = Tok.num (List.getD (Prod.fst (scanR (rowB (List.length l + List.length m) (appF (List.length l) (byteRow l) (byteRow m))))) i t0)) ∧ (true = true ∧ Tok.line (List.getD (Prod.fst (scanR (rowB (List.length l + List.length m) (appF (List.length l) (byteRow l) (byteRow m))))) i t0) = Tok.line (List.getD (Prod.fst (scanR (rowB (List.length l + List.length m) (appF (List.length l) (byteRow l) (byteRow m))))) i t0)) ∧ (true = true ∧ Tok.col (List.getD (Prod.fst (scanR (rowB (List.length l + List.length m) (appF (List.length l) (byteRow l) (byteRow m))))) i t0) = Tok.col (List.getD (Prod.fst (scanR (rowB (List.length l + List.length m) (appF (List.length l) (byteRow l) (byteRow m))))) i t0)) ∧ True) ∧ True) ∧ (true = true ∧ asciiTab = asciiTab) ∧ True) ∧ ∀ (x : Nat), Nat.le x (List.length (Prod.fst (scanR l))) → sdA (inR IntKind.i64 (Int.ofNat (List.length (Prod.fst (scanR l))) - (1 : Int))) (brP (ilt (↑x : Int) (Int.ofNat (List.length (Prod.fst (scanR l))) - (1 : Int))) (sdA (inB (↑x : Int) (List.length (Prod.fst (scanR l)))) (sdA (inB (↑x : Int) (List.length (Prod.fst (scanR (rowB (List.length l + List.length m) (appF (List.length l) (byteRow l) (byteRow m))))))) ((((True ∧ True ∧ True) ∧ True) ∧ True) ∧ brP (!(ieq (Tok.kind (List.getD (Prod.fst (scanR l)) (Int.toNat (↑x : Int)) t0)) (Tok.kind (List.getD (Prod.fst (scanR (rowB (List.length l + List.length m) (appF (List.length l) (byteRow l) (byteRow m))))) (Int.toNat (↑x : Int)) t0)) && (decide (Tok.text (List.getD (Prod.fst (scanR l)) (Int.toNat (↑x : Int)) t0) = Tok.text (List.getD (Prod.fst (scanR (rowB (List.length l + List.length m) (appF (List.length l) (byteRow l) (byteRow m))))) (Int.toNat (↑x : Int)) t0)) && (ieq (Tok.num (List.getD (Prod.fst (scanR l)) (Int.toNat (↑x : Int)) t0)) (Tok.num (List.getD (Prod.fst (scanR (rowB (List.length l + List.length m) (appF (List.length l) (byteRow l) (byteRow m))))) (Int.toNat (↑x : Int)) t0)) && (ieq (Tok.line (List.getD (Prod.fst (scanR l)) (Int.toNat (↑x : Int)) t0)) (Tok.line (List.getD (Prod.fst (scanR (rowB (List.length l + List.length m) (appF (List.length l) (byteRow l) (byteRow m))))) (Int.toNat (↑x : Int)) t0)) && (ieq (Tok.col (List.getD (Prod.fst (scanR l)) (Int.toNat (↑x : Int)) t0)) (Tok.col (List.getD (Prod.fst (scanR (rowB (List.length l + List.length m) (appF (List.length l) (byteRow l) (byteRow m))))) (Int.toNat (↑x : Int)) t0)) && true)))))) (false = true) (sdA (inR IntKind.i64 ((↑x : Int) + (1 : Int))) (∃ (x' : Nat), Nat.le x' (List.length (Prod.fst (scanR l))) ∧ Nat.le (Nat.succ (List.length (Prod.fst (scanR l)) - x')) (List.length (Prod.fst (scanR l)) - x) ∧ true = true ∧ ((true = true ∧ (↑x : Int) + (1 : Int) = (↑x' : Int)) ∧ (true = true ∧ List.length (Prod.fst (scanR l)) = List.length (Prod.fst (scanR l)) ∧ AllI fun (i : Nat) => i < List.length (Prod.fst (scanR l)) → (true = true ∧ Tok.kind (List.getD (Prod.fst (scanR l)) i t0) = Tok.kind (List.getD (Prod.fst (scanR l)) i t0)) ∧ Tok.text (List.getD (Prod.fst (scanR l)) i t0) = Tok.text (List.getD (Prod.fst (scanR l)) i t0) ∧ (true = true ∧ Tok.num (List.getD (Prod.fst (scanR l)) i t0) = Tok.num (List.getD (Prod.fst (scanR l)) i t0)) ∧ (true = true ∧ Tok.line (List.getD (Prod.fst (scanR l)) i t0) = Tok.line (List.getD (Prod.fst (scanR l)) i t0)) ∧ (true = true ∧ Tok.col (List.getD (Prod.fst (scanR l)) i t0) = Tok.col (List.getD (Prod.fst (scanR l)) i t0)) ∧ True) ∧ (true = true ∧ List.length (Prod.fst (scanR (rowB (List.length l + List.length m) (appF (List.length l) (byteRow l) (byteRow m))))) = List.length (Prod.fst (scanR (rowB (List.length l + List.length m) (appF (List.length l) (byteRow l) (byteRow m))))) ∧ AllI fun (i : Nat) => i < List.length (Prod.fst (scanR (rowB (List.length l + List.length m) (appF (List.length l) (byteRow l) (byteRow m))))) → (true = true ∧ Tok.kind (List.getD (Prod.fst (scanR (rowB (List.length l + List.length m) (appF (List.length l) (byteRow l) (byteRow m))))) i t0) = Tok.kind (List.getD (Prod.fst (scanR (rowB (List.length l + List.length m) (appF (List.length l) (byteRow l) (byteRow m))))) i t0)) ∧ Tok.text (List.getD (Prod.fst (scanR (rowB (List.length l + List.length m) (appF (List.length l) (byteRow l) (byteRow m))))) i t0) = Tok.text (List.getD (Prod.fst (scanR (rowB (List.length l + List.length m) (appF (List.length l) (byteRow l) (byteRow m))))) i t0) ∧ (true = true ∧ Tok.num (List.getD (Prod.fst (scanR (rowB (List.length l + List.length m) (appF (List.length l) (byteRow l) (byteRow m))))) i t0) = Tok.num (List.getD (Prod.fst (scanR (rowB (List.length l + List.length m) (appF (List.length l) (byteRow l) (byteRow m))))) i t0)) ∧ (true = true ∧ Tok.line (List.getD (Prod.fst (scanR (rowB (List.length l + List.length m) (appF (List.length l) (byteRow l) (byteRow m))))) i t0) = Tok.line (List.getD (Prod.fst (scanR (rowB (List.length l + List.length m) (appF (List.length l) (byteRow l) (byteRow m))))) i t0)) ∧ (true = true ∧ Tok.col (List.getD (Prod.fst (scanR (rowB (List.length l + List.length m) (appF (List.length l) (byteRow l) (byteRow m))))) i t0) = Tok.col (List.getD (Prod.fst (scanR (rowB (List.length l + List.length m) (appF (List.length l) (byteRow l) (byteRow m))))) i t0)) ∧ True) ∧ True) ∧ (true = true ∧ asciiTab = asciiTab) ∧ True))))) (True ∧ true = true))))))))))
:= by
  intro l m
  simp only [barr_eq, bar_eq, true_and, and_true, eq_self, implies_true, Nat.le_eq, cond_tf, cond_cf, Int.toNat_natCast, Int.ofNat_eq_natCast, Nat.ble_eq, Nat.ble_self_eq_true, Bool.true_and, Bool.and_true, Bool.and_self, Option.some.injEq, AV.int.injEq, rowB_self, allBR_self, Nat.mul_one, Nat.beq_refl, allI_true, cond_true, cond_false, ieq_self, Bool.not_true, Bool.not_false, decide_true, brP_f, brP_t, sdA_t]
  simp only [rowB_app, allBR_app, sdA_t]
  obtain ⟨n1, n2⟩ := scanR_len l
  obtain ⟨g1, g2⟩ := scn_longer m l.length l 1 1 (Nat.le_refl _)
  change (scanR l).1.length - 1 ≤ (scanR (l ++ m)).1.length at g1
  change ∀ i, i < (scanR l).1.length - 1 → (scanR (l ++ m)).1.getD i t0 = (scanR l).1.getD i t0 at g2
  refine brP_of (fun _ => trivial) fun h5 => brP_of (fun _ => trivial) fun h6 => ?_
  rw [ilt_iffn] at h5 h6
  refine ⟨by omega, sdA_of (decide_eq_true ⟨by omega, by omega⟩) (sdA_of (decide_eq_true ⟨by omega, by omega⟩) ⟨by rw [List.length_append]; omega, sdA_of (inR_i64.2 (by omega)) (brP_of (fun h => ?_) fun _ => ⟨⟨0, Nat.zero_le _, rfl⟩, fun x hx => sdA_of (inR_i64.2 (by omega)) (brP_of (fun h => ?_) fun _ => trivial)⟩)⟩)⟩
  · rw [ilt_iff] at h; omega
  · rw [ilt_iff] at h
    rw [g2 x (by omega)]
    simp only [barr_eq, bar_eq, true_and, and_true, eq_self, implies_true, Nat.le_eq, cond_tf, cond_cf, Int.toNat_natCast, Int.ofNat_eq_natCast, Nat.ble_eq, Nat.ble_self_eq_true, Bool.true_and, Bool.and_true, Bool.and_self, Option.some.injEq, AV.int.injEq, rowB_self, allBR_self, Nat.mul_one, Nat.beq_refl, allI_true, cond_true, cond_false, ieq_self, Bool.not_true, Bool.not_false, decide_true, brP_f, brP_t, sdA_t]
    exact sdA_of (inB_iff.2 (by omega)) (sdA_of (inB_iff.2 (by omega)) (sdA_of (inR_i64.2 (by omega)) ⟨x + 1, by omega, by omega, by omega⟩))
theorem run5 : ∀ (l m : List UInt8), (cRun (cx5 l) 200).call 5 [.bv l, .bv m] (mkH glT) 4 (ResM Tryd.prog false (.bool true)) :=
  Eq.mpr (by kernel_rfl) run5_r

theorem ok5 : EntOK Tryd.prog 5 eL2 := by
  refine ent_of2 (gl := glT) (ng := 4) glT_gl fun H args ct hct => ?_
  unfold eL2 at hct
  split at hct
  · rename_i l m
    cases hg : globB H with
    | true =>
      rw [hg] at hct
      injection hct with hct; subst hct
      exact ⟨globB_ok hg, _, _, rfl, fun hp => ⟨⟨rfl, rfl, trivial⟩, cx5 l, 200, rfl, fol, tbK_ok, run5 l m⟩⟩
    | false => rw [hg] at hct; cases hct
  · cases hct

end Go.Proofs.Tk
