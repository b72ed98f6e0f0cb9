/- Laid by program out of its parts: BlL, BlE, BlG. -/
import Derived.Test.YtenbcoedkeddgaaGreatDoorBlS
set_option linter.unusedVariables false
set_option linter.unusedSimpArgs false
section
set_option maxRecDepth 100000
open Go Go.Ev
namespace Go.Proofs.YtenbcoedkeddgaaGreatDoor
noncomputable def cxH (tb : Tbl) (lp cut : List (Nat × Nat × Stn)) : Ctx := { P := Tryz.prog, tb := tb, ht := htL, hok := htL_ok, lp := lpL lp, cut := lpL cut }
noncomputable def fil (L : Txs) (k : Nat) : Txs := barr ((L.take k).filter mayL)
noncomputable def SLd (L : Txs) : Stn := { X := Nat, T := fun s _ k => [(3, .slg s.nx (fil L k).length 1), (8, .int .i64 k)] ++ keepT s [6, 7], H := fun s n0 k => (s.nx, .cells 9 .leaf (.rows 1 (rT (fil L k))) (fil L k).length true) :: keepH s n0, nx := fun s _ => s.nx + 1, I := fun _ k => k ≤ L.length, m := fun k => L.length - k }
noncomputable def tbM : Tbl := [(10, eMay)]
theorem rowOf_lt {ys : Txs} {n i : Nat} {f : Nat → List AV} (h : i < n) : rowOf ys n f i = [.bs (ys.getD i [])] := by
 unfold rowOf
 rw [show Nat.blt i n = true from by simpa [Nat.blt_eq] using h, cond_true]
theorem rowTx_rowOf {ys : Txs} {n : Nat} {f : Nat → List AV} (h : ys.length = n) : rowTx n (rowOf ys n f) = ys := by
 subst h
 have e : rowTx ys.length (rowOf ys ys.length f) = rowTx ys.length (rT ys) := List.map_congr_left fun i hi => by rw [rowOf_lt (List.mem_range.1 hi)]; rfl
 rw [e, rowTx_rT]
theorem allTx_rowOf {ys : Txs} {n : Nat} {f : Nat → List AV} : allTx n (rowOf ys n f) = true := decide_eq_true fun i hi => by rw [rowOf_lt hi]; rfl
theorem fil_zero (L : Txs) : fil L 0 = [] := by unfold fil; rw [barr_eq]; rfl
theorem fil_yes {L : Txs} {k : Nat} (hk : k < L.length) (hm : mayL (L.getD k []) = true) : fil L (k + 1) = fil L k ++ [L.getD k []] := by
 unfold fil
 rw [barr_eq, barr_eq, take_succE L [] k hk, List.filter_append, List.filter_cons, if_pos hm]; rfl
theorem fil_no {L : Txs} {k : Nat} (hk : k < L.length) (hm : mayL (L.getD k []) = false) : fil L (k + 1) = fil L k := by
 unfold fil
 rw [barr_eq, barr_eq, take_succE L [] k hk, List.filter_append, List.filter_cons, hm]; simp
theorem fil_len (L : Txs) (k : Nat) : (fil L k).length ≤ L.length := by
 unfold fil
 rw [barr_eq]
 have h1 := List.length_filter_le mayL (L.take k)
 have h2 := List.length_take_le k L
 have h3 : (L.take k).length ≤ L.length := by simp; omega
 omega
theorem fil_all (L : Txs) : fil L L.length = L.filter mayL := by unfold fil; rw [barr_eq, List.take_length]
theorem sort_len (F : Txs) : (sortT F).length = F.length := by unfold sortT; rw [barr_eq]; exact List.length_mergeSort _
theorem comp_eq (L : Txs) : Lib.compact (sortT (L.filter mayL)) = lstL L := by
 unfold sortT
 rw [barr_eq]
 exact srtC_eq (L.filter mayL)
theorem app_row1 (F : Txs) (t : List UInt8) (i : Nat) (hi : i < F.length + 1) : appF F.length (fun i => [AV.bs (F.getD i [])]) (fun _ => [AV.bs t]) i = [AV.bs ((F ++ [t]).getD i [])] := by
 refine appF_row (fun h => ?_) (fun h => ?_)
 ·simp [List.getD_eq_getElem?_getD, List.getElem?_append_left h]
 ·rw [show i = F.length by omega]; simp
theorem runLd_r : ∀ (L : Txs), Nat.le (List.length L) 1000000 → (∀ (s : List UInt8), List.Mem s L → Nat.le (List.length s) 1000000) → (∃ (x0 : Nat), Nat.le x0 (List.length L) ∧ true = true ∧ (List.length (fil L x0) = 0 ∧ (true = true ∧ (0 : Int) = (↑x0 : Int)) ∧ (true = true ∧ List.length L = List.length L ∧ AllI fun (i : Nat) => Nat.le (Nat.succ i) (List.length L) → List.getD L i [] = List.getD L i [] ∧ True) ∧ (true = true ∧ Int.ofNat (List.length L) = Int.ofNat (List.length L)) ∧ True) ∧ (true = true ∧ True) ∧ True) ∧ ∀ (x : Nat), Nat.le x (List.length L) → brP (ilt (↑x : Int) (Int.ofNat (List.length L))) (sdA (inB (↑x : Int) (List.length L)) (Nat.le (List.length (List.getD L (Int.toNat (↑x : Int)) [])) 1000000 ∧ brP (bar (mayL (List.getD L (Int.toNat (↑x : Int)) []))) (sdA (bif bif Nat.ble (List.length (fil L x) * 1) (List.length (fil L x)) then true else false then decide (List.length (fil L x) + 1 ≤ 9223372036854775807 ∧ (List.length (fil L x) + 1) * 16 ≤ 140737488355328) else false) (sdA (inR IntKind.i64 ((↑x : Int) + (1 : Int))) (∃ (x' : Nat), Nat.le x' (List.length L) ∧ Nat.le (Nat.succ (List.length L - x')) (List.length L - x) ∧ true = true ∧ ((some 4 = some 4 ∧ List.length (fil L x) + 1 = List.length (fil L x') ∧ true = true) ∧ (true = true ∧ (↑x : Int) + (1 : Int) = (↑x' : Int)) ∧ (true = true ∧ List.length L = List.length L ∧ AllI fun (i : Nat) => Nat.le (Nat.succ i) (List.length L) → List.getD L i [] = List.getD L i [] ∧ True) ∧ (true = true ∧ Int.ofNat (List.length L) = Int.ofNat (List.length L)) ∧ True) ∧ (true = true ∧ true = true ∧ true = true ∧ true = true ∧ (List.length (fil L x) + 1) * 1 = List.length (fil L x') ∧ AllI fun (i : Nat) => Nat.le (Nat.succ (i * 1)) ((List.length (fil L x) + 1) * 1) → vmL [(0, 4)] [AV.bs (List.getD (fil L x') i [])] (appF (List.length (fil L x)) (fun (i : Nat) => [AV.bs (List.getD (fil L x) i [])]) (fun (x_1 : Nat) => [AV.bs (List.getD L (Int.toNat (↑x : Int)) [])]) i)) ∧ True))) (sdA (inR IntKind.i64 ((↑x : Int) + (1 : Int))) (∃ (x' : Nat), Nat.le x' (List.length L) ∧ Nat.le (Nat.succ (List.length L - x')) (List.length L - x) ∧ true = true ∧ ((some 0 = some 0 ∧ List.length (fil L x) = List.length (fil L x') ∧ true = true) ∧ (true = true ∧ (↑x : Int) + (1 : Int) = (↑x' : Int)) ∧ (true = true ∧ List.length L = List.length L ∧ AllI fun (i : Nat) => Nat.le (Nat.succ i) (List.length L) → List.getD L i [] = List.getD L i [] ∧ True) ∧ (true = true ∧ Int.ofNat (List.length L) = Int.ofNat (List.length L)) ∧ True) ∧ (true = true ∧ true = true ∧ true = true ∧ true = true ∧ List.length (fil L x) = List.length (fil L x') ∧ AllI fun (i : Nat) => Nat.le (Nat.succ (i * 1)) (List.length (fil L x)) → List.getD (fil L x) i [] = List.getD (fil L x') i [] ∧ True) ∧ True)))) ((Nat.le (List.length (fil L x)) (List.length (fil L x)) ∧ decide (∀ (i : Nat), i < List.length (fil L x) → true = true) = true ∧ Nat.le (Nat.succ (List.length (fil L x))) 4611686018427387904) ∧ (Nat.le (List.length (fil L x)) (List.length (fil L x)) ∧ decide (∀ (i : Nat), i < List.length (fil L x) → (txtO.match_1 (fun (l : List AV) => Bool) (bif Nat.blt i (List.length (fil L x)) then [AV.bs (List.getD (sortT (List.map (fun (i : Nat) => List.getD (fil L x) i []) (List.range (List.length (fil L x))))) i [])] else [AV.bs (List.getD (fil L x) i [])]) (fun (l : List UInt8) => true) fun (x : List AV) => false) = true) = true ∧ Nat.le (Nat.succ (List.length (fil L x))) 4611686018427387904) ∧ sdA (bif Nat.ble (compN (List.map (fun (i : Nat) => txtO.match_1 (fun (l : List AV) => List UInt8) (bif Nat.blt i (List.length (fil L x)) then [AV.bs (List.getD (sortT (List.map (fun (i : Nat) => List.getD (fil L x) i []) (List.range (List.length (fil L x))))) i [])] else [AV.bs (List.getD (fil L x) i [])]) (fun (s : List UInt8) => s) fun (x : List AV) => []) (List.range (List.length (fil L x)))) * 1) (List.length (fil L x)) then goodR 1 (compN (List.map (fun (i : Nat) => txtO.match_1 (fun (l : List AV) => List UInt8) (bif Nat.blt i (List.length (fil L x)) then [AV.bs (List.getD (sortT (List.map (fun (i : Nat) => List.getD (fil L x) i []) (List.range (List.length (fil L x))))) i [])] else [AV.bs (List.getD (fil L x) i [])]) (fun (s : List UInt8) => s) fun (x : List AV) => []) (List.range (List.length (fil L x))))) fun (i : Nat) => bif Nat.blt i (List.length (fil L x)) then [AV.bs (List.getD (compT (List.map (fun (i : Nat) => txtO.match_1 (fun (l : List AV) => List UInt8) (bif Nat.blt i (List.length (fil L x)) then [AV.bs (List.getD (sortT (List.map (fun (i : Nat) => List.getD (fil L x) i []) (List.range (List.length (fil L x))))) i [])] else [AV.bs (List.getD (fil L x) i [])]) (fun (s : List UInt8) => s) fun (x : List AV) => []) (List.range (List.length (fil L x))))) i [])] else bif Nat.blt i (List.length (fil L x)) then [AV.bs (List.getD (sortT (List.map (fun (i : Nat) => List.getD (fil L x) i []) (List.range (List.length (fil L x))))) i [])] else [AV.bs (List.getD (fil L x) i [])] else false) ((true = true ∧ compN (List.map (fun (i : Nat) => txtO.match_1 (fun (l : List AV) => List UInt8) (bif Nat.blt i (List.length (fil L x)) then [AV.bs (List.getD (sortT (List.map (fun (i : Nat) => List.getD (fil L x) i []) (List.range (List.length (fil L x))))) i [])] else [AV.bs (List.getD (fil L x) i [])]) (fun (s : List UInt8) => s) fun (x : List AV) => []) (List.range (List.length (fil L x)))) = List.length (barr (lstL L)) ∧ AllI fun (i : Nat) => Nat.le (Nat.succ i) (compN (List.map (fun (i : Nat) => txtO.match_1 (fun (l : List AV) => List UInt8) (bif Nat.blt i (List.length (fil L x)) then [AV.bs (List.getD (sortT (List.map (fun (i : Nat) => List.getD (fil L x) i []) (List.range (List.length (fil L x))))) i [])] else [AV.bs (List.getD (fil L x) i [])]) (fun (s : List UInt8) => s) fun (x : List AV) => []) (List.range (List.length (fil L x))))) → vmL [] [AV.bs (List.getD (barr (lstL L)) i [])] (bif Nat.blt i (List.length (fil L x)) then [AV.bs (List.getD (compT (List.map (fun (i : Nat) => txtO.match_1 (fun (l : List AV) => List UInt8) (bif Nat.blt i (List.length (fil L x)) then [AV.bs (List.getD (sortT (List.map (fun (i : Nat) => List.getD (fil L x) i []) (List.range (List.length (fil L x))))) i [])] else [AV.bs (List.getD (fil L x) i [])]) (fun (s : List UInt8) => s) fun (x : List AV) => []) (List.range (List.length (fil L x))))) i [])] else bif Nat.blt i (List.length (fil L x)) then [AV.bs (List.getD (sortT (List.map (fun (i : Nat) => List.getD (fil L x) i []) (List.range (List.length (fil L x))))) i [])] else [AV.bs (List.getD (fil L x) i [])])) ∧ True))
:= by
 intro L hl hs
 have hl : L.length ≤ 1000000 := hl
 have hs : ∀ s ∈ L, s.length ≤ 1000000 := hs
 refine ⟨⟨0, Nat.zero_le _, rfl, ⟨by rw [fil_zero]; rfl, ⟨rfl, rfl⟩, ⟨rfl, rfl, ⟨fun _ _ => ⟨rfl, trivial⟩⟩⟩, ⟨rfl, rfl⟩, trivial⟩, ⟨rfl, trivial⟩, trivial⟩, fun x hx => brP_of (fun h => ?_) (fun h => ?_)⟩
 ·have hlt : x < L.length := by have h' : (x : Int) < (L.length : Int) := ilt_iff.1 h; omega
  have hin : inB (x : Int) L.length = true := inB_iff.2 ⟨by omega, by omega⟩
  have hR : inR .i64 ((x : Int) + 1) = true := inR_i64.2 ⟨by omega, by omega⟩
  have hfl := fil_len L x
  refine sdA_of hin ⟨hs _ (getD_memT hlt), brP_of (fun h2 => ?_) (fun h2 => ?_)⟩
  ·rw [bar_eq] at h2
   have hy := fil_yes hlt h2
   refine sdA_of ?_ (sdA_of hR ⟨x + 1, hlt, by show L.length - (x + 1) < L.length - x; omega, rfl, ⟨⟨rfl, ?_, rfl⟩, ⟨rfl, by simp⟩, ⟨rfl, rfl, ⟨fun _ _ => ⟨rfl, trivial⟩⟩⟩, ⟨rfl, rfl⟩, trivial⟩, ⟨rfl, rfl, rfl, rfl, ?_, ⟨fun i hi => ?_⟩⟩, trivial⟩)
   ·rw [Nat.mul_one, Nat.ble_self_eq_true, cond_true, cond_true]
    exact decide_eq_true ⟨by omega, by omega⟩
   ·rw [hy]; simp
   ·rw [hy]; simp
   ·have hi' : i < (fil L x).length + 1 := by have : i * 1 < ((fil L x).length + 1) * 1 := hi; omega
    rw [show (x : Int).toNat = x from rfl, app_row1 _ _ i hi', hy]
    exact ⟨rfl, trivial⟩
  ·rw [bar_eq] at h2
   have hy := fil_no hlt h2
   refine sdA_of hR ⟨x + 1, hlt, by show L.length - (x + 1) < L.length - x; omega, rfl, ⟨⟨rfl, by rw [hy], rfl⟩, ⟨rfl, by simp⟩, ⟨rfl, rfl, ⟨fun _ _ => ⟨rfl, trivial⟩⟩⟩, ⟨rfl, rfl⟩, trivial⟩, ⟨rfl, rfl, rfl, rfl, by rw [hy], ⟨fun i hi => ?_⟩⟩, trivial⟩
   rw [hy]
   exact ⟨rfl, trivial⟩
 ·have hge : x = L.length := by have h' : (L.length : Int) ≤ (x : Int) := ilt_iffn.1 h; have hx' : x ≤ L.length := hx; omega
  have hfl := fil_len L x
  have hfa := fil_all L
  rw [← hge] at hfa
  obtain ⟨F, hF⟩ : ∃ F, fil L x = F := ⟨_, rfl⟩
  rw [hF] at hfl hfa ⊢
  have hce : Lib.compact (sortT F) = lstL L := by rw [hfa]; exact comp_eq L
  have hcl := Lib.compact_length_le (sortT F)
  rw [sort_len] at hcl
  change (F.length ≤ F.length ∧ allTx F.length (rT F) = true ∧ F.length < 4611686018427387904) ∧ (F.length ≤ F.length ∧ allTx F.length (rowOf (sortT (rowTx F.length (rT F))) F.length (rT F)) = true ∧ F.length < 4611686018427387904) ∧
   sdA (bif Nat.ble (compN (rowTx F.length (rowOf (sortT (rowTx F.length (rT F))) F.length (rT F))) * 1) F.length then goodR 1 (compN (rowTx F.length (rowOf (sortT (rowTx F.length (rT F))) F.length (rT F)))) (rowOf (compT (rowTx F.length (rowOf (sortT (rowTx F.length (rT F))) F.length (rT F)))) F.length (rowOf (sortT (rowTx F.length (rT F))) F.length (rT F))) else false)
    ((true = true ∧ compN (rowTx F.length (rowOf (sortT (rowTx F.length (rT F))) F.length (rT F))) = (barr (lstL L)).length ∧ AllI fun i => Nat.le (Nat.succ i) (compN (rowTx F.length (rowOf (sortT (rowTx F.length (rT F))) F.length (rT F)))) → vmL [] [AV.bs ((barr (lstL L)).getD i [])] (rowOf (compT (rowTx F.length (rowOf (sortT (rowTx F.length (rT F))) F.length (rT F)))) F.length (rowOf (sortT (rowTx F.length (rT F))) F.length (rT F)) i)) ∧ True)
  rw [rowTx_rT, rowTx_rowOf (sort_len F)]
  have hcn : compN (sortT F) = (lstL L).length := by unfold compN; rw [barr_eq, hce]
  have hle : (lstL L).length ≤ F.length := by rw [← hce]; exact hcl
  rw [hcn, barr_eq]
  refine ⟨⟨Nat.le_refl _, allTx_rT _ _, by omega⟩, ⟨Nat.le_refl _, allTx_rowOf, by omega⟩, sdA_of ?_ ⟨⟨rfl, rfl, ⟨fun i hi => ?_⟩⟩, trivial⟩⟩
  ·rw [Nat.mul_one, show Nat.ble (lstL L).length F.length = true from Nat.ble_eq_true_of_le hle, cond_true]
   exact goodR_of fun i hi => by rw [rowOf_lt (by omega)]; rfl
  ·have hi' : i < (lstL L).length := hi
   rw [rowOf_lt (by omega)]
   have hct : (compT (sortT F)).getD i [] = (lstL L).getD i [] := by
    unfold compT
    rw [barr_eq, hce]
    simp [List.getD_eq_getElem?_getD, List.getElem?_append_left hi']
   rw [hct]
   exact ⟨rfl, trivial⟩
theorem runLd_b : ∀ L : Txs, L.length ≤ 1000000 → (∀ s ∈ L, s.length ≤ 1000000) → (cRun (cxH tbM [(20, 3, SLd L)] []) 60).call 20 [.vec 1 L.length (rT L)] .leaf 0 (ResP Tryz.prog false (.vec 1 (barr (lstL L)).length (rT (barr (lstL L))))) :=
 Eq.mpr (by kernel_rfl) runLd_r
theorem runLd : ∀ L : Txs, L.length ≤ 1000000 → (∀ s ∈ L, s.length ≤ 1000000) → (cRun (cxH tbM [(20, 3, SLd L)] []) 60).call 20 [.vec 1 L.length (rT L)] .leaf 0 (ResM Tryz.prog false (.vec 1 (barr (lstL L)).length (rT (barr (lstL L))))) := by
 intros
 rw [← resP_eq]
 apply runLd_b <;> assumption
end Go.Proofs.YtenbcoedkeddgaaGreatDoor
end
section
set_option maxRecDepth 100000
open Go Go.Ev
namespace Go.Proofs.YtenbcoedkeddgaaGreatDoor
noncomputable def splB (s : List UInt8) : Txs := barr (splitL s)
noncomputable def lnF (M : Txs) (k : Nat) : Nat → List AV := fun i => [.bs (bif Nat.blt i k then M.getD i [] else [])]
structure SpK (s : List UInt8) (x : Nat × List UInt8) : Prop where
 le : x.1 < (splB s).length
 eq : splitL x.2 = (splB s).drop x.1
 ln : x.2.length ≤ s.length
noncomputable def SSp (s : List UInt8) : Stn := { X := Nat × List UInt8, T := fun st _ x => [(0, .bs x.2), (10, .int .i64 x.1)] ++ keepT st [1, 2, 3, 9], H := fun st _ x => [(2, .cells 9 .leaf (.rows 1 (lnF (splB s) x.1)) (splB s).length true)], nx := fun st _ => st.nx, I := fun _ => SpK s, m := fun x => (splB s).length - x.1 }
theorem upd_ln (M : Txs) (k : Nat) (t : List UInt8) (h : t = M.getD k []) (i : Nat) : updRow (lnF M k) k 0 [AV.bs t] i = lnF M (k + 1) i := by
 unfold updRow
 by_cases e : i = k
 ·subst e
  rw [Nat.beq_refl, cond_true, h]
  unfold lnF
  rw [show Nat.blt i (i + 1) = true from by simp [Nat.blt_eq], cond_true]; rfl
 ·rw [show Nat.beq i k = false from Bool.eq_false_iff.2 fun hb => e (Nat.eq_of_beq_eq_true hb), cond_false]
  unfold lnF
  by_cases h2 : i < k
  ·rw [show Nat.blt i k = true from by simpa [Nat.blt_eq] using h2, show Nat.blt i (k + 1) = true from by simp [Nat.blt_eq]; omega]
  ·rw [show Nat.blt i k = false from Bool.eq_false_iff.2 fun hb => h2 (by simpa [Nat.blt_eq] using hb), show Nat.blt i (k + 1) = false from Bool.eq_false_iff.2 fun hb => by have := Nat.le_of_ble_eq_true hb; omega]
theorem ln_at {M : Txs} {k i : Nat} (h : i < k) : lnF M k i = [AV.bs (M.getD i [])] := by
 unfold lnF
 rw [show Nat.blt i k = true from by simpa [Nat.blt_eq] using h, cond_true]
theorem spl_len (s : List UInt8) : (splB s).length = Lib.countByte s (UInt8.ofNat 10) + 1 := by unfold splB; rw [barr_eq]; exact split_count s
theorem SpK.zero (s : List UInt8) : SpK s (0, s) := ⟨by rw [spl_len]; exact Nat.succ_pos _, by unfold splB; rw [barr_eq]; rfl, Nat.le_refl _⟩
theorem drop_cons {M : Txs} {k : Nat} {a : List UInt8} {r : Txs} (h : a :: r = M.drop k) : a = M.getD k [] ∧ r = M.drop (k + 1) ∧ k < M.length := by
 have hk : k < M.length := by
  rcases Nat.lt_or_ge k M.length with h1 | h1
  ·exact h1
  ·rw [List.drop_eq_nil_of_le h1] at h; cases h
 rw [List.drop_eq_getElem_cons hk] at h
 injection h with h1 h2
 exact ⟨by rw [h1, getD_getE M [] k hk], h2, hk⟩
theorem SpK.more {s : List UInt8} {x : Nat × List UInt8} (h : SpK s x) (hm : 0 ≤ Lib.indexByte x.2 (UInt8.ofNat 10)) :
  x.2.take (Lib.indexByte x.2 (UInt8.ofNat 10)).toNat = (splB s).getD x.1 [] ∧ SpK s (x.1 + 1, x.2.drop ((Lib.indexByte x.2 (UInt8.ofNat 10)).toNat + 1)) ∧ (Lib.indexByte x.2 (UInt8.ofNat 10)).toNat < x.2.length := by
 obtain ⟨h1, h2⟩ := split_pos x.2 hm
 have h3 := h.eq
 rw [h1] at h3
 obtain ⟨h4, h5, h6⟩ := drop_cons h3
 refine ⟨h4, ⟨?_, h5, by have := h.ln; simp; omega⟩, h2⟩
 rcases Nat.lt_or_ge (x.1 + 1) (splB s).length with h7 | h7
 ·exact h7
 ·rw [List.drop_eq_nil_of_le h7] at h5
  exact absurd h5 (split_ne _)
theorem SpK.last {s : List UInt8} {x : Nat × List UInt8} (h : SpK s x) (hm : Lib.indexByte x.2 (UInt8.ofNat 10) < 0) : x.2 = (splB s).getD x.1 [] ∧ x.1 + 1 = (splB s).length := by
 have h3 := h.eq
 rw [split_neg x.2 hm] at h3
 obtain ⟨h4, h5, h6⟩ := drop_cons h3
 refine ⟨h4, ?_⟩
 have := (List.drop_eq_nil_iff.1 h5.symm)
 have := h.le
 omega
theorem toNat_succ (k : Nat) : ((k : Int) + 1).toNat = k + 1 := rfl
theorem SpK.end_ {s : List UInt8} {x : Nat × List UInt8} (h : SpK s x) (he : x.1 + 1 = (splB s).length) : x.2 = (splB s).getD x.1 [] := by
 have h3 := h.eq
 obtain ⟨a, r, e⟩ : ∃ a r, splitL x.2 = a :: r := List.exists_cons_of_ne_nil (split_ne _)
 have h4 := h3
 rw [e] at h4
 obtain ⟨h5, h6, _⟩ := drop_cons h4
 rw [List.drop_eq_nil_of_le (by omega)] at h6
 by_cases hm : Lib.indexByte x.2 (UInt8.ofNat 10) < 0
 ·exact (h.last hm).1
 ·obtain ⟨h7, _⟩ := split_pos x.2 (by show (0 : Int) ≤ Lib.indexByte x.2 (UInt8.ofNat 10); omega)
  rw [h7] at e
  injection e with e1 e2
  rw [h6] at e2
  exact absurd e2 (split_ne _)
@[reducible] def BlE_runSpl_k0 : List UInt8 → Prop := fun (s : List UInt8) => (1 = 1 ∧ 10 = 10) ∧ (true = true ∧ (0 : Int) = (0 : Int)) ∧ (true = true ∧ (bif ilt (Int.ofNat (List.length s) + (1 : Int)) (Int.ofNat (Lib.countByte s (UInt8.ofNat 10)) + (1 : Int)) then Int.ofNat (List.length s) + (1 : Int) else Int.ofNat (Lib.countByte s (UInt8.ofNat 10)) + (1 : Int)) - (1 : Int) = (bif ilt (Int.ofNat (List.length s) + (1 : Int)) (Int.ofNat (Lib.countByte s (UInt8.ofNat 10)) + (1 : Int)) then Int.ofNat (List.length s) + (1 : Int) else Int.ofNat (Lib.countByte s (UInt8.ofNat 10)) + (1 : Int)) - (1 : Int)) ∧ (some 2 = some 2 ∧ Int.toNat (bif ilt (Int.ofNat (List.length s) + (1 : Int)) (Int.ofNat (Lib.countByte s (UInt8.ofNat 10)) + (1 : Int)) then Int.ofNat (List.length s) + (1 : Int) else Int.ofNat (Lib.countByte s (UInt8.ofNat 10)) + (1 : Int)) = Int.toNat (bif ilt (Int.ofNat (List.length s) + (1 : Int)) (Int.ofNat (Lib.countByte s (UInt8.ofNat 10)) + (1 : Int)) then Int.ofNat (List.length s) + (1 : Int) else Int.ofNat (Lib.countByte s (UInt8.ofNat 10)) + (1 : Int)) ∧ true = true) ∧ True
@[reducible] def BlE_runSpl_k1 : List UInt8 → Prop := fun (s : List UInt8) => ((bif ilt (Int.ofNat (List.length s) + (1 : Int)) (Int.ofNat (Lib.countByte s (UInt8.ofNat 10)) + (1 : Int)) then Int.ofNat (List.length s) + (1 : Int) else Int.ofNat (Lib.countByte s (UInt8.ofNat 10)) + (1 : Int)) ≤ bif ilt (Int.ofNat (List.length s) + (1 : Int)) (Int.ofNat (Lib.countByte s (UInt8.ofNat 10)) + (1 : Int)) then Int.ofNat (List.length s) + (1 : Int) else Int.ofNat (Lib.countByte s (UInt8.ofNat 10)) + (1 : Int)) ∧ (bif ilt (Int.ofNat (List.length s) + (1 : Int)) (Int.ofNat (Lib.countByte s (UInt8.ofNat 10)) + (1 : Int)) then Int.ofNat (List.length s) + (1 : Int) else Int.ofNat (Lib.countByte s (UInt8.ofNat 10)) + (1 : Int)) ≤ (9223372036854775807 : Int) ∧ ((↑16 : Int) * bif ilt (Int.ofNat (List.length s) + (1 : Int)) (Int.ofNat (Lib.countByte s (UInt8.ofNat 10)) + (1 : Int)) then Int.ofNat (List.length s) + (1 : Int) else Int.ofNat (Lib.countByte s (UInt8.ofNat 10)) + (1 : Int)) ≤ (281474976710656 : Int)
@[reducible] def BlE_runSpl_k2 : List UInt8 → Prop := fun (s : List UInt8) => (bif ilt (Int.ofNat (List.length s) + (1 : Int)) (Int.ofNat (Lib.countByte s (UInt8.ofNat 10)) + (1 : Int)) then Int.ofNat (List.length s) + (1 : Int) else Int.ofNat (Lib.countByte s (UInt8.ofNat 10)) + (1 : Int)) ≤ (9223372036854775807 : Int) ∧ ((↑16 : Int) * bif ilt (Int.ofNat (List.length s) + (1 : Int)) (Int.ofNat (Lib.countByte s (UInt8.ofNat 10)) + (1 : Int)) then Int.ofNat (List.length s) + (1 : Int) else Int.ofNat (Lib.countByte s (UInt8.ofNat 10)) + (1 : Int)) ≤ (281474976710656 : Int)
theorem runSpl_r : ∀ (s : List UInt8), Nat.le (List.length s) 1000000 → sdA (inR IntKind.i64 (Int.ofNat (Lib.countByte s (UInt8.ofNat 10)) + (1 : Int))) (sdA (inR IntKind.i64 (Int.ofNat (List.length s) + (1 : Int))) (sdA (decide (((0 : Int) ≤ bif ilt (Int.ofNat (List.length s) + (1 : Int)) (Int.ofNat (Lib.countByte s (UInt8.ofNat 10)) + (1 : Int)) then Int.ofNat (List.length s) + (1 : Int) else Int.ofNat (Lib.countByte s (UInt8.ofNat 10)) + (1 : Int)) ∧ BlE_runSpl_k1 s)) (sdA (inR IntKind.i64 ((bif ilt (Int.ofNat (List.length s) + (1 : Int)) (Int.ofNat (Lib.countByte s (UInt8.ofNat 10)) + (1 : Int)) then Int.ofNat (List.length s) + (1 : Int) else Int.ofNat (Lib.countByte s (UInt8.ofNat 10)) + (1 : Int)) - (1 : Int))) ((∃ (x0 : Nat × List UInt8), SpK s x0 ∧ true = true ∧ (s = x0.2 ∧ (true = true ∧ (0 : Int) = (↑x0.1 : Int)) ∧ BlE_runSpl_k0 s) ∧ (true = true ∧ true = true ∧ true = true ∧ true = true ∧ Int.toNat (bif ilt (Int.ofNat (List.length s) + (1 : Int)) (Int.ofNat (Lib.countByte s (UInt8.ofNat 10)) + (1 : Int)) then Int.ofNat (List.length s) + (1 : Int) else Int.ofNat (Lib.countByte s (UInt8.ofNat 10)) + (1 : Int)) * 1 = List.length (splB s) ∧ AllI fun (i : Nat) => Nat.le (Nat.succ (i * 1)) (Int.toNat (bif ilt (Int.ofNat (List.length s) + (1 : Int)) (Int.ofNat (Lib.countByte s (UInt8.ofNat 10)) + (1 : Int)) then Int.ofNat (List.length s) + (1 : Int) else Int.ofNat (Lib.countByte s (UInt8.ofNat 10)) + (1 : Int)) * 1) → ([] = bif Nat.blt i x0.1 then List.getD (splB s) i [] else []) ∧ True) ∧ True) ∧ ∀ (x : Nat × List UInt8), SpK s x → brP (ilt (↑x.1 : Int) ((bif ilt (Int.ofNat (List.length s) + (1 : Int)) (Int.ofNat (Lib.countByte s (UInt8.ofNat 10)) + (1 : Int)) then Int.ofNat (List.length s) + (1 : Int) else Int.ofNat (Lib.countByte s (UInt8.ofNat 10)) + (1 : Int)) - (1 : Int))) (brP (decide ([(10 : UInt8)] = x.2)) (sdA (inB (↑x.1 : Int) (Int.toNat (bif ilt (Int.ofNat (List.length s) + (1 : Int)) (Int.ofNat (Lib.countByte s (UInt8.ofNat 10)) + (1 : Int)) then Int.ofNat (List.length s) + (1 : Int) else Int.ofNat (Lib.countByte s (UInt8.ofNat 10)) + (1 : Int)))) (sdA (bif Nat.ble (0 + List.length [AV.bs (List.take 0 x.2)]) (List.length (lnF (splB s) x.1 (Int.toNat (↑x.1 : Int)))) then Nat.ble (Int.toNat (↑x.1 : Int) * 1 + 0 + List.length [AV.bs (List.take 0 x.2)]) (List.length (splB s)) else false) (sdA (inL (1 : Int) (List.length x.2)) (sdA (inR IntKind.i64 ((↑x.1 : Int) + (1 : Int))) (∃ (x' : Nat × List UInt8), SpK s x' ∧ Nat.le (Nat.succ (List.length (splB s) - x'.1)) (List.length (splB s) - x.1) ∧ true = true ∧ (List.drop 1 x.2 = x'.2 ∧ (true = true ∧ (↑x.1 : Int) + (1 : Int) = (↑x'.1 : Int)) ∧ BlE_runSpl_k0 s) ∧ (true = true ∧ true = true ∧ true = true ∧ true = true ∧ List.length (splB s) = List.length (splB s) ∧ AllI fun (i : Nat) => Nat.le (Nat.succ (i * 1)) (List.length (splB s)) → vmL [(2, 2), (0, 0)] (lnF (splB s) x'.1 i) (updRow (lnF (splB s) x.1) (Int.toNat (↑x.1 : Int)) 0 [AV.bs (List.take 0 x.2)] i)) ∧ True))))) (brP (ilt (Lib.indexByte x.2 (UInt8.ofNat 10)) (0 : Int)) (sdA (inB (↑x.1 : Int) (Int.toNat (bif ilt (Int.ofNat (List.length s) + (1 : Int)) (Int.ofNat (Lib.countByte s (UInt8.ofNat 10)) + (1 : Int)) then Int.ofNat (List.length s) + (1 : Int) else Int.ofNat (Lib.countByte s (UInt8.ofNat 10)) + (1 : Int)))) (sdA (bif Nat.ble (0 + List.length [AV.bs x.2]) (List.length (lnF (splB s) x.1 (Int.toNat (↑x.1 : Int)))) then Nat.ble (Int.toNat (↑x.1 : Int) * 1 + 0 + List.length [AV.bs x.2]) (List.length (splB s)) else false) (sdA (inR IntKind.i64 ((↑x.1 : Int) + (1 : Int))) (sdA (inL ((↑x.1 : Int) + (1 : Int)) (Int.toNat (bif ilt (Int.ofNat (List.length s) + (1 : Int)) (Int.ofNat (Lib.countByte s (UInt8.ofNat 10)) + (1 : Int)) then Int.ofNat (List.length s) + (1 : Int) else Int.ofNat (Lib.countByte s (UInt8.ofNat 10)) + (1 : Int)))) (sdA (bif Nat.ble (Int.toNat ((↑x.1 : Int) + (1 : Int)) * 1) (List.length (splB s)) then goodR 1 (Int.toNat ((↑x.1 : Int) + (1 : Int))) (updRow (lnF (splB s) x.1) (Int.toNat (↑x.1 : Int)) 0 [AV.bs x.2]) else false) ((true = true ∧ Int.toNat ((↑x.1 : Int) + (1 : Int)) = List.length (splB s) ∧ AllI fun (i : Nat) => Nat.le (Nat.succ i) (Int.toNat ((↑x.1 : Int) + (1 : Int))) → vmL [] [AV.bs (List.getD (splB s) i [])] (updRow (lnF (splB s) x.1) (Int.toNat (↑x.1 : Int)) 0 [AV.bs x.2] i)) ∧ True)))))) (sdA (inR IntKind.i64 (Lib.indexByte x.2 (UInt8.ofNat 10) + (0 : Int))) (sdA (bif inL (Lib.indexByte x.2 (UInt8.ofNat 10) + (0 : Int)) (List.length x.2) then true else false) (sdA (inB (↑x.1 : Int) (Int.toNat (bif ilt (Int.ofNat (List.length s) + (1 : Int)) (Int.ofNat (Lib.countByte s (UInt8.ofNat 10)) + (1 : Int)) then Int.ofNat (List.length s) + (1 : Int) else Int.ofNat (Lib.countByte s (UInt8.ofNat 10)) + (1 : Int)))) (sdA (bif Nat.ble (0 + List.length [AV.bs (List.take (Int.toNat (Lib.indexByte x.2 (UInt8.ofNat 10) + (0 : Int))) x.2)]) (List.length (lnF (splB s) x.1 (Int.toNat (↑x.1 : Int)))) then Nat.ble (Int.toNat (↑x.1 : Int) * 1 + 0 + List.length [AV.bs (List.take (Int.toNat (Lib.indexByte x.2 (UInt8.ofNat 10) + (0 : Int))) x.2)]) (List.length (splB s)) else false) (sdA (inR IntKind.i64 (Lib.indexByte x.2 (UInt8.ofNat 10) + (1 : Int))) (sdA (inL (Lib.indexByte x.2 (UInt8.ofNat 10) + (1 : Int)) (List.length x.2)) (sdA (inR IntKind.i64 ((↑x.1 : Int) + (1 : Int))) (∃ (x' : Nat × List UInt8), SpK s x' ∧ Nat.le (Nat.succ (List.length (splB s) - x'.1)) (List.length (splB s) - x.1) ∧ true = true ∧ (List.drop (Int.toNat (Lib.indexByte x.2 (UInt8.ofNat 10) + (1 : Int))) x.2 = x'.2 ∧ (true = true ∧ (↑x.1 : Int) + (1 : Int) = (↑x'.1 : Int)) ∧ BlE_runSpl_k0 s) ∧ (true = true ∧ true = true ∧ true = true ∧ true = true ∧ List.length (splB s) = List.length (splB s) ∧ AllI fun (i : Nat) => Nat.le (Nat.succ (i * 1)) (List.length (splB s)) → vmL [(2, 2), (0, 0)] (lnF (splB s) x'.1 i) (updRow (lnF (splB s) x.1) (Int.toNat (↑x.1 : Int)) 0 [AV.bs (List.take (Int.toNat (Lib.indexByte x.2 (UInt8.ofNat 10) + (0 : Int))) x.2)] i)) ∧ True)))))))))) (sdA (inB (↑x.1 : Int) (Int.toNat (bif ilt (Int.ofNat (List.length s) + (1 : Int)) (Int.ofNat (Lib.countByte s (UInt8.ofNat 10)) + (1 : Int)) then Int.ofNat (List.length s) + (1 : Int) else Int.ofNat (Lib.countByte s (UInt8.ofNat 10)) + (1 : Int)))) (sdA (bif Nat.ble (0 + List.length [AV.bs x.2]) (List.length (lnF (splB s) x.1 (Int.toNat (↑x.1 : Int)))) then Nat.ble (Int.toNat (↑x.1 : Int) * 1 + 0 + List.length [AV.bs x.2]) (List.length (splB s)) else false) (sdA (inR IntKind.i64 ((↑x.1 : Int) + (1 : Int))) (sdA (inL ((↑x.1 : Int) + (1 : Int)) (Int.toNat (bif ilt (Int.ofNat (List.length s) + (1 : Int)) (Int.ofNat (Lib.countByte s (UInt8.ofNat 10)) + (1 : Int)) then Int.ofNat (List.length s) + (1 : Int) else Int.ofNat (Lib.countByte s (UInt8.ofNat 10)) + (1 : Int)))) (sdA (bif Nat.ble (Int.toNat ((↑x.1 : Int) + (1 : Int)) * 1) (List.length (splB s)) then goodR 1 (Int.toNat ((↑x.1 : Int) + (1 : Int))) (updRow (lnF (splB s) x.1) (Int.toNat (↑x.1 : Int)) 0 [AV.bs x.2]) else false) ((true = true ∧ Int.toNat ((↑x.1 : Int) + (1 : Int)) = List.length (splB s) ∧ AllI fun (i : Nat) => Nat.le (Nat.succ i) (Int.toNat ((↑x.1 : Int) + (1 : Int))) → vmL [] [AV.bs (List.getD (splB s) i [])] (updRow (lnF (splB s) x.1) (Int.toNat (↑x.1 : Int)) 0 [AV.bs x.2] i)) ∧ True))))))))))
:= by
 intro s hl
 have hl : s.length ≤ 1000000 := hl
 have hC : Lib.countByte s (UInt8.ofNat 10) ≤ s.length := List.count_le_length
 have hM := spl_len s
 obtain ⟨C, eC⟩ : ∃ C, Lib.countByte s (UInt8.ofNat 10) = C := ⟨_, rfl⟩
 rw [eC] at hC hM
 have hcb : ilt ((s.length : Int) + 1) ((C : Int) + 1) = false := ilt_iffn.2 (by omega)
 simp only [barr_eq, bar_eq, true_and, and_true, eq_self, implies_true, Nat.le_eq, cond_tf, cond_cf, nif_tf, Int.toNat_natCast, Int.ofNat_eq_natCast, Nat.ble_eq, Nat.ble_self_eq_true, Bool.true_and, Bool.and_true, Bool.and_self, Option.some.injEq, AV.int.injEq, rowB_self, allBR_self, Nat.mul_one, Nat.beq_refl, allI_true, cond_true, cond_false, ieq_self, Bool.not_true, Bool.not_false, decide_true, brP_f, brP_t, sdA_t, bytesL_packL, List.nil_append, BlE_runSpl_k0, BlE_runSpl_k1, BlE_runSpl_k2]
 simp only [eC, hcb, cond_false, toNat_succ]
 refine sdA_of (inR_i64.2 ⟨by omega, by omega⟩) (sdA_of (inR_i64.2 ⟨by omega, by omega⟩) (sdA_of (decide_eq_true ⟨by omega, by omega, by omega, by omega⟩) (sdA_of (inR_i64.2 ⟨by omega, by omega⟩) ⟨⟨(0, s), SpK.zero s, ⟨rfl, rfl⟩, hM.symm, ⟨fun i _ => rfl⟩⟩, fun x hx => ?_⟩)))
 have hx1 := hx.le
 have hin : inB (x.1 : Int) (C + 1) = true := inB_iff.2 ⟨by omega, by omega⟩
 have hR : inR .i64 ((x.1 : Int) + 1) = true := inR_i64.2 ⟨by omega, by omega⟩
 have hst : ∀ t : List UInt8, ((0 + [AV.bs t].length).ble (lnF (splB s) x.1 x.1).length && (x.1 + 0 + [AV.bs t].length).ble (splB s).length) = true := fun t => by
  rw [show Nat.ble (0 + [AV.bs t].length) (lnF (splB s) x.1 x.1).length = true from rfl, Bool.true_and]
  exact Nat.ble_eq_true_of_le (by show x.1 + 0 + 1 ≤ _; omega)
 refine brP_of (fun h => ?_) (fun h => ?_)
 ·have hlt : x.1 < C := by have h' : (x.1 : Int) < (C : Int) + 1 - 1 := ilt_iff.1 h; omega
  refine brP_of (fun h2 => ?_) (fun h2 => brP_of (fun h3 => ?_) (fun h3 => ?_))
  ·have e : x.2 = [10] := (of_decide_eq_true h2).symm
   have hi0 : Lib.indexByte x.2 (UInt8.ofNat 10) = 0 := by rw [e]; rfl
   obtain ⟨a1, a2, a3⟩ := hx.more (by omega)
   rw [hi0, show Int.toNat 0 = 0 from rfl] at a1 a2 a3
   refine sdA_of hin (sdA_of (hst _) (sdA_of (inL_iff.2 ⟨by omega, by rw [e]; simp⟩) (sdA_of hR ⟨(x.1 + 1, x.2.drop 1), a2, by omega, ⟨rfl, by simp⟩, ⟨fun i hi => ?_⟩⟩)))
   rw [upd_ln _ _ _ a1]
   exact ⟨rfl, trivial⟩
  ·have := (hx.last (ilt_iff.1 h3)).2
   omega
  ·have hm : 0 ≤ Lib.indexByte x.2 (UInt8.ofNat 10) := ilt_iffn.1 h3
   obtain ⟨a1, a2, a3⟩ := hx.more hm
   obtain ⟨m, em⟩ : ∃ m : Nat, Lib.indexByte x.2 (UInt8.ofNat 10) = (m : Int) := ⟨_, (Int.toNat_of_nonneg hm).symm⟩
   have hln := hx.ln
   rw [em] at a1 a2 a3 ⊢
   have a3' : m < x.2.length := a3
   refine sdA_of (inR_i64.2 ⟨by omega, by omega⟩) (sdA_of (inL_iff.2 ⟨by omega, by omega⟩) (sdA_of hin (sdA_of (hst _) (sdA_of (inR_i64.2 ⟨by omega, by omega⟩) (sdA_of (inL_iff.2 ⟨by omega, by omega⟩) (sdA_of hR ⟨(x.1 + 1, x.2.drop (m + 1)), a2, by omega, ⟨rfl, by simp⟩, ⟨fun i hi => ?_⟩⟩))))))
   rw [upd_ln _ _ _ (by rw [Int.add_zero]; exact a1)]
   exact ⟨rfl, trivial⟩
 ·have hge : x.1 + 1 = (splB s).length := by have h' : (C : Int) + 1 - 1 ≤ (x.1 : Int) := ilt_iffn.1 h; omega
  have he := hx.end_ hge
  exact sdA_of hin (sdA_of (hst _) (sdA_of hR (sdA_of (inL_iff.2 ⟨by omega, by omega⟩) (sdA_of (by rw [show Nat.ble (x.1 + 1) (splB s).length = true from Nat.ble_eq_true_of_le (by omega), Bool.true_and]; exact goodR_of fun i hi => by rw [upd_ln _ _ _ he, ln_at hi]; rfl) ⟨by omega, ⟨fun i hi => by rw [upd_ln _ _ _ he, ln_at hi]; exact ⟨rfl, trivial⟩⟩⟩))))
theorem runSpl_b : ∀ s : List UInt8, s.length ≤ 1000000 → (cRun (cxL [] [(32, 11, SSp s)] []) 60).call 18 [.bs s, .str 1 10] .leaf 0 (ResP Tryz.prog false (.vec 1 (splB s).length (rT (splB s)))) :=
 Eq.mpr (by kernel_rfl) runSpl_r
theorem runSpl : ∀ s : List UInt8, s.length ≤ 1000000 → (cRun (cxL [] [(32, 11, SSp s)] []) 60).call 18 [.bs s, .str 1 10] .leaf 0 (ResM Tryz.prog false (.vec 1 (splB s).length (rT (splB s)))) := by
 intros
 rw [← resP_eq]
 apply runSpl_b <;> assumption
end Go.Proofs.YtenbcoedkeddgaaGreatDoor
end
section
set_option maxRecDepth 100000
open Go Go.Ev
namespace Go.Proofs.YtenbcoedkeddgaaGreatDoor
noncomputable def eSpl : Tr AObj → List AV → Option Ct := fun _ args => match args with
 | [.bs s, .str 1 10] => some (.need (s.length ≤ 1000000) (.ret (.vec 1 (splB s).length (rT (splB s)))))
 | _ => none
structure OfP (s : List UInt8) (x : Nat × Txs) : Prop where
 le : x.1 ≤ (splB s).length
 eq : ((splB s).take x.1).foldl stepP (some []) = some x.2
 ln : x.2.length ≤ x.1
 sm : ∀ y ∈ x.2, y.length ≤ s.length
noncomputable def SOfP (s : List UInt8) : Stn := { X := Nat × Txs, T := fun st _ x => [(4, .slg st.nx x.2.length 1), (19, .int .i64 x.1)] ++ keepT st [17, 18], H := fun st n0 x => (st.nx, .cells 9 .leaf (.rows 1 (rT x.2)) x.2.length true) :: keepH st n0, nx := fun st _ => st.nx + 1, I := fun _ => OfP s, m := fun x => (splB s).length - x.1 }
noncomputable def COf (s : List UInt8) : Stn := thin Unit [0, 4] (fun _ => []) (fun _ _ => s = [] ∨ endsN s = true) fun _ => 0
noncomputable def tbO : Tbl := [(10, eMay), (20, eLst), (18, eSpl)]
theorem ofR_bad {s : List UInt8} (h1 : s ≠ []) (h2 : endsN s = false) : ofR s = ([], 12) := by
 rw [← of_eq]
 unfold ofP
 rw [if_pos ⟨h1, h2⟩]
theorem split_mem : ∀ (s l : List UInt8), l ∈ splitL s → l.length ≤ s.length
 | [], l, h => by
  rw [show splitL [] = [[]] from rfl, List.mem_singleton] at h
  subst h; exact Nat.le_refl _
 | b :: t, l, h => by
  rw [splitL_cons] at h
  by_cases hb : b = 10
  ·rw [if_pos hb] at h
   rcases List.mem_cons.1 h with rfl | h
   ·exact Nat.zero_le _
   ·exact Nat.le_succ_of_le (split_mem t l h)
  ·rw [if_neg hb] at h
   obtain ⟨a, r, e⟩ : ∃ a r, splitL t = a :: r := List.exists_cons_of_ne_nil (split_ne t)
   rw [e] at h
   rcases List.mem_cons.1 h with rfl | h
   ·exact Nat.succ_le_succ (split_mem t a (by rw [e]; exact List.mem_cons_self ..))
   ·exact Nat.le_succ_of_le (split_mem t l (by rw [e]; exact List.mem_cons_of_mem _ h))
theorem spl_mem {s l : List UInt8} (h : l ∈ splB s) : l.length ≤ s.length := by
 unfold splB at h
 rw [barr_eq] at h
 exact split_mem s l h
noncomputable def lnAt (s : List UInt8) (k : Nat) : List UInt8 := (splB s).getD k []
theorem lnAt_len {s : List UInt8} {k : Nat} (h : k < (splB s).length) : (lnAt s k).length ≤ s.length := spl_mem (getD_memT h)
theorem OfP.zero (s : List UInt8) : OfP s (0, []) := ⟨Nat.zero_le _, rfl, Nat.le_refl _, fun _ h => by cases h⟩
theorem OfP.next {s : List UInt8} {x : Nat × Txs} (h : OfP s x) (hk : x.1 < (splB s).length) : ((splB s).take (x.1 + 1)).foldl stepP (some []) = stepP (some x.2) (lnAt s x.1) := by
 rw [take_succE (splB s) [] x.1 hk, List.foldl_append, h.eq]; rfl
theorem OfP.skip {s : List UInt8} {x : Nat × Txs} (h : OfP s x) (hk : x.1 < (splB s).length) (hs : lnAt s x.1 = [] ∨ (lnAt s x.1).getD 0 0 = 35) : OfP s (x.1 + 1, x.2) :=
 ⟨hk, (h.next hk).trans (if_pos hs), Nat.le_succ_of_le h.ln, h.sm⟩
theorem OfP.put {s : List UInt8} {x : Nat × Txs} (h : OfP s x) (hk : x.1 < (splB s).length) (hs : ¬ (lnAt s x.1 = [] ∨ (lnAt s x.1).getD 0 0 = 35)) (hb : ¬ lineBad (lnAt s x.1) = true) : OfP s (x.1 + 1, x.2 ++ [(lnAt s x.1).drop 6]) :=
 ⟨hk, (h.next hk).trans ((if_neg hs).trans (if_neg hb)), by have := h.ln; simp; omega, fun y hy => by
  rcases List.mem_append.1 hy with hy | hy
  ·exact h.sm y hy
  ·rw [List.mem_singleton.1 hy]
   have := lnAt_len hk
   simp; omega⟩
theorem OfP.bad {s : List UInt8} {x : Nat × Txs} (hg : s = [] ∨ endsN s = true) (h : OfP s x) (hk : x.1 < (splB s).length) (hs : ¬ (lnAt s x.1 = [] ∨ (lnAt s x.1).getD 0 0 = 35)) (hb : lineBad (lnAt s x.1) = true) : ofR s = ([], 12) := by
 have h1 : ((splB s).take (x.1 + 1)).foldl stepP (some []) = none := (h.next hk).trans ((if_neg hs).trans (if_pos hb))
 have h2 : (splB s).foldl stepP (some []) = none := by
  rw [← List.take_append_drop (x.1 + 1) (splB s), List.foldl_append, h1, step_none]
 rw [← of_eq]
 unfold ofP
 unfold splB at h2
 rw [barr_eq] at h2
 rw [h2, if_neg (by rintro ⟨h3, h4⟩; rcases hg with hg | hg; exact h3 hg; rw [hg] at h4; cases h4)]
theorem OfP.end_ {s : List UInt8} {x : Nat × Txs} (hg : s = [] ∨ endsN s = true) (h : OfP s x) (hk : x.1 = (splB s).length) : ofR s = (lstL x.2, 0) := by
 have h2 := h.eq
 rw [hk, List.take_length] at h2
 unfold splB at h2
 rw [barr_eq] at h2
 rw [← of_eq]
 unfold ofP
 rw [h2, if_neg (by rintro ⟨h3, h4⟩; rcases hg with hg | hg; exact h3 hg; rw [hg] at h4; cases h4)]
theorem runOfP_r : ∀ (s : List UInt8), Nat.le (List.length s) 900000 → brP (!decide (s = [])) (brP (!ilt (Int.ofNat (List.length s)) (1 : Int)) (sdA (inR IntKind.i64 (Int.ofNat (List.length s) - (1 : Int))) (sdA (inL (Int.ofNat (List.length s) - (1 : Int)) (List.length s)) (brP (!decide (List.drop (Int.toNat (Int.ofNat (List.length s) - (1 : Int))) s = [(10 : UInt8)])) ((List.length (Prod.fst (barr (ofR s))) = 0 ∧ (true = true ∧ (12 : Int) = Prod.snd (barr (ofR s))) ∧ True) ∧ True) (∃ (x : Unit), (s = [] ∨ endsN s = true) ∧ true = true ∧ (s = s ∧ True ∧ True) ∧ True)))) ((List.length (Prod.fst (barr (ofR s))) = 0 ∧ (true = true ∧ (12 : Int) = Prod.snd (barr (ofR s))) ∧ True) ∧ True)) (∃ (x : Unit), (s = [] ∨ endsN s = true) ∧ true = true ∧ (s = s ∧ True ∧ True) ∧ True) ∧ ∀ (x : Unit), s = [] ∨ endsN s = true → (∃ (x : Unit), (s = [] ∨ endsN s = true) ∧ true = true ∧ (s = s ∧ True ∧ True) ∧ True) ∧ ∀ (x : Unit), s = [] ∨ endsN s = true → Nat.le (List.length s) 1000000 ∧ (∃ (x0 : Nat × Txs), OfP s x0 ∧ true = true ∧ (List.length x0.2 = 0 ∧ (true = true ∧ (0 : Int) = (↑x0.1 : Int)) ∧ (true = true ∧ List.length (splB s) = List.length (splB s) ∧ AllI fun (i : Nat) => Nat.le (Nat.succ i) (List.length (splB s)) → List.getD (splB s) i [] = List.getD (splB s) i [] ∧ True) ∧ (true = true ∧ Int.ofNat (List.length (splB s)) = Int.ofNat (List.length (splB s))) ∧ True) ∧ (true = true ∧ True) ∧ True) ∧ ∀ (x : Nat × Txs), OfP s x → brP (ilt (↑x.1 : Int) (Int.ofNat (List.length (splB s)))) (sdA (inB (↑x.1 : Int) (List.length (splB s))) (brP (decide (List.getD (splB s) (Int.toNat (↑x.1 : Int)) ([] : List UInt8) = [])) (sdA (inR IntKind.i64 ((↑x.1 : Int) + (1 : Int))) (∃ (x' : Nat × Txs), OfP s x' ∧ Nat.le (Nat.succ (List.length (splB s) - x'.1)) (List.length (splB s) - x.1) ∧ true = true ∧ ((some 2 = some 2 ∧ List.length x.2 = List.length x'.2 ∧ true = true) ∧ (true = true ∧ (↑x.1 : Int) + (1 : Int) = (↑x'.1 : Int)) ∧ (true = true ∧ List.length (splB s) = List.length (splB s) ∧ AllI fun (i : Nat) => Nat.le (Nat.succ i) (List.length (splB s)) → List.getD (splB s) i [] = List.getD (splB s) i [] ∧ True) ∧ (true = true ∧ Int.ofNat (List.length (splB s)) = Int.ofNat (List.length (splB s))) ∧ True) ∧ (true = true ∧ true = true ∧ true = true ∧ true = true ∧ List.length x.2 = List.length x'.2 ∧ AllI fun (i : Nat) => Nat.le (Nat.succ (i * 1)) (List.length x.2) → List.getD x.2 i [] = List.getD x'.2 i [] ∧ True) ∧ True)) (sdA (inB (0 : Int) (List.length (List.getD (splB s) (Int.toNat (↑x.1 : Int)) []))) (brP (ieq (↑(UInt8.toNat (List.getD (List.getD (splB s) (Int.toNat (↑x.1 : Int)) []) 0 (0 : UInt8))) : Int) (35 : Int)) (sdA (inR IntKind.i64 ((↑x.1 : Int) + (1 : Int))) (∃ (x' : Nat × Txs), OfP s x' ∧ Nat.le (Nat.succ (List.length (splB s) - x'.1)) (List.length (splB s) - x.1) ∧ true = true ∧ ((some 2 = some 2 ∧ List.length x.2 = List.length x'.2 ∧ true = true) ∧ (true = true ∧ (↑x.1 : Int) + (1 : Int) = (↑x'.1 : Int)) ∧ (true = true ∧ List.length (splB s) = List.length (splB s) ∧ AllI fun (i : Nat) => Nat.le (Nat.succ i) (List.length (splB s)) → List.getD (splB s) i [] = List.getD (splB s) i [] ∧ True) ∧ (true = true ∧ Int.ofNat (List.length (splB s)) = Int.ofNat (List.length (splB s))) ∧ True) ∧ (true = true ∧ true = true ∧ true = true ∧ true = true ∧ List.length x.2 = List.length x'.2 ∧ AllI fun (i : Nat) => Nat.le (Nat.succ (i * 1)) (List.length x.2) → List.getD x.2 i [] = List.getD x'.2 i [] ∧ True) ∧ True)) (brP (!ilt (Int.ofNat (List.length (List.getD (splB s) (Int.toNat (↑x.1 : Int)) []))) (6 : Int)) (sdA (bif inL (6 : Int) (List.length (List.getD (splB s) (Int.toNat (↑x.1 : Int)) [])) then true else false) (brP (!decide (List.take 6 (List.getD (splB s) (Int.toNat (↑x.1 : Int)) []) = [(97 : UInt8), (108 : UInt8), (108 : UInt8), (111 : UInt8), (119 : UInt8), (32 : UInt8)])) ((List.length (Prod.fst (barr (ofR s))) = 0 ∧ (true = true ∧ (12 : Int) = Prod.snd (barr (ofR s))) ∧ True) ∧ True) (sdA (inL (6 : Int) (List.length (List.getD (splB s) (Int.toNat (↑x.1 : Int)) []))) (Nat.le (List.length (List.drop 6 (List.getD (splB s) (Int.toNat (↑x.1 : Int)) []))) 1000000 ∧ brP (!bar (mayL (List.drop 6 (List.getD (splB s) (Int.toNat (↑x.1 : Int)) [])))) ((List.length (Prod.fst (barr (ofR s))) = 0 ∧ (true = true ∧ (12 : Int) = Prod.snd (barr (ofR s))) ∧ True) ∧ True) (sdA (bif bif Nat.ble (List.length x.2 * 1) (List.length x.2) then true else false then decide (List.length x.2 + 1 ≤ 9223372036854775807 ∧ (List.length x.2 + 1) * 16 ≤ 140737488355328) else false) (sdA (inR IntKind.i64 ((↑x.1 : Int) + (1 : Int))) (∃ (x' : Nat × Txs), OfP s x' ∧ Nat.le (Nat.succ (List.length (splB s) - x'.1)) (List.length (splB s) - x.1) ∧ true = true ∧ ((some 9 = some 9 ∧ List.length x.2 + 1 = List.length x'.2 ∧ true = true) ∧ (true = true ∧ (↑x.1 : Int) + (1 : Int) = (↑x'.1 : Int)) ∧ (true = true ∧ List.length (splB s) = List.length (splB s) ∧ AllI fun (i : Nat) => Nat.le (Nat.succ i) (List.length (splB s)) → List.getD (splB s) i [] = List.getD (splB s) i [] ∧ True) ∧ (true = true ∧ Int.ofNat (List.length (splB s)) = Int.ofNat (List.length (splB s))) ∧ True) ∧ (true = true ∧ true = true ∧ true = true ∧ true = true ∧ (List.length x.2 + 1) * 1 = List.length x'.2 ∧ AllI fun (i : Nat) => Nat.le (Nat.succ (i * 1)) ((List.length x.2 + 1) * 1) → vmL [(2, 9)] [AV.bs (List.getD x'.2 i [])] (appF (List.length x.2) (fun (i : Nat) => [AV.bs (List.getD x.2 i [])]) (fun (x_1 : Nat) => [AV.bs (List.drop 6 (List.getD (splB s) (Int.toNat (↑x.1 : Int)) []))]) i)) ∧ True))))))) ((List.length (Prod.fst (barr (ofR s))) = 0 ∧ (true = true ∧ (12 : Int) = Prod.snd (barr (ofR s))) ∧ True) ∧ True)))))) (sdA (bif bif Nat.ble (List.length x.2 * 1) (List.length x.2) then goodR 1 (List.length x.2) fun (i : Nat) => [AV.bs (List.getD x.2 i [])] else false then true else false) (sdA (bif bif bif bif bif Nat.beq (List.length x.2) (List.length x.2) then true else false then true else false then true else false then true else false then bif bif Nat.beq (List.length x.2) (List.length x.2) then true else false then true else false else false) ((decide (∀ (i : Nat), i < List.length x.2 → true = true) = true ∧ Nat.le (List.length x.2) 1000000 ∧ ∀ (s : List UInt8), List.Mem s (List.map (fun (i : Nat) => List.getD x.2 i []) (List.range (List.length x.2))) → Nat.le (List.length s) 1000000) ∧ ((true = true ∧ List.length (barr (lstL (List.map (fun (i : Nat) => List.getD x.2 i []) (List.range (List.length x.2))))) = List.length (Prod.fst (barr (ofR s))) ∧ AllI fun (i : Nat) => Nat.le (Nat.succ i) (List.length (barr (lstL (List.map (fun (i : Nat) => List.getD x.2 i []) (List.range (List.length x.2)))))) → List.getD (barr (lstL (List.map (fun (i : Nat) => List.getD x.2 i []) (List.range (List.length x.2))))) i [] = List.getD (Prod.fst (barr (ofR s))) i [] ∧ True) ∧ (true = true ∧ (0 : Int) = Prod.snd (barr (ofR s))) ∧ True) ∧ True)))
:= by
 intro s hl9
 have hl9 : s.length ≤ 900000 := hl9
 have hl : s.length ≤ 1000000 := by omega
 simp only [barr_eq, bar_eq, true_and, and_true, eq_self, implies_true, Nat.le_eq, cond_tf, cond_cf, nif_tf, Int.toNat_natCast, Int.ofNat_eq_natCast, Nat.ble_eq, Nat.ble_self_eq_true, Bool.true_and, Bool.and_true, Bool.and_self, Option.some.injEq, AV.int.injEq, rowB_self, allBR_self, Nat.mul_one, Nat.beq_refl, allI_true, cond_true, cond_false, ieq_self, Bool.not_true, Bool.not_false, decide_true, brP_f, brP_t, sdA_t, bytesL_packL, List.nil_append]
 simp only [rowTx_map]
 refine ⟨brP_of (fun h1 => brP_of (fun h2 => ?_) (fun h2 => ?_)) (fun h1 => ⟨(), .inl (ndec_f h1)⟩), fun _ hg0 => ⟨⟨(), hg0⟩, fun _ hg => ⟨hl, ⟨(0, []), OfP.zero s, rfl, rfl⟩, fun x hx => brP_of (fun h => ?_) (fun h => ?_)⟩⟩⟩
 ·have h2' := nlt_t h2
  have ht : ((s.length : Int) - 1).toNat = s.length - 1 := by omega
  refine sdA_of (inR_i64.2 ⟨by omega, by omega⟩) (sdA_of (inL_iff.2 ⟨by omega, by omega⟩) (brP_of (fun h3 => ?_) (fun h3 => ⟨(), .inr ?_⟩)))
  ·have h3' := ndec_t h3
   rw [ht] at h3'
   rw [ofR_bad (ndec_t h1) (decide_eq_false h3')]
   exact ⟨rfl, rfl⟩
  ·have h3' := ndec_f h3
   rw [ht] at h3'
   exact decide_eq_true h3'
 ·have h2' := nlt_f h2
  exact absurd (List.length_eq_zero_iff.1 (by omega)) (ndec_t h1)
 ·have hlt : x.1 < (splB s).length := by have h' : (x.1 : Int) < ((splB s).length : Int) := ilt_iff.1 h; omega
  have hin : inB (x.1 : Int) (splB s).length = true := inB_iff.2 ⟨by omega, by omega⟩
  have hsl : (splB s).length ≤ s.length + 1 := by
   have h1 : Lib.countByte s (UInt8.ofNat 10) ≤ s.length := List.count_le_length
   rw [spl_len]; omega
  have hR : inR .i64 ((x.1 : Int) + 1) = true := inR_i64.2 ⟨by omega, by omega⟩
  have hll := lnAt_len hlt
  have hln := hx.ln
  simp only [show (splB s).getD x.1 [] = lnAt s x.1 from rfl]
  have hbad : ¬ (lnAt s x.1 = [] ∨ (lnAt s x.1).getD 0 0 = 35) → lineBad (lnAt s x.1) = true → ofR s = ([], 12) := fun h1 h2 => hx.bad hg hlt h1 h2
  have hskip := hx.skip hlt
  have hput := hx.put hlt
  generalize lnAt s x.1 = l at *
  refine sdA_of hin (brP_of (fun h2 => ?_) (fun h2 => ?_))
  ·exact sdA_of hR ⟨(x.1 + 1, x.2), hskip (.inl (of_decide_eq_true h2)), by omega, ⟨rfl, by simp⟩, rfl, ⟨fun i _ => rfl⟩⟩
  have hne : l ≠ [] := of_decide_eq_false h2
  have hpos : 0 < l.length := List.length_pos_iff.2 hne
  refine sdA_of (inB_iff.2 ⟨by omega, by omega⟩) (brP_of (fun h3 => ?_) (fun h3 => ?_))
  ·have h4 : l.getD 0 0 = 35 := by
    have h6 := ieq_iff.1 h3
    exact UInt8.toNat_inj.1 (by show (l.getD 0 0).toNat = 35; omega)
   exact sdA_of hR ⟨(x.1 + 1, x.2), hskip (.inr h4), by omega, ⟨rfl, by simp⟩, rfl, ⟨fun i _ => rfl⟩⟩
  have hnot : ¬ (l = [] ∨ l.getD 0 0 = 35) := by
   rintro (e | e)
   ·exact hne e
   ·rw [e] at h3; simp [ieq_eq] at h3
  have hbad' := hbad hnot
  refine brP_of (fun h5 => ?_) (fun h5 => ?_)
  ·have h5' := nlt_t h5
   have hi6 : inL 6 l.length = true := inL_iff.2 ⟨by omega, by omega⟩
   refine sdA_of hi6 (brP_of (fun h7 => ?_) (fun h7 => sdA_of hi6 ⟨by simp; omega, brP_of (fun h8 => ?_) (fun h8 => ?_)⟩))
   ·rw [hbad' (by unfold lineBad; rw [show (!decide (l.take 6 = sAllow)) = true from h7]; simp)]
    exact ⟨rfl, rfl⟩
   ·rw [hbad' (by unfold lineBad; rw [h8]; simp)]
    exact ⟨rfl, rfl⟩
   ·have hgood : ¬ lineBad l = true := by
     unfold lineBad
     rw [decide_eq_false (show ¬ l.length < 6 by omega), show (!decide (l.take 6 = sAllow)) = false from h7, h8]
     simp
    refine sdA_of (decide_eq_true ⟨by omega, by omega⟩) (sdA_of hR ⟨(x.1 + 1, x.2 ++ [l.drop 6]), hput hnot hgood, by omega, ⟨by simp, by simp⟩, by simp, ⟨fun i hi => ?_⟩⟩)
    rw [app_row1 x.2 (l.drop 6) i hi]
    exact ⟨rfl, trivial⟩
  ·have h5' := nlt_f h5
   rw [hbad' (by unfold lineBad; rw [decide_eq_true (show l.length < 6 by omega)]; rfl)]
   exact ⟨rfl, rfl⟩
 ·have hge : x.1 = (splB s).length := by have h' : ((splB s).length : Int) ≤ (x.1 : Int) := ilt_iffn.1 h; have := hx.le; omega
  have hsl : (splB s).length ≤ s.length + 1 := by
   have h1 : Lib.countByte s (UInt8.ofNat 10) ≤ s.length := List.count_le_length
   rw [spl_len]; omega
  have hln := hx.ln
  have hsm := hx.sm
  have hx2 : x.2.length ≤ 1000000 := by omega
  rw [hx.end_ hg hge]
  refine sdA_of (goodR_of fun _ _ => rfl) ⟨⟨hx2, fun t ht => by have := hsm t ht; omega⟩, ⟨rfl, ⟨fun i _ => rfl⟩⟩, rfl⟩
theorem runOfP_b : ∀ s : List UInt8, s.length ≤ 900000 → (cRun (cxL tbO [(6, 5, SOfP s)] [(6, 4, COf s)]) 60).call 6 [.bs s] .leaf 0 (ResP Tryz.prog false (.tup [.vec 1 (barr (ofR s)).1.length (rT (barr (ofR s)).1), .int .i64 (barr (ofR s)).2])) :=
 Eq.mpr (by kernel_rfl) runOfP_r
theorem runOfP : ∀ s : List UInt8, s.length ≤ 900000 → (cRun (cxL tbO [(6, 5, SOfP s)] [(6, 4, COf s)]) 60).call 6 [.bs s] .leaf 0 (ResM Tryz.prog false (.tup [.vec 1 (barr (ofR s)).1.length (rT (barr (ofR s)).1), .int .i64 (barr (ofR s)).2])) := by
 intros
 rw [← resP_eq]
 apply runOfP_b <;> assumption
end Go.Proofs.YtenbcoedkeddgaaGreatDoor
end
