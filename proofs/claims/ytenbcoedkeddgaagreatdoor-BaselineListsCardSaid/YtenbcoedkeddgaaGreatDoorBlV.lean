/- Laid by program out of its parts: BlV. -/
import Derived.Test.YtenbcoedkeddgaaGreatDoorBlF
import Derived.Test.YtenbcoedkeddgaaGreatDoorBlU
import Derived.WalkKit
import Derived.BigCall
import Derived.Lib.AppendStr
import Derived.OwnWalk
import Derived.Laws.Externs
import Derived.Lib.OthersKept
set_option linter.unusedVariables false
set_option linter.unusedSimpArgs false
set_option maxRecDepth 100000
open Go Go.Ev Go.RowKit Go.Proofs
namespace Go.Proofs.YtenbcoedkeddgaaGreatDoor
theorem bd_size : (Tryz.prog.info? 57).map (·.size) = some 2 := by kernel_rfl
theorem bd_lies : liesAt Tryz.prog Tryz.prog.depth 57 (2 / Tryz.prog.cellsOf 57) 0 57 1 = true := by kernel_rfl
theorem bd_byte : (Tryz.prog.info? 5).map (fun i => (i.zero, i.size, i.bytes)) = some (some (.int .u8 0), 1, 1) := by kernel_rfl
set_option maxHeartbeats 1000000 in
theorem check_used (b : Nat) (w : World) (h0 : w.cell? ⟨b, 0, none⟩ = some (.pointer (some ⟨b, 0, none⟩))) :
  Calls Tryz.prog 37 #[.pointer (some ⟨b, 0, none⟩)] w fun e w' => e = .returned (.tuple #[]) ∧ w' = w := by
 obtain ⟨j, hj, _⟩ := Option.map_eq_some_iff.1 bd_size
 go_enter Tryz.func37, Tryz.ntmps37
 go_wp2
 rw [Lib.run_neq_ptr_same w _ Tryz.underlying55 hj]
 go_wp2
 go_end0
 exact ⟨rfl, rfl⟩
set_option maxHeartbeats 1000000 in
theorem check_fresh (b : Nat) (w : World) (h0 : w.cell? ⟨b, 0, none⟩ = some (.pointer none)) (hsh : w.shape? b = some (57, 2)) (hfz : w.frozen? ⟨b, 0, none⟩ = false) :
  Calls Tryz.prog 37 #[.pointer (some ⟨b, 0, none⟩)] w fun e w' => e = .returned (.tuple #[]) ∧ w' = w.setCell ⟨b, 0, none⟩ (.pointer (some ⟨b, 0, none⟩)) := by
 obtain ⟨j, hj, hjs⟩ := Option.map_eq_some_iff.1 bd_size
 go_enter Tryz.func37, Tryz.ntmps37
 go_wp2
 rw [Lib.run_to_unsafe w ⟨b, 0, none⟩ Tryz.underlying55 Tryz.underlying137 hj (by rw [hjs]; decide) hsh (Nat.zero_lt_succ 1)]
 simp only [Result.andThen]
 rw [Oper.upon_value]
 go_wp2
 rw [run_callFunc_extern Tryz.func62 (by kernel_rfl) (by kernel_rfl) (by kernel_rfl) (e := Extern.AbiNoEscape.same) (by kernel_rfl)]
 rw [Lib.run_noEscape]
 simp only [Result.andThen]
 rw [Oper.upon_value]
 go_wp2
 rw [Lib.run_from_unsafe w ⟨b, 0, none⟩ Tryz.underlying137 Tryz.underlying55 hj hsh bd_lies]
 simp only [Result.andThen]
 rw [Oper.upon_value]
 go_wp2
 go_end0
 exact ⟨rfl, rfl⟩
def Bd (B b : Nat) (bs : List Value) (w : World) : Prop := ∃ p v, (p = Value.pointer none ∨ p = .pointer (some ⟨b, 0, none⟩)) ∧ w.heap[b]? = some (.cells #[p, v] 57 (0, 0)) ∧ w.ownsRow B 5 1 v bs.length bs ∧ v.ownBlock ≠ some b
def Bu (B b : Nat) (bs : List Value) (w : World) : Prop := ∃ v, w.heap[b]? = some (.cells #[.pointer (some ⟨b, 0, none⟩), v] 57 (0, 0)) ∧ w.ownsRow B 5 1 v bs.length bs ∧ v.ownBlock ≠ some b
def But (B b : Nat) (w w' : World) : Prop := ∀ k, k < B → k ≠ b → w'.heap[k]? = w.heap[k]?
theorem Bu.bd {B b : Nat} {bs : List Value} {w : World} (h : Bu B b bs w) : Bd B b bs w := let ⟨v, h1, h2, h3⟩ := h; ⟨_, v, .inr rfl, h1, h2, h3⟩
theorem owns_le {w : World} {B b : Nat} {e : TypeId} {v : Value} {n : Nat} {xs : List Value} (h : w.ownsRow B e 1 v n xs) (hb : b ≤ B) : w.ownsRow b e 1 v n xs :=
 ⟨h.1, h.2.imp id fun ⟨g, cap, cur, hv, hB, r⟩ => ⟨g, cap, cur, hv, Nat.le_trans hb hB, r⟩⟩
theorem set_kept {w : World} {b i : Nat} {u : Value} : w.grownBy (w.setCell ⟨b, i, none⟩ u) (some b) := ⟨rfl, rfl, rfl, by simp [World.setCell], fun k _ hk => Below.heap_setCell _ _ _ _ (fun e => hk (by simp [e]))⟩
theorem set_but {w : World} {B b i : Nat} {u : Value} : But B b w (w.setCell ⟨b, i, none⟩ u) := fun k _ hk => Below.heap_setCell _ _ _ _ (fun e => hk (by simp [e]))
theorem But.trans {B b : Nat} {a c d : World} (h : But B b a c) (h2 : But B b c d) : But B b a d := fun k h1 h3 => (h2 k h1 h3).trans (h k h1 h3)
theorem check_bd (B b : Nat) (bs : List Value) (w : World) (h : Bd B b bs w) :
  Calls Tryz.prog 37 #[.pointer (some ⟨b, 0, none⟩)] w fun e w' => e = .returned (.tuple #[]) ∧ Bu B b bs w' ∧ Below b w w' ∧ But B b w w' ∧ w'.heap.size = w.heap.size := by
 obtain ⟨p, v, hp, hb, hown, hne⟩ := h
 rcases hp with rfl | rfl
 ·refine (check_fresh b w (by rw [Lib.cell_of_heap hb]; rfl) (by simp [World.shape?, hb]) (Lib.frozen_of_heap hb 0)).mono fun e w' ⟨he, hw⟩ => ⟨he, ?_⟩
  subst hw
  exact ⟨⟨v, by simp [World.setCell, Array.getElem?_modify, hb], hown.kept (row := some b) set_kept (Or.inr hne), hne⟩, (Below.refl b w).setCell (p := ⟨b, 0, none⟩) (Nat.le_refl b) _, set_but, by simp [World.setCell]⟩
 ·exact (check_used b w (by rw [Lib.cell_of_heap hb]; rfl)).mono fun e w' ⟨he, hw⟩ => ⟨he, by subst hw; exact ⟨⟨v, hb, hown, hne⟩, Below.refl b _, fun _ _ _ => rfl, rfl⟩⟩
set_option maxHeartbeats 1000000 in
theorem write_bd (B b : Nat) (bs : List Value) (s : ByteArray) (w : World) (h : Bd B b bs w) (hbB : b < B) (hlen : bs.length + s.size ≤ 140737488355328) (hBw : B ≤ w.heap.size) :
  Calls Tryz.prog 24 #[.pointer (some ⟨b, 0, none⟩), .string s] w fun e w' => e = .returned (.tuple #[.int .i64 s.size, .nilIface]) ∧ Bu B b (bs ++ Lib.strCells s) w' ∧ Below b w w' ∧ But B b w w' ∧ B ≤ w'.heap.size := by
 obtain ⟨i0, hi, hz0, hz1, hz2⟩ := info_parts bd_byte
 go_enter Tryz.func24, Tryz.ntmps24
 go_wp2_with (go_at_call 37; refine (check_bd B b bs _ h).mono ?_)
 rintro e w1 ⟨rfl, h1, hb1, hk1, hs1⟩
 obtain ⟨v, hbk, hown, hne⟩ := h1
 have c0 : w1.cell? ⟨b, 0, none⟩ = some (.pointer (some ⟨b, 0, none⟩)) := by rw [Lib.cell_of_heap hbk]; rfl
 have c1 : w1.cell? ⟨b, 1, none⟩ = some v := by rw [Lib.cell_of_heap hbk]; rfl
 go_wp2_with (at_builtin; refine Lib.wpList_append_own_string _ rfl _ _ 35 9 rfl B 5 i0 Tryz.underlying35 Tryz.underlying9 hi hz0 hz1 hz2 _ _ _ rfl hown s rfl ?c3 ?c4 ?c5 ?_)
 case c3 => unfold maxLen; omega
 case c4 => omega
 case c5 => omega
 intro v' w2 hown' hgrow _
 have hlt : b < w1.heap.size := lt_of_heap hbk
 have hb2 : w2.heap[b]? = some (.cells #[.pointer (some ⟨b, 0, none⟩), v] 57 (0, 0)) := by
  rw [hgrow.block b hlt (fun e => hne e.symm)]
  exact hbk
 have d0 : w2.cell? ⟨b, 0, none⟩ = some (.pointer (some ⟨b, 0, none⟩)) := by rw [Lib.cell_of_heap hb2]; rfl
 have d1 : w2.cell? ⟨b, 1, none⟩ = some v := by rw [Lib.cell_of_heap hb2]; rfl
 have f1 : w2.frozen? ⟨b, 1, none⟩ = false := Lib.frozen_of_heap hb2 1
 obtain ⟨ao, n', cap, rfl⟩ : ∃ ao n' cap, v' = .slice ao n' cap := by
  rcases hown'.2 with ⟨hv, _⟩ | ⟨g, cap, cur, hv, _⟩
  ·exact ⟨_, _, _, hv⟩
  ·exact ⟨_, _, _, hv⟩
 have hne' := Lib.ownBlock_ne hown' hb2 (by decide)
 have hgk : ∀ k, v.ownBlock = some k → B ≤ k ∧ k < w1.heap.size := fun k hk => hown.lt k hk
 have hbut2 : But B b w1 w2 := fun k hk hkb => hgrow.block k (by omega) (fun e => by have := (hgk k e.symm).1; omega)
 have hsz : w1.heap.size ≤ w2.heap.size := hgrow.size
 have hown3 := hown'.kept (row := some b) (set_kept (i := 1) (u := .slice ao n' cap)) (Or.inr hne')
 go_wp2
 go_ret2
 refine ⟨rfl, ⟨_, by simp [World.setCell, Array.getElem?_modify, hb2], by simpa [Lib.strCells_length] using hown3, hne'⟩, ?_, (hk1.trans hbut2).trans set_but, by simp [World.setCell]; omega⟩
 exact (hb1.grown hgrow (by omega) (fun k hk => by have := (hgk k hk).1; omega)).setCell (p := ⟨b, 1, none⟩) (Nat.le_refl b) _
theorem ent_callsW {P : Program} {g : FuncId} {ent : Tr AObj → List AV → Option Ct} (hent : EntOK P g ent) {args : List AV} {ct : Ct} {v : AV} (hct : ent .leaf args = some ct)
  (hout : ctOut ct = some (false, v)) {W : World} {vs : List Value} (hvs : VRL (wRen W) args vs) :
  Calls P g vs.toArray W fun e w' => ∃ u ρ', e = .returned u ∧ VR ρ' v u ∧ (∀ b o, ρ'.st b = some o → w'.heap[b]? = some o) ∧ Below W.heap.size W w' := by
 have r : Rel ⟨W.tape, W.os, W.output, fun b => W.heap[b]?, fun _ => true⟩ (fun b => W.heap[b]?) 0 (wRen W) (Tr.leaf : Tr AObj).get W :=
  ⟨rfl, rfl, rfl, fun b o hb => hb, fun i o b hi => (by rw [Tr.get_leaf] at hi; cases hi), fun i o b hi => (by rw [Tr.get_leaf] at hi; cases hi),
   fun i j o o' b b' hi => (by rw [Tr.get_leaf] at hi; cases hi), fun _ _ => rfl, fun i o hi => (by rw [Tr.get_leaf] at hi; cases hi), fun _ _ h => h, fun _ _ h => h, fun i o b hi => (by rw [Tr.get_leaf] at hi; cases hi), fun _ _ _ _ _ => rfl⟩
 have hcall := hent .leaf args ct hct false v hout ⟨W.tape, W.os, W.output, fun b => W.heap[b]?, fun _ => true⟩ _ _ W 0 .leaf (fun g l h => by rw [Tr.get_leaf] at h; cases h) r
 have hc' : Calls P g vs.toArray W _ := callsIn_wide.1 (hcall.2 vs hvs)
 refine hc'.mono fun e w' hE => ?_
 obtain ⟨u, ρ', he, _, hr, hv⟩ := hE
 refine ⟨u, ρ', he, hv, hr.st, hr.os, hr.tape, hr.output, ?_, fun k hk => ?_⟩
 ·by_cases h0 : W.heap.size = 0
  ·omega
  ·have hlt : W.heap.size - 1 < W.heap.size := by omega
   have := hr.fr (W.heap.size - 1) _ (Array.getElem?_eq_getElem hlt)
   have := lt_of_heap this
   omega
 ·rw [Array.getElem?_eq_getElem hk]
  exact hr.fr k _ (Array.getElem?_eq_getElem hk)
theorem vec_again {ρ : Ren} {W : World} (hst : ∀ b o, ρ.st b = some o → W.heap[b]? = some o) {n : Nat} {f : Nat → List AV} {v : Value} (hv : VR ρ (.vec 1 n f) v) (h : allTx n f = true) : VR (wRen W) (.vec 1 n f) v := by
 unfold allTx at h
 simp only [decide_eq_true_eq] at h
 cases hv with
 | vec _ _ _ b o cap cs el fz g hs he hcap hvv hc =>
  refine .vec _ _ _ b o cap cs el fz g (hst _ _ hs) he hcap (fun i hi => ?_) hc
  have h1 := isTx_val (h i hi) (hvv i hi)
  have h2 : f i = [.bs (txtO (f i))] := by
   have h3 := h i hi
   unfold isTx at h3
   split at h3
   ·rename_i s hs'; rw [hs']; rfl
   ·cases h3
  rw [h1, h2]
  exact .cons _ _ _ _ (.bs _) .nil
 | vecz _ _ _ h0 base cap => exact .vecz _ _ _ h0 base cap
structure Hd (p : Prop) : Prop where
 out : p
theorem textL_len (M : Txs) : ∀ k, (∀ s ∈ M, s.length ≤ 1000000) → (textL (M.take k)).length ≤ k * 1000010 := fun k hs => by
 induction k with
 | zero => simp [textL]
 | succ k ih =>
  by_cases hk : k < M.length
  ·rw [textL_take M k hk]
   have h1 := hs _ (getD_memT hk)
   have h6 : sAllow.length = 6 := rfl
   rw [List.length_append, List.length_append, List.length_append, h6, List.length_singleton, Nat.add_mul]
   omega
  ·rw [List.take_of_length_le (by omega)]
   rw [List.take_of_length_le (by omega)] at ih
   exact Nat.le_trans ih (Nat.mul_le_mul_right _ (Nat.le_succ k))
set_option maxHeartbeats 2000000 in
theorem text_calls (hl : EntOK Tryz.prog 20 eLst) {ρ : Ren} {w : World} (hst : ∀ b o, ρ.st b = some o → w.heap[b]? = some o) {n : Nat} {f : Nat → List AV} {v : Value} (hv : VR ρ (.vec 1 n f) v) (htx : allTx n f = true) (hn : n ≤ 1000)
  (hs : ∀ s ∈ rowTx n f, s.length ≤ 1000000) :
  Calls Tryz.prog 12 #[v] w fun e w' => e = .returned (.string ⟨(textL (lstL (rowTx n f))).toArray⟩) ∧ Below w.heap.size w w' := by
 have hL := ent_callsW hl (args := [.vec 1 n f]) rfl (ctOut_of ⟨htx, by omega, hs⟩) (W := w.alloc (.cells #[.pointer none, .slice none 0 0] 57)) (vs := [v]) (.cons _ _ _ _ (vec_again (fun b o hb => by rw [Lib.alloc_old w _ b (lt_of_heap (hst b o hb))]; exact hst b o hb) hv htx) .nil)
 rw [barr_eq] at hL
 have hMl := lst_length (rowTx n f)
 rw [rowTx_length] at hMl
 have hMs : ∀ s ∈ lstL (rowTx n f), s.length ≤ 1000000 := fun s h => hs s (lst_mem h).1
 generalize lstL (rowTx n f) = M at *
 have b0 : Below w.heap.size w (w.alloc (.cells #[.pointer none, .slice none 0 0] 57)) := (Below.refl _ w).alloc (Nat.le_refl _) _
 have hnew : (w.alloc (.cells #[.pointer none, .slice none 0 0] 57)).heap[w.heap.size]? = some (.cells #[.pointer none, .slice none 0 0] 57 (0, 0)) := heap_alloc_new w _
 have hsz0 : (w.alloc (.cells #[.pointer none, .slice none 0 0] 57)).heap.size = w.heap.size + 1 := Array.size_push _
 go_enter Tryz.func12, Tryz.ntmps12
 go_wp2_with (go_at_call 20; refine hL.mono ?_)
 rintro e w2 ⟨u, ρ', rfl, hu, hst2, hb2⟩
 have hbd : Bd w2.heap.size w.heap.size [] w2 := ⟨.pointer none, .slice none 0 0, .inl rfl, by rw [hb2.block w.heap.size (by omega)]; exact hnew, World.ownsRow_nil _ _ _ _, by simp [Value.ownBlock]⟩
 have hlt2 : w.heap.size < w2.heap.size := by have := hb2.size; omega
 have hbw : Below w.heap.size w w2 := b0.trans (hb2.mono (by omega))
 have hel : ∃ p cap, u = .slice p M.length cap ∧ ∀ k, k < M.length → ∃ b o, p = some ⟨b, o, none⟩ ∧ b < w2.heap.size ∧ M.length ≤ cap ∧ w2.cell? ⟨b, o + k, none⟩ = some (.string ⟨(M.getD k []).toArray⟩) := by
  rcases vec_texts hst2 hu (allTx_rT _ _) with ⟨h0, base, cap, rfl⟩ | ⟨b, o, cap, rfl, hcap, hbl, hc⟩
  ·exact ⟨base, cap, by rw [h0], fun k hk => by omega⟩
  ·refine ⟨_, cap, rfl, fun k hk => ⟨b, o, rfl, hbl, hcap, hc k _ ?_⟩⟩
   rw [rowTx_rT, List.getElem?_map, List.getElem?_eq_getElem hk, getD_getE M [] k hk]; rfl
 obtain ⟨p, cap, rfl, hel⟩ := hel
 have hne : ∀ b o k t, w2.cell? ⟨b, o + k, none⟩ = some (.string t) → b ≠ w.heap.size := fun b o k t h e => by
  obtain ⟨p', v', hp', hb', hown, _⟩ := hbd
  rw [e] at h
  simp only [World.cell?, hb'] at h
  generalize o + k = i at h
  match i, h with
  | 0, h => rcases hp' with rfl | rfl <;> simp at h
  | 1, h => rcases hown.2 with ⟨hv', _⟩ | ⟨g, c', cur, hv', _⟩ <;> (rw [hv'] at h; simp at h)
  | i + 2, h => simp at h
 have HB := Hd.mk hbd
 clear hbd hu hst2 hL hst hv htx hs hl hnew b0 hb2
 go_wp2_with fail
 go_loopw [9] (fun i wr => ∃ k : Nat, k ≤ M.length ∧ i = .int .i64 k ∧ Hd (Bd w2.heap.size w.heap.size (Lib.byteCells (textL (M.take k))) wr) ∧ Hd (Below w.heap.size w wr) ∧ Hd (But w2.heap.size w.heap.size w2 wr) ∧ w2.heap.size ≤ wr.heap.size) (fun i _ => M.length - (intOf i).toNat)
 case atStart => exact ⟨0, Nat.zero_le _, rfl, HB, Hd.mk hbw, Hd.mk (fun _ _ _ => rfl), Nat.le_refl _⟩
 case round =>
  obtain ⟨k, hk', rfl, HBk, HW, HT, hsz⟩ := hrel
  by_cases hk : k < M.length
  ·obtain ⟨b, o, rfl, hbl, hcap, hcell⟩ := hel k hk
   have hbn := hne b o k _ hcell
   have hcy : wr.cell? ⟨b, o + k, none⟩ = some (.string ⟨(M.getD k []).toArray⟩) := by
    rw [← hcell]
    simp only [World.cell?, HT.out b hbl hbn]
   have hlen : (textL (M.take k)).length ≤ k * 1000010 := textL_len M k hMs
   have hys : (ByteArray.mk (M.getD k []).toArray).size ≤ 1000000 := by
    have := hMs _ (getD_memT hk)
    simpa [ByteArray.size] using this
   have hyl : (ByteArray.mk (M.getD k []).toArray).data.toList = M.getD k [] := by simp
   have hnext := textL_take M k hk
   rw [← hyl] at hnext
   generalize (ByteArray.mk (M.getD k []).toArray) = y at *
   have hkb : k * 1000010 ≤ 1000 * 1000010 := Nat.mul_le_mul_right _ (by omega)
   have hcat : Lib.byteCells (textL (M.take k)) ++ Lib.strCells (⟨#[97, 108, 108, 111, 119, 32]⟩ ++ y ++ ⟨#[10]⟩) = Lib.byteCells (textL (M.take (k + 1))) := by
    rw [Lib.strCells_eq, hnext, ← Lib.byteCells_append]
    congr 1
    simp [sAllow]
   have hsum : (Lib.byteCells (textL (M.take k))).length + (⟨#[97, 108, 108, 111, 119, 32]⟩ ++ y ++ ⟨#[10]⟩ : ByteArray).size ≤ 140737488355328 := by
    rw [Lib.byteCells_length, ByteArray.size_append, ByteArray.size_append]
    have e1 : (ByteArray.mk #[97, 108, 108, 111, 119, 32]).size = 6 := rfl
    have e2 : (ByteArray.mk #[10]).size = 1 := rfl
    omega
   have HC := Hd.mk hcat
   clear hcat hnext hlen
   go_wp2_with fail
   refine (write_bd w2.heap.size w.heap.size _ _ wr HBk.out hlt2 hsum hsz).mono ?_
   rintro e w3 ⟨rfl, h3, hb3, ht3, hs3⟩
   rw [HC.out] at h3
   have H3 := Hd.mk h3.bd
   have HW3 := Hd.mk (HW.out.trans hb3)
   have HT3 := Hd.mk (HT.out.trans ht3)
   clear h3 hb3 ht3
   go_wp2
   exact ⟨⟨k + 1, by omega, by go_num, H3, HW3, HT3, hs3⟩, by simp [intOf]; omega⟩
  ·have hke : k = M.length := by omega
   subst hke
   have hB' := HBk.out
   rw [List.take_length] at hB'
   have hI : Lib.IsBuilder 57 5 w.heap.size w.heap.size (Lib.byteCells (textL M)) wr := by
    obtain ⟨q, v', hq, h1, h2, h3⟩ := hB'
    rcases hq with rfl | rfl
    ·exact .inl ⟨Nat.le_refl _, v', h1, owns_le h2 (by omega), h3⟩
    ·exact .inr ⟨Nat.le_refl _, v', h1, owns_le h2 (by omega), h3⟩
   clear hB'
   go_wp2_with fail
   refine (Tryz.Builder_String_any w.heap.size w.heap.size (textL M) wr hI (by omega)).mono ?_
   rintro e w5 ⟨rfl, hb5⟩
   have Hb5 := Hd.mk (HW.out.trans hb5)
   clear hb5 hI
   go_wp2
   go_ret
   exact ⟨rfl, Hb5.out⟩
noncomputable def eTxt : Tr AObj → List AV → Option Ct := fun _ args => match args with
 | [.vec 1 n f] => some (.need (allTx n f = true ∧ n ≤ 1000 ∧ ∀ s ∈ rowTx n f, s.length ≤ 1000000) (.ret (.bs (barr (textL (lstL (rowTx n f)))))))
 | _ => none
theorem okTxtP : EntOK Tryz.prog 12 eTxt := ent_of_calls ⟨_, _, Tryz.func12, by kernel_rfl, rfl⟩ fun H args ct hct => by
 unfold eTxt at hct
 split at hct
 ·rename_i n f
  injection hct with hct
  refine ⟨_, _, hct.symm, fun hp ρ w vs hst hvs => ?_⟩
  cases hvs with
  | cons _ v _ vs1 hv hvs1 =>
  cases hvs1
  rw [barr_eq]
  exact (text_calls okLstP hst hv hp.1 hp.2.1 hp.2.2).mono fun e w' ⟨he, hw⟩ => ⟨_, he, .bs _, hw⟩
 ·cases hct
theorem okTxtR : EntOK Tryz.prog 13 eTxt := by
 refine ent_tx (gl := []) (ng := 0) gl0 fun H args ct hct => ?_
 unfold eTxt at hct
 split at hct
 ·rename_i n f
  injection hct with hct; subst hct
  refine ⟨gl0, _, _, rfl, fun hp => ⟨?_, ⟨⟨rfl, rfl, ⟨fun i _ => vm_rT _ i⟩⟩, trivial⟩, cxL tbD [(13, 4, STxt (rowTx n f))] [], 60, rfl, fol, tb_cons okLstR tb_nil, ?_⟩⟩
  ·intro a ha
   rw [List.mem_singleton.1 ha]; exact hp.1
  ·have h := runTxt (rowTx n f) (by rw [rowTx_length]; exact hp.2.1) hp.2.2
   rw [rowTx_length] at h
   rw [barr_eq]
   exact h
 ·cases hct
end Go.Proofs.YtenbcoedkeddgaaGreatDoor
