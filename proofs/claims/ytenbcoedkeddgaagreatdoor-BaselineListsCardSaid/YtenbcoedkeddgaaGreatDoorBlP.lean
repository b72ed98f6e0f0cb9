/- Laid by program out of its parts: BlP. -/
import Derived.Test.YtenbcoedkeddgaaGreatDoorBlA
import Derived.Lib.SlicesCompact
import Derived.Lib.RowBridge
import Derived.Shelf.GgClosure.StringsRunes
set_option linter.unusedVariables false
set_option linter.unusedSimpArgs false
set_option maxRecDepth 100000
open Go Go.Ev
namespace Go.Proofs.YtenbcoedkeddgaaGreatDoor
def consH (b : UInt8) (L : Txs) : Txs := match L with
 | [] => [[b]]
 | l :: r => (b :: l) :: r
def splitL : List UInt8 → Txs
 | [] => [[]]
 | b :: t => if b = 10 then [] :: splitL t else consH b (splitL t)
def consL (l : List UInt8) (L : Txs) : Txs := match L with
 | [] => [l]
 | h :: r => (l ++ h) :: r
def scanB (x : Txs × List UInt8) (b : UInt8) : Txs × List UInt8 := if b = 10 then (x.1 ++ [x.2], []) else (x.1, x.2 ++ [b])
def stepR (o : Option Txs) (l : List UInt8) : Option Txs := match o with
 | none => none
 | some out => if l = [] ∨ l.getD 0 0 = 35 then some out else if lineBad l = true then none else some (putL out (l.drop 6))
def stepP (o : Option Txs) (l : List UInt8) : Option Txs := match o with
 | none => none
 | some out => if l = [] ∨ l.getD 0 0 = 35 then some out else if lineBad l = true then none else some (out ++ [l.drop 6])
def endsN (s : List UInt8) : Bool := decide (s.drop (s.length - 1) = [10])
def ofP (s : List UInt8) : Txs × Int := if s ≠ [] ∧ endsN s = false then ([], 12) else match (splitL s).foldl stepP (some []) with
 | none => ([], 12)
 | some out => (lstL out, 0)
def oddP (c : Nat) : Bool := decide (c < 32) || decide (126 < c)
def idxI (s : List UInt8) : Int := Lib.idxFunc oddP true ⟨s.toArray⟩
def Srt (L : Txs) : Prop := L.Pairwise fun x y => Op.bytesLess x y = true
def srtC (L : Txs) : Txs := Lib.compact (L.mergeSort fun x y => decide (x ≤ y))
theorem bl_irr : ∀ x : List UInt8, Op.bytesLess x x = false
 | [] => rfl
 | a :: x => by
  rw [Op.bytesLess, bl_irr x, Bool.and_false, Bool.or_false]
  exact decide_eq_false (UInt8.lt_irrefl a)
theorem bl_tr : ∀ x y z : List UInt8, Op.bytesLess x y = true → Op.bytesLess y z = true → Op.bytesLess x z = true
 | x, [], z, h, _ => by cases x <;> simp [Op.bytesLess] at h
 | x, y :: ys, [], _, h => by simp [Op.bytesLess] at h
 | [], y :: ys, z :: zs, _, _ => by simp [Op.bytesLess]
 | a :: x, b :: y, c :: z, h1, h2 => by
  simp only [Op.bytesLess, Bool.or_eq_true, decide_eq_true_eq, Bool.and_eq_true, beq_iff_eq] at h1 h2 ⊢
  rcases h1 with h1 | ⟨rfl, h1⟩ <;> rcases h2 with h2 | ⟨rfl, h2⟩
  ·exact .inl (UInt8.lt_trans h1 h2)
  ·exact .inl h1
  ·exact .inl h2
  ·exact .inr ⟨rfl, bl_tr x y z h1 h2⟩
theorem bl_tri : ∀ x y : List UInt8, Op.bytesLess x y = false → Op.bytesLess y x = false → x = y
 | [], [], _, _ => rfl
 | [], b :: y, h, _ => by simp [Op.bytesLess] at h
 | a :: x, [], _, h => by simp [Op.bytesLess] at h
 | a :: x, b :: y, h1, h2 => by
  simp only [Op.bytesLess, Bool.or_eq_false_iff, decide_eq_false_iff_not, Bool.and_eq_false_iff, beq_eq_false_iff_ne, UInt8.lt_iff_toNat_lt] at h1 h2
  have hab : a = b := UInt8.toNat_inj.1 (by omega)
  subst hab
  have h3 : Op.bytesLess x y = false := h1.2.resolve_left (fun h => h rfl)
  have h4 : Op.bytesLess y x = false := h2.2.resolve_left (fun h => h rfl)
  rw [bl_tri x y h3 h4]
theorem bl_asym {x y : List UInt8} (h : Op.bytesLess x y = true) : Op.bytesLess y x = false := by
 cases h2 : Op.bytesLess y x with
 | false => rfl
 | true => have := bl_tr _ _ _ h h2; rw [bl_irr] at this; cases this
theorem bl_lt : ∀ x y : List UInt8, Op.bytesLess x y = decide (x < y)
 | [], [] => by simp [Op.bytesLess]
 | _ :: _, [] => by simp [Op.bytesLess]
 | [], _ :: _ => by simp [Op.bytesLess]
 | a :: x, b :: y => by
  rw [Op.bytesLess, bl_lt x y]
  by_cases h1 : a < b <;> by_cases h2 : a = b <;> by_cases h3 : x < y <;> simp [List.cons_lt_cons_iff, h1, h2, h3]
theorem le_bl (x y : List UInt8) : decide (x ≤ y) = !Op.bytesLess y x := by
 rw [bl_lt]
 by_cases h : y < x
 ·rw [decide_eq_true h]
  exact decide_eq_false fun h2 => h2 h
 ·rw [decide_eq_false h]
  exact decide_eq_true h
theorem srt_ext : ∀ L M : Txs, Srt L → Srt M → (∀ x, x ∈ L ↔ x ∈ M) → L = M
 | [], [], _, _, _ => rfl
 | [], b :: M, _, _, h => by have := (h b).2 (List.mem_cons_self ..); cases this
 | a :: L, [], _, _, h => by have := (h a).1 (List.mem_cons_self ..); cases this
 | a :: L, b :: M, hL, hM, h => by
  have hL' := List.pairwise_cons.1 hL
  have hM' := List.pairwise_cons.1 hM
  have hab : a = b := by
   rcases List.mem_cons.1 ((h a).1 (List.mem_cons_self ..)) with e | ha
   ·exact e
   rcases List.mem_cons.1 ((h b).2 (List.mem_cons_self ..)) with e | hb
   ·exact e.symm
   have h1 := bl_tr _ _ _ (hM'.1 a ha) (hL'.1 b hb)
   rw [bl_irr] at h1; cases h1
  subst hab
  congr 1
  refine srt_ext L M hL'.2 hM'.2 fun x => ⟨fun hx => ?_, fun hx => ?_⟩
  ·rcases List.mem_cons.1 ((h x).1 (List.mem_cons_of_mem _ hx)) with e | hx'
   ·subst e; have := hL'.1 x hx; rw [bl_irr] at this; cases this
   ·exact hx'
  ·rcases List.mem_cons.1 ((h x).2 (List.mem_cons_of_mem _ hx)) with e | hx'
   ·subst e; have := hM'.1 x hx; rw [bl_irr] at this; cases this
   ·exact hx'
theorem put_nil (s : List UInt8) : putL [] s = [s] := by simp [putL, putAt]
theorem put_cons_t {a : List UInt8} {L : Txs} {s : List UInt8} (h : Op.bytesLess a s = true) : putL (a :: L) s = a :: putL L s := by
 have e : putAt (a :: L) s = putAt L s + 1 := by simp [putAt, List.takeWhile_cons, h]
 unfold putL
 rw [e]
 simp only [List.length_cons, Nat.add_lt_add_iff_right, List.getD_cons_succ, List.take_succ_cons, List.drop_succ_cons, List.cons_append]
 cases (decide (putAt L s < L.length) && decide (L.getD (putAt L s) [] = s)) <;> rfl
theorem put_cons_eq (L : Txs) (s : List UInt8) : putL (s :: L) s = s :: L := by
 have e : putAt (s :: L) s = 0 := by simp [putAt, List.takeWhile_cons, bl_irr]
 unfold putL
 rw [e]
 simp
theorem put_cons_gt {a : List UInt8} {L : Txs} {s : List UInt8} (h : Op.bytesLess a s = false) (hne : a ≠ s) : putL (a :: L) s = s :: a :: L := by
 have e : putAt (a :: L) s = 0 := by simp [putAt, List.takeWhile_cons, h]
 unfold putL
 rw [e]
 simp [hne]
theorem put_mem_iff (s x : List UInt8) : ∀ L : Txs, x ∈ putL L s ↔ x = s ∨ x ∈ L
 | [] => by rw [put_nil]; simp
 | a :: L => by
  cases h : Op.bytesLess a s with
  | true => rw [put_cons_t h, List.mem_cons, put_mem_iff s x L, List.mem_cons]; constructor <;> rintro (h | h | h) <;> simp [h]
  | false =>
   by_cases e : a = s
   ·subst e; rw [put_cons_eq, List.mem_cons]; constructor
    ·exact .inr
    ·rintro (h | h)
     ·exact .inl h
     ·exact h
   ·rw [put_cons_gt h e, List.mem_cons]
theorem srt_put (s : List UInt8) : ∀ L : Txs, Srt L → Srt (putL L s)
 | [], _ => by rw [put_nil]; exact List.pairwise_singleton _ _
 | a :: L, hL => by
  have hL' := List.pairwise_cons.1 hL
  cases h : Op.bytesLess a s with
  | true =>
   rw [put_cons_t h]
   refine List.pairwise_cons.2 ⟨fun y hy => ?_, srt_put s L hL'.2⟩
   rcases (put_mem_iff s y L).1 hy with rfl | hy
   ·exact h
   ·exact hL'.1 y hy
  | false =>
   by_cases e : a = s
   ·subst e; rw [put_cons_eq]; exact hL
   ·rw [put_cons_gt h e]
    have hsa : Op.bytesLess s a = true := by
     cases h2 : Op.bytesLess s a with
     | true => rfl
     | false => exact absurd (bl_tri _ _ h h2) e
    refine List.pairwise_cons.2 ⟨fun y hy => ?_, hL⟩
    rcases List.mem_cons.1 hy with rfl | hy
    ·exact hsa
    ·exact bl_tr _ _ _ hsa (hL'.1 y hy)
theorem srt_fold : ∀ (ys L : Txs), Srt L → Srt (ys.foldl putL L)
 | [], _, h => h
 | a :: ys, L, h => srt_fold ys (putL L a) (srt_put a L h)
theorem fold_mem_iff (x : List UInt8) : ∀ (ys L : Txs), x ∈ ys.foldl putL L ↔ x ∈ L ∨ x ∈ ys
 | [], L => by simp
 | a :: ys, L => by
  rw [List.foldl_cons, fold_mem_iff x ys (putL L a), put_mem_iff, List.mem_cons]
  constructor
  ·rintro ((h | h) | h)
   ·exact .inr (.inl h)
   ·exact .inl h
   ·exact .inr (.inr h)
  ·rintro (h | h | h)
   ·exact .inl (.inr h)
   ·exact .inl (.inl h)
   ·exact .inr h
theorem compact_srt (zs : Txs) (hs : ∀ i j, i ≤ j → j < zs.length → Op.bytesLess (zs.toArray[j]!) (zs.toArray[i]!) = false) : ∀ m, m ≤ zs.length → Srt (Lib.compactUpTo zs.toArray m) ∧ ∀ x, x ∈ Lib.compactUpTo zs.toArray m ↔ ∃ j, j < m ∧ zs.toArray[j]! = x
 | 0, _ => ⟨List.Pairwise.nil, fun x => ⟨fun h => (by cases h), fun ⟨j, hj, _⟩ => absurd hj (Nat.not_lt_zero _)⟩⟩
 | m + 1, hm => by
  obtain ⟨h1, h2⟩ := compact_srt zs hs m (Nat.le_of_succ_le hm)
  rw [Lib.compactUpTo_succ]
  cases hk : Lib.keeps zs.toArray m with
  | true =>
   rw [if_pos rfl]
   refine ⟨List.pairwise_append.2 ⟨h1, List.pairwise_singleton _ _, fun x hx y hy => ?_⟩, fun x => ⟨fun hx => ?_, fun hx => ?_⟩⟩
   ·rw [List.mem_singleton] at hy
    subst hy
    obtain ⟨j, hj, rfl⟩ := (h2 x).1 hx
    have hne : zs.toArray[m]! ≠ zs.toArray[m - 1]! := by
     have := of_decide_eq_true hk
     exact this.resolve_left (by omega)
    have h3 : Op.bytesLess (zs.toArray[m - 1]!) (zs.toArray[m]!) = true := by
     cases h4 : Op.bytesLess (zs.toArray[m - 1]!) (zs.toArray[m]!) with
     | true => rfl
     | false => exact absurd (bl_tri _ _ (hs (m - 1) m (by omega) hm) h4) hne
    have h5 := hs j (m - 1) (by omega) (by omega)
    cases h6 : Op.bytesLess (zs.toArray[j]!) (zs.toArray[m - 1]!) with
    | true => exact bl_tr _ _ _ h6 h3
    | false => rw [bl_tri _ _ h6 h5]; exact h3
   ·rcases List.mem_append.1 hx with hx | hx
    ·obtain ⟨j, hj, e⟩ := (h2 x).1 hx
     exact ⟨j, Nat.lt_succ_of_lt hj, e⟩
    ·exact ⟨m, Nat.lt_succ_self m, (List.mem_singleton.1 hx).symm⟩
   ·obtain ⟨j, hj, e⟩ := hx
    rcases Nat.lt_succ_iff_lt_or_eq.1 hj with hj | rfl
    ·exact List.mem_append.2 (.inl ((h2 x).2 ⟨j, hj, e⟩))
    ·exact List.mem_append.2 (.inr (List.mem_singleton.2 e.symm))
  | false =>
   rw [if_neg (by simp), List.append_nil]
   have hk2 := of_decide_eq_false hk
   have hm0 : m ≠ 0 := fun e => hk2 (.inl e)
   have heq : zs.toArray[m]! = zs.toArray[m - 1]! := Decidable.byContradiction fun h => hk2 (.inr h)
   refine ⟨h1, fun x => ⟨fun hx => ?_, fun hx => ?_⟩⟩
   ·obtain ⟨j, hj, e⟩ := (h2 x).1 hx
    exact ⟨j, Nat.lt_succ_of_lt hj, e⟩
   ·obtain ⟨j, hj, e⟩ := hx
    rcases Nat.lt_succ_iff_lt_or_eq.1 hj with hj | rfl
    ·exact (h2 x).2 ⟨j, hj, e⟩
    ·exact (h2 x).2 ⟨j - 1, by omega, by rw [← heq]; exact e⟩
theorem arr_get (zs : Txs) {j : Nat} (h : j < zs.length) : zs.toArray[j]! = zs[j] := by
 rw [getElem!_pos zs.toArray j (by simpa using h)]
 simp
theorem srtC_eq (ys : Txs) : srtC ys = ys.foldl putL [] := by
 unfold srtC
 obtain ⟨zs, hz⟩ : ∃ zs, ys.mergeSort (fun x y => decide (x ≤ y)) = zs := ⟨_, rfl⟩
 have hp : zs.Pairwise fun x y => Op.bytesLess y x = false := by
  have := List.pairwise_mergeSort (le := fun x y : List UInt8 => decide (x ≤ y)) (fun a b c h1 h2 => by
   rw [le_bl] at *
   cases h3 : Op.bytesLess c a with
   | false => rfl
   | true =>
    cases h4 : Op.bytesLess b a with
    | true => rw [h4] at h1; cases h1
    | false =>
     cases h5 : Op.bytesLess a b with
     | true => have := bl_tr _ _ _ h3 h5; rw [this] at h2; cases h2
     | false => rw [bl_tri _ _ h5 h4] at h3; rw [h3] at h2; cases h2) (fun a b => by
   rw [le_bl, le_bl]
   cases h : Op.bytesLess b a with
   | false => rfl
   | true => rw [bl_asym h]; rfl) ys
  rw [hz] at this
  exact this.imp fun h => by rw [le_bl] at h; simpa using h
 have hmem : ∀ x, x ∈ zs ↔ x ∈ ys := fun x => by rw [← hz]; exact List.mem_mergeSort
 rw [hz]
 have hs : ∀ i j, i ≤ j → j < zs.length → Op.bytesLess (zs.toArray[j]!) (zs.toArray[i]!) = false := fun i j hij hj => by
  rcases Nat.lt_or_eq_of_le hij with h | rfl
  ·rw [arr_get zs hj, arr_get zs (Nat.lt_trans h hj)]
   exact List.pairwise_iff_getElem.1 hp i j _ hj h
  ·exact bl_irr _
 obtain ⟨h1, h2⟩ := compact_srt zs hs zs.length (Nat.le_refl _)
 refine srt_ext _ _ h1 (srt_fold ys [] List.Pairwise.nil) fun x => ?_
 rw [fold_mem_iff, show Lib.compact zs = Lib.compactUpTo zs.toArray zs.length from rfl, h2 x, ← hmem x]
 constructor
 ·rintro ⟨j, hj, e⟩
  rw [arr_get zs hj] at e
  exact .inr (e ▸ List.getElem_mem hj)
 ·rintro (h | h)
  ·cases h
  ·obtain ⟨j, hj, e⟩ := List.getElem_of_mem h
   exact ⟨j, hj, by rw [arr_get zs hj]; exact e⟩
theorem decode_low {S : ByteArray} {i : Nat} (h : (S.get! i).toNat < 128) : Utf8.decode S i = ((S.get! i).toNat, 1) := by
 unfold Utf8.decode
 simp only [Nat.add_zero]
 rw [if_pos h]
theorem decode_high {S : ByteArray} {i : Nat} (h : 128 ≤ (S.get! i).toNat) : 128 ≤ (Utf8.decode S i).1 := by
 unfold Utf8.decode
 simp only [Nat.add_zero]
 rw [if_neg (by omega)]
 repeat' split
 all_goals first
  | (simp only [Utf8.runeError]; omega)
  | (simp only [ge_iff_le, Bool.and_eq_true, decide_eq_true_eq] at *; omega)
theorem idx_from (s : List UInt8) : ∀ f pos : Nat, s.length ≤ pos + f → (decide (Lib.idxFuncFrom oddP true ⟨s.toArray⟩ f pos < 0) = (s.drop pos).all okC)
 | 0, pos, h => by
  rw [List.drop_eq_nil_of_le (by omega)]; rfl
 | f + 1, pos, h => by
  unfold Lib.idxFuncFrom
  have hsz : (ByteArray.mk s.toArray).size = s.length := by simp [ByteArray.size]
  by_cases hp : pos < s.length
  ·rw [hsz, if_pos hp]
   have hg : (ByteArray.mk s.toArray).get! pos = s[pos] := by
    simp [ByteArray.get!, getElem!_pos, hp]
   rw [List.drop_eq_getElem_cons hp, List.all_cons]
   cases hc : okC s[pos] with
   | true =>
    have hb : 32 ≤ s[pos].toNat ∧ s[pos].toNat ≤ 126 := by
     unfold okC at hc
     simpa using hc
    have hd : Utf8.decode ⟨s.toArray⟩ pos = (s[pos].toNat, 1) := by
     rw [decode_low (by rw [hg]; omega), hg]
    have ho : oddP s[pos].toNat = false := by
     unfold oddP
     rw [decide_eq_false (by omega), decide_eq_false (by omega)]; rfl
    rw [hd, ho, if_neg (by simp), idx_from s f (pos + 1) (by omega), Bool.true_and]
   | false =>
    have hb : ¬ (32 ≤ s[pos].toNat ∧ s[pos].toNat ≤ 126) := fun hh => by
     unfold okC at hc
     rw [decide_eq_true hh.1, decide_eq_true hh.2] at hc; cases hc
    have ho : oddP (Utf8.decode ⟨s.toArray⟩ pos).1 = true := by
     by_cases hl : s[pos].toNat < 128
     ·rw [decode_low (by rw [hg]; exact hl), hg]
      unfold oddP
      simp only [Bool.or_eq_true, decide_eq_true_eq]; omega
     ·have := decode_high (S := ⟨s.toArray⟩) (i := pos) (by rw [hg]; omega)
      unfold oddP
      simp only [Bool.or_eq_true, decide_eq_true_eq]; omega
    rw [ho, if_pos rfl, Bool.false_and]
    exact decide_eq_false (by omega)
  ·rw [hsz, if_neg hp, List.drop_eq_nil_of_le (by omega)]; rfl
theorem idx_all (s : List UInt8) : ilt (idxI s) 0 = s.all okC := by
 have h1 := idx_from s s.length 0 (by omega)
 rw [List.drop_zero] at h1
 rw [← h1]
 have hsz : (ByteArray.mk s.toArray).size = s.length := by simp [ByteArray.size]
 unfold idxI Lib.idxFunc
 rw [hsz]
 exact ilt_eq _ _
theorem all_drop {s : List UInt8} {k : Nat} {t : List UInt8} (h : s.take k = t) (ht : t.all okC = true) : s.all okC = (s.drop k).all okC := by
 have h1 : s.all okC = ((s.take k).all okC && (s.drop k).all okC) := by rw [← List.all_append, List.take_append_drop]
 rw [h1, h, ht, Bool.true_and]
theorem splitL_cons (b : UInt8) (t : List UInt8) : splitL (b :: t) = if b = 10 then [] :: splitL t else consH b (splitL t) := rfl
theorem split_ne : ∀ s : List UInt8, splitL s ≠ []
 | [] => by simp [splitL]
 | b :: t => by
  rw [splitL_cons]
  split
  ·simp
  ·unfold consH; split <;> simp
theorem split_neg : ∀ s : List UInt8, Lib.indexByte s 10 < 0 → splitL s = [s]
 | [], _ => rfl
 | b :: t, h => by
  unfold Lib.indexByte at h
  by_cases hb : b = 10
  ·rw [hb] at h; simp at h
  ·rw [if_neg (by simpa using hb)] at h
   have h2 := Lib.indexByte_ge t 10
   have h3 : Lib.indexByte t 10 < 0 := by
    by_cases h4 : Lib.indexByte t 10 = -1
    ·omega
    ·rw [if_neg (by simpa using h4)] at h; omega
   rw [splitL_cons, if_neg hb, split_neg t h3]; rfl
theorem split_pos : ∀ s : List UInt8, 0 ≤ Lib.indexByte s 10 → splitL s = s.take (Lib.indexByte s 10).toNat :: splitL (s.drop ((Lib.indexByte s 10).toNat + 1)) ∧ (Lib.indexByte s 10).toNat < s.length
 | [], h => by simp [Lib.indexByte] at h
 | b :: t, h => by
  unfold Lib.indexByte at h ⊢
  by_cases hb : b = 10
  ·subst hb
   rw [if_pos (by simp)]
   simp [splitL]
  ·rw [if_neg (by simpa using hb)] at h ⊢
   by_cases h4 : Lib.indexByte t 10 = -1
   ·rw [if_pos (by simpa using h4)] at h; omega
   ·rw [if_neg (by simpa using h4)] at h ⊢
    have h2 := Lib.indexByte_ge t 10
    obtain ⟨h5, h6⟩ := split_pos t (by omega)
    have h7 : (Lib.indexByte t 10 + 1).toNat = (Lib.indexByte t 10).toNat + 1 := by omega
    rw [h7, List.take_succ_cons, List.drop_succ_cons, List.length_cons]
    refine ⟨?_, by omega⟩
    rw [splitL_cons, if_neg hb, h5]; rfl
theorem split_count : ∀ s : List UInt8, (splitL s).length = Lib.countByte s 10 + 1
 | [] => rfl
 | b :: t => by
  have ih := split_count t
  unfold Lib.countByte at *
  rw [splitL_cons]
  by_cases hb : b = 10
  ·rw [if_pos hb, List.length_cons, ih, hb, List.count_cons_self]
  ·rw [if_neg hb, List.count_cons_of_ne hb]
   rw [← ih]
   obtain ⟨h, r, e⟩ : ∃ h r, splitL t = h :: r := List.exists_cons_of_ne_nil (split_ne t)
   rw [e]; rfl
theorem scan_split : ∀ (s : List UInt8) (D : Txs) (l : List UInt8), (s.foldl scanB (D, l)).1 ++ [(s.foldl scanB (D, l)).2] = D ++ consL l (splitL s)
 | [], D, l => by simp [consL, splitL]
 | b :: t, D, l => by
  rw [List.foldl_cons, splitL_cons]
  by_cases hb : b = 10
  ·rw [if_pos hb, show scanB (D, l) b = (D ++ [l], []) from if_pos hb, scan_split t]
   obtain ⟨h, r, e⟩ : ∃ h r, splitL t = h :: r := List.exists_cons_of_ne_nil (split_ne t)
   rw [e]; simp [consL]
  ·rw [if_neg hb, show scanB (D, l) b = (D, l ++ [b]) from if_neg hb, scan_split t]
   obtain ⟨h, r, e⟩ : ∃ h r, splitL t = h :: r := List.exists_cons_of_ne_nil (split_ne t)
   rw [e]; simp [consL, consH]
def scanK (s : List UInt8) (k : Nat) : Txs × List UInt8 := (s.take k).foldl scanB ([], [])
theorem split_scan (s : List UInt8) : splitL s = (scanK s s.length).1 ++ [(scanK s s.length).2] := by
 unfold scanK
 rw [List.take_length, scan_split]
 obtain ⟨h, r, e⟩ : ∃ h r, splitL s = h :: r := List.exists_cons_of_ne_nil (split_ne s)
 rw [e]; rfl
theorem take_succD (s : List UInt8) (k : Nat) (h : k < s.length) : s.take (k + 1) = s.take k ++ [s.getD k 0] := take_succE s 0 k h
theorem scanK_succ (s : List UInt8) (k : Nat) (h : k < s.length) : scanK s (k + 1) = scanB (scanK s k) (s.getD k 0) := by
 unfold scanK
 rw [take_succD s k h, List.foldl_append]; rfl
structure LineI (s : List UInt8) (k : Nat) : Prop where
 le : (scanK s k).2.length ≤ k
 dr : (s.take k).drop (k - (scanK s k).2.length) = (scanK s k).2
 eq : lineK s k = ((scanK s k).1.foldl stepR (some [])).map fun out => ⟨out, k - (scanK s k).2.length⟩
theorem lineI (s : List UInt8) : ∀ k, k ≤ s.length → LineI s k
 | 0, _ => ⟨Nat.le_refl _, by simp [scanK], rfl⟩
 | k + 1, hk => by
  have ih := lineI s k (Nat.le_of_succ_le hk)
  have hs := scanK_succ s k hk
  obtain ⟨D, l, e⟩ : ∃ D l, scanK s k = (D, l) := ⟨_, _, rfl⟩
  obtain ⟨hle, hdr, heq⟩ := ih
  rw [e] at hs hle hdr heq
  simp only at hle hdr heq
  by_cases hc : s.getD k 0 = 10
  ·have hs2 : scanK s (k + 1) = (D ++ [l], []) := by rw [hs, scanB, if_pos hc]
   refine ⟨by rw [hs2]; exact Nat.zero_le _, by rw [hs2]; simp, ?_⟩
   rw [hs2, lineK_succ, heq, List.foldl_append, List.foldl_cons, List.foldl_nil]
   cases hD : D.foldl stepR (some []) with
   | none => rfl
   | some out =>
    show lineSome s ⟨out, k - l.length⟩ k = _
    unfold lineSome stepR
    rw [if_pos hc]
    simp only [hdr]
    by_cases h1 : l = [] ∨ l.getD 0 0 = 35
    ·rw [if_pos h1, if_pos h1]; rfl
    ·rw [if_neg h1, if_neg h1]
     by_cases h2 : lineBad l = true
     ·rw [if_pos h2, if_pos h2]; rfl
     ·rw [if_neg h2, if_neg h2]; rfl
  ·have hs2 : scanK s (k + 1) = (D, l ++ [s.getD k 0]) := by rw [hs, scanB, if_neg hc]
   have hsub : k + 1 - (l.length + 1) = k - l.length := by omega
   refine ⟨by rw [hs2]; simp; omega, ?_, ?_⟩
   ·rw [hs2, take_succD s k hk]
    simp only [List.length_append, List.length_singleton, hsub]
    rw [List.drop_append_of_le_length (by simp; omega), hdr]
   ·rw [hs2, lineK_succ, heq]
    simp only [List.length_append, List.length_singleton, hsub]
    cases hD : D.foldl stepR (some []) with
    | none => rfl
    | some out =>
     show lineSome s ⟨out, k - l.length⟩ k = _
     unfold lineSome
     rw [if_neg hc]; rfl
theorem step_none : ∀ M : Txs, M.foldl stepP none = none
 | [] => rfl
 | _ :: M => step_none M
theorem step_none_r : ∀ M : Txs, M.foldl stepR none = none
 | [] => rfl
 | _ :: M => step_none_r M
theorem lineBad_may {l : List UInt8} (h : ¬ lineBad l = true) : mayL (l.drop 6) = true := by
 unfold lineBad at h
 simp only [Bool.or_eq_true, Bool.not_eq_true', not_or, Bool.not_eq_false] at h
 exact h.2
theorem fold_RP : ∀ (M out : Txs), (∀ y ∈ out, mayL y = true) → M.foldl stepR (some (lstL out)) = (M.foldl stepP (some out)).map lstL
 | [], _, _ => rfl
 | l :: M, out, ho => by
  rw [List.foldl_cons, List.foldl_cons]
  unfold stepR stepP
  simp only
  by_cases h1 : l = [] ∨ l.getD 0 0 = 35
  ·rw [if_pos h1, if_pos h1]; exact fold_RP M out ho
  ·rw [if_neg h1, if_neg h1]
   by_cases h2 : lineBad l = true
   ·rw [if_pos h2, if_pos h2]
    have h3 := step_none M; have h4 := step_none_r M
    unfold stepP at h3; unfold stepR at h4
    rw [h3, h4]; rfl
   ·rw [if_neg h2, if_neg h2]
    have hm := lineBad_may h2
    have hput : putL (lstL out) (l.drop 6) = lstL (out ++ [l.drop 6]) := by
     unfold lstL
     rw [List.filter_append, List.foldl_append, List.filter_cons, if_pos hm]; rfl
    rw [hput]
    refine fold_RP M (out ++ [l.drop 6]) fun y hy => ?_
    rcases List.mem_append.1 hy with hy | hy
    ·exact ho y hy
    ·rw [List.mem_singleton.1 hy]; exact hm
theorem ends_scan (s : List UInt8) : (s ≠ [] ∧ endsN s = false) ↔ (scanK s s.length).2 ≠ [] := by
 rcases List.eq_nil_or_concat s with rfl | ⟨u, c, rfl⟩
 ·simp [scanK]
 ·have hsc : scanK (u ++ [c]) (u ++ [c]).length = scanB (scanK u u.length) c := by
   unfold scanK
   rw [List.take_length, List.take_length, List.foldl_append]; rfl
  have hend : endsN (u ++ [c]) = decide (c = 10) := by
   unfold endsN
   rw [show (u ++ [c]).length - 1 = u.length by simp, List.drop_left]
   simp
  rw [List.concat_eq_append, hsc, hend, scanB]
  by_cases hc : c = 10
  ·rw [if_pos hc]; simp [hc]
  ·rw [if_neg hc]; simp [hc]
theorem of_eq (s : List UInt8) : ofP s = ofR s := by
 have hI := lineI s s.length (Nat.le_refl _)
 have hE := ends_scan s
 unfold ofP ofR
 rw [hI.eq, split_scan s, List.foldl_append]
 have hRP := fold_RP (scanK s s.length).1 [] (fun _ h => by cases h)
 rw [show lstL [] = [] from rfl] at hRP
 rw [hRP]
 by_cases h : (scanK s s.length).2 = []
 ·rw [if_neg (fun h2 => (hE.1 h2) h), h]
  cases (scanK s s.length).1.foldl stepP (some []) with
  | none => rfl
  | some out => simp [stepP]
 ·rw [if_pos (hE.2 h)]
  have hlen : 0 < (scanK s s.length).2.length := List.length_pos_iff.2 h
  have hle := hI.le
  cases (scanK s s.length).1.foldl stepP (some []) with
  | none => rfl
  | some out =>
   simp only [Option.map_some]
   rw [if_pos (by omega)]
end Go.Proofs.YtenbcoedkeddgaaGreatDoor
