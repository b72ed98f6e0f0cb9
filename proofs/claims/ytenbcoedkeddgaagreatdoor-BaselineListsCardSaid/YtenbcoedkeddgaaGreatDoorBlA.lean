/- Laid by program out of its parts: BlA, BlB, BlC. -/
import Derived.Test.YtenbcoedkeddgaaGreatDoorMi
import Derived.Test.YtenbcoedkeddgaaGreatDoorMh
import Derived.Test.YtenbcoedkeddgaaGreatDoorMj
import Derived.KernelRfl
import Derived.Test.YtenbcoedkeddgaaGreatDoorProg
set_option linter.unusedVariables false
set_option linter.unusedSimpArgs false
section
set_option maxRecDepth 100000
open Go Go.Ev
namespace Go.Proofs.YtenbcoedkeddgaaGreatDoor
theorem fol : Tryz.prog.follows .mixedOrders = true := by rfl
noncomputable def lpL (l : List (Nat × Nat × Stn)) (f r : Nat) : Option Stn := List.rec (motive := fun _ => Option Stn) none (fun p _ ih => cond (cond (Nat.beq f p.1) (Nat.beq r p.2.1) false) (some p.2.2) ih) l
noncomputable def cxL (tb : Tbl) (lp cut : List (Nat × Nat × Stn)) : Ctx := { P := Tryz.prog, tb := tb, lp := lpL lp, cut := lpL cut }
def sRace : List UInt8 := [114, 97, 99, 101, 32]
def sCycle : List UInt8 := [99, 121, 99, 108, 101, 32]
def sAllow : List UInt8 := [97, 108, 108, 111, 119, 32]
def okC (b : UInt8) : Bool := decide (32 ≤ b.toNat) && decide (b.toNat ≤ 126)
def hR (s : List UInt8) : Bool := decide (5 < s.length) && decide (s.take 5 = sRace)
def hC (s : List UInt8) : Bool := decide (6 < s.length) && decide (s.take 6 = sCycle)
def headL (s : List UInt8) : Bool := hR s || hC s
def mayL (s : List UInt8) : Bool := headL s && s.all okC
structure OkK (s : List UInt8) (k : Nat) : Prop where
 le : k ≤ s.length
 al : ∀ j, j < k → okC (s.getD j 0) = true
noncomputable def SMr (s : List UInt8) : Stn := thin Nat [0, 3] (fun k => [(4, .int .i64 k)]) (fun _ => OkK s) fun k => s.length - k
structure HeadI (s : List UInt8) (a : Int) : Prop where
 hd : ilt 0 a = headL s
structure HeadR (s : List UInt8) (a : Int) : Prop where
 hd : ilt 0 a = hR s
noncomputable def CMr (s : List UInt8) : Stn := thin Int [0] (fun a => [(3, .int .i64 a)]) (fun _ => HeadI s) fun _ => 0
noncomputable def CMr4 (s : List UInt8) : Stn := thin Int [0] (fun a => [(3, .int .i64 a)]) (fun _ => HeadR s) fun _ => 0
noncomputable def eMay : Tr AObj → List AV → Option Ct := fun _ args => match args with
 | [.bs s] => some (.need (s.length ≤ 1000000) (.ret (.bool (bar (mayL s)))))
 | _ => none
theorem lit_str (l : List UInt8) : bytesL (List.length (Array.toList (ByteArray.data (ByteArray.mk l.toArray)))) (packL (Array.toList (ByteArray.data (ByteArray.mk l.toArray)))) = l := bytesL_packL l
theorem OkK.zero (s : List UInt8) : OkK s 0 := ⟨Nat.zero_le _, fun _ h => absurd h (Nat.not_lt_zero _)⟩
theorem OkK.succ {s : List UInt8} {k : Nat} (h : OkK s k) (hk : k < s.length) (hn : okC (s.getD k 0) = true) : OkK s (k + 1) := ⟨hk, fun j hj => by
 rcases Nat.lt_succ_iff_lt_or_eq.1 hj with h1 | rfl
 ·exact h.al j h1
 ·exact hn⟩
theorem OkK.all {s : List UInt8} {k : Nat} (h : OkK s k) (hk : k = s.length) : s.all okC = true := by
 rw [List.all_eq_true]
 intro x hx
 obtain ⟨j, hj, rfl⟩ := List.getElem_of_mem hx
 have := h.al j (by omega)
 rw [List.getD_eq_getElem?_getD, List.getElem?_eq_getElem hj] at this
 simpa using this
theorem all_miss {s : List UInt8} {k : Nat} (hk : k < s.length) (hn : okC (s.getD k 0) = false) : s.all okC = false := by
 rw [List.all_eq_false]
 rw [List.getD_eq_getElem?_getD, List.getElem?_eq_getElem hk] at hn
 exact ⟨s[k], List.getElem_mem hk, by simpa using hn⟩
theorem okC_lo {b : UInt8} (h : ilt (b.toNat : Int) 32 = true) : okC b = false := by
 have := ilt_iff.1 h
 unfold okC
 rw [decide_eq_false (by omega)]; rfl
theorem okC_hi {b : UInt8} (h : ilt 126 (b.toNat : Int) = true) : okC b = false := by
 have := ilt_iff.1 h
 unfold okC
 rw [decide_eq_false (show ¬ b.toNat ≤ 126 by omega), Bool.and_false]
theorem okC_in {b : UInt8} (h : ilt (b.toNat : Int) 32 = false) (h2 : ilt 126 (b.toNat : Int) = false) : okC b = true := by
 have := ilt_iffn.1 h
 have := ilt_iffn.1 h2
 unfold okC
 rw [decide_eq_true (by omega), decide_eq_true (by omega)]; rfl
theorem runMr_r : ∀ (s : List UInt8), Nat.le (List.length s) 1000000 → brP (ilt (5 : Int) (Int.ofNat (List.length s))) (sdA (bif inL (5 : Int) (List.length s) then true else false) (brP (decide (List.take 5 s = [(114 : UInt8), (97 : UInt8), (99 : UInt8), (101 : UInt8), (32 : UInt8)])) (∃ (x : Int), HeadR s x ∧ true = true ∧ ((true = true ∧ (5 : Int) = x) ∧ s = s ∧ True) ∧ True) (∃ (x : Int), HeadR s x ∧ true = true ∧ ((true = true ∧ (0 : Int) = x) ∧ s = s ∧ True) ∧ True))) (∃ (x : Int), HeadR s x ∧ true = true ∧ ((true = true ∧ (0 : Int) = x) ∧ s = s ∧ True) ∧ True) ∧ ∀ (x : Int), HeadR s x → brP (ilt (6 : Int) (Int.ofNat (List.length s))) (sdA (bif inL (6 : Int) (List.length s) then true else false) (brP (decide (List.take 6 s = [(99 : UInt8), (121 : UInt8), (99 : UInt8), (108 : UInt8), (101 : UInt8), (32 : UInt8)])) (∃ (x : Int), HeadI s x ∧ true = true ∧ ((true = true ∧ (6 : Int) = x) ∧ s = s ∧ True) ∧ True) (∃ (x_1 : Int), HeadI s x_1 ∧ true = true ∧ ((true = true ∧ x = x_1) ∧ s = s ∧ True) ∧ True))) (∃ (x_1 : Int), HeadI s x_1 ∧ true = true ∧ ((true = true ∧ x = x_1) ∧ s = s ∧ True) ∧ True) ∧ ∀ (x : Int), HeadI s x → (∃ (x0 : Nat), OkK s x0 ∧ true = true ∧ ((true = true ∧ (0 : Int) = (↑x0 : Int)) ∧ s = s ∧ (true = true ∧ x = x) ∧ True) ∧ True) ∧ ∀ (x_1 : Nat), OkK s x_1 → brP (ilt (↑x_1 : Int) (Int.ofNat (List.length s))) (sdA (inB (↑x_1 : Int) (List.length s)) (brP (ilt (↑(UInt8.toNat (List.getD s (Int.toNat (↑x_1 : Int)) (0 : UInt8))) : Int) (32 : Int)) (false = mayL s) (sdA (inB (↑x_1 : Int) (List.length s)) (brP (ilt (126 : Int) (↑(UInt8.toNat (List.getD s (Int.toNat (↑x_1 : Int)) (0 : UInt8))) : Int)) (false = mayL s) (sdA (inR IntKind.i64 ((↑x_1 : Int) + (1 : Int))) (∃ (x' : Nat), OkK s x' ∧ Nat.le (Nat.succ (List.length s - x')) (List.length s - x_1) ∧ true = true ∧ ((true = true ∧ (↑x_1 : Int) + (1 : Int) = (↑x' : Int)) ∧ s = s ∧ (true = true ∧ x = x) ∧ True) ∧ True)))))) (ilt (0 : Int) x = mayL s)
:= by
 intro s hl
 have hl : s.length ≤ 1000000 := hl
 have t5 : dropO none 0 (takeO (some (Operand.const (Value.int IntKind.i64 (5 : Int)))) (Int.toNat 5) s) = s.take 5 := rfl
 have t6 : dropO none 0 (takeO (some (Operand.const (Value.int IntKind.i64 (6 : Int)))) (Int.toNat 6) s) = s.take 6 := rfl
 simp only [lit_str]
 simp only [barr_eq, bar_eq, true_and, and_true, eq_self, implies_true, Nat.le_eq, cond_tf, cond_cf, nif_tf, Int.toNat_natCast, Int.ofNat_eq_natCast, Nat.ble_eq, Nat.ble_self_eq_true, Bool.true_and, Bool.and_true, Bool.and_self, Option.some.injEq, AV.int.injEq, rowB_self, allBR_self, Nat.mul_one, Nat.beq_refl, allI_true, cond_true, cond_false, ieq_self, Bool.not_true, Bool.not_false, decide_true, brP_f, brP_t, sdA_t, bytesL_packL, List.nil_append]
 try rw [t5, t6]
 refine ⟨brP_of (fun h => ?_) (fun h => ?_), fun x hx => ⟨?_, fun y hy => ⟨⟨0, OkK.zero s, rfl⟩, fun k hk => ?_⟩⟩⟩
 ·have := ilt_iff.1 h
  refine sdA_of (inL_iff.2 ⟨by omega, by omega⟩) (brP_of (fun h2 => ⟨5, ⟨?_⟩, rfl⟩) (fun h2 => ⟨0, ⟨?_⟩, rfl⟩))
  ·have h3 : decide (s.take 5 = sRace) = true := h2
   rw [hR, decide_eq_true (by omega), h3]; rfl
  ·have h3 : decide (s.take 5 = sRace) = false := h2
   rw [hR, h3, Bool.and_false]; rfl
 ·have := ilt_iffn.1 h
  exact ⟨0, ⟨by rw [hR, decide_eq_false (by omega)]; rfl⟩, rfl⟩
 ·have hno : hC s = false → ∃ y, HeadI s y ∧ x = y := fun h => ⟨x, ⟨by rw [hx.hd, headL, h, Bool.or_false]⟩, rfl⟩
  refine brP_of (fun h => ?_) (fun h => ?_)
  ·have := ilt_iff.1 h
   refine sdA_of (inL_iff.2 ⟨by omega, by omega⟩) (brP_of (fun h2 => ⟨6, ⟨?_⟩, rfl⟩) (fun h2 => hno ?_))
   ·have h3 : decide (s.take 6 = sCycle) = true := h2
    rw [headL, hC, decide_eq_true (by omega), h3]; simp [ilt_eq]
   ·have h3 : decide (s.take 6 = sCycle) = false := h2
    rw [hC, h3, Bool.and_false]
  ·have := ilt_iffn.1 h
   exact hno (by rw [hC, decide_eq_false (by omega)]; rfl)
 ·refine brP_of (fun h => ?_) (fun h => ?_)
  ·have hlt : k < s.length := by have := ilt_iff.1 h; omega
   have hin : inB (k : Int) s.length = true := inB_iff.2 ⟨by omega, by omega⟩
   refine sdA_of hin (brP_of (fun h2 => ?_) (fun h2 => sdA_of hin (brP_of (fun h3 => ?_) (fun h3 => ?_))))
   ·rw [mayL, all_miss hlt (okC_lo h2), Bool.and_false]
   ·rw [mayL, all_miss hlt (okC_hi h3), Bool.and_false]
   ·exact sdA_of (inR_i64.2 ⟨by omega, by omega⟩) ⟨k + 1, hk.succ hlt (okC_in h2 h3), by omega, by simp⟩
  ·have hlt := ilt_iffn.1 h
   rw [mayL, hk.all (by have := hk.le; omega), Bool.and_true, hy.hd]
theorem runMr : ∀ s : List UInt8, s.length ≤ 1000000 → (cRun (cxL [] [(11, 7, SMr s)] [(11, 4, CMr4 s), (11, 6, CMr s)]) 60).call 11 [.bs s] .leaf 0 (ResM Tryz.prog false (.bool (mayL s))) :=
 Eq.mpr (by kernel_rfl) runMr_r
end Go.Proofs.YtenbcoedkeddgaaGreatDoor
end
section
set_option maxRecDepth 100000
open Go Go.Ev
namespace Go.Proofs.YtenbcoedkeddgaaGreatDoor
abbrev Txs := List (List UInt8)
def putAt (L : Txs) (s : List UInt8) : Nat := (L.takeWhile fun x => Op.bytesLess x s).length
def putL (L : Txs) (s : List UInt8) : Txs := bif decide (putAt L s < L.length) && decide (L.getD (putAt L s) [] = s) then L else L.take (putAt L s) ++ [s] ++ L.drop (putAt L s)
structure PutK (L : Txs) (s : List UInt8) (k : Nat) : Prop where
 le : k ≤ L.length
 al : ∀ j, j < k → Op.bytesLess (L.getD j []) s = true
noncomputable def SPut (L : Txs) (s : List UInt8) : Stn := thin Nat [0, 1, 2] (fun k => [(7, .int .i64 k)]) (fun _ => PutK L s) fun k => L.length - k
noncomputable def ePut : Tr AObj → List AV → Option Ct := fun _ args => match args with
 | [.vec 1 n f, .bs s, .bool true] => some (.need (allTx n f = true ∧ n ≤ 1000000) (.ret (.vec 1 (barr (putL (rowTx n f) s)).length (rT (barr (putL (rowTx n f) s))))))
 | _ => none
structure SameK (L M : Txs) (k : Nat) : Prop where
 le : k ≤ L.length
 al : ∀ j, j < k → L.getD j [] = M.getD j []
noncomputable def SSame (L M : Txs) : Stn := thin Nat [0, 1] (fun k => [(5, .int .i64 k)]) (fun _ => SameK L M) fun k => L.length - k
noncomputable def eSame : Tr AObj → List AV → Option Ct := fun _ args => match args with
 | [.vec 1 n f, .vec 1 m g] => some (.need (allTx n f = true ∧ allTx m g = true ∧ n ≤ 1000000 ∧ m ≤ 1000000) (.ret (.bool (bar (decide (rowTx n f = rowTx m g))))))
 | _ => none
def lstL (L : Txs) : Txs := (L.filter mayL).foldl putL []
structure LstK (L : Txs) (x : Nat × Txs) : Prop where
 le : x.1 ≤ L.length
 eq : x.2 = lstL (L.take x.1)
 ln : x.2.length ≤ x.1
noncomputable def SLst (L : Txs) : Stn := thin (Nat × Txs) [0] (fun x => [(3, .vec 1 x.2.length (rT x.2)), (4, .int .i64 x.1)]) (fun _ => LstK L) fun x => L.length - x.1
noncomputable def tbB : Tbl := [(11, eMay), (21, ePut)]
theorem getD_getE {α : Type} (L : List α) (d : α) (k : Nat) (h : k < L.length) : L.getD k d = L[k] := by
 rw [List.getD_eq_getElem?_getD, List.getElem?_eq_getElem h]; rfl
theorem putM (L : Txs) (s : List UInt8) (k i : Nat) (hk : k ≤ L.length) : (L.take k ++ [s] ++ L.drop k).getD i [] = if i < k then L.getD i [] else if i = k then s else L.getD (i - 1) [] := by
 simp only [List.getD_eq_getElem?_getD, List.append_assoc, List.getElem?_append, List.length_take, List.getElem?_take, List.getElem?_drop, List.length_singleton]
 rw [Nat.min_eq_left hk]
 by_cases h : i < k
 ·rw [if_pos h, if_pos h, if_pos h]
 ·rw [if_neg h, if_neg h]
  by_cases h2 : i = k
  ·subst h2; simp
  ·rw [if_neg h2, if_neg (by omega), show k + (i - k - 1) = i - 1 by omega]
theorem putM_length (L : Txs) (s : List UInt8) (k : Nat) (hk : k ≤ L.length) : (L.take k ++ [s] ++ L.drop k).length = L.length + 1 := by
 simp; omega
theorem PutK.zero (L : Txs) (s : List UInt8) : PutK L s 0 := ⟨Nat.zero_le _, fun _ h => absurd h (Nat.not_lt_zero _)⟩
theorem PutK.succ {L : Txs} {s : List UInt8} {k : Nat} (h : PutK L s k) (hk : k < L.length) (hn : Op.bytesLess (L.getD k []) s = true) : PutK L s (k + 1) := ⟨hk, fun j hj => by
 rcases Nat.lt_succ_iff_lt_or_eq.1 hj with h1 | rfl
 ·exact h.al j h1
 ·exact hn⟩
theorem takeWhile_at {α : Type} (p : α → Bool) (d : α) : ∀ (L : List α) (k : Nat), k ≤ L.length → (∀ j, j < k → p (L.getD j d) = true) → (k < L.length → p (L.getD k d) = false) → (L.takeWhile p).length = k
 | [], k, h, _, _ => by simp at h; subst h; rfl
 | a :: L, 0, _, _, h => by
  have h1 : p a = false := h (by simp)
  rw [List.takeWhile_cons, h1]; rfl
 | a :: L, k + 1, h, h1, h2 => by
  have h3 : p a = true := h1 0 (Nat.succ_pos _)
  rw [List.takeWhile_cons, h3, if_pos rfl, List.length_cons, takeWhile_at p d L k (by simpa using h) (fun j hj => h1 (j + 1) (Nat.succ_lt_succ hj)) (fun hk => h2 (by simpa using hk))]
theorem PutK.at {L : Txs} {s : List UInt8} {k : Nat} (h : PutK L s k) (hn : k < L.length → Op.bytesLess (L.getD k []) s = false) : putAt L s = k :=
 takeWhile_at (fun x => Op.bytesLess x s) [] L k h.le h.al hn
theorem put_in {L : Txs} {s : List UInt8} {k : Nat} (h : putAt L s = k) (hk : k < L.length) (he : L.getD k [] = s) : putL L s = L := by
 unfold putL
 rw [h, decide_eq_true hk, decide_eq_true he]; rfl
theorem put_new {L : Txs} {s : List UInt8} {k : Nat} (h : putAt L s = k) (he : k < L.length → L.getD k [] ≠ s) : putL L s = L.take k ++ [s] ++ L.drop k := by
 unfold putL
 rw [h]
 by_cases hk : k < L.length
 ·rw [decide_eq_false (he hk), Bool.and_false]; rfl
 ·rw [decide_eq_false hk]; rfl
theorem ins_row {L : Txs} {s : List UInt8} {k : Nat} (hk : k ≤ L.length) (i : Nat) (hi : i < k + 1 + (L.length - k)) :
  appF (k + 1) (appF k (fun i => [AV.bs (L.getD i [])]) fun _ => [AV.bs s]) (fun i => [AV.bs (L.getD (k + i) [])]) i = [AV.bs ((L.take k ++ [s] ++ L.drop k).getD i [])] := by
 refine appF_row (fun h => appF_row (fun h => ?_) fun h => ?_) fun h => ?_
 ·rw [putM L s k i hk, if_pos (by omega)]
 ·rw [putM L s k i hk, if_neg (by omega), if_pos (by omega)]
 ·rw [putM L s k i hk, if_neg (by omega), if_neg (by omega)]
  congr 3; omega
theorem runPut_r : ∀ (L : Txs) (s : List UInt8), Nat.le (List.length L) 1000000 → (∃ (x0 : Nat), PutK L s x0 ∧ true = true ∧ ((true = true ∧ (0 : Int) = (↑x0 : Int)) ∧ (true = true ∧ List.length L = List.length L ∧ AllI fun (i : Nat) => Nat.le (Nat.succ i) (List.length L) → List.getD L i [] = List.getD L i [] ∧ True) ∧ s = s ∧ true = true ∧ True) ∧ True) ∧ ∀ (x : Nat), PutK L s x → brP (ilt (↑x : Int) (Int.ofNat (List.length L))) (sdA (inB (↑x : Int) (List.length L)) (brP (Op.bytesLess (List.getD L (Int.toNat (↑x : Int)) []) s) (sdA (inR IntKind.i64 ((↑x : Int) + (1 : Int))) (∃ (x' : Nat), PutK L s x' ∧ Nat.le (Nat.succ (List.length L - x')) (List.length L - x) ∧ true = true ∧ ((true = true ∧ (↑x : Int) + (1 : Int) = (↑x' : Int)) ∧ (true = true ∧ List.length L = List.length L ∧ AllI fun (i : Nat) => Nat.le (Nat.succ i) (List.length L) → List.getD L i [] = List.getD L i [] ∧ True) ∧ s = s ∧ true = true ∧ True) ∧ True)) (brP (ilt (↑x : Int) (Int.ofNat (List.length L))) (sdA (inB (↑x : Int) (List.length L)) (brP (decide (List.getD L (Int.toNat (↑x : Int)) [] = s)) ((true = true ∧ List.length L = List.length (barr (putL L s)) ∧ AllI fun (i : Nat) => Nat.le (Nat.succ i) (List.length L) → List.getD L i [] = List.getD (barr (putL L s)) i [] ∧ True) ∧ True) (sdA (bif inL (↑x : Int) (List.length L) then true else false) (sdA (bif goodR 1 (Int.toNat (↑x : Int)) fun (i : Nat) => [AV.bs (List.getD L i [])] then decide (Int.toNat (↑x : Int) ≤ 9223372036854775807 ∧ Int.toNat (↑x : Int) * 16 ≤ 140737488355328) else false) (sdA (bif bif Nat.ble (Int.toNat (↑x : Int) * 1) (Int.toNat (↑x : Int) * 1) then true else false then decide (Int.toNat (↑x : Int) + 1 ≤ 9223372036854775807 ∧ (Int.toNat (↑x : Int) + 1) * 16 ≤ 140737488355328) else false) (sdA (inL (↑x : Int) (List.length L)) (sdA (bif bif Nat.ble ((Int.toNat (↑x : Int) + 1) * 1) ((Int.toNat (↑x : Int) + 1) * 1) then goodR 1 (List.length L - Int.toNat (↑x : Int)) fun (i : Nat) => [AV.bs (List.getD L (Int.toNat (↑x : Int) + i) [])] else false then decide (Int.toNat (↑x : Int) + 1 + (List.length L - Int.toNat (↑x : Int)) ≤ 9223372036854775807 ∧ (Int.toNat (↑x : Int) + 1 + (List.length L - Int.toNat (↑x : Int))) * 16 ≤ 140737488355328) else false) (((True ∧ True) ∧ (True ∧ True) ∧ (True ∧ True) ∧ (True ∧ True) ∧ True) ∧ sdA (bif Nat.ble ((Int.toNat (↑x : Int) + 1 + (List.length L - Int.toNat (↑x : Int))) * 1) ((Int.toNat (↑x : Int) + 1 + (List.length L - Int.toNat (↑x : Int))) * 1) then goodR 1 (Int.toNat (↑x : Int) + 1 + (List.length L - Int.toNat (↑x : Int))) (appF (Int.toNat (↑x : Int) + 1) (appF (Int.toNat (↑x : Int)) (fun (i : Nat) => [AV.bs (List.getD L i [])]) fun (x : Nat) => [AV.bs s]) fun (i : Nat) => [AV.bs (List.getD L (Int.toNat (↑x : Int) + i) [])]) else false) ((true = true ∧ Int.toNat (↑x : Int) + 1 + (List.length L - Int.toNat (↑x : Int)) = List.length (barr (putL L s)) ∧ AllI fun (i : Nat) => Nat.le (Nat.succ i) (Int.toNat (↑x : Int) + 1 + (List.length L - Int.toNat (↑x : Int))) → vmL [] [AV.bs (List.getD (barr (putL L s)) i [])] (appF (Int.toNat (↑x : Int) + 1) (appF (Int.toNat (↑x : Int)) (fun (i : Nat) => [AV.bs (List.getD L i [])]) fun (x : Nat) => [AV.bs s]) (fun (i : Nat) => [AV.bs (List.getD L (Int.toNat (↑x : Int) + i) [])]) i)) ∧ True))))))))) (sdA (bif inL (↑x : Int) (List.length L) then true else false) (sdA (bif goodR 1 (Int.toNat (↑x : Int)) fun (i : Nat) => [AV.bs (List.getD L i [])] then decide (Int.toNat (↑x : Int) ≤ 9223372036854775807 ∧ Int.toNat (↑x : Int) * 16 ≤ 140737488355328) else false) (sdA (bif bif Nat.ble (Int.toNat (↑x : Int) * 1) (Int.toNat (↑x : Int) * 1) then true else false then decide (Int.toNat (↑x : Int) + 1 ≤ 9223372036854775807 ∧ (Int.toNat (↑x : Int) + 1) * 16 ≤ 140737488355328) else false) (sdA (inL (↑x : Int) (List.length L)) (sdA (bif bif Nat.ble ((Int.toNat (↑x : Int) + 1) * 1) ((Int.toNat (↑x : Int) + 1) * 1) then goodR 1 (List.length L - Int.toNat (↑x : Int)) fun (i : Nat) => [AV.bs (List.getD L (Int.toNat (↑x : Int) + i) [])] else false then decide (Int.toNat (↑x : Int) + 1 + (List.length L - Int.toNat (↑x : Int)) ≤ 9223372036854775807 ∧ (Int.toNat (↑x : Int) + 1 + (List.length L - Int.toNat (↑x : Int))) * 16 ≤ 140737488355328) else false) (((True ∧ True) ∧ (True ∧ True) ∧ (True ∧ True) ∧ (True ∧ True) ∧ True) ∧ sdA (bif Nat.ble ((Int.toNat (↑x : Int) + 1 + (List.length L - Int.toNat (↑x : Int))) * 1) ((Int.toNat (↑x : Int) + 1 + (List.length L - Int.toNat (↑x : Int))) * 1) then goodR 1 (Int.toNat (↑x : Int) + 1 + (List.length L - Int.toNat (↑x : Int))) (appF (Int.toNat (↑x : Int) + 1) (appF (Int.toNat (↑x : Int)) (fun (i : Nat) => [AV.bs (List.getD L i [])]) fun (x : Nat) => [AV.bs s]) fun (i : Nat) => [AV.bs (List.getD L (Int.toNat (↑x : Int) + i) [])]) else false) ((true = true ∧ Int.toNat (↑x : Int) + 1 + (List.length L - Int.toNat (↑x : Int)) = List.length (barr (putL L s)) ∧ AllI fun (i : Nat) => Nat.le (Nat.succ i) (Int.toNat (↑x : Int) + 1 + (List.length L - Int.toNat (↑x : Int))) → vmL [] [AV.bs (List.getD (barr (putL L s)) i [])] (appF (Int.toNat (↑x : Int) + 1) (appF (Int.toNat (↑x : Int)) (fun (i : Nat) => [AV.bs (List.getD L i [])]) fun (x : Nat) => [AV.bs s]) (fun (i : Nat) => [AV.bs (List.getD L (Int.toNat (↑x : Int) + i) [])]) i)) ∧ True)))))))))) (brP (ilt (↑x : Int) (Int.ofNat (List.length L))) (sdA (inB (↑x : Int) (List.length L)) (brP (decide (List.getD L (Int.toNat (↑x : Int)) [] = s)) ((true = true ∧ List.length L = List.length (barr (putL L s)) ∧ AllI fun (i : Nat) => Nat.le (Nat.succ i) (List.length L) → List.getD L i [] = List.getD (barr (putL L s)) i [] ∧ True) ∧ True) (sdA (bif inL (↑x : Int) (List.length L) then true else false) (sdA (bif goodR 1 (Int.toNat (↑x : Int)) fun (i : Nat) => [AV.bs (List.getD L i [])] then decide (Int.toNat (↑x : Int) ≤ 9223372036854775807 ∧ Int.toNat (↑x : Int) * 16 ≤ 140737488355328) else false) (sdA (bif bif Nat.ble (Int.toNat (↑x : Int) * 1) (Int.toNat (↑x : Int) * 1) then true else false then decide (Int.toNat (↑x : Int) + 1 ≤ 9223372036854775807 ∧ (Int.toNat (↑x : Int) + 1) * 16 ≤ 140737488355328) else false) (sdA (inL (↑x : Int) (List.length L)) (sdA (bif bif Nat.ble ((Int.toNat (↑x : Int) + 1) * 1) ((Int.toNat (↑x : Int) + 1) * 1) then goodR 1 (List.length L - Int.toNat (↑x : Int)) fun (i : Nat) => [AV.bs (List.getD L (Int.toNat (↑x : Int) + i) [])] else false then decide (Int.toNat (↑x : Int) + 1 + (List.length L - Int.toNat (↑x : Int)) ≤ 9223372036854775807 ∧ (Int.toNat (↑x : Int) + 1 + (List.length L - Int.toNat (↑x : Int))) * 16 ≤ 140737488355328) else false) (((True ∧ True) ∧ (True ∧ True) ∧ (True ∧ True) ∧ (True ∧ True) ∧ True) ∧ sdA (bif Nat.ble ((Int.toNat (↑x : Int) + 1 + (List.length L - Int.toNat (↑x : Int))) * 1) ((Int.toNat (↑x : Int) + 1 + (List.length L - Int.toNat (↑x : Int))) * 1) then goodR 1 (Int.toNat (↑x : Int) + 1 + (List.length L - Int.toNat (↑x : Int))) (appF (Int.toNat (↑x : Int) + 1) (appF (Int.toNat (↑x : Int)) (fun (i : Nat) => [AV.bs (List.getD L i [])]) fun (x : Nat) => [AV.bs s]) fun (i : Nat) => [AV.bs (List.getD L (Int.toNat (↑x : Int) + i) [])]) else false) ((true = true ∧ Int.toNat (↑x : Int) + 1 + (List.length L - Int.toNat (↑x : Int)) = List.length (barr (putL L s)) ∧ AllI fun (i : Nat) => Nat.le (Nat.succ i) (Int.toNat (↑x : Int) + 1 + (List.length L - Int.toNat (↑x : Int))) → vmL [] [AV.bs (List.getD (barr (putL L s)) i [])] (appF (Int.toNat (↑x : Int) + 1) (appF (Int.toNat (↑x : Int)) (fun (i : Nat) => [AV.bs (List.getD L i [])]) fun (x : Nat) => [AV.bs s]) (fun (i : Nat) => [AV.bs (List.getD L (Int.toNat (↑x : Int) + i) [])]) i)) ∧ True))))))))) (sdA (bif inL (↑x : Int) (List.length L) then true else false) (sdA (bif goodR 1 (Int.toNat (↑x : Int)) fun (i : Nat) => [AV.bs (List.getD L i [])] then decide (Int.toNat (↑x : Int) ≤ 9223372036854775807 ∧ Int.toNat (↑x : Int) * 16 ≤ 140737488355328) else false) (sdA (bif bif Nat.ble (Int.toNat (↑x : Int) * 1) (Int.toNat (↑x : Int) * 1) then true else false then decide (Int.toNat (↑x : Int) + 1 ≤ 9223372036854775807 ∧ (Int.toNat (↑x : Int) + 1) * 16 ≤ 140737488355328) else false) (sdA (inL (↑x : Int) (List.length L)) (sdA (bif bif Nat.ble ((Int.toNat (↑x : Int) + 1) * 1) ((Int.toNat (↑x : Int) + 1) * 1) then goodR 1 (List.length L - Int.toNat (↑x : Int)) fun (i : Nat) => [AV.bs (List.getD L (Int.toNat (↑x : Int) + i) [])] else false then decide (Int.toNat (↑x : Int) + 1 + (List.length L - Int.toNat (↑x : Int)) ≤ 9223372036854775807 ∧ (Int.toNat (↑x : Int) + 1 + (List.length L - Int.toNat (↑x : Int))) * 16 ≤ 140737488355328) else false) (((True ∧ True) ∧ (True ∧ True) ∧ (True ∧ True) ∧ (True ∧ True) ∧ True) ∧ sdA (bif Nat.ble ((Int.toNat (↑x : Int) + 1 + (List.length L - Int.toNat (↑x : Int))) * 1) ((Int.toNat (↑x : Int) + 1 + (List.length L - Int.toNat (↑x : Int))) * 1) then goodR 1 (Int.toNat (↑x : Int) + 1 + (List.length L - Int.toNat (↑x : Int))) (appF (Int.toNat (↑x : Int) + 1) (appF (Int.toNat (↑x : Int)) (fun (i : Nat) => [AV.bs (List.getD L i [])]) fun (x : Nat) => [AV.bs s]) fun (i : Nat) => [AV.bs (List.getD L (Int.toNat (↑x : Int) + i) [])]) else false) ((true = true ∧ Int.toNat (↑x : Int) + 1 + (List.length L - Int.toNat (↑x : Int)) = List.length (barr (putL L s)) ∧ AllI fun (i : Nat) => Nat.le (Nat.succ i) (Int.toNat (↑x : Int) + 1 + (List.length L - Int.toNat (↑x : Int))) → vmL [] [AV.bs (List.getD (barr (putL L s)) i [])] (appF (Int.toNat (↑x : Int) + 1) (appF (Int.toNat (↑x : Int)) (fun (i : Nat) => [AV.bs (List.getD L i [])]) fun (x : Nat) => [AV.bs s]) (fun (i : Nat) => [AV.bs (List.getD L (Int.toNat (↑x : Int) + i) [])]) i)) ∧ True))))))))
:= by
 intro L s hl
 have hl : L.length ≤ 1000000 := hl
 simp only [barr_eq, bar_eq, true_and, and_true, eq_self, implies_true, Nat.le_eq, cond_tf, cond_cf, nif_tf, Int.toNat_natCast, Int.ofNat_eq_natCast, Nat.ble_eq, Nat.ble_self_eq_true, Bool.true_and, Bool.and_true, Bool.and_self, Option.some.injEq, AV.int.injEq, rowB_self, allBR_self, Nat.mul_one, Nat.beq_refl, allI_true, cond_true, cond_false, ieq_self, Bool.not_true, Bool.not_false, decide_true, brP_f, brP_t, sdA_t, bytesL_packL, List.nil_append]
 simp only [goodR_tx, Bool.true_and]
 refine ⟨⟨0, PutK.zero L s, rfl⟩, fun x hx => ?_⟩
 have hle := hx.le
 refine brP_of (fun h => ?_) (fun h => ?_)
 ·have hlt : x < L.length := by have := ilt_iff.1 h; omega
  have hin : inB (x : Int) L.length = true := inB_iff.2 ⟨by omega, by omega⟩
  refine sdA_of hin (brP_of (fun h2 => ?_) (fun h2 => ?_))
  ·exact sdA_of (inR_i64.2 ⟨by omega, by omega⟩) ⟨x + 1, hx.succ hlt h2, by omega, by simp⟩
  ·have hat := hx.at (fun _ => h2)
   rw [h, brP_t]
   refine sdA_of hin (brP_of (fun h3 => ?_) (fun h3 => ?_))
   ·rw [put_in hat hlt (of_decide_eq_true h3)]
    exact ⟨rfl, ⟨fun i _ => rfl⟩⟩
   ·have hput := put_new hat (fun _ => of_decide_eq_false h3)
    exact sdA_of (inL_iff.2 ⟨by omega, by omega⟩) (sdA_of (decide_eq_true ⟨by omega, by omega⟩) (sdA_of (decide_eq_true ⟨by omega, by omega⟩) (sdA_of (inL_iff.2 ⟨by omega, by omega⟩) (sdA_of (decide_eq_true ⟨by omega, by omega⟩) (sdA_of (goodR_row (L.take x ++ [s] ++ L.drop x) fun i hi => ins_row hle i hi) ⟨by rw [hput, putM_length L s x hle]; omega, ⟨fun i hi => by rw [ins_row hle i hi, hput]; exact ⟨rfl, trivial⟩⟩⟩)))))
 ·have hge : x = L.length := by have := ilt_iffn.1 h; omega
  have hat := hx.at (fun h => absurd h (by omega))
  have hput := put_new hat (fun h => absurd h (by omega))
  rw [h, brP_f]
  exact sdA_of (inL_iff.2 ⟨by omega, by omega⟩) (sdA_of (decide_eq_true ⟨by omega, by omega⟩) (sdA_of (decide_eq_true ⟨by omega, by omega⟩) (sdA_of (inL_iff.2 ⟨by omega, by omega⟩) (sdA_of (decide_eq_true ⟨by omega, by omega⟩) (sdA_of (goodR_row (L.take x ++ [s] ++ L.drop x) fun i hi => ins_row hle i hi) ⟨by rw [hput, putM_length L s x hle]; omega, ⟨fun i hi => by rw [ins_row hle i hi, hput]; exact ⟨rfl, trivial⟩⟩⟩)))))
theorem runPut_b : ∀ (L : Txs) (s : List UInt8), L.length ≤ 1000000 → (cRun (cxL [] [(21, 2, SPut L s)] []) 60).call 21 [.vec 1 L.length (rT L), .bs s, .bool true] .leaf 0 (ResP Tryz.prog false (.vec 1 (barr (putL L s)).length (rT (barr (putL L s))))) :=
 Eq.mpr (by kernel_rfl) runPut_r
theorem runPut : ∀ (L : Txs) (s : List UInt8), L.length ≤ 1000000 → (cRun (cxL [] [(21, 2, SPut L s)] []) 60).call 21 [.vec 1 L.length (rT L), .bs s, .bool true] .leaf 0 (ResM Tryz.prog false (.vec 1 (barr (putL L s)).length (rT (barr (putL L s))))) := by
 intros
 rw [← resP_eq]
 apply runPut_b <;> assumption
theorem SameK.zero (L M : Txs) : SameK L M 0 := ⟨Nat.zero_le _, fun _ h => absurd h (Nat.not_lt_zero _)⟩
theorem SameK.succ {L M : Txs} {k : Nat} (h : SameK L M k) (hk : k < L.length) (hn : L.getD k [] = M.getD k []) : SameK L M (k + 1) := ⟨hk, fun j hj => by
 rcases Nat.lt_succ_iff_lt_or_eq.1 hj with h1 | rfl
 ·exact h.al j h1
 ·exact hn⟩
theorem SameK.all {L M : Txs} {k : Nat} (h : SameK L M k) (hk : k = L.length) (hlen : L.length = M.length) : L = M := by
 apply List.ext_getElem hlen
 intro i h1 h2
 have := h.al i (by omega)
 rwa [getD_getE L [] i h1, getD_getE M [] i h2] at this
theorem runSame_r : ∀ (L M : Txs), Nat.le (List.length L) 1000000 → Nat.le (List.length M) 1000000 → brP (!ieq (Int.ofNat (List.length L)) (Int.ofNat (List.length M))) (false = decide (L = M) ∧ True) ((∃ (x0 : Nat), SameK L M x0 ∧ true = true ∧ ((true = true ∧ (0 : Int) = (↑x0 : Int)) ∧ (true = true ∧ List.length L = List.length L ∧ AllI fun (i : Nat) => Nat.le (Nat.succ i) (List.length L) → List.getD L i [] = List.getD L i [] ∧ True) ∧ (true = true ∧ List.length M = List.length M ∧ AllI fun (i : Nat) => Nat.le (Nat.succ i) (List.length M) → List.getD M i [] = List.getD M i [] ∧ True) ∧ True) ∧ True) ∧ ∀ (x : Nat), SameK L M x → brP (ilt (↑x : Int) (Int.ofNat (List.length L))) (sdA (inB (↑x : Int) (List.length L)) (sdA (inB (↑x : Int) (List.length M)) ((((True ∧ True ∧ True) ∧ True) ∧ True) ∧ brP (!decide (List.getD L (Int.toNat (↑x : Int)) [] = List.getD M (Int.toNat (↑x : Int)) [])) (false = decide (L = M) ∧ True) (sdA (inR IntKind.i64 ((↑x : Int) + (1 : Int))) (∃ (x' : Nat), SameK L M x' ∧ Nat.le (Nat.succ (List.length L - x')) (List.length L - x) ∧ true = true ∧ ((true = true ∧ (↑x : Int) + (1 : Int) = (↑x' : Int)) ∧ (true = true ∧ List.length L = List.length L ∧ AllI fun (i : Nat) => Nat.le (Nat.succ i) (List.length L) → List.getD L i [] = List.getD L i [] ∧ True) ∧ (true = true ∧ List.length M = List.length M ∧ AllI fun (i : Nat) => Nat.le (Nat.succ i) (List.length M) → List.getD M i [] = List.getD M i [] ∧ True) ∧ True) ∧ True))))) (true = decide (L = M) ∧ True))
:= by
 intro L M hl hm
 have hl : L.length ≤ 1000000 := hl
 have hm : M.length ≤ 1000000 := hm
 simp only [barr_eq, bar_eq, true_and, and_true, eq_self, implies_true, Nat.le_eq, cond_tf, cond_cf, nif_tf, Int.toNat_natCast, Int.ofNat_eq_natCast, Nat.ble_eq, Nat.ble_self_eq_true, Bool.true_and, Bool.and_true, Bool.and_self, Option.some.injEq, AV.int.injEq, rowB_self, allBR_self, Nat.mul_one, Nat.beq_refl, allI_true, cond_true, cond_false, ieq_self, Bool.not_true, Bool.not_false, decide_true, brP_f, brP_t, sdA_t, bytesL_packL, List.nil_append]
 refine brP_of (fun h => ?_) (fun h => ⟨⟨0, SameK.zero L M, rfl⟩, fun x hx => ?_⟩)
 ·have hne : L.length ≠ M.length := fun e => by rw [e] at h; simp [ieq_eq] at h
  exact (decide_eq_false fun e => hne (by rw [e])).symm
 ·have hlen : L.length = M.length := Int.ofNat_inj.1 (by simpa [ieq_eq] using h)
  refine brP_of (fun h => ?_) (fun h => ?_)
  ·have hlt : x < L.length := by have := ilt_iff.1 h; omega
   refine sdA_of (inB_iff.2 ⟨by omega, by omega⟩) (sdA_of (inB_iff.2 ⟨by omega, by omega⟩) (brP_of (fun h2 => ?_) (fun h2 => ?_)))
   ·have h3 : L.getD x [] ≠ M.getD x [] := by simpa using h2
    exact (decide_eq_false fun e => h3 (by rw [e])).symm
   ·have h3 : L.getD x [] = M.getD x [] := by simpa using h2
    exact sdA_of (inR_i64.2 ⟨by omega, by omega⟩) ⟨x + 1, hx.succ hlt h3, by omega, by simp⟩
  ·have hge : x = L.length := by have := ilt_iffn.1 h; have := hx.le; omega
   exact (decide_eq_true (hx.all hge hlen)).symm
theorem runSame_b : ∀ (L M : Txs), L.length ≤ 1000000 → M.length ≤ 1000000 → (cRun (cxL [] [(8, 4, SSame L M)] []) 60).call 8 [.vec 1 L.length (rT L), .vec 1 M.length (rT M)] .leaf 0 (ResP Tryz.prog false (.bool (decide (L = M)))) :=
 Eq.mpr (by kernel_rfl) runSame_r
theorem runSame : ∀ (L M : Txs), L.length ≤ 1000000 → M.length ≤ 1000000 → (cRun (cxL [] [(8, 4, SSame L M)] []) 60).call 8 [.vec 1 L.length (rT L), .vec 1 M.length (rT M)] .leaf 0 (ResM Tryz.prog false (.bool (decide (L = M)))) := by
 intros
 rw [← resP_eq]
 apply runSame_b <;> assumption
theorem put_length (L : Txs) (s : List UInt8) : (putL L s).length ≤ L.length + 1 := by
 unfold putL
 have h : putAt L s ≤ L.length := (List.takeWhile_sublist _).length_le
 cases (decide (putAt L s < L.length) && decide (L.getD (putAt L s) [] = s)) with
 | true => rw [cond_true]; omega
 | false => rw [cond_false, putM_length L s _ h]; omega
theorem take_succE {α : Type} (L : List α) (d : α) (k : Nat) (h : k < L.length) : L.take (k + 1) = L.take k ++ [L.getD k d] := by
 rw [getD_getE L d k h, List.take_append_getElem]
theorem LstK.zero (L : Txs) : LstK L (0, []) := ⟨Nat.zero_le _, by simp [lstL], Nat.le_refl _⟩
theorem LstK.yes {L : Txs} {x : Nat × Txs} (h : LstK L x) (hk : x.1 < L.length) (hm : mayL (L.getD x.1 []) = true) : LstK L (x.1 + 1, putL x.2 (L.getD x.1 [])) :=
 ⟨hk, by
  show putL x.2 (L.getD x.1 []) = _
  rw [take_succE L [] _ hk, lstL, List.filter_append, List.foldl_append, ← lstL, ← h.eq, List.filter_cons, if_pos hm]; rfl, by
  have := put_length x.2 (L.getD x.1 [])
  have := h.ln
  show (putL x.2 (L.getD x.1 [])).length ≤ x.1 + 1
  omega⟩
theorem LstK.no {L : Txs} {x : Nat × Txs} (h : LstK L x) (hk : x.1 < L.length) (hm : mayL (L.getD x.1 []) = false) : LstK L (x.1 + 1, x.2) :=
 ⟨hk, by
  show x.2 = _
  rw [take_succE L [] _ hk, lstL, List.filter_append, List.foldl_append, ← lstL, ← h.eq, List.filter_cons, hm]; rfl, by
  have := h.ln
  show x.2.length ≤ x.1 + 1
  omega⟩
theorem getD_memT {C : Txs} {k : Nat} (hk : k < C.length) : C.getD k [] ∈ C := by
 rw [List.getD_eq_getElem?_getD, List.getElem?_eq_getElem hk]
 exact List.getElem_mem hk
theorem rowTx_map (L : Txs) : (List.range L.length).map (fun i => L.getD i []) = L := rowTx_rT L
theorem allTx_dec (n : Nat) (L : Txs) : decide (∀ i, i < n → isTx (rT L i) = true) = true := allTx_rT n L
theorem runLst_r : ∀ (L : Txs), Nat.le (List.length L) 1000000 → (∀ (s : List UInt8), List.Mem s L → Nat.le (List.length s) 1000000) → (∃ (x0 : Nat × Txs), LstK L x0 ∧ true = true ∧ (List.length x0.2 = 0 ∧ (true = true ∧ (0 : Int) = (↑x0.1 : Int)) ∧ (true = true ∧ List.length L = List.length L ∧ AllI fun (i : Nat) => Nat.le (Nat.succ i) (List.length L) → List.getD L i [] = List.getD L i [] ∧ True) ∧ True) ∧ True) ∧ ∀ (x : Nat × Txs), LstK L x → brP (ilt (↑x.1 : Int) (Int.ofNat (List.length L))) (sdA (inB (↑x.1 : Int) (List.length L)) (Nat.le (List.length (List.getD L (Int.toNat (↑x.1 : Int)) [])) 1000000 ∧ brP (bar (mayL (List.getD L (Int.toNat (↑x.1 : Int)) []))) (sdA (inB (↑x.1 : Int) (List.length L)) ((decide (∀ (i : Nat), i < List.length x.2 → true = true) = true ∧ Nat.le (List.length x.2) 1000000) ∧ sdA (inR IntKind.i64 ((↑x.1 : Int) + (1 : Int))) (∃ (x' : Nat × Txs), LstK L x' ∧ Nat.le (Nat.succ (List.length L - x'.1)) (List.length L - x.1) ∧ true = true ∧ ((true = true ∧ List.length (barr (putL (List.map (fun (i : Nat) => List.getD x.2 i []) (List.range (List.length x.2))) (List.getD L (Int.toNat (↑x.1 : Int)) []))) = List.length x'.2 ∧ AllI fun (i : Nat) => Nat.le (Nat.succ i) (List.length (barr (putL (List.map (fun (i : Nat) => List.getD x.2 i []) (List.range (List.length x.2))) (List.getD L (Int.toNat (↑x.1 : Int)) [])))) → List.getD (barr (putL (List.map (fun (i : Nat) => List.getD x.2 i []) (List.range (List.length x.2))) (List.getD L (Int.toNat (↑x.1 : Int)) []))) i [] = List.getD x'.2 i [] ∧ True) ∧ (true = true ∧ (↑x.1 : Int) + (1 : Int) = (↑x'.1 : Int)) ∧ (true = true ∧ List.length L = List.length L ∧ AllI fun (i : Nat) => Nat.le (Nat.succ i) (List.length L) → List.getD L i [] = List.getD L i [] ∧ True) ∧ True) ∧ True))) (sdA (inR IntKind.i64 ((↑x.1 : Int) + (1 : Int))) (∃ (x' : Nat × Txs), LstK L x' ∧ Nat.le (Nat.succ (List.length L - x'.1)) (List.length L - x.1) ∧ true = true ∧ ((true = true ∧ List.length x.2 = List.length x'.2 ∧ AllI fun (i : Nat) => Nat.le (Nat.succ i) (List.length x.2) → List.getD x.2 i [] = List.getD x'.2 i [] ∧ True) ∧ (true = true ∧ (↑x.1 : Int) + (1 : Int) = (↑x'.1 : Int)) ∧ (true = true ∧ List.length L = List.length L ∧ AllI fun (i : Nat) => Nat.le (Nat.succ i) (List.length L) → List.getD L i [] = List.getD L i [] ∧ True) ∧ True) ∧ True)))) ((true = true ∧ List.length x.2 = List.length (barr (lstL L)) ∧ AllI fun (i : Nat) => Nat.le (Nat.succ i) (List.length x.2) → List.getD x.2 i [] = List.getD (barr (lstL L)) i [] ∧ True) ∧ True)
:= by
 intro L hl hs
 have hl : L.length ≤ 1000000 := hl
 have hs : ∀ s ∈ L, s.length ≤ 1000000 := hs
 simp only [barr_eq, bar_eq, true_and, and_true, eq_self, implies_true, Nat.le_eq, cond_tf, cond_cf, nif_tf, Int.toNat_natCast, Int.ofNat_eq_natCast, Nat.ble_eq, Nat.ble_self_eq_true, Bool.true_and, Bool.and_true, Bool.and_self, Option.some.injEq, AV.int.injEq, rowB_self, allBR_self, Nat.mul_one, Nat.beq_refl, allI_true, cond_true, cond_false, ieq_self, Bool.not_true, Bool.not_false, decide_true, brP_f, brP_t, sdA_t, bytesL_packL, List.nil_append]
 simp only [rowTx_map, allTx_dec]
 refine ⟨⟨(0, []), LstK.zero L, rfl, rfl⟩, fun x hx => brP_of (fun h => ?_) (fun h => ?_)⟩
 ·have hlt : x.1 < L.length := by have := ilt_iff.1 h; omega
  have hin : inB (x.1 : Int) L.length = true := inB_iff.2 ⟨by omega, by omega⟩
  have hln := hx.ln
  refine sdA_of hin ⟨hs _ (getD_memT hlt), brP_of (fun h2 => ?_) (fun h2 => ?_)⟩
  ·exact sdA_of hin ⟨by show x.2.length ≤ 1000000; omega, sdA_of (inR_i64.2 ⟨by omega, by omega⟩) ⟨(x.1 + 1, putL x.2 (L.getD x.1 [])), hx.yes hlt h2, by omega, ⟨rfl, ⟨fun i _ => rfl⟩⟩, by simp⟩⟩
  ·exact sdA_of (inR_i64.2 ⟨by omega, by omega⟩) ⟨(x.1 + 1, x.2), hx.no hlt h2, by omega, ⟨rfl, ⟨fun i _ => rfl⟩⟩, by simp⟩
 ·have hge : x.1 = L.length := by have := ilt_iffn.1 h; have := hx.le; omega
  have he := hx.eq
  rw [hge, List.take_length] at he
  rw [he]
  exact ⟨rfl, ⟨fun i _ => rfl⟩⟩
theorem runLst_b : ∀ (L : Txs), L.length ≤ 1000000 → (∀ s ∈ L, s.length ≤ 1000000) → (cRun (cxL tbB [(14, 3, SLst L)] []) 60).call 14 [.vec 1 L.length (rT L)] .leaf 0 (ResP Tryz.prog false (.vec 1 (barr (lstL L)).length (rT (barr (lstL L))))) :=
 Eq.mpr (by kernel_rfl) runLst_r
theorem runLst : ∀ (L : Txs), L.length ≤ 1000000 → (∀ s ∈ L, s.length ≤ 1000000) → (cRun (cxL tbB [(14, 3, SLst L)] []) 60).call 14 [.vec 1 L.length (rT L)] .leaf 0 (ResM Tryz.prog false (.vec 1 (barr (lstL L)).length (rT (barr (lstL L))))) := by
 intros
 rw [← resP_eq]
 apply runLst_b <;> assumption
end Go.Proofs.YtenbcoedkeddgaaGreatDoor
end
section
set_option maxRecDepth 100000
open Go Go.Ev
namespace Go.Proofs.YtenbcoedkeddgaaGreatDoor
noncomputable def eLst : Tr AObj → List AV → Option Ct := fun _ args => match args with
 | [.vec 1 n f] => some (.need (allTx n f = true ∧ n ≤ 1000000 ∧ ∀ s ∈ rowTx n f, s.length ≤ 1000000) (.ret (.vec 1 (barr (lstL (rowTx n f))).length (rT (barr (lstL (rowTx n f)))))))
 | _ => none
structure LineS where
 out : Txs
 from_ : Nat
def lineBad (l : List UInt8) : Bool := decide (l.length < 6) || !decide (l.take 6 = sAllow) || !mayL (l.drop 6)
def lineSome (s : List UInt8) (x : LineS) (k : Nat) : Option LineS :=
 if s.getD k 0 = 10 then
  if (s.take k).drop x.from_ = [] ∨ ((s.take k).drop x.from_).getD 0 0 = 35 then some ⟨x.out, k + 1⟩
  else if lineBad ((s.take k).drop x.from_) = true then none
  else some ⟨putL x.out (((s.take k).drop x.from_).drop 6), k + 1⟩
 else some x
def lineStep (s : List UInt8) (o : Option LineS) (k : Nat) : Option LineS := match o with
 | none => none
 | some x => lineSome s x k
def lineK (s : List UInt8) : Nat → Option LineS
 | 0 => some ⟨[], 0⟩
 | k + 1 => lineStep s (lineK s k) k
structure OfK (s : List UInt8) (x : Nat × Txs × Nat) : Prop where
 le : x.1 ≤ s.length
 eq : lineK s x.1 = some ⟨x.2.1, x.2.2⟩
 fr : x.2.2 ≤ x.1
 ln : x.2.1.length ≤ x.1
def ofR (s : List UInt8) : Txs × Int := match lineK s s.length with
 | none => ([], 12)
 | some x => if x.from_ < s.length then ([], 12) else (x.out, 0)
def textL (L : Txs) : List UInt8 := (L.map fun s => sAllow ++ s ++ [10]).flatten
structure TxtK (L : Txs) (x : Nat × List UInt8) : Prop where
 le : x.1 ≤ L.length
 eq : x.2 = textL (L.take x.1)
 ln : x.2.length ≤ x.1 * 1000010
noncomputable def STxt (L : Txs) : Stn := { X := Nat × List UInt8, T := fun _ _ x => [(3, .vec 1 (barr (lstL L)).length (rT (barr (lstL L)))), (4, .bs x.2), (5, .int .i64 x.1)], H := fun s n0 _ => keepH s n0, nx := fun s _ => s.nx, I := fun _ => TxtK (lstL L), m := fun x => (lstL L).length - x.1 }
noncomputable def tbD : Tbl := [(14, eLst)]
theorem lineK_succ (s : List UInt8) (k : Nat) : lineK s (k + 1) = lineStep s (lineK s k) k := rfl
theorem line_none {s : List UInt8} {k : Nat} (h : lineK s k = none) : ∀ m, k ≤ m → lineK s m = none := fun m hm => by
 obtain ⟨d, rfl⟩ : ∃ d, m = k + d := ⟨m - k, by omega⟩
 clear hm
 induction d with
 | zero => exact h
 | succ d ih => rw [← Nat.add_assoc, lineK_succ, ih]; rfl
theorem OfK.zero (s : List UInt8) : OfK s (0, [], 0) := ⟨Nat.zero_le _, rfl, Nat.le_refl _, Nat.le_refl _⟩
def lineAt (s : List UInt8) (x : Nat × Txs × Nat) : List UInt8 := (s.take x.1).drop x.2.2
theorem OfK.not {s : List UInt8} {x : Nat × Txs × Nat} (h : OfK s x) (hk : x.1 < s.length) (hc : s.getD x.1 0 ≠ 10) : OfK s (x.1 + 1, x.2.1, x.2.2) :=
 ⟨hk, by rw [lineK_succ, h.eq]; exact if_neg hc, Nat.le_succ_of_le h.fr, Nat.le_succ_of_le h.ln⟩
theorem OfK.skip {s : List UInt8} {x : Nat × Txs × Nat} (h : OfK s x) (hk : x.1 < s.length) (hc : s.getD x.1 0 = 10) (hs : lineAt s x = [] ∨ (lineAt s x).getD 0 0 = 35) : OfK s (x.1 + 1, x.2.1, x.1 + 1) :=
 ⟨hk, by rw [lineK_succ, h.eq]; exact (if_pos hc).trans (if_pos hs), Nat.le_refl _, Nat.le_succ_of_le h.ln⟩
theorem OfK.bad {s : List UInt8} {x : Nat × Txs × Nat} (h : OfK s x) (hk : x.1 < s.length) (hc : s.getD x.1 0 = 10) (hs : ¬ (lineAt s x = [] ∨ (lineAt s x).getD 0 0 = 35))
  (hb : lineBad (lineAt s x) = true) : ofR s = ([], 12) := by
 have h1 : lineK s (x.1 + 1) = none := by rw [lineK_succ, h.eq]; exact (if_pos hc).trans ((if_neg hs).trans (if_pos hb))
 unfold ofR
 rw [line_none h1 _ hk]
theorem OfK.put {s : List UInt8} {x : Nat × Txs × Nat} (h : OfK s x) (hk : x.1 < s.length) (hc : s.getD x.1 0 = 10) (hs : ¬ (lineAt s x = [] ∨ (lineAt s x).getD 0 0 = 35))
  (hb : lineBad (lineAt s x) = false) : OfK s (x.1 + 1, putL x.2.1 ((lineAt s x).drop 6), x.1 + 1) :=
 ⟨hk, by
  rw [lineK_succ, h.eq]
  exact (if_pos hc).trans ((if_neg hs).trans (if_neg (by show ¬ lineBad (lineAt s x) = true; rw [hb]; simp))), Nat.le_refl _, by
  have := put_length x.2.1 ((lineAt s x).drop 6)
  have := h.ln
  show (putL x.2.1 ((lineAt s x).drop 6)).length ≤ x.1 + 1
  omega⟩
theorem OfK.end_ {s : List UInt8} {x : Nat × Txs × Nat} (h : OfK s x) (hk : x.1 = s.length) : ofR s = if x.2.2 < s.length then ([], 12) else (x.2.1, 0) := by
 unfold ofR
 rw [← hk, h.eq]
theorem textL_take (L : Txs) (k : Nat) (hk : k < L.length) : textL (L.take (k + 1)) = textL (L.take k) ++ sAllow ++ L.getD k [] ++ [10] := by
 unfold textL
 rw [take_succE L [] k hk, List.map_append, List.flatten_append]
 simp
theorem TxtK.zero (L : Txs) : TxtK L (0, []) := ⟨Nat.zero_le _, by simp [textL], Nat.le_refl _⟩
theorem TxtK.succ {L : Txs} {x : Nat × List UInt8} (h : TxtK L x) (hk : x.1 < L.length) (hs : (L.getD x.1 []).length ≤ 1000000) : TxtK L (x.1 + 1, x.2 ++ sAllow ++ L.getD x.1 [] ++ [10]) :=
 ⟨hk, by show _ = textL (L.take (x.1 + 1)); rw [textL_take L x.1 hk, ← h.eq], by
  have := h.ln
  have h6 : sAllow.length = 6 := rfl
  show (x.2 ++ sAllow ++ L.getD x.1 [] ++ [10]).length ≤ (x.1 + 1) * 1000010
  simp only [List.length_append, List.length_singleton, h6]
  omega⟩
theorem put_mem {L : Txs} {s t : List UInt8} (h : t ∈ putL L s) : t ∈ L ∨ t = s := by
 unfold putL at h
 cases hb : (decide (putAt L s < L.length) && decide (L.getD (putAt L s) [] = s)) with
 | true => rw [hb, cond_true] at h; exact .inl h
 | false =>
  rw [hb, cond_false] at h
  rcases List.mem_append.1 h with h | h
  ·rcases List.mem_append.1 h with h | h
   ·exact .inl (List.mem_of_mem_take h)
   ·exact .inr (by simpa using h)
  ·exact .inl (List.mem_of_mem_drop h)
theorem fold_mem {t : List UInt8} : ∀ (L M : Txs), t ∈ L.foldl putL M → t ∈ M ∨ t ∈ L
 | [], M, h => .inl h
 | a :: L, M, h => by
  rcases fold_mem L (putL M a) h with h | h
  ·rcases put_mem h with h | h
   ·exact .inl h
   ·exact .inr (by rw [h]; exact List.mem_cons_self ..)
  ·exact .inr (List.mem_cons_of_mem _ h)
theorem lst_mem {L : Txs} {t : List UInt8} (h : t ∈ lstL L) : t ∈ L ∧ mayL t = true := by
 rcases fold_mem _ _ h with h | h
 ·cases h
 ·exact ⟨(List.mem_filter.1 h).1, (List.mem_filter.1 h).2⟩
theorem fold_length : ∀ (L M : Txs), (L.foldl putL M).length ≤ M.length + L.length
 | [], M => Nat.le_refl _
 | a :: L, M => by
  have h1 := fold_length L (putL M a)
  have h2 := put_length M a
  rw [List.foldl_cons, List.length_cons]
  omega
theorem lst_length (L : Txs) : (lstL L).length ≤ L.length := by
 have h1 := fold_length (L.filter mayL) []
 have h2 := List.length_filter_le mayL L
 unfold lstL
 simp only [List.length_nil] at h1
 omega
theorem runTxt_r : ∀ (L : Txs), Nat.le (List.length L) 1000 → (∀ (s : List UInt8), List.Mem s L → Nat.le (List.length s) 1000000) → (decide (∀ (i : Nat), i < List.length L → true = true) = true ∧ Nat.le (List.length L) 1000000 ∧ ∀ (s : List UInt8), List.Mem s (List.map (fun (i : Nat) => List.getD L i []) (List.range (List.length L))) → Nat.le (List.length s) 1000000) ∧ (∃ (x0 : Nat × List UInt8), TxtK (lstL L) x0 ∧ true = true ∧ ((true = true ∧ List.length (barr (lstL (List.map (fun (i : Nat) => List.getD L i []) (List.range (List.length L))))) = List.length (barr (lstL L)) ∧ AllI fun (i : Nat) => Nat.le (Nat.succ i) (List.length (barr (lstL (List.map (fun (i : Nat) => List.getD L i []) (List.range (List.length L)))))) → List.getD (barr (lstL (List.map (fun (i : Nat) => List.getD L i []) (List.range (List.length L))))) i [] = List.getD (barr (lstL L)) i [] ∧ True) ∧ [] = x0.2 ∧ (true = true ∧ (0 : Int) = (↑x0.1 : Int)) ∧ True) ∧ True) ∧ ∀ (x : Nat × List UInt8), TxtK (lstL L) x → brP (ilt (↑x.1 : Int) (Int.ofNat (List.length (barr (lstL L))))) (sdA (decide (List.length x.2 + 6 ≤ 9223372036854775807)) (sdA (inB (↑x.1 : Int) (List.length (barr (lstL L)))) (sdA (decide (List.length (x.2 ++ [(97 : UInt8), (108 : UInt8), (108 : UInt8), (111 : UInt8), (119 : UInt8), (32 : UInt8)]) + List.length (List.getD (barr (lstL L)) (Int.toNat (↑x.1 : Int)) []) ≤ 9223372036854775807)) (sdA (decide (List.length (x.2 ++ [(97 : UInt8), (108 : UInt8), (108 : UInt8), (111 : UInt8), (119 : UInt8), (32 : UInt8)] ++ List.getD (barr (lstL L)) (Int.toNat (↑x.1 : Int)) []) + 1 ≤ 9223372036854775807)) (sdA (inR IntKind.i64 ((↑x.1 : Int) + (1 : Int))) (∃ (x' : Nat × List UInt8), TxtK (lstL L) x' ∧ Nat.le (Nat.succ (List.length (lstL L) - x'.1)) (List.length (lstL L) - x.1) ∧ true = true ∧ ((true = true ∧ List.length (barr (lstL L)) = List.length (barr (lstL L)) ∧ AllI fun (i : Nat) => Nat.le (Nat.succ i) (List.length (barr (lstL L))) → List.getD (barr (lstL L)) i [] = List.getD (barr (lstL L)) i [] ∧ True) ∧ x.2 ++ [(97 : UInt8), (108 : UInt8), (108 : UInt8), (111 : UInt8), (119 : UInt8), (32 : UInt8)] ++ List.getD (barr (lstL L)) (Int.toNat (↑x.1 : Int)) [] ++ [(10 : UInt8)] = x'.2 ∧ (true = true ∧ (↑x.1 : Int) + (1 : Int) = (↑x'.1 : Int)) ∧ True) ∧ True)))))) (x.2 = textL (lstL L) ∧ True)
:= by
 intro L hl hs
 have hl : L.length ≤ 1000 := hl
 have hs : ∀ s ∈ L, s.length ≤ 1000000 := hs
 simp only [barr_eq, bar_eq, true_and, and_true, eq_self, implies_true, Nat.le_eq, cond_tf, cond_cf, nif_tf, Int.toNat_natCast, Int.ofNat_eq_natCast, Nat.ble_eq, Nat.ble_self_eq_true, Bool.true_and, Bool.and_true, Bool.and_self, Option.some.injEq, AV.int.injEq, rowB_self, allBR_self, Nat.mul_one, Nat.beq_refl, allI_true, cond_true, cond_false, ieq_self, Bool.not_true, Bool.not_false, decide_true, brP_f, brP_t, sdA_t, bytesL_packL, List.nil_append]
 simp only [rowTx_map, allTx_dec]
 have hll := lst_length L
 refine ⟨⟨by show L.length ≤ 1000000; omega, hs⟩, ⟨(0, []), TxtK.zero _, ⟨trivial, ⟨fun _ _ => trivial⟩⟩, rfl, rfl⟩, fun x hx => brP_of (fun h => ?_) (fun h => ?_)⟩
 ·have hlt : x.1 < (lstL L).length := by have := ilt_iff.1 h; omega
  have hsl : ((lstL L).getD x.1 []).length ≤ 1000000 := hs _ (lst_mem (getD_memT hlt)).1
  have hln := hx.ln
  have hb : x.1 * 1000010 ≤ 1000 * 1000010 := Nat.mul_le_mul_right _ (by omega)
  have hnx := hx.succ hlt hsl
  refine sdA_of (decide_eq_true (by omega)) (sdA_of (inB_iff.2 ⟨by omega, by omega⟩) (sdA_of (decide_eq_true (by simp only [List.length_append, List.length_cons, List.length_nil]; omega)) (sdA_of (decide_eq_true (by simp only [List.length_append, List.length_cons, List.length_nil]; omega)) (sdA_of (inR_i64.2 ⟨by omega, by omega⟩) ⟨(x.1 + 1, x.2 ++ sAllow ++ (lstL L).getD x.1 [] ++ [10]), hnx, by show (lstL L).length - (x.1 + 1) < (lstL L).length - x.1; omega, ?_⟩))))
  exact ⟨rfl, by simp⟩
 ·have hge : x.1 = (lstL L).length := by have := ilt_iffn.1 h; have := hx.le; omega
  have he := hx.eq
  rw [hge, List.take_length] at he
  exact he
theorem runTxt_b : ∀ L : Txs, L.length ≤ 1000 → (∀ s ∈ L, s.length ≤ 1000000) → (cRun (cxL tbD [(13, 4, STxt L)] []) 60).call 13 [.vec 1 L.length (rT L)] .leaf 0 (ResP Tryz.prog false (.bs (textL (lstL L)))) :=
 Eq.mpr (by kernel_rfl) runTxt_r
theorem runTxt : ∀ L : Txs, L.length ≤ 1000 → (∀ s ∈ L, s.length ≤ 1000000) → (cRun (cxL tbD [(13, 4, STxt L)] []) 60).call 13 [.vec 1 L.length (rT L)] .leaf 0 (ResM Tryz.prog false (.bs (textL (lstL L)))) := by
 intros
 rw [← resP_eq]
 apply runTxt_b <;> assumption
end Go.Proofs.YtenbcoedkeddgaaGreatDoor
end
