/- Laid by program out of its parts: TkD. -/
import Derived.Test.YtblcpogddmjonaaDoorTkC
set_option maxRecDepth 10000
set_option linter.unusedSimpArgs false
open Go Go.Ev
namespace Go.Proofs.Tk
noncomputable def tbC : Tbl := (26, e26) :: (27, e27) :: (28, e28) :: (33, e33) :: tbB
/-- The number that digits are. -/
def numG : Int → List UInt8 → Int × Bool
  | n, [] => if n ≤ 2147483647 then (n, true) else (0, false)
  | n, b :: t => if digI (b.toNat : Int) then numG (10 * n + ((b.toNat : Int) - 48)) t else (0, false)
def numT (l : List UInt8) : Int × Bool := if l = [] then (0, false) else numG 0 l
structure I20 (l : List UInt8) (x : Nat × Int) : Prop where
  le : x.1 ≤ l.length
  lo : 0 ≤ x.2
  hi : x.2 ≤ 1099511627776
  ans : numG x.2 (l.drop x.1) = numG 0 l
def S20 (l : List UInt8) : Stn := { X := Nat × Int, T := fun _ _ x => [(0, .bs l), (4, .int .i64 x.2), (7, .int .i64 l.length), (8, .int .i64 x.1)], H := fun _ _ _ => [], nx := fun _ n0 => n0, I := fun _ => I20 l, m := fun x => l.length - x.1 }
def S21 (l : List UInt8) : Stn := { X := Nat × Int, T := fun _ _ x => [(0, .bs l), (4, .int .i64 x.2), (5, .int .i64 x.1)], H := fun _ _ _ => [], nx := fun _ n0 => n0, I := fun _ => I20 l, m := fun x => l.length - x.1 }
noncomputable def e20 : Tr AObj → List AV → Option Ct := fun _ args => match args with
  | [.bs l] => some (.need (l.length ≤ 1000000) (.ret (.tup [.int .i64 (numT l).1, .bool (bar (numT l).2)])))
  | _ => none

theorem drop_getD (l : List UInt8) (k : Nat) (h : k < l.length) : l.drop k = l.getD k 0 :: l.drop (k + 1) := by
  rw [List.drop_eq_getElem_cons h, List.getD_eq_getElem?_getD, List.getElem?_eq_getElem h]; rfl
theorem digI_iff {z : Int} : digI z = true ↔ 48 ≤ z ∧ z ≤ 57 := by unfold digI; exact decide_eq_true_iff
theorem numG_big : ∀ (l : List UInt8) (n : Int), 2147483647 < n → numG n l = (0, false)
  | [], n, h => by rw [numG, if_neg (by omega)]
  | b :: t, n, h => by
    rw [numG]
    by_cases hd : digI (b.toNat : Int) = true
    · rw [if_pos hd]
      have := digI_iff.1 hd
      exact numG_big t _ (by omega)
    · rw [if_neg hd]

theorem run20_r : ∀ (l : List UInt8),
  Nat.le (List.length l) (1000000 : Nat) →
    (∃ (x0 : Nat × Int),
        I20 l x0 ∧
          true = true ∧
            (l = l ∧
                (true = true ∧ (0 : Int) = Prod.snd x0) ∧
                  (true = true ∧ Int.ofNat (List.length l) = (↑(List.length l) : Int)) ∧
                    (true = true ∧ (0 : Int) = (↑(Prod.fst x0) : Int)) ∧ True) ∧
              True) ∧
      ∀ (x : Nat × Int),
        I20 l x →
          brP (ilt (↑(Prod.fst x) : Int) (↑(List.length l) : Int))
            (sdA (inB (↑(Prod.fst x) : Int) (List.length l))
              (True ∧
                brP (!bar (digI (↑(UInt8.toNat (List.getD l (Int.toNat (↑(Prod.fst x) : Int)) (0 : UInt8))) : Int)))
                  ((true = true ∧ (0 : Int) = Prod.fst (numT l)) ∧ false = Prod.snd (numT l) ∧ True)
                  (brP (ilt (2147483647 : Int) (Prod.snd x))
                    ((true = true ∧ (0 : Int) = Prod.fst (numT l)) ∧ false = Prod.snd (numT l) ∧ True)
                    (sdA (inR IntKind.i64 ((10 : Int) * Prod.snd x))
                      (sdA (inB (↑(Prod.fst x) : Int) (List.length l))
                        (sdA
                          (inR IntKind.u8
                            ((↑(UInt8.toNat (List.getD l (Int.toNat (↑(Prod.fst x) : Int)) (0 : UInt8))) : Int) -
                              (48 : Int)))
                          (sdA
                            (inR IntKind.i64
                              ((↑(UInt8.toNat (List.getD l (Int.toNat (↑(Prod.fst x) : Int)) (0 : UInt8))) : Int) -
                                (48 : Int)))
                            (sdA
                              (inR IntKind.i64
                                ((10 : Int) * Prod.snd x +
                                  ((↑(UInt8.toNat (List.getD l (Int.toNat (↑(Prod.fst x) : Int)) (0 : UInt8))) : Int) -
                                    (48 : Int))))
                              (sdA (inR IntKind.i64 ((↑(Prod.fst x) : Int) + (1 : Int)))
                                (∃ (x' : Nat × Int),
                                  I20 l x' ∧
                                    Nat.le (Nat.succ (List.length l - Prod.fst x')) (List.length l - Prod.fst x) ∧
                                      true = true ∧
                                        (l = l ∧
                                            (true = true ∧
                                                (10 : Int) * Prod.snd x +
                                                    ((↑(UInt8.toNat
                                                            (List.getD l (Int.toNat (↑(Prod.fst x) : Int))
                                                              (0 : UInt8))) :
                                                        Int) -
                                                      (48 : Int)) =
                                                  Prod.snd x') ∧
                                              (true = true ∧ (↑(List.length l) : Int) = (↑(List.length l) : Int)) ∧
                                                (true = true ∧
                                                    (↑(Prod.fst x) : Int) + (1 : Int) = (↑(Prod.fst x') : Int)) ∧
                                                  True) ∧
                                          True))))))))))
            (brP
              (decide
                (l =
                  bytesL (List.length (Array.toList (ByteArray.data (ByteArray.mk #[]))))
                    (packL (Array.toList (ByteArray.data (ByteArray.mk #[]))))))
              ((true = true ∧ (0 : Int) = Prod.fst (numT l)) ∧ false = Prod.snd (numT l) ∧ True)
              (brP (ilt (2147483647 : Int) (Prod.snd x))
                ((true = true ∧ (0 : Int) = Prod.fst (numT l)) ∧ false = Prod.snd (numT l) ∧ True)
                ((true = true ∧ Prod.snd x = Prod.fst (numT l)) ∧ true = Prod.snd (numT l) ∧ True)))
:= by
  intro l hl
  simp only [Nat.le_eq] at hl
  simp only [show bytesL (List.length (Array.toList (ByteArray.data (ByteArray.mk #[])))) (packL (Array.toList (ByteArray.data (ByteArray.mk #[])))) = [] from rfl, bar_eq, eq_self, true_and, and_true, Int.toNat_natCast, Int.ofNat_eq_natCast]
  refine ⟨⟨(0, 0), ⟨Nat.zero_le _, by decide, by decide, rfl⟩, rfl, rfl⟩, fun x hx => ?_⟩
  obtain ⟨k, n⟩ := x
  obtain ⟨h1, h2, h3, h4⟩ := hx
  simp only at h1 h2 h3 h4 ⊢
  refine brP_of (fun h => ?_) fun h => ?_
  · rw [ilt_iff] at h
    have hd := drop_getD l k (by omega)
    have hT : numT l = numG 0 l := if_neg (by rintro rfl; simp at h; omega)
    rw [hd, numG] at h4
    rw [hT]
    have hb : inB (k : Int) l.length = true := inB_iff.2 (by omega)
    generalize ((l.getD k 0).toNat : Int) = z at h4 ⊢
    refine sdA_of hb (brP_of (fun hz => ?_) fun hz => ?_)
    · rw [Bool.not_eq_true'] at hz
      rw [hz, if_neg (by simp)] at h4
      rw [← h4]
      exact ⟨rfl, rfl⟩
    · rw [Bool.not_eq_false'] at hz
      rw [hz, if_pos rfl] at h4
      obtain ⟨hz1, hz2⟩ := digI_iff.1 hz
      refine brP_of (fun hn => ?_) fun hn => ?_
      · rw [ilt_iff] at hn
        rw [← h4, numG_big _ _ (by omega)]
        exact ⟨rfl, rfl⟩
      · rw [ilt_iffn] at hn
        refine sdA_of (inR_i64.2 (by omega)) (sdA_of hb (sdA_of (inR_u8.2 (by omega)) (sdA_of (inR_i64.2 (by omega)) (sdA_of (inR_i64.2 (by omega)) (sdA_of (inR_i64.2 (by omega)) ?_)))))
        exact ⟨(k + 1, 10 * n + (z - 48)), ⟨by simp only; omega, by simp only; omega, by simp only; omega, h4⟩, by simp only [Nat.le_eq]; omega, rfl, by simp⟩
  · rw [ilt_iffn] at h
    obtain rfl : k = l.length := by omega
    rw [List.drop_length, numG] at h4
    refine brP_of (fun he => ?_) fun he => ?_
    · rw [decide_eq_true_eq] at he
      subst he
      exact ⟨rfl, rfl⟩
    · have hT : numT l = numG 0 l := if_neg (by simpa using he)
      rw [hT, ← h4]
      refine brP_of (fun hn => ?_) fun hn => ?_
      · rw [ilt_iff] at hn
        rw [if_neg (by omega)]
        exact ⟨rfl, rfl⟩
      · rw [ilt_iffn] at hn
        rw [if_pos hn]
        exact ⟨rfl, rfl⟩
theorem run20 : ∀ (l : List UInt8), l.length ≤ 1000000 → (cRun (cx1 tbC 20 3 (S20 l)) 60).call 20 [.bs l] .leaf 0 (ResM Tryd.prog false (.tup [.int .i64 (numT l).1, .bool (numT l).2])) :=
  Eq.mpr (by kernel_rfl) run20_r

theorem run21_r : ∀ (l : List UInt8),
  Nat.le (List.length l) (1000000 : Nat) →
    (∃ (x0 : Nat × Int),
        I20 l x0 ∧
          true = true ∧
            (l = l ∧
                (true = true ∧ (0 : Int) = Prod.snd x0) ∧ (true = true ∧ (0 : Int) = (↑(Prod.fst x0) : Int)) ∧ True) ∧
              True) ∧
      ∀ (x : Nat × Int),
        I20 l x →
          brP (ilt (↑(Prod.fst x) : Int) (Int.ofNat (List.length l)))
            (sdA (inB (↑(Prod.fst x) : Int) (List.length l))
              (True ∧
                brP (!bar (digI (↑(UInt8.toNat (List.getD l (Int.toNat (↑(Prod.fst x) : Int)) (0 : UInt8))) : Int)))
                  ((true = true ∧ (0 : Int) = Prod.fst (numT l)) ∧ false = Prod.snd (numT l) ∧ True)
                  (sdA (inR IntKind.i64 ((10 : Int) * Prod.snd x))
                    (sdA (inB (↑(Prod.fst x) : Int) (List.length l))
                      (sdA
                        (inR IntKind.u8
                          ((↑(UInt8.toNat (List.getD l (Int.toNat (↑(Prod.fst x) : Int)) (0 : UInt8))) : Int) -
                            (48 : Int)))
                        (sdA
                          (inR IntKind.i64
                            ((↑(UInt8.toNat (List.getD l (Int.toNat (↑(Prod.fst x) : Int)) (0 : UInt8))) : Int) -
                              (48 : Int)))
                          (sdA
                            (inR IntKind.i64
                              ((10 : Int) * Prod.snd x +
                                ((↑(UInt8.toNat (List.getD l (Int.toNat (↑(Prod.fst x) : Int)) (0 : UInt8))) : Int) -
                                  (48 : Int))))
                            (sdA (inR IntKind.i64 ((↑(Prod.fst x) : Int) + (1 : Int)))
                              (∃ (x' : Nat × Int),
                                I20 l x' ∧
                                  Nat.le (Nat.succ (List.length l - Prod.fst x')) (List.length l - Prod.fst x) ∧
                                    true = true ∧
                                      (l = l ∧
                                          (true = true ∧
                                              (bif
                                                    ilt (1099511627776 : Int)
                                                      ((10 : Int) * Prod.snd x +
                                                        ((↑(UInt8.toNat
                                                                (List.getD l (Int.toNat (↑(Prod.fst x) : Int))
                                                                  (0 : UInt8))) :
                                                            Int) -
                                                          (48 : Int))) then
                                                  (1099511627776 : Int)
                                                else
                                                  (10 : Int) * Prod.snd x +
                                                    ((↑(UInt8.toNat
                                                            (List.getD l (Int.toNat (↑(Prod.fst x) : Int))
                                                              (0 : UInt8))) :
                                                        Int) -
                                                      (48 : Int))) =
                                                Prod.snd x') ∧
                                            (true = true ∧ (↑(Prod.fst x) : Int) + (1 : Int) = (↑(Prod.fst x') : Int)) ∧
                                              True) ∧
                                        True)))))))))
            (brP
              (decide
                (l =
                  bytesL (List.length (Array.toList (ByteArray.data (ByteArray.mk #[]))))
                    (packL (Array.toList (ByteArray.data (ByteArray.mk #[]))))))
              ((true = true ∧ (0 : Int) = Prod.fst (numT l)) ∧ false = Prod.snd (numT l) ∧ True)
              (brP (ilt (2147483647 : Int) (Prod.snd x))
                ((true = true ∧ (0 : Int) = Prod.fst (numT l)) ∧ false = Prod.snd (numT l) ∧ True)
                ((true = true ∧ Prod.snd x = Prod.fst (numT l)) ∧ true = Prod.snd (numT l) ∧ True)))
:= by
  intro l hl
  simp only [Nat.le_eq] at hl
  simp only [show bytesL (List.length (Array.toList (ByteArray.data (ByteArray.mk #[])))) (packL (Array.toList (ByteArray.data (ByteArray.mk #[])))) = [] from rfl, bar_eq, eq_self, true_and, and_true, Int.toNat_natCast, Int.ofNat_eq_natCast]
  refine ⟨⟨(0, 0), ⟨Nat.zero_le _, by decide, by decide, rfl⟩, rfl, rfl⟩, fun x hx => ?_⟩
  obtain ⟨k, n⟩ := x
  obtain ⟨h1, h2, h3, h4⟩ := hx
  simp only at h1 h2 h3 h4 ⊢
  refine brP_of (fun h => ?_) fun h => ?_
  · rw [ilt_iff] at h
    have hd := drop_getD l k (by omega)
    have hT : numT l = numG 0 l := if_neg (by rintro rfl; simp at h; omega)
    rw [hd, numG] at h4
    rw [hT]
    have hb : inB (k : Int) l.length = true := inB_iff.2 (by omega)
    generalize ((l.getD k 0).toNat : Int) = z at h4 ⊢
    refine sdA_of hb (brP_of (fun hz => ?_) fun hz => ?_)
    · rw [Bool.not_eq_true'] at hz
      rw [hz, if_neg (by simp)] at h4
      rw [← h4]
      exact ⟨rfl, rfl⟩
    · rw [Bool.not_eq_false'] at hz
      rw [hz, if_pos rfl] at h4
      obtain ⟨hz1, hz2⟩ := digI_iff.1 hz
      refine sdA_of (inR_i64.2 (by omega)) (sdA_of hb (sdA_of (inR_u8.2 (by omega)) (sdA_of (inR_i64.2 (by omega)) (sdA_of (inR_i64.2 (by omega)) (sdA_of (inR_i64.2 (by omega)) ?_)))))
      cases hc : ilt (1099511627776 : Int) (10 * n + (z - 48)) with
      | true =>
        rw [ilt_iff] at hc
        rw [numG_big _ _ (by omega)] at h4
        exact ⟨(k + 1, 1099511627776), ⟨by simp only; omega, by simp only; omega, by simp only; omega, by rw [← h4]; exact numG_big _ _ (by simp)⟩, by simp only [Nat.le_eq]; omega, rfl, by simp⟩
      | false =>
        rw [ilt_iffn] at hc
        exact ⟨(k + 1, 10 * n + (z - 48)), ⟨by simp only; omega, by simp only; omega, by simp only; omega, h4⟩, by simp only [Nat.le_eq]; omega, rfl, by simp⟩
  · rw [ilt_iffn] at h
    obtain rfl : k = l.length := by omega
    rw [List.drop_length, numG] at h4
    refine brP_of (fun he => ?_) fun he => ?_
    · rw [decide_eq_true_eq] at he
      subst he
      exact ⟨rfl, rfl⟩
    · have hT : numT l = numG 0 l := if_neg (by simpa using he)
      rw [hT, ← h4]
      refine brP_of (fun hn => ?_) fun hn => ?_
      · rw [ilt_iff] at hn
        rw [if_neg (by omega)]
        exact ⟨rfl, rfl⟩
      · rw [ilt_iffn] at hn
        rw [if_pos hn]
        exact ⟨rfl, rfl⟩

theorem run21 : ∀ (l : List UInt8), l.length ≤ 1000000 → (cRun (cx1 tbC 21 3 (S21 l)) 60).call 21 [.bs l] .leaf 0 (ResM Tryd.prog false (.tup [.int .i64 (numT l).1, .bool (numT l).2])) :=
  Eq.mpr (by kernel_rfl) run21_r
end Go.Proofs.Tk
