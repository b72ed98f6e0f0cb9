/- Laid by program out of its parts: TkA. -/
import Derived.Test.YtblcpogddmjonaaDoorMe
import Derived.KernelRfl
import Derived.Test.YtblcpogddmjonaaDoorProg
set_option maxRecDepth 10000
set_option linter.unusedSimpArgs false
open Go Go.Ev
namespace Go.Proofs.Tk
theorem fol : Tryd.prog.follows .mixedOrders = true := by rfl
noncomputable def cxA (tb : Tbl) : Ctx := { P := Tryd.prog, tb := tb, lp := fun _ _ => none, cut := fun _ _ => none }
noncomputable def cx1 (tb : Tbl) (f0 r0 : Nat) (S : Stn) : Ctx := { P := Tryd.prog, tb := tb, lp := fun f r => cond (Nat.beq f f0) (cond (Nat.beq r r0) (some S) none) none, cut := fun _ _ => none }
/-- Bytes, as numbers. -/
def digI (z : Int) : Bool := decide (48 ≤ z ∧ z ≤ 57)
def orI (z : Int) : Int := IntKind.wrap IntKind.u8 (↑(BitVec.toNat (BitVec.ofInt (8 : Nat) z ||| BitVec.ofInt (8 : Nat) (32 : Int))) : Int)
def letrI (z : Int) : Bool := decide (z = 95) || decide (97 ≤ orI z ∧ orI z ≤ 122)
def blankI (z : Int) : Bool := decide (z = 32) || decide (z = 9) || decide (z = 10) || decide (z = 13) || decide (z = 35)
def LetrI (z : Int) : Bool := decide (97 ≤ z ∧ z ≤ 122) || decide (65 ≤ z ∧ z ≤ 90) || decide (z = 95)
/-- A barrier: the kernel reckons no further. -/
noncomputable def bar (b : Bool) : Bool := @decide (b = true) (Classical.propDecidable _)
/-- The same for any value. -/
noncomputable def barr {α : Type} (a : α) : α := Classical.choose (⟨a, rfl⟩ : ∃ y, y = a)
theorem barr_eq {α : Type} (a : α) : barr a = a := Classical.choose_spec (⟨a, rfl⟩ : ∃ y, y = a)
theorem bar_eq (b : Bool) : bar b = b := by unfold bar; cases b <;> simp
noncomputable def oneB (f : Int → Bool) : Tr AObj → List AV → Option Ct := fun _ args => match args with
  | [.int .u8 z] => some (.need True (.ret (.bool (bar (f z)))))
  | _ => none
/-- The last place of a byte ahead of a place. -/
def lastI (l : List UInt8) (c : Int) : Nat → Int
  | 0 => -1
  | k + 1 => if ((l.getD k 0).toNat : Int) = c then k else lastI l c k
structure I43 (l : List UInt8) (c : Int) (k : Nat) : Prop where
  le : k ≤ l.length
  ans : lastI l c k = lastI l c l.length
def S43 (l : List UInt8) (c : Int) : Stn := { X := Nat, T := fun _ _ k => [(0, .bv l), (1, .int .u8 c), (5, .int .i64 ((k : Int) - 1))], H := fun _ _ _ => [], nx := fun _ n0 => n0, I := fun _ => I43 l c, m := fun k => k }
def e43 : Tr AObj → List AV → Option Ct := fun _ args => match args with
  | [.bv l, .int .u8 c] => some (.need (l.length ≤ 1000000) (.ret (.int .i64 (lastI l c l.length))))
  | _ => none

theorem gl0 {q : Nat × AObj → Prop} : ∀ p ∈ ([] : List (Nat × AObj)), q p := fun _ h => by cases h
theorem oneB_ok {g : FuncId} {f : Int → Bool} (h : ∀ z : Int, (cRun (cxA []) 40).call g [.int .u8 z] .leaf 0 (ResM Tryd.prog false (.bool (f z)))) : EntOK Tryd.prog g (oneB f) := by
  refine ent_of (gl := []) (ng := 0) gl0 fun H args ct hct => ?_
  unfold oneB at hct
  split at hct
  · rename_i z
    injection hct with hct; subst hct
    exact ⟨gl0, ⟨⟨rfl, rfl⟩, trivial⟩, _, _, rfl, fun _ => ⟨cxA [], 40, rfl, fol, tb_nil, by rw [bar_eq]; exact h z⟩⟩
  · cases hct

theorem run37_r : ∀ (z : Int), brP (!ilt z (48 : Int)) ((!ilt (57 : Int) z) = digI z) (false = digI z)
:= by
  intro z
  simp only [brP_iff, digI, ilt_eq, ieq_eq]
  grind
theorem run37 : ∀ z : Int, (cRun (cxA []) 40).call 37 [.int .u8 z] .leaf 0 (ResM Tryd.prog false (.bool (digI z))) :=
  Eq.mpr (by kernel_rfl) run37_r

theorem run38_r : ∀ (z : Int),
  brP (ieq z (95 : Int)) (true = letrI z)
    (brP
      (!ilt
          (IntKind.wrap IntKind.u8
            (↑(BitVec.toNat (BitVec.ofInt (8 : Nat) z ||| BitVec.ofInt (8 : Nat) (32 : Int))) : Int))
          (97 : Int))
      ((!ilt (122 : Int)
            (IntKind.wrap IntKind.u8
              (↑(BitVec.toNat (BitVec.ofInt (8 : Nat) z ||| BitVec.ofInt (8 : Nat) (32 : Int))) : Int))) =
        letrI z)
      (false = letrI z))
:= by
  intro z
  rw [show IntKind.wrap IntKind.u8 (↑(BitVec.toNat (BitVec.ofInt (8 : Nat) z ||| BitVec.ofInt (8 : Nat) (32 : Int))) : Int) = orI z from rfl]
  generalize h : orI z = y
  simp only [brP_iff, letrI, h, ilt_eq, ieq_eq]
  grind
theorem run38 : ∀ z : Int, (cRun (cxA []) 40).call 38 [.int .u8 z] .leaf 0 (ResM Tryd.prog false (.bool (letrI z))) :=
  Eq.mpr (by kernel_rfl) run38_r

theorem run30_r : ∀ (z : Int),
  brP (ieq z (32 : Int)) (true = blankI z)
    (brP (ieq z (9 : Int)) (true = blankI z)
      (brP (ieq z (10 : Int)) (true = blankI z)
        (brP (ieq z (13 : Int)) (true = blankI z) (ieq z (35 : Int) = blankI z))))
:= by
  intro z
  simp only [brP_iff, blankI, ilt_eq, ieq_eq]
  grind
theorem run30 : ∀ z : Int, (cRun (cxA []) 40).call 30 [.int .u8 z] .leaf 0 (ResM Tryd.prog false (.bool (blankI z))) :=
  Eq.mpr (by kernel_rfl) run30_r

theorem run45_r : ∀ (z : Int),
  brP (ieq z (95 : Int)) (true = (letrI z || digI z))
    (brP
      (!ilt
          (IntKind.wrap IntKind.u8
            (↑(BitVec.toNat (BitVec.ofInt (8 : Nat) z ||| BitVec.ofInt (8 : Nat) (32 : Int))) : Int))
          (97 : Int))
      (brP
        (!ilt (122 : Int)
            (IntKind.wrap IntKind.u8
              (↑(BitVec.toNat (BitVec.ofInt (8 : Nat) z ||| BitVec.ofInt (8 : Nat) (32 : Int))) : Int)))
        (true = (letrI z || digI z))
        (brP (!ilt z (48 : Int)) ((!ilt (57 : Int) z) = (letrI z || digI z)) (false = (letrI z || digI z))))
      (brP (!ilt z (48 : Int)) ((!ilt (57 : Int) z) = (letrI z || digI z)) (false = (letrI z || digI z))))
:= by
  intro z
  rw [show IntKind.wrap IntKind.u8 (↑(BitVec.toNat (BitVec.ofInt (8 : Nat) z ||| BitVec.ofInt (8 : Nat) (32 : Int))) : Int) = orI z from rfl]
  generalize h : orI z = y
  simp only [brP_iff, letrI, digI, h, ilt_eq, ieq_eq]
  grind
theorem run45 : ∀ z : Int, (cRun (cxA []) 40).call 45 [.int .u8 z] .leaf 0 (ResM Tryd.prog false (.bool (letrI z || digI z))) :=
  Eq.mpr (by kernel_rfl) run45_r

theorem run46_r : ∀ (z : Int), (!ieq z (10 : Int)) = !decide (z = (10 : Int))
:= by
  intro z
  rw [ieq_eq]; rfl
theorem run46 : ∀ z : Int, (cRun (cxA []) 40).call 46 [.int .u8 z] .leaf 0 (ResM Tryd.prog false (.bool (!decide (z = 10)))) :=
  Eq.mpr (by kernel_rfl) run46_r

theorem run31_r : ∀ (z : Int),
  brP (!ilt z (97 : Int))
    (brP (!ilt (122 : Int) z) (true = LetrI z)
      (brP (!ilt z (65 : Int)) (brP (!ilt (90 : Int) z) (true = LetrI z) (ieq z (95 : Int) = LetrI z))
        (ieq z (95 : Int) = LetrI z)))
    (brP (!ilt z (65 : Int)) (brP (!ilt (90 : Int) z) (true = LetrI z) (ieq z (95 : Int) = LetrI z))
      (ieq z (95 : Int) = LetrI z))
:= by
  intro z
  simp only [brP_iff, LetrI, ilt_eq, ieq_eq]
  grind
theorem run31 : ∀ z : Int, (cRun (cxA []) 40).call 31 [.int .u8 z] .leaf 0 (ResM Tryd.prog false (.bool (LetrI z))) :=
  Eq.mpr (by kernel_rfl) run31_r

theorem run32_r : ∀ (z : Int), brP (!ilt z (48 : Int)) ((!ilt (57 : Int) z) = digI z) (false = digI z)
:= by
  intro z
  simp only [brP_iff, digI, ilt_eq, ieq_eq]
  grind
theorem run32 : ∀ z : Int, (cRun (cxA []) 40).call 32 [.int .u8 z] .leaf 0 (ResM Tryd.prog false (.bool (digI z))) :=
  Eq.mpr (by kernel_rfl) run32_r

theorem run43_r : ∀ (l : List UInt8) (c : Int),
  Nat.le (List.length l) (1000000 : Nat) →
    sdA (inR IntKind.i64 (Int.ofNat (List.length l) - (1 : Int)))
      ((∃ (x0 : Nat),
          I43 l c x0 ∧
            true = true ∧
              (l = l ∧
                  (true = true ∧ c = c) ∧
                    (true = true ∧ Int.ofNat (List.length l) - (1 : Int) = (↑x0 : Int) - (1 : Int)) ∧ True) ∧
                True) ∧
        ∀ (x : Nat),
          I43 l c x →
            brP (!ilt ((↑x : Int) - (1 : Int)) (0 : Int))
              (sdA (inB ((↑x : Int) - (1 : Int)) (List.length l))
                (brP (ieq (↑(UInt8.toNat (List.getD l (Int.toNat ((↑x : Int) - (1 : Int))) (0 : UInt8))) : Int) c)
                  (true = true ∧ (↑x : Int) - (1 : Int) = lastI l c (List.length l))
                  (sdA (inR IntKind.i64 ((↑x : Int) - (1 : Int) - (1 : Int)))
                    (∃ (x' : Nat),
                      I43 l c x' ∧
                        Nat.le (Nat.succ x') x ∧
                          true = true ∧
                            (l = l ∧
                                (true = true ∧ c = c) ∧
                                  (true = true ∧ (↑x : Int) - (1 : Int) - (1 : Int) = (↑x' : Int) - (1 : Int)) ∧ True) ∧
                              True))))
              (true = true ∧ Int.negSucc (0 : Nat) = lastI l c (List.length l)))
:= by
  intro l c hl
  simp only [Nat.le_eq] at hl
  refine sdA_of (inR_i64.2 (by simp; omega)) ⟨⟨l.length, ⟨Nat.le_refl _, rfl⟩, rfl, ⟨rfl, ⟨rfl, rfl⟩, ⟨rfl, rfl⟩, trivial⟩, trivial⟩, fun k hk => brP_of (fun h => ?_) fun h => ?_⟩
  · have h1 := hk.le
    simp only [Bool.not_eq_true', ilt_iffn] at h
    obtain ⟨k, rfl⟩ : ∃ j, k = j + 1 := ⟨k - 1, by omega⟩
    have e : Int.toNat (((k + 1 : Nat) : Int) - 1) = k := by omega
    have h2 := hk.ans
    rw [lastI] at h2
    refine sdA_of (inB_iff.2 (by omega)) (brP_of (fun h => ?_) fun h => ?_)
    · rw [e, ieq_iff] at h
      rw [if_pos h] at h2
      exact ⟨rfl, by rw [← h2]; omega⟩
    · rw [e, ieq_iffn] at h
      rw [if_neg h] at h2
      exact sdA_of (inR_i64.2 (by omega)) ⟨k, ⟨by omega, h2⟩, Nat.le_refl _, rfl, ⟨rfl, ⟨rfl, rfl⟩, ⟨rfl, by omega⟩, trivial⟩, trivial⟩
  · have h1 := hk.le
    simp only [Bool.not_eq_false', ilt_iff] at h
    obtain rfl : k = 0 := by omega
    exact ⟨rfl, hk.ans⟩
theorem run43 : ∀ (l : List UInt8) (c : Int), l.length ≤ 1000000 → (cRun (cx1 [] 43 2 (S43 l c)) 40).call 43 [.bv l, .int .u8 c] .leaf 0 (ResM Tryd.prog false (.int .i64 (lastI l c l.length))) :=
  Eq.mpr (by kernel_rfl) run43_r

theorem ok43 : EntOK Tryd.prog 43 e43 := by
  refine ent_of (gl := []) (ng := 0) gl0 fun H args ct hct => ?_
  unfold e43 at hct
  split at hct
  · rename_i l c
    injection hct with hct; subst hct
    exact ⟨gl0, ⟨rfl, ⟨rfl, rfl⟩, trivial⟩, _, _, rfl, fun hp => ⟨cx1 [] 43 2 (S43 l c), 40, rfl, fol, tb_nil, run43 l c hp⟩⟩
  · cases hct

/-- The table so far. -/
noncomputable def tbA : Tbl := [(37, oneB digI), (38, oneB letrI), (30, oneB blankI), (45, oneB fun z => letrI z || digI z), (46, oneB fun z => !decide (z = 10)), (31, oneB LetrI), (32, oneB digI), (43, e43)]
theorem tbA_ok : TbOK Tryd.prog tbA :=
  tb_cons (oneB_ok run37) <| tb_cons (oneB_ok run38) <| tb_cons (oneB_ok run30) <| tb_cons (oneB_ok run45) <| tb_cons (oneB_ok run46) <| tb_cons (oneB_ok run31) <| tb_cons (oneB_ok run32) <| tb_cons ok43 tb_nil

end Go.Proofs.Tk
