/- Laid by program out of its parts: TkC. -/
import Derived.Test.YtblcpogddmjonaaDoorTkB
set_option maxRecDepth 10000
set_option linter.unusedSimpArgs false
open Go Go.Ev
namespace Go.Proofs.Tk
noncomputable def tbB : Tbl := (44, e44) :: tbA
def markI (z : Int) : Bool := decide (z = 61) || decide (z = 123) || decide (z = 125) || decide (z = 40) || decide (z = 41) || decide (z = 91) || decide (z = 93) || decide (z = 59) || decide (z = 46) || decide (z = 43) || decide (z = 45) || decide (z = 42) || decide (z = 60)
/-- The kind of what stands at the beginning, and its length. -/
def nxT : List UInt8 → Int × Nat
  | [] => (0, 0)
  | b :: t => if letrI (b.toNat : Int) then (1, runN (fun z => letrI z || digI z) (b :: t)) else if digI (b.toNat : Int) then (3, runN digI (b :: t))
    else if (b.toNat : Int) = 35 then (0, runN (fun z => !decide (z = 10)) (b :: t))
    else if (b.toNat : Int) = 61 ∧ 1 ≤ t.length ∧ ((t.getD 0 0).toNat : Int) = 61 then (4, 2) else if markI (b.toNat : Int) then (4, 1) else (0, 1)
/-- The length of the mark at a place. -/
def mkT' (l : List UInt8) : Nat → Int := fun k => if ((l.getD k 0).toNat : Int) = 61 ∧ k + 1 < l.length ∧ ((l.getD (k + 1) 0).toNat : Int) = 61 then 2 else if markI ((l.getD k 0).toNat : Int) then 1 else 0
noncomputable def e26 : Tr AObj → List AV → Option Ct := fun _ args => match args with
  | [.bv l, .bv [z]] => some (.need True (.ret (.int .i64 (Lib.countByte l z))))
  | _ => none
noncomputable def e27 : Tr AObj → List AV → Option Ct := fun _ args => match args with
  | [.bv l, .int .u8 c] => some (.need (l.length ≤ 1000000) (.ret (.int .i64 (lastI l c l.length))))
  | _ => none
noncomputable def e28 : Tr AObj → List AV → Option Ct := fun _ args => match args with
  | [.bv l] => some (.need (l ≠ [] ∧ l.length ≤ 1000000) (.ret (.tup [.int .i64 (barr (nxT l).1), .int .i64 (barr (nxT l).2 : Nat)])))
  | _ => none
noncomputable def e33 : Tr AObj → List AV → Option Ct := fun _ args => match args with
  | [.bv l, .int .i64 z] => some (.need (0 ≤ z ∧ z < l.length ∧ l.length ≤ 1000000) (.ret (.int .i64 (barr (mkT' l z.toNat)))))
  | _ => none

theorem run26_r : ∀ (l : List UInt8) (z : UInt8),
  sdA (inR IntKind.u8 (↑(UInt8.toNat (List.getD [z] (0 : Nat) (0 : UInt8))) : Int))
    (true = true ∧
      Int.ofNat
          (Lib.countByte l (UInt8.ofNat (Int.toNat (↑(UInt8.toNat (List.getD [z] (0 : Nat) (0 : UInt8))) : Int)))) =
        (↑(Lib.countByte l z) : Int))
:= by
  intro l z
  simp only [List.getD_cons_zero, Int.toNat_natCast, UInt8.ofNat_toNat]
  refine sdA_of (inR_u8.2 ?_) ⟨trivial, rfl⟩
  have := z.toNat_lt
  omega
theorem run26 : ∀ (l : List UInt8) (z : UInt8), (cRun (cxA tbB) 60).call 26 [.bv l, .bv [z]] .leaf 0 (ResM Tryd.prog false (.int .i64 (Lib.countByte l z))) :=
  Eq.mpr (by kernel_rfl) run26_r

theorem run27_r : ∀ (l : List UInt8) (z : Int),
  Nat.le (List.length l) (1000000 : Nat) →
    Nat.le (List.length l) (1000000 : Nat) ∧ true = true ∧ lastI l z (List.length l) = lastI l z (List.length l)
:= by
  intro l z hl
  exact ⟨hl, rfl, rfl⟩
theorem run27 : ∀ (l : List UInt8) (z : Int), l.length ≤ 1000000 → (cRun (cxA tbB) 60).call 27 [.bv l, .int .u8 z] .leaf 0 (ResM Tryd.prog false (.int .i64 (lastI l z l.length))) :=
  Eq.mpr (by kernel_rfl) run27_r

theorem run28_r : ∀ (b : UInt8) (t : List UInt8),
  Nat.le (List.length (b :: t)) (1000000 : Nat) →
    sdA (inB (0 : Int) (List.length (b :: t)))
      (True ∧
        brP (bar (letrI (↑(UInt8.toNat (List.getD (b :: t) (0 : Nat) (0 : UInt8))) : Int)))
          (Nat.le (List.length (b :: t)) (1000000 : Nat) ∧
            (true = true ∧ (1 : Int) = Prod.fst (nxT (b :: t))) ∧
              (true = true ∧
                  (↑(runN (fun (z : Int) => letrI z || digI z) (b :: t)) : Int) = (↑(Prod.snd (nxT (b :: t))) : Int)) ∧
                True)
          (sdA (inB (0 : Int) (List.length (b :: t)))
            (True ∧
              brP (bar (digI (↑(UInt8.toNat (List.getD (b :: t) (0 : Nat) (0 : UInt8))) : Int)))
                (Nat.le (List.length (b :: t)) (1000000 : Nat) ∧
                  (true = true ∧ (3 : Int) = Prod.fst (nxT (b :: t))) ∧
                    (true = true ∧ (↑(runN digI (b :: t)) : Int) = (↑(Prod.snd (nxT (b :: t))) : Int)) ∧ True)
                (sdA (inB (0 : Int) (List.length (b :: t)))
                  (brP (ieq (↑(UInt8.toNat (List.getD (b :: t) (0 : Nat) (0 : UInt8))) : Int) (35 : Int))
                    (Nat.le (List.length (b :: t)) (1000000 : Nat) ∧
                      (true = true ∧ (0 : Int) = Prod.fst (nxT (b :: t))) ∧
                        (true = true ∧
                            (↑(runN (fun (z : Int) => !decide (z = (10 : Int))) (b :: t)) : Int) =
                              (↑(Prod.snd (nxT (b :: t))) : Int)) ∧
                          True)
                    (sdA (inB (0 : Int) (List.length (b :: t)))
                      (brP (ieq (↑(UInt8.toNat (List.getD (b :: t) (0 : Nat) (0 : UInt8))) : Int) (61 : Int))
                        (brP (ilt (1 : Int) (Int.ofNat (List.length (b :: t))))
                          (sdA (inB (1 : Int) (List.length (b :: t)))
                            (brP (ieq (↑(UInt8.toNat (List.getD (b :: t) (1 : Nat) (0 : UInt8))) : Int) (61 : Int))
                              ((true = true ∧ (4 : Int) = Prod.fst (nxT (b :: t))) ∧
                                (true = true ∧ (2 : Int) = (↑(Prod.snd (nxT (b :: t))) : Int)) ∧ True)
                              ((true = true ∧ (4 : Int) = Prod.fst (nxT (b :: t))) ∧
                                (true = true ∧ (1 : Int) = (↑(Prod.snd (nxT (b :: t))) : Int)) ∧ True)))
                          ((true = true ∧ (4 : Int) = Prod.fst (nxT (b :: t))) ∧
                            (true = true ∧ (1 : Int) = (↑(Prod.snd (nxT (b :: t))) : Int)) ∧ True))
                        (brP (ieq (↑(UInt8.toNat (List.getD (b :: t) (0 : Nat) (0 : UInt8))) : Int) (123 : Int))
                          ((true = true ∧ (4 : Int) = Prod.fst (nxT (b :: t))) ∧
                            (true = true ∧ (1 : Int) = (↑(Prod.snd (nxT (b :: t))) : Int)) ∧ True)
                          (brP (ieq (↑(UInt8.toNat (List.getD (b :: t) (0 : Nat) (0 : UInt8))) : Int) (125 : Int))
                            ((true = true ∧ (4 : Int) = Prod.fst (nxT (b :: t))) ∧
                              (true = true ∧ (1 : Int) = (↑(Prod.snd (nxT (b :: t))) : Int)) ∧ True)
                            (brP (ieq (↑(UInt8.toNat (List.getD (b :: t) (0 : Nat) (0 : UInt8))) : Int) (40 : Int))
                              ((true = true ∧ (4 : Int) = Prod.fst (nxT (b :: t))) ∧
                                (true = true ∧ (1 : Int) = (↑(Prod.snd (nxT (b :: t))) : Int)) ∧ True)
                              (brP (ieq (↑(UInt8.toNat (List.getD (b :: t) (0 : Nat) (0 : UInt8))) : Int) (41 : Int))
                                ((true = true ∧ (4 : Int) = Prod.fst (nxT (b :: t))) ∧
                                  (true = true ∧ (1 : Int) = (↑(Prod.snd (nxT (b :: t))) : Int)) ∧ True)
                                (brP (ieq (↑(UInt8.toNat (List.getD (b :: t) (0 : Nat) (0 : UInt8))) : Int) (91 : Int))
                                  ((true = true ∧ (4 : Int) = Prod.fst (nxT (b :: t))) ∧
                                    (true = true ∧ (1 : Int) = (↑(Prod.snd (nxT (b :: t))) : Int)) ∧ True)
                                  (brP
                                    (ieq (↑(UInt8.toNat (List.getD (b :: t) (0 : Nat) (0 : UInt8))) : Int) (93 : Int))
                                    ((true = true ∧ (4 : Int) = Prod.fst (nxT (b :: t))) ∧
                                      (true = true ∧ (1 : Int) = (↑(Prod.snd (nxT (b :: t))) : Int)) ∧ True)
                                    (brP
                                      (ieq (↑(UInt8.toNat (List.getD (b :: t) (0 : Nat) (0 : UInt8))) : Int) (59 : Int))
                                      ((true = true ∧ (4 : Int) = Prod.fst (nxT (b :: t))) ∧
                                        (true = true ∧ (1 : Int) = (↑(Prod.snd (nxT (b :: t))) : Int)) ∧ True)
                                      (brP
                                        (ieq (↑(UInt8.toNat (List.getD (b :: t) (0 : Nat) (0 : UInt8))) : Int)
                                          (46 : Int))
                                        ((true = true ∧ (4 : Int) = Prod.fst (nxT (b :: t))) ∧
                                          (true = true ∧ (1 : Int) = (↑(Prod.snd (nxT (b :: t))) : Int)) ∧ True)
                                        (brP
                                          (ieq (↑(UInt8.toNat (List.getD (b :: t) (0 : Nat) (0 : UInt8))) : Int)
                                            (43 : Int))
                                          ((true = true ∧ (4 : Int) = Prod.fst (nxT (b :: t))) ∧
                                            (true = true ∧ (1 : Int) = (↑(Prod.snd (nxT (b :: t))) : Int)) ∧ True)
                                          (brP
                                            (ieq (↑(UInt8.toNat (List.getD (b :: t) (0 : Nat) (0 : UInt8))) : Int)
                                              (45 : Int))
                                            ((true = true ∧ (4 : Int) = Prod.fst (nxT (b :: t))) ∧
                                              (true = true ∧ (1 : Int) = (↑(Prod.snd (nxT (b :: t))) : Int)) ∧ True)
                                            (brP
                                              (ieq (↑(UInt8.toNat (List.getD (b :: t) (0 : Nat) (0 : UInt8))) : Int)
                                                (42 : Int))
                                              ((true = true ∧ (4 : Int) = Prod.fst (nxT (b :: t))) ∧
                                                (true = true ∧ (1 : Int) = (↑(Prod.snd (nxT (b :: t))) : Int)) ∧ True)
                                              (brP
                                                (ieq (↑(UInt8.toNat (List.getD (b :: t) (0 : Nat) (0 : UInt8))) : Int)
                                                  (60 : Int))
                                                ((true = true ∧ (4 : Int) = Prod.fst (nxT (b :: t))) ∧
                                                  (true = true ∧ (1 : Int) = (↑(Prod.snd (nxT (b :: t))) : Int)) ∧ True)
                                                ((true = true ∧ (0 : Int) = Prod.fst (nxT (b :: t))) ∧
                                                  (true = true ∧ (1 : Int) = (↑(Prod.snd (nxT (b :: t))) : Int)) ∧
                                                    True))))))))))))))))))))
:= by
  intro b t hl
  have hb : inB (0 : Int) (b :: t).length = true := inB_iff.2 (by simp)
  have h1 : ilt (1 : Int) (Int.ofNat (b :: t).length) = decide (1 ≤ t.length) := by rw [ilt_eq]; simp; omega
  have hb1 : 1 ≤ t.length → inB (1 : Int) (b :: t).length = true := fun h => inB_iff.2 (by simp; omega)
  rw [h1]
  simp only [List.getD_cons_zero, List.getD_cons_succ, bar_eq, nxT]
  generalize hz : (b.toNat : Int) = z
  generalize hy : ((t.getD 0 0).toNat : Int) = y
  repeat' first
    | exact trivial
    | exact (rfl : true = true)
    | refine sdA_of ?_ ?_
    | refine brP_of (fun _ => ?_) (fun _ => ?_)
    | refine And.intro ?_ ?_
  all_goals first
    | exact hl
    | exact hb
    | (exact hb1 (of_decide_eq_true (by assumption)))
    | (simp_all [markI, ilt_eq, ieq_eq]; done)
theorem run28 : ∀ (b : UInt8) (t : List UInt8), (b :: t).length ≤ 1000000 → (cRun (cxA tbB) 80).call 28 [.bv (b :: t)] .leaf 0 (ResM Tryd.prog false (.tup [.int .i64 (nxT (b :: t)).1, .int .i64 (nxT (b :: t)).2])) :=
  Eq.mpr (by kernel_rfl) run28_r

theorem run33_r : ∀ (l : List UInt8) (z : Nat),
  Nat.le (Nat.succ z) (List.length l) →
    Nat.le (List.length l) (1000000 : Nat) →
      sdA (inR IntKind.i64 ((↑z : Int) + (1 : Int)))
        (brP (ilt ((↑z : Int) + (1 : Int)) (Int.ofNat (List.length l)))
          (sdA (inB (↑z : Int) (List.length l))
            (brP (ieq (↑(UInt8.toNat (List.getD l (Int.toNat (↑z : Int)) (0 : UInt8))) : Int) (61 : Int))
              (sdA (inR IntKind.i64 ((↑z : Int) + (1 : Int)))
                (sdA (inB ((↑z : Int) + (1 : Int)) (List.length l))
                  (brP
                    (ieq (↑(UInt8.toNat (List.getD l (Int.toNat ((↑z : Int) + (1 : Int))) (0 : UInt8))) : Int)
                      (61 : Int))
                    (true = true ∧ (2 : Int) = mkT' l z)
                    (sdA (inB (↑z : Int) (List.length l))
                      ((((True ∧ True) ∧ True) ∧ True) ∧
                        brP (ieq (↑(UInt8.toNat (List.getD l (Int.toNat (↑z : Int)) (0 : UInt8))) : Int) (123 : Int))
                          (true = true ∧ (1 : Int) = mkT' l z)
                          (sdA (inB (↑z : Int) (List.length l))
                            ((((True ∧ True) ∧ True) ∧ True) ∧
                              brP
                                (ieq (↑(UInt8.toNat (List.getD l (Int.toNat (↑z : Int)) (0 : UInt8))) : Int)
                                  (125 : Int))
                                (true = true ∧ (1 : Int) = mkT' l z)
                                (sdA (inB (↑z : Int) (List.length l))
                                  ((((True ∧ True) ∧ True) ∧ True) ∧
                                    brP
                                      (ieq (↑(UInt8.toNat (List.getD l (Int.toNat (↑z : Int)) (0 : UInt8))) : Int)
                                        (40 : Int))
                                      (true = true ∧ (1 : Int) = mkT' l z)
                                      (sdA (inB (↑z : Int) (List.length l))
                                        ((((True ∧ True) ∧ True) ∧ True) ∧
                                          brP
                                            (ieq (↑(UInt8.toNat (List.getD l (Int.toNat (↑z : Int)) (0 : UInt8))) : Int)
                                              (41 : Int))
                                            (true = true ∧ (1 : Int) = mkT' l z)
                                            (sdA (inB (↑z : Int) (List.length l))
                                              ((((True ∧ True) ∧ True) ∧ True) ∧
                                                brP
                                                  (ieq
                                                    (↑(UInt8.toNat (List.getD l (Int.toNat (↑z : Int)) (0 : UInt8))) :
                                                      Int)
                                                    (91 : Int))
                                                  (true = true ∧ (1 : Int) = mkT' l z)
                                                  (sdA (inB (↑z : Int) (List.length l))
                                                    ((((True ∧ True) ∧ True) ∧ True) ∧
                                                      brP
                                                        (ieq
                                                          (↑(UInt8.toNat
                                                                (List.getD l (Int.toNat (↑z : Int)) (0 : UInt8))) :
                                                            Int)
                                                          (93 : Int))
                                                        (true = true ∧ (1 : Int) = mkT' l z)
                                                        (sdA (inB (↑z : Int) (List.length l))
                                                          ((((True ∧ True) ∧ True) ∧ True) ∧
                                                            brP
                                                              (ieq
                                                                (↑(UInt8.toNat
                                                                      (List.getD l (Int.toNat (↑z : Int))
                                                                        (0 : UInt8))) :
                                                                  Int)
                                                                (59 : Int))
                                                              (true = true ∧ (1 : Int) = mkT' l z)
                                                              (sdA (inB (↑z : Int) (List.length l))
                                                                ((((True ∧ True) ∧ True) ∧ True) ∧
                                                                  brP
                                                                    (ieq
                                                                      (↑(UInt8.toNat
                                                                            (List.getD l (Int.toNat (↑z : Int))
                                                                              (0 : UInt8))) :
                                                                        Int)
                                                                      (46 : Int))
                                                                    (true = true ∧ (1 : Int) = mkT' l z)
                                                                    (sdA (inB (↑z : Int) (List.length l))
                                                                      ((((True ∧ True) ∧ True) ∧ True) ∧
                                                                        brP
                                                                          (ieq
                                                                            (↑(UInt8.toNat
                                                                                  (List.getD l (Int.toNat (↑z : Int))
                                                                                    (0 : UInt8))) :
                                                                              Int)
                                                                            (61 : Int))
                                                                          (true = true ∧ (1 : Int) = mkT' l z)
                                                                          (sdA (inB (↑z : Int) (List.length l))
                                                                            ((((True ∧ True) ∧ True) ∧ True) ∧
                                                                              brP
                                                                                (ieq
                                                                                  (↑(UInt8.toNat
                                                                                        (List.getD l
                                                                                          (Int.toNat (↑z : Int))
                                                                                          (0 : UInt8))) :
                                                                                    Int)
                                                                                  (43 : Int))
                                                                                (true = true ∧ (1 : Int) = mkT' l z)
                                                                                (sdA (inB (↑z : Int) (List.length l))
                                                                                  ((((True ∧ True) ∧ True) ∧ True) ∧
                                                                                    brP
                                                                                      (ieq
                                                                                        (↑(UInt8.toNat
                                                                                              (List.getD l
                                                                                                (Int.toNat (↑z : Int))
                                                                                                (0 : UInt8))) :
                                                                                          Int)
                                                                                        (45 : Int))
                                                                                      (true = true ∧
                                                                                        (1 : Int) = mkT' l z)
                                                                                      (sdA
                                                                                        (inB (↑z : Int) (List.length l))
                                                                                        ((((True ∧ True) ∧ True) ∧
                                                                                            True) ∧
                                                                                          brP
                                                                                            (ieq
                                                                                              (↑(UInt8.toNat
                                                                                                    (List.getD l
                                                                                                      (Int.toNat
                                                                                                        (↑z : Int))
                                                                                                      (0 : UInt8))) :
                                                                                                Int)
                                                                                              (42 : Int))
                                                                                            (true = true ∧
                                                                                              (1 : Int) = mkT' l z)
                                                                                            (sdA
                                                                                              (inB (↑z : Int)
                                                                                                (List.length l))
                                                                                              ((((True ∧ True) ∧ True) ∧
                                                                                                  True) ∧
                                                                                                brP
                                                                                                  (ieq
                                                                                                    (↑(UInt8.toNat
                                                                                                          (List.getD l
                                                                                                            (Int.toNat
                                                                                                              (↑z :
                                                                                                                Int))
                                                                                                            (0 :
                                                                                                              UInt8))) :
                                                                                                      Int)
                                                                                                    (60 : Int))
                                                                                                  (true = true ∧
                                                                                                    (1 : Int) =
                                                                                                      mkT' l z)
                                                                                                  (true = true ∧
                                                                                                    (0 : Int) =
                                                                                                      mkT' l
                                                                                                        z))))))))))))))))))))))))))))))
              (sdA (inB (↑z : Int) (List.length l))
                ((((True ∧ True) ∧ True) ∧ True) ∧
                  brP (ieq (↑(UInt8.toNat (List.getD l (Int.toNat (↑z : Int)) (0 : UInt8))) : Int) (123 : Int))
                    (true = true ∧ (1 : Int) = mkT' l z)
                    (sdA (inB (↑z : Int) (List.length l))
                      ((((True ∧ True) ∧ True) ∧ True) ∧
                        brP (ieq (↑(UInt8.toNat (List.getD l (Int.toNat (↑z : Int)) (0 : UInt8))) : Int) (125 : Int))
                          (true = true ∧ (1 : Int) = mkT' l z)
                          (sdA (inB (↑z : Int) (List.length l))
                            ((((True ∧ True) ∧ True) ∧ True) ∧
                              brP
                                (ieq (↑(UInt8.toNat (List.getD l (Int.toNat (↑z : Int)) (0 : UInt8))) : Int) (40 : Int))
                                (true = true ∧ (1 : Int) = mkT' l z)
                                (sdA (inB (↑z : Int) (List.length l))
                                  ((((True ∧ True) ∧ True) ∧ True) ∧
                                    brP
                                      (ieq (↑(UInt8.toNat (List.getD l (Int.toNat (↑z : Int)) (0 : UInt8))) : Int)
                                        (41 : Int))
                                      (true = true ∧ (1 : Int) = mkT' l z)
                                      (sdA (inB (↑z : Int) (List.length l))
                                        ((((True ∧ True) ∧ True) ∧ True) ∧
                                          brP
                                            (ieq (↑(UInt8.toNat (List.getD l (Int.toNat (↑z : Int)) (0 : UInt8))) : Int)
                                              (91 : Int))
                                            (true = true ∧ (1 : Int) = mkT' l z)
                                            (sdA (inB (↑z : Int) (List.length l))
                                              ((((True ∧ True) ∧ True) ∧ True) ∧
                                                brP
                                                  (ieq
                                                    (↑(UInt8.toNat (List.getD l (Int.toNat (↑z : Int)) (0 : UInt8))) :
                                                      Int)
                                                    (93 : Int))
                                                  (true = true ∧ (1 : Int) = mkT' l z)
                                                  (sdA (inB (↑z : Int) (List.length l))
                                                    ((((True ∧ True) ∧ True) ∧ True) ∧
                                                      brP
                                                        (ieq
                                                          (↑(UInt8.toNat
                                                                (List.getD l (Int.toNat (↑z : Int)) (0 : UInt8))) :
                                                            Int)
                                                          (59 : Int))
                                                        (true = true ∧ (1 : Int) = mkT' l z)
                                                        (sdA (inB (↑z : Int) (List.length l))
                                                          ((((True ∧ True) ∧ True) ∧ True) ∧
                                                            brP
                                                              (ieq
                                                                (↑(UInt8.toNat
                                                                      (List.getD l (Int.toNat (↑z : Int))
                                                                        (0 : UInt8))) :
                                                                  Int)
                                                                (46 : Int))
                                                              (true = true ∧ (1 : Int) = mkT' l z)
                                                              (sdA (inB (↑z : Int) (List.length l))
                                                                ((((True ∧ True) ∧ True) ∧ True) ∧
                                                                  brP
                                                                    (ieq
                                                                      (↑(UInt8.toNat
                                                                            (List.getD l (Int.toNat (↑z : Int))
                                                                              (0 : UInt8))) :
                                                                        Int)
                                                                      (61 : Int))
                                                                    (true = true ∧ (1 : Int) = mkT' l z)
                                                                    (sdA (inB (↑z : Int) (List.length l))
                                                                      ((((True ∧ True) ∧ True) ∧ True) ∧
                                                                        brP
                                                                          (ieq
                                                                            (↑(UInt8.toNat
                                                                                  (List.getD l (Int.toNat (↑z : Int))
                                                                                    (0 : UInt8))) :
                                                                              Int)
                                                                            (43 : Int))
                                                                          (true = true ∧ (1 : Int) = mkT' l z)
                                                                          (sdA (inB (↑z : Int) (List.length l))
                                                                            ((((True ∧ True) ∧ True) ∧ True) ∧
                                                                              brP
                                                                                (ieq
                                                                                  (↑(UInt8.toNat
                                                                                        (List.getD l
                                                                                          (Int.toNat (↑z : Int))
                                                                                          (0 : UInt8))) :
                                                                                    Int)
                                                                                  (45 : Int))
                                                                                (true = true ∧ (1 : Int) = mkT' l z)
                                                                                (sdA (inB (↑z : Int) (List.length l))
                                                                                  ((((True ∧ True) ∧ True) ∧ True) ∧
                                                                                    brP
                                                                                      (ieq
                                                                                        (↑(UInt8.toNat
                                                                                              (List.getD l
                                                                                                (Int.toNat (↑z : Int))
                                                                                                (0 : UInt8))) :
                                                                                          Int)
                                                                                        (42 : Int))
                                                                                      (true = true ∧
                                                                                        (1 : Int) = mkT' l z)
                                                                                      (sdA
                                                                                        (inB (↑z : Int) (List.length l))
                                                                                        ((((True ∧ True) ∧ True) ∧
                                                                                            True) ∧
                                                                                          brP
                                                                                            (ieq
                                                                                              (↑(UInt8.toNat
                                                                                                    (List.getD l
                                                                                                      (Int.toNat
                                                                                                        (↑z : Int))
                                                                                                      (0 : UInt8))) :
                                                                                                Int)
                                                                                              (60 : Int))
                                                                                            (true = true ∧
                                                                                              (1 : Int) = mkT' l z)
                                                                                            (true = true ∧
                                                                                              (0 : Int) =
                                                                                                mkT' l
                                                                                                  z)))))))))))))))))))))))))))))
          (sdA (inB (↑z : Int) (List.length l))
            ((((True ∧ True) ∧ True) ∧ True) ∧
              brP (ieq (↑(UInt8.toNat (List.getD l (Int.toNat (↑z : Int)) (0 : UInt8))) : Int) (123 : Int))
                (true = true ∧ (1 : Int) = mkT' l z)
                (sdA (inB (↑z : Int) (List.length l))
                  ((((True ∧ True) ∧ True) ∧ True) ∧
                    brP (ieq (↑(UInt8.toNat (List.getD l (Int.toNat (↑z : Int)) (0 : UInt8))) : Int) (125 : Int))
                      (true = true ∧ (1 : Int) = mkT' l z)
                      (sdA (inB (↑z : Int) (List.length l))
                        ((((True ∧ True) ∧ True) ∧ True) ∧
                          brP (ieq (↑(UInt8.toNat (List.getD l (Int.toNat (↑z : Int)) (0 : UInt8))) : Int) (40 : Int))
                            (true = true ∧ (1 : Int) = mkT' l z)
                            (sdA (inB (↑z : Int) (List.length l))
                              ((((True ∧ True) ∧ True) ∧ True) ∧
                                brP
                                  (ieq (↑(UInt8.toNat (List.getD l (Int.toNat (↑z : Int)) (0 : UInt8))) : Int)
                                    (41 : Int))
                                  (true = true ∧ (1 : Int) = mkT' l z)
                                  (sdA (inB (↑z : Int) (List.length l))
                                    ((((True ∧ True) ∧ True) ∧ True) ∧
                                      brP
                                        (ieq (↑(UInt8.toNat (List.getD l (Int.toNat (↑z : Int)) (0 : UInt8))) : Int)
                                          (91 : Int))
                                        (true = true ∧ (1 : Int) = mkT' l z)
                                        (sdA (inB (↑z : Int) (List.length l))
                                          ((((True ∧ True) ∧ True) ∧ True) ∧
                                            brP
                                              (ieq
                                                (↑(UInt8.toNat (List.getD l (Int.toNat (↑z : Int)) (0 : UInt8))) : Int)
                                                (93 : Int))
                                              (true = true ∧ (1 : Int) = mkT' l z)
                                              (sdA (inB (↑z : Int) (List.length l))
                                                ((((True ∧ True) ∧ True) ∧ True) ∧
                                                  brP
                                                    (ieq
                                                      (↑(UInt8.toNat (List.getD l (Int.toNat (↑z : Int)) (0 : UInt8))) :
                                                        Int)
                                                      (59 : Int))
                                                    (true = true ∧ (1 : Int) = mkT' l z)
                                                    (sdA (inB (↑z : Int) (List.length l))
                                                      ((((True ∧ True) ∧ True) ∧ True) ∧
                                                        brP
                                                          (ieq
                                                            (↑(UInt8.toNat
                                                                  (List.getD l (Int.toNat (↑z : Int)) (0 : UInt8))) :
                                                              Int)
                                                            (46 : Int))
                                                          (true = true ∧ (1 : Int) = mkT' l z)
                                                          (sdA (inB (↑z : Int) (List.length l))
                                                            ((((True ∧ True) ∧ True) ∧ True) ∧
                                                              brP
                                                                (ieq
                                                                  (↑(UInt8.toNat
                                                                        (List.getD l (Int.toNat (↑z : Int))
                                                                          (0 : UInt8))) :
                                                                    Int)
                                                                  (61 : Int))
                                                                (true = true ∧ (1 : Int) = mkT' l z)
                                                                (sdA (inB (↑z : Int) (List.length l))
                                                                  ((((True ∧ True) ∧ True) ∧ True) ∧
                                                                    brP
                                                                      (ieq
                                                                        (↑(UInt8.toNat
                                                                              (List.getD l (Int.toNat (↑z : Int))
                                                                                (0 : UInt8))) :
                                                                          Int)
                                                                        (43 : Int))
                                                                      (true = true ∧ (1 : Int) = mkT' l z)
                                                                      (sdA (inB (↑z : Int) (List.length l))
                                                                        ((((True ∧ True) ∧ True) ∧ True) ∧
                                                                          brP
                                                                            (ieq
                                                                              (↑(UInt8.toNat
                                                                                    (List.getD l (Int.toNat (↑z : Int))
                                                                                      (0 : UInt8))) :
                                                                                Int)
                                                                              (45 : Int))
                                                                            (true = true ∧ (1 : Int) = mkT' l z)
                                                                            (sdA (inB (↑z : Int) (List.length l))
                                                                              ((((True ∧ True) ∧ True) ∧ True) ∧
                                                                                brP
                                                                                  (ieq
                                                                                    (↑(UInt8.toNat
                                                                                          (List.getD l
                                                                                            (Int.toNat (↑z : Int))
                                                                                            (0 : UInt8))) :
                                                                                      Int)
                                                                                    (42 : Int))
                                                                                  (true = true ∧ (1 : Int) = mkT' l z)
                                                                                  (sdA (inB (↑z : Int) (List.length l))
                                                                                    ((((True ∧ True) ∧ True) ∧ True) ∧
                                                                                      brP
                                                                                        (ieq
                                                                                          (↑(UInt8.toNat
                                                                                                (List.getD l
                                                                                                  (Int.toNat (↑z : Int))
                                                                                                  (0 : UInt8))) :
                                                                                            Int)
                                                                                          (60 : Int))
                                                                                        (true = true ∧
                                                                                          (1 : Int) = mkT' l z)
                                                                                        (true = true ∧
                                                                                          (0 : Int) =
                                                                                            mkT' l
                                                                                              z))))))))))))))))))))))))))))
:= by
  intro l z hz hl
  simp only [Int.toNat_natCast, show Int.toNat ((z : Int) + 1) = z + 1 from by omega]
  have hb : inB (z : Int) l.length = true := inB_iff.2 (by have : z < l.length := hz; omega)
  generalize hy : ((l.getD z 0).toNat : Int) = y
  repeat' first
    | exact trivial
    | exact (rfl : true = true)
    | refine sdA_of ?_ ?_
    | refine brP_of (fun _ => ?_) (fun _ => ?_)
    | refine And.intro ?_ ?_
  all_goals first
    | exact hb
    | (simp_all [mkT', markI, ilt_eq, ieq_eq, inR_i64, inB_iff]; done)
    | (simp_all [mkT', markI, ilt_eq, ieq_eq, inR_i64, inB_iff]; omega)
theorem run33 : ∀ (l : List UInt8) (z : Nat), z < l.length → l.length ≤ 1000000 → (cRun (cxA tbB) 120).call 33 [.bv l, .int .i64 z] .leaf 0 (ResM Tryd.prog false (.int .i64 (mkT' l z))) :=
  Eq.mpr (by kernel_rfl) run33_r

theorem tbB_ok : TbOK Tryd.prog tbB := tb_cons ok44 tbA_ok

theorem ok26 : EntOK Tryd.prog 26 e26 := by
  refine ent_of (gl := []) (ng := 0) gl0 fun H args ct hct => ?_
  unfold e26 at hct
  split at hct
  · rename_i l z
    injection hct with hct; subst hct
    exact ⟨gl0, ⟨rfl, rfl, trivial⟩, _, _, rfl, fun hp => ⟨cxA tbB, 60, rfl, fol, tbB_ok, run26 l z⟩⟩
  · cases hct

theorem ok27 : EntOK Tryd.prog 27 e27 := by
  refine ent_of (gl := []) (ng := 0) gl0 fun H args ct hct => ?_
  unfold e27 at hct
  split at hct
  · rename_i l c
    injection hct with hct; subst hct
    exact ⟨gl0, ⟨rfl, ⟨rfl, rfl⟩, trivial⟩, _, _, rfl, fun hp => ⟨cxA tbB, 60, rfl, fol, tbB_ok, run27 l c hp⟩⟩
  · cases hct

theorem ok28 : EntOK Tryd.prog 28 e28 := by
  refine ent_of (gl := []) (ng := 0) gl0 fun H args ct hct => ?_
  unfold e28 at hct
  split at hct
  · rename_i l
    injection hct with hct; subst hct
    refine ⟨gl0, ⟨rfl, trivial⟩, _, _, rfl, fun hp => ⟨cxA tbB, 80, rfl, fol, tbB_ok, ?_⟩⟩
    rw [barr_eq, barr_eq]
    cases l with
    | nil => exact absurd rfl hp.1
    | cons b t => exact run28 b t hp.2
  · cases hct

theorem ok33 : EntOK Tryd.prog 33 e33 := by
  refine ent_of (gl := []) (ng := 0) gl0 fun H args ct hct => ?_
  unfold e33 at hct
  split at hct
  · rename_i l z
    injection hct with hct; subst hct
    refine ⟨gl0, ⟨rfl, ⟨rfl, rfl⟩, trivial⟩, _, _, rfl, fun hp => ⟨cxA tbB, 120, rfl, fol, tbB_ok, ?_⟩⟩
    have := run33 l z.toNat (by omega) hp.2.2
    rw [barr_eq]
    rwa [Int.toNat_of_nonneg hp.1] at this
  · cases hct

end Go.Proofs.Tk
