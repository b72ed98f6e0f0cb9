/- Laid by program out of its parts: TkG. -/
import Derived.Test.YtblcpogddmjonaaDoorTkF
import Derived.Test.YtblcpogddmjonaaDoorTkS
import Derived.Test.YtblcpogddmjonaaDoorMf
set_option maxRecDepth 10000
set_option linter.unusedSimpArgs false
open Go Go.Ev
namespace Go.Proofs.Tk
noncomputable def tbD : Tbl := (20, e20) :: (24, e24) :: tbC
def tokRow (t : Tok) : List AV := [.int .i64 t.kind, .bs t.text, .int .i64 t.num, .int .i64 t.line, .int .i64 t.col]
def dgRow (t : Dg) : List AV := [.int .i64 t.line, .int .i64 t.col, .int .i64 t.err]
noncomputable def e29 : Tr AObj → List AV → Option Ct := fun _ args => match args with
  | [.int .i64 k, .bs s, .mapv has val z] => some (.need (has = wHas ∧ val = wVal ∧ z = .agg [.bool false] ∧ s.length ≤ 1000000) (.ret (.tup [.agg [.int .i64 (barr (madeT k s).1), .bs s, .int .i64 (barr (madeT k s).2.1), .int .i64 0, .int .i64 0], .int .i64 (barr (madeT k s).2.2)])))
  | _ => none
noncomputable def e22 : Tr AObj → List AV → Option Ct := fun _ args => match args with
  | [.bs s] => some (.need True (.ret (.bool (bar (isWordT s)))))
  | _ => none
/-- One after the other. -/
noncomputable def chainP (s : List UInt8) (x : Bool) : List (List UInt8) → Prop
  | [] => false = x
  | w :: ws => brP (decide (w = s)) (true = x) (chainP s x ws)

theorem ok20 : EntOK Tryd.prog 20 e20 := by
  refine ent_of2 (gl := []) (ng := 0) gl0 fun H args ct hct => ?_
  unfold e20 at hct
  split at hct
  · rename_i l
    injection hct with hct; subst hct
    exact ⟨gl0, _, _, rfl, fun hp => ⟨⟨rfl, trivial⟩, cx1 tbC 20 3 (S20 l), 60, rfl, fol, tbC_ok, by rw [bar_eq]; exact run20 l hp⟩⟩
  · cases hct
theorem ok21 : EntOK Tryd.prog 21 e20 := by
  refine ent_of2 (gl := []) (ng := 0) gl0 fun H args ct hct => ?_
  unfold e20 at hct
  split at hct
  · rename_i l
    injection hct with hct; subst hct
    exact ⟨gl0, _, _, rfl, fun hp => ⟨⟨rfl, trivial⟩, cx1 tbC 21 3 (S21 l), 60, rfl, fol, tbC_ok, by rw [bar_eq]; exact run21 l hp⟩⟩
  · cases hct

theorem chain_ok (s : List UInt8) (x : Bool) : ∀ ws : List (List UInt8), (x = ws.any fun w => decide (s = w)) → chainP s x ws
  | [], h => h.symm
  | w :: ws, h => by
    rw [List.any_cons] at h
    refine brP_of (fun h1 => ?_) fun h1 => ?_
    · rw [decide_eq_true_eq] at h1
      subst h1
      rw [h]; simp
    · refine chain_ok s x ws ?_
      rw [decide_eq_false_iff_not] at h1
      rw [h, decide_eq_false (fun e => h1 e.symm), Bool.false_or]
def R22 (s : List UInt8) : Prop := (cRun (cxA []) 200).call 22 [.bs s] .leaf 0 (ResM Tryd.prog false (.bool (isWordT s)))
theorem run22 (s : List UInt8) : R22 s := Eq.mpr (show R22 s = chainP s (isWordT s) wordL by kernel_rfl) (chain_ok s _ wordL rfl)
theorem ok22 : EntOK Tryd.prog 22 e22 := by
  refine ent_of2 (gl := []) (ng := 0) gl0 fun H args ct hct => ?_
  unfold e22 at hct
  split at hct
  · rename_i l
    injection hct with hct; subst hct
    exact ⟨gl0, _, _, rfl, fun _ => ⟨⟨rfl, trivial⟩, cxA [], 200, rfl, fol, tb_nil, by rw [bar_eq]; exact run22 l⟩⟩
  · cases hct

theorem run29_r : ∀ (k : Int) (s : List UInt8),
  Nat.le (List.length s) (1000000 : Nat) →
    brP (ieq k (3 : Int))
      (Nat.le (List.length s) (1000000 : Nat) ∧
        brP (!bar (Prod.snd (numT s)))
          (((true = true ∧
                k = Tok.kind (Tok.mk (Prod.fst (madeT k s)) s (Prod.fst (Prod.snd (madeT k s))) (0 : Int) (0 : Int))) ∧
              s = Tok.text (Tok.mk (Prod.fst (madeT k s)) s (Prod.fst (Prod.snd (madeT k s))) (0 : Int) (0 : Int)) ∧
                (true = true ∧
                    Prod.fst (numT s) =
                      Tok.num (Tok.mk (Prod.fst (madeT k s)) s (Prod.fst (Prod.snd (madeT k s))) (0 : Int) (0 : Int))) ∧
                  (true = true ∧
                      (0 : Int) =
                        Tok.line
                          (Tok.mk (Prod.fst (madeT k s)) s (Prod.fst (Prod.snd (madeT k s))) (0 : Int) (0 : Int))) ∧
                    (true = true ∧
                        (0 : Int) =
                          Tok.col
                            (Tok.mk (Prod.fst (madeT k s)) s (Prod.fst (Prod.snd (madeT k s))) (0 : Int) (0 : Int))) ∧
                      True) ∧
            (true = true ∧ (9 : Int) = Prod.snd (Prod.snd (madeT k s))) ∧ True)
          (((true = true ∧
                k = Tok.kind (Tok.mk (Prod.fst (madeT k s)) s (Prod.fst (Prod.snd (madeT k s))) (0 : Int) (0 : Int))) ∧
              s = Tok.text (Tok.mk (Prod.fst (madeT k s)) s (Prod.fst (Prod.snd (madeT k s))) (0 : Int) (0 : Int)) ∧
                (true = true ∧
                    Prod.fst (numT s) =
                      Tok.num (Tok.mk (Prod.fst (madeT k s)) s (Prod.fst (Prod.snd (madeT k s))) (0 : Int) (0 : Int))) ∧
                  (true = true ∧
                      (0 : Int) =
                        Tok.line
                          (Tok.mk (Prod.fst (madeT k s)) s (Prod.fst (Prod.snd (madeT k s))) (0 : Int) (0 : Int))) ∧
                    (true = true ∧
                        (0 : Int) =
                          Tok.col
                            (Tok.mk (Prod.fst (madeT k s)) s (Prod.fst (Prod.snd (madeT k s))) (0 : Int) (0 : Int))) ∧
                      True) ∧
            (true = true ∧ (0 : Int) = Prod.snd (Prod.snd (madeT k s))) ∧ True))
      (brP (ieq k (1 : Int))
        (brP (bar (wHas (SKey.str s)))
          (((true = true ∧
                (2 : Int) =
                  Tok.kind (Tok.mk (Prod.fst (madeT k s)) s (Prod.fst (Prod.snd (madeT k s))) (0 : Int) (0 : Int))) ∧
              s = Tok.text (Tok.mk (Prod.fst (madeT k s)) s (Prod.fst (Prod.snd (madeT k s))) (0 : Int) (0 : Int)) ∧
                (true = true ∧
                    (0 : Int) =
                      Tok.num (Tok.mk (Prod.fst (madeT k s)) s (Prod.fst (Prod.snd (madeT k s))) (0 : Int) (0 : Int))) ∧
                  (true = true ∧
                      (0 : Int) =
                        Tok.line
                          (Tok.mk (Prod.fst (madeT k s)) s (Prod.fst (Prod.snd (madeT k s))) (0 : Int) (0 : Int))) ∧
                    (true = true ∧
                        (0 : Int) =
                          Tok.col
                            (Tok.mk (Prod.fst (madeT k s)) s (Prod.fst (Prod.snd (madeT k s))) (0 : Int) (0 : Int))) ∧
                      True) ∧
            (true = true ∧ (0 : Int) = Prod.snd (Prod.snd (madeT k s))) ∧ True)
          (brP (ilt (32 : Int) (Int.ofNat (List.length s)))
            (((true = true ∧
                  k =
                    Tok.kind (Tok.mk (Prod.fst (madeT k s)) s (Prod.fst (Prod.snd (madeT k s))) (0 : Int) (0 : Int))) ∧
                s = Tok.text (Tok.mk (Prod.fst (madeT k s)) s (Prod.fst (Prod.snd (madeT k s))) (0 : Int) (0 : Int)) ∧
                  (true = true ∧
                      (0 : Int) =
                        Tok.num
                          (Tok.mk (Prod.fst (madeT k s)) s (Prod.fst (Prod.snd (madeT k s))) (0 : Int) (0 : Int))) ∧
                    (true = true ∧
                        (0 : Int) =
                          Tok.line
                            (Tok.mk (Prod.fst (madeT k s)) s (Prod.fst (Prod.snd (madeT k s))) (0 : Int) (0 : Int))) ∧
                      (true = true ∧
                          (0 : Int) =
                            Tok.col
                              (Tok.mk (Prod.fst (madeT k s)) s (Prod.fst (Prod.snd (madeT k s))) (0 : Int) (0 : Int))) ∧
                        True) ∧
              (true = true ∧ (9 : Int) = Prod.snd (Prod.snd (madeT k s))) ∧ True)
            (((true = true ∧
                  k =
                    Tok.kind (Tok.mk (Prod.fst (madeT k s)) s (Prod.fst (Prod.snd (madeT k s))) (0 : Int) (0 : Int))) ∧
                s = Tok.text (Tok.mk (Prod.fst (madeT k s)) s (Prod.fst (Prod.snd (madeT k s))) (0 : Int) (0 : Int)) ∧
                  (true = true ∧
                      (0 : Int) =
                        Tok.num
                          (Tok.mk (Prod.fst (madeT k s)) s (Prod.fst (Prod.snd (madeT k s))) (0 : Int) (0 : Int))) ∧
                    (true = true ∧
                        (0 : Int) =
                          Tok.line
                            (Tok.mk (Prod.fst (madeT k s)) s (Prod.fst (Prod.snd (madeT k s))) (0 : Int) (0 : Int))) ∧
                      (true = true ∧
                          (0 : Int) =
                            Tok.col
                              (Tok.mk (Prod.fst (madeT k s)) s (Prod.fst (Prod.snd (madeT k s))) (0 : Int) (0 : Int))) ∧
                        True) ∧
              (true = true ∧ (0 : Int) = Prod.snd (Prod.snd (madeT k s))) ∧ True)))
        (brP (ilt (32 : Int) (Int.ofNat (List.length s)))
          (((true = true ∧
                k = Tok.kind (Tok.mk (Prod.fst (madeT k s)) s (Prod.fst (Prod.snd (madeT k s))) (0 : Int) (0 : Int))) ∧
              s = Tok.text (Tok.mk (Prod.fst (madeT k s)) s (Prod.fst (Prod.snd (madeT k s))) (0 : Int) (0 : Int)) ∧
                (true = true ∧
                    (0 : Int) =
                      Tok.num (Tok.mk (Prod.fst (madeT k s)) s (Prod.fst (Prod.snd (madeT k s))) (0 : Int) (0 : Int))) ∧
                  (true = true ∧
                      (0 : Int) =
                        Tok.line
                          (Tok.mk (Prod.fst (madeT k s)) s (Prod.fst (Prod.snd (madeT k s))) (0 : Int) (0 : Int))) ∧
                    (true = true ∧
                        (0 : Int) =
                          Tok.col
                            (Tok.mk (Prod.fst (madeT k s)) s (Prod.fst (Prod.snd (madeT k s))) (0 : Int) (0 : Int))) ∧
                      True) ∧
            (true = true ∧ (9 : Int) = Prod.snd (Prod.snd (madeT k s))) ∧ True)
          (((true = true ∧
                k = Tok.kind (Tok.mk (Prod.fst (madeT k s)) s (Prod.fst (Prod.snd (madeT k s))) (0 : Int) (0 : Int))) ∧
              s = Tok.text (Tok.mk (Prod.fst (madeT k s)) s (Prod.fst (Prod.snd (madeT k s))) (0 : Int) (0 : Int)) ∧
                (true = true ∧
                    (0 : Int) =
                      Tok.num (Tok.mk (Prod.fst (madeT k s)) s (Prod.fst (Prod.snd (madeT k s))) (0 : Int) (0 : Int))) ∧
                  (true = true ∧
                      (0 : Int) =
                        Tok.line
                          (Tok.mk (Prod.fst (madeT k s)) s (Prod.fst (Prod.snd (madeT k s))) (0 : Int) (0 : Int))) ∧
                    (true = true ∧
                        (0 : Int) =
                          Tok.col
                            (Tok.mk (Prod.fst (madeT k s)) s (Prod.fst (Prod.snd (madeT k s))) (0 : Int) (0 : Int))) ∧
                      True) ∧
            (true = true ∧ (0 : Int) = Prod.snd (Prod.snd (madeT k s))) ∧ True)))
:= by
  intro k s hs
  simp only [Nat.le_eq] at hs
  simp only [brP_iff, ieq_eq, ilt_eq, bar_eq, wHas_str, eq_self, true_and, and_true, Int.ofNat_eq_natCast, Nat.le_eq]
  unfold madeT
  by_cases h3 : k = 3
  · subst h3
    cases hn : (numT s).2 <;> simp [hs]
  · by_cases h1 : k = 1
    · subst h1
      cases hw : isWordT s <;> by_cases hl : 32 < s.length <;> simp [hl] <;> omega
    · by_cases hl : 32 < s.length <;> simp [h1, h3, hl] <;> omega
theorem run29 : ∀ (k : Int) (s : List UInt8), s.length ≤ 1000000 → (cRun (cxA tbD) 100).call 29 [.int .i64 k, .bs s, wordM] .leaf 0 (ResM Tryd.prog false (.tup [.agg (tokRow ⟨(madeT k s).1, s, (madeT k s).2.1, 0, 0⟩), .int .i64 (madeT k s).2.2])) :=
  Eq.mpr (by kernel_rfl) run29_r

theorem vm_word : vmP [] wordM wordM := by
  unfold wordM
  rw [vmP]
  refine ⟨fun _ => rfl, fun k => ?_, fun k hk => ?_⟩
  · cases k with
    | str l => rw [wVal_str]; generalize bar (isWordT l) = b; exact ⟨rfl, trivial⟩
    | int n => unfold wVal; rw [wHas_int, bar_eq]; exact ⟨rfl, trivial⟩
  · cases k with
    | str l => rw [wHas_str] at hk; rw [wVal_str, bar_eq, hk]
    | int n => unfold wVal; rw [wHas_int, bar_eq]

theorem tbD_ok : TbOK Tryd.prog tbD := tb_cons ok20 <| tb_cons ok24 tbC_ok
theorem ok29 : EntOK Tryd.prog 29 e29 := by
  refine ent_of2 (gl := []) (ng := 0) gl0 fun H args ct hct => ?_
  unfold e29 at hct
  split at hct
  · rename_i k s has val z
    injection hct with hct; subst hct
    refine ⟨gl0, _, _, rfl, ?_⟩
    rintro ⟨rfl, rfl, rfl, hs⟩
    exact ⟨⟨⟨rfl, rfl⟩, rfl, vm_word, trivial⟩, cxA tbD, 100, rfl, fol, tbD_ok, by rw [barr_eq, barr_eq, barr_eq]; exact run29 k s hs⟩
  · cases hct

end Go.Proofs.Tk
