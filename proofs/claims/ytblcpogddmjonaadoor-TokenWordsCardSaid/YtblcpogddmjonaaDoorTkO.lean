/- Laid by program out of its parts: TkO. -/
import Derived.Test.YtblcpogddmjonaaDoorTkJ
import Derived.Test.YtblcpogddmjonaaDoorTkN
set_option maxRecDepth 100000
set_option linter.unusedSimpArgs false
set_option linter.unusedVariables false
open Go Go.Ev
namespace Go.Proofs.Tk
def toBs : AV → AV
  | .str n m => .bs (bytesL n m)
  | a => a
structure NG (l : List UInt8) (k : Nat) : Prop where
  le : k ≤ l.length
  all : ∀ j, j < k → (letrI ((l.getD j 0).toNat : Int) || digI ((l.getD j 0).toNat : Int)) = true
structure NR (l : List UInt8) (k : Nat) : Prop where
  le : k ≤ l.length
  all : ∀ j, j < k → (letrI ((l.getD j 0).toNat : Int) || (!decide (j = 0) && digI ((l.getD j 0).toNat : Int))) = true
/-- Is it a name? -/
def nameT (l : List UInt8) : Bool := decide (l ≠ []) && (decide (l.length ≤ 32) && (!isWordT l && (!digI ((l.getD 0 0).toNat : Int) && l.all fun b => letrI (b.toNat : Int) || digI (b.toNat : Int))))
noncomputable def S19 (l : List UInt8) : Stn := { X := Nat, T := fun _ _ k => [(0, .bs l), (21, .int .i64 l.length), (22, .int .i64 k)], H := fun _ _ _ => [], nx := fun _ n0 => n0, I := fun _ k => NG l k, m := fun k => l.length - k }
noncomputable def S23 (l : List UInt8) : Stn := { X := Nat, T := fun _ _ k => [(0, .bs l), (3, .int .i64 k)], H := fun _ _ _ => [], nx := fun _ n0 => n0, I := fun _ k => NR l k, m := fun k => l.length - k }
noncomputable def e18 : Tr AObj → List AV → Option Ct := fun H args => match args with
  | [.bs l] => cond (globB H) (some (.need True (.ret (.bool (bar (isWordT l)))))) none
  | [.str n m] => cond (globB H && isWordT (bytesL n m)) (some (.need True (.ret (.bool true)))) none
  | _ => none
noncomputable def e19 : Tr AObj → List AV → Option Ct := fun H args => match args with
  | [.bs l] => cond (globB H) (some (.need (l.length ≤ 1000000) (.ret (.bool (bar (nameT l)))))) none
  | [.str n m] => cond (globB H && isWordT (bytesL n m)) (some (.need True (.ret (.bool false)))) none
  | _ => none
noncomputable def e23 : Tr AObj → List AV → Option Ct := fun _ args => match args with
  | [.bs l] => some (.need (l.length ≤ 1000000) (.ret (.bool (bar (nameT l)))))
  | _ => none
noncomputable def e18a : Tr AObj → List AV → Option Ct := fun H args => match args with
  | [.bs l] => cond (globB H) (some (.need True (.ret (.bool (bar (isWordT l)))))) none
  | _ => none
noncomputable def e19a : Tr AObj → List AV → Option Ct := fun H args => match args with
  | [.bs l] => cond (globB H) (some (.need (l.length ≤ 1000000) (.ret (.bool (bar (nameT l)))))) none
  | _ => none
noncomputable def tbW : Tbl := (18, e18a) :: tbE
noncomputable def tbV : Tbl := (18, e18) :: (19, e19) :: (23, e23) :: tbK

theorem toBs_rel {ρ : Ren} {a : AV} {v : Value} (h : VR ρ a v) : VR ρ (toBs a) v := by
  cases a <;> try exact h
  cases h; exact .bs _
theorem toBsL_rel {ρ : Ren} : ∀ {l : List AV} {vs : List Value}, VRL ρ l vs → VRL ρ (l.map toBs) vs
  | [], _, .nil => .nil
  | a :: _, _, .cons _ _ _ _ h1 hs => .cons _ _ _ _ (toBs_rel h1) (toBsL_rel hs)
theorem ent_strs {P : Program} {g : FuncId} {ent ent' : Tr AObj → List AV → Option Ct} (h : EntOK P g ent) (h2 : ∀ H args ct, ent' H args = some ct → ∃ ct', ent H (args.map toBs) = some ct' ∧ ∀ p v, ctOut ct = some (p, v) → ctOut ct' = some (p, v)) : EntOK P g ent' := by
  intro H args ct hct p v hout E F ρ w nx H' hG r
  obtain ⟨ct', h3, h4⟩ := h2 H args ct hct
  have h5 := h H _ ct' h3 p v (h4 p v hout) E F ρ w nx H' hG r
  exact ⟨h5.1, fun vs hvs => h5.2 vs (toBsL_rel hvs)⟩
theorem word_small : ∀ l, isWordT l = true → l.length ≤ 1000000 ∧ nameT l = false := fun l h => by
  constructor
  · unfold isWordT at h
    obtain ⟨w, hw, h1⟩ := List.any_eq_true.1 h
    obtain rfl := of_decide_eq_true h1
    have : ∀ w ∈ wordL, w.length ≤ 1000000 := by decide +kernel
    exact this _ hw
  · unfold nameT
    rw [h]; simp

theorem run18_r : ∀ (l : List UInt8), True ∧ bar (wHas (SKey.str l)) = isWordT l
:= by
  intro l
  simp only [barr_eq, bar_eq, true_and, and_true, eq_self, implies_true, Nat.le_eq, cond_tf, cond_cf, Int.toNat_natCast, Int.ofNat_eq_natCast, Nat.ble_eq, Nat.ble_self_eq_true, Bool.true_and, Bool.and_true, Bool.and_self, Option.some.injEq, AV.int.injEq, rowB_self, allBR_self, Nat.mul_one, Nat.beq_refl, allI_true, cond_true, cond_false, ieq_self, Bool.not_true, Bool.not_false, decide_true, brP_f, brP_t, sdA_t]
  rw [wHas_str]
theorem run18 : ∀ (l : List UInt8), (cRun (cxA tbE) 60).call 18 [.bs l] (mkH glT) 4 (ResM Tryd.prog false (.bool (isWordT l))) :=
  Eq.mpr (by kernel_rfl) run18_r

theorem ok18a : EntOK Tryd.prog 18 e18a := by
  refine ent_of2 (gl := glT) (ng := 4) glT_gl fun H args ct hct => ?_
  unfold e18a at hct
  split at hct
  · rename_i l
    cases hg : globB H with
    | true =>
      rw [hg] at hct
      injection hct with hct; subst hct
      exact ⟨globB_ok hg, _, _, rfl, fun hp => ⟨⟨rfl, trivial⟩, cxA tbE, 60, rfl, fol, tbE_ok, by rw [bar_eq]; exact run18 l⟩⟩
    | false => rw [hg] at hct; cases hct
  · cases hct
theorem ok18 : EntOK Tryd.prog 18 e18 := by
  refine ent_strs ok18a fun H args ct hct => ?_
  unfold e18 at hct
  split at hct
  · exact ⟨ct, hct, fun _ _ h => h⟩
  · rename_i n m
    cases hg : globB H with
    | false => rw [hg] at hct; cases hct
    | true =>
      cases hw : isWordT (bytesL n m) with
      | false => rw [hg, hw] at hct; cases hct
      | true =>
        rw [hg, hw] at hct
        injection hct with hct; subst hct
        refine ⟨.need True (.ret (.bool (bar (isWordT (bytesL n m))))), ?_, fun p v h => by rw [bar_eq, hw]; exact h⟩
        show e18a H [.bs (bytesL n m)] = _
        unfold e18a
        simp only [hg, cond_true]
  · cases hct

theorem nameT_nil {l : List UInt8} (h : l = []) : false = nameT l := by subst h; rfl
theorem nameT_long {l : List UInt8} (h : 32 < l.length) : false = nameT l := by
  unfold nameT
  rw [decide_eq_false (show ¬ l.length ≤ 32 by omega)]; simp
theorem nameT_dig {l : List UInt8} (h : digI ((l.getD 0 0).toNat : Int) = true) : false = nameT l := by
  unfold nameT
  rw [h]; simp
theorem nameT_word {l : List UInt8} (h : isWordT l = true) : false = nameT l := by
  unfold nameT
  rw [h]; simp
theorem getD_memB {l : List UInt8} {k : Nat} (h : k < l.length) : l.getD k 0 ∈ l := by
  rw [List.getD_eq_getElem?_getD, List.getElem?_eq_getElem h]; exact List.getElem_mem _
theorem nameT_bad {l : List UInt8} {k : Nat} (h : k < l.length) (h1 : letrI ((l.getD k 0).toNat : Int) = false) (h2 : digI ((l.getD k 0).toNat : Int) = false) : false = nameT l := by
  have : (l.all fun b => letrI (b.toNat : Int) || digI (b.toNat : Int)) = false := by
    rw [List.all_eq_false]
    exact ⟨_, getD_memB h, by rw [h1, h2]; simp⟩
  unfold nameT
  rw [this]; simp
theorem nameT_all {l : List UInt8} (h0 : l ≠ []) (h3 : l.length ≤ 32) (hd : digI ((l.getD 0 0).toNat : Int) = false) (h : NG l l.length) : nameT l = !isWordT l := by
  have : (l.all fun b => letrI (b.toNat : Int) || digI (b.toNat : Int)) = true := by
    rw [List.all_eq_true]
    intro b hb
    obtain ⟨j, hj, rfl⟩ := List.getElem_of_mem hb
    have := h.all j hj
    rw [List.getD_eq_getElem?_getD, List.getElem?_eq_getElem hj] at this
    exact this
  unfold nameT
  rw [this, hd, decide_eq_true h0, decide_eq_true h3]; simp
theorem letr_dig : ∀ b : UInt8, letrI (b.toNat : Int) = true → digI (b.toNat : Int) = false := by
  intro b
  have h : ∀ n : Fin 256, letrI (n.val : Int) = true → digI (n.val : Int) = false := by decide +kernel
  exact h ⟨b.toNat, b.toNat_lt⟩
theorem ng_step {l : List UInt8} {k : Nat} (h : NG l k) (hk : k < l.length) (hb : (letrI ((l.getD k 0).toNat : Int) || digI ((l.getD k 0).toNat : Int)) = true) : NG l (k + 1) :=
  ⟨hk, fun j hj => by
    rcases Nat.lt_or_ge j k with h1 | h1
    · exact h.all j h1
    · rw [show j = k by omega]; exact hb⟩
theorem nr_step {l : List UInt8} {k : Nat} (h : NR l k) (hk : k < l.length) (hb : (letrI ((l.getD k 0).toNat : Int) || (!decide (k = 0) && digI ((l.getD k 0).toNat : Int))) = true) : NR l (k + 1) :=
  ⟨hk, fun j hj => by
    rcases Nat.lt_or_ge j k with h1 | h1
    · exact h.all j h1
    · rw [show j = k by omega]; exact hb⟩

theorem run19_r : ∀ (l : List UInt8), Nat.le (List.length l) (1000000 : Nat) → brP (decide (l = [])) (false = nameT l) (brP (ilt (32 : Int) (Int.ofNat (List.length l))) (false = nameT l) (sdA (inB (0 : Int) (List.length l)) (True ∧ brP (bar (digI (↑(UInt8.toNat (List.getD l (0 : Nat) (0 : UInt8))) : Int))) (false = nameT l) (True ∧ brP (bar (isWordT l)) (false = nameT l) ((∃ (x0 : Nat), NG l x0 ∧ true = true ∧ (l = l ∧ (true = true ∧ Int.ofNat (List.length l) = (↑(List.length l) : Int)) ∧ (true = true ∧ (0 : Int) = (↑x0 : Int)) ∧ True) ∧ True) ∧ ∀ (x : Nat), NG l x → brP (ilt (↑x : Int) (↑(List.length l) : Int)) (sdA (inB (↑x : Int) (List.length l)) (True ∧ brP (!bar (letrI (↑(UInt8.toNat (List.getD l (Int.toNat (↑x : Int)) (0 : UInt8))) : Int))) (sdA (inB (↑x : Int) (List.length l)) (True ∧ brP (!bar (digI (↑(UInt8.toNat (List.getD l (Int.toNat (↑x : Int)) (0 : UInt8))) : Int))) (false = nameT l) (sdA (inR IntKind.i64 ((↑x : Int) + (1 : Int))) (∃ (x' : Nat), NG l x' ∧ Nat.le (Nat.succ (List.length l - x')) (List.length l - x) ∧ true = true ∧ (l = l ∧ (true = true ∧ (↑(List.length l) : Int) = (↑(List.length l) : Int)) ∧ (true = true ∧ (↑x : Int) + (1 : Int) = (↑x' : Int)) ∧ True) ∧ True)))) (sdA (inR IntKind.i64 ((↑x : Int) + (1 : Int))) (∃ (x' : Nat), NG l x' ∧ Nat.le (Nat.succ (List.length l - x')) (List.length l - x) ∧ true = true ∧ (l = l ∧ (true = true ∧ (↑(List.length l) : Int) = (↑(List.length l) : Int)) ∧ (true = true ∧ (↑x : Int) + (1 : Int) = (↑x' : Int)) ∧ True) ∧ True)))) (true = nameT l))))))
:= by
  intro l hl
  simp only [barr_eq, bar_eq, true_and, and_true, eq_self, implies_true, Nat.le_eq, cond_tf, cond_cf, Int.toNat_natCast, Int.ofNat_eq_natCast, Nat.ble_eq, Nat.ble_self_eq_true, Bool.true_and, Bool.and_true, Bool.and_self, Option.some.injEq, AV.int.injEq, rowB_self, allBR_self, Nat.mul_one, Nat.beq_refl, allI_true, cond_true, cond_false, ieq_self, Bool.not_true, Bool.not_false, decide_true, brP_f, brP_t, sdA_t]
  simp only [Nat.le_eq] at hl
  refine brP_of (fun h => nameT_nil (of_decide_eq_true h)) fun h0 => brP_of (fun h => nameT_long (by rw [ilt_iff] at h; omega)) fun h32 => ?_
  have h0 := of_decide_eq_false h0
  rw [ilt_iffn] at h32
  have hpos : 0 < l.length := List.length_pos_iff.2 h0
  refine sdA_of (inB_iff.2 (by omega)) (brP_of (fun h => nameT_dig h) fun hd => brP_of (fun h => nameT_word h) fun hw => ⟨⟨0, ⟨Nat.zero_le _, fun j hj => by omega⟩, rfl⟩, fun x hx => brP_of (fun h => ?_) fun h => ?_⟩)
  · rw [ilt_iff] at h
    have hlt : x < l.length := by omega
    have hb : inB (x : Int) l.length = true := inB_iff.2 (by omega)
    have hR : inR .i64 ((x : Int) + 1) = true := inR_i64.2 (by omega)
    refine sdA_of hb (brP_of (fun h1 => ?_) fun h1 => ?_)
    · rw [Bool.not_eq_true'] at h1
      refine sdA_of hb (brP_of (fun h2 => ?_) fun h2 => ?_)
      · rw [Bool.not_eq_true'] at h2
        exact nameT_bad hlt h1 h2
      · rw [Bool.not_eq_false'] at h2
        exact sdA_of hR ⟨x + 1, ng_step hx hlt (by rw [h1, h2]; rfl), by omega, by omega⟩
    · rw [Bool.not_eq_false'] at h1
      exact sdA_of hR ⟨x + 1, ng_step hx hlt (by rw [h1]; rfl), by omega, by omega⟩
  · rw [ilt_iffn] at h
    have := hx.le
    obtain rfl : x = l.length := by omega
    rw [nameT_all h0 (by omega) hd hx, hw]; rfl
theorem run19 : ∀ (l : List UInt8), l.length ≤ 1000000 → (cRun (cx1 tbW 19 4 (S19 l)) 60).call 19 [.bs l] (mkH glT) 4 (ResM Tryd.prog false (.bool (nameT l))) :=
  Eq.mpr (by kernel_rfl) run19_r

theorem run23_r : ∀ (l : List UInt8), Nat.le (List.length l) (1000000 : Nat) → (∃ (x0 : Nat), NR l x0 ∧ true = true ∧ (l = l ∧ (true = true ∧ (0 : Int) = (↑x0 : Int)) ∧ True) ∧ True) ∧ ∀ (x : Nat), NR l x → brP (ilt (↑x : Int) (Int.ofNat (List.length l))) (sdA (inB (↑x : Int) (List.length l)) (True ∧ brP (!bar (LetrI (↑(UInt8.toNat (List.getD l (Int.toNat (↑x : Int)) (0 : UInt8))) : Int))) (brP (ieq (↑x : Int) (0 : Int)) (false = nameT l) (sdA (inB (↑x : Int) (List.length l)) (True ∧ brP (!bar (digI (↑(UInt8.toNat (List.getD l (Int.toNat (↑x : Int)) (0 : UInt8))) : Int))) (false = nameT l) (sdA (inR IntKind.i64 ((↑x : Int) + (1 : Int))) (∃ (x' : Nat), NR l x' ∧ Nat.le (Nat.succ (List.length l - x')) (List.length l - x) ∧ true = true ∧ (l = l ∧ (true = true ∧ (↑x : Int) + (1 : Int) = (↑x' : Int)) ∧ True) ∧ True))))) (sdA (inR IntKind.i64 ((↑x : Int) + (1 : Int))) (∃ (x' : Nat), NR l x' ∧ Nat.le (Nat.succ (List.length l - x')) (List.length l - x) ∧ true = true ∧ (l = l ∧ (true = true ∧ (↑x : Int) + (1 : Int) = (↑x' : Int)) ∧ True) ∧ True)))) (brP (!decide (l = [])) (brP (!ilt (32 : Int) (Int.ofNat (List.length l))) (True ∧ (!bar (isWordT l)) = nameT l) (false = nameT l)) (false = nameT l))
:= by
  intro l hl
  simp only [barr_eq, bar_eq, true_and, and_true, eq_self, implies_true, Nat.le_eq, cond_tf, cond_cf, Int.toNat_natCast, Int.ofNat_eq_natCast, Nat.ble_eq, Nat.ble_self_eq_true, Bool.true_and, Bool.and_true, Bool.and_self, Option.some.injEq, AV.int.injEq, rowB_self, allBR_self, Nat.mul_one, Nat.beq_refl, allI_true, cond_true, cond_false, ieq_self, Bool.not_true, Bool.not_false, decide_true, brP_f, brP_t, sdA_t]
  simp only [Nat.le_eq] at hl
  refine ⟨⟨0, ⟨Nat.zero_le _, fun j hj => by omega⟩, rfl⟩, fun x hx => brP_of (fun h => ?_) fun h => ?_⟩
  · rw [ilt_iff] at h
    have hlt : x < l.length := by omega
    have hb : inB (x : Int) l.length = true := inB_iff.2 (by omega)
    have hR : inR .i64 ((x : Int) + 1) = true := inR_i64.2 (by omega)
    refine sdA_of hb ?_
    rw [letr_eq]
    refine brP_of (fun h1 => ?_) fun h1 => ?_
    · rw [Bool.not_eq_true'] at h1
      refine brP_of (fun h3 => ?_) fun h3 => ?_
      · rw [ieq_iff] at h3
        obtain rfl : x = 0 := by omega
        cases hd : digI ((l.getD 0 0).toNat : Int) with
        | true => exact nameT_dig hd
        | false => exact nameT_bad hlt h1 hd
      · rw [ieq_iffn] at h3
        refine sdA_of hb (brP_of (fun h2 => ?_) fun h2 => ?_)
        · rw [Bool.not_eq_true'] at h2
          exact nameT_bad hlt h1 h2
        · rw [Bool.not_eq_false'] at h2
          exact sdA_of hR ⟨x + 1, nr_step hx hlt (by rw [h1, h2, decide_eq_false (show ¬ x = 0 by omega)]; rfl), by omega, by omega⟩
    · rw [Bool.not_eq_false'] at h1
      exact sdA_of hR ⟨x + 1, nr_step hx hlt (by rw [h1]; rfl), by omega, by omega⟩
  · rw [ilt_iffn] at h
    have := hx.le
    obtain rfl : x = l.length := by omega
    refine brP_of (fun h0 => ?_) fun h0 => ?_
    · rw [Bool.not_eq_true'] at h0
      have h0 := of_decide_eq_false h0
      have hpos : 0 < l.length := List.length_pos_iff.2 h0
      refine brP_of (fun h3 => ?_) fun h3 => ?_
      · rw [Bool.not_eq_true', ilt_iffn] at h3
        have hd : digI ((l.getD 0 0).toNat : Int) = false := letr_dig _ (by simpa using hx.all 0 hpos)
        exact (nameT_all h0 (by omega) hd ⟨Nat.le_refl _, fun j hj => by
          have := hx.all j hj
          cases h1 : letrI ((l.getD j 0).toNat : Int) with
          | true => rfl
          | false =>
            rw [h1, Bool.false_or, Bool.and_eq_true] at this
            rw [this.2]; rfl⟩).symm
      · rw [Bool.not_eq_false', ilt_iff] at h3
        exact nameT_long (by omega)
    · rw [Bool.not_eq_false'] at h0
      exact nameT_nil (of_decide_eq_true h0)
theorem run23 : ∀ (l : List UInt8), l.length ≤ 1000000 → (cRun (cx1 tbE 23 2 (S23 l)) 60).call 23 [.bs l] .leaf 0 (ResM Tryd.prog false (.bool (nameT l))) :=
  Eq.mpr (by kernel_rfl) run23_r

theorem ok19a : EntOK Tryd.prog 19 e19a := by
  refine ent_of2 (gl := glT) (ng := 4) glT_gl fun H args ct hct => ?_
  unfold e19a at hct
  split at hct
  · rename_i l
    cases hg : globB H with
    | true =>
      rw [hg] at hct
      injection hct with hct; subst hct
      exact ⟨globB_ok hg, _, _, rfl, fun hp => ⟨⟨rfl, trivial⟩, cx1 tbW 19 4 (S19 l), 60, rfl, fol, tb_cons ok18a tbE_ok, by rw [bar_eq]; exact run19 l hp⟩⟩
    | false => rw [hg] at hct; cases hct
  · cases hct
theorem ok19 : EntOK Tryd.prog 19 e19 := by
  refine ent_strs ok19a fun H args ct hct => ?_
  unfold e19 at hct
  split at hct
  · exact ⟨ct, hct, fun _ _ h => h⟩
  · rename_i n m
    cases hg : globB H with
    | false => rw [hg] at hct; cases hct
    | true =>
      cases hw : isWordT (bytesL n m) with
      | false => rw [hg, hw] at hct; cases hct
      | true =>
        rw [hg, hw] at hct
        injection hct with hct; subst hct
        obtain ⟨h1, h2⟩ := word_small _ hw
        refine ⟨.need ((bytesL n m).length ≤ 1000000) (.ret (.bool (bar (nameT (bytesL n m))))), ?_, fun p v h => ?_⟩
        · show e19a H [.bs (bytesL n m)] = _
          unfold e19a
          simp only [hg, cond_true]
        · obtain ⟨_, rfl, rfl⟩ := ctOut_need h
          rw [bar_eq, h2]
          exact if_pos h1
  · cases hct
theorem ok23 : EntOK Tryd.prog 23 e23 := by
  refine ent_of2 (gl := []) (ng := 0) gl0 fun H args ct hct => ?_
  unfold e23 at hct
  split at hct
  · rename_i l
    injection hct with hct; subst hct
    exact ⟨gl0, _, _, rfl, fun hp => ⟨⟨rfl, trivial⟩, cx1 tbE 23 2 (S23 l), 60, rfl, fol, tbE_ok, by rw [bar_eq]; exact run23 l hp⟩⟩
  · cases hct
theorem tbV_ok : TbOK Tryd.prog tbV := tb_cons ok18 (tb_cons ok19 (tb_cons ok23 tbK_ok))

end Go.Proofs.Tk
