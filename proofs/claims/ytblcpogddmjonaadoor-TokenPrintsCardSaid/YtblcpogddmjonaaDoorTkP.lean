/- Laid by program out of its parts: TkP. -/
import Derived.Test.YtblcpogddmjonaaDoorTkK
set_option maxRecDepth 100000
set_option linter.unusedSimpArgs false
set_option linter.unusedVariables false
open Go Go.Ev
namespace Go.Proofs.Tk
/-! What was printed is scanned to the tokens. -/
def isOk (t : Tok) : Bool := decide ((scanR t.text).1.length = 1) && (decide ((scanR t.text).2.length = 0) && (decide (((scanR t.text).1.getD 0 t0).kind = t.kind) && (decide (((scanR t.text).1.getD 0 t0).text = t.text) && decide (((scanR t.text).1.getD 0 t0).num = t.num))))
def stp (t : Tok) : Int × List UInt8 × Int := (t.kind, t.text, t.num)
theorem oneT_tok2 (b : UInt8) (t : List UInt8) (L C : Int) : (oneT b t L C).1 = [] ∨ (0 < (nxT (b :: t)).1 ∧ oneT b t L C =
    ([⟨(madeT (nxT (b :: t)).1 ((b :: t).take (nxT (b :: t)).2)).1, (b :: t).take (nxT (b :: t)).2, (madeT (nxT (b :: t)).1 ((b :: t).take (nxT (b :: t)).2)).2.1, L, C⟩],
      if (madeT (nxT (b :: t)).1 ((b :: t).take (nxT (b :: t)).2)).2.2 = 0 then [] else [⟨L, C, (madeT (nxT (b :: t)).1 ((b :: t).take (nxT (b :: t)).2)).2.2⟩])) := by
  unfold oneT
  dsimp only
  by_cases h : 0 < (nxT (b :: t)).1
  · right; exact ⟨h, by rw [if_pos h]⟩
  · left; rw [if_neg h]
theorem scn_text : ∀ (n : Nat) (l : List UInt8) (L C : Int), l.length ≤ n → ∀ t ∈ (scn l L C).1, t.text.length ≤ l.length
  | _, [], _, _, _ => fun t h => by rw [scn_nil] at h; simp at h
  | 0, b :: t, _, _, h => by simp at h
  | n + 1, b :: t, L, C, h => fun k hk => by
    have hn := nxT_pos b t
    have hl : ((b :: t).drop (nxT (b :: t)).2).length = t.length + 1 - (nxT (b :: t)).2 := by rw [List.length_drop, List.length_cons]
    simp only [List.length_cons] at h hn ⊢
    rw [scn_cons] at hk
    rcases List.mem_append.1 hk with hk | hk
    · rcases oneT_tok2 b t L C with h0 | ⟨_, h0⟩
      · rw [h0] at hk; simp at hk
      · rw [h0, List.mem_singleton] at hk
        subst hk
        dsimp only
        rw [List.length_take, List.length_cons]; omega
    · have := scn_text n _ _ _ (by omega) k hk
      omega
/-- What a text must be. -/
structure OkT (t : Tok) : Prop where
  ne : t.text ≠ []
  all : (nxT t.text).2 = t.text.length
  pos : 0 < (nxT t.text).1
  made : madeT (nxT t.text).1 t.text = (t.kind, t.num, 0)
theorem ok_of {t : Tok} (h : isOk t = true) : OkT t := by
  unfold isOk at h
  simp only [Bool.and_eq_true, decide_eq_true_eq] at h
  obtain ⟨h1, h2, h3, h4, h5⟩ := h
  obtain ⟨k, hk⟩ := List.length_eq_one_iff.1 h1
  have h2 := List.length_eq_zero_iff.1 h2
  rw [hk] at h3 h4 h5
  simp only [List.getD_cons_zero] at h3 h4 h5
  cases ht : t.text with
  | nil => rw [ht] at hk; exact absurd hk (by show ([] : List Tok) ≠ _; simp)
  | cons b u =>
    rw [ht] at hk h2 h4
    have hn := nxT_pos b u
    change (scn (b :: u) 1 1).1 = [k] at hk
    change (scn (b :: u) 1 1).2 = [] at h2
    rw [scn_cons] at hk h2
    dsimp only at hk h2
    rcases oneT_tok2 b u 1 1 with h0 | ⟨hp, h0⟩
    · exfalso
      rw [h0, List.nil_append] at hk
      have := scn_text _ _ _ _ (Nat.le_refl _) k (by rw [hk]; exact List.mem_singleton.2 rfl)
      rw [h4, List.length_drop] at this
      omega
    · rw [h0] at hk h2
      dsimp only at hk h2
      simp only [List.cons_append, List.nil_append, List.cons.injEq] at hk
      obtain ⟨hk, _⟩ := hk
      have hlen : (nxT (b :: u)).2 = (b :: u).length := by
        have := congrArg (fun t : Tok => t.text.length) hk
        dsimp only at this
        rw [h4, List.length_take] at this
        omega
      have htk : (b :: u).take (nxT (b :: u)).2 = b :: u := by rw [hlen, List.take_length]
      rw [htk] at hk h2
      have he : (madeT (nxT (b :: u)).1 (b :: u)).2.2 = 0 := by
        by_cases he : (madeT (nxT (b :: u)).1 (b :: u)).2.2 = 0
        · exact he
        · rw [if_neg he] at h2; simp at h2
      refine ⟨by simp [ht], by rw [ht]; exact hlen, by rw [ht]; exact hp, ?_⟩
      rw [ht, ← h3, ← h5, ← hk]
      dsimp only
      rw [← he]
def Blk' (m : List UInt8) : Prop := m = [] ∨ ∃ c m', m = c :: m' ∧ blankI (c.toNat : Int) = true
theorem blank_cases {z : Int} (h : blankI z = true) : z = 32 ∨ z = 9 ∨ z = 10 ∨ z = 13 ∨ z = 35 := by
  unfold blankI at h
  simp only [Bool.or_eq_true, decide_eq_true_eq] at h
  omega
theorem runN_stop {p : Int → Bool} (hp : ∀ z, blankI z = true → p z = false) {m : List UInt8} (hm : Blk' m) : ∀ l : List UInt8, runN p l = l.length → runN p (l ++ m) = runN p l
  | [], _ => by
    rcases hm with rfl | ⟨c, m', rfl, hc⟩
    · rfl
    · show runN p (c :: m') = 0
      unfold runN
      rw [if_neg (by rw [hp _ hc]; simp)]
  | b :: l, h => by
    rw [runN, List.length_cons] at h
    rw [List.cons_append, runN, runN]
    by_cases hb : p (b.toNat : Int) = true
    · rw [if_pos hb] at h
      rw [if_pos hb, if_pos hb, runN_stop hp hm l (by omega)]
    · rw [if_neg hb] at h; omega
theorem nxT_blank {b : UInt8} {u m : List UInt8} (hm : Blk' m) (h : (nxT (b :: u)).2 = (b :: u).length) (hp : 0 < (nxT (b :: u)).1) : nxT (b :: (u ++ m)) = nxT (b :: u) := by
  have hb1 : ∀ z, blankI z = true → (letrI z || digI z) = false := fun z hz => by rcases blank_cases hz with rfl | rfl | rfl | rfl | rfl <;> decide
  have hb2 : ∀ z, blankI z = true → digI z = false := fun z hz => by rcases blank_cases hz with rfl | rfl | rfl | rfl | rfl <;> decide
  rw [nxT_cons] at h hp
  rw [nxT_cons, nxT_cons]
  by_cases h1 : letrI (b.toNat : Int) = true
  · rw [if_pos h1] at h
    rw [if_pos h1, if_pos h1, ← List.cons_append, runN_stop (p := fun z => letrI z || digI z) hb1 hm _ h]
  · rw [if_neg h1] at h hp
    rw [if_neg h1, if_neg h1]
    by_cases h2 : digI (b.toNat : Int) = true
    · rw [if_pos h2] at h
      rw [if_pos h2, if_pos h2, ← List.cons_append, runN_stop (p := digI) hb2 hm _ h]
    · rw [if_neg h2] at h hp
      rw [if_neg h2, if_neg h2]
      by_cases h3 : (b.toNat : Int) = 35
      · rw [if_pos h3] at hp; exact absurd hp (Int.lt_irrefl 0)
      · rw [if_neg h3] at h hp
        rw [if_neg h3, if_neg h3]
        cases u with
        | nil =>
          have : ¬ ((b.toNat : Int) = 61 ∧ 1 ≤ ([] ++ m).length ∧ ((([] ++ m).getD 0 0).toNat : Int) = 61) := fun ⟨_, e2, e3⟩ => by
            rcases hm with rfl | ⟨c, m', rfl, hc⟩
            · simp at e2
            · simp only [List.nil_append, List.getD_cons_zero] at e3
              rw [e3] at hc
              exact absurd hc (by decide)
          have this2 : ¬ ((b.toNat : Int) = 61 ∧ 1 ≤ ([] : List UInt8).length ∧ ((([] : List UInt8).getD 0 0).toNat : Int) = 61) := fun h => absurd h.2.1 (by simp)
          rw [if_neg this, if_neg this2]
        | cons c t =>
          simp only [List.cons_append, List.length_cons, List.getD_cons_zero, List.length_append]
          by_cases h4 : (b.toNat : Int) = 61 ∧ 1 ≤ t.length + 1 ∧ (c.toNat : Int) = 61
          · rw [if_pos h4, if_pos ⟨h4.1, by omega, h4.2.2⟩]
          · rw [if_neg h4, if_neg (fun h => h4 ⟨h.1, by omega, h.2.2⟩)]
theorem scn_tok {t : Tok} (h : OkT t) {m : List UInt8} (hm : Blk' m) (L C : Int) : scn (t.text ++ m) L C = (⟨t.kind, t.text, t.num, L, C⟩ :: (scn m L (C + t.text.length)).1, (scn m L (C + t.text.length)).2) := by
  obtain ⟨h1, h2, h3, h4⟩ := h
  cases ht : t.text with
  | nil => exact absurd ht h1
  | cons b u =>
    rw [ht] at h2 h3 h4
    have hx := nxT_blank hm h2 h3
    have hb : ¬ b = 10 := fun e => by subst e; rw [nxT_ten] at h3; exact absurd h3 (Int.lt_irrefl 0)
    rw [List.cons_append, scn_cons, hx, h2, if_neg hb, if_neg hb, ← List.cons_append, List.drop_left]
    have ho : oneT b (u ++ m) L C = ([⟨t.kind, b :: u, t.num, L, C⟩], []) := by
      unfold oneT
      dsimp only
      rw [hx, h2, ← List.cons_append, List.take_left, if_pos h3, h4]
      rfl
    rw [ho]
    rfl
theorem scn_sp (c : UInt8) (hc : (c.toNat : Int) = 32 ∨ (c.toNat : Int) = 9 ∨ (c.toNat : Int) = 13 ∨ (c.toNat : Int) = 10) (m : List UInt8) (L C : Int) : ∃ L' C', scn (c :: m) L C = scn m L' C' := by
  have hk : nxT (c :: m) = (0, 1) := by
    rw [nxT_cons]
    rcases hc with h | h | h | h <;> rw [h, if_neg (by decide), if_neg (by decide), if_neg (by decide), if_neg (fun h => absurd h.1 (by decide)), if_neg (by decide)]
  have ho : oneT c m L C = ([], []) := by
    unfold oneT
    dsimp only
    rw [hk, if_neg (Int.lt_irrefl 0), if_pos (by rcases hc with h | h | h | h <;> rw [h] <;> decide)]
  rw [scn_cons, hk, ho]
  exact ⟨_, _, rfl⟩
def gapB (c : UInt8) : Prop := (c.toNat : Int) = 32 ∨ (c.toNat : Int) = 9 ∨ (c.toNat : Int) = 13 ∨ (c.toNat : Int) = 10
theorem scn_gap1 (m : List UInt8) : ∀ (g : List UInt8), (∀ c ∈ g, gapB c) → ∀ L C, ∃ L' C', scn (g ++ 10 :: m) L C = scn m L' C'
  | [], _, L, C => scn_sp 10 (.inr (.inr (.inr rfl))) m L C
  | c :: g, h, L, C => by
    obtain ⟨L1, C1, h1⟩ := scn_sp c (h c (List.mem_cons_self ..)) (g ++ 10 :: m) L C
    obtain ⟨L2, C2, h2⟩ := scn_gap1 m g (fun x hx => h x (List.mem_cons_of_mem _ hx)) L1 C1
    exact ⟨L2, C2, by rw [List.cons_append, h1, h2]⟩
theorem run_hash (m : List UInt8) : ∀ g : List UInt8, ∃ g', (g ++ 10 :: m).drop (runN (fun z => !decide (z = 10)) (g ++ 10 :: m)) = g' ++ 10 :: m ∧ ∀ x ∈ g', x ∈ g
  | [] => ⟨[], by rw [List.nil_append, runN, if_neg (by decide)]; rfl, fun _ h => h⟩
  | a :: g => by
    obtain ⟨g', h1, h2⟩ := run_hash m g
    rw [List.cons_append, runN]
    by_cases ha : (!decide ((a.toNat : Int) = 10)) = true
    · rw [if_pos ha, List.drop_succ_cons]
      exact ⟨g', h1, fun x hx => List.mem_cons_of_mem _ (h2 x hx)⟩
    · rw [if_neg ha]
      exact ⟨a :: g, rfl, fun x h => h⟩
def GapOK (g : List UInt8) : Prop := (∀ c ∈ g, gapB c) ∨ ∃ a r, g = a :: r ∧ (a.toNat : Int) = 35 ∧ ∀ c ∈ r, gapB c
theorem scn_gap {g : List UInt8} (h : GapOK g) (m : List UInt8) (L C : Int) : ∃ L' C', scn (g ++ 10 :: m) L C = scn m L' C' := by
  rcases h with h | ⟨a, r, rfl, ha, h⟩
  · exact scn_gap1 m g h L C
  · have hk : nxT (a :: (r ++ 10 :: m)) = (0, runN (fun z => !decide (z = 10)) (a :: (r ++ 10 :: m))) := by
      rw [nxT_cons, ha, if_neg (by decide), if_neg (by decide), if_pos rfl]
    have ho : oneT a (r ++ 10 :: m) L C = ([], []) := by
      unfold oneT
      dsimp only
      rw [hk, if_neg (Int.lt_irrefl 0), if_pos (by rw [ha]; decide)]
    obtain ⟨g', h1, h2⟩ := run_hash m r
    have hr : runN (fun z => !decide (z = 10)) (a :: (r ++ 10 :: m)) = runN (fun z => !decide (z = 10)) (r ++ 10 :: m) + 1 := by
      rw [runN, if_pos (by rw [ha]; decide)]
    rw [List.cons_append, scn_cons, hk, ho]
    dsimp only
    rw [hr, List.drop_succ_cons, h1]
    obtain ⟨L', C', h3⟩ := scn_gap1 m g' (fun x hx => h x (h2 x hx)) (if a = 10 then L + 1 else L) (if a = 10 then 1 else C + ((runN (fun z => !decide (z = 10)) (r ++ 10 :: m) + 1 : Nat) : Int))
    exact ⟨L', C', by rw [h3]; rfl⟩
/-- The print. -/
def prT : List Tok → List UInt8
  | [] => []
  | [t] => t.text ++ [10]
  | t :: l => t.text ++ 32 :: prT l
def wideT (g : List UInt8) (l : List Tok) : List UInt8 := l.flatMap fun t => g ++ 10 :: t.text
theorem pr_scan : ∀ (l : List Tok), (∀ t ∈ l, OkT t) → ∀ L C, (scn (prT l) L C).1.map stp = l.map stp ∧ (scn (prT l) L C).2 = []
  | [], _, L, C => ⟨rfl, rfl⟩
  | [t], h, L, C => by
    have h1 := scn_tok (h t (List.mem_singleton.2 rfl)) (m := [10]) (.inr ⟨10, [], rfl, by decide⟩) L C
    obtain ⟨L', C', h2⟩ := scn_sp 10 (.inr (.inr (.inr rfl))) [] L (C + t.text.length)
    rw [prT, h1, h2, scn_nil]
    exact ⟨rfl, rfl⟩
  | t :: u :: l, h, L, C => by
    have h1 := scn_tok (h t (List.mem_cons_self ..)) (m := 32 :: prT (u :: l)) (.inr ⟨32, _, rfl, by decide⟩) L C
    obtain ⟨L', C', h2⟩ := scn_sp 32 (.inl rfl) (prT (u :: l)) L (C + t.text.length)
    obtain ⟨i1, i2⟩ := pr_scan (u :: l) (fun x hx => h x (List.mem_cons_of_mem _ hx)) L' C'
    rw [prT, h1, h2]
    · exact ⟨by rw [List.map_cons, i1]; rfl, i2⟩
    · simp
theorem gap_blank {g : List UInt8} (h : GapOK g) (m : List UInt8) : Blk' (g ++ 10 :: m) := by
  right
  rcases h with h | ⟨a, r, rfl, ha, h⟩
  · cases g with
    | nil => exact ⟨10, m, rfl, by decide⟩
    | cons c g =>
      refine ⟨c, g ++ 10 :: m, rfl, ?_⟩
      rcases h c (List.mem_cons_self ..) with e | e | e | e <;> rw [e] <;> decide
  · exact ⟨a, r ++ 10 :: m, rfl, by rw [ha]; decide⟩
theorem wide_blank {g : List UInt8} (h : GapOK g) (l : List Tok) : Blk' (wideT g l) := by
  cases l with
  | nil => exact .inl rfl
  | cons t l =>
    rw [show wideT g (t :: l) = g ++ 10 :: (t.text ++ wideT g l) by simp [wideT]]
    exact gap_blank h _
theorem wide_scan {g : List UInt8} (hg : GapOK g) : ∀ (l : List Tok), (∀ t ∈ l, OkT t) → ∀ L C, (scn (wideT g l) L C).1.map stp = l.map stp ∧ (scn (wideT g l) L C).2 = []
  | [], _, L, C => ⟨rfl, rfl⟩
  | t :: l, h, L, C => by
    rw [show wideT g (t :: l) = g ++ 10 :: (t.text ++ wideT g l) by simp [wideT]]
    obtain ⟨L', C', h1⟩ := scn_gap hg (t.text ++ wideT g l) L C
    have h2 := scn_tok (h t (List.mem_cons_self ..)) (wide_blank hg l) L' C'
    obtain ⟨i1, i2⟩ := wide_scan hg l (fun x hx => h x (List.mem_cons_of_mem _ hx)) L' (C' + t.text.length)
    rw [h1, h2]
    exact ⟨by rw [List.map_cons, i1]; rfl, i2⟩
end Go.Proofs.Tk
