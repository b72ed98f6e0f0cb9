import Derived.Test.YtblcpogddmjonaaDoorTkJ
set_option maxRecDepth 100000
set_option linter.unusedSimpArgs false
set_option linter.unusedVariables false
open Go Go.Ev
namespace Go.Proofs.Tk
structure X4 where
  pos : Nat
  line : Int
  fro : Int
  i : Nat
  k : Nat
  fin : Int
  p : Nat
def X4.one (b : List UInt8) (x : X4) : List Tok × List Dg := if x.pos = x.p then oneT (hd b x.pos) (b.drop (x.pos + 1)) x.line ((x.pos : Int) - x.fro + 1) else ([], [])
def X4.i2 (b : List UInt8) (x : X4) : Nat := x.i + (x.one b).1.length
def X4.k2 (b : List UInt8) (x : X4) : Nat := x.k + (x.one b).2.length
def X4.fin2 (b : List UInt8) (x : X4) : Int := if (x.one b).1 = [] then x.fin else ((x.pos + (nxA b x.pos).2 : Nat) : Int)
structure I4 (b : List UInt8) (x : X4) : Prop where
  le : x.pos ≤ x.p
  hi : x.p ≤ b.length
  no : ∀ j, x.pos ≤ j → j < x.p → hd b j ≠ 10
  line1 : 1 ≤ x.line
  line2 : x.line ≤ x.pos + 1
  fro1 : 0 ≤ x.fro
  fro2 : x.fro ≤ x.pos
  fin1 : 0 ≤ x.fin
  fin2 : x.fin ≤ x.p
  toks : (scanR b).1.drop x.i = (scn (b.drop x.p) x.line ((x.p : Int) - x.fro + 1)).1
  dgs : (scanR b).2.drop x.k = (scn (b.drop x.p) x.line ((x.p : Int) - x.fro + 1)).2
  ile : x.i ≤ (scanR b).1.length
  kle : x.k ≤ (scanR b).2.length
noncomputable def S4 (b : List UInt8) : Stn := thin X4 [0, 3, 4] (fun x => [(5, .int .i64 x.line), (6, .int .i64 x.fro), (7, .int .i64 x.i), (8, .int .i64 x.k), (9, .int .i64 x.fin), (10, .int .i64 x.pos)]) (fun _ => I4 b) fun x => b.length - x.pos
noncomputable def C15 (b : List UInt8) : Stn := thin X4 [0, 3, 4] (fun x => [(5, .int .i64 x.line), (6, .int .i64 x.fro), (7, .int .i64 (x.i2 b)), (8, .int .i64 x.k), (9, .int .i64 (x.fin2 b)), (10, .int .i64 x.pos)]) (fun s x => (I4 b x ∧ x.pos < b.length) ∧ s.T.get 10 = some (.int .i64 x.pos)) fun _ => 0
noncomputable def C17 (b : List UInt8) : Stn := thin X4 [0, 3, 4] (fun x => [(5, .int .i64 x.line), (6, .int .i64 x.fro), (7, .int .i64 (x.i2 b)), (8, .int .i64 (x.k2 b)), (9, .int .i64 (x.fin2 b)), (10, .int .i64 x.pos)]) (fun s x => (I4 b x ∧ x.pos < b.length) ∧ s.T.get 10 = some (.int .i64 x.pos)) fun _ => 0
noncomputable def cx4 (b : List UInt8) : Ctx := { P := Tryd.prog, tb := tbK, lp := fun f r => cond (Nat.beq f 4) (cond (Nat.beq r 7) (some (S4 b)) none) none, cut := fun f r => cond (Nat.beq f 4) (cond (Nat.beq r 15) (some (C15 b)) (cond (Nat.beq r 17) (some (C17 b)) none)) none }

theorem oneT_tok (b : UInt8) (t : List UInt8) (L C : Int) : (oneT b t L C).1 = [] ∨ ∃ k, (oneT b t L C).1 = [k] ∧ k.text = (b :: t).take (nxT (b :: t)).2 ∧ k.line = L ∧ k.col = C := by
  unfold oneT
  dsimp only
  split
  · exact .inr ⟨_, rfl, rfl, rfl, rfl⟩
  · exact .inl rfl
theorem oneT_dg (b : UInt8) (t : List UInt8) (L C : Int) : (oneT b t L C).2 = [] ∨ ∃ k, (oneT b t L C).2 = [k] ∧ k.line = L ∧ k.col = C := by
  unfold oneT
  dsimp only
  split
  · dsimp only
    split
    · exact .inl rfl
    · exact .inr ⟨_, rfl, rfl, rfl⟩
  · dsimp only
    split
    · exact .inl rfl
    · exact .inr ⟨_, rfl, rfl, rfl⟩
theorem scn_ge : ∀ (n : Nat) (l : List UInt8) (L C : Int), l.length ≤ n → (∀ t ∈ (scn l L C).1, L < t.line ∨ (L = t.line ∧ C ≤ t.col)) ∧ ∀ t ∈ (scn l L C).2, L < t.line ∨ (L = t.line ∧ C ≤ t.col)
  | _, [], _, _, _ => ⟨fun t h => by rw [scn_nil] at h; simp at h, fun t h => by rw [scn_nil] at h; simp at h⟩
  | 0, b :: t, _, _, h => by simp at h
  | n + 1, b :: t, L, C, h => by
    have hn := nxT_pos b t
    have hl : ((b :: t).drop (nxT (b :: t)).2).length = t.length + 1 - (nxT (b :: t)).2 := by rw [List.length_drop, List.length_cons]
    simp only [List.length_cons] at h
    obtain ⟨i1, i2⟩ := scn_ge n ((b :: t).drop (nxT (b :: t)).2) (if b = 10 then L + 1 else L) (if b = 10 then 1 else C + (nxT (b :: t)).2) (by omega)
    have fin : ∀ l c : Int, ((if b = 10 then L + 1 else L) < l ∨ ((if b = 10 then L + 1 else L) = l ∧ (if b = 10 then 1 else C + (nxT (b :: t)).2) ≤ c)) → L < l ∨ (L = l ∧ C ≤ c) := fun l c h => by
      split at h
      · omega
      · omega
    rw [scn_cons]
    refine ⟨fun k hk => ?_, fun k hk => ?_⟩
    · rcases List.mem_append.1 hk with hk | hk
      · rcases oneT_tok b t L C with h0 | ⟨k', h0, _, h1, h2⟩
        · rw [h0] at hk; simp at hk
        · rw [h0, List.mem_singleton] at hk; subst hk; omega
      · exact fin _ _ (i1 k hk)
    · rcases List.mem_append.1 hk with hk | hk
      · rcases oneT_dg b t L C with h0 | ⟨k', h0, h1, h2⟩
        · rw [h0] at hk; simp at hk
        · rw [h0, List.mem_singleton] at hk; subst hk; omega
      · exact fin _ _ (i2 k hk)
theorem drop_mem {α : Type} {T S : List α} {i : Nat} (d : α) (h : T.drop i = S) (hi : i < T.length) : T.getD i d ∈ S := by
  rw [← h, List.drop_eq_getElem_cons hi, List.getD_eq_getElem?_getD, List.getElem?_eq_getElem hi]
  exact List.mem_cons_self ..
theorem drop_head {α : Type} {T R : List α} {i : Nat} {a : α} (d : α) (h : T.drop i = a :: R) : i < T.length ∧ T.getD i d = a ∧ T.drop (i + 1) = R := by
  have hi : i < T.length := by
    have := congrArg List.length h
    rw [List.length_drop, List.length_cons] at this
    omega
  rw [List.drop_eq_getElem_cons hi] at h
  injection h with h1 h2
  exact ⟨hi, by rw [List.getD_eq_getElem?_getD, List.getElem?_eq_getElem hi]; exact h1, h2⟩
def X4.next (b : List UInt8) (x : X4) : X4 := ⟨x.pos + 1, if hd b x.pos = 10 then x.line + 1 else x.line, if hd b x.pos = 10 then (x.pos : Int) + 1 else x.fro, x.i2 b, x.k2 b, x.fin2 b, if x.pos = x.p then x.pos + (nxA b x.pos).2 else x.p⟩
theorem I4.parts {b : List UInt8} {x : X4} (h : I4 b x) (hlt : x.pos < b.length) : (∃ R, (scanR b).1.drop x.i = (x.one b).1 ++ R ∧ R = (scn (b.drop (x.next b).p) (x.next b).line (((x.next b).p : Int) - (x.next b).fro + 1)).1) ∧
    ∃ R, (scanR b).2.drop x.k = (x.one b).2 ++ R ∧ R = (scn (b.drop (x.next b).p) (x.next b).line (((x.next b).p : Int) - (x.next b).fro + 1)).2 := by
  obtain ⟨h1, h2, h3, h4, h5, h6, h7, h8, h9, h10, h11, h12, h13⟩ := h
  unfold X4.next X4.one
  by_cases hp : x.pos = x.p
  · have e : (b.drop (x.pos + (nxA b x.pos).2)) = (b.drop x.pos).drop (nxA b x.pos).2 := by rw [List.drop_drop]
    have hC : (((x.pos + (nxA b x.pos).2 : Nat) : Int) - (if hd b x.pos = 10 then (x.pos : Int) + 1 else x.fro) + 1) = if hd b x.pos = 10 then 1 else (x.pos : Int) - x.fro + 1 + (nxA b x.pos).2 := by
      by_cases hb : hd b x.pos = 10
      · have : (nxA b x.pos).2 = 1 := by rw [nxA_cons hlt, hb, nxT_ten]
        rw [if_pos hb, if_pos hb, this]; omega
      · rw [if_neg hb, if_neg hb]; omega
    rw [← hp, hd_drop hlt, scn_cons, ← nxA_cons hlt, ← hd_drop hlt] at h10 h11
    simp only [if_pos hp]
    rw [hC, e]
    exact ⟨⟨_, h10, rfl⟩, ⟨_, h11, rfl⟩⟩
  · have hb : ¬ hd b x.pos = 10 := h3 x.pos (Nat.le_refl _) (by omega)
    simp only [if_neg hp, if_neg hb, List.nil_append]
    exact ⟨⟨_, h10, rfl⟩, ⟨_, h11, rfl⟩⟩
theorem I4.next {b : List UInt8} {x : X4} (h : I4 b x) (hlt : x.pos < b.length) : I4 b (x.next b) := by
  obtain ⟨⟨R, r1, r2⟩, ⟨R', r3, r4⟩⟩ := h.parts hlt
  obtain ⟨h1, h2, h3, h4, h5, h6, h7, h8, h9, h10, h11, h12, h13⟩ := h
  have hn := nxT_pos (hd b x.pos) (b.drop (x.pos + 1))
  rw [← nxA_cons hlt, List.length_cons, List.length_drop] at hn
  have l1 := congrArg List.length r1
  have l3 := congrArg List.length r3
  rw [List.length_drop, List.length_append] at l1 l3
  refine ⟨?_, ?_, ?_, ?_, ?_, ?_, ?_, ?_, ?_, ?_, ?_, ?_, ?_⟩
  · show x.pos + 1 ≤ if x.pos = x.p then _ else _
    split <;> omega
  · show (if x.pos = x.p then _ else _) ≤ b.length
    split <;> omega
  · intro j hj1 hj2
    change x.pos + 1 ≤ j at hj1
    change j < (if x.pos = x.p then _ else _) at hj2
    by_cases hp : x.pos = x.p
    · rw [if_pos hp] at hj2
      by_cases hb : hd b x.pos = 10
      · have : (nxA b x.pos).2 = 1 := by rw [nxA_cons hlt, hb, nxT_ten]
        omega
      · refine nxT_no_ten (t := b.drop (x.pos + 1)) hb (hd b j) ?_
        rw [← nxA_cons hlt, ← hd_drop hlt]
        have hj : j < b.length := by omega
        rw [List.mem_iff_getElem?]
        refine ⟨j - x.pos, ?_⟩
        rw [List.getElem?_take, if_pos (by omega), List.getElem?_drop, show x.pos + (j - x.pos) = j by omega, List.getElem?_eq_getElem hj]
        unfold hd
        rw [List.getD_eq_getElem?_getD, List.getElem?_eq_getElem hj]; rfl
    · rw [if_neg hp] at hj2
      exact h3 j (by omega) hj2
  · show 1 ≤ if hd b x.pos = 10 then _ else _
    split <;> omega
  · show (if hd b x.pos = 10 then _ else _) ≤ ((x.pos + 1 : Nat) : Int) + 1
    split <;> omega
  · show 0 ≤ if hd b x.pos = 10 then _ else _
    split <;> omega
  · show (if hd b x.pos = 10 then _ else _) ≤ ((x.pos + 1 : Nat) : Int)
    split <;> omega
  · show 0 ≤ x.fin2 b
    unfold X4.fin2
    split <;> omega
  · show x.fin2 b ≤ (((if x.pos = x.p then x.pos + (nxA b x.pos).2 else x.p) : Nat) : Int)
    unfold X4.fin2 X4.one
    by_cases hp : x.pos = x.p
    · simp only [if_pos hp]
      split <;> omega
    · simp only [if_neg hp]
      rw [if_pos trivial]; exact h9
  · rw [← r2]
    show (scanR b).1.drop (x.i + (x.one b).1.length) = R
    rw [← List.drop_drop, r1, List.drop_left]
  · rw [← r4]
    show (scanR b).2.drop (x.k + (x.one b).2.length) = R'
    rw [← List.drop_drop, r3, List.drop_left]
  · show x.i + (x.one b).1.length ≤ _
    omega
  · show x.k + (x.one b).2.length ≤ _
    omega
theorem next_later {b : List UInt8} {x : X4} (h : I4 b x) (hlt : x.pos < b.length) {l c : Int} (hg : (x.next b).line < l ∨ ((x.next b).line = l ∧ ((x.next b).p : Int) - (x.next b).fro + 1 ≤ c)) : ¬ (l = x.line ∧ c = (x.pos : Int) - x.fro + 1) := by
  have h2 := (h.next hlt).le
  change x.pos + 1 ≤ (x.next b).p at h2
  unfold X4.next at hg
  simp only at hg
  change x.pos + 1 ≤ (if x.pos = x.p then x.pos + (nxA b x.pos).2 else x.p) at h2
  generalize (if x.pos = x.p then x.pos + (nxA b x.pos).2 else x.p) = p' at h2 hg
  by_cases hb : hd b x.pos = 10
  · rw [if_pos hb, if_pos hb] at hg; omega
  · rw [if_neg hb, if_neg hb] at hg; omega
/-- The token at a place, if there is one. -/
theorem tok_at {b : List UInt8} {x : X4} (h : I4 b x) (hlt : x.pos < b.length) : ((x.one b).1 = [] ∧ (x.i < (scanR b).1.length → ¬ (((scanR b).1.getD x.i t0).line = x.line ∧ ((scanR b).1.getD x.i t0).col = (x.pos : Int) - x.fro + 1))) ∨
    ((x.one b).1.length = 1 ∧ (x.one b).1 ≠ [] ∧ x.i < (scanR b).1.length ∧ x.fin ≤ x.pos ∧ ((scanR b).1.getD x.i t0).line = x.line ∧ ((scanR b).1.getD x.i t0).col = (x.pos : Int) - x.fro + 1 ∧ ((scanR b).1.getD x.i t0).text = (b.drop x.pos).take (nxA b x.pos).2) := by
  obtain ⟨⟨R, r1, r2⟩, _⟩ := h.parts hlt
  by_cases ho : (x.one b).1 = []
  · refine .inl ⟨ho, fun hi => ?_⟩
    rw [ho, List.nil_append] at r1
    have hm := drop_mem t0 r1 hi
    rw [r2] at hm
    exact next_later h hlt ((scn_ge _ _ _ _ (Nat.le_refl _)).1 _ hm)
  · right
    have ho' := ho
    unfold X4.one at ho'
    by_cases hp : x.pos = x.p
    · rw [if_pos hp] at ho'
      rcases oneT_tok (hd b x.pos) (b.drop (x.pos + 1)) x.line ((x.pos : Int) - x.fro + 1) with h0 | ⟨k, h0, h1, h2, h3⟩
      · exact absurd h0 ho'
      · have he : (x.one b).1 = [k] := by unfold X4.one; rw [if_pos hp]; exact h0
        rw [he] at r1
        obtain ⟨g1, g2, _⟩ := drop_head t0 r1
        rw [g2]
        refine ⟨by rw [he]; rfl, ho, g1, by have := h.fin2; omega, h2, h3, ?_⟩
        rw [h1, ← nxA_cons hlt, hd_drop hlt]
    · rw [if_neg hp] at ho'; exact absurd rfl ho'
theorem dg_at {b : List UInt8} {x : X4} (h : I4 b x) (hlt : x.pos < b.length) : ((x.one b).2 = [] ∧ (x.k < (scanR b).2.length → ¬ (((scanR b).2.getD x.k d0).line = x.line ∧ ((scanR b).2.getD x.k d0).col = (x.pos : Int) - x.fro + 1))) ∨
    ((x.one b).2.length = 1 ∧ x.k < (scanR b).2.length ∧ ((scanR b).2.getD x.k d0).line = x.line ∧ ((scanR b).2.getD x.k d0).col = (x.pos : Int) - x.fro + 1) := by
  obtain ⟨_, ⟨R, r1, r2⟩⟩ := h.parts hlt
  by_cases ho : (x.one b).2 = []
  · refine .inl ⟨ho, fun hi => ?_⟩
    rw [ho, List.nil_append] at r1
    have hm := drop_mem d0 r1 hi
    rw [r2] at hm
    exact next_later h hlt ((scn_ge _ _ _ _ (Nat.le_refl _)).2 _ hm)
  · right
    have ho' := ho
    unfold X4.one at ho'
    by_cases hp : x.pos = x.p
    · rw [if_pos hp] at ho'
      rcases oneT_dg (hd b x.pos) (b.drop (x.pos + 1)) x.line ((x.pos : Int) - x.fro + 1) with h0 | ⟨k, h0, h2, h3⟩
      · exact absurd h0 ho'
      · have he : (x.one b).2 = [k] := by unfold X4.one; rw [if_pos hp]; exact h0
        rw [he] at r1
        obtain ⟨g1, g2, _⟩ := drop_head d0 r1
        rw [g2]
        exact ⟨by rw [he]; rfl, g1, h2, h3⟩
    · rw [if_neg hp] at ho'; exact absurd rfl ho'

theorem run4_r : ∀ (l : List UInt8), brP (ilt (3000 : Int) (Int.ofNat (List.length l))) (True ∧ true = true) (Nat.le (List.length l) (1000000 : Nat) ∧ (∃ (x0 : X4), I4 l x0 ∧ true = true ∧ ((true = true ∧ (1 : Int) = X4.line x0) ∧ (true = true ∧ (0 : Int) = X4.fro x0) ∧ (true = true ∧ (0 : Int) = (↑(X4.i x0) : Int)) ∧ (true = true ∧ (0 : Int) = (↑(X4.k x0) : Int)) ∧ (true = true ∧ (0 : Int) = X4.fin x0) ∧ (true = true ∧ (0 : Int) = (↑(X4.pos x0) : Int)) ∧ l = l ∧ (true = true ∧ List.length (Prod.fst (scanR l)) = List.length (Prod.fst (scanR l)) ∧ AllI fun (i : Nat) => i < List.length (Prod.fst (scanR l)) → (true = true ∧ Tok.kind (List.getD (Prod.fst (scanR l)) i t0) = Tok.kind (List.getD (Prod.fst (scanR l)) i t0)) ∧ Tok.text (List.getD (Prod.fst (scanR l)) i t0) = Tok.text (List.getD (Prod.fst (scanR l)) i t0) ∧ (true = true ∧ Tok.num (List.getD (Prod.fst (scanR l)) i t0) = Tok.num (List.getD (Prod.fst (scanR l)) i t0)) ∧ (true = true ∧ Tok.line (List.getD (Prod.fst (scanR l)) i t0) = Tok.line (List.getD (Prod.fst (scanR l)) i t0)) ∧ (true = true ∧ Tok.col (List.getD (Prod.fst (scanR l)) i t0) = Tok.col (List.getD (Prod.fst (scanR l)) i t0)) ∧ True) ∧ (true = true ∧ List.length (Prod.snd (scanR l)) = List.length (Prod.snd (scanR l)) ∧ AllI fun (i : Nat) => i < List.length (Prod.snd (scanR l)) → (true = true ∧ Dg.line (List.getD (Prod.snd (scanR l)) i d0) = Dg.line (List.getD (Prod.snd (scanR l)) i d0)) ∧ (true = true ∧ Dg.col (List.getD (Prod.snd (scanR l)) i d0) = Dg.col (List.getD (Prod.snd (scanR l)) i d0)) ∧ (true = true ∧ Dg.err (List.getD (Prod.snd (scanR l)) i d0) = Dg.err (List.getD (Prod.snd (scanR l)) i d0)) ∧ True) ∧ True) ∧ (true = true ∧ asciiTab = asciiTab) ∧ True) ∧ ∀ (x : X4), I4 l x → brP (ilt (↑(X4.pos x) : Int) (Int.ofNat (List.length l))) (brP (ilt (↑(X4.i x) : Int) (Int.ofNat (List.length (Prod.fst (scanR l))))) (sdA (inB (↑(X4.i x) : Int) (List.length (Prod.fst (scanR l)))) (brP (ieq (Tok.line (List.getD (Prod.fst (scanR l)) (Int.toNat (↑(X4.i x) : Int)) t0)) (X4.line x)) (sdA (inB (↑(X4.i x) : Int) (List.length (Prod.fst (scanR l)))) (sdA (inR IntKind.i64 ((↑(X4.pos x) : Int) - X4.fro x)) (sdA (inR IntKind.i64 ((↑(X4.pos x) : Int) - X4.fro x + (1 : Int))) (brP (ieq (Tok.col (List.getD (Prod.fst (scanR l)) (Int.toNat (↑(X4.i x) : Int)) t0)) ((↑(X4.pos x) : Int) - X4.fro x + (1 : Int))) (sdA (inB (↑(X4.i x) : Int) (List.length (Prod.fst (scanR l)))) (brP (ieq (Int.ofNat (List.length (Tok.text (List.getD (Prod.fst (scanR l)) (Int.toNat (↑(X4.i x) : Int)) t0)))) (0 : Int)) (((True ∧ True) ∧ True) ∧ false = true) (brP (ilt (↑(X4.pos x) : Int) (X4.fin x)) (((True ∧ True) ∧ True) ∧ false = true) (sdA (inR IntKind.i64 ((↑(X4.pos x) : Int) + Int.ofNat (List.length (Tok.text (List.getD (Prod.fst (scanR l)) (Int.toNat (↑(X4.i x) : Int)) t0))))) (brP (ilt (Int.ofNat (List.length l)) ((↑(X4.pos x) : Int) + Int.ofNat (List.length (Tok.text (List.getD (Prod.fst (scanR l)) (Int.toNat (↑(X4.i x) : Int)) t0))))) ((((True ∧ True) ∧ True) ∧ True) ∧ false = true) (sdA (inR IntKind.i64 ((↑(X4.pos x) : Int) + Int.ofNat (List.length (Tok.text (List.getD (Prod.fst (scanR l)) (Int.toNat (↑(X4.i x) : Int)) t0))))) (sdA (bif inL ((↑(X4.pos x) : Int) + Int.ofNat (List.length (Tok.text (List.getD (Prod.fst (scanR l)) (Int.toNat (↑(X4.i x) : Int)) t0)))) (List.length l) then inL (↑(X4.pos x) : Int) (Int.toNat ((↑(X4.pos x) : Int) + Int.ofNat (List.length (Tok.text (List.getD (Prod.fst (scanR l)) (Int.toNat (↑(X4.i x) : Int)) t0))))) else false) (sdA (inB (↑(X4.i x) : Int) (List.length (Prod.fst (scanR l)))) ((((True ∧ True ∧ True ∧ True) ∧ True) ∧ True) ∧ brP (!decide (List.drop (Int.toNat (↑(X4.pos x) : Int)) (List.take (Int.toNat ((↑(X4.pos x) : Int) + Int.ofNat (List.length (Tok.text (List.getD (Prod.fst (scanR l)) (Int.toNat (↑(X4.i x) : Int)) t0))))) l) = Tok.text (List.getD (Prod.fst (scanR l)) (Int.toNat (↑(X4.i x) : Int)) t0))) (false = true) (sdA (inR IntKind.i64 ((↑(X4.pos x) : Int) + Int.ofNat (List.length (Tok.text (List.getD (Prod.fst (scanR l)) (Int.toNat (↑(X4.i x) : Int)) t0))))) (sdA (inR IntKind.i64 ((↑(X4.i x) : Int) + (1 : Int))) (∃ (x_1 : X4), ((I4 l x_1 ∧ Nat.le (Nat.succ (X4.pos x_1)) (List.length l)) ∧ some (AV.int IntKind.i64 (↑(X4.pos x) : Int)) = some (AV.int IntKind.i64 (↑(X4.pos x_1) : Int))) ∧ true = true ∧ ((true = true ∧ X4.line x = X4.line x_1) ∧ (true = true ∧ X4.fro x = X4.fro x_1) ∧ (true = true ∧ (↑(X4.i x) : Int) + (1 : Int) = (↑(X4.i2 l x_1) : Int)) ∧ (true = true ∧ (↑(X4.k x) : Int) = (↑(X4.k x_1) : Int)) ∧ (true = true ∧ (↑(X4.pos x) : Int) + Int.ofNat (List.length (Tok.text (List.getD (Prod.fst (scanR l)) (Int.toNat (↑(X4.i x) : Int)) t0))) = X4.fin2 l x_1) ∧ (true = true ∧ (↑(X4.pos x) : Int) = (↑(X4.pos x_1) : Int)) ∧ l = l ∧ (true = true ∧ List.length (Prod.fst (scanR l)) = List.length (Prod.fst (scanR l)) ∧ AllI fun (i : Nat) => i < List.length (Prod.fst (scanR l)) → (true = true ∧ Tok.kind (List.getD (Prod.fst (scanR l)) i t0) = Tok.kind (List.getD (Prod.fst (scanR l)) i t0)) ∧ Tok.text (List.getD (Prod.fst (scanR l)) i t0) = Tok.text (List.getD (Prod.fst (scanR l)) i t0) ∧ (true = true ∧ Tok.num (List.getD (Prod.fst (scanR l)) i t0) = Tok.num (List.getD (Prod.fst (scanR l)) i t0)) ∧ (true = true ∧ Tok.line (List.getD (Prod.fst (scanR l)) i t0) = Tok.line (List.getD (Prod.fst (scanR l)) i t0)) ∧ (true = true ∧ Tok.col (List.getD (Prod.fst (scanR l)) i t0) = Tok.col (List.getD (Prod.fst (scanR l)) i t0)) ∧ True) ∧ (true = true ∧ List.length (Prod.snd (scanR l)) = List.length (Prod.snd (scanR l)) ∧ AllI fun (i : Nat) => i < List.length (Prod.snd (scanR l)) → (true = true ∧ Dg.line (List.getD (Prod.snd (scanR l)) i d0) = Dg.line (List.getD (Prod.snd (scanR l)) i d0)) ∧ (true = true ∧ Dg.col (List.getD (Prod.snd (scanR l)) i d0) = Dg.col (List.getD (Prod.snd (scanR l)) i d0)) ∧ (true = true ∧ Dg.err (List.getD (Prod.snd (scanR l)) i d0) = Dg.err (List.getD (Prod.snd (scanR l)) i d0)) ∧ True) ∧ True) ∧ (true = true ∧ asciiTab = asciiTab) ∧ True)))))))))))) (∃ (x_1 : X4), ((I4 l x_1 ∧ Nat.le (Nat.succ (X4.pos x_1)) (List.length l)) ∧ some (AV.int IntKind.i64 (↑(X4.pos x) : Int)) = some (AV.int IntKind.i64 (↑(X4.pos x_1) : Int))) ∧ true = true ∧ ((true = true ∧ X4.line x = X4.line x_1) ∧ (true = true ∧ X4.fro x = X4.fro x_1) ∧ (true = true ∧ (↑(X4.i x) : Int) = (↑(X4.i2 l x_1) : Int)) ∧ (true = true ∧ (↑(X4.k x) : Int) = (↑(X4.k x_1) : Int)) ∧ (true = true ∧ X4.fin x = X4.fin2 l x_1) ∧ (true = true ∧ (↑(X4.pos x) : Int) = (↑(X4.pos x_1) : Int)) ∧ l = l ∧ (true = true ∧ List.length (Prod.fst (scanR l)) = List.length (Prod.fst (scanR l)) ∧ AllI fun (i : Nat) => i < List.length (Prod.fst (scanR l)) → (true = true ∧ Tok.kind (List.getD (Prod.fst (scanR l)) i t0) = Tok.kind (List.getD (Prod.fst (scanR l)) i t0)) ∧ Tok.text (List.getD (Prod.fst (scanR l)) i t0) = Tok.text (List.getD (Prod.fst (scanR l)) i t0) ∧ (true = true ∧ Tok.num (List.getD (Prod.fst (scanR l)) i t0) = Tok.num (List.getD (Prod.fst (scanR l)) i t0)) ∧ (true = true ∧ Tok.line (List.getD (Prod.fst (scanR l)) i t0) = Tok.line (List.getD (Prod.fst (scanR l)) i t0)) ∧ (true = true ∧ Tok.col (List.getD (Prod.fst (scanR l)) i t0) = Tok.col (List.getD (Prod.fst (scanR l)) i t0)) ∧ True) ∧ (true = true ∧ List.length (Prod.snd (scanR l)) = List.length (Prod.snd (scanR l)) ∧ AllI fun (i : Nat) => i < List.length (Prod.snd (scanR l)) → (true = true ∧ Dg.line (List.getD (Prod.snd (scanR l)) i d0) = Dg.line (List.getD (Prod.snd (scanR l)) i d0)) ∧ (true = true ∧ Dg.col (List.getD (Prod.snd (scanR l)) i d0) = Dg.col (List.getD (Prod.snd (scanR l)) i d0)) ∧ (true = true ∧ Dg.err (List.getD (Prod.snd (scanR l)) i d0) = Dg.err (List.getD (Prod.snd (scanR l)) i d0)) ∧ True) ∧ True) ∧ (true = true ∧ asciiTab = asciiTab) ∧ True))))) (∃ (x_1 : X4), ((I4 l x_1 ∧ Nat.le (Nat.succ (X4.pos x_1)) (List.length l)) ∧ some (AV.int IntKind.i64 (↑(X4.pos x) : Int)) = some (AV.int IntKind.i64 (↑(X4.pos x_1) : Int))) ∧ true = true ∧ ((true = true ∧ X4.line x = X4.line x_1) ∧ (true = true ∧ X4.fro x = X4.fro x_1) ∧ (true = true ∧ (↑(X4.i x) : Int) = (↑(X4.i2 l x_1) : Int)) ∧ (true = true ∧ (↑(X4.k x) : Int) = (↑(X4.k x_1) : Int)) ∧ (true = true ∧ X4.fin x = X4.fin2 l x_1) ∧ (true = true ∧ (↑(X4.pos x) : Int) = (↑(X4.pos x_1) : Int)) ∧ l = l ∧ (true = true ∧ List.length (Prod.fst (scanR l)) = List.length (Prod.fst (scanR l)) ∧ AllI fun (i : Nat) => i < List.length (Prod.fst (scanR l)) → (true = true ∧ Tok.kind (List.getD (Prod.fst (scanR l)) i t0) = Tok.kind (List.getD (Prod.fst (scanR l)) i t0)) ∧ Tok.text (List.getD (Prod.fst (scanR l)) i t0) = Tok.text (List.getD (Prod.fst (scanR l)) i t0) ∧ (true = true ∧ Tok.num (List.getD (Prod.fst (scanR l)) i t0) = Tok.num (List.getD (Prod.fst (scanR l)) i t0)) ∧ (true = true ∧ Tok.line (List.getD (Prod.fst (scanR l)) i t0) = Tok.line (List.getD (Prod.fst (scanR l)) i t0)) ∧ (true = true ∧ Tok.col (List.getD (Prod.fst (scanR l)) i t0) = Tok.col (List.getD (Prod.fst (scanR l)) i t0)) ∧ True) ∧ (true = true ∧ List.length (Prod.snd (scanR l)) = List.length (Prod.snd (scanR l)) ∧ AllI fun (i : Nat) => i < List.length (Prod.snd (scanR l)) → (true = true ∧ Dg.line (List.getD (Prod.snd (scanR l)) i d0) = Dg.line (List.getD (Prod.snd (scanR l)) i d0)) ∧ (true = true ∧ Dg.col (List.getD (Prod.snd (scanR l)) i d0) = Dg.col (List.getD (Prod.snd (scanR l)) i d0)) ∧ (true = true ∧ Dg.err (List.getD (Prod.snd (scanR l)) i d0) = Dg.err (List.getD (Prod.snd (scanR l)) i d0)) ∧ True) ∧ True) ∧ (true = true ∧ asciiTab = asciiTab) ∧ True))) (∃ (x_1 : X4), ((I4 l x_1 ∧ Nat.le (Nat.succ (X4.pos x_1)) (List.length l)) ∧ some (AV.int IntKind.i64 (↑(X4.pos x) : Int)) = some (AV.int IntKind.i64 (↑(X4.pos x_1) : Int))) ∧ true = true ∧ ((true = true ∧ X4.line x = X4.line x_1) ∧ (true = true ∧ X4.fro x = X4.fro x_1) ∧ (true = true ∧ (↑(X4.i x) : Int) = (↑(X4.i2 l x_1) : Int)) ∧ (true = true ∧ (↑(X4.k x) : Int) = (↑(X4.k x_1) : Int)) ∧ (true = true ∧ X4.fin x = X4.fin2 l x_1) ∧ (true = true ∧ (↑(X4.pos x) : Int) = (↑(X4.pos x_1) : Int)) ∧ l = l ∧ (true = true ∧ List.length (Prod.fst (scanR l)) = List.length (Prod.fst (scanR l)) ∧ AllI fun (i : Nat) => i < List.length (Prod.fst (scanR l)) → (true = true ∧ Tok.kind (List.getD (Prod.fst (scanR l)) i t0) = Tok.kind (List.getD (Prod.fst (scanR l)) i t0)) ∧ Tok.text (List.getD (Prod.fst (scanR l)) i t0) = Tok.text (List.getD (Prod.fst (scanR l)) i t0) ∧ (true = true ∧ Tok.num (List.getD (Prod.fst (scanR l)) i t0) = Tok.num (List.getD (Prod.fst (scanR l)) i t0)) ∧ (true = true ∧ Tok.line (List.getD (Prod.fst (scanR l)) i t0) = Tok.line (List.getD (Prod.fst (scanR l)) i t0)) ∧ (true = true ∧ Tok.col (List.getD (Prod.fst (scanR l)) i t0) = Tok.col (List.getD (Prod.fst (scanR l)) i t0)) ∧ True) ∧ (true = true ∧ List.length (Prod.snd (scanR l)) = List.length (Prod.snd (scanR l)) ∧ AllI fun (i : Nat) => i < List.length (Prod.snd (scanR l)) → (true = true ∧ Dg.line (List.getD (Prod.snd (scanR l)) i d0) = Dg.line (List.getD (Prod.snd (scanR l)) i d0)) ∧ (true = true ∧ Dg.col (List.getD (Prod.snd (scanR l)) i d0) = Dg.col (List.getD (Prod.snd (scanR l)) i d0)) ∧ (true = true ∧ Dg.err (List.getD (Prod.snd (scanR l)) i d0) = Dg.err (List.getD (Prod.snd (scanR l)) i d0)) ∧ True) ∧ True) ∧ (true = true ∧ asciiTab = asciiTab) ∧ True) ∧ ∀ (x_1 : X4), (I4 l x_1 ∧ Nat.le (Nat.succ (X4.pos x_1)) (List.length l)) ∧ some (AV.int IntKind.i64 (↑(X4.pos x) : Int)) = some (AV.int IntKind.i64 (↑(X4.pos x_1) : Int)) → brP (ilt (↑(X4.k x_1) : Int) (Int.ofNat (List.length (Prod.snd (scanR l))))) (sdA (inB (↑(X4.k x_1) : Int) (List.length (Prod.snd (scanR l)))) (brP (ieq (Dg.line (List.getD (Prod.snd (scanR l)) (Int.toNat (↑(X4.k x_1) : Int)) d0)) (X4.line x_1)) (sdA (inB (↑(X4.k x_1) : Int) (List.length (Prod.snd (scanR l)))) (sdA (inR IntKind.i64 ((↑(X4.pos x_1) : Int) - X4.fro x_1)) (sdA (inR IntKind.i64 ((↑(X4.pos x_1) : Int) - X4.fro x_1 + (1 : Int))) (brP (ieq (Dg.col (List.getD (Prod.snd (scanR l)) (Int.toNat (↑(X4.k x_1) : Int)) d0)) ((↑(X4.pos x_1) : Int) - X4.fro x_1 + (1 : Int))) (sdA (inR IntKind.i64 ((↑(X4.k x_1) : Int) + (1 : Int))) (∃ (x : X4), ((I4 l x ∧ Nat.le (Nat.succ (X4.pos x)) (List.length l)) ∧ some (AV.int IntKind.i64 (↑(X4.pos x_1) : Int)) = some (AV.int IntKind.i64 (↑(X4.pos x) : Int))) ∧ true = true ∧ ((true = true ∧ X4.line x_1 = X4.line x) ∧ (true = true ∧ X4.fro x_1 = X4.fro x) ∧ (true = true ∧ (↑(X4.i2 l x_1) : Int) = (↑(X4.i2 l x) : Int)) ∧ (true = true ∧ (↑(X4.k x_1) : Int) + (1 : Int) = (↑(X4.k2 l x) : Int)) ∧ (true = true ∧ X4.fin2 l x_1 = X4.fin2 l x) ∧ (true = true ∧ (↑(X4.pos x_1) : Int) = (↑(X4.pos x) : Int)) ∧ l = l ∧ (true = true ∧ List.length (Prod.fst (scanR l)) = List.length (Prod.fst (scanR l)) ∧ AllI fun (i : Nat) => i < List.length (Prod.fst (scanR l)) → (true = true ∧ Tok.kind (List.getD (Prod.fst (scanR l)) i t0) = Tok.kind (List.getD (Prod.fst (scanR l)) i t0)) ∧ Tok.text (List.getD (Prod.fst (scanR l)) i t0) = Tok.text (List.getD (Prod.fst (scanR l)) i t0) ∧ (true = true ∧ Tok.num (List.getD (Prod.fst (scanR l)) i t0) = Tok.num (List.getD (Prod.fst (scanR l)) i t0)) ∧ (true = true ∧ Tok.line (List.getD (Prod.fst (scanR l)) i t0) = Tok.line (List.getD (Prod.fst (scanR l)) i t0)) ∧ (true = true ∧ Tok.col (List.getD (Prod.fst (scanR l)) i t0) = Tok.col (List.getD (Prod.fst (scanR l)) i t0)) ∧ True) ∧ (true = true ∧ List.length (Prod.snd (scanR l)) = List.length (Prod.snd (scanR l)) ∧ AllI fun (i : Nat) => i < List.length (Prod.snd (scanR l)) → (true = true ∧ Dg.line (List.getD (Prod.snd (scanR l)) i d0) = Dg.line (List.getD (Prod.snd (scanR l)) i d0)) ∧ (true = true ∧ Dg.col (List.getD (Prod.snd (scanR l)) i d0) = Dg.col (List.getD (Prod.snd (scanR l)) i d0)) ∧ (true = true ∧ Dg.err (List.getD (Prod.snd (scanR l)) i d0) = Dg.err (List.getD (Prod.snd (scanR l)) i d0)) ∧ True) ∧ True) ∧ (true = true ∧ asciiTab = asciiTab) ∧ True)) (∃ (x : X4), ((I4 l x ∧ Nat.le (Nat.succ (X4.pos x)) (List.length l)) ∧ some (AV.int IntKind.i64 (↑(X4.pos x_1) : Int)) = some (AV.int IntKind.i64 (↑(X4.pos x) : Int))) ∧ true = true ∧ ((true = true ∧ X4.line x_1 = X4.line x) ∧ (true = true ∧ X4.fro x_1 = X4.fro x) ∧ (true = true ∧ (↑(X4.i2 l x_1) : Int) = (↑(X4.i2 l x) : Int)) ∧ (true = true ∧ (↑(X4.k x_1) : Int) = (↑(X4.k2 l x) : Int)) ∧ (true = true ∧ X4.fin2 l x_1 = X4.fin2 l x) ∧ (true = true ∧ (↑(X4.pos x_1) : Int) = (↑(X4.pos x) : Int)) ∧ l = l ∧ (true = true ∧ List.length (Prod.fst (scanR l)) = List.length (Prod.fst (scanR l)) ∧ AllI fun (i : Nat) => i < List.length (Prod.fst (scanR l)) → (true = true ∧ Tok.kind (List.getD (Prod.fst (scanR l)) i t0) = Tok.kind (List.getD (Prod.fst (scanR l)) i t0)) ∧ Tok.text (List.getD (Prod.fst (scanR l)) i t0) = Tok.text (List.getD (Prod.fst (scanR l)) i t0) ∧ (true = true ∧ Tok.num (List.getD (Prod.fst (scanR l)) i t0) = Tok.num (List.getD (Prod.fst (scanR l)) i t0)) ∧ (true = true ∧ Tok.line (List.getD (Prod.fst (scanR l)) i t0) = Tok.line (List.getD (Prod.fst (scanR l)) i t0)) ∧ (true = true ∧ Tok.col (List.getD (Prod.fst (scanR l)) i t0) = Tok.col (List.getD (Prod.fst (scanR l)) i t0)) ∧ True) ∧ (true = true ∧ List.length (Prod.snd (scanR l)) = List.length (Prod.snd (scanR l)) ∧ AllI fun (i : Nat) => i < List.length (Prod.snd (scanR l)) → (true = true ∧ Dg.line (List.getD (Prod.snd (scanR l)) i d0) = Dg.line (List.getD (Prod.snd (scanR l)) i d0)) ∧ (true = true ∧ Dg.col (List.getD (Prod.snd (scanR l)) i d0) = Dg.col (List.getD (Prod.snd (scanR l)) i d0)) ∧ (true = true ∧ Dg.err (List.getD (Prod.snd (scanR l)) i d0) = Dg.err (List.getD (Prod.snd (scanR l)) i d0)) ∧ True) ∧ True) ∧ (true = true ∧ asciiTab = asciiTab) ∧ True))))) (∃ (x : X4), ((I4 l x ∧ Nat.le (Nat.succ (X4.pos x)) (List.length l)) ∧ some (AV.int IntKind.i64 (↑(X4.pos x_1) : Int)) = some (AV.int IntKind.i64 (↑(X4.pos x) : Int))) ∧ true = true ∧ ((true = true ∧ X4.line x_1 = X4.line x) ∧ (true = true ∧ X4.fro x_1 = X4.fro x) ∧ (true = true ∧ (↑(X4.i2 l x_1) : Int) = (↑(X4.i2 l x) : Int)) ∧ (true = true ∧ (↑(X4.k x_1) : Int) = (↑(X4.k2 l x) : Int)) ∧ (true = true ∧ X4.fin2 l x_1 = X4.fin2 l x) ∧ (true = true ∧ (↑(X4.pos x_1) : Int) = (↑(X4.pos x) : Int)) ∧ l = l ∧ (true = true ∧ List.length (Prod.fst (scanR l)) = List.length (Prod.fst (scanR l)) ∧ AllI fun (i : Nat) => i < List.length (Prod.fst (scanR l)) → (true = true ∧ Tok.kind (List.getD (Prod.fst (scanR l)) i t0) = Tok.kind (List.getD (Prod.fst (scanR l)) i t0)) ∧ Tok.text (List.getD (Prod.fst (scanR l)) i t0) = Tok.text (List.getD (Prod.fst (scanR l)) i t0) ∧ (true = true ∧ Tok.num (List.getD (Prod.fst (scanR l)) i t0) = Tok.num (List.getD (Prod.fst (scanR l)) i t0)) ∧ (true = true ∧ Tok.line (List.getD (Prod.fst (scanR l)) i t0) = Tok.line (List.getD (Prod.fst (scanR l)) i t0)) ∧ (true = true ∧ Tok.col (List.getD (Prod.fst (scanR l)) i t0) = Tok.col (List.getD (Prod.fst (scanR l)) i t0)) ∧ True) ∧ (true = true ∧ List.length (Prod.snd (scanR l)) = List.length (Prod.snd (scanR l)) ∧ AllI fun (i : Nat) => i < List.length (Prod.snd (scanR l)) → (true = true ∧ Dg.line (List.getD (Prod.snd (scanR l)) i d0) = Dg.line (List.getD (Prod.snd (scanR l)) i d0)) ∧ (true = true ∧ Dg.col (List.getD (Prod.snd (scanR l)) i d0) = Dg.col (List.getD (Prod.snd (scanR l)) i d0)) ∧ (true = true ∧ Dg.err (List.getD (Prod.snd (scanR l)) i d0) = Dg.err (List.getD (Prod.snd (scanR l)) i d0)) ∧ True) ∧ True) ∧ (true = true ∧ asciiTab = asciiTab) ∧ True))) (∃ (x : X4), ((I4 l x ∧ Nat.le (Nat.succ (X4.pos x)) (List.length l)) ∧ some (AV.int IntKind.i64 (↑(X4.pos x_1) : Int)) = some (AV.int IntKind.i64 (↑(X4.pos x) : Int))) ∧ true = true ∧ ((true = true ∧ X4.line x_1 = X4.line x) ∧ (true = true ∧ X4.fro x_1 = X4.fro x) ∧ (true = true ∧ (↑(X4.i2 l x_1) : Int) = (↑(X4.i2 l x) : Int)) ∧ (true = true ∧ (↑(X4.k x_1) : Int) = (↑(X4.k2 l x) : Int)) ∧ (true = true ∧ X4.fin2 l x_1 = X4.fin2 l x) ∧ (true = true ∧ (↑(X4.pos x_1) : Int) = (↑(X4.pos x) : Int)) ∧ l = l ∧ (true = true ∧ List.length (Prod.fst (scanR l)) = List.length (Prod.fst (scanR l)) ∧ AllI fun (i : Nat) => i < List.length (Prod.fst (scanR l)) → (true = true ∧ Tok.kind (List.getD (Prod.fst (scanR l)) i t0) = Tok.kind (List.getD (Prod.fst (scanR l)) i t0)) ∧ Tok.text (List.getD (Prod.fst (scanR l)) i t0) = Tok.text (List.getD (Prod.fst (scanR l)) i t0) ∧ (true = true ∧ Tok.num (List.getD (Prod.fst (scanR l)) i t0) = Tok.num (List.getD (Prod.fst (scanR l)) i t0)) ∧ (true = true ∧ Tok.line (List.getD (Prod.fst (scanR l)) i t0) = Tok.line (List.getD (Prod.fst (scanR l)) i t0)) ∧ (true = true ∧ Tok.col (List.getD (Prod.fst (scanR l)) i t0) = Tok.col (List.getD (Prod.fst (scanR l)) i t0)) ∧ True) ∧ (true = true ∧ List.length (Prod.snd (scanR l)) = List.length (Prod.snd (scanR l)) ∧ AllI fun (i : Nat) => i < List.length (Prod.snd (scanR l)) → (true = true ∧ Dg.line (List.getD (Prod.snd (scanR l)) i d0) = Dg.line (List.getD (Prod.snd (scanR l)) i d0)) ∧ (true = true ∧ Dg.col (List.getD (Prod.snd (scanR l)) i d0) = Dg.col (List.getD (Prod.snd (scanR l)) i d0)) ∧ (true = true ∧ Dg.err (List.getD (Prod.snd (scanR l)) i d0) = Dg.err (List.getD (Prod.snd (scanR l)) i d0)) ∧ True) ∧ True) ∧ (true = true ∧ asciiTab = asciiTab) ∧ True) ∧ ∀ (x_2 : X4), (I4 l x_2 ∧ Nat.le (Nat.succ (X4.pos x_2)) (List.length l)) ∧ some (AV.int IntKind.i64 (↑(X4.pos x_1) : Int)) = some (AV.int IntKind.i64 (↑(X4.pos x_2) : Int)) → sdA (inB (↑(X4.pos x_2) : Int) (List.length l)) (brP (ieq (↑(UInt8.toNat (List.getD l (Int.toNat (↑(X4.pos x_2) : Int)) (0 : UInt8))) : Int) (10 : Int)) (sdA (inR IntKind.i64 (X4.line x_2 + (1 : Int))) (sdA (inR IntKind.i64 ((↑(X4.pos x_2) : Int) + (1 : Int))) (sdA (inR IntKind.i64 ((↑(X4.pos x_2) : Int) + (1 : Int))) (∃ (x' : X4), I4 l x' ∧ Nat.le (Nat.succ (List.length l - X4.pos x')) (List.length l - X4.pos x) ∧ true = true ∧ ((true = true ∧ X4.line x_2 + (1 : Int) = X4.line x') ∧ (true = true ∧ (↑(X4.pos x_2) : Int) + (1 : Int) = X4.fro x') ∧ (true = true ∧ (↑(X4.i2 l x_2) : Int) = (↑(X4.i x') : Int)) ∧ (true = true ∧ (↑(X4.k2 l x_2) : Int) = (↑(X4.k x') : Int)) ∧ (true = true ∧ X4.fin2 l x_2 = X4.fin x') ∧ (true = true ∧ (↑(X4.pos x_2) : Int) + (1 : Int) = (↑(X4.pos x') : Int)) ∧ l = l ∧ (true = true ∧ List.length (Prod.fst (scanR l)) = List.length (Prod.fst (scanR l)) ∧ AllI fun (i : Nat) => i < List.length (Prod.fst (scanR l)) → (true = true ∧ Tok.kind (List.getD (Prod.fst (scanR l)) i t0) = Tok.kind (List.getD (Prod.fst (scanR l)) i t0)) ∧ Tok.text (List.getD (Prod.fst (scanR l)) i t0) = Tok.text (List.getD (Prod.fst (scanR l)) i t0) ∧ (true = true ∧ Tok.num (List.getD (Prod.fst (scanR l)) i t0) = Tok.num (List.getD (Prod.fst (scanR l)) i t0)) ∧ (true = true ∧ Tok.line (List.getD (Prod.fst (scanR l)) i t0) = Tok.line (List.getD (Prod.fst (scanR l)) i t0)) ∧ (true = true ∧ Tok.col (List.getD (Prod.fst (scanR l)) i t0) = Tok.col (List.getD (Prod.fst (scanR l)) i t0)) ∧ True) ∧ (true = true ∧ List.length (Prod.snd (scanR l)) = List.length (Prod.snd (scanR l)) ∧ AllI fun (i : Nat) => i < List.length (Prod.snd (scanR l)) → (true = true ∧ Dg.line (List.getD (Prod.snd (scanR l)) i d0) = Dg.line (List.getD (Prod.snd (scanR l)) i d0)) ∧ (true = true ∧ Dg.col (List.getD (Prod.snd (scanR l)) i d0) = Dg.col (List.getD (Prod.snd (scanR l)) i d0)) ∧ (true = true ∧ Dg.err (List.getD (Prod.snd (scanR l)) i d0) = Dg.err (List.getD (Prod.snd (scanR l)) i d0)) ∧ True) ∧ True) ∧ (true = true ∧ asciiTab = asciiTab) ∧ True)))) (sdA (inR IntKind.i64 ((↑(X4.pos x_2) : Int) + (1 : Int))) (∃ (x' : X4), I4 l x' ∧ Nat.le (Nat.succ (List.length l - X4.pos x')) (List.length l - X4.pos x) ∧ true = true ∧ ((true = true ∧ X4.line x_2 = X4.line x') ∧ (true = true ∧ X4.fro x_2 = X4.fro x') ∧ (true = true ∧ (↑(X4.i2 l x_2) : Int) = (↑(X4.i x') : Int)) ∧ (true = true ∧ (↑(X4.k2 l x_2) : Int) = (↑(X4.k x') : Int)) ∧ (true = true ∧ X4.fin2 l x_2 = X4.fin x') ∧ (true = true ∧ (↑(X4.pos x_2) : Int) + (1 : Int) = (↑(X4.pos x') : Int)) ∧ l = l ∧ (true = true ∧ List.length (Prod.fst (scanR l)) = List.length (Prod.fst (scanR l)) ∧ AllI fun (i : Nat) => i < List.length (Prod.fst (scanR l)) → (true = true ∧ Tok.kind (List.getD (Prod.fst (scanR l)) i t0) = Tok.kind (List.getD (Prod.fst (scanR l)) i t0)) ∧ Tok.text (List.getD (Prod.fst (scanR l)) i t0) = Tok.text (List.getD (Prod.fst (scanR l)) i t0) ∧ (true = true ∧ Tok.num (List.getD (Prod.fst (scanR l)) i t0) = Tok.num (List.getD (Prod.fst (scanR l)) i t0)) ∧ (true = true ∧ Tok.line (List.getD (Prod.fst (scanR l)) i t0) = Tok.line (List.getD (Prod.fst (scanR l)) i t0)) ∧ (true = true ∧ Tok.col (List.getD (Prod.fst (scanR l)) i t0) = Tok.col (List.getD (Prod.fst (scanR l)) i t0)) ∧ True) ∧ (true = true ∧ List.length (Prod.snd (scanR l)) = List.length (Prod.snd (scanR l)) ∧ AllI fun (i : Nat) => i < List.length (Prod.snd (scanR l)) → (true = true ∧ Dg.line (List.getD (Prod.snd (scanR l)) i d0) = Dg.line (List.getD (Prod.snd (scanR l)) i d0)) ∧ (true = true ∧ Dg.col (List.getD (Prod.snd (scanR l)) i d0) = Dg.col (List.getD (Prod.snd (scanR l)) i d0)) ∧ (true = true ∧ Dg.err (List.getD (Prod.snd (scanR l)) i d0) = Dg.err (List.getD (Prod.snd (scanR l)) i d0)) ∧ True) ∧ True) ∧ (true = true ∧ asciiTab = asciiTab) ∧ True)))) (brP (ieq (↑(X4.i x) : Int) (Int.ofNat (List.length (Prod.fst (scanR l))))) (brP (ieq (↑(X4.k x) : Int) (Int.ofNat (List.length (Prod.snd (scanR l))))) (True ∧ true = true) (false = true)) (false = true)))
:= by
  intro l
  simp only [barr_eq, bar_eq, true_and, and_true, eq_self, implies_true, Nat.le_eq, cond_tf, cond_cf, Int.toNat_natCast, Int.ofNat_eq_natCast, Nat.ble_eq, Nat.ble_self_eq_true, Bool.true_and, Bool.and_true, Bool.and_self, Option.some.injEq, AV.int.injEq, rowB_self, allBR_self, Nat.mul_one, Nat.beq_refl, allI_true, cond_true, cond_false, ieq_self, Bool.not_true, Bool.not_false, decide_true, brP_f, brP_t, sdA_t]
  obtain ⟨n1, n2⟩ := scanR_len l
  refine brP_of (fun _ => trivial) fun h5 => ?_
  rw [ilt_iffn] at h5
  refine ⟨by omega, ⟨⟨0, 1, 0, 0, 0, 0, 0⟩, ⟨Nat.le_refl _, Nat.zero_le _, fun j _ h => absurd h (Nat.not_lt_zero _), Int.le_refl _, Int.le_refl _, Int.le_refl _, Int.le_refl _, Int.le_refl _, Int.le_refl _, rfl, rfl, Nat.zero_le _, Nat.zero_le _⟩, rfl, rfl, rfl, rfl, rfl, rfl⟩, fun x hI => ?_⟩
  refine brP_of (fun hr => ?_) fun hr => ?_
  · rw [ilt_iff] at hr
    have hlt : x.pos < l.length := by omega
    obtain ⟨h1, h2, h3, h4, h5', h6, h7, h8, h9, h10, h11, h12, h13⟩ := id hI
    refine ⟨?_, fun y hy => ⟨?_, fun z hz => ?_⟩⟩
    · rcases tok_at hI hlt with ⟨ho, hno⟩ | ⟨ho, ho2, g1, g2, g3, g4, g5⟩
      · have hw : ∃ x_1 : X4, ((I4 l x_1 ∧ x_1.pos.succ ≤ l.length) ∧ (x.pos : Int) = x_1.pos) ∧ x.line = x_1.line ∧ x.fro = x_1.fro ∧ (x.i : Int) = (X4.i2 l x_1 : Nat) ∧ (x.k : Int) = x_1.k ∧ x.fin = X4.fin2 l x_1 ∧ (x.pos : Int) = x_1.pos := by
          refine ⟨x, ⟨⟨hI, hlt⟩, rfl⟩, rfl, rfl, ?_, rfl, ?_, rfl⟩
          · unfold X4.i2; rw [ho]; rfl
          · unfold X4.fin2; rw [if_pos ho]
        refine brP_of (fun hi => ?_) fun _ => hw
        rw [ilt_iff] at hi
        have hi : x.i < (scanR l).1.length := by omega
        have hno := hno hi
        refine sdA_of (inB_iff.2 (by omega)) (brP_of (fun hl => ?_) fun _ => hw)
        rw [ieq_iff] at hl
        refine sdA_of (inB_iff.2 (by omega)) (sdA_of (inR_i64.2 (by omega)) (sdA_of (inR_i64.2 (by omega)) (brP_of (fun hc => ?_) fun _ => hw)))
        rw [ieq_iff] at hc
        exact absurd ⟨hl, hc⟩ hno
      · have hn := nxT_pos (hd l x.pos) (l.drop (x.pos + 1))
        rw [← nxA_cons hlt, List.length_cons, List.length_drop] at hn
        have hlen : ((l.drop x.pos).take (nxA l x.pos).2).length = (nxA l x.pos).2 := by rw [List.length_take, List.length_drop]; omega
        have e0 : ((x.pos : Int) + ((nxA l x.pos).2 : Nat)).toNat = x.pos + (nxA l x.pos).2 := by omega
        simp only [g3, g4, g5, hlen, ieq_self, brP_t, e0]
        have hinb : inB (x.i : Int) (scanR l).1.length = true := inB_iff.2 (by omega)
        have hir : inR .i64 ((x.pos : Int) + ((nxA l x.pos).2 : Nat)) = true := inR_i64.2 (by omega)
        refine brP_of (fun _ => ?_) fun h => absurd h (by rw [show ilt (x.i : Int) (scanR l).1.length = true from ilt_iff.2 (by omega)]; simp)
        refine sdA_of hinb (sdA_of hinb (sdA_of (inR_i64.2 (by omega)) (sdA_of (inR_i64.2 (by omega)) (sdA_of hinb (brP_of (fun h => ?_) fun _ => brP_of (fun h => ?_) fun _ => sdA_of hir (brP_of (fun h => ?_) fun _ => sdA_of hir (sdA_of ?_ (sdA_of hinb (brP_of (fun h => ?_) fun _ => sdA_of hir (sdA_of (inR_i64.2 (by omega)) ?_)))))))))) 
        · rw [ieq_iff] at h; omega
        · rw [ilt_iff] at h; omega
        · rw [ilt_iff] at h; omega
        · rw [Bool.and_eq_true]; exact ⟨inL_iff.2 (by omega), inL_iff.2 (by omega)⟩
        · rw [List.drop_take, Nat.add_sub_cancel_left] at h
          simp at h
        · refine ⟨x, ⟨⟨hI, hlt⟩, rfl⟩, rfl, rfl, ?_, rfl, ?_, rfl⟩
          · unfold X4.i2; rw [ho]; rfl
          · unfold X4.fin2; rw [if_neg ho2]; omega
    · obtain ⟨⟨hJ, hyt⟩, hyp⟩ := hy
      have hyt : y.pos < l.length := hyt
      obtain ⟨k1, k2, k3, k4, k5, k6, k7, k8, k9, k10, k11, k12, k13⟩ := id hJ
      rcases dg_at hJ hyt with ⟨ho, hno⟩ | ⟨ho, g1, g3, g4⟩
      · have hw : ∃ x : X4, ((I4 l x ∧ x.pos.succ ≤ l.length) ∧ (y.pos : Int) = x.pos) ∧ y.line = x.line ∧ y.fro = x.fro ∧ (X4.i2 l y : Int) = (X4.i2 l x : Nat) ∧ (y.k : Int) = (X4.k2 l x : Nat) ∧ X4.fin2 l y = X4.fin2 l x ∧ (y.pos : Int) = x.pos := by
          refine ⟨y, ⟨⟨hJ, hyt⟩, rfl⟩, rfl, rfl, rfl, ?_, rfl, rfl⟩
          unfold X4.k2; rw [ho]; rfl
        refine brP_of (fun hi => ?_) fun _ => hw
        rw [ilt_iff] at hi
        have hno := hno (by omega)
        refine sdA_of (inB_iff.2 (by omega)) (brP_of (fun hl => ?_) fun _ => hw)
        rw [ieq_iff] at hl
        refine sdA_of (inB_iff.2 (by omega)) (sdA_of (inR_i64.2 (by omega)) (sdA_of (inR_i64.2 (by omega)) (brP_of (fun hc => ?_) fun _ => hw)))
        rw [ieq_iff] at hc
        exact absurd ⟨hl, hc⟩ hno
      · rw [g3, g4, ieq_self, ieq_self, brP_t, brP_t]
        have hinb : inB (y.k : Int) (scanR l).2.length = true := inB_iff.2 (by omega)
        refine brP_of (fun _ => ?_) fun h => absurd h (by rw [show ilt (y.k : Int) (scanR l).2.length = true from ilt_iff.2 (by omega)]; simp)
        refine sdA_of hinb (sdA_of hinb (sdA_of (inR_i64.2 (by omega)) (sdA_of (inR_i64.2 (by omega)) (sdA_of (inR_i64.2 (by omega)) ⟨y, ⟨⟨hJ, hyt⟩, rfl⟩, rfl, rfl, rfl, ?_, rfl, rfl⟩))))
        unfold X4.k2; rw [ho]; rfl
    · obtain ⟨⟨hJ, hzt⟩, hzp⟩ := hz
      obtain ⟨⟨_, hyt⟩, hyp⟩ := hy
      have hzt : z.pos < l.length := hzt
      have hzx : x.pos = z.pos := by omega
      have hst := hJ.next hzt
      obtain ⟨k1, k2, k3, k4, k5, k6, k7, k8, k9, k10, k11, k12, k13⟩ := id hJ
      refine sdA_of (inB_iff.2 (by omega)) (brP_of (fun hb => ?_) fun hb => ?_)
      · rw [ieq_iff] at hb
        have hb : hd l z.pos = 10 := UInt8.toNat_inj.1 (by show _ = 10; unfold hd; omega)
        refine sdA_of (inR_i64.2 (by omega)) (sdA_of (inR_i64.2 (by omega)) (sdA_of (inR_i64.2 (by omega)) ⟨_, hst, ?_, ?_, ?_, rfl, rfl, rfl, rfl⟩))
        · show (l.length - (z.pos + 1)).succ ≤ _; omega
        · exact (if_pos hb).symm
        · exact (if_pos hb).symm
      · rw [ieq_iffn] at hb
        have hb : ¬ hd l z.pos = 10 := fun h => hb (by show (((hd l z.pos).toNat : Nat) : Int) = 10; rw [h]; rfl)
        refine sdA_of (inR_i64.2 (by omega)) ⟨_, hst, ?_, ?_, ?_, rfl, rfl, rfl, rfl⟩
        · show (l.length - (z.pos + 1)).succ ≤ _; omega
        · exact (if_neg hb).symm
        · exact (if_neg hb).symm
  · rw [ilt_iffn] at hr
    obtain ⟨h1, h2, h3, h4, h5', h6, h7, h8, h9, h10, h11, h12, h13⟩ := hI
    rw [show x.p = l.length by omega, List.drop_length, scn_nil] at h10 h11
    have e1 := congrArg List.length h10
    have e2 := congrArg List.length h11
    rw [List.length_drop, List.length_nil] at e1 e2
    rw [show x.i = (scanR l).1.length by omega, show x.k = (scanR l).2.length by omega, ieq_self, ieq_self]
    exact trivial
theorem run4 : ∀ (l : List UInt8), (cRun (cx4 l) 200).call 4 [.bv l] (mkH glT) 4 (ResM Tryd.prog false (.bool true)) :=
  Eq.mpr (by kernel_rfl) run4_r

theorem ok4 : EntOK Tryd.prog 4 eL1 := by
  refine ent_of2 (gl := glT) (ng := 4) glT_gl fun H args ct hct => ?_
  unfold eL1 at hct
  split at hct
  · rename_i l
    cases hg : globB H with
    | true =>
      rw [hg] at hct
      injection hct with hct; subst hct
      exact ⟨globB_ok hg, _, _, rfl, fun hp => ⟨⟨rfl, trivial⟩, cx4 l, 200, rfl, fol, tbK_ok, run4 l⟩⟩
    | false => rw [hg] at hct; cases hct
  · cases hct

end Go.Proofs.Tk
