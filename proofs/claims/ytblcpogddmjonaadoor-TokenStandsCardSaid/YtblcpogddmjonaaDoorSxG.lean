/- The symbolic layer, part G: objects and states beside one another: stations. -/
import Derived.Test.YtblcpogddmjonaaDoorSxF
set_option linter.unusedVariables false
set_option linter.unusedSimpArgs false
namespace Go.Ev

noncomputable def pcP (σ : List (Nat × Nat)) (c : Tr AV) (z : CB) (c' : Tr AV) (z' : CB) (n : Nat) : Prop :=
  Nat.rec (motive := fun _ => Prop) True (fun k ih => ih ∧ (match cellOf c z k with
    | none => True
    | some a => match cellOf c' z' k with
      | none => False
      | some b => vmP σ a b)) n

noncomputable def esP (σ : List (Nat × Nat)) : List AEnt → List AEnt → Prop
  | [], l => match l with
    | [] => True
    | _ => False
  | e :: l, l' => match l' with
    | d :: m => (vmP σ e.key d.key ∧ vmP σ e.val d.val ∧ Nat.beq e.born d.born = true) ∧ esP σ l m
    | [] => False

noncomputable def omP (σ : List (Nat × Nat)) (a b : AObj) : Prop :=
  match a with
  | .cells el c z n op => match b with
    | .cells el' c' z' n' op' => Nat.beq el el' = true ∧ (op || !op') = true ∧ (match z with
      | .rows e f => match c with
        | .leaf => match c', z' with
          | .leaf, .rows e' f' => Nat.beq e e' = true ∧ n' = n ∧ AllI fun i => i * e < n' → vmL σ (f i) (f' i)
          | _, _ => False
        | _ => False
      | .per _ => Nat.beq n n' = true ∧ pcP σ c z c' z' n)
    | _ => False
  | .map es ck => match b with
    | .map es' ck' => Nat.beq ck ck' = true ∧ esP σ es es'
    | _ => False
  | .glob l => match b with
    | .glob l' => l' = l
    | _ => False
  | _ => False

theorem pcP_get {σ : List (Nat × Nat)} {c : Tr AV} {z : CB} {c' : Tr AV} {z' : CB} : ∀ {n : Nat}, pcP σ c z c' z' n → ∀ k a, k < n → cellOf c z k = some a → ∃ b, cellOf c' z' k = some b ∧ vmP σ a b
  | 0, _, k, a, hk, _ => by omega
  | n + 1, h, k, a, hk, ha => by
    have h' : pcP σ c z c' z' n ∧ (match cellOf c z n with
      | none => True
      | some a => match cellOf c' z' n with
        | none => False
        | some b => vmP σ a b) := h
    by_cases hkn : k = n
    · subst hkn
      have h2 := h'.2
      rw [ha] at h2
      simp only at h2
      split at h2
      · exact h2.elim
      · rename_i b hb; exact ⟨b, hb, h2⟩
    · exact pcP_get h'.1 k a (by omega) ha

theorem vmL_get {σ : List (Nat × Nat)} : ∀ {l m : List AV}, vmL σ l m → ∀ (j : Nat) (a : AV), l[j]? = some a → ∃ b, m[j]? = some b ∧ vmP σ a b
  | [], m, h, j, a, ha => by simp at ha
  | x :: l, m, h, j, a, ha => by
    cases m with
    | nil => simp [vmL] at h
    | cons y m =>
      rw [vmL] at h
      match j with
      | 0 => injection ha with ha; subst ha; exact ⟨y, rfl, h.1⟩
      | j + 1 => exact vmL_get h.2 j a ha

theorem esP_rel {σ : List (Nat × Nat)} {ρ ρ2 : Ren} (hσ : SgOK σ ρ ρ2) : ∀ {es es' : List AEnt} {l : List MapEntry}, esP σ es es' → ERL ρ es' l → ERL ρ2 es l
  | [], es', l, h, hl => by
    cases hl with
    | nil => exact .nil
    | cons => simp [esP] at h
  | e :: es, es', l, h, hl => by
    cases hl with
    | nil => simp [esP] at h
    | cons d m _ _ h1 h2 =>
      rw [esP] at h
      obtain ⟨⟨h3, h4, h5⟩, h6⟩ := h
      rw [Nat.beq_eq] at h5
      exact .cons _ _ _ _ ⟨vm_rel hσ _ _ _ h3 h1.1, vm_rel hσ _ _ _ h4 h1.2.1, h5.trans h1.2.2⟩ (esP_rel hσ h6 h2)

theorem om_rel {σ : List (Nat × Nat)} {ρ ρ2 : Ren} (hσ : SgOK σ ρ ρ2) {a o : AObj} {b : Blk} {c : Obj} (h : omP σ a o) (ho : OR ρ b o c) : OR ρ2 b a c := by
  unfold omP at h
  split at h
  · rename_i el c0 z n op
    split at h
    · rename_i el' c' z' n' op'
      obtain ⟨h1, h2, h3⟩ := h
      rw [Nat.beq_eq] at h1; subst h1
      cases ho with
      | cells _ _ _ _ _ cs fz hsize hn hop hfz hc =>
        have hop2 : ∀ m, m = n' → op = false → m = b.cap := fun m hm h => by
          subst hm; subst h
          refine hop ?_
          cases op' <;> first | rfl | simp at h2
        cases z with
        | rows e f =>
          cases c0 with
          | node _ _ _ => exact h3.elim
          | leaf =>
            simp only at h3
            split at h3
            · rename_i e' f'
              obtain ⟨h4, rfl, h6⟩ := h3
              rw [Nat.beq_eq] at h4; subst h4
              refine .cells _ _ _ _ _ cs fz hsize hn (hop2 _ rfl) hfz fun k a hk ha => ?_
              rw [cellOf_leaf] at ha
              have ha' : (f (k / e))[k % e]? = some a := ha
              have hlt : k / e * e < n' := Nat.lt_of_le_of_lt (Nat.div_mul_le_self k e) hk
              obtain ⟨b', hb', hm⟩ := vmL_get (h6.h _ hlt) _ _ ha'
              obtain ⟨v, hv, hr⟩ := hc k b' hk (by rw [cellOf_leaf]; exact hb')
              exact ⟨v, hv, vm_rel hσ _ _ _ hm hr⟩
            · exact h3.elim
        | per zs =>
          simp only at h3
          obtain ⟨h4, h5⟩ := h3
          rw [Nat.beq_eq] at h4; subst h4
          refine .cells _ _ _ _ _ cs fz hsize hn (hop2 _ rfl) hfz fun k a hk ha => ?_
          obtain ⟨b', hb', hm⟩ := pcP_get h5 k a hk ha
          obtain ⟨v, hv, hr⟩ := hc k b' hk hb'
          exact ⟨v, hv, vm_rel hσ _ _ _ hm hr⟩
    · exact h.elim
  · split at h
    · obtain ⟨h1, h2⟩ := h
      rw [Nat.beq_eq] at h1; subst h1
      cases ho with
      | map _ _ l hl => exact .map _ _ l (esP_rel hσ h2 hl)
    · exact h.elim
  · split at h
    · cases ho
    · exact h.elim
  · exact h.elim

/-! ### which number is which -/
mutual
noncomputable def subA (a b : AV) (σ : List (Nat × Nat)) : List (Nat × Nat) :=
  match a with
  | .ptr i _ => match b with
    | .ptr j _ => addS i j σ
    | _ => σ
  | .sl i _ _ _ => match b with
    | .sl j _ _ _ => addS i j σ
    | _ => σ
  | .slo i _ _ _ => match b with
    | .slo j _ _ _ => addS i j σ
    | _ => σ
  | .slg i _ _ => match b with
    | .slg j _ _ => addS i j σ
    | .slo j _ _ _ => addS i j σ
    | _ => σ
  | .map i => match b with
    | .map j => addS i j σ
    | _ => σ
  | .fn _ l m => match b with
    | .fn _ l' m' => subL m m' (subL l l' σ)
    | _ => σ
  | .agg l => match b with
    | .agg l' => subL l l' σ
    | _ => σ
  | .tup l => match b with
    | .tup l' => subL l l' σ
    | _ => σ
  | .iface _ v => match b with
    | .iface _ v' => subA v v' σ
    | _ => σ
  | _ => σ
noncomputable def subL (a b : List AV) (σ : List (Nat × Nat)) : List (Nat × Nat) :=
  match a with
  | [] => σ
  | x :: l => match b with
    | [] => σ
    | y :: m => subL l m (subA x y σ)
noncomputable def addS (i j : Nat) (σ : List (Nat × Nat)) : List (Nat × Nat) := Option.rec (motive := fun _ => List (Nat × Nat)) ((i, j) :: σ) (fun _ => σ) (sg σ i)
end

noncomputable def subC (c : Tr AV) (z : CB) (c' : Tr AV) (z' : CB) (n : Nat) (σ : List (Nat × Nat)) : List (Nat × Nat) :=
  Nat.rec (motive := fun _ => List (Nat × Nat)) σ (fun k ih => match cellOf c z k with
    | none => ih
    | some a => match cellOf c' z' k with
      | none => ih
      | some b => subA a b ih) n
noncomputable def subOb (a b : AObj) (σ : List (Nat × Nat)) : List (Nat × Nat) :=
  match a with
  | .cells _ c z n _ => match z with
    | .rows _ _ => σ
    | .per _ => match b with
      | .cells _ c' z' _ _ => subC c z c' z' n σ
      | _ => σ
  | _ => σ
/-- A list of numbers, reckoned first. -/
noncomputable def fL {β : Type} (l : List (Nat × Nat)) : (List (Nat × Nat) → β) → β :=
  List.rec (motive := fun _ => (List (Nat × Nat) → β) → β) (fun k => k []) (fun p _ ih k => fN p.1 fun a => fN p.2 fun b => ih fun l => k ((a, b) :: l)) l
theorem fL_eq {β : Type} : ∀ (l : List (Nat × Nat)) (k : List (Nat × Nat) → β), fL l k = k l
  | [], _ => rfl
  | p :: l, k => by
    show (fN p.1 fun a => fN p.2 fun b => fL l fun l => k ((a, b) :: l)) = _
    rw [fN_eq, fN_eq, fL_eq l]
noncomputable def subT (T : Tr AV) (l : List (Nat × AV)) (σ : List (Nat × Nat)) : List (Nat × Nat) :=
  List.rec (motive := fun _ => List (Nat × Nat) → List (Nat × Nat)) (fun σ => σ) (fun p _ ih σ => fL (Option.rec (motive := fun _ => List (Nat × Nat)) σ (fun b => subA p.2 b σ) (T.get p.1)) ih) l σ
noncomputable def subH (H : Tr AObj) (l : List (Nat × AObj)) (σ : List (Nat × Nat)) : List (Nat × Nat) :=
  List.rec (motive := fun _ => List (Nat × Nat) → List (Nat × Nat)) (fun σ => σ) (fun p _ ih σ => fL (Option.rec (motive := fun _ => List (Nat × Nat)) σ (fun j =>
    Option.rec (motive := fun _ => List (Nat × Nat)) σ (fun o => subOb p.2 o σ) (H.get j)) (sg σ p.1)) ih) l σ

/-- A list of numbers, no two alike. -/
noncomputable def nod (l : List Nat) : Bool := List.rec (motive := fun _ => Bool) true (fun a l ih => cond (l.any (Nat.beq a)) false ih) l
noncomputable def idS (n0 : Nat) : List (Nat × Nat) := (List.range n0).map fun i => (i, i)
/-- The numbering may be: below n0 nothing turns; below nx all; no two come to one. -/
noncomputable def sgWF (n0 nx : Nat) (σ : List (Nat × Nat)) : Bool :=
  cond ((List.range n0).all fun i => Option.rec (motive := fun _ => Bool) false (fun j => Nat.beq j i) (sg σ i)) (cond (σ.all fun p => Nat.blt p.1 nx) (nod (σ.map (·.2))) false) false

noncomputable def tP (σ : List (Nat × Nat)) (T : Tr AV) (l : List (Nat × AV)) : Prop :=
  List.rec (motive := fun _ => Prop) True (fun p _ ih => (match T.get p.1 with
    | none => False
    | some b => vmP σ p.2 b) ∧ ih) l
def isGl : AObj → Bool
  | .glob _ => true
  | _ => false
noncomputable def hP (n0 : Nat) (σ : List (Nat × Nat)) (H : Tr AObj) (l : List (Nat × AObj)) : Prop :=
  List.rec (motive := fun _ => Prop) True (fun p _ ih => (cond (isGl p.2) (Nat.blt p.1 n0) true = true ∧ match sg σ p.1 with
    | none => True
    | some j => match H.get j with
      | none => False
      | some o => omP σ p.2 o) ∧ ih) l

noncomputable def mkT (l : List (Nat × AV)) : Tr AV := List.rec (motive := fun _ => Tr AV) .leaf (fun p _ ih => ih.set p.1 p.2) l
noncomputable def mkH (l : List (Nat × AObj)) : Tr AObj := List.rec (motive := fun _ => Tr AObj) .leaf (fun p _ ih => ih.set p.1 p.2) l
theorem mkT_get : ∀ {l : List (Nat × AV)} {t : Nat} {a : AV}, (mkT l).get t = some a → (t, a) ∈ l
  | [], t, a, h => by rw [show mkT [] = .leaf from rfl, Tr.get_leaf] at h; cases h
  | p :: l, t, a, h => by
    have h' : ((mkT l).set p.1 p.2).get t = some a := h
    rw [Tr.get_set] at h'
    split at h'
    · rename_i e; injection h' with h'; subst e; subst h'; exact List.mem_cons_self ..
    · exact List.mem_cons_of_mem _ (mkT_get h')
theorem mkH_get : ∀ {l : List (Nat × AObj)} {t : Nat} {a : AObj}, (mkH l).get t = some a → (t, a) ∈ l
  | [], t, a, h => by rw [show mkH [] = .leaf from rfl, Tr.get_leaf] at h; cases h
  | p :: l, t, a, h => by
    have h' : ((mkH l).set p.1 p.2).get t = some a := h
    rw [Tr.get_set] at h'
    split at h'
    · rename_i e; injection h' with h'; subst e; subst h'; exact List.mem_cons_self ..
    · exact List.mem_cons_of_mem _ (mkH_get h')

theorem tP_mem {σ : List (Nat × Nat)} {T : Tr AV} : ∀ {l : List (Nat × AV)}, tP σ T l → ∀ p ∈ l, ∃ b, T.get p.1 = some b ∧ vmP σ p.2 b
  | [], _, p, hp => by cases hp
  | q :: l, h, p, hp => by
    have h' : (match T.get q.1 with
      | none => False
      | some b => vmP σ q.2 b) ∧ tP σ T l := h
    rcases List.mem_cons.1 hp with rfl | hp
    · have h2 := h'.1
      split at h2
      · exact h2.elim
      · rename_i b hb; exact ⟨b, hb, h2⟩
    · exact tP_mem h'.2 p hp
theorem hP_mem {n0 : Nat} {σ : List (Nat × Nat)} {H : Tr AObj} : ∀ {l : List (Nat × AObj)}, hP n0 σ H l → ∀ p ∈ l, cond (isGl p.2) (Nat.blt p.1 n0) true = true ∧ ∀ j, sg σ p.1 = some j → ∃ o, H.get j = some o ∧ omP σ p.2 o
  | [], _, p, hp => by cases hp
  | q :: l, h, p, hp => by
    have h' : (cond (isGl q.2) (Nat.blt q.1 n0) true = true ∧ match sg σ q.1 with
      | none => True
      | some j => match H.get j with
        | none => False
        | some o => omP σ q.2 o) ∧ hP n0 σ H l := h
    rcases List.mem_cons.1 hp with rfl | hp
    · refine ⟨h'.1.1, fun j hj => ?_⟩
      have h2 := h'.1.2
      rw [hj] at h2
      simp only at h2
      split at h2
      · exact h2.elim
      · rename_i o ho; exact ⟨o, ho, h2⟩
    · exact hP_mem h'.2 p hp

theorem sg_mem : ∀ {σ : List (Nat × Nat)} {i j : Nat}, sg σ i = some j → (i, j) ∈ σ
  | [], i, j, h => by cases h
  | p :: σ, i, j, h => by
    have h' : cond (Nat.beq p.1 i) (some p.2) (sg σ i) = some j := h
    cases hb : Nat.beq p.1 i with
    | true =>
      rw [hb] at h'; rw [Nat.beq_eq] at hb
      injection h' with h'; subst hb; subst h'
      exact List.mem_cons_self ..
    | false => rw [hb] at h'; exact List.mem_cons_of_mem _ (sg_mem h')

theorem nod_inj : ∀ {l : List (Nat × Nat)}, nod (l.map (·.2)) = true → ∀ p ∈ l, ∀ q ∈ l, p.2 = q.2 → p = q
  | [], _, p, hp, _, _, _ => by cases hp
  | a :: l, h, p, hp, q, hq, e => by
    have h' : cond ((l.map (·.2)).any (Nat.beq a.2)) false (nod (l.map (·.2))) = true := h
    cases ha : (l.map (·.2)).any (Nat.beq a.2) with
    | true => rw [ha] at h'; cases h'
    | false =>
      rw [ha, cond_false] at h'
      have hno : ∀ r ∈ l, r.2 ≠ a.2 := fun r hr e => by
        have : (l.map (·.2)).any (Nat.beq a.2) = true := List.any_eq_true.2 ⟨r.2, List.mem_map.2 ⟨r, hr, rfl⟩, by rw [Nat.beq_eq]; exact e.symm⟩
        rw [ha] at this; cases this
      rcases List.mem_cons.1 hp with h1 | h1 <;> rcases List.mem_cons.1 hq with h2 | h2
      · rw [h1, h2]
      · rw [h1] at e; exact absurd e.symm (hno q h2)
      · rw [h2] at e; exact absurd e (hno p h1)
      · exact nod_inj h' p h1 q h2 e

/-- What is kept of the numbering, below n0. -/
structure Keep (n0 : Nat) (ρ ρ' : Ren) : Prop where
  lo : ∀ i, i < n0 → ρ' i = ρ i
  st : ∀ b o, ρ.st b = some o → ρ'.st b = some o
theorem Keep.refl (n0 : Nat) (ρ : Ren) : Keep n0 ρ ρ := ⟨fun _ _ => rfl, fun _ _ h => h⟩
theorem Keep.trans {n0 : Nat} {a b c : Ren} (h : Keep n0 a b) (k : Keep n0 b c) : Keep n0 a c :=
  ⟨fun i hi => (k.lo i hi).trans (h.lo i hi), fun b o hb => k.st b o (h.st b o hb)⟩
theorem Keep.of_rx {n0 n n' : Nat} {ρ ρ' : Ren} (h : RX n n' ρ ρ') (hn : n0 ≤ n) : Keep n0 ρ ρ' :=
  ⟨fun i hi => h.lo i (Nat.lt_of_lt_of_le hi hn), h.le.st⟩

noncomputable def renS (σ : List (Nat × Nat)) (ρ : Ren) : Ren := ⟨fun i => (sg σ i).bind ρ.nm, ρ.st⟩
theorem renS_ok (σ : List (Nat × Nat)) (ρ : Ren) : SgOK σ ρ (renS σ ρ) := ⟨fun i j h => by show (sg σ i).bind ρ.nm = _; rw [h]; rfl, fun _ _ h => h⟩

/-- A state beside a station's: known slots, known objects. -/
noncomputable def stP (n0 N nx : Nat) (T : List (Nat × AV)) (H : List (Nat × AObj)) (s : St) : Prop :=
  match s.D, s.ro with
  | [], none => fL (subH s.H H (subT s.T T (idS n0))) fun σ => cond (Nat.beq s.N N) (cond (Nat.ble n0 nx) (sgWF n0 nx σ) false) false = true ∧ tP σ s.T T ∧ hP n0 σ s.H H
  | _, _ => False

theorem stP_rel {n0 N nx : Nat} {T : List (Nat × AV)} {H : List (Nat × AObj)} {s : St} (h : stP n0 N nx T H s) {E : Env} {F : Nat → Option Obj} {ρ : Ren} {a : Act} {w : World} {ro : Option Nat} (hs : SR E F ρ s a w ro) :
    n0 ≤ nx ∧ ∃ ρ2, Keep n0 ρ ρ2 ∧ SR E F ρ2 ⟨N, mkT T, mkH H, nx, none, []⟩ a w ro := by
  unfold stP at h
  split at h
  · rename_i hD hro
    rw [fL_eq] at h
    generalize (subH s.H H (subT s.T T (idS n0))) = σ at h
    obtain ⟨hw, hT, hH⟩ := h
    obtain ⟨hN, hw⟩ := cond_and hw
    obtain ⟨hn0, hw⟩ := cond_and hw
    rw [Nat.beq_eq] at hN
    rw [Nat.ble_eq] at hn0
    refine ⟨hn0, ?_⟩
    unfold sgWF at hw
    obtain ⟨hw1, hw2⟩ := cond_and hw
    obtain ⟨hw2, hw3⟩ := cond_and hw2
    have hσ := renS_ok σ ρ
    have hnm : ∀ i b, renS σ ρ i = some b → ∃ j, sg σ i = some j ∧ ρ j = some b := fun i b h => by
      have h' : (sg σ i).bind ρ.nm = some b := h
      cases hsi : sg σ i with
      | none => rw [hsi] at h'; cases h'
      | some j => rw [hsi] at h'; exact ⟨j, rfl, h'⟩
    have hobj : ∀ i o b, (mkH H).get i = some o → renS σ ρ i = some b → ∃ j o', sg σ i = some j ∧ ρ j = some b ∧ s.H.get j = some o' ∧ omP σ o o' := fun i o b hi hb => by
      obtain ⟨j, h1, h2⟩ := hnm i b hb
      obtain ⟨o', h3, h4⟩ := (hP_mem hH _ (mkH_get hi)).2 j h1
      exact ⟨j, o', h1, h2, h3, h4⟩
    have r := hs.rel
    refine ⟨renS σ ρ, ⟨fun i hi => ?_, fun _ _ h => h⟩, ⟨⟨r.tape, r.os, r.output, r.fr, fun i o b hi hb => ?_, fun i o b hi hb => ?_, fun i k o o' b b' hi hk hb hb' e => ?_, fun i hi => ?_, fun g l hg => ?_, r.bs, r.st, fun i o b hi hb => ?_, r.sf⟩, fun t v ht => ?_, hs.size.trans hN, ?_, ?_⟩⟩
    · have := List.all_eq_true.1 hw1 i (List.mem_range.2 hi)
      cases hsi : sg σ i with
      | none => rw [hsi] at this; cases this
      | some j =>
        rw [hsi] at this
        have this : Nat.beq j i = true := this
        rw [Nat.beq_eq] at this; subst this
        show (sg σ j).bind ρ.nm = _
        rw [hsi]; rfl
    · obtain ⟨j, o', h1, h2, h3, h4⟩ := hobj i o b hi hb
      obtain ⟨c, h5, h6⟩ := r.ob j o' b h3 h2
      exact ⟨c, h5, om_rel hσ h4 h6⟩
    · obtain ⟨j, o', h1, h2, h3, h4⟩ := hobj i o b hi hb
      exact r.dj j o' b h3 h2
    · obtain ⟨j, p, h1, h2, h3, h4⟩ := hobj i o b hi hb
      obtain ⟨j', p', h1', h2', h3', h4'⟩ := hobj k o' b' hk hb'
      have hj := r.inj j j' p p' b b' h3 h3' h2 h2' e
      have := nod_inj hw3 _ (sg_mem h1) _ (sg_mem h1') hj
      exact congrArg Prod.fst this
    · show (sg σ i).bind ρ.nm = none
      cases hsi : sg σ i with
      | none => rfl
      | some j =>
        have h1 : Nat.blt i nx = true := List.all_eq_true.1 hw2 _ (sg_mem hsi)
        rw [Nat.blt_eq] at h1
        have hi' : nx ≤ i := hi
        omega
    · obtain ⟨h1, h2⟩ := hP_mem hH _ (mkH_get hg)
      have hlt : g < n0 := by
        have h1 : Nat.blt g n0 = true := h1
        rwa [Nat.blt_eq] at h1
      have := List.all_eq_true.1 hw1 g (List.mem_range.2 hlt)
      cases hsi : sg σ g with
      | none => rw [hsi] at this; cases this
      | some j =>
        rw [hsi] at this
        have this : Nat.beq j g = true := this
        rw [Nat.beq_eq] at this; subst this
        obtain ⟨o, h3, h4⟩ := h2 j hsi
        cases o with
        | glob l' =>
          have h4 : l' = l := h4
          subst h4; exact r.gl j l' h3
        | _ => exact h4.elim
    · obtain ⟨j, o', h1, h2, h3, h4⟩ := hobj i o b hi hb
      exact r.sd j o' b h3 h2
    · obtain ⟨b, h1, h2⟩ := tP_mem hT _ (mkT_get ht)
      obtain ⟨u, h3, h4⟩ := hs.tr _ b h1
      exact ⟨u, h3, vm_rel hσ _ _ _ h2 h4⟩
    · have hdr := hs.dr
      rw [hD] at hdr
      generalize a.defers = ds at hdr
      cases hdr; exact .nil
    · have hrr := hs.rr
      rw [hro] at hrr
      cases hrr; exact .none
  · exact h.elim
end Go.Ev
