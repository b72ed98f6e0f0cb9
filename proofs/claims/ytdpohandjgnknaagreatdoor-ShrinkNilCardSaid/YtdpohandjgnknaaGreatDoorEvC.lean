/- The evaluator, part C: operations that read at most. -/
import Derived.Test.YtdpohandjgnknaaGreatDoorEvB
import Derived.Laws.Cells
namespace Go.Ev

/-- What is known of the heap, of ids that are made. -/
def HS (ρ : Ren) (H : Tr AObj) (h : Nat → Option AObj) : Prop := ∀ i o, H.get i = some o → (∃ b, ρ i = some b) ∨ o.isGlob = true → h i = some o

theorem HS.refl (ρ : Ren) (H : Tr AObj) : HS ρ H H.get := fun _ _ h _ => h

theorem run_v {P : Program} {s : Sem Value} {w w' : World} {v : Value} (h : s.run P w = .ok v w') :
    (do pure (Next.value (← s)) : Sem Next).run P w = .ok (.value v) w' := by
  simp [h]

/-- A cell of a row that is known. -/
theorem cell_of {E : Env} {F : Nat → Option Obj} {nx : Nat} {ρ : Ren} {h : Nat → Option AObj} {w : World} (r : Rel E F nx ρ h w)
    {i : Nat} {b : Blk} {el n : Nat} {c : Tr AV} {z : List AV} {op : Bool} (hi : h i = some (.cells el c z n op)) (hb : ρ i = some b)
    {k : Nat} {a : AV} (hk : k < n) (ha : cellOf c z k = some a) : ∃ v, w.cell? ⟨b.b, b.ob + k, none⟩ = some v ∧ VR ρ a v := by
  obtain ⟨o, ho, hor⟩ := r.ob i _ b hi hb
  cases hor with
  | cells elem c z n op cs fz hsize hn hop hfz hc =>
    obtain ⟨v, hv, hr⟩ := hc k a hk ha
    exact ⟨v, by simp [World.cell?, ho, hv], hr⟩

def isAggD : TypeDesc → Bool
  | .struct _ => true
  | .array _ _ => true
  | _ => false
theorem run_isAgg {P : Program} {t : TypeId} {d : TypeDesc} (h : P.underlying t = some d) (w : World) : (isAgg t).run P w = .ok (isAggD d) w := by
  cases d <;> simp [isAgg, run_underlying h, isAggD]

theorem info_of_underlying {P : Program} {t : TypeId} {d : TypeDesc} (h : P.underlying t = some d) : ∃ i, P.info? t = some i := by
  unfold Program.underlying at h
  split at h
  · exact ⟨_, by assumption⟩
  · exact ⟨_, by assumption⟩
  · cases h
theorem run_sizeOf' {P : Program} {t : TypeId} {d : TypeDesc} (h : P.underlying t = some d) (w : World) : (sizeOf t).run P w = .ok (P.cellsOf t) w := by
  obtain ⟨i, hi⟩ := info_of_underlying h
  exact run_sizeOf w hi

/-- Cells, one behind the other. -/
noncomputable def readL (c : Tr AV) (z : List AV) (cnt : Nat) : Nat → Option (List AV) :=
  Nat.rec (motive := fun _ => Nat → Option (List AV)) (fun _ => some [])
    (fun _ ih k => ob (cellOf c z k) fun a => ob (fN (k + 1) ih) fun l => some (a :: l)) cnt
theorem readL_spec (c : Tr AV) (z : List AV) : ∀ (cnt k : Nat) (l : List AV), readL c z cnt k = some l →
    l.length = cnt ∧ ∀ j a, l[j]? = some a → cellOf c z (k + j) = some a
  | 0, k, l, h => by injection h with h; subst h; simp
  | cnt + 1, k, l, h => by
    obtain ⟨a, ha, h⟩ := ob_some.1 (show ob (cellOf c z k) (fun a => ob (fN (k + 1) (readL c z cnt)) fun l => some (a :: l)) = some l from h)
    obtain ⟨l', hl, h⟩ := ob_some.1 h
    rw [fN_eq] at hl
    injection h with h; subst h
    obtain ⟨h1, h2⟩ := readL_spec c z cnt (k + 1) l' hl
    refine ⟨by simp [h1], fun j b hb => ?_⟩
    cases j with
    | zero => simp at hb; subst hb; exact ha
    | succ j =>
      have := h2 j b (by simpa using hb)
      rwa [show k + 1 + j = k + (j + 1) by omega] at this

theorem VRL.of_get {ρ : Ren} : ∀ {l : List AV} (f : Nat → Value → Prop), (∀ j a, l[j]? = some a → ∃ v, f j v ∧ VR ρ a v) →
    ∃ vs, VRL ρ l vs ∧ ∀ j v, vs[j]? = some v → f j v
  | [], f, _ => ⟨[], .nil, by simp⟩
  | a :: l, f, h => by
    obtain ⟨v, hv, hr⟩ := h 0 a rfl
    obtain ⟨vs, h1, h2⟩ := VRL.of_get (l := l) (fun j => f (j + 1)) fun j b hb => h (j + 1) b (by simpa using hb)
    refine ⟨v :: vs, .cons _ _ _ _ hr h1, fun j u hu => ?_⟩
    cases j with
    | zero => simp at hu; subst hu; exact hv
    | succ j => exact h2 j u (by simpa using hu)

theorem addr_add (b o k : Nat) : (⟨b, o, none⟩ : Addr).add k = ⟨b, o + k, none⟩ := by
  unfold Addr.add; split
  · subst_vars; rfl
  · rfl

noncomputable def evCells (H : Tr AObj) (id off cnt : Nat) : Option (List AV) :=
  ob (H.get id) fun o => match o with
    | .cells _ c z n _ => gd (Nat.ble (off + cnt) n) (readL c z cnt off)
    | _ => none

theorem evCells_sound {E : Env} {F : Nat → Option Obj} {nx : Nat} {ρ : Ren} {h : Nat → Option AObj} {w : World} {H : Tr AObj} (r : Rel E F nx ρ h w) (hs : HS ρ H h)
    {id off cnt : Nat} {l : List AV} {b : Blk} (hb : ρ id = some b) (hev : evCells H id off cnt = some l) :
    ∃ vs, VRL ρ l vs ∧ vs.length = cnt ∧ ∀ j v, vs[j]? = some v → w.cell? (Addr.add ⟨b.b, b.ob + off, none⟩ j) = some v := by
  obtain ⟨o, ho, hev⟩ := ob_some.1 hev
  have hi := hs id o ho (.inl ⟨b, hb⟩)
  split at hev
  · obtain ⟨hle, hev⟩ := gd_some.1 hev
    rw [Nat.ble_eq] at hle
    obtain ⟨h1, h2⟩ := readL_spec _ _ _ _ _ hev
    obtain ⟨vs, hv1, hv2⟩ := VRL.of_get (ρ := ρ) (l := l) (fun j v => w.cell? ⟨b.b, b.ob + (off + j), none⟩ = some v) fun j a ha => by
      have hj : j < l.length := (List.getElem?_eq_some_iff.1 ha).1
      exact cell_of r hi hb (by omega) (h2 j a ha)
    refine ⟨vs, hv1, by rw [← hv1.length, h1], fun j v hj => ?_⟩
    rw [addr_add, Nat.add_assoc]; exact hv2 j v hj
  · cases hev

noncomputable def evCell (H : Tr AObj) (id off : Nat) : Option AV :=
  ob (H.get id) fun o => match o with
    | .cells _ c z n _ => gd (Nat.blt off n) (cellOf c z off)
    | _ => none
theorem evCell_sound {E : Env} {F : Nat → Option Obj} {nx : Nat} {ρ : Ren} {h : Nat → Option AObj} {w : World} {H : Tr AObj} (r : Rel E F nx ρ h w) (hs : HS ρ H h)
    {id off : Nat} {a : AV} {b : Blk} (hb : ρ id = some b) (hev : evCell H id off = some a) : ∃ v, w.cell? ⟨b.b, b.ob + off, none⟩ = some v ∧ VR ρ a v := by
  obtain ⟨o, ho, hev⟩ := ob_some.1 hev
  have hi := hs id o ho (.inl ⟨b, hb⟩)
  split at hev
  · obtain ⟨hlt, hev⟩ := gd_some.1 hev
    rw [Nat.blt_eq] at hlt
    exact cell_of r hi hb hlt hev
  · cases hev

/-- A cell of a package-level table. -/
noncomputable def evGlob (H : Tr AObj) (g off : Nat) : Option AV :=
  ob (H.get g) fun o => match o with
    | .glob l => l[off]?
    | _ => none
theorem evGlob_sound {E : Env} {F : Nat → Option Obj} {nx : Nat} {ρ : Ren} {h : Nat → Option AObj} {w : World} {H : Tr AObj} (r : Rel E F nx ρ h w) (hs : HS ρ H h)
    {g off : Nat} {a : AV} (hev : evGlob H g off = some a) : ∃ v, w.cell? ⟨g, off, none⟩ = some v ∧ VR ρ a v := by
  obtain ⟨o, ho, hev⟩ := ob_some.1 hev
  split at hev
  · have hi := hs g _ ho (.inr rfl)
    obtain ⟨cs, e, fz, h1, h2⟩ := r.gl g _ hi
    obtain ⟨v, hv, hr⟩ := (h2 ρ).get off a hev
    have := r.fr g _ (r.bs g _ h1)
    refine ⟨v, ?_, hr⟩
    simp only [Array.getElem?_toList] at hv
    simp [World.cell?, this, hv]
  · cases hev

noncomputable def evLoad (P : Program) (H : Tr AObj) (t : TypeId) (x : AV) : Option AV :=
  match x with
  | .ptr id off => ob (P.underlying t) fun d => cond (isAggD d) (ob (evCells H id off (P.cellsOf t)) fun l => some (.agg l)) (evCell H id off)
  | .gptr g off => ob (P.underlying t) fun d => gd (!isAggD d) (evGlob H g off)
  | _ => none
theorem evLoad_sound {P : Program} {E : Env} {F : Nat → Option Obj} {nx : Nat} {ρ : Ren} {h : Nat → Option AObj} {w : World} {H : Tr AObj} (r : Rel E F nx ρ h w) (hs : HS ρ H h)
    {t : TypeId} {x a : AV} {u : Value} (hx : VR ρ x u) (hev : evLoad P H t x = some a) : ∃ v, (Instr.loadAt t u).run P w = .ok v w ∧ VR ρ a v := by
  unfold evLoad at hev
  split at hev
  · rename_i id off
    cases hx with
    | ptr id off b hb =>
      obtain ⟨d, hd, hev⟩ := ob_some.1 hev
      cases hag : isAggD d with
      | true =>
        rw [hag, cond_true] at hev
        obtain ⟨l, hl, hev⟩ := ob_some.1 hev
        injection hev with hev; subst hev
        obtain ⟨vs, h1, h2, h3⟩ := evCells_sound r hs hb hl
        refine ⟨.agg vs.toArray, ?_, .agg _ _ h1⟩
        have hld := run_loadCells_list (P := P) w ⟨b.b, b.ob + off, none⟩ vs h3
        rw [h2] at hld
        simp [Instr.loadAt, Instr.sureAddr, loadVar, run_isAgg hd, hag, run_sizeOf' hd, hld]
      | false =>
        rw [hag, cond_false] at hev
        obtain ⟨v, hv, hr⟩ := evCell_sound r hs hb hev
        exact ⟨v, by simp [Instr.loadAt, Instr.sureAddr, loadVar, run_isAgg hd, hag, hv], hr⟩
  · rename_i g off
    cases hx with
    | gptr g off =>
      obtain ⟨d, hd, hev⟩ := ob_some.1 hev
      obtain ⟨hag, hev⟩ := gd_some.1 hev
      obtain ⟨v, hv, hr⟩ := evGlob_sound r hs hev
      have hag' : isAggD d = false := by simpa using hag
      exact ⟨v, by simp [Instr.loadAt, Instr.sureAddr, loadVar, run_isAgg hd, hag', hv], hr⟩
  · cases hev

/-! ### types' parts -/
noncomputable def evPart (P : Program) (t : TypeId) (cs : List AV) (off : Nat) : Option AV :=
  ob (P.underlying t) fun d => cond (isAggD d) (some (.agg ((cs.drop off).take (P.cellsOf t)))) (cs[off]?)
theorem evPart_sound {P : Program} {ρ : Ren} {t : TypeId} {cs : List AV} {off : Nat} {a : AV} {vs : List Value} (hc : VRL ρ cs vs) (hev : evPart P t cs off = some a) (w : World) :
    ∃ v, (part t vs.toArray off).run P w = .ok v w ∧ VR ρ a v := by
  obtain ⟨d, hd, hev⟩ := ob_some.1 hev
  cases hag : isAggD d with
  | true =>
    rw [hag, cond_true] at hev
    injection hev with hev; subst hev
    refine ⟨.agg ((vs.drop off).take (P.cellsOf t)).toArray, ?_, .agg _ _ ((hc.drop off).take _)⟩
    simp [part, run_isAgg hd, hag, run_sizeOf' hd]
  | false =>
    rw [hag, cond_false] at hev
    obtain ⟨v, hv, hr⟩ := hc.get off a hev
    exact ⟨v, by simp [part, run_isAgg hd, hag, hv], hr⟩

/-! ### what equals what -/
noncomputable def evEqF (P : Program) (eq : TypeId → AV → AV → Option Bool) (xs ys : List AV) (fs : List Field) : Option Bool :=
  List.rec (motive := fun _ => Option Bool) (some true)
    (fun f _ ih => cond (decide (f.name = "_")) ih (ob (evPart P f.type xs f.offset) fun a => ob (evPart P f.type ys f.offset) fun b => ob (eq f.type a b) fun r => cond r ih (some false))) fs

noncomputable def evEq (P : Program) (f : Nat) : TypeId → AV → AV → Option Bool :=
  Nat.rec (motive := fun _ => TypeId → AV → AV → Option Bool) (fun _ _ _ => none)
    (fun _ ih t x y => ob (P.underlying t) fun d =>
      match d, x, y with
      | .bool, .bool a, .bool b => some (cond a b (!b))
      | .int _, .int k a, .int k' b => gd (ikEq k k') (some (ieq a b))
      | .string, .str l n, .str l' n' => some (cond (Nat.beq l l') (Nat.beq n n') false)
      | .pointer _, .ptr0, .ptr0 => some true
      | .pointer _, .ptr0, .ptr _ _ => some false
      | .pointer _, .ptr _ _, .ptr0 => some false
      | .pointer e, .ptr i o, .ptr j p => gd (Nat.beq i j) (ob (P.underlying e) fun _ => gd (!Nat.beq (P.cellsOf e) 0) (some (Nat.beq o p)))
      | .interface _, .iface0, .iface0 => some true
      | .interface _, .iface0, .iface _ _ => some false
      | .interface _, .iface _ _, .iface0 => some false
      | .interface _, .iface tx vx, .iface ty vy => cond (Nat.beq tx ty) (ob (P.info? tx) fun i => gd i.comparable (ih tx vx vy)) (some false)
      | .slice _, .sl0, .sl0 => some true
      | .slice _, .sl0, .sl _ _ _ _ => some false
      | .slice _, .sl0, .slo _ _ _ _ => some false
      | .slice _, .sl _ _ _ _, .sl0 => some false
      | .slice _, .slo _ _ _ _, .sl0 => some false
      | .slice _, .sl0, .sle _ => some false
      | .slice _, .sle _, .sl0 => some false
      | .map _ _, .map0, .map0 => some true
      | .map _ _, .map0, .map _ => some false
      | .map _ _, .map _, .map0 => some false
      | .func _ _ _, .fn0, .fn0 => some true
      | .func _ _ _, .fn0, .fn _ _ _ => some false
      | .func _ _ _, .fn _ _ _, .fn0 => some false
      | .struct fs, .agg xs, .agg ys => gd (!P.stoodInHeld t) (evEqF P ih xs ys fs.toList)
      | _, _, _ => none) f

theorem bstr_beq {l n l' n' : Nat} (h : n < 256 ^ l) (h' : n' < 256 ^ l') :
    ((bstr l n).toList == (bstr l' n').toList) = cond (Nat.beq l l') (Nat.beq n n') false := by
  rw [bstr_toList, bstr_toList, Bool.eq_iff_iff, beq_iff_eq]
  constructor
  · intro he
    have hl : l = l' := by have := congrArg List.length he; rwa [bytesL_length, bytesL_length] at this
    subst hl
    have hn := bytesL_inj l n n' h h' he
    subst hn
    simp
  · intro he
    cases hl : Nat.beq l l' with
    | false => rw [hl] at he; cases he
    | true =>
      rw [hl, cond_true, Nat.beq_eq] at he
      rw [Nat.beq_eq] at hl
      rw [hl, he]

theorem eqFields_sound {P : Program} {ρ : Ren} {eq : TypeId → AV → AV → Option Bool} {D : Nat} {w : World}
    (hq : ∀ t x y b u v, eq t x y = some b → VR ρ x u → VR ρ y v → (Op.equalIn D t u v).run P w = .ok b w)
    {xs ys : List AV} {us vs : List Value} (hx : VRL ρ xs us) (hy : VRL ρ ys vs) : ∀ (fs : List Field) (b : Bool),
    evEqF P eq xs ys fs = some b → (Op.eqFields D us.toArray vs.toArray fs).run P w = .ok b w := by
  intro fs
  induction fs with
  | nil => intro b h; injection h with h; subst h; simp [Op.eqFields]
  | cons f fs ih =>
    intro b h
    have h' : cond (decide (f.name = "_")) (evEqF P eq xs ys fs) (ob (evPart P f.type xs f.offset) fun a => ob (evPart P f.type ys f.offset) fun b => ob (eq f.type a b) fun r => cond r (evEqF P eq xs ys fs) (some false)) = some b := h
    by_cases hn : f.name = "_"
    · rw [decide_eq_true hn, cond_true] at h'
      simp [Op.eqFields, hn, ih b h']
    · rw [decide_eq_false hn, cond_false] at h'
      obtain ⟨a, ha, h'⟩ := ob_some.1 h'
      obtain ⟨c, hc, h'⟩ := ob_some.1 h'
      obtain ⟨r, hr, h'⟩ := ob_some.1 h'
      obtain ⟨va, ha1, ha2⟩ := evPart_sound hx ha w
      obtain ⟨vc, hc1, hc2⟩ := evPart_sound hy hc w
      have he := hq _ _ _ _ _ _ hr ha2 hc2
      cases r with
      | true => simp [Op.eqFields, hn, ha1, hc1, he, ih b h']
      | false => injection h' with h'; subst h'; simp [Op.eqFields, hn, ha1, hc1, he]

theorem fieldsOf_eq {P : Program} {t : TypeId} {fs : Array Field} (h : P.underlying t = some (.struct fs)) : P.fieldsOf t = fs := by
  simp [Program.fieldsOf, h]

set_option maxHeartbeats 1000000 in
theorem evEq_sound {P : Program} {ρ : Ren} {w : World} : ∀ (f D : Nat), f ≤ D → ∀ (t : TypeId) (x y : AV) (b : Bool) (u v : Value), evEq P f t x y = some b →
    VR ρ x u → VR ρ y v → (Op.equalIn D t u v).run P w = .ok b w := by
  intro f
  induction f with
  | zero => intro D _ t x y b u v h; cases h
  | succ f ih =>
    intro D hD t x y b u v h hx hy
    cases D with
    | zero => omega
    | succ D =>
      have h0 := ob_some.1 h
      clear h
      obtain ⟨d, hd, h⟩ := h0
      have ihD := ih D (by omega)
      split at h
      · injection h with h; subst h; cases hx; cases hy
        rename_i a b
        simp [Op.equalIn, run_underlying hd]; cases a <;> cases b <;> rfl
      · obtain ⟨hk, h⟩ := gd_some.1 h
        injection h with h; subst h; cases hx; cases hy
        have := ikEq_eq hk; subst this
        simp [Op.equalIn, run_underlying hd, ieq_eq]
      · injection h with h; subst h; cases hx; cases hy
        rename_i h1 h2
        rw [← bstr_beq h1 h2]
        simp [Op.equalIn, run_underlying hd, beq_toListBytes]
      · injection h with h; subst h; cases hx; cases hy
        simp [Op.equalIn, run_underlying hd]
      · injection h with h; subst h; cases hx; cases hy
        simp [Op.equalIn, run_underlying hd]
      · injection h with h; subst h; cases hx; cases hy
        simp [Op.equalIn, run_underlying hd]
      · rename_i e i o j p
        obtain ⟨hij, h⟩ := gd_some.1 h
        obtain ⟨de, hde, h⟩ := ob_some.1 h
        obtain ⟨hz, h⟩ := gd_some.1 h
        injection h with h; subst h
        rw [Nat.beq_eq] at hij; subst hij
        cases hx with
        | ptr _ _ b1 hb1 => cases hy with
          | ptr _ _ b2 hb2 =>
            rw [hb1] at hb2; cases hb2
            have hz' : P.cellsOf e ≠ 0 := fun hh => by rw [hh] at hz; simp at hz
            have hbeq : ((⟨b1.b, b1.ob + o, none⟩ : Addr) == ⟨b1.b, b1.ob + p, none⟩) = Nat.beq o p := by
              rw [Bool.eq_iff_iff, Nat.beq_eq]; simp
            simp [Op.equalIn, run_underlying hd, run_sizeOf' hde, hz', sameAddr, hbeq]
      · injection h with h; subst h; cases hx; cases hy
        simp [Op.equalIn, run_underlying hd]
      · injection h with h; subst h; cases hx; cases hy
        simp [Op.equalIn, run_underlying hd]
      · injection h with h; subst h; cases hx; cases hy
        simp [Op.equalIn, run_underlying hd]
      · rename_i tx vx ty vy
        cases hx with
        | iface _ _ ux hux => cases hy with
          | iface _ _ uy huy =>
            cases ht : Nat.beq tx ty with
            | false =>
              rw [ht, cond_false] at h
              injection h with h; subst h
              have : tx ≠ ty := fun hh => by rw [← Nat.beq_eq, ht] at hh; cases hh
              simp [Op.equalIn, run_underlying hd, this]
            | true =>
              rw [ht, cond_true] at h
              rw [Nat.beq_eq] at ht; subst ht
              obtain ⟨i, hi, h⟩ := ob_some.1 h
              obtain ⟨hc, h⟩ := gd_some.1 h
              have := ihD _ _ _ _ _ _ h hux huy
              simp [Op.equalIn, run_underlying hd, run_typeInfo w hi, hc, this]
      all_goals first
        | (injection h with h; subst h; cases hx; cases hy; simp [Op.equalIn, run_underlying hd]; done)
        | skip
      · obtain ⟨hs, h⟩ := gd_some.1 h
        cases hx with
        | agg _ us hus => cases hy with
          | agg _ vs hvs =>
            have hfs := fieldsOf_eq hd
            have hst : P.stoodInHeld t = false := by simpa using hs
            rw [run_equalIn_struct w D t us.toArray vs.toArray (by rw [hfs]; exact hd) hst, hfs]
            exact eqFields_sound (fun t x y b u v h1 h2 h3 => ihD t x y b u v h1 h2 h3) hus hvs _ _ h
      · cases h

end Go.Ev
