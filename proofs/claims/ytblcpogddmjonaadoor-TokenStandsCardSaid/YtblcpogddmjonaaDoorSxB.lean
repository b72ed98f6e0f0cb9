/- The symbolic layer, part B: memory that is read, by content. -/
import Derived.Test.YtblcpogddmjonaaDoorSxA
set_option linter.unusedVariables false
set_option linter.unusedSimpArgs false
namespace Go.Ev

/-- The elements of a slice that is known by content: cells of each, how many, which. -/
def elemsA (a : AV) : Option (Nat × Nat × (Nat → List AV)) :=
  match a with
  | .bv l => some (1, l.length, fun i => [.int .u8 ((l.getD i 0).toNat : Int)])
  | .vec esz n f => some (esz, n, f)
  | _ => none

/-- What is known of such a slice. -/
theorem elems_slice {ρ : Ren} {a : AV} {u : Value} (hx : VR ρ a u) {esz n : Nat} {f : Nat → List AV} (h : elemsA a = some (esz, n, f)) :
    (∃ base cap, u = .slice base n cap ∧ n ≤ cap) ∧ ∀ i, i < n → ∃ b o cap cs el fz vs, u = .slice (some ⟨b, o, none⟩) n cap ∧ ρ.st b = some (.cells cs el fz) ∧ VRL ρ (f i) vs ∧ ∀ j v, vs[j]? = some v → cs[o + i * esz + j]? = some v := by
  cases hx <;> first | (cases h; done) | skip
  case bv l b o cap cs el fz hs hcap hc =>
    injection h with h; injection h with h1 h2; injection h2 with h2 h3; subst h1; subst h2; subst h3
    refine ⟨⟨_, _, rfl, hcap⟩, fun i hi => ⟨b, o, cap, cs, el, fz, [.int .u8 ((l.getD i 0).toNat : Int)], rfl, hs, .cons _ _ _ _ (.int _ _) .nil, fun j v hj => ?_⟩⟩
    match j with
    | 0 =>
      injection hj with hj; subst hj
      have := hc i hi
      simpa using this
    | _ + 1 => simp at hj
  case bvz l hl base cap =>
    injection h with h; injection h with h1 h2; injection h2 with h2 h3; subst h2; subst hl
    exact ⟨⟨base, cap, rfl, Nat.zero_le _⟩, fun i hi => by simp at hi⟩
  case vec b o cap cs el fz g hs he hcap hv hc =>
    injection h with h; injection h with h1 h2; injection h2 with h2 h3; subst h1; subst h2; subst h3
    exact ⟨⟨_, _, rfl, hcap⟩, fun i hi => ⟨b, o, cap, cs, el, fz, g i, rfl, hs, hv i hi, hc i hi⟩⟩
  case vecz hn base cap =>
    injection h with h; injection h with h1 h2; injection h2 with h2 h3; subst h2; subst hn
    exact ⟨⟨base, cap, rfl, Nat.zero_le _⟩, fun i hi => by omega⟩

theorem st_cell {E : Env} {F : Nat → Option Obj} {nx : Nat} {ρ : Ren} {h : Nat → Option AObj} {w : World} (r : Rel E F nx ρ h w) {b : Nat} {cs : Array Value} {el : Nat} {fz : Nat × Nat} (hs : ρ.st b = some (.cells cs el fz))
    {k : Nat} {v : Value} (hk : cs[k]? = some v) : w.cell? ⟨b, k, none⟩ = some v := by
  have := r.st _ _ hs
  simp [World.cell?, this, hk]

/-! ### lengths, elements -/
noncomputable def sLen (P : Program) (t : TypeId) (x : AV) : SV :=
  ob (P.underlying t) fun d => match d, x with
    | .string, .bs l => some (true, natI l.length)
    | .slice _, .bv l => some (true, natI l.length)
    | .slice _, .vec _ n _ => some (true, natI n)
    | .slice _, .slg _ n _ => some (true, natI n)
    | _, _ => none
theorem sLen_sound {P : Program} {ρ : Ren} {w : World} {t : TypeId} {x a : AV} {u : Value} (hx : VR ρ x u) (hev : sLen P t x = some (true, a)) (ts us : Array _) (ty : TypeId) (ht : ts[0]? = some t) (hu : us[0]? = some u) :
    ∃ z, (Builtin.len_ ts ty us).run P w = .ok z w ∧ VR ρ a z := by
  obtain ⟨d, hd, h1⟩ := ob_some.1 hev
  clear hev
  split at h1
  · injection h1 with h1; injection h1 with _ h1; subst h1; cases hx
    exact ⟨_, by simp [Builtin.len_, ht, hu, run_underlying hd, goInt]; rfl, .int _ _⟩
  · injection h1 with h1; injection h1 with _ h1; subst h1
    obtain ⟨⟨base, cap, rfl, _⟩, _⟩ := elems_slice hx rfl
    exact ⟨_, by simp [Builtin.len_, ht, hu, run_underlying hd, goInt], .int _ _⟩
  · injection h1 with h1; injection h1 with _ h1; subst h1
    obtain ⟨⟨base, cap, rfl, _⟩, _⟩ := elems_slice hx rfl
    exact ⟨_, by simp [Builtin.len_, ht, hu, run_underlying hd, goInt], .int _ _⟩
  · injection h1 with h1; injection h1 with _ h1; subst h1
    cases hx with
    | slg => exact ⟨_, by simp [Builtin.len_, ht, hu, run_underlying hd, goInt], .int _ _⟩
    | slg0 _ _ _ hn => subst hn; exact ⟨_, by simp [Builtin.len_, ht, hu, run_underlying hd, goInt], .int _ _⟩
  · cases h1

/-- A text's byte. -/
noncomputable def sIndex (P : Program) (t : TypeId) (x ix : AV) : SV :=
  match ix with
  | .int _ n => ob (P.underlying t) fun d => match d with
    | .string => ob (strL x) fun l => some (inB n l.length, .int .u8 ((l.getD n.toNat 0).toNat : Int))
    | _ => none
  | _ => none
theorem sIndex_sound {P : Program} {ρ : Ren} {t : TypeId} {x ix r : AV} {u v : Value} (hx : VR ρ x u) (hi : VR ρ ix v) (h : sIndex P t x ix = some (true, r)) (w : World) :
    ∃ z, (Instr.index t u v).run P w = .ok z w ∧ VR ρ r z := by
  unfold sIndex at h
  split at h
  · rename_i k n
    cases hi
    obtain ⟨d, hd, h1⟩ := ob_some.1 h
    clear h
    split at h1
    · obtain ⟨l, hl, h2⟩ := ob_some.1 h1
      injection h2 with h2; injection h2 with h2 h3; subst h3
      simp only [inB, decide_eq_true_eq] at h2
      rw [strL_val hx hl]
      refine ⟨_, ?_, .int _ _⟩
      have hlt : n.toNat < l.length := by omega
      have hg : (ByteArray.mk l.toArray)[n.toNat]? = some (l.getD n.toNat 0) := by
        have e1 : (ByteArray.mk l.toArray).size = l.length := by show l.toArray.size = _; simp
        rw [getElem?_pos (ByteArray.mk l.toArray) n.toNat (by rw [e1]; exact hlt)]
        simp only [List.getD, List.getElem?_eq_getElem hlt, Option.getD_some]
        rfl
      simp [Instr.index, asIntOf, run_underlying hd, h2.1, hg]
    · cases h1
  · cases h

noncomputable def sIndexAddr (P : Program) (t : TypeId) (x ix : AV) : SV :=
  match ix with
  | .int _ n => ob (P.underlying t) fun d => match d with
    | .slice e => ob (P.underlying e) fun _ => match x with
      | .slg id len esz => gd (Nat.beq (P.cellsOf e) esz) (some (inB n len, .pel id esz n.toNat 0))
      | x => ob (elemsA x) fun p => gd (Nat.beq (P.cellsOf e) p.1) (some (inB n p.2.1, .pv (p.2.2 n.toNat)))
    | _ => none
  | _ => none
theorem sIndexAddr_sound {P : Program} {ρ : Ren} {t : TypeId} {x ix r : AV} {u v : Value} (hx : VR ρ x u) (hi : VR ρ ix v) (h : sIndexAddr P t x ix = some (true, r)) (w : World) :
    ∃ z, (Instr.indexAt t u v).run P w = .ok z w ∧ VR ρ r z := by
  unfold sIndexAddr at h
  split at h
  · rename_i k n
    cases hi
    obtain ⟨d, hd, h1⟩ := ob_some.1 h
    clear h
    split at h1
    · obtain ⟨de, hde, h2⟩ := ob_some.1 h1
      clear h1
      split at h2
      · obtain ⟨hz, h3⟩ := gd_some.1 h2
        injection h3 with h3; injection h3 with h3 h4; subst h4
        simp only [inB, decide_eq_true_eq] at h3
        rw [Nat.beq_eq] at hz; subst hz
        cases hx with
        | slg id _ _ b hb he hl =>
          refine ⟨_, ?_, .pel _ _ _ _ b hb⟩
          simp [Instr.indexAt, asIntOf, run_underlying hd, run_sizeOf' hde, h3, addr_add]
        | slg0 _ _ _ hn => omega
      · obtain ⟨⟨esz, len, f⟩, hp, h3⟩ := ob_some.1 h2
        obtain ⟨hz, h4⟩ := gd_some.1 h3
        injection h4 with h4; injection h4 with h4 h5; subst h5
        simp only [inB, decide_eq_true_eq] at h4
        rw [Nat.beq_eq] at hz
        simp only at hz
        subst hz
        obtain ⟨b, o, cap, cs, el, fz, vs, rfl, hs, hv, hc⟩ := (elems_slice hx hp).2 n.toNat (by omega)
        refine ⟨_, ?_, .pv _ vs b (o + n.toNat * P.cellsOf _) cs el fz hs hv hc⟩
        simp [Instr.indexAt, asIntOf, run_underlying hd, run_sizeOf' hde, h4, addr_add]
    · cases h1
  · cases h

/-! ### loads -/
noncomputable def sPart (P : Program) (t : TypeId) (cs : List AV) : SV :=
  ob (P.underlying t) fun d => cond (isAggD d) (some (Nat.ble (P.cellsOf t) cs.length, .agg (cs.take (P.cellsOf t)))) (ob cs.head? fun a => some (true, a))

noncomputable def sLoad (P : Program) (H : Tr AObj) (t : TypeId) (x : AV) : SV :=
  match x with
  | .pv cs => sPart P t cs
  | .pel id esz i j => ob (H.get id) fun o => match o with
    | .cells _ c z N _ => match c, z with
      | .leaf, .rows esz' f => gd (Nat.beq esz esz') (gd (Nat.ble (j + P.cellsOf t) esz && Nat.blt 0 (P.cellsOf t)) (ob (sPart P t ((f i).drop j)) fun r => some (cond (Nat.ble (i * esz + j + P.cellsOf t) N) r.1 false, r.2)))
      | _, _ => none
    | _ => none
  | _ => none

theorem sPart_sound {P : Program} {ρ : Ren} {t : TypeId} {cs : List AV} {a : AV} {vs : List Value} {w : World} {ad : Addr} (hv : VRL ρ cs vs) (hc : ∀ j v, j < P.cellsOf t ∨ j = 0 → vs[j]? = some v → w.cell? (ad.add j) = some v)
    (h : sPart P t cs = some (true, a)) : ∃ v, (Instr.loadAt t (.pointer (some ad))).run P w = .ok v w ∧ VR ρ a v := by
  obtain ⟨d, hd, h1⟩ := ob_some.1 h
  cases hag : isAggD d with
  | true =>
    rw [hag, cond_true] at h1
    injection h1 with h1; injection h1 with h1 h2; subst h2
    rw [Nat.ble_eq] at h1
    have hlen := hv.length
    refine ⟨.agg (vs.take (P.cellsOf t)).toArray, ?_, .agg _ _ (hv.take _)⟩
    have hld := run_loadCells_list (P := P) (w := w) ad (vs.take (P.cellsOf t)) (fun j v hj => by
      rw [List.getElem?_take] at hj
      split at hj
      · exact hc j v (.inl ‹_›) hj
      · cases hj)
    rw [show (vs.take (P.cellsOf t)).length = P.cellsOf t by simp; omega] at hld
    simp [Instr.loadAt, Instr.sureAddr, loadVar, run_isAgg hd, hag, run_sizeOf' hd, hld]
  | false =>
    rw [hag, cond_false] at h1
    obtain ⟨a', ha, h2⟩ := ob_some.1 h1
    injection h2 with h2; injection h2 with _ h2; subst h2
    cases cs with
    | nil => cases ha
    | cons c l =>
      injection ha with ha; subst ha
      cases hv with
      | cons _ v _ vs' hr hs =>
        have h0 := hc 0 v (.inr rfl) rfl
        have e : ad.add 0 = ad := by cases ad; rfl
        rw [e] at h0
        exact ⟨v, by simp [Instr.loadAt, Instr.sureAddr, loadVar, run_isAgg hd, hag, h0], hr⟩

theorem rows_at {f : Nat → List AV} {esz i j : Nat} (hj : j < esz) (k : Nat) (hk : k = i * esz + j) : CB.at (.rows esz f) k = (f i)[j]? := by
  subst hk
  show (f ((i * esz + j) / esz))[(i * esz + j) % esz]? = _
  have h1 : (i * esz + j) / esz = i := by
    rw [Nat.mul_comm, Nat.mul_add_div (by omega), Nat.div_eq_of_lt hj, Nat.add_zero]
  have h2 : (i * esz + j) % esz = j := by
    rw [Nat.mul_comm, Nat.mul_add_mod, Nat.mod_eq_of_lt hj]
  rw [h1, h2]

theorem cellOf_leaf (z : CB) (k : Nat) : cellOf .leaf z k = z.at k := by unfold cellOf; rw [Tr.get_leaf]

theorem sLoad_sound {P : Program} {E : Env} {F : Nat → Option Obj} {nx : Nat} {ρ : Ren} {h : Nat → Option AObj} {w : World} {H : Tr AObj} (r : Rel E F nx ρ h w) (hs : HS ρ H h)
    {t : TypeId} {x a : AV} {u : Value} (hx : VR ρ x u) (hev : sLoad P H t x = some (true, a)) : ∃ v, (Instr.loadAt t u).run P w = .ok v w ∧ VR ρ a v := by
  unfold sLoad at hev
  split at hev
  · cases hx with
    | pv _ vs b o cs el fz hst hv hc =>
      exact sPart_sound hv (fun j v _ hj => by rw [addr_add]; exact st_cell r hst (hc j v hj)) hev
  · rename_i id esz i j
    cases hx with
    | pel _ _ _ _ b hb =>
      obtain ⟨o, ho, h1⟩ := ob_some.1 hev
      clear hev
      split at h1
      · rename_i elem c z N op
        split at h1
        · rename_i esz' f
          obtain ⟨h2, h3⟩ := gd_some.1 h1
          obtain ⟨h4, h5⟩ := gd_some.1 h3
          obtain ⟨⟨sd, a'⟩, h6, h7⟩ := ob_some.1 h5
          injection h7 with h7; injection h7 with h7 h8; subst h8
          rw [Nat.beq_eq] at h2; subst h2
          simp only [Bool.and_eq_true, Nat.ble_eq, Nat.blt_eq] at h4
          cases hle : Nat.ble (i * esz + j + P.cellsOf t) N with
          | false => rw [hle] at h7; cases h7
          | true =>
            rw [hle, cond_true] at h7
            simp only at h7
            subst h7
            rw [Nat.ble_eq] at hle
            obtain ⟨vs, hv, hvs⟩ := VRL.of_get (l := ((f i).drop j).take (P.cellsOf t)) (ρ := ρ) (fun q v => w.cell? ⟨b.b, b.ob + (i * esz + j + q), none⟩ = some v) (fun q a hq => by
              rw [List.getElem?_take] at hq
              split at hq
              · rename_i hlt
                have hq2 : (f i)[j + q]? = some a := by rw [List.getElem?_drop] at hq; exact hq
                exact cell_of r (hs _ _ ho (.inl ⟨b, hb⟩)) hb (k := i * esz + j + q) (by omega) (by rw [cellOf_leaf, rows_at (i := i) (j := j + q) (by omega) _ (by omega)]; exact hq2)
              · cases hq)
            -- the same part, of a prefix
            have hpart : sPart P t (((f i).drop j).take (P.cellsOf t)) = some (true, a') := by
              obtain ⟨d, hd, h9⟩ := ob_some.1 h6
              refine ob_some.2 ⟨d, hd, ?_⟩
              cases hag : isAggD d with
              | true =>
                rw [hag, cond_true] at h9
                injection h9 with h9; injection h9 with h9 h10
                rw [Nat.ble_eq] at h9
                rw [cond_true]
                have e1 : Nat.ble (P.cellsOf t) (((f i).drop j).take (P.cellsOf t)).length = true := by rw [Nat.ble_eq, List.length_take]; omega
                rw [e1, List.take_take, Nat.min_self, h10]
              | false =>
                rw [hag, cond_false] at h9
                rw [cond_false]
                obtain ⟨a2, ha2, h10⟩ := ob_some.1 h9
                refine ob_some.2 ⟨a2, ?_, h10⟩
                cases hdl : (f i).drop j with
                | nil => rw [hdl] at ha2; cases ha2
                | cons c l =>
                  rw [hdl] at ha2
                  obtain ⟨m, hm⟩ : ∃ m, P.cellsOf t = m + 1 := ⟨P.cellsOf t - 1, by omega⟩
                  rw [hm]; exact ha2
            refine sPart_sound hv (fun q v _ hq => ?_) hpart
            have := hvs q v hq
            rw [addr_add, Nat.add_assoc]
            exact this
        · cases h1
      · cases h1
  · cases hev

/-! ### fields -/
noncomputable def sFieldAddr (P : Program) (t : TypeId) (x : AV) (f : Nat) : SV :=
  ob (P.underlying t) fun d => match d with
    | .struct fs => ob (fs[f]?) fun fd => ob (P.underlying fd.type) fun _ => gd (!Nat.beq (P.cellsOf fd.type) 0) (match x with
      | .pv cs => some (true, .pv (cs.drop fd.offset))
      | .pel id esz i j => fN (j + fd.offset) fun j' => some (true, .pel id esz i j')
      | _ => none)
    | _ => none
theorem sFieldAddr_sound {P : Program} {ρ : Ren} {t : TypeId} {x r : AV} {f : Nat} {u : Value} (hx : VR ρ x u) (h : sFieldAddr P t x f = some (true, r)) (w : World) :
    ∃ v, (Instr.fieldAt t u f).run P w = .ok v w ∧ VR ρ r v := by
  obtain ⟨d, hd, h1⟩ := ob_some.1 h
  clear h
  split at h1
  · obtain ⟨fd, hf, h2⟩ := ob_some.1 h1
    obtain ⟨d', hd', h3⟩ := ob_some.1 h2
    obtain ⟨hz, h4⟩ := gd_some.1 h3
    clear h1 h2 h3
    have hz' : P.cellsOf fd.type ≠ 0 := fun hh => by rw [hh] at hz; simp at hz
    split at h4
    · injection h4 with h4; injection h4 with _ h4; subst h4
      cases hx with
      | pv _ vs b o cs el fz hst hv hc =>
        refine ⟨_, ?_, .pv _ (vs.drop fd.offset) b (o + fd.offset) cs el fz hst (hv.drop _) fun j v hj => ?_⟩
        · simp [Instr.fieldAt, run_underlying hd, hf, Instr.sureAddr, fieldPlace, run_sizeOf' hd', hz', addr_add]
        · rw [List.getElem?_drop] at hj
          rw [Nat.add_assoc]; exact hc _ _ hj
    · rw [fN_eq] at h4
      injection h4 with h4; injection h4 with _ h4; subst h4
      cases hx with
      | pel _ _ _ _ b hb =>
        refine ⟨_, ?_, .pel _ _ _ _ b hb⟩
        simp [Instr.fieldAt, run_underlying hd, hf, Instr.sureAddr, fieldPlace, run_sizeOf' hd', hz', addr_add, Nat.add_assoc]
    · cases h4
  · cases h1

/-! ### parts of slices and texts -/
/-- A bound that may be missing: a side condition, and the bound. -/
noncomputable def sBd (X : Operand → Option AV) (x : Option Operand) (dflt lim : Nat) : Option (Bool × Nat) :=
  match x with
  | none => some (true, dflt)
  | some o => ob (X o) fun a => match a with
    | .int _ n => some (inL n lim, n.toNat)
    | _ => none

theorem sBd_sound {P : Program} {ρ : Ren} {X : Operand → Option AV} {f : Operand → Value} (hX : XR ρ X f) {o : Operand} {d lim i : Nat} (h : sBd X (some o) d lim = some (true, i)) (w : World)
    (y : Nat) (hy : lim ≤ y) (code : BoundsCode) : (Instr.sliceBound (f o) y code).run P w = .ok i w ∧ i ≤ lim := by
  obtain ⟨a, ha, h1⟩ := ob_some.1 (show (ob (X o) fun a => match a with
    | .int _ n => some (inL n lim, n.toNat)
    | _ => none) = some (true, i) from h)
  have hr := hX _ _ ha
  split at h1
  · rename_i k n
    injection h1 with h1; injection h1 with h1 h2; subst h2
    simp only [inL, decide_eq_true_eq] at h1
    generalize f o = v at hr
    cases hr
    have : 0 ≤ n ∧ n ≤ (y : Int) := by omega
    exact ⟨by simp [Instr.sliceBound, asIntOf, this], by omega⟩
  · cases h1

theorem sBds_sound {P : Program} {ρ : Ren} {X : Operand → Option AV} {f : Operand → Value} (hX : XR ρ X f) {lo hi : Option Operand} {len cap l h : Nat} (isS : Bool) (hlc : len ≤ cap)
    (hhi : sBd X hi len len = some (true, h)) (hlo : sBd X lo 0 h = some (true, l)) (w : World) :
    (Instr.sliceBounds isS len cap (lo.map f) (hi.map f) none).run P w = .ok (l, h, cap) w ∧ h ≤ len ∧ l ≤ h := by
  unfold Instr.sliceBounds
  cases hi with
  | none =>
    injection hhi with hhi; injection hhi with _ hhi; subst hhi
    cases lo with
    | none => injection hlo with hlo; injection hlo with _ hlo; subst hlo; exact ⟨by simp, Nat.le_refl _, Nat.zero_le _⟩
    | some o =>
      have e2 := fun c => sBd_sound (P := P) hX hlo w _ (Nat.le_refl _) c
      exact ⟨by simp [(e2 _).1], Nat.le_refl _, (e2 .sliceB).2⟩
  | some oh =>
    have e1 := fun c => sBd_sound (P := P) hX hhi w cap hlc c
    have hh := (e1 .sliceB).2
    cases lo with
    | none => injection hlo with hlo; injection hlo with _ hlo; subst hlo; exact ⟨by simp [(e1 _).1], hh, Nat.zero_le _⟩
    | some o =>
      have e2 := fun c => sBd_sound (P := P) hX hlo w _ (Nat.le_refl _) c
      exact ⟨by simp [(e1 _).1, (e2 _).1], hh, (e2 .sliceB).2⟩

def takeO {α : Type} (hi : Option Operand) (h : Nat) (l : List α) : List α := match hi with
  | none => l
  | some _ => l.take h
def dropO {α : Type} (lo : Option Operand) (k : Nat) (l : List α) : List α := match lo with
  | none => l
  | some _ => l.drop k
def subO (lo : Option Operand) (h l : Nat) : Nat := match lo with
  | none => h
  | some _ => h - l
def fromO (lo : Option Operand) (l : Nat) (f : Nat → List AV) : Nat → List AV := match lo with
  | none => f
  | some _ => fun i => f (l + i)

noncomputable def sSlice (P : Program) (X : Operand → Option AV) (t : TypeId) (x : AV) (lo hi mx : Option Operand) : SV :=
  ob (P.underlying t) fun d => gd (!mx.isSome) (match d, x with
    | .string, .bs L => ob (sBd X hi L.length L.length) fun h => ob (sBd X lo 0 h.2) fun l => some (cond h.1 l.1 false, .bs (dropO lo l.2 (takeO hi h.2 L)))
    | .slice e, .bv L => ob (P.underlying e) fun _ => gd (Nat.beq (P.cellsOf e) 1) (ob (sBd X hi L.length L.length) fun h => ob (sBd X lo 0 h.2) fun l => some (cond h.1 l.1 false, .bv (dropO lo l.2 (takeO hi h.2 L))))
    | .slice e, .vec esz n f => ob (P.underlying e) fun _ => gd (Nat.beq (P.cellsOf e) esz) (ob (sBd X hi n n) fun h => ob (sBd X lo 0 h.2) fun l => some (cond h.1 l.1 false, .vec esz (subO lo h.2 l.2) (fromO lo l.2 f)))
    | .slice e, .slg id n esz => ob (P.underlying e) fun _ => gd (Nat.beq (P.cellsOf e) esz && !lo.isSome) (ob (sBd X hi n n) fun h => some (h.1, .slg id h.2 esz))
    | _, _ => none)

theorem sBd_none {X : Operand → Option AV} {x : Option Operand} {d lim i : Nat} {s : Bool} (hx : x = none) (h : sBd X x d lim = some (s, i)) : i = d := by
  subst hx; injection h with h; injection h with _ h; exact h.symm

theorem takeO_eq {α : Type} {X : Operand → Option AV} {hi : Option Operand} {h lim : Nat} {s : Bool} {L : List α} (hb : sBd X hi L.length lim = some (s, h)) : takeO hi h L = L.take h := by
  cases hi with
  | none => rw [sBd_none rfl hb]; simp [takeO]
  | some _ => rfl
theorem dropO_eq {α : Type} {X : Operand → Option AV} {lo : Option Operand} {l lim : Nat} {s : Bool} {L : List α} (hb : sBd X lo 0 lim = some (s, l)) : dropO lo l L = L.drop l := by
  cases lo with
  | none => rw [sBd_none rfl hb]; simp [dropO]
  | some _ => rfl
theorem subO_eq {X : Operand → Option AV} {lo : Option Operand} {l h lim : Nat} {s : Bool} (hb : sBd X lo 0 lim = some (s, l)) : subO lo h l = h - l := by
  cases lo with
  | none => rw [sBd_none rfl hb]; simp [subO]
  | some _ => rfl
theorem fromO_eq {X : Operand → Option AV} {lo : Option Operand} {l lim : Nat} {s : Bool} {f : Nat → List AV} (hb : sBd X lo 0 lim = some (s, l)) (i : Nat) : fromO lo l f i = f (l + i) := by
  cases lo with
  | none => rw [sBd_none rfl hb]; simp [fromO]
  | some _ => rfl

theorem two_true {a b : Bool} {α : Type} {x y : α} (h : some (cond a b false, x) = some (true, y)) : a = true ∧ b = true ∧ x = y := by
  injection h with h; injection h with h1 h2
  cases a <;> cases b <;> first | (cases h1; done) | exact ⟨rfl, rfl, h2⟩

set_option maxHeartbeats 1000000 in
theorem sSlice_sound {P : Program} {ρ : Ren} {X : Operand → Option AV} {f : Operand → Value} (hX : XR ρ X f) {t : TypeId} {x r : AV} {lo hi mx : Option Operand} {u : Value} (hx : VR ρ x u)
    (h : sSlice P X t x lo hi mx = some (true, r)) (w : World) : ∃ z, (Instr.sliceAt t u (lo.map f) (hi.map f) (mx.map f)).run P w = .ok z w ∧ VR ρ r z := by
  obtain ⟨d, hd, h1⟩ := ob_some.1 h
  clear h
  obtain ⟨hmx, h2⟩ := gd_some.1 h1
  clear h1
  cases mx with
  | some _ => simp at hmx
  | none =>
  simp only [Option.map_none]
  split at h2
  · rename_i L
    obtain ⟨⟨sh, ih⟩, hih, h3⟩ := ob_some.1 h2
    obtain ⟨⟨sl, il⟩, hil, h4⟩ := ob_some.1 h3
    obtain ⟨e1, e2, rfl⟩ := two_true h4
    simp only at e1 e2 hih hil
    subst e1; subst e2
    cases hx
    obtain ⟨hb, h5, h6⟩ := sBds_sound (P := P) hX (len := L.length) (cap := L.length) false (Nat.le_refl _) hih hil w
    rw [takeO_eq hih, dropO_eq hil]
    refine ⟨_, ?_, .bs _⟩
    have e1 : (ByteArray.mk L.toArray).size = L.length := by show L.toArray.size = _; simp
    have e2 : (ByteArray.mk L.toArray).extract il ih = ⟨((L.take ih).drop il).toArray⟩ := by
      apply ByteArray.ext
      apply Array.ext'
      simp [ByteArray.data_extract, List.drop_take]
    have hb' : (Instr.sliceBounds false (ByteArray.mk L.toArray).size (ByteArray.mk L.toArray).size (lo.map f) (hi.map f) none).run P w = .ok (il, ih, L.length) w := by
      rw [e1]; exact hb
    simp [Instr.sliceAt, Instr.slice, run_underlying hd, hb', e2]
  · rename_i e L
    obtain ⟨de, hde, h3⟩ := ob_some.1 h2
    obtain ⟨hez, h4⟩ := gd_some.1 h3
    obtain ⟨⟨sh, ih⟩, hih, h5⟩ := ob_some.1 h4
    obtain ⟨⟨sl, il⟩, hil, h6⟩ := ob_some.1 h5
    obtain ⟨e1, e2, rfl⟩ := two_true h6
    simp only at e1 e2 hih hil
    subst e1; subst e2
    rw [Nat.beq_eq] at hez
    rw [takeO_eq hih, dropO_eq hil]
    clear h2 h3 h4 h5 h6
    cases hx with
    | bv _ b o cap cs el fz hs hcap hc =>
      obtain ⟨hb, h7, h8⟩ := sBds_sound (P := P) hX (len := L.length) (cap := cap) true hcap hih hil w
      refine ⟨.slice (some (if cap = il then ⟨b, o, none⟩ else ⟨b, o + il, none⟩)) (ih - il) (cap - il), ?_, ?_⟩
      · simp [Instr.sliceAt, Instr.slice, run_underlying hd, hb, run_sizeOf' hde, hez, addr_add]
        split <;> simp
      · have hl : ((L.take ih).drop il).length = ih - il := by simp; omega
        by_cases h0 : ih - il = 0
        · rw [h0]; exact .bvz _ (List.eq_nil_of_length_eq_zero (by omega)) _ _
        · rw [if_neg (by omega), ← hl]
          refine .bv _ b (o + il) (cap - il) cs el fz hs (by omega) fun i hi => ?_
          have := hc (il + i) (by omega)
          rw [Nat.add_assoc, this]
          congr 3
          simp only [List.getD, List.getElem?_drop, List.getElem?_take]
          rw [if_pos (by omega)]
    | bvz _ hl base cap =>
      subst hl
      obtain ⟨hb, h7, h8⟩ := sBds_sound (P := P) hX (len := 0) (cap := cap) true (Nat.zero_le _) hih hil w
      simp only [List.length_nil, Nat.le_zero] at h7
      subst h7
      simp only [Nat.le_zero] at h8
      subst h8
      refine ⟨.slice (if cap = 0 then base else base.map (·.add 0)) 0 cap, ?_, .bvz _ (by simp) _ _⟩
      simp [Instr.sliceAt, Instr.slice, run_underlying hd, hb, run_sizeOf' hde, hez]
  · rename_i e esz n g
    obtain ⟨de, hde, h3⟩ := ob_some.1 h2
    obtain ⟨hez, h4⟩ := gd_some.1 h3
    obtain ⟨⟨sh, ih⟩, hih, h5⟩ := ob_some.1 h4
    obtain ⟨⟨sl, il⟩, hil, h6⟩ := ob_some.1 h5
    obtain ⟨e1, e2, rfl⟩ := two_true h6
    simp only at e1 e2 hih hil
    subst e1; subst e2
    rw [Nat.beq_eq] at hez
    rw [subO_eq hil]
    clear h2 h3 h4 h5 h6
    cases hx with
    | vec _ _ _ b o cap cs el fz q hs he hcap hv hc =>
      obtain ⟨hb, h7, h8⟩ := sBds_sound (P := P) hX (len := n) (cap := cap) true hcap hih hil w
      refine ⟨.slice (some (if cap = il then ⟨b, o, none⟩ else ⟨b, o + il * esz, none⟩)) (ih - il) (cap - il), ?_, ?_⟩
      · simp [Instr.sliceAt, Instr.slice, run_underlying hd, hb, run_sizeOf' hde, hez, addr_add]
        split <;> simp
      · by_cases h0 : ih - il = 0
        · rw [h0]; exact .vecz _ _ _ rfl _ _
        · rw [if_neg (by omega)]
          refine .vec _ _ _ b (o + il * esz) (cap - il) cs el fz (fun i => q (il + i)) hs he (by omega) (fun i hi => by rw [fromO_eq hil]; exact hv _ (by omega)) fun i hi j v hj => ?_
          have := hc (il + i) (by omega) j v hj
          rw [show o + il * esz + i * esz + j = o + (il + i) * esz + j by rw [Nat.add_mul]; omega]
          exact this
    | vecz _ _ _ hn base cap =>
      subst hn
      obtain ⟨hb, h7, h8⟩ := sBds_sound (P := P) hX (len := 0) (cap := cap) true (Nat.zero_le _) hih hil w
      simp only [Nat.le_zero] at h7
      subst h7
      simp only [Nat.le_zero] at h8
      subst h8
      refine ⟨.slice (if cap = 0 then base else base.map (·.add 0)) 0 cap, ?_, .vecz _ _ _ rfl _ _⟩
      simp [Instr.sliceAt, Instr.slice, run_underlying hd, hb, run_sizeOf' hde, hez]
  · rename_i e id n esz
    obtain ⟨de, hde, h3⟩ := ob_some.1 h2
    obtain ⟨hez, h4⟩ := gd_some.1 h3
    obtain ⟨⟨sh, ih⟩, hih, h5⟩ := ob_some.1 h4
    injection h5 with h5; injection h5 with h5 h6; subst h6
    simp only at h5 hih
    subst h5
    simp only [Bool.and_eq_true] at hez
    obtain ⟨hez, hlo⟩ := hez
    rw [Nat.beq_eq] at hez
    cases lo with
    | some _ => simp at hlo
    | none =>
    clear h2 h3 h4
    cases hx with
    | slg _ _ _ b hb he hl =>
      have hcap : n ≤ b.cap / esz := by rw [Nat.le_div_iff_mul_le he]; exact hl
      obtain ⟨hbs, h7, h8⟩ := sBds_sound (P := P) hX (lo := none) (hi := hi) (len := n) (cap := b.cap / esz) true hcap hih rfl w
      refine ⟨.slice (some ⟨b.b, b.ob, none⟩) ih (b.cap / esz), ?_, .slg _ _ _ b hb he (Nat.le_trans (Nat.mul_le_mul_right _ h7) hl)⟩
      simp only [Option.map_none] at hbs
      simp [Instr.sliceAt, Instr.slice, run_underlying hd, hbs, run_sizeOf' hde, hez, addr_add]
    | slg0 _ _ _ hn =>
      subst hn
      obtain ⟨hbs, h7, h8⟩ := sBds_sound (P := P) hX (lo := none) (hi := hi) (len := 0) (cap := 0) true (Nat.zero_le _) hih rfl w
      simp only [Nat.le_zero] at h7
      subst h7
      refine ⟨.slice none 0 0, ?_, .slg0 _ _ _ rfl⟩
      simp only [Option.map_none] at hbs
      simp [Instr.sliceAt, Instr.slice, run_underlying hd, hbs, run_sizeOf' hde]
  · cases h2
end Go.Ev
