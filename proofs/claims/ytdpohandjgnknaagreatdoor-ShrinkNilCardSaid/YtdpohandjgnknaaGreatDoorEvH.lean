/- The evaluator, part H: operations that write: stores, entries of maps, append, copy, delete. -/
import Derived.Test.YtdpohandjgnknaaGreatDoorEvG
import Derived.Laws.Append
namespace Go.Ev

/-- What an operation hands on: a value, or nothing. -/
def Yield (P : Program) (s : Sem Next) (w : World) (v : Value) (w' : World) : Prop :=
  s.run P w = .ok (.value v) w' ∨ (s.run P w = .ok .skip w' ∧ v = undef)

theorem Yield.wp {P : Program} {o : Oper} {a : Act} {w w' : World} {v : Value} {next : Act → World → Prop} {Q : Exit → Act → World → Prop}
    (h : Yield P (execOp a.eval o) w v w') (hn : next (a.put o.dst v) w') : o.wp P a w next Q := by
  unfold Oper.wp
  rcases h with h | ⟨h, rfl⟩
  · rw [h]; exact hn
  · rw [h]; exact hn

def World.putB (w : World) (b : Nat) (o : Obj) : World := { w with heap := w.heap.setIfInBounds b o }
theorem putB_heap (w : World) (b : Nat) (o o0 : Obj) (h : w.heap[b]? = some o0) (k : Nat) : (World.putB w b o).heap[k]? = if k = b then some o else w.heap[k]? := by
  have hb := lt_of_heap h
  unfold World.putB
  by_cases hk : k = b
  · subst hk; rw [if_pos rfl]; simp [hb]
  · rw [if_neg hk]
    show (w.heap.setIfInBounds b o)[k]? = _
    rw [Array.getElem?_setIfInBounds_ne (fun e => hk e.symm)]

theorem setCell_putB (w : World) (b off : Nat) (v : Value) (cs : Array Value) (el : TypeId) (fz : Nat × Nat) (h : w.heap[b]? = some (.cells cs el fz)) :
    w.setCell ⟨b, off, none⟩ v = World.putB w b (.cells (cs.setIfInBounds off v) el fz) := by
  unfold World.setCell World.putB
  congr 1
  apply Array.ext_getElem?
  intro i
  have hb := lt_of_heap h
  rw [Array.getElem?_modify]
  by_cases hi : b = i
  · subst hi; rw [if_pos rfl, h]; simp [hb]
  · rw [if_neg hi, Array.getElem?_setIfInBounds_ne hi]

theorem putB_putB (w : World) (b : Nat) (o o' : Obj) : World.putB (World.putB w b o) b o' = World.putB w b o' := by
  unfold World.putB; simp

/-- Cells, laid one behind the other. -/
theorem run_storeCells {P : Program} (b o : Nat) (el : TypeId) (fz : Nat × Nat) : ∀ (vs : List Value) (i : Nat) (cs : Array Value) (w : World), w.heap[b]? = some (.cells cs el fz) → fzOk cs fz →
    o + i + vs.length ≤ cs.size → (∀ v ∈ vs, v.oneCell' = true) → ∃ cs', (storeCells ⟨b, o, none⟩ vs i).run P w = .ok () (World.putB w b (.cells cs' el fz)) ∧ cs'.size = cs.size ∧
      ∀ j, cs'[j]? = if o + i ≤ j ∧ j < o + i + vs.length then vs[j - (o + i)]? else cs[j]?
  | [], i, cs, w, h, _, _, _ => by
    refine ⟨cs, ?_, rfl, fun j => by rw [if_neg (by simp)]⟩
    have : World.putB w b (.cells cs el fz) = w := by
      unfold World.putB
      congr 1
      apply Array.ext_getElem?
      intro k
      by_cases hk : b = k
      · subst hk; rw [h]; simp [lt_of_heap h]
      · rw [Array.getElem?_setIfInBounds_ne hk]
    simp [storeCells, this]
  | v :: vs, i, cs, w, h, hfz, hb, h1 => by
    simp only [List.length_cons] at hb
    have hv := h1 v (by simp)
    have hcell : w.cell? ⟨b, o + i, none⟩ = some cs[o + i] := by
      have : cs[o + i]? = some cs[o + i] := Array.getElem?_eq_getElem (by omega)
      simp [World.cell?, h, this]
    have hfr : w.frozen? ⟨b, o + i, none⟩ = false := by
      simp only [World.frozen?, h]
      rcases hfz with hz | hz
      · subst hz; simp
      · simp; omega
    have hst : (store ⟨b, o + i, none⟩ v).run P w = .ok () (World.putB w b (.cells (cs.setIfInBounds (o + i) v) el fz)) := by
      rw [run_store P w _ v .plain hv, hcell]
      simp only [hfr, Bool.false_eq_true, if_false]
      rw [setCell_putB w b (o + i) v cs el fz h]
    have h2 := putB_heap w b (.cells (cs.setIfInBounds (o + i) v) el fz) _ h b
    rw [if_pos rfl] at h2
    obtain ⟨cs', e1, e2, e3⟩ := run_storeCells (P := P) b o el fz vs (i + 1) (cs.setIfInBounds (o + i) v) _ h2
      (by rcases hfz with hz | hz; exact .inl hz; exact .inr (by simpa using hz)) (by simp; omega) (fun u hu => h1 u (by simp [hu]))
    refine ⟨cs', ?_, by simpa using e2, fun j => ?_⟩
    · simp only [storeCells, addr_add, Sem.run_bind, hst, Result.andThen_ok, e1, putB_putB]
    · rw [e3 j]
      simp only [List.length_cons]
      by_cases h4 : o + (i + 1) ≤ j ∧ j < o + (i + 1) + vs.length
      · rw [if_pos h4, if_pos (by omega), show j - (o + i) = (j - (o + (i + 1))) + 1 by omega]; simp
      · rw [if_neg h4]
        by_cases h5 : j = o + i
        · subst h5
          rw [if_pos (by omega), Nat.sub_self, Array.getElem?_setIfInBounds_self_of_lt (by omega)]
          rfl
        · rw [if_neg (by omega), Array.getElem?_setIfInBounds_ne (by omega)]

noncomputable def writeL (l : List AV) : Tr AV → Nat → Tr AV :=
  List.rec (motive := fun _ => Tr AV → Nat → Tr AV) (fun c _ => c) (fun a _ ih c k => fN (k + 1) fun k' => ih (c.set k a) k') l
theorem writeL_get (z : List AV) : ∀ (l : List AV) (c : Tr AV) (k j : Nat), cellOf (writeL l c k) z j = if k ≤ j ∧ j < k + l.length then l[j - k]? else cellOf c z j
  | [], c, k, j => by rw [if_neg (by simp)]; rfl
  | a :: l, c, k, j => by
    show cellOf (fN (k + 1) fun k' => writeL l (c.set k a) k') z j = _
    rw [fN_eq, writeL_get z l (c.set k a) (k + 1) j]
    simp only [List.length_cons]
    by_cases h4 : k + 1 ≤ j ∧ j < k + 1 + l.length
    · rw [if_pos h4, if_pos (by omega), show j - k = (j - (k + 1)) + 1 by omega]; simp
    · rw [if_neg h4]
      by_cases h5 : j = k
      · subst h5
        rw [if_pos (by omega), Nat.sub_self, cellOf_set_same]; rfl
      · rw [if_neg (by omega), cellOf_set_ne _ _ (fun e => h5 e.symm)]

/-- Cells laid into a row that is known. -/
noncomputable def evWrite (H : Tr AObj) (id off : Nat) (l : List AV) : Option (Tr AObj) :=
  ob (H.get id) fun o => match o with
    | .cells el c z n op => gd (Nat.ble (off + l.length) n && l.all AV.one) (some (H.set id (.cells el (writeL l c off) z n op)))
    | _ => none

theorem get_set_fun (H : Tr AObj) (i : Nat) (o : AObj) : (H.set i o).get = fun j => if j = i then some o else H.get j := by
  funext j
  rw [Tr.get_set]
  by_cases h : i = j
  · subst h; simp
  · rw [if_neg h, if_neg (fun e => h e.symm)]

theorem evWrite_sound {P : Program} {E : Env} {F : Nat → Option Obj} {nx : Nat} {ρ : Ren} {w : World} {H H' : Tr AObj} (r : Rel E F nx ρ H.get w)
    {id off : Nat} {l : List AV} {vs : List Value} {b : Blk} (hb : ρ id = some b) (hl : VRL ρ l vs) (hev : evWrite H id off l = some H') :
    ∃ w', (storeCells ⟨b.b, b.ob + off, none⟩ vs).run P w = .ok () w' ∧ Rel E F nx ρ H'.get w' := by
  obtain ⟨o, ho, h1⟩ := ob_some.1 hev
  clear hev
  cases o with
  | cells el c z n op =>
    obtain ⟨hc, h2⟩ := gd_some.1 h1
    injection h2 with h2; subst h2
    rw [Bool.and_eq_true, Nat.ble_eq, List.all_eq_true] at hc
    obtain ⟨hc1, hc2⟩ := hc
    obtain ⟨oc, hoc, hor⟩ := r.ob _ _ b ho hb
    have hlen := hl.length
    cases hor with
    | cells _ _ _ _ _ cs fz hsize hn hop hfz hcell =>
      have h1 : ∀ v ∈ vs, v.oneCell' = true := by
        intro v hv
        obtain ⟨i, hi, rfl⟩ := List.getElem_of_mem hv
        have hil : i < l.length := by omega
        have := hl.get2 (List.getElem?_eq_getElem hil) (List.getElem?_eq_getElem hi)
        rw [this.one]
        exact hc2 _ (List.getElem_mem hil)
      obtain ⟨cs', e1, e2, e3⟩ := run_storeCells (P := P) b.b (b.ob + off) el fz vs 0 cs w hoc hfz (by omega) h1
      refine ⟨_, e1, ?_⟩
      have hor' : OR ρ b (.cells el (writeL l c off) z n op) (.cells cs' el fz) := by
        refine .cells el _ z n op cs' fz (by omega) hn hop (by rcases hfz with hz | hz; exact .inl hz; exact .inr (by omega)) fun k a hk ha => ?_
        rw [writeL_get] at ha
        by_cases hko : off ≤ k ∧ k < off + l.length
        · rw [if_pos hko] at ha
          obtain ⟨v, hv, hr⟩ := hl.get _ a ha
          refine ⟨v, ?_, hr⟩
          rw [e3, if_pos (by omega), ← hv]
          congr 1; omega
        · rw [if_neg hko] at ha
          obtain ⟨v, hv, hr⟩ := hcell k a hk ha
          exact ⟨v, by rw [e3, if_neg (by omega)]; exact hv, hr⟩
      have := r.put (w' := World.putB w b.b (.cells cs' el fz)) ho hb hor' (putB_heap w b.b _ _ hoc) rfl rfl rfl
      rw [get_set_fun]
      exact this
  | _ => cases h1

noncomputable def evStore (P : Program) (H : Tr AObj) (t : TypeId) (x v : AV) : Option (Tr AObj) :=
  match x with
  | .ptr id off => ob (P.info? t) fun i => gd (Nat.beq v.cells.length i.size) (evWrite H id off v.cells)
  | _ => none
theorem evStore_sound {P : Program} {E : Env} {F : Nat → Option Obj} {nx : Nat} {ρ : Ren} {w : World} {H H' : Tr AObj} (r : Rel E F nx ρ H.get w)
    {t : TypeId} {x v : AV} {u z : Value} (hx : VR ρ x u) (hv : VR ρ v z) (hev : evStore P H t x v = some H') :
    ∃ w', (Instr.storeAt t u z).run P w = .ok () w' ∧ Rel E F nx ρ H'.get w' := by
  unfold evStore at hev
  split at hev
  · obtain ⟨i, hi, h1⟩ := ob_some.1 hev
    obtain ⟨hs, h2⟩ := gd_some.1 h1
    rw [Nat.beq_eq] at hs
    cases hx with
    | ptr _ _ b hb =>
      have hcl := hv.cells
      obtain ⟨w', h3, h4⟩ := evWrite_sound (P := P) r hb hcl h2
      refine ⟨w', ?_, h4⟩
      have hsz : z.cells.size = P.cellsOf t := by
        have := hcl.length
        simp [Program.cellsOf, hi] at this ⊢; omega
      simp [Instr.storeAt, Instr.sureAddr, storeVar, run_sizeOf w hi, hsz, h3]
  · cases hev

/-! ### maps' entries -/
theorem ERL.append {ρ : Ren} : ∀ {l l' : List AEnt} {es es' : List MapEntry}, ERL ρ l es → ERL ρ l' es' → ERL ρ (l ++ l') (es ++ es')
  | _, _, _, _, .nil, h' => h'
  | _, _, _, _, .cons a e l es h hs, h' => .cons _ _ _ _ h (hs.append h')
theorem ERL.modify {ρ : Ren} {f : AEnt → AEnt} {g : MapEntry → MapEntry} (hf : ∀ a e, ER ρ a e → ER ρ (f a) (g e)) : ∀ {l : List AEnt} {es : List MapEntry} (i : Nat), ERL ρ l es →
    ERL ρ (l.modify i f) (es.modify i g)
  | _, _, _, .nil => by simp; exact .nil
  | _, _, 0, .cons a e l es h hs => by simp; exact .cons _ _ _ _ (hf _ _ h) hs
  | _, _, i + 1, .cons a e l es h hs => by simp; exact .cons _ _ _ _ h (ERL.modify hf i hs)
theorem ERL.erase {ρ : Ren} : ∀ {l : List AEnt} {es : List MapEntry} (i : Nat), ERL ρ l es → ERL ρ (l.eraseIdx i) (es.eraseIdx i)
  | _, _, _, .nil => by simp; exact .nil
  | _, _, 0, .cons a e l es h hs => by simp; exact hs
  | _, _, i + 1, .cons a e l es h hs => by simp; exact .cons _ _ _ _ h (ERL.erase i hs)

theorem sameBits_of_now {kd : TypeDesc} {u v : Value} (h : Instr.sameNow kd u v = some true) : Instr.sameBits 10000 v u = true := by
  unfold Instr.sameNow at h
  split at h
  · split at h
    · rename_i hk
      subst hk
      simp at h
      simp [Instr.sameBits, h]
    · cases h
  · rename_i a b
    have h' : (a == b) = true := by simpa using h
    rw [beq_toListBytes, beq_iff_eq] at h'
    show (b == a) = true
    rw [beq_toListBytes, beq_iff_eq]; exact h'.symm
  · simp at h; simp [Instr.sameBits, h]
  · cases h

theorem findNow_spec {kd : TypeDesc} {u : Value} : ∀ (l : List MapEntry) (i j : Nat) (v : Value), Instr.findNow kd u l i = some (some (j, v)) →
    i ≤ j ∧ ∃ e, l[j - i]? = some e ∧ Instr.sameNow kd u e.key = some true
  | [], i, j, v, h => by simp [Instr.findNow] at h
  | e :: es, i, j, v, h => by
    simp only [Instr.findNow] at h
    split at h
    · rename_i hs
      injection h with h; injection h with h; injection h with h1 h2
      subst h1
      exact ⟨Nat.le_refl _, e, by simp, hs⟩
    · obtain ⟨h1, e', h2, h3⟩ := findNow_spec es (i + 1) j v h
      refine ⟨by omega, e', ?_, h3⟩
      rw [show j - i = (j - (i + 1)) + 1 by omega]; simpa using h2
    · cases h

noncomputable def evMapSet (P : Program) (H : Tr AObj) (t : TypeId) (m k v : AV) : Option (Tr AObj) :=
  ob (P.underlying t) fun d => match d, m with
    | .map key _, .map id => ob (P.underlying key) fun kd => gd (keyD kd) (ob (H.get id) fun o => match o with
      | .map es clock => ob (findK kd k es 0) fun r => match r with
        | some p => some (H.set id (.map (es.modify p.1 fun e => { e with key := k, val := v }) clock))
        | none => fN (clock + 1) fun c' => some (H.set id (.map (es ++ [⟨k, v, clock⟩]) c'))
      | _ => none)
    | _, _ => none

theorem evMapSet_sound {P : Program} {E : Env} {F : Nat → Option Obj} {nx : Nat} {ρ : Ren} {w : World} {H H' : Tr AObj} (r : Rel E F nx ρ H.get w)
    {t : TypeId} {m k v : AV} {um uk uv : Value} (hm : VR ρ m um) (hk : VR ρ k uk) (hv : VR ρ v uv) (hev : evMapSet P H t m k v = some H') :
    ∃ w', (Instr.mapUpdate t um uk uv).run P w = .ok () w' ∧ Rel E F nx ρ H'.get w' := by
  obtain ⟨d, hd, h1⟩ := ob_some.1 hev
  clear hev
  split at h1
  · rename_i key el id
    obtain ⟨kd, hkd, h2⟩ := ob_some.1 h1
    obtain ⟨hkk, h3⟩ := gd_some.1 h2
    obtain ⟨o, ho, h4⟩ := ob_some.1 h3
    clear h1 h2 h3
    cases o with
    | map es clock =>
      obtain ⟨fr, hfr, h5⟩ := ob_some.1 h4
      clear h4
      cases hm with
      | map _ b hb =>
        obtain ⟨oc, hoc, hor⟩ := r.ob _ _ b ho hb
        cases hor with
        | map _ _ l hl =>
          obtain ⟨r', hfn, hr'⟩ := findK_sound hk hl 0 fr hfr
          have hck := checkKey_plain (P := P) hkd hkk false 9999 uk w
          cases fr with
          | some p =>
            obtain ⟨j, val⟩ := p
            injection h5 with h5; subst h5
            obtain ⟨z, hz, _⟩ := hr'
            subst hz
            obtain ⟨_, e0, he0, hsame⟩ := findNow_spec l 0 j z hfn
            rw [Nat.sub_zero] at he0
            have hstay : (Instr.keyThatStays (((l.toArray[j]?).map (·.key)).getD uk) uk).run P w = .ok uk w := by
              simp [he0, Instr.keyThatStays, sameBits_of_now hsame]
            refine ⟨World.putB w b.b (.map (l.toArray.modify j fun e => { e with key := uk, val := uv }) clock), ?_, ?_⟩
            · simp only [Instr.mapUpdate, Sem.run_bind, run_underlying hd, Result.andThen_ok]
              simp only [getObj, Sem.run, hoc, Result.andThen_ok, Sem.run_bind, hck, Instr.findKey, run_underlying hkd, hfn, Sem.run_pure, hstay]
              simp [setObj, Sem.run, hoc, World.putB]
            · have hor' : OR ρ b (.map (es.modify j fun e => { e with key := k, val := v }) clock) (.map (l.toArray.modify j fun e => { e with key := uk, val := uv }) clock) := by
                have := OR.map (ρ := ρ) (b := b) _ clock _ (hl.modify (f := fun e => { e with key := k, val := v }) (g := fun e => { e with key := uk, val := uv }) (fun a e h => ⟨hk, hv, h.2.2⟩) j)
                simpa using this
              have := r.put (w' := World.putB w b.b (.map (l.toArray.modify j fun e => { e with key := uk, val := uv }) clock)) ho hb hor' (putB_heap w b.b _ _ hoc) rfl rfl rfl
              rw [get_set_fun]; exact this
          | none =>
            have h6 : (fN (clock + 1) fun c' => some (H.set id (.map (es ++ [⟨k, v, clock⟩]) c'))) = some H' := h5
            rw [fN_eq] at h6
            injection h6 with h6; subst h6
            have hr0 : r' = none := hr'
            subst hr0
            refine ⟨World.putB w b.b (.map (l.toArray.push { key := uk, val := uv, born := clock }) (clock + 1)), ?_, ?_⟩
            · simp only [Instr.mapUpdate, Sem.run_bind, run_underlying hd, Result.andThen_ok]
              simp only [getObj, Sem.run, hoc, Result.andThen_ok, Sem.run_bind, hck, Instr.findKey, run_underlying hkd, hfn, Sem.run_pure]
              simp [setObj, Sem.run, hoc, World.putB]
            · have hor' : OR ρ b (.map (es ++ [⟨k, v, clock⟩]) (clock + 1)) (.map (l.toArray.push { key := uk, val := uv, born := clock }) (clock + 1)) := by
                have := OR.map (ρ := ρ) (b := b) _ (clock + 1) _ (hl.append (.cons ⟨k, v, clock⟩ { key := uk, val := uv, born := clock } [] [] ⟨hk, hv, rfl⟩ .nil))
                simpa using this
              have := r.put (w' := World.putB w b.b (.map (l.toArray.push { key := uk, val := uv, born := clock }) (clock + 1))) ho hb hor' (putB_heap w b.b _ _ hoc) rfl rfl rfl
              rw [get_set_fun]; exact this
    | _ => cases h4
  · cases h1

end Go.Ev
