/- The symbolic layer, part H: what is handed on by content: memory that changes no more. -/
import Derived.Test.YtblcpogddmjonaaDoorSxG
set_option linter.unusedVariables false
set_option linter.unusedSimpArgs false
namespace Go.Ev

noncomputable def fB {β : Type} (b : Bool) (k : Bool → β) : β := Bool.rec (motive := fun _ => β) (k false) (k true) b
theorem fB_eq {β : Type} (b : Bool) (k : Bool → β) : fB b k = k b := by cases b <;> rfl

/-- A frozen row: its number, cells of an element, so many elements; by content. -/
structure FZ where
  id : Nat
  esz : Nat
  n : Nat
  a : AV

noncomputable def isU8 (P : Program) (el : Nat) : Bool := match P.underlying el with
  | some (.int .u8) => true
  | _ => false

/-- A row by content: bytes as bytes. -/
noncomputable def rowA (u8 : Bool) (esz n : Nat) (f : Nat → List AV) : AV := cond u8 (.bv (rowB n f)) (.vec esz n f)
noncomputable def rowS (u8 : Bool) (esz n : Nat) (f : Nat → List AV) : Bool := cond u8 (allBR n f) (goodR esz n f)

mutual
/-- A value by content; side conditions; the rows that change no more; the numbers that are forgotten. -/
noncomputable def frz (P : Program) (H : Tr AObj) : AV → Option (Bool × AV × List FZ × List Nat)
  | .slg id n esz => ob (H.get id) fun o => match o with
    | .cells el c z N _ => match c, z with
      | .leaf, .rows e f => gd (Nat.beq e esz) (fB (cond (Nat.beq esz 1) (isU8 P el) false) fun u => some (cond (Nat.ble (n * esz) N) (rowS u esz n f) false, rowA u esz n f, [⟨id, esz, n, rowA u esz n f⟩], [id]))
      | _, _ => none
    | _ => none
  | .sl id off n cap => gd (cond (Nat.beq off 0) (Nat.ble n cap) false) (ob (H.get id) fun o => match o with
    | .cells el _ _ _ _ => ob (P.info? el) fun i => gd (Nat.blt 0 i.size) (ob (evCells H id 0 (n * i.size)) fun l => gd (l.all AV.one) (fB (cond (Nat.beq i.size 1) (isU8 P el) false) fun u =>
        cond u (some (l.all fun a => isBR [a], .bv (l.map fun a => byteO [a]), [], [id])) (some (true, .vec i.size n (chunk i.size n l), [], [id]))))
    | _ => none)
  | .slo id off n esz => gd (Nat.beq off 0) (ob (H.get id) fun o => match o with
    | .cells el _ _ _ _ => ob (evCells H id 0 (n * esz)) fun l => gd (l.all AV.one) (fB (cond (Nat.beq esz 1) (isU8 P el) false) fun u =>
        cond u (some (l.all fun a => isBR [a], .bv (l.map fun a => byteO [a]), [], [id])) (some (true, .vec esz n (chunk esz n l), [], [id])))
    | _ => none)
  | .agg l => ob (frzL P H l) fun r => some (r.1, .agg r.2.1, r.2.2.1, r.2.2.2)
  | .tup l => ob (frzL P H l) fun r => some (r.1, .tup r.2.1, r.2.2.1, r.2.2.2)
  | .iface t v => ob (frz P H v) fun r => some (r.1, .iface t r.2.1, r.2.2.1, r.2.2.2)
  | .fn (.func g) a c => ob (frzL P H a) fun r => ob (frzL P H c) fun q => some (cond r.1 q.1 false, .fn (.func g) r.2.1 q.2.1, r.2.2.1 ++ q.2.2.1, r.2.2.2 ++ q.2.2.2)
  | .sle _ => some (true, .vec 1 0 fun _ => [], [], [])
  | .bool b => some (true, .bool b, [], [])
  | .int k n => some (true, .int k n, [], [])
  | .str m n => some (true, .str m n, [], [])
  | .bs l => some (true, .bs l, [], [])
  | .bv l => some (true, .bv l, [], [])
  | .vec e n f => some (true, .vec e n f, [], [])
  | .pv l => some (true, .pv l, [], [])
  | .mapv h v z => some (true, .mapv h v z, [], [])
  | .ptr0 => some (true, .ptr0, [], [])
  | .sl0 => some (true, .sl0, [], [])
  | .map0 => some (true, .map0, [], [])
  | .fn0 => some (true, .fn0, [], [])
  | .iface0 => some (true, .iface0, [], [])
  | _ => none
noncomputable def frzL (P : Program) (H : Tr AObj) : List AV → Option (Bool × List AV × List FZ × List Nat)
  | [] => some (true, [], [], [])
  | x :: l => ob (frz P H x) fun r => ob (frzL P H l) fun q => some (cond r.1 q.1 false, r.2.1 :: q.2.1, r.2.2.1 ++ q.2.2.1, r.2.2.2 ++ q.2.2.2)
end

noncomputable def delL (H : Tr AObj) (ids : List Nat) : Tr AObj := List.rec (motive := fun _ => Tr AObj) H (fun i _ ih => ih.del i) ids
theorem delL_get {H : Tr AObj} : ∀ {ids : List Nat} {i : Nat} {o : AObj}, (delL H ids).get i = some o → H.get i = some o ∧ i ∉ ids
  | [], i, o, h => ⟨h, by simp⟩
  | j :: ids, i, o, h => by
    have h' : ((delL H ids).del j).get i = some o := h
    rw [Tr.get_del] at h'
    split at h'
    · cases h'
    · rename_i hne
      obtain ⟨h1, h2⟩ := delL_get h'
      exact ⟨h1, by simp [h2]; exact fun e => hne e.symm⟩

open Classical in
/-- The blocks of these numbers change no more. -/
noncomputable def frzR (ρ : Ren) (w : World) (ids : List Nat) : Ren :=
  ⟨ρ.nm, fun b => if ∃ id ∈ ids, ∃ blk, ρ id = some blk ∧ blk.b = b then w.heap[b]? else ρ.st b⟩

def idsOK (H : Tr AObj) (ids : List Nat) : Prop := ∀ id ∈ ids, ∃ o, H.get id = some o

theorem frzR_st {E : Env} {F : Nat → Option Obj} {nx : Nat} {ρ : Ren} {w : World} {H : Tr AObj} (r : Rel E F nx ρ H.get w) {ids : List Nat} (hi : idsOK H ids) {b : Nat} {o : Obj} (h : ρ.st b = some o) : (frzR ρ w ids).st b = some o := by
  show (if _ then _ else _) = _
  split
  · rename_i hx
    obtain ⟨id, hid, blk, h1, h2⟩ := hx
    obtain ⟨o', ho⟩ := hi id hid
    have := r.sd id o' blk ho h1
    rw [h2, h] at this; cases this
  · exact h

theorem frzR_rel {E : Env} {F : Nat → Option Obj} {nx : Nat} {ρ : Ren} {w : World} {H : Tr AObj} (r : Rel E F nx ρ H.get w) {ids : List Nat} (hi : idsOK H ids) :
    RX nx nx ρ (frzR ρ w ids) ∧ Rel E F nx (frzR ρ w ids) (delL H ids).get w := by
  have hle : ρ.le (frzR ρ w ids) := ⟨fun _ _ h => h, fun b o h => frzR_st r hi h⟩
  refine ⟨⟨hle, fun _ _ => rfl, Nat.le_refl _⟩, r.tape, r.os, r.output, r.fr, fun i o b h hb => ?_, fun i o b h hb => r.dj i o b (delL_get h).1 hb, fun i j o o' b b' h h' hb hb' e => r.inj i j o o' b b' (delL_get h).1 (delL_get h').1 hb hb' e,
    r.new, fun g l h => r.gl g l (delL_get h).1, r.bs, fun b o h => ?_, fun i o b h hb => ?_, fun b o o' hF h => ?_⟩
  · obtain ⟨c, h1, h2⟩ := r.ob i o b (delL_get h).1 hb
    exact ⟨c, h1, h2.mono hle⟩
  · have h' : (if _ then _ else _) = some o := h
    split at h'
    · exact h'
    · exact r.st b o h'
  · obtain ⟨h1, h2⟩ := delL_get h
    show (if _ then _ else _) = none
    rw [if_neg]
    · exact r.sd i o b h1 hb
    · rintro ⟨id, hid, blk, h3, h4⟩
      obtain ⟨o', ho⟩ := hi id hid
      have := r.inj id i o' o blk b ho h1 h3 hb h4
      subst this; exact h2 hid
  · have h' : (if _ then _ else _) = some o' := h
    split at h'
    · rename_i hx
      obtain ⟨id, hid, blk, h3, h4⟩ := hx
      obtain ⟨o'', ho⟩ := hi id hid
      have := r.dj id o'' blk ho h3
      rw [h4, hF] at this; cases this
    · exact r.sf b o o' hF h'

theorem frzR_block {ρ : Ren} {w : World} {ids : List Nat} {id : Nat} {b : Blk} (hid : id ∈ ids) (hb : ρ id = some b) : (frzR ρ w ids).st b.b = w.heap[b.b]? := if_pos ⟨id, hid, b, hb, rfl⟩

/-- A row whose block changes no more, by content. -/
theorem row_vec {E : Env} {F : Nat → Option Obj} {nx : Nat} {ρ : Ren} {w : World} {H : Tr AObj} (r : Rel E F nx ρ H.get w) {ids : List Nat} (hi : idsOK H ids) {id el n esz N : Nat} {f : Nat → List AV} {op : Bool} (hid : id ∈ ids)
    (ho : H.get id = some (.cells el .leaf (.rows esz f) N op)) (hN : n * esz ≤ N) (hg : goodR esz n f = true) {v : Value} (hv : VR ρ (.slg id n esz) v) : VR (frzR ρ w ids) (.vec esz n f) v := by
  have hle := (frzR_rel r hi).1.le
  cases hv with
  | slg0 _ _ _ hn => exact .vecz _ _ _ hn _ _
  | slg _ _ _ b hb he hl =>
    obtain ⟨c, hc, hor⟩ := r.ob _ _ b ho hb
    cases hor with
    | cells _ _ _ _ _ cs fz hsize hn hop hfz hcell =>
      have hst : (frzR ρ w ids).st b.b = some (.cells cs el fz) := (frzR_block hid hb).trans hc
      have hcap : n ≤ b.cap / esz := by rw [Nat.le_div_iff_mul_le he]; exact hl
      unfold goodR at hg
      simp only [decide_eq_true_eq] at hg
      have hrow : ∀ i, ∃ vs, i < n → VRL ρ (f i) vs ∧ ∀ j v, vs[j]? = some v → cs[b.ob + i * esz + j]? = some v := fun i => by
        by_cases hin : i < n
        · have h1 := hg i hin
          unfold rowOk at h1
          obtain ⟨h2, _⟩ := cond_and h1
          rw [Nat.beq_eq] at h2
          have hm : (i + 1) * esz ≤ n * esz := Nat.mul_le_mul_right _ hin
          rw [Nat.succ_mul] at hm
          obtain ⟨vs, h3, h4⟩ := VRL.of_get (ρ := ρ) (l := f i) (fun j v => cs[b.ob + i * esz + j]? = some v) fun j a hj => by
            have hjl := (List.getElem?_eq_some_iff.1 hj).1
            obtain ⟨v, hv, hr⟩ := hcell (i * esz + j) a (by omega) (by rw [cellOf_leaf, rows_at (i := i) (j := j) (by omega) _ rfl]; exact hj)
            exact ⟨v, by rw [Nat.add_assoc]; exact hv, hr⟩
          exact ⟨vs, fun _ => ⟨h3, h4⟩⟩
        · exact ⟨[], fun h => absurd h hin⟩
      exact .vec _ _ _ b.b b.ob _ cs el fz (fun i => Classical.choose (hrow i)) hst he hcap (fun i hin => (Classical.choose_spec (hrow i) hin).1.mono hle) (fun i hin => (Classical.choose_spec (hrow i) hin).2)

def chunkV (size k : Nat) (l : List Value) : Nat → List Value := match k with
  | 1 => fun _ => l
  | _ => fun i => (l.drop (i * size)).take size
theorem chunk_vrl {ρ : Ren} {size k : Nat} {l : List AV} {vs : List Value} (h : VRL ρ l vs) (i : Nat) : VRL ρ (chunk size k l i) (chunkV size k vs i) := by
  rcases k with _ | _ | k
  · exact (h.drop _).take _
  · exact h
  · exact (h.drop _).take _
theorem chunkV_get {size k i j : Nat} {vs : List Value} {v : Value} (hi : i < k) (h : (chunkV size k vs i)[j]? = some v) : vs[i * size + j]? = some v := by
  unfold chunkV at h
  split at h
  · have : i = 0 := by omega
    subst this; simpa using h
  · rw [List.getElem?_take] at h
    split at h
    · rw [List.getElem?_drop] at h; exact h
    · cases h

/-- Cells that are known one by one, by content. -/
theorem cells_vec {E : Env} {F : Nat → Option Obj} {nx : Nat} {ρ : Ren} {w : World} {H : Tr AObj} (r : Rel E F nx ρ H.get w) {ids : List Nat} (hi : idsOK H ids) {id n esz : Nat} {l : List AV} (hid : id ∈ ids)
    (hs : 0 < esz) (hl : evCells H id 0 (n * esz) = some l) {b : Blk} (hb : ρ id = some b) {cap : Nat} (hcap : n ≤ cap) : VR (frzR ρ w ids) (.vec esz n (chunk esz n l)) (.slice (some ⟨b.b, b.ob, none⟩) n cap) := by
  have hle := (frzR_rel r hi).1.le
  obtain ⟨vs, h1, h2, h3⟩ := evCells_sound r (HS.refl ρ H) hb hl
  obtain ⟨o, ho, h4⟩ := ob_some.1 hl
  cases o with
  | cells el c z N op =>
    obtain ⟨oc, hc, hor⟩ := r.ob _ _ b ho hb
    cases hor with
    | cells _ _ _ _ _ cs fz hsize hn hop hfz hcell =>
      have hst : (frzR ρ w ids).st b.b = some (.cells cs el fz) := (frzR_block hid hb).trans hc
      have hcs : ∀ j v, vs[j]? = some v → cs[b.ob + j]? = some v := fun j v hj => by
        have := h3 j v hj
        rw [addr_add] at this
        simpa [World.cell?, hc] using this
      refine .vec _ _ _ b.b b.ob _ cs el fz (fun i => chunkV esz n vs i) hst hs hcap (fun i hin => (chunk_vrl h1 i).mono hle) fun i hin j v hj => ?_
      rw [Nat.add_assoc]
      exact hcs _ _ (chunkV_get hin hj)
  | _ => cases h4

theorem vec_bytes {ρ : Ren} {n : Nat} {l : List AV} {v : Value} (h : VR ρ (.vec 1 n (chunk 1 n l)) v) (hl : l.length = n) (hb : (l.all fun a => isBR [a]) = true) : VR ρ (.bv (l.map fun a => byteO [a])) v := by
  have hc : ∀ i, i < n → ∃ a, l[i]? = some a ∧ chunk 1 n l i = [a] := fun i hi => by
    have hil : i < l.length := by omega
    refine ⟨l[i], List.getElem?_eq_getElem hil, ?_⟩
    rcases n with _ | _ | n
    · omega
    · have : i = 0 := by omega
      subst this
      show l = _
      match l, hl with
      | [x], _ => rfl
    · show (l.drop (i * 1)).take 1 = _
      rw [Nat.mul_one, List.drop_eq_getElem_cons hil]; rfl
  have hall : allBR n (chunk 1 n l) = true := by
    unfold allBR
    simp only [decide_eq_true_eq]
    intro i hi
    obtain ⟨a, h1, h2⟩ := hc i hi
    rw [h2]
    exact List.all_eq_true.1 hb a (List.mem_of_getElem? h1)
  have := sl_bytes h hall
  have he : rowB n (chunk 1 n l) = l.map fun a => byteO [a] := by
    apply List.ext_getElem?
    intro i
    unfold rowB
    rw [List.getElem?_map, List.getElem?_map]
    by_cases hi : i < n
    · obtain ⟨a, h1, h2⟩ := hc i hi
      rw [List.getElem?_range hi, h1]
      simp [h2]
    · rw [List.getElem?_eq_none (by simp; omega), List.getElem?_eq_none (by omega)]; rfl
  rw [he] at this; exact this

theorem row_av {E : Env} {F : Nat → Option Obj} {nx : Nat} {ρ : Ren} {w : World} {H : Tr AObj} (r : Rel E F nx ρ H.get w) {ids : List Nat} (hi : idsOK H ids) {id el n esz N : Nat} {f : Nat → List AV} {op u : Bool} (hid : id ∈ ids)
    (ho : H.get id = some (.cells el .leaf (.rows esz f) N op)) (hN : n * esz ≤ N) (hu : u = true → esz = 1) (hg : rowS u esz n f = true) {v : Value} (hv : VR ρ (.slg id n esz) v) : VR (frzR ρ w ids) (rowA u esz n f) v := by
  cases u with
  | false => exact row_vec r hi hid ho hN hg hv
  | true =>
    have := hu rfl
    subst this
    have hb : allBR n f = true := hg
    have hgood : goodR 1 n f = true := goodR_of fun i hi => by
      unfold allBR at hb
      simp only [decide_eq_true_eq] at hb
      have := hb i hi
      unfold isBR at this
      split at this
      · rename_i he; rw [he]; rfl
      · cases this
    exact sl_bytes (row_vec r hi hid ho hN hgood hv) hb

def FzOK (ρ : Ren) (w : World) (H : Tr AObj) (fz : List FZ) (ids0 : List Nat) : Prop :=
  ∀ z ∈ fz, z.id ∈ ids0 ∧ ∀ ids, idsOK H ids → z.id ∈ ids → ∀ v, VR ρ (.slg z.id z.n z.esz) v → VR (frzR ρ w ids) z.a v

mutual
theorem frz_sound {P : Program} {E : Env} {F : Nat → Option Obj} {nx : Nat} {ρ : Ren} {w : World} {H : Tr AObj} (r : Rel E F nx ρ H.get w) : ∀ (a a' : AV) (fz : List FZ) (ids0 : List Nat), frz P H a = some (true, a', fz, ids0) →
    idsOK H ids0 ∧ FzOK ρ w H fz ids0 ∧ ∀ ids, idsOK H ids → (∀ i ∈ ids0, i ∈ ids) → ∀ v, VR ρ a v → VR (frzR ρ w ids) a' v
  | .slg id n esz, a', fz, ids0, h => by
    rw [frz] at h
    obtain ⟨o, ho, h1⟩ := ob_some.1 h
    split at h1
    · rename_i el c z N op
      split at h1
      · rename_i e f
        obtain ⟨he, h2⟩ := gd_some.1 h1
        rw [Nat.beq_eq] at he; subst he
        rw [fB_eq] at h2
        obtain ⟨e1, e2, h3⟩ := two_true h2
        injection h3 with h3 h4; injection h4 with h4 h5; subst h3; subst h4; subst h5
        rw [Nat.ble_eq] at e1
        have hu : (cond (Nat.beq e 1) (isU8 P el) false) = true → e = 1 := fun hu => by
          obtain ⟨h1, _⟩ := cond_and hu
          rwa [Nat.beq_eq] at h1
        refine ⟨fun i hi => ?_, fun z hz => ?_, fun ids hids hsub v hv => row_av r hids (hsub _ (List.mem_cons_self ..)) ho e1 hu e2 hv⟩
        · rw [List.mem_singleton] at hi; subst hi; exact ⟨_, ho⟩
        · rw [List.mem_singleton] at hz; subst hz
          exact ⟨List.mem_cons_self .., fun ids hids hid v hv => row_av r hids hid ho e1 hu e2 hv⟩
      · cases h1
    · cases h1
  | .sl id off n cap, a', fz, ids0, h => by
    rw [frz] at h
    obtain ⟨hof, h1⟩ := gd_some.1 h
    obtain ⟨hof, hcap⟩ := cond_and hof
    rw [Nat.beq_eq] at hof; subst hof
    rw [Nat.ble_eq] at hcap
    obtain ⟨o, ho, h2⟩ := ob_some.1 h1
    split at h2
    · rename_i el c z N op
      obtain ⟨i, hi, h3⟩ := ob_some.1 h2
      obtain ⟨hs, h4⟩ := gd_some.1 h3
      obtain ⟨l, hl, h5⟩ := ob_some.1 h4
      obtain ⟨hone, h6⟩ := gd_some.1 h5
      rw [Nat.blt_eq] at hs
      rw [fB_eq] at h6
      have hids : idsOK H [id] := fun i hi => by rw [List.mem_singleton] at hi; subst hi; exact ⟨_, ho⟩
      have vec : ∀ ids, idsOK H ids → (∀ i ∈ [id], i ∈ ids) → ∀ v, VR ρ (.sl id 0 n cap) v → VR (frzR ρ w ids) (.vec i.size n (chunk i.size n l)) v ∧ l.length = n * i.size := fun ids hids hsub v hv => by
        cases hv with
        | sl _ _ _ _ b hb =>
          obtain ⟨vs, g1, g2, _⟩ := evCells_sound r (HS.refl ρ H) hb hl
          exact ⟨cells_vec r hids (hsub _ (List.mem_cons_self ..)) hs hl hb hcap, by rw [g1.length, g2]⟩
      cases hu : (cond (Nat.beq i.size 1) (isU8 P el) false) with
      | false =>
        rw [hu, cond_false] at h6
        injection h6 with h6; injection h6 with _ h6; injection h6 with h6 h7; injection h7 with h7 h8; subst h6; subst h7; subst h8
        exact ⟨hids, fun z hz => by simp at hz, fun ids hids hsub v hv => (vec ids hids hsub v hv).1⟩
      | true =>
        rw [hu, cond_true] at h6
        injection h6 with h6; injection h6 with hb h6; injection h6 with h6 h7; injection h7 with h7 h8; subst h6; subst h7; subst h8
        obtain ⟨h1, _⟩ := cond_and hu
        rw [Nat.beq_eq] at h1
        refine ⟨hids, fun z hz => by simp at hz, fun ids hids hsub v hv => ?_⟩
        obtain ⟨g1, g2⟩ := vec ids hids hsub v hv
        rw [h1] at g1 g2
        exact vec_bytes g1 (by omega) hb
    · cases h2
  | .slo id off n esz, a', fz, ids0, h => by
    rw [frz] at h
    obtain ⟨hof, h1⟩ := gd_some.1 h
    rw [Nat.beq_eq] at hof; subst hof
    obtain ⟨o, ho, h2⟩ := ob_some.1 h1
    split at h2
    · rename_i el c z N op
      obtain ⟨l, hl, h5⟩ := ob_some.1 h2
      obtain ⟨hone, h6⟩ := gd_some.1 h5
      rw [fB_eq] at h6
      have hids : idsOK H [id] := fun i hi => by rw [List.mem_singleton] at hi; subst hi; exact ⟨_, ho⟩
      have vec : ∀ ids, idsOK H ids → (∀ i ∈ [id], i ∈ ids) → ∀ v, VR ρ (.slo id 0 n esz) v → VR (frzR ρ w ids) (.vec esz n (chunk esz n l)) v ∧ l.length = n * esz := fun ids hids hsub v hv => by
        cases hv with
        | slo _ _ _ _ b hb he hle =>
          obtain ⟨vs, g1, g2, _⟩ := evCells_sound r (HS.refl ρ H) hb hl
          refine ⟨?_, by rw [g1.length, g2]⟩
          rw [Nat.add_zero, Nat.sub_zero]
          exact cells_vec r hids (hsub _ (List.mem_cons_self ..)) he hl hb (by rw [Nat.le_div_iff_mul_le he]; omega)
      cases hu : (cond (Nat.beq esz 1) (isU8 P el) false) with
      | false =>
        rw [hu, cond_false] at h6
        injection h6 with h6; injection h6 with _ h6; injection h6 with h6 h7; injection h7 with h7 h8; subst h6; subst h7; subst h8
        exact ⟨hids, fun z hz => by simp at hz, fun ids hids hsub v hv => (vec ids hids hsub v hv).1⟩
      | true =>
        rw [hu, cond_true] at h6
        injection h6 with h6; injection h6 with hb h6; injection h6 with h6 h7; injection h7 with h7 h8; subst h6; subst h7; subst h8
        obtain ⟨h1, _⟩ := cond_and hu
        rw [Nat.beq_eq] at h1
        subst h1
        refine ⟨hids, fun z hz => by simp at hz, fun ids hids hsub v hv => ?_⟩
        obtain ⟨g1, g2⟩ := vec ids hids hsub v hv
        exact vec_bytes g1 (by omega) hb
    · cases h2
  | .agg l, a', fz, ids0, h => by
    rw [frz] at h
    obtain ⟨⟨s, l', q, i⟩, hl, h1⟩ := ob_some.1 h
    injection h1 with h1; injection h1 with h1 h2; injection h2 with h2 h3; injection h3 with h3 h4
    simp only at h1 h2 h3 h4; subst h1; subst h2; subst h3; subst h4
    obtain ⟨h5, h6, h7⟩ := frzL_sound r l l' q i hl
    refine ⟨h5, h6, fun ids hids hsub v hv => ?_⟩
    cases hv with
    | agg _ vs hvs => exact .agg _ _ (h7 ids hids hsub vs hvs)
  | .tup l, a', fz, ids0, h => by
    rw [frz] at h
    obtain ⟨⟨s, l', q, i⟩, hl, h1⟩ := ob_some.1 h
    injection h1 with h1; injection h1 with h1 h2; injection h2 with h2 h3; injection h3 with h3 h4
    simp only at h1 h2 h3 h4; subst h1; subst h2; subst h3; subst h4
    obtain ⟨h5, h6, h7⟩ := frzL_sound r l l' q i hl
    refine ⟨h5, h6, fun ids hids hsub v hv => ?_⟩
    cases hv with
    | tup _ vs hvs => exact .tup _ _ (h7 ids hids hsub vs hvs)
  | .iface t x, a', fz, ids0, h => by
    rw [frz] at h
    obtain ⟨⟨s, x', q, i⟩, hl, h1⟩ := ob_some.1 h
    injection h1 with h1; injection h1 with h1 h2; injection h2 with h2 h3; injection h3 with h3 h4
    simp only at h1 h2 h3 h4; subst h1; subst h2; subst h3; subst h4
    obtain ⟨h5, h6, h7⟩ := frz_sound r x x' q i hl
    refine ⟨h5, h6, fun ids hids hsub v hv => ?_⟩
    cases hv with
    | iface _ _ u hu => exact .iface _ _ _ (h7 ids hids hsub u hu)
  | .fn (.func g) x y, a', fz, ids0, h => by
    rw [frz] at h
    obtain ⟨⟨s1, x', q1, i1⟩, hx, h1⟩ := ob_some.1 h
    obtain ⟨⟨s2, y', q2, i2⟩, hy, h2⟩ := ob_some.1 h1
    obtain ⟨e1, e2, h3⟩ := two_true h2
    injection h3 with h3 h4; injection h4 with h4 h5; simp only at e1 e2 h3 h4 h5; subst e1; subst e2; subst h3; subst h4; subst h5
    obtain ⟨a1, a2, a3⟩ := frzL_sound r x x' q1 i1 hx
    obtain ⟨b1, b2, b3⟩ := frzL_sound r y y' q2 i2 hy
    refine ⟨fun i hi => ?_, fun z hz => ?_, fun ids hids hsub v hv => ?_⟩
    · rcases List.mem_append.1 hi with h | h
      · exact a1 i h
      · exact b1 i h
    · rcases List.mem_append.1 hz with h | h
      · exact ⟨List.mem_append_left _ (a2 z h).1, (a2 z h).2⟩
      · exact ⟨List.mem_append_right _ (b2 z h).1, (b2 z h).2⟩
    · cases hv with
      | fn _ _ _ va vc h6 h7 => exact .fn _ _ _ _ _ (a3 ids hids (fun i hi => hsub i (List.mem_append_left _ hi)) va h6) (b3 ids hids (fun i hi => hsub i (List.mem_append_right _ hi)) vc h7)
  | .sle id, a', fz, ids0, h => by
    rw [frz] at h
    injection h with h; injection h with _ h; injection h with h1 h; injection h with h2 h3; subst h1; subst h2; subst h3
    exact ⟨fun i hi => by simp at hi, fun z hz => by simp at hz, fun ids _ _ v hv => by cases hv; exact .vecz _ _ _ rfl _ _⟩
  | .bool _, a', fz, ids0, h | .int _ _, a', fz, ids0, h | .str _ _, a', fz, ids0, h | .bs _, a', fz, ids0, h | .bv _, a', fz, ids0, h | .vec _ _ _, a', fz, ids0, h | .pv _, a', fz, ids0, h | .mapv _ _ _, a', fz, ids0, h
  | .ptr0, a', fz, ids0, h | .sl0, a', fz, ids0, h | .map0, a', fz, ids0, h | .fn0, a', fz, ids0, h | .iface0, a', fz, ids0, h => by
    rw [frz] at h
    injection h with h; injection h with _ h; injection h with h1 h; injection h with h2 h3; subst h1; subst h2; subst h3
    exact ⟨fun i hi => by simp at hi, fun z hz => by simp at hz, fun ids hids _ v hv => hv.mono (frzR_rel r hids).1.le⟩
  | .ptr _ _, _, _, _, h | .map _, _, _, _, h | .yld _, _, _, _, h | .gptr _ _, _, _, _, h | .chan0, _, _, _, h | .chan _, _, _, _, h | .pel _ _ _ _, _, _, _, h => by simp [frz] at h
  | .fn (.method _) _ _, _, _, _, h | .fn (.methodOf _ _) _ _, _, _, _, h | .fn (.via _ _ _ _) _ _, _, _, _, h | .fn (.yield _) _ _, _, _, _, h => by simp [frz] at h
theorem frzL_sound {P : Program} {E : Env} {F : Nat → Option Obj} {nx : Nat} {ρ : Ren} {w : World} {H : Tr AObj} (r : Rel E F nx ρ H.get w) : ∀ (a a' : List AV) (fz : List FZ) (ids0 : List Nat), frzL P H a = some (true, a', fz, ids0) →
    idsOK H ids0 ∧ FzOK ρ w H fz ids0 ∧ ∀ ids, idsOK H ids → (∀ i ∈ ids0, i ∈ ids) → ∀ v, VRL ρ a v → VRL (frzR ρ w ids) a' v
  | [], a', fz, ids0, h => by
    rw [frzL] at h
    injection h with h; injection h with _ h; injection h with h1 h; injection h with h2 h3; subst h1; subst h2; subst h3
    exact ⟨fun i hi => by simp at hi, fun z hz => by simp at hz, fun ids _ _ v hv => by cases hv; exact .nil⟩
  | x :: l, a', fz, ids0, h => by
    rw [frzL] at h
    obtain ⟨⟨s1, x', q1, i1⟩, hx, h1⟩ := ob_some.1 h
    obtain ⟨⟨s2, l', q2, i2⟩, hl, h2⟩ := ob_some.1 h1
    obtain ⟨e1, e2, h3⟩ := two_true h2
    injection h3 with h3 h4; injection h4 with h4 h5; simp only at e1 e2 h3 h4 h5; subst e1; subst e2; subst h3; subst h4; subst h5
    obtain ⟨a1, a2, a3⟩ := frz_sound r x x' q1 i1 hx
    obtain ⟨b1, b2, b3⟩ := frzL_sound r l l' q2 i2 hl
    refine ⟨fun i hi => ?_, fun z hz => ?_, fun ids hids hsub v hv => ?_⟩
    · rcases List.mem_append.1 hi with h | h
      · exact a1 i h
      · exact b1 i h
    · rcases List.mem_append.1 hz with h | h
      · exact ⟨List.mem_append_left _ (a2 z h).1, (a2 z h).2⟩
      · exact ⟨List.mem_append_right _ (b2 z h).1, (b2 z h).2⟩
    · cases hv with
      | cons _ u _ us h6 h7 => exact .cons _ _ _ _ (a3 ids hids (fun i hi => hsub i (List.mem_append_left _ hi)) u h6) (b3 ids hids (fun i hi => hsub i (List.mem_append_right _ hi)) us h7)
end
end Go.Ev
