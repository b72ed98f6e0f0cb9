/- The symbolic layer, part E: stores into rows, append. -/
import Derived.Test.YtblcpogddmjonaaDoorEvI
set_option linter.unusedVariables false
set_option linter.unusedSimpArgs false
namespace Go.Ev

/-- An element, whole: so many cells, one value each. -/
def rowOk (size : Nat) (l : List AV) : Bool := cond (Nat.beq l.length size) (l.all AV.one) false
def goodR (size k : Nat) (g : Nat → List AV) : Bool := decide (∀ i, i < k → rowOk size (g i) = true)
theorem goodR_of {size k : Nat} {g : Nat → List AV} (h : ∀ i, i < k → rowOk size (g i) = true) : goodR size k g = true := by unfold goodR; simpa using h

/-- Values that stand for elements. -/
def RowsRel (ρ : Ren) (size k : Nat) (g : Nat → List AV) (vs : List Value) : Prop :=
  vs.length = k * size ∧ ∀ i, i < k → ∀ j a, j < size → (g i)[j]? = some a → ∃ v, vs[i * size + j]? = some v ∧ VR ρ a v

theorem split_lt {p k size : Nat} (hs : 0 < size) (hp : p < k * size) : p / size < k ∧ p % size < size ∧ p / size * size + p % size = p := by
  refine ⟨Nat.div_lt_of_lt_mul (by rwa [Nat.mul_comm]), Nat.mod_lt _ hs, ?_⟩
  rw [Nat.mul_comm]; exact Nat.div_add_mod p size

theorem rowOk_get {ρ : Ren} {size : Nat} {l : List AV} {vs : List Value} (h : rowOk size l = true) (hv : VRL ρ l vs) : vs.length = size ∧ ∀ v ∈ vs, v.oneCell' = true := by
  unfold rowOk at h
  obtain ⟨h1, h2⟩ := cond_and h
  rw [Nat.beq_eq] at h1
  exact ⟨by rw [← hv.length, h1], all_one hv h2⟩

/-- Out of elements that are whole: the cells, one behind the other. -/
theorem rows_flat {ρ : Ren} {size k : Nat} {g : Nat → List AV} {cell : Nat → Option Value} (hs : 0 < size) (hg : goodR size k g = true)
    (h : ∀ i, i < k → ∃ vs, VRL ρ (g i) vs ∧ ∀ j v, vs[j]? = some v → cell (i * size + j) = some v) :
    ∃ vs, RowsRel ρ size k g vs ∧ (∀ v ∈ vs, v.oneCell' = true) ∧ ∀ j v, vs[j]? = some v → cell j = some v := by
  classical
  unfold goodR at hg
  simp only [decide_eq_true_eq] at hg
  have hc : ∀ p, ∃ v, p < k * size → cell p = some v ∧ v.oneCell' = true ∧ ∀ a, (g (p / size))[p % size]? = some a → VR ρ a v := fun p => by
    by_cases hp : p < k * size
    · obtain ⟨h1, h2, h3⟩ := split_lt hs hp
      obtain ⟨vs, hv, hcell⟩ := h _ h1
      obtain ⟨hl, ho⟩ := rowOk_get (hg _ h1) hv
      have hlt : p % size < vs.length := by omega
      refine ⟨vs[p % size], fun _ => ⟨?_, ho _ (List.getElem_mem hlt), fun a ha => hv.get2 ha (List.getElem?_eq_getElem hlt)⟩⟩
      have := hcell (p % size) _ (List.getElem?_eq_getElem hlt)
      rwa [h3] at this
    · exact ⟨undef, fun h => absurd h hp⟩
  refine ⟨(List.range (k * size)).map fun p => Classical.choose (hc p), ⟨by simp, fun i hi j a hj ha => ?_⟩, fun v hv => ?_, fun j v hj => ?_⟩
  · have hlt : i * size + j < k * size := by
      have : (i + 1) * size ≤ k * size := Nat.mul_le_mul_right _ hi
      rw [Nat.add_mul] at this; omega
    refine ⟨Classical.choose (hc (i * size + j)), by rw [List.getElem?_map, List.getElem?_range hlt]; rfl, ?_⟩
    refine (Classical.choose_spec (hc (i * size + j)) hlt).2.2 a ?_
    have e1 : (i * size + j) / size = i := by rw [Nat.mul_comm, Nat.mul_add_div hs, Nat.div_eq_of_lt hj, Nat.add_zero]
    have e2 : (i * size + j) % size = j := by rw [Nat.mul_comm, Nat.mul_add_mod, Nat.mod_eq_of_lt hj]
    rw [e1, e2]; exact ha
  · obtain ⟨p, hp, rfl⟩ := List.mem_map.1 hv
    exact (Classical.choose_spec (hc p) (List.mem_range.1 hp)).2.1
  · rw [List.getElem?_map] at hj
    cases hr : (List.range (k * size))[j]? with
    | none => rw [hr] at hj; cases hj
    | some p =>
      rw [hr] at hj
      injection hj with hj; subst hj
      obtain ⟨hlt, rfl⟩ := List.getElem?_eq_some_iff.1 hr
      simp only [List.length_range] at hlt
      have := (Classical.choose_spec (hc j) hlt).1
      simpa using this

/-- Elements of a concrete list. -/
def chunk (size k : Nat) (l : List AV) : Nat → List AV := match k with
  | 1 => fun _ => l
  | _ => fun i => (l.drop (i * size)).take size

noncomputable def sSrc (H : Tr AObj) (size : Nat) (x : AV) : Option (Bool × Nat × (Nat → List AV)) :=
  match x with
  | .bv l => gd (Nat.beq size 1) (some (true, l.length, byteRow l))
  | .bs l => gd (Nat.beq size 1) (some (true, l.length, byteRow l))
  | .str m n => gd (Nat.beq size 1) (some (true, (bytesL m n).length, byteRow (bytesL m n)))
  | .vec e k g => gd (Nat.beq e size) (some (goodR size k g, k, g))
  | .slg id k e => gd (Nat.beq e size) (ob (H.get id) fun o => match o with
    | .cells _ c z N _ => match c, z with
      | .leaf, .rows e' f => gd (Nat.beq e' size) (some (cond (Nat.ble (k * size) N) (goodR size k f) false, k, f))
      | _, _ => none
    | _ => none)
  | .sl0 => some (true, 0, fun _ => [])
  | .sle _ => some (true, 0, fun _ => [])
  | .sl id off k _ => ob (evCells H id off (k * size)) fun l => gd (l.all AV.one) (some (true, k, chunk size k l))
  | .slo id off k _ => ob (evCells H id off (k * size)) fun l => gd (l.all AV.one) (some (true, k, chunk size k l))
  | _ => none

def SrcOK (P : Program) (ρ : Ren) (w : World) (size k : Nat) (g : Nat → List AV) (u : Value) : Prop :=
  ∃ vs : List Value, RowsRel ρ size k g vs ∧ (∀ v ∈ vs, v.oneCell' = true) ∧ ∀ w' : World, (∀ a, w'.cell? a = w.cell? a) → (Builtin.lenOf u).run P w' = .ok k w' ∧ (Builtin.firstCells size k u).run P w' = .ok vs.toArray w'

theorem chunk_rel {ρ : Ren} {size k : Nat} {l : List AV} {vs : List Value} (hv : VRL ρ l vs) (hl : vs.length = k * size) : RowsRel ρ size k (chunk size k l) vs := by
  refine ⟨hl, fun i hi j a hj ha => ?_⟩
  have key : l[i * size + j]? = some a := by
    unfold chunk at ha
    split at ha
    · have : i = 0 := by omega
      subst this; simpa using ha
    · rw [List.getElem?_take, if_pos hj, List.getElem?_drop] at ha
      exact ha
  exact hv.get _ _ key

theorem src_slice {P : Program} {ρ : Ren} {w : World} {size k : Nat} {g : Nat → List AV} {ad : Addr} {cap : Nat} {vs : List Value} (hr : RowsRel ρ size k g vs) (ho : ∀ v ∈ vs, v.oneCell' = true)
    (hc : ∀ j v, vs[j]? = some v → w.cell? (ad.add j) = some v) : SrcOK P ρ w size k g (.slice (some ad) k cap) := by
  refine ⟨vs, hr, ho, fun w' hw => ⟨by simp [Builtin.lenOf], ?_⟩⟩
  have := run_loadCells_list (P := P) w' ad vs (fun j v hj => by rw [hw]; exact hc j v hj)
  rw [hr.1] at this
  simp [Builtin.firstCells, this]

theorem src_none {P : Program} {ρ : Ren} {w : World} {size : Nat} {g : Nat → List AV} {base : Option Addr} {cap : Nat} : SrcOK P ρ w size 0 g (.slice base 0 cap) := by
  refine ⟨[], ⟨by simp, fun i hi => by omega⟩, by simp, fun w' hw => ⟨by simp [Builtin.lenOf], ?_⟩⟩
  cases base with
  | none => simp [Builtin.firstCells]
  | some ad =>
    have := run_loadCells_list (P := P) w' ad [] (fun j v hj => by simp at hj)
    simpa [Builtin.firstCells] using this

theorem byteRow_good (l : List UInt8) : goodR 1 l.length (byteRow l) = true := goodR_of fun _ _ => rfl

theorem src_text {P : Program} {ρ : Ren} {w : World} (l : List UInt8) : SrcOK P ρ w 1 l.length (byteRow l) (.string ⟨l.toArray⟩) := by
  have hsz : (ByteArray.mk l.toArray).size = l.length := by show l.toArray.size = _; simp
  refine ⟨l.map fun b => .int .u8 (b.toNat : Int), ⟨by simp, fun i hi j a hj ha => ?_⟩, fun v hv => ?_, fun w' _ => ⟨by simp only [Builtin.lenOf, Sem.run_pure, hsz], ?_⟩⟩
  · have : j = 0 := by omega
    subst this
    injection ha with ha; subst ha
    refine ⟨_, ?_, .int _ _⟩
    simp only [Nat.mul_one, Nat.add_zero, List.getElem?_map, List.getElem?_eq_getElem hi, Option.map_some, List.getD, Option.getD_some]
  · obtain ⟨b, _, rfl⟩ := List.mem_map.1 hv; rfl
  · simp only [Builtin.firstCells, Sem.run_pure]
    congr 1
    apply Array.ext'
    rw [Array.toList_map, Lib.extract_data]
    simp

theorem sSrc_sound {P : Program} {E : Env} {F : Nat → Option Obj} {nx : Nat} {ρ : Ren} {w : World} {H : Tr AObj} (r : Rel E F nx ρ H.get w)
    {size k : Nat} {g : Nat → List AV} {x : AV} {u : Value} (hsz : 0 < size) (hx : VR ρ x u) (hev : sSrc H size x = some (true, k, g)) : SrcOK P ρ w size k g u := by
  have content : ∀ (esz n : Nat) (f : Nat → List AV), elemsA x = some (esz, n, f) → esz = size → goodR size n f = true → SrcOK P ρ w size n f u := by
    intro esz n f he hz hg
    subst hz
    obtain ⟨⟨base, cap, hu, _⟩, h2⟩ := elems_slice hx he
    by_cases hn : n = 0
    · subst hn; rw [hu]; exact src_none
    · obtain ⟨b, o, cap', cs, el, fz, vs0, hu', hst, _, _⟩ := h2 0 (by omega)
      obtain ⟨vs, h3, h4, h5⟩ := rows_flat (cell := fun p => w.cell? ⟨b, o + p, none⟩) hsz hg fun i hi => by
        obtain ⟨b', o', cap'', cs', el', fz', vs, hu'', hst', hv, hc⟩ := h2 i hi
        rw [hu'] at hu''
        injection hu'' with e1 e2 e3
        injection e1 with e1; injection e1 with e1 e4 e5; subst e1; subst e4
        refine ⟨vs, hv, fun j v hj => ?_⟩
        have := st_cell r hst' (hc j v hj)
        rwa [Nat.add_assoc] at this
      rw [hu']
      exact src_slice h3 h4 fun j v hj => by rw [addr_add]; exact h5 j v hj
  unfold sSrc at hev
  split at hev
  · obtain ⟨hz, h1⟩ := gd_some.1 hev
    injection h1 with h1; injection h1 with _ h1; injection h1 with h1 h2; subst h1; subst h2
    rw [Nat.beq_eq] at hz; subst hz
    exact content 1 _ _ rfl rfl (byteRow_good _)
  · obtain ⟨hz, h1⟩ := gd_some.1 hev
    injection h1 with h1; injection h1 with _ h1; injection h1 with h1 h2; subst h1; subst h2
    rw [Nat.beq_eq] at hz; subst hz
    cases hx
    exact src_text _
  · obtain ⟨hz, h1⟩ := gd_some.1 hev
    injection h1 with h1; injection h1 with _ h1; injection h1 with h1 h2; subst h1; subst h2
    rw [Nat.beq_eq] at hz; subst hz
    rw [strL_val hx rfl]
    exact src_text _
  · obtain ⟨hz, h1⟩ := gd_some.1 hev
    injection h1 with h1; injection h1 with hg h1; injection h1 with h1 h2; subst h1; subst h2
    rw [Nat.beq_eq] at hz
    exact content _ _ _ rfl hz hg
  · rename_i id n e
    obtain ⟨hz, h1⟩ := gd_some.1 hev
    rw [Nat.beq_eq] at hz; subst hz
    obtain ⟨o, ho, h2⟩ := ob_some.1 h1
    clear hev h1
    split at h2
    · split at h2
      · rename_i e' f
        obtain ⟨hz, h3⟩ := gd_some.1 h2
        rw [Nat.beq_eq] at hz; subst hz
        obtain ⟨e1, e2, h4⟩ := two_true h3
        injection h4 with h4 h5; subst h4; subst h5
        rw [Nat.ble_eq] at e1
        cases hx with
        | slg0 _ _ _ hn => subst hn; exact src_none
        | slg _ _ _ b hb _ hl =>
          obtain ⟨vs, h3, h4, h5⟩ := rows_flat (ρ := ρ) (cell := fun p => w.cell? ⟨b.b, b.ob + p, none⟩) hsz e2 fun i hi => by
            refine VRL.of_get (ρ := ρ) _ fun j a hj => ?_
            have hok : rowOk _ _ = true := (by have := e2; unfold goodR at this; simp only [decide_eq_true_eq] at this; exact this i hi)
            unfold rowOk at hok
            obtain ⟨hle, _⟩ := cond_and hok
            rw [Nat.beq_eq] at hle
            have hjl := (List.getElem?_eq_some_iff.1 hj).1
            have hm := Nat.mul_le_mul_right (f i).length hi
            rw [hle, Nat.succ_mul] at hm
            exact cell_of r ho hb (by omega) (by rw [cellOf_leaf, rows_at (i := i) (j := j) (by omega) _ rfl]; exact hj)
          exact src_slice h3 h4 fun j v hj => by rw [addr_add]; exact h5 j v hj
      · cases h2
    · cases h2
  · injection hev with h1; injection h1 with _ h1; injection h1 with h1 h2; subst h1; subst h2
    cases hx; exact src_none
  · injection hev with h1; injection h1 with _ h1; injection h1 with h1 h2; subst h1; subst h2
    cases hx; exact src_none
  · obtain ⟨l, hl, h1⟩ := ob_some.1 hev
    obtain ⟨hone, h2⟩ := gd_some.1 h1
    injection h2 with h2; injection h2 with _ h2; injection h2 with h2 h3; subst h2; subst h3
    cases hx with
    | sl _ _ _ _ b hb =>
      obtain ⟨vs, h1, h2, h3⟩ := evCells_sound r (HS.refl ρ H) hb hl
      exact src_slice (chunk_rel h1 h2) (all_one h1 hone) h3
  · obtain ⟨l, hl, h1⟩ := ob_some.1 hev
    obtain ⟨hone, h2⟩ := gd_some.1 h1
    injection h2 with h2; injection h2 with _ h2; injection h2 with h2 h3; subst h2; subst h3
    cases hx with
    | slo _ _ _ _ b hb _ _ =>
      obtain ⟨vs, h1, h2, h3⟩ := evCells_sound r (HS.refl ρ H) hb hl
      exact src_slice (chunk_rel h1 h2) (all_one h1 hone) h3
  · cases hev

/-! ### append -/
def appF (n : Nat) (f g : Nat → List AV) : Nat → List AV := fun i => cond (Nat.blt i n) (f i) (g (i - n))

noncomputable def sDest (H : Tr AObj) (el size : Nat) (s : AV) : Option (Bool × Nat × (Nat → List AV) × Tr AObj) :=
  match s with
  | .slg id n e => gd (Nat.beq e size) (ob (H.get id) fun o => match o with
    | .cells el' c z N _ => match c, z with
      | .leaf, .rows e' f => gd (Nat.beq e' size) (gd (Nat.beq el' el) (some (Nat.ble (n * size) N, n, f, H.del id)))
      | _, _ => none
    | _ => none)
  | _ => none

noncomputable def sAppend (P : Program) (H : Tr AObj) (ni : Nat) (ts : List TypeId) (xs : List AV) : Option (Bool × AV × Tr AObj) :=
  match ts, xs with
  | [t, tx], [s, x] => ob (P.underlying t) fun d => match d with
    | .slice el => ob (P.underlying tx) fun dx => gd (srcD dx) (ob (P.info? el) fun i => ob i.zero fun z => gd (Nat.blt 0 i.size && Nat.beq z.cells.size i.size) (match s, x with
        | .sl0, .sl _ _ _ _ => none
        | .sl0, .slo _ _ _ _ => none
        | .sl0, .sl0 => none
        | .sl0, .sle _ => none
        | .sl0, x => ob (sSrc H i.size x) fun src =>
            some (cond src.1 (decide (src.2.1 ≤ 9223372036854775807 ∧ src.2.1 * i.bytes ≤ 140737488355328)) false, .slg ni src.2.1 i.size, H.set ni (.cells el .leaf (.rows i.size src.2.2) (src.2.1 * i.size) true))
        | s, x => ob (sDest H el i.size s) fun dst => ob (sSrc H i.size x) fun src =>
            some (cond (cond dst.1 src.1 false) (decide (dst.2.1 + src.2.1 ≤ 9223372036854775807 ∧ (dst.2.1 + src.2.1) * i.bytes ≤ 140737488355328)) false,
              .slg ni (dst.2.1 + src.2.1) i.size, dst.2.2.2.set ni (.cells el .leaf (.rows i.size (appF dst.2.1 dst.2.2.1 src.2.2)) ((dst.2.1 + src.2.1) * i.size) true))))
    | _ => none
  | _, _ => none

/-- Rows behind rows, wherever they lie now. -/
theorem rows_or {ρ : Ren} {b : Blk} {size n k el : Nat} {f g : Nat → List AV} {vs : List Value} {cs' : Array Value} {fz : Nat × Nat} (hs : 0 < size) (hsize : cs'.size = b.ob + b.cap) (hle : (n + k) * size ≤ b.cap) (hfz : fzOk cs' fz)
    (hold : ∀ p a, p < n * size → CB.at (.rows size f) p = some a → ∃ v, cs'[b.ob + p]? = some v ∧ VR ρ a v) (hr : RowsRel ρ size k g vs) (hnew : ∀ p v, vs[p]? = some v → cs'[b.ob + (n * size + p)]? = some v) :
    OR ρ b (.cells el .leaf (.rows size (appF n f g)) ((n + k) * size) true) (.cells cs' el fz) := by
  refine .cells _ _ _ _ true cs' fz hsize hle (by simp) hfz fun p a hp ha => ?_
  rw [cellOf_leaf] at ha
  obtain ⟨h1, h2, h3⟩ := split_lt hs hp
  have ha' : ((appF n f g) (p / size))[p % size]? = some a := ha
  unfold appF at ha'
  cases hb : Nat.blt (p / size) n with
  | true =>
    rw [hb, cond_true] at ha'
    rw [Nat.blt_eq] at hb
    have hlt : p < n * size := by
      have : (p / size + 1) * size ≤ n * size := Nat.mul_le_mul_right _ hb
      rw [Nat.succ_mul] at this; omega
    exact hold p a hlt ha'
  | false =>
    rw [hb, cond_false] at ha'
    have hge : n ≤ p / size := by
      rcases Nat.lt_or_ge (p / size) n with h | h
      · rw [← Nat.blt_eq, hb] at h; cases h
      · exact h
    obtain ⟨v, hv, hvr⟩ := hr.2 (p / size - n) (by omega) (p % size) a h2 ha'
    refine ⟨v, ?_, hvr⟩
    have h4 := hnew _ v hv
    have h5 : n * size + ((p / size - n) * size + p % size) = p := by
      have h6 : n * size ≤ p / size * size := Nat.mul_le_mul_right _ hge
      rw [Nat.sub_mul]; omega
    rwa [h5] at h4

set_option maxHeartbeats 1000000 in
theorem sAppend_sound {P : Program} {E : Env} {F : Nat → Option Obj} {nx nx' : Nat} {ρ : Ren} {w : World} {H H' : Tr AObj} (r : Rel E F nx ρ H.get w)
    {ni : Nat} (hni : ρ ni = none) (hnx : nx ≤ nx') (hni' : ni < nx') {ts : List TypeId} {xs : List AV} {us : List Value} {a : AV} (hx : VRL ρ xs us) (hev : sAppend P H ni ts xs = some (true, a, H')) (ty : TypeId) :
    ∃ v w' ρ', (Builtin.append_ ts.toArray ty us.toArray).run P w = .ok v w' ∧ Rel E F nx' ρ' H'.get w' ∧ (ρ.le ρ' ∧ ∀ x, x ≠ ni → ρ' x = ρ x) ∧ VR ρ' a v := by
  unfold sAppend at hev
  split at hev
  · rename_i t tx s x
    cases hx with
    | cons _ us0 _ _ hs0 hxs => cases hxs with
      | cons _ ux _ _ hsx hnil =>
        cases hnil
        obtain ⟨d, hd, h1⟩ := ob_some.1 hev
        clear hev
        split at h1
        · rename_i el
          obtain ⟨dx, hdx, h2⟩ := ob_some.1 h1
          obtain ⟨hsd, h3⟩ := gd_some.1 h2
          obtain ⟨i, hi, h4⟩ := ob_some.1 h3
          obtain ⟨z, hz, h5⟩ := ob_some.1 h4
          obtain ⟨hsz, h6⟩ := gd_some.1 h5
          clear h1 h2 h3 h4 h5
          rw [Bool.and_eq_true, Nat.blt_eq, Nat.beq_eq] at hsz
          obtain ⟨hsz, hzs⟩ := hsz
          have hzc : ∀ m, (Builtin.zeroCells z.cells m).size = m * i.size := fun m => by rw [size_zeroCells', hzs]
          -- nothing there: a new row, or nil again
          have fromNil : ∀ (k : Nat) (g : Nat → List AV) (H0 : Tr AObj), us0 = .slice none 0 0 → SrcOK P ρ w i.size k g ux → k ≤ 9223372036854775807 → k * i.bytes ≤ 140737488355328 → (∀ j o, H0.get j = some o → H.get j = some o) →
              ∀ f, ∃ v w' ρ', (Builtin.append_ [t, tx].toArray ty [us0, ux].toArray).run P w = .ok v w' ∧ Rel E F nx' ρ' (H0.set ni (.cells el .leaf (.rows i.size (appF 0 f g)) ((0 + k) * i.size) true)).get w' ∧ (ρ.le ρ' ∧ ∀ x, x ≠ ni → ρ' x = ρ x) ∧ VR ρ' (.slg ni (0 + k) i.size) v := by
            intro k g H0 hu0 ⟨vs, hr, hone, hsrc⟩ hk1 hk2 hH f
            subst hu0
            obtain ⟨hl0, hc0⟩ := hsrc w (fun _ => rfl)
            obtain ⟨_, hcd⟩ := hsrc w.drew (fun _ => rfl)
            by_cases hk : k = 0
            · subst hk
              refine ⟨_, w, ρ, append_fits (base := none) (len := 0) (cap := 0) (ty := ty) hd hdx hsd hi hl0 hc0 (by omega) rfl, ?_, ⟨Ren.le_refl ρ, fun _ _ => rfl⟩, .slg0 _ _ _ rfl⟩
              rw [get_set_fun]
              have hrl := (r.less (h' := H0.get) hH).nx_le hnx
              refine ⟨hrl.tape, hrl.os, hrl.output, hrl.fr, fun j o b hj hb => ?_, fun j o b hj hb => ?_, fun j j' o o' b b' hj hj' hb hb' => ?_, hrl.new, fun q l hq => ?_, hrl.bs, hrl.st, fun j o b hj hb => ?_, hrl.sf⟩
              · by_cases hji : j = ni
                · subst hji; rw [hni] at hb; cases hb
                · simp only [hji, if_false] at hj; exact hrl.ob j o b hj hb
              · by_cases hji : j = ni
                · subst hji; rw [hni] at hb; cases hb
                · simp only [hji, if_false] at hj; exact hrl.dj j o b hj hb
              · by_cases hji : j = ni
                · subst hji; rw [hni] at hb; cases hb
                · by_cases hji' : j' = ni
                  · subst hji'; rw [hni] at hb'; cases hb'
                  · simp only [hji, hji', if_false] at hj hj'; exact hrl.inj j j' o o' b b' hj hj' hb hb'
              · by_cases hqi : q = ni
                · subst hqi; simp at hq
                · simp only [hqi, if_false] at hq; exact hrl.gl q l hq
              · by_cases hji : j = ni
                · subst hji; rw [hni] at hb; cases hb
                · simp only [hji, if_false] at hj; exact hrl.sd j o b hj hb
            · have hrun := append_grows (base := none) (len := 0) (cap := 0) (ty := ty) (olds := []) hd hdx hsd hi hz hl0 (by simp [Builtin.firstCells]) hcd (by omega) (by omega) (by simpa using hk2)
              simp only [List.nil_append] at hrun
              have hcap : 0 + k ≤ grownCap w (0 + k) 0 el := by simp [grownCap, Question.cut]
              generalize hcc : grownCap w (0 + k) 0 el = cap at hrun hcap
              have hle : (0 + k) * i.size ≤ cap * i.size := Nat.mul_le_mul_right _ hcap
              have hvl := hr.1
              have hmono := Ren.le_put (ρ := ρ) hni ⟨w.heap.size, 0, cap * i.size⟩
              have hsub : (cap - (0 + k)) * i.size = cap * i.size - (0 + k) * i.size := Nat.sub_mul _ _ _
              have h0k : (0 + k) * i.size = k * i.size := by rw [Nat.zero_add]
              have hsub' : (cap - k) * i.size = cap * i.size - k * i.size := Nat.sub_mul _ _ _
              have hor := rows_or (ρ := ρ.put ni ⟨w.heap.size, 0, cap * i.size⟩) (b := ⟨w.heap.size, 0, cap * i.size⟩) (size := i.size) (n := 0) (k := k) (el := el) (f := f) (g := g) (vs := vs)
                (cs' := vs.toArray ++ Builtin.zeroCells z.cells (cap - (0 + k))) (fz := (0, 0)) hsz (by simp [hzc]; omega) hle (.inl rfl) (fun p a hp => by omega)
                ⟨hvl, fun q hq j a hj ha => let ⟨v, h1, h2⟩ := hr.2 q hq j a hj ha; ⟨v, h1, h2.mono hmono⟩⟩ (fun p v hp => by
                  have hlt := (List.getElem?_eq_some_iff.1 hp).1
                  simp only [Nat.zero_mul, Nat.zero_add]
                  rw [Array.getElem?_append, if_pos (by simpa using hlt)]
                  simpa using hp)
              obtain ⟨h1, h2⟩ := (r.drew.less (h' := H0.get) hH).alloc hni hnx hni' hor
              refine ⟨_, _, ρ.put ni ⟨w.heap.size, 0, cap * i.size⟩, hrun, by rw [get_set_fun]; exact h1, ⟨hmono, fun x hx => Ren.put_ne hx _⟩, ?_⟩
              have := VR.slg (ρ := ρ.put ni ⟨w.heap.size, 0, cap * i.size⟩) ni (0 + k) i.size ⟨w.heap.size, 0, cap * i.size⟩ (Ren.put_same _ _ _) hsz hle
              simpa [Nat.mul_div_cancel _ hsz] using this
          have nilDest : ∀ src : Bool × Nat × (Nat → List AV), sSrc H i.size x = some src → s = .sl0 →
              some (cond src.1 (decide (src.2.1 ≤ 9223372036854775807 ∧ src.2.1 * i.bytes ≤ 140737488355328)) false, AV.slg ni src.2.1 i.size, H.set ni (.cells el .leaf (.rows i.size src.2.2) (src.2.1 * i.size) true)) = some (true, a, H') →
              ∃ v w' ρ', (Builtin.append_ [t, tx].toArray ty [us0, ux].toArray).run P w = .ok v w' ∧ Rel E F nx' ρ' H'.get w' ∧ (ρ.le ρ' ∧ ∀ x, x ≠ ni → ρ' x = ρ x) ∧ VR ρ' a v := by
            rintro ⟨sb, k, g⟩ hsrc hs h7
            subst hs
            obtain ⟨e1, e2, h8⟩ := two_true h7
            injection h8 with h8 h9; subst h8; subst h9
            simp only [decide_eq_true_eq] at e1 e2
            subst e1
            have hu0 : us0 = .slice none 0 0 := by cases hs0; rfl
            have hok := sSrc_sound (P := P) r hsz hsx hsrc
            have := fromNil k g H hu0 hok e2.1 e2.2 (fun _ _ h => h) (fun _ => [])
            have hf : appF 0 (fun _ => []) g = g := by funext q; rfl
            rw [hf, Nat.zero_add] at this
            exact this
          split at h6
          · cases h6
          · cases h6
          · cases h6
          · cases h6
          · obtain ⟨src, hsrc, h7⟩ := ob_some.1 h6
            exact nilDest src hsrc rfl h7
          · obtain ⟨⟨db, n, f, H0⟩, hdst, h7⟩ := ob_some.1 h6
            obtain ⟨⟨sb, k, g⟩, hsrc, h8⟩ := ob_some.1 h7
            obtain ⟨e1, e2, h9⟩ := two_true h8
            injection h9 with h9 h10; subst h9; subst h10
            obtain ⟨e3, e4⟩ := cond_and e1
            simp only [decide_eq_true_eq] at e2 e3 e4
            subst e3; subst e4
            have hok := sSrc_sound (P := P) r hsz hsx hsrc
            clear h6 h7 h8 e1 nilDest
            cases s with
            | slg id n' e =>
              simp only [sDest] at hdst
              obtain ⟨hez, h1⟩ := gd_some.1 hdst
              rw [Nat.beq_eq] at hez
              obtain ⟨o, ho, h2⟩ := ob_some.1 h1
              clear hdst h1
              split at h2
              · rename_i el' c0 z0 N op
                split at h2
                · rename_i e' f'
                  obtain ⟨he', h3⟩ := gd_some.1 h2
                  obtain ⟨hel, h4⟩ := gd_some.1 h3
                  injection h4 with h4; injection h4 with hN h4; injection h4 with h4 h5; injection h5 with h5 h6
                  subst h4; subst h5; subst h6
                  rw [Nat.beq_eq] at he' hel
                  rw [Nat.ble_eq] at hN
                  subst hel; subst hez
                  cases hs0 with
                  | slg0 _ _ _ hn =>
                    subst hn
                    have := fromNil k g (H.del id) rfl hok (by omega) (by simpa using e2.2) (get_del_fun H id) f'
                    exact this
                  | slg _ _ _ b hb he hl =>
                    obtain ⟨vs, hr, hone, hsrc'⟩ := hok
                    obtain ⟨hl0, hc0⟩ := hsrc' w (fun _ => rfl)
                    obtain ⟨_, hcd⟩ := hsrc' w.drew (fun _ => rfl)
                    obtain ⟨oc, hoc, hor⟩ := r.ob _ _ b ho hb
                    cases hor with
                    | cells _ _ _ _ _ cs fz hsize hn hop hfz hcell =>
                      have hcapl : n' ≤ b.cap / i.size := by rw [Nat.le_div_iff_mul_le he]; exact hl
                      have hadd : (n' + k) * i.size = n' * i.size + k * i.size := Nat.add_mul _ _ _
                      have hvl := hr.1
                      rcases Nat.lt_or_ge (b.cap / i.size) (n' + k) with hlt | hge
                      · -- a new row
                        let olds : List Value := (List.range (n' * i.size)).map fun p => (cs[b.ob + p]?).getD undef
                        have holds : ∀ p, p < n' * i.size → olds[p]? = cs[b.ob + p]? := fun p hp => by
                          have hb1 : b.ob + p < cs.size := by omega
                          simp only [olds, List.getElem?_map, List.getElem?_range hp, Option.map_some]
                          rw [Array.getElem?_eq_getElem hb1]; rfl
                        have holen : olds.length = n' * i.size := by simp [olds]
                        have hof : (Builtin.firstCells i.size n' (.slice (some ⟨b.b, b.ob, none⟩) n' (b.cap / i.size))).run P w.drew = .ok olds.toArray w.drew := by
                          have := run_loadCells_list (P := P) w.drew ⟨b.b, b.ob, none⟩ olds (fun j v hj => by
                            have hjl := (List.getElem?_eq_some_iff.1 hj).1
                            rw [holen] at hjl
                            rw [holds j hjl] at hj
                            rw [addr_add]
                            show w.cell? _ = _
                            simp [World.cell?, hoc, hj])
                          rw [holen] at this
                          simp [Builtin.firstCells, this]
                        have hrun := append_grows (base := some ⟨b.b, b.ob, none⟩) (ty := ty) hd hdx hsd hi hz hl0 hof hcd hlt e2.1 e2.2
                        have hcap : n' + k ≤ grownCap w (n' + k) (b.cap / i.size) el' := by simp [grownCap, Question.cut]
                        generalize hcc : grownCap w (n' + k) (b.cap / i.size) el' = cap at hrun hcap
                        have hle : (n' + k) * i.size ≤ cap * i.size := Nat.mul_le_mul_right _ hcap
                        have hmono := Ren.le_put (ρ := ρ) hni ⟨w.heap.size, 0, cap * i.size⟩
                        have hsub : (cap - (n' + k)) * i.size = cap * i.size - (n' + k) * i.size := Nat.sub_mul _ _ _
                        have hor := rows_or (ρ := ρ.put ni ⟨w.heap.size, 0, cap * i.size⟩) (b := ⟨w.heap.size, 0, cap * i.size⟩) (size := i.size) (n := n') (k := k) (el := el') (f := f') (g := g) (vs := vs)
                          (cs' := (olds ++ vs).toArray ++ Builtin.zeroCells z.cells (cap - (n' + k))) (fz := (0, 0)) hsz (by simp [hzc, holen]; omega) hle (.inl rfl)
                          (fun p a hp ha => by
                            obtain ⟨v, hv, hvr⟩ := hcell p a (by omega) (by rw [cellOf_leaf, he']; exact ha)
                            refine ⟨v, ?_, hvr.mono hmono⟩
                            simp only [Nat.zero_add]
                            rw [Array.getElem?_append, if_pos (by simp [holen]; omega)]
                            rw [List.getElem?_toArray, List.getElem?_append, if_pos (by rw [holen]; exact hp), holds p hp]
                            exact hv)
                          ⟨hvl, fun q hq j a hj ha => let ⟨v, h1, h2⟩ := hr.2 q hq j a hj ha; ⟨v, h1, h2.mono hmono⟩⟩ (fun p v hp => by
                            have hlt := (List.getElem?_eq_some_iff.1 hp).1
                            simp only [Nat.zero_add]
                            rw [Array.getElem?_append, if_pos (by simp [holen]; omega)]
                            rw [List.getElem?_toArray, List.getElem?_append, if_neg (by rw [holen]; omega), holen, Nat.add_sub_cancel_left]
                            exact hp)
                        obtain ⟨h1, h2⟩ := (r.drew.less (h' := (H.del id).get) (get_del_fun H id)).alloc hni hnx hni' hor
                        refine ⟨_, _, ρ.put ni ⟨w.heap.size, 0, cap * i.size⟩, hrun, by rw [get_set_fun]; exact h1, ⟨hmono, fun x hx => Ren.put_ne hx _⟩, ?_⟩
                        have := VR.slg (ρ := ρ.put ni ⟨w.heap.size, 0, cap * i.size⟩) ni (n' + k) i.size ⟨w.heap.size, 0, cap * i.size⟩ (Ren.put_same _ _ _) hsz hle
                        simpa [Nat.mul_div_cancel _ hsz] using this
                      · -- room
                        have hbnd : (n' + k) * i.size ≤ b.cap := (Nat.le_div_iff_mul_le he).1 hge
                        obtain ⟨cs', f1, f2, f3⟩ := run_storeCells (P := P) b.b (b.ob + n' * i.size) el' fz vs 0 cs w hoc hfz (by omega) hone
                        have hmono := Ren.le_put (ρ := ρ) hni b
                        have hor' := rows_or (ρ := ρ.put ni b) (b := b) (size := i.size) (n := n') (k := k) (el := el') (f := f') (g := g) (vs := vs) (cs' := cs') (fz := fz) hsz (by rw [f2, hsize]) hbnd
                          (by rcases hfz with hz | hz; exact .inl hz; exact .inr (by omega))
                          (fun p a hp ha => by
                            obtain ⟨v, hv, hvr⟩ := hcell p a (by omega) (by rw [cellOf_leaf, he']; exact ha)
                            exact ⟨v, by rw [f3, if_neg (by omega)]; exact hv, hvr.mono hmono⟩)
                          ⟨hvl, fun q hq j a hj ha => let ⟨v, h1, h2⟩ := hr.2 q hq j a hj ha; ⟨v, h1, h2.mono hmono⟩⟩ (fun p v hp => by
                            have hlt := (List.getElem?_eq_some_iff.1 hp).1
                            rw [f3, if_pos (by omega), ← hp]
                            congr 1; omega)
                        refine ⟨.slice (some ⟨b.b, b.ob, none⟩) (n' + k) (b.cap / i.size), World.putB w b.b (.cells cs' el' fz), ρ.put ni b, ?_, ?_, ⟨hmono, fun x hx => Ren.put_ne hx _⟩, ?_⟩
                        · refine append_fits (base := some ⟨b.b, b.ob, none⟩) (ty := ty) hd hdx hsd hi hl0 hc0 hge ?_
                          simp only [addr_add]; exact f1
                        · exact r.rename ho hb hni hnx hni' rfl hor' (putB_heap w b.b _ _ hoc) rfl rfl rfl
                        · exact .slg ni (n' + k) i.size b (Ren.put_same _ _ _) he hbnd
                · cases h2
              · cases h2
            | _ => simp only [sDest] at hdst; cases hdst
        · cases h1
  · cases hev

/-! ### stores -/
def updRow (f : Nat → List AV) (i j : Nat) (vs : List AV) : Nat → List AV := fun k => cond (Nat.beq k i) (splice (f i) j vs) (f k)

noncomputable def sStore (P : Program) (H : Tr AObj) (t : TypeId) (x v : AV) : Option (Bool × Tr AObj) :=
  match x with
  | .pel id esz i j => ob (P.info? t) fun ti => gd (Nat.beq v.cells.length ti.size && v.cells.all AV.one && Nat.ble (j + v.cells.length) esz && Nat.blt 0 v.cells.length) (ob (H.get id) fun o => match o with
    | .cells el c z N op => match c, z with
      | .leaf, .rows esz' f => gd (Nat.beq esz' esz) (some (cond (Nat.ble (j + v.cells.length) (f i).length) (Nat.ble (i * esz + j + v.cells.length) N) false, H.set id (.cells el .leaf (.rows esz (updRow f i j v.cells)) N op)))
      | _, _ => none
    | _ => none)
  | _ => none

theorem sStore_sound {P : Program} {E : Env} {F : Nat → Option Obj} {nx : Nat} {ρ : Ren} {w : World} {H H' : Tr AObj} (r : Rel E F nx ρ H.get w)
    {t : TypeId} {x v : AV} {u z : Value} (hx : VR ρ x u) (hv : VR ρ v z) (hev : sStore P H t x v = some (true, H')) :
    ∃ w', (Instr.storeAt t u z).run P w = .ok () w' ∧ Rel E F nx ρ H'.get w' := by
  unfold sStore at hev
  split at hev
  · rename_i id esz i j
    obtain ⟨ti, hti, h1⟩ := ob_some.1 hev
    obtain ⟨hg, h2⟩ := gd_some.1 h1
    obtain ⟨o, ho, h3⟩ := ob_some.1 h2
    clear hev h1 h2
    simp only [Bool.and_eq_true, Nat.beq_eq, Nat.ble_eq, Nat.blt_eq] at hg
    obtain ⟨⟨⟨hg1, hg2⟩, hg3⟩, hg4⟩ := hg
    cases hx with
    | pel _ _ _ _ b hb =>
    split at h3
    · rename_i el c z0 N op
      split at h3
      · rename_i esz' f
        obtain ⟨he, h4⟩ := gd_some.1 h3
        rw [Nat.beq_eq] at he; subst he
        injection h4 with h4; injection h4 with h4 h5; subst h5
        obtain ⟨h6, h7⟩ := cond_and h4
        rw [Nat.ble_eq] at h6 h7
        have hvc := hv.cells
        have hvl := hvc.length
        obtain ⟨oc, hoc, hor⟩ := r.ob _ _ b ho hb
        cases hor with
        | cells _ _ _ _ _ cs fz hsize hn hop hfz hcell =>
          obtain ⟨cs', f1, f2, f3⟩ := run_storeCells (P := P) b.b (b.ob + (i * esz' + j)) el fz z.cells.toList 0 cs w hoc hfz (by omega) (all_one hvc hg2)
          have hsz : z.cells.size = ti.size := by simp at hvl; omega
          refine ⟨World.putB w b.b (.cells cs' el fz), ?_, ?_⟩
          · have hps : z.cells.size = P.cellsOf t := by simp [Program.cellsOf, hti]; omega
            simp [Instr.storeAt, Instr.sureAddr, storeVar, run_sizeOf w hti, hps, f1]
          · rw [get_set_fun]
            refine r.put ho hb (.cells _ _ _ _ _ cs' fz (by rw [f2, hsize]) hn hop (by rcases hfz with hz | hz; exact .inl hz; exact .inr (by omega)) fun p a hp ha => ?_) (putB_heap w b.b _ _ hoc) rfl rfl rfl
            rw [cellOf_leaf] at ha
            have hes : 0 < esz' := by omega
            have hp1 : p % esz' < esz' := Nat.mod_lt _ hes
            have hp2 : p / esz' * esz' + p % esz' = p := by rw [Nat.mul_comm]; exact Nat.div_add_mod p esz'
            have ha' : (updRow f i j v.cells (p / esz'))[p % esz']? = some a := ha
            have old : (f (p / esz'))[p % esz']? = some a → ¬ (b.ob + (i * esz' + j) + 0 ≤ b.ob + p ∧ b.ob + p < b.ob + (i * esz' + j) + 0 + z.cells.toList.length) → ∃ u, cs'[b.ob + p]? = some u ∧ VR ρ a u := fun h1 h2 => by
              rw [f3, if_neg h2]
              exact hcell p a hp (by rw [cellOf_leaf]; exact h1)
            unfold updRow at ha'
            cases hb0 : Nat.beq (p / esz') i with
            | true =>
              rw [hb0, cond_true, splice_get _ _ _ _ h6] at ha'
              rw [Nat.beq_eq] at hb0
              rw [hb0] at hp2
              split at ha'
              · rename_i hin
                obtain ⟨u, hu, hur⟩ := hvc.get _ a ha'
                refine ⟨u, ?_, hur⟩
                rw [f3, if_pos (by omega), ← hu]
                congr 1; omega
              · rename_i hout
                exact old (by rw [hb0]; exact ha') (by omega)
            | false =>
              rw [hb0, cond_false] at ha'
              have hne : p / esz' ≠ i := fun e => by rw [← Nat.beq_eq, hb0] at e; cases e
              refine old ha' fun ⟨h8, h9⟩ => hne ?_
              have : p / esz' = i := by
                rw [Nat.div_eq_iff hes]
                have : (i + 1) * esz' = i * esz' + esz' := Nat.succ_mul _ _
                omega
              exact this
      · cases h3
    · cases h3
  · cases hev

/-! ### all that write -/
noncomputable def sHeavy (P : Program) (X : Operand → Option AV) (H : Tr AObj) (ni : Nat) (op : Op) : Option (Bool × AV × Tr AObj) :=
  match op with
  | .store t x v => ob (X x) fun a => ob (X v) fun b => ob (sStore P H t a b) fun r => some (r.1, .tup [], r.2)
  | .call c => match c.callee with
    | .builtin .append => ob (xsL X c.args.toList) fun xs => sAppend P H ni c.argTypes.toList xs
    | _ => none
  | _ => none
end Go.Ev
