/- The evaluator, part G: aggregates; operations that make a block. -/
import Derived.Test.YtdpohandjgnknaaGreatDoorEvF
import Derived.Lib.Bytealg
import Derived.Laws.BytesString
namespace Go.Ev

theorem VRL.of_pointwise {ρ : Ren} : ∀ {l : List AV} {vs : List Value}, l.length = vs.length → (∀ (i : Nat) (a : AV) (v : Value), l[i]? = some a → vs[i]? = some v → VR ρ a v) → VRL ρ l vs
  | [], [], _, _ => .nil
  | [], _ :: _, h, _ => by simp at h
  | _ :: _, [], h, _ => by simp at h
  | a :: l, v :: vs, h, hp => .cons _ _ _ _ (hp 0 a v rfl rfl) (VRL.of_pointwise (by simpa using h) fun i b u hb hu => hp (i + 1) b u (by simpa using hb) (by simpa using hu))

theorem VRL.get2 {ρ : Ren} {l : List AV} {vs : List Value} (h : VRL ρ l vs) {i : Nat} {a : AV} {v : Value} (ha : l[i]? = some a) (hv : vs[i]? = some v) : VR ρ a v := by
  obtain ⟨u, hu, hr⟩ := h.get i a ha
  rw [hv] at hu; cases hu; exact hr

/-- What stands at a place, laid over a list. -/
def splice (l : List AV) (off : Nat) (vs : List AV) : List AV := l.take off ++ (vs ++ l.drop (off + vs.length))
theorem splice_get (l vs : List AV) (off i : Nat) (h : off + vs.length ≤ l.length) :
    (splice l off vs)[i]? = if off ≤ i ∧ i < off + vs.length then vs[i - off]? else l[i]? := by
  have hl : (l.take off).length = off := by simp; omega
  unfold splice
  rw [List.getElem?_append, hl]
  split
  · rename_i hi
    rw [if_neg (by omega), List.getElem?_take, if_pos hi]
  · rename_i hi
    rw [List.getElem?_append]
    split
    · rename_i hi2
      rw [if_pos (by omega)]
    · rename_i hi2
      rw [if_neg (by omega), List.getElem?_drop]
      congr 1; omega
theorem splice_length (l vs : List AV) (off : Nat) (h : off + vs.length ≤ l.length) : (splice l off vs).length = l.length := by
  unfold splice; simp; omega

theorem foldSet (off : Nat) : ∀ (vs : List Value) (j : Nat) (cs : Array Value), off + j + vs.length ≤ cs.size →
    ∃ cs', (vs.zipIdx j).foldl (fun (cs : Array Value) (x : Value × Nat) => cs.setIfInBounds (off + x.2) x.1) cs = cs' ∧ cs'.size = cs.size ∧
      ∀ i, cs'[i]? = if off + j ≤ i ∧ i < off + j + vs.length then vs[i - (off + j)]? else cs[i]?
  | [], j, cs, _ => ⟨cs, rfl, rfl, fun i => by rw [if_neg (by simp)]⟩
  | v :: vs, j, cs, h => by
    simp only [List.length_cons] at h
    obtain ⟨cs', h1, h2, h3⟩ := foldSet off vs (j + 1) (cs.setIfInBounds (off + j) v) (by simp; omega)
    refine ⟨cs', by simpa using h1, by simpa using h2, fun i => ?_⟩
    rw [h3 i]
    simp only [List.length_cons]
    by_cases h4 : off + (j + 1) ≤ i ∧ i < off + (j + 1) + vs.length
    · rw [if_pos h4, if_pos (by omega), show i - (off + j) = (i - (off + (j + 1))) + 1 by omega]; simp
    · rw [if_neg h4]
      by_cases h5 : i = off + j
      · subst h5
        rw [if_pos (by omega), Nat.sub_self, Array.getElem?_setIfInBounds_self_of_lt (by omega)]
        rfl
      · rw [if_neg (by omega), Array.getElem?_setIfInBounds_ne (by omega)]

noncomputable def fillA (place : Nat → Option (Nat × Nat)) : List (Nat × AV) → List AV → Option (List AV) :=
  List.rec (motive := fun _ => List AV → Option (List AV)) (fun cs => some cs)
    (fun p _ ih cs => ob (place p.1) fun q => gd (Nat.beq p.2.cells.length q.2 && Nat.ble (q.1 + q.2) cs.length) (ih (splice cs q.1 p.2.cells)))

inductive PRL (ρ : Ren) : List (Nat × AV) → List (Nat × Value) → Prop where
  | nil : PRL ρ [] []
  | cons (i : Nat) (a : AV) (v : Value) (l : List (Nat × AV)) (vs : List (Nat × Value)) (h : VR ρ a v) (hs : PRL ρ l vs) : PRL ρ ((i, a) :: l) ((i, v) :: vs)

theorem fillA_sound {ρ : Ren} {place : Nat → Option (Nat × Nat)} : ∀ {ps : List (Nat × AV)} {qs : List (Nat × Value)}, PRL ρ ps qs → ∀ {cs r : List AV} {us : Array Value},
    VRL ρ cs us.toList → fillA place ps cs = some r → ∃ us', Instr.fill place us qs = some us' ∧ VRL ρ r us'.toList
  | _, _, .nil, cs, r, us, hc, h => by injection h with h; subst h; exact ⟨us, rfl, hc⟩
  | _, _, .cons i a v ps qs hv hs, cs, r, us, hc, h => by
    obtain ⟨⟨off, size⟩, hq, h1⟩ := ob_some.1 (show (ob (place i) fun q => gd (Nat.beq a.cells.length q.2 && Nat.ble (q.1 + q.2) cs.length) (fillA place ps (splice cs q.1 a.cells))) = some r from h)
    obtain ⟨hb, h2⟩ := gd_some.1 h1
    rw [Bool.and_eq_true, Nat.beq_eq, Nat.ble_eq] at hb
    obtain ⟨hb1, hb2⟩ := hb
    have hcl := hv.cells
    have hlen := hcl.length
    have hlen2 := hc.length
    obtain ⟨us1, e1, e2, e3⟩ := foldSet off v.cells.toList 0 us (by simp at hlen hlen2 ⊢; omega)
    have hsp : VRL ρ (splice cs off a.cells) us1.toList := by
      refine VRL.of_pointwise ?_ fun k b u hb hu => ?_
      · rw [splice_length _ _ _ (by omega)]; simp [e2]; simpa using hlen2
      · rw [splice_get _ _ _ _ (by omega)] at hb
        have hu' : us1[k]? = some u := by simpa using hu
        rw [e3 k] at hu'
        by_cases hk : off ≤ k ∧ k < off + a.cells.length
        · rw [if_pos hk] at hb
          rw [if_pos (by simp at hlen ⊢; omega)] at hu'
          exact hcl.get2 hb (by simpa using hu')
        · rw [if_neg hk] at hb
          rw [if_neg (by simp at hlen ⊢; omega)] at hu'
          exact hc.get2 hb (by simpa using hu')
    obtain ⟨us', h3, h4⟩ := fillA_sound hs hsp h2
    refine ⟨us', ?_, h4⟩
    have hsz : v.cells.size = size := by simp at hlen; omega
    have hcs : ¬ (off + v.cells.size > us.size) := by simp at hlen2; omega
    have hf : v.cells.zipIdx.foldl (fun (cs : Array Value) (x : Value × Nat) => cs.setIfInBounds (off + x.2) x.1) us = us1 := by
      rw [← e1, ← Array.foldl_toList, Array.toList_zipIdx]
    simp only [Instr.fill, hq, hsz, ne_eq, not_true, decide_false, Bool.false_or]
    rw [if_neg (by simp only [decide_eq_true_eq]; omega)]
    rw [← h3, ← hf]

noncomputable def partsL (X : Operand → Option AV) (l : List (Nat × Operand)) : Option (List (Nat × AV)) :=
  List.rec (motive := fun _ => Option (List (Nat × AV))) (some []) (fun x _ ih => ob (X x.2) fun a => ob ih fun r => some ((x.1, a) :: r)) l
theorem partsL_sound {ρ : Ren} {X : Operand → Option AV} {f : Operand → Value} (hX : XR ρ X f) : ∀ {l : List (Nat × Operand)} {r : List (Nat × AV)}, partsL X l = some r →
    PRL ρ r (l.map fun x => (x.1, f x.2))
  | [], r, h => by injection h with h; subst h; exact .nil
  | x :: l, r, h => by
    obtain ⟨a, ha, h1⟩ := ob_some.1 (show ob (X x.2) (fun a => ob (partsL X l) fun r => some ((x.1, a) :: r)) = some r from h)
    obtain ⟨r', hr, h2⟩ := ob_some.1 h1
    injection h2 with h2; subst h2
    exact .cons _ _ _ _ _ (hX _ _ ha) (partsL_sound hX hr)

theorem run_places {P : Program} (w : World) : ∀ (fs : List Field), (fs.all fun f => (P.info? f.type).isSome) = true →
    (fs.mapM fun f => (do pure (f.offset, ← sizeOf f.type) : Sem (Nat × Nat))).run P w = .ok (fs.map fun f => (f.offset, P.cellsOf f.type)) w
  | [], _ => by simp
  | f :: fs, h => by
    simp only [List.all_cons, Bool.and_eq_true] at h
    obtain ⟨i, hi⟩ := Option.isSome_iff_exists.1 h.1
    have ih := run_places w fs h.2
    simp only [List.mapM_cons, Sem.run_bind, run_sizeOf w hi, Result.andThen_ok, Sem.run_pure, ih, List.map_cons]

noncomputable def zeroCs (P : Program) (t : TypeId) : Option (List AV) := ob (zeroAV P t) fun z => some z.cells

noncomputable def evBuild (P : Program) (X : Operand → Option AV) (t : TypeId) (parts : List (Nat × Operand)) : Option AV :=
  ob (zeroCs P t) fun zs => ob (P.underlying t) fun d => ob (partsL X parts) fun ps => match d with
    | .struct fs => gd (fs.toList.all fun f => (P.info? f.type).isSome)
        (ob (fillA (fun i => ob (fs[i]?) fun f => some (f.offset, P.cellsOf f.type)) ps zs) fun l => some (.agg l))
    | .array _ e => ob (P.info? e) fun _ => ob (fillA (fun i => some (i * P.cellsOf e, P.cellsOf e)) ps zs) fun l => some (.agg l)
    | _ => none

theorem parts_map (parts : Array (Nat × Operand)) (f : Operand → Value) : (parts.map fun (i, x) => (i, f x)).toList = parts.toList.map fun x => (x.1, f x.2) := by
  rw [Array.toList_map]

theorem evBuild_sound {P : Program} {ρ : Ren} {X : Operand → Option AV} {f : Operand → Value} (hX : XR ρ X f) {t : TypeId} {parts : Array (Nat × Operand)} {a : AV}
    (h : evBuild P X t parts.toList = some a) (w : World) : ∃ v, (Instr.build t (parts.map fun (i, x) => (i, f x))).run P w = .ok v w ∧ VR ρ a v := by
  obtain ⟨zs, hz, h1⟩ := ob_some.1 h
  obtain ⟨d, hd, h2⟩ := ob_some.1 h1
  obtain ⟨ps, hps, h3⟩ := ob_some.1 h2
  clear h h1 h2
  obtain ⟨za, hza, hz'⟩ := ob_some.1 hz
  injection hz' with hz'; subst hz'
  obtain ⟨z, hzr, hzv⟩ := zeroAV_sound (P := P) hza w
  have hcells := (hzv ρ).cells
  have hp := partsL_sound hX hps
  cases d with
  | struct fs =>
    obtain ⟨hall, h4⟩ := gd_some.1 h3
    obtain ⟨l, hl, h5⟩ := ob_some.1 h4
    injection h5 with h5; subst h5
    obtain ⟨us', h6, h7⟩ := fillA_sound hp hcells hl
    refine ⟨.agg us', ?_, ?_⟩
    · have hpl := run_places (P := P) w fs.toList hall
      have hpa : (fs.mapM fun f => (do pure (f.offset, ← sizeOf f.type) : Sem (Nat × Nat))).run P w = .ok (fs.map fun f => (f.offset, P.cellsOf f.type)) w := by
        rw [Array.mapM_eq_mapM_toList]
        simp only [Sem.run_map, hpl, Result.andThen_ok]
        rw [map_toArray]
      have e : (fun (i : Nat) => ob (fs[i]?) fun (f : Field) => some (f.offset, P.cellsOf f.type)) = fun (i : Nat) => (fs.map fun (f : Field) => (f.offset, P.cellsOf f.type))[i]? := by
        funext i
        rw [Array.getElem?_map]
        cases fs[i]? <;> rfl
      rw [e] at h6
      unfold Instr.build
      simp only [Sem.run_bind, hzr, Result.andThen_ok, run_underlying hd, hpa, parts_map, h6, Sem.run_pure]
    · have := VR.agg (ρ := ρ) l us'.toList h7
      simpa using this
  | array n e =>
    obtain ⟨i, hi, h4⟩ := ob_some.1 h3
    obtain ⟨l, hl, h5⟩ := ob_some.1 h4
    injection h5 with h5; subst h5
    obtain ⟨us', h6, h7⟩ := fillA_sound hp hcells hl
    refine ⟨.agg us', ?_, ?_⟩
    · unfold Instr.build
      simp only [Sem.run_bind, hzr, Result.andThen_ok, run_underlying hd, run_sizeOf w hi, parts_map, h6, Sem.run_pure]
    · have := VR.agg (ρ := ρ) l us'.toList h7
      simpa using this
  | _ => cases h3

/-! ### new blocks -/
def Ren.put (ρ : Ren) (i : Nat) (b : Blk) : Ren := fun j => if j = i then some b else ρ j
theorem Ren.le_put {ρ : Ren} {i : Nat} (h : ρ i = none) (b : Blk) : ρ.le (ρ.put i b) := fun j c hj => by
  have : j ≠ i := fun e => by subst e; rw [h] at hj; cases hj
  simp [Ren.put, this, hj]
theorem Ren.put_ne {ρ : Ren} {i j : Nat} (h : j ≠ i) (b : Blk) : ρ.put i b j = ρ j := by simp [Ren.put, h]
theorem Ren.put_same (ρ : Ren) (i : Nat) (b : Blk) : ρ.put i b i = some b := by simp [Ren.put]

/-- A row out of values: the pattern is the row itself. -/
theorem OR.ofList {ρ : Ren} {b : Nat} {l : List AV} {vs : List Value} (h : VRL ρ l vs) (el : TypeId) :
    OR ρ ⟨b, 0, l.length⟩ (.cells el .leaf l l.length false) (.cells vs.toArray el (0, 0)) := by
  refine .cells el .leaf l l.length false vs.toArray (0, 0) (by simp [h.length]) (Nat.le_refl _) (fun _ => rfl) (.inl rfl) fun k a hk ha => ?_
  unfold cellOf at ha
  rw [Tr.get_leaf] at ha
  have ha' : l[k]? = some a := by
    have : l[k % l.length]? = some a := ha
    rwa [Nat.mod_eq_of_lt hk] at this
  obtain ⟨v, hv, hr⟩ := h.get k a ha'
  exact ⟨v, by simpa using hv, hr⟩

theorem zero_pattern (z : Array Value) (n k : Nat) (hk : k < n) (hz : 0 < z.size) :
    ((Array.range n).map (fun i => z[i % z.size]!))[k]? = z[k % z.size]? := by
  rw [Array.getElem?_map, Array.getElem?_range, if_pos hk]
  have : k % z.size < z.size := Nat.mod_lt _ hz
  simp [this]

theorem OR.ofZero {ρ : Ren} {b : Nat} {l : List AV} {z : Array Value} (h : VRL ρ l z.toList) (el : TypeId) (n : Nat) (hz : n = 0 ∨ 0 < l.length) :
    OR ρ ⟨b, 0, n⟩ (.cells el .leaf l n false) (.cells ((Array.range n).map (fun i => z[i % z.size]!)) el (0, 0)) := by
  have hl : l.length = z.size := by simpa using h.length
  refine .cells el .leaf l n false _ (0, 0) (by simp) (Nat.le_refl _) (fun _ => rfl) (.inl rfl) fun k a hk ha => ?_
  unfold cellOf at ha
  rw [Tr.get_leaf] at ha
  have ha' : l[k % l.length]? = some a := ha
  obtain ⟨v, hv, hr⟩ := h.get _ a ha'
  refine ⟨v, ?_, hr⟩
  simp only [Nat.zero_add]
  rw [zero_pattern z n k hk (by omega), ← hl]
  simpa using hv

noncomputable def evNew (P : Program) (X : Operand → Option AV) (ni : Nat) (op : Op) : Option (AV × AObj) :=
  match op with
  | .alloc el => ob (zeroCs P el) fun cs => fN cs.length fun n => some (.ptr ni 0, .cells el .leaf cs n false)
  | .box el x => ob (X x) fun v => fN v.cells.length fun n => some (.ptr ni 0, .cells el .leaf v.cells n false)
  | .makeMap _ none => some (.map ni, .map [] 0)
  | .makeSlice t l c => ob (X l) fun l => ob (avNat l) fun l => ob (X c) fun c => ob (avNat c) fun c => ob (P.underlying t) fun d => match d with
    | .slice el => ob (P.info? el) fun i => gd (Nat.ble l c && Nat.ble c 9223372036854775807 && Nat.ble (i.bytes * c) 281474976710656) (ob (zeroCs P el) fun cs =>
        gd (Nat.blt 0 cs.length && Nat.beq cs.length i.size) (fN (c * i.size) fun n => fN l fun l => fN c fun c => some (.sl ni 0 l c, .cells el .leaf cs n false)))
    | _ => none
  | .buildSlice t len parts => ob (P.underlying t) fun d => match d with
    | .slice el => ob (P.info? el) fun i => gd (Nat.ble (len * i.size) 16777216) (ob (zeroCs P el) fun zs => gd (Nat.blt 0 zs.length && Nat.beq zs.length i.size)
        (ob (partsL X parts.toList) fun ps => ob (fillA (fun j => some (j * i.size, i.size)) ps ((List.replicate len zs).flatten)) fun cs =>
          fN cs.length fun n => some (.sl ni 0 len len, .cells el .leaf cs n false)))
    | _ => none
  | .convert s t x => ob (X x) fun v => ob (P.underlying s) fun _ => ob (P.underlying t) fun d => match d, v with
    | .slice el, .str l n => ob (P.underlying el) fun de => match de with
      | .int .u8 => gd (Nat.ble l 140737488355328) (fN l fun l => some (.slo ni 0 l 1, .cells el .leaf ((List.range l).map fun i => .int .u8 (.ofNat (n / 256 ^ i % 256))) l true))
      | _ => none
    | _, _ => none
  | .makeChan t x => ob (X x) fun a => match a with
    | .int _ (.ofNat n) => ob (P.underlying t) fun d => match d with
      | .chan _ el => ob (P.info? el) fun i => gd (Nat.ble n 1000000) (gd (Nat.ble (i.bytes * n) 1000000) (some (.chan ni, .chan n [])))
      | _ => none
    | _ => none
  | .range t x => ob (X x) fun a => ob (P.underlying t) fun d => match d, a with
    | .string, .str l n => some (.ptr ni 0, .siter l n 0)
    | .map _ _, .map0 => some (.ptr ni 0, .miter0)
    | _, _ => none
  | _ => none


theorem zeroCs_sound {P : Program} {t : TypeId} {l : List AV} (h : zeroCs P t = some l) (w : World) : ∃ z, (zeroValue t).run P w = .ok z w ∧ ∀ ρ : Ren, VRL ρ l z.cells.toList := by
  obtain ⟨a, ha, h1⟩ := ob_some.1 h
  injection h1 with h1; subst h1
  obtain ⟨z, h2, h3⟩ := zeroAV_sound (P := P) ha w
  exact ⟨z, h2, fun ρ => (h3 ρ).cells⟩

/-- What a making leaves: the world with one block more, behind a draw perhaps. -/
def Makes (P : Program) (w : World) (ρ : Ren) (ni : Nat) (s : Sem Next) (a : AV) (o : AObj) : Prop :=
  ∃ v w1 c cap, s.run P w = .ok (.value v) (w1.alloc c) ∧ (w1 = w ∨ w1 = w.drew) ∧ OR (ρ.put ni ⟨w.heap.size, 0, cap⟩) ⟨w.heap.size, 0, cap⟩ o c ∧ VR (ρ.put ni ⟨w.heap.size, 0, cap⟩) a v

theorem flatten_rep {ρ : Ren} (l : List AV) (z : Array Value) (h : VRL ρ l z.toList) (hz : 0 < z.size) (len : Nat) :
    VRL ρ ((List.replicate len l).flatten) ((Array.range (len * z.size)).map (fun i => z[i % z.size]!)).toList := by
  have hl : l.length = z.size := by simpa using h.length
  have hlen : ∀ n, ((List.replicate n l).flatten).length = n * l.length := fun n => by
    induction n with
    | zero => simp
    | succ n ih => rw [List.replicate_succ, List.flatten_cons, List.length_append, ih, Nat.succ_mul, Nat.add_comm]
  have hget : ∀ n i, i < n * l.length → ((List.replicate n l).flatten)[i]? = l[i % l.length]? := fun n => by
    induction n with
    | zero => intro i hi; simp at hi
    | succ n ih =>
      intro i hi
      rw [List.replicate_succ, List.flatten_cons, List.getElem?_append]
      split
      · rename_i h1; rw [Nat.mod_eq_of_lt h1]
      · rename_i h1
        rw [Nat.succ_mul] at hi
        have hm := Nat.mod_eq_sub_mod (a := i) (b := l.length) (by omega)
        rw [ih _ (by omega), ← hm]
  refine VRL.of_pointwise (by rw [hlen]; simp [hl]) fun i a v ha hv => ?_
  have hi : i < len * z.size := by
    have := (List.getElem?_eq_some_iff.1 ha).1
    rw [hlen, hl] at this; exact this
  rw [hget len i (by rw [hl]; exact hi)] at ha
  have hv' : ((Array.range (len * z.size)).map (fun i => z[i % z.size]!))[i]? = some v := by rw [← Array.getElem?_toList]; exact hv
  rw [zero_pattern z _ _ hi hz, ← hl] at hv'
  exact h.get2 ha (by simpa using hv')

theorem shape_alloc (w : World) (c : Array Value) (e : TypeId) : (w.alloc (.cells c e)).shape? w.heap.size = some (e, c.size) := by
  simp only [World.shape?, World.alloc, Array.getElem?_push_size]

theorem alloc_freeze (w : World) (c : Array Value) (e : TypeId) :
    (w.alloc (.cells c e)).freeze ⟨w.heap.size, c.size, none⟩ 1 = w.alloc (.cells c e (c.size, c.size + 1)) := by
  unfold World.freeze World.alloc
  rw [if_neg (by decide)]
  congr 1
  apply Array.ext_getElem?
  intro i
  rw [Array.getElem?_modify, Array.getElem?_push, Array.getElem?_push]
  by_cases h : w.heap.size = i
  · subst h; simp
  · rw [if_neg h, if_neg (fun e => h e.symm), if_neg (fun e => h e.symm)]

theorem bytes_vrl {ρ : Ren} (l n : Nat) : VRL ρ ((List.range l).map fun i => AV.int .u8 (.ofNat (n / 256 ^ i % 256))) ((bytesL l n).map fun b => Value.int .u8 b.toNat) := by
  refine VRL.of_pointwise (by simp [bytesL_length]) fun i a v ha hv => ?_
  have hi : i < l := by
    have := (List.getElem?_eq_some_iff.1 ha).1
    simpa using this
  rw [List.getElem?_map, List.getElem?_range hi] at ha
  rw [List.getElem?_map, bytesL_get l n i hi] at hv
  simp only [Option.map_some, Option.some.injEq] at ha hv
  subst ha; subst hv
  rw [u8_ofNat_toNat]
  exact .int _ _

set_option maxHeartbeats 1000000 in
theorem evNew_sound {P : Program} {ρ : Ren} {w : World} {X : Operand → Option AV} {f : Operand → Value} (hX : XR ρ X f) {ni : Nat} (hni : ρ ni = none)
    (o : Oper) {a : AV} {ob' : AObj} (hev : evNew P X ni o.op = some (a, ob')) : Makes P w ρ ni (execOp f o) a ob' := by
  obtain ⟨dst, op, type, pos, after, guard⟩ := o
  simp only at hev
  have hle := fun b => Ren.le_put (ρ := ρ) (i := ni) hni b
  cases op <;> simp only [evNew] at hev <;> first | (cases hev; done) | skip
  case alloc el =>
    obtain ⟨cs, hcs, h1⟩ := ob_some.1 hev
    rw [fN_eq] at h1
    injection h1 with h1; injection h1 with h1 h2; subst h1; subst h2
    obtain ⟨z, hz, hr⟩ := zeroCs_sound (P := P) hcs w
    refine ⟨.pointer (some ⟨w.heap.size, 0, none⟩), w, .cells z.cells el, cs.length, ?_, .inl rfl, ?_, ?_⟩
    · exact run_v (by simp [Instr.alloc, hz, newVar, newRow])
    · have := OR.ofList (b := w.heap.size) (hr (ρ.put ni ⟨w.heap.size, 0, cs.length⟩)) el
      simpa using this
    · exact .ptr ni 0 ⟨w.heap.size, 0, cs.length⟩ (Ren.put_same _ _ _)
  case box el x =>
    obtain ⟨v, hv, h1⟩ := ob_some.1 hev
    rw [fN_eq] at h1
    injection h1 with h1; injection h1 with h1 h2; subst h1; subst h2
    have hr := (hX _ _ hv).cells
    refine ⟨.pointer (some ⟨w.heap.size, 0, none⟩), w, .cells (f x).cells el, v.cells.length, ?_, .inl rfl, ?_, ?_⟩
    · exact run_v (by simp [Instr.box, newVar, newRow])
    · have := OR.ofList (b := w.heap.size) (hr.mono (hle ⟨w.heap.size, 0, v.cells.length⟩)) el
      simpa using this
    · exact .ptr ni 0 ⟨w.heap.size, 0, v.cells.length⟩ (Ren.put_same _ _ _)
  case makeMap t r =>
    cases r with
    | some _ => cases hev
    | none =>
      injection hev with h1; injection h1 with h1 h2; subst h1; subst h2
      refine ⟨.map (some w.heap.size), w, .map #[] 0, 0, ?_, .inl rfl, .map [] 0 [] .nil, ?_⟩
      · exact run_v (by simp [Instr.makeMap])
      · exact .map ni ⟨w.heap.size, 0, 0⟩ (Ren.put_same _ _ _)
  case makeSlice t l c =>
    obtain ⟨lv, hlv, h1⟩ := ob_some.1 hev
    obtain ⟨ln, hln, h2⟩ := ob_some.1 h1
    obtain ⟨cv, hcv, h3⟩ := ob_some.1 h2
    obtain ⟨cn, hcn, h4⟩ := ob_some.1 h3
    obtain ⟨d, hd, h5⟩ := ob_some.1 h4
    clear hev h1 h2 h3 h4
    obtain ⟨kl, rfl⟩ := avNat_some hln
    obtain ⟨kc, rfl⟩ := avNat_some hcn
    have rl := hX _ _ hlv
    have rc := hX _ _ hcv
    generalize hfl : f l = vl at rl
    generalize hfc : f c = vc at rc
    cases rl; cases rc
    cases d with
    | slice el =>
      obtain ⟨i, hi, h6⟩ := ob_some.1 h5
      obtain ⟨hb, h7⟩ := gd_some.1 h6
      obtain ⟨cs, hcs, h8⟩ := ob_some.1 h7
      obtain ⟨hz, h9⟩ := gd_some.1 h8
      simp only [fN_eq] at h9
      injection h9 with h9; injection h9 with h9 h10; subst h9; subst h10
      simp only [Bool.and_eq_true, Nat.ble_eq] at hb
      obtain ⟨⟨hb1, hb2⟩, hb3⟩ := hb
      rw [Bool.and_eq_true, Nat.blt_eq, Nat.beq_eq] at hz
      obtain ⟨z, hzr, hr⟩ := zeroCs_sound (P := P) hcs (w : World)
      have hsz : z.cells.size = i.size := by have := (hr ρ).length; simp at this; omega
      refine ⟨.slice (some ⟨w.heap.size, 0, none⟩) ln cn, w, .cells ((Array.range (cn * i.size)).map (fun j => z.cells[j % z.cells.size]!)) el, cn * i.size, ?_, .inl rfl, ?_, ?_⟩
      · refine run_v ?_
        have e1 : IntKind.i64.wrap (ln : Int) = ln := wrap_i64 (by omega) (by omega)
        have e2 : IntKind.i64.wrap (cn : Int) = cn := wrap_i64 (by omega) (by omega)
        have e3 : ¬ ((i.bytes : Int) * (cn : Int) > 281474976710656) := by
          have h0 : ((i.bytes * cn : Nat) : Int) ≤ ((281474976710656 : Nat) : Int) := Int.ofNat_le.2 hb3
          rw [Int.natCast_mul] at h0; omega
        have e4 : ¬ ((ln : Int) > (cn : Int)) := by omega
        have hcz : P.cellsOf el = i.size := by simp [Program.cellsOf, hi]
        have e5 : ¬ ((cn : Int) < 0 ∨ (ln : Int) < 0) := by omega
        by_cases hn : cn * i.size = 0
        · have hr0 : ∀ g : Nat → Value, (Array.range (cn * i.size)).map g = #[] := fun g => by rw [hn]; simp
          rw [hr0]
          have hr1 : ∀ g : Nat → Value, (Array.range 0).map g = #[] := fun g => by simp
          simp [Instr.makeSlice, run_underlying hd, hfl, hfc, asInt, asIntOf, run_typeInfo w hi, e1, e2, e3, e4, e5, run_sizeOf w hi, hcz, hn, newRow, hr1]
        · simp [Instr.makeSlice, run_underlying hd, hfl, hfc, asInt, asIntOf, run_typeInfo w hi, e1, e2, e3, e4, e5, run_sizeOf w hi, hcz, hn, hzr, newRow]
      · exact OR.ofZero (hr _) el _ (.inr hz.1)
      · exact .sl ni 0 ln cn ⟨w.heap.size, 0, cn * i.size⟩ (Ren.put_same _ _ _)
    | _ => cases h5
  case buildSlice t len parts =>
    obtain ⟨d, hd, h1⟩ := ob_some.1 hev
    clear hev
    cases d with
    | slice el =>
      obtain ⟨i, hi, h2⟩ := ob_some.1 h1
      obtain ⟨hb, h3⟩ := gd_some.1 h2
      obtain ⟨zs, hzs, h4⟩ := ob_some.1 h3
      obtain ⟨hz, h5⟩ := gd_some.1 h4
      obtain ⟨ps, hps, h6⟩ := ob_some.1 h5
      obtain ⟨cs, hcs, h7⟩ := ob_some.1 h6
      clear h1 h2 h3 h4 h5 h6
      rw [fN_eq] at h7
      injection h7 with h7; injection h7 with h7 h8; subst h7; subst h8
      rw [Nat.ble_eq] at hb
      rw [Bool.and_eq_true, Nat.blt_eq, Nat.beq_eq] at hz
      obtain ⟨z, hzr, hr⟩ := zeroCs_sound (P := P) hzs w
      have hsz : z.cells.size = i.size := by have := (hr ρ).length; simp at this; omega
      have hflat := flatten_rep zs z.cells (hr ρ) (by omega) len
      rw [hsz] at hflat
      obtain ⟨us', h9, h10⟩ := fillA_sound (partsL_sound hX hps) hflat hcs
      refine ⟨.slice (some ⟨w.heap.size, 0, none⟩) len len, w, .cells us' el, cs.length, ?_, .inl rfl, ?_, ?_⟩
      · refine run_v ?_
        have hcz : P.cellsOf el = i.size := by simp [Program.cellsOf, hi]
        have hno : ¬ (len * i.size > 16777216) := by omega
        unfold Instr.buildSlice
        by_cases hn : len * i.size = 0
        · have hr0 : ∀ g : Nat → Value, (Array.range (len * i.size)).map g = #[] := fun g => by rw [hn]; simp
          have h9' := h9
          rw [hr0] at h9'
          simp only [Sem.run_bind, run_underlying hd, Result.andThen_ok, run_sizeOf w hi, hcz, parts_map]
          rw [if_neg hno, if_pos hn]
          simp [hr0, h9', newRow]
        · simp only [Sem.run_bind, run_underlying hd, Result.andThen_ok, run_sizeOf w hi, hcz, parts_map]
          rw [if_neg hno, if_neg hn]
          simp [hzr, h9, newRow, hsz]
      · have := OR.ofList (b := w.heap.size) (h10.mono (hle ⟨w.heap.size, 0, cs.length⟩)) el
        simpa using this
      · exact .sl ni 0 len len ⟨w.heap.size, 0, cs.length⟩ (Ren.put_same _ _ _)
    | _ => cases h1
  case convert s t x =>
    obtain ⟨v, hv, h1⟩ := ob_some.1 hev
    obtain ⟨ds, hds, h2⟩ := ob_some.1 h1
    obtain ⟨dt, hdt, h3⟩ := ob_some.1 h2
    clear hev h1 h2
    have hc := hX _ _ hv
    cases dt with
    | slice el =>
     cases v with
     | str l n =>
      obtain ⟨de, hde, h4⟩ := ob_some.1 h3
      split at h4
      · obtain ⟨hb, h5⟩ := gd_some.1 h4
        rw [fN_eq] at h5
        injection h5 with h5; injection h5 with h5 h6; subst h5; subst h6
        rw [Nat.ble_eq] at hb
        generalize hfx : f x = vx at hc
        cases hc with
        | str _ _ hn =>
          let cap := Question.cut (.appendCap l 0 el) (w.tape w.drawn (.appendCap l 0 el))
          have hcap : l ≤ cap := by show l ≤ l + _; omega
          let arr : Array Value := ((bstr l n).data.map fun b => Value.int .u8 b.toNat) ++ Array.replicate (cap - l) (.int .u8 0)
          have hsize : arr.size = cap := by
            have h1 : (bstr l n).data.size = l := bstr_size l n
            simp [arr, h1]; omega
          refine ⟨.slice (some ⟨w.heap.size, 0, none⟩) l cap, w.drew, .cells arr el (arr.size, arr.size + 1), cap, ?_, .inr rfl, ?_, ?_⟩
          · refine run_v ?_
            have hsz : (bstr l n).size = l := bstr_size l n
            have hch : (choose (.appendCap l 0 el)).run P w = .ok cap w.drew := by
              simp [Question.forced, cap]
            have hfr := alloc_freeze w.drew arr el
            have hrun : (Conv.stringToBytes el (bstr l n)).run P w = .ok (.slice (some ⟨w.heap.size, 0, none⟩) l cap) (w.drew.alloc (.cells arr el (arr.size, arr.size + 1))) := by
              rw [← hfr]
              unfold Conv.stringToBytes
              rw [hsz]
              simp only [Sem.run_bind, hch, Result.andThen_ok]
              have hsh := shape_alloc w.drew arr el
              simp only [newRow, Sem.run_bind, run_newObj, Result.andThen_ok, Sem.run_pure, markStringish, run_shape]
              have hsh' : World.shape? { w.drew with heap := w.drew.heap.push (.cells arr el) } w.drew.heap.size = some (el, arr.size) := hsh
              rw [hsh']
              rfl
            rw [hfx]
            simp only [convert, Sem.run_bind, run_underlying hds, run_underlying hdt, Result.andThen_ok, run_underlying hde]
            cases ds <;> simp [hrun]
          · refine .cells el .leaf _ l true arr (arr.size, arr.size + 1) (by simp [hsize]) hcap (by simp) (.inr (Nat.le_refl _)) fun k a hk ha => ?_
            unfold cellOf at ha
            rw [Tr.get_leaf] at ha
            have ha' : ((List.range l).map fun i => AV.int .u8 (.ofNat (n / 256 ^ i % 256)))[k]? = some a := by
              have : ((List.range l).map fun i => AV.int .u8 (.ofNat (n / 256 ^ i % 256)))[k % ((List.range l).map fun i => AV.int .u8 (.ofNat (n / 256 ^ i % 256))).length]? = some a := ha
              simpa [Nat.mod_eq_of_lt hk] using this
            obtain ⟨u, hu, hur⟩ := (bytes_vrl (ρ := ρ.put ni ⟨w.heap.size, 0, cap⟩) l n).get k a ha'
            refine ⟨u, ?_, hur⟩
            have h1 : ((bstr l n).data.map fun b => Value.int .u8 b.toNat)[k]? = some u := by
              rw [← Array.getElem?_toList, Array.toList_map, bstr_data]; exact hu
            simp only [Nat.zero_add]
            show (((bstr l n).data.map fun b => Value.int .u8 b.toNat) ++ Array.replicate (cap - l) (.int .u8 0))[k]? = some u
            rw [Array.getElem?_append, if_pos (by rw [Array.size_map]; have : (bstr l n).data.size = l := bstr_size l n; omega)]
            exact h1
          · have := VR.slo (ρ := ρ.put ni ⟨w.heap.size, 0, cap⟩) ni 0 l 1 ⟨w.heap.size, 0, cap⟩ (Ren.put_same _ _ _) (by decide) (by simpa using hcap)
            simpa using this
      · cases h4
     | _ => cases h3
    | _ => cases h3
  case makeChan t x =>
    obtain ⟨v, hv, h1⟩ := ob_some.1 hev
    have hc := hX _ _ hv
    clear hev
    split at h1
    · rename_i k n
      obtain ⟨d, hd, h2⟩ := ob_some.1 h1
      split at h2
      · rename_i dir el
        obtain ⟨i, hi, h3⟩ := ob_some.1 h2
        obtain ⟨hb1, h4⟩ := gd_some.1 h3
        obtain ⟨hb2, h5⟩ := gd_some.1 h4
        injection h5 with h5; injection h5 with h5 h6; subst h5; subst h6
        rw [Nat.ble_eq] at hb1 hb2
        generalize hfx : f x = vx at hc
        cases hc
        refine ⟨.chan (some w.heap.size), w, .chan n #[] false 0 0 false, 0, ?_, .inl rfl, .chan n [] [] 0 0 .nil, .chan ni ⟨w.heap.size, 0, 0⟩ (Ren.put_same _ _ _)⟩
        refine run_v ?_
        rw [hfx]
        have hm : IntKind.i64.max = 9223372036854775807 := rfl
        have hcast : (i.bytes : Int) * (n : Int) = ((i.bytes * n : Nat) : Int) := by simp
        have hno : ¬ ((Int.ofNat n) < 0 ∨ (Int.ofNat n) > IntKind.i64.max ∨ (i.bytes : Int) * (Int.ofNat n) > 2 ^ 48 - 112) := by
          rw [hm]
          simp only [Int.ofNat_eq_natCast]
          rw [hcast]
          omega
        unfold Instr.makeChan
        simp only [asInt, asIntOf, Sem.run_bind, Sem.run_pure, Result.andThen_ok, run_underlying hd, run_typeInfo w hi]
        rw [if_neg hno]
        simp [Result.andThen_ok]
      · cases h2
    · cases h1
  case range t x =>
    obtain ⟨v, hv, h1⟩ := ob_some.1 hev
    obtain ⟨d, hd, h2⟩ := ob_some.1 h1
    have hc := hX _ _ hv
    clear hev h1
    generalize hfx : f x = vx at hc
    split at h2
    · rename_i l n
      injection h2 with h2; injection h2 with h2 h3; subst h2; subst h3
      cases hc with
      | str _ _ hn =>
        refine ⟨.pointer (some ⟨w.heap.size, 0, none⟩), w, .stringIter (bstr l n) 0, 0, ?_, .inl rfl, .siter l n 0 rfl hn, .ptr ni 0 ⟨w.heap.size, 0, 0⟩ (Ren.put_same _ _ _)⟩
        refine run_v ?_
        rw [hfx]
        simp [Instr.range, run_underlying hd]
    · injection h2 with h2; injection h2 with h2 h3; subst h2; subst h3
      cases hc
      refine ⟨.pointer (some ⟨w.heap.size, 0, none⟩), w, .mapIter none 0 #[] 0, 0, ?_, .inl rfl, .miter0 0 #[] 0 rfl, .ptr ni 0 ⟨w.heap.size, 0, 0⟩ (Ren.put_same _ _ _)⟩
      refine run_v ?_
      rw [hfx]
      simp [Instr.range, run_underlying hd]
    · cases h2

/-! ### bytes to a text -/
noncomputable def packU (l : List AV) : Option Nat :=
  List.rec (motive := fun _ => Option Nat) (some 0) (fun a _ ih => match a with
    | .int .u8 (.ofNat c) => gd (Nat.blt c 256) (ob ih fun n => fN (c + 256 * n) fun m => some m)
    | _ => none) l
theorem packU_sound {ρ : Ren} : ∀ {l : List AV} {vs : List Value} {n : Nat}, VRL ρ l vs → packU l = some n →
    n < 256 ^ l.length ∧ ∃ ns : List Int, vs = ns.map (Value.int .u8) ∧ ns.map (fun n => UInt8.ofNat n.toNat) = bytesL l.length n
  | _, _, n, .nil, h => by
    injection h with h; subst h
    exact ⟨by simp, [], rfl, rfl⟩
  | _, _, n, .cons a v l vs hv hs, h => by
    cases hv with
    | int k m =>
      cases k <;> first | (cases h; done) | skip
      cases m with
      | negSucc _ => cases h
      | ofNat c =>
        obtain ⟨hc, h1⟩ := gd_some.1 (show gd (Nat.blt c 256) (ob (packU l) fun n => fN (c + 256 * n) fun m => some m) = some n from h)
        obtain ⟨n', hn', h2⟩ := ob_some.1 h1
        rw [fN_eq] at h2
        injection h2 with h2; subst h2
        rw [Nat.blt_eq] at hc
        obtain ⟨h3, ns, h4, h5⟩ := packU_sound hs hn'
        refine ⟨by simp only [List.length_cons, Nat.pow_succ]; omega, Int.ofNat c :: ns, by rw [h4]; rfl, ?_⟩
        simp only [List.map_cons, List.length_cons, bytesL]
        rw [h5, show (c + 256 * n') / 256 = n' by omega]
        congr 1
        apply UInt8.toNat_inj.1
        rw [u8_ofNat_toNat, u8_ofNat_toNat]
        show c % 256 = _
        omega
    | _ => cases h

theorem fold_push : ∀ (ns : List Int) (s : ByteArray), ns.foldl (fun r n => r.push (UInt8.ofNat n.toNat)) s = ⟨s.data ++ (ns.map (fun n => UInt8.ofNat n.toNat)).toArray⟩
  | [], s => by cases s; simp
  | n :: ns, s => by
    simp only [List.foldl_cons, List.map_cons]
    rw [fold_push ns]
    cases s with
    | mk d =>
      simp only [ByteArray.push]
      congr 1
      apply Array.ext'
      simp

noncomputable def evBStr (P : Program) (H : Tr AObj) (src dst : TypeId) (x : AV) : Option AV :=
  ob (P.underlying src) fun ds => ob (P.underlying dst) fun dd => match ds, dd with
    | .slice e, .string => ob (P.underlying e) fun de => match de with
      | .int .u8 => match x with
        | .sl0 => some (.str 0 0)
        | .sl id off n _ => ob (evCells H id off n) fun l => ob (packU l) fun m => some (.str l.length m)
        | .slo id off n _ => ob (evCells H id off n) fun l => ob (packU l) fun m => some (.str l.length m)
        | .sle _ => some (.str 0 0)
        | _ => none
      | _ => none
    | _, _ => none

theorem evBStr_sound {P : Program} {E : Env} {F : Nat → Option Obj} {nx : Nat} {ρ : Ren} {h : Nat → Option AObj} {w : World} {H : Tr AObj} (r : Rel E F nx ρ h w) (hs : HS ρ H h)
    {src dst : TypeId} {x a : AV} {u : Value} (hx : VR ρ x u) (hev : evBStr P H src dst x = some a) : ∃ v, (convert src dst u).run P w = .ok v w ∧ VR ρ a v := by
  obtain ⟨ds, hds, h1⟩ := ob_some.1 hev
  obtain ⟨dd, hdd, h2⟩ := ob_some.1 h1
  clear hev h1
  have key : ∀ (e : TypeId) (ad : Addr) (n c : Nat) (l : List AV) (vs : List Value) (m : Nat), P.underlying src = some (.slice e) → P.underlying dst = some .string → P.underlying e = some (.int .u8) →
      VRL ρ l vs → vs.length = n → (∀ j v, vs[j]? = some v → w.cell? (ad.add j) = some v) → packU l = some m → ∃ v, (convert src dst (.slice (some ad) n c)).run P w = .ok v w ∧ VR ρ (.str l.length m) v := by
    intro e ad n c l vs m hsl hst he hl hn hc hp
    obtain ⟨h3, ns, h4, h5⟩ := packU_sound hl hp
    have hld := run_loadCells_list (P := P) w ad vs hc
    rw [hn] at hld
    subst h4
    refine ⟨.string (bstr l.length m), ?_, .str _ _ h3⟩
    rw [run_convert_bytes_string w src dst e (some ad) n c hsl he hst, run_bytesToString w ad n c ns hld, fold_push, h5]
    have he0 : ByteArray.empty.data = #[] := rfl
    rw [he0, Array.empty_append]
    rfl
  split at h2
  · obtain ⟨de, hde, h3⟩ := ob_some.1 h2
    split at h3
    · split at h3
      · injection h3 with h3; subst h3
        cases hx
        refine ⟨.string (bstr 0 0), ?_, .str 0 0 (by simp)⟩
        rw [run_convert_bytes_string w src dst _ none 0 0 hds hde hdd]
        simp [Conv.bytesToString]
        rfl
      · obtain ⟨l, hl, h4⟩ := ob_some.1 h3
        obtain ⟨m, hm, h5⟩ := ob_some.1 h4
        injection h5 with h5; subst h5
        cases hx with
        | sl _ _ _ _ b hb =>
          obtain ⟨vs, h6, h7, h8⟩ := evCells_sound r hs hb hl
          exact key _ _ _ _ l vs m hds hdd hde h6 h7 h8 hm
      · obtain ⟨l, hl, h4⟩ := ob_some.1 h3
        obtain ⟨m, hm, h5⟩ := ob_some.1 h4
        injection h5 with h5; subst h5
        cases hx with
        | slo _ _ _ _ b hb _ _ =>
          obtain ⟨vs, h6, h7, h8⟩ := evCells_sound r hs hb hl
          exact key _ _ _ _ l vs m hds hdd hde h6 h7 h8 hm
      · injection h3 with h3; subst h3
        cases hx with
        | sle _ b o c hb =>
          exact key _ _ _ _ [] [] 0 hds hdd hde .nil rfl (fun j v hj => by simp at hj) rfl
      · cases h3
    · cases h3
  · cases h2

def isSl : AV → Bool
  | .sl0 => true
  | .sl _ _ _ _ => true
  | .slo _ _ _ _ => true
  | .sle _ => true
  | _ => false

/-! ### assertions of types -/
noncomputable def evAssert (P : Program) (asserted : TypeId) (ok : Bool) (a : AV) : Option AV :=
  ob (P.underlying asserted) fun d => gd (!isIfaceD d) (match a with
    | .iface0 => gd ok (ob (zeroAV P asserted) fun z => some (.tup [z, .bool false]))
    | .iface t v => cond (Nat.beq t asserted) (some (cond ok (.tup [v, .bool true]) v)) (gd ok (ob (zeroAV P asserted) fun z => some (.tup [z, .bool false])))
    | _ => none)

theorem evAssert_sound {P : Program} {ρ : Ren} {t asserted : TypeId} {ok : Bool} {x a : AV} {u : Value} (hx : VR ρ x u) (h : evAssert P asserted ok x = some a) (w : World) :
    ∃ v, (Instr.typeAssert u t asserted ok).run P w = .ok v w ∧ VR ρ a v := by
  obtain ⟨d, hd, h1⟩ := ob_some.1 h
  obtain ⟨hi, h2⟩ := gd_some.1 h1
  clear h h1
  split at h2
  · obtain ⟨hok, h3⟩ := gd_some.1 h2
    obtain ⟨z, hz, h4⟩ := ob_some.1 h3
    injection h4 with h4; subst h4; subst hok
    obtain ⟨zv, hzv, hzr⟩ := zeroAV_sound hz w
    cases hx
    refine ⟨.tuple #[zv, .bool false], ?_, .tup _ [zv, .bool false] (.cons _ _ _ _ (hzr ρ) (.cons _ _ _ _ (.bool _) .nil))⟩
    cases d <;> first | (simp [isIfaceD] at hi; done) | simp [Instr.typeAssert, run_underlying hd, hzv]
  · rename_i t' v
    cases hx with
    | iface _ _ u hu =>
      cases hb : Nat.beq t' asserted with
      | true =>
        rw [hb, cond_true] at h2
        rw [Nat.beq_eq] at hb
        subst hb
        injection h2 with h2
        cases ok with
        | true =>
          simp only [cond_true] at h2; subst h2
          refine ⟨.tuple #[u, .bool true], ?_, .tup _ [u, .bool true] (.cons _ _ _ _ hu (.cons _ _ _ _ (.bool _) .nil))⟩
          cases d <;> first | (simp [isIfaceD] at hi; done) | simp [Instr.typeAssert, run_underlying hd]
        | false =>
          simp only [cond_false] at h2; subst h2
          refine ⟨u, ?_, hu⟩
          cases d <;> first | (simp [isIfaceD] at hi; done) | simp [Instr.typeAssert, run_underlying hd]
      | false =>
        rw [hb, cond_false] at h2
        obtain ⟨hok, h3⟩ := gd_some.1 h2
        obtain ⟨z, hz, h4⟩ := ob_some.1 h3
        injection h4 with h4; subst h4; subst hok
        obtain ⟨zv, hzv, hzr⟩ := zeroAV_sound hz w
        have hne : ¬ t' = asserted := fun e => by rw [← Nat.beq_eq, hb] at e; cases e
        refine ⟨.tuple #[zv, .bool false], ?_, .tup _ [zv, .bool false] (.cons _ _ _ _ (hzr ρ) (.cons _ _ _ _ (.bool _) .nil))⟩
        cases d <;> first | (simp [isIfaceD] at hi; done) | simp [Instr.typeAssert, run_underlying hd, hzv, hne]
  · cases h2

/-! ### functions of the library that have no text -/
/-- A text's, a row's bytes. -/
noncomputable def evBytes (H : Tr AObj) (x : AV) : Option (Nat × Nat) :=
  match x with
  | .str l n => some (l, n)
  | .sl0 => some (0, 0)
  | .sl id off n _ => ob (evCells H id off n) fun l => ob (packU l) fun m => some (l.length, m)
  | .slo id off n _ => ob (evCells H id off n) fun l => ob (packU l) fun m => some (l.length, m)
  | .sle _ => some (0, 0)
  | _ => none

theorem run_loadBytes {P : Program} (w : World) : ∀ (ns : List Int) (a : Addr) (acc : ByteArray), (∀ j v, (ns.map (Value.int .u8))[j]? = some v → w.cell? (a.add j) = some v) →
    (Extern.Bytes.loadBytes a ns.length acc).run P w = .ok ⟨acc.data ++ (ns.map fun n => UInt8.ofNat n.toNat).toArray⟩ w
  | [], a, acc, _ => by cases acc; simp [Extern.Bytes.loadBytes]
  | n :: ns, a, acc, h => by
    have h0 : w.cell? a = some (.int .u8 n) := by have := h 0 _ rfl; simpa [Addr.add] using this
    have ih := run_loadBytes (P := P) w ns (a.add 1) (acc.push n.toNat.toUInt8) fun j v hj => by
      have := h (j + 1) v (by simpa using hj)
      have e : (a.add 1).add j = a.add (j + 1) := by
        unfold Addr.add
        by_cases hj : j = 0
        · subst hj; simp
        · simp [hj]; omega
      rw [e]; exact this
    simp only [List.length_cons, Extern.Bytes.loadBytes, Sem.run_bind]
    have hl : (load a).run P w = .ok (.int .u8 n) w := by simp [h0]
    rw [hl]
    simp only [Result.andThen_ok]
    rw [ih]
    congr 1
    cases acc with
    | mk d =>
      simp only [ByteArray.push, List.map_cons]
      congr 1
      apply Array.ext'
      simp

theorem evBytes_sound {P : Program} {E : Env} {F : Nat → Option Obj} {nx : Nat} {ρ : Ren} {h : Nat → Option AObj} {w : World} {H : Tr AObj} (r : Rel E F nx ρ h w) (hs : HS ρ H h)
    {x : AV} {u : Value} {l n : Nat} (hx : VR ρ x u) (hev : evBytes H x = some (l, n)) : (Extern.Bytes.bytesOf u).run P w = .ok (bstr l n) w := by
  have key : ∀ (ad : Addr) (c : Nat) (ls : List AV) (vs : List Value) (m : Nat), VRL ρ ls vs → (∀ j v, vs[j]? = some v → w.cell? (ad.add j) = some v) → packU ls = some m →
      (Extern.Bytes.bytesOf (.slice (some ad) vs.length c)).run P w = .ok (bstr ls.length m) w := by
    intro ad c ls vs m hl hc hp
    obtain ⟨h3, ns, h4, h5⟩ := packU_sound hl hp
    subst h4
    have := run_loadBytes (P := P) w ns ad .empty hc
    simp only [Extern.Bytes.bytesOf, List.length_map]
    rw [this, h5]
    congr 1
    show (⟨#[] ++ (bytesL ls.length m).toArray⟩ : ByteArray) = _
    rw [Array.empty_append]
    rfl
  unfold evBytes at hev
  split at hev
  · injection hev with hev; injection hev with h1 h2; subst h1; subst h2
    cases hx; rfl
  · injection hev with hev; injection hev with h1 h2; subst h1; subst h2
    cases hx; rfl
  · obtain ⟨ls, hl, h4⟩ := ob_some.1 hev
    obtain ⟨m, hm, h5⟩ := ob_some.1 h4
    injection h5 with h5; injection h5 with h1 h2; subst h1; subst h2
    cases hx with
    | sl _ _ _ _ b hb =>
      obtain ⟨vs, h6, h7, h8⟩ := evCells_sound r hs hb hl
      rw [← h7]
      exact key _ _ _ vs _ h6 h8 hm
  · obtain ⟨ls, hl, h4⟩ := ob_some.1 hev
    obtain ⟨m, hm, h5⟩ := ob_some.1 h4
    injection h5 with h5; injection h5 with h1 h2; subst h1; subst h2
    cases hx with
    | slo _ _ _ _ b hb _ _ =>
      obtain ⟨vs, h6, h7, h8⟩ := evCells_sound r hs hb hl
      rw [← h7]
      exact key _ _ _ vs _ h6 h8 hm
  · injection hev with hev; injection hev with h1 h2; subst h1; subst h2
    cases hx with
    | sle _ b o c hb => exact key _ _ [] [] 0 .nil (fun j v hj => by simp at hj) rfl
  · cases hev

/-- How many bytes of a packed text are c. -/
noncomputable def cntB (c l : Nat) : Nat → Nat :=
  Nat.rec (motive := fun _ => Nat → Nat) (fun _ => 0) (fun _ ih n => cond (Nat.beq (n % 256) c) (fN (n / 256) ih + 1) (fN (n / 256) ih)) l
theorem cntB_sound {c : Nat} (hc : c < 256) : ∀ (l n : Nat), Lib.countByte (bytesL l n) (UInt8.ofNat c) = cntB c l n
  | 0, _ => rfl
  | l + 1, n => by
    have ih := cntB_sound hc l (n / 256)
    unfold Lib.countByte at ih ⊢
    show List.count _ (UInt8.ofNat n :: bytesL l (n / 256)) = cond (Nat.beq (n % 256) c) (fN (n / 256) (cntB c l) + 1) (fN (n / 256) (cntB c l))
    rw [fN_eq, List.count_cons, ih]
    by_cases h : n % 256 = c
    · have h1 : UInt8.ofNat n = UInt8.ofNat c := by
        apply UInt8.toNat_inj.1
        rw [u8_ofNat_toNat, u8_ofNat_toNat]; omega
      have h2 : Nat.beq (n % 256) c = true := by rw [Nat.beq_eq]; exact h
      rw [h1, h2, cond_true]
      simp
    · have h1 : UInt8.ofNat n ≠ UInt8.ofNat c := fun e => h (by
        have := congrArg UInt8.toNat e
        rw [u8_ofNat_toNat, u8_ofNat_toNat] at this; omega)
      have h2 : Nat.beq (n % 256) c = false := by
        cases hb : Nat.beq (n % 256) c with
        | false => rfl
        | true => rw [Nat.beq_eq] at hb; exact absurd hb h
      rw [h2, cond_false]
      simp [h1]

/-- Where the first such byte is. -/
noncomputable def idxB (c l : Nat) : Nat → Nat → Int :=
  Nat.rec (motive := fun _ => Nat → Nat → Int) (fun _ _ => -1) (fun _ ih n k => cond (Nat.beq (n % 256) c) (Int.ofNat k) (fN (n / 256) fun n' => fN (k + 1) fun k' => ih n' k')) l
theorem idxB_sound {c : Nat} (hc : c < 256) : ∀ (l n k : Nat), idxB c l n k = if Lib.indexByte (bytesL l n) (UInt8.ofNat c) = -1 then -1 else Lib.indexByte (bytesL l n) (UInt8.ofNat c) + k
  | 0, _, _ => rfl
  | l + 1, n, k => by
    have ih := idxB_sound hc l (n / 256) (k + 1)
    show cond (Nat.beq (n % 256) c) (Int.ofNat k) (fN (n / 256) fun n' => fN (k + 1) fun k' => idxB c l n' k') = if Lib.indexByte (UInt8.ofNat n :: bytesL l (n / 256)) _ = -1 then -1 else Lib.indexByte (UInt8.ofNat n :: bytesL l (n / 256)) _ + k
    have hu : Lib.indexByte (UInt8.ofNat n :: bytesL l (n / 256)) (UInt8.ofNat c) = if UInt8.ofNat n == UInt8.ofNat c then 0 else if Lib.indexByte (bytesL l (n / 256)) (UInt8.ofNat c) == -1 then -1 else Lib.indexByte (bytesL l (n / 256)) (UInt8.ofNat c) + 1 := rfl
    rw [fN_eq, fN_eq, ih, hu]
    by_cases h : n % 256 = c
    · have h1 : UInt8.ofNat n = UInt8.ofNat c := by
        apply UInt8.toNat_inj.1
        rw [u8_ofNat_toNat, u8_ofNat_toNat]; omega
      have h2 : Nat.beq (n % 256) c = true := by rw [Nat.beq_eq]; exact h
      rw [h1, h2, cond_true]
      simp
    · have h1 : UInt8.ofNat n ≠ UInt8.ofNat c := fun e => h (by
        have := congrArg UInt8.toNat e
        rw [u8_ofNat_toNat, u8_ofNat_toNat] at this; omega)
      have h2 : Nat.beq (n % 256) c = false := by
        cases hb : Nat.beq (n % 256) c with
        | false => rfl
        | true => rw [Nat.beq_eq] at hb; exact absurd hb h
      have hg := Lib.indexByte_ge (bytesL l (n / 256)) (UInt8.ofNat c)
      rw [h2, cond_false]
      simp only [h1, beq_iff_eq, if_false]
      by_cases hm : Lib.indexByte (bytesL l (n / 256)) (UInt8.ofNat c) = -1
      · simp [hm]
      · rw [if_neg hm, if_neg hm, if_neg (by omega)]
        omega

/-- Which one it is: it counts, or seeks. -/
noncomputable def extK (name : String) : Nat :=
  cond (name == "internal/bytealg.Count") 1 (cond (name == "internal/bytealg.CountString") 1 (cond (name == "internal/bytealg.IndexByte") 2 (cond (name == "internal/bytealg.IndexByteString") 2 0)))

theorem extK_one {fn : Func} (ho : fn.origin = "") (h : extK fn.name = 1) : Extern.findNext fn = none ∧ Extern.find fn = some Extern.BytealgCount.count ∧ (fn.name == "runtime.NumGoroutine") = false := by
  have hn : fn.name = "internal/bytealg.Count" ∨ fn.name = "internal/bytealg.CountString" := by
    unfold extK at h
    by_cases h1 : fn.name = "internal/bytealg.Count"
    · exact .inl h1
    · by_cases h2 : fn.name = "internal/bytealg.CountString"
      · exact .inr h2
      · exfalso
        have e1 : (fn.name == "internal/bytealg.Count") = false := by simpa using h1
        have e2 : (fn.name == "internal/bytealg.CountString") = false := by simpa using h2
        rw [e1, e2] at h
        cases h3 : (fn.name == "internal/bytealg.IndexByte") <;> cases h4 : (fn.name == "internal/bytealg.IndexByteString") <;> rw [h3] at h <;> simp [h4] at h
  obtain ⟨name, origin⟩ := fn
  simp only at ho hn
  subst ho
  rcases hn with rfl | rfl
  · exact ⟨by kernel_rfl, by kernel_rfl, by kernel_rfl⟩
  · exact ⟨by kernel_rfl, by kernel_rfl, by kernel_rfl⟩

theorem extK_two {fn : Func} (ho : fn.origin = "") (h : extK fn.name = 2) : Extern.findNext fn = none ∧ Extern.find fn = some Extern.BytealgIndexByte.indexByte ∧ (fn.name == "runtime.NumGoroutine") = false := by
  have hn : fn.name = "internal/bytealg.IndexByte" ∨ fn.name = "internal/bytealg.IndexByteString" := by
    unfold extK at h
    by_cases h1 : fn.name = "internal/bytealg.IndexByte"
    · exact .inl h1
    · by_cases h2 : fn.name = "internal/bytealg.IndexByteString"
      · exact .inr h2
      · exfalso
        have e1 : (fn.name == "internal/bytealg.IndexByte") = false := by simpa using h1
        have e2 : (fn.name == "internal/bytealg.IndexByteString") = false := by simpa using h2
        rw [e1, e2] at h
        cases h3 : (fn.name == "internal/bytealg.Count") <;> cases h4 : (fn.name == "internal/bytealg.CountString") <;> rw [h3] at h <;> simp [h4] at h
  obtain ⟨name, origin⟩ := fn
  simp only at ho hn
  subst ho
  rcases hn with rfl | rfl
  · exact ⟨by kernel_rfl, by kernel_rfl, by kernel_rfl⟩
  · exact ⟨by kernel_rfl, by kernel_rfl, by kernel_rfl⟩

/-- A call of such a one. -/
noncomputable def evExt (P : Program) (H : Tr AObj) (f : AV) (xs : List AV) : Option AV :=
  match f with
  | .fn (.func g) [] [] => ob (P.funcs[g]?) fun fn => gd fn.body.isNone (gd (fn.origin == "") (match xs with
    | [b, .int .u8 (.ofNat c)] => gd (Nat.blt c 256) (ob (evBytes H b) fun p => fN (extK fn.name) fun k => cond (Nat.beq k 1) (fN (cntB c p.1 p.2) fun m => some (.int .i64 (.ofNat m)))
        (gd (Nat.beq k 2) (fI (idxB c p.1 p.2 0) fun m => some (.int .i64 m))))
    | _ => none))
  | _ => none

theorem evExt_sound {P : Program} {E : Env} {F : Nat → Option Obj} {nx : Nat} {ρ : Ren} {h : Nat → Option AObj} {w : World} {H : Tr AObj} (r : Rel E F nx ρ h w) (hs : HS ρ H h)
    {f : AV} {xs : List AV} {a : AV} {us : List Value} (hx : VRL ρ xs us) (hev : evExt P H f xs = some a) : ∃ g, f = .fn (.func g) [] [] ∧ ∃ v, (callFunc g us.toArray).run P w = .ok (.value v) w ∧ VR ρ a v := by
  unfold evExt at hev
  split at hev
  · rename_i g
    obtain ⟨fn, hfn, h1⟩ := ob_some.1 hev
    obtain ⟨hb, h2⟩ := gd_some.1 h1
    obtain ⟨ho, h3⟩ := gd_some.1 h2
    have ho' : fn.origin = "" := by simpa using ho
    refine ⟨g, rfl, ?_⟩
    split at h3
    · rename_i b c
      obtain ⟨hc, h4⟩ := gd_some.1 h3
      rw [Nat.blt_eq] at hc
      obtain ⟨⟨l, n⟩, hbs, h5⟩ := ob_some.1 h4
      simp only [fN_eq, fI_eq] at h5
      cases hx with
      | cons _ u1 _ us1 hu1 hus1 => cases hus1 with
        | cons _ u2 _ us2 hu2 hus2 =>
          cases hus2
          cases hu2
          have hby := evBytes_sound (P := P) r hs hu1 hbs
          have hdata : (bstr l n).data.toList = bytesL l n := by simp [bstr]
          cases hk : Nat.beq (extK fn.name) 1 with
          | true =>
            rw [hk, cond_true] at h5
            injection h5 with h5; subst h5
            obtain ⟨e1, e2, e3⟩ := extK_one ho' (Nat.eq_of_beq_eq_true hk)
            refine ⟨.int .i64 (Int.ofNat (cntB c l n)), ?_, .int _ _⟩
            rw [run_callFunc_extern hfn e3 hb e1 e2]
            have hs0 := Lib.run_countString (P := P) (bstr l n) (Int.ofNat c) w
            have hrun : (Extern.BytealgCount.count #[u1, .int .u8 (Int.ofNat c)]).run P w = (Extern.BytealgCount.count #[.string (bstr l n), .int .u8 (Int.ofNat c)]).run P w := by
              change Sem.run P (do
                let b ← Extern.Bytes.bytesOf u1
                let c' ← Extern.Bytes.asByte (.int .u8 (Int.ofNat c))
                pure (goInt (b.foldl (fun n x => if x == c' then n + 1 else n) (0 : Nat)))) w = Sem.run P (do
                let b ← Extern.Bytes.bytesOf (.string (bstr l n))
                let c' ← Extern.Bytes.asByte (.int .u8 (Int.ofNat c))
                pure (goInt (b.foldl (fun n x => if x == c' then n + 1 else n) (0 : Nat)))) w
              have hst : (Extern.Bytes.bytesOf (.string (bstr l n))).run P w = .ok (bstr l n) w := rfl
              simp only [Sem.run_bind, hby, hst]
            rw [show [u1, Value.int .u8 (Int.ofNat c)].toArray = #[u1, .int .u8 (Int.ofNat c)] from rfl, hrun, hs0, hdata]
            have : (Int.ofNat c).toNat.toUInt8 = UInt8.ofNat c := rfl
            rw [this, cntB_sound hc]
            rfl
          | false =>
            rw [hk, cond_false] at h5
            obtain ⟨hk2, h6⟩ := gd_some.1 h5
            injection h6 with h6; subst h6
            obtain ⟨e1, e2, e3⟩ := extK_two ho' (Nat.eq_of_beq_eq_true hk2)
            refine ⟨.int .i64 (idxB c l n 0), ?_, .int _ _⟩
            rw [run_callFunc_extern hfn e3 hb e1 e2]
            have hs0 := Lib.run_indexByteString (P := P) (bstr l n) (Int.ofNat c) w
            have hrun : (Extern.BytealgIndexByte.indexByte #[u1, .int .u8 (Int.ofNat c)]).run P w = (Extern.BytealgIndexByte.indexByte #[.string (bstr l n), .int .u8 (Int.ofNat c)]).run P w := by
              change Sem.run P (do
                let b ← Extern.Bytes.bytesOf u1
                let c' ← Extern.Bytes.asByte (.int .u8 (Int.ofNat c))
                match (List.range b.size).find? fun i => b[i]! == c' with
                | some i => pure (goInt i)
                | none => pure (goInt (-1))) w = Sem.run P (do
                let b ← Extern.Bytes.bytesOf (.string (bstr l n))
                let c' ← Extern.Bytes.asByte (.int .u8 (Int.ofNat c))
                match (List.range b.size).find? fun i => b[i]! == c' with
                | some i => pure (goInt i)
                | none => pure (goInt (-1))) w
              have hst : (Extern.Bytes.bytesOf (.string (bstr l n))).run P w = .ok (bstr l n) w := rfl
              simp only [Sem.run_bind, hby, hst]
            rw [show [u1, Value.int .u8 (Int.ofNat c)].toArray = #[u1, .int .u8 (Int.ofNat c)] from rfl, hrun, hs0, hdata]
            have : (Int.ofNat c).toNat.toUInt8 = UInt8.ofNat c := rfl
            rw [this, idxB_sound hc]
            split
            · rename_i e; rw [e]; rfl
            · simp
    · cases h3
  · cases hev

/-- What a range over a map has come to. -/
noncomputable def findB (st : Nat) (es : List AEnt) : Option AEnt :=
  List.rec (motive := fun _ => Option AEnt) none (fun e _ ih => cond (Nat.beq e.born st) (some e) ih) es
theorem findB_sound {ρ : Ren} {st : Nat} {e : AEnt} : ∀ {es : List AEnt} {l : List MapEntry}, ERL ρ es l → findB st es = some e → ∃ m, l.find? (fun m => m.born == st) = some m ∧ ER ρ e m
  | _, _, .nil, h => by cases h
  | _, _, .cons e' m es l he hs, h => by
    have hb : m.born = e'.born := he.2.2.symm
    have h' : cond (Nat.beq e'.born st) (some e') (findB st es) = some e := h
    cases hc : Nat.beq e'.born st with
    | true =>
      rw [hc, cond_true] at h'
      injection h' with h'; subst h'
      rw [Nat.beq_eq] at hc
      exact ⟨m, by simp [hb, hc], he⟩
    | false =>
      rw [hc, cond_false] at h'
      obtain ⟨m', h1, h2⟩ := findB_sound hs h'
      have hne : ¬ e'.born = st := fun e => by rw [← Nat.beq_eq, hc] at e; cases e
      exact ⟨m', by simp [hb, hne, h1], h2⟩

noncomputable def evEntry (H : Tr AObj) (a : AV) : Option AV :=
  match a with
  | .ptr id 0 => ob (H.get id) fun o => match o with
    | .miter mid _ seen last => ob (H.get mid) fun m => match m with
      | .map es clock => gd (Nat.beq clock last) (ob seen.getLast? fun st => ob (findB st es) fun e => some (.tup [e.key, e.val]))
      | _ => none
    | _ => none
  | _ => none

theorem evEntry_sound {P : Program} {E : Env} {F : Nat → Option Obj} {nx : Nat} {ρ : Ren} {h : Nat → Option AObj} {w : World} {H : Tr AObj} (r : Rel E F nx ρ h w) (hs : HS ρ H h)
    {x a : AV} {u : Value} (hx : VR ρ x u) (hev : evEntry H x = some a) : ∃ v, (Instr.entry u).run P w = .ok v w ∧ VR ρ a v := by
  unfold evEntry at hev
  split at hev
  · rename_i id
    cases hx with
    | ptr _ _ b hb =>
    obtain ⟨o, ho, h1⟩ := ob_some.1 hev
    obtain ⟨co, hc, hor⟩ := r.ob _ _ b (hs _ _ ho (.inl ⟨b, hb⟩)) hb
    split at h1
    · rename_i mid since seen last
      cases hor with
      | miter _ _ _ _ bm hob hbm =>
      obtain ⟨om, hom, h2⟩ := ob_some.1 h1
      obtain ⟨cm, hcm, hom'⟩ := r.ob _ _ bm (hs _ _ hom (.inl ⟨bm, hbm⟩)) hbm
      split at h2
      · rename_i es clock
        cases hom' with
        | map _ _ l hl =>
        obtain ⟨hck, h3⟩ := gd_some.1 h2
        obtain ⟨st, hst, h4⟩ := ob_some.1 h3
        obtain ⟨e, he, h5⟩ := ob_some.1 h4
        injection h5 with h5; subst h5
        have hck' := Nat.eq_of_beq_eq_true hck
        subst hck'
        obtain ⟨m, hm, her⟩ := findB_sound hl he
        have hz : b.ob + 0 = 0 := by omega
        have hgo : (getObj b.b).run P w = .ok (.mapIter (some bm.b) since seen.toArray clock) w := by simp [getObj, Sem.run, hc]
        have hgm : (getObj bm.b).run P w = .ok (.map l.toArray clock) w := by simp [getObj, Sem.run, hcm]
        have hback : seen.toArray.back? = some st := by simp [hst]
        have hfind : l.toArray.find? (fun m => m.born == st) = some m := by simp [hm]
        refine ⟨.tuple #[m.key, m.val], ?_, .tup _ [m.key, m.val] (.cons _ _ _ _ her.1 (.cons _ _ _ _ her.2.1 .nil))⟩
        simp only [hz, Instr.entry, Sem.run_bind, hgo, Result.andThen_ok, hback, hgm, bne_self_eq_false, Bool.false_eq_true, if_false, hfind, Sem.run_pure]
      · cases h2
    · cases h1
  · cases hev

/-- All bits turned. -/
def isXor : UnOp → Bool
  | .xor => true
  | _ => false
noncomputable def evXor (x : AV) : Option AV :=
  match x with
  | .int k n => fI (cond k.signed (-1) k.max) fun m => evInt .xor k m n
  | _ => none
theorem evXor_sound {P : Program} {ρ : Ren} {x a : AV} {u : Value} (hx : VR ρ x u) (h : evXor x = some a) (w : World) : ∃ v, (Op.unary .xor u).run P w = .ok v w ∧ VR ρ a v := by
  unfold evXor at h
  split at h
  · rename_i k n
    rw [fI_eq] at h
    cases hx
    obtain ⟨v, hv, hr⟩ := evInt_sound (P := P) (ρ := ρ) (t := 0) (by simp) (by simp) h w
    refine ⟨v, ?_, hr⟩
    rw [← hv]
    cases hs : k.signed <;> simp [Op.unary, binOp, hs]
  · cases h

/-- All that makes and writes nothing. -/
noncomputable def evPure2 (P : Program) (H : Tr AObj) (X : Operand → Option AV) (op : Op) : Option AV :=
  match op with
  | .build t parts => evBuild P X t parts.toList
  | .convert s d x => ob (X x) fun v => cond (isSl v) (evBStr P H s d v) (evConv P s d v)
  | .typeAssert x _ asserted ok => ob (X x) fun v => evAssert P asserted ok v
  | .entry x => ob (X x) fun v => evEntry H v
  | .unOp op t x => cond (isXor op) (ob (X x) fun v => evXor v) (evPure P H X (.unOp op t x))
  | .call c => match c.callee with
    | .value f => ob (X f) fun fv => ob (xsL X c.args.toList) fun xs => evExt P H fv xs
    | _ => evPure P H X (.call c)
  | op => evPure P H X op

theorem evPure2_sound {P : Program} {E : Env} {F : Nat → Option Obj} {nx : Nat} {ρ : Ren} {h : Nat → Option AObj} {w : World} {H : Tr AObj} (r : Rel E F nx ρ h w) (hs : HS ρ H h)
    {X : Operand → Option AV} {f : Operand → Value} (hX : XR ρ X f) (o : Oper) {a : AV} (hev : evPure2 P H X o.op = some a) :
    ∃ v, (execOp f o).run P w = .ok (.value v) w ∧ VR ρ a v := by
  unfold evPure2 at hev
  split at hev
  · rename_i t parts ho
    obtain ⟨dst, op, type, pos, after, guard⟩ := o
    simp only at ho
    subst ho
    obtain ⟨v, h1, h2⟩ := evBuild_sound (P := P) hX hev w
    exact ⟨v, run_v h1, h2⟩
  · rename_i s d x ho
    obtain ⟨dst, op, type, pos, after, guard⟩ := o
    simp only at ho
    subst ho
    obtain ⟨v, hv, h1⟩ := ob_some.1 hev
    cases hsl : isSl v with
    | true =>
      rw [hsl, cond_true] at h1
      obtain ⟨z, h2, h3⟩ := evBStr_sound (P := P) r hs (hX _ _ hv) h1
      exact ⟨z, run_v h2, h3⟩
    | false =>
      rw [hsl, cond_false] at h1
      obtain ⟨z, h2, h3⟩ := evConv_sound (P := P) (hX _ _ hv) h1 w
      exact ⟨z, run_v h2, h3⟩
  · rename_i x xt asserted ok ho
    obtain ⟨dst, op, type, pos, after, guard⟩ := o
    simp only at ho
    subst ho
    obtain ⟨v, hv, h1⟩ := ob_some.1 hev
    obtain ⟨z, h2, h3⟩ := evAssert_sound (P := P) (t := xt) (hX _ _ hv) h1 w
    exact ⟨z, run_v h2, h3⟩
  · rename_i x ho
    obtain ⟨dst, op, type, pos, after, guard⟩ := o
    simp only at ho
    subst ho
    obtain ⟨v, hv, h1⟩ := ob_some.1 hev
    obtain ⟨z, h2, h3⟩ := evEntry_sound (P := P) r hs (hX _ _ hv) h1
    exact ⟨z, run_v h2, h3⟩
  · rename_i uop ut x ho
    obtain ⟨dst, op, type, pos, after, guard⟩ := o
    simp only at ho
    subst ho
    cases hxo : isXor uop with
    | true =>
      rw [hxo, cond_true] at hev
      obtain ⟨v, hv, h1⟩ := ob_some.1 hev
      obtain ⟨z, h2, h3⟩ := evXor_sound (P := P) (hX _ _ hv) h1 w
      cases uop <;> first | (simp [isXor] at hxo; done) | exact ⟨z, run_v h2, h3⟩
    | false =>
      rw [hxo, cond_false] at hev
      exact evPure_sound r hs hX { dst, op := .unOp uop ut x, type, pos, after, guard } hev
  · rename_i c ho
    obtain ⟨dst, op, type, pos, after, guard⟩ := o
    simp only at ho
    subst ho
    obtain ⟨callee, args, argTypes⟩ := c
    simp only at hev
    split at hev
    · rename_i g
      obtain ⟨fv, hfv, h0⟩ := ob_some.1 hev
      obtain ⟨xs, hxs, h1⟩ := ob_some.1 h0
      obtain ⟨k, hk, v, h2, h3⟩ := evExt_sound r hs (xsL_sound hX hxs) h1
      subst hk
      refine ⟨v, ?_, h3⟩
      have hfx : f g = .func (.func k) #[] #[] := by
        have := hX _ _ hfv
        generalize f g = u at this
        cases this with
        | fn _ _ _ va vc ha hc => cases ha; cases hc; rfl
      have hargs : (args.toList.map f).toArray = args.map f := by rw [map_toArray]
      rw [hargs] at h2
      simp only [execOp, resolve, hfx, Deferred.ofValue, Sem.run_bind, Sem.run_pure, Result.andThen_ok, invoke, Array.append_empty, Array.empty_append]
      exact h2
    · exact evPure_sound r hs hX { dst, op := .call { callee, args, argTypes }, type, pos, after, guard } hev
  · exact evPure_sound r hs hX o hev

end Go.Ev
