/- Laid by program out of its parts: SxT, SxU, SxX. -/
import Derived.Test.YtbijipibbddgdaaGreatDoorMf
import Derived.ChangeSlices
set_option linter.unusedVariables false
set_option linter.unusedSimpArgs false
section
/- The symbolic layer, part T: a contract out of a statement on calls, tables of the library in it. -/
namespace Go.Ev
open Go.RowKit

theorem ent_of_callsG {P : Program} {g : FuncId} {ent : Tr AObj → List AV → Option Ct} (hfn : ∃ fn c, P.funcs[g]? = some fn ∧ (fn.name == "runtime.NumGoroutine") = false ∧ fn.body = some c)
    (h : ∀ H args ct, ent H args = some ct → ∃ pre v, ct = .need pre (.ret v) ∧ (pre → ∀ (ρ : Ren) (w : World) (vs : List Value), (∀ b o, ρ.st b = some o → w.heap[b]? = some o) → VRL ρ args vs →
      (∀ g l, H.get g = some (.glob l) → ∃ cs e fz, w.heap[g]? = some (.cells cs e fz) ∧ ∀ ρ', VRL ρ' l cs.toList) →
      Calls P g vs.toArray w fun e w' => ∃ u, e = .returned u ∧ VR ρ v u ∧ RowKit.Below w.heap.size w w')) : EntOK P g ent := by
  intro H args ct hct p v hout E F ρ w nx H' hG r
  obtain ⟨pre, v', rfl, h2⟩ := h H args ct hct
  obtain ⟨hp, rfl, rfl⟩ := ctOut_need hout
  refine ⟨hfn, fun vs hvs => callsIn_wide.2 ((h2 hp ρ w vs r.st hvs fun g l hg => ?_).mono fun e w' ⟨u, he, hv, hb⟩ => ?_)⟩
  · obtain ⟨cs, e, fz, h3, h4⟩ := hG g l hg
    exact ⟨cs, e, fz, r.fr _ _ (r.bs _ _ h3), h4⟩
  · exact ⟨u, ρ, he, ⟨Ren.le_refl ρ, fun _ _ => rfl, Nat.le_succ _⟩, rel_below r hb, hv⟩

/-- A row of numbers, as values. -/
theorem ints_vals {ρ : Ren} : ∀ (zs : List (IntKind × Int)) {vs : List Value}, VRL ρ (zs.map fun z => .int z.1 z.2) vs → vs = zs.map fun z => .int z.1 z.2
  | [], _, .nil => rfl
  | _ :: zs, _, .cons _ _ _ _ h hs => by
    cases h
    rw [ints_vals zs hs]; rfl
end Go.Ev
end

section
/- The symbolic layer, part U: slices from outside whose rows are contents in their turn; slices of which only the length is told. -/
namespace Go.Ev
/-- A slice that a call from outside hands over, as a content: each row is one. -/
theorem vec_argR {α : Type} {row : α → List AV} {d : α} {esz : Nat} (he : 0 < esz) {H : Type} {enc : TypeId × Value → H} {P : Program} {w : World} {t e n : Nat} {v : Value} {x : DataW H × List MemPlace}
    (ht : P.underlying t = some (.slice e)) (hc : P.cellsOf e = esz) (hrow : ∀ cs m x, DataW.trod enc P w 0 (fun _ => true) true m e cs = some x → ∃ a : α, VRL (wRen w) (row a) cs)
    (h : DataW.trod enc P w 0 (fun _ => true) true n t [v] = some x) : ∃ l : List α, VR (wRen w) (.vec esz l.length fun k => row (l.getD k d)) v := by
  rcases DataW.trod_slice ht h with ⟨hcs, rfl⟩ | ⟨a, len, cap, elems, rest, m, _, hcs, rfl, _, hl, hm, hel, hget, _, _⟩
  · injection hcs with hv _
    subst hv
    exact ⟨[], .vecz _ _ _ rfl _ _⟩
  · injection hcs with hv _
    subst hv
    by_cases h0 : len = 0
    · subst h0; exact ⟨[], .vecz _ _ _ rfl _ _⟩
    · have key : ∀ i, ∃ y : α × List Value, i < len → w.cells? 0 (a.add (i * esz)) esz = some y.2 ∧ VRL (wRen w) (row y.1) y.2 := fun i => by
        by_cases hi : i < len
        · have h1 := hget i hi
          rw [hc, List.getElem?_eq_getElem (by omega)] at h1
          obtain ⟨cs, h2, h3⟩ := Option.bind_eq_some_iff.1 h1
          obtain ⟨y, hy⟩ := hrow cs _ _ h3
          exact ⟨(y, cs), fun _ => ⟨h2, hy⟩⟩
        · exact ⟨(d, []), fun h => absurd h hi⟩
      let fn : Nat → α := fun i => (Classical.choose (key i)).1
      let gn : Nat → List Value := fun i => (Classical.choose (key i)).2
      have hfn : ∀ i, i < len → w.cells? 0 (a.add (i * esz)) esz = some (gn i) := fun i hi => (Classical.choose_spec (key i) hi).1
      have hrn : ∀ i, i < len → VRL (wRen w) (row (fn i)) (gn i) := fun i hi => (Classical.choose_spec (key i) hi).2
      have hlen : ∀ i, i < len → (gn i).length = esz := fun i hi => (World.cells?_some (hfn i hi)).2.1
      have hcell : ∀ i, i < len → ∀ j, j < esz → w.cell? ((a.add (i * esz)).add j) = (gn i)[j]? := fun i hi j hj => (World.cells?_some (hfn i hi)).2.2 j hj
      have h00 := hcell 0 (by omega) 0 he
      rw [Nat.zero_mul] at h00
      have hv0 : (gn 0)[0]? = some ((gn 0)[0]'(by rw [hlen 0 (by omega)]; exact he)) := List.getElem?_eq_getElem _
      rw [hv0] at h00
      have hs : a.spot = none := by simpa [Addr.add] using World.cell?_spot h00
      obtain ⟨b, o, s⟩ := a
      simp only at hs
      subst hs
      rw [addr_off, addr_off] at h00
      have hob : ∃ cs el fz, w.heap[b]? = some (.cells cs el fz) := by
        simp only [World.cell?] at h00
        split at h00
        · exact ⟨_, _, _, by assumption⟩
        · cases h00
      obtain ⟨cs, el, fz, hh⟩ := hob
      have hll : ((List.range len).map fn).length = len := by simp
      have hgd : ∀ i, i < len → ((List.range len).map fn).getD i d = fn i := fun i hi => by simp [List.getD_eq_getElem?_getD, hi]
      refine ⟨(List.range len).map fn, ?_⟩
      rw [hll]
      refine .vec esz len _ b o cap cs el fz gn hh he hl (fun i hi => ?_) fun i hi j u hj => ?_
      · rw [hgd i hi]; exact hrn i hi
      · have hj' : j < esz := by rw [← hlen i hi]; exact (List.getElem?_eq_some_iff.1 hj).1
        have h1 := hcell i hi j hj'
        rw [hj, addr_off, addr_off] at h1
        simp only [World.cell?, hh] at h1
        simpa using h1

/-- A slice of which only the length is told. -/
theorem len_arg {H : Type} {enc : TypeId × Value → H} {P : Program} {w : World} {t e n : Nat} {v : Value} {x : DataW H × List MemPlace} (ht : P.underlying t = some (.slice e)) (hc : 0 < P.cellsOf e)
    (h : DataW.trod enc P w 0 (fun _ => true) true n t [v] = some x) : ∃ l : Nat, VR (wRen w) (.vec 1 l fun _ => []) v := by
  rcases DataW.trod_slice ht h with ⟨hcs, rfl⟩ | ⟨a, len, cap, elems, rest, m, _, hcs, rfl, _, hl, hm, hel, hget, _, _⟩
  · injection hcs with hv _
    subst hv
    exact ⟨0, .vecz _ _ _ rfl _ _⟩
  · injection hcs with hv _
    subst hv
    by_cases h0 : len = 0
    · subst h0; exact ⟨0, .vecz _ _ _ rfl _ _⟩
    · have h1 := hget 0 (by omega)
      rw [List.getElem?_eq_getElem (by omega)] at h1
      obtain ⟨cs, h2, h3⟩ := Option.bind_eq_some_iff.1 h1
      have hlen := (World.cells?_some h2).2.1
      have hcell := (World.cells?_some h2).2.2 0 hc
      rw [Nat.zero_mul, List.getElem?_eq_getElem (by omega)] at hcell
      have hs : a.spot = none := by simpa [Addr.add] using World.cell?_spot hcell
      obtain ⟨b, o, s⟩ := a
      simp only at hs
      subst hs
      rw [addr_off, addr_off] at hcell
      have hob : ∃ cs el fz, w.heap[b]? = some (.cells cs el fz) := by
        simp only [World.cell?] at hcell
        split at hcell
        · exact ⟨_, _, _, by assumption⟩
        · cases hcell
      obtain ⟨cs, el, fz, hh⟩ := hob
      exact ⟨len, .vec 1 len _ b o cap cs el fz (fun _ => []) hh (by decide) hl (fun _ _ => .nil) fun _ _ j u hj => by simp at hj⟩

/-- A slice of numbers. -/
def intRow (k : IntKind) (z : Int) : List AV := [.int k z]
theorem ints_arg {k : IntKind} {H : Type} {enc : TypeId × Value → H} {P : Program} {w : World} {t e n : Nat} {v : Value} {x : DataW H × List MemPlace} (ht : P.underlying t = some (.slice e)) (he : P.underlying e = some (.int k)) (hc : P.cellsOf e = 1)
    (h : DataW.trod enc P w 0 (fun _ => true) true n t [v] = some x) : ∃ l : List Int, VR (wRen w) (.vec 1 l.length fun i => intRow k (l.getD i 0)) v :=
  vec_argR (row := intRow k) (d := 0) (by decide) ht hc (fun cs m x h => by
    obtain ⟨z, rfl, _, _⟩ := DataW.trod_int he h
    exact ⟨z, .cons _ _ _ _ (.int _ _) .nil⟩) h
/-- Slices of such ones. -/
def intsRow (k : IntKind) (l : List Int) : List AV := [.vec 1 l.length fun i => intRow k (l.getD i 0)]
theorem intss_arg {k : IntKind} {H : Type} {enc : TypeId × Value → H} {P : Program} {w : World} {t e f n : Nat} {v : Value} {x : DataW H × List MemPlace} (ht : P.underlying t = some (.slice e)) (he : P.underlying e = some (.slice f)) (hf : P.underlying f = some (.int k)) (hc : P.cellsOf e = 1) (hd : P.cellsOf f = 1)
    (h : DataW.trod enc P w 0 (fun _ => true) true n t [v] = some x) : ∃ l : List (List Int), VR (wRen w) (.vec 1 l.length fun i => intsRow k (l.getD i [])) v :=
  vec_argR (row := intsRow k) (d := []) (by decide) ht hc (fun cs m x h => by
    have h' := h
    rcases DataW.trod_slice he h with ⟨rfl, rfl⟩ | ⟨a, len, cap, elems, rest, m', _, rfl, rfl, _, hl, hm, hel, hget, _, _⟩
    · exact ⟨[], .cons _ _ _ _ (.vecz _ _ _ rfl _ _) .nil⟩
    · obtain ⟨l, hl⟩ := ints_arg he hf hd h'
      exact ⟨l, .cons _ _ _ _ hl .nil⟩) h
end Go.Ev
end

section
/- The symbolic layer, part X: small tools for proofs about residual sentences; barriers. -/
namespace Go.Ev
/-- A barrier: the kernel reckons no further. -/
noncomputable def bar (b : Bool) : Bool := @decide (b = true) (Classical.propDecidable _)
theorem bar_eq (b : Bool) : bar b = b := by unfold bar; cases b <;> simp
/-- The same for any value. -/
noncomputable def barr {α : Type} (a : α) : α := Classical.choose (⟨a, rfl⟩ : ∃ y, y = a)
theorem barr_eq {α : Type} (a : α) : barr a = a := Classical.choose_spec (⟨a, rfl⟩ : ∃ y, y = a)
/-- What is awaited of a call, by content, behind a barrier. -/
noncomputable def ResP (P : Program) (p : Bool) (c : AV) (r : CR) : Prop :=
  match p, r with
  | false, .mk v H _ => okP (frz P H v) fun q => sdA q.1 (vmP [] c q.2.1 ∧ True)
  | true, .pan v H _ => okP (frz P H v) fun q => sdA q.1 (vmP [] c q.2.1 ∧ True)
  | _, _ => False
theorem resP_eq (P : Program) (p : Bool) (c : AV) : ResP P p c = ResM P p c := by
  funext r
  cases p <;> cases r <;> simp only [ResP, ResM, and_true]
theorem gl0 {q : Nat × AObj → Prop} : ∀ p ∈ ([] : List (Nat × AObj)), q p := fun _ h => by cases h
theorem cond_tf (b : Bool) : (bif b then true else false) = b := by cases b <;> rfl
theorem cond_cf (b c : Bool) : (bif b then c else false) = (b && c) := by cases b <;> rfl
theorem nif_tf (b : Bool) : (bif b then false else true) = !b := by cases b <;> rfl
theorem rows_app {α : Type} {row : α → List AV} {d : α} {σ : List (Nat × Nat)} (hv : ∀ t, vmL σ (row t) (row t)) {out : List α} {t : α} {g : Nat → List AV} (hg : g 0 = row t) {e n : Nat} (hn : n = out.length + 1) :
    AllI fun i => i * e < n * e → vmL σ (row ((out ++ [t]).getD i d)) (appF out.length (fun k => row (out.getD k d)) g i) := ⟨fun i hi => by
  have hi : i < n := Nat.lt_of_mul_lt_mul_right hi
  unfold appF
  by_cases h : i < out.length
  · rw [show Nat.blt i out.length = true by simpa [Nat.blt_eq] using h, cond_true, show (out ++ [t]).getD i d = out.getD i d by simp [List.getD_eq_getElem?_getD, List.getElem?_append_left h]]
    exact hv _
  · obtain rfl : i = out.length := by omega
    rw [show Nat.blt out.length out.length = false by exact Bool.eq_false_iff.2 fun hb => h (by simp [Nat.blt_eq] at hb), cond_false, Nat.sub_self, hg, show (out ++ [t]).getD out.length d = t by simp [List.getD_eq_getElem?_getD]]
    exact hv _⟩
theorem rows_same {α : Type} {row : α → List AV} {d : α} {σ : List (Nat × Nat)} (hv : ∀ t, vmL σ (row t) (row t)) {out out' : List α} (h : out = out') {e n : Nat} :
    AllI fun i => i * e < n → vmL σ (row (out.getD i d)) (row (out'.getD i d)) := ⟨fun i _ => by subst h; exact hv _⟩
theorem rowB_self (l : List UInt8) : rowB l.length (byteRow l) = l := by
  unfold rowB byteRow byteO
  apply List.ext_getElem
  · simp
  · intro i h1 h2
    simp at h1 ⊢
    simp [h1]
theorem allBR_self (l : List UInt8) : allBR l.length (byteRow l) = true := decide_eq_true fun i _ => by
  unfold byteRow isBR
  exact inR_u8.2 (by have := (l.getD i 0).toNat_lt; omega)
theorem brP_f {K L : Prop} : brP false K L = L := rfl
theorem brP_t {K L : Prop} : brP true K L = K := rfl
theorem sdA_t {K : Prop} : sdA true K = K := rfl
theorem allI_true : (AllI fun _ => True) = True := eq_true ⟨fun _ => trivial⟩
theorem ieq_self (z : Int) : ieq z z = true := by rw [ieq_eq]; simp

end Go.Ev
end
