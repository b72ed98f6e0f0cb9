/- Tables of the library, as the program's text lays them: what a condition on a world says of them. -/
import Derived.DataReads
import Derived.Carry
import Derived.LaidMore
import Derived.MakeChecks
import Derived.OpenShut
import Derived.Stop.Joined
import GoSem.ClaimGoes
namespace Go.LaidTab

theorem var_heap {P : Program} {w : World} {n : String} {g : Nat} {cs : Array Value} (hg : P.globalNamed n = some g) (h : w.var? P n = some cs) : ∃ e fz, w.heap[g]? = some (.cells cs e fz) := by
  unfold World.var? at h
  rw [hg] at h
  change (match w.heap[g]? with
    | some (.cells cs _ _) => some cs
    | _ => none) = some cs at h
  split at h
  · rename_i cs' e fz hh; injection h with h; subst h; exact ⟨e, fz, hh⟩
  · cases h

theorem vars_of {P : Program} {w : World} : ∀ {l : List (String × DataW Unit)} {ps : List MemPlace}, DataW.LaidVars P w l ps → ∀ {n : String} {d : DataW Unit}, (n, d) ∈ l →
    ∃ g t cs fuel p, P.globalNamed n = some g ∧ (P.globals[g]?).map (·.type) = some t ∧ w.var? P n = some cs ∧ DataW.trod (fun _ => ()) P w 0 (fun _ => true) false fuel t cs.toList = some (d, p)
  | [], _, _, _, _, hm => by cases hm
  | (n', d') :: l, ps, h, n, d, hm => by
    obtain ⟨g, t, cs, fuel, p, q, h1, h2, h3, h4, h5, _⟩ := h
    rcases List.mem_cons.1 hm with e | hm
    · injection e with e1 e2
      subst e1; subst e2
      exact ⟨g, t, cs, fuel, p, h1, h2, h3, h4⟩
    · exact vars_of h5 hm

theorem laid_of {P : Program} {w : World} {l : List (String × DataW Unit)} (h : laidMetH P l w) {n : String} {d : DataW Unit} (hm : (n, d) ∈ l) (hd : d.handleName?.isNone = true) :
    ∃ g t cs fuel p, P.globalNamed n = some g ∧ (P.globals[g]?).map (·.type) = some t ∧ w.var? P n = some cs ∧ DataW.trod (fun _ => ()) P w 0 (fun _ => true) false fuel t cs.toList = some (d, p) := by
  unfold laidMetH at h
  split at h
  · obtain ⟨ps, h1, _⟩ := h
    exact vars_of h1 hm
  · obtain ⟨⟨ps, h1, _⟩, _⟩ := h
    exact vars_of h1 (List.mem_filter.2 ⟨hm, hd⟩)

/-- A table of numbers. -/
theorem tab_ints {H : Type} {enc : TypeId × Value → H} {P : Program} {w : World} {t el n fuel : Nat} {k : IntKind} {cs : List Value} {ds : List (DataW H)} {p : List MemPlace} (ht : P.underlying t = some (.array n el)) (he : P.underlying el = some (.int k)) (hc : P.cellsOf el = 1) (hct : P.cellsOf t = n)
    (h : DataW.trod enc P w 0 (fun _ => true) false fuel t cs = some (.agg ds, p)) (zs : List Int) (hz : ds = zs.map fun z => .lit (.int k z)) : cs = zs.map fun z => .int k z := by
  obtain ⟨xs, m, rfl, hx, hlen, hn, hel⟩ := DataW.trod_array ht h
  simp only [Prod.mk.injEq, DataW.agg.injEq] at hx
  rw [hct] at hlen
  have hz' : xs.map (·.1) = zs.map fun z => .lit (.int k z) := by rw [← hx.1, hz]
  have hzl : zs.length = n := by have := congrArg List.length hz'; simp at this; omega
  apply List.ext_getElem
  · simp; omega
  · intro i h1 h2
    have h3 := hel i (by omega)
    rw [hc, Nat.mul_one] at h3
    have hi : i < xs.length := by omega
    rw [List.getElem?_eq_getElem hi] at h3
    obtain ⟨q, e1, e2, _⟩ := DataW.trod_int he h3
    have h4 : (xs.map (·.1))[i]? = (zs.map fun z => (.lit (.int k z) : DataW H))[i]? := by rw [hz']
    simp only [List.length_map] at h2
    rw [List.getElem?_map, List.getElem?_map, List.getElem?_eq_getElem hi, List.getElem?_eq_getElem h2, e2] at h4
    simp only [Option.map_some, Option.some.injEq, DataW.lit.injEq, Lit.int.injEq, true_and] at h4
    have h5 : (cs.drop i).take 1 = [cs[i]] := by rw [List.drop_eq_getElem_cons h1]; rfl
    rw [h5] at e1
    injection e1 with e1
    rw [List.getElem_map, e1, h4]

theorem laid_tab {P : Program} {w : World} {l : List (String × DataW Unit)} (h : laidMetH P l w) {n : String} {d : DataW Unit} (hm : (n, d) ∈ l) (hd : d.handleName?.isNone = true) {g t el len : Nat} {k : IntKind} {zs : List Int}
    (hg : P.globalNamed n = some g) (ht : (P.globals[g]?).map (·.type) = some t) (hu : P.underlying t = some (.array len el)) (he : P.underlying el = some (.int k)) (hc : P.cellsOf el = 1) (hct : P.cellsOf t = len)
    (hz : d = .agg (zs.map fun z => .lit (.int k z))) : ∃ cs e fz, w.heap[g]? = some (.cells cs e fz) ∧ cs.toList = zs.map fun z => .int k z := by
  obtain ⟨g', t', cs, fuel, p, h1, h2, h3, h4⟩ := laid_of h hm hd
  obtain rfl := Option.some.inj (hg.symm.trans h1)
  obtain rfl := Option.some.inj (ht.symm.trans h2)
  obtain ⟨e, fz, hh⟩ := var_heap hg h3
  rw [hz] at h4
  exact ⟨cs, e, fz, hh, tab_ints hu he hc hct h4 zs rfl⟩
end Go.LaidTab
open Go
namespace Go.Gn
theorem goes_none {P : Program} {c : OpenClaim} (h : P.funcs.toList.any Func.goes = false) (hs : c.start = .entering) : false = c.goesBy P := by
  have key : ∀ f, P.goes f = false := fun f => by
    unfold Program.goes
    have h2 : P.funcs.any Func.goes = false := by rw [← Array.any_toList]; exact h
    rw [h2, Bool.and_false, Bool.or_false, List.any_eq_false]
    intro g _
    cases hg : P.funcs[g]? with
    | none => simp
    | some fn =>
      have h3 := List.any_eq_false.1 h fn (by
        have := Array.mem_of_getElem? hg
        simpa using this)
      simpa using h3
  unfold OpenClaim.goesBy Program.goesAt Program.goesFrom
  rw [hs]
  cases P.funcNamed c.func with
  | none => rfl
  | some f => simp [key f]
end Go.Gn
