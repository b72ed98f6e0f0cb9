/- Tables of the library, as the program's text lays them: what a condition on a world says of them. -/
import Derived.DataReads
import Derived.Carry
import Derived.LaidMore
import Derived.MakeChecks
import Derived.OpenShut
import Derived.Stop.Joined
import GoSem.ClaimGoes
namespace Go.LaidTab

theorem Alk {P : Program} {w : World} {n : String} {g : Nat} {cs : Array Value} (y : P.globalNamed n = some g) (h : w.var? P n = some cs) : ∃ e fz, w.heap[g]? = some (.cells cs e fz) := by
  unfold World.var? at h
  rw [y] at h
  change (match w.heap[g]? with
    | some (.cells cs _ _) => some cs
    | _ => none) = some cs at h
  split at h
  · rename_i cs' e fz q; injection h with h; subst h; exact ⟨e, fz, q⟩
  · cases h

theorem nQ {P : Program} {w : World} : ∀ {l : List (String × DataW Unit)} {y : List MemPlace}, DataW.LaidVars P w l y → ∀ {n : String} {d : DataW Unit}, (n, d) ∈ l →
    ∃ g t cs fuel p, P.globalNamed n = some g ∧ (P.globals[g]?).map (·.type) = some t ∧ w.var? P n = some cs ∧ DataW.trod (fun _ => ()) P w 0 (fun _ => true) false fuel t cs.toList = some (d, p)
  | [], _, _, _, _, hm => by cases hm
  | (O, R) :: l, y, h, n, d, hm => by
    obtain ⟨g, t, cs, fuel, p, q, K, J, E, C, B, _⟩ := h
    rcases List.mem_cons.1 hm with e | hm
    · injection e with M L
      subst M; subst L
      exact ⟨g, t, cs, fuel, p, K, J, E, C⟩
    · exact nQ B hm

theorem Aed {P : Program} {w : World} {l : List (String × DataW Unit)} (h : laidMetH P l w) {n : String} {d : DataW Unit} (y : (n, d) ∈ l) (hd : d.handleName?.isNone = true) :
    ∃ g t cs fuel p, P.globalNamed n = some g ∧ (P.globals[g]?).map (·.type) = some t ∧ w.var? P n = some cs ∧ DataW.trod (fun _ => ()) P w 0 (fun _ => true) false fuel t cs.toList = some (d, p) := by
  unfold laidMetH at h
  split at h
  · obtain ⟨B, q, _⟩ := h
    exact nQ q y
  · obtain ⟨⟨B, q, _⟩, _⟩ := h
    exact nQ q (List.mem_filter.2 ⟨y, hd⟩)

/-- A table of numbers. -/
theorem AkL {H : Type} {enc : TypeId × Value → H} {P : Program} {w : World} {t el n fuel : Nat} {k : IntKind} {cs : List Value} {S : List (DataW H)} {p : List MemPlace} (ht : P.underlying t = some (.array n el)) (U : P.underlying el = some (.int k)) (hc : P.cellsOf el = 1) (M : P.cellsOf t = n)
    (h : DataW.trod enc P w 0 (fun _ => true) false fuel t cs = some (.agg S, p)) (y : List Int) (hz : S = y.map fun z => .lit (.int k z)) : cs = y.map fun z => .int k z := by
  obtain ⟨E, m, rfl, O, hlen, hn, L⟩ := DataW.trod_array ht h
  simp only [Prod.mk.injEq, DataW.agg.injEq] at O
  rw [M] at hlen
  have B : E.map (·.1) = y.map fun z => .lit (.int k z) := by rw [← O.1, hz]
  have Z : y.length = n := by have := congrArg List.length B; simp at this; omega
  apply List.ext_getElem
  · simp; omega
  · intro i W R
    have K := L i (by omega)
    rw [hc, Nat.mul_one] at K
    have hi : i < E.length := by omega
    rw [List.getElem?_eq_getElem hi] at K
    obtain ⟨q, C, Y, _⟩ := DataW.trod_int U K
    have J : (E.map (·.1))[i]? = (y.map fun z => (.lit (.int k z) : DataW H))[i]? := by rw [B]
    simp only [List.length_map] at R
    rw [List.getElem?_map, List.getElem?_map, List.getElem?_eq_getElem hi, List.getElem?_eq_getElem R, Y] at J
    simp only [Option.map_some, Option.some.injEq, DataW.lit.injEq, Lit.int.injEq, true_and] at J
    have V : (cs.drop i).take 1 = [cs[i]] := by rw [List.drop_eq_getElem_cons W]; rfl
    rw [V] at C
    injection C with C
    rw [List.getElem_map, C, J]

theorem Aee {P : Program} {w : World} {l : List (String × DataW Unit)} (h : laidMetH P l w) {n : String} {d : DataW Unit} (J : (n, d) ∈ l) (hd : d.handleName?.isNone = true) {g t el len : Nat} {k : IntKind} {q : List Int}
    (B : P.globalNamed n = some g) (ht : (P.globals[g]?).map (·.type) = some t) (E : P.underlying t = some (.array len el)) (L : P.underlying el = some (.int k)) (hc : P.cellsOf el = 1) (y : P.cellsOf t = len)
    (hz : d = .agg (q.map fun z => .lit (.int k z))) : ∃ cs e fz, w.heap[g]? = some (.cells cs e fz) ∧ cs.toList = q.map fun z => .int k z := by
  obtain ⟨U, S, cs, fuel, p, R, O, M, C⟩ := Aed h J hd
  obtain rfl := Option.some.inj (B.symm.trans R)
  obtain rfl := Option.some.inj (ht.symm.trans O)
  obtain ⟨e, fz, K⟩ := Alk B M
  rw [hz] at C
  exact ⟨cs, e, fz, K, AkL E L hc y C q rfl⟩
end Go.LaidTab
open Go
namespace Go.Gn
theorem Adb {P : Program} {c : OpenClaim} (h : P.funcs.toList.any Func.goes = false) (q : c.start = .entering) : false = c.goesBy P := by
  have key : ∀ f, P.goes f = false := fun f => by
    unfold Program.goes
    have C : P.funcs.any Func.goes = false := by rw [← Array.any_toList]; exact h
    rw [C, Bool.and_false, Bool.or_false, List.any_eq_false]
    intro g _
    cases y : P.funcs[g]? with
    | none => simp
    | some fn =>
      have B := List.any_eq_false.1 h fn (by
        have := Array.mem_of_getElem? y
        simpa using this)
      simpa using B
  unfold OpenClaim.goesBy Program.goesAt Program.goesFrom
  rw [q]
  cases P.funcNamed c.func with
  | none => rfl
  | some f => simp [key f]
end Go.Gn
