/- Laid by program out of its parts: BlX. -/
import Derived.Test.YtenbcoedkeddgaaGreatDoorMj
import Derived.Test.YtenbcoedkeddgaaGreatDoorMf
import Derived.SizedLaws
set_option linter.unusedVariables false
set_option linter.unusedSimpArgs false
set_option maxRecDepth 100000
open Go Go.Ev
namespace Go.Ev
theorem weightsAll_mem {H : Type} {P : Program} {e : TypeId} {d : DataW H} {n : Nat} (hn : n ∈ d.weights P e) : ∀ {ds : List (DataW H)}, d ∈ ds → n ∈ DataW.weightsAll P e ds
 | [], h => by cases h
 | x :: r, h => by
  rw [DataW.weightsAll]
  rcases List.mem_cons.1 h with rfl | h
  ·exact List.mem_append.2 (.inl hn)
  ·exact List.mem_append.2 (.inr (weightsAll_mem hn h))
theorem texts_arg {H : Type} {enc : TypeId × Value → H} {P : Program} {w : World} {t e n : Nat} {v : Value} {x : DataW H × List MemPlace} (ht : P.underlying t = some (.slice e)) (he : P.underlying e = some .string) (hc : P.cellsOf e = 1) (B : Nat)
  (hw : ∀ m ∈ x.1.weights P t, m ≤ B) (h : DataW.trod enc P w 0 (fun _ => true) true n t [v] = some x) : ∃ L : List (List UInt8), (∀ s ∈ L, s.length ≤ B) ∧ VR (wRen w) (.vec 1 L.length (rT L)) v := by
 obtain ⟨L, hv⟩ := vec_arg (α := List UInt8) (row := fun l => [AV.bs l]) (vals := fun l => [Value.string ⟨l.toArray⟩]) (d := []) Nat.one_pos ht hc (fun cs m x hh => by
  obtain ⟨s, rfl, _, _⟩ := DataW.trod_string he hh
  exact ⟨s.data.toList, by simp⟩) (fun l => .cons _ _ _ _ (.bs l) .nil) (fun _ => rfl) h
 refine ⟨L, fun s hs => ?_, hv⟩
 obtain ⟨i, hi, rfl⟩ := List.getElem_of_mem hs
 have hv' : VR (wRen w) (.vec 1 L.length (rT L)) v := hv
 rcases vec_texts (w := w) (fun b o h => h) hv' (allTx_rT _ _) with ⟨h0, _⟩ | ⟨b, o, cap, rfl, _, _, hcell⟩
 ·omega
 ·have h1 := hcell i ⟨L[i].toArray⟩ (by rw [rowTx_rT, List.getElem?_map, List.getElem?_eq_getElem hi]; rfl)
  rcases DataW.trod_slice ht h with ⟨hcs, _⟩ | ⟨a, len, cap', elems, rest, m, _, hcs, hx, _, hl, hm, hel, hget, _, _⟩
  ·injection hcs with e1 _; cases e1
  ·injection hcs with e1 _
   injection e1 with e2 e3 e4
   injection e2 with e2
   subst e2; subst e3
   have h2 := hget i hi
   have hie : i < elems.length := by omega
   rw [hc, List.getElem?_eq_getElem hie] at h2
   obtain ⟨cs, h3, h4⟩ := Option.bind_eq_some_iff.1 h2
   obtain ⟨s, rfl, h5, _⟩ := DataW.trod_string he h4
   have h6 := (World.cells?_some h3).2.2 0 Nat.one_pos
   rw [Nat.mul_one, addr_off, addr_off, Nat.add_zero, h1] at h6
   have h7 : s.data.toList = L[i] := by
    simp at h6
    rw [← h6]
   have h8 : elems[i].1 ∈ elems.map (·.1) := List.mem_map.2 ⟨_, List.getElem_mem _, rfl⟩
   have h9 : s.data.toList.length ∈ elems[i].1.weights P e := by rw [h5]; simp [DataW.weights]
   refine hw _ ?_
   rw [hx, ← h7]
   simp only [DataW.weights, ht]
   exact List.mem_cons_of_mem _ (List.mem_append.2 (.inl (weightsAll_mem h9 h8)))
end Go.Ev
