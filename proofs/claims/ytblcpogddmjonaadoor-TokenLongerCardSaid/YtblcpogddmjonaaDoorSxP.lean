/- The symbolic layer, part P: what a call from outside hands over, as a content. -/
import Derived.Test.YtblcpogddmjonaaDoorSxO
import Derived.ChangeSlices
import Derived.OpenShut
set_option linter.unusedVariables false
set_option linter.unusedSimpArgs false
namespace Go.Ev
open Go.ChangeShapes Go.WideShapes

theorem ctOut_of {p : Prop} {v : AV} (h : p) : ctOut (.need p (.ret v)) = some (false, v) := if_pos h

/-- A slice of bytes is a content. -/
theorem bytes_arg {H : Type} {enc : TypeId × Value → H} {P : Program} {w : World} {t el n : Nat} {v : Value} {x : DataW H × List MemPlace} (ht : P.underlying t = some (.slice el)) (he : P.underlying el = some (.int .u8)) (hc : P.cellsOf el = 1)
    (h : DataW.trod enc P w 0 (fun _ => true) true n t [v] = some x) : ∃ l : List UInt8, VR (wRen w) (.bv l) v := by
  rcases open_ints ht he hc h with ⟨hcs, rfl⟩ | ⟨a, len, cap, zs, hcs, _, hl, hm, hz, rfl, hcell, hwf⟩
  · injection hcs with hv _
    subst hv
    exact ⟨[], .bvz [] rfl _ _⟩
  · injection hcs with hv _
    subst hv
    rw [if_pos rfl] at hz
    by_cases h0 : len = 0
    · subst h0; exact ⟨[], .bvz [] rfl _ _⟩
    · have hs : a.spot = none := by simpa [Addr.add] using World.cell?_spot (hcell 0 (by omega))
      obtain ⟨b, o, s⟩ := a
      simp only at hs
      subst hs
      refine ⟨(zs.take len).map fun z => UInt8.ofNat z.toNat, ?_⟩
      have hlen : ((zs.take len).map fun z => UInt8.ofNat z.toNat).length = len := by simp; omega
      have hcell0 := hcell 0 (by omega)
      have hob : ∃ cs e fz, w.heap[b]? = some (.cells cs e fz) := by
        simp only [World.cell?, Addr.add] at hcell0
        split at hcell0
        · exact ⟨_, _, _, by assumption⟩
        · cases hcell0
      obtain ⟨cs, e, fz, hh⟩ := hob
      have key := VR.bv (ρ := wRen w) ((zs.take len).map fun z => UInt8.ofNat z.toNat) b o cap cs e fz hh (by rw [hlen]; exact hl) fun i hi => by
        rw [hlen] at hi
        have h1 := hcell i (by omega)
        have hw := hwf (zs.getD i 0) (by rw [List.getD_eq_getElem?_getD, List.getElem?_eq_getElem (by omega)]; exact List.getElem_mem _)
        have hw2 : IntKind.u8.min ≤ zs.getD i 0 ∧ zs.getD i 0 ≤ IntKind.u8.max := by simpa [Lit.wf] using hw
        rw [show IntKind.u8.min = 0 by decide, show IntKind.u8.max = 255 by decide] at hw2
        have h1' : w.cell? ⟨b, o + i, none⟩ = some (.int .u8 (zs.getD i 0)) := by
          rw [← h1]
          by_cases hi0 : i = 0
          · subst hi0; simp [Addr.add]
          · simp [Addr.add, hi0]
        simp only [World.cell?, hh] at h1'
        rw [show cs[o + i]? = some (.int .u8 (zs.getD i 0)) by simpa using h1']
        have e1 : ((zs.take len).map fun z => UInt8.ofNat z.toNat).getD i 0 = UInt8.ofNat (zs.getD i 0).toNat := by
          have hi2 : i < (zs.take len).length := by simp; omega
          simp only [List.getD_eq_getElem?_getD, List.getElem?_map, List.getElem?_eq_getElem hi2, Option.map_some, Option.getD_some, List.getElem_take, List.getElem?_eq_getElem (show i < zs.length by omega)]
        rw [e1]
        generalize zs.getD i 0 = z at hw2
        have hz : (UInt8.ofNat z.toNat).toNat = z.toNat := by
          rw [UInt8.toNat_ofNat']
          exact Nat.mod_eq_of_lt (by omega)
        rw [hz, Int.toNat_of_nonneg hw2.1]
      rw [hlen] at key
      exact key
end Go.Ev
