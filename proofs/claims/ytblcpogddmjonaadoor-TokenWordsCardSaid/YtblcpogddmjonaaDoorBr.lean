/- Laid by program out of its parts: TkBr. -/
import Derived.Test.YtblcpogddmjonaaDoorTkJ
import Derived.Test.YtblcpogddmjonaaDoorMf
import Derived.Test.YtblcpogddmjonaaDoorRows
import Derived.Test.YtblcpogddmjonaaDoorTie
import Derived.Test.YtblcpogddmjonaaDoorCards
import Derived.DataReads
import Derived.Carry
import Derived.LaidMore
import Derived.OpenShut
import Derived.Stop.Joined
import Derived.MakeChecks
import Derived.ChangeSlices
/- The bridge: what a slice of bytes, a table of the library, is, as a content. -/
namespace Go.Proofs.YtblcpogddmjonaaDoor
open Go.Ev Go.ChangeShapes Go.WideShapes Go.WideMaps Go.WideElems Go.RowKit

theorem own : ownKnob Tryd.prog.godebug = none := by kernel_rfl
def laid2 : List (String × DataW Unit) := [("unicode.White_Space", Rows.laid_unicode_White_Space), ("strings.asciiSpace", Rows.laid_strings_asciiSpace)]
/-- The door's own heap meets the condition. -/
theorem door_met (os : Os) (args : Array Value) : laidMetH Tryd.prog laid2 ((World.doorLaid Tryd.prog 4000 os).forCall (fun _ _ => 0) ⟨#[], args, []⟩).memory :=
  laidMetH_of_parts3 (fuel := 12) (laidMet_of_run' 12 (by kernel_rfl) (by kernel_rfl)) (by kernel_rfl) (by kernel_rfl)

theorem var_heap {P : Program} {w : World} {n : String} {g : Nat} {cs : Array Value} (hg : P.globalNamed n = some g) (h : w.var? P n = some cs) : ∃ e fz, w.heap[g]? = some (.cells cs e fz) := by
  unfold World.var? at h
  rw [hg] at h
  change (match w.heap[g]? with
    | some (.cells cs _ _) => some cs
    | _ => none) = some cs at h
  split at h
  · rename_i cs' e fz hh; injection h with h; subst h; exact ⟨e, fz, hh⟩
  · cases h
/-- A table of bytes. -/
theorem tab_bytes {H : Type} {enc : TypeId × Value → H} {P : Program} {w : World} {t el n fuel : Nat} {cs : List Value} {ds : List (DataW H)} {p : List MemPlace} (ht : P.underlying t = some (.array n el)) (he : P.underlying el = some (.int .u8)) (hc : P.cellsOf el = 1) (hct : P.cellsOf t = n)
    (h : DataW.trod enc P w 0 (fun _ => true) false fuel t cs = some (.agg ds, p)) (zs : List Int) (hz : ds = zs.map fun z => .lit (.int .u8 z)) : cs = zs.map fun z => .int .u8 z := by
  obtain ⟨xs, m, rfl, hx, hlen, hn, hel⟩ := DataW.trod_array ht h
  simp only [Prod.mk.injEq, DataW.agg.injEq] at hx
  rw [hct] at hlen
  have hz' : xs.map (·.1) = zs.map fun z => .lit (.int .u8 z) := by rw [← hx.1, hz]
  have hzl : zs.length = n := by have := congrArg List.length hz'; simp at this; omega
  apply List.ext_getElem
  · simp; omega
  · intro i h1 h2
    have h3 := hel i (by omega)
    rw [hc, Nat.mul_one] at h3
    have hi : i < xs.length := by omega
    rw [List.getElem?_eq_getElem hi] at h3
    obtain ⟨k, e1, e2, _⟩ := DataW.trod_int he h3
    have h4 : (xs.map (·.1))[i]? = (zs.map fun z => (.lit (.int .u8 z) : DataW H))[i]? := by rw [hz']
    simp only [List.length_map] at h2
    rw [List.getElem?_map, List.getElem?_map, List.getElem?_eq_getElem hi, List.getElem?_eq_getElem h2, e2] at h4
    simp only [Option.map_some, Option.some.injEq, DataW.lit.injEq, Lit.int.injEq, true_and] at h4
    have h5 : (cs.drop i).take 1 = [cs[i]] := by rw [List.drop_eq_getElem_cons h1]; rfl
    rw [h5] at e1
    injection e1 with e1
    rw [List.getElem_map, e1, h4]
theorem ints_rel {ρ : Ren} : ∀ zs : List Int, VRL ρ (zs.map fun z => .int .u8 z) (zs.map fun z => .int .u8 z)
  | [] => .nil
  | z :: zs => .cons _ _ _ _ (.int .u8 z) (ints_rel zs)
def asciiZ : List Int := (List.range 256).map fun i => if i = 9 ∨ i = 10 ∨ i = 11 ∨ i = 12 ∨ i = 13 ∨ i = 32 then 1 else 0
/-- What the condition gives. -/
theorem of_laid {W : World} (h : laidMetH Tryd.prog laid2 W) : ∃ cs e fz, W.heap[0]? = some (.cells cs e fz) ∧ ∀ ρ', VRL ρ' Tk.asciiTab cs.toList := by
  rw [MakeChecks.laidMetH_plain _ _ _ (by kernel_rfl)] at h
  obtain ⟨ps, ⟨g0, t0, cs0, f0, p0, q0, hg0, ht0, hv0, hd0, ⟨g1, t1, cs1, f1, p1, q1, hg1, ht1, hv1, hd1, _, _⟩, _⟩, _, _⟩ := h
  obtain rfl := Option.some.inj ((show Tryd.prog.globalNamed "strings.asciiSpace" = some 0 by kernel_rfl).symm.trans hg1)
  obtain rfl := Option.some.inj ((show (Tryd.prog.globals[0]?).map (·.type) = some 77 by kernel_rfl).symm.trans ht1)
  obtain ⟨e, fz, hh⟩ := var_heap hg1 hv1
  rw [show (Rows.laid_strings_asciiSpace : DataW Unit) = .agg (asciiZ.map fun z => .lit (.int .u8 z)) by kernel_rfl] at hd1
  have hl := tab_bytes (el := 5) (n := 256) (by kernel_rfl) (by kernel_rfl) (by kernel_rfl) (by kernel_rfl) hd1 asciiZ rfl
  refine ⟨cs1, e, fz, hh, fun ρ' => ?_⟩
  rw [hl, show Tk.asciiTab = asciiZ.map (fun z => .int .u8 z) by kernel_rfl]
  exact ints_rel _

end Go.Proofs.YtblcpogddmjonaaDoor
