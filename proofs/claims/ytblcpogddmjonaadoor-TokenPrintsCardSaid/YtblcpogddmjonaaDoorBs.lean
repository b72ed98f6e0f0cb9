/- Laid by program out of its parts: TkBs. -/
import Derived.Test.YtblcpogddmjonaaDoorBr
import Derived.Test.YtblcpogddmjonaaDoorTkU
import Derived.Test.YtblcpogddmjonaaDoorMf
/- The bridge: a slice of tokens, as a content. -/
set_option maxRecDepth 100000
namespace Go.Proofs.YtblcpogddmjonaaDoor
open Go.Ev Go.ChangeShapes Go.WideShapes Go.WideMaps Go.WideElems Go.RowKit

def tokVals (t : Tk.Tok) : List Value := [.int .i64 t.kind, .string ⟨t.text.toArray⟩, .int .i64 t.num, .int .i64 t.line, .int .i64 t.col]
theorem tok_rel (ρ : Ren) (t : Tk.Tok) : VRL ρ (Tk.tokRow t) (tokVals t) :=
  .cons _ _ _ _ (.int _ _) (.cons _ _ _ _ (.bs _) (.cons _ _ _ _ (.int _ _) (.cons _ _ _ _ (.int _ _) (.cons _ _ _ _ (.int _ _) .nil))))
theorem one_int {H : Type} {enc : TypeId × Value → H} {w : World} {n t : Nat} {cs : List Value} {c : Nat} {x : DataW H × List MemPlace} (ht : Tryd.prog.underlying t = some (.int .i64)) (hc : c = 1) {a : Value} {l : List Value} (hl : cs = a :: l)
    (h : DataW.trod enc Tryd.prog w 0 (fun _ => true) true n t (cs.take c) = some x) : ∃ k, a = .int .i64 k := by
  subst hc; subst hl
  obtain ⟨k, h1, _⟩ := DataW.trod_int ht h
  injection h1 with h1
  exact ⟨k, h1⟩
theorem one_str {H : Type} {enc : TypeId × Value → H} {w : World} {n t : Nat} {cs : List Value} {c : Nat} {x : DataW H × List MemPlace} (ht : Tryd.prog.underlying t = some .string) (hc : c = 1) {a : Value} {l : List Value} (hl : cs = a :: l)
    (h : DataW.trod enc Tryd.prog w 0 (fun _ => true) true n t (cs.take c) = some x) : ∃ s : List UInt8, a = .string ⟨s.toArray⟩ := by
  subst hc; subst hl
  obtain ⟨s, h1, _⟩ := DataW.trod_string ht h
  injection h1 with h1
  exact ⟨s.data.toList, h1⟩
theorem tok_cells {H : Type} {enc : TypeId × Value → H} {w : World} (cs : List Value) (m : Nat) (x : DataW H × List MemPlace) (h : DataW.trod enc Tryd.prog w 0 (fun _ => true) true m 31 cs = some x) : ∃ t : Tk.Tok, cs = tokVals t := by
  obtain ⟨xs, n, rfl, rfl, hlen, hxs, hf⟩ := DataW.trod_struct Tryd.underlying31 h
  rw [show Tryd.prog.cellsOf 31 = 5 by kernel_rfl] at hlen
  match cs, hlen, xs, hxs, hf with
  | [c0, c1, c2, c3, c4], _, [x0, x1, x2, x3, x4], _, hf =>
    obtain ⟨k, rfl⟩ := one_int (by kernel_rfl) (by kernel_rfl) rfl (hf 0 _ rfl)
    obtain ⟨s, rfl⟩ := one_str (by kernel_rfl) (by kernel_rfl) rfl (hf 1 _ rfl)
    obtain ⟨a, rfl⟩ := one_int (by kernel_rfl) (by kernel_rfl) rfl (hf 2 _ rfl)
    obtain ⟨b, rfl⟩ := one_int (by kernel_rfl) (by kernel_rfl) rfl (hf 3 _ rfl)
    obtain ⟨c, rfl⟩ := one_int (by kernel_rfl) (by kernel_rfl) rfl (hf 4 _ rfl)
    exact ⟨⟨k, s, a, b, c⟩, rfl⟩
theorem toks_arg {H : Type} {enc : TypeId × Value → H} {w : World} {n : Nat} {v : Value} {x : DataW H × List MemPlace} (h : DataW.trod enc Tryd.prog w 0 (fun _ => true) true n 24 [v] = some x) : ∃ l : List Tk.Tok, VR (wRen w) (.vec 5 l.length fun k => Tk.tokRow (l.getD k Tk.t0)) v :=
  vec_arg (row := Tk.tokRow) (vals := tokVals) (d := Tk.t0) (by decide) (e := 31) (by kernel_rfl) (by kernel_rfl) tok_cells (tok_rel _) (fun _ => rfl) h
end Go.Proofs.YtblcpogddmjonaaDoor
