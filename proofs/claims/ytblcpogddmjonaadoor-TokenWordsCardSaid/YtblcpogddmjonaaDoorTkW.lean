/- Laid by program out of its parts: TkW. -/
import Derived.Test.YtblcpogddmjonaaDoorTkV
set_option maxRecDepth 100000
set_option linter.unusedSimpArgs false
set_option linter.unusedVariables false
open Go Go.Ev
namespace Go.Proofs.Tk

theorem keys_zip : ∀ (ws : List (List UInt8)) (n : Nat), ((ws.zipIdx n).map fun p => (⟨.str p.1.length (packL p.1), .agg [.bool true], p.2⟩ : AEnt)).map (fun a => keyT a.key) = ws.map some
  | [], _ => rfl
  | w :: ws, n => by
    rw [List.zipIdx_cons, List.map_cons, List.map_cons, List.map_cons, keys_zip ws (n + 1)]
    congr 1
    show some (bytesL w.length (packL w)) = some w
    rw [bytesL_packL]
theorem born_zip : ∀ (ws : List (List UInt8)) (n : Nat), ((ws.zipIdx n).map fun p => (⟨.str p.1.length (packL p.1), .agg [.bool true], p.2⟩ : AEnt)).map (·.born) = List.range' n ws.length
  | [], _ => rfl
  | w :: ws, n => by
    rw [List.zipIdx_cons, List.map_cons, List.map_cons, born_zip ws (n + 1)]; rfl
theorem born_words : wordE.map (·.born) = List.range' 0 36 := born_zip wordL 0
theorem size_words : Maps.size (keysD wordL) ≤ 1000 := by decide +kernel
theorem sort_words : (Go.strKeys (keysD wordL)).mergeSort (fun x y => decide (x ≤ y)) = wordL := by
  rw [show strKeys (keysD wordL) = wordL by decide +kernel]
  exact List.mergeSort_of_pairwise (by decide +kernel)
theorem nodup_words : wordL.Nodup := by decide +kernel
theorem ok16 : HEntOK Tryd.prog 16 (newEnt globB 9 wordL) :=
  hent_new (by decide) ⟨_, _, Tryd.func16, by kernel_rfl, rfl⟩ fun H nx E F ρ w hs r =>
    words_row (map_calls (cRun_ok (cx := cxA tbC) fol tbC_ok fu) (gl := glT) (ng := 4) glT_gl resMapB_O run24b (fun g l hg => by
      obtain ⟨cs, e, fz, h1, h2⟩ := r.gl g l (globB_ok hs _ (mkH_get hg))
      exact ⟨cs, e, fz, r.fr _ _ (r.bs _ _ h1), h2⟩)) (keys_zip wordL 0) nodup_words
      (by rw [born_words]; exact List.nodup_range') (fun n hn => by rw [born_words] at hn; have := List.mem_range'.1 hn; omega) (by decide +kernel) (by decide +kernel) size_words sort_words

noncomputable def htW : HTbl := [(16, newEnt globB 9 wordL)]
theorem htW_ok : HtOK Tryd.prog htW := ht_cons ok16 (ht_nil _)
noncomputable def cxW : Ctx := { P := Tryd.prog, tb := tbV, ht := htW, hok := htW_ok, lp := fun _ _ => none, cut := fun _ _ => none }

end Go.Proofs.Tk
