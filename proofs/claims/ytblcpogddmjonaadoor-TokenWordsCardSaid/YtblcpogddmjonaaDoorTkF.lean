/- Laid by program out of its parts: TkF. -/
import Derived.Test.YtblcpogddmjonaaDoorTkE
set_option maxRecDepth 10000
set_option linter.unusedSimpArgs false
open Go Go.Ev
namespace Go.Proofs.Tk

theorem globB_ok {H : Tr AObj} (h : globB H = true) : ∀ p ∈ glT, H.get p.1 = some p.2 := fun p hp => by
  unfold globB at h
  unfold glT at hp
  simp only [List.mem_singleton] at hp
  subst hp
  split at h
  · rename_i l hl
    rw [hl, avEqL_eq _ _ h]
  · cases h
theorem glT_gl : ∀ p ∈ glT, isGl p.2 = true := fun p hp => by
  unfold glT at hp
  simp only [List.mem_singleton] at hp
  subst hp; rfl
theorem tbC_ok : TbOK Tryd.prog tbC := tb_cons ok26 <| tb_cons ok27 <| tb_cons ok28 <| tb_cons ok33 tbB_ok
theorem ent_map' {P : Program} {call : FuncId → List AV → Tr AObj → Nat → KC → Prop} (hcall : CallKOK P call) {g : FuncId} {has : SKey → Bool} {val : SKey → AV} {z : AV} {gl : List (Nat × AObj)} {ng : Nat}
    (hgl : ∀ p ∈ gl, isGl p.2 = true) (hz : ∃ zv, ∀ ρ, VR ρ z zv) (hzk : ∀ k, has k = false → val k = z) (hint : ∀ n, has (.int n) = false) (hvk : ∀ k, vmP [] (val k) (val k))
    {ent : Tr AObj → List AV → Option Ct} (hent : ∀ H args ct, ent H args = some ct → args = [] ∧ (∀ p ∈ gl, H.get p.1 = some p.2) ∧ ct = .need True (.ret (.mapv has val z)))
    {Y : Prop} (hY : Y) (hE : Y = call g [] (mkH gl) ng (ResMap has val z)) : EntOK P g ent := ent_map hcall hgl hz hzk hint hvk hent (by rw [← hE]; exact hY)
attribute [local irreducible] Y24
theorem ok24 : EntOK Tryd.prog 24 e24 := by
  refine ent_map' (Y := Y24) (cRun_ok (cx := cxA tbC) fol tbC_ok fu) (gl := glT) (ng := 4) (has := wHas) (val := wVal) (z := .agg [.bool false]) glT_gl zW_ok (fun k hk => ?_) wHas_int (fun k => ?_) (fun H args ct hct => ?_) @run24 (by kernel_rfl)
  · cases k with
    | str l =>
      rw [wHas_str] at hk
      rw [wVal_str, bar_eq, hk]
    | int n => unfold wVal; rw [wHas_int, bar_eq]
  · cases k with
    | str l => rw [wVal_str]; generalize bar (isWordT l) = b; exact ⟨rfl, trivial⟩
    | int n => unfold wVal; rw [wHas_int, bar_eq]; exact ⟨rfl, trivial⟩
  · unfold e24 at hct
    split at hct
    · cases hg : globB H with
      | true =>
        rw [hg] at hct
        injection hct with hct
        exact ⟨rfl, globB_ok hg, hct.symm⟩
      | false => rw [hg] at hct; cases hct
    · cases hct

end Go.Proofs.Tk
