/- Laid by program out of its parts: TkU. -/
import Derived.Test.YtblcpogddmjonaaDoorTkQ
set_option maxRecDepth 100000
set_option linter.unusedSimpArgs false
set_option linter.unusedVariables false
open Go Go.Ev
namespace Go.Proofs.Tk
theorem ok34 : EntOK Tryd.prog 34 eJ := ent_of_calls ⟨_, _, Tryd.func34, by kernel_rfl, rfl⟩ fun H args ct hct => by
  unfold eJ at hct
  split at hct
  · rename_i n f
    injection hct with hct
    refine ⟨_, _, hct.symm, fun hp ρ w vs hst hvs => ?_⟩
    obtain ⟨h1, h2, h3⟩ := hp
    cases hvs with
    | cons _ v _ vs1 hv hvs1 =>
    cases hvs1 with
    | cons _ u _ vs2 hu hvs2 =>
    cases hvs2
    cases hu with
    | str _ _ hn =>
    have hsep : (bstr 1 32).data.toList = [32] := by decide
    have hxl : ((rowTx n f).map fun l : List UInt8 => (⟨l.toArray⟩ : ByteArray)).length = n := by simp [rowTx]
    have hxs : (((rowTx n f).map fun l : List UInt8 => (⟨l.toArray⟩ : ByteArray)).map (·.data.toList)) = rowTx n f := by
      rw [List.map_map]
      exact List.map_id' _
    rcases vec_texts hst hv h1 with ⟨rfl, base, cap, rfl⟩ | ⟨b, o, cap, rfl, hcap, hb, hc⟩
    · refine (Tryd.strings_Join_none base cap (bstr 1 32) w).mono fun e w' ⟨he, hw⟩ => ⟨_, he, ?_, by rw [hw]; exact RowKit.Below.refl _ _⟩
      exact .bs []
    · have := Tryd.strings_Join b o cap ((rowTx n f).map fun l : List UInt8 => (⟨l.toArray⟩ : ByteArray)) (bstr 1 32) w hc hb (by rw [hxl]; omega) (by rw [hxl]; exact hcap) (by rw [hxs, hsep]; omega)
      rw [hxl, hxs, hsep] at this
      exact this.mono fun e w' ⟨he, hw⟩ => ⟨_, he, .bs _, hw⟩
  · cases hct
theorem ok12 : EntOK Tryd.prog 12 e12 := by
  refine ent_of2 (gl := []) (ng := 0) gl0 fun H args ct hct => ?_
  unfold e12 at hct
  split at hct
  · rename_i k s n a c
    injection hct with hct; subst hct
    exact ⟨gl0, _, _, rfl, fun hp => ⟨⟨⟨⟨rfl, rfl⟩, rfl, ⟨rfl, rfl⟩, ⟨rfl, rfl⟩, ⟨rfl, rfl⟩, trivial⟩, trivial⟩, cxA tbF, 100, rfl, fol, tbF_ok, by rw [bar_eq]; exact run12 k s n a c hp⟩⟩
  · cases hct
theorem tbP_ok : TbOK Tryd.prog tbP := tb_cons ok34 <| tb_cons ok12 tbK_ok
noncomputable def eL6 : Tr AObj → List AV → Option Ct := fun H args => match args with
  | [.vec 5 n f, .bv g] => cond (globB H) (some (.need (∃ l : List Tok, n = l.length ∧ f = fun k => tokRow (l.getD k t0)) (.ret (.bool true)))) none
  | _ => none
theorem ok6 : EntOK Tryd.prog 6 eL6 := by
  refine ent_of2 (gl := glT) (ng := 4) glT_gl fun H args ct hct => ?_
  unfold eL6 at hct
  split at hct
  · rename_i n f g
    cases hg : globB H with
    | true =>
      rw [hg] at hct
      injection hct with hct; subst hct
      refine ⟨globB_ok hg, _, _, rfl, ?_⟩
      rintro ⟨l, rfl, rfl⟩
      exact ⟨⟨⟨rfl, rfl, ⟨fun i _ => vm_tok _ _⟩⟩, rfl, trivial⟩, cx6 l g, 200, rfl, fol, tbP_ok, run6 l g⟩
    | false => rw [hg] at hct; cases hct
  · cases hct
end Go.Proofs.Tk
