/- Proved: the law TypesTexts answers true at every argument, each argument reads as it did. -/
import Derived.Test.YthallodoidghoaaGreatTyKn
import Derived.Test.YthallodoidghoaaGreatTtZ
import Derived.Test.YthallodoidghoaaGreatMf
import Derived.Test.YthallodoidghoaaGreatRows
import Derived.WalkKit
import Derived.ProofKit
import Derived.OpenShut
import Derived.ChangeSlices
set_option maxRecDepth 100000
namespace Go.Proofs.YthallodoidghoaaGreat
open Go.Ev Go.ChangeShapes Go.WideShapes Go.WideMaps Go.WideElems Go.ChangeAt Go.RowKit

theorem own : ownKnob Tryz.prog.godebug = none := by kernel_rfl

set_option maxRecDepth 100000 in
theorem lifted (os : Os) (y : os.Started) (H : Type) (enc : TypeId × Value → H) :
    ReturnsInHanded {} Tryz.checked os 4 .any (Rows.typesTextsSpec.pre6 enc Tryz.prog Tryz.f4 Rows.typesTextsRow.domain false) (Rows.typesTextsSpec.post enc Tryz.prog Tryz.f4 false true false false) := by
  refine returnsInHanded_of_change (C := Tryz.checked) own y (by kernel_rfl) Tryz.func4
    (ChangeSpec.witness6 (enc := enc) (C := Tryz.checked) false ⟨#[], #[.slice none 0 0], []⟩ 8 (by kernel_rfl) (by kernel_rfl) (by kernel_rfl) (by kernel_rfl)) ?_
  intro W base args ds gs S r hW aa _
  have B : ∀ (j : Nat) t v, Tryz.f4.params[j]? = some t → args[j]? = some v → Value.okWide Tryz.prog W .any base t v := r
  have J := hW
  obtain ⟨p, q, R, hV, rfl, ae, ad⟩ := hW
  have hA : DataW.TrodAll enc Tryz.prog W 0 (fun _ => true) true Tryz.f4.params.toList args.toList ds p := R
  rw [Tryz.params4] at hA B
  obtain ⟨Z, ab, d0, af, L, q0, Y, rfl, rfl, h0, r0⟩ := trodAll_cons hA
  obtain ⟨rfl, rfl, rfl⟩ := trodAll_nil r0
  obtain rfl : args = #[Z] := by cases args; simp_all
  obtain ⟨rfl, rfl⟩ := trodVars_none hV
  have k0 := h0
  clear R r
  obtain ⟨a0, n0, z0, rfl⟩ := okWide_slice (e := 5) (by kernel_rfl) (B 0 41 Z rfl rfl)
  obtain ⟨m0, t0⟩ := k0
  have u0 : DataW.trod enc Tryz.prog W 0 (fun _ => true) true m0 41 [.slice a0 n0 z0] = some (d0, L) := t0
  obtain ⟨l0, c0⟩ := AgE (el := 5) (by kernel_rfl) (by kernel_rfl) (by kernel_rfl) u0
  simp only [List.append_nil] at J
  have V : ∀ x ∈ L, x.block < W.heap.size := fun x z => by simpa using J.lt x (by simpa using z)
  refine (Ahp (Ala okK) (H := .leaf) (b := true) (ct := .Bb True (.ret (.bool true))) rfl (Ahd trivial) (.cons _ _ _ _ (c0) .nil) (fun g l h => by rw [Tr.Cy] at h; cases h)).mono fun e W' ⟨he, hg⟩ => ?_
  subst he
  have K : ∀ x ∈ L, W.sameAt W' x := fun x z => hg.same (V x z)
  refine ⟨_, rfl, Alz (pa := L) (pv := []) J (fun _ _ _ => (trodAll_cons_mk (shut_bool Tryz.underlying4 _) trodAll_mk0)) (fun sp U => ?_) (fun _ _ => rfl) (by simp)
    hg (ok_one (by kernel_rfl) rfl (okWide_bool_mk Tryz.underlying4 _))⟩
  have hh : ∀ x ∈ L, sp x.block = true := fun x z => U x (by simpa using z)
  have j0 := Trod_stays (by kernel_rfl) (by kernel_rfl) (by decide +kernel) h0 (fun x z => K x (z)) (fun x z => hh x (z))
  have := trodAll_cons_mk j0 trodAll_mk0
  rw [List.append_nil] at this
  exact this

/-- ████ THE STATEMENT ████ -/
theorem typesTexts_holds : Rows.TypesTextsSaid :=
  OpenClaim.holds_of_wide 4 Tryz.f4 rfl rfl rfl rfl rfl rfl rfl ⟨rfl, rfl, rfl, rfl, rfl⟩ rfl rfl rfl rfl rfl (by kernel_rfl) Tryz.func4 (by kernel_rfl)
    (of_decide_eq_true (by kernel_rfl)) (by unfold Func.isWrapper; first | (rw [if_pos (by decide +kernel)]; kernel_rfl) | (rw [if_neg (by decide +kernel)]; exact ⟨rfl, rfl⟩))
    (fun os r H enc _ => lifted os r H enc)
#print axioms typesTexts_holds
end Go.Proofs.YthallodoidghoaaGreat
