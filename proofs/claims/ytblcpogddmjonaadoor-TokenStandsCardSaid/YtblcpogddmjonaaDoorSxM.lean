/- The symbolic layer, part M: contracts laid together. -/
import Derived.Test.YtblcpogddmjonaaDoorSxL
set_option linter.unusedVariables false
set_option linter.unusedSimpArgs false
namespace Go.Ev

theorem tb_nil {P : Program} : TbOK P [] := fun _ _ h => by cases h
theorem tb_cons {P : Program} {tb : Tbl} {g : FuncId} {ent : Tr AObj → List AV → Option Ct} (h : EntOK P g ent) (ht : TbOK P tb) : TbOK P ((g, ent) :: tb) := by
  intro g' ent' hl
  have hl' : cond (Nat.beq g g') (some ent) (look tb g') = some ent' := hl
  cases hb : Nat.beq g g' with
  | true =>
    rw [hb] at hl'
    injection hl' with hl'
    rw [← hl', ← Nat.eq_of_beq_eq_true hb]; exact h
  | false => rw [hb] at hl'; exact ht g' ent' hl'


theorem ent_of {P : Program} {g : FuncId} {ent : Tr AObj → List AV → Option Ct} {gl : List (Nat × AObj)} {ng : Nat} (hgl : ∀ p ∈ gl, isGl p.2 = true)
    (h : ∀ H args ct, ent H args = some ct → (∀ p ∈ gl, H.get p.1 = some p.2) ∧ vmL [] args args ∧ ∃ pre v, ct = .need pre (.ret v) ∧
      (pre → ∃ (cx : Ctx) (n : Nat), cx.P = P ∧ P.follows .mixedOrders = true ∧ TbOK P cx.tb ∧ (cRun cx n).call g args (mkH gl) ng (ResM P false v))) : EntOK P g ent := by
  intro H args ct hct p v hout
  obtain ⟨h1, h2, pre, v', h3, h4⟩ := h H args ct hct
  subst h3
  have ho : (open Classical in if pre then some (false, v') else none) = some (p, v) := hout
  by_cases hp : pre
  · rw [if_pos hp] at ho
    injection ho with ho; injection ho with ho1 ho2
    obtain ⟨cx, n, e1, e2, e3, e4⟩ := h4 hp
    subst e1
    exact ent_ok (cRun_ok e2 e3 n) (ent := fun H' args' => open Classical in if H' = H ∧ args' = args then some (.ret v') else none) hgl (fun H' args' ct' hct' => by
      classical
      by_cases hh : H' = H ∧ args' = args
      · rw [if_pos hh] at hct'
        injection hct' with hct'
        obtain ⟨rfl, rfl⟩ := hh
        refine ⟨h1, h2, fun p' v'' hout' => ?_⟩
        rw [← hct'] at hout'
        injection hout' with hout'
        injection hout' with ha hb
        subst ha; subst hb; exact e4
      · rw [if_neg hh] at hct'; cases hct') H args (.ret v') (if_pos ⟨rfl, rfl⟩) p v (by rw [← ho1, ← ho2]; rfl)
  · rw [if_neg hp] at ho; cases ho
end Go.Ev
namespace Go.Ev
theorem inR_i64 {n : Int} : inR .i64 n = true ↔ -9223372036854775808 ≤ n ∧ n ≤ 9223372036854775807 := inR_iff
theorem inR_u8 {n : Int} : inR .u8 n = true ↔ 0 ≤ n ∧ n ≤ 255 := inR_iff
theorem inB_iff {n : Int} {l : Nat} : inB n l = true ↔ 0 ≤ n ∧ n < l := by simp [inB]
theorem inL_iff {n : Int} {l : Nat} : inL n l = true ↔ 0 ≤ n ∧ n ≤ l := by simp [inL]
theorem ilt_iff {a b : Int} : ilt a b = true ↔ a < b := by simp [ilt_eq]
theorem ilt_iffn {a b : Int} : ilt a b = false ↔ b ≤ a := by simp [ilt_eq]
theorem ieq_iff {a b : Int} : ieq a b = true ↔ a = b := by simp [ieq_eq]
theorem ieq_iffn {a b : Int} : ieq a b = false ↔ ¬ a = b := by simp [ieq_eq]
end Go.Ev
