/- Proved: the law JoinsRefused answers true at every argument of bulk at most 1048576, each argument reads as it did; package-level tables of the library start as the program's text lays them (tied). -/
import Derived.Test.YtedpjdkikbgojaaGreatDoorOk
import Derived.Test.YtedpjdkikbgojaaGreatDoorFa
import Derived.Test.YtedpjdkikbgojaaGreatDoorFb
import Derived.Test.YtedpjdkikbgojaaGreatDoorFc
import Derived.Test.YtedpjdkikbgojaaGreatDoorLt
import Derived.Test.YtedpjdkikbgojaaGreatDoorRows
import Derived.Test.YtedpjdkikbgojaaGreatDoorTie
import Derived.Test.YtedpjdkikbgojaaGreatDoorCards
import Derived.Lib.SmallJoins
import Derived.DataReads
import Derived.Carry
import Derived.LaidMore
import Derived.OpenShut
import Derived.Stop.Joined
import Derived.MakeChecks
import Derived.ChangeSlices
import Derived.Deep.DeepHandedRow

namespace Go.Proofs.YtedpjdkikbgojaaGreatDoor
open Go.Ev Go.ChangeShapes Go.WideShapes Go.WideMaps Go.WideElems Go.RowKit Go.Joins 

theorem own : ownKnob Tryz.prog.godebug = none := by kernel_rfl
def laidAll : List (String × DataW Unit) := [("math/bits.deBruijn64tab", Rows.laid_math_bits_deBruijn64tab)]
/-- The door's own heap meets the condition. -/
theorem door_met (os : Os) (args : Array Value) : laidMetH Tryz.prog laidAll ((World.doorLaid Tryz.prog 4000 os).forCall (fun _ _ => 0) ⟨#[], args, []⟩).memory :=
  laidMetH_of_parts3 (fuel := 12) (laidMet_of_run' 12 (by kernel_rfl) (by kernel_rfl)) (by kernel_rfl) (by kernel_rfl)
/-- What the condition says of the tables. -/
theorem tabs_met {W : World} (h : laidMetH Tryz.prog laidAll W) : Go.EvC.TabsIn gz0 W := (Go.EvC.tabs_cons (Go.LaidTab.laid_tab (n := "math/bits.deBruijn64tab") (d := Rows.laid_math_bits_deBruijn64tab) (g := 0) (t := 306) (el := 5) (len := 64) (k := .u8) h (.head _) (by kernel_rfl) (by kernel_rfl) (by kernel_rfl) (by kernel_rfl) (by kernel_rfl) (by kernel_rfl) (by kernel_rfl) (by kernel_rfl)) Go.EvC.tabs_nil)

theorem w_init : Tryz.checked.prog.inits.idxOf? 3 = none := by kernel_rfl
theorem w_shape (os : Os) : ((World.doorLaid Tryz.prog 4000 os).forCall (fun _ _ => 0) ⟨#[], #[.agg #[.slice none 0 0, .slice none 0 0, .slice none 0 0, .slice none 0 0, .slice none 0 0, .slice none 0 0, .int .i64 0, .slice none 0 0]], []⟩).Shaped Tryz.checked.prog := World.shaped_of_RefB (by kernel_rfl) (by kernel_rfl)
theorem w_ok (os : Os) : Input.okWideB Tryz.checked.prog ((World.doorLaid Tryz.prog 4000 os).forCall (fun _ _ => 0) ⟨#[], #[.agg #[.slice none 0 0, .slice none 0 0, .slice none 0 0, .slice none 0 0, .slice none 0 0, .slice none 0 0, .int .i64 0, .slice none 0 0]], []⟩) 3 ⟨#[], #[.agg #[.slice none 0 0, .slice none 0 0, .slice none 0 0, .slice none 0 0, .slice none 0 0, .slice none 0 0, .int .i64 0, .slice none 0 0]], []⟩ = true := by kernel_rfl
theorem reads (os : Os) {H : Type} (enc : TypeId × Value → H) : DataW.whole enc Tryz.prog ((World.doorLaid Tryz.prog 4000 os).forCall (fun _ _ => 0) ⟨#[], #[.agg #[.slice none 0 0, .slice none 0 0, .slice none 0 0, .slice none 0 0, .slice none 0 0, .slice none 0 0, .int .i64 0, .slice none 0 0]], []⟩).memory Tryz.f3.params.toList Rows.joinsRefusedSpec.vars false #[.agg #[.slice none 0 0, .slice none 0 0, .slice none 0 0, .slice none 0 0, .slice none 0 0, .slice none 0 0, .int .i64 0, .slice none 0 0]].toList 12 = some ([.agg [.nil, .nil, .nil, .nil, .nil, .nil, .lit (.int .i64 0), .nil]], [], []) := by kernel_rfl
set_option maxRecDepth 100000 in
theorem joinsRefused_lifted (os : Os) (started : os.Started) (H : Type) (enc : TypeId × Value → H) (F : Stop.Interp) :
    ReturnsInHanded {} Tryz.checked os 3 .any ((Rows.OpenSpec.upto Rows.joinsRefusedSpec).preRow enc Tryz.prog Tryz.f3 Rows.joinsRefusedUptoRow.domain false laidAll)
      (((Rows.OpenSpec.upto Rows.joinsRefusedSpec).at F).post enc Tryz.prog Tryz.f3 false true false false) := by
  refine returnsInHanded_of_row (C := Tryz.checked) (s := Rows.OpenSpec.upto Rows.joinsRefusedSpec) own started w_init Tryz.func3
    ⟨World.doorLaid Tryz.prog 4000 os, fun _ _ => 0, ⟨#[], #[.agg #[.slice none 0 0, .slice none 0 0, .slice none 0 0, .slice none 0 0, .slice none 0 0, .slice none 0 0, .int .i64 0, .slice none 0 0]], []⟩, rfl, w_shape os, (Input.okWide_of_okWideB (base := 0) (w_ok os)).1, (Input.okWide_of_okWideB (w_ok os)).2,
      OpenSpec.preRow_of_cond 12 (reads os enc) rfl (fun k hk => by cases hk; kernel_rfl) (by kernel_rfl) (door_met os _), by
        simp only [Assume.holds]
        exact ⟨by simp, by simp, fun _ => Modest.zero, by simp, by simp⟩⟩ ?_
  intro W base args ds gs before hval0 hW _ hcond hsz hL _ _
  have hval : ∀ (j : Nat) t v, Tryz.f3.params[j]? = some t → args[j]? = some v → Value.okWide Tryz.prog W .any base t v := hval0
  have hW' := hW
  obtain ⟨p, q, hA0, hV, rfl, hfz, hnd⟩ := hW
  have hA : DataW.TrodAll enc Tryz.prog W 0 (fun _ => true) true Tryz.f3.params.toList args.toList ds p := hA0
  rw [Tryz.params3] at hA hval
  obtain ⟨v0, vs0, d0, ds0, p0, q0, hargs, rfl, rfl, h0, r0⟩ := trodAll_cons hA
  obtain ⟨rfl, rfl, rfl⟩ := trodAll_nil r0
  obtain rfl : args = #[v0] := by cases args; simp_all
  obtain ⟨rfl, rfl⟩ := trodVars_none hV
  have k0 := h0
  clear hA0 hval0
  obtain ⟨cs0, rfl, _⟩ := okWide_struct Tryz.underlying30 (hval 0 30 v0 rfl rfl)
  obtain ⟨m0, t0⟩ := k0
  have u0 : DataW.trod enc Tryz.prog W 0 (fun _ => true) true m0 30 cs0.toList = some (d0, p0) := t0
  obtain ⟨a0, c0, b0⟩ := lp_arg meas cs0.toList m0 _ u0
  have hk : Rows.uptoBulkAll [d0] ≤ 1048576 := of_decide_eq_true (hcond _ rfl)
  have b1 : szP a0 ≤ 1048576 := by
    have hk' : Rows.uptoBulk d0 + 0 ≤ 1048576 := hk
    have b0' : szP a0 ≤ Rows.uptoBulk d0 := b0
    omega
  simp only [List.append_nil] at hW'
  have hlt : ∀ x ∈ p0, x.block < W.heap.size := fun x hx => by simpa using hW'.lt x (by simpa using hx)
  refine (ent_law (okLaw okK) (H := mkH (gzT gz0)) (b := true) (ct := .need (∃ p, LP.row a0 = LP.row p ∧ LP.Small p ∧ muchN p ≤ 2000000) (.ret (.bool true))) (by kernel_rfl) (ctOut_of ⟨a0, rfl, small_of b1, much_of b1⟩) (.cons _ _ _ _ (by simpa using VR.agg _ _ c0) .nil) (gz_law (tabs_met hL))).mono fun e W' ⟨he, hg⟩ => ?_
  subst he
  have hsame : ∀ x ∈ p0, W.sameAt W' x := fun x hx => hg.same (hlt x hx)
  refine ⟨_, rfl, post_of_below (pa := p0) (pv := []) hW' (fun _ _ _ => (trodAll_cons_mk (shut_bool Tryz.underlying4 _) trodAll_mk0)) (fun sp hsp => ?_) (fun _ _ => rfl) (by simp)
    hg (ok_one (by kernel_rfl) rfl (okWide_bool_mk Tryz.underlying4 _))⟩
  have hh : ∀ x ∈ p0, sp x.block = true := fun x hx => hsp x (by simpa using hx)
  have j0 := Trod_stays (by kernel_rfl) (by kernel_rfl) (by decide +kernel) h0 (fun x hx => hsame x (hx)) (fun x hx => hh x (hx))
  have := trodAll_cons_mk j0 trodAll_mk0
  rw [List.append_nil] at this
  exact this

theorem joinsRefused_closed : joinedFacts Tryz.prog 3 Tryz.f3 Rows.joinsRefusedSpec Rows.joinsRefusedUptoRow = true := by
  unfold joinedFacts
  rw [fact_laid, fact_rowed, fact_place, fact_recurses, fact_unfollowed, fact_named]
  kernel_rfl

set_option maxRecDepth 100000 in
theorem joinsRefused_holds : Rows.JoinsRefusedUptoSaid :=
  OpenClaim.holds_of_cond 3 Tryz.f3 rfl rfl rfl rfl rfl rfl rfl ⟨rfl, rfl, rfl, rfl, rfl⟩ rfl rfl rfl rfl rfl (by kernel_rfl) Tryz.func3 joinsRefused_closed
    (of_decide_eq_true (by kernel_rfl)) (by unfold Func.isWrapper; first | (rw [if_pos (by decide +kernel)]; kernel_rfl) | (rw [if_neg (by decide +kernel)]; exact ⟨rfl, rfl⟩))
    (fun os started H enc _ F => by rw [OpenClaim.pre_eq_preRow]; exact joinsRefused_lifted os started H enc F)

theorem goes_no : Tryz.prog.funcs.toList.any Func.goes = false := by kernel_rfl

/-- ████ THE STATEMENT ████ -/
theorem joinsRefusedUptoCard_holds : Rows.JoinsRefusedUptoCardSaid :=
  Claim7.holds_tied_plain_at .later [] [.data] true (true, "386ac6a7c9233cbac14b2e3ce687b7e382096b3575f479b9317e94b8b4bf68ce") false
    joinsRefused_holds (fun _ h => by cases h) (by kernel_rfl) (fun _ h => by cases h) joinsRefusedUpto_row_tie rfl ⟨rfl, rfl⟩ (by kernel_rfl) rfl
    (fun f fn hf hfn => by
      obtain rfl : f = 3 := Option.some.inj ((show Tryz.prog.funcNamed "detent/detentlaw23.JoinsRefused" = some 3 by kernel_rfl).symm.trans hf) |>.symm
      obtain rfl : fn = Tryz.f3 := (Option.some.inj (Tryz.func3.symm.trans hfn)).symm
      exact ⟨by kernel_rfl, fun j t ht => by
        rw [Tryz.params3] at ht
        have hm : t ∈ [30] := by simpa using Array.mem_of_getElem? ht
        have hall : ([30].all fun u => !Tryz.prog.wantsStandIn u) = true := by kernel_rfl
        exact (show Tryz.prog.wantsStandIn t = false by simpa using List.all_eq_true.1 hall t hm)⟩)
    (Go.Gn.goes_none goes_no rfl)
#print axioms joinsRefusedUptoCard_holds
end Go.Proofs.YtedpjdkikbgojaaGreatDoor
