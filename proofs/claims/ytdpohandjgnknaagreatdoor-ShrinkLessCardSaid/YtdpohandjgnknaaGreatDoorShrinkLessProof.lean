/- Proved: the law ShrinkLess answers true at every entry, the entry reads as it did; package-level tables of the library start as the program's text lays them (tied). -/
import Derived.Test.YtdpohandjgnknaaGreatDoorShA
import Derived.Test.YtdpohandjgnknaaGreatDoorSk
import Derived.Test.YtdpohandjgnknaaGreatDoorFa
import Derived.Test.YtdpohandjgnknaaGreatDoorFb
import Derived.Test.YtdpohandjgnknaaGreatDoorFc
import Derived.Test.YtdpohandjgnknaaGreatDoorRows
import Derived.Test.YtdpohandjgnknaaGreatDoorTie
import Derived.Test.YtdpohandjgnknaaGreatDoorCards
import Derived.Lib.SmallJoins
import Derived.DataReads
import Derived.Carry
import Derived.LaidMore
import Derived.OpenShut
import Derived.Stop.Joined
namespace Go.Proofs.YtdpohandjgnknaaGreatDoor
open Go.Ev Go.ChangeShapes Go.WideShapes Go.WideMaps Go.WideElems Go.RowKit Go.Joins

theorem own : ownKnob Tryz.prog.godebug = none := by kernel_rfl
theorem cells24 : Tryz.prog.cellsOf 24 = 3 := by kernel_rfl
def laid3 : List (String × DataW Unit) := [("math/bits.deBruijn32tab", Rows.laid_math_bits_deBruijn32tab), ("math/bits.deBruijn64tab", Rows.laid_math_bits_deBruijn64tab), ("internal/strconv.uint64pow10", Rows.laid_internal_strconv_uint64pow10)]
/-- The door's own heap meets the condition. -/
theorem door_met (os : Os) (args : Array Value) : laidMetH Tryz.prog laid3 ((World.doorLaid Tryz.prog 4000 os).forCall (fun _ _ => 0) ⟨#[], args, []⟩).memory :=
  laidMetH_of_parts3 (fuel := 8) (laidMet_of_run' 8 (by kernel_rfl) (by kernel_rfl)) (by kernel_rfl) (by kernel_rfl)
theorem wf_in {k : Int} (h : (Lit.int .i64 k).wf = true) : -9223372036854775808 ≤ k ∧ k ≤ 9223372036854775807 := by
  have : IntKind.i64.min ≤ k ∧ k ≤ IntKind.i64.max := by simpa [Lit.wf] using h
  rwa [show IntKind.i64.min = -9223372036854775808 by decide, show IntKind.i64.max = 9223372036854775807 by decide] at this

set_option maxRecDepth 100000 in
theorem lifted (os : Os) (started : os.Started) (H : Type) (enc : TypeId × Value → H) :
    ReturnsInHanded {} Tryz.checked os 3 .any (fun w args => (Rows.shrinkLessSpec.pre enc Tryz.prog Tryz.f3 [] false w args ∧ laidMetH Tryz.prog laid3 w) ∧ sizedMet enc Tryz.prog Tryz.f3 (OpenSpec.ofChange Rows.shrinkLessSpec) false w args)
      (Rows.shrinkLessSpec.post enc Tryz.prog Tryz.f3 false true false false) := by
  refine returnsInHanded_of_change_and (C := Tryz.checked) (X := fun w _ => laidMetH Tryz.prog laid3 w) (fun _ _ _ hh h => h.of_heap hh) own started (by kernel_rfl) Tryz.func3
    (ChangeSpec.witness_shaped (enc := enc) (C := Tryz.checked) (os := os) (X := fun w _ => laidMetH Tryz.prog laid3 w) false (World.doorLaid Tryz.prog 4000 os)
      #[.agg #[.int .i64 0, .int .i64 0, .int .i64 0]] 8 rfl (World.shaped_of_RefB (by kernel_rfl) (by kernel_rfl)) (by kernel_rfl) (by kernel_rfl) (by kernel_rfl) (door_met os _)) ?_
  intro W base args ds gs before hval0 hW _ _ _ _
  have hval : ∀ (j : Nat) t v, Tryz.f3.params[j]? = some t → args[j]? = some v → Value.okWide Tryz.prog W .any base t v := hval0
  have hW' := hW
  obtain ⟨p, q, hA0, hV, rfl, hfz, hnd⟩ := hW
  have hA : DataW.TrodAll enc Tryz.prog W 0 (fun _ => true) true Tryz.f3.params.toList args.toList ds p := hA0
  rw [Tryz.params3] at hA hval
  obtain ⟨v0, vs0, d0, ds0, p0, q0, hargs, rfl, rfl, h0, r0⟩ := trodAll_cons hA
  obtain ⟨rfl, rfl, rfl⟩ := trodAll_nil r0
  obtain rfl : args = #[v0] := by cases args; simp_all
  obtain ⟨rfl, rfl⟩ := trodVars_none hV
  have k0 := h0
  obtain ⟨a0, a1, a2, y0, y1, y2, m, rfl, rfl, rfl, t0, t1, t2⟩ := open_agg3 Tryz.underlying24 (by kernel_rfl) cells24 (hval 0 24 v0 rfl rfl) h0
  obtain ⟨k, e0, _, _⟩ := DataW.trod_int (k := .i64) (by kernel_rfl) t0
  obtain ⟨a, e1, _, _⟩ := DataW.trod_int (k := .i64) (by kernel_rfl) t1
  obtain ⟨n, e2, _, hn⟩ := DataW.trod_int (k := .i64) (by kernel_rfl) t2
  injection e0 with e0
  injection e1 with e1
  injection e2 with e2
  subst e0; subst e1; subst e2
  clear hA0 hval0
  simp only [List.append_nil] at hW'
  have hlt : ∀ x ∈ y0.2 ++ (y1.2 ++ y2.2), x.block < W.heap.size := fun x hx => by simpa using hW'.lt x (by simpa using hx)
  refine (ent_law (Shr.ok3 Shr.known_any) (H := .leaf) (b := true) (ct := .need (-9223372036854775808 ≤ n ∧ n ≤ 9223372036854775807) (.ret (.bool true))) (by kernel_rfl) (ctOut_of (wf_in hn))
    (.cons _ _ _ _ (.agg [.int .i64 k, .int .i64 a, .int .i64 n] [.int .i64 k, .int .i64 a, .int .i64 n] (.cons _ _ _ _ (.int _ _) (.cons _ _ _ _ (.int _ _) (.cons _ _ _ _ (.int _ _) .nil)))) .nil) (fun g l h => by rw [Tr.get_leaf] at h; cases h)).mono fun e W' ⟨he, hg⟩ => ?_
  subst he
  have hsame : ∀ x ∈ y0.2 ++ (y1.2 ++ y2.2), W.sameAt W' x := fun x hx => hg.same (hlt x hx)
  refine ⟨_, rfl, post_of_below (pa := y0.2 ++ (y1.2 ++ y2.2)) (pv := []) hW' (fun _ _ _ => (trodAll_cons_mk (shut_bool Tryz.underlying4 _) trodAll_mk0)) (fun sp hsp => ?_) (fun _ _ => rfl) (by simp)
    hg (ok_one (by kernel_rfl) rfl (okWide_bool_mk Tryz.underlying4 _))⟩
  have hh : ∀ x ∈ y0.2 ++ (y1.2 ++ y2.2), sp x.block = true := fun x hx => hsp x (by simpa using hx)
  have j0 := Trod_stays (by kernel_rfl) (by kernel_rfl) (by decide +kernel) k0 (fun x hx => hsame x hx) (fun x hx => hh x hx)
  have := trodAll_cons_mk j0 trodAll_mk0
  rw [List.append_nil] at this
  exact this

theorem closed : joinedFacts Tryz.prog 3 Tryz.f3 Rows.shrinkLessSpec Rows.shrinkLessRow = true := by
  unfold joinedFacts
  rw [fact_laid, fact_rowed, fact_place, fact_recurses, fact_unfollowed, fact_named]
  kernel_rfl

theorem shrinkLess_holds : Rows.ShrinkLessSaid :=
  OpenClaim.holds_of_wide 3 Tryz.f3 rfl rfl rfl rfl rfl rfl rfl ⟨rfl, rfl, rfl, rfl, rfl⟩ rfl rfl rfl rfl rfl (by kernel_rfl) Tryz.func3 closed
    (of_decide_eq_true (by kernel_rfl)) (by unfold Func.isWrapper; first | (rw [if_pos (by decide +kernel)]; kernel_rfl) | (rw [if_neg (by decide +kernel)]; exact ⟨rfl, rfl⟩))
    (fun os started H enc _ => lifted os started H enc)

/-- ████ THE STATEMENT ████ -/
theorem shrinkLessCard_holds : Rows.ShrinkLessCardSaid :=
  Claim7.holds_tied_plain_at .later [] [.data, .data, .data] true (true, "0d02a1e0bf58386a9fe0a6b72e727a557564ab7d80d514f5d84608d4076b5c04") true
    shrinkLess_holds (fun _ h => by cases h) (by kernel_rfl) (fun _ h => by cases h) shrinkLess_row_tie rfl ⟨rfl, rfl⟩ (by kernel_rfl) rfl
    (fun f fn hf hfn => by
      obtain rfl : f = 3 := Option.some.inj ((show Tryz.prog.funcNamed "detent/detentlaw31.ShrinkLess" = some 3 by kernel_rfl).symm.trans hf) |>.symm
      obtain rfl : fn = Tryz.f3 := (Option.some.inj (Tryz.func3.symm.trans hfn)).symm
      exact ⟨by kernel_rfl, fun j t ht => by
        rw [Tryz.params3] at ht
        have hm : t ∈ [24] := by simpa using Array.mem_of_getElem? ht
        have hall : ([24].all fun u => !Tryz.prog.wantsStandIn u) = true := by kernel_rfl
        exact (show Tryz.prog.wantsStandIn t = false by simpa using List.all_eq_true.1 hall t hm)⟩)
    (by kernel_rfl)
#print axioms shrinkLessCard_holds
end Go.Proofs.YtdpohandjgnknaaGreatDoor
