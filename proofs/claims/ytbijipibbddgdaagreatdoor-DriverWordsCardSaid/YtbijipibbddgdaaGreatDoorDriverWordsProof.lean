/- Proved: the law DriverWords answers true at every argument, each argument reads as it did; package-level tables of the library start as the program's text lays them (tied). -/
import Derived.Test.YtbijipibbddgdaaGreatDoorOk
import Derived.Test.YtbijipibbddgdaaGreatDoorFa
import Derived.Test.YtbijipibbddgdaaGreatDoorFb
import Derived.Test.YtbijipibbddgdaaGreatDoorFc
import Derived.Test.YtbijipibbddgdaaGreatDoorLt
import Derived.Test.YtbijipibbddgdaaGreatDoorRows
import Derived.Test.YtbijipibbddgdaaGreatDoorTie
import Derived.Test.YtbijipibbddgdaaGreatDoorCards
import Derived.Lib.SmallJoins
import Derived.DataReads
import Derived.Carry
import Derived.LaidMore
import Derived.OpenShut
import Derived.Stop.Joined
import Derived.MakeChecks
import Derived.ChangeSlices

namespace Go.Proofs.YtbijipibbddgdaaGreatDoor
open Go.Ev Go.ChangeShapes Go.WideShapes Go.WideMaps Go.WideElems Go.RowKit Go.Joins 

theorem own : ownKnob Tryz.prog.godebug = none := by kernel_rfl
def laidAll : List (String × DataW Unit) := [("math/bits.deBruijn32tab", Rows.laid_math_bits_deBruijn32tab), ("math/bits.deBruijn64tab", Rows.laid_math_bits_deBruijn64tab), ("internal/strconv.uint64pow10", Rows.laid_internal_strconv_uint64pow10), ("unicode.White_Space", Rows.laid_unicode_White_Space), ("strings.asciiSpace", Rows.laid_strings_asciiSpace)]
/-- The door's own heap meets the condition. -/
theorem door_met (os : Os) (args : Array Value) : laidMetH Tryz.prog laidAll ((World.doorLaid Tryz.prog 4000 os).forCall (fun _ _ => 0) ⟨#[], args, []⟩).memory :=
  laidMetH_of_parts3 (fuel := 12) (laidMet_of_run' 12 (by kernel_rfl) (by kernel_rfl)) (by kernel_rfl) (by kernel_rfl)
/-- What the condition says of the tables. -/
theorem tabs_met {W : World} (h : laidMetH Tryz.prog laidAll W) : Go.EvC.TabsIn gz0 W := (Go.EvC.tabs_cons (Go.LaidTab.laid_tab (n := "strings.asciiSpace") (d := Rows.laid_strings_asciiSpace) (g := 1) (t := 453) (el := 5) (len := 256) (k := .u8) h (.tail _ (.tail _ (.tail _ (.tail _ (.head _))))) (by kernel_rfl) (by kernel_rfl) (by kernel_rfl) (by kernel_rfl) (by kernel_rfl) (by kernel_rfl) (by kernel_rfl) (by kernel_rfl)) (Go.EvC.tabs_cons (Go.LaidTab.laid_tab (n := "math/bits.deBruijn64tab") (d := Rows.laid_math_bits_deBruijn64tab) (g := 4) (t := 492) (el := 5) (len := 64) (k := .u8) h (.tail _ (.head _)) (by kernel_rfl) (by kernel_rfl) (by kernel_rfl) (by kernel_rfl) (by kernel_rfl) (by kernel_rfl) (by kernel_rfl) (by kernel_rfl)) Go.EvC.tabs_nil))

theorem w_init : Tryz.checked.prog.inits.idxOf? 3 = none := by kernel_rfl
theorem w_shape (os : Os) : ((World.doorLaid Tryz.prog 4000 os).forCall (fun _ _ => 0) ⟨#[], #[.int .i64 0, .agg #[.slice none 0 0, .int .i64 0, .slice none 0 0, .slice none 0 0]], []⟩).Shaped Tryz.checked.prog := World.shaped_of_RefB (by kernel_rfl) (by kernel_rfl)
theorem w_ok (os : Os) : Input.okWideB Tryz.checked.prog ((World.doorLaid Tryz.prog 4000 os).forCall (fun _ _ => 0) ⟨#[], #[.int .i64 0, .agg #[.slice none 0 0, .int .i64 0, .slice none 0 0, .slice none 0 0]], []⟩) 3 ⟨#[], #[.int .i64 0, .agg #[.slice none 0 0, .int .i64 0, .slice none 0 0, .slice none 0 0]], []⟩ = true := by kernel_rfl
theorem w_pre (os : Os) {H : Type} (enc : TypeId × Value → H) : Rows.driverWordsSpec.preB enc Tryz.checked.prog Tryz.f3 [] false ((World.doorLaid Tryz.prog 4000 os).forCall (fun _ _ => 0) ⟨#[], #[.int .i64 0, .agg #[.slice none 0 0, .int .i64 0, .slice none 0 0, .slice none 0 0]], []⟩).memory #[.int .i64 0, .agg #[.slice none 0 0, .int .i64 0, .slice none 0 0, .slice none 0 0]] 8 = true := by kernel_rfl
theorem w_sz (os : Os) {H : Type} (enc : TypeId × Value → H) : Rows.driverWordsSpec.sizedB enc Tryz.checked.prog Tryz.f3 false ((World.doorLaid Tryz.prog 4000 os).forCall (fun _ _ => 0) ⟨#[], #[.int .i64 0, .agg #[.slice none 0 0, .int .i64 0, .slice none 0 0, .slice none 0 0]], []⟩).memory #[.int .i64 0, .agg #[.slice none 0 0, .int .i64 0, .slice none 0 0, .slice none 0 0]] 8 = true := by kernel_rfl
set_option maxRecDepth 100000 in
theorem driverWords_lifted (os : Os) (started : os.Started) (H : Type) (enc : TypeId × Value → H) :
    ReturnsInHanded {} Tryz.checked os 3 .any (fun w args => (Rows.driverWordsSpec.pre enc Tryz.prog Tryz.f3 [] false w args ∧ laidMetH Tryz.prog laidAll w) ∧ sizedMet enc Tryz.prog Tryz.f3 (OpenSpec.ofChange Rows.driverWordsSpec) false w args)
      (Rows.driverWordsSpec.post enc Tryz.prog Tryz.f3 false true false false) := by
  refine returnsInHanded_of_change_and (C := Tryz.checked) (X := fun w _ => laidMetH Tryz.prog laidAll w) (fun _ _ _ hh h => h.of_heap hh) own started w_init Tryz.func3
    (ChangeSpec.witness_shaped (enc := enc) (C := Tryz.checked) (os := os) (X := fun w _ => laidMetH Tryz.prog laidAll w) false (World.doorLaid Tryz.prog 4000 os)
      #[.int .i64 0, .agg #[.slice none 0 0, .int .i64 0, .slice none 0 0, .slice none 0 0]] 8 rfl (w_shape os) (w_ok os) (w_pre os enc) (w_sz os enc) (door_met os _)) ?_
  intro W base args ds gs before hval0 hW _ hsz hL _
  have hval : ∀ (j : Nat) t v, Tryz.f3.params[j]? = some t → args[j]? = some v → Value.okWide Tryz.prog W .any base t v := hval0
  have hW' := hW
  obtain ⟨p, q, hA0, hV, rfl, hfz, hnd⟩ := hW
  have hA : DataW.TrodAll enc Tryz.prog W 0 (fun _ => true) true Tryz.f3.params.toList args.toList ds p := hA0
  rw [Tryz.params3] at hA hval
  obtain ⟨v0, vs0, d0, ds0, p0, q0, hargs, rfl, rfl, h0, r0⟩ := trodAll_cons hA
  obtain ⟨v1, vs1, d1, ds1, p1, q1, rfl, rfl, rfl, h1, r1⟩ := trodAll_cons r0
  obtain ⟨rfl, rfl, rfl⟩ := trodAll_nil r1
  obtain rfl : args = #[v0, v1] := by cases args; simp_all
  obtain ⟨rfl, rfl⟩ := trodVars_none hV
  have k0 := h0
  have k1 := h1
  clear hA0 hval0
  obtain ⟨x0, rfl⟩ := okWide_int (k := .i64) (by kernel_rfl) (hval 0 3 v0 rfl rfl)
  obtain ⟨cs1, rfl, _⟩ := okWide_struct Tryz.underlying27 (hval 1 27 v1 rfl rfl)
  obtain ⟨m1, t1⟩ := k1
  have u1 : DataW.trod enc Tryz.prog W 0 (fun _ => true) true m1 27 cs1.toList = some (d1, p1) := t1
  obtain ⟨z1, a1, b1, g1, c1⟩ := verdict_arg cs1.toList m1 _ u1
  simp only [List.append_nil] at hW'
  have hlt : ∀ x ∈ p0 ++ p1, x.block < W.heap.size := fun x hx => by simpa using hW'.lt x (by simpa using hx)
  refine (ent_law (okLaw okK) (H := mkH (gzT gz0)) (b := true) (ct := .need (∃ e lim a b c, ([.int .i64 x0, .agg (argV a1 b1 g1 z1)] : List AV) = [.int .i64 e, .agg (argV a b c lim)]) (.ret (.bool true))) (by kernel_rfl) (ctOut_of ⟨x0, z1, a1, b1, g1, rfl⟩) (.cons _ _ _ _ (.int .i64 x0) (.cons _ _ _ _ (by simpa using VR.agg _ _ c1) .nil)) (gz_law (tabs_met hL))).mono fun e W' ⟨he, hg⟩ => ?_
  subst he
  have hsame : ∀ x ∈ p0 ++ p1, W.sameAt W' x := fun x hx => hg.same (hlt x hx)
  refine ⟨_, rfl, post_of_below (pa := p0 ++ p1) (pv := []) hW' (fun _ _ _ => (trodAll_cons_mk (shut_bool Tryz.underlying4 _) trodAll_mk0)) (fun sp hsp => ?_) (fun _ _ => rfl) (by simp)
    hg (ok_one (by kernel_rfl) rfl (okWide_bool_mk Tryz.underlying4 _))⟩
  have hh : ∀ x ∈ p0 ++ p1, sp x.block = true := fun x hx => hsp x (by simpa using hx)
  have j0 := Trod_stays (by kernel_rfl) (by kernel_rfl) (by decide +kernel) h0 (fun x hx => hsame x (List.mem_append_left _ (hx))) (fun x hx => hh x (List.mem_append_left _ (hx)))
  have j1 := Trod_stays (by kernel_rfl) (by kernel_rfl) (by decide +kernel) h1 (fun x hx => hsame x (List.mem_append_right _ hx)) (fun x hx => hh x (List.mem_append_right _ hx))
  have := trodAll_cons_mk j0 (trodAll_cons_mk j1 trodAll_mk0)
  simp only [List.append_nil] at this ⊢
  exact this

theorem driverWords_closed : joinedFacts Tryz.prog 3 Tryz.f3 Rows.driverWordsSpec Rows.driverWordsRow = true := by
  unfold joinedFacts
  rw [fact_laid, fact_rowed, fact_place, fact_recurses, fact_unfollowed, fact_named]
  kernel_rfl

theorem driverWords_holds : Rows.DriverWordsSaid :=
  OpenClaim.holds_of_wide 3 Tryz.f3 rfl rfl rfl rfl rfl rfl rfl ⟨rfl, rfl, rfl, rfl, rfl⟩ rfl rfl rfl rfl rfl (by kernel_rfl) Tryz.func3 driverWords_closed
    (of_decide_eq_true (by kernel_rfl)) (by unfold Func.isWrapper; first | (rw [if_pos (by decide +kernel)]; kernel_rfl) | (rw [if_neg (by decide +kernel)]; exact ⟨rfl, rfl⟩))
    (fun os started H enc _ => driverWords_lifted os started H enc)

theorem goes_no : Tryz.prog.funcs.toList.any Func.goes = false := by kernel_rfl

/-- ████ THE STATEMENT ████ -/
theorem driverWordsCard_holds : Rows.DriverWordsCardSaid :=
  Claim7.holds_tied_plain_at .later [] [.data, .data, .data, .listed, .data] true (true, "b79a39c11eba24f800385859a56b7872467422a4e46ed70969d7eaca5d1ad0ee") true
    driverWords_holds (fun _ h => by cases h) (by kernel_rfl) (fun _ h => by cases h) driverWords_row_tie rfl ⟨rfl, rfl⟩ (by kernel_rfl) rfl
    (fun f fn hf hfn => by
      obtain rfl : f = 3 := Option.some.inj ((show Tryz.prog.funcNamed "detent/detentlaw26.DriverWords" = some 3 by kernel_rfl).symm.trans hf) |>.symm
      obtain rfl : fn = Tryz.f3 := (Option.some.inj (Tryz.func3.symm.trans hfn)).symm
      exact ⟨by kernel_rfl, fun j t ht => by
        rw [Tryz.params3] at ht
        have hm : t ∈ [3, 27] := by simpa using Array.mem_of_getElem? ht
        have hall : ([3, 27].all fun u => !Tryz.prog.wantsStandIn u) = true := by kernel_rfl
        exact (show Tryz.prog.wantsStandIn t = false by simpa using List.all_eq_true.1 hall t hm)⟩)
    (Go.Gn.goes_none goes_no rfl)
#print axioms driverWordsCard_holds
end Go.Proofs.YtbijipibbddgdaaGreatDoor
