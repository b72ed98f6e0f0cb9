/- Proved: the law BaselineNil answers true (a closed sentence); package-level tables of the library start as the program's text lays them (tied). -/
import Derived.Test.YtaeehnoidmkfeaaGreatDoorKn
import Derived.Test.YtaeehnoidmkfeaaGreatDoorFa
import Derived.Test.YtaeehnoidmkfeaaGreatDoorFb
import Derived.Test.YtaeehnoidmkfeaaGreatDoorFc
import Derived.Test.YtaeehnoidmkfeaaGreatDoorFd
import Derived.Test.YtaeehnoidmkfeaaGreatDoorLt
import Derived.Test.YtaeehnoidmkfeaaGreatDoorRows
import Derived.Test.YtaeehnoidmkfeaaGreatDoorT6
import Derived.Test.YtaeehnoidmkfeaaGreatDoorCards
import Derived.Test.YtaeehnoidmkfeaaGreatDoorChecked
import Derived.WalkKit
import Derived.ProofKit
import Derived.LaidMore
import Derived.OpenShut
import Derived.Stop.Joined
import Derived.MakeChecks
import Derived.Lay
namespace Go.Proofs.YtaeehnoidmkfeaaGreatDoor
open Go.EvC Go.ChangeShapes Go.WideShapes Go.ChangeAt Go.WideMaps Go.WideElems Go.RowKit

theorem own : ownKnob Tryz.prog.godebug = none := by kernel_rfl
def laidAll : List (String × DataW Unit) := [("strings.asciiSpace", Rows.laid_strings_asciiSpace), ("unicode.White_Space", Rows.laid_unicode_White_Space), ("internal/strconv.uint64pow10", Rows.laid_internal_strconv_uint64pow10), ("math/bits.deBruijn32tab", Rows.laid_math_bits_deBruijn32tab), ("math/bits.deBruijn64tab", Rows.laid_math_bits_deBruijn64tab), ("unicode/utf8.first", Rows.laid_unicode_utf8_first), ("unicode/utf8.acceptRanges", Rows.laid_unicode_utf8_acceptRanges)]
/-- The tables laid by a function (one of them is pinned): the condition. -/
theorem door_met (os : Os) (args : Array Value) : laidMetH Tryz.prog laidAll ((World.laidAll Tryz.prog os laidAll).forCall (fun _ _ => 0) ⟨#[], args, []⟩).memory := by
  rw [MakeChecks.laidMetH_plain _ _ _ (by kernel_rfl)]
  exact laidMet_laidAll _ (by kernel_rfl) (by kernel_rfl)
/-- What the condition says of the tables. -/
theorem tabs_met {W : World} (h : laidMetH Tryz.prog laidAll W) : Go.EvC.TabsIn Go.Proofs.YtaeehnoidmkfeaaGreatDoorK.gz W := (Go.EvC.tabs_cons (Go.LaidTab.laid_tab (n := "strings.asciiSpace") (d := Rows.laid_strings_asciiSpace) (g := 3) (t := 468) (el := 5) (len := 256) (k := .u8) h (.head _) (by kernel_rfl) (by kernel_rfl) (by kernel_rfl) (by kernel_rfl) (by kernel_rfl) (by kernel_rfl) (by kernel_rfl) (by kernel_rfl)) (Go.EvC.tabs_cons (Go.LaidTab.laid_tab (n := "math/bits.deBruijn64tab") (d := Rows.laid_math_bits_deBruijn64tab) (g := 7) (t := 602) (el := 5) (len := 64) (k := .u8) h (.tail _ (.tail _ (.tail _ (.tail _ (.head _))))) (by kernel_rfl) (by kernel_rfl) (by kernel_rfl) (by kernel_rfl) (by kernel_rfl) (by kernel_rfl) (by kernel_rfl) (by kernel_rfl)) Go.EvC.tabs_nil))

theorem w_init : Tryz.checked.prog.inits.idxOf? 3 = none := by kernel_rfl
theorem w_shape (os : Os) : ((World.laidAll Tryz.prog os laidAll).forCall (fun _ _ => 0) ⟨#[], #[], []⟩).Shaped Tryz.checked.prog := World.shaped_of_ZipB (by kernel_rfl) (by kernel_rfl)
theorem w_ok (os : Os) : Input.okWideB Tryz.checked.prog ((World.laidAll Tryz.prog os laidAll).forCall (fun _ _ => 0) ⟨#[], #[], []⟩) 3 ⟨#[], #[], []⟩ = true := by kernel_rfl
theorem w_pre (os : Os) {H : Type} (enc : TypeId × Value → H) : Rows.baselineNilSpec.preB enc Tryz.checked.prog Tryz.f3 [] false ((World.laidAll Tryz.prog os laidAll).forCall (fun _ _ => 0) ⟨#[], #[], []⟩).memory #[] 8 = true := by kernel_rfl
theorem w_sz (os : Os) {H : Type} (enc : TypeId × Value → H) : Rows.baselineNilSpec.sizedB enc Tryz.checked.prog Tryz.f3 false ((World.laidAll Tryz.prog os laidAll).forCall (fun _ _ => 0) ⟨#[], #[], []⟩).memory #[] 8 = true := by kernel_rfl
set_option maxRecDepth 100000 in
theorem lifted (os : Os) (started : os.Started) (H : Type) (enc : TypeId × Value → H) :
    ReturnsInHanded {} Tryz.checked os 3 .any (fun w args => (Rows.baselineNilSpec.pre enc Tryz.prog Tryz.f3 [] false w args ∧ laidMetH Tryz.prog laidAll w) ∧ sizedMet enc Tryz.prog Tryz.f3 (OpenSpec.ofChange Rows.baselineNilSpec) false w args)
      (Rows.baselineNilSpec.post enc Tryz.prog Tryz.f3 false true false false) := by
  refine returnsInHanded_of_change_and (C := Tryz.checked) (X := fun w _ => laidMetH Tryz.prog laidAll w) (fun _ _ _ hh h => h.of_heap hh) own started w_init Tryz.func3
    (ChangeSpec.witness_shaped (enc := enc) (C := Tryz.checked) (os := os) (X := fun w _ => laidMetH Tryz.prog laidAll w) false (World.laidAll Tryz.prog os laidAll)
      #[] 8 (World.laidAll_os _ _ _) (w_shape os) (w_ok os) (w_pre os enc) (w_sz os enc) (door_met os _)) ?_
  intro W base args ds gs before hval0 hW _ hsz hL _
  have hW' := hW
  obtain ⟨p, q, hA0, hV, rfl, hfz, hnd⟩ := hW
  have hA : DataW.TrodAll enc Tryz.prog W 0 (fun _ => true) true Tryz.f3.params.toList args.toList ds p := hA0
  rw [Tryz.params3] at hA
  obtain ⟨rfl, rfl, rfl⟩ := trodAll_none hA
  obtain ⟨rfl, rfl⟩ := trodVars_none hV
  clear hA0 hval0
  simp only [List.append_nil] at hW'
  refine (Go.Proofs.YtaeehnoidmkfeaaGreatDoorK.known_any W (tabs_met hL)).mono fun e W' ⟨he, hg⟩ => ?_
  subst he
  exact ⟨_, rfl, post_of_below (pa := []) (pv := []) hW' (fun _ _ _ => (trodAll_cons_mk (shut_bool Tryz.underlying4 _) trodAll_mk0)) (fun sp _ => rfl) (fun _ _ => rfl) rfl
    hg (ok_one (by kernel_rfl) rfl (okWide_bool_mk Tryz.underlying4 _))⟩

theorem closed : joinedFacts Tryz.prog 3 Tryz.f3 Rows.baselineNilSpec Rows.baselineNilRow = true := by
  unfold joinedFacts
  rw [fact_laid, fact_rowed, fact_place, fact_recurses, fact_unfollowed, fact_named]
  kernel_rfl

theorem baselineNil_holds : Rows.BaselineNilSaid :=
  OpenClaim.holds_of_wide 3 Tryz.f3 rfl rfl rfl rfl rfl rfl rfl ⟨rfl, rfl, rfl, rfl, rfl⟩ rfl rfl rfl rfl rfl (by kernel_rfl) Tryz.func3 closed
    (of_decide_eq_true (by kernel_rfl)) (by unfold Func.isWrapper; first | (rw [if_pos (by decide +kernel)]; kernel_rfl) | (rw [if_neg (by decide +kernel)]; exact ⟨rfl, rfl⟩))
    (fun os started H enc _ => lifted os started H enc)

theorem goes_no : Tryz.prog.funcs.toList.any Func.goes = false := by kernel_rfl

/-- ████ THE STATEMENT ████ -/
theorem baselineNilCard_holds : Rows.BaselineNilCardSaid :=
  Claim7.holds_tied_plain_at .later [] [.data, .listed, .data, .data, .data, .pinned, .data] true (true, "990737a23960ac72fd3f04984859c1ec1b7676ae13ebbcb0dbd0e4dc962c9819") true
    baselineNil_holds (fun _ h => by cases h) (by kernel_rfl) (fun _ h => by cases h) baselineNil_row_tie rfl ⟨rfl, rfl⟩ (by kernel_rfl) rfl
    (fun f fn hf hfn => by
      obtain rfl : f = 3 := Option.some.inj ((show Tryz.prog.funcNamed "detent/detentlaw32.BaselineNil" = some 3 by kernel_rfl).symm.trans hf) |>.symm
      obtain rfl : fn = Tryz.f3 := (Option.some.inj (Tryz.func3.symm.trans hfn)).symm
      exact ⟨by kernel_rfl, fun j t ht => by
        rw [Tryz.params3] at ht
        simp at ht⟩)
    (Go.Gn.goes_none goes_no rfl)
#print axioms baselineNilCard_holds
end Go.Proofs.YtaeehnoidmkfeaaGreatDoor
