/- Proved: the law ConsoleNil answers true (a closed sentence); package-level tables of the library start as the program's text lays them (tied). -/
import Derived.Test.YtdcdfpdefddfjaaGreatDoorKn
import Derived.Test.YtdcdfpdefddfjaaGreatDoorDa
import Derived.Test.YtdcdfpdefddfjaaGreatDoorDb1
import Derived.Test.YtdcdfpdefddfjaaGreatDoorDb2
import Derived.Test.YtdcdfpdefddfjaaGreatDoorDc
import Derived.Test.YtdcdfpdefddfjaaGreatDoorDd
import Derived.Test.YtdcdfpdefddfjaaGreatDoorDe
import Derived.Test.YtdcdfpdefddfjaaGreatDoorGb
import Derived.Test.YtdcdfpdefddfjaaGreatDoorLt
import Derived.Test.YtdcdfpdefddfjaaGreatDoorRows
import Derived.Test.YtdcdfpdefddfjaaGreatDoorT6
import Derived.Test.YtdcdfpdefddfjaaGreatDoorCards
import Derived.Test.YtdcdfpdefddfjaaGreatDoorChecked
import Derived.WalkKit
import Derived.ProofKit
import Derived.LaidMore
import Derived.OpenShut
import Derived.Stop.Joined
import Derived.MakeChecks
import Derived.Lay
namespace Go.Proofs.YtdcdfpdefddfjaaGreatDoor
open Go.EvC Go.ChangeShapes Go.WideShapes Go.ChangeAt Go.WideMaps Go.WideElems Go.RowKit

theorem own : ownKnob Tryz.prog.godebug = none := by kernel_rfl
theorem fits_of {P : Program} {w : World} {l : List (String × DataW Unit)} (h1 : (Lay.layList P w.heap.size l).map (fun y => decide (y.1.map (·.1)).Nodup) = some true) (h2 : (Lay.layList P w.heap.size l).map (fun y => y.1.all fun r => Lay.isRow w.heap.toList[r.1]? && !([] : List Nat).contains r.1) = some true) : w.layFits P l [] = true := by
  unfold World.layFits
  cases h : Lay.layList P w.heap.size l with
  | none => rw [h] at h1; cases h1
  | some y =>
    rw [h] at h1 h2
    have e1 := Option.some.inj h1
    have e2 := Option.some.inj h2
    simp only [e1, e2]
    rfl
theorem d_fits (os : Os) : (World.holding Tryz.prog os ⟨#[], #[], []⟩).layFits Tryz.prog laidAll [] = true := fits_of (d_f1 os) (d_f2 os)

/-- The tables laid by a function (one of them is pinned): the condition. -/
theorem door_met (os : Os) (args : Array Value) : laidMetH Tryz.prog laidAll ((World.laidAll Tryz.prog os laidAll).forCall (fun _ _ => 0) ⟨#[], args, []⟩).memory := by
  rw [MakeChecks.laidMetH_plain _ _ _ (by kernel_rfl)]
  exact laidMet_laidAll _ (d_fits os) (d_if os)
/-- What the condition says of the tables. -/
theorem tabs_met {W : World} (h : laidMetH Tryz.prog laidAll W) : Go.EvC.TabsIn Go.Proofs.YtdcdfpdefddfjaaGreatDoorK.gz W := (Go.EvC.tabs_cons (Go.LaidTab.laid_tab (n := "strings.asciiSpace") (d := Rows.laid_strings_asciiSpace) (g := 0) (t := 75) (el := 5) (len := 256) (k := .u8) h (.head _) (by kernel_rfl) (by kernel_rfl) (by kernel_rfl) (by kernel_rfl) (by kernel_rfl) (by kernel_rfl) (by kernel_rfl) (by kernel_rfl)) (Go.EvC.tabs_cons (Go.LaidTab.laid_tab (n := "math/bits.deBruijn64tab") (d := Rows.laid_math_bits_deBruijn64tab) (g := 7) (t := 788) (el := 5) (len := 64) (k := .u8) h (.tail _ (.tail _ (.tail _ (.tail _ (.head _))))) (by kernel_rfl) (by kernel_rfl) (by kernel_rfl) (by kernel_rfl) (by kernel_rfl) (by kernel_rfl) (by kernel_rfl) (by kernel_rfl)) Go.EvC.tabs_nil))

theorem w_init : Tryz.checked.prog.inits.idxOf? 3 = none := by kernel_rfl
theorem w_shape (os : Os) : ((World.laidAll Tryz.prog os laidAll).forCall (fun _ _ => 0) ⟨#[], #[], []⟩).Shaped Tryz.checked.prog := World.shaped_of_ZipB (P := Tryz.prog) (w_zip os) (w_beg os)
theorem w_ok (os : Os) : Input.okWideB Tryz.checked.prog ((World.laidAll Tryz.prog os laidAll).forCall (fun _ _ => 0) ⟨#[], #[], []⟩) 3 ⟨#[], #[], []⟩ = true := by kernel_rfl
theorem w_pre (os : Os) {H : Type} (enc : TypeId × Value → H) : Rows.consoleNilSpec.preB enc Tryz.checked.prog Tryz.f3 [] false ((World.laidAll Tryz.prog os laidAll).forCall (fun _ _ => 0) ⟨#[], #[], []⟩).memory #[] 8 = true := by kernel_rfl
theorem w_sz (os : Os) {H : Type} (enc : TypeId × Value → H) : Rows.consoleNilSpec.sizedB enc Tryz.checked.prog Tryz.f3 false ((World.laidAll Tryz.prog os laidAll).forCall (fun _ _ => 0) ⟨#[], #[], []⟩).memory #[] 8 = true := by kernel_rfl
set_option maxRecDepth 100000 in
theorem lifted (os : Os) (started : os.Started) (H : Type) (enc : TypeId × Value → H) :
    ReturnsInHanded {} Tryz.checked os 3 .any (fun w args => (Rows.consoleNilSpec.pre enc Tryz.prog Tryz.f3 [] false w args ∧ laidMetH Tryz.prog laidAll w) ∧ sizedMet enc Tryz.prog Tryz.f3 (OpenSpec.ofChange Rows.consoleNilSpec) false w args)
      (Rows.consoleNilSpec.post enc Tryz.prog Tryz.f3 false true false false) := by
  refine returnsInHanded_of_change_and (C := Tryz.checked) (X := fun w _ => laidMetH Tryz.prog laidAll w) (fun _ _ _ hh h => h.of_heap hh) own started w_init Tryz.func3
    (ChangeSpec.witness_shaped (enc := enc) (C := Tryz.checked) (os := os) (X := fun w _ => laidMetH Tryz.prog laidAll w) false (World.laidAll Tryz.prog os laidAll)
      #[] 8 (World.laidAll_os _ _ _) (w_shape os) (w_ok os) (w_pre os enc) (w_sz os enc) (door_met os _)) ?_
  intro W base args ds gs before hval0 hW _ hsz hL _
  have hW' := hW
  obtain ⟨p, q, hA0, hV, rfl, hfz, hnd⟩ := hW
  have hA : DataW.TrodAll enc Tryz.prog W 0 (fun _ => true) true Tryz.f3.params.toList args.toList ds p := hA0
  rw [Tryz.params3] at hA
  obtain ⟨rfl, rfl, rfl⟩ := trodAll_none hA
  obtain ⟨rfl, rfl⟩ := trodVars_none hV
  clear hA0 hval0
  simp only [List.append_nil] at hW'
  refine (Go.Proofs.YtdcdfpdefddfjaaGreatDoorK.known_any W (tabs_met hL)).mono fun e W' ⟨he, hg⟩ => ?_
  subst he
  exact ⟨_, rfl, post_of_below (pa := []) (pv := []) hW' (fun _ _ _ => (trodAll_cons_mk (shut_bool Tryz.underlying4 _) trodAll_mk0)) (fun sp _ => rfl) (fun _ _ => rfl) rfl
    hg (ok_one (by kernel_rfl) rfl (okWide_bool_mk Tryz.underlying4 _))⟩

theorem consoleNil_holds : Rows.ConsoleNilSaid :=
  OpenClaim.holds_of_wide 3 Tryz.f3 rfl rfl rfl rfl rfl rfl rfl ⟨rfl, rfl, rfl, rfl, rfl⟩ rfl rfl rfl rfl rfl (by kernel_rfl) Tryz.func3 closed
    (of_decide_eq_true (by kernel_rfl)) (by unfold Func.isWrapper; first | (rw [if_pos (by decide +kernel)]; kernel_rfl) | (rw [if_neg (by decide +kernel)]; exact ⟨rfl, rfl⟩))
    (fun os started H enc _ => lifted os started H enc)

theorem goes_no : Tryz.prog.funcs.toList.any Func.goes = false := by kernel_rfl

/-- ████ THE STATEMENT ████ -/
theorem consoleNilCard_holds : Rows.ConsoleNilCardSaid :=
  Claim7.holds_tied_plain_at .later [] [.data, .listed, .data, .data, .data, .sentinel, .sentinel, .pinned, .data] true (true, "36913702f7b684d6479cc5b1403f0ab4e7db680e019d06e86f564ccfbf257670") true
    consoleNil_holds (fun _ h => by cases h) (by kernel_rfl) (fun _ h => by cases h) consoleNil_row_tie rfl ⟨rfl, rfl⟩ (by kernel_rfl) rfl
    (fun f fn hf hfn => by
      obtain rfl : f = 3 := Option.some.inj ((show Tryz.prog.funcNamed "detent/detentlaw27.ConsoleNil" = some 3 by kernel_rfl).symm.trans hf) |>.symm
      obtain rfl : fn = Tryz.f3 := (Option.some.inj (Tryz.func3.symm.trans hfn)).symm
      exact ⟨by kernel_rfl, fun j t ht => by
        rw [Tryz.params3] at ht
        simp at ht⟩)
    (Go.Gn.goes_none goes_no rfl)
#print axioms consoleNilCard_holds
end Go.Proofs.YtdcdfpdefddfjaaGreatDoor
