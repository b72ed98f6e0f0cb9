/- Proved: the law ConsoleLong answers true at every argument, each argument reads as it did; package-level tables of the library start as the program's text lays them (tied). -/
import Derived.Test.YtfnieibeimklcaaGreatDoorClA
import Derived.Test.YtfnieibeimklcaaGreatDoorDa
import Derived.Test.YtfnieibeimklcaaGreatDoorWa
import Derived.Test.YtfnieibeimklcaaGreatDoorDb1
import Derived.Test.YtfnieibeimklcaaGreatDoorDb2
import Derived.Test.YtfnieibeimklcaaGreatDoorDc
import Derived.Test.YtfnieibeimklcaaGreatDoorDd
import Derived.Test.YtfnieibeimklcaaGreatDoorDe
import Derived.Test.YtfnieibeimklcaaGreatDoorGb
import Derived.Test.YtfnieibeimklcaaGreatDoorLt
import Derived.Test.YtfnieibeimklcaaGreatDoorRows
import Derived.Test.YtfnieibeimklcaaGreatDoorT6
import Derived.Test.YtfnieibeimklcaaGreatDoorChecked
import Derived.Test.YtfnieibeimklcaaGreatDoorCards
import Derived.Lib.SmallJoins
import Derived.DataReads
import Derived.Carry
import Derived.LaidMore
import Derived.OpenShut
import Derived.Stop.Joined
import Derived.MakeChecks
import Derived.ChangeSlices
import Derived.Lay
namespace Go.Proofs.YtfnieibeimklcaaGreatDoor
open Go.Ev Go.ChangeShapes Go.WideShapes Go.WideMaps Go.WideElems Go.RowKit Go.Joins 

theorem own : ownKnob Tryz.prog.godebug = none := by kernel_rfl
theorem fits_of {P : Program} {w : World} {l : List (String × DataW Unit)} (h1 : (Lay.layList P w.heap.size l).map (fun y => decide (y.1.map (·.1)).Nodup) = some true) (h2 : (Lay.layList P w.heap.size l).map (fun y => y.1.all fun r => Lay.isRow w.heap.toList[r.1]? && !([] : List Nat).contains r.1) = some true) : w.layFits P l [] = true := by
  unfold World.layFits
  cases h : Lay.layList P w.heap.size l with
  | none => rw [h] at h1; cases h1
  | some y =>
    rw [h] at h1 h2
    have e1 := Option.some.inj h1
    have e2 := Option.some.inj h2
    simp only [e1, e2]
    rfl
theorem d_fits (os : Os) : (World.holding Tryz.prog os ⟨#[], #[], []⟩).layFits Tryz.prog laidAll [] = true := fits_of (d_f1 os) (d_f2 os)

/-- The tables laid by a function (one of them is pinned): the condition. -/
theorem door_met (os : Os) (args : Array Value) : laidMetH Tryz.prog laidAll ((World.laidAll Tryz.prog os laidAll).forCall (fun _ _ => 0) ⟨#[], args, []⟩).memory := by
  rw [MakeChecks.laidMetH_plain _ _ _ (by kernel_rfl)]
  exact laidMet_laidAll _ (d_fits os) (d_if os)
/-- What the condition says of the tables. -/
theorem tabs_met {W : World} (h : laidMetH Tryz.prog laidAll W) : Go.EvC.TabsIn gz0 W := (Go.EvC.tabs_cons (Go.LaidTab.laid_tab (n := "strings.asciiSpace") (d := Rows.laid_strings_asciiSpace) (g := 0) (t := 77) (el := 5) (len := 256) (k := .u8) h (.head _) (by kernel_rfl) (by kernel_rfl) (by kernel_rfl) (by kernel_rfl) (by kernel_rfl) (by kernel_rfl) (by kernel_rfl) (by kernel_rfl)) (Go.EvC.tabs_cons (Go.LaidTab.laid_tab (n := "math/bits.deBruijn64tab") (d := Rows.laid_math_bits_deBruijn64tab) (g := 7) (t := 788) (el := 5) (len := 64) (k := .u8) h (.tail _ (.tail _ (.tail _ (.tail _ (.head _))))) (by kernel_rfl) (by kernel_rfl) (by kernel_rfl) (by kernel_rfl) (by kernel_rfl) (by kernel_rfl) (by kernel_rfl) (by kernel_rfl)) Go.EvC.tabs_nil))

set_option maxRecDepth 100000 in
theorem consoleLong_lifted (os : Os) (started : os.Started) (H : Type) (enc : TypeId × Value → H) :
    ReturnsInHanded {} Tryz.checked os 3 .any (fun w args => (Rows.consoleLongSpec.pre enc Tryz.prog Tryz.f3 [] false w args ∧ laidMetH Tryz.prog laidAll w) ∧ sizedMet enc Tryz.prog Tryz.f3 (OpenSpec.ofChange Rows.consoleLongSpec) false w args)
      (Rows.consoleLongSpec.post enc Tryz.prog Tryz.f3 false true false false) := by
  refine returnsInHanded_of_change_and (C := Tryz.checked) (X := fun w _ => laidMetH Tryz.prog laidAll w) (fun _ _ _ hh h => h.of_heap hh) own started w_init Tryz.func3
    (ChangeSpec.witness_shaped (enc := enc) (C := Tryz.checked) (os := os) (X := fun w _ => laidMetH Tryz.prog laidAll w) false (World.laidAll Tryz.prog os laidAll)
      #[.int .i64 0] 8 (World.laidAll_os _ _ _) (w_shape os) (w_ok os) (w_pre os enc) (w_sz os enc) (door_met os _)) ?_
  intro W base args ds gs before hval0 hW _ hsz hL _
  have hval : ∀ (j : Nat) t v, Tryz.f3.params[j]? = some t → args[j]? = some v → Value.okWide Tryz.prog W .any base t v := hval0
  have hW' := hW
  obtain ⟨p, q, hA0, hV, rfl, hfz, hnd⟩ := hW
  have hA : DataW.TrodAll enc Tryz.prog W 0 (fun _ => true) true Tryz.f3.params.toList args.toList ds p := hA0
  rw [Tryz.params3] at hA hval
  obtain ⟨v0, vs0, d0, ds0, p0, q0, hargs, rfl, rfl, h0, r0⟩ := trodAll_cons hA
  obtain ⟨rfl, rfl, rfl⟩ := trodAll_nil r0
  obtain rfl : args = #[v0] := by cases args; simp_all
  obtain ⟨rfl, rfl⟩ := trodVars_none hV
  have k0 := h0
  clear hA0 hval0
  obtain ⟨x0, rfl⟩ := okWide_int (k := .i64) (by kernel_rfl) (hval 0 3 v0 rfl rfl)
  simp only [List.append_nil] at hW'
  have hlt : ∀ x ∈ p0, x.block < W.heap.size := fun x hx => by simpa using hW'.lt x (by simpa using hx)
  refine (ent_law (okLaw okK) (H := mkH (gzT gz0)) (b := true) (ct := .need True (.ret (.bool true))) (by kernel_rfl) (ctOut_of trivial) (.cons _ _ _ _ (.int .i64 x0) .nil) (gz_law (tabs_met hL))).mono fun e W' ⟨he, hg⟩ => ?_
  subst he
  have hsame : ∀ x ∈ p0, W.sameAt W' x := fun x hx => hg.same (hlt x hx)
  refine ⟨_, rfl, post_of_below (pa := p0) (pv := []) hW' (fun _ _ _ => (trodAll_cons_mk (shut_bool Tryz.underlying4 _) trodAll_mk0)) (fun sp hsp => ?_) (fun _ _ => rfl) (by simp)
    hg (ok_one (by kernel_rfl) rfl (okWide_bool_mk Tryz.underlying4 _))⟩
  have hh : ∀ x ∈ p0, sp x.block = true := fun x hx => hsp x (by simpa using hx)
  have j0 := Trod_stays fact_laid (by kernel_rfl) (by decide +kernel) h0 (fun x hx => hsame x (hx)) (fun x hx => hh x (hx))
  have := trodAll_cons_mk j0 trodAll_mk0
  rw [List.append_nil] at this
  exact this

theorem consoleLong_holds : Rows.ConsoleLongSaid :=
  OpenClaim.holds_of_wide 3 Tryz.f3 rfl rfl rfl rfl rfl rfl rfl ⟨rfl, rfl, rfl, rfl, rfl⟩ rfl rfl rfl rfl rfl (by kernel_rfl) Tryz.func3 closed
    (of_decide_eq_true (by kernel_rfl)) (by unfold Func.isWrapper; first | (rw [if_pos (by decide +kernel)]; kernel_rfl) | (rw [if_neg (by decide +kernel)]; exact ⟨rfl, rfl⟩))
    (fun os started H enc _ => consoleLong_lifted os started H enc)

theorem goes_no : Tryz.prog.funcs.toList.any Func.goes = false := by kernel_rfl

/-- ████ THE STATEMENT ████ -/
theorem consoleLongCard_holds : Rows.ConsoleLongCardSaid :=
  Claim7.holds_tied_plain_at .later [] [.data, .listed, .data, .data, .data, .sentinel, .sentinel, .pinned, .data] true (true, "54b717db56769a5aec2be3a059e52adebeebbfaf76c3ea40ea3f3c5737169062") true
    consoleLong_holds (fun _ h => by cases h) (by kernel_rfl) (fun _ h => by cases h) consoleLong_row_tie rfl ⟨rfl, rfl⟩ (by kernel_rfl) rfl
    (fun f fn hf hfn => by
      obtain rfl : f = 3 := Option.some.inj ((show Tryz.prog.funcNamed "detent/detentlaw27.ConsoleLong" = some 3 by kernel_rfl).symm.trans hf) |>.symm
      obtain rfl : fn = Tryz.f3 := (Option.some.inj (Tryz.func3.symm.trans hfn)).symm
      exact ⟨by kernel_rfl, fun j t ht => by
        rw [Tryz.params3] at ht
        have hm : t ∈ [3] := by simpa using Array.mem_of_getElem? ht
        have hall : ([3].all fun u => !Tryz.prog.wantsStandIn u) = true := by kernel_rfl
        exact (show Tryz.prog.wantsStandIn t = false by simpa using List.all_eq_true.1 hall t hm)⟩)
    (Go.Gn.goes_none goes_no rfl)
#print axioms consoleLongCard_holds
end Go.Proofs.YtfnieibeimklcaaGreatDoor
