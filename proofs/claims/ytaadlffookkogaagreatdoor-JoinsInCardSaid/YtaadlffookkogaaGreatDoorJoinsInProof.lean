/- Proved: the law JoinsIn answers true at every argument, each argument reads as it did; package-level tables of the library start as the program's text lays them (tied). -/
import Derived.Test.YtaadlffookkogaaGreatDoorOk
import Derived.Test.YtaadlffookkogaaGreatDoorFa
import Derived.Test.YtaadlffookkogaaGreatDoorFb
import Derived.Test.YtaadlffookkogaaGreatDoorFc
import Derived.Test.YtaadlffookkogaaGreatDoorLt
import Derived.Test.YtaadlffookkogaaGreatDoorRows
import Derived.Test.YtaadlffookkogaaGreatDoorTie
import Derived.Test.YtaadlffookkogaaGreatDoorCards
import Derived.Lib.SmallJoins
import Derived.DataReads
import Derived.Carry
import Derived.LaidMore
import Derived.OpenShut
import Derived.Stop.Joined
import Derived.MakeChecks
import Derived.ChangeSlices
namespace Go.Proofs.YtaadlffookkogaaGreatDoor
open Go.Ev Go.ChangeShapes Go.WideShapes Go.WideMaps Go.WideElems Go.RowKit Go.Joins 

theorem own : ownKnob Tryz.prog.godebug = none := by kernel_rfl
def laidAll : List (String × DataW Unit) := [("math/bits.deBruijn64tab", Rows.laid_math_bits_deBruijn64tab)]
/-- The door's own heap meets the condition. -/
theorem door_met (os : Os) (args : Array Value) : laidMetH Tryz.prog laidAll ((World.doorLaid Tryz.prog 4000 os).forCall (fun _ _ => 0) ⟨#[], args, []⟩).memory :=
  laidMetH_of_parts3 (fuel := 12) (laidMet_of_run' 12 (by kernel_rfl) (by kernel_rfl)) (by kernel_rfl) (by kernel_rfl)
/-- What the condition says of the tables. -/
theorem tabs_met {W : World} (h : laidMetH Tryz.prog laidAll W) : Go.EvC.TabsIn gz0 W := (Go.EvC.tabs_cons (Go.LaidTab.laid_tab (n := "math/bits.deBruijn64tab") (d := Rows.laid_math_bits_deBruijn64tab) (g := 0) (t := 318) (el := 5) (len := 64) (k := .u8) h (.head _) (by kernel_rfl) (by kernel_rfl) (by kernel_rfl) (by kernel_rfl) (by kernel_rfl) (by kernel_rfl) (by kernel_rfl) (by kernel_rfl)) Go.EvC.tabs_nil)

set_option maxRecDepth 100000 in
theorem joinsIn_lifted (os : Os) (started : os.Started) (H : Type) (enc : TypeId × Value → H) :
    ReturnsInHanded {} Tryz.checked os 3 .any (fun w args => (Rows.joinsInSpec.pre enc Tryz.prog Tryz.f3 [] false w args ∧ laidMetH Tryz.prog laidAll w) ∧ sizedMet enc Tryz.prog Tryz.f3 (OpenSpec.ofChange Rows.joinsInSpec) false w args)
      (Rows.joinsInSpec.post enc Tryz.prog Tryz.f3 false true false false) := by
  refine returnsInHanded_of_change_and (C := Tryz.checked) (X := fun w _ => laidMetH Tryz.prog laidAll w) (fun _ _ _ hh h => h.of_heap hh) own started (by kernel_rfl) Tryz.func3
    (ChangeSpec.witness_shaped (enc := enc) (C := Tryz.checked) (os := os) (X := fun w _ => laidMetH Tryz.prog laidAll w) false (World.doorLaid Tryz.prog 4000 os)
      #[.slice none 0 0, .slice none 0 0] 8 rfl (World.shaped_of_RefB (by kernel_rfl) (by kernel_rfl)) (by kernel_rfl) (by kernel_rfl) (by kernel_rfl) (door_met os _)) ?_
  intro W base args ds gs before hval0 hW _ hsz hL _
  have hval : ∀ (j : Nat) t v, Tryz.f3.params[j]? = some t → args[j]? = some v → Value.okWide Tryz.prog W .any base t v := hval0
  have hW' := hW
  obtain ⟨p, q, hA0, hV, rfl, hfz, hnd⟩ := hW
  have hA : DataW.TrodAll enc Tryz.prog W 0 (fun _ => true) true Tryz.f3.params.toList args.toList ds p := hA0
  rw [Tryz.params3] at hA hval
  obtain ⟨v0, vs0, d0, ds0, p0, q0, hargs, rfl, rfl, h0, r0⟩ := trodAll_cons hA
  obtain ⟨v1, vs1, d1, ds1, p1, q1, rfl, rfl, rfl, h1, r1⟩ := trodAll_cons r0
  obtain ⟨rfl, rfl, rfl⟩ := trodAll_nil r1
  obtain rfl : args = #[v0, v1] := by cases args; simp_all
  obtain ⟨rfl, rfl⟩ := trodVars_none hV
  have k0 := h0
  have k1 := h1
  clear hA0 hval0
  obtain ⟨a0, n0, z0, rfl⟩ := okWide_slice (e := 23) (by kernel_rfl) (hval 0 22 v0 rfl rfl)
  obtain ⟨m0, t0⟩ := k0
  have u0 : DataW.trod enc Tryz.prog W 0 (fun _ => true) true m0 22 [.slice a0 n0 z0] = some (d0, p0) := t0
  obtain ⟨l0, c0⟩ := intss_arg (k := .i64) (e := 23) (f := 3) (by kernel_rfl) (by kernel_rfl) (by kernel_rfl) (by kernel_rfl) (by kernel_rfl) u0
  obtain ⟨a1, n1, z1, rfl⟩ := okWide_slice (e := 3) (by kernel_rfl) (hval 1 23 v1 rfl rfl)
  obtain ⟨m1, t1⟩ := k1
  have u1 : DataW.trod enc Tryz.prog W 0 (fun _ => true) true m1 23 [.slice a1 n1 z1] = some (d1, p1) := t1
  obtain ⟨l1, c1⟩ := ints_arg (k := .i64) (e := 3) (by kernel_rfl) (by kernel_rfl) (by kernel_rfl) u1
  simp only [List.append_nil] at hW'
  have hlt : ∀ x ∈ p0 ++ p1, x.block < W.heap.size := fun x hx => by simpa using hW'.lt x (by simpa using hx)
  refine (ent_law (okLaw okK) (H := mkH (gzT gz0)) (b := true) (ct := .need (∃ (C : List (List Int)) (S : List Int), l0.length = C.length ∧ (fun i => intsRow .i64 (l0.getD i [])) = rII C ∧ l1.length = S.length ∧ (fun i => intRow .i64 (l1.getD i 0)) = rI S) (.ret (.bool true))) (by kernel_rfl) (ctOut_of ⟨l0, l1, rfl, rfl, rfl, rfl⟩) (.cons _ _ _ _ (c0) (.cons _ _ _ _ (c1) .nil)) (gz_law (tabs_met hL))).mono fun e W' ⟨he, hg⟩ => ?_
  subst he
  have hsame : ∀ x ∈ p0 ++ p1, W.sameAt W' x := fun x hx => hg.same (hlt x hx)
  refine ⟨_, rfl, post_of_below (pa := p0 ++ p1) (pv := []) hW' (fun _ _ _ => (trodAll_cons_mk (shut_bool Tryz.underlying4 _) trodAll_mk0)) (fun sp hsp => ?_) (fun _ _ => rfl) (by simp)
    hg (ok_one (by kernel_rfl) rfl (okWide_bool_mk Tryz.underlying4 _))⟩
  have hh : ∀ x ∈ p0 ++ p1, sp x.block = true := fun x hx => hsp x (by simpa using hx)
  have j0 := Trod_stays (by kernel_rfl) (by kernel_rfl) (by decide +kernel) h0 (fun x hx => hsame x (List.mem_append_left _ (hx))) (fun x hx => hh x (List.mem_append_left _ (hx)))
  have j1 := Trod_stays (by kernel_rfl) (by kernel_rfl) (by decide +kernel) h1 (fun x hx => hsame x (List.mem_append_right _ hx)) (fun x hx => hh x (List.mem_append_right _ hx))
  have := trodAll_cons_mk j0 (trodAll_cons_mk j1 trodAll_mk0)
  simp only [List.append_nil] at this ⊢
  exact this

theorem joinsIn_closed : joinedFacts Tryz.prog 3 Tryz.f3 Rows.joinsInSpec Rows.joinsInRow = true := by
  unfold joinedFacts
  rw [fact_laid, fact_rowed, fact_place, fact_recurses, fact_unfollowed, fact_named]
  kernel_rfl

theorem joinsIn_holds : Rows.JoinsInSaid :=
  OpenClaim.holds_of_wide 3 Tryz.f3 rfl rfl rfl rfl rfl rfl rfl ⟨rfl, rfl, rfl, rfl, rfl⟩ rfl rfl rfl rfl rfl (by kernel_rfl) Tryz.func3 joinsIn_closed
    (of_decide_eq_true (by kernel_rfl)) (by unfold Func.isWrapper; first | (rw [if_pos (by decide +kernel)]; kernel_rfl) | (rw [if_neg (by decide +kernel)]; exact ⟨rfl, rfl⟩))
    (fun os started H enc _ => joinsIn_lifted os started H enc)

/-- ████ THE STATEMENT ████ -/
theorem joinsInCard_holds : Rows.JoinsInCardSaid :=
  Claim7.holds_tied_plain_at .later [] [.data] true (true, "78d25212b890dbc2d542edb4f151829bbddd515c1be791ab772c0aa107c85a94") false
    joinsIn_holds (fun _ h => by cases h) (by kernel_rfl) (fun _ h => by cases h) joinsIn_row_tie rfl ⟨rfl, rfl⟩ (by kernel_rfl) rfl
    (fun f fn hf hfn => by
      obtain rfl : f = 3 := Option.some.inj ((show Tryz.prog.funcNamed "detent/detentlaw23.JoinsIn" = some 3 by kernel_rfl).symm.trans hf) |>.symm
      obtain rfl : fn = Tryz.f3 := (Option.some.inj (Tryz.func3.symm.trans hfn)).symm
      exact ⟨by kernel_rfl, fun j t ht => by
        rw [Tryz.params3] at ht
        have hm : t ∈ [22, 23] := by simpa using Array.mem_of_getElem? ht
        have hall : ([22, 23].all fun u => !Tryz.prog.wantsStandIn u) = true := by kernel_rfl
        exact (show Tryz.prog.wantsStandIn t = false by simpa using List.all_eq_true.1 hall t hm)⟩)
    (by kernel_rfl)
#print axioms joinsInCard_holds
end Go.Proofs.YtaadlffookkogaaGreatDoor
