/- Proved: the law ParseFirst answers true at every argument, each argument reads as it did; package-level tables of the library start as the program's text lays them (tied). -/
import Derived.Test.YtlmmbanfhjaioaaDoorOk
import Derived.Test.YtlmmbanfhjaioaaDoorFa
import Derived.Test.YtlmmbanfhjaioaaDoorFb
import Derived.Test.YtlmmbanfhjaioaaDoorFc
import Derived.Test.YtlmmbanfhjaioaaDoorLt
import Derived.Test.YtlmmbanfhjaioaaDoorRows
import Derived.Test.YtlmmbanfhjaioaaDoorTie
import Derived.Test.YtlmmbanfhjaioaaDoorCards
import Derived.Lib.SmallJoins
import Derived.DataReads
import Derived.Carry
import Derived.LaidMore
import Derived.OpenShut
import Derived.Stop.Joined
import Derived.MakeChecks
import Derived.ChangeSlices

namespace Go.Proofs.YtlmmbanfhjaioaaDoor
open Go.Ev Go.ChangeShapes Go.WideShapes Go.WideMaps Go.WideElems Go.RowKit Go.Joins 

theorem own : ownKnob Tryd.prog.godebug = none := by kernel_rfl
def laidAll : List (String × DataW Unit) := [("unicode.White_Space", Rows.laid_unicode_White_Space), ("strings.asciiSpace", Rows.laid_strings_asciiSpace)]
/-- The door's own heap meets the condition. -/
theorem door_met (os : Os) (args : Array Value) : laidMetH Tryd.prog laidAll ((World.doorLaid Tryd.prog 4000 os).forCall (fun _ _ => 0) ⟨#[], args, []⟩).memory :=
  laidMetH_of_parts3 (fuel := 12) (laidMet_of_run' 12 (by kernel_rfl) (by kernel_rfl)) (by kernel_rfl) (by kernel_rfl)
/-- What the condition says of the tables. -/
theorem tabs_met {W : World} (h : laidMetH Tryd.prog laidAll W) : TabsIn gz0 W := (Zm7 (Go.LaidTab.laid_tab (n := "strings.asciiSpace") (d := Rows.laid_strings_asciiSpace) (g := 0) (t := 92) (el := 5) (len := 256) (k := .u8) h (.tail _ (.head _)) (by kernel_rfl) (by kernel_rfl) (by kernel_rfl) (by kernel_rfl) (by kernel_rfl) (by kernel_rfl) (by kernel_rfl) (by kernel_rfl)) tabs_nil)

theorem w_init : Tryd.checked.prog.inits.idxOf? 3 = none := by kernel_rfl
theorem w_shape (os : Os) : ((World.doorLaid Tryd.prog 4000 os).forCall (fun _ _ => 0) ⟨#[], #[.slice none 0 0, .slice none 0 0], []⟩).Shaped Tryd.checked.prog := World.shaped_of_RefB (by kernel_rfl) (by kernel_rfl)
theorem w_ok (os : Os) : Input.okWideB Tryd.checked.prog ((World.doorLaid Tryd.prog 4000 os).forCall (fun _ _ => 0) ⟨#[], #[.slice none 0 0, .slice none 0 0], []⟩) 3 ⟨#[], #[.slice none 0 0, .slice none 0 0], []⟩ = true := by kernel_rfl
theorem w_pre (os : Os) {H : Type} (enc : TypeId × Value → H) : Rows.parseFirstSpec.preB enc Tryd.checked.prog Tryd.f3 [] false ((World.doorLaid Tryd.prog 4000 os).forCall (fun _ _ => 0) ⟨#[], #[.slice none 0 0, .slice none 0 0], []⟩).memory #[.slice none 0 0, .slice none 0 0] 8 = true := by kernel_rfl
theorem w_sz (os : Os) {H : Type} (enc : TypeId × Value → H) : Rows.parseFirstSpec.sizedB enc Tryd.checked.prog Tryd.f3 false ((World.doorLaid Tryd.prog 4000 os).forCall (fun _ _ => 0) ⟨#[], #[.slice none 0 0, .slice none 0 0], []⟩).memory #[.slice none 0 0, .slice none 0 0] 8 = true := by kernel_rfl
set_option maxRecDepth 100000 in
theorem parseFirst_lifted (os : Os) (started : os.Started) (H : Type) (enc : TypeId × Value → H) :
    ReturnsInHanded {} Tryd.checked os 3 .any (fun w args => (Rows.parseFirstSpec.pre enc Tryd.prog Tryd.f3 [] false w args ∧ laidMetH Tryd.prog laidAll w) ∧ sizedMet enc Tryd.prog Tryd.f3 (OpenSpec.ofChange Rows.parseFirstSpec) false w args)
      (Rows.parseFirstSpec.post enc Tryd.prog Tryd.f3 false true false false) := by
  refine returnsInHanded_of_change_and (C := Tryd.checked) (X := fun w _ => laidMetH Tryd.prog laidAll w) (fun _ _ _ hh h => h.of_heap hh) own started w_init Tryd.func3
    (ChangeSpec.witness_shaped (enc := enc) (C := Tryd.checked) (os := os) (X := fun w _ => laidMetH Tryd.prog laidAll w) false (World.doorLaid Tryd.prog 4000 os)
      #[.slice none 0 0, .slice none 0 0] 8 rfl (w_shape os) (w_ok os) (w_pre os enc) (w_sz os enc) (door_met os _)) ?_
  intro W base args ds gs before hval0 hW _ hsz hL _
  have hval : ∀ (j : Nat) t v, Tryd.f3.params[j]? = some t → args[j]? = some v → Value.okWide Tryd.prog W .any base t v := hval0
  have hW' := hW
  obtain ⟨p, q, hA0, hV, rfl, hfz, hnd⟩ := hW
  have hA : DataW.TrodAll enc Tryd.prog W 0 (fun _ => true) true Tryd.f3.params.toList args.toList ds p := hA0
  rw [Tryd.params3] at hA hval
  obtain ⟨v0, vs0, d0, ds0, p0, q0, hargs, rfl, rfl, h0, r0⟩ := trodAll_cons hA
  obtain ⟨v1, vs1, d1, ds1, p1, q1, rfl, rfl, rfl, h1, r1⟩ := trodAll_cons r0
  obtain ⟨rfl, rfl, rfl⟩ := trodAll_nil r1
  obtain rfl : args = #[v0, v1] := by cases args; simp_all
  obtain ⟨rfl, rfl⟩ := trodVars_none hV
  have k0 := h0
  have k1 := h1
  clear hA0 hval0
  obtain ⟨a0, n0, z0, rfl⟩ := okWide_slice (e := 5) (by kernel_rfl) (hval 0 22 v0 rfl rfl)
  obtain ⟨m0, t0⟩ := k0
  have u0 : DataW.trod enc Tryd.prog W 0 (fun _ => true) true m0 22 [.slice a0 n0 z0] = some (d0, p0) := t0
  obtain ⟨l0, c0⟩ := Zdw (el := 5) (by kernel_rfl) (by kernel_rfl) (by kernel_rfl) u0
  obtain ⟨a1, n1, z1, rfl⟩ := okWide_slice (e := 5) (by kernel_rfl) (hval 1 22 v1 rfl rfl)
  obtain ⟨m1, t1⟩ := k1
  have u1 : DataW.trod enc Tryd.prog W 0 (fun _ => true) true m1 22 [.slice a1 n1 z1] = some (d1, p1) := t1
  obtain ⟨l1, c1⟩ := Zdw (el := 5) (by kernel_rfl) (by kernel_rfl) (by kernel_rfl) u1
  simp only [List.append_nil] at hW'
  have hlt : ∀ x ∈ p0 ++ p1, x.block < W.heap.size := fun x hx => by simpa using hW'.lt x (by simpa using hx)
  refine (ent_law okFirst3 (H := mkH (gzT gz0)) (b := true) (ct := .need True (.ret (.bool true))) (by kernel_rfl) (ctOut_of trivial) (.cons _ _ _ _ (c0) (.cons _ _ _ _ (c1) .nil)) (gz_law (tabs_met hL))).mono fun e W' ⟨he, hg⟩ => ?_
  subst he
  have hsame : ∀ x ∈ p0 ++ p1, W.sameAt W' x := fun x hx => hg.same (hlt x hx)
  refine ⟨_, rfl, Zc0 (pa := p0 ++ p1) (pv := []) hW' (fun _ _ _ => (trodAll_cons_mk (shut_bool Tryd.underlying4 _) trodAll_mk0)) (fun sp hsp => ?_) (fun _ _ => rfl) (by simp)
    hg (ok_one (by kernel_rfl) rfl (okWide_bool_mk Tryd.underlying4 _))⟩
  have hh : ∀ x ∈ p0 ++ p1, sp x.block = true := fun x hx => hsp x (by simpa using hx)
  have j0 := Trod_stays (by kernel_rfl) (by kernel_rfl) (by decide +kernel) h0 (fun x hx => hsame x (List.mem_append_left _ (hx))) (fun x hx => hh x (List.mem_append_left _ (hx)))
  have j1 := Trod_stays (by kernel_rfl) (by kernel_rfl) (by decide +kernel) h1 (fun x hx => hsame x (List.mem_append_right _ hx)) (fun x hx => hh x (List.mem_append_right _ hx))
  have := trodAll_cons_mk j0 (trodAll_cons_mk j1 trodAll_mk0)
  simp only [List.append_nil] at this ⊢
  exact this

theorem parseFirst_closed : joinedFacts Tryd.prog 3 Tryd.f3 Rows.parseFirstSpec Rows.parseFirstRow = true := by
  unfold joinedFacts
  rw [Zmz, Zj7, Zj8, Zcw, GU, Zj5]
  kernel_rfl

theorem parseFirst_holds : Rows.ParseFirstSaid :=
  OpenClaim.holds_of_wide 3 Tryd.f3 rfl rfl rfl rfl rfl rfl rfl ⟨rfl, rfl, rfl, rfl, rfl⟩ rfl rfl rfl rfl rfl (by kernel_rfl) Tryd.func3 parseFirst_closed
    (of_decide_eq_true (by kernel_rfl)) (by unfold Func.isWrapper; first | (rw [if_pos (by decide +kernel)]; kernel_rfl) | (rw [if_neg (by decide +kernel)]; exact ⟨rfl, rfl⟩))
    (fun os started H enc _ => parseFirst_lifted os started H enc)

theorem goes_no : Tryd.prog.funcs.toList.any Func.goes = false := by kernel_rfl

/-- ████ THE STATEMENT ████ -/
theorem parseFirstCard_holds : Rows.ParseFirstCardSaid :=
  Claim7.holds_tied_plain_at .later [] [.listed, .data] true (true, "52a8d6a7cb9dfd15ab80df62f79b35904c22d327a93888d364bda34e90abe7c6") true
    parseFirst_holds (fun _ h => by cases h) (by kernel_rfl) (fun _ h => by cases h) parseFirst_row_tie rfl ⟨rfl, rfl⟩ (by kernel_rfl) rfl
    (fun f fn hf hfn => by
      obtain rfl : f = 3 := Option.some.inj ((show Tryd.prog.funcNamed "detent/detentlaw03.ParseFirst" = some 3 by kernel_rfl).symm.trans hf) |>.symm
      obtain rfl : fn = Tryd.f3 := (Option.some.inj (Tryd.func3.symm.trans hfn)).symm
      exact ⟨by kernel_rfl, fun j t ht => by
        rw [Tryd.params3] at ht
        have hm : t ∈ [22, 22] := by simpa using Array.mem_of_getElem? ht
        have hall : ([22, 22].all fun u => !Tryd.prog.wantsStandIn u) = true := by kernel_rfl
        exact (show Tryd.prog.wantsStandIn t = false by simpa using List.all_eq_true.1 hall t hm)⟩)
    (Go.Gn.goes_none goes_no rfl)
#print axioms parseFirstCard_holds
end Go.Proofs.YtlmmbanfhjaioaaDoor
