/- Proved: the law ParseTexts answers true at every argument, each argument reads as it did; package-level tables of the library start as the program's text lays them (tied). -/
import Derived.Test.YtlmmbanfhjaioaaGreatDoorOk
import Derived.Test.YtlmmbanfhjaioaaGreatDoorFa
import Derived.Test.YtlmmbanfhjaioaaGreatDoorFb
import Derived.Test.YtlmmbanfhjaioaaGreatDoorFc
import Derived.Test.YtlmmbanfhjaioaaGreatDoorLt
import Derived.Test.YtlmmbanfhjaioaaGreatDoorRows
import Derived.Test.YtlmmbanfhjaioaaGreatDoorTie
import Derived.Test.YtlmmbanfhjaioaaGreatDoorCards
import Derived.Lib.SmallJoins
import Derived.DataReads
import Derived.Carry
import Derived.LaidMore
import Derived.OpenShut
import Derived.Stop.Joined
import Derived.MakeChecks
import Derived.ChangeSlices

namespace Go.Proofs.YtlmmbanfhjaioaaGreatDoor
open Go.Ev Go.ChangeShapes Go.WideShapes Go.WideMaps Go.WideElems Go.RowKit Go.Joins 

theorem own : ownKnob Tryz.prog.godebug = none := by kernel_rfl
def WU : List (String × DataW Unit) := [("unicode.White_Space", Rows.laid_unicode_White_Space), ("strings.asciiSpace", Rows.laid_strings_asciiSpace)]
/-- The door's own heap meets the condition. -/
theorem Aeo (os : Os) (args : Array Value) : laidMetH Tryz.prog WU ((World.doorLaid Tryz.prog 4000 os).forCall (fun _ _ => 0) ⟨#[], args, []⟩).memory :=
  laidMetH_of_parts3 (fuel := 12) (laidMet_of_run' 12 (by kernel_rfl) (by kernel_rfl)) (by kernel_rfl) (by kernel_rfl)
/-- What the condition says of the tables. -/
theorem Aos {W : World} (h : laidMetH Tryz.prog WU W) : VU xv W := (Aor (Go.LaidTab.AgS (n := "strings.asciiSpace") (d := Rows.laid_strings_asciiSpace) (g := 0) (t := 112) (el := 5) (len := 256) (k := .u8) h (.tail _ (.head _)) (by kernel_rfl) (by kernel_rfl) (by kernel_rfl) (by kernel_rfl) (by kernel_rfl) (by kernel_rfl) (by kernel_rfl) (by kernel_rfl)) Aot)

theorem Ao8 : Tryz.checked.prog.inits.idxOf? 3 = none := by kernel_rfl
theorem Apb (os : Os) : ((World.doorLaid Tryz.prog 4000 os).forCall (fun _ _ => 0) ⟨#[], #[.slice none 0 0], []⟩).Shaped Tryz.checked.prog := World.shaped_of_RefB (by kernel_rfl) (by kernel_rfl)
theorem Ao9 (os : Os) : Input.okWideB Tryz.checked.prog ((World.doorLaid Tryz.prog 4000 os).forCall (fun _ _ => 0) ⟨#[], #[.slice none 0 0], []⟩) 3 ⟨#[], #[.slice none 0 0], []⟩ = true := by kernel_rfl
theorem Apa (os : Os) {H : Type} (enc : TypeId × Value → H) : Rows.parseTextsSpec.preB enc Tryz.checked.prog Tryz.f3 [] false ((World.doorLaid Tryz.prog 4000 os).forCall (fun _ _ => 0) ⟨#[], #[.slice none 0 0], []⟩).memory #[.slice none 0 0] 8 = true := by kernel_rfl
theorem Apc (os : Os) {H : Type} (enc : TypeId × Value → H) : Rows.parseTextsSpec.sizedB enc Tryz.checked.prog Tryz.f3 false ((World.doorLaid Tryz.prog 4000 os).forCall (fun _ _ => 0) ⟨#[], #[.slice none 0 0], []⟩).memory #[.slice none 0 0] 8 = true := by kernel_rfl
set_option maxRecDepth 100000 in
theorem parseTexts_lifted (os : Os) (B : os.Started) (H : Type) (enc : TypeId × Value → H) :
    ReturnsInHanded {} Tryz.checked os 3 .any (fun w args => (Rows.parseTextsSpec.pre enc Tryz.prog Tryz.f3 [] false w args ∧ laidMetH Tryz.prog WU w) ∧ sizedMet enc Tryz.prog Tryz.f3 (OpenSpec.ofChange Rows.parseTextsSpec) false w args)
      (Rows.parseTextsSpec.post enc Tryz.prog Tryz.f3 false true false false) := by
  refine returnsInHanded_of_change_and (C := Tryz.checked) (X := fun w _ => laidMetH Tryz.prog WU w) (fun _ _ _ S h => h.of_heap S) own B Ao8 Tryz.func3
    (ChangeSpec.witness_shaped (enc := enc) (C := Tryz.checked) (os := os) (X := fun w _ => laidMetH Tryz.prog WU w) false (World.doorLaid Tryz.prog 4000 os)
      #[.slice none 0 0] 8 rfl (Apb os) (Ao9 os) (Apa os enc) (Apc os enc) (Aeo os _)) ?_
  intro W base args ds gs R y hW _ ab hL _
  have J : ∀ (j : Nat) t v, Tryz.f3.params[j]? = some t → args[j]? = some v → Value.okWide Tryz.prog W .any base t v := y
  have K := hW
  obtain ⟨p, q, O, hV, rfl, ae, ad⟩ := hW
  have hA : DataW.TrodAll enc Tryz.prog W 0 (fun _ => true) true Tryz.f3.params.toList args.toList ds p := O
  rw [Tryz.params3] at hA J
  obtain ⟨Z, aa, d0, af, M, q0, Y, rfl, rfl, h0, r0⟩ := trodAll_cons hA
  obtain ⟨rfl, rfl, rfl⟩ := trodAll_nil r0
  obtain rfl : args = #[Z] := by cases args; simp_all
  obtain ⟨rfl, rfl⟩ := trodVars_none hV
  have k0 := h0
  clear O y
  obtain ⟨a0, n0, z0, rfl⟩ := okWide_slice (e := 5) (by kernel_rfl) (J 0 22 Z rfl rfl)
  obtain ⟨m0, t0⟩ := k0
  have u0 : DataW.trod enc Tryz.prog W 0 (fun _ => true) true m0 22 [.slice a0 n0 z0] = some (d0, M) := t0
  obtain ⟨l0, c0⟩ := AdO (el := 5) (by kernel_rfl) (by kernel_rfl) (by kernel_rfl) u0
  simp only [List.append_nil] at K
  have V : ∀ x ∈ M, x.block < W.heap.size := fun x E => by simpa using K.lt x (by simpa using E)
  refine (Aex AiQ (H := AU (xw xv)) (b := true) (ct := .A6 True (.ret (.bool true))) (by kernel_rfl) (Aem trivial) (.cons _ _ _ _ (c0) .nil) (AfQ (Aos hL))).mono fun e W' ⟨he, hg⟩ => ?_
  subst he
  have L : ∀ x ∈ M, W.sameAt W' x := fun x E => hg.same (V x E)
  refine ⟨_, rfl, Ajs (pa := M) (pv := []) K (fun _ _ _ => (trodAll_cons_mk (shut_bool Tryz.underlying4 _) trodAll_mk0)) (fun sp U => ?_) (fun _ _ => rfl) (by simp)
    hg (ok_one (by kernel_rfl) rfl (okWide_bool_mk Tryz.underlying4 _))⟩
  have S : ∀ x ∈ M, sp x.block = true := fun x E => U x (by simpa using E)
  have j0 := Trod_stays (by kernel_rfl) (by kernel_rfl) (by decide +kernel) h0 (fun x E => L x (E)) (fun x E => S x (E))
  have := trodAll_cons_mk j0 trodAll_mk0
  rw [List.append_nil] at this
  exact this

theorem parseTexts_closed : joinedFacts Tryz.prog 3 Tryz.f3 Rows.parseTextsSpec Rows.parseTextsRow = true := by
  unfold joinedFacts
  rw [Afg, Afk, Afi, Afj, Afl, Afh]
  kernel_rfl

theorem parseTexts_holds : Rows.ParseTextsSaid :=
  OpenClaim.holds_of_wide 3 Tryz.f3 rfl rfl rfl rfl rfl rfl rfl ⟨rfl, rfl, rfl, rfl, rfl⟩ rfl rfl rfl rfl rfl (by kernel_rfl) Tryz.func3 parseTexts_closed
    (of_decide_eq_true (by kernel_rfl)) (by unfold Func.isWrapper; first | (rw [if_pos (by decide +kernel)]; kernel_rfl) | (rw [if_neg (by decide +kernel)]; exact ⟨rfl, rfl⟩))
    (fun os q H enc _ => parseTexts_lifted os q H enc)

theorem AfM : Tryz.prog.funcs.toList.any Func.goes = false := by kernel_rfl

/-- ████ THE STATEMENT ████ -/
theorem parseTextsCard_holds : Rows.ParseTextsCardSaid :=
  Claim7.holds_tied_plain_at .later [] [.listed, .data] true (true, "0b768dc3611f12d89596021a221c76ad462991bf3491163704583eb312dfc144") true
    parseTexts_holds (fun _ h => by cases h) (by kernel_rfl) (fun _ h => by cases h) parseTexts_row_tie rfl ⟨rfl, rfl⟩ (by kernel_rfl) rfl
    (fun f fn hf hfn => by
      obtain rfl : f = 3 := Option.some.inj ((show Tryz.prog.funcNamed "detent/detentlaw03.ParseTexts" = some 3 by kernel_rfl).symm.trans hf) |>.symm
      obtain rfl : fn = Tryz.f3 := (Option.some.inj (Tryz.func3.symm.trans hfn)).symm
      exact ⟨by kernel_rfl, fun j t ht => by
        rw [Tryz.params3] at ht
        have hm : t ∈ [22] := by simpa using Array.mem_of_getElem? ht
        have hall : ([22].all fun u => !Tryz.prog.wantsStandIn u) = true := by kernel_rfl
        exact (show Tryz.prog.wantsStandIn t = false by simpa using List.all_eq_true.1 hall t hm)⟩)
    (Go.Gn.AfN AfM rfl)
#print axioms parseTextsCard_holds
end Go.Proofs.YtlmmbanfhjaioaaGreatDoor
