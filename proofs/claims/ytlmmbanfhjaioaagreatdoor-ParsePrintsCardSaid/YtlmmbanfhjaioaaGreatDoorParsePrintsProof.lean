/- Proved: the law ParsePrints answers true at every argument, each argument reads as it did; package-level tables of the library start as the program's text lays them (tied). -/
import Derived.Test.YtlmmbanfhjaioaaGreatDoorOk
import Derived.Test.YtlmmbanfhjaioaaGreatDoorFa
import Derived.Test.YtlmmbanfhjaioaaGreatDoorFb
import Derived.Test.YtlmmbanfhjaioaaGreatDoorFc
import Derived.Test.YtlmmbanfhjaioaaGreatDoorLt
import Derived.Test.YtlmmbanfhjaioaaGreatDoorRows
import Derived.Test.YtlmmbanfhjaioaaGreatDoorTie
import Derived.Test.YtlmmbanfhjaioaaGreatDoorCards
import Derived.Lib.SmallJoins
import Derived.DataReads
import Derived.Carry
import Derived.LaidMore
import Derived.OpenShut
import Derived.Stop.Joined
import Derived.MakeChecks
import Derived.ChangeSlices

namespace Go.Proofs.YtlmmbanfhjaioaaGreatDoor
open Go.Ev Go.ChangeShapes Go.WideShapes Go.WideMaps Go.WideElems Go.RowKit Go.Joins 

theorem own : ownKnob Tryz.prog.godebug = none := by kernel_rfl
def VW : List (String × DataW Unit) := [("unicode.White_Space", Rows.laid_unicode_White_Space), ("strings.asciiSpace", Rows.laid_strings_asciiSpace)]
/-- The door's own heap meets the condition. -/
theorem AbK (os : Os) (args : Array Value) : laidMetH Tryz.prog VW ((World.doorLaid Tryz.prog 4000 os).forCall (fun _ _ => 0) ⟨#[], args, []⟩).memory :=
  laidMetH_of_parts3 (fuel := 12) (laidMet_of_run' 12 (by kernel_rfl) (by kernel_rfl)) (by kernel_rfl) (by kernel_rfl)
/-- What the condition says of the tables. -/
theorem AkN {W : World} (h : laidMetH Tryz.prog VW W) : U6 tI W := (AkM (Go.LaidTab.Aee (n := "strings.asciiSpace") (d := Rows.laid_strings_asciiSpace) (g := 0) (t := 112) (el := 5) (len := 256) (k := .u8) h (.tail _ (.head _)) (by kernel_rfl) (by kernel_rfl) (by kernel_rfl) (by kernel_rfl) (by kernel_rfl) (by kernel_rfl) (by kernel_rfl) (by kernel_rfl)) AkO)

theorem Alw : Tryz.checked.prog.inits.idxOf? 4 = none := by kernel_rfl
theorem Alz (os : Os) : ((World.doorLaid Tryz.prog 4000 os).forCall (fun _ _ => 0) ⟨#[], #[.agg #[.slice none 0 0], .int .i64 0], []⟩).Shaped Tryz.checked.prog := World.shaped_of_RefB (by kernel_rfl) (by kernel_rfl)
theorem Alx (os : Os) : Input.okWideB Tryz.checked.prog ((World.doorLaid Tryz.prog 4000 os).forCall (fun _ _ => 0) ⟨#[], #[.agg #[.slice none 0 0], .int .i64 0], []⟩) 4 ⟨#[], #[.agg #[.slice none 0 0], .int .i64 0], []⟩ = true := by kernel_rfl
theorem Aly (os : Os) {H : Type} (enc : TypeId × Value → H) : Rows.parsePrintsSpec.preB enc Tryz.checked.prog Tryz.f4 [] false ((World.doorLaid Tryz.prog 4000 os).forCall (fun _ _ => 0) ⟨#[], #[.agg #[.slice none 0 0], .int .i64 0], []⟩).memory #[.agg #[.slice none 0 0], .int .i64 0] 8 = true := by kernel_rfl
theorem AlA (os : Os) {H : Type} (enc : TypeId × Value → H) : Rows.parsePrintsSpec.sizedB enc Tryz.checked.prog Tryz.f4 false ((World.doorLaid Tryz.prog 4000 os).forCall (fun _ _ => 0) ⟨#[], #[.agg #[.slice none 0 0], .int .i64 0], []⟩).memory #[.agg #[.slice none 0 0], .int .i64 0] 8 = true := by kernel_rfl
set_option maxRecDepth 100000 in
theorem parsePrints_lifted (os : Os) (K : os.Started) (H : Type) (enc : TypeId × Value → H) :
    ReturnsInHanded {} Tryz.checked os 4 .any (fun w args => (Rows.parsePrintsSpec.pre enc Tryz.prog Tryz.f4 [] false w args ∧ laidMetH Tryz.prog VW w) ∧ sizedMet enc Tryz.prog Tryz.f4 (OpenSpec.ofChange Rows.parsePrintsSpec) false w args)
      (Rows.parsePrintsSpec.post enc Tryz.prog Tryz.f4 false true false false) := by
  refine returnsInHanded_of_change_and (C := Tryz.checked) (X := fun w _ => laidMetH Tryz.prog VW w) (fun _ _ _ V h => h.of_heap V) own K Alw Tryz.func4
    (ChangeSpec.witness_shaped (enc := enc) (C := Tryz.checked) (os := os) (X := fun w _ => laidMetH Tryz.prog VW w) false (World.doorLaid Tryz.prog 4000 os)
      #[.agg #[.slice none 0 0], .int .i64 0] 8 rfl (Alz os) (Alx os) (Aly os enc) (AlA os enc) (AbK os _)) ?_
  intro W base args ds gs Y E hW _ ag hL _
  have B : ∀ (j : Nat) t v, Tryz.f4.params[j]? = some t → args[j]? = some v → Value.okWide Tryz.prog W .any base t v := E
  have M := hW
  obtain ⟨p, q, R, hV, rfl, ai, ah⟩ := hW
  have hA : DataW.TrodAll enc Tryz.prog W 0 (fun _ => true) true Tryz.f4.params.toList args.toList ds p := R
  rw [Tryz.params4] at hA B
  obtain ⟨v0, af, d0, ak, O, q0, ad, rfl, rfl, h0, r0⟩ := trodAll_cons hA
  obtain ⟨v1, ae, d1, aj, U, q1, rfl, rfl, rfl, h1, r1⟩ := trodAll_cons r0
  obtain ⟨rfl, rfl, rfl⟩ := trodAll_nil r1
  obtain rfl : args = #[v0, v1] := by cases args; simp_all
  obtain ⟨rfl, rfl⟩ := trodVars_none hV
  have k0 := h0
  have k1 := h1
  clear R E
  obtain ⟨S, rfl, _⟩ := okWide_struct Tryz.underlying26 (B 0 26 v0 rfl rfl)
  obtain ⟨m0, t0⟩ := k0
  have u0 : DataW.trod enc Tryz.prog W 0 (fun _ => true) true m0 26 S.toList = some (d0, O) := t0
  obtain ⟨Z, c0⟩ := Ald S.toList m0 _ u0
  obtain ⟨x1, rfl⟩ := okWide_int (k := .i64) (by kernel_rfl) (B 1 3 v1 rfl rfl)
  simp only [List.append_nil] at M
  have ab : ∀ x ∈ O ++ U, x.block < W.heap.size := fun x y => by simpa using M.lt x (by simpa using y)
  refine (AbR AfG (H := Bx (tJ tI)) (b := true) (ct := .Be (∃ L : List LT, Z.length = L.length ∧ A8 Z = A8 L) (.ret (.bool true))) (by kernel_rfl) (Abw ⟨Z, rfl, rfl⟩) (.cons _ _ _ _ (by simpa using VR.agg _ _ c0) (.cons _ _ _ _ (.int .i64 x1) .nil)) (Adi (AkN hL))).mono fun e W' ⟨he, hg⟩ => ?_
  subst he
  have J : ∀ x ∈ O ++ U, W.sameAt W' x := fun x y => hg.same (ab x y)
  refine ⟨_, rfl, Agi (pa := O ++ U) (pv := []) M (fun _ _ _ => (trodAll_cons_mk (shut_bool Tryz.underlying4 _) trodAll_mk0)) (fun sp aa => ?_) (fun _ _ => rfl) (by simp)
    hg (ok_one (by kernel_rfl) rfl (okWide_bool_mk Tryz.underlying4 _))⟩
  have V : ∀ x ∈ O ++ U, sp x.block = true := fun x y => aa x (by simpa using y)
  have j0 := Trod_stays (by kernel_rfl) (by kernel_rfl) (by decide +kernel) h0 (fun x y => J x (List.mem_append_left _ (y))) (fun x y => V x (List.mem_append_left _ (y)))
  have j1 := Trod_stays (by kernel_rfl) (by kernel_rfl) (by decide +kernel) h1 (fun x y => J x (List.mem_append_right _ y)) (fun x y => V x (List.mem_append_right _ y))
  have := trodAll_cons_mk j0 (trodAll_cons_mk j1 trodAll_mk0)
  simp only [List.append_nil] at this ⊢
  exact this

theorem parsePrints_closed : joinedFacts Tryz.prog 4 Tryz.f4 Rows.parsePrintsSpec Rows.parsePrintsRow = true := by
  unfold joinedFacts
  rw [AcF, AcJ, AcH, AcI, AcK, AcG]
  kernel_rfl

theorem parsePrints_holds : Rows.ParsePrintsSaid :=
  OpenClaim.holds_of_wide 4 Tryz.f4 rfl rfl rfl rfl rfl rfl rfl ⟨rfl, rfl, rfl, rfl, rfl⟩ rfl rfl rfl rfl rfl (by kernel_rfl) Tryz.func4 parsePrints_closed
    (of_decide_eq_true (by kernel_rfl)) (by unfold Func.isWrapper; first | (rw [if_pos (by decide +kernel)]; kernel_rfl) | (rw [if_neg (by decide +kernel)]; exact ⟨rfl, rfl⟩))
    (fun os q H enc _ => parsePrints_lifted os q H enc)

theorem Ada : Tryz.prog.funcs.toList.any Func.goes = false := by kernel_rfl

/-- ████ THE STATEMENT ████ -/
theorem parsePrintsCard_holds : Rows.ParsePrintsCardSaid :=
  Claim7.holds_tied_plain_at .later [] [.listed, .data] true (true, "0b768dc3611f12d89596021a221c76ad462991bf3491163704583eb312dfc144") true
    parsePrints_holds (fun _ h => by cases h) (by kernel_rfl) (fun _ h => by cases h) parsePrints_row_tie rfl ⟨rfl, rfl⟩ (by kernel_rfl) rfl
    (fun f fn hf hfn => by
      obtain rfl : f = 4 := Option.some.inj ((show Tryz.prog.funcNamed "detent/detentlaw03.ParsePrints" = some 4 by kernel_rfl).symm.trans hf) |>.symm
      obtain rfl : fn = Tryz.f4 := (Option.some.inj (Tryz.func4.symm.trans hfn)).symm
      exact ⟨by kernel_rfl, fun j t ht => by
        rw [Tryz.params4] at ht
        have hm : t ∈ [26, 3] := by simpa using Array.mem_of_getElem? ht
        have hall : ([26, 3].all fun u => !Tryz.prog.wantsStandIn u) = true := by kernel_rfl
        exact (show Tryz.prog.wantsStandIn t = false by simpa using List.all_eq_true.1 hall t hm)⟩)
    (Go.Gn.Adb Ada rfl)
#print axioms parsePrintsCard_holds
end Go.Proofs.YtlmmbanfhjaioaaGreatDoor
