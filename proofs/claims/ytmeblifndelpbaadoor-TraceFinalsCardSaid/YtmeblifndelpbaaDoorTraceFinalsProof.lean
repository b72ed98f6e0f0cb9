/- Proved: the law on ends that are the same answers true at every two ends, every argument reads as it did; package-level tables of the library start as the program's text lays them (tied). -/
import Derived.Test.YtmeblifndelpbaaDoorWk
import Derived.Test.YtmeblifndelpbaaDoorRows
import Derived.Test.YtmeblifndelpbaaDoorTie
import Derived.Test.YtmeblifndelpbaaDoorCards
import Derived.Lib.SmallJoins
import Derived.SliceStrings
import Derived.DataReads
import Derived.Carry
import Derived.LaidMore
import Derived.OpenShut
import Derived.Stop.Joined
namespace Go.Proofs.YtmeblifndelpbaaDoor
open Go.Ev Go.ChangeShapes Go.WideShapes Go.ChangeAt Go.WideMaps Go.WideElems Go.RowKit Go.Joins

theorem own : ownKnob Tryd.prog.godebug = none := by kernel_rfl
theorem bytes9 : Tryd.prog.bytesOf 9 = 16 := by kernel_rfl
theorem cells9 : Tryd.prog.cellsOf 9 = 1 := by kernel_rfl
theorem cells24 : Tryd.prog.cellsOf 24 = 4 := by kernel_rfl

def laid3 : List (String × DataW Unit) := [("math/bits.deBruijn32tab", Rows.laid_math_bits_deBruijn32tab), ("math/bits.deBruijn64tab", Rows.laid_math_bits_deBruijn64tab), ("internal/strconv.uint64pow10", Rows.laid_internal_strconv_uint64pow10)]

/-- A field that is a list of texts, opened. -/
theorem field_reads {H : Type} {enc : TypeId × Value → H} {w : World} {n : Nat} {v : Value} {y : DataW H × List MemPlace} (h : DataW.trod enc Tryd.prog w 0 (fun _ => true) true n 22 [v] = some y) :
    ∃ a k c xs, v = .slice a k c ∧ Reads w a k xs ∧ ((y.1.weights Tryd.prog 22).all (· ≤ reachBytes) = true → k ≤ 140737488355328) := by
  rcases open_strings Tryd.underlying22 Tryd.underlying9 cells9 h with ⟨hcs, rfl⟩ | ⟨a, len, cap, ss, hcs, _, hl, hm, hz, rfl, hcell, _⟩
  · injection hcs with hv _
    subst hv
    exact ⟨_, _, _, [], rfl, ⟨rfl, by omega, .inl rfl⟩, fun _ => by omega⟩
  · injection hcs with hv _
    subst hv
    rw [if_pos rfl] at hz
    have hlt : (ss.take len).length = len := by rw [List.length_take]; omega
    refine ⟨_, _, _, ss.take len, rfl, ⟨hlt, ?_, ?_⟩, fun hw => ?_⟩
    · have : maxLen = 9223372036854775807 := rfl
      omega
    · by_cases h0 : len = 0
      · exact .inl h0
      · have hs : a.spot = none := by simpa [Addr.add] using World.cell?_spot (hcell 0 (by omega))
        obtain ⟨b, o, s⟩ := a
        simp only at hs
        subst hs
        refine .inr ⟨b, o, rfl, fun j hj => ?_⟩
        have hc := hcell j (by omega)
        have hd : (ss.take len).getD j ByteArray.empty = ss.getD j ByteArray.empty := by
          simp only [List.getD_eq_getElem?_getD, List.getElem?_take, hj, if_true]
        rw [hd, ← hc]
        by_cases h : j = 0
        · subst h; simp [Addr.add]
        · simp [Addr.add, h]
    · have hr : reachBytes = 140737488351232 := rfl
      simp only [DataW.weights, Tryd.underlying22, bytes9, List.all_cons, Bool.and_eq_true, decide_eq_true_eq, strs, List.length_map] at hw
      have h1 := hw.1
      have h2 : (ss.take len).length + (ss.drop len).length = cap := by
        rw [← List.length_append, List.take_append_drop, hz]
      rw [h2, hr] at h1
      omega

/-- The door's own heap meets the condition. -/
theorem door_met (os : Os) (args : Array Value) : laidMetH Tryd.prog laid3 ((World.doorLaid Tryd.prog 4000 os).forCall (fun _ _ => 0) ⟨#[], args, []⟩).memory :=
  laidMetH_of_parts3 (fuel := 8) (laidMet_of_run' 8 (by kernel_rfl) (by kernel_rfl)) (by kernel_rfl) (by kernel_rfl)

set_option maxRecDepth 100000 in
theorem lifted (os : Os) (started : os.Started) (H : Type) (enc : TypeId × Value → H) :
    ReturnsInHanded {} Tryd.checked os 3 .any (fun w args => (Rows.traceFinalsSpec.pre enc Tryd.prog Tryd.f3 [] false w args ∧ laidMetH Tryd.prog laid3 w) ∧ sizedMet enc Tryd.prog Tryd.f3 (OpenSpec.ofChange Rows.traceFinalsSpec) false w args)
      (Rows.traceFinalsSpec.post enc Tryd.prog Tryd.f3 false true false false) := by
  refine returnsInHanded_of_change_and (C := Tryd.checked) (X := fun w _ => laidMetH Tryd.prog laid3 w) (fun _ _ _ hh h => h.of_heap hh) own started (by kernel_rfl) Tryd.func3
    (ChangeSpec.witness_shaped (enc := enc) (C := Tryd.checked) (os := os) (X := fun w _ => laidMetH Tryd.prog laid3 w) false (World.doorLaid Tryd.prog 4000 os)
      #[.agg #[.slice none 0 0, .slice none 0 0, .slice none 0 0, .slice none 0 0], .agg #[.slice none 0 0, .slice none 0 0, .slice none 0 0, .slice none 0 0]] 8 rfl (World.shaped_of_RefB (by kernel_rfl) (by kernel_rfl)) (by kernel_rfl) (by kernel_rfl) (by kernel_rfl) (door_met os _)) ?_
  intro W base args ds gs before hval0 hW _ hsz _ _
  have hval : ∀ (j : Nat) t v, Tryd.f3.params[j]? = some t → args[j]? = some v → Value.okWide Tryd.prog W .any base t v := hval0
  have hW' := hW
  obtain ⟨p, q, hA0, hV, rfl, hfz, hnd⟩ := hW
  have hA : DataW.TrodAll enc Tryd.prog W 0 (fun _ => true) true Tryd.f3.params.toList args.toList ds p := hA0
  rw [Tryd.params3] at hA hval
  obtain ⟨v0, vs0, d0, ds0, p0, q0, hargs, rfl, rfl, h0, r0⟩ := trodAll_cons hA
  obtain ⟨v1, vs1, d1, ds1, p1, q1, rfl, rfl, rfl, h1, r1⟩ := trodAll_cons r0
  obtain ⟨rfl, rfl, rfl⟩ := trodAll_nil r1
  obtain rfl : args = #[v0, v1] := by cases args; simp_all
  obtain ⟨rfl, rfl⟩ := trodVars_none hV
  have k0 := h0
  have k1 := h1
  obtain ⟨a0, a1, a2, a3, y0, y1, y2, y3, n, rfl, rfl, rfl, t0, t1, t2, t3⟩ := open_agg4 Tryd.underlying24 (by kernel_rfl) cells24 (hval 0 24 v0 rfl rfl) h0
  obtain ⟨b0, b1, b2, b3, z0, z1, z2, z3, m, rfl, rfl, rfl, s0, s1, s2, s3⟩ := open_agg4 Tryd.underlying24 (by kernel_rfl) cells24 (hval 1 24 v1 rfl rfl) h1
  clear hA0 hval0
  obtain ⟨_, _, _, x0, rfl, rx0, bx0⟩ := field_reads t0
  obtain ⟨_, _, _, x1, rfl, rx1, bx1⟩ := field_reads t1
  obtain ⟨_, _, _, x2, rfl, rx2, bx2⟩ := field_reads t2
  obtain ⟨_, _, _, x3, rfl, rx3, bx3⟩ := field_reads t3
  obtain ⟨_, _, _, u0, rfl, ru0, bu0⟩ := field_reads s0
  obtain ⟨_, _, _, u1, rfl, ru1, bu1⟩ := field_reads s1
  obtain ⟨_, _, _, u2, rfl, ru2, bu2⟩ := field_reads s2
  obtain ⟨_, _, _, u3, rfl, ru3, bu3⟩ := field_reads s3
  have hsz' : (DataW.weightsEach Tryd.prog [24, 24] [.agg [y0.1, y1.1, y2.1, y3.1], .agg [z0.1, z1.1, z2.1, z3.1]]).all (· ≤ reachBytes) = true := hsz
  simp only [DataW.weightsEach, DataW.weights, Tryd.underlying24, List.map_cons, List.map_nil, List.append_nil, List.all_append, Bool.and_eq_true] at hsz'
  obtain ⟨⟨e0, e1, e2, e3⟩, g0, g1, g2, g3⟩ := hsz'
  simp only [List.append_nil] at hW'
  have hlt : ∀ x ∈ (y0.2 ++ (y1.2 ++ (y2.2 ++ y3.2))) ++ (z0.2 ++ (z1.2 ++ (z2.2 ++ z3.2))), x.block < W.heap.size := fun x hx => by simpa using hW'.lt x (by simpa using hx)
  refine (walk rx0 rx1 rx2 rx3 ru0 ru1 ru2 ru3 (bx0 e0) (bx1 e1) (bx2 e2) (bx3 e3) (bu0 g0) (bu1 g1) (bu2 g2) (bu3 g3)).mono fun e W' ⟨he, hg⟩ => ?_
  subst he
  have hsame : ∀ x ∈ (y0.2 ++ (y1.2 ++ (y2.2 ++ y3.2))) ++ (z0.2 ++ (z1.2 ++ (z2.2 ++ z3.2))), W.sameAt W' x := fun x hx => hg.same (hlt x hx)
  refine ⟨_, rfl, post_of_below (pa := (y0.2 ++ (y1.2 ++ (y2.2 ++ y3.2))) ++ (z0.2 ++ (z1.2 ++ (z2.2 ++ z3.2)))) (pv := []) hW' (fun _ _ _ => (trodAll_cons_mk (shut_bool Tryd.underlying4 _) trodAll_mk0)) (fun sp hsp => ?_) (fun _ _ => rfl) (by simp)
    hg (ok_one (by kernel_rfl) rfl (okWide_bool_mk Tryd.underlying4 _))⟩
  have hh : ∀ x ∈ (y0.2 ++ (y1.2 ++ (y2.2 ++ y3.2))) ++ (z0.2 ++ (z1.2 ++ (z2.2 ++ z3.2))), sp x.block = true := fun x hx => hsp x (by simpa using hx)
  have j0 := Trod_stays (by kernel_rfl) (by kernel_rfl) (by decide +kernel) k0 (fun x hx => hsame x (List.mem_append_left _ hx)) (fun x hx => hh x (List.mem_append_left _ hx))
  have j1 := Trod_stays (by kernel_rfl) (by kernel_rfl) (by decide +kernel) k1 (fun x hx => hsame x (List.mem_append_right _ hx)) (fun x hx => hh x (List.mem_append_right _ hx))
  have := trodAll_cons_mk j0 (trodAll_cons_mk j1 trodAll_mk0)
  rw [List.append_nil] at this
  exact this

theorem traceFinals_holds : Rows.TraceFinalsSaid :=
  OpenClaim.holds_of_wide 3 Tryd.f3 rfl rfl rfl rfl rfl rfl rfl ⟨rfl, rfl, rfl, rfl, rfl⟩ rfl rfl rfl rfl rfl (by kernel_rfl) Tryd.func3 (by kernel_rfl)
    (of_decide_eq_true (by kernel_rfl)) (by unfold Func.isWrapper; first | (rw [if_pos (by decide +kernel)]; kernel_rfl) | (rw [if_neg (by decide +kernel)]; exact ⟨rfl, rfl⟩))
    (fun os started H enc _ => lifted os started H enc)

/-- ████ THE STATEMENT ████ -/
theorem traceFinalsCard_holds : Rows.TraceFinalsCardSaid :=
  Claim7.holds_tied_plain_at .later [] [.data, .data, .data] true (true, "18dca466658f1c9978bf7f20305f2626f28bbb3df1cac78a42f0f2b31863da03") false
    traceFinals_holds (fun _ h => by cases h) (by kernel_rfl) (fun _ h => by cases h) traceFinals_row_tie rfl ⟨rfl, rfl⟩ (by kernel_rfl) rfl
    (fun f fn hf hfn => by
      obtain rfl : f = 3 := Option.some.inj ((show Tryd.prog.funcNamed "detent/detentlaw13.TraceFinals" = some 3 by kernel_rfl).symm.trans hf) |>.symm
      obtain rfl : fn = Tryd.f3 := (Option.some.inj (Tryd.func3.symm.trans hfn)).symm
      exact ⟨by kernel_rfl, fun j t ht => by
        rw [Tryd.params3] at ht
        have hm : t ∈ [24, 24] := by simpa using Array.mem_of_getElem? ht
        have hall : ([24, 24].all fun u => !Tryd.prog.wantsStandIn u) = true := by kernel_rfl
        exact (show Tryd.prog.wantsStandIn t = false by simpa using List.all_eq_true.1 hall t hm)⟩)
    (by kernel_rfl)
#print axioms traceFinalsCard_holds
end Go.Proofs.YtmeblifndelpbaaDoor
