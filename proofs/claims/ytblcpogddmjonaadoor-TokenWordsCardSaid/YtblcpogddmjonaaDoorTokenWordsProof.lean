/- Proved: the law TokenWords answers true at every argument, each argument reads as it did; package-level tables of the library start as the program's text lays them (tied). -/
import Derived.Test.YtblcpogddmjonaaDoorBr
import Derived.Test.YtblcpogddmjonaaDoorTkX
namespace Go.Proofs.YtblcpogddmjonaaDoor
open Go.Ev Go.ChangeShapes Go.WideShapes Go.WideMaps Go.WideElems Go.RowKit

set_option maxRecDepth 100000 in
theorem tokenWords_lifted (os : Os) (started : os.Started) (H : Type) (enc : TypeId × Value → H) :
    ReturnsInHanded {} Tryd.checked os 7 .any (fun w args => (Rows.tokenWordsSpec.pre enc Tryd.prog Tryd.f7 [] false w args ∧ laidMetH Tryd.prog laid2 w) ∧ sizedMet enc Tryd.prog Tryd.f7 (OpenSpec.ofChange Rows.tokenWordsSpec) false w args)
      (Rows.tokenWordsSpec.post enc Tryd.prog Tryd.f7 false true false false) := by
  refine returnsInHanded_of_change_and (C := Tryd.checked) (X := fun w _ => laidMetH Tryd.prog laid2 w) (fun _ _ _ hh h => h.of_heap hh) own started (by kernel_rfl) Tryd.func7
    (ChangeSpec.witness_shaped (enc := enc) (C := Tryd.checked) (os := os) (X := fun w _ => laidMetH Tryd.prog laid2 w) false (World.doorLaid Tryd.prog 4000 os)
      #[.string ⟨#[]⟩] 8 rfl (World.shaped_of_RefB (by kernel_rfl) (by kernel_rfl)) (by kernel_rfl) (by kernel_rfl) (by kernel_rfl) (door_met os _)) ?_
  intro W base args ds gs before hval0 hW _ hsz hL _
  have hval : ∀ (j : Nat) t v, Tryd.f7.params[j]? = some t → args[j]? = some v → Value.okWide Tryd.prog W .any base t v := hval0
  have hW' := hW
  obtain ⟨p, q, hA0, hV, rfl, hfz, hnd⟩ := hW
  have hA : DataW.TrodAll enc Tryd.prog W 0 (fun _ => true) true Tryd.f7.params.toList args.toList ds p := hA0
  rw [Tryd.params7] at hA hval
  obtain ⟨v0, vs0, d0, ds0, p0, q0, hargs, rfl, rfl, h0, r0⟩ := trodAll_cons hA
  obtain ⟨rfl, rfl, rfl⟩ := trodAll_nil r0
  obtain rfl : args = #[v0] := by cases args; simp_all
  obtain ⟨rfl, rfl⟩ := trodVars_none hV
  have k0 := h0
  clear hA0 hval0
  obtain ⟨y0, rfl⟩ := okWide_string (by kernel_rfl) (hval 0 9 v0 rfl rfl)
  obtain ⟨x0, rfl⟩ : ∃ l : List UInt8, y0 = ⟨l.toArray⟩ := ⟨y0.data.toList, by simp⟩
  simp only [List.append_nil] at hW'
  have hlt : ∀ x ∈ p0, x.block < W.heap.size := fun x hx => by simpa using hW'.lt x (by simpa using hx)
  obtain ⟨tc, te, tf, th, tr⟩ := of_laid hL
  have hG : ∀ g l, (mkH Tk.glT).get g = some (.glob l) → ∃ cs e fz, W.heap[g]? = some (.cells cs e fz) ∧ ∀ ρ', VRL ρ' l cs.toList := fun g l hg => by
    have := mkH_get hg
    unfold Tk.glT at this
    simp only [List.mem_singleton] at this
    injection this with e1 e2
    injection e2 with e2
    subst e1; subst e2
    exact ⟨tc, te, tf, th, tr⟩
  refine (ent_law Tk.ok7 (H := mkH Tk.glT) (b := true) (ct := .need True (.ret (.bool true))) (by kernel_rfl) (ctOut_of trivial) (.cons _ _ _ _ (.bs x0) .nil) hG).mono fun e W' ⟨he, hg⟩ => ?_
  subst he
  have hsame : ∀ x ∈ p0, W.sameAt W' x := fun x hx => hg.same (hlt x hx)
  refine ⟨_, rfl, post_of_below (pa := p0) (pv := []) hW' (fun _ _ _ => (trodAll_cons_mk (shut_bool Tryd.underlying4 _) trodAll_mk0)) (fun sp hsp => ?_) (fun _ _ => rfl) (by simp)
    hg (ok_one (by kernel_rfl) rfl (okWide_bool_mk Tryd.underlying4 _))⟩
  have hh : ∀ x ∈ p0, sp x.block = true := fun x hx => hsp x (by simpa using hx)
  have j0 := Trod_stays (by kernel_rfl) (by kernel_rfl) (by decide +kernel) h0 (fun x hx => hsame x (hx)) (fun x hx => hh x (hx))
  have := trodAll_cons_mk j0 trodAll_mk0
  rw [List.append_nil] at this
  exact this

theorem tokenWords_holds : Rows.TokenWordsSaid :=
  OpenClaim.holds_of_wide 7 Tryd.f7 rfl rfl rfl rfl rfl rfl rfl ⟨rfl, rfl, rfl, rfl, rfl⟩ rfl rfl rfl rfl rfl (by kernel_rfl) Tryd.func7 (by kernel_rfl)
    (of_decide_eq_true (by kernel_rfl)) (by unfold Func.isWrapper; first | (rw [if_pos (by decide +kernel)]; kernel_rfl) | (rw [if_neg (by decide +kernel)]; exact ⟨rfl, rfl⟩))
    (fun os started H enc _ => tokenWords_lifted os started H enc)

/-- ████ THE STATEMENT ████ -/
theorem tokenWordsCard_holds : Rows.TokenWordsCardSaid :=
  Claim7.holds_tied_plain_at .later [] [.listed, .data] true (true, "0e6480515ab6e70618736de1cbcd50ec1b6cbb071bef88145a13fb993d372875") false
    tokenWords_holds (fun _ h => by cases h) (by kernel_rfl) (fun _ h => by cases h) tokenWords_row_tie rfl ⟨rfl, rfl⟩ (by kernel_rfl) rfl
    (fun f fn hf hfn => by
      obtain rfl : f = 7 := Option.some.inj ((show Tryd.prog.funcNamed "detent/detentlaw01.TokenWords" = some 7 by kernel_rfl).symm.trans hf) |>.symm
      obtain rfl : fn = Tryd.f7 := (Option.some.inj (Tryd.func7.symm.trans hfn)).symm
      exact ⟨by kernel_rfl, fun j t ht => by
        rw [Tryd.params7] at ht
        have hm : t ∈ [9] := by simpa using Array.mem_of_getElem? ht
        have hall : ([9].all fun u => !Tryd.prog.wantsStandIn u) = true := by kernel_rfl
        exact (show Tryd.prog.wantsStandIn t = false by simpa using List.all_eq_true.1 hall t hm)⟩)
    (by kernel_rfl)
#print axioms tokenWordsCard_holds
end Go.Proofs.YtblcpogddmjonaaDoor
