/- Proved: the law TokenPrints answers true at every argument, each argument reads as it did; package-level tables of the library start as the program's text lays them (tied). -/
import Derived.Test.YtblcpogddmjonaaDoorBs
import Derived.Test.YtblcpogddmjonaaDoorTkU
namespace Go.Proofs.YtblcpogddmjonaaDoor
open Go.Ev Go.ChangeShapes Go.WideShapes Go.WideMaps Go.WideElems Go.RowKit

set_option maxRecDepth 100000 in
theorem tokenPrints_lifted (os : Os) (started : os.Started) (H : Type) (enc : TypeId × Value → H) :
    ReturnsInHanded {} Tryd.checked os 6 .any (fun w args => (Rows.tokenPrintsSpec.pre enc Tryd.prog Tryd.f6 [] false w args ∧ laidMetH Tryd.prog laid2 w) ∧ sizedMet enc Tryd.prog Tryd.f6 (OpenSpec.ofChange Rows.tokenPrintsSpec) false w args)
      (Rows.tokenPrintsSpec.post enc Tryd.prog Tryd.f6 false true false false) := by
  refine returnsInHanded_of_change_and (C := Tryd.checked) (X := fun w _ => laidMetH Tryd.prog laid2 w) (fun _ _ _ hh h => h.of_heap hh) own started (by kernel_rfl) Tryd.func6
    (ChangeSpec.witness_shaped (enc := enc) (C := Tryd.checked) (os := os) (X := fun w _ => laidMetH Tryd.prog laid2 w) false (World.doorLaid Tryd.prog 4000 os)
      #[.slice none 0 0, .slice none 0 0] 8 rfl (World.shaped_of_RefB (by kernel_rfl) (by kernel_rfl)) (by kernel_rfl) (by kernel_rfl) (by kernel_rfl) (door_met os _)) ?_
  intro W base args ds gs before hval0 hW _ hsz hL _
  have hval : ∀ (j : Nat) t v, Tryd.f6.params[j]? = some t → args[j]? = some v → Value.okWide Tryd.prog W .any base t v := hval0
  have hW' := hW
  obtain ⟨p, q, hA0, hV, rfl, hfz, hnd⟩ := hW
  have hA : DataW.TrodAll enc Tryd.prog W 0 (fun _ => true) true Tryd.f6.params.toList args.toList ds p := hA0
  rw [Tryd.params6] at hA hval
  obtain ⟨v0, vs0, d0, ds0, p0, q0, hargs, rfl, rfl, h0, r0⟩ := trodAll_cons hA
  obtain ⟨v1, vs1, d1, ds1, p1, q1, rfl, rfl, rfl, h1, r1⟩ := trodAll_cons r0
  obtain ⟨rfl, rfl, rfl⟩ := trodAll_nil r1
  obtain rfl : args = #[v0, v1] := by cases args; simp_all
  obtain ⟨rfl, rfl⟩ := trodVars_none hV
  have k0 := h0
  have k1 := h1
  clear hA0 hval0
  obtain ⟨a1, n1, z1, rfl⟩ := okWide_slice (e := 5) (by kernel_rfl) (hval 1 22 v1 rfl rfl)
  obtain ⟨m1, t1⟩ := k1
  have u1 : DataW.trod enc Tryd.prog W 0 (fun _ => true) true m1 22 [.slice a1 n1 z1] = some (d1, p1) := t1
  obtain ⟨l1, c1⟩ := bytes_arg (el := 5) (by kernel_rfl) (by kernel_rfl) (by kernel_rfl) u1
  obtain ⟨a0, n0, z0, rfl⟩ := okWide_slice (e := 31) (by kernel_rfl) (hval 0 24 v0 rfl rfl)
  obtain ⟨m0, t0⟩ := k0
  have u0 : DataW.trod enc Tryd.prog W 0 (fun _ => true) true m0 24 [.slice a0 n0 z0] = some (d0, p0) := t0
  obtain ⟨l0, c0⟩ := toks_arg u0
  simp only [List.append_nil] at hW'
  have hlt : ∀ x ∈ p0 ++ p1, x.block < W.heap.size := fun x hx => by simpa using hW'.lt x (by simpa using hx)
  obtain ⟨tc, te, tf, th, tr⟩ := of_laid hL
  have hG : ∀ g l, (mkH Tk.glT).get g = some (.glob l) → ∃ cs e fz, W.heap[g]? = some (.cells cs e fz) ∧ ∀ ρ', VRL ρ' l cs.toList := fun g l hg => by
    have := mkH_get hg
    unfold Tk.glT at this
    simp only [List.mem_singleton] at this
    injection this with e1 e2
    injection e2 with e2
    subst e1; subst e2
    exact ⟨tc, te, tf, th, tr⟩
  refine (ent_law Tk.ok6 (H := mkH Tk.glT) (b := true) (ct := .need (∃ l : List Tk.Tok, l0.length = l.length ∧ (fun k => Tk.tokRow (l0.getD k Tk.t0)) = fun k => Tk.tokRow (l.getD k Tk.t0)) (.ret (.bool true))) (by kernel_rfl) (ctOut_of ⟨l0, rfl, rfl⟩) (.cons _ _ _ _ c0 (.cons _ _ _ _ c1 .nil)) hG).mono fun e W' ⟨he, hg⟩ => ?_
  subst he
  have hsame : ∀ x ∈ p0 ++ p1, W.sameAt W' x := fun x hx => hg.same (hlt x hx)
  refine ⟨_, rfl, post_of_below (pa := p0 ++ p1) (pv := []) hW' (fun _ _ _ => (trodAll_cons_mk (shut_bool Tryd.underlying4 _) trodAll_mk0)) (fun sp hsp => ?_) (fun _ _ => rfl) (by simp)
    hg (ok_one (by kernel_rfl) rfl (okWide_bool_mk Tryd.underlying4 _))⟩
  have hh : ∀ x ∈ p0 ++ p1, sp x.block = true := fun x hx => hsp x (by simpa using hx)
  have j0 := Trod_stays (by kernel_rfl) (by kernel_rfl) (by decide +kernel) h0 (fun x hx => hsame x (List.mem_append_left _ hx)) (fun x hx => hh x (List.mem_append_left _ hx))
  have j1 := Trod_stays (by kernel_rfl) (by kernel_rfl) (by decide +kernel) h1 (fun x hx => hsame x (List.mem_append_right _ hx)) (fun x hx => hh x (List.mem_append_right _ hx))
  have := trodAll_cons_mk j0 (trodAll_cons_mk j1 trodAll_mk0)
  rw [List.append_nil] at this
  exact this

theorem tokenPrints_holds : Rows.TokenPrintsSaid :=
  OpenClaim.holds_of_wide 6 Tryd.f6 rfl rfl rfl rfl rfl rfl rfl ⟨rfl, rfl, rfl, rfl, rfl⟩ rfl rfl rfl rfl rfl (by kernel_rfl) Tryd.func6 (by kernel_rfl)
    (of_decide_eq_true (by kernel_rfl)) (by unfold Func.isWrapper; first | (rw [if_pos (by decide +kernel)]; kernel_rfl) | (rw [if_neg (by decide +kernel)]; exact ⟨rfl, rfl⟩))
    (fun os started H enc _ => tokenPrints_lifted os started H enc)

/-- ████ THE STATEMENT ████ -/
theorem tokenPrintsCard_holds : Rows.TokenPrintsCardSaid :=
  Claim7.holds_tied_plain_at .later [] [.listed, .data] true (true, "0e6480515ab6e70618736de1cbcd50ec1b6cbb071bef88145a13fb993d372875") false
    tokenPrints_holds (fun _ h => by cases h) (by kernel_rfl) (fun _ h => by cases h) tokenPrints_row_tie rfl ⟨rfl, rfl⟩ (by kernel_rfl) rfl
    (fun f fn hf hfn => by
      obtain rfl : f = 6 := Option.some.inj ((show Tryd.prog.funcNamed "detent/detentlaw01.TokenPrints" = some 6 by kernel_rfl).symm.trans hf) |>.symm
      obtain rfl : fn = Tryd.f6 := (Option.some.inj (Tryd.func6.symm.trans hfn)).symm
      exact ⟨by kernel_rfl, fun j t ht => by
        rw [Tryd.params6] at ht
        have hm : t ∈ [24, 22] := by simpa using Array.mem_of_getElem? ht
        have hall : ([24, 22].all fun u => !Tryd.prog.wantsStandIn u) = true := by kernel_rfl
        exact (show Tryd.prog.wantsStandIn t = false by simpa using List.all_eq_true.1 hall t hm)⟩)
    (by kernel_rfl)
#print axioms tokenPrintsCard_holds
end Go.Proofs.YtblcpogddmjonaaDoor

