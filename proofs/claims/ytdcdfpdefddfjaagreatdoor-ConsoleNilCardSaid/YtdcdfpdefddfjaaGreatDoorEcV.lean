/- Laid by program out of its parts: EcV. -/
import Derived.Test.YtdcdfpdefddfjaaGreatDoorEcU
import Derived.Below
import Derived.ChangeSame
set_option linter.unusedVariables false
set_option linter.unusedSimpArgs false
/- The evaluator, part V: a closed call by evaluation: from every world it ends as evaluated, and leaves what was there as it was. -/
namespace Go.EvC
open Go.RowKit Go.ChangeShapes

/-- A closed call's answer. -/
noncomputable def says (x : Option CR) (b : Bool) : Bool :=
  Option.rec (motive := fun _ => Bool) false (fun r => CR.rec (motive := fun _ => Bool) (fun v _ _ => match v with
    | .bool c => cond c b (!b)
    | _ => false) (fun _ _ _ => false) (fun _ _ _ _ => false) r) x

theorem says_some {x : Option CR} {b : Bool} (h : says x b = true) : ∃ H nx, x = some (.mk (.bool b) H nx) := by
  cases x with
  | none => cases h
  | some r =>
    cases r with
    | mk v H nx =>
      cases v with
      | bool c => refine ⟨H, nx, ?_⟩; cases b <;> cases c <;> first | rfl | cases h
      | _ => cases h
    | _ => cases h

noncomputable def rho0 : Ren := fun _ => none

/-- A closed call's value, when it is known as one. -/
theorem ev_calls {P : Program} (hm : P.follows .mixedOrders = true) {rounds n : Nat} {f : FuncId} {args : List AV} {v : AV} {H : Tr AObj} {nx : Nat}
    (h : (evs P rounds n).call (.fn f args) .leaf 0 = some (.mk v H nx)) {vs : List Value} (hvs : VRL rho0 args vs) (w : World) :
    Calls P f vs.toArray w fun e w' => ∃ u ρ, e = .returned u ∧ VR ρ v u ∧ RowKit.Below w.heap.size w w' := by
  have hcall := (evs_sound (drawOK hm) rounds n).2.1 _ _ _ _ h ⟨w.tape, w.os, w.output, fun _ => none⟩ (fun b => w.heap[b]?) rho0 w
    ⟨rfl, rfl, rfl, fun b o hb => hb, fun i o b hi => (by rw [Tr.get_leaf] at hi; cases hi), fun i o b hi => (by rw [Tr.get_leaf] at hi; cases hi),
      fun i j o o' b b' hi => (by rw [Tr.get_leaf] at hi; cases hi), fun _ _ => rfl, fun i o hi => (by rw [Tr.get_leaf] at hi; cases hi), fun _ _ h => by cases h⟩
  have hc := hcall.2 vs hvs
  have hc' : Calls P f vs.toArray w (Ends ⟨w.tape, w.os, w.output, fun _ => none⟩ (fun b => w.heap[b]?) 0 rho0 v H nx) := callsIn_wide.1 hc
  refine hc'.mono fun e w' ⟨u, ρ', he, _, hr, hv⟩ => ⟨u, ρ', he, hv, hr.os, hr.tape, hr.output, ?_, fun k hk => ?_⟩
  · by_cases h0 : w.heap.size = 0
    · omega
    · have hlt : w.heap.size - 1 < w.heap.size := by omega
      have := hr.fr (w.heap.size - 1) _ (Array.getElem?_eq_getElem hlt)
      have := lt_of_heap this
      omega
  · rw [Array.getElem?_eq_getElem hk]
    exact hr.fr k _ (Array.getElem?_eq_getElem hk)

/-- A closed call that answers a bool. -/
theorem ev_bool {P : Program} (hm : P.follows .mixedOrders = true) {rounds n : Nat} {f : FuncId} {args : List AV} {b : Bool}
    (h : says ((evs P rounds n).call (.fn f args) .leaf 0) b = true) {vs : List Value} (hvs : VRL rho0 args vs) (w : World) :
    Calls P f vs.toArray w fun e w' => e = .returned (.bool b) ∧ RowKit.Below w.heap.size w w' := by
  obtain ⟨H, nx, hx⟩ := says_some h
  refine (ev_calls hm hx hvs w).mono fun e w' ⟨u, ρ, he, hv, hb⟩ => ?_
  cases hv
  exact ⟨he, hb⟩

/-- The same, the arguments as the program's text has them. -/
theorem ev_closed {P : Program} (hm : P.follows .mixedOrders = true) {rounds n : Nat} {f : FuncId} {b : Bool} {vs : List Value}
    (h : says (ob (ofScalars vs) fun args => (evs P rounds n).call (.fn f args) .leaf 0) b = true) (w : World) :
    Calls P f vs.toArray w fun e w' => e = .returned (.bool b) ∧ RowKit.Below w.heap.size w w' := by
  obtain ⟨H, nx, hx⟩ := says_some h
  obtain ⟨args, ha, hc⟩ := ob_some.1 hx
  exact ev_bool hm (b := b) (by rw [hc]; cases b <;> rfl) (ofScalars_rel ha) w

/-- What a statement owes behind its call, where nothing that was there has turned. -/
theorem post_of_below {P : Program} {H : Type} {enc : TypeId × Value → H} {f : Func} {s : ChangeSpec} {apart fresh handsOn again : Bool} {W W' : World} {args : Array Value} {v : Value} {ds gs : List (DataW H)} {before pa pv : List MemPlace}
    (hW : DataW.Whole enc P f.params.toList s.vars apart W args.toList ds gs before)
    (hres : ∀ (b : Nat) (sp : Nat → Bool) (hd : Bool), DataW.TrodAll enc P W' b sp hd f.resultTypes.toList (v.resultList f.resultTypes.size) (s.fn H (ds ++ gs)).results [])
    (hargs : ∀ sp : Nat → Bool, (∀ p ∈ before, sp p.block = true) → DataW.TrodAll enc P W' 0 sp true f.params.toList args.toList (s.fn H (ds ++ gs)).args pa)
    (hvars : ∀ sp : Nat → Bool, (∀ p ∈ before, sp p.block = true) → DataW.TrodVars enc P W' sp s.vars (s.fn H (ds ++ gs)).vars pv)
    (hps : before = pa ++ pv) (hb : RowKit.Below W.heap.size W W')
    (hok : ∀ (j : Nat) (t : TypeId) (r : Value), f.resultTypes[j]? = some t → (v.resultList f.resultTypes.size)[j]? = some r → Value.okWide P W' .any 0 t r) :
    s.post enc P f apart fresh handsOn again W args v W' := by
  have hlt : ∀ p ∈ before, p.block < W.heap.size := fun p hp => by simpa using hW.lt p hp
  have hold : ∀ p ∈ before, (fun b => decide (b < W.heap.size)) p.block = true := fun p hp => by simpa using hlt p hp
  obtain ⟨_, _, _, _, _, hz, hn⟩ := id hW
  refine ⟨ds, gs, before, [], pa, pv, hW, hres _ _ _, hargs _ hold, hvars _ hold, hb.frame _, fun _ => ⟨hok, _, _, ([] ++ pa) ++ pv, ⟨[] ++ pa, pv, trodAll_append (hargs _ fun _ _ => rfl) (hres _ _ _), hvars _ fun _ _ => rfl, rfl, fun b off hp => ?_, fun ha => ?_⟩, fun p hp _ => ?_⟩⟩
  · have hp' : MemPlace.cell b off ∈ before := by rw [hps]; simpa using hp
    rw [hb.frozen (p := ⟨b, off, none⟩) (hlt _ hp')]
    exact hz b off hp'
  · have := hn ha
    rw [hps] at this
    simpa using this
  · rw [hps]
    simpa using hp

end Go.EvC
