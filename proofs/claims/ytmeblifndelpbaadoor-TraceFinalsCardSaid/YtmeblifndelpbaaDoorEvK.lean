/- The evaluator, part K: what operations, regions in the order of their text, and code come to. -/
import Derived.Test.YtmeblifndelpbaaDoorEvJ
import Derived.LoopNIn
import Derived.RangeFuncLeaves
import Derived.RangeFuncRecord
import Derived.OrdersIn
namespace Go.Ev

/-- No fence; in a round of a loop, perhaps. -/
def FW (ro : Option Nat) : Fence := { Fence.wide with round := ro }

/-- What a call is owed: it ends, and all that is known behind it is so. -/
def Ends (E : Env) (F : Nat → Option Obj) (nx : Nat) (ρ : Ren) (v : AV) (H' : Tr AObj) (nx' : Nat) (e : Ending) (w' : World) : Prop :=
  ∃ u ρ', e = .returned u ∧ RX nx nx' ρ ρ' ∧ Rel E F nx' ρ' H'.get w' ∧ VR ρ' v u

def TgtOK (P : Program) (t : Tgt) (w : World) (ρ : Ren) (R : Ending → World → Prop) : Prop :=
  match t with
  | .fn f args => (∃ fn c, P.funcs[f]? = some fn ∧ (fn.name == "runtime.NumGoroutine") = false ∧ fn.body = some c) ∧ ∀ vs, VRL ρ args vs → CallsIn (FW none) 0 P f vs.toArray w R
  | .yld id args => ∀ vs b, VRL ρ args vs → ρ id = some b → ∃ fn tmps asg body, (Instr.yield b.b vs.toArray).run P w = .ok (.round b.b fn tmps asg body) w ∧ RoundIn (FW none) 0 P b.b fn tmps asg body w R

/-- A panic, just raised. -/
def fresh (u : Value) : List PanicEntry := [{ v := u, recovered := false }]

/-- The same of every way in which a call may end. -/
def EndsR (E : Env) (F : Nat → Option Obj) (nx : Nat) (ρ : Ren) (r : CR) (e : Ending) (w' : World) : Prop :=
  match r with
  | .mk v H' nx' => Ends E F nx ρ v H' nx' e w'
  | .pan v H' nx' => ∃ u ρ', e = .panicked (fresh u) ∧ RX nx nx' ρ ρ' ∧ Rel E F nx' ρ' H'.get w' ∧ VR ρ' v u
  | .dfr _ _ _ _ => False

def CallOK (P : Program) (call : CallF) : Prop :=
  ∀ t H nx r, call t H nx = some r → ∀ E F ρ w, Rel E F nx ρ H.get w → TgtOK P t w ρ (EndsR E F nx ρ r)

/-- How it goes on behind an operation. -/
def NextOK (E : Env) (F : Nat → Option Obj) (ni nx : Nat) (ρ : Ren) (o : Oper) (a : Act) (w : World) (ro : Option Nat) (next : Act → World → Prop) (Q : Exit → Act → World → Prop) (r : CR) : Prop :=
  match r with
  | .mk v H' nx' => ∀ u ρ' w', RY ni nx nx' ρ ρ' → Rel E F nx' ρ' H'.get w' → VR ρ' v u → next (a.put o.dst u) w'
  | .pan v H' nx' => ∀ u ρ' w', RY ni nx nx' ρ ρ' → Rel E F nx' ρ' H'.get w' → VR ρ' v u → Q (.panic (fresh u)) a w'
  | .dfr g args H' nx' => ro = none ∧ ∀ va vc : List Value, RX nx nx' ρ ρ → Rel E F nx' ρ H'.get w → VRL ρ args (va ++ vc) →
      next ({ a with defers := { target := .fn (.func g) vc.toArray, args := va.toArray } :: a.defers }.put o.dst undef) w

theorem about_ok (ro : Option Nat) (P : Program) (o : Oper) (w : World) (ρ : Operand → Value) : ∀ f, o.about P w ρ = some f → (FW ro).fn f := fun _ _ => trivial

theorem wpIn_of_yield {P : Program} {ro : Option Nat} {o : Oper} {a : Act} {w w' : World} {v : Value} {next : Act → World → Prop} {Q : Exit → Act → World → Prop} (hd : ∀ c, o.op ≠ .defer c)
    (h : Yield P (execOp a.eval o) w v w') (hn : next (a.put o.dst v) w') : o.wpIn (FW ro) 0 P a w next Q := by
  refine ⟨about_ok ro P o w a.eval, ?_⟩
  rw [Oper.semAt_eq _ _ _ hd]
  rcases h with h | ⟨h, rfl⟩
  · rw [h]; exact hn
  · rw [h]; exact hn

theorem pure2_nodefer {P : Program} {H : Tr AObj} {X : Operand → Option AV} {op : Op} {a : AV} (h : evPure2 P H X op = some a) : ∀ c, op ≠ .defer c := by
  rintro c rfl
  simp [evPure2, evPure] at h
theorem new_nodefer {P : Program} {X : Operand → Option AV} {ni : Nat} {op : Op} {a : AV × AObj} (h : evNew P X ni op = some a) : ∀ c, op ≠ .defer c := by
  rintro c rfl
  simp [evNew] at h

set_option maxHeartbeats 1000000 in
theorem evHeavy_sound {P : Program} {call : CallF} (hcall : CallOK P call) {E : Env} {F : Nat → Option Obj} {nx nx' : Nat} {ρ : Ren} {H : Tr AObj} {w : World} (r : Rel E F nx ρ H.get w)
    {X : Operand → Option AV} {a : Act} (hX : XR ρ X a.eval) {ni : Nat} (hni : ρ ni = none) (hnx : nx ≤ nx') (hni' : ni < nx') {o : Oper} {res : CR}
    (hev : evHeavy P call X H ni nx' o.op = some res) {ro : Option Nat} {next : Act → World → Prop} {Q : Exit → Act → World → Prop}
    (hk : NextOK E F ni nx ρ o a w ro next Q res) : o.wpIn (FW ro) 0 P a w next Q := by
  obtain ⟨dst, op, type, pos, after, guard⟩ := o
  simp only at hev
  cases op <;> simp only [evHeavy] at hev <;> first | (cases hev; done) | skip
  case store t x y =>
    obtain ⟨xa, hxa, h1⟩ := ob_some.1 hev
    obtain ⟨ya, hya, h2⟩ := ob_some.1 h1
    obtain ⟨H1, hH1, h3⟩ := ob_some.1 h2
    injection h3 with h3; subst h3
    obtain ⟨w', h6, h7⟩ := evStore_sound (P := P) r (hX _ _ hxa) (hX _ _ hya) hH1
    refine wpIn_of_yield (by simp) (.inr ⟨?_, rfl⟩) (hk undef ρ w' ⟨Ren.le_refl ρ, fun _ _ _ => rfl, hnx⟩ (h7.nx_le hnx) (.tup _ _ .nil))
    simp [execOp, h6]
  case mapUpdate t m k y =>
    obtain ⟨ma, hma, h1⟩ := ob_some.1 hev
    obtain ⟨ka, hka, h2⟩ := ob_some.1 h1
    obtain ⟨ya, hya, h3⟩ := ob_some.1 h2
    obtain ⟨H1, hH1, h4⟩ := ob_some.1 h3
    injection h4 with h4; subst h4
    obtain ⟨w', h6, h7⟩ := evMapSet_sound (P := P) r (hX _ _ hma) (hX _ _ hka) (hX _ _ hya) hH1
    refine wpIn_of_yield (by simp) (.inr ⟨?_, rfl⟩) (hk undef ρ w' ⟨Ren.le_refl ρ, fun _ _ _ => rfl, hnx⟩ (h7.nx_le hnx) (.tup _ _ .nil))
    simp [execOp, h6]
  case insert t m k y =>
    obtain ⟨ma, hma, h1⟩ := ob_some.1 hev
    obtain ⟨ka, hka, h2⟩ := ob_some.1 h1
    obtain ⟨ya, hya, h3⟩ := ob_some.1 h2
    obtain ⟨H1, hH1, h4⟩ := ob_some.1 h3
    injection h4 with h4; subst h4
    obtain ⟨w', h6, h7⟩ := evMapSet_sound (P := P) r (hX _ _ hma) (hX _ _ hka) (hX _ _ hya) hH1
    refine wpIn_of_yield (by simp) (.inr ⟨?_, rfl⟩) (hk undef ρ w' ⟨Ren.le_refl ρ, fun _ _ _ => rfl, hnx⟩ (h7.nx_le hnx) (.tup _ _ .nil))
    simp [execOp, h6]
  case call c =>
    obtain ⟨callee, args, argTypes⟩ := c
    simp only at hev
    cases callee with
    | invoke _ _ => cases hev
    | builtin b =>
      cases b <;> first | (cases hev; done) | skip
      rotate_left
      · obtain ⟨xs, hxs, h1⟩ := ob_some.1 hev
        have hxr := xsL_sound hX hxs
        split at h1
        · rename_i t v l
          injection h1 with h1; subst h1
          generalize hm : args.toList.map a.eval = vs at hxr
          cases hxr with
          | cons _ u _ us hu hus =>
            cases hu
            rename_i u hu
            refine ⟨about_ok ro P _ w a.eval, ?_⟩
            rw [Oper.semAt_eq _ _ _ (by simp)]
            have hg : (args.map a.eval).getD 0 .nilIface = .iface t u := by
              have : (args.map a.eval).toList = .iface t u :: us := by rw [Array.toList_map]; exact hm
              rw [show args.map a.eval = (Value.iface t u :: us).toArray by rw [← this]]
              rfl
            have hrun : (execOp a.eval { dst, op := .call { callee := .builtin .panic, args, argTypes }, type, pos, after, guard }).run P w = .halt (.panic (.iface t u)) w := by
              simp only [execOp, resolve, Sem.run_bind, Sem.run_pure, Result.andThen_ok, invoke, builtin, hg]
              rfl
            rw [hrun]
            exact hk _ ρ w ⟨Ren.le_refl ρ, fun _ _ _ => rfl, hnx⟩ (r.nx_le hnx) (.iface _ _ _ hu)
        · cases h1
      obtain ⟨xs, hxs, h1⟩ := ob_some.1 hev
      obtain ⟨⟨av, H1⟩, hap, h2⟩ := ob_some.1 h1
      injection h2 with h2; subst h2
      obtain ⟨u, w', ρ', h5, h6, h7, h8⟩ := evAppend_sound (P := P) r hni hnx hni' (xsL_sound hX hxs) hap type
      rw [map_toArray, Array.toArray_toList] at h5
      refine wpIn_of_yield (by simp) (.inl ?_) (hk u ρ' w' ⟨h7.1, fun x _ hx => h7.2 x hx, hnx⟩ h6 h8)
      simp only [execOp, resolve, Sem.run_bind, Sem.run_pure, Result.andThen_ok, invoke, builtin, h5]
    | value f =>
      obtain ⟨fa, hfa, h1⟩ := ob_some.1 hev
      obtain ⟨xs, hxs, h2⟩ := ob_some.1 h1
      obtain ⟨t, ht, h3⟩ := ob_some.1 h2
      clear hev h1 h2
      have hok := hcall t H nx' res h3 E F ρ w (r.nx_le hnx)
      have hfr := hX _ _ hfa
      have hxr := xsL_sound hX hxs
      rw [show args.toList.map a.eval = (args.map a.eval).toList by rw [Array.toList_map]] at hxr
      refine ⟨about_ok ro P _ w a.eval, ?_⟩
      rw [Oper.semAt_eq _ _ _ (by simp)]
      unfold evTarget at ht
      split at ht
      · rename_i g first cap
        injection ht with ht; subst ht
        generalize hfe : a.eval f = fv at hfr
        cases hfr with
        | fn _ _ _ va vc ha hc =>
          obtain ⟨⟨fn, c, hfn, hnm, hbd⟩, hcalls⟩ := hok
          have hvl := ha.append (hxr.append hc)
          have hc' := hcalls _ hvl
          have hrun : (execOp a.eval { dst, op := .call { callee := .value f, args, argTypes }, type, pos, after, guard }).run P w = .ok (.enter g ((va ++ ((args.map a.eval).toList ++ vc)).toArray)) w := by
            simp only [execOp, resolve, hfe, Deferred.ofValue, Sem.run_bind, Sem.run_pure, Result.andThen_ok, invoke, callFunc, run_program, hfn, hnm, Bool.false_eq_true, if_false, hbd, Option.isNone_some]
            congr 2
            apply Array.ext'
            simp
          rw [hrun]
          refine ⟨by simp [FW, Fence.wide], ?_⟩
          have hmono := CallsIn.mono hc' (R' := fun
            | .returned v, w'' => next (a.put dst v) w''
            | .panicked chain, w'' => Q (.panic chain) a w''
            | .outgrown, _ => LetsOut Q) (fun e w' he => by
              cases res with
              | mk v H' nx'' =>
                obtain ⟨u, ρ', rfl, h4, h5, h6⟩ := he
                exact hk u ρ' w' (h4.weak hnx (Nat.le_refl _)).ry h5 h6
              | pan v H' nx'' =>
                obtain ⟨u, ρ', rfl, h4, h5, h6⟩ := he
                exact hk u ρ' w' (h4.weak hnx (Nat.le_refl _)).ry h5 h6
              | dfr _ _ _ _ => exact he.elim)
          cases ro with
          | none => exact hmono
          | some l => exact hmono
      · rename_i id
        injection ht with ht; subst ht
        generalize hfe : a.eval f = fv at hfr
        cases hfr with
        | yld _ b hb =>
          obtain ⟨fn, tmps, asg, body, hy, hround⟩ := hok _ b hxr hb
          have hrun : (execOp a.eval { dst, op := .call { callee := .value f, args, argTypes }, type, pos, after, guard }).run P w = .ok (.round b.b fn tmps asg body) w := by
            rw [Array.toArray_toList] at hy
            simp only [execOp, resolve, hfe, Deferred.ofValue, Sem.run_bind, Sem.run_pure, Result.andThen_ok, invoke, Array.empty_append, hy]
          rw [hrun]
          refine ⟨by simp [FW, Fence.wide], ?_⟩
          have hmono := RoundIn.mono hround (R' := fun
            | .returned v, w'' => next (a.put dst v) w''
            | .panicked chain, w'' => Q (.panic chain) a w''
            | .outgrown, _ => LetsOut Q) (fun e w' he => by
              cases res with
              | mk v H' nx'' =>
                obtain ⟨u, ρ', rfl, h4, h5, h6⟩ := he
                exact hk u ρ' w' (h4.weak hnx (Nat.le_refl _)).ry h5 h6
              | pan v H' nx'' =>
                obtain ⟨u, ρ', rfl, h4, h5, h6⟩ := he
                exact hk u ρ' w' (h4.weak hnx (Nat.le_refl _)).ry h5 h6
              | dfr _ _ _ _ => exact he.elim)
          cases ro with
          | none => exact hmono
          | some l => exact hmono
      · cases ht
  case panic x =>
    obtain ⟨xa, hxa, h1⟩ := ob_some.1 hev
    split at h1
    · rename_i t v
      injection h1 with h1; subst h1
      have hu := hX _ _ hxa
      generalize hm : a.eval x = vx at hu
      cases hu
      rename_i u hu
      refine ⟨about_ok ro P _ w a.eval, ?_⟩
      rw [Oper.semAt_eq _ _ _ (by simp)]
      have hrun : (execOp a.eval { dst, op := .panic x, type, pos, after, guard }).run P w = .halt (.panic (.iface t u)) w := by
        simp only [execOp, hm]
        rfl
      rw [hrun]
      exact hk _ ρ w ⟨Ren.le_refl ρ, fun _ _ _ => rfl, hnx⟩ (r.nx_le hnx) (.iface _ _ _ hu)
    · cases h1
  case defer c =>
    obtain ⟨callee, args, argTypes⟩ := c
    simp only at hev
    cases callee with
    | invoke _ _ => cases hev
    | builtin b => cases hev
    | value f =>
      obtain ⟨fa, hfa, h1⟩ := ob_some.1 hev
      obtain ⟨xs, hxs, h2⟩ := ob_some.1 h1
      obtain ⟨t, ht, h3⟩ := ob_some.1 h2
      clear hev h1 h2
      split at h3
      · rename_i g args'
        injection h3 with h3; subst h3
        obtain ⟨rfl, hk⟩ := hk
        have hfr := hX _ _ hfa
        have hxr := xsL_sound hX hxs
        rw [show args.toList.map a.eval = (args.map a.eval).toList by rw [Array.toList_map]] at hxr
        refine ⟨about_ok none P _ w a.eval, ?_⟩
        show Oper.uponIn _ _ _ _ _ _ _ ((Oper.semAt none a.eval _).run P w)
        rw [Oper.semAt_none]
        unfold evTarget at ht
        split at ht
        · rename_i g0 first cap
          injection ht with ht; injection ht with ht1 ht2; subst ht1; subst ht2
          generalize hfe : a.eval f = fv at hfr
          cases hfr with
          | fn _ _ _ va vc ha hc =>
            have hrun : (execOp a.eval { dst, op := .defer { callee := .value f, args, argTypes }, type, pos, after, guard }).run P w = .ok (.defer { target := .fn (.func g0) vc.toArray, args := (va ++ (args.map a.eval).toList).toArray }) w := by
              simp only [execOp, resolve, hfe, Deferred.ofValue, Sem.run_bind, Sem.run_pure, Result.andThen_ok]
              congr 3
              apply Array.ext'
              simp
            rw [hrun]
            exact hk (va ++ (args.map a.eval).toList) vc ⟨Ren.le_refl ρ, fun _ _ => rfl, hnx⟩ (r.nx_le hnx) (by rw [List.append_assoc]; exact ha.append (hxr.append hc))
        · injection ht with ht; cases ht
        · cases ht
      · cases h3

theorem evOp_sound {P : Program} {call : CallF} (hcall : CallOK P call) {E : Env} {F : Nat → Option Obj} {nx nx' : Nat} {ρ : Ren} {H : Tr AObj} {w : World} (r : Rel E F nx ρ H.get w)
    {X : Operand → Option AV} {a : Act} (hX : XR ρ X a.eval) {ni : Nat} (hni : ρ ni = none) (hnx : nx ≤ nx') (hni' : ni < nx') {o : Oper} {res : CR}
    (hev : evOp P call X H ni nx nx' o.op = some res) {ro : Option Nat} {next : Act → World → Prop} {Q : Exit → Act → World → Prop}
    (hk : NextOK E F ni nx ρ o a w ro next Q res) : o.wpIn (FW ro) 0 P a w next Q := by
  unfold evOp at hev
  cases hp : evPure2 P H X o.op with
  | some av =>
    rw [hp] at hev
    injection hev with hev; subst hev
    obtain ⟨u, h4, h5⟩ := evPure2_sound r (HS.refl ρ H) hX o hp
    exact wpIn_of_yield (pure2_nodefer hp) (.inl h4) (hk u ρ w (RX.refl _ ρ).ry r h5)
  | none =>
    rw [hp] at hev
    cases hn : evNew P X ni o.op with
    | some p =>
      rw [hn] at hev
      obtain ⟨av, obj⟩ := p
      injection hev with hev; subst hev
      obtain ⟨u, w1, c, cap, h4, h5, h6, h7⟩ := evNew_sound (P := P) (w := w) hX hni o hn
      refine wpIn_of_yield (new_nodefer hn) (.inl h4) ?_
      rcases h5 with rfl | rfl
      · have := r.alloc hni hnx hni' h6
        exact hk u _ _ ⟨this.2, fun x _ hx => by simp [hx], hnx⟩ (by rw [get_set_fun]; exact this.1) h7
      · have := r.drew.alloc hni hnx hni' h6
        exact hk u _ _ ⟨this.2, fun x _ hx => by simp [hx], hnx⟩ (by rw [get_set_fun]; exact this.1) h7
    | none =>
      rw [hn] at hev
      exact evHeavy_sound hcall r hX hni hnx hni' hev hk

end Go.Ev
