/- The evaluator, part M: ranges, functions, all of it, given the regions whose order is open. -/
import Derived.Test.YtmeblifndelpbaaEvL
namespace Go.Ev

theorem jumpX_some {c : Option Code} {x : AX} (h : jumpX c = some x) : c = x.jump := by
  unfold jumpX at h
  split at h <;> first | (cases h; done) | (injection h with h; subst h; rfl)

theorem jump_wp {P : Program} {ro : Option Nat} {Q : Exit → Act → World → Prop} {a : Act} {w : World} (x : AX) (h : Q x.ex a w) :
    match x.jump with
    | none => Q .normal a w
    | some c => c.wpIn (FW ro) 0 P Q a w := by
  cases x with
  | nrm => exact h
  | exit id => exact wpIn_exit h
  | goto l => exact wpIn_goto h
  | ret => exact wpIn_ret h

/-- The one call, and what is behind it. -/
theorem evRange2_sound {P : Program} {En : Evs} (hcall : CallOK P En.call) {f : AV} {l : Nat} {s s' : St} {x : AX} (h : evRange2 En f l s = some (.mk x s'))
    {E : Env} {F : Nat → Option Obj} {ρ : Ren} {a : Act} {w : World} {ro : Option Nat} {Q : Exit → Act → World → Prop} {g : Operand} {b : Blk} (hs : SR E F ρ s a w ro) (hb : ρ l = some b)
    (hf : VR ρ f (a.eval g)) (hq : ∀ ρ' w', RX s.nx s'.nx ρ ρ' → SR E F ρ' s' a w' ro → Q x.ex a w') :
    ∃ (d : Deferred) (w1' : World) (fi : FuncId) (args : Array Value) (w2 : World), (resolve a.eval (rangeCall g b.b) 0).run P w = .ok d w1' ∧ (invoke d.target d.args).run P w1' = .ok (.enter fi args) w2 ∧
      CallsIn (FW ro) 0 P fi args w2 (rangePost (FW ro) 0 P b.b Q a) := by
  obtain ⟨t, ht, h1⟩ := ob_some.1 h
  obtain ⟨hisf, h1'⟩ := gd_some.1 h1
  obtain ⟨r, hr, h2⟩ := ob_some.1 h1'
  obtain ⟨v, H, nx⟩ := r
  obtain ⟨o, ho, h3⟩ := ob_some.1 (show (ob (H.get l) fun o => match o with
      | .loop st pend _ _ _ _ _ _ => ob (jumpX pend) fun x => ob (loopSet H l fun _ _ => match st with
          | .busy => none
          | _ => some (.exhausted, pend)) fun H' => some (.mk x ⟨s.N, s.T, H', nx, s.ro, s.D⟩)
      | _ => none) = some (XR2.mk x s') from h2)
  clear h h1 h1' h2
  cases o with
  | loop st pend T N ps asg body d =>
    obtain ⟨x1, hx1, h4⟩ := ob_some.1 h3
    obtain ⟨H1, hH1, h5⟩ := ob_some.1 h4
    injection h5 with h5; injection h5 with h5 h6; subst h5; subst h6
    clear h3 h4
    have hpend := jumpX_some hx1
    obtain ⟨st1, p1, T1, N1, ps1, asg1, body1, d1, st1', p1', g1, g2, g3⟩ := loopSet_some hH1
    rw [ho] at g1
    injection g1 with g1
    injection g1 with g1 g4 g5 g6 g7 g8 g9 g10
    subst g1; subst g4
    have hok := hcall t s.H s.nx v H nx hr E F ρ w hs.rel
    unfold evTarget at ht
    have hargs : VRL ρ [AV.yld l] [Value.func (.yield b.b) #[] #[]] := .cons _ _ _ _ (.yld l b hb) .nil
    have hpost : ∀ e w', Ends E F s.nx ρ v H nx e w' → rangePost (FW ro) 0 P b.b Q a e w' := by
      rintro e w' ⟨u, ρ', rfl, hx, hrel, hv⟩
      have hle := hx.le
      have hb' := hle _ _ hb
      obtain ⟨fn, tmps, bd, hheap, _, _, _, hset⟩ := loop_at hrel hb' ho
      have hnb : st ≠ .busy ∧ st1' = .exhausted ∧ p1' = pend := by
        cases st <;> first | (cases g2; done) | (injection g2 with g2; injection g2 with g11 g12; exact ⟨by simp, g11.symm, g12.symm⟩)
      obtain ⟨hnb1, rfl, rfl⟩ := hnb
      refine ⟨p1', _, run_endLoop hheap hnb1, ?_⟩
      have hsr : SR E F ρ' ⟨s.N, s.T, H1, nx, s.ro, s.D⟩ a (w'.putObj b.b (.loop { state := .exhausted, pending := p1', fn, tmps, params := ps, assign := asg, body, defers := bd })) ro := by
        refine ⟨?_, hs.tr.mono hle, hs.size, hs.dr.mono hle, hs.rr.mono hle⟩
        show Rel E F nx ρ' H1.get _
        rw [g3]
        subst g5; subst g6; subst g7; subst g8; subst g9; subst g10
        exact hset .exhausted p1'
      have hq' := hq ρ' _ hx hsr
      have := jump_wp (P := P) (ro := ro) (Q := Q) (a := a) x1 hq'
      rw [← hpend] at this
      exact this
    split at ht
    · rename_i gi first cap
      injection ht with ht; subst ht
      generalize hfe : a.eval g = fv at hf
      cases hf with
      | fn _ _ _ va vc ha hc =>
        obtain ⟨⟨fn, c, hfn, hnm, hbd⟩, hcalls⟩ := hok
        have hc' := hcalls _ (ha.append (hargs.append hc))
        refine ⟨{ target := .fn (.func gi) vc.toArray, args := va.toArray ++ #[.func (.yield b.b) #[] #[]] }, w, gi, (va ++ ([Value.func (.yield b.b) #[] #[]] ++ vc)).toArray, w, ?_, ?_, ?_⟩
        · unfold resolve rangeCall
          have hm : Array.map a.eval #[Operand.const (Value.func (Fn.yield b.b) #[] #[])] = #[Value.func (Fn.yield b.b) #[] #[]] := by simp [Act.eval]
          simp only [hfe, Deferred.ofValue, hm]
          rfl
        · simp only [invoke, callFunc, Sem.run_bind, run_program, Result.andThen_ok, hfn, hnm, Bool.false_eq_true, if_false, hbd, Option.isNone_some, Sem.run_pure]
          congr 2
          apply Array.ext'
          simp
        · have hm := CallsIn.mono hc' hpost
          cases ro with
          | none => exact hm
          | some _ => exact hm
    · rename_i id
      injection ht with ht; subst ht
      cases hisf
    · cases ht
  | _ => cases h3


theorem evRange_sound {P : Program} {En : Evs} (hcall : CallOK P En.call) {f : Operand} {ps : Array Tmp} {asg body : Code} {s s' : St} {x : AX} (h : evRange En f ps asg body s = some (.mk x s'))
    {E : Env} {F : Nat → Option Obj} {ρ : Ren} {a : Act} {w : World} {ro : Option Nat} {Q : Exit → Act → World → Prop} (hs : SR E F ρ s a w ro)
    (hq : ∀ ρ' a' w', RX s.nx s'.nx ρ ρ' → SR E F ρ' s' a' w' ro → Q x.ex a' w') : (Code.rangeFunc f ps asg body).wpIn (FW ro) 0 P Q a w := by
  refine wpIn_rangeFunc fun fn _ => ?_
  obtain ⟨fa, hfa, h1⟩ := ob_some.1 h
  clear h
  have hfr := hs.tr.xr _ _ hfa
  have hrr := hs.rr
  cases hro : s.ro with
  | none =>
    rw [hro] at h1 hrr
    cases hrr
    have h2 : evRange2 En fa (s.nx + 1) ⟨s.N, s.T, (s.H.set s.nx (.dfr true)).set (s.nx + 1) (.loop .ready none s.T s.N ps asg body s.nx), s.nx + 1 + 1, s.ro, .mark s.nx :: s.D⟩ = some (.mk x s') := by
      rw [hro]
      simpa only [fN_eq] using h1
    have hn0 := hs.rel.new s.nx (Nat.le_refl _)
    have A1 := hs.rel.alloc (nx' := s.nx + 1) hn0 (Nat.le_succ _) (Nat.lt_succ_self _) (cap := 0) (a := .dfr true) (o := .deferred (some [])) (.dfr true)
    obtain ⟨A1r, A1l⟩ := A1
    rw [← get_set_fun] at A1r
    have hn1 := A1r.new (s.nx + 1) (Nat.le_refl _)
    have hput0 : (fun j => if j = s.nx then some (⟨w.heap.size, 0, 0⟩ : Blk) else ρ j) s.nx = some ⟨w.heap.size, 0, 0⟩ := by simp
    let ρ1 : Ren := fun j => if j = s.nx then some (⟨w.heap.size, 0, 0⟩ : Blk) else ρ j
    let blk : Blk := ⟨(w.alloc (.deferred (some []))).heap.size, 0, 0⟩
    let ρ2 : Ren := fun j => if j = s.nx + 1 then some blk else ρ1 j
    have hl12 : ρ1.le ρ2 := Ren.le_put (ρ := ρ1) hn1 blk
    have A2 := A1r.alloc (nx' := s.nx + 1 + 1) hn1 (Nat.le_succ _) (Nat.lt_succ_self _) (cap := 0) (a := .loop .ready none s.T s.N ps asg body s.nx)
      (o := .loop { state := .ready, pending := none, fn, tmps := a.tmps, params := ps, assign := asg, body, defers := w.heap.size })
      (.loop .ready none s.T s.N ps asg body s.nx fn a.tmps ⟨w.heap.size, 0, 0⟩ (hs.tr.mono (Ren.le_trans A1l hl12)) hs.size (hl12 _ _ hput0))
    obtain ⟨A2r, A2l⟩ := A2
    rw [← get_set_fun] at A2r
    have hle : ρ.le ρ2 := Ren.le_trans A1l hl12
    have hb : ρ2 (s.nx + 1) = some blk := by simp [ρ2]
    have hsr : SR E F ρ2 ⟨s.N, s.T, (s.H.set s.nx (.dfr true)).set (s.nx + 1) (.loop .ready none s.T s.N ps asg body s.nx), s.nx + 1 + 1, s.ro, .mark s.nx :: s.D⟩
        { a with defers := [{ target := .collected w.heap.size, args := #[] }] ++ a.defers } ((w.alloc (.deferred (some []))).alloc (.loop { state := .ready, pending := none, fn, tmps := a.tmps, params := ps, assign := asg, body, defers := w.heap.size })) none := by
      refine ⟨A2r, hs.tr.mono hle, hs.size, ?_, by rw [hro]; exact .none⟩
      exact .mark s.nx ⟨w.heap.size, 0, 0⟩ _ _ (hl12 _ _ hput0) (hs.dr.mono hle)
    obtain ⟨d, w1', fi, args, w2, g1, g2, g3⟩ := evRange2_sound hcall h2 (g := f) hsr hb (hfr.mono hle) (Q := Q) fun ρ' w' hle' hs' => hq ρ' _ w' (RX.trans ⟨hle, fun i hi => by simp [ρ2, ρ1, Nat.ne_of_lt hi, Nat.ne_of_lt (Nat.lt_succ_of_lt hi)], by show s.nx ≤ s.nx + 1 + 1; omega⟩ hle') hs'
    refine ⟨w.heap.size + 1, [{ target := .collected w.heap.size, args := #[] }], _, d, w1', fi, args, w2, run_enterLoop_outer fn a.tmps ps asg body, ?_, fun _ _ => trivial, g2, by simp [FW, Fence.wide], ?_⟩
    · have e : blk.b = w.heap.size + 1 := by simp [blk]
      rw [e] at g1; exact g1
    · have e : blk.b = w.heap.size + 1 := by simp [blk]
      rw [e] at g3; exact g3
  | some l0 =>
    rw [hro] at h1 hrr
    cases hrr with
    | some _ b0 hb0 =>
      obtain ⟨d, hd, h1'⟩ := ob_some.1 h1
      have h2 : evRange2 En fa s.nx ⟨s.N, s.T, s.H.set s.nx (.loop .ready none s.T s.N ps asg body d), s.nx + 1, s.ro, s.D⟩ = some (.mk x s') := by
        rw [hro]
        simpa only [fN_eq] using h1'
      obtain ⟨o, ho, hd'⟩ := ob_some.1 hd
      cases o with
      | loop st0 p0 T0 N0 ps0 asg0 body0 d0 =>
        injection hd' with hd'
        subst hd'
        obtain ⟨fn0, tmps0, bd0, hheap0, _, _, ⟨bb, hbb, hbd0⟩, _⟩ := loop_at hs.rel hb0 ho
        subst hbd0
        have hn0 := hs.rel.new s.nx (Nat.le_refl _)
        let blk : Blk := ⟨w.heap.size, 0, 0⟩
        let ρ2 : Ren := fun j => if j = s.nx then some blk else ρ j
        have hle : ρ.le ρ2 := Ren.le_put (ρ := ρ) hn0 blk
        have A2 := hs.rel.alloc (nx' := s.nx + 1) hn0 (Nat.le_succ _) (Nat.lt_succ_self _) (cap := 0) (a := .loop .ready none s.T s.N ps asg body d0)
          (o := .loop { state := .ready, pending := none, fn, tmps := a.tmps, params := ps, assign := asg, body, defers := bb.b })
          (.loop .ready none s.T s.N ps asg body d0 fn a.tmps bb (hs.tr.mono hle) hs.size (hle _ _ hbb))
        obtain ⟨A2r, A2l⟩ := A2
        rw [← get_set_fun] at A2r
        have hb : ρ2 s.nx = some blk := by simp [ρ2]
        have hsr : SR E F ρ2 ⟨s.N, s.T, s.H.set s.nx (.loop .ready none s.T s.N ps asg body d0), s.nx + 1, s.ro, s.D⟩
            { a with defers := [] ++ a.defers } (w.alloc (.loop { state := .ready, pending := none, fn, tmps := a.tmps, params := ps, assign := asg, body, defers := bb.b })) (some b0.b) :=
          ⟨A2r, hs.tr.mono hle, hs.size, hs.dr.mono hle, by rw [hro]; exact .some l0 b0 (hle _ _ hb0)⟩
        obtain ⟨dd, w1', fi, args, w2, g1, g2, g3⟩ := evRange2_sound hcall h2 (g := f) hsr hb (hfr.mono hle) (Q := Q) fun ρ' w' hle' hs' => hq ρ' _ w' (RX.trans ⟨hle, fun i hi => by simp [ρ2, Nat.ne_of_lt hi], by show s.nx ≤ s.nx + 1; omega⟩ hle') hs'
        refine ⟨w.heap.size, [], _, dd, w1', fi, args, w2, ?_, g1, fun _ _ => trivial, g2, by simp [FW, Fence.wide], g3⟩
        show (Instr.enterLoop fn a.tmps ps asg body (some b0.b)).run P w = _
        unfold Instr.enterLoop
        simp only [Sem.run_bind, run_getLoop hheap0, Result.andThen_ok, Sem.run_pure, run_newObj]
        rfl
      | _ => cases hd'

/-! ### functions -/
theorem evRes_sound {P : Program} {E : Env} {F : Nat → Option Obj} {nx : Nat} {ρ : Ren} {H : Tr AObj} {w : World} (r : Rel E F nx ρ H.get w) {T : Tr AV} {tmps : Array Value} (ht : TR ρ T tmps)
    {rv : ResultVar} {v : AV} (h : evRes P H T rv = some v) :
    ∃ u, ((match rv with | .tmp t => pure (tmps.getD t undef) | .cell a t => do loadVar t (← asAddr (tmps.getD a undef)) : Sem Value)).run P w = .ok u w ∧ VR ρ v u := by
  cases rv with
  | tmp t =>
    obtain ⟨u, hu, hr⟩ := ht t v h
    exact ⟨u, by simp [hu], hr⟩
  | cell a t =>
    obtain ⟨p, hp, h1⟩ := ob_some.1 h
    obtain ⟨u, hu, hr⟩ := ht a p hp
    obtain ⟨z, h2, h3⟩ := evLoad_sound (P := P) r (HS.refl ρ H) hr h1
    refine ⟨z, ?_, h3⟩
    unfold evLoad at h1
    split at h1
    · rename_i id off
      cases hr with
      | ptr _ _ b hb =>
        have h2' : (loadVar t ⟨b.b, b.ob + off, none⟩).run P w = .ok z w := by simpa [Instr.loadAt, Instr.sureAddr] using h2
        simp [hu, asAddr, h2']
    · cases h1

theorem evResL_sound {P : Program} {E : Env} {F : Nat → Option Obj} {nx : Nat} {ρ : Ren} {H : Tr AObj} {w : World} (r : Rel E F nx ρ H.get w) {T : Tr AV} {tmps : Array Value} (ht : TR ρ T tmps) :
    ∀ (l : List ResultVar) (vs : List AV), evResL P H T l = some vs → ∃ us : List Value, (l.mapM fun rv => (match rv with | .tmp t => pure (tmps.getD t undef) | .cell a t => do loadVar t (← asAddr (tmps.getD a undef)) : Sem Value)).run P w = .ok us w ∧ VRL ρ vs us
  | [], vs, h => by injection h with h; subst h; exact ⟨[], by simp, .nil⟩
  | rv :: l, vs, h => by
    obtain ⟨a, ha, h1⟩ := ob_some.1 (show (ob (evRes P H T rv) fun a => ob (evResL P H T l) fun l => some (a :: l)) = some vs from h)
    obtain ⟨l', hl, h2⟩ := ob_some.1 h1
    injection h2 with h2; subst h2
    obtain ⟨u, hu, hr⟩ := evRes_sound r ht ha
    obtain ⟨us, hus, hrs⟩ := evResL_sound r ht l l' hl
    refine ⟨u :: us, ?_, .cons _ _ _ _ hr hrs⟩
    simp only [List.mapM_cons, Sem.run_bind, hu, Result.andThen_ok, hus, Sem.run_pure]

theorem evResults_sound {P : Program} {E : Env} {F : Nat → Option Obj} {nx : Nat} {ρ : Ren} {H : Tr AObj} {w : World} (r : Rel E F nx ρ H.get w) {T : Tr AV} {tmps : Array Value} (ht : TR ρ T tmps)
    {fn : Func} {v : AV} (h : evResults P H T fn.results.toList = some v) : ∃ u, (results fn tmps).run P w = .ok u w ∧ VR ρ v u := by
  obtain ⟨vs, hvs, h1⟩ := ob_some.1 h
  obtain ⟨us, hus, hrs⟩ := evResL_sound r ht _ _ hvs
  have hrun : ∀ K : Array Value → Sem Value, ((fn.results.mapM fun rv => (match rv with | .tmp t => pure (tmps.getD t undef) | .cell a t => do loadVar t (← asAddr (tmps.getD a undef)) : Sem Value)) >>= K).run P w = (K us.toArray).run P w := fun K => by
    rw [Array.mapM_eq_mapM_toList]
    simp only [Sem.run_bind, Sem.run_map, hus, Result.andThen_ok]
  unfold results
  split at h1
  · rename_i v1
    injection h1 with h1; subst h1
    cases hrs with
    | cons _ u _ us' hr hs =>
      cases hs
      refine ⟨u, ?_, hr⟩
      refine Eq.trans (hrun fun vs => pure (if h : vs.size = 1 then vs[0] else .tuple vs)) ?_
      simp
  · rename_i hne
    injection h1 with h1; subst h1
    refine ⟨.tuple us.toArray, ?_, .tup _ _ hrs⟩
    have hsz : us.toArray.size ≠ 1 := by
      intro hs1
      have : vs.length = 1 := by rw [hrs.length]; simpa using hs1
      match vs, this with
      | [v1], _ => exact hne v1 rfl
    refine Eq.trans (hrun fun vs => pure (if h : vs.size = 1 then vs[0] else .tuple vs)) ?_
    rw [dif_neg hsz]
    rfl


theorem evLeave_sound {P : Program} {E : Env} {F : Nat → Option Obj} {nx : Nat} {ρ : Ren} {fn : Func} {tmps : Array Value} {R : Ending → World → Prop} {H' : Tr AObj} :
    ∀ (D : List ADef) (ds : List Deferred) (H : Tr AObj) (w : World), DR ρ D ds → evLeave D H = some H' → Rel E F nx ρ H.get w →
      (∀ w', Rel E F nx ρ H'.get w' → ∃ v, (results fn tmps).run P w' = .ok v w' ∧ R (.returned v) w') → LeavesInM (FW none) 0 P fn tmps R ds .returning w
  | _, _, H, w, .nil, h, r, hr => by
    injection h with h; subst h
    exact hr w r
  | _, _, H, w, .mark id b l ds hb hs, h, r, hr => by
    obtain ⟨o, ho, h1⟩ := ob_some.1 (show (ob (H.get id) fun o => match o with
        | .dfr true => evLeave l (H.set id (.dfr false))
        | _ => none) = some H' from h)
    cases o with
    | dfr op =>
      cases op with
      | false => cases h1
      | true =>
        obtain ⟨c, hc, hor⟩ := r.ob _ _ b ho hb
        cases hor
        refine ⟨by simp, .inl ⟨b.b, _, rfl, run_takeDeferred hc, ?_⟩⟩
        refine evLeave_sound l ds (H.set id (.dfr false)) _ hs h1 ?_ hr
        rw [get_set_fun]
        exact r.put ho hb (.dfr false) (putObj_heap w b.b _ _ hc) rfl rfl rfl
    | _ => cases h1

theorem setArgs_tr {ρ : Ren} {args : List AV} {vs : List Value} (h : VRL ρ args vs) (m : Nat) : TR ρ (setArgs args .leaf 0) (vs.toArray ++ Array.replicate m undef) := by
  intro t a ht
  have key : ∀ (l : List AV) (c : Tr AV) (k j : Nat), (writeL l c k).get j = if k ≤ j ∧ j < k + l.length then l[j - k]? else c.get j := by
    intro l
    induction l with
    | nil => intro c k j; rw [if_neg (by simp)]; rfl
    | cons x l ih =>
      intro c k j
      show (fN (k + 1) fun k' => writeL l (c.set k x) k').get j = _
      rw [fN_eq, ih]
      simp only [List.length_cons]
      by_cases h4 : k + 1 ≤ j ∧ j < k + 1 + l.length
      · rw [if_pos h4, if_pos (by omega), show j - k = (j - (k + 1)) + 1 by omega]; simp
      · rw [if_neg h4]
        by_cases h5 : j = k
        · subst h5
          rw [if_pos (by omega), Nat.sub_self, Tr.get_set_same]; rfl
        · rw [if_neg (by omega), Tr.get_set_ne _ (fun e => h5 e.symm)]
  have h1 : (writeL args .leaf 0).get t = some a := ht
  rw [key] at h1
  split at h1
  · rename_i hlt
    obtain ⟨v, hv, hr⟩ := h.get _ a h1
    refine ⟨v, ?_, hr⟩
    have hl := h.length
    rw [Array.getElem?_append, if_pos (by simp; omega)]
    simpa using hv
  · rw [Tr.get_leaf] at h1; cases h1

theorem evFunc_sound {P : Program} {En : Evs} (hcode : CodeOK P En.code) {f : FuncId} {args : List AV} {H H' : Tr AObj} {nx nx' : Nat} {v : AV} (h : evFunc P En f args H nx = some (.mk v H' nx'))
    {E : Env} {F : Nat → Option Obj} {ρ : Ren} {w : World} (r : Rel E F nx ρ H.get w) : TgtOK P (.fn f args) w ρ (Ends E F nx ρ v H' nx') := by
  obtain ⟨fn, hfn, h1⟩ := ob_some.1 h
  obtain ⟨hnm, h2⟩ := gd_some.1 h1
  obtain ⟨c, hc, h3⟩ := ob_some.1 h2
  simp only [fN_eq] at h3
  obtain ⟨⟨x, s⟩, hr, h4⟩ := ob_some.1 h3
  clear h h1 h2 h3
  refine ⟨⟨fn, c, hfn, by simpa using hnm, hc⟩, fun vs hvs => ?_⟩
  refine callsIn_of_wp_marks hfn hc trivial ?_
  have hlen := hvs.length
  refine hcode c _ x s hr E F ρ { tmps := vs.toArray ++ Array.replicate (fn.ntmps - vs.toArray.size) undef, defers := [] } w none _
    ⟨r, setArgs_tr hvs _, by simp [hlen], .nil, .none⟩ fun ρ' a' w' hle hs' => ?_
  have h5 : (x.ex = .normal ∨ x.ex = .ret) ∧ (ob (evLeave s.D s.H) fun H' => ob (evResults P H' s.T fn.results.toList) fun v => some (.mk v H' s.nx)) = some (CR.mk v H' nx') := by
    cases x with
    | nrm => exact ⟨.inl rfl, h4⟩
    | ret => exact ⟨.inr rfl, h4⟩
    | exit _ => cases h4
    | goto _ => cases h4
  obtain ⟨hx, h6⟩ := h5
  obtain ⟨H1, hH1, h7⟩ := ob_some.1 h6
  obtain ⟨v1, hv1, h8⟩ := ob_some.1 h7
  injection h8 with h8; injection h8 with h8 h9 h10; subst h8; subst h9; subst h10
  have hl : LeavesInM (FW none) 0 P fn a'.tmps (Ends E F nx ρ v1 H1 s.nx) a'.defers .returning w' :=
    evLeave_sound s.D a'.defers s.H w' hs'.dr hH1 hs'.rel fun w'' hrel => by
      obtain ⟨u, hu, hur⟩ := evResults_sound (P := P) hrel hs'.tr hv1
      exact ⟨u, hu, u, ρ', rfl, hle, hrel, hur⟩
  rcases hx with hx | hx
  · rw [hx]; exact hl
  · rw [hx]; exact hl

/-! ### all of it -/
theorem codeF_sound {P : Program} {rounds : Nat} {En : Evs} (hD : DrawOK P) (hcode : CodeOK P En.code) (hcall : CallOK P En.call) : CodeOK P (codeF P rounds En) := by
  intro c s x s' h E F ρ a w ro Q hs hq
  cases c with
  | skip => injection h with h; injection h with h1 h2; subst h1; subst h2; exact wpIn_skip (hq ρ a w (RX.refl _ ρ) hs)
  | region id ops draw =>
    cases draw with
    | false =>
      obtain ⟨s1, hs1, h1⟩ := ob_some.1 (show (ob (evSeq P En.call ops ops.toList s) fun s' => some (XR2.mk .nrm s')) = some (.mk x s') from h)
      injection h1 with h1; injection h1 with h1 h2; subst h1; subst h2
      refine wpIn_region ?_
      have := evSeq_sound hcall (ops := ops) (E := E) (F := F) (ro := ro) (Q := Q) ops.toList 0 s s1 ρ a w (fun j o hj => by simpa using hj) hs1 hs hq
      rw [List.range_eq_range']
      simpa using this
    | true =>
      obtain ⟨s1, hs1, h1⟩ := ob_some.1 (show (ob (evDraw P En.call ops s) fun s' => some (XR2.mk .nrm s')) = some (.mk x s') from h)
      injection h1 with h1; injection h1 with h1 h2; subst h1; subst h2
      exact hD En.call ops s s1 hcall hs1 id E F ρ a w ro Q hs hq
  | seq p q =>
    obtain ⟨⟨x1, s1⟩, hr, h1⟩ := ob_some.1 (show (ob (En.code p s) fun r => XR2.rec (motive := fun _ => Option XR2) (fun x s' => onNrm x s' (En.code q)) r) = some (XR2.mk x s') from h)
    refine wpIn_seq (hcode p s x1 s1 hr E F ρ a w ro _ hs fun ρ' a' w' hle hs' => ?_)
    cases x1 with
    | nrm => exact hcode q s1 x s' h1 E F ρ' a' w' ro _ hs' fun ρ'' a'' w'' hle' hs'' => hq ρ'' a'' w'' (hle.trans hle') hs''
    | exit id => injection h1 with h2; injection h2 with h3 h4; subst h3; subst h4; exact hq ρ' a' w' hle hs'
    | goto l => injection h1 with h2; injection h2 with h3 h4; subst h3; subst h4; exact hq ρ' a' w' hle hs'
    | ret => injection h1 with h2; injection h2 with h3 h4; subst h3; subst h4; exact hq ρ' a' w' hle hs'
  | cond c p q =>
    obtain ⟨t, ht, h1⟩ := ob_some.1 (show (ob (evCond s.T c) fun t => cond t (En.code p s) (En.code q s)) = some (XR2.mk x s') from h)
    obtain ⟨v, hv, h2⟩ := ob_some.1 ht
    have hr := hs.tr.xr _ _ hv
    split at h2
    · rename_i b
      injection h2 with h2; subst h2
      generalize hce : a.eval c = cv at hr
      cases hr
      refine wpIn_cond hce ?_
      cases b with
      | true => exact hcode p s x s' h1 E F ρ a w ro Q hs hq
      | false => exact hcode q s x s' h1 E F ρ a w ro Q hs hq
    · cases h2
  | block id p =>
    obtain ⟨⟨x1, s1⟩, hr, h1⟩ := ob_some.1 (show (ob (En.code p s) fun r => XR2.rec (motive := fun _ => Option XR2) (fun x s' => onExit id x s') r) = some (XR2.mk x s') from h)
    refine wpIn_block (hcode p s x1 s1 hr E F ρ a w ro _ hs fun ρ' a' w' hle hs' => ?_)
    cases x1 with
    | nrm => injection h1 with h2; injection h2 with h3 h4; subst h3; subst h4; exact hq ρ' a' w' hle hs'
    | exit id' =>
      show if id' = id then Q .normal a' w' else Q (.exit id') a' w'
      have h1' : cond (Nat.beq id' id) (some (XR2.mk .nrm s1)) (some (.mk (.exit id') s1)) = some (.mk x s') := h1
      cases hb : Nat.beq id' id with
      | true =>
        rw [hb, cond_true] at h1'
        rw [Nat.beq_eq] at hb
        injection h1' with h2; injection h2 with h3 h4; subst h3; subst h4
        rw [if_pos hb]; exact hq ρ' a' w' hle hs'
      | false =>
        rw [hb, cond_false] at h1'
        injection h1' with h2; injection h2 with h3 h4; subst h3; subst h4
        rw [if_neg (fun e => by rw [← Nat.beq_eq, hb] at e; cases e)]; exact hq ρ' a' w' hle hs'
    | goto l => injection h1 with h2; injection h2 with h3 h4; subst h3; subst h4; exact hq ρ' a' w' hle hs'
    | ret => injection h1 with h2; injection h2 with h3 h4; subst h3; subst h4; exact hq ρ' a' w' hle hs'
  | loop p => exact wpIn_loop_rounds rounds (evRounds_sound (fun s x s' hr => hcode p s x s' hr) rounds s ρ a w h hs hq)
  | rangeFunc f ps asg body => exact evRange_sound hcall h hs hq
  | exit id => injection h with h; injection h with h1 h2; subst h1; subst h2; exact wpIn_exit (hq ρ a w (RX.refl _ ρ) hs)
  | label l => injection h with h; injection h with h1 h2; subst h1; subst h2; exact wpIn_label (hq ρ a w (RX.refl _ ρ) hs)
  | goto l => injection h with h; injection h with h1 h2; subst h1; subst h2; exact wpIn_goto (hq ρ a w (RX.refl _ ρ) hs)
  | ret => injection h with h; injection h with h1 h2; subst h1; subst h2; exact wpIn_ret (hq ρ a w (RX.refl _ ρ) hs)
  | scope _ => cases h
  | refuse _ => cases h

theorem evs_sound {P : Program} (hD : DrawOK P) (rounds : Nat) : ∀ n, CodeOK P (evs P rounds n).code ∧ CallOK P (evs P rounds n).call
  | 0 => ⟨(fun _ _ _ _ h => by cases h), (fun _ _ _ _ _ _ h => by cases h)⟩
  | n + 1 => by
    obtain ⟨h1, h2⟩ := evs_sound hD rounds n
    refine ⟨codeF_sound hD h1 h2, fun t H nx v H' nx' h E F ρ w r => ?_⟩
    cases t with
    | fn f args => exact evFunc_sound h1 h r
    | yld id args => exact evYield_sound h1 h r

end Go.Ev
