/- The evaluator, part M: ranges, functions, all of it, given the regions whose order is open. -/
import Derived.Test.YtdpohandjgnknaaGreatDoorEvL
import Derived.RecoverIn
namespace Go.Ev

theorem jumpX_some {c : Option Code} {x : AX} (h : jumpX c = some x) : c = x.jump ∧ x.calm = true := by
  unfold jumpX at h
  split at h <;> first | (cases h; done) | (injection h with h; subst h; exact ⟨rfl, rfl⟩)

theorem jump_wp {P : Program} {ro : Option Nat} {Q : Exit → Act → World → Prop} {a : Act} {w : World} {ρ : Ren} (x : AX) (hc : x.calm = true) (h : ExQ ρ x fun e => Q e a w) :
    match x.jump with
    | none => Q .normal a w
    | some c => c.wpIn (FW ro) 0 P Q a w := by
  cases x with
  | nrm => exact h
  | exit id => exact wpIn_exit h
  | goto l => exact wpIn_goto h
  | ret => exact wpIn_ret h
  | pan v => cases hc

/-- The one call, and what is behind it. -/
theorem evRange2_sound {P : Program} {En : Evs} (hcall : CallOK P En.call) {f : AV} {l : Nat} {s s' : St} {x : AX} (h : evRange2 En f l s = some (.mk x s'))
    {E : Env} {F : Nat → Option Obj} {ρ : Ren} {a : Act} {w : World} {ro : Option Nat} {Q : Exit → Act → World → Prop} {g : Operand} {b : Blk} (hs : SR E F ρ s a w ro) (hb : ρ l = some b)
    (hf : VR ρ f (a.eval g)) (hq : ∀ ρ' w', RX s.nx s'.nx ρ ρ' → SR E F ρ' s' a w' ro → ExQ ρ' x fun e => Q e a w') :
    ∃ (d : Deferred) (w1' : World) (fi : FuncId) (args : Array Value) (w2 : World), (resolve a.eval (rangeCall g b.b) 0).run P w = .ok d w1' ∧ (invoke d.target d.args).run P w1' = .ok (.enter fi args) w2 ∧
      CallsIn (FW ro) 0 P fi args w2 (rangePost (FW ro) 0 P b.b Q a) := by
  obtain ⟨t, ht, h1⟩ := ob_some.1 h
  obtain ⟨hisf, h1'⟩ := gd_some.1 h1
  obtain ⟨r, hr, h2⟩ := ob_some.1 h1'
  cases r with
  | pan _ _ _ => cases h2
  | dfr _ _ _ _ => cases h2
  | mk v H nx =>
  obtain ⟨o, ho, h3⟩ := ob_some.1 (show (ob (H.get l) fun o => match o with
      | .loop st pend _ _ _ _ _ _ => ob (jumpX pend) fun x => ob (loopSet H l fun _ _ => match st with
          | .busy => none
          | _ => some (.exhausted, pend)) fun H' => some (.mk x ⟨s.N, s.T, H', nx, s.ro, s.D⟩)
      | _ => none) = some (XR2.mk x s') from h2)
  clear h h1 h1' h2
  cases o with
  | loop st pend T N ps asg body d =>
    obtain ⟨x1, hx1, h4⟩ := ob_some.1 h3
    obtain ⟨H1, hH1, h5⟩ := ob_some.1 h4
    injection h5 with h5; injection h5 with h5 h6; subst h5; subst h6
    clear h3 h4
    obtain ⟨hpend, hcalm⟩ := jumpX_some hx1
    obtain ⟨st1, p1, T1, N1, ps1, asg1, body1, d1, st1', p1', g1, g2, g3⟩ := loopSet_some hH1
    rw [ho] at g1
    injection g1 with g1
    injection g1 with g1 g4 g5 g6 g7 g8 g9 g10
    subst g1; subst g4
    have hok := hcall t s.H s.nx (.mk v H nx) hr E F ρ w hs.rel
    unfold evTarget at ht
    have hargs : VRL ρ [AV.yld l] [Value.func (.yield b.b) #[] #[]] := .cons _ _ _ _ (.yld l b hb) .nil
    have hpost : ∀ e w', Ends E F s.nx ρ v H nx e w' → rangePost (FW ro) 0 P b.b Q a e w' := by
      rintro e w' ⟨u, ρ', rfl, hx, hrel, hv⟩
      have hle := hx.le
      have hb' := hle _ _ hb
      obtain ⟨fn, tmps, bd, hheap, _, _, _, hset⟩ := loop_at hrel hb' ho
      have hnb : st ≠ .busy ∧ st1' = .exhausted ∧ p1' = pend := by
        cases st <;> first | (cases g2; done) | (injection g2 with g2; injection g2 with g11 g12; exact ⟨by simp, g11.symm, g12.symm⟩)
      obtain ⟨hnb1, rfl, rfl⟩ := hnb
      refine ⟨p1', _, run_endLoop hheap hnb1, ?_⟩
      have hsr : SR E F ρ' ⟨s.N, s.T, H1, nx, s.ro, s.D⟩ a (w'.putObj b.b (.loop { state := .exhausted, pending := p1', fn, tmps, params := ps, assign := asg, body, defers := bd })) ro := by
        refine ⟨?_, hs.tr.mono hle, hs.size, hs.dr.mono hle, hs.rr.mono hle⟩
        show Rel E F nx ρ' H1.get _
        rw [g3]
        subst g5; subst g6; subst g7; subst g8; subst g9; subst g10
        exact hset .exhausted p1'
      have hq' := hq ρ' _ hx hsr
      have := jump_wp (P := P) (ro := ro) (Q := Q) (a := a) x1 hcalm hq'
      rw [← hpend] at this
      exact this
    split at ht
    · rename_i gi first cap
      injection ht with ht; subst ht
      generalize hfe : a.eval g = fv at hf
      cases hf with
      | fn _ _ _ va vc ha hc =>
        obtain ⟨⟨fn, c, hfn, hnm, hbd⟩, hcalls⟩ := hok
        have hc' := hcalls _ (ha.append (hargs.append hc))
        refine ⟨{ target := .fn (.func gi) vc.toArray, args := va.toArray ++ #[.func (.yield b.b) #[] #[]] }, w, gi, (va ++ ([Value.func (.yield b.b) #[] #[]] ++ vc)).toArray, w, ?_, ?_, ?_⟩
        · unfold resolve rangeCall
          have hm : Array.map a.eval #[Operand.const (Value.func (Fn.yield b.b) #[] #[])] = #[Value.func (Fn.yield b.b) #[] #[]] := by simp [Act.eval]
          simp only [hfe, Deferred.ofValue, hm]
          rfl
        · simp only [invoke, callFunc, Sem.run_bind, run_program, Result.andThen_ok, hfn, hnm, Bool.false_eq_true, if_false, hbd, Option.isNone_some, Sem.run_pure]
          congr 2
          apply Array.ext'
          simp
        · have hm := CallsIn.mono hc' hpost
          cases ro with
          | none => exact hm
          | some _ => exact hm
    · rename_i id
      injection ht with ht; subst ht
      cases hisf
    · cases ht
  | _ => cases h3


theorem evRange_sound {P : Program} {En : Evs} (hcall : CallOK P En.call) {f : Operand} {ps : Array Tmp} {asg body : Code} {s s' : St} {x : AX} (h : evRange En f ps asg body s = some (.mk x s'))
    {E : Env} {F : Nat → Option Obj} {ρ : Ren} {a : Act} {w : World} {ro : Option Nat} {Q : Exit → Act → World → Prop} (hs : SR E F ρ s a w ro)
    (hq : ∀ ρ' a' w', RX s.nx s'.nx ρ ρ' → SR E F ρ' s' a' w' ro → ExQ ρ' x fun e => Q e a' w') : (Code.rangeFunc f ps asg body).wpIn (FW ro) 0 P Q a w := by
  refine wpIn_rangeFunc fun fn _ => ?_
  obtain ⟨fa, hfa, h1⟩ := ob_some.1 h
  clear h
  have hfr := hs.tr.xr _ _ hfa
  have hrr := hs.rr
  cases hro : s.ro with
  | none =>
    rw [hro] at h1 hrr
    cases hrr
    have h2 : evRange2 En fa (s.nx + 1) ⟨s.N, s.T, (s.H.set s.nx (.dfr true)).set (s.nx + 1) (.loop .ready none s.T s.N ps asg body s.nx), s.nx + 1 + 1, s.ro, .mark s.nx :: s.D⟩ = some (.mk x s') := by
      rw [hro]
      simpa only [fN_eq] using h1
    have hn0 := hs.rel.new s.nx (Nat.le_refl _)
    have A1 := hs.rel.alloc (nx' := s.nx + 1) hn0 (Nat.le_succ _) (Nat.lt_succ_self _) (cap := 0) (a := .dfr true) (o := .deferred (some [])) (.dfr true)
    obtain ⟨A1r, A1l⟩ := A1
    rw [← get_set_fun] at A1r
    have hn1 := A1r.new (s.nx + 1) (Nat.le_refl _)
    have hput0 : (fun j => if j = s.nx then some (⟨w.heap.size, 0, 0⟩ : Blk) else ρ j) s.nx = some ⟨w.heap.size, 0, 0⟩ := by simp
    let ρ1 : Ren := fun j => if j = s.nx then some (⟨w.heap.size, 0, 0⟩ : Blk) else ρ j
    let blk : Blk := ⟨(w.alloc (.deferred (some []))).heap.size, 0, 0⟩
    let ρ2 : Ren := fun j => if j = s.nx + 1 then some blk else ρ1 j
    have hl12 : ρ1.le ρ2 := Ren.le_put (ρ := ρ1) hn1 blk
    have A2 := A1r.alloc (nx' := s.nx + 1 + 1) hn1 (Nat.le_succ _) (Nat.lt_succ_self _) (cap := 0) (a := .loop .ready none s.T s.N ps asg body s.nx)
      (o := .loop { state := .ready, pending := none, fn, tmps := a.tmps, params := ps, assign := asg, body, defers := w.heap.size })
      (.loop .ready none s.T s.N ps asg body s.nx fn a.tmps ⟨w.heap.size, 0, 0⟩ (hs.tr.mono (Ren.le_trans A1l hl12)) hs.size (hl12 _ _ hput0))
    obtain ⟨A2r, A2l⟩ := A2
    rw [← get_set_fun] at A2r
    have hle : ρ.le ρ2 := Ren.le_trans A1l hl12
    have hb : ρ2 (s.nx + 1) = some blk := by simp [ρ2]
    have hsr : SR E F ρ2 ⟨s.N, s.T, (s.H.set s.nx (.dfr true)).set (s.nx + 1) (.loop .ready none s.T s.N ps asg body s.nx), s.nx + 1 + 1, s.ro, .mark s.nx :: s.D⟩
        { a with defers := [{ target := .collected w.heap.size, args := #[] }] ++ a.defers } ((w.alloc (.deferred (some []))).alloc (.loop { state := .ready, pending := none, fn, tmps := a.tmps, params := ps, assign := asg, body, defers := w.heap.size })) none := by
      refine ⟨A2r, hs.tr.mono hle, hs.size, ?_, by rw [hro]; exact .none⟩
      exact .mark s.nx ⟨w.heap.size, 0, 0⟩ _ _ (hl12 _ _ hput0) (hs.dr.mono hle)
    obtain ⟨d, w1', fi, args, w2, g1, g2, g3⟩ := evRange2_sound hcall h2 (g := f) hsr hb (hfr.mono hle) (Q := Q) fun ρ' w' hle' hs' => hq ρ' _ w' (RX.trans ⟨hle, fun i hi => by simp [ρ2, ρ1, Nat.ne_of_lt hi, Nat.ne_of_lt (Nat.lt_succ_of_lt hi)], by show s.nx ≤ s.nx + 1 + 1; omega⟩ hle') hs'
    refine ⟨w.heap.size + 1, [{ target := .collected w.heap.size, args := #[] }], _, d, w1', fi, args, w2, run_enterLoop_outer fn a.tmps ps asg body, ?_, fun _ _ => trivial, g2, by simp [FW, Fence.wide], ?_⟩
    · have e : blk.b = w.heap.size + 1 := by simp [blk]
      rw [e] at g1; exact g1
    · have e : blk.b = w.heap.size + 1 := by simp [blk]
      rw [e] at g3; exact g3
  | some l0 =>
    rw [hro] at h1 hrr
    cases hrr with
    | some _ b0 hb0 =>
      obtain ⟨d, hd, h1'⟩ := ob_some.1 h1
      have h2 : evRange2 En fa s.nx ⟨s.N, s.T, s.H.set s.nx (.loop .ready none s.T s.N ps asg body d), s.nx + 1, s.ro, s.D⟩ = some (.mk x s') := by
        rw [hro]
        simpa only [fN_eq] using h1'
      obtain ⟨o, ho, hd'⟩ := ob_some.1 hd
      cases o with
      | loop st0 p0 T0 N0 ps0 asg0 body0 d0 =>
        injection hd' with hd'
        subst hd'
        obtain ⟨fn0, tmps0, bd0, hheap0, _, _, ⟨bb, hbb, hbd0⟩, _⟩ := loop_at hs.rel hb0 ho
        subst hbd0
        have hn0 := hs.rel.new s.nx (Nat.le_refl _)
        let blk : Blk := ⟨w.heap.size, 0, 0⟩
        let ρ2 : Ren := fun j => if j = s.nx then some blk else ρ j
        have hle : ρ.le ρ2 := Ren.le_put (ρ := ρ) hn0 blk
        have A2 := hs.rel.alloc (nx' := s.nx + 1) hn0 (Nat.le_succ _) (Nat.lt_succ_self _) (cap := 0) (a := .loop .ready none s.T s.N ps asg body d0)
          (o := .loop { state := .ready, pending := none, fn, tmps := a.tmps, params := ps, assign := asg, body, defers := bb.b })
          (.loop .ready none s.T s.N ps asg body d0 fn a.tmps bb (hs.tr.mono hle) hs.size (hle _ _ hbb))
        obtain ⟨A2r, A2l⟩ := A2
        rw [← get_set_fun] at A2r
        have hb : ρ2 s.nx = some blk := by simp [ρ2]
        have hsr : SR E F ρ2 ⟨s.N, s.T, s.H.set s.nx (.loop .ready none s.T s.N ps asg body d0), s.nx + 1, s.ro, s.D⟩
            { a with defers := [] ++ a.defers } (w.alloc (.loop { state := .ready, pending := none, fn, tmps := a.tmps, params := ps, assign := asg, body, defers := bb.b })) (some b0.b) :=
          ⟨A2r, hs.tr.mono hle, hs.size, hs.dr.mono hle, by rw [hro]; exact .some l0 b0 (hle _ _ hb0)⟩
        obtain ⟨dd, w1', fi, args, w2, g1, g2, g3⟩ := evRange2_sound hcall h2 (g := f) hsr hb (hfr.mono hle) (Q := Q) fun ρ' w' hle' hs' => hq ρ' _ w' (RX.trans ⟨hle, fun i hi => by simp [ρ2, Nat.ne_of_lt hi], by show s.nx ≤ s.nx + 1; omega⟩ hle') hs'
        refine ⟨w.heap.size, [], _, dd, w1', fi, args, w2, ?_, g1, fun _ _ => trivial, g2, by simp [FW, Fence.wide], g3⟩
        show (Instr.enterLoop fn a.tmps ps asg body (some b0.b)).run P w = _
        unfold Instr.enterLoop
        simp only [Sem.run_bind, run_getLoop hheap0, Result.andThen_ok, Sem.run_pure, run_newObj]
        rfl
      | _ => cases hd'

/-! ### functions -/
theorem evRes_sound {P : Program} {E : Env} {F : Nat → Option Obj} {nx : Nat} {ρ : Ren} {H : Tr AObj} {w : World} (r : Rel E F nx ρ H.get w) {T : Tr AV} {tmps : Array Value} (ht : TR ρ T tmps)
    {rv : ResultVar} {v : AV} (h : evRes P H T rv = some v) :
    ∃ u, ((match rv with | .tmp t => pure (tmps.getD t undef) | .cell a t => do loadVar t (← asAddr (tmps.getD a undef)) : Sem Value)).run P w = .ok u w ∧ VR ρ v u := by
  cases rv with
  | tmp t =>
    obtain ⟨u, hu, hr⟩ := ht t v h
    exact ⟨u, by simp [hu], hr⟩
  | cell a t =>
    obtain ⟨p, hp, h1⟩ := ob_some.1 h
    obtain ⟨u, hu, hr⟩ := ht a p hp
    obtain ⟨z, h2, h3⟩ := evLoad_sound (P := P) r (HS.refl ρ H) hr h1
    refine ⟨z, ?_, h3⟩
    unfold evLoad at h1
    split at h1
    · rename_i id off
      cases hr with
      | ptr _ _ b hb =>
        have h2' : (loadVar t ⟨b.b, b.ob + off, none⟩).run P w = .ok z w := by simpa [Instr.loadAt, Instr.sureAddr] using h2
        simp [hu, asAddr, h2']
    · rename_i g off
      cases hr with
      | gptr _ _ =>
        have h2' : (loadVar t ⟨g, off, none⟩).run P w = .ok z w := by simpa [Instr.loadAt, Instr.sureAddr] using h2
        simp [hu, asAddr, h2']
    · cases h1

theorem evResL_sound {P : Program} {E : Env} {F : Nat → Option Obj} {nx : Nat} {ρ : Ren} {H : Tr AObj} {w : World} (r : Rel E F nx ρ H.get w) {T : Tr AV} {tmps : Array Value} (ht : TR ρ T tmps) :
    ∀ (l : List ResultVar) (vs : List AV), evResL P H T l = some vs → ∃ us : List Value, (l.mapM fun rv => (match rv with | .tmp t => pure (tmps.getD t undef) | .cell a t => do loadVar t (← asAddr (tmps.getD a undef)) : Sem Value)).run P w = .ok us w ∧ VRL ρ vs us
  | [], vs, h => by injection h with h; subst h; exact ⟨[], by simp, .nil⟩
  | rv :: l, vs, h => by
    obtain ⟨a, ha, h1⟩ := ob_some.1 (show (ob (evRes P H T rv) fun a => ob (evResL P H T l) fun l => some (a :: l)) = some vs from h)
    obtain ⟨l', hl, h2⟩ := ob_some.1 h1
    injection h2 with h2; subst h2
    obtain ⟨u, hu, hr⟩ := evRes_sound r ht ha
    obtain ⟨us, hus, hrs⟩ := evResL_sound r ht l l' hl
    refine ⟨u :: us, ?_, .cons _ _ _ _ hr hrs⟩
    simp only [List.mapM_cons, Sem.run_bind, hu, Result.andThen_ok, hus, Sem.run_pure]

theorem evResults_sound {P : Program} {E : Env} {F : Nat → Option Obj} {nx : Nat} {ρ : Ren} {H : Tr AObj} {w : World} (r : Rel E F nx ρ H.get w) {T : Tr AV} {tmps : Array Value} (ht : TR ρ T tmps)
    {fn : Func} {v : AV} (h : evResults P H T fn.results.toList = some v) : ∃ u, (results fn tmps).run P w = .ok u w ∧ VR ρ v u := by
  obtain ⟨vs, hvs, h1⟩ := ob_some.1 h
  obtain ⟨us, hus, hrs⟩ := evResL_sound r ht _ _ hvs
  have hrun : ∀ K : Array Value → Sem Value, ((fn.results.mapM fun rv => (match rv with | .tmp t => pure (tmps.getD t undef) | .cell a t => do loadVar t (← asAddr (tmps.getD a undef)) : Sem Value)) >>= K).run P w = (K us.toArray).run P w := fun K => by
    rw [Array.mapM_eq_mapM_toList]
    simp only [Sem.run_bind, Sem.run_map, hus, Result.andThen_ok]
  unfold results
  split at h1
  · rename_i v1
    injection h1 with h1; subst h1
    cases hrs with
    | cons _ u _ us' hr hs =>
      cases hs
      refine ⟨u, ?_, hr⟩
      refine Eq.trans (hrun fun vs => pure (if h : vs.size = 1 then vs[0] else .tuple vs)) ?_
      simp
  · rename_i hne
    injection h1 with h1; subst h1
    refine ⟨.tuple us.toArray, ?_, .tup _ _ hrs⟩
    have hsz : us.toArray.size ≠ 1 := by
      intro hs1
      have : vs.length = 1 := by rw [hrs.length]; simpa using hs1
      match vs, this with
      | [v1], _ => exact hne v1 rfl
    refine Eq.trans (hrun fun vs => pure (if h : vs.size = 1 then vs[0] else .tuple vs)) ?_
    rw [dif_neg hsz]
    rfl


/-! ### deferred calls -/
inductive MR (ρ : Ren) : MD → FrameMode → Prop where
  | ret : MR ρ .ret .returning
  | pan (v : AV) (u : Value) (h : VR ρ v u) : MR ρ (.pan v) (.panicking (fresh u))
  | rcd (v : AV) (u : Value) (h : VR ρ v u) : MR ρ (.rcd v) (.panicking [{ v := u, recovered := true }])
theorem MR.mono {ρ ρ' : Ren} (hle : ρ.le ρ') {m : MD} {u : FrameMode} (h : MR ρ m u) : MR ρ' m u := by
  cases h with
  | ret => exact .ret
  | pan v u h => exact .pan v u (h.mono hle)
  | rcd v u h => exact .rcd v u (h.mono hle)
theorem MR.settle {ρ : Ren} {m : MD} {u : FrameMode} (h : MR ρ m u) : MR ρ m.settle (Go.settle u) := by
  cases h with
  | ret => exact .ret
  | pan v u h => exact .pan v u h
  | rcd v u h => exact .ret
theorem MR.out {ρ : Ren} {m : MD} {u : FrameMode} (h : MR ρ m u) : u ≠ .run := by
  cases h <;> simp

def DCodeOK (P : Program) (dcode : Code → St → MD → Option XD) : Prop :=
  ∀ c s m x s' m', dcode c s m = some (.mk x s' m') → ∀ E F ρ a w c₀ cs Q, SR E F ρ s a w none → MR ρ m c₀.mode →
    (∀ ρ' a' w' u', RX s.nx s'.nx ρ ρ' → SR E F ρ' s' a' w' none → MR ρ' m' u' → ExQ ρ' x fun e => Q e a' ({ c₀ with mode := u' } :: cs) w') → c.wpSIn (FW none) 0 P Q a (c₀ :: cs) w

theorem wpSIn_block {F : Fence} {n : Nat} {P : Program} {Q : Exit → Act → List Frame → World → Prop} {a : Act} {cs : List Frame} {w : World} {id : Nat} {c : Code}
    (h : c.wpSIn F n P (fun e a' cs' w' => Exit.inBlock id (fun e a' w' => Q e a' cs' w') e a' w') a cs w) : (Code.block id c).wpSIn F n P Q a cs w := by
  intro b k hkind hro hb hr
  have h0 : (lone (b.atR a (.code (.block id c) :: k)) cs w).fenced P F := fenced_calm hb hr rfl
  obtain ⟨e, a₁, cs₁, w₁, hl, hq, harr⟩ := h b (.inBlock id :: k) hkind hro hb hr
  have hr1 : F.room (cs₁.length + 1 + n) := hl ▸ hr
  cases e with
  | normal => exact ⟨.normal, a₁, cs₁, w₁, hl, hq, .head h0 stepR_block (StepsIn.trans harr (.one (fenced_calm hb hr1 rfl) stepR_inBlock))⟩
  | exit id' =>
    by_cases hid : id' = id
    · simp only [Exit.inBlock, hid, if_true] at hq
      exact ⟨.normal, a₁, cs₁, w₁, hl, hq, .head h0 stepR_block (harr.1 k (by simp [exitTo, hid]))⟩
    · simp only [Exit.inBlock, hid, if_false] at hq
      have this : (id == id') = false := by simp; exact fun h => hid h.symm
      have hx : exitTo id' (.inBlock id :: k) = exitTo id' k := by simp [exitTo, this]
      exact ⟨.exit id', a₁, cs₁, w₁, hl, hq, fun k' hk => .head h0 stepR_block (harr.1 k' (by rw [hx]; exact hk)),
        fun hr' hk => let ⟨k₁, h1, h2⟩ := harr.2 hr' (by rw [hx]; exact hk); ⟨k₁, h1, .head h0 stepR_block h2⟩⟩
  | goto l =>
    have hx : gotoIn l (.inBlock id :: k) = gotoIn l k := by simp [gotoIn]
    exact ⟨_, a₁, cs₁, w₁, hl, hq, fun k' hk => .head h0 stepR_block (harr.1 k' (by rw [hx]; exact hk)),
      fun hr' hk => let ⟨k₁, h1, h2⟩ := harr.2 hr' (by rw [hx]; exact hk); ⟨k₁, h1, .head h0 stepR_block h2⟩⟩
  | ret => exact ⟨_, a₁, cs₁, w₁, hl, hq, .of_steps (.one h0 stepR_block) harr⟩
  | panic ch => exact ⟨_, a₁, cs₁, w₁, hl, hq, .of_steps (.one h0 stepR_block) harr⟩
  | outgrown => exact ⟨_, a₁, cs₁, w₁, hl, hq, .of_steps (.one h0 stepR_block) harr⟩

theorem liftD_some {m : MD} {r : Option XR2} {x : AX} {s : St} {m' : MD} (h : liftD m r = some (.mk x s m')) : m' = m ∧ r = some (.mk x s) := by
  obtain ⟨⟨x1, s1⟩, hr, h1⟩ := ob_some.1 h
  injection h1 with h1; injection h1 with h1 h2 h3; subst h1; subst h2; subst h3
  exact ⟨rfl, hr⟩

theorem lift_sound {P : Program} {code : Code → St → Option XR2} (hcode : CodeOK P code) {c : Code} {s s' : St} {x : AX} (h : code c s = some (.mk x s')) {E : Env} {F : Nat → Option Obj} {ρ : Ren} {a : Act} {w : World}
    {c₀ : Frame} {cs : List Frame} {m : MD} {Q : Exit → Act → List Frame → World → Prop} (hs : SR E F ρ s a w none) (hm : MR ρ m c₀.mode)
    (hq : ∀ ρ' a' w' u', RX s.nx s'.nx ρ ρ' → SR E F ρ' s' a' w' none → MR ρ' m u' → ExQ ρ' x fun e => Q e a' ({ c₀ with mode := u' } :: cs) w') : c.wpSIn (FW none) 0 P Q a (c₀ :: cs) w :=
  wpSIn_of_wpIn rfl (hcode c s x s' h E F ρ a w none _ hs fun ρ' a' w' hle hs' => hq ρ' a' w' c₀.mode hle hs' (hm.mono hle.le))

theorem recOp_some {l : List Oper} {dst : Option Tmp} (h : recOp l = some dst) : ∃ o args argTypes, l = [o] ∧ o.guard = none ∧ o.op = .call { callee := .builtin .recover, args, argTypes } ∧ o.dst = dst := by
  unfold recOp at h
  split at h
  · rename_i o
    split at h
    · rename_i hg
      split at h
      · rename_i c hop
        obtain ⟨callee, args, argTypes⟩ := c
        simp only at h
        split at h
        · injection h with h
          exact ⟨o, args, argTypes, rfl, hg, hop, h⟩
        · cases h
      · cases h
    · cases h
  · cases h

theorem recover_region {P : Program} {ops : Array Oper} {dst : Option Tmp} (hr : recOp ops.toList = some dst) {id : Nat} {Q : Exit → Act → List Frame → World → Prop} {a : Act} {cs : List Frame} {w : World}
    (h : match recoverD cs with
      | some (v, cs') => Q .normal (a.put dst v) cs' w
      | none => Q .normal (a.put dst .nilIface) cs w) : (Code.region id ops false).wpSIn (FW none) 0 P Q a cs w := by
  obtain ⟨o, args, argTypes, hl, hg, hop, hd⟩ := recOp_some hr
  obtain rfl : ops = #[o] := Array.ext' (by rw [hl])
  subst hd
  refine wpSIn_region ?_
  show wpOpsSIn (FW none) 0 P #[o] Q [0] a cs w
  have hrun : (execOp a.eval o).run P w = .ok .recover w := by
    unfold execOp
    rw [hop]
    simp only [resolve, Sem.run_bind, Sem.run_pure, Result.andThen_ok, invoke, builtin]
  have hw : Region.wanted o (yielded #[o] a.tmps) = true := by unfold Region.wanted; rw [hg]
  simp only [wpOpsSIn, List.getElem?_toArray, List.getElem?_cons_zero, hw, if_true, hrun]
  refine ⟨fun _ _ => trivial, ?_⟩
  generalize recoverD cs = r at h ⊢
  cases r with
  | none => exact h
  | some p => exact h

theorem dcodeF_sound {P : Program} {rounds : Nat} {En : Evs} (hcode' : CodeOK P (codeF P rounds En)) (hd : DCodeOK P En.dcode) : DCodeOK P (dcodeF P rounds En) := by
  intro c s m x s' m' h E F ρ a w c₀ cs Q hs hm hq
  have lift : liftD m (codeF P rounds En c s) = some (.mk x s' m') → c.wpSIn (FW none) 0 P Q a (c₀ :: cs) w := fun h => by
    obtain ⟨rfl, hr⟩ := liftD_some h
    exact lift_sound hcode' hr hs hm hq
  cases c with
  | skip => exact lift h
  | region id ops draw =>
    cases draw with
    | true => exact lift h
    | false =>
      have h' : Option.rec (motive := fun _ => Option XD) (liftD m (codeF P rounds En (.region id ops false) s))
        (fun dst => recM s dst m) (recOp ops.toList) = some (.mk x s' m') := h
      cases hr : recOp ops.toList with
      | none => rw [hr] at h'; exact lift h'
      | some dst =>
        rw [hr] at h'
        refine recover_region hr ?_
        cases m with
        | ret =>
          obtain ⟨T, hT, h1⟩ := ob_some.1 h'
          injection h1 with h1; injection h1 with h1 h2 h3; subst h1; subst h2; subst h3
          generalize hu : c₀.mode = u at hm
          cases hm
          obtain ⟨e1, e2, e3⟩ := evPut_sound hs.tr hs.size (.iface0 (ρ := ρ)) hT
          have hc : { c₀ with mode := .returning } = c₀ := by rw [← hu]
          have := hq ρ (a.put dst .nilIface) w .returning (RX.refl _ ρ) ⟨hs.rel, e1, e2, by rw [e3]; exact hs.dr, hs.rr⟩ .ret
          simp only [recoverD, hu]
          rw [hc] at this
          exact this
        | pan v =>
          obtain ⟨T, hT, h1⟩ := ob_some.1 h'
          injection h1 with h1; injection h1 with h1 h2 h3; subst h1; subst h2; subst h3
          generalize hu : c₀.mode = u at hm
          cases hm
          rename_i u hv
          obtain ⟨e1, e2, e3⟩ := evPut_sound hs.tr hs.size hv hT
          have := hq ρ (a.put dst u) w (.panicking [{ v := u, recovered := true }]) (RX.refl _ ρ) ⟨hs.rel, e1, e2, by rw [e3]; exact hs.dr, hs.rr⟩ (.rcd v u hv)
          simp only [recoverD, hu, fresh]
          exact this
        | rcd v =>
          obtain ⟨T, hT, h1⟩ := ob_some.1 h'
          injection h1 with h1; injection h1 with h1 h2 h3; subst h1; subst h2; subst h3
          generalize hu : c₀.mode = u at hm
          cases hm
          rename_i u hv
          obtain ⟨e1, e2, e3⟩ := evPut_sound hs.tr hs.size (.iface0 (ρ := ρ)) hT
          have hc : { c₀ with mode := .panicking [{ v := u, recovered := true }] } = c₀ := by rw [← hu]
          have := hq ρ (a.put dst .nilIface) w (.panicking [{ v := u, recovered := true }]) (RX.refl _ ρ) ⟨hs.rel, e1, e2, by rw [e3]; exact hs.dr, hs.rr⟩ (.rcd v u hv)
          simp only [recoverD, hu]
          rw [hc] at this
          exact this
  | seq p q =>
    obtain ⟨⟨x1, s1, m1⟩, hr, h1⟩ := ob_some.1 (show (ob (En.dcode p s m) fun r => XD.rec (motive := fun _ => Option XD) (fun x s' m' => match x with
      | .nrm => En.dcode q s' m'
      | .exit id => some (.mk (.exit id) s' m')
      | .goto l => some (.mk (.goto l) s' m')
      | .ret => some (.mk .ret s' m')
      | .pan v => some (.mk (.pan v) s' m')) r) = some (XD.mk x s' m') from h)
    refine wpSIn_seq (hd p s m x1 s1 m1 hr E F ρ a w c₀ cs _ hs hm fun ρ' a' w' u' hle hs' hm' => ?_)
    cases x1 with
    | nrm => exact hd q s1 m1 x s' m' h1 E F ρ' a' w' { c₀ with mode := u' } cs Q hs' hm' fun ρ'' a'' w'' u'' hle' hs'' hm'' => hq ρ'' a'' w'' u'' (hle.trans hle') hs'' hm''
    | exit id => injection h1 with h2; injection h2 with h3 h4 h5; subst h3; subst h4; subst h5; exact hq ρ' a' w' u' hle hs' hm'
    | goto l => injection h1 with h2; injection h2 with h3 h4 h5; subst h3; subst h4; subst h5; exact hq ρ' a' w' u' hle hs' hm'
    | ret => injection h1 with h2; injection h2 with h3 h4 h5; subst h3; subst h4; subst h5; exact hq ρ' a' w' u' hle hs' hm'
    | pan v => injection h1 with h2; injection h2 with h3 h4 h5; subst h3; subst h4; subst h5; exact hq ρ' a' w' u' hle hs' hm'
  | cond c p q =>
    obtain ⟨t, ht, h1⟩ := ob_some.1 (show (ob (evCond s.T c) fun t => cond t (En.dcode p s m) (En.dcode q s m)) = some (XD.mk x s' m') from h)
    obtain ⟨v, hv, h2⟩ := ob_some.1 ht
    have hr := hs.tr.xr _ _ hv
    split at h2
    · rename_i b
      injection h2 with h2; subst h2
      generalize hce : a.eval c = cv at hr
      cases hr
      refine wpSIn_cond hce ?_
      cases b with
      | true => exact hd p s m x s' m' h1 E F ρ a w c₀ cs Q hs hm hq
      | false => exact hd q s m x s' m' h1 E F ρ a w c₀ cs Q hs hm hq
    · cases h2
  | block id p =>
    obtain ⟨⟨x1, s1, m1⟩, hr, h1⟩ := ob_some.1 (show (ob (En.dcode p s m) fun r => XD.rec (motive := fun _ => Option XD) (fun x s' m' => match x with
      | .exit id' => cond (Nat.beq id' id) (some (.mk .nrm s' m')) (some (.mk (.exit id') s' m'))
      | .nrm => some (.mk .nrm s' m')
      | .goto l => some (.mk (.goto l) s' m')
      | .ret => some (.mk .ret s' m')
      | .pan v => some (.mk (.pan v) s' m')) r) = some (XD.mk x s' m') from h)
    refine wpSIn_block (hd p s m x1 s1 m1 hr E F ρ a w c₀ cs _ hs hm fun ρ' a' w' u' hle hs' hm' => ?_)
    cases x1 with
    | nrm => injection h1 with h2; injection h2 with h3 h4 h5; subst h3; subst h4; subst h5; exact hq ρ' a' w' u' hle hs' hm'
    | exit id' =>
      show if id' = id then Q .normal a' _ w' else Q (.exit id') a' _ w'
      have h1' : cond (Nat.beq id' id) (some (XD.mk .nrm s1 m1)) (some (.mk (.exit id') s1 m1)) = some (.mk x s' m') := h1
      cases hb : Nat.beq id' id with
      | true =>
        rw [hb, cond_true] at h1'
        rw [Nat.beq_eq] at hb
        injection h1' with h2; injection h2 with h3 h4 h5; subst h3; subst h4; subst h5
        rw [if_pos hb]; exact hq ρ' a' w' u' hle hs' hm'
      | false =>
        rw [hb, cond_false] at h1'
        injection h1' with h2; injection h2 with h3 h4 h5; subst h3; subst h4; subst h5
        rw [if_neg (fun e => by rw [← Nat.beq_eq, hb] at e; cases e)]; exact hq ρ' a' w' u' hle hs' hm'
    | goto l => injection h1 with h2; injection h2 with h3 h4 h5; subst h3; subst h4; subst h5; exact hq ρ' a' w' u' hle hs' hm'
    | ret => injection h1 with h2; injection h2 with h3 h4 h5; subst h3; subst h4; subst h5; exact hq ρ' a' w' u' hle hs' hm'
    | pan v => injection h1 with h2; injection h2 with h3 h4 h5; subst h3; subst h4; subst h5; exact hq ρ' a' w' u' hle hs' hm'
  | loop p => exact lift h
  | rangeFunc f ps asg body => exact lift h
  | exit id => exact lift h
  | label l => exact lift h
  | goto l => exact lift h
  | ret => exact lift h
  | scope _ => exact lift h
  | refuse _ => exact lift h

theorem setArgs_tr {ρ : Ren} {args : List AV} {vs : List Value} (h : VRL ρ args vs) (m : Nat) : TR ρ (setArgs args .leaf 0) (vs.toArray ++ Array.replicate m undef) := by
  intro t a ht
  have key : ∀ (l : List AV) (c : Tr AV) (k j : Nat), (writeL l c k).get j = if k ≤ j ∧ j < k + l.length then l[j - k]? else c.get j := by
    intro l
    induction l with
    | nil => intro c k j; rw [if_neg (by simp)]; rfl
    | cons x l ih =>
      intro c k j
      show (fN (k + 1) fun k' => writeL l (c.set k x) k').get j = _
      rw [fN_eq, ih]
      simp only [List.length_cons]
      by_cases h4 : k + 1 ≤ j ∧ j < k + 1 + l.length
      · rw [if_pos h4, if_pos (by omega), show j - k = (j - (k + 1)) + 1 by omega]; simp
      · rw [if_neg h4]
        by_cases h5 : j = k
        · subst h5
          rw [if_pos (by omega), Nat.sub_self, Tr.get_set_same]; rfl
        · rw [if_neg (by omega), Tr.get_set_ne _ (fun e => h5 e.symm)]
  have h1 : (writeL args .leaf 0).get t = some a := ht
  rw [key] at h1
  split at h1
  · rename_i hlt
    obtain ⟨v, hv, hr⟩ := h.get _ a h1
    refine ⟨v, ?_, hr⟩
    have hl := h.length
    rw [Array.getElem?_append, if_pos (by simp; omega)]
    simpa using hv
  · rw [Tr.get_leaf] at h1; cases h1

theorem evDef_sound {P : Program} {En : Evs} (hd : DCodeOK P En.dcode) {g : FuncId} {args : List AV} {H H' : Tr AObj} {nx nx' : Nat} {m m' : MD} (h : evDef P En g args H nx m = some (.mk m' H' nx'))
    {E : Env} {F : Nat → Option Obj} {ρ : Ren} {w : World} (r : Rel E F nx ρ H.get w) {u : FrameMode} (hm : MR ρ m u) :
    (∃ fn c, P.funcs[g]? = some fn ∧ (fn.name == "runtime.NumGoroutine") = false ∧ fn.body = some c) ∧ ∀ vs, VRL ρ args vs →
      CallsDIn (FW none) 0 P g vs.toArray u w fun e u' w' => ∃ v ρ', e = .returned v ∧ RX nx nx' ρ ρ' ∧ Rel E F nx' ρ' H'.get w' ∧ MR ρ' m' (Go.settle u') := by
  obtain ⟨fn, hfn, h1⟩ := ob_some.1 h
  obtain ⟨hnm, h2⟩ := gd_some.1 h1
  obtain ⟨c, hc, h3⟩ := ob_some.1 h2
  simp only [fN_eq] at h3
  obtain ⟨⟨x, s, m1⟩, hr, h4⟩ := ob_some.1 h3
  clear h h1 h2 h3
  refine ⟨⟨fn, c, hfn, by simpa using hnm, hc⟩, fun vs hvs => ?_⟩
  refine callsDIn_of_wpSIn hfn hc trivial fun c₀ cs hc₀ => ?_
  have hlen := hvs.length
  subst hc₀
  refine hd c _ m x s m1 hr E F ρ { tmps := vs.toArray ++ Array.replicate (fn.ntmps - vs.toArray.size) undef, defers := [] } w c₀ cs _
    ⟨r, setArgs_tr hvs _, by simp [hlen], .nil, .none⟩ hm fun ρ' a' w' u' hle hs' hm' => ?_
  have h5 : (x = .nrm ∨ x = .ret) ∧ (gd s.D.isEmpty (ob (evResults P s.H s.T fn.results.toList) fun _ => some (LV.mk m1.settle s.H s.nx))) = some (LV.mk m' H' nx') := by
    cases x with
    | nrm => exact ⟨.inl rfl, h4⟩
    | ret => exact ⟨.inr rfl, h4⟩
    | exit _ => cases h4
    | goto _ => cases h4
    | pan _ => cases h4
  obtain ⟨hx, h6⟩ := h5
  obtain ⟨hD, h7⟩ := gd_some.1 h6
  obtain ⟨v1, hv1, h8⟩ := ob_some.1 h7
  injection h8 with h8; injection h8 with h8 h9 h10; subst h8; subst h9; subst h10
  obtain ⟨uv, hu, _⟩ := evResults_sound (P := P) hs'.rel hs'.tr hv1
  have hdr := hs'.dr
  have hD' : s.D = [] := by simpa using hD
  rw [hD'] at hdr
  have hdf : a'.defers = [] := by generalize a'.defers = ds at hdr; cases hdr; rfl
  have fin : a'.defers = [] ∧ ∃ u'', ({ c₀ with mode := u' } :: cs) = { c₀ with mode := u'' } :: cs ∧ ∃ v, (results fn a'.tmps).run P w' = .ok v w' ∧
      ∃ v' ρ', Ending.returned v = .returned v' ∧ RX nx s.nx ρ ρ' ∧ Rel E F s.nx ρ' s.H.get w' ∧ MR ρ' m1.settle (Go.settle u'') :=
    ⟨hdf, u', rfl, uv, hu, uv, ρ', rfl, hle, hs'.rel, hm'.settle⟩
  rcases hx with hx | hx
  · rw [hx]; exact fin
  · rw [hx]; exact fin

theorem evLeave_sound {P : Program} {En : Evs} (hd : DCodeOK P En.dcode) {E : Env} {F : Nat → Option Obj} {fn : Func} {tmps : Array Value} {R : Ending → World → Prop} {m' : MD} {H' : Tr AObj} {nx' : Nat} :
    ∀ (D : List ADef) (ds : List Deferred) (m : MD) (H : Tr AObj) (nx : Nat) (ρ : Ren) (u : FrameMode) (w : World), DR ρ D ds → MR ρ m u → evLeave P En D m H nx = some (.mk m' H' nx') → Rel E F nx ρ H.get w →
      (∀ ρ' u' w', RX nx nx' ρ ρ' → Rel E F nx' ρ' H'.get w' → MR ρ' m' u' → LeavesIn (FW none) 0 P fn tmps R [] u' w') → LeavesInM (FW none) 0 P fn tmps R ds u w
  | _, _, m, H, nx, ρ, u, w, .nil, hm, h, r, hr => by
    injection h with h; injection h with h h1 h2; subst h; subst h1; subst h2
    exact hr ρ u w (RX.refl _ ρ) r hm
  | _, _, m, H, nx, ρ, u, w, .mark id b l ds hb hs, hm, h, r, hr => by
    obtain ⟨o, ho, h1⟩ := ob_some.1 (show (ob (H.get id) fun o => match o with
        | .dfr true => evLeave P En l m (H.set id (.dfr false)) nx
        | _ => none) = some (.mk m' H' nx') from h)
    cases o with
    | dfr op =>
      cases op with
      | false => cases h1
      | true =>
        obtain ⟨c, hc, hor⟩ := r.ob _ _ b ho hb
        cases hor
        refine ⟨hm.out, .inl ⟨b.b, _, rfl, run_takeDeferred hc, ?_⟩⟩
        refine evLeave_sound hd l ds m (H.set id (.dfr false)) nx ρ u _ hs hm h1 ?_ hr
        rw [get_set_fun]
        exact r.put ho hb (.dfr false) (putObj_heap w b.b _ _ hc) rfl rfl rfl
    | _ => cases h1
  | _, _, m, H, nx, ρ, u, w, .call g args va vc l ds hv hs, hm, h, r, hr => by
    obtain ⟨⟨m1, H1, nx1⟩, he, h1⟩ := ob_some.1 (show (ob (evDef P En g args H nx m) fun r => LV.rec (motive := fun _ => Option LV) (fun m H nx => evLeave P En l m H nx) r) = some (.mk m' H' nx') from h)
    obtain ⟨⟨fn1, c1, hfn, hnm, hbd⟩, hcd⟩ := evDef_sound hd he r hm
    refine ⟨hm.out, .inr ⟨by simp [FW, Fence.wide], .func g, vc.toArray, g, (va ++ vc).toArray, rfl, ?_, fun _ _ => trivial, ?_⟩⟩
    · simp only [invoke, callFunc, Sem.run_bind, run_program, Result.andThen_ok, hfn, hnm, Bool.false_eq_true, if_false, hbd, Option.isNone_some, Sem.run_pure]
      congr 2
      apply Array.ext'
      simp
    · obtain ⟨hF, hcd⟩ := hcd _ hv
      refine ⟨hF, fun c cs hc hroom => ?_⟩
      obtain ⟨e, u', w', fr, ⟨v, ρ', rfl, hx, hrel, hm'⟩, hcomes⟩ := hcd c cs hc hroom
      exact ⟨_, u', w', fr, evLeave_sound hd l ds m1 H1 nx1 ρ' _ w' (hs.mono hx.le) hm' h1 hrel fun ρ'' u'' w'' hx' hrel' hm'' => hr ρ'' u'' w'' (hx.trans hx') hrel' hm'', hcomes⟩

theorem evFunc_sound {P : Program} {En : Evs} (hcode : CodeOK P En.code) (hd : DCodeOK P En.dcode) {f : FuncId} {args : List AV} {H : Tr AObj} {nx : Nat} {res : CR} (h : evFunc P En f args H nx = some res)
    {E : Env} {F : Nat → Option Obj} {ρ : Ren} {w : World} (r : Rel E F nx ρ H.get w) : TgtOK P (.fn f args) w ρ (EndsR E F nx ρ res) := by
  obtain ⟨fn, hfn, h1⟩ := ob_some.1 h
  obtain ⟨hnm, h2⟩ := gd_some.1 h1
  obtain ⟨c, hc, h3⟩ := ob_some.1 h2
  simp only [fN_eq] at h3
  obtain ⟨⟨x, s⟩, hr, h4⟩ := ob_some.1 h3
  clear h h1 h2 h3
  refine ⟨⟨fn, c, hfn, by simpa using hnm, hc⟩, fun vs hvs => ?_⟩
  refine callsIn_of_wp_marks hfn hc trivial ?_
  have hlen := hvs.length
  refine hcode c _ x s hr E F ρ { tmps := vs.toArray ++ Array.replicate (fn.ntmps - vs.toArray.size) undef, defers := [] } w none _
    ⟨r, setArgs_tr hvs _, by simp [hlen], .nil, .none⟩ fun ρ' a' w' hle hs' => ?_
  obtain ⟨m, hm, h5⟩ := ob_some.1 (show (ob (match x with
        | .nrm => some MD.ret
        | .ret => some MD.ret
        | .pan v => some (MD.pan v)
        | _ => none) fun m => ob (evLeave P En s.D m s.H s.nx) fun r => LV.rec (motive := fun _ => Option CR) (fun m H' nx' => match m with
          | .ret => ob (evResults P H' s.T fn.results.toList) fun v => some (.mk v H' nx')
          | .pan v => some (.pan v H' nx')
          | .rcd _ => none) r) = some res from h4)
  obtain ⟨⟨m1, H1, nx1⟩, hlv, h6⟩ := ob_some.1 h5
  have hl : ∀ u, MR ρ' m u → LeavesInM (FW none) 0 P fn a'.tmps (EndsR E F nx ρ res) a'.defers u w' := fun u hmu =>
    evLeave_sound hd s.D a'.defers m s.H s.nx ρ' u w' hs'.dr hmu hlv hs'.rel fun ρ'' u'' w'' hle' hrel hm'' => by
      cases m1 with
      | ret =>
        obtain ⟨v1, hv1, h8⟩ := ob_some.1 h6
        injection h8 with h8; subst h8
        cases hm''
        obtain ⟨u1, hu, hur⟩ := evResults_sound (P := P) hrel (hs'.tr.mono hle'.le) hv1
        exact ⟨u1, hu, u1, ρ'', rfl, hle.trans hle', hrel, hur⟩
      | pan v =>
        injection h6 with h6; subst h6
        cases hm''
        rename_i u1 hu
        exact ⟨u1, ρ'', rfl, hle.trans hle', hrel, hu⟩
      | rcd v => cases h6
  cases x with
  | nrm => injection hm with hm; subst hm; exact hl .returning .ret
  | ret => injection hm with hm; subst hm; exact hl .returning .ret
  | exit _ => cases hm
  | goto _ => cases hm
  | pan v => injection hm with hm; subst hm; exact fun u hu => hl _ (.pan v u hu)

/-! ### a scope without a jump -/
theorem stepR_scope {P : Program} {b : Frame} {a : Act} {k : List Item} {cs : List Frame} {w : World} {c : Code} : step P (lone (b.atR a (.code (.scope c) :: k)) cs w) = .next (lone (b.atR a (.code c :: .inScope c :: k)) cs w) :=
  step_lone_go (by simp [stepG, stepG.exec, Frame.atR])
theorem stepR_inScope {P : Program} {b : Frame} {a : Act} {k : List Item} {cs : List Frame} {w : World} {c : Code} : step P (lone (b.atR a (.inScope c :: k)) cs w) = .next (lone (b.atR a k) cs w) :=
  step_lone_go (by simp [stepG, stepG.exec, Frame.atR])

theorem wpIn_scope {ro : Option Nat} {P : Program} {Q : Exit → Act → World → Prop} {a : Act} {w : World} {c : Code} (h : c.wpIn (FW ro) 0 P (fun e a' w' => (∀ l, e ≠ .goto l) ∧ Q e a' w') a w) : (Code.scope c).wpIn (FW ro) 0 P Q a w := by
  intro b k cs hro hb hr
  have h0 : (lone (b.atR a (.code (.scope c) :: k)) cs w).fenced P (FW ro) := fenced_calm hb hr rfl
  obtain ⟨e, a₁, w₁, ⟨hg, hq⟩, harr⟩ := h b (.inScope c :: k) cs hro hb hr
  cases e with
  | normal => exact ⟨.normal, a₁, w₁, hq, .head h0 stepR_scope (StepsIn.trans harr (.one (fenced_calm hb hr rfl) stepR_inScope))⟩
  | exit id =>
    have hx : exitTo id (.inScope c :: k) = exitTo id k := by simp [exitTo]
    exact ⟨.exit id, a₁, w₁, hq, fun k' hk => .head h0 stepR_scope (harr.1 k' (by rw [hx]; exact hk)),
      fun hr' hk => let ⟨k₁, h1, h2⟩ := harr.2 hr' (by rw [hx]; exact hk); ⟨k₁, h1, .head h0 stepR_scope h2⟩⟩
  | goto l => exact absurd rfl (hg l)
  | ret => exact ⟨_, a₁, w₁, hq, .of_steps (.one h0 stepR_scope) harr⟩
  | panic ch => exact ⟨_, a₁, w₁, hq, .of_steps (.one h0 stepR_scope) harr⟩
  | outgrown => exact ⟨_, a₁, w₁, hq, .of_steps (.one h0 stepR_scope) harr⟩

/-! ### all of it -/
theorem codeF_sound {P : Program} {rounds : Nat} {En : Evs} (hD : DrawOK P) (hcode : CodeOK P En.code) (hcall : CallOK P En.call) : CodeOK P (codeF P rounds En) := by
  intro c s x s' h E F ρ a w ro Q hs hq
  cases c with
  | skip => injection h with h; injection h with h1 h2; subst h1; subst h2; exact wpIn_skip (hq ρ a w (RX.refl _ ρ) hs)
  | region id ops draw =>
    cases draw with
    | false =>
      have hs1 : evSeq P En.call ops ops.toList s = some (.mk x s') := h
      refine opsTo_region ?_
      have := evSeq_sound hcall (ops := ops) (E := E) (F := F) (ro := ro) (Q := Q) ops.toList 0 s x s' ρ a w (fun j o hj => by simpa using hj) hs1 hs hq
      rw [List.range_eq_range']
      simpa using this
    | true => exact hD En.call ops s x s' hcall h id E F ρ a w ro Q hs hq
  | seq p q =>
    obtain ⟨⟨x1, s1⟩, hr, h1⟩ := ob_some.1 (show (ob (En.code p s) fun r => XR2.rec (motive := fun _ => Option XR2) (fun x s' => onNrm x s' (En.code q)) r) = some (XR2.mk x s') from h)
    refine wpIn_seq (hcode p s x1 s1 hr E F ρ a w ro _ hs fun ρ' a' w' hle hs' => ?_)
    cases x1 with
    | nrm => exact hcode q s1 x s' h1 E F ρ' a' w' ro _ hs' fun ρ'' a'' w'' hle' hs'' => hq ρ'' a'' w'' (hle.trans hle') hs''
    | exit id => injection h1 with h2; injection h2 with h3 h4; subst h3; subst h4; exact hq ρ' a' w' hle hs'
    | goto l => injection h1 with h2; injection h2 with h3 h4; subst h3; subst h4; exact hq ρ' a' w' hle hs'
    | ret => injection h1 with h2; injection h2 with h3 h4; subst h3; subst h4; exact hq ρ' a' w' hle hs'
    | pan v => injection h1 with h2; injection h2 with h3 h4; subst h3; subst h4; exact hq ρ' a' w' hle hs'
  | cond c p q =>
    obtain ⟨t, ht, h1⟩ := ob_some.1 (show (ob (evCond s.T c) fun t => cond t (En.code p s) (En.code q s)) = some (XR2.mk x s') from h)
    obtain ⟨v, hv, h2⟩ := ob_some.1 ht
    have hr := hs.tr.xr _ _ hv
    split at h2
    · rename_i b
      injection h2 with h2; subst h2
      generalize hce : a.eval c = cv at hr
      cases hr
      refine wpIn_cond hce ?_
      cases b with
      | true => exact hcode p s x s' h1 E F ρ a w ro Q hs hq
      | false => exact hcode q s x s' h1 E F ρ a w ro Q hs hq
    · cases h2
  | block id p =>
    obtain ⟨⟨x1, s1⟩, hr, h1⟩ := ob_some.1 (show (ob (En.code p s) fun r => XR2.rec (motive := fun _ => Option XR2) (fun x s' => onExit id x s') r) = some (XR2.mk x s') from h)
    refine wpIn_block (hcode p s x1 s1 hr E F ρ a w ro _ hs fun ρ' a' w' hle hs' => ?_)
    cases x1 with
    | nrm => injection h1 with h2; injection h2 with h3 h4; subst h3; subst h4; exact hq ρ' a' w' hle hs'
    | exit id' =>
      show if id' = id then Q .normal a' w' else Q (.exit id') a' w'
      have h1' : cond (Nat.beq id' id) (some (XR2.mk .nrm s1)) (some (.mk (.exit id') s1)) = some (.mk x s') := h1
      cases hb : Nat.beq id' id with
      | true =>
        rw [hb, cond_true] at h1'
        rw [Nat.beq_eq] at hb
        injection h1' with h2; injection h2 with h3 h4; subst h3; subst h4
        rw [if_pos hb]; exact hq ρ' a' w' hle hs'
      | false =>
        rw [hb, cond_false] at h1'
        injection h1' with h2; injection h2 with h3 h4; subst h3; subst h4
        rw [if_neg (fun e => by rw [← Nat.beq_eq, hb] at e; cases e)]; exact hq ρ' a' w' hle hs'
    | goto l => injection h1 with h2; injection h2 with h3 h4; subst h3; subst h4; exact hq ρ' a' w' hle hs'
    | ret => injection h1 with h2; injection h2 with h3 h4; subst h3; subst h4; exact hq ρ' a' w' hle hs'
    | pan v => injection h1 with h2; injection h2 with h3 h4; subst h3; subst h4; exact hq ρ' a' w' hle hs'
  | loop p => exact wpIn_loop_rounds rounds (evRounds_sound (fun s x s' hr => hcode p s x s' hr) rounds s ρ a w h hs hq)
  | rangeFunc f ps asg body => exact evRange_sound hcall h hs hq
  | exit id => injection h with h; injection h with h1 h2; subst h1; subst h2; exact wpIn_exit (hq ρ a w (RX.refl _ ρ) hs)
  | label l => injection h with h; injection h with h1 h2; subst h1; subst h2; exact wpIn_label (hq ρ a w (RX.refl _ ρ) hs)
  | goto l => injection h with h; injection h with h1 h2; subst h1; subst h2; exact wpIn_goto (hq ρ a w (RX.refl _ ρ) hs)
  | ret => injection h with h; injection h with h1 h2; subst h1; subst h2; exact wpIn_ret (hq ρ a w (RX.refl _ ρ) hs)
  | scope p =>
    obtain ⟨⟨x1, s1⟩, hr, h1⟩ := ob_some.1 (show (ob (En.code p s) fun r => XR2.rec (motive := fun _ => Option XR2) (fun x s' => match x with
      | .goto _ => none
      | x => some (.mk x s')) r) = some (XR2.mk x s') from h)
    refine wpIn_scope (hcode p s x1 s1 hr E F ρ a w ro _ hs fun ρ' a' w' hle hs' => ?_)
    cases x1 with
    | nrm => injection h1 with h2; injection h2 with h3 h4; subst h3; subst h4; exact ⟨fun _ e => (by cases e), hq ρ' a' w' hle hs'⟩
    | exit id => injection h1 with h2; injection h2 with h3 h4; subst h3; subst h4; exact ⟨fun _ e => (by cases e), hq ρ' a' w' hle hs'⟩
    | goto l => cases h1
    | ret => injection h1 with h2; injection h2 with h3 h4; subst h3; subst h4; exact ⟨fun _ e => (by cases e), hq ρ' a' w' hle hs'⟩
    | pan v => injection h1 with h2; injection h2 with h3 h4; subst h3; subst h4; exact fun u hu => ⟨fun _ e => (by cases e), hq ρ' a' w' hle hs' u hu⟩
  | refuse _ => cases h

theorem evs_sound {P : Program} (hD : DrawOK P) (rounds : Nat) : ∀ n, CodeOK P (evs P rounds n).code ∧ CallOK P (evs P rounds n).call ∧ DCodeOK P (evs P rounds n).dcode
  | 0 => ⟨(fun _ _ _ _ h => by cases h), (fun _ _ _ _ h => by cases h), (fun _ _ _ _ _ _ h => by cases h)⟩
  | n + 1 => by
    obtain ⟨h1, h2, h3⟩ := evs_sound hD rounds n
    have h4 := codeF_sound (rounds := rounds) hD h1 h2
    refine ⟨h4, fun t H nx res h E F ρ w r => ?_, dcodeF_sound h4 h3⟩
    cases t with
    | fn f args => exact evFunc_sound h1 h3 h r
    | yld id args => exact evYield_sound h1 h r

end Go.Ev
