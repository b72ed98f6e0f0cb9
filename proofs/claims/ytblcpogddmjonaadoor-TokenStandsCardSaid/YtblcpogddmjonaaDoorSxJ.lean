/- The symbolic layer, part J: what the sentence says holds: operations, calls, regions in order. -/
import Derived.Test.YtblcpogddmjonaaDoorSxI
set_option linter.unusedVariables false
set_option linter.unusedSimpArgs false
namespace Go.Ev

/-- A call that ends as one of these. -/
def EndsK (E : Env) (F : Nat → Option Obj) (nx : Nat) (ρ : Ren) (K : KC) (e : Ending) (w' : World) : Prop := ∃ r, K r ∧ EndsR E F nx ρ r e w'

def CallKOK (P : Program) (call : FuncId → List AV → Tr AObj → Nat → KC → Prop) : Prop :=
  ∀ g args H nx K, call g args H nx K → ∀ E F ρ w, Rel E F nx ρ H.get w → TgtOK P (.fn g args) w ρ (EndsK E F nx ρ K)

/-- What a heap's tables say of the world. -/
def GlOK (E : Env) (H : Tr AObj) : Prop := ∀ g l, H.get g = some (.glob l) → ∃ cs e fz, E.base g = some (.cells cs e fz) ∧ ∀ ρ', VRL ρ' l cs.toList

def EntOK (P : Program) (g : FuncId) (ent : Tr AObj → List AV → Option Ct) : Prop :=
  ∀ H args ct, ent H args = some ct → ∀ p v, ctOut ct = some (p, v) → ∀ E F ρ w nx H', GlOK E H → Rel E F nx ρ H'.get w → TgtOK P (.fn g args) w ρ (EndsR E F nx ρ (outCR p v H' (nx + 1)))
def TbOK (P : Program) (tb : Tbl) : Prop := ∀ g ent, look tb g = some ent → EntOK P g ent

theorem noCall_ok (P : Program) : CallOK P noCall := fun _ _ _ _ h => by cases h

theorem callT_ok {P : Program} {tb : Tbl} (h : TbOK P tb) : CallOK P (callT tb) := by
  intro t H nx r hr E F ρ w rel
  cases t with
  | yld _ _ => cases hr
  | fn g args =>
    obtain ⟨ent, he, h1⟩ := ob_some.1 hr
    obtain ⟨ct, hc, h2⟩ := ob_some.1 h1
    obtain ⟨⟨p, v⟩, ho, h3⟩ := ob_some.1 h2
    injection h3 with h3; subst h3
    exact h g ent he H args ct hc p v ho E F ρ w nx H rel.gl rel

theorem cOp_sound {P : Program} {X : Operand → Option AV} {H : Tr AObj} {ni nx nx' : Nat} {op : Op} {K : KC} {C : Tgt → Prop} (h : cOp P X H ni nx nx' op K C) :
    (∃ r, evOp P noCall X H ni nx nx' op = some r ∧ K r) ∨ cCallee X op C := by
  unfold cOp at h
  cases h1 : sPure P H X op with
  | some r =>
    rw [h1] at h
    obtain ⟨h2, h3⟩ := sdA_iff.1 h
    obtain ⟨b, v⟩ := r
    simp only at h2; subst h2
    exact .inl ⟨_, by unfold evOp; rw [sPure_ev h1], h3⟩
  | none =>
  rw [h1] at h
  cases h2 : evPure3 P H X op with
  | some v =>
    rw [h2] at h
    exact .inl ⟨_, by unfold evOp; rw [pure3_ev h1 h2], h⟩
  | none =>
  rw [h2] at h
  have e1 : evPure2 P H X op = none := by unfold evPure2; rw [h1]; exact h2
  cases h3 : sNew P X ni op with
  | some r =>
    rw [h3] at h
    obtain ⟨h4, h5⟩ := sdA_iff.1 h
    obtain ⟨b, v, o⟩ := r
    simp only at h4; subst h4
    exact .inl ⟨_, by unfold evOp; rw [e1, sNew_ev h3], h5⟩
  | none =>
  rw [h3] at h
  cases h4 : evNew3 P X ni op with
  | some p =>
    rw [h4] at h
    exact .inl ⟨_, by unfold evOp; rw [e1, new3_ev h3 h4], h⟩
  | none =>
  rw [h4] at h
  have e2 : evNew P X ni op = none := by unfold evNew; rw [h3]; exact h4
  cases h5 : sHeavy P X H ni op with
  | some r =>
    rw [h5] at h
    obtain ⟨h6, h7⟩ := sdA_iff.1 h
    obtain ⟨b, v, H'⟩ := r
    simp only at h6; subst h6
    exact .inl ⟨_, by unfold evOp; rw [e1, e2, sHeavy_ev h5], h7⟩
  | none =>
  rw [h5] at h
  cases h6 : evHeavy3 P noCall X H ni nx' op with
  | some r =>
    rw [h6] at h
    exact .inl ⟨_, by unfold evOp; rw [e1, e2, heavy3_ev h5 h6], h⟩
  | none =>
    rw [h6] at h
    exact .inr h

theorem cWant_sound {ops : Array Oper} {T : Tr AV} {o : Oper} {K : Tr AV → Bool → Prop} (h : cWant ops T o K) : ∃ T' wd, K T' wd ∧ evWanted ops T o = some wd ∧ ∀ t, T'.get t = T.get t := by
  unfold cWant at h
  unfold evWanted
  split at h
  · rename_i hg
    rw [hg]
    exact ⟨T, true, h, rfl, fun _ => rfl⟩
  · rename_i j want hg
    rw [hg]
    obtain ⟨oj, h1, h2⟩ := okP_some h
    obtain ⟨d, h3, h4⟩ := okP_some h2
    obtain ⟨v, h5, h6⟩ := okP_some h4
    simp only [h1]
    have same : ∀ b, v = .bool b → ∀ t, (T.set d (.bool b)).get t = T.get t := fun b hb t => by
      rw [Tr.get_set]
      split
      · rename_i e; subst e; rw [h5, hb]
      · rfl
    split at h6
    · rename_i b
      obtain ⟨h7, h8⟩ := brP_iff.1 h6
      cases b with
      | true => exact ⟨_, _, h7 rfl, by simp [ob, h3, h5], same true rfl⟩
      | false => exact ⟨_, _, h8 rfl, by simp [ob, h3, h5], same false rfl⟩
    · rename_i hnb
      refine ⟨T, false, h6, ?_, fun _ => rfl⟩
      simp only [ob, h3, h5]

theorem cPut_sound {N : Nat} {T : Tr AV} {dst : Option Tmp} {v : AV} {K : Tr AV → Prop} (h : cPut N T dst v K) : ∃ T', evPut N T dst v = some T' ∧ K T' := by
  unfold cPut at h
  split at h
  · exact ⟨T, rfl, h⟩
  · obtain ⟨h1, h2⟩ := sdA_iff.1 h
    exact ⟨_, by unfold evPut; exact gd_some.2 ⟨h1, rfl⟩, h2⟩

/-- A call that is walked by what it ends in. -/
theorem call_wp {P : Program} {ρ : Ren} {X : Operand → Option AV} {a : Act} {w : World} (hX : XR ρ X a.eval) {o : Oper} {c : Call} (ho : o.op = .call c) {f : Operand} (hc : c.callee = .value f) {fv : AV} (hf : X f = some fv) {xs : List AV}
    (hxs : xsL X c.args.toList = some xs) {g : FuncId} {targs : List AV} (ht : evTarget fv xs = some (.fn g targs)) {R : Ending → World → Prop} (hok : TgtOK P (.fn g targs) w ρ R) {ro : Option Nat} {next : Act → World → Prop} {Q : Exit → Act → World → Prop}
    (hR : ∀ e w', R e w' → match e with
      | .returned v => next (a.put o.dst v) w'
      | .panicked chain => Q (.panic chain) a w'
      | .outgrown => LetsOut Q) : o.wpIn (FW ro) 0 P a w next Q := by
  obtain ⟨dst, op, type, pos, after, guard⟩ := o
  simp only at ho
  subst ho
  obtain ⟨callee, args, argTypes⟩ := c
  simp only at hc hxs
  subst hc
  have hfr := hX _ _ hf
  have hxr := xsL_sound hX hxs
  rw [show args.toList.map a.eval = (args.map a.eval).toList by rw [Array.toList_map]] at hxr
  refine ⟨about_ok ro P _ w a.eval, ?_⟩
  rw [Oper.semAt_eq _ _ _ (by simp)]
  unfold evTarget at ht
  split at ht
  · rename_i g' first cap
    injection ht with ht; injection ht with ht1 ht2; subst ht1; subst ht2
    generalize hfe : a.eval f = fvv at hfr
    cases hfr with
    | fn _ _ _ va vc ha hc =>
      obtain ⟨⟨fn, c, hfn, hnm, hbd⟩, hcalls⟩ := hok
      have hc' := hcalls _ (ha.append (hxr.append hc))
      have hrun : (execOp a.eval { dst, op := .call { callee := .value f, args, argTypes }, type, pos, after, guard }).run P w = .ok (.enter g' ((va ++ ((args.map a.eval).toList ++ vc)).toArray)) w := by
        simp only [execOp, resolve, hfe, Deferred.ofValue, Sem.run_bind, Sem.run_pure, Result.andThen_ok, invoke, callFunc, run_program, hfn, hnm, Bool.false_eq_true, if_false, hbd, Option.isNone_some]
        congr 2
        apply Array.ext'
        simp
      rw [hrun]
      refine ⟨by simp [FW, Fence.wide], ?_⟩
      have hmono := CallsIn.mono hc' (R' := fun
        | .returned v, w'' => next (a.put dst v) w''
        | .panicked chain, w'' => Q (.panic chain) a w''
        | .outgrown, _ => LetsOut Q) (fun e w' he => by
          have := hR e w' he
          cases e <;> exact this)
      cases ro with
      | none => exact hmono
      | some l => exact hmono
  · injection ht with ht; cases ht
  · cases ht

theorem fzS_rel {ρ ρ1 : Ren} {w : World} {H : Tr AObj} {fz : List FZ} {ids0 ids : List Nat} (hz : FzOK ρ w H fz ids0) (hi : idsOK H ids) (hsub : ∀ i ∈ ids0, i ∈ ids) (hρ : ρ1 = frzR ρ w ids) (hle : ρ.le ρ1) {a : AV} {v : Value}
    (hv : VR ρ a v) (h : (fzS fz a).1 = true) : VR ρ1 (fzS fz a).2 v := by
  have find : ∀ (l : List FZ) id z, fzFind l id = some z → z ∈ l ∧ z.id = id := by
    intro l
    induction l with
    | nil => intro id z h; cases h
    | cons y l ih =>
      intro id z h
      have h' : cond (Nat.beq y.id id) (some y) (fzFind l id) = some z := h
      cases hb : Nat.beq y.id id with
      | true => rw [hb] at h'; injection h' with h'; subst h'; rw [Nat.beq_eq] at hb; exact ⟨List.mem_cons_self .., hb⟩
      | false => rw [hb] at h'; obtain ⟨h1, h2⟩ := ih id z h'; exact ⟨List.mem_cons_of_mem _ h1, h2⟩
  unfold fzS at h ⊢
  split at h
  · rename_i id n e
    cases hff : fzFind fz id with
    | none => exact hv.mono hle
    | some z =>
      rw [hff] at h
      have h : (cond (Nat.beq e z.esz) (Nat.beq n z.n) false) = true := h
      obtain ⟨h1, h2⟩ := cond_and h
      rw [Nat.beq_eq] at h1 h2
      obtain ⟨h3, h4⟩ := find fz id z hff
      subst h4; subst h1; subst h2
      obtain ⟨h5, h6⟩ := hz z h3
      rw [hρ]
      exact h6 ids hi (hsub _ h5) v hv
  · exact hv.mono hle

theorem fzTr_get {fz : List FZ} : ∀ (T : Tr AV), (fzTr fz T).1 = true → ∀ (p : List Bool) (b : AV), Tr.gp p (fzTr fz T).2 = some b → ∃ a, Tr.gp p T = some a ∧ (fzS fz a).1 = true ∧ (fzS fz a).2 = b
  | .leaf, _, p, b, h => by rw [show (fzTr fz (.leaf : Tr AV)).2 = .leaf from rfl, Tr.gp_leaf] at h; cases h
  | .node v l r, h, p, b, hg => by
    have h' : cond (fzO fz v).1 (cond (fzTr fz l).1 (fzTr fz r).1 false) false = true := h
    obtain ⟨h1, h2⟩ := cond_and h'
    obtain ⟨h2, h3⟩ := cond_and h2
    cases p with
    | nil =>
      have hg' : (fzO fz v).2 = some b := hg
      cases v with
      | none => cases hg'
      | some a => injection hg' with hg'; exact ⟨a, rfl, h1, hg'⟩
    | cons c p =>
      cases c with
      | true => exact fzTr_get l h2 p b hg
      | false => exact fzTr_get r h3 p b hg

theorem fzT_tr {ρ ρ1 : Ren} {w : World} {H : Tr AObj} {fz : List FZ} {ids0 ids : List Nat} (hz : FzOK ρ w H fz ids0) (hi : idsOK H ids) (hsub : ∀ i ∈ ids0, i ∈ ids) (hρ : ρ1 = frzR ρ w ids) (hle : ρ.le ρ1) {T : Tr AV} {tmps : Array Value}
    (ht : TR ρ T tmps) (h : (fzT fz T).1 = true) : TR ρ1 (fzT fz T).2 tmps := by
  unfold fzT at h ⊢
  split at h
  · exact ht.mono hle
  · intro t b hb
    obtain ⟨a, h1, h2, h3⟩ := fzTr_get T h _ b hb
    obtain ⟨v, h4, h5⟩ := ht t a h1
    subst h3
    exact ⟨v, h4, fzS_rel hz hi hsub hρ hle h5 h2⟩

set_option maxHeartbeats 1000000 in
theorem cSeq_sound {cx : Ctx} {En : CEv} (hcall : CallKOK cx.P En.call) (htb : TbOK cx.P cx.tb) {ops : Array Oper} {E : Env} {F : Nat → Option Obj} {ro : Option Nat} {Q : Exit → Act → World → Prop} {n0 : Nat} {ρ0 : Ren} {K : KX}
    (hq : ∀ x s' ρ' a' w', K x s' → n0 ≤ s'.nx → Keep n0 ρ0 ρ' → SR E F ρ' s' a' w' ro → ExQ ρ' x fun e => Q e a' w') :
    ∀ (l : List Oper) (i : Nat) (s : St) (ρ : Ren) (a : Act) (w : World), (∀ j o, l[j]? = some o → ops[i + j]? = some o) → cSeq cx En ops K l s → n0 ≤ s.nx → Keep n0 ρ0 ρ → SR E F ρ s a w ro →
      OpsTo ro cx.P ops Q (List.range' i l.length) a w
  | [], i, s, ρ, a, w, _, h, hn, hk, hs => opsTo_nil (hq .nrm s ρ a w h hn hk hs)
  | o :: l, i, s, ρ, a, w, hl, h, hn, hk, hs => by
    obtain ⟨T, wd, h1, hwd, hTs⟩ := cWant_sound (show cWant ops s.T o (fun T wd => cond wd
      (fN (s.nx + 1) fun nx' => cOp cx.P (opd T) s.H s.nx s.nx nx' o.op (cBehind o ⟨s.N, T, s.H, s.nx, s.ro, s.D⟩ K (cSeq cx En ops K l)) (cTgt cx En o ⟨s.N, T, s.H, s.nx, s.ro, s.D⟩ nx' K (cSeq cx En ops K l)))
      (cPut s.N T o.dst (.tup []) fun T => cSeq cx En ops K l ⟨s.N, T, s.H, s.nx, s.ro, s.D⟩)) from h)
    have hw := evWanted_sound hs.tr hwd
    have htr : TR ρ T a.tmps := fun t b hb => hs.tr t b (by rw [← hTs]; exact hb)
    have ho : ops[i]? = some o := by have := hl 0 o rfl; simpa using this
    have hl' : ∀ j o', l[j]? = some o' → ops[i + 1 + j]? = some o' := fun j o' hj => by
      have := hl (j + 1) o' (by simpa using hj)
      rwa [show i + (j + 1) = i + 1 + j by omega] at this
    rw [show (o :: l).length = l.length + 1 from rfl, List.range'_succ]
    have ih := cSeq_sound (ops := ops) hcall htb hq l (i + 1)
    cases wd with
    | false =>
      rw [cond_false] at h1
      obtain ⟨T', hT', h3⟩ := cPut_sound h1
      obtain ⟨e1, e2, e3⟩ := evPut_sound (u := undef) htr hs.size (.tup (ρ := ρ) [] [] .nil) hT'
      exact opsTo_off ho (by rw [hw]; simp) (about_ok ro _ o w a.eval) (ih _ ρ _ w hl' h3 hn hk ⟨hs.rel, e1, e2, by rw [e3]; exact hs.dr, hs.rr⟩)
    | true =>
      rw [cond_true, fN_eq] at h1
      refine opsTo_step ho hw ?_
      -- behind the operation, of a state whose slots may be known otherwise
      have behind : ∀ (T' : Tr AV) (H' : Tr AObj) (r : CR), cBehind o ⟨s.N, T', H', s.nx + 1, s.ro, s.D⟩ K (cSeq cx En ops K l) r → (∀ g args H nx, r ≠ .dfr g args H nx) → ∀ ρ1, TR ρ1 T' a.tmps → RX s.nx (s.nx + 1) ρ ρ1 →
          match r with
          | .mk v H nx => ∀ u ρ' w', RX (s.nx + 1) nx ρ1 ρ' → Rel E F nx ρ' H.get w' → VR ρ' v u → OpsTo ro cx.P ops Q (List.range' (i + 1) l.length) (a.put o.dst u) w'
          | .pan v H nx => ∀ u ρ' w', RX (s.nx + 1) nx ρ1 ρ' → Rel E F nx ρ' H.get w' → VR ρ' v u → Q (.panic (fresh u)) a w'
          | .dfr _ _ _ _ => True := by
        intro T' H' r hb hnd ρ1 ht1 hx1
        cases r with
        | mk v H nx =>
          intro u ρ' w' hx hrel hv
          obtain ⟨T2, hT2, h3⟩ := cPut_sound (show cPut s.N T' o.dst v (fun T => cSeq cx En ops K l ⟨s.N, T, H, nx, s.ro, s.D⟩) from hb)
          obtain ⟨e1, e2, e3⟩ := evPut_sound (ht1.mono hx.le) hs.size hv hT2
          have hx2 := hx1.trans hx
          have hnn := hx2.nn
          exact ih _ ρ' _ w' hl' h3 (Nat.le_trans hn hx2.nn) (hk.trans (Keep.of_rx hx2 hn)) ⟨hrel, e1, e2, by rw [e3]; exact hs.dr.mono hx2.le, hs.rr.mono hx2.le⟩
        | pan v H nx =>
          intro u ρ' w' hx hrel hv
          have hx2 := hx1.trans hx
          exact hq (.pan v) ⟨s.N, T', H, nx, s.ro, s.D⟩ ρ' a w' hb (Nat.le_trans hn hx2.nn) (hk.trans (Keep.of_rx hx2 hn)) ⟨hrel, ht1.mono hx.le, hs.size, hs.dr.mono hx2.le, hs.rr.mono hx2.le⟩ u hv
        | dfr g args H nx => trivial
      rcases cOp_sound h1 with ⟨r, hr, hb⟩ | hcl
      · refine evOp_sound (noCall_ok cx.P) hs.rel htr.xr (hs.rel.new _ (Nat.le_refl _)) (Nat.le_succ _) (Nat.lt_succ_self _) hr ?_
        cases r with
        | mk v H nx =>
          obtain ⟨T2, hT2, h3⟩ := cPut_sound (show cPut s.N T o.dst v (fun T => cSeq cx En ops K l ⟨s.N, T, H, nx, s.ro, s.D⟩) from hb)
          intro u ρ' w' hx hrel hv
          have hle := hx.le
          obtain ⟨e1, e2, e3⟩ := evPut_sound (htr.mono hle) hs.size hv hT2
          exact ih _ ρ' _ w' hl' h3 (Nat.le_trans hn hx.nn) (hk.trans (Keep.of_rx hx.rx hn)) ⟨hrel, e1, e2, by rw [e3]; exact hs.dr.mono hle, hs.rr.mono hle⟩
        | pan v H nx =>
          intro u ρ' w' hx hrel hv
          have hle := hx.le
          exact hq (.pan v) ⟨s.N, T, H, nx, s.ro, s.D⟩ ρ' a w' hb (Nat.le_trans hn hx.nn) (hk.trans (Keep.of_rx hx.rx hn)) ⟨hrel, htr.mono hle, hs.size, hs.dr.mono hle, hs.rr.mono hle⟩ u hv
        | dfr g args H nx =>
          have hb' : (match s.ro with
            | none => cPut s.N T o.dst (.tup []) fun T => cSeq cx En ops K l ⟨s.N, T, H, nx, s.ro, .call g args :: s.D⟩
            | some _ => False) := hb
          cases hro : s.ro with
          | some l0 => rw [hro] at hb'; exact hb'.elim
          | none =>
            rw [hro] at hb'
            obtain ⟨T2, hT2, h4⟩ := cPut_sound hb'
            have hrr := hs.rr
            have hro' : ro = none := by rw [hro] at hrr; cases hrr; rfl
            refine ⟨hro', fun va vc hx hrel hv => ?_⟩
            obtain ⟨e1, e2, e3⟩ := evPut_sound (u := undef) (a := { a with defers := { target := .fn (.func g) vc.toArray, args := va.toArray } :: a.defers }) htr hs.size (.tup (ρ := ρ) [] [] .nil) hT2
            exact ih _ ρ _ w hl' h4 (Nat.le_trans hn hx.nn) (hk.trans (Keep.of_rx hx hn)) ⟨hrel, e1, e2, by rw [e3]; exact .call g args va vc _ _ hv hs.dr, by rw [← hro]; exact hs.rr⟩
      · unfold cCallee at hcl
        split at hcl
        · rename_i c hop
          split at hcl
          · rename_i f hcf
            obtain ⟨fv, hfv, h2⟩ := okP_some hcl
            obtain ⟨xs, hxs, h3⟩ := okP_some h2
            obtain ⟨t, ht, h4⟩ := okP_some h3
            cases t with
            | yld _ _ => exact h4.elim
            | fn g args =>
              have h4' : (Option.rec (motive := fun _ => Prop) (En.call g args s.H (s.nx + 1) (cBehind o ⟨s.N, T, s.H, s.nx, s.ro, s.D⟩ K (cSeq cx En ops K l)))
                (fun ent => okP (frzL cx.P s.H args) fun r => sdA r.1 (okP (ent s.H r.2.1) fun ct => (fun q : Bool × Tr AV => sdA q.1
                  (cCt ct (fun v => cBehind o ⟨s.N, q.2, delL s.H r.2.2.2, s.nx + 1, s.ro, s.D⟩ K (cSeq cx En ops K l) (.mk v (delL s.H r.2.2.2) (s.nx + 1 + 1)))
                    (fun v => cBehind o ⟨s.N, q.2, delL s.H r.2.2.2, s.nx + 1, s.ro, s.D⟩ K (cSeq cx En ops K l) (.pan v (delL s.H r.2.2.2) (s.nx + 1 + 1))))) (fzT r.2.2.1 T))) (look cx.tb g)) := h4
              cases hlk : look cx.tb g with
              | none =>
                rw [hlk] at h4'
                have hok := hcall g args s.H (s.nx + 1) _ h4' E F ρ w (hs.rel.nx_le (Nat.le_succ _))
                refine call_wp htr.xr hop hcf hfv hxs ht hok fun e w' he => ?_
                obtain ⟨r, hr1, hr2⟩ := he
                have hx1 : RX s.nx (s.nx + 1) ρ ρ := ⟨Ren.le_refl ρ, fun _ _ => rfl, Nat.le_succ _⟩
                cases r with
                | mk v H nx =>
                  obtain ⟨u, ρ', rfl, hx, hrel, hv⟩ := hr2
                  exact behind T s.H (.mk v H nx) hr1 (fun _ _ _ _ h => by cases h) ρ htr hx1 u ρ' w' hx hrel hv
                | pan v H nx =>
                  obtain ⟨u, ρ', rfl, hx, hrel, hv⟩ := hr2
                  exact behind T s.H (.pan v H nx) hr1 (fun _ _ _ _ h => by cases h) ρ htr hx1 u ρ' w' hx hrel hv
                | dfr g args H nx => exact hr2.elim
              | some ent =>
                rw [hlk] at h4'
                obtain ⟨⟨sd, args', fz, ids⟩, hfr, h5⟩ := okP_some h4'
                obtain ⟨h6, h7⟩ := sdA_iff.1 h5
                simp only at h6; subst h6
                obtain ⟨ct, hct, h8⟩ := okP_some h7
                obtain ⟨h9, h10⟩ := sdA_iff.1 h8
                obtain ⟨p, v, hout, h11⟩ := cCt_out h10
                obtain ⟨hids, hfz, hargs⟩ := frzL_sound hs.rel args args' fz ids hfr
                obtain ⟨hx0, hrel0⟩ := frzR_rel hs.rel hids
                have hx1 : RX s.nx (s.nx + 1) ρ (frzR ρ w ids) := ⟨hx0.le, hx0.lo, Nat.le_succ _⟩
                have ht1 : TR (frzR ρ w ids) (fzT fz T).2 a.tmps := fzT_tr hfz hids (fun _ h => h) rfl hx0.le htr h9
                have hok := htb g ent hlk s.H args' ct hct p v hout E F (frzR ρ w ids) w (s.nx + 1) (delL s.H ids) hs.rel.gl (hrel0.nx_le (Nat.le_succ _))
                have hok' : TgtOK cx.P (.fn g args) w ρ (EndsR E F (s.nx + 1) (frzR ρ w ids) (outCR p v (delL s.H ids) (s.nx + 1 + 1))) := ⟨hok.1, fun vs hvs => hok.2 vs (hargs ids hids (fun _ h => h) vs hvs)⟩
                refine call_wp htr.xr hop hcf hfv hxs ht hok' fun e w' he => ?_
                cases p with
                | false =>
                  obtain ⟨u, ρ', rfl, hx, hrel, hv⟩ := he
                  exact behind _ _ (.mk v (delL s.H ids) (s.nx + 1 + 1)) h11 (fun _ _ _ _ h => by cases h) _ ht1 hx1 u ρ' w' hx hrel hv
                | true =>
                  obtain ⟨u, ρ', rfl, hx, hrel, hv⟩ := he
                  exact behind _ _ (.pan v (delL s.H ids) (s.nx + 1 + 1)) h11 (fun _ _ _ _ h => by cases h) _ ht1 hx1 u ρ' w' hx hrel hv
          · exact hcl.elim
        · exact hcl.elim
end Go.Ev
