/- The symbolic layer, part L: regions that draw their order. -/
import Derived.Test.YtblcpogddmjonaaDoorSxK
set_option linter.unusedVariables false
set_option linter.unusedSimpArgs false
namespace Go.Ev

theorem Tr.set_self {α : Type} {x : α} : ∀ (p : List Bool) (t : Tr α), Tr.gp p t = some x → Tr.sp (some x) p t = t
  | [], .leaf, h => by cases h
  | [], .node v l r, h => by
    have h' : v = some x := h
    subst h'; rfl
  | b :: p, .leaf, h => by rw [Tr.gp_leaf] at h; cases h
  | b :: p, .node v l r, h => by
    cases b with
    | true =>
      have h' : Tr.gp p l = some x := h
      show Tr.node v (Tr.sp (some x) p l) r = _
      rw [set_self p l h']
    | false =>
      have h' : Tr.gp p r = some x := h
      show Tr.node v l (Tr.sp (some x) p r) = _
      rw [set_self p r h']
theorem Tr.set_get {α : Type} {x : α} {t : Tr α} {n : Nat} (h : t.get n = some x) : t.set n x = t := set_self (path n) t h

theorem cWant_same {ops : Array Oper} {T : Tr AV} {o : Oper} {K : Tr AV → Bool → Prop} (h : cWant ops T o K) : ∃ wd, K T wd ∧ evWanted ops T o = some wd := by
  unfold cWant at h
  unfold evWanted
  split at h
  · rename_i hg
    rw [hg]
    exact ⟨true, h, rfl⟩
  · rename_i j want hg
    rw [hg]
    obtain ⟨oj, h1, h2⟩ := okP_some h
    obtain ⟨d, h3, h4⟩ := okP_some h2
    obtain ⟨v, h5, h6⟩ := okP_some h4
    simp only [h1]
    split at h6
    · rename_i b
      obtain ⟨h7, h8⟩ := brP_iff.1 h6
      cases b with
      | true => exact ⟨_, by have := h7 rfl; rwa [Tr.set_get h5] at this, by simp [ob, h3, h5]⟩
      | false => exact ⟨_, by have := h8 rfl; rwa [Tr.set_get h5] at this, by simp [ob, h3, h5]⟩
    · refine ⟨false, h6, ?_⟩
      simp only [ob, h3, h5]

/-- The call's target, of an operation that is one. -/
noncomputable def tgtOf (X : Operand → Option AV) (op : Op) : Option Tgt :=
  match op with
  | .call c => match c.callee with
    | .value f => ob (X f) fun f => ob (xsL X c.args.toList) fun xs => evTarget f xs
    | _ => none
  | _ => none

theorem heavy3_target {P : Program} {call : CallF} {X : Operand → Option AV} {H : Tr AObj} {ni nx : Nat} {op : Op} (h : ∀ t, tgtOf X op = some t → call t H nx = none) : evHeavy3 P call X H ni nx op = evHeavy3 P noCall X H ni nx op := by
  cases op <;> try rfl
  rename_i c
  obtain ⟨callee, args, ts⟩ := c
  cases callee with
  | builtin b => cases b <;> rfl
  | invoke _ _ => rfl
  | value f =>
    simp only [evHeavy3]
    simp only [tgtOf] at h
    cases hf : X f with
    | none => rfl
    | some fv =>
      rw [hf] at h
      cases hx : xsL X args.toList with
      | none => rfl
      | some xs =>
        rw [hx] at h
        cases ht : evTarget fv xs with
        | none => simp [ob, ht]
        | some t =>
          have := h t (by simp [ob, ht])
          simp [ob, ht, this, noCall]

theorem heavy3_call {P : Program} {call : CallF} {X : Operand → Option AV} {H : Tr AObj} {ni nx : Nat} {op : Op} {t : Tgt} {r : CR} (ht : tgtOf X op = some t) (hr : call t H nx = some r) : evHeavy3 P call X H ni nx op = some r := by
  cases op <;> first | (cases ht; done) | skip
  rename_i c
  obtain ⟨callee, args, ts⟩ := c
  cases callee with
  | builtin b => cases ht
  | invoke _ _ => cases ht
  | value f =>
    obtain ⟨fv, hf, h1⟩ := ob_some.1 (show (ob (X f) fun f => ob (xsL X args.toList) fun xs => evTarget f xs) = some t from ht)
    obtain ⟨xs, hx, h2⟩ := ob_some.1 h1
    simp [evHeavy3, ob, hf, hx, h2, hr]

noncomputable def cDput (N p : Nat) (o : Oper) (A : Nat) (σ : DS) (k : DK) (v : AV) (H : Tr AObj) (nx cc : Nat) (K : DS → Prop) : Prop :=
  cPut N σ.T o.dst v fun T => K (match k with
    | .off => ⟨σ.reads, σ.news, σ.hvs, T, H, nx, cc, σ.pn⟩
    | .pure => cond (readsH o.op) ⟨⟨p, o, A, σ.T, .pure, v, H, cc⟩ :: σ.reads, σ.news, σ.hvs, T, H, nx, cc, σ.pn⟩ ⟨σ.reads, σ.news, σ.hvs, T, H, nx, cc, σ.pn⟩
    | .new b => ⟨σ.reads, ⟨p, o, A, σ.T, .new b, v, H, cc⟩ :: σ.news, σ.hvs, T, H, nx, cc, σ.pn⟩
    | .heavy => ⟨σ.reads, σ.news, ⟨p, o, A, σ.T, .heavy, v, H, cc⟩ :: σ.hvs, T, H, nx, cc, σ.pn⟩
    | .dead => ⟨σ.reads, σ.news, σ.hvs, T, H, nx, cc, σ.pn⟩
    | .pan v' H' nx' => ⟨σ.reads, σ.news, σ.hvs, T, H, nx, cc, some ⟨p, A, v', H', nx'⟩⟩)
theorem cDput_sound {N p : Nat} {o : Oper} {A : Nat} {σ : DS} {k : DK} {v : AV} {H : Tr AObj} {nx cc : Nat} {K : DS → Prop} (h : cDput N p o A σ k v H nx cc K) : ∃ σ', dput N p o A σ k v H nx cc = some σ' ∧ K σ' := by
  obtain ⟨T, h1, h2⟩ := cPut_sound h
  exact ⟨_, by unfold dput; rw [h1]; rfl, h2⟩

/-- What a heavy operation's answer does to the region. -/
noncomputable def cDres (N p : Nat) (o : Oper) (A : Nat) (σ : DS) (K : DS → Prop) (r : CR) : Prop :=
  match r with
  | .mk v H nx => fN (p + 1) fun cc => cDput N p o A σ .heavy v H nx cc K
  | .pan v H nx => cDput N p o A σ (.pan v H nx) (.tup []) σ.H σ.nx σ.cc K
  | .dfr _ _ _ _ => False

noncomputable def cDcall (tb : Tbl) (Hv : Tr AObj) (nx : Nat) (K : CR → Prop) (g : FuncId) (args : List AV) (L : Prop) : Prop :=
  Option.rec (motive := fun _ => Prop) L (fun ent => okP (ent Hv args) fun ct => cCt ct (fun v => K (.mk v Hv (nx + 1))) (fun v => K (.pan v Hv (nx + 1)))) (look tb g)

noncomputable def cDheavy (P : Program) (tb : Tbl) (X : Operand → Option AV) (Hv : Tr AObj) (ni nx : Nat) (op : Op) (K : CR → Prop) : Prop :=
  Option.rec (motive := fun _ => Prop)
    (Option.rec (motive := fun _ => Prop) (okP (evHeavy3 P noCall X Hv ni nx op) K)
      (fun t => match t with
        | .fn g args => cDcall tb Hv nx K g args (okP (evHeavy3 P noCall X Hv ni nx op) K)
        | .yld _ _ => False) (tgtOf X op))
    (fun r => sdA r.1 (K (.mk r.2.1 r.2.2 nx))) (sHeavy P X Hv ni op)

theorem cDheavy_sound {P : Program} {tb : Tbl} {X : Operand → Option AV} {Hv : Tr AObj} {ni nx : Nat} {op : Op} {K : CR → Prop} (h : cDheavy P tb X Hv ni nx op K) : ∃ r, evHeavy P (callT tb) X Hv ni nx op = some r ∧ K r := by
  unfold cDheavy at h
  cases h1 : sHeavy P X Hv ni op with
  | some r =>
    rw [h1] at h
    obtain ⟨h2, h3⟩ := sdA_iff.1 h
    obtain ⟨b, v, H'⟩ := r
    simp only at h2; subst h2
    exact ⟨_, sHeavy_ev h1, h3⟩
  | none =>
    rw [h1] at h
    cases h2 : tgtOf X op with
    | none =>
      rw [h2] at h
      obtain ⟨r, h3, h4⟩ := okP_some h
      exact ⟨r, heavy3_ev h1 (by rw [heavy3_target (fun t ht => by rw [h2] at ht; cases ht)]; exact h3), h4⟩
    | some t =>
      rw [h2] at h
      cases t with
      | yld _ _ => exact h.elim
      | fn g args =>
        have h' : cDcall tb Hv nx K g args (okP (evHeavy3 P noCall X Hv ni nx op) K) := h
        unfold cDcall at h'
        cases h3 : look tb g with
        | none =>
          rw [h3] at h'
          obtain ⟨r, h4, h5⟩ := okP_some h'
          exact ⟨r, heavy3_ev h1 (by
            rw [heavy3_target (fun t ht => by
              rw [h2] at ht; injection ht with ht; subst ht
              show (ob (look tb g) fun _ => _) = none
              rw [h3]; rfl)]
            exact h4), h5⟩
        | some ent =>
          rw [h3] at h'
          obtain ⟨ct, h4, h5⟩ := okP_some h'
          obtain ⟨p, v, h6, h7⟩ := cCt_out h5
          have hc : callT tb (.fn g args) Hv nx = some (outCR p v Hv (nx + 1)) := by
            show (ob (look tb g) fun ent => ob (ent Hv args) fun ct => ob (ctOut ct) fun o => some (outCR o.1 o.2 Hv (nx + 1))) = _
            rw [h3]
            show (ob (ent Hv args) fun ct => ob (ctOut ct) fun o => some (outCR o.1 o.2 Hv (nx + 1))) = _
            rw [h4]
            show (ob (ctOut ct) fun o => some (outCR o.1 o.2 Hv (nx + 1))) = _
            rw [h6]; rfl
          refine ⟨_, heavy3_ev h1 (heavy3_call h2 hc), ?_⟩
          cases p with
          | false => exact h7
          | true => exact h7

noncomputable def cDstep (P : Program) (tb : Tbl) (ops : Array Oper) (N r0 : Nat) (AT : Tr Nat) (p : Nat) (o : Oper) (σ : DS) (K : DS → Prop) : Prop :=
  okP (AT.get p) fun A => cond (isDead σ.pn A) (cDput N p o A σ .dead (.tup []) σ.H σ.nx σ.cc K) (cWant ops σ.T o fun T wd => (fun σ : DS => cond wd
    (Option.rec (motive := fun _ => Prop) (Option.rec (motive := fun _ => Prop)
      (fN (r0 + p) fun ni => Option.rec (motive := fun _ => Prop) (Option.rec (motive := fun _ => Prop)
        (sdA (allL (fun h => Go.Ev.tb A h.i) σ.hvs) (sdA σ.pn.isNone (cDheavy P tb (opd σ.T) (viewF σ.news σ.hvs A p r0 σ.H) ni σ.nx o.op (cDres N p o A σ K))))
        (fun q => cDput N p o A σ (.new q.2) q.1 σ.H σ.nx σ.cc K) (evNew3 P (opd σ.T) ni o.op))
        (fun q => sdA q.1 (cDput N p o A σ (.new q.2.2) q.2.1 σ.H σ.nx σ.cc K)) (sNew P (opd σ.T) ni o.op))
      (fun v => cDput N p o A σ .pure v σ.H σ.nx σ.cc K) (evPure3 P (viewF σ.news σ.hvs A p r0 σ.H) (opd σ.T) o.op))
      (fun r => sdA r.1 (cDput N p o A σ .pure r.2 σ.H σ.nx σ.cc K)) (sPure P (viewF σ.news σ.hvs A p r0 σ.H) (opd σ.T) o.op))
    (cDput N p o A σ .off (.tup []) σ.H σ.nx σ.cc K)) ⟨σ.reads, σ.news, σ.hvs, T, σ.H, σ.nx, σ.cc, σ.pn⟩)

theorem cDstep_sound {P : Program} {tb : Tbl} {ops : Array Oper} {N r0 : Nat} {AT : Tr Nat} {p : Nat} {o : Oper} {σ : DS} {K : DS → Prop} (h : cDstep P tb ops N r0 AT p o σ K) : ∃ σ', dstep P (callT tb) ops N r0 AT p o σ = some σ' ∧ K σ' := by
  obtain ⟨A, hA, h1⟩ := okP_some h
  unfold dstep
  rw [hA]
  show ∃ σ', (cond (isDead σ.pn A) (dput N p o A σ .dead (.tup []) σ.H σ.nx σ.cc) <| ob (evWanted ops σ.T o) fun wd => cond wd _ _) = some σ' ∧ K σ'
  cases hd : isDead σ.pn A with
  | true =>
    rw [hd, cond_true] at h1
    obtain ⟨σ', h2, h3⟩ := cDput_sound h1
    exact ⟨σ', h2, h3⟩
  | false =>
    rw [hd, cond_false] at h1
    obtain ⟨wd, h2, hw⟩ := cWant_same h1
    rw [cond_false, hw]
    cases wd with
    | false =>
      have h2 : cDput N p o A σ .off (.tup []) σ.H σ.nx σ.cc K := h2
      obtain ⟨σ', h3, h4⟩ := cDput_sound h2
      refine ⟨σ', ?_, h4⟩
      show dput N p o A σ .off (.tup []) σ.H σ.nx σ.cc = some σ'
      exact h3
    | true =>
      have h2 : (Option.rec (motive := fun _ => Prop) (Option.rec (motive := fun _ => Prop)
        (fN (r0 + p) fun ni => Option.rec (motive := fun _ => Prop) (Option.rec (motive := fun _ => Prop)
          (sdA (allL (fun h => Go.Ev.tb A h.i) σ.hvs) (sdA σ.pn.isNone (cDheavy P tb (opd σ.T) (viewF σ.news σ.hvs A p r0 σ.H) ni σ.nx o.op (cDres N p o A σ K))))
          (fun q => cDput N p o A σ (.new q.2) q.1 σ.H σ.nx σ.cc K) (evNew3 P (opd σ.T) ni o.op))
          (fun q => sdA q.1 (cDput N p o A σ (.new q.2.2) q.2.1 σ.H σ.nx σ.cc K)) (sNew P (opd σ.T) ni o.op))
        (fun v => cDput N p o A σ .pure v σ.H σ.nx σ.cc K) (evPure3 P (viewF σ.news σ.hvs A p r0 σ.H) (opd σ.T) o.op))
        (fun r => sdA r.1 (cDput N p o A σ .pure r.2 σ.H σ.nx σ.cc K)) (sPure P (viewF σ.news σ.hvs A p r0 σ.H) (opd σ.T) o.op)) := h2
      show ∃ σ', (Option.rec (motive := fun _ => Option DS)
        (fN (r0 + p) fun ni => Option.rec (motive := fun _ => Option DS)
          (gd (allL (fun h => Go.Ev.tb A h.i) σ.hvs) (gd σ.pn.isNone <| ob (evHeavy P (callT tb) (opd σ.T) (viewF σ.news σ.hvs A p r0 σ.H) ni σ.nx o.op) fun r =>
            CR.rec (motive := fun _ => Option DS) (fun v H nx => fN (p + 1) fun cc => dput N p o A σ .heavy v H nx cc) (fun v H nx => dput N p o A σ (.pan v H nx) (.tup []) σ.H σ.nx σ.cc) (fun _ _ _ _ => none) r))
          (fun q => dput N p o A σ (.new q.2) q.1 σ.H σ.nx σ.cc) (evNew P (opd σ.T) ni o.op))
        (fun v => dput N p o A σ .pure v σ.H σ.nx σ.cc) (evPure2 P (viewF σ.news σ.hvs A p r0 σ.H) (opd σ.T) o.op)) = some σ' ∧ K σ'
      cases h3 : sPure P (viewF σ.news σ.hvs A p r0 σ.H) (opd σ.T) o.op with
      | some r =>
        rw [h3] at h2
        obtain ⟨h4, h5⟩ := sdA_iff.1 h2
        obtain ⟨b, v⟩ := r
        simp only at h4; subst h4
        rw [sPure_ev h3]
        obtain ⟨σ', h6, h7⟩ := cDput_sound h5
        exact ⟨σ', h6, h7⟩
      | none =>
      rw [h3] at h2
      cases h4 : evPure3 P (viewF σ.news σ.hvs A p r0 σ.H) (opd σ.T) o.op with
      | some v =>
        rw [h4] at h2
        rw [pure3_ev h3 h4]
        obtain ⟨σ', h6, h7⟩ := cDput_sound h2
        exact ⟨σ', h6, h7⟩
      | none =>
      rw [h4] at h2
      have e1 : evPure2 P (viewF σ.news σ.hvs A p r0 σ.H) (opd σ.T) o.op = none := by unfold evPure2; rw [h3]; exact h4
      rw [e1]
      simp only [fN_eq] at h2 ⊢
      cases h5 : sNew P (opd σ.T) (r0 + p) o.op with
      | some r =>
        rw [h5] at h2
        obtain ⟨h6, h7⟩ := sdA_iff.1 h2
        obtain ⟨b, v, ob'⟩ := r
        simp only at h6; subst h6
        rw [sNew_ev h5]
        obtain ⟨σ', h6, h7⟩ := cDput_sound h7
        exact ⟨σ', h6, h7⟩
      | none =>
      rw [h5] at h2
      cases h6 : evNew3 P (opd σ.T) (r0 + p) o.op with
      | some q =>
        rw [h6] at h2
        rw [new3_ev h5 h6]
        obtain ⟨σ', h6, h7⟩ := cDput_sound h2
        exact ⟨σ', h6, h7⟩
      | none =>
      rw [h6] at h2
      have e2 : evNew P (opd σ.T) (r0 + p) o.op = none := by unfold evNew; rw [h5]; exact h6
      rw [e2]
      obtain ⟨h7, h8⟩ := sdA_iff.1 h2
      obtain ⟨h9, h10⟩ := sdA_iff.1 h8
      obtain ⟨r, h11, h12⟩ := cDheavy_sound h10
      simp only [h7, h9, h11, gd, cond_true, ob]
      cases r with
      | mk v H nx =>
        have h12 : fN (p + 1) (fun cc => cDput N p o A σ .heavy v H nx cc K) := h12
        rw [fN_eq] at h12
        obtain ⟨σ', h6, h7⟩ := cDput_sound h12
        exact ⟨σ', h6, h7⟩
      | pan v H nx =>
        obtain ⟨σ', h6, h7⟩ := cDput_sound (show cDput N p o A σ (.pan v H nx) (.tup []) σ.H σ.nx σ.cc K from h12)
        exact ⟨σ', h6, h7⟩
      | dfr _ _ _ _ => exact h12.elim

noncomputable def cDrun (P : Program) (tb : Tbl) (ops : Array Oper) (N r0 : Nat) (AT : Tr Nat) (K : DS → Prop) (l : List Oper) : Nat → DS → Prop :=
  List.rec (motive := fun _ => Nat → DS → Prop) (fun _ σ => K σ)
    (fun o _ ih p σ => cDstep P tb ops N r0 AT p o σ fun σ' => fN (p + 1) fun q => ih q σ') l

theorem cDrun_sound {P : Program} {tb : Tbl} {ops : Array Oper} {N r0 : Nat} {AT : Tr Nat} {K : DS → Prop} : ∀ {l : List Oper} {p : Nat} {σ : DS}, cDrun P tb ops N r0 AT K l p σ → ∃ σ', drun P (callT tb) ops N r0 AT l p σ = some σ' ∧ K σ'
  | [], p, σ, h => ⟨σ, rfl, h⟩
  | o :: l, p, σ, h => by
    obtain ⟨σ1, h1, h2⟩ := cDstep_sound (show cDstep P tb ops N r0 AT p o σ (fun σ' => fN (p + 1) fun q => cDrun P tb ops N r0 AT K l q σ') from h)
    rw [fN_eq] at h2
    obtain ⟨σ', h3, h4⟩ := cDrun_sound h2
    refine ⟨σ', ?_, h4⟩
    show (ob (dstep P (callT tb) ops N r0 AT p o σ) fun σ' => fN (p + 1) fun q => drun P (callT tb) ops N r0 AT l q σ') = _
    rw [h1]
    show fN (p + 1) (fun q => drun P (callT tb) ops N r0 AT l q σ1) = _
    rw [fN_eq]; exact h3

noncomputable def cPureP (P : Program) (H : Tr AObj) (X : Operand → Option AV) (op : Op) (K : AV → Prop) : Prop :=
  Option.rec (motive := fun _ => Prop) (okP (evPure3 P H X op) K) (fun r => sdA r.1 (K r.2)) (sPure P H X op)
theorem cPureP_sound {P : Program} {H : Tr AObj} {X : Operand → Option AV} {op : Op} {K : AV → Prop} (h : cPureP P H X op K) : ∃ v, evPure2 P H X op = some v ∧ K v := by
  unfold cPureP at h
  cases h1 : sPure P H X op with
  | some r =>
    rw [h1] at h
    obtain ⟨h2, h3⟩ := sdA_iff.1 h
    obtain ⟨b, v⟩ := r
    simp only at h2; subst h2
    exact ⟨v, sPure_ev h1, h3⟩
  | none =>
    rw [h1] at h
    obtain ⟨v, h2, h3⟩ := okP_some h
    exact ⟨v, pure3_ev h1 h2, h3⟩

noncomputable def cRead (P : Program) (σ : DS) (r0 : Nat) (r : DRec) (c : Nat) (H : Tr AObj) : Prop :=
  cond (Nat.beq c r.cc) True (cond (lateB σ.hvs c r.i) (cond (allL (fun h => cond (tb r.A h.i) (Nat.blt h.i c) true) σ.hvs)
    (cPureP P (viewF σ.news σ.hvs r.A c r0 H) (opd r.T) r.o.op fun v => v = r.v) True) True)
theorem cRead_sound {P : Program} {σ : DS} {r0 : Nat} {r : DRec} {c : Nat} {H : Tr AObj} (h : cRead P σ r0 r c H) : readOK P σ r0 r c H = true := by
  unfold cRead at h
  unfold readOK
  cases h1 : Nat.beq c r.cc with
  | true => rfl
  | false =>
    rw [h1, cond_false] at h
    rw [cond_false]
    cases h2 : lateB σ.hvs c r.i with
    | false => rfl
    | true =>
      rw [h2, cond_true] at h
      rw [cond_true]
      cases h3 : allL (fun h => cond (tb r.A h.i) (Nat.blt h.i c) true) σ.hvs with
      | false => rfl
      | true =>
        rw [h3, cond_true] at h
        rw [cond_true]
        obtain ⟨v, h4, h5⟩ := cPureP_sound h
        rw [h4]
        exact sameAV_eq.2 h5

noncomputable def allP {α : Type} (f : α → Prop) (l : List α) : Prop := List.rec (motive := fun _ => Prop) True (fun a _ ih => f a ∧ ih) l
theorem allP_allL {α : Type} {f : α → Prop} {g : α → Bool} (hfg : ∀ a, f a → g a = true) : ∀ {l : List α}, allP f l → allL g l = true
  | [], _ => rfl
  | a :: l, h => by
    have h' : f a ∧ allP f l := h
    show cond (g a) (allL g l) false = true
    rw [hfg a h'.1]; exact allP_allL hfg h'.2

noncomputable def cCand (P : Program) (σ : DS) (r0 : Nat) (c : Nat) (H : Tr AObj) : Prop := allP (fun r => cRead P σ r0 r c H) σ.reads ∧ sdA (allL (fun r => newOK σ r0 r c H) σ.news) True
theorem cCand_sound {P : Program} {σ : DS} {r0 : Nat} {c : Nat} {H : Tr AObj} (h : cCand P σ r0 c H) : candOK P σ r0 c H = true := by
  unfold candOK
  rw [allP_allL (fun r hr => cRead_sound hr) h.1]
  exact (sdA_iff.1 h.2).1

noncomputable def cChk (P : Program) (σ : DS) (r0 : Nat) (H0 : Tr AObj) : Prop := cCand P σ r0 0 H0 ∧ allP (fun h => cCand P σ r0 h.cc h.H) σ.hvs
theorem cChk_sound {P : Program} {σ : DS} {r0 : Nat} {H0 : Tr AObj} (h : cChk P σ r0 H0) : dchk P σ r0 H0 = true := by
  unfold dchk
  rw [cCand_sound h.1]
  exact allP_allL (fun r hr => cCand_sound hr) h.2

noncomputable def cDraw (P : Program) (tb : Tbl) (ops : Array Oper) (s : St) (K : KX) : Prop :=
  okP (dstat ops) fun AT => fN ops.size fun n => fN (s.nx + n) fun nx0 => cDrun P tb ops s.N s.nx AT (fun σ => cChk P σ s.nx s.H ∧
    (Option.rec (motive := fun _ => Prop) (K .nrm ⟨s.N, σ.T, viewAll σ.news σ.hvs n s.nx σ.H, σ.nx, s.ro, s.D⟩)
      (fun q => K (.pan q.v) ⟨s.N, cutT q.A ops.toList 0 σ.T, q.H, q.nx, s.ro, s.D⟩) σ.pn)) ops.toList 0 ⟨[], [], [], s.T, s.H, nx0, 0, none⟩

theorem cDraw_sound {P : Program} {tb : Tbl} {ops : Array Oper} {s : St} {K : KX} (h : cDraw P tb ops s K) : ∃ x s', evDraw P (callT tb) ops s = some (.mk x s') ∧ K x s' := by
  obtain ⟨AT, h1, h2⟩ := okP_some h
  simp only [fN_eq] at h2
  obtain ⟨σ, h3, h4, h5⟩ := cDrun_sound h2
  unfold evDraw
  simp only [h1, h3, fN_eq, cChk_sound h4, ob, gd, cond_true]
  cases hp : σ.pn with
  | none => rw [hp] at h5; exact ⟨_, _, rfl, h5⟩
  | some q => rw [hp] at h5; exact ⟨_, _, rfl, h5⟩

theorem cDraw_ok {P : Program} (hm : P.follows .mixedOrders = true) {tb : Tbl} (htb : TbOK P tb) : DrawKOK P (cDraw P tb) := by
  intro ops s K h id E F n0 ρ0 ρ a w ro Q hq hn hk hs
  obtain ⟨x, s', h1, h2⟩ := cDraw_sound h
  exact drawOK hm (callT tb) ops s x s' (callT_ok htb) h1 id E F ρ a w ro Q hs fun ρ' a' w' hx hs' => hq x s' ρ' a' w' h2 (Nat.le_trans hn hx.nn) (hk.trans (Keep.of_rx hx hn)) hs'

/-- All of it. -/
noncomputable def cRun (cx : Ctx) (n : Nat) : CEv := cEvs cx (cDraw cx.P cx.tb) n
theorem cRun_ok {cx : Ctx} (hm : cx.P.follows .mixedOrders = true) (htb : TbOK cx.P cx.tb) (n : Nat) : CallKOK cx.P (cRun cx n).call := (cEvs_sound (cDraw_ok hm htb) htb n).2
end Go.Ev
