/- The symbolic layer, part K: what the sentence says holds: code, loops, functions. -/
import Derived.Test.YtblcpogddmjonaaDoorSxJ
set_option linter.unusedVariables false
set_option linter.unusedSimpArgs false
namespace Go.Ev

/-- A loop from a round's beginning on. -/
def LoopP (F : Fence) (n : Nat) (P : Program) (c : Code) (Q : Exit → Act → World → Prop) (a : Act) (w : World) : Prop :=
  ∀ (b : Frame) (k : List Item) (cs : List Frame), b.roundOf = F.round → F.fn b.fn → F.room (cs.length + 1 + n) →
    ∃ e a' w', Q e a' w' ∧ ArrivesIn (Machine.fenced P F) P (lone (b.atR a (.code c :: .inLoop c :: k)) cs w) b k cs e a' w'

theorem loopP_round {F : Fence} {n : Nat} {P : Program} {c : Code} {Q : Exit → Act → World → Prop} {a : Act} {w : World} (h : c.wpIn F n P (Exit.then (LoopP F n P c Q) Q) a w) : LoopP F n P c Q a w := by
  intro b k cs hro hb hr
  obtain ⟨e, a₁, w₁, hq, harr⟩ := h b (.inLoop c :: k) cs hro hb hr
  cases e with
  | normal =>
    obtain ⟨e₂, a₂, w₂, hq₂, harr₂⟩ := hq b k cs hro hb hr
    exact ⟨e₂, a₂, w₂, hq₂, .of_steps (StepsIn.trans harr (.one (fenced_calm hb hr rfl) stepR_inLoop)) harr₂⟩
  | exit id => exact ⟨_, a₁, w₁, hq, .pass (x := .inLoop c) rfl (fun _ _ => .inl (by simp)) harr⟩
  | goto l => exact ⟨_, a₁, w₁, hq, .pass (x := .inLoop c) rfl (fun _ _ => .inl (by simp)) harr⟩
  | ret => exact ⟨_, a₁, w₁, hq, .pass (x := .inLoop c) rfl (fun _ _ => .inl (by simp)) harr⟩
  | panic ch => exact ⟨_, a₁, w₁, hq, .pass (x := .inLoop c) rfl (fun _ _ => .inl (by simp)) harr⟩
  | outgrown => exact ⟨_, a₁, w₁, hq, .pass (x := .inLoop c) rfl (fun _ _ => .inl (by simp)) harr⟩

theorem loopP_loop {F : Fence} {n : Nat} {P : Program} {c : Code} {Q : Exit → Act → World → Prop} {a : Act} {w : World} (h : LoopP F n P c Q a w) : (Code.loop c).wpIn F n P Q a w := by
  intro b k cs hro hb hr
  obtain ⟨e, a', w', hq, harr⟩ := h b k cs hro hb hr
  exact ⟨e, a', w', hq, .of_steps (.one (fenced_calm hb hr rfl) stepR_loop) harr⟩

/-- Out of the loop's own walk: the loop from its round on. -/
theorem loop_loopP {F : Fence} {n : Nat} {P : Program} {c : Code} {Q : Exit → Act → World → Prop} {a : Act} {w : World} (h : c.wpIn F n P (Exit.then (fun a w => LoopP F n P c Q a w) Q) a w) : (Code.loop c).wpIn F n P Q a w := loopP_loop (loopP_round h)

def KSem (E : Env) (F : Nat → Option Obj) (n0 : Nat) (ρ0 : Ren) (ro : Option Nat) (K : KX) (Q : Exit → Act → World → Prop) : Prop :=
  ∀ x s' ρ' a' w', K x s' → n0 ≤ s'.nx → Keep n0 ρ0 ρ' → SR E F ρ' s' a' w' ro → ExQ ρ' x fun e => Q e a' w'

def CodeKOK (P : Program) (code : Nat → FuncId → Code → St → KX → Prop) : Prop :=
  ∀ n0 f c s K, code n0 f c s K → ∀ E F ρ0 ρ a w ro Q, KSem E F n0 ρ0 ro K Q → n0 ≤ s.nx → Keep n0 ρ0 ρ → SR E F ρ s a w ro →
    match c with
    | .loop c' => LoopP (FW ro) 0 P c' Q a w
    | c => c.wpIn (FW ro) 0 P Q a w

def DrawKOK (P : Program) (D : Array Oper → St → KX → Prop) : Prop :=
  ∀ ops s K, D ops s K → ∀ id E F n0 ρ0 ρ a w ro Q, KSem E F n0 ρ0 ro K Q → n0 ≤ s.nx → Keep n0 ρ0 ρ → SR E F ρ s a w ro → (Code.region id ops true).wpIn (FW ro) 0 P Q a w

theorem code_wp {P : Program} {code : Nat → FuncId → Code → St → KX → Prop} (h : CodeKOK P code) {n0 : Nat} {f : FuncId} {c : Code} {s : St} {K : KX} (hc : code n0 f c s K) {E : Env} {F : Nat → Option Obj} {ρ0 ρ : Ren} {a : Act} {w : World} {ro : Option Nat}
    {Q : Exit → Act → World → Prop} (hq : KSem E F n0 ρ0 ro K Q) (hn : n0 ≤ s.nx) (hk : Keep n0 ρ0 ρ) (hs : SR E F ρ s a w ro) : c.wpIn (FW ro) 0 P Q a w := by
  have := h n0 f c s K hc E F ρ0 ρ a w ro Q hq hn hk hs
  cases c <;> first | exact this | exact loopP_loop this

theorem cCond_sound {ρ : Ren} {T : Tr AV} {tmps : Array Value} {c : Operand} {A B : Tr AV → Prop} (h : cCond T c A B) {a : Act} (ht : TR ρ T a.tmps) :
    ∃ b T', a.eval c = .bool b ∧ (∀ t, T'.get t = T.get t) ∧ (if b then A T' else B T') := by
  unfold cCond at h
  split at h
  · rename_i d
    obtain ⟨v, hv, h1⟩ := okP_some h
    split at h1
    · rename_i b
      have hr := ht.xr (.tmp d) (.bool b) hv
      have he : a.eval (.tmp d) = .bool b := by
        generalize a.eval (.tmp d) = u at hr
        cases hr; rfl
      obtain ⟨h2, h3⟩ := brP_iff.1 h1
      refine ⟨b, T.set d (.bool b), he, fun t => ?_, ?_⟩
      · rw [Tr.get_set]; split
        · rename_i e; subst e; exact hv.symm
        · rfl
      · cases b with
        | true => exact h2 rfl
        | false => exact h3 rfl
    · exact h1.elim
  · rename_i b
    obtain ⟨h2, h3⟩ := brP_iff.1 h
    refine ⟨b, T, rfl, fun _ => rfl, ?_⟩
    cases b with
    | true => exact h2 rfl
    | false => exact h3 rfl
  · exact h.elim

theorem cCodeF_sound {cx : Ctx} {En : CEv} {D : Array Oper → St → KX → Prop} (hD : DrawKOK cx.P D) (hcode : CodeKOK cx.P En.code) (hcall : CallKOK cx.P En.call) (htb : TbOK cx.P cx.tb) : CodeKOK cx.P (cCodeF cx En D) := by
  intro n0 f c s K h E F ρ0 ρ a w ro Q hq hn hk hs
  cases c with
  | skip => exact wpIn_skip (hq _ _ _ _ _ h hn hk hs)
  | region id ops draw =>
    cases draw with
    | false =>
      refine opsTo_region ?_
      have := cSeq_sound hcall htb (ops := ops) (E := E) (F := F) (ro := ro) (Q := Q) (K := K) hq ops.toList 0 s ρ a w (fun j o hj => by simpa using hj) h hn hk hs
      rw [List.range_eq_range']
      simpa using this
    | true => exact hD ops s K h id E F n0 ρ0 ρ a w ro Q hq hn hk hs
  | seq p q =>
    have h' : (Option.rec (motive := fun _ => Prop) (En.code n0 f p s fun ax s' => match ax with
      | .nrm => En.code n0 f q s' K
      | ax => K ax s') (fun S => cCut En S n0 f p q s K) (Option.rec (motive := fun _ => Option Stn) none (fun r => cx.cut f r) (firstR q))) := h
    cases hS : (Option.rec (motive := fun _ => Option Stn) none (fun r => cx.cut f r) (firstR q)) with
    | none =>
      rw [hS] at h'
      refine wpIn_seq (code_wp hcode h' (ρ0 := ρ0) ?_ hn hk hs)
      intro x s' ρ' a' w' hx hn' hk' hs'
      cases x with
      | nrm => exact code_wp hcode hx hq hn' hk' hs'
      | exit id => exact hq _ _ _ _ _ hx hn' hk' hs'
      | goto l => exact hq _ _ _ _ _ hx hn' hk' hs'
      | ret => exact hq _ _ _ _ _ hx hn' hk' hs'
      | pan v => exact fun u hu => hq (.pan v) _ _ _ _ hx hn' hk' hs' u hu
    | some S =>
      rw [hS] at h'
      obtain ⟨h1, h2⟩ := (show cCut En S n0 f p q s K from h')
      refine wpIn_seq (code_wp hcode h1 (ρ0 := ρ0) ?_ hn hk hs)
      intro x s' ρ' a' w' hx hn' hk' hs'
      cases x with
      | nrm =>
        obtain ⟨x0, hI, hst⟩ := hx
        obtain ⟨hn2, ρ2, hk2, hs2⟩ := stP_rel hst hs'
        exact code_wp hcode (h2 x0 hI) hq hn2 (hk'.trans hk2) hs2
      | exit id => exact hq _ _ _ _ _ hx hn' hk' hs'
      | goto l => exact hq _ _ _ _ _ hx hn' hk' hs'
      | ret => exact hq _ _ _ _ _ hx hn' hk' hs'
      | pan v => exact fun u hu => hq (.pan v) _ _ _ _ hx hn' hk' hs' u hu
  | cond c p q =>
    obtain ⟨b, T', he, hT, hb⟩ := cCond_sound (tmps := a.tmps) (show cCond s.T c (fun T => En.code n0 f p ⟨s.N, T, s.H, s.nx, s.ro, s.D⟩ K) (fun T => En.code n0 f q ⟨s.N, T, s.H, s.nx, s.ro, s.D⟩ K) from h) hs.tr
    have hs' : SR E F ρ ⟨s.N, T', s.H, s.nx, s.ro, s.D⟩ a w ro := ⟨hs.rel, fun t b hb => hs.tr t b (by rw [← hT]; exact hb), hs.size, hs.dr, hs.rr⟩
    refine wpIn_cond he ?_
    cases b with
    | true => exact code_wp hcode (show En.code n0 f p ⟨s.N, T', s.H, s.nx, s.ro, s.D⟩ K from hb) hq hn hk hs'
    | false => exact code_wp hcode (show En.code n0 f q ⟨s.N, T', s.H, s.nx, s.ro, s.D⟩ K from hb) hq hn hk hs'
  | block id p =>
    refine wpIn_block (code_wp hcode (show En.code n0 f p s _ from h) (ρ0 := ρ0) ?_ hn hk hs)
    intro x s' ρ' a' w' hx hn' hk' hs'
    cases x with
    | nrm => exact hq _ _ _ _ _ hx hn' hk' hs'
    | exit id' =>
      show if id' = id then Q .normal a' w' else Q (.exit id') a' w'
      have hx' : cond (Nat.beq id' id) (K .nrm s') (K (.exit id') s') := hx
      cases hb : Nat.beq id' id with
      | true =>
        rw [hb, cond_true] at hx'
        rw [Nat.beq_eq] at hb
        rw [if_pos hb]; exact hq _ _ _ _ _ hx' hn' hk' hs'
      | false =>
        rw [hb, cond_false] at hx'
        rw [if_neg (fun e => by rw [← Nat.beq_eq, hb] at e; cases e)]; exact hq _ _ _ _ _ hx' hn' hk' hs'
    | goto l => exact hq _ _ _ _ _ hx hn' hk' hs'
    | ret => exact hq _ _ _ _ _ hx hn' hk' hs'
    | pan v => exact fun u hu => hq (.pan v) _ _ _ _ hx hn' hk' hs' u hu
  | loop p =>
    have h' : (Option.rec (motive := fun _ => Prop) (En.code n0 f p s fun ax s' => match ax with
      | .nrm => En.code n0 f (.loop p) s' K
      | ax => K ax s') (fun S => cLoop En S n0 f p s K) (Option.rec (motive := fun _ => Option Stn) none (fun r => cx.lp f r) (firstR p))) := h
    show LoopP (FW ro) 0 cx.P p Q a w
    cases hS : (Option.rec (motive := fun _ => Option Stn) none (fun r => cx.lp f r) (firstR p)) with
    | none =>
      rw [hS] at h'
      refine loopP_round (code_wp hcode h' (ρ0 := ρ0) ?_ hn hk hs)
      intro x s' ρ' a' w' hx hn' hk' hs'
      cases x with
      | nrm => exact hcode n0 f (.loop p) s' K hx E F ρ0 ρ' a' w' ro Q hq hn' hk' hs'
      | exit id => exact hq _ _ _ _ _ hx hn' hk' hs'
      | goto l => exact hq _ _ _ _ _ hx hn' hk' hs'
      | ret => exact hq _ _ _ _ _ hx hn' hk' hs'
      | pan v => exact fun u hu => hq (.pan v) _ _ _ _ hx hn' hk' hs' u hu
    | some S =>
      rw [hS] at h'
      obtain ⟨⟨x0, hI0, hst0⟩, hround⟩ := (show cLoop En S n0 f p s K from h')
      have key : ∀ (m : Nat) (x : S.X), S.m x < m → S.I s x → ∀ ρ a w, n0 ≤ S.nx s n0 → Keep n0 ρ0 ρ → SR E F ρ (stOf S s n0 x) a w ro → LoopP (FW ro) 0 cx.P p Q a w := by
        intro m
        induction m with
        | zero => intro x hx; omega
        | succ m ih =>
          intro x hx hI ρ a w hn1 hk1 hs1
          refine loopP_round (code_wp hcode (hround x hI) (ρ0 := ρ0) ?_ hn1 hk1 hs1)
          intro y s' ρ' a' w' hy hn' hk' hs'
          cases y with
          | nrm =>
            obtain ⟨x1, hI1, hm1, hst1⟩ := hy
            obtain ⟨hn2, ρ2, hk2, hs2⟩ := stP_rel hst1 hs'
            exact ih x1 (by omega) hI1 ρ2 a' w' hn2 (hk'.trans hk2) hs2
          | exit id => exact hq _ _ _ _ _ hy hn' hk' hs'
          | goto l => exact hq _ _ _ _ _ hy hn' hk' hs'
          | ret => exact hq _ _ _ _ _ hy hn' hk' hs'
          | pan v => exact fun u hu => hq (.pan v) _ _ _ _ hy hn' hk' hs' u hu
      obtain ⟨hn2, ρ2, hk2, hs2⟩ := stP_rel hst0 hs
      exact key (S.m x0 + 1) x0 (Nat.lt_succ_self _) hI0 ρ2 a w hn2 (hk.trans hk2) hs2
  | rangeFunc f ps asg body => exact h.elim
  | exit id => exact wpIn_exit (hq (.exit id) _ _ _ _ h hn hk hs)
  | label l => exact wpIn_label (hq .nrm _ _ _ _ h hn hk hs)
  | goto l => exact wpIn_goto (hq (.goto l) _ _ _ _ h hn hk hs)
  | ret => exact wpIn_ret (hq .ret _ _ _ _ h hn hk hs)
  | scope p =>
    refine wpIn_scope (code_wp hcode (show En.code n0 f p s _ from h) (ρ0 := ρ0) ?_ hn hk hs)
    intro x s' ρ' a' w' hx hn' hk' hs'
    cases x with
    | nrm => exact ⟨fun _ e => (by cases e), hq .nrm _ _ _ _ hx hn' hk' hs'⟩
    | exit id => exact ⟨fun _ e => (by cases e), hq (.exit id) _ _ _ _ hx hn' hk' hs'⟩
    | goto l => exact hx.elim
    | ret => exact ⟨fun _ e => (by cases e), hq .ret _ _ _ _ hx hn' hk' hs'⟩
    | pan v => exact fun u hu => ⟨fun _ e => (by cases e), hq (.pan v) _ _ _ _ hx hn' hk' hs' u hu⟩
  | refuse _ => exact h.elim

theorem cFunc_sound {cx : Ctx} {En : CEv} (hcode : CodeKOK cx.P En.code) : CallKOK cx.P (cFunc cx En) := by
  intro g args H nx K h E F ρ w r
  obtain ⟨fn, hfn, h1⟩ := okP_some h
  obtain ⟨hnm, h2⟩ := sdA_iff.1 h1
  obtain ⟨c, hc, h3⟩ := okP_some h2
  simp only [fN_eq] at h3
  refine ⟨⟨fn, c, hfn, by simpa using hnm, hc⟩, fun vs hvs => ?_⟩
  refine callsIn_of_wp_marks hfn hc trivial ?_
  have hlen := hvs.length
  refine code_wp hcode h3 (E := E) (F := F) (ρ0 := ρ) (ρ := ρ) (ro := none) (fun x s ρ' a' w' hx hn hk hs' => ?_) (Nat.le_refl _) (Keep.refl _ _) ⟨r, setArgs_tr hvs _, by simp [hlen], .nil, .none⟩
  have hrx : RX nx s.nx ρ ρ' := ⟨⟨fun i b hb => (by
    by_cases hi : i < nx
    · rw [hk.lo i hi]; exact hb
    · rw [r.new i (by omega)] at hb; exact absurd hb (by simp)), hk.st⟩, hk.lo, hn⟩
  unfold cOut at hx
  split at hx
  · rename_i hD
    have hdr := hs'.dr
    rw [hD] at hdr
    have hdf : a'.defers = [] := by generalize a'.defers = ds at hdr; cases hdr; rfl
    have lv : ∀ u R, u ≠ FrameMode.run → LeavesIn (FW none) 0 cx.P fn a'.tmps R [] u w' → LeavesInM (FW none) 0 cx.P fn a'.tmps R a'.defers u w' := fun u R hu h => by rw [hdf]; exact h
    split at hx
    · obtain ⟨v1, hv1, h8⟩ := okP_some hx
      obtain ⟨u1, hu, hur⟩ := evResults_sound (P := cx.P) hs'.rel hs'.tr hv1
      exact lv _ _ (by simp) ⟨u1, hu, _, h8, u1, ρ', rfl, hrx, hs'.rel, hur⟩
    · obtain ⟨v1, hv1, h8⟩ := okP_some hx
      obtain ⟨u1, hu, hur⟩ := evResults_sound (P := cx.P) hs'.rel hs'.tr hv1
      exact lv _ _ (by simp) ⟨u1, hu, _, h8, u1, ρ', rfl, hrx, hs'.rel, hur⟩
    · intro u hu
      exact lv _ _ (by simp) ⟨_, hx, u, ρ', rfl, hrx, hs'.rel, hu⟩
    · exact hx.elim
  · exact hx.elim

theorem cEvs_sound {cx : Ctx} {D : Array Oper → St → KX → Prop} (hD : DrawKOK cx.P D) (htb : TbOK cx.P cx.tb) : ∀ n, CodeKOK cx.P (cEvs cx D n).code ∧ CallKOK cx.P (cEvs cx D n).call
  | 0 => ⟨fun _ _ _ _ _ h => h.elim, fun _ _ _ _ _ h => h.elim⟩
  | n + 1 => by
    obtain ⟨h1, h2⟩ := cEvs_sound hD htb n
    exact ⟨cCodeF_sound hD h1 h2 htb, cFunc_sound h1⟩

/-! ### from a run by itself to a contract -/
/-- What is awaited of a call, by content. -/
noncomputable def ResM (P : Program) (p : Bool) (c : AV) (r : CR) : Prop :=
  match p, r with
  | false, .mk v H _ => okP (frz P H v) fun q => sdA q.1 (vmP [] c q.2.1)
  | true, .pan v H _ => okP (frz P H v) fun q => sdA q.1 (vmP [] c q.2.1)
  | _, _ => False

theorem vm_free {ρ ρ2 : Ren} (h : ∀ b o, ρ.st b = some o → ρ2.st b = some o) : SgOK [] ρ ρ2 := ⟨fun i j hij => (by cases hij), h⟩

theorem lift_end {P : Program} {E : Env} {F : Nat → Option Obj} {nx : Nat} {ρ : Ren} {H : Tr AObj} {w : World} (r : Rel E F nx ρ H.get w) {n1 : Nat} {ρ1 : Ren} {H1 : Tr AObj} {w' : World} {v' c : AV} {u : Value}
    (hst : ∀ b o, ρ.st b = some o → ρ1.st b = some o) (r1 : Rel (guardE E ρ) (fun b => w.heap[b]?) n1 ρ1 H1.get w') (hv : VR ρ1 v' u) (hc : okP (frz P H1 v') fun q => sdA q.1 (vmP [] c q.2.1)) :
    ∃ ρ', RX nx (nx + 1) ρ ρ' ∧ Rel E F (nx + 1) ρ' H.get w' ∧ VR ρ' c u := by
  obtain ⟨⟨s, c', fz, ids⟩, hfr, h1⟩ := okP_some hc
  obtain ⟨h2, h3⟩ := sdA_iff.1 h1
  simp only at h2; subst h2
  obtain ⟨hids, _, hval⟩ := frz_sound r1 v' c' fz ids hfr
  obtain ⟨hx, r2⟩ := frzR_rel r1 hids
  have hv2 := hval ids hids (fun _ h => h) u hv
  generalize frzR ρ1 w' ids = ρ2 at hx r2 hv2
  have hst2 : ∀ b o, ρ.st b = some o → ρ2.st b = some o := fun b o h => hx.le.st b o (hst b o h)
  have hle : ρ.le ⟨ρ.nm, ρ2.st⟩ := ⟨fun _ _ h => h, hst2⟩
  have hheap : ∀ b o, w.heap[b]? = some o → w'.heap[b]? = some o := r2.fr
  have hfs : ∀ b o o', w.heap[b]? = some o → ρ2.st b = some o' → ρ.st b ≠ none := fun b o o' h1 h2 => by
    have := r2.sf b o o' h1 h2
    simpa [guardE] using this
  refine ⟨⟨ρ.nm, ρ2.st⟩, ⟨hle, fun _ _ => rfl, Nat.le_succ _⟩, ⟨r2.tape, r2.os, r2.output, fun b o hb => hheap b o (r.fr b o hb), fun i o b hi hb => ?_, r.dj, r.inj, fun i hi => r.new i (Nat.le_of_succ_le hi), r.gl, r.bs, r2.st, fun i o b hi hb => ?_, fun b o o' hF hs => ?_⟩, vm_rel (ρ := ρ2) (ρ2 := ⟨ρ.nm, ρ2.st⟩) (vm_free fun _ _ h => h) c c' u h3 hv2⟩
  · obtain ⟨oc, h4, h5⟩ := r.ob i o b hi hb
    exact ⟨oc, hheap _ _ h4, h5.mono hle⟩
  · obtain ⟨oc, h4, h5⟩ := r.ob i o b hi hb
    cases hs : ρ2.st b.b with
    | none => rfl
    | some o' => exact absurd (r.sd i o b hi hb) (hfs b.b oc o' h4 hs)
  · have := hfs b o o' (r.fr b o hF) hs
    cases hs' : ρ.st b with
    | none => exact absurd hs' this
    | some o'' => exact r.sf b o o'' hF hs'

/-- The run by itself, over tables: a contract. -/
theorem ent_ok {P : Program} {call : FuncId → List AV → Tr AObj → Nat → KC → Prop} (hcall : CallKOK P call) {g : FuncId} {ent : Tr AObj → List AV → Option Ct} {gl : List (Nat × AObj)} {ng : Nat}
    (hgl : ∀ p ∈ gl, isGl p.2 = true)
    (hrun : ∀ H args ct, ent H args = some ct → (∀ p ∈ gl, H.get p.1 = some p.2) ∧ vmL [] args args ∧ ∀ p v, ctOut ct = some (p, v) → call g args (mkH gl) ng (ResM P p v)) : EntOK P g ent := by
  intro H args ct hct p v hout E F ρ w nx H' hG r
  obtain ⟨hH, hargs, hcl⟩ := hrun H args ct hct
  have r0 : Rel (guardE E ρ) (fun b => w.heap[b]?) ng ⟨fun _ => none, ρ.st⟩ (mkH gl).get w :=
    ⟨r.tape, r.os, r.output, fun _ _ h => h, fun _ _ _ _ h => (by cases h), fun _ _ _ _ h => (by cases h), fun _ _ _ _ _ _ _ _ h => (by cases h), fun _ _ => rfl,
      fun g l hg => hG g l (hH _ (mkH_get hg)), fun b o hb => r.fr b o (r.bs b o hb), r.st, fun _ _ _ _ h => (by cases h), fun b o o' _ hs => (by simp [guardE]; exact fun e => by rw [show ρ.st b = some o' from hs] at e; cases e)⟩
  have hok := hcall g args (mkH gl) ng _ (hcl p v hout) _ _ _ w r0
  refine ⟨hok.1, fun vs hvs => CallsIn.mono (hok.2 vs (vmL_rel (ρ := ρ) (ρ2 := ⟨fun _ => none, ρ.st⟩) (vm_free fun _ _ h => h) args args vs hargs hvs)) fun e w' he => ?_⟩
  obtain ⟨res, hres, hend⟩ := he
  cases p with
  | false =>
    cases res with
    | mk v' H1 n1 =>
      obtain ⟨u, ρ1, rfl, hx, r1, hv⟩ := hend
      obtain ⟨ρ', h1, h2, h3⟩ := lift_end r hx.le.st r1 hv hres
      exact ⟨u, ρ', rfl, h1, h2, h3⟩
    | pan _ _ _ => exact hres.elim
    | dfr _ _ _ _ => exact hres.elim
  | true =>
    cases res with
    | pan v' H1 n1 =>
      obtain ⟨u, ρ1, rfl, hx, r1, hv⟩ := hend
      obtain ⟨ρ', h1, h2, h3⟩ := lift_end r hx.le.st r1 hv hres
      exact ⟨u, ρ', rfl, h1, h2, h3⟩
    | mk _ _ _ => exact hres.elim
    | dfr _ _ _ _ => exact hres.elim
end Go.Ev
