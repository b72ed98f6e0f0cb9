/- The evaluator, part P: one step of a region that draws its order, and all of it. -/
import Derived.Test.YtdpohandjgnknaaGreatDoorEvO
namespace Go.Ev

section
variable {t : DTab} {P : Program} {call : CallF} {ops : Array Oper} {s : St}

theorem cand_le {c : Nat} (hc : t.cand ops.size c) : c ≤ ops.size := by
  rcases hc with rfl | ⟨q, hq, rfl⟩
  · omega
  · exact hq.1

variable {E : Env} {F : Nat → Option Obj} {ρ0 : Ren} {ro : Option Nat}

theorem not_anc_of {listed : Array Bool} {a : Act} {w : World} {ρ : Ren} {c i : Nat} (inv : DInv t ops s E F ρ0 ro listed a w ρ c) (hL : ¬ Ls listed i) : t.late ops.size c i :=
  fun q hq hqc han => hL (inv.down q i hq.1 ((inv.hc q hq).2 hqc) han)

theorem sub_hs (ok : DOK t P call ops s) {listed : Array Bool} {a : Act} {w : World} {ρ : Ren} {c i : Nat} (inv : DInv t ops s E F ρ0 ro listed a w ρ c) (hi : i < ops.size)
    (hpre : ∀ j, t.anc i j → Ls listed j) {V : Tr AObj} (hV : t.sub ops.size s.nx V i c) {x : Nat} {o : AObj} (hx : V.get x = some o) : t.hD ops.size s.nx listed c x = some o := by
  rcases hV x o hx with ⟨j, h1, h2, h3, rfl⟩ | h
  · exact hD_new ⟨Nat.lt_trans (ok.anc i j hi h1).1 hi, hpre j h1, h3⟩ h2
  · refine hD_old h fun j o' hxj hp hk => ?_
    subst hxj
    have h := ok.kind j hp.1
    unfold DTab.kindOK at h
    rw [hk] at h
    have := h.2.2.2 c inv.cand hp.2.2
    simp_all

theorem look_of (ok : DOK t P call ops s) {listed : Array Bool} {a : Act} {w : World} {ρ : Ren} {c i : Nat} (inv : DInv t ops s E F ρ0 ro listed a w ρ c) (hi : i < ops.size) (hL : ¬ Ls listed i)
    (hpre : ∀ j, t.anc i j → Ls listed j) {d : Tmp} (hl : looks ops (t.oo i) d) {b : AV} (hb : (t.Tin i).get d = some b) : ∃ u, a.tmps[d]? = some u ∧ VR ρ b u := by
  rcases tin_get ok i d b (by omega) hb with ⟨k, h1, h2, h3⟩ | ⟨h1, h2⟩
  · have hk : k < ops.size := by omega
    rcases ok.look i d k hi hk hl h2 (by omega) with h | h
    · subst h3
      exact inv.tm1 k d hk (hpre k h) h2
    · have := (ok.anc k i hk h).1
      omega
  · refine inv.tm2 d b (fun k hk hLk hd => ?_) h2
    have hki : k ≠ i := fun e => by subst e; exact hL hLk
    rcases ok.look i d k hi hk hl hd hki with h | h
    · exact h1 k (ok.anc i k hi h).1 hd
    · exact hL (inv.down k i hk hLk h)

theorem xr_of (ok : DOK t P call ops s) {listed : Array Bool} {a : Act} {w : World} {ρ : Ren} {c i : Nat} (inv : DInv t ops s E F ρ0 ro listed a w ρ c) (hi : i < ops.size) (hL : ¬ Ls listed i)
    (hpre : ∀ j, t.anc i j → Ls listed j) : ∃ X : Operand → Option AV, XR ρ X a.eval ∧ ∀ x ∈ (t.oo i).op.operands, X x = opd (t.Tin i) x := by
  classical
  refine ⟨fun x => if x ∈ (t.oo i).op.operands then opd (t.Tin i) x else none, fun x b hx => ?_, fun x hx => if_pos hx⟩
  simp only at hx
  split at hx
  · rename_i hm
    cases x with
    | tmp d =>
      obtain ⟨u, h1, h2⟩ := look_of ok inv hi hL hpre (.inl hm) (show (t.Tin i).get d = some b from hx)
      have : a.eval (.tmp d) = u := by simp [Act.eval, h1]
      rw [this]; exact h2
    | const v => exact TR.xr (T := .leaf) (ρ := ρ) (a := a) (fun t a h => by rw [Tr.get_leaf] at h; cases h) (.const v) b hx
    | func f => exact TR.xr (T := .leaf) (ρ := ρ) (a := a) (fun t a h => by rw [Tr.get_leaf] at h; cases h) (.func f) b hx
    | global g => exact TR.xr (T := .leaf) (ρ := ρ) (a := a) (fun t a h => by rw [Tr.get_leaf] at h; cases h) (.global g) b hx
  · cases hx

theorem wanted_of (ok : DOK t P call ops s) {listed : Array Bool} {a : Act} {w : World} {ρ : Ren} {c i : Nat} (inv : DInv t ops s E F ρ0 ro listed a w ρ c) (hi : i < ops.size) (hL : ¬ Ls listed i)
    (hpre : ∀ j, t.anc i j → Ls listed j) {b : Bool} (h : evWanted ops (t.Tin i) (t.oo i) = some b) : Region.wanted (t.oo i) (yielded ops a.tmps) = b := by
  unfold evWanted at h
  unfold Region.wanted
  cases hg : (t.oo i).guard with
  | none => rw [hg] at h; injection h with h
  | some p =>
    obtain ⟨j, want⟩ := p
    rw [hg] at h
    obtain ⟨oj, hoj, h1⟩ := ob_some.1 h
    obtain ⟨d, hd, h2⟩ := ob_some.1 h1
    obtain ⟨v, hv, h3⟩ := ob_some.1 h2
    obtain ⟨u, hu, hr⟩ := look_of ok inv hi hL hpre (.inr ⟨j, want, oj, hg, hoj, hd⟩) hv
    have hy : yielded ops a.tmps j = match u with | .bool b => some b | _ => none := by
      unfold yielded
      rw [hoj]
      simp only [Option.bind_some, hd, hu]
      cases u <;> rfl
    show (yielded ops a.tmps j == some want) = b
    rw [hy]
    split at h3
    · injection h3 with h3; subst h3
      cases hr
      rename_i b
      cases b <;> cases want <;> rfl
    · rename_i hnb
      injection h3 with h3; subst h3
      cases hr <;> first | rfl | (exact absurd rfl (hnb _))

/-- What an operation's end leaves, put together. -/
theorem step_common (ok : DOK t P call ops s) {listed : Array Bool} {a : Act} {w w' : World} {ρ ρ' : Ren} {c c' i : Nat} (inv : DInv t ops s E F ρ0 ro listed a w ρ c) (hi : i < ops.size) (hL : ¬ Ls listed i)
    (hpre : ∀ j, t.anc i j → Ls listed j) (hnp : ¬ t.isPan i) {u : Value} (hle : ρ.le ρ') (hlo : ∀ x, x < s.nx → ρ' x = ρ x) (hun : ∀ j, j < ops.size → j ≠ i → ¬ Ls listed j → ρ' (s.nx + j) = ρ (s.nx + j))
    (hv : VR ρ' (t.v i) u) (hcand : t.cand ops.size c') (hc : ∀ q, t.hv ops.size q → ((q = i ∨ Ls listed q) ↔ q < c')) (hnn : s.nx + ops.size ≤ t.nxs c')
    (hrel : Rel E F (t.nxs c') ρ' (t.hD ops.size s.nx (listed.setIfInBounds i true) c') w') :
    DInv t ops s E F ρ0 ro (listed.setIfInBounds i true) (a.put (t.oo i).dst u) w' ρ' c' := by
  have hset := fun j => Ls_set (listed := listed) (j := j) (show i < listed.size by rw [inv.size]; exact hi)
  have hdl : ∀ d, (t.oo i).dst = some d → d < s.N := fun d hd => by
    have := ok.Ts i hi
    unfold evPut at this
    rw [hd] at this
    have := (gd_some.1 this).1
    rwa [Nat.blt_eq] at this
  have hsame : ∀ d, (t.oo i).dst = some d → (a.put (t.oo i).dst u).tmps[d]? = some u := fun d hd => by
    rw [hd]
    simp [Act.put, inv.sz, hdl d hd]
  have hother : ∀ d, (t.oo i).dst ≠ some d → (a.put (t.oo i).dst u).tmps[d]? = a.tmps[d]? := fun d hd => by
    cases hdd : (t.oo i).dst with
    | none => rfl
    | some d' =>
      have : d' ≠ d := fun e => hd (by rw [hdd, e])
      simp only [Act.put]; rw [Array.getElem?_setIfInBounds_ne this]
  refine ⟨by simp [inv.size], hcand, fun q hq => by rw [hset]; exact hc q hq, ?_, Ren.le_trans inv.le hle, fun x hx => (hlo x hx).trans (inv.lo x hx), hnn, hrel, ?_, ?_, ?_, ?_, ?_, ?_, ?_⟩
  · intro j k hj hjl hjk
    rw [hset] at hjl ⊢
    rcases hjl with rfl | hjl
    · exact .inr (hpre k hjk)
    · exact .inr (inv.down j k hj hjl hjk)
  · intro j hj hjl
    rw [hset] at hjl
    rw [hun j hj (fun e => hjl (.inl e)) (fun e => hjl (.inr e))]
    exact inv.unl j hj fun e => hjl (.inr e)
  · intro j d hj hjl hd
    rw [hset] at hjl
    by_cases hji : j = i
    · subst hji; exact ⟨u, hsame d hd, hv⟩
    · have hne : (t.oo i).dst ≠ some d := fun e => hji (ok.dst j i d hj hi hd e)
      rw [hother d hne]
      obtain ⟨z, h1, h2⟩ := inv.tm1 j d hj (hjl.resolve_left hji) hd
      exact ⟨z, h1, h2.mono hle⟩
  · intro d x hno hx
    have hne : (t.oo i).dst ≠ some d := hno i hi ((hset i).2 (.inl rfl))
    rw [hother d hne]
    obtain ⟨z, h1, h2⟩ := inv.tm2 d x (fun j hj hjl => hno j hj ((hset j).2 (.inr hjl))) hx
    exact ⟨z, h1, h2.mono hle⟩
  · cases hdd : (t.oo i).dst with
    | none => exact inv.sz
    | some d => simp [Act.put, inv.sz]
  · have : (a.put (t.oo i).dst u).defers = a.defers := by cases (t.oo i).dst <;> rfl
    rw [this]; exact inv.dr.mono hle
  · exact inv.rr.mono hle
  · intro j hj
    rcases (hset j).1 hj with rfl | hj
    · exact hnp
    · exact inv.np j hj

theorem stay_hD {listed : Array Bool} {c i : Nat} (hs : i < listed.size) (hk : ∀ o, t.k i ≠ .new o) {x : Nat} {o : AObj}
    (h : t.hD ops.size s.nx (listed.setIfInBounds i true) c x = some o) (hfr : ∀ j o', t.pend ops.size listed c j → t.k j = .new o' → (t.G c).get (s.nx + j) = none) : t.hD ops.size s.nx listed c x = some o := by
  rcases hD_some h with ⟨j, rfl, hp, hj⟩ | h
  · refine hD_new ⟨hp.1, ?_, hp.2.2⟩ hj
    rcases (Ls_set hs).1 hp.2.1 with rfl | hl
    · exact absurd hj (hk _)
    · exact hl
  · refine hD_old h fun j o' e hp hj => ?_
    subst e
    rw [hfr j o' hp hj] at h; cases h

theorem fresh_of (ok : DOK t P call ops s) {listed : Array Bool} {a : Act} {w : World} {ρ : Ren} {c : Nat} (inv : DInv t ops s E F ρ0 ro listed a w ρ c) {j : Nat} {o' : AObj} (hp : t.pend ops.size listed c j) (hj : t.k j = .new o') :
    (t.G c).get (s.nx + j) = none := by
  have h := ok.kind j hp.1
  unfold DTab.kindOK at h
  rw [hj] at h
  exact h.2.2.2 c inv.cand hp.2.2
end
end Go.Ev
