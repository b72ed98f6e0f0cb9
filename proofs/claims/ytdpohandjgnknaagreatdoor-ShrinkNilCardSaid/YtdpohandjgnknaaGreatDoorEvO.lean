/- The evaluator, part O: a region that draws its order: what every order comes to. -/
import Derived.Test.YtdpohandjgnknaaGreatDoorEvN
namespace Go.Ev

/-- The table of a region's run in the order of its text. -/
structure DTab where
  oo : Nat → Oper
  A : Nat → Nat
  Tin : Nat → Tr AV
  k : Nat → DK
  v : Nat → AV
  G : Nat → Tr AObj
  nxs : Nat → Nat

def DTab.hv (t : DTab) (n q : Nat) : Prop := q < n ∧ t.k q = .heavy
def DTab.cand (t : DTab) (n c : Nat) : Prop := c = 0 ∨ ∃ q, t.hv n q ∧ c = q + 1
def DTab.anc (t : DTab) (i j : Nat) : Prop := (t.A i).testBit j = true
/-- Not yet in the heap at c. -/
def DTab.late (t : DTab) (n c j : Nat) : Prop := ∀ q, t.hv n q → q < c → ¬ t.anc q j
def DTab.sub (t : DTab) (n r0 : Nat) (V : Tr AObj) (i c : Nat) : Prop :=
  ∀ x o, V.get x = some o → (∃ j, t.anc i j ∧ t.k j = .new o ∧ t.late n c j ∧ x = r0 + j) ∨ (t.G c).get x = some o

def looks (ops : Array Oper) (o : Oper) (t : Tmp) : Prop := .tmp t ∈ o.op.operands ∨ ∃ j want oj, o.guard = some (j, want) ∧ ops[j]? = some oj ∧ oj.dst = some t

def DTab.stay (t : DTab) (i : Nat) : Prop := t.G (i + 1) = t.G i ∧ t.nxs (i + 1) = t.nxs i

def DTab.isPan (t : DTab) (p : Nat) : Prop := ∃ v H nx, t.k p = .pan v H nx

def DTab.kindOK (t : DTab) (P : Program) (call : CallF) (ops : Array Oper) (r0 i : Nat) : Prop :=
  match t.k i with
  | .off => evWanted ops (t.Tin i) (t.oo i) = some false ∧ t.v i = .tup [] ∧ t.stay i
  | .pure => evWanted ops (t.Tin i) (t.oo i) = some true ∧ t.stay i ∧
      ∀ c, t.cand ops.size c → t.late ops.size c i → (∀ q, t.hv ops.size q → t.anc i q → q < c) → ∃ V, t.sub ops.size r0 V i c ∧ evPure2 P V (opd (t.Tin i)) (t.oo i).op = some (t.v i)
  | .new o => evWanted ops (t.Tin i) (t.oo i) = some true ∧ t.stay i ∧ evNew P (opd (t.Tin i)) (r0 + i) (t.oo i).op = some (t.v i, o) ∧
      ∀ c, t.cand ops.size c → t.late ops.size c i → (t.G c).get (r0 + i) = none
  | .heavy => evWanted ops (t.Tin i) (t.oo i) = some true ∧ (∀ q, t.hv ops.size q → q < i → t.anc i q) ∧
      ∃ V, t.sub ops.size r0 V i i ∧ evHeavy P call (opd (t.Tin i)) V (r0 + i) (t.nxs i) (t.oo i).op = some (.mk (t.v i) (t.G (i + 1)) (t.nxs (i + 1)))
  | .dead => (∃ p, p < ops.size ∧ t.anc i p ∧ t.isPan p) ∧ t.stay i
  | .pan v H nx => evWanted ops (t.Tin i) (t.oo i) = some true ∧ t.stay i ∧ (∀ q, t.hv ops.size q → q < i ∧ t.anc i q) ∧
      ∃ V, t.sub ops.size r0 V i i ∧ evHeavy P call (opd (t.Tin i)) V (r0 + i) (t.nxs i) (t.oo i).op = some (.pan v H nx)

structure DOK (t : DTab) (P : Program) (call : CallF) (ops : Array Oper) (s : St) : Prop where
  opa : ∀ i, i < ops.size → ops[i]? = some (t.oo i)
  anc : ∀ i j, i < ops.size → t.anc i j → j < i ∧ ∃ e ∈ (t.oo i).after, Region.binds .any e = true ∧ (e.on = j ∨ t.anc e.on j)
  edge : ∀ i e, i < ops.size → e ∈ (t.oo i).after → Region.binds .any e = true → e.on < i
  T0 : t.Tin 0 = s.T
  Ts : ∀ i, i < ops.size → evPut s.N (t.Tin i) (t.oo i).dst (t.v i) = some (t.Tin (i + 1))
  dst : ∀ i j d, i < ops.size → j < ops.size → (t.oo i).dst = some d → (t.oo j).dst = some d → i = j
  look : ∀ i d k, i < ops.size → k < ops.size → looks ops (t.oo i) d → (t.oo k).dst = some d → k ≠ i → t.anc i k ∨ t.anc k i
  G0 : t.G 0 = s.H
  n0 : t.nxs 0 = s.nx + ops.size
  kind : ∀ i, i < ops.size → t.kindOK P call ops s.nx i

/-! ### small facts -/
def Ls (listed : Array Bool) (i : Nat) : Prop := listed.getD i false = true

theorem Ls_set {listed : Array Bool} {i j : Nat} (hi : i < listed.size) : Ls (listed.setIfInBounds i true) j ↔ j = i ∨ Ls listed j := by
  unfold Ls
  by_cases h : i = j
  · subst h; simp [hi]
  · rw [getD_set_ne false h]
    constructor
    · exact .inr
    · rintro (rfl | h'); exact absurd rfl h; exact h'

/-- A new object that is listed and not yet in the heap. -/
def DTab.pend (t : DTab) (n : Nat) (listed : Array Bool) (c j : Nat) : Prop := j < n ∧ Ls listed j ∧ t.late n c j

open Classical in
noncomputable def DTab.hD (t : DTab) (n r0 : Nat) (listed : Array Bool) (c x : Nat) : Option AObj :=
  if r0 ≤ x ∧ t.pend n listed c (x - r0) then (match t.k (x - r0) with | .new o => some o | _ => (t.G c).get x) else (t.G c).get x

theorem hD_some {t : DTab} {n r0 : Nat} {listed : Array Bool} {c x : Nat} {o : AObj} (h : t.hD n r0 listed c x = some o) :
    (∃ j, x = r0 + j ∧ t.pend n listed c j ∧ t.k j = .new o) ∨ (t.G c).get x = some o := by
  unfold DTab.hD at h
  split at h
  · rename_i hp
    split at h
    · rename_i o' ho
      injection h with h; subst h
      exact .inl ⟨x - r0, by omega, hp.2, ho⟩
    · exact .inr h
  · exact .inr h

theorem hD_new {t : DTab} {n r0 : Nat} {listed : Array Bool} {c j : Nat} {o : AObj} (hp : t.pend n listed c j) (hk : t.k j = .new o) : t.hD n r0 listed c (r0 + j) = some o := by
  unfold DTab.hD
  have e : r0 + j - r0 = j := by omega
  rw [e, if_pos ⟨by omega, hp⟩, hk]

theorem hD_old {t : DTab} {n r0 : Nat} {listed : Array Bool} {c x : Nat} {o : AObj} (hx : (t.G c).get x = some o)
    (hno : ∀ j o', x = r0 + j → t.pend n listed c j → t.k j = .new o' → False) : t.hD n r0 listed c x = some o := by
  unfold DTab.hD
  split
  · rename_i hp
    split
    · rename_i o' ho
      exact (hno (x - r0) o' (by omega) hp.2 ho).elim
    · exact hx
  · exact hx

structure DInv (t : DTab) (ops : Array Oper) (s : St) (E : Env) (F : Nat → Option Obj) (ρ0 : Ren) (ro : Option Nat) (listed : Array Bool) (a : Act) (w : World) (ρ : Ren) (c : Nat) : Prop where
  size : listed.size = ops.size
  cand : t.cand ops.size c
  hc : ∀ q, t.hv ops.size q → (Ls listed q ↔ q < c)
  down : ∀ i j, i < ops.size → Ls listed i → t.anc i j → Ls listed j
  le : ρ0.le ρ
  lo : ∀ i, i < s.nx → ρ i = ρ0 i
  nn : s.nx + ops.size ≤ t.nxs c
  rel : Rel E F (t.nxs c) ρ (t.hD ops.size s.nx listed c) w
  unl : ∀ j, j < ops.size → ¬ Ls listed j → ρ (s.nx + j) = none
  tm1 : ∀ i d, i < ops.size → Ls listed i → (t.oo i).dst = some d → ∃ u, a.tmps[d]? = some u ∧ VR ρ (t.v i) u
  tm2 : ∀ d x, (∀ i, i < ops.size → Ls listed i → (t.oo i).dst ≠ some d) → s.T.get d = some x → ∃ u, a.tmps[d]? = some u ∧ VR ρ x u
  sz : a.tmps.size = s.N
  dr : DR ρ s.D a.defers
  rr : ROR ρ s.ro ro
  np : ∀ i, Ls listed i → ¬ t.isPan i

section
variable {t : DTab} {P : Program} {call : CallF} {ops : Array Oper} {s : St}

theorem tin_get (ok : DOK t P call ops s) : ∀ (p d : Nat) (b : AV), p ≤ ops.size → (t.Tin p).get d = some b →
    (∃ k, k < p ∧ (t.oo k).dst = some d ∧ t.v k = b) ∨ ((∀ k, k < p → (t.oo k).dst ≠ some d) ∧ s.T.get d = some b)
  | 0, d, b, _, h => .inr ⟨fun k hk => absurd hk (Nat.not_lt_zero k), by rw [← ok.T0]; exact h⟩
  | p + 1, d, b, hp, h => by
    have hs := ok.Ts p (by omega)
    unfold evPut at hs
    cases hd : (t.oo p).dst with
    | none =>
      rw [hd] at hs
      injection hs with hs
      rw [← hs] at h
      rcases tin_get ok p d b (by omega) h with ⟨k, h1, h2⟩ | ⟨h1, h2⟩
      · exact .inl ⟨k, by omega, h2⟩
      · refine .inr ⟨fun k hk => ?_, h2⟩
        by_cases hkp : k = p
        · subst hkp; rw [hd]; exact fun h => nomatch h
        · exact h1 k (by omega)
    | some d' =>
      rw [hd] at hs
      obtain ⟨_, hs⟩ := gd_some.1 hs
      injection hs with hs
      rw [← hs, Tr.get_set] at h
      by_cases hdd : d' = d
      · subst hdd
        rw [if_pos rfl] at h
        injection h with h
        exact .inl ⟨p, by omega, hd, h⟩
      · rw [if_neg hdd] at h
        rcases tin_get ok p d b (by omega) h with ⟨k, h1, h2⟩ | ⟨h1, h2⟩
        · exact .inl ⟨k, by omega, h2⟩
        · refine .inr ⟨fun k hk => ?_, h2⟩
          by_cases hkp : k = p
          · subst hkp; rw [hd]; exact fun h => hdd (Option.some.inj h)
          · exact h1 k (by omega)

theorem stay_of (ok : DOK t P call ops s) {i : Nat} (hi : i < ops.size) (hk : t.k i ≠ .heavy) : t.stay i := by
  have h := ok.kind i hi
  unfold DTab.kindOK at h
  split at h
  · exact h.2.2
  · exact h.2.1
  · exact h.2.1
  · rename_i hh; exact absurd hh hk
  · exact h.2
  · exact h.2.1

theorem G_eq (ok : DOK t P call ops s) : ∀ (d p : Nat), p + d ≤ ops.size → (∀ q, t.hv ops.size q → (q < p ↔ q < p + d)) → t.G (p + d) = t.G p ∧ t.nxs (p + d) = t.nxs p
  | 0, p, _, _ => ⟨rfl, rfl⟩
  | d + 1, p, hle, h => by
    have hnh : t.k (p + d) ≠ .heavy := fun hk => by
      have := h (p + d) ⟨by omega, hk⟩
      omega
    have ih := G_eq ok d p (by omega) fun q hq => by
      have := h q hq
      have hne : q ≠ p + d := fun e => by subst e; exact hnh hq.2
      omega
    have hs := stay_of ok (i := p + d) (by omega) hnh
    exact ⟨(show t.G (p + (d + 1)) = _ from hs.1).trans ih.1, (show t.nxs (p + (d + 1)) = _ from hs.2).trans ih.2⟩

theorem G_eq' (ok : DOK t P call ops s) {p p' : Nat} (hp : p ≤ ops.size) (hp' : p' ≤ ops.size) (h : ∀ q, t.hv ops.size q → (q < p ↔ q < p')) : t.G p = t.G p' ∧ t.nxs p = t.nxs p' := by
  rcases Nat.le_total p p' with hle | hle
  · obtain ⟨d, rfl⟩ := Nat.le.dest hle
    have := G_eq ok d p hp' h
    exact ⟨this.1.symm, this.2.symm⟩
  · obtain ⟨d, rfl⟩ := Nat.le.dest hle
    exact G_eq ok d p' hp fun q hq => (h q hq).symm
end
end Go.Ev
