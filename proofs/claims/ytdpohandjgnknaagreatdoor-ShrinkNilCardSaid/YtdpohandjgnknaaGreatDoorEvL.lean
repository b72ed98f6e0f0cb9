/- The evaluator, part L: what code and calls come to. -/
import Derived.Test.YtdpohandjgnknaaGreatDoorEvK
namespace Go.Ev

inductive DR (ρ : Ren) : List ADef → List Deferred → Prop where
  | nil : DR ρ [] []
  | mark (id : Nat) (b : Blk) (l : List ADef) (ds : List Deferred) (h : ρ id = some b) (hs : DR ρ l ds) : DR ρ (.mark id :: l) ({ target := .collected b.b, args := #[] } :: ds)
  | call (g : FuncId) (args : List AV) (va vc : List Value) (l : List ADef) (ds : List Deferred) (h : VRL ρ args (va ++ vc)) (hs : DR ρ l ds) :
      DR ρ (.call g args :: l) ({ target := .fn (.func g) vc.toArray, args := va.toArray } :: ds)
theorem DR.mono {ρ ρ' : Ren} (hle : ρ.le ρ') : ∀ {l : List ADef} {ds : List Deferred}, DR ρ l ds → DR ρ' l ds
  | _, _, .nil => .nil
  | _, _, .mark id b l ds h hs => .mark id b l ds (hle _ _ h) (DR.mono hle hs)
  | _, _, .call g args va vc l ds h hs => .call g args va vc l ds (h.mono hle) (DR.mono hle hs)

/-- What is owed where code ends so. -/
def ExQ (ρ : Ren) (x : AX) (Q : Exit → Prop) : Prop :=
  match x with
  | .nrm => Q .normal
  | .exit id => Q (.exit id)
  | .goto l => Q (.goto l)
  | .ret => Q .ret
  | .pan v => ∀ u, VR ρ v u → Q (.panic (fresh u))

inductive ROR (ρ : Ren) : Option Nat → Option Nat → Prop where
  | none : ROR ρ none none
  | some (id : Nat) (b : Blk) (h : ρ id = some b) : ROR ρ (some id) (some b.b)
theorem ROR.mono {ρ ρ' : Ren} (hle : ρ.le ρ') {a b : Option Nat} (h : ROR ρ a b) : ROR ρ' a b := by
  cases h with
  | none => exact .none
  | some id b h => exact .some id b (hle _ _ h)

structure SR (E : Env) (F : Nat → Option Obj) (ρ : Ren) (s : St) (a : Act) (w : World) (ro : Option Nat) : Prop where
  rel : Rel E F s.nx ρ s.H.get w
  tr : TR ρ s.T a.tmps
  size : a.tmps.size = s.N
  dr : DR ρ s.D a.defers
  rr : ROR ρ s.ro ro

theorem evWanted_sound {ρ : Ren} {ops : Array Oper} {T : Tr AV} {o : Oper} {b : Bool} {tmps : Array Value} (ht : TR ρ T tmps) (h : evWanted ops T o = some b) :
    Region.wanted o (yielded ops tmps) = b := by
  unfold evWanted at h
  unfold Region.wanted
  cases hg : o.guard with
  | none => rw [hg] at h; injection h with h
  | some p =>
    obtain ⟨j, want⟩ := p
    rw [hg] at h
    obtain ⟨oj, hoj, h1⟩ := ob_some.1 h
    obtain ⟨d, hd, h2⟩ := ob_some.1 h1
    obtain ⟨v, hv, h3⟩ := ob_some.1 h2
    obtain ⟨u, hu, hr⟩ := ht d v hv
    have hy : yielded ops tmps j = match u with | .bool b => some b | _ => none := by
      unfold yielded
      rw [hoj]
      simp only [Option.bind_some, hd, hu]
      cases u <;> rfl
    show (yielded ops tmps j == some want) = b
    rw [hy]
    split at h3
    · injection h3 with h3; subst h3
      cases hr
      rename_i b
      cases b <;> cases want <;> rfl
    · rename_i hnb
      injection h3 with h3; subst h3
      cases hr <;> first | rfl | (exact absurd rfl (hnb _))

theorem evPut_sound {ρ : Ren} {N : Nat} {T T' : Tr AV} {dst : Option Tmp} {v : AV} {u : Value} {a : Act} (ht : TR ρ T a.tmps) (hn : a.tmps.size = N) (hv : VR ρ v u) (h : evPut N T dst v = some T') :
    TR ρ T' (a.put dst u).tmps ∧ (a.put dst u).tmps.size = N ∧ (a.put dst u).defers = a.defers := by
  unfold evPut at h
  cases dst with
  | none => injection h with h; subst h; exact ⟨ht, hn, rfl⟩
  | some d =>
    obtain ⟨hlt, h1⟩ := gd_some.1 h
    injection h1 with h1; subst h1
    rw [Nat.blt_eq] at hlt
    refine ⟨fun t x hx => ?_, by simp [Act.put, hn], rfl⟩
    rw [Tr.get_set] at hx
    by_cases hdt : d = t
    · subst hdt
      rw [if_pos rfl] at hx
      injection hx with hx; subst hx
      exact ⟨u, by simp [Act.put, hn, hlt], hv⟩
    · rw [if_neg hdt] at hx
      obtain ⟨z, hz, hr⟩ := ht t x hx
      exact ⟨z, by simp only [Act.put]; rw [Array.getElem?_setIfInBounds_ne hdt]; exact hz, hr⟩

/-! ### channels -/
theorem comm_step {P : Program} {ro : Option Nat} {ops : Array Oper} {i : Nat} {rest : List Nat} {o : Oper} {a : Act} {w : World} (ho : ops[i]? = some o) (hw : Region.wanted o (yielded ops a.tmps) = true) (hd : ∀ c, o.op ≠ .defer c)
    {cases : Array CommCase} {bl : Bool} {sh : CommShape} (hrun : (execOp a.eval o).run P w = .ok (.comm cases bl sh) w) (b : Frame) (k : List Item) (cs : List Frame) (_hro : b.roundOf = (FW ro).round) :
    ∃ es, stepG P true (Conc.G (b.atR a (.inRegion ops (i :: rest) :: k)) cs) w = .comm (Conc.G (b.atR a (.inRegion ops (i :: rest) :: k)) cs) cases bl sh w es := by
  have hg := stepGR_op (P := P) (b := b) (a := a) (k := k) (cs := cs) (w := w) (rest := rest) ho hw
  rw [Oper.semAt_eq _ _ _ hd] at hg
  have : stepG P true (Conc.G (b.atR a (.inRegion ops (i :: rest) :: k)) cs) w = stepG.apply P true (b.atR a (.inRegion ops (i :: rest) :: k)) cs none (execOp a.eval o) w := hg
  rw [this]
  simp only [stepG.apply, Sem.runT_eq, hrun]
  exact ⟨_, rfl⟩

theorem chan_at {E : Env} {F : Nat → Option Obj} {nx : Nat} {ρ : Ren} {H : Tr AObj} {w : World} (r : Rel E F nx ρ H.get w) {id : Nat} {b : Blk} (hb : ρ id = some b) {cap : Nat} {buf : List AV} (ho : H.get id = some (.chan cap buf)) :
    ∃ vs s q, w.heap[b.b]? = some (.chan cap vs.toArray false s q false) ∧ VRL ρ buf vs ∧ ∀ (buf' : List AV) (vs' : List Value) (s' q' : Nat), VRL ρ buf' vs' → Rel E F nx ρ (H.set id (.chan cap buf')).get (w.setChan b.b cap vs'.toArray false s' q' false) := by
  obtain ⟨c, hc, hor⟩ := r.ob _ _ b ho hb
  cases hor with
  | chan _ _ vs s q h =>
    refine ⟨vs, s, q, hc, h, fun buf' vs' s' q' h' => ?_⟩
    rw [get_set_fun]
    exact r.put ho hb (.chan cap buf' vs' s' q' h') (putB_heap w b.b _ _ hc) rfl rfl rfl

theorem evComm_sound {P : Program} {E : Env} {F : Nat → Option Obj} {nx : Nat} {ρ : Ren} {H H' : Tr AObj} {w : World} (r : Rel E F nx ρ H.get w) {X : Operand → Option AV} {a : Act} (hX : XR ρ X a.eval) {o : Oper} {v : AV}
    (hev : evComm P X H o.op = some (v, H')) : ∃ u w', Rel E F nx ρ H'.get w' ∧ VR ρ v u ∧ ∀ (ro : Option Nat) (ops : Array Oper) (i : Nat) (rest : List Nat), ops[i]? = some o → Region.wanted o (yielded ops a.tmps) = true →
      ∀ (b : Frame) (k : List Item) (cs : List Frame), b.roundOf = (FW ro).round → step P (lone (b.atR a (.inRegion ops (i :: rest) :: k)) cs w) = .next (lone ((b.atR a (.inRegion ops (i :: rest) :: k)).finish u) cs w') := by
  obtain ⟨dst, op, type, pos, after, guard⟩ := o
  simp only at hev
  unfold evComm at hev
  split at hev
  · rename_i ch x
    obtain ⟨c, hc, h1⟩ := ob_some.1 hev
    obtain ⟨xv, hx, h2⟩ := ob_some.1 h1
    have hcr := hX _ _ hc
    have hxr := hX _ _ hx
    clear hev h1
    split at h2
    · rename_i id
      obtain ⟨ob', ho, h3⟩ := ob_some.1 h2
      split at h3
      · rename_i cap buf
        obtain ⟨hlt, h4⟩ := gd_some.1 h3
        injection h4 with h4; injection h4 with h4 h5; subst h4; subst h5
        rw [Nat.blt_eq] at hlt
        generalize hce : a.eval ch = cv at hcr
        cases hcr with
        | chan _ b hb =>
          obtain ⟨vs, s, q, h6, h7, h8⟩ := chan_at r hb ho
          refine ⟨undef, _, h8 (buf ++ [xv]) (vs ++ [a.eval x]) (s + 1) q (h7.append (.cons _ _ _ _ hxr .nil)), .tup _ _ .nil, fun ro ops i rest hoi hw fr k cs hro => ?_⟩
          obtain ⟨es, hst⟩ := comm_step (P := P) (ro := ro) (w := w) (rest := rest) hoi hw (by simp) (cases := #[Conc.scase b.b (a.eval x) (.tuple #[])]) (bl := true) (sh := .send) (by simp [execOp, hce, Conc.scase]) fr k cs hro
          have := Conc.step_lone_send_room hst h6 (by rw [List.size_toArray, ← h7.length]; exact hlt)
          rw [List.push_toArray] at this
          exact this
      · cases h3
    · cases h2
  · rename_i t ch
    obtain ⟨c, hc, h1⟩ := ob_some.1 hev
    obtain ⟨d, hd, h2⟩ := ob_some.1 h1
    have hcr := hX _ _ hc
    clear hev h1
    split at h2
    · rename_i dir el id
      obtain ⟨z, hz, h3⟩ := ob_some.1 h2
      obtain ⟨ob', ho, h4⟩ := ob_some.1 h3
      obtain ⟨zv, hzv, _⟩ := zeroAV_sound (P := P) hz w
      split at h4
      · rename_i cap v0 buf
        injection h4 with h4; injection h4 with h4 h5; subst h4; subst h5
        generalize hce : a.eval ch = cv at hcr
        cases hcr with
        | chan _ b hb =>
          obtain ⟨vs, s, q, h6, h7, h8⟩ := chan_at r hb ho
          cases h7 with
          | cons _ u _ us hu hus =>
            refine ⟨u, _, h8 buf us s (q + 1) hus, hu, fun ro ops i rest hoi hw fr k cs hro => ?_⟩
            obtain ⟨es, hst⟩ := comm_step (P := P) (ro := ro) (w := w) (rest := rest) hoi hw (by simp) (cases := #[Conc.rcase b.b zv]) (bl := true) (sh := .recv false) (by simp [execOp, hce, run_underlying hd, hzv, Conc.rcase]) fr k cs hro
            have := Conc.step_lone_recv_buf false hst h6 (by simp)
            simp [Conc.got] at this
            exact this
      · cases h4
    · cases h2
  · rename_i cases'
    split at hev
    · rename_i sc hsc
      split at hev
      · rename_i hsn
        obtain ⟨c, hc, h1⟩ := ob_some.1 hev
        obtain ⟨z, hz, h2⟩ := ob_some.1 h1
        have hcr := hX _ _ hc
        obtain ⟨zv, hzv, hzr⟩ := zeroAV_sound (P := P) hz w
        clear hev h1
        have hcs : cases' = #[sc] := Array.ext' (by rw [hsc])
        subst hcs
        have hrunx : ∀ c0, a.eval sc.chan = .chan (some c0) → (execOp a.eval { dst, op := .select #[sc] false, type, pos, after, guard }).run P w = .ok (.comm #[Conc.rcase c0 zv] false .select) w := fun c0 hc0 => by
          simp [execOp, hc0, hzv, hsn, Conc.rcase]
        split at h2
        · rename_i id
          obtain ⟨ob', ho, h3⟩ := ob_some.1 h2
          generalize hce : a.eval sc.chan = cv at hcr
          split at h3
          · injection h3 with h3; injection h3 with h3 h4; subst h3; subst h4
            cases hcr with
            | chan _ b hb =>
              obtain ⟨vs, s, q, h6, h7, h8⟩ := chan_at r hb ho
              cases h7
              refine ⟨.tuple #[.int .i64 (-1), .bool false, zv], w, r, .tup _ [.int .i64 (-1), .bool false, zv] (.cons _ _ _ _ (.int _ _) (.cons _ _ _ _ (.bool _) (.cons _ _ _ _ (hzr ρ) .nil))), fun ro ops i rest hoi hw fr k cs hro => ?_⟩
              obtain ⟨es, hst⟩ := comm_step (P := P) (ro := ro) (w := w) (rest := rest) hoi hw (by simp) (hrunx _ hce) fr k cs hro
              exact Conc.step_lone_select_default hst h6
          · rename_i cap v0 buf
            injection h3 with h3; injection h3 with h3 h4; subst h3; subst h4
            cases hcr with
            | chan _ b hb =>
              obtain ⟨vs, s, q, h6, h7, h8⟩ := chan_at r hb ho
              cases h7 with
              | cons _ u _ us hu hus =>
                refine ⟨.tuple #[.int .i64 0, .bool true, u], _, h8 buf us s (q + 1) hus, .tup _ [.int .i64 0, .bool true, u] (.cons _ _ _ _ (.int _ _) (.cons _ _ _ _ (.bool _) (.cons _ _ _ _ hu .nil))), fun ro ops i rest hoi hw fr k cs hro => ?_⟩
                obtain ⟨es, hst⟩ := comm_step (P := P) (ro := ro) (w := w) (rest := rest) hoi hw (by simp) (hrunx _ hce) fr k cs hro
                have := Conc.step_lone_select_recv_buf hst h6 (by simp)
                simp at this
                exact this
          · cases h3
        · cases h2
      · cases hev
    · cases hev
  · cases hev

theorem evSeq_sound {P : Program} {call : CallF} (hcall : CallOK P call) {ops : Array Oper} {E : Env} {F : Nat → Option Obj} {ro : Option Nat} {Q : Exit → Act → World → Prop} :
    ∀ (l : List Oper) (i : Nat) (s : St) (x : AX) (s' : St) (ρ : Ren) (a : Act) (w : World), (∀ j o, l[j]? = some o → ops[i + j]? = some o) → evSeq P call ops l s = some (.mk x s') → SR E F ρ s a w ro →
      (∀ ρ' a' w', RX s.nx s'.nx ρ ρ' → SR E F ρ' s' a' w' ro → ExQ ρ' x fun e => Q e a' w') → OpsTo ro P ops Q (List.range' i l.length) a w
  | [], i, s, x, s', ρ, a, w, _, h, hs, hq => by
    injection h with h; injection h with h h'; subst h; subst h'
    exact opsTo_nil (hq ρ a w (RX.refl _ ρ) hs)
  | o :: l, i, s, x, s', ρ, a, w, hl, h, hs, hq => by
    obtain ⟨wd, hwd, h1⟩ := ob_some.1 (show (ob (evWanted ops s.T o) fun wd => cond wd
      (fN (s.nx + 1) fun nx' => Option.rec (motive := fun _ => Option XR2) (ob (evComm P (opd s.T) s.H o.op) fun p => ob (evPut s.N s.T o.dst p.1) fun T => evSeq P call ops l ⟨s.N, T, p.2, nx', s.ro, s.D⟩)
        (evBehind o s (evSeq P call ops l)) (evOp P call (opd s.T) s.H s.nx s.nx nx' o.op))
      (ob (evPut s.N s.T o.dst (.tup [])) fun T => evSeq P call ops l ⟨s.N, T, s.H, s.nx, s.ro, s.D⟩)) = some (.mk x s') from h)
    have hw := evWanted_sound hs.tr hwd
    have ho : ops[i]? = some o := by have := hl 0 o rfl; simpa using this
    have hl' : ∀ j o', l[j]? = some o' → ops[i + 1 + j]? = some o' := fun j o' hj => by
      have := hl (j + 1) o' (by simpa using hj)
      rwa [show i + (j + 1) = i + 1 + j by omega] at this
    rw [show (o :: l).length = l.length + 1 from rfl, List.range'_succ]
    cases wd with
    | true =>
      rw [cond_true, fN_eq] at h1
      cases hr : evOp P call (opd s.T) s.H s.nx s.nx (s.nx + 1) o.op with
      | none =>
        rw [hr] at h1
        obtain ⟨⟨v, H⟩, hcm, h2⟩ := ob_some.1 h1
        obtain ⟨T, hT, h3⟩ := ob_some.1 h2
        obtain ⟨u, w', hrel, hv, hst⟩ := evComm_sound hs.rel hs.tr.xr hcm
        obtain ⟨e1, e2, e3⟩ := evPut_sound hs.tr hs.size hv hT
        exact opsTo_value ho (about_ok ro P o w a.eval) (hst ro ops i _ ho hw)
          (evSeq_sound hcall l (i + 1) _ x s' ρ _ w' hl' h3 ⟨hrel.nx_le (Nat.le_succ _), e1, e2, by rw [e3]; exact hs.dr, hs.rr⟩ fun ρ'' a' w'' hle' hs' => hq ρ'' a' w'' (hle'.weak (Nat.le_succ _) (Nat.le_refl _)) hs')
      | some r =>
      rw [hr] at h1
      have h2 : evBehind o s (evSeq P call ops l) r = some (.mk x s') := h1
      refine opsTo_step ho hw ?_
      refine evOp_sound hcall hs.rel hs.tr.xr (hs.rel.new _ (Nat.le_refl _)) (Nat.le_succ _) (Nat.lt_succ_self _) hr ?_
      cases r with
      | mk v H nx =>
        obtain ⟨T, hT, h3⟩ := ob_some.1 (show (ob (evPut s.N s.T o.dst v) fun T => evSeq P call ops l ⟨s.N, T, H, nx, s.ro, s.D⟩) = some (.mk x s') from h2)
        intro u ρ' w' hx hrel hv
        have hle := hx.le
        obtain ⟨e1, e2, e3⟩ := evPut_sound (hs.tr.mono hle) hs.size hv hT
        exact evSeq_sound hcall l (i + 1) _ x s' ρ' _ w' hl' h3 ⟨hrel, e1, e2, by rw [e3]; exact hs.dr.mono hle, hs.rr.mono hle⟩ fun ρ'' a' w'' hle' hs' => hq ρ'' a' w'' (hx.rx.trans hle') hs'
      | pan v H nx =>
        have h3 : some (XR2.mk (.pan v) ⟨s.N, s.T, H, nx, s.ro, s.D⟩) = some (.mk x s') := h2
        injection h3 with h3; injection h3 with h3 h4; subst h3; subst h4
        intro u ρ' w' hx hrel hv
        have hle := hx.le
        exact hq ρ' a w' hx.rx ⟨hrel, hs.tr.mono hle, hs.size, hs.dr.mono hle, hs.rr.mono hle⟩ u hv
      | dfr g args H nx =>
        obtain ⟨hro, h3⟩ := gd_some.1 (show gd s.ro.isNone (ob (evPut s.N s.T o.dst (.tup [])) fun T => evSeq P call ops l ⟨s.N, T, H, nx, s.ro, .call g args :: s.D⟩) = some (.mk x s') from h2)
        obtain ⟨T, hT, h4⟩ := ob_some.1 h3
        have hrr := hs.rr
        have hron : s.ro = none := by simpa using hro
        have hro' : ro = none := by rw [hron] at hrr; cases hrr; rfl
        refine ⟨hro', fun va vc hx hrel hv => ?_⟩
        have hle := hx.le
        obtain ⟨e1, e2, e3⟩ := evPut_sound (u := undef) (a := { a with defers := { target := .fn (.func g) vc.toArray, args := va.toArray } :: a.defers }) hs.tr hs.size (.tup (ρ := ρ) [] [] .nil) hT
        exact evSeq_sound hcall l (i + 1) _ x s' ρ _ w hl' h4 ⟨hrel, e1, e2, by rw [e3]; exact .call g args va vc _ _ hv hs.dr, hs.rr⟩ fun ρ'' a' w'' hle' hs' => hq ρ'' a' w'' (hx.trans hle') hs'
    | false =>
      rw [cond_false] at h1
      obtain ⟨T, hT, h3⟩ := ob_some.1 h1
      obtain ⟨e1, e2, e3⟩ := evPut_sound (u := undef) hs.tr hs.size (.tup (ρ := ρ) [] [] .nil) hT
      exact opsTo_off ho (by rw [hw]; simp) (about_ok ro P o w a.eval) (evSeq_sound hcall l (i + 1) _ x s' ρ _ w hl' h3 ⟨hs.rel, e1, e2, by rw [e3]; exact hs.dr, hs.rr⟩ hq)

def CodeOK (P : Program) (code : Code → St → Option XR2) : Prop :=
  ∀ c s x s', code c s = some (.mk x s') → ∀ E F ρ a w ro Q, SR E F ρ s a w ro → (∀ ρ' a' w', RX s.nx s'.nx ρ ρ' → SR E F ρ' s' a' w' ro → ExQ ρ' x fun e => Q e a' w') → c.wpIn (FW ro) 0 P Q a w

def DrawOK (P : Program) : Prop :=
  ∀ call ops s x s', CallOK P call → evDraw P call ops s = some (.mk x s') → ∀ id E F ρ a w ro Q, SR E F ρ s a w ro → (∀ ρ' a' w', RX s.nx s'.nx ρ ρ' → SR E F ρ' s' a' w' ro → ExQ ρ' x fun e => Q e a' w') →
    (Code.region id ops true).wpIn (FW ro) 0 P Q a w

theorem evRounds_sound {P : Program} {c : Code} {code : St → Option XR2} (hc : ∀ s x s', code s = some (.mk x s') → ∀ E F ρ a w ro Q, SR E F ρ s a w ro →
      (∀ ρ' a' w', RX s.nx s'.nx ρ ρ' → SR E F ρ' s' a' w' ro → ExQ ρ' x fun e => Q e a' w') → c.wpIn (FW ro) 0 P Q a w) {E : Env} {F : Nat → Option Obj} {ro : Option Nat} {Q : Exit → Act → World → Prop} {x : AX} {s' : St} :
    ∀ (n : Nat) (s : St) (ρ : Ren) (a : Act) (w : World), evRounds code n s = some (.mk x s') → SR E F ρ s a w ro → (∀ ρ' a' w', RX s.nx s'.nx ρ ρ' → SR E F ρ' s' a' w' ro → ExQ ρ' x fun e => Q e a' w') →
      Code.roundsIn (FW ro) 0 P c Q n a w
  | 0, s, ρ, a, w, h, _, _ => by cases h
  | n + 1, s, ρ, a, w, h, hs, hq => by
    obtain ⟨r, hr, h1⟩ := ob_some.1 (show (ob (code s) fun r => XR2.rec (motive := fun _ => Option XR2) (fun x s' => onNrm x s' (evRounds code n)) r) = some (.mk x s') from h)
    obtain ⟨x1, s1⟩ := r
    rw [roundsIn_succ]
    refine hc s x1 s1 hr E F ρ a w ro _ hs fun ρ' a' w' hle hs' => ?_
    cases x1 with
    | nrm => exact evRounds_sound hc n s1 ρ' a' w' h1 hs' fun ρ'' a'' w'' hle' hs'' => hq ρ'' a'' w'' (hle.trans hle') hs''
    | exit id => injection h1 with h2; injection h2 with h3 h4; subst h3; subst h4; exact hq ρ' a' w' hle hs'
    | goto l => injection h1 with h2; injection h2 with h3 h4; subst h3; subst h4; exact hq ρ' a' w' hle hs'
    | ret => injection h1 with h2; injection h2 with h3 h4; subst h3; subst h4; exact hq ρ' a' w' hle hs'
    | pan v => injection h1 with h2; injection h2 with h3 h4; subst h3; subst h4; exact hq ρ' a' w' hle hs'


/-! ### ranges over functions -/
theorem loopSet_some {H H' : Tr AObj} {id : Nat} {f : LoopState → Option Code → Option (LoopState × Option Code)} (h : loopSet H id f = some H') :
    ∃ st pend T N ps asg body d st' pend', H.get id = some (.loop st pend T N ps asg body d) ∧ f st pend = some (st', pend') ∧ H' = H.set id (.loop st' pend' T N ps asg body d) := by
  obtain ⟨o, ho, h1⟩ := ob_some.1 h
  cases o with
  | loop st pend T N ps asg body d =>
    obtain ⟨⟨st', pend'⟩, hf, h2⟩ := ob_some.1 h1
    injection h2 with h2
    exact ⟨st, pend, T, N, ps, asg, body, d, st', pend', ho, hf, h2.symm⟩
  | _ => cases h1

theorem putObj_heap (w : World) (b : Nat) (o o0 : Obj) (h : w.heap[b]? = some o0) (k : Nat) : (w.putObj b o).heap[k]? = if k = b then some o else w.heap[k]? := putB_heap w b o o0 h k

/-- The record of a loop that is known, and another one in its place. -/
theorem loop_at {E : Env} {F : Nat → Option Obj} {nx : Nat} {ρ : Ren} {H : Tr AObj} {w : World} (r : Rel E F nx ρ H.get w) {id : Nat} {b : Blk} (hb : ρ id = some b)
    {st : LoopState} {pend : Option Code} {T : Tr AV} {N : Nat} {ps : Array Tmp} {asg body : Code} {d : Nat} (hl : H.get id = some (.loop st pend T N ps asg body d)) :
    ∃ fn tmps bd, w.heap[b.b]? = some (.loop { state := st, pending := pend, fn, tmps, params := ps, assign := asg, body, defers := bd }) ∧ TR ρ T tmps ∧ tmps.size = N ∧ (∃ bb, ρ d = some bb ∧ bd = bb.b) ∧
      ∀ st' pend', Rel E F nx ρ (H.set id (.loop st' pend' T N ps asg body d)).get (w.putObj b.b (.loop { state := st', pending := pend', fn, tmps, params := ps, assign := asg, body, defers := bd })) := by
  obtain ⟨c, hc, hor⟩ := r.ob _ _ b hl hb
  cases hor with
  | loop _ _ _ _ _ _ _ _ fn tmps bd hT hN hd =>
    refine ⟨fn, tmps, bd.b, hc, hT, hN, ⟨bd, hd, rfl⟩, fun st' pend' => ?_⟩
    rw [get_set_fun]
    exact r.put hl hb (.loop st' pend' T N ps asg body d fn tmps bd hT hN hd) (putObj_heap w b.b _ _ hc) rfl rfl rfl

theorem setPs_sound {ρ : Ren} : ∀ (ps : List Tmp) (args : List AV) (vs : List Value) (N : Nat) (T T' : Tr AV) (tmps : Array Value), VRL ρ args vs → setPs ps args N T = some T' → TR ρ T tmps → tmps.size = N →
    vs.length = ps.length ∧ TR ρ T' ((ps.zip vs).foldl (fun tmps (x : Tmp × Value) => tmps.setIfInBounds x.1 x.2) tmps) ∧ ((ps.zip vs).foldl (fun tmps (x : Tmp × Value) => tmps.setIfInBounds x.1 x.2) tmps).size = N
  | [], args, vs, N, T, T', tmps, hv, h, ht, hn => by
    cases hv with
    | nil => injection h with h; subst h; exact ⟨rfl, ht, hn⟩
    | cons _ _ _ _ _ _ => cases h
  | p :: ps, args, vs, N, T, T', tmps, hv, h, ht, hn => by
    cases hv with
    | nil => cases h
    | cons a v l vs hr hs =>
      obtain ⟨hlt, h1⟩ := gd_some.1 (show gd (Nat.blt p N) (setPs ps l N (T.set p a)) = some T' from h)
      obtain ⟨e1, e2, _⟩ := evPut_sound (dst := some p) (a := { tmps := tmps, defers := [] }) ht hn hr (show evPut N T (some p) a = some (T.set p a) by unfold evPut; exact gd_some.2 ⟨hlt, rfl⟩)
      obtain ⟨h2, h3, h4⟩ := setPs_sound ps l vs N (T.set p a) T' (tmps.setIfInBounds p v) hs h1 e1 e2
      exact ⟨by simp [h2], h3, h4⟩

theorem roundPost_ex {P : Program} {l : Nat} {R : Ending → World → Prop} {x : AX} {a : Act} {w w' : World} (h : (Instr.endRound l x.jump).run P w = .ok (.bool x.jump.isNone) w')
    (hR : R (.returned (.bool x.jump.isNone)) w') (ρ : Ren) (hc : x.calm = true) : ExQ ρ x fun e => roundPost P l R e a w := by
  cases x <;> first | exact ⟨_, w', h, hR⟩ | cases hc

theorem evYield_sound {P : Program} {En : Evs} (hcode : CodeOK P En.code) {id : Nat} {args : List AV} {H : Tr AObj} {nx : Nat} {res : CR} (h : evYield En id args H nx = some res)
    {E : Env} {F : Nat → Option Obj} {ρ : Ren} {w : World} (r : Rel E F nx ρ H.get w) : TgtOK P (.yld id args) w ρ (EndsR E F nx ρ res) := by
  intro vs b hvs hb
  obtain ⟨o, ho, h1⟩ := ob_some.1 h
  clear h
  cases o with
  | loop st0 pend0 T N ps asg body d =>
    obtain ⟨T', hT', h2⟩ := ob_some.1 h1
    obtain ⟨⟨x, s⟩, hr, h3⟩ := ob_some.1 h2
    clear h1 h2
    obtain ⟨fn, tmps, bd, hheap, htr, hsz, _, _⟩ := loop_at r hb ho
    obtain ⟨e1, e2, e3⟩ := setPs_sound ps.toList args vs N T T' tmps hvs hT' htr hsz
    have hy := run_yield (P := P) (args := vs.toArray) hheap (by simp [e1])
    have hfold : (ps.zip vs.toArray).foldl (fun tmps (x : Tmp × Value) => tmps.setIfInBounds x.1 x.2) tmps = (ps.toList.zip vs).foldl (fun tmps (x : Tmp × Value) => tmps.setIfInBounds x.1 x.2) tmps := by
      rw [← Array.foldl_toList, Array.toList_zip]
    refine ⟨fn, _, asg, body, hy, roundIn_of_wpIn trivial ?_⟩
    cases x with
    | nrm =>
      obtain ⟨H1, hH1, h4⟩ := ob_some.1 (show (ob (loopSet s.H id fun st pend => match st with
            | .ready => some (.busy, pend)
            | _ => none) fun H1 => ob (En.code body ⟨s.N, s.T, H1, s.nx, s.ro, s.D⟩) fun r2 => XR2.rec (motive := fun _ => Option CR) (fun x2 s2 => gd x2.calm <|
              ob (loopSet s2.H id fun _ _ => some (cond x2.jump.isNone .ready .done, x2.jump)) fun H2 => some (.mk (.bool x2.jump.isNone) H2 s2.nx)) r2) = some res from h3)
      obtain ⟨⟨x2, s2⟩, hr2, h5⟩ := ob_some.1 h4
      obtain ⟨hcalm, h5'⟩ := gd_some.1 (show (gd x2.calm <| ob (loopSet s2.H id fun _ _ => some (cond x2.jump.isNone .ready .done, x2.jump)) fun H2 => some (CR.mk (.bool x2.jump.isNone) H2 s2.nx)) = some res from h5)
      obtain ⟨H2, hH2, h6⟩ := ob_some.1 h5'
      injection h6 with h6; subst h6
      clear h3 h4 h5
      obtain ⟨st1, p1, T1, N1, ps1, asg1, body1, d1, st1', p1', g1, g2, g3⟩ := loopSet_some hH1
      obtain ⟨st2, p2, T2, N2, ps2, asg2, body2, d2, st2', p2', k1, k2, k3⟩ := loopSet_some hH2
      have hasg := hcode asg _ .nrm s hr E F ρ { tmps := (ps.toList.zip vs).foldl (fun tmps (x : Tmp × Value) => tmps.setIfInBounds x.1 x.2) tmps, defers := [] } w (some b.b)
      rw [hfold]
      refine hasg _ ⟨r, e2, e3, .nil, .some id b hb⟩ fun ρ1 a1 w1 hle1 hs1 => ?_
      have hb1 := hle1.le _ _ hb
      obtain ⟨fn1, tmps1, bd1, hheap1, _, _, _, hset1⟩ := loop_at hs1.rel hb1 g1
      have hst1 : st1 = .ready ∧ st1' = .busy ∧ p1' = p1 := by
        cases st1 <;> first | (cases g2; done) | (injection g2 with g2; injection g2 with g4 g5; exact ⟨rfl, g4.symm, g5.symm⟩)
      obtain ⟨rfl, rfl, rfl⟩ := hst1
      refine ⟨_, run_beginRound hheap1 rfl, ?_⟩
      have hbody := hcode body _ x2 s2 hr2 E F ρ1 a1 (w1.putObj b.b (.loop { state := .busy, pending := p1', fn := fn1, tmps := tmps1, params := ps1, assign := asg1, body := body1, defers := bd1 })) (some b.b)
      refine hbody _ ⟨by rw [g3]; exact hset1 .busy p1', hs1.tr, hs1.size, hs1.dr, hs1.rr⟩ fun ρ2 a2 w2 hle2 hs2 => ?_
      have hb2 := hle2.le _ _ hb1
      obtain ⟨fn2, tmps2, bd2, hheap2, _, _, _, hset2⟩ := loop_at hs2.rel hb2 k1
      injection k2 with k2; injection k2 with k4 k5
      refine roundPost_ex (run_endRound x2.jump hheap2) ⟨_, ρ2, rfl, hle1.trans hle2, ?_, .bool _⟩ ρ2 hcalm
      rw [k3, ← k4, ← k5]
      have := hset2 (cond x2.jump.isNone .ready .done) x2.jump
      have hc : (cond x2.jump.isNone LoopState.ready .done) = if x2.jump.isNone = true then .ready else .done := by cases x2.jump.isNone <;> rfl
      rw [hc] at this ⊢
      exact this
    | _ => cases h3
  | _ => cases h1

end Go.Ev
