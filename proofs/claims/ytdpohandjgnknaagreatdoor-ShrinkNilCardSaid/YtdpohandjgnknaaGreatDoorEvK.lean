/- The evaluator, part K: what operations, regions in the order of their text, and code come to. -/
import Derived.Test.YtdpohandjgnknaaGreatDoorEvJ
import Derived.LoopNIn
import Derived.RangeFuncLeaves
import Derived.RangeFuncRecord
import Derived.OrdersIn
import Derived.Conc.LoneSelect
namespace Go.Ev

/-- No fence; in a round of a loop, perhaps. -/
def FW (ro : Option Nat) : Fence := { Fence.wide with round := ro }

/-- From the midst of a region, with these operations to come: it arrives as it should. -/
def OpsTo (ro : Option Nat) (P : Program) (ops : Array Oper) (Q : Exit → Act → World → Prop) (l : List Nat) (a : Act) (w : World) : Prop :=
  ∀ (b : Frame) (k : List Item) (cs : List Frame), b.roundOf = (FW ro).round → ∃ e a' w', Q e a' w' ∧ ArrivesIn (Machine.fenced P (FW ro)) P (lone (b.atR a (.inRegion ops l :: k)) cs w) b k cs e a' w'

section
variable {ro : Option Nat} {P : Program} {ops : Array Oper} {Q : Exit → Act → World → Prop} {a : Act} {w : World}

theorem fw_fn (f : FuncId) : (FW ro).fn f := trivial
theorem fw_room (n : Nat) : (FW ro).room n := by simp [FW, Fence.wide, Fence.room]

theorem opsTo_nil (h : Q .normal a w) : OpsTo ro P ops Q [] a w := fun _ _ _ _ =>
  ⟨.normal, a, w, h, .one (fenced_calm (n := 0) (fw_fn _) (fw_room _) rfl) stepR_region_end⟩

theorem opsTo_region {id : Nat} (h : OpsTo ro P ops Q (List.range ops.size) a w) : (Code.region id ops false).wpIn (FW ro) 0 P Q a w := fun b k cs hro _ _ =>
  let ⟨e, a', w', q, r⟩ := h b k cs hro
  ⟨e, a', w', q, .of_steps (.one (fenced_calm (n := 0) (fw_fn _) (fw_room _) rfl) stepR_region) r⟩

theorem opsTo_off {i : Nat} {rest : List Nat} {o : Oper} (ho : ops[i]? = some o) (hw : ¬ Region.wanted o (yielded ops a.tmps) = true) (hab : ∀ f, o.about P w a.eval = some f → (FW ro).fn f)
    (h : OpsTo ro P ops Q rest (a.put o.dst undef) w) : OpsTo ro P ops Q (i :: rest) a w := by
  intro b k cs hro
  obtain ⟨e, a', w', q, r⟩ := h b k cs hro
  refine ⟨e, a', w', q, .of_steps (.one (fenced_oper (n := 0) (fw_fn _) (fw_room _) ho hab) ?_) r⟩
  have hs := stepR_op_skip (P := P) (b := b) (a := a) (k := k) (cs := cs) (w := w) (ops := ops) (i := i) (rest := rest) (by simp [ho]; simpa using hw)
  rwa [ho] at hs

/-- The machine goes on to the next operation, with this value. -/
theorem opsTo_value {i : Nat} {rest : List Nat} {o : Oper} (ho : ops[i]? = some o) {v : Value} {w' : World} (hab : ∀ f, o.about P w a.eval = some f → (FW ro).fn f)
    (hs : ∀ (b : Frame) (k : List Item) (cs : List Frame), b.roundOf = (FW ro).round → step P (lone (b.atR a (.inRegion ops (i :: rest) :: k)) cs w) = .next (lone ((b.atR a (.inRegion ops (i :: rest) :: k)).finish v) cs w'))
    (h : OpsTo ro P ops Q rest (a.put o.dst v) w') : OpsTo ro P ops Q (i :: rest) a w := by
  intro b k cs hro
  obtain ⟨e, a', w'', q, r⟩ := h b k cs hro
  refine ⟨e, a', w'', q, .of_steps (.one (fenced_oper (n := 0) (fw_fn _) (fw_room _) ho hab) ?_) r⟩
  rw [hs b k cs hro, Frame.finish_atR, ho]
  rfl

theorem opsTo_step {i : Nat} {rest : List Nat} {o : Oper} (ho : ops[i]? = some o) (hw : Region.wanted o (yielded ops a.tmps) = true)
    (h : o.wpIn (FW ro) 0 P a w (OpsTo ro P ops Q rest) Q) : OpsTo ro P ops Q (i :: rest) a w := by
  obtain ⟨hab, h⟩ := h
  have hg : ∀ (b : Frame) (k : List Item) (cs : List Frame), b.roundOf = (FW ro).round → stepG P true { frame := b.atR a (.inRegion ops (i :: rest) :: k), callers := cs, status := .running, dying := none } w =
      stepG.apply P true (b.atR a (.inRegion ops (i :: rest) :: k)) cs none (o.semAt (FW ro).round a.eval) w := fun b k cs hro => by
    rw [stepGR_op (P := P) ho hw, hro]
  generalize (o.semAt (FW ro).round a.eval) = sem at h hg
  generalize hrun : sem.run P w = res at h
  cases res with
  | halt y w' =>
    cases y with
    | panic v =>
      intro b k cs hro
      refine ⟨_, a, w', h, .inRegion ops (i :: rest) :: k, .one (fenced_oper (n := 0) (fw_fn _) (fw_room _) ho hab) (step_lone_go ?_)⟩
      rw [hg b k cs hro, ← Frame.raise_atR]
      simp [stepG.apply, hrun]
    | _ => exact h.elim
  | ok y w' =>
    cases y with
    | value v => exact opsTo_value ho hab (fun b k cs hro => step_lone_go (by rw [hg b k cs hro]; simp [stepG.apply, hrun])) h
    | skip => exact opsTo_value ho hab (fun b k cs hro => step_lone_go (by rw [hg b k cs hro]; simp [stepG.apply, hrun])) h
    | defer d =>
      intro b k cs hro
      obtain ⟨e, a', w'', q, r⟩ := h b k cs hro
      refine ⟨e, a', w'', q, .of_steps (.one (fenced_oper (n := 0) (fw_fn _) (fw_room _) ho hab) (step_lone_go ?_)) r⟩
      have hfr := Frame.finish_atR b { a with defers := d :: a.defers } ops i rest k undef
      rw [ho] at hfr
      rw [hg b k cs hro]
      simp only [stepG.apply, Sem.runT_eq, hrun, GStep.bare_after]
      exact congrArg (fun fr => GStep.go { frame := fr, callers := cs, status := .running, dying := none } w') hfr
    | enter f args =>
      intro b k cs hro
      obtain ⟨_, hF, hc⟩ := h
      obtain ⟨e, w'', fr, hR, hst, hfn, hlv⟩ := hc (b.atR a (.inRegion ops (i :: rest) :: k) :: cs) (fw_room _)
      have henter : step P (lone (b.atR a (.inRegion ops (i :: rest) :: k)) cs w) = .next (lone (Frame.enter P f args .normal) (b.atR a (.inRegion ops (i :: rest) :: k) :: cs) w') :=
        step_lone_go (by rw [hg b k cs hro]; simp [stepG.apply, hrun, Frame.atR])
      have h0 := fenced_oper (F := FW ro) (P := P) (b := b) (k := k) (cs := cs) (w := w) (rest := rest) (n := 0) (fw_fn _) (fw_room _) ho hab
      cases e with
      | returned v =>
        have hl := fenced_leaving (F := FW ro) (P := P) (n := 0) (cs := b.atR a (.inRegion ops (i :: rest) :: k) :: cs) (fw_fn fr.fn) (fw_room _) hlv
        obtain ⟨e, a', w₃, q, r⟩ := hR b k cs hro
        refine ⟨e, a', w₃, q, .of_steps (.head h0 henter (StepsIn.trans hst (.one hl ?_))) r⟩
        rw [step_leave_returned hlv, Frame.finish_atR, ho]
        rfl
      | panicked chain =>
        have hl := fenced_leaving (F := FW ro) (P := P) (n := 0) (cs := b.atR a (.inRegion ops (i :: rest) :: k) :: cs) (fw_fn fr.fn) (fw_room _) hlv
        refine ⟨.panic chain, a, w'', hR, .inRegion ops (i :: rest) :: k, .head h0 henter (StepsIn.trans hst (.one hl ?_))⟩
        rw [← Frame.raise_atR]; exact step_leave_panicked hlv
      | outgrown =>
        obtain ⟨a₀, w₀, hq⟩ := hR
        exact ⟨.outgrown, a₀, w₀, hq, .inr (Outgrown.of_steps (.one henter) hst)⟩
    | round l f tmps assign body =>
      intro b k cs hro
      obtain ⟨_, _, hc⟩ := h
      obtain ⟨e, w'', hR, hst⟩ := hc (b.atR a (.inRegion ops (i :: rest) :: k)) cs (fw_room _)
      have henter : step P (lone (b.atR a (.inRegion ops (i :: rest) :: k)) cs w) = .next (lone (Frame.round l f tmps assign body .normal) (b.atR a (.inRegion ops (i :: rest) :: k) :: cs) w') :=
        step_lone_go (by rw [hg b k cs hro]; simp [stepG.apply, hrun, Frame.atR])
      have h0 := fenced_oper (F := FW ro) (P := P) (b := b) (k := k) (cs := cs) (w := w) (rest := rest) (n := 0) (fw_fn _) (fw_room _) ho hab
      cases e with
      | returned v =>
        obtain ⟨e, a', w₃, q, r⟩ := hR b k cs hro
        refine ⟨e, a', w₃, q, .of_steps (.head h0 henter ?_) r⟩
        have hf : (b.atR a (.inRegion ops (i :: rest) :: k)).finish v = b.atR (a.put o.dst v) (.inRegion ops rest :: k) := by rw [Frame.finish_atR, ho]; rfl
        rw [← hf]; exact hst
      | panicked chain =>
        refine ⟨.panic chain, a, w'', hR, .inRegion ops (i :: rest) :: k, .head h0 henter ?_⟩
        rw [← Frame.raise_atR]; exact hst
      | outgrown =>
        obtain ⟨a₀, w₀, hq⟩ := hR
        exact ⟨.outgrown, a₀, w₀, hq, .inr (Outgrown.of_steps (.one henter) hst)⟩
    | row row args =>
      intro b k cs hro
      obtain ⟨_, hc⟩ := h
      obtain ⟨v, w'', hR, hst⟩ := hc (b.atR a (.inRegion ops (i :: rest) :: k)) cs (fw_room _)
      have henter : step P (lone (b.atR a (.inRegion ops (i :: rest) :: k)) cs w) = .next (lone (Frame.ofRow P row args .normal) (b.atR a (.inRegion ops (i :: rest) :: k) :: cs) w') :=
        step_lone_go (by rw [hg b k cs hro]; simp [stepG.apply, hrun, Frame.atR])
      have h0 := fenced_oper (F := FW ro) (P := P) (b := b) (k := k) (cs := cs) (w := w) (rest := rest) (n := 0) (fw_fn _) (fw_room _) ho hab
      obtain ⟨e, a', w₃, q, r⟩ := hR b k cs hro
      refine ⟨e, a', w₃, q, .of_steps (.head h0 henter ?_) r⟩
      have hf : (b.atR a (.inRegion ops (i :: rest) :: k)).finish v = b.atR (a.put o.dst v) (.inRegion ops rest :: k) := by rw [Frame.finish_atR, ho]; rfl
      rw [← hf]; exact hst
    | _ => exact h.elim
end

/-- What a call is owed: it ends, and all that is known behind it is so. -/
def Ends (E : Env) (F : Nat → Option Obj) (nx : Nat) (ρ : Ren) (v : AV) (H' : Tr AObj) (nx' : Nat) (e : Ending) (w' : World) : Prop :=
  ∃ u ρ', e = .returned u ∧ RX nx nx' ρ ρ' ∧ Rel E F nx' ρ' H'.get w' ∧ VR ρ' v u

def TgtOK (P : Program) (t : Tgt) (w : World) (ρ : Ren) (R : Ending → World → Prop) : Prop :=
  match t with
  | .fn f args => (∃ fn c, P.funcs[f]? = some fn ∧ (fn.name == "runtime.NumGoroutine") = false ∧ fn.body = some c) ∧ ∀ vs, VRL ρ args vs → CallsIn (FW none) 0 P f vs.toArray w R
  | .yld id args => ∀ vs b, VRL ρ args vs → ρ id = some b → ∃ fn tmps asg body, (Instr.yield b.b vs.toArray).run P w = .ok (.round b.b fn tmps asg body) w ∧ RoundIn (FW none) 0 P b.b fn tmps asg body w R

/-- A panic, just raised. -/
def fresh (u : Value) : List PanicEntry := [{ v := u, recovered := false }]

/-- The same of every way in which a call may end. -/
def EndsR (E : Env) (F : Nat → Option Obj) (nx : Nat) (ρ : Ren) (r : CR) (e : Ending) (w' : World) : Prop :=
  match r with
  | .mk v H' nx' => Ends E F nx ρ v H' nx' e w'
  | .pan v H' nx' => ∃ u ρ', e = .panicked (fresh u) ∧ RX nx nx' ρ ρ' ∧ Rel E F nx' ρ' H'.get w' ∧ VR ρ' v u
  | .dfr _ _ _ _ => False

def CallOK (P : Program) (call : CallF) : Prop :=
  ∀ t H nx r, call t H nx = some r → ∀ E F ρ w, Rel E F nx ρ H.get w → TgtOK P t w ρ (EndsR E F nx ρ r)

/-- How it goes on behind an operation. -/
def NextOK (E : Env) (F : Nat → Option Obj) (ni nx : Nat) (ρ : Ren) (o : Oper) (a : Act) (w : World) (ro : Option Nat) (next : Act → World → Prop) (Q : Exit → Act → World → Prop) (r : CR) : Prop :=
  match r with
  | .mk v H' nx' => ∀ u ρ' w', RY ni nx nx' ρ ρ' → Rel E F nx' ρ' H'.get w' → VR ρ' v u → next (a.put o.dst u) w'
  | .pan v H' nx' => ∀ u ρ' w', RY ni nx nx' ρ ρ' → Rel E F nx' ρ' H'.get w' → VR ρ' v u → Q (.panic (fresh u)) a w'
  | .dfr g args H' nx' => ro = none ∧ ∀ va vc : List Value, RX nx nx' ρ ρ → Rel E F nx' ρ H'.get w → VRL ρ args (va ++ vc) →
      next ({ a with defers := { target := .fn (.func g) vc.toArray, args := va.toArray } :: a.defers }.put o.dst undef) w

theorem about_ok (ro : Option Nat) (P : Program) (o : Oper) (w : World) (ρ : Operand → Value) : ∀ f, o.about P w ρ = some f → (FW ro).fn f := fun _ _ => trivial

theorem wpIn_of_yield {P : Program} {ro : Option Nat} {o : Oper} {a : Act} {w w' : World} {v : Value} {next : Act → World → Prop} {Q : Exit → Act → World → Prop} (hd : ∀ c, o.op ≠ .defer c)
    (h : Yield P (execOp a.eval o) w v w') (hn : next (a.put o.dst v) w') : o.wpIn (FW ro) 0 P a w next Q := by
  refine ⟨about_ok ro P o w a.eval, ?_⟩
  rw [Oper.semAt_eq _ _ _ hd]
  rcases h with h | ⟨h, rfl⟩
  · rw [h]; exact hn
  · rw [h]; exact hn

theorem pure2_nodefer {P : Program} {H : Tr AObj} {X : Operand → Option AV} {op : Op} {a : AV} (h : evPure2 P H X op = some a) : ∀ c, op ≠ .defer c := by
  rintro c rfl
  simp [evPure2, evPure] at h
theorem new_nodefer {P : Program} {X : Operand → Option AV} {ni : Nat} {op : Op} {a : AV × AObj} (h : evNew P X ni op = some a) : ∀ c, op ≠ .defer c := by
  rintro c rfl
  simp [evNew] at h

theorem clone_named {fn : Func} (ho : fn.origin = "") (h : fn.name = "maps.clone") : Extern.findNext fn = none ∧ Extern.find fn = some Extern.MapsClone.clone ∧ (fn.name == "runtime.NumGoroutine") = false := by
  obtain ⟨name, origin⟩ := fn
  simp only at ho h
  subst ho; subst h
  exact ⟨by kernel_rfl, by kernel_rfl, by kernel_rfl⟩

theorem evClone_sound {P : Program} {E : Env} {F : Nat → Option Obj} {nx nx' : Nat} {ρ : Ren} {H : Tr AObj} {w : World} (r : Rel E F nx ρ H.get w) {ni : Nat} (hni : ρ ni = none) (hnx : nx ≤ nx') (hni' : ni < nx') {t : Tgt} {res : CR}
    (hev : evClone P H ni nx' t = some res) : ∃ g args v H' , t = .fn g args ∧ res = .mk v H' nx' ∧ ∀ us : List Value, VRL ρ args us → ∃ u ρ' w', (callFunc g us.toArray).run P w = .ok (.value u) w' ∧ RY ni nx nx' ρ ρ' ∧ Rel E F nx' ρ' H'.get w' ∧ VR ρ' v u := by
  unfold evClone at hev
  split at hev
  · rename_i g ty id
    obtain ⟨fn, hfn, h1⟩ := ob_some.1 hev
    obtain ⟨hb, h2⟩ := gd_some.1 h1
    obtain ⟨ho, h3⟩ := gd_some.1 h2
    obtain ⟨hn, h4⟩ := gd_some.1 h3
    obtain ⟨o, hob, h5⟩ := ob_some.1 h4
    clear hev h1 h2 h3 h4
    split at h5
    · rename_i es clock
      injection h5 with h5; subst h5
      refine ⟨g, _, _, _, rfl, rfl, fun us hus => ?_⟩
      cases hus with
      | cons _ u _ us1 hu hus1 =>
        cases hus1
        cases hu with
        | iface _ _ um hum =>
          cases hum with
          | map _ b hbm =>
            obtain ⟨co, hc, hor⟩ := r.ob _ _ b hob hbm
            cases hor with
            | map _ _ l hl =>
              obtain ⟨e1, e2, e3⟩ := clone_named (by simpa using ho) (by simpa using hn)
              have hle := Ren.le_put (ρ := ρ) hni ⟨w.heap.size, 0, 0⟩
              have A := r.alloc (nx' := nx') hni hnx hni' (cap := 0) (a := .map es clock) (o := .map l.toArray clock) (.map es clock l (hl.mono hle))
              obtain ⟨A1, A2⟩ := A
              rw [← get_set_fun] at A1
              refine ⟨.iface ty (.map (some w.heap.size)), _, _, ?_, ⟨A2, fun j _ hj => by simp [hj], hnx⟩, A1, .iface _ _ _ (.map ni ⟨w.heap.size, 0, 0⟩ (by simp))⟩
              rw [run_callFunc_extern hfn e3 hb e1 e2]
              have hgm : (getObj b.b).run P w = .ok (.map l.toArray clock) w := by simp [getObj, Sem.run, hc]
              have hrun : (Extern.MapsClone.clone #[.iface ty (.map (some b.b))]).run P w = .ok (.iface ty (.map (some w.heap.size))) (w.alloc (.map l.toArray clock)) := by
                change Sem.run P (do
                  let .map entries clock ← getObj b.b | stuck "maps.clone: a map expected"
                  pure (Value.iface ty (Value.map (some (← newObj (Obj.map entries clock)))))) w = _
                simp [hgm]
              rw [show [Value.iface ty (.map (some b.b))].toArray = #[.iface ty (.map (some b.b))] from rfl, hrun]
              rfl
    · cases h5
  · cases hev

theorem evCopy_sound {P : Program} {E : Env} {F : Nat → Option Obj} {nx : Nat} {ρ : Ren} {H H' : Tr AObj} {w : World} (r : Rel E F nx ρ H.get w) {ts : List TypeId} {xs : List AV} {us : List Value} {v : AV} (hx : VRL ρ xs us)
    (hev : evCopy P H ts xs = some (v, H')) (ty : TypeId) : ∃ u w', (Builtin.copy_ ts.toArray ty us.toArray).run P w = .ok u w' ∧ Rel E F nx ρ H'.get w' ∧ VR ρ v u := by
  unfold evCopy at hev
  split at hev
  · rename_i t tl d s
    obtain ⟨td, htd, h1⟩ := ob_some.1 hev
    clear hev
    cases hx with
    | cons _ ud _ us1 hud hus1 => cases hus1 with
      | cons _ us' _ us2 hus hus2 =>
        cases hus2
        split at h1
        · rename_i el
          obtain ⟨i, hi, h2⟩ := ob_some.1 h1
          obtain ⟨⟨n, l⟩, hsrc, h3⟩ := ob_some.1 h2
          clear h1 h2
          obtain ⟨vs, hv1, hv2, hv3⟩ := evSrc_sound (P := P) r (HS.refl ρ H) hus hsrc
          obtain ⟨hl0, hc0⟩ := hv3 w (fun _ => rfl)
          have hcz : P.cellsOf el = i.size := by simp [Program.cellsOf, hi]
          have main : ∀ (id off m c : Nat) (b : Blk), ρ id = some b → n ≤ m → (ob (evWrite H id off l) fun H' => fN n fun m => some (AV.int .i64 (.ofNat m), H')) = some (v, H') →
              ∃ u w', (Builtin.copy_ (t :: tl).toArray ty [.slice (some ⟨b.b, b.ob + off, none⟩) m c, us'].toArray).run P w = .ok u w' ∧ Rel E F nx ρ H'.get w' ∧ VR ρ v u := by
            intro id off m c b hb hle h5
            obtain ⟨H1, hH1, h6⟩ := ob_some.1 h5
            rw [fN_eq] at h6
            injection h6 with h6; injection h6 with h6 h7; subst h6; subst h7
            obtain ⟨w', hw, hrel⟩ := evWrite_sound (P := P) r hb hv1 hH1
            refine ⟨.int .i64 (Int.ofNat n), w', ?_, hrel, .int _ _⟩
            have hmin : Nat.min n m = n := Nat.min_eq_left hle
            unfold Builtin.copy_
            simp only [List.getElem?_toArray, List.getElem?_cons_zero, List.getElem?_cons_succ, Sem.run_bind, run_underlying htd, Result.andThen_ok, hl0, hmin, run_sizeOf w hi, hcz, hc0, hw, Sem.run_pure]
            rfl
          split at h3
          · rename_i id off m c
            obtain ⟨hle, h4⟩ := gd_some.1 h3
            rw [Nat.ble_eq] at hle
            cases hud with
            | sl _ _ _ _ b hb => exact main id off m c b hb hle h4
          · rename_i id off m c
            obtain ⟨hle, h4⟩ := gd_some.1 h3
            rw [Nat.ble_eq] at hle
            cases hud with
            | slo _ _ _ _ b hb _ _ => exact main id off m _ b hb hle h4
          · obtain ⟨hz, h4⟩ := gd_some.1 h3
            injection h4 with h4; injection h4 with h4 h5; subst h4; subst h5
            have hn := Nat.eq_of_beq_eq_true hz
            simp only at hn
            subst hn
            cases hud
            refine ⟨.int .i64 (Int.ofNat 0), w, ?_, r, .int _ _⟩
            unfold Builtin.copy_
            simp only [List.getElem?_toArray, List.getElem?_cons_zero, List.getElem?_cons_succ, Sem.run_bind, run_underlying htd, Result.andThen_ok, hl0, Nat.min_self, run_sizeOf w hi, hcz, hc0, Sem.run_pure]
            rfl
          · cases h3
        · cases h1
  · cases hev

theorem left_rel {ρ : Ren} {seen : List Nat} : ∀ {es : List AEnt} {l : List MapEntry}, ERL ρ es l → ERL ρ (leftE seen es) (l.filter fun m => !seen.contains m.born)
  | _, _, .nil => .nil
  | _, _, .cons e m es l he hs => by
    have ih := left_rel (seen := seen) hs
    show ERL ρ (cond (seen.contains e.born) (leftE seen es) (e :: leftE seen es)) _
    rw [List.filter_cons]
    have hb : m.born = e.born := he.2.2.symm
    cases hc : seen.contains e.born with
    | true => rw [cond_true, hb, hc]; exact ih
    | false => rw [cond_false, hb, hc]; exact .cons _ _ _ _ he ih

theorem all_rel {ρ : Ren} {last : Nat} : ∀ {es : List AEnt} {l : List MapEntry}, ERL ρ es l → allE (fun e => Nat.ble last e.born) es = l.all fun m => decide (last ≤ m.born)
  | _, _, .nil => rfl
  | _, _, .cons e m es l he hs => by
    have ih := all_rel (last := last) hs
    have hb : m.born = e.born := he.2.2.symm
    show cond (Nat.ble last e.born) (allE _ es) false = _
    rw [List.all_cons, ih, hb]
    by_cases h : last ≤ e.born
    · have h1 : Nat.ble last e.born = true := by rw [Nat.ble_eq]; exact h
      rw [h1, cond_true]; simp [h]
    · have : Nat.ble last e.born = false := by
        cases hb : Nat.ble last e.born with
        | false => rfl
        | true => rw [Nat.ble_eq] at hb; exact absurd hb h
      rw [this, cond_false]; simp [h]

set_option maxHeartbeats 1000000 in
theorem evHeavy_sound {P : Program} {call : CallF} (hcall : CallOK P call) {E : Env} {F : Nat → Option Obj} {nx nx' : Nat} {ρ : Ren} {H : Tr AObj} {w : World} (r : Rel E F nx ρ H.get w)
    {X : Operand → Option AV} {a : Act} (hX : XR ρ X a.eval) {ni : Nat} (hni : ρ ni = none) (hnx : nx ≤ nx') (hni' : ni < nx') {o : Oper} {res : CR}
    (hev : evHeavy P call X H ni nx' o.op = some res) {ro : Option Nat} {next : Act → World → Prop} {Q : Exit → Act → World → Prop}
    (hk : NextOK E F ni nx ρ o a w ro next Q res) : o.wpIn (FW ro) 0 P a w next Q := by
  obtain ⟨dst, op, type, pos, after, guard⟩ := o
  simp only at hev
  cases op <;> simp only [evHeavy] at hev <;> first | (cases hev; done) | skip
  case store t x y =>
    obtain ⟨xa, hxa, h1⟩ := ob_some.1 hev
    obtain ⟨ya, hya, h2⟩ := ob_some.1 h1
    obtain ⟨H1, hH1, h3⟩ := ob_some.1 h2
    injection h3 with h3; subst h3
    obtain ⟨w', h6, h7⟩ := evStore_sound (P := P) r (hX _ _ hxa) (hX _ _ hya) hH1
    refine wpIn_of_yield (by simp) (.inr ⟨?_, rfl⟩) (hk undef ρ w' ⟨Ren.le_refl ρ, fun _ _ _ => rfl, hnx⟩ (h7.nx_le hnx) (.tup _ _ .nil))
    simp [execOp, h6]
  case mapUpdate t m k y =>
    obtain ⟨ma, hma, h1⟩ := ob_some.1 hev
    obtain ⟨ka, hka, h2⟩ := ob_some.1 h1
    obtain ⟨ya, hya, h3⟩ := ob_some.1 h2
    obtain ⟨H1, hH1, h4⟩ := ob_some.1 h3
    injection h4 with h4; subst h4
    obtain ⟨w', h6, h7⟩ := evMapSet_sound (P := P) r (hX _ _ hma) (hX _ _ hka) (hX _ _ hya) hH1
    refine wpIn_of_yield (by simp) (.inr ⟨?_, rfl⟩) (hk undef ρ w' ⟨Ren.le_refl ρ, fun _ _ _ => rfl, hnx⟩ (h7.nx_le hnx) (.tup _ _ .nil))
    simp [execOp, h6]
  case insert t m k y =>
    obtain ⟨ma, hma, h1⟩ := ob_some.1 hev
    obtain ⟨ka, hka, h2⟩ := ob_some.1 h1
    obtain ⟨ya, hya, h3⟩ := ob_some.1 h2
    obtain ⟨H1, hH1, h4⟩ := ob_some.1 h3
    injection h4 with h4; subst h4
    obtain ⟨w', h6, h7⟩ := evMapSet_sound (P := P) r (hX _ _ hma) (hX _ _ hka) (hX _ _ hya) hH1
    refine wpIn_of_yield (by simp) (.inr ⟨?_, rfl⟩) (hk undef ρ w' ⟨Ren.le_refl ρ, fun _ _ _ => rfl, hnx⟩ (h7.nx_le hnx) (.tup _ _ .nil))
    simp [execOp, h6]
  case call c =>
    obtain ⟨callee, args, argTypes⟩ := c
    simp only at hev
    cases callee with
    | invoke _ _ => cases hev
    | builtin b =>
      cases b <;> first | (cases hev; done) | skip
      case panic =>
        obtain ⟨xs, hxs, h1⟩ := ob_some.1 hev
        have hxr := xsL_sound hX hxs
        split at h1
        · rename_i t v l
          injection h1 with h1; subst h1
          generalize hm : args.toList.map a.eval = vs at hxr
          cases hxr with
          | cons _ u _ us hu hus =>
            cases hu
            rename_i u hu
            refine ⟨about_ok ro P _ w a.eval, ?_⟩
            rw [Oper.semAt_eq _ _ _ (by simp)]
            have hg : (args.map a.eval).getD 0 .nilIface = .iface t u := by
              have : (args.map a.eval).toList = .iface t u :: us := by rw [Array.toList_map]; exact hm
              rw [show args.map a.eval = (Value.iface t u :: us).toArray by rw [← this]]
              rfl
            have hrun : (execOp a.eval { dst, op := .call { callee := .builtin .panic, args, argTypes }, type, pos, after, guard }).run P w = .halt (.panic (.iface t u)) w := by
              simp only [execOp, resolve, Sem.run_bind, Sem.run_pure, Result.andThen_ok, invoke, builtin, hg]
              rfl
            rw [hrun]
            exact hk _ ρ w ⟨Ren.le_refl ρ, fun _ _ _ => rfl, hnx⟩ (r.nx_le hnx) (.iface _ _ _ hu)
        · cases h1
      case copy =>
        obtain ⟨xs, hxs, h1⟩ := ob_some.1 hev
        obtain ⟨⟨av, H1⟩, hap, h2⟩ := ob_some.1 h1
        injection h2 with h2; subst h2
        obtain ⟨u, w', h5, h6, h7⟩ := evCopy_sound (P := P) r (xsL_sound hX hxs) hap type
        rw [map_toArray, Array.toArray_toList] at h5
        refine wpIn_of_yield (by simp) (.inl ?_) (hk u ρ w' ⟨Ren.le_refl ρ, fun _ _ _ => rfl, hnx⟩ (h6.nx_le hnx) h7)
        simp only [execOp, resolve, Sem.run_bind, Sem.run_pure, Result.andThen_ok, invoke, builtin, h5]
      obtain ⟨xs, hxs, h1⟩ := ob_some.1 hev
      obtain ⟨⟨av, H1⟩, hap, h2⟩ := ob_some.1 h1
      injection h2 with h2; subst h2
      obtain ⟨u, w', ρ', h5, h6, h7, h8⟩ := evAppend_sound (P := P) r hni hnx hni' (xsL_sound hX hxs) hap type
      rw [map_toArray, Array.toArray_toList] at h5
      refine wpIn_of_yield (by simp) (.inl ?_) (hk u ρ' w' ⟨h7.1, fun x _ hx => h7.2 x hx, hnx⟩ h6 h8)
      simp only [execOp, resolve, Sem.run_bind, Sem.run_pure, Result.andThen_ok, invoke, builtin, h5]
    | value f =>
      obtain ⟨fa, hfa, h1⟩ := ob_some.1 hev
      obtain ⟨xs, hxs, h2⟩ := ob_some.1 h1
      obtain ⟨t, ht, h3⟩ := ob_some.1 h2
      clear hev h1 h2
      cases hcr : call t H nx' with
      | none =>
        rw [hcr] at h3
        obtain ⟨g, targs, v, H', rfl, rfl, hcl⟩ := evClone_sound (P := P) r hni hnx hni' h3
        have hfr := hX _ _ hfa
        have hxr := xsL_sound hX hxs
        rw [show args.toList.map a.eval = (args.map a.eval).toList by rw [Array.toList_map]] at hxr
        unfold evTarget at ht
        split at ht
        · rename_i g' first cap
          injection ht with ht; injection ht with ht1 ht2; subst ht1; subst ht2
          generalize hfe : a.eval f = fv at hfr
          cases hfr with
          | fn _ _ _ va vc ha hc =>
            obtain ⟨u, ρ', w', h4, h5, h6, h7⟩ := hcl _ (ha.append (hxr.append hc))
            refine wpIn_of_yield (by simp) (.inl ?_) (hk u ρ' w' h5 h6 h7)
            have hargs : va.toArray ++ args.map a.eval ++ vc.toArray = (va ++ ((args.map a.eval).toList ++ vc)).toArray := by
              apply Array.ext'
              simp
            simp only [execOp, resolve, hfe, Deferred.ofValue, Sem.run_bind, Sem.run_pure, Result.andThen_ok, invoke, hargs, h4]
        · injection ht with ht; cases ht
        · cases ht
      | some rc =>
      have h3 : call t H nx' = some res := by rw [hcr] at h3 ⊢; exact h3
      have hok := hcall t H nx' res h3 E F ρ w (r.nx_le hnx)
      have hfr := hX _ _ hfa
      have hxr := xsL_sound hX hxs
      rw [show args.toList.map a.eval = (args.map a.eval).toList by rw [Array.toList_map]] at hxr
      refine ⟨about_ok ro P _ w a.eval, ?_⟩
      rw [Oper.semAt_eq _ _ _ (by simp)]
      unfold evTarget at ht
      split at ht
      · rename_i g first cap
        injection ht with ht; subst ht
        generalize hfe : a.eval f = fv at hfr
        cases hfr with
        | fn _ _ _ va vc ha hc =>
          obtain ⟨⟨fn, c, hfn, hnm, hbd⟩, hcalls⟩ := hok
          have hvl := ha.append (hxr.append hc)
          have hc' := hcalls _ hvl
          have hrun : (execOp a.eval { dst, op := .call { callee := .value f, args, argTypes }, type, pos, after, guard }).run P w = .ok (.enter g ((va ++ ((args.map a.eval).toList ++ vc)).toArray)) w := by
            simp only [execOp, resolve, hfe, Deferred.ofValue, Sem.run_bind, Sem.run_pure, Result.andThen_ok, invoke, callFunc, run_program, hfn, hnm, Bool.false_eq_true, if_false, hbd, Option.isNone_some]
            congr 2
            apply Array.ext'
            simp
          rw [hrun]
          refine ⟨by simp [FW, Fence.wide], ?_⟩
          have hmono := CallsIn.mono hc' (R' := fun
            | .returned v, w'' => next (a.put dst v) w''
            | .panicked chain, w'' => Q (.panic chain) a w''
            | .outgrown, _ => LetsOut Q) (fun e w' he => by
              cases res with
              | mk v H' nx'' =>
                obtain ⟨u, ρ', rfl, h4, h5, h6⟩ := he
                exact hk u ρ' w' (h4.weak hnx (Nat.le_refl _)).ry h5 h6
              | pan v H' nx'' =>
                obtain ⟨u, ρ', rfl, h4, h5, h6⟩ := he
                exact hk u ρ' w' (h4.weak hnx (Nat.le_refl _)).ry h5 h6
              | dfr _ _ _ _ => exact he.elim)
          cases ro with
          | none => exact hmono
          | some l => exact hmono
      · rename_i id
        injection ht with ht; subst ht
        generalize hfe : a.eval f = fv at hfr
        cases hfr with
        | yld _ b hb =>
          obtain ⟨fn, tmps, asg, body, hy, hround⟩ := hok _ b hxr hb
          have hrun : (execOp a.eval { dst, op := .call { callee := .value f, args, argTypes }, type, pos, after, guard }).run P w = .ok (.round b.b fn tmps asg body) w := by
            rw [Array.toArray_toList] at hy
            simp only [execOp, resolve, hfe, Deferred.ofValue, Sem.run_bind, Sem.run_pure, Result.andThen_ok, invoke, Array.empty_append, hy]
          rw [hrun]
          refine ⟨by simp [FW, Fence.wide], ?_⟩
          have hmono := RoundIn.mono hround (R' := fun
            | .returned v, w'' => next (a.put dst v) w''
            | .panicked chain, w'' => Q (.panic chain) a w''
            | .outgrown, _ => LetsOut Q) (fun e w' he => by
              cases res with
              | mk v H' nx'' =>
                obtain ⟨u, ρ', rfl, h4, h5, h6⟩ := he
                exact hk u ρ' w' (h4.weak hnx (Nat.le_refl _)).ry h5 h6
              | pan v H' nx'' =>
                obtain ⟨u, ρ', rfl, h4, h5, h6⟩ := he
                exact hk u ρ' w' (h4.weak hnx (Nat.le_refl _)).ry h5 h6
              | dfr _ _ _ _ => exact he.elim)
          cases ro with
          | none => exact hmono
          | some l => exact hmono
      · cases ht
  case range t x =>
    obtain ⟨xa, hxa, h1⟩ := ob_some.1 hev
    obtain ⟨d, hd, h2⟩ := ob_some.1 h1
    have hu := hX _ _ hxa
    clear hev h1
    generalize hfx : a.eval x = u at hu
    split at h2
    · rename_i id
      obtain ⟨o, ho, h3⟩ := ob_some.1 h2
      split at h3
      · rename_i es clock
        injection h3 with h3; subst h3
        cases hu with
        | map _ b hb =>
        obtain ⟨co, hc, hor⟩ := r.ob _ _ b ho hb
        cases hor with
        | map _ _ l hl =>
        have hle := Ren.le_put (ρ := ρ) hni ⟨w.heap.size, 0, 0⟩
        have A := r.alloc (nx' := nx') hni hnx hni' (cap := 0) (a := .miter id clock [] clock) (o := .mapIter (some b.b) clock #[] clock) (.miter id clock [] clock b rfl (hle _ _ hb))
        obtain ⟨A1, A2⟩ := A
        rw [← get_set_fun] at A1
        refine wpIn_of_yield (by simp) (.inl ?_) (hk (.pointer (some ⟨w.heap.size, 0, none⟩)) _ _ ⟨A2, fun j _ hj => by simp [hj], hnx⟩ A1 (.ptr ni 0 ⟨w.heap.size, 0, 0⟩ (by simp)))
        have hgm : (getObj b.b).run P w = .ok (.map l.toArray clock) w := by simp [getObj, Sem.run, hc]
        simp [execOp, hfx, Instr.range, run_underlying hd, hgm]
      · cases h3
    · cases h2
  case next x isS =>
    obtain ⟨xa, hxa, h1⟩ := ob_some.1 hev
    obtain ⟨⟨v, H1⟩, hn, h2⟩ := ob_some.1 h1
    injection h2 with h2; subst h2
    have hu := hX _ _ hxa
    clear hev h1
    generalize hfx : a.eval x = u at hu
    unfold evNext at hn
    split at hn
    · rename_i id
      cases hu with
      | ptr _ _ b hb =>
      obtain ⟨o, ho, h3⟩ := ob_some.1 hn
      obtain ⟨co, hc, hor⟩ := r.ob _ _ b ho hb
      split at h3
      · rename_i l n pos
        cases hor with
        | siter _ _ _ hob hnn =>
        have hsz : (bstr l n).size = l := bstr_size l n
        cases hlt : Nat.blt pos l with
        | true =>
          rw [hlt, cond_true, fN_eq] at h3
          obtain ⟨hc8, h4⟩ := gd_some.1 h3
          rw [fN_eq] at h4
          injection h4 with h4; injection h4 with h4 h5; subst h4; subst h5
          rw [Nat.blt_eq] at hlt hc8
          have hget : (bstr l n).get! (pos + 0) = UInt8.ofNat (n / 256 ^ pos) := by
            have h1 := bytesL_get l n pos hlt
            show (bstr l n).data[pos + 0]! = _
            have h2 : (bstr l n).data[pos]? = some (UInt8.ofNat (n / 256 ^ pos)) := by
              rw [← Array.getElem?_toList, bstr_data]; exact h1
            simp [getElem!_def, h2]
          have hdec : Utf8.decode (bstr l n) pos = (n / 256 ^ pos % 256, 1) := by
            unfold Utf8.decode
            simp only [hget, u8_ofNat_toNat]
            rw [if_pos hc8]
          have hrel := r.put (a := .siter l n (pos + 1)) (c := .stringIter (bstr l n) (pos + 1)) ho hb (.siter l n (pos + 1) hob hnn) (w' := World.putB w b.b (.stringIter (bstr l n) (pos + 1))) (putB_heap w b.b _ _ hc) rfl rfl rfl
          rw [← get_set_fun] at hrel
          refine wpIn_of_yield (by simp) (.inl ?_) (hk (.tuple #[.bool true, .int .i64 (Int.ofNat pos), .int .i32 (Int.ofNat (n / 256 ^ pos % 256))]) ρ _ ⟨Ren.le_refl ρ, fun _ _ _ => rfl, hnx⟩ (hrel.nx_le hnx)
            (.tup _ [.bool true, .int .i64 (Int.ofNat pos), .int .i32 (Int.ofNat (n / 256 ^ pos % 256))] (.cons _ _ _ _ (.bool _) (.cons _ _ _ _ (.int _ _) (.cons _ _ _ _ (.int _ _) .nil)))))
          have hz : b.ob + 0 = 0 := by omega
          have hgo : (getObj b.b).run P w = .ok (.stringIter (bstr l n) pos) w := by simp [getObj, Sem.run, hc]
          have hput : (setObj b.b (.stringIter (bstr l n) (pos + 1))).run P w = .ok () (World.putB w b.b (.stringIter (bstr l n) (pos + 1))) := by
            simp [setObj, Sem.run, hc, World.putB]
          simp only [execOp, hfx, hz, Instr.next, Sem.run_bind, hgo, Result.andThen_ok, hsz, hdec, if_pos hlt, hput, Sem.run_pure]
          rfl
        | false =>
          rw [hlt, cond_false] at h3
          injection h3 with h3; injection h3 with h3 h4; subst h3; subst h4
          have hge : ¬ pos < l := fun h => by rw [← Nat.blt_eq, hlt] at h; cases h
          refine wpIn_of_yield (by simp) (.inl ?_) (hk (.tuple #[.bool false]) ρ w ⟨Ren.le_refl ρ, fun _ _ _ => rfl, hnx⟩ (r.nx_le hnx) (.tup _ [.bool false] (.cons _ _ _ _ (.bool _) .nil)))
          have hz : b.ob + 0 = 0 := by omega
          have hgo : (getObj b.b).run P w = .ok (.stringIter (bstr l n) pos) w := by simp [getObj, Sem.run, hc]
          simp only [execOp, hfx, hz, Instr.next, Sem.run_bind, hgo, Result.andThen_ok, hsz, if_neg hge, Sem.run_pure]
      · cases hor with
        | miter0 s0 seen last hob =>
        injection h3 with h3; injection h3 with h3 h4; subst h3; subst h4
        refine wpIn_of_yield (by simp) (.inl ?_) (hk (.tuple #[.bool false]) ρ w ⟨Ren.le_refl ρ, fun _ _ _ => rfl, hnx⟩ (r.nx_le hnx) (.tup _ [.bool false] (.cons _ _ _ _ (.bool _) .nil)))
        have hz : b.ob + 0 = 0 := by omega
        have hgo : (getObj b.b).run P w = .ok (.mapIter none s0 seen last) w := by simp [getObj, Sem.run, hc]
        simp only [execOp, hfx, hz, Instr.next, Sem.run_bind, hgo, Result.andThen_ok, Sem.run_pure]
      · rename_i mid since seen last
        cases hor with
        | miter _ _ _ _ bm hob hbm =>
        obtain ⟨om, hom, h4⟩ := ob_some.1 h3
        obtain ⟨cm, hcm, hom'⟩ := r.ob _ _ bm hom hbm
        split at h4
        · rename_i es clock
          cases hom' with
          | map _ _ l hl =>
          obtain ⟨hg, h5⟩ := gd_some.1 h4
          have hz : b.ob + 0 = 0 := by omega
          have hgo : (getObj b.b).run P w = .ok (.mapIter (some bm.b) since seen.toArray last) w := by simp [getObj, Sem.run, hc]
          have hgm : (getObj bm.b).run P w = .ok (.map l.toArray clock) w := by simp [getObj, Sem.run, hcm]
          have hno : (!seen.toArray.isEmpty && !l.toArray.isEmpty && l.toArray.all (fun e => decide (e.born ≥ last))) = false := by
            have hall := all_rel (last := last) hl
            have hemp : es.isEmpty = l.isEmpty := by cases hl <;> rfl
            rw [hall, hemp] at hg
            simp only [List.isEmpty_toArray, List.all_toArray]
            cases h1 : seen.isEmpty <;> cases h2 : l.isEmpty <;> rw [h1, h2] at hg <;> simp_all
          have hleft := left_rel (seen := seen) hl
          have hfil : l.toArray.filter (fun e => !seen.toArray.contains e.born) = (l.filter fun m => !seen.contains m.born).toArray := by
            simp
          split at h5
          · rename_i hle
            injection h5 with h5; injection h5 with h5 h6; subst h5; subst h6
            rw [hle] at hleft
            have hnil : (l.filter fun m => !seen.contains m.born) = [] := by generalize (l.filter fun m => !seen.contains m.born) = l' at hleft; cases hleft; rfl
            rw [hnil] at hfil
            refine wpIn_of_yield (by simp) (.inl ?_) (hk (.tuple #[.bool false]) ρ w ⟨Ren.le_refl ρ, fun _ _ _ => rfl, hnx⟩ (r.nx_le hnx) (.tup _ [.bool false] (.cons _ _ _ _ (.bool _) .nil)))
            simp only [execOp, hfx, hz, Instr.next, Sem.run_bind, hgo, hgm, Result.andThen_ok, hno, hfil, Bool.false_eq_true, if_false]
            simp [Question.forced]
          · rename_i e hle
            obtain ⟨hlt, h6⟩ := gd_some.1 h5
            injection h6 with h6; injection h6 with h6 h7; subst h6; subst h7
            rw [Nat.blt_eq] at hlt
            rw [hle] at hleft
            obtain ⟨m, hm, her⟩ : ∃ m, (l.filter fun m => !seen.contains m.born) = [m] ∧ ER ρ e m := by
              generalize (l.filter fun m => !seen.contains m.born) = l' at hleft
              cases hleft with
              | cons _ m _ l'' he hs => cases hs; exact ⟨m, rfl, he⟩
            rw [hm] at hfil
            have hborn : m.born = e.born := her.2.2.symm
            have hrel := r.put (a := .miter mid since (seen ++ [e.born]) clock) (c := .mapIter (some bm.b) since (seen ++ [e.born]).toArray clock) ho hb (.miter mid since (seen ++ [e.born]) clock bm hob hbm)
              (w' := World.putB w b.b (.mapIter (some bm.b) since (seen ++ [e.born]).toArray clock)) (putB_heap w b.b _ _ hc) rfl rfl rfl
            rw [← get_set_fun] at hrel
            refine wpIn_of_yield (by simp) (.inl ?_) (hk (.tuple #[.bool true, m.key, m.val]) ρ _ ⟨Ren.le_refl ρ, fun _ _ _ => rfl, hnx⟩ (hrel.nx_le hnx)
              (.tup _ [.bool true, m.key, m.val] (.cons _ _ _ _ (.bool _) (.cons _ _ _ _ her.1 (.cons _ _ _ _ her.2.1 .nil)))))
            have hput : (setObj b.b (.mapIter (some bm.b) since (seen ++ [e.born]).toArray clock)).run P w = .ok () (World.putB w b.b (.mapIter (some bm.b) since (seen ++ [e.born]).toArray clock)) := by
              simp [setObj, Sem.run, hc, World.putB]
            have hlt' : m.born < since := by omega
            have hge' : ¬ m.born ≥ since := by omega
            have hold : [m].toArray.filter (fun e => decide (e.born < since)) = [m].toArray := by simp [hlt']
            have hnew : [m].toArray.filter (fun e => decide (e.born ≥ since)) = #[] := by simp [hge']
            have hcand : (if [m].toArray.isEmpty = true then #[none] else #[]) ++ ([m].toArray ++ #[]).map some = #[some m] := by simp
            have hch : (choose (.mapNext (#[some m] : Array (Option MapEntry)).size)).run P w = .ok 0 w := by simp [Question.forced]
            simp only [execOp, hfx, hz, Instr.next, Sem.run_bind, hgo, hgm, Result.andThen_ok, hno, hfil, Bool.false_eq_true, if_false, hold, hnew, hcand, hch]
            have hpush : seen.toArray.push m.born = (seen ++ [e.born]).toArray := by rw [hborn]; simp
            simp [hput, hpush]
          · cases h5
        · cases h4
      · cases h3
    · cases hn
  case convert s d x =>
    obtain ⟨xa, hxa, h1⟩ := ob_some.1 hev
    have hu := hX _ _ hxa
    clear hev
    split at h1
    · rename_i id off len cap
      obtain ⟨hsd, h2⟩ := gd_some.1 h1
      rw [Nat.beq_eq] at hsd
      subst hsd
      obtain ⟨dd, hdd, h3⟩ := ob_some.1 h2
      split at h3
      · rename_i e
        obtain ⟨de, hde, h4⟩ := ob_some.1 h3
        split at h4
        · obtain ⟨o, ho, h5⟩ := ob_some.1 h4
          clear h1 h2 h3 h4
          split at h5
          · rename_i el c z n op
            injection h5 with h5; subst h5
            generalize hfx : a.eval x = u at hu
            cases hu with
            | sl _ _ _ _ b hb =>
              obtain ⟨co, hc, hor⟩ := r.ob _ _ b ho hb
              cases hor with
              | cells _ _ _ _ _ cs fz hsize hn hop hfz hcs =>
                obtain ⟨w', hw1, hw2, hw3, hw4, hw5, fz', hw6, hw7⟩ : ∃ w' : World, (convert s s (.slice (some ⟨b.b, b.ob + off, none⟩) len cap)).run P w = .ok (.slice (some ⟨b.b, b.ob + off, none⟩) len cap) w' ∧
                    w'.tape = w.tape ∧ w'.os = w.os ∧ w'.output = w.output ∧ True ∧ ∃ fz', (∀ k, w'.heap[k]? = if k = b.b then some (.cells cs el fz') else w.heap[k]?) ∧ fzOk cs fz' := by
                  have hsh : w.shape? b.b = some (el, cs.size) := by simp [World.shape?, hc]
                  refine ⟨w.freeze ⟨b.b, cs.size, none⟩ 1, ?_, rfl, rfl, rfl, trivial, if fz.1 == fz.2 then (cs.size, cs.size + 1) else (min fz.1 cs.size, max fz.2 (cs.size + 1)), fun k => ?_, ?_⟩
                  · simp only [convert, Sem.run_bind, run_underlying hdd, run_underlying hde, Result.andThen_ok, BEq.rfl, markStringish, run_shape, hsh]
                    rfl
                  · show (w.heap.modify b.b _)[k]? = _
                    rw [Array.getElem?_modify]
                    by_cases hk : k = b.b
                    · subst hk
                      rw [if_pos rfl, if_pos rfl, hc]
                      rfl
                    · rw [if_neg (fun e => hk e.symm), if_neg hk]
                  · rcases hfz with h | h
                    · subst h; exact .inr (Nat.le_refl _)
                    · split
                      · exact .inr (Nat.le_refl _)
                      · exact .inr (by simp only; omega)
                have hrel := r.put (a := .cells el c z n op) (c := .cells cs el fz') ho hb (.cells el c z n op cs fz' hsize hn hop hw7 hcs) hw6 hw2 hw3 hw4
                have hfe : (fun j => if j = id then some (AObj.cells el c z n op) else H.get j) = H.get := by
                  funext j
                  by_cases hj : j = id
                  · rw [if_pos hj, hj, ho]
                  · rw [if_neg hj]
                rw [hfe] at hrel
                refine wpIn_of_yield (by simp) (.inl ?_) (hk _ ρ w' ⟨Ren.le_refl ρ, fun _ _ _ => rfl, hnx⟩ (hrel.nx_le hnx) (.sl id off len cap b hb))
                simp only [execOp, hfx, Sem.run_bind, hw1, Result.andThen_ok, Sem.run_pure]
          · cases h5
        · cases h4
      · cases h3
    · cases h1
  case panic x =>
    obtain ⟨xa, hxa, h1⟩ := ob_some.1 hev
    split at h1
    · rename_i t v
      injection h1 with h1; subst h1
      have hu := hX _ _ hxa
      generalize hm : a.eval x = vx at hu
      cases hu
      rename_i u hu
      refine ⟨about_ok ro P _ w a.eval, ?_⟩
      rw [Oper.semAt_eq _ _ _ (by simp)]
      have hrun : (execOp a.eval { dst, op := .panic x, type, pos, after, guard }).run P w = .halt (.panic (.iface t u)) w := by
        simp only [execOp, hm]
        rfl
      rw [hrun]
      exact hk _ ρ w ⟨Ren.le_refl ρ, fun _ _ _ => rfl, hnx⟩ (r.nx_le hnx) (.iface _ _ _ hu)
    · cases h1
  case defer c =>
    obtain ⟨callee, args, argTypes⟩ := c
    simp only at hev
    cases callee with
    | invoke _ _ => cases hev
    | builtin b => cases hev
    | value f =>
      obtain ⟨fa, hfa, h1⟩ := ob_some.1 hev
      obtain ⟨xs, hxs, h2⟩ := ob_some.1 h1
      obtain ⟨t, ht, h3⟩ := ob_some.1 h2
      clear hev h1 h2
      split at h3
      · rename_i g args'
        injection h3 with h3; subst h3
        obtain ⟨rfl, hk⟩ := hk
        have hfr := hX _ _ hfa
        have hxr := xsL_sound hX hxs
        rw [show args.toList.map a.eval = (args.map a.eval).toList by rw [Array.toList_map]] at hxr
        refine ⟨about_ok none P _ w a.eval, ?_⟩
        show Oper.uponIn _ _ _ _ _ _ _ ((Oper.semAt none a.eval _).run P w)
        rw [Oper.semAt_none]
        unfold evTarget at ht
        split at ht
        · rename_i g0 first cap
          injection ht with ht; injection ht with ht1 ht2; subst ht1; subst ht2
          generalize hfe : a.eval f = fv at hfr
          cases hfr with
          | fn _ _ _ va vc ha hc =>
            have hrun : (execOp a.eval { dst, op := .defer { callee := .value f, args, argTypes }, type, pos, after, guard }).run P w = .ok (.defer { target := .fn (.func g0) vc.toArray, args := (va ++ (args.map a.eval).toList).toArray }) w := by
              simp only [execOp, resolve, hfe, Deferred.ofValue, Sem.run_bind, Sem.run_pure, Result.andThen_ok]
              congr 3
              apply Array.ext'
              simp
            rw [hrun]
            exact hk (va ++ (args.map a.eval).toList) vc ⟨Ren.le_refl ρ, fun _ _ => rfl, hnx⟩ (r.nx_le hnx) (by rw [List.append_assoc]; exact ha.append (hxr.append hc))
        · injection ht with ht; cases ht
        · cases ht
      · cases h3

theorem evOp_sound {P : Program} {call : CallF} (hcall : CallOK P call) {E : Env} {F : Nat → Option Obj} {nx nx' : Nat} {ρ : Ren} {H : Tr AObj} {w : World} (r : Rel E F nx ρ H.get w)
    {X : Operand → Option AV} {a : Act} (hX : XR ρ X a.eval) {ni : Nat} (hni : ρ ni = none) (hnx : nx ≤ nx') (hni' : ni < nx') {o : Oper} {res : CR}
    (hev : evOp P call X H ni nx nx' o.op = some res) {ro : Option Nat} {next : Act → World → Prop} {Q : Exit → Act → World → Prop}
    (hk : NextOK E F ni nx ρ o a w ro next Q res) : o.wpIn (FW ro) 0 P a w next Q := by
  unfold evOp at hev
  cases hp : evPure2 P H X o.op with
  | some av =>
    rw [hp] at hev
    injection hev with hev; subst hev
    obtain ⟨u, h4, h5⟩ := evPure2_sound r (HS.refl ρ H) hX o hp
    exact wpIn_of_yield (pure2_nodefer hp) (.inl h4) (hk u ρ w (RX.refl _ ρ).ry r h5)
  | none =>
    rw [hp] at hev
    cases hn : evNew P X ni o.op with
    | some p =>
      rw [hn] at hev
      obtain ⟨av, obj⟩ := p
      injection hev with hev; subst hev
      obtain ⟨u, w1, c, cap, h4, h5, h6, h7⟩ := evNew_sound (P := P) (w := w) hX hni o hn
      refine wpIn_of_yield (new_nodefer hn) (.inl h4) ?_
      rcases h5 with rfl | rfl
      · have := r.alloc hni hnx hni' h6
        exact hk u _ _ ⟨this.2, fun x _ hx => by simp [hx], hnx⟩ (by rw [get_set_fun]; exact this.1) h7
      · have := r.drew.alloc hni hnx hni' h6
        exact hk u _ _ ⟨this.2, fun x _ hx => by simp [hx], hnx⟩ (by rw [get_set_fun]; exact this.1) h7
    | none =>
      rw [hn] at hev
      exact evHeavy_sound hcall r hX hni hnx hni' hev hk

end Go.Ev
