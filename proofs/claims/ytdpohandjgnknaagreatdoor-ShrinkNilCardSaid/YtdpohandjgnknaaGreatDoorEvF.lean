/- The evaluator, part F: all operations that read at most, and those that make a block. -/
import Derived.Test.YtdpohandjgnknaaGreatDoorEvE
namespace Go.Ev

/-! ### builtins that read at most -/
noncomputable def evLen (P : Program) (H : Tr AObj) (t : TypeId) (x : AV) : Option AV :=
  ob (P.underlying t) fun d => match d, x with
    | .string, .str l _ => some (natI l)
    | .slice _, .sl0 => some (natI 0)
    | .slice _, .sl _ _ n _ => some (natI n)
    | .slice _, .slo _ _ n _ => some (natI n)
    | .slice _, .sle _ => some (natI 0)
    | .array n _, _ => some (natI n)
    | .map _ _, .map0 => some (natI 0)
    | .map _ _, .map id => ob (H.get id) fun o => match o with
      | .map es _ => some (natI es.length)
      | _ => none
    | _, _ => none
theorem evLen_sound {P : Program} {E : Env} {F : Nat → Option Obj} {nx : Nat} {ρ : Ren} {h : Nat → Option AObj} {w : World} {H : Tr AObj} (r : Rel E F nx ρ h w) (hs : HS ρ H h)
    {t : TypeId} {x a : AV} {u : Value} (hx : VR ρ x u) (hev : evLen P H t x = some a) (ts us : Array _) (ty : TypeId) (ht : ts[0]? = some t) (hu : us[0]? = some u) :
    ∃ z, (Builtin.len_ ts ty us).run P w = .ok z w ∧ VR ρ a z := by
  obtain ⟨d, hd, h1⟩ := ob_some.1 hev
  clear hev
  split at h1
  · injection h1 with h1; subst h1; cases hx
    exact ⟨_, by simp [Builtin.len_, ht, hu, run_underlying hd, bstr_size, goInt], .int _ _⟩
  · injection h1 with h1; subst h1; cases hx
    exact ⟨_, by simp [Builtin.len_, ht, hu, run_underlying hd, goInt], .int _ _⟩
  · injection h1 with h1; subst h1; cases hx
    exact ⟨_, by simp [Builtin.len_, ht, hu, run_underlying hd, goInt], .int _ _⟩
  · injection h1 with h1; subst h1; cases hx
    exact ⟨_, by simp [Builtin.len_, ht, hu, run_underlying hd, goInt], .int _ _⟩
  · injection h1 with h1; subst h1; cases hx
    exact ⟨_, by simp [Builtin.len_, ht, hu, run_underlying hd, goInt], .int _ _⟩
  · injection h1 with h1; subst h1
    exact ⟨_, by simp [Builtin.len_, ht, hu, run_underlying hd, goInt], .int _ _⟩
  · injection h1 with h1; subst h1; cases hx
    exact ⟨_, by simp [Builtin.len_, ht, hu, run_underlying hd, goInt], .int _ _⟩
  · obtain ⟨o, ho, h2⟩ := ob_some.1 h1
    cases hx with
    | map _ b hb =>
      obtain ⟨c, hc, hor⟩ := r.ob _ o b (hs _ o ho (.inl ⟨b, hb⟩)) hb
      split at h2
      · injection h2 with h2; subst h2
        cases hor with
        | map es clock l hl =>
          exact ⟨_, by simp [Builtin.len_, ht, hu, run_underlying hd, goInt, getObj, Sem.run, hc, ← hl.length], .int _ _⟩
      · cases h2
  · cases h1

noncomputable def evCap (P : Program) (t : TypeId) (x : AV) : Option AV :=
  ob (P.underlying t) fun d => match d, x with
    | .slice _, .sl0 => some (natI 0)
    | .slice _, .sl _ _ _ c => some (natI c)
    | _, _ => none
theorem evCap_sound {P : Program} {ρ : Ren} {t : TypeId} {x a : AV} {u : Value} (hx : VR ρ x u) (hev : evCap P t x = some a) (ts us : Array _) (ty : TypeId) (ht : ts[0]? = some t) (hu : us[0]? = some u) (w : World) :
    ∃ z, (Builtin.cap_ ts ty us).run P w = .ok z w ∧ VR ρ a z := by
  obtain ⟨d, hd, h1⟩ := ob_some.1 hev
  clear hev
  split at h1
  · injection h1 with h1; subst h1; cases hx
    exact ⟨_, by simp [Builtin.cap_, ht, hu, run_underlying hd, goInt], .int _ _⟩
  · injection h1 with h1; subst h1; cases hx
    exact ⟨_, by simp [Builtin.cap_, ht, hu, run_underlying hd, goInt], .int _ _⟩
  · cases h1

noncomputable def evMin (xs : List AV) : Option AV :=
  match xs with
  | [.int k x, .int _ y] => some (.int k (cond (ilt y x) y x))
  | _ => none
noncomputable def evMax (xs : List AV) : Option AV :=
  match xs with
  | [.int k x, .int _ y] => some (.int k (cond (ilt x y) y x))
  | _ => none
theorem evMin_sound {P : Program} {ρ : Ren} {xs : List AV} {a : AV} {us : List Value} (hx : VRL ρ xs us) (h : evMin xs = some a) (ts : Array TypeId) (ty : TypeId) (w : World) :
    ∃ z, (Builtin.min_ ts ty us.toArray).run P w = .ok z w ∧ VR ρ a z := by
  unfold evMin at h
  split at h
  · injection h with h; subst h
    cases hx with
    | cons _ _ _ _ h1 hs => cases hs with
      | cons _ _ _ _ h2 hs => cases hs; cases h1; cases h2; exact ⟨_, by simp [Builtin.min_, Builtin.min2, ilt_eq, Bool.cond_eq_ite], .int _ _⟩
  · cases h
theorem evMax_sound {P : Program} {ρ : Ren} {xs : List AV} {a : AV} {us : List Value} (hx : VRL ρ xs us) (h : evMax xs = some a) (ts : Array TypeId) (ty : TypeId) (w : World) :
    ∃ z, (Builtin.max_ ts ty us.toArray).run P w = .ok z w ∧ VR ρ a z := by
  unfold evMax at h
  split at h
  · injection h with h; subst h
    cases hx with
    | cons _ _ _ _ h1 hs => cases hs with
      | cons _ _ _ _ h2 hs => cases hs; cases h1; cases h2; exact ⟨_, by simp [Builtin.max_, Builtin.max2, ilt_eq, Bool.cond_eq_ite], .int _ _⟩
  · cases h

noncomputable def evBi (P : Program) (H : Tr AObj) (b : Builtin) (ts : List TypeId) (xs : List AV) : Option AV :=
  match b with
  | .len => ob (ts[0]?) fun t => ob (xs[0]?) fun x => evLen P H t x
  | .cap => ob (ts[0]?) fun t => ob (xs[0]?) fun x => evCap P t x
  | .min => evMin xs
  | .max => evMax xs
  | _ => none

theorem evBi_sound {P : Program} {E : Env} {F : Nat → Option Obj} {nx : Nat} {ρ : Ren} {h : Nat → Option AObj} {w : World} {H : Tr AObj} (r : Rel E F nx ρ h w) (hs : HS ρ H h)
    {b : Builtin} {ts : List TypeId} {xs : List AV} {a : AV} {us : List Value} (hx : VRL ρ xs us) (hev : evBi P H b ts xs = some a) (ty : TypeId) (cs : Array Bool) :
    ∃ z, (builtin b ts.toArray ty cs us.toArray).run P w = .ok (.value z) w ∧ VR ρ a z := by
  unfold evBi at hev
  split at hev
  · obtain ⟨t, ht, h1⟩ := ob_some.1 hev
    obtain ⟨x, hx1, h2⟩ := ob_some.1 h1
    obtain ⟨u, hu, hr⟩ := hx.get 0 x hx1
    obtain ⟨z, h3, h4⟩ := evLen_sound r hs hr h2 ts.toArray us.toArray ty (by simpa using ht) (by simpa using hu)
    exact ⟨z, by simp [builtin, h3], h4⟩
  · obtain ⟨t, ht, h1⟩ := ob_some.1 hev
    obtain ⟨x, hx1, h2⟩ := ob_some.1 h1
    obtain ⟨u, hu, hr⟩ := hx.get 0 x hx1
    obtain ⟨z, h3, h4⟩ := evCap_sound (P := P) hr h2 ts.toArray us.toArray ty (by simpa using ht) (by simpa using hu) w
    exact ⟨z, by simp [builtin, h3], h4⟩
  · obtain ⟨z, h3, h4⟩ := evMin_sound (P := P) hx hev ts.toArray ty w
    exact ⟨z, by simp [builtin, h3], h4⟩
  · obtain ⟨z, h3, h4⟩ := evMax_sound (P := P) hx hev ts.toArray ty w
    exact ⟨z, by simp [builtin, h3], h4⟩
  · cases hev

theorem map_toArray {α β : Type} (a : Array α) (f : α → β) : (a.toList.map f).toArray = a.map f := by
  rw [← Array.toList_map, Array.toArray_toList]

/-! ### all that reads at most -/
def isMethodFn : Fn → Bool
  | .method _ => true
  | _ => false
noncomputable def evNil (x : AV) : Option AV :=
  match x with
  | .ptr id off => some (.ptr id off)
  | .iface t v => some (.iface t v)
  | .fn f a c => gd (!isMethodFn f) (some (.fn f a c))
  | .yld id => some (.yld id)
  | _ => none

theorem evNil_sound {ρ : Ren} {a r : AV} {u : Value} (ha : VR ρ a u) (h : evNil a = some r) :
    r = a ∧ ∀ (o : Oper) (f : Operand → Value) (x : Operand), o.op = .nilCheck x → f x = u → execOp f o = pure (.value u) := by
  cases ha <;> simp only [evNil] at h <;> first | (cases h; done) | skip
  · injection h with h; subst h
    exact ⟨rfl, fun o f x ho hf => by simp [execOp, ho, hf]⟩
  · rename_i fn _ _ _ _ _ _
    obtain ⟨hm, h⟩ := gd_some.1 h
    injection h with h; subst h
    refine ⟨rfl, fun o f x ho hf => ?_⟩
    cases fn <;> first | (simp [isMethodFn] at hm; done) | simp [execOp, ho, hf]
  · injection h with h; subst h
    exact ⟨rfl, fun o f x ho hf => by simp [execOp, ho, hf]⟩
  · injection h with h; subst h
    exact ⟨rfl, fun o f x ho hf => by simp [execOp, ho, hf]⟩

def isIfaceD : TypeDesc → Bool
  | .interface _ => true
  | _ => false

noncomputable def evPure (P : Program) (H : Tr AObj) (X : Operand → Option AV) (op : Op) : Option AV :=
  match op with
  | .move x => X x
  | .assign x => X x
  | .pick c a b => ob (X c) fun v => match v with
    | .bool t => cond t (X a) (X b)
    | _ => none
  | .load t a => ob (X a) fun x => evLoad P H t x
  | .nilCheck x => ob (X x) evNil
  | .binOp op t x y _ => ob (X x) fun a => ob (X y) fun b => evBin P op t (isConstO x) (isConstO y) a b
  | .unOp op _ x => ob (X x) fun a => evUn op a
  | .convert s d x => ob (X x) fun a => evConv P s d a
  | .makeInterface t x => ob (X x) fun a => ob (P.underlying t) fun d => gd (!isIfaceD d) (some (.iface t a))
  | .makeFunc fn first captured => ob (xsL X first.toList) fun a => ob (xsL X captured.toList) fun c => some (.fn fn a c)
  | .slice t x lo hi mx => ob (X x) fun a => evSlice P X t a lo hi mx
  | .fieldAddr t x f => ob (X x) fun a => evFieldAddr P t a f
  | .field t x f => ob (X x) fun a => evField P t a f
  | .indexAddr t x i => ob (X x) fun a => ob (X i) fun b => evIndexAddr P t a b
  | .index t x i => ob (X x) fun a => ob (X i) fun b => evIndex P t a b
  | .lookup t x i ok => ob (X x) fun a => ob (X i) fun b => evLookup P H t a b ok
  | .extract x i => ob (X x) fun a => evExtract a i
  | .call c => match c.callee with
    | .builtin b => ob (xsL X c.args.toList) fun xs => evBi P H b c.argTypes.toList xs
    | _ => none
  | _ => none

set_option maxHeartbeats 1000000 in
theorem evPure_sound {P : Program} {E : Env} {F : Nat → Option Obj} {nx : Nat} {ρ : Ren} {h : Nat → Option AObj} {w : World} {H : Tr AObj} (r : Rel E F nx ρ h w) (hs : HS ρ H h)
    {X : Operand → Option AV} {f : Operand → Value} (hX : XR ρ X f) (o : Oper) {a : AV} (hev : evPure P H X o.op = some a) :
    ∃ v, (execOp f o).run P w = .ok (.value v) w ∧ VR ρ a v := by
  obtain ⟨dst, op, type, pos, after, guard⟩ := o
  simp only at hev
  cases op <;> simp only [evPure] at hev <;> first | (cases hev; done) | skip
  case move x => exact ⟨_, rfl, hX _ _ hev⟩
  case assign x => exact ⟨_, rfl, hX _ _ hev⟩
  case pick c x y =>
    obtain ⟨v, hv, h1⟩ := ob_some.1 hev
    have hc := hX _ _ hv
    split at h1
    · rename_i t
      generalize hfc : f c = u at hc
      cases hc
      cases t
      · exact ⟨_, by simp [execOp, hfc, asBool], hX _ _ h1⟩
      · exact ⟨_, by simp [execOp, hfc, asBool], hX _ _ h1⟩
    · cases h1
  case load t x =>
    obtain ⟨v, hv, h1⟩ := ob_some.1 hev
    obtain ⟨z, h2, h3⟩ := evLoad_sound r hs (hX _ _ hv) h1
    exact ⟨z, run_v h2, h3⟩
  case nilCheck x =>
    obtain ⟨v, hv, h1⟩ := ob_some.1 hev
    have hc := hX _ _ hv
    obtain ⟨rfl, h2⟩ := evNil_sound hc h1
    exact ⟨f x, by rw [h2 { dst, op := .nilCheck x, type, pos, after, guard } f x rfl rfl]; rfl, hc⟩
  case binOp op t x y yt =>
    obtain ⟨v, hv, h1⟩ := ob_some.1 hev
    obtain ⟨v', hv', h2⟩ := ob_some.1 h1
    obtain ⟨z, h3, h4⟩ := evBin_sound (P := P) (hX _ _ hv) (hX _ _ hv') h2 w
    exact ⟨z, run_v h3, h4⟩
  case unOp op t x =>
    obtain ⟨v, hv, h1⟩ := ob_some.1 hev
    obtain ⟨z, h3, h4⟩ := evUn_sound (P := P) h1 (hX _ _ hv) w
    exact ⟨z, run_v h3, h4⟩
  case convert s d x =>
    obtain ⟨v, hv, h1⟩ := ob_some.1 hev
    obtain ⟨z, h3, h4⟩ := evConv_sound (P := P) (hX _ _ hv) h1 w
    exact ⟨z, run_v h3, h4⟩
  case makeInterface t x =>
    obtain ⟨v, hv, h1⟩ := ob_some.1 hev
    obtain ⟨d, hd, h2⟩ := ob_some.1 h1
    obtain ⟨hi, h3⟩ := gd_some.1 h2
    injection h3 with h3; subst h3
    refine ⟨_, run_v ?_, .iface _ _ _ (hX _ _ hv)⟩
    cases d <;> first | (simp [isIfaceD] at hi; done) | simp [Instr.makeInterface, run_underlying hd]
  case makeFunc fn first captured =>
    obtain ⟨xs, hxs, h1⟩ := ob_some.1 hev
    obtain ⟨ys, hys, h2⟩ := ob_some.1 h1
    injection h2 with h2; subst h2
    have h3 := VR.fn (ρ := ρ) fn xs ys _ _ (xsL_sound hX hxs) (xsL_sound hX hys)
    rw [map_toArray, map_toArray] at h3
    exact ⟨_, run_v rfl, h3⟩
  case slice t x lo hi mx =>
    obtain ⟨v, hv, h1⟩ := ob_some.1 hev
    obtain ⟨z, h3, h4⟩ := evSlice_sound (P := P) hX (hX _ _ hv) h1 w
    exact ⟨z, run_v h3, h4⟩
  case fieldAddr t x i =>
    obtain ⟨v, hv, h1⟩ := ob_some.1 hev
    obtain ⟨z, h3, h4⟩ := evFieldAddr_sound (P := P) (hX _ _ hv) h1 w
    exact ⟨z, run_v h3, h4⟩
  case field t x i =>
    obtain ⟨v, hv, h1⟩ := ob_some.1 hev
    obtain ⟨z, h3, h4⟩ := evField_sound (P := P) (hX _ _ hv) h1 w
    exact ⟨z, run_v h3, h4⟩
  case indexAddr t x i =>
    obtain ⟨v, hv, h1⟩ := ob_some.1 hev
    obtain ⟨v', hv', h2⟩ := ob_some.1 h1
    obtain ⟨z, h3, h4⟩ := evIndexAddr_sound (P := P) (hX _ _ hv) (hX _ _ hv') h2 w
    exact ⟨z, run_v h3, h4⟩
  case index t x i =>
    obtain ⟨v, hv, h1⟩ := ob_some.1 hev
    obtain ⟨v', hv', h2⟩ := ob_some.1 h1
    obtain ⟨z, h3, h4⟩ := evIndex_sound (P := P) (hX _ _ hv) (hX _ _ hv') h2 w
    exact ⟨z, run_v h3, h4⟩
  case lookup t x i ok =>
    obtain ⟨v, hv, h1⟩ := ob_some.1 hev
    obtain ⟨v', hv', h2⟩ := ob_some.1 h1
    obtain ⟨z, h3, h4⟩ := evLookup_sound r hs (hX _ _ hv) (hX _ _ hv') h2
    exact ⟨z, run_v h3, h4⟩
  case extract x i =>
    obtain ⟨v, hv, h1⟩ := ob_some.1 hev
    obtain ⟨z, h3, h4⟩ := evExtract_sound (P := P) (hX _ _ hv) h1 w
    exact ⟨z, run_v h3, h4⟩
  case call c =>
    obtain ⟨callee, args, argTypes⟩ := c
    simp only at hev
    split at hev
    · obtain ⟨xs, hxs, h1⟩ := ob_some.1 hev
      obtain ⟨z, h2, h3⟩ := evBi_sound r hs (xsL_sound hX hxs) h1 type (args.map fun | .const _ => true | _ => false)
      refine ⟨z, ?_, h3⟩
      rw [map_toArray, Array.toArray_toList] at h2
      simp only [execOp, resolve, Sem.run_bind, Sem.run_pure, Result.andThen_ok, invoke]
      exact h2
    · cases hev

end Go.Ev
