/- The evaluator, part Y: a function's own code in pieces: what stands one behind the other, a loop's rounds in rows. -/
import Derived.Test.YtdpohandjgnknaaGreatDoorEvX
namespace Go.Ev

theorem seq_code {P : Program} {pt : Pures} {tab : List Cut} {R m : Nat} {a b : Code} {s s' : St} (h : (evsX P pt tab R m).code a s = some (.mk .nrm s')) :
    (evsX P pt tab R (m + 1)).code (.seq a b) s = (evsX P pt tab R m).code b s' := by
  show (ob ((evsX P pt tab R m).code a s) fun r => XR2.rec (motive := fun _ => Option XR2) (fun x s' => onNrm x s' ((evsX P pt tab R m).code b)) r) = _
  rw [h]; rfl
theorem block_code {P : Program} {pt : Pures} {tab : List Cut} {R m id : Nat} {c : Code} {s s' : St} (h : (evsX P pt tab R m).code c s = some (.mk (.exit id) s')) :
    (evsX P pt tab R (m + 1)).code (.block id c) s = some (.mk .nrm s') := by
  show (ob ((evsX P pt tab R m).code c s) fun r => XR2.rec (motive := fun _ => Option XR2) (fun x s' => onExit id x s') r) = _
  rw [h]
  show (cond (Nat.beq id id) (some (XR2.mk .nrm s')) (some (XR2.mk (.exit id) s'))) = _
  rw [Nat.beq_refl]; rfl
theorem loop_code {P : Program} {pt : Pures} {tab : List Cut} {R m : Nat} {c : Code} {s : St} : (evsX P pt tab R (m + 1)).code (.loop c) s = evRounds ((evsX P pt tab R m).code c) R s := rfl

/-- So many rounds that end as they should. -/
noncomputable def iterN (G : St → Option XR2) (k : Nat) : St → Option St :=
  Nat.rec (motive := fun _ => St → Option St) (fun s => some s) (fun _ ih s => ob (G s) fun r => XR2.rec (motive := fun _ => Option St) (fun x s' => match x with
    | .nrm => ih s'
    | _ => none) r) k
theorem iterN_rounds {G : St → Option XR2} : ∀ (k m : Nat) (s s' : St), iterN G k s = some s' → evRounds G (k + m) s = evRounds G m s'
  | 0, m, s, s', h => by
    injection h with h; subst h; rw [Nat.zero_add]
  | k + 1, m, s, s', h => by
    obtain ⟨r, hr, h1⟩ := ob_some.1 (show (ob (G s) fun r => XR2.rec (motive := fun _ => Option St) (fun x s' => match x with
      | .nrm => iterN G k s'
      | _ => none) r) = some s' from h)
    rw [show k + 1 + m = (k + m) + 1 by omega]
    show (ob (G s) fun r => XR2.rec (motive := fun _ => Option XR2) (fun x s' => onNrm x s' (evRounds G (k + m))) r) = _
    rw [hr]
    cases r with
    | mk x s1 =>
      cases x with
      | nrm => exact iterN_rounds k m s1 s' h1
      | _ => cases h1
theorem rounds_last {G : St → Option XR2} {m id : Nat} {s s' : St} (h : G s = some (.mk (.exit id) s')) : evRounds G (m + 1) s = some (.mk (.exit id) s') := by
  show (ob (G s) fun r => XR2.rec (motive := fun _ => Option XR2) (fun x s' => onNrm x s' (evRounds G m)) r) = _
  rw [h]; rfl

/-! ### states beside one another -/
noncomputable def optO (a b : Option AObj) : Bool := Option.rec (motive := fun _ => Bool) (Option.rec (motive := fun _ => Bool) true (fun _ => false) b) (fun x => Option.rec (motive := fun _ => Bool) false (fun y => objEq x y) b) a
noncomputable def trOEq (t : Tr AObj) : Tr AObj → Bool :=
  Tr.rec (motive := fun _ => Tr AObj → Bool) (fun u => Tr.rec (motive := fun _ => Bool) true (fun _ _ _ _ _ => false) u)
    (fun v _ _ il ir u => Tr.rec (motive := fun _ => Bool) false (fun v' l' r' _ _ => cond (optO v v') (cond (il l') (ir r') false) false) u) t
theorem optO_eq {a b : Option AObj} (h : optO a b = true) : a = b := by
  cases a with
  | none => cases b with
    | none => rfl
    | some y => cases h
  | some x => cases b with
    | none => cases h
    | some y => rw [objEq_eq (show objEq x y = true from h)]
theorem trOEq_eq : ∀ {t u : Tr AObj}, trOEq t u = true → t = u
  | .leaf, .leaf, _ => rfl
  | .leaf, .node _ _ _, h => by cases h
  | .node _ _ _, .leaf, h => by cases h
  | .node v l r, .node v' l' r', h => by
    obtain ⟨h1, h2⟩ := cond_and (show cond (optO v v') (cond (trOEq l l') (trOEq r r') false) false = true from h)
    obtain ⟨h3, h4⟩ := cond_and h2
    rw [optO_eq h1, trOEq_eq h3, trOEq_eq h4]
noncomputable def stEq (s t : St) : Bool := cond (Nat.beq s.N t.N) (cond (Nat.beq s.nx t.nx) (cond s.ro.isNone (cond t.ro.isNone (cond s.D.isEmpty (cond t.D.isEmpty (cond (trEq s.T t.T) (trOEq s.H t.H) false) false) false) false) false) false) false
theorem stEq_eq {s t : St} (h : stEq s t = true) : s = t := by
  obtain ⟨h1, h⟩ := cond_and h
  obtain ⟨h2, h⟩ := cond_and h
  obtain ⟨h3, h⟩ := cond_and h
  obtain ⟨h4, h⟩ := cond_and h
  obtain ⟨h5, h⟩ := cond_and h
  obtain ⟨h6, h⟩ := cond_and h
  obtain ⟨h7, h8⟩ := cond_and h
  obtain ⟨N, T, H, nx, ro, D⟩ := s
  obtain ⟨N', T', H', nx', ro', D'⟩ := t
  have e1 : N = N' := Nat.eq_of_beq_eq_true h1
  have e2 : nx = nx' := Nat.eq_of_beq_eq_true h2
  have e3 : T = T' := trEq_eq h7
  have e4 : H = H' := trOEq_eq h8
  simp only [Option.isNone_iff_eq_none] at h3 h4
  simp only [List.isEmpty_iff] at h5 h6
  subst e1; subst e2; subst e3; subst e4; subst h3; subst h4; subst h5; subst h6
  rfl
/-- It ends as it should, in a state that is told; by an exit. -/
noncomputable def nrmB (x : Option XR2) (t : St) : Bool := Option.rec (motive := fun _ => Bool) false (fun r => XR2.rec (motive := fun _ => Bool) (fun x s => match x with
  | .nrm => stEq s t
  | _ => false) r) x
noncomputable def exitB (x : Option XR2) (id : Nat) (t : St) : Bool := Option.rec (motive := fun _ => Bool) false (fun r => XR2.rec (motive := fun _ => Bool) (fun x s => match x with
  | .exit j => cond (Nat.beq j id) (stEq s t) false
  | _ => false) r) x
noncomputable def iterB (x : Option St) (t : St) : Bool := Option.rec (motive := fun _ => Bool) false (fun s => stEq s t) x
theorem nrmB_eq {x : Option XR2} {t : St} (h : nrmB x t = true) : x = some (.mk .nrm t) := by
  cases x with
  | none => cases h
  | some r =>
    obtain ⟨x, s⟩ := r
    cases x with
    | nrm => rw [stEq_eq (show stEq s t = true from h)]
    | _ => cases h
theorem exitB_eq {x : Option XR2} {id : Nat} {t : St} (h : exitB x id t = true) : x = some (.mk (.exit id) t) := by
  cases x with
  | none => cases h
  | some r =>
    obtain ⟨x, s⟩ := r
    cases x with
    | exit j =>
      obtain ⟨h1, h2⟩ := cond_and (show cond (Nat.beq j id) (stEq s t) false = true from h)
      rw [stEq_eq h2, Nat.eq_of_beq_eq_true h1]
    | _ => cases h
theorem iterB_eq {x : Option St} {t : St} (h : iterB x t = true) : x = some t := by
  cases x with
  | none => cases h
  | some s => rw [stEq_eq (show stEq s t = true from h)]

/-- Behind a function's code. -/
noncomputable def endF (P : Program) (E : Evs) (fn : Func) (x : Option XR2) : Option CR := ob x fun r =>
  XR2.rec (motive := fun _ => Option CR) (fun x s => ob (match x with
    | .nrm => some MD.ret
    | .ret => some MD.ret
    | .pan v => some (MD.pan v)
    | _ => none) fun m => ob (evLeave P E s.D m s.H s.nx) fun r => LV.rec (motive := fun _ => Option CR) (fun m H' nx' => match m with
      | .ret => ob (evResults P H' s.T fn.results.toList) fun v => some (.mk v H' nx')
      | .pan v => some (.pan v H' nx')
      | .rcd _ => none) r) r
theorem says_func {P : Program} {E : Evs} {f : FuncId} {args : List AV} {H : Tr AObj} {nx : Nat} {b : Bool} {fn : Func} {c : Code} (hf : P.funcs[f]? = some fn) (hn : (fn.name == "runtime.NumGoroutine") = false) (hb : fn.body = some c)
    {x : Option XR2} (hx : E.code c ⟨args.length + (fn.ntmps - args.length), setArgs args .leaf 0, H, nx, none, []⟩ = x) (h : says (endF P E fn x) b = true) : says (evFunc P E f args H nx) b = true := by
  have e : evFunc P E f args H nx = endF P E fn x := by
    unfold evFunc
    rw [hf]
    show gd (!(fn.name == "runtime.NumGoroutine")) _ = _
    rw [hn]
    show (ob fn.body fun c => _) = _
    rw [hb]
    simp only [ob, fN_eq, hx]
    rfl
  rw [e]; exact h
theorem says_call {P : Program} {pt : Pures} {tab : List Cut} {R m : Nat} {f : FuncId} {args : List AV} {H : Tr AObj} {nx : Nat} {b : Bool} (h1 : findP pt f args = none) (h2 : findC tab f args H nx = none)
    (h : says (evFunc P (evsX P pt tab R m) f args H nx) b = true) : says ((evsX P pt tab R (m + 1)).call (.fn f args) H nx) b = true := by
  have e : (evsX P pt tab R (m + 1)).call (.fn f args) H nx = evFunc P (evsX P pt tab R m) f args H nx := by
    show Option.rec (motive := fun _ => Option CR) (Option.rec (motive := fun _ => Option CR) (callF P (evsX P pt tab R m) (.fn f args) H nx) (fun c => some (.mk c.v (trH c.hout (flt H c.nx0)) c.nx1)) (findC tab f args H nx))
      (fun v => some (.mk v H nx)) (findP pt f args) = _
    rw [h1, h2]; rfl
  rw [e]; exact h
end Go.Ev
