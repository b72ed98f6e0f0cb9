/- The symbolic layer, part I: contracts, and the evaluator that leaves a sentence: definitions. -/
import Derived.Test.YtblcpogddmjonaaDoorSxH
set_option linter.unusedVariables false
set_option linter.unusedSimpArgs false
namespace Go.Ev

/-- What a call comes to, of contents: a value, a panic; which, a test may say; something may be owed. -/
inductive Ct where
  | ret (v : AV)
  | pan (v : AV)
  | br (b : Bool) (t e : Ct)
  | need (p : Prop) (t : Ct)

/-- Contracts: of a function, the heap's tables, and contents. -/
abbrev Tbl := List (FuncId × (Tr AObj → List AV → Option Ct))
noncomputable def look (tb : Tbl) (g : FuncId) : Option (Tr AObj → List AV → Option Ct) :=
  List.rec (motive := fun _ => Option (Tr AObj → List AV → Option Ct)) none (fun p _ ih => cond (Nat.beq p.1 g) (some p.2) ih) tb

/-- A side condition; a test. -/
noncomputable def sdA (b : Bool) (K : Prop) : Prop := Bool.rec (motive := fun _ => Prop) False K b
noncomputable def brP (b : Bool) (K L : Prop) : Prop := Bool.rec (motive := fun _ => Prop) L K b
theorem sdA_iff {b : Bool} {K : Prop} : sdA b K ↔ b = true ∧ K := by cases b <;> simp [sdA]
theorem brP_iff {b : Bool} {K L : Prop} : brP b K L ↔ (b = true → K) ∧ (b = false → L) := by cases b <;> simp [brP]
theorem brP_of {b : Bool} {K L : Prop} (h1 : b = true → K) (h2 : b = false → L) : brP b K L := brP_iff.2 ⟨h1, h2⟩
theorem sdA_of {b : Bool} {K : Prop} (h1 : b = true) (h2 : K) : sdA b K := sdA_iff.2 ⟨h1, h2⟩

noncomputable def cCt (ct : Ct) (R Pn : AV → Prop) : Prop := Ct.rec (motive := fun _ => Prop) R Pn (fun b _ _ it ie => brP b it ie) (fun p _ it => p ∧ it) ct

open Classical in
noncomputable def ctOut (ct : Ct) : Option (Bool × AV) := Ct.rec (motive := fun _ => Option (Bool × AV)) (fun v => some (false, v)) (fun v => some (true, v)) (fun b _ _ it ie => cond b it ie) (fun p _ it => if p then it else none) ct
theorem cCt_out {R Pn : AV → Prop} : ∀ {ct : Ct}, cCt ct R Pn → ∃ p v, ctOut ct = some (p, v) ∧ (if p then Pn v else R v)
  | .ret v, h => ⟨false, v, rfl, h⟩
  | .pan v, h => ⟨true, v, rfl, h⟩
  | .br b t e, h => by
    have h' : brP b (cCt t R Pn) (cCt e R Pn) := h
    cases b with
    | true => exact cCt_out (ct := t) h'
    | false => exact cCt_out (ct := e) h'
  | .need p t, h => by
    have h' : p ∧ cCt t R Pn := h
    obtain ⟨q, v, h1, h2⟩ := cCt_out (ct := t) h'.2
    exact ⟨q, v, (if_pos h'.1).trans h1, h2⟩

def outCR (p : Bool) (v : AV) (H : Tr AObj) (nx : Nat) : CR := match p with
  | false => .mk v H nx
  | true => .pan v H nx

/-- The contracts as calls. -/
noncomputable def callT (tb : Tbl) : CallF := fun t H nx => match t with
  | .fn g args => ob (look tb g) fun ent => ob (ent H args) fun ct => ob (ctOut ct) fun o => some (outCR o.1 o.2 H (nx + 1))
  | .yld _ _ => none

/-- A loop's head, a place where ways meet: what is known there, as data are. -/
structure Stn where
  X : Type
  T : St → Nat → X → List (Nat × AV)
  H : St → Nat → X → List (Nat × AObj)
  nx : St → Nat → Nat
  I : St → X → Prop
  m : X → Nat

abbrev KX := AX → St → Prop
abbrev KC := CR → Prop

structure Ctx where
  P : Program
  tb : Tbl
  lp : FuncId → Nat → Option Stn
  cut : FuncId → Nat → Option Stn

structure CEv where
  code : Nat → FuncId → Code → St → KX → Prop
  call : FuncId → List AV → Tr AObj → Nat → KC → Prop

noncomputable def okP {α : Type} (x : Option α) (K : α → Prop) : Prop := Option.rec (motive := fun _ => Prop) False K x
theorem okP_some {α : Type} {x : Option α} {K : α → Prop} (h : okP x K) : ∃ a, x = some a ∧ K a := by
  cases x with
  | none => exact h.elim
  | some a => exact ⟨a, rfl, h⟩

def noCall : CallF := fun _ _ _ => none

/-- Is an operation wanted? Where a test is not known, both ways: in each it is. -/
noncomputable def cWant (ops : Array Oper) (T : Tr AV) (o : Oper) (K : Tr AV → Bool → Prop) : Prop :=
  match o.guard with
  | none => K T true
  | some (j, want) => okP (ops[j]?) fun oj => okP oj.dst fun d => okP (T.get d) fun v => match v with
    | .bool b => brP b (K (T.set d (.bool true)) want) (K (T.set d (.bool false)) (!want))
    | _ => K T false

noncomputable def cCallee (X : Operand → Option AV) (op : Op) (C : Tgt → Prop) : Prop :=
  match op with
  | .call c => match c.callee with
    | .value f => okP (X f) fun fv => okP (xsL X c.args.toList) fun xs => okP (evTarget fv xs) C
    | _ => False
  | _ => False

noncomputable def cOp (P : Program) (X : Operand → Option AV) (H : Tr AObj) (ni nx nx' : Nat) (op : Op) (K : KC) (C : Tgt → Prop) : Prop :=
  Option.rec (motive := fun _ => Prop) (Option.rec (motive := fun _ => Prop) (Option.rec (motive := fun _ => Prop) (Option.rec (motive := fun _ => Prop)
    (Option.rec (motive := fun _ => Prop) (Option.rec (motive := fun _ => Prop) (cCallee X op C) K (evHeavy3 P noCall X H ni nx' op))
      (fun r => sdA r.1 (K (.mk r.2.1 r.2.2 nx'))) (sHeavy P X H ni op))
    (fun p => K (.mk p.1 (H.set ni p.2) nx')) (evNew3 P X ni op))
    (fun r => sdA r.1 (K (.mk r.2.1 (H.set ni r.2.2) nx'))) (sNew P X ni op))
    (fun v => K (.mk v H nx)) (evPure3 P H X op))
    (fun r => sdA r.1 (K (.mk r.2 H nx))) (sPure P H X op)

noncomputable def cPut (N : Nat) (T : Tr AV) (dst : Option Tmp) (v : AV) (K : Tr AV → Prop) : Prop :=
  match dst with
  | none => K T
  | some d => sdA (Nat.blt d N) (K (T.set d v))

noncomputable def cBehind (o : Oper) (s : St) (K : KX) (ih : St → Prop) (r : CR) : Prop :=
  match r with
  | .mk v H nx => cPut s.N s.T o.dst v fun T => ih ⟨s.N, T, H, nx, s.ro, s.D⟩
  | .pan v H nx => K (.pan v) ⟨s.N, s.T, H, nx, s.ro, s.D⟩
  | .dfr g args H nx => match s.ro with
    | none => cPut s.N s.T o.dst (.tup []) fun T => ih ⟨s.N, T, H, nx, s.ro, .call g args :: s.D⟩
    | some _ => False

noncomputable def fzFind (fz : List FZ) (id : Nat) : Option FZ := List.rec (motive := fun _ => Option FZ) none (fun z _ ih => cond (Nat.beq z.id id) (some z) ih) fz
noncomputable def fzS (fz : List FZ) (a : AV) : Bool × AV :=
  match a with
  | .slg id n e => Option.rec (motive := fun _ => Bool × AV) (true, .slg id n e) (fun z => (cond (Nat.beq e z.esz) (Nat.beq n z.n) false, z.a)) (fzFind fz id)
  | a => (true, a)
noncomputable def fzO (fz : List FZ) (a : Option AV) : Bool × Option AV := Option.rec (motive := fun _ => Bool × Option AV) (true, none) (fun a => ((fzS fz a).1, some (fzS fz a).2)) a
noncomputable def fzTr (fz : List FZ) (T : Tr AV) : Bool × Tr AV :=
  Tr.rec (motive := fun _ => Bool × Tr AV) (true, .leaf) (fun v _ _ il ir => (cond (fzO fz v).1 (cond il.1 ir.1 false) false, .node (fzO fz v).2 il.2 ir.2)) T
noncomputable def fzT (fz : List FZ) (T : Tr AV) : Bool × Tr AV :=
  match fz with
  | [] => (true, T)
  | fz => fzTr fz T

/-- A call: by its contract, what it is given by content; else by its text. -/
noncomputable def cTgt (cx : Ctx) (E : CEv) (o : Oper) (s : St) (nx' : Nat) (K : KX) (ih : St → Prop) (t : Tgt) : Prop :=
  match t with
  | .yld _ _ => False
  | .fn g args => Option.rec (motive := fun _ => Prop) (E.call g args s.H nx' (cBehind o s K ih))
    (fun ent => okP (frzL cx.P s.H args) fun r => sdA r.1 (okP (ent s.H r.2.1) fun ct => (fun q : Bool × Tr AV => sdA q.1
      (cCt ct (fun v => cBehind o ⟨s.N, q.2, delL s.H r.2.2.2, nx', s.ro, s.D⟩ K ih (.mk v (delL s.H r.2.2.2) (nx' + 1)))
        (fun v => cBehind o ⟨s.N, q.2, delL s.H r.2.2.2, nx', s.ro, s.D⟩ K ih (.pan v (delL s.H r.2.2.2) (nx' + 1))))) (fzT r.2.2.1 s.T))) (look cx.tb g)

noncomputable def cSeq (cx : Ctx) (E : CEv) (ops : Array Oper) (K : KX) (l : List Oper) : St → Prop :=
  List.rec (motive := fun _ => St → Prop) (fun s => K .nrm s)
    (fun o _ ih s => cWant ops s.T o fun T wd => cond wd
      (fN (s.nx + 1) fun nx' => cOp cx.P (opd T) s.H s.nx s.nx nx' o.op (cBehind o ⟨s.N, T, s.H, s.nx, s.ro, s.D⟩ K ih) (cTgt cx E o ⟨s.N, T, s.H, s.nx, s.ro, s.D⟩ nx' K ih))
      (cPut s.N T o.dst (.tup []) fun T => ih ⟨s.N, T, s.H, s.nx, s.ro, s.D⟩)) l

noncomputable def cCond (T : Tr AV) (c : Operand) (A B : Tr AV → Prop) : Prop :=
  match c with
  | .tmp d => okP (T.get d) fun v => match v with
    | .bool b => brP b (A (T.set d (.bool true))) (B (T.set d (.bool false)))
    | _ => False
  | .const (.bool b) => brP b (A T) (B T)
  | _ => False

noncomputable def firstR (c : Code) : Option Nat := Code.rec (motive := fun _ => Option Nat) none (fun id _ _ => some id) (fun _ _ ia ib => Option.rec (motive := fun _ => Option Nat) ib some ia) (fun _ _ _ _ _ => none)
  (fun _ _ ic => ic) (fun _ ic => ic) (fun _ _ _ _ _ _ => none) (fun _ => none) (fun _ ic => ic) (fun _ => none) (fun _ => none) none (fun _ => none) c

noncomputable def stOf (S : Stn) (s : St) (n0 : Nat) (x : S.X) : St := ⟨s.N, mkT (S.T s n0 x), mkH (S.H s n0 x), S.nx s n0, none, []⟩

/-- What is kept of a state: these slots; all objects. -/
noncomputable def keepT (s : St) (l : List Nat) : List (Nat × AV) := List.rec (motive := fun _ => List (Nat × AV)) [] (fun t _ ih => Option.rec (motive := fun _ => List (Nat × AV)) ih (fun v => (t, v) :: ih) (s.T.get t)) l
noncomputable def keepH (s : St) (n0 : Nat) : List (Nat × AObj) := List.rec (motive := fun _ => List (Nat × AObj)) [] (fun t _ ih => Option.rec (motive := fun _ => List (Nat × AObj)) ih (fun v => (t, v) :: ih) (s.H.get t)) (List.range s.nx)
/-- A station where but few slots turn. -/
noncomputable def thin (X : Type) (ks : List Nat) (T : X → List (Nat × AV)) (I : St → X → Prop) (m : X → Nat) : Stn := ⟨X, fun s _ x => T x ++ keepT s ks, fun s n0 _ => keepH s n0, fun s _ => s.nx, I, m⟩

noncomputable def cLoop (E : CEv) (S : Stn) (n0 : Nat) (f : FuncId) (c : Code) (s : St) (K : KX) : Prop :=
  (∃ x0 : S.X, S.I s x0 ∧ stP n0 s.N (S.nx s n0) (S.T s n0 x0) (S.H s n0 x0) s) ∧
  ∀ x : S.X, S.I s x → E.code n0 f c (stOf S s n0 x) fun ax s' => match ax with
    | .nrm => ∃ x' : S.X, S.I s x' ∧ S.m x' < S.m x ∧ stP n0 s.N (S.nx s n0) (S.T s n0 x') (S.H s n0 x') s'
    | ax => K ax s'

noncomputable def cCut (E : CEv) (S : Stn) (n0 : Nat) (f : FuncId) (a b : Code) (s : St) (K : KX) : Prop :=
  (E.code n0 f a s fun ax s' => match ax with
    | .nrm => ∃ x : S.X, S.I s x ∧ stP n0 s.N (S.nx s n0) (S.T s n0 x) (S.H s n0 x) s'
    | ax => K ax s') ∧
  ∀ x : S.X, S.I s x → E.code n0 f b (stOf S s n0 x) K

noncomputable def cCodeF (cx : Ctx) (E : CEv) (D : Array Oper → St → KX → Prop) (n0 : Nat) (f : FuncId) (c : Code) (s : St) (K : KX) : Prop :=
  match c with
  | .skip => K .nrm s
  | .region _ ops false => cSeq cx E ops K ops.toList s
  | .region _ ops true => D ops s K
  | .seq a b => Option.rec (motive := fun _ => Prop) (E.code n0 f a s fun ax s' => match ax with
      | .nrm => E.code n0 f b s' K
      | ax => K ax s') (fun S => cCut E S n0 f a b s K) (Option.rec (motive := fun _ => Option Stn) none (fun r => cx.cut f r) (firstR b))
  | .cond c a b => cCond s.T c (fun T => E.code n0 f a ⟨s.N, T, s.H, s.nx, s.ro, s.D⟩ K) (fun T => E.code n0 f b ⟨s.N, T, s.H, s.nx, s.ro, s.D⟩ K)
  | .block id c => E.code n0 f c s fun ax s' => match ax with
      | .exit id' => cond (Nat.beq id' id) (K .nrm s') (K (.exit id') s')
      | ax => K ax s'
  | .loop c => Option.rec (motive := fun _ => Prop) (E.code n0 f c s fun ax s' => match ax with
      | .nrm => E.code n0 f (.loop c) s' K
      | ax => K ax s') (fun S => cLoop E S n0 f c s K) (Option.rec (motive := fun _ => Option Stn) none (fun r => cx.lp f r) (firstR c))
  | .exit id => K (.exit id) s
  | .label _ => K .nrm s
  | .goto l => K (.goto l) s
  | .ret => K .ret s
  | .scope c => E.code n0 f c s fun ax s' => match ax with
      | .goto _ => False
      | ax => K ax s'
  | _ => False

noncomputable def cOut (P : Program) (fn : Func) (K : KC) (ax : AX) (s : St) : Prop :=
  match s.D with
  | [] => match ax with
    | .nrm => okP (evResults P s.H s.T fn.results.toList) fun v => K (.mk v s.H s.nx)
    | .ret => okP (evResults P s.H s.T fn.results.toList) fun v => K (.mk v s.H s.nx)
    | .pan v => K (.pan v s.H s.nx)
    | _ => False
  | _ => False

noncomputable def cFunc (cx : Ctx) (E : CEv) (g : FuncId) (args : List AV) (H : Tr AObj) (nx : Nat) (K : KC) : Prop :=
  okP (cx.P.funcs[g]?) fun fn => sdA (!(fn.name == "runtime.NumGoroutine")) (okP fn.body fun c =>
    fN args.length fun n => fN (n + (fn.ntmps - n)) fun N => E.code nx g c ⟨N, setArgs args .leaf 0, H, nx, none, []⟩ (cOut cx.P fn K))

noncomputable def cEvs (cx : Ctx) (D : Array Oper → St → KX → Prop) (n : Nat) : CEv :=
  Nat.rec (motive := fun _ => CEv) ⟨fun _ _ _ _ _ => False, fun _ _ _ _ _ => False⟩ (fun _ E => ⟨cCodeF cx E D, cFunc cx E⟩) n
end Go.Ev
