/- The evaluator, part J: operations, regions, code, calls: the definitions. -/
import Derived.Test.YtdpohandjgnknaaGreatDoorEvI
import Derived.LoopN
namespace Go.Ev

inductive ADef where
  | mark (id : Nat)
  | call (g : FuncId) (args : List AV)

structure St where
  N : Nat
  T : Tr AV
  H : Tr AObj
  nx : Nat
  ro : Option Nat
  D : List ADef

inductive AX where
  | nrm
  | exit (id : Nat)
  | goto (l : Nat)
  | ret
  | pan (v : AV)

/-- A value, the heap behind it, the next number; or a panic; or a call that is deferred. -/
inductive CR where
  | mk (v : AV) (H : Tr AObj) (nx : Nat)
  | pan (v : AV) (H : Tr AObj) (nx : Nat)
  | dfr (g : FuncId) (args : List AV) (H : Tr AObj) (nx : Nat)

/-- How a frame that leaves goes on: it returns, or panics, or has been recovered. -/
inductive MD where
  | ret
  | pan (v : AV)
  | rcd (v : AV)

/-- What is called: a function, a loop's round. -/
inductive Tgt where
  | fn (f : FuncId) (args : List AV)
  | yld (id : Nat) (args : List AV)

/-- What a call comes to. -/
abbrev CallF := Tgt → Tr AObj → Nat → Option CR

/-- A function value and its arguments. -/
noncomputable def evTarget (f : AV) (args : List AV) : Option Tgt :=
  match f with
  | .fn (.func g) first cap => some (.fn g (first ++ (args ++ cap)))
  | .yld id => some (.yld id args)
  | _ => none

noncomputable def evCopy (P : Program) (H : Tr AObj) (ts : List TypeId) (xs : List AV) : Option (AV × Tr AObj) :=
  match ts, xs with
  | t :: _, [d, s] => ob (P.underlying t) fun td => match td with
    | .slice el => ob (P.info? el) fun i => ob (evSrc H i.size s) fun p => match d with
      | .sl id off n _ => gd (Nat.ble p.1 n) (ob (evWrite H id off p.2) fun H' => fN p.1 fun m => some (.int .i64 (.ofNat m), H'))
      | .slo id off n _ => gd (Nat.ble p.1 n) (ob (evWrite H id off p.2) fun H' => fN p.1 fun m => some (.int .i64 (.ofNat m), H'))
      | .sl0 => gd (Nat.beq p.1 0) (some (.int .i64 (.ofNat 0), H))
      | _ => none
    | _ => none
  | _, _ => none

/-- The entries that a range has not met. -/
noncomputable def leftE (seen : List Nat) (es : List AEnt) : List AEnt :=
  List.rec (motive := fun _ => List AEnt) [] (fun e _ ih => cond (seen.contains e.born) ih (e :: ih)) es

noncomputable def allE (f : AEnt → Bool) (l : List AEnt) : Bool := List.rec (motive := fun _ => Bool) true (fun a _ ih => cond (f a) ih false) l

/-- A step of a range. -/
noncomputable def evNext (H : Tr AObj) (a : AV) (isS : Bool) : Option (AV × Tr AObj) :=
  match a with
  | .ptr id 0 => ob (H.get id) fun o => match o, isS with
    | .siter l n pos, true => cond (Nat.blt pos l) (fN (n / 256 ^ pos % 256) fun c => gd (Nat.blt c 128) (fN (pos + 1) fun p => some (.tup [.bool true, .int .i64 (.ofNat pos), .int .i32 (.ofNat c)], H.set id (.siter l n p))))
        (some (.tup [.bool false], H))
    | .miter0, false => some (.tup [.bool false], H)
    | .miter mid since seen last, false => ob (H.get mid) fun m => match m with
      | .map es clock => gd (cond seen.isEmpty true (cond es.isEmpty true (!allE (fun e => Nat.ble last e.born) es))) (match leftE seen es with
        | [] => some (.tup [.bool false], H)
        | [e] => gd (Nat.blt e.born since) (some (.tup [.bool true, e.key, e.val], H.set id (.miter mid since (seen ++ [e.born]) clock)))
        | _ => none)
      | _ => none
    | _, _ => none
  | _ => none

/-- What passes through a channel. -/
noncomputable def evComm (P : Program) (X : Operand → Option AV) (H : Tr AObj) (op : Op) : Option (AV × Tr AObj) :=
  match op with
  | .send ch x => ob (X ch) fun c => ob (X x) fun v => match c with
    | .chan id => ob (H.get id) fun o => match o with
      | .chan cap buf => gd (Nat.blt buf.length cap) (some (.tup [], H.set id (.chan cap (buf ++ [v]))))
      | _ => none
    | _ => none
  | .recv t ch false => ob (X ch) fun c => ob (P.underlying t) fun d => match d, c with
    | .chan _ el, .chan id => ob (zeroAV P el) fun _ => ob (H.get id) fun o => match o with
      | .chan cap (v :: buf) => some (v, H.set id (.chan cap buf))
      | _ => none
    | _, _ => none
  | .select cases false => match cases.toList with
    | [s] => match s.send with
      | none => ob (X s.chan) fun c => ob (zeroAV P s.elem) fun z => match c with
        | .chan id => ob (H.get id) fun o => match o with
          | .chan _ [] => some (.tup [.int .i64 (-1), .bool false, z], H)
          | .chan cap (v :: buf) => some (.tup [.int .i64 0, .bool true, v], H.set id (.chan cap buf))
          | _ => none
        | _ => none
      | _ => none
    | _ => none
  | _ => none

/-- A map's copy: an entry of the library's. -/
noncomputable def evClone (P : Program) (H : Tr AObj) (ni nx : Nat) (t : Tgt) : Option CR :=
  match t with
  | .fn g [.iface ty (.map id)] => ob (P.funcs[g]?) fun fn => gd fn.body.isNone (gd (fn.origin == "") (gd (fn.name == "maps.clone") (ob (H.get id) fun o => match o with
    | .map es clock => some (.mk (.iface ty (.map ni)) (H.set ni (.map es clock)) nx)
    | _ => none)))
  | _ => none

noncomputable def evHeavy (P : Program) (call : CallF) (X : Operand → Option AV) (H : Tr AObj) (ni nx : Nat) (op : Op) : Option CR :=
  match op with
  | .store t x v => ob (X x) fun a => ob (X v) fun b => ob (evStore P H t a b) fun H' => some (.mk (.tup []) H' nx)
  | .mapUpdate t m k v => ob (X m) fun a => ob (X k) fun b => ob (X v) fun c => ob (evMapSet P H t a b c) fun H' => some (.mk (.tup []) H' nx)
  | .insert t m k v => ob (X m) fun a => ob (X k) fun b => ob (X v) fun c => ob (evMapSet P H t a b c) fun H' => some (.mk (.tup []) H' nx)
  | .call c => match c.callee with
    | .builtin .append => ob (xsL X c.args.toList) fun xs => ob (evAppend P H ni c.argTypes.toList xs) fun r => some (.mk r.1 r.2 nx)
    | .value f => ob (X f) fun f => ob (xsL X c.args.toList) fun xs => ob (evTarget f xs) fun r => Option.rec (motive := fun _ => Option CR) (evClone P H ni nx r) (fun c => some c) (call r H nx)
    | .builtin .copy => ob (xsL X c.args.toList) fun xs => ob (evCopy P H c.argTypes.toList xs) fun r => some (.mk r.1 r.2 nx)
    | .builtin .panic => ob (xsL X c.args.toList) fun xs => match xs with
      | .iface t v :: _ => some (.pan (.iface t v) H nx)
      | _ => none
    | _ => none
  | .next x isS => ob (X x) fun a => ob (evNext H a isS) fun r => some (.mk r.1 r.2 nx)
  | .range t x => ob (X x) fun a => ob (P.underlying t) fun d => match d, a with
    | .map _ _, .map id => ob (H.get id) fun o => match o with
      | .map _ clock => some (.mk (.ptr ni 0) (H.set ni (.miter id clock [] clock)) nx)
      | _ => none
    | _, _ => none
  | .convert s d x => ob (X x) fun a => match a with
    | .sl id off len cap => gd (Nat.beq s d) (ob (P.underlying d) fun dd => match dd with
      | .slice e => ob (P.underlying e) fun de => match de with
        | .int .u8 => ob (H.get id) fun o => match o with
          | .cells _ _ _ _ _ => some (.mk (.sl id off len cap) H nx)
          | _ => none
        | _ => none
      | _ => none)
    | _ => none
  | .panic x => ob (X x) fun a => match a with
    | .iface t v => some (.pan (.iface t v) H nx)
    | _ => none
  | .defer c => match c.callee with
    | .value f => ob (X f) fun f => ob (xsL X c.args.toList) fun xs => ob (evTarget f xs) fun r => match r with
      | .fn g args => some (.dfr g args H nx)
      | _ => none
    | _ => none
  | _ => none

noncomputable def evOp (P : Program) (call : CallF) (X : Operand → Option AV) (H : Tr AObj) (ni nx nx' : Nat) (op : Op) : Option CR :=
  Option.rec (motive := fun _ => Option CR)
    (Option.rec (motive := fun _ => Option CR) (evHeavy P call X H ni nx' op) (fun p => some (.mk p.1 (H.set ni p.2) nx')) (evNew P X ni op))
    (fun v => some (.mk v H nx)) (evPure2 P H X op)

noncomputable def evWanted (ops : Array Oper) (T : Tr AV) (o : Oper) : Option Bool :=
  match o.guard with
  | none => some true
  | some (j, want) => ob (ops[j]?) fun oj => ob oj.dst fun d => ob (T.get d) fun v => match v with
    | .bool b => some (cond b want (!want))
    | _ => some false

noncomputable def evPut (N : Nat) (T : Tr AV) (dst : Option Tmp) (v : AV) : Option (Tr AV) :=
  match dst with
  | none => some T
  | some d => gd (Nat.blt d N) (some (T.set d v))

inductive XR2 where
  | mk (x : AX) (s : St)

/-- Behind an operation. -/
noncomputable def evBehind (o : Oper) (s : St) (ih : St → Option XR2) (r : CR) : Option XR2 :=
  CR.rec (motive := fun _ => Option XR2) (fun v H nx => ob (evPut s.N s.T o.dst v) fun T => ih ⟨s.N, T, H, nx, s.ro, s.D⟩)
    (fun v H nx => some (.mk (.pan v) ⟨s.N, s.T, H, nx, s.ro, s.D⟩))
    (fun g args H nx => gd s.ro.isNone (ob (evPut s.N s.T o.dst (.tup [])) fun T => ih ⟨s.N, T, H, nx, s.ro, .call g args :: s.D⟩)) r

noncomputable def evSeq (P : Program) (call : CallF) (ops : Array Oper) (l : List Oper) : St → Option XR2 :=
  List.rec (motive := fun _ => St → Option XR2) (fun s => some (.mk .nrm s))
    (fun o _ ih s => ob (evWanted ops s.T o) fun wd => cond wd
      (fN (s.nx + 1) fun nx' => Option.rec (motive := fun _ => Option XR2) (ob (evComm P (opd s.T) s.H o.op) fun p => ob (evPut s.N s.T o.dst p.1) fun T => ih ⟨s.N, T, p.2, nx', s.ro, s.D⟩)
        (evBehind o s ih) (evOp P call (opd s.T) s.H s.nx s.nx nx' o.op))
      (ob (evPut s.N s.T o.dst (.tup [])) fun T => ih ⟨s.N, T, s.H, s.nx, s.ro, s.D⟩)) l

/-- On behind a normal end. -/
noncomputable def onNrm (x : AX) (s : St) (k : St → Option XR2) : Option XR2 :=
  match x with
  | .nrm => k s
  | .exit id => some (.mk (.exit id) s)
  | .goto l => some (.mk (.goto l) s)
  | .ret => some (.mk .ret s)
  | .pan v => some (.mk (.pan v) s)

noncomputable def onExit (id : Nat) (x : AX) (s : St) : Option XR2 :=
  match x with
  | .exit id' => cond (Nat.beq id' id) (some (.mk .nrm s)) (some (.mk (.exit id') s))
  | .nrm => some (.mk .nrm s)
  | .goto l => some (.mk (.goto l) s)
  | .ret => some (.mk .ret s)
  | .pan v => some (.mk (.pan v) s)

noncomputable def evRounds (code : St → Option XR2) (n : Nat) : St → Option XR2 :=
  Nat.rec (motive := fun _ => St → Option XR2) (fun _ => none)
    (fun _ ih s => ob (code s) fun r => XR2.rec (motive := fun _ => Option XR2) (fun x s' => onNrm x s' ih) r) n

/-- What the code of a deferred call comes to. -/
inductive XD where
  | mk (x : AX) (s : St) (m : MD)

structure Evs where
  code : Code → St → Option XR2
  call : CallF
  dcode : Code → St → MD → Option XD

noncomputable def evCond (T : Tr AV) (c : Operand) : Option Bool :=
  ob (opd T c) fun v => match v with
    | .bool b => some b
    | _ => none

/-! ### a region that draws its order -/
/-- Which operations read memory. -/
def readsH : Op → Bool
  | .load _ _ => true
  | .lookup _ _ _ _ => true
  | .convert _ _ _ => true
  | .call _ => true
  | .entry _ => true
  | _ => false
mutual
def avEq : AV → AV → Bool
  | .bool a, .bool b => cond a b (!b)
  | .int k a, .int k' b => cond (ikEq k k') (ieq a b) false
  | .str l n, .str l' n' => cond (Nat.beq l l') (Nat.beq n n') false
  | .ptr0, .ptr0 => true
  | .ptr i o, .ptr j p => cond (Nat.beq i j) (Nat.beq o p) false
  | .sl0, .sl0 => true
  | .sl i o n c, .sl j p m d => cond (Nat.beq i j) (cond (Nat.beq o p) (cond (Nat.beq n m) (Nat.beq c d) false) false) false
  | .slo i o n c, .slo j p m d => cond (Nat.beq i j) (cond (Nat.beq o p) (cond (Nat.beq n m) (Nat.beq c d) false) false) false
  | .sle i, .sle j => Nat.beq i j
  | .map0, .map0 => true
  | .map i, .map j => Nat.beq i j
  | .fn0, .fn0 => true
  | .yld i, .yld j => Nat.beq i j
  | .fn (.func f) a c, .fn (.func g) b d => cond (Nat.beq f g) (cond (avEqL a b) (avEqL c d) false) false
  | .iface t v, .iface u x => cond (Nat.beq t u) (avEq v x) false
  | .iface0, .iface0 => true
  | .agg l, .agg m => avEqL l m
  | .tup l, .tup m => avEqL l m
  | _, _ => false
def avEqL : List AV → List AV → Bool
  | [], [] => true
  | a :: l, b :: m => cond (avEq a b) (avEqL l m) false
  | _, _ => false
end

inductive DK where
  | off
  | pure
  | new (o : AObj)
  | heavy
  | dead
  | pan (v : AV) (H : Tr AObj) (nx : Nat)

/-- Where a region panics. -/
structure PN where
  p : Nat
  A : Nat
  v : AV
  H : Tr AObj
  nx : Nat


structure DRec where
  i : Nat
  o : Oper
  A : Nat
  T : Tr AV
  k : DK
  v : AV
  H : Tr AObj
  cc : Nat

structure DS where
  reads : List DRec
  news : List DRec
  hvs : List DRec
  T : Tr AV
  H : Tr AObj
  nx : Nat
  cc : Nat
  pn : Option PN

def tb (m i : Nat) : Bool := Nat.beq (Nat.land (Nat.shiftRight m i) 1) 1

/-- Who comes before, as bits. -/
noncomputable def maskOf (AT : Tr Nat) (p : Nat) (l : List Edge) : Nat → Option Nat :=
  List.rec (motive := fun _ => Nat → Option Nat) (fun m => some m)
    (fun e _ ih m => cond (Region.binds .any e)
      (gd (Nat.blt e.on p) (ob (AT.get e.on) fun b => fN (Nat.lor (Nat.lor m (2 ^ e.on)) b) ih)) (ih m)) l

noncomputable def mkMasks (l : List Oper) : Nat → Tr Nat → Option (Tr Nat) :=
  List.rec (motive := fun _ => Nat → Tr Nat → Option (Tr Nat)) (fun _ AT => some AT)
    (fun o _ ih p AT => ob (maskOf AT p o.after.toList 0) fun A => fN (p + 1) fun q => ih q (AT.set p A)) l

noncomputable def mkProd (l : List Oper) : Nat → Tr Nat → Option (Tr Nat) :=
  List.rec (motive := fun _ => Nat → Tr Nat → Option (Tr Nat)) (fun _ D => some D)
    (fun o _ ih p D => fN (p + 1) fun q => match o.dst with
      | none => ih q D
      | some d => gd (D.get d).isNone (ih q (D.set d p))) l

/-- The operands, of the operations that are covered. -/
def opsL : Op → Option (List Operand)
  | .alloc _ => some []
  | .move x | .assign x | .box _ x | .load _ x | .nilCheck x | .unOp _ _ x | .convert _ _ x | .makeInterface _ x | .fieldAddr _ x _ | .field _ x _ | .extract x _ | .typeAssert x _ _ _ | .makeChan _ x | .range _ x | .next x _ | .entry x => some [x]
  | .pick c a b => some [c, a, b]
  | .build _ ps | .buildSlice _ _ ps => some (ps.toList.map (·.2))
  | .store _ a v | .binOp _ _ a v _ | .makeSlice _ a v | .indexAddr _ a v | .index _ a v | .lookup _ a v _ => some [a, v]
  | .makeFunc _ first captured => some (first.toList ++ captured.toList)
  | .makeMap _ r => some r.toList
  | .slice _ x l h m => some (x :: (l.toList ++ (h.toList ++ m.toList)))
  | .mapUpdate _ m k v | .insert _ m k v => some [m, k, v]
  | .call c => match c.callee with
    | .value f => some (f :: c.args.toList)
    | .builtin _ => some c.args.toList
    | .invoke _ _ => none
  | _ => none

noncomputable def lookOp (D : Tr Nat) (AT : Tr Nat) (i A : Nat) (d : Nat) : Bool :=
  Option.rec (motive := fun _ => Bool) true (fun k => cond (Nat.beq k i) true (cond (tb A k) true (Option.rec (motive := fun _ => Bool) false (fun B => tb B i) (AT.get k)))) (D.get d)

noncomputable def allL {α : Type} (f : α → Bool) (l : List α) : Bool := List.rec (motive := fun _ => Bool) true (fun a _ ih => cond (f a) ih false) l

noncomputable def lookOne (ops : Array Oper) (D AT : Tr Nat) (i : Nat) (o : Oper) : Bool :=
  Option.rec (motive := fun _ => Bool) false (fun A => Option.rec (motive := fun _ => Bool) false (fun l =>
    cond (allL (fun x => match x with
      | .tmp d => lookOp D AT i A d
      | _ => true) l) (match o.guard with
        | none => true
        | some (j, _) => Option.rec (motive := fun _ => Bool) true (fun oj => match oj.dst with
          | none => true
          | some d => lookOp D AT i A d) ops[j]?) false) (opsL o.op)) (AT.get i)

noncomputable def lookAll (ops : Array Oper) (D AT : Tr Nat) (l : List Oper) : Nat → Bool :=
  List.rec (motive := fun _ => Nat → Bool) (fun _ => true) (fun o _ ih i => cond (lookOne ops D AT i o) (fN (i + 1) ih) false) l

noncomputable def dstat (ops : Array Oper) : Option (Tr Nat) :=
  ob (mkMasks ops.toList 0 .leaf) fun AT => ob (mkProd ops.toList 0 .leaf) fun D => gd (lookAll ops D AT ops.toList 0) (some AT)

/-- No spine operation ahead of c comes behind j. -/
noncomputable def lateB (hvs : List DRec) (c j : Nat) : Bool := allL (fun h => cond (Nat.blt h.i c) (!tb h.A j) true) hvs

noncomputable def viewF (news hvs : List DRec) (A c r0 : Nat) (H : Tr AObj) : Tr AObj :=
  List.rec (motive := fun _ => Tr AObj) H (fun r _ ih => match r.k with
    | .new o => cond (tb A r.i) (cond (lateB hvs c r.i) (fN (r0 + r.i) fun x => ih.set x o) ih) ih
    | _ => ih) news

noncomputable def viewAll (news hvs : List DRec) (n r0 : Nat) (H : Tr AObj) : Tr AObj :=
  List.rec (motive := fun _ => Tr AObj) H (fun r _ ih => match r.k with
    | .new o => cond (lateB hvs n r.i) (fN (r0 + r.i) fun x => ih.set x o) ih
    | _ => ih) news

noncomputable def dput (N p : Nat) (o : Oper) (A : Nat) (σ : DS) (k : DK) (v : AV) (H : Tr AObj) (nx cc : Nat) : Option DS :=
  ob (evPut N σ.T o.dst v) fun T => some (match k with
    | .off => ⟨σ.reads, σ.news, σ.hvs, T, H, nx, cc, σ.pn⟩
    | .pure => cond (readsH o.op) ⟨⟨p, o, A, σ.T, .pure, v, H, cc⟩ :: σ.reads, σ.news, σ.hvs, T, H, nx, cc, σ.pn⟩ ⟨σ.reads, σ.news, σ.hvs, T, H, nx, cc, σ.pn⟩
    | .new b => ⟨σ.reads, ⟨p, o, A, σ.T, .new b, v, H, cc⟩ :: σ.news, σ.hvs, T, H, nx, cc, σ.pn⟩
    | .heavy => ⟨σ.reads, σ.news, ⟨p, o, A, σ.T, .heavy, v, H, cc⟩ :: σ.hvs, T, H, nx, cc, σ.pn⟩
    | .dead => ⟨σ.reads, σ.news, σ.hvs, T, H, nx, cc, σ.pn⟩
    | .pan v' H' nx' => ⟨σ.reads, σ.news, σ.hvs, T, H, nx, cc, some ⟨p, A, v', H', nx'⟩⟩)

/-- Behind the region's panic. -/
noncomputable def isDead (pn : Option PN) (A : Nat) : Bool := Option.rec (motive := fun _ => Bool) false (fun q => tb A q.p) pn

noncomputable def dstep (P : Program) (call : CallF) (ops : Array Oper) (N r0 : Nat) (AT : Tr Nat) (p : Nat) (o : Oper) (σ : DS) : Option DS :=
  ob (AT.get p) fun A => cond (isDead σ.pn A) (dput N p o A σ .dead (.tup []) σ.H σ.nx σ.cc) <| ob (evWanted ops σ.T o) fun wd => cond wd
    (Option.rec (motive := fun _ => Option DS)
      (fN (r0 + p) fun ni => Option.rec (motive := fun _ => Option DS)
        (gd (allL (fun h => tb A h.i) σ.hvs) (gd σ.pn.isNone <| ob (evHeavy P call (opd σ.T) (viewF σ.news σ.hvs A p r0 σ.H) ni σ.nx o.op) fun r =>
          CR.rec (motive := fun _ => Option DS) (fun v H nx => fN (p + 1) fun cc => dput N p o A σ .heavy v H nx cc) (fun v H nx => dput N p o A σ (.pan v H nx) (.tup []) σ.H σ.nx σ.cc) (fun _ _ _ _ => none) r))
        (fun q => dput N p o A σ (.new q.2) q.1 σ.H σ.nx σ.cc) (evNew P (opd σ.T) ni o.op))
      (fun v => dput N p o A σ .pure v σ.H σ.nx σ.cc) (evPure2 P (viewF σ.news σ.hvs A p r0 σ.H) (opd σ.T) o.op))
    (dput N p o A σ .off (.tup []) σ.H σ.nx σ.cc)

noncomputable def drun (P : Program) (call : CallF) (ops : Array Oper) (N r0 : Nat) (AT : Tr Nat) (l : List Oper) : Nat → DS → Option DS :=
  List.rec (motive := fun _ => Nat → DS → Option DS) (fun _ σ => some σ)
    (fun o _ ih p σ => ob (dstep P call ops N r0 AT p o σ) fun σ' => fN (p + 1) fun q => ih q σ') l

/-- A reading operation, at another place of the spine. -/
noncomputable def readOK (P : Program) (σ : DS) (r0 : Nat) (r : DRec) (c : Nat) (H : Tr AObj) : Bool :=
  cond (Nat.beq c r.cc) true (cond (lateB σ.hvs c r.i) (cond (allL (fun h => cond (tb r.A h.i) (Nat.blt h.i c) true) σ.hvs)
    (Option.rec (motive := fun _ => Bool) false (fun v => avEq v r.v) (evPure2 P (viewF σ.news σ.hvs r.A c r0 H) (opd r.T) r.o.op)) true) true)

noncomputable def newOK (σ : DS) (r0 : Nat) (r : DRec) (c : Nat) (H : Tr AObj) : Bool :=
  cond (lateB σ.hvs c r.i) (fN (r0 + r.i) fun x => (H.get x).isNone) true

noncomputable def candOK (P : Program) (σ : DS) (r0 : Nat) (c : Nat) (H : Tr AObj) : Bool :=
  cond (allL (fun r => readOK P σ r0 r c H) σ.reads) (allL (fun r => newOK σ r0 r c H) σ.news) false

noncomputable def dchk (P : Program) (σ : DS) (r0 : Nat) (H0 : Tr AObj) : Bool :=
  cond (candOK P σ r0 0 H0) (allL (fun h => candOK P σ r0 h.cc h.H) σ.hvs) false

/-- The slots that are known where a region panics. -/
noncomputable def cutT (A : Nat) (l : List Oper) : Nat → Tr AV → Tr AV :=
  List.rec (motive := fun _ => Nat → Tr AV → Tr AV) (fun _ T => T)
    (fun o _ ih k T => fN (k + 1) fun k' => match o.dst with
      | none => ih k' T
      | some d => cond (tb A k) (ih k' T) (ih k' (T.del d))) l

noncomputable def evDraw (P : Program) (call : CallF) (ops : Array Oper) (s : St) : Option XR2 :=
  ob (dstat ops) fun AT => fN ops.size fun n => fN (s.nx + n) fun nx0 => ob (drun P call ops s.N s.nx AT ops.toList 0 ⟨[], [], [], s.T, s.H, nx0, 0, none⟩) fun σ =>
    gd (dchk P σ s.nx s.H) (Option.rec (motive := fun _ => Option XR2) (some (.mk .nrm ⟨s.N, σ.T, viewAll σ.news σ.hvs n s.nx σ.H, σ.nx, s.ro, s.D⟩))
      (fun q => some (.mk (.pan q.v) ⟨s.N, cutT q.A ops.toList 0 σ.T, q.H, q.nx, s.ro, s.D⟩)) σ.pn)

/-! ### ranges over functions -/
/-- A loop's record turned. -/
noncomputable def loopSet (H : Tr AObj) (id : Nat) (f : LoopState → Option Code → Option (LoopState × Option Code)) : Option (Tr AObj) :=
  ob (H.get id) fun o => match o with
    | .loop st pend T N ps asg body d => ob (f st pend) fun p => some (H.set id (.loop p.1 p.2 T N ps asg body d))
    | _ => none

noncomputable def jumpX (c : Option Code) : Option AX :=
  match c with
  | none => some .nrm
  | some .ret => some .ret
  | some (.exit id) => some (.exit id)
  | some (.goto l) => some (.goto l)
  | _ => none

def AX.jump : AX → Option Code
  | .nrm => none
  | .exit id => some (.exit id)
  | .goto l => some (.goto l)
  | .ret => some .ret
  | .pan _ => none

/-- No panic. -/
def AX.calm : AX → Bool
  | .pan _ => false
  | _ => true

noncomputable def setPs (ps : List Tmp) (args : List AV) : Nat → Tr AV → Option (Tr AV) :=
  List.rec (motive := fun _ => List AV → Nat → Tr AV → Option (Tr AV)) (fun args _ T => match args with
      | [] => some T
      | _ => none)
    (fun p _ ih args N T => match args with
      | a :: args => gd (Nat.blt p N) (ih args N (T.set p a))
      | [] => none) ps args

noncomputable def evYield (E : Evs) (id : Nat) (args : List AV) (H : Tr AObj) (nx : Nat) : Option CR :=
  ob (H.get id) fun o => match o with
    | .loop _ _ T N ps asg body _ => ob (setPs ps.toList args N T) fun T' => ob (E.code asg ⟨N, T', H, nx, some id, []⟩) fun r =>
      XR2.rec (motive := fun _ => Option CR) (fun x s => match x with
        | .nrm => ob (loopSet s.H id fun st pend => match st with
            | .ready => some (.busy, pend)
            | _ => none) fun H1 => ob (E.code body ⟨s.N, s.T, H1, s.nx, s.ro, s.D⟩) fun r2 => XR2.rec (motive := fun _ => Option CR) (fun x2 s2 => gd x2.calm <|
              ob (loopSet s2.H id fun _ _ => some (cond x2.jump.isNone .ready .done, x2.jump)) fun H2 => some (.mk (.bool x2.jump.isNone) H2 s2.nx)) r2
        | _ => none) r
    | _ => none

noncomputable def loopDefers (H : Tr AObj) (id : Nat) : Option Nat :=
  ob (H.get id) fun o => match o with
    | .loop _ _ _ _ _ _ _ d => some d
    | _ => none

/-- Behind the record's making: the call, and what is left. -/
noncomputable def evRange2 (E : Evs) (f : AV) (l : Nat) (s : St) : Option XR2 :=
  ob (evTarget f [.yld l]) fun t => gd (match t with
    | .fn _ _ => true
    | .yld _ _ => false) <| ob (E.call t s.H s.nx) fun r => CR.rec (motive := fun _ => Option XR2) (fun _ H nx =>
    ob (H.get l) fun o => match o with
      | .loop st pend _ _ _ _ _ _ => ob (jumpX pend) fun x => ob (loopSet H l fun _ _ => match st with
          | .busy => none
          | _ => some (.exhausted, pend)) fun H' => some (.mk x ⟨s.N, s.T, H', nx, s.ro, s.D⟩)
      | _ => none) (fun _ _ _ => none) (fun _ _ _ _ => none) r

noncomputable def evRange (E : Evs) (f : Operand) (ps : Array Tmp) (asg body : Code) (s : St) : Option XR2 :=
  ob (opd s.T f) fun f => match s.ro with
    | none => fN (s.nx + 1) fun l => fN (l + 1) fun nx => evRange2 E f l
        ⟨s.N, s.T, (s.H.set s.nx (.dfr true)).set l (.loop .ready none s.T s.N ps asg body s.nx), nx, s.ro, .mark s.nx :: s.D⟩
    | some l0 => ob (loopDefers s.H l0) fun d => fN (s.nx + 1) fun nx => evRange2 E f s.nx
        ⟨s.N, s.T, s.H.set s.nx (.loop .ready none s.T s.N ps asg body d), nx, s.ro, s.D⟩

noncomputable def codeF (P : Program) (rounds : Nat) (E : Evs) (c : Code) (s : St) : Option XR2 :=
  match c with
  | .skip => some (.mk .nrm s)
  | .region _ ops false => evSeq P E.call ops ops.toList s
  | .region _ ops true => evDraw P E.call ops s
  | .seq a b => ob (E.code a s) fun r => XR2.rec (motive := fun _ => Option XR2) (fun x s' => onNrm x s' (E.code b)) r
  | .cond c a b => ob (evCond s.T c) fun t => cond t (E.code a s) (E.code b s)
  | .block id c => ob (E.code c s) fun r => XR2.rec (motive := fun _ => Option XR2) (fun x s' => onExit id x s') r
  | .loop c => evRounds (E.code c) rounds s
  | .rangeFunc f ps asg body => evRange E f ps asg body s
  | .exit id => some (.mk (.exit id) s)
  | .label _ => some (.mk .nrm s)
  | .goto l => some (.mk (.goto l) s)
  | .ret => some (.mk .ret s)
  | .scope c => ob (E.code c s) fun r => XR2.rec (motive := fun _ => Option XR2) (fun x s' => match x with
      | .goto _ => none
      | x => some (.mk x s')) r
  | _ => none

/-- The slots of a frame at its beginning. -/
noncomputable def setArgs (l : List AV) : Tr AV → Nat → Tr AV := writeL l

noncomputable def evRes (P : Program) (H : Tr AObj) (T : Tr AV) (r : ResultVar) : Option AV :=
  match r with
  | .tmp t => T.get t
  | .cell a t => ob (T.get a) fun p => evLoad P H t p

noncomputable def evResL (P : Program) (H : Tr AObj) (T : Tr AV) (l : List ResultVar) : Option (List AV) :=
  List.rec (motive := fun _ => Option (List AV)) (some []) (fun r _ ih => ob (evRes P H T r) fun a => ob ih fun l => some (a :: l)) l

noncomputable def evResults (P : Program) (H : Tr AObj) (T : Tr AV) (l : List ResultVar) : Option AV :=
  ob (evResL P H T l) fun vs => match vs with
    | [v] => some v
    | vs => some (.tup vs)

/-- The operation that recovers, by itself. -/
noncomputable def recOp (l : List Oper) : Option (Option Tmp) :=
  match l with
  | [o] => match o.guard with
    | none => match o.op with
      | .call c => match c.callee with
        | .builtin .recover => some o.dst
        | _ => none
      | _ => none
    | _ => none
  | _ => none

noncomputable def liftD (m : MD) (r : Option XR2) : Option XD :=
  ob r fun r => XR2.rec (motive := fun _ => Option XD) (fun x s => some (.mk x s m)) r

noncomputable def recM (s : St) (dst : Option Tmp) (m : MD) : Option XD :=
  match m with
  | .pan v => ob (evPut s.N s.T dst v) fun T => some (.mk .nrm ⟨s.N, T, s.H, s.nx, s.ro, s.D⟩ (.rcd v))
  | .ret => ob (evPut s.N s.T dst .iface0) fun T => some (.mk .nrm ⟨s.N, T, s.H, s.nx, s.ro, s.D⟩ .ret)
  | .rcd v => ob (evPut s.N s.T dst .iface0) fun T => some (.mk .nrm ⟨s.N, T, s.H, s.nx, s.ro, s.D⟩ (.rcd v))

noncomputable def dcodeF (P : Program) (rounds : Nat) (E : Evs) (c : Code) (s : St) (m : MD) : Option XD :=
  match c with
  | .seq a b => ob (E.dcode a s m) fun r => XD.rec (motive := fun _ => Option XD) (fun x s' m' => match x with
      | .nrm => E.dcode b s' m'
      | .exit id => some (.mk (.exit id) s' m')
      | .goto l => some (.mk (.goto l) s' m')
      | .ret => some (.mk .ret s' m')
      | .pan v => some (.mk (.pan v) s' m')) r
  | .cond c a b => ob (evCond s.T c) fun t => cond t (E.dcode a s m) (E.dcode b s m)
  | .block id c => ob (E.dcode c s m) fun r => XD.rec (motive := fun _ => Option XD) (fun x s' m' => match x with
      | .exit id' => cond (Nat.beq id' id) (some (.mk .nrm s' m')) (some (.mk (.exit id') s' m'))
      | .nrm => some (.mk .nrm s' m')
      | .goto l => some (.mk (.goto l) s' m')
      | .ret => some (.mk .ret s' m')
      | .pan v => some (.mk (.pan v) s' m')) r
  | .region id ops false => Option.rec (motive := fun _ => Option XD) (liftD m (codeF P rounds E (.region id ops false) s))
      (fun dst => recM s dst m) (recOp ops.toList)
  | c => liftD m (codeF P rounds E c s)

def MD.settle : MD → MD
  | .ret => .ret
  | .pan v => .pan v
  | .rcd _ => .ret

inductive LV where
  | mk (m : MD) (H : Tr AObj) (nx : Nat)

/-- A deferred call. -/
noncomputable def evDef (P : Program) (E : Evs) (g : FuncId) (args : List AV) (H : Tr AObj) (nx : Nat) (m : MD) : Option LV :=
  ob (P.funcs[g]?) fun fn => gd (!(fn.name == "runtime.NumGoroutine")) (ob fn.body fun c =>
    fN args.length fun n => fN (n + (fn.ntmps - n)) fun N => ob (E.dcode c ⟨N, setArgs args .leaf 0, H, nx, none, []⟩ m) fun r =>
      XD.rec (motive := fun _ => Option LV) (fun x s m' => cond (match x with
        | .nrm => true
        | .ret => true
        | _ => false) (gd s.D.isEmpty (ob (evResults P s.H s.T fn.results.toList) fun _ => some (.mk m'.settle s.H s.nx))) none) r)

/-- On the way out: the marks, the deferred calls. -/
noncomputable def evLeave (P : Program) (E : Evs) (l : List ADef) : MD → Tr AObj → Nat → Option LV :=
  List.rec (motive := fun _ => MD → Tr AObj → Nat → Option LV) (fun m H nx => some (.mk m H nx))
    (fun d _ ih m H nx => match d with
      | .mark id => ob (H.get id) fun o => match o with
        | .dfr true => ih m (H.set id (.dfr false)) nx
        | _ => none
      | .call g args => ob (evDef P E g args H nx m) fun r => LV.rec (motive := fun _ => Option LV) (fun m H nx => ih m H nx) r) l

noncomputable def evFunc (P : Program) (E : Evs) (f : FuncId) (args : List AV) (H : Tr AObj) (nx : Nat) : Option CR :=
  ob (P.funcs[f]?) fun fn => gd (!(fn.name == "runtime.NumGoroutine")) (ob fn.body fun c =>
    fN args.length fun n => fN (n + (fn.ntmps - n)) fun N => ob (E.code c ⟨N, setArgs args .leaf 0, H, nx, none, []⟩) fun r =>
      XR2.rec (motive := fun _ => Option CR) (fun x s => ob (match x with
        | .nrm => some MD.ret
        | .ret => some MD.ret
        | .pan v => some (MD.pan v)
        | _ => none) fun m => ob (evLeave P E s.D m s.H s.nx) fun r => LV.rec (motive := fun _ => Option CR) (fun m H' nx' => match m with
          | .ret => ob (evResults P H' s.T fn.results.toList) fun v => some (.mk v H' nx')
          | .pan v => some (.pan v H' nx')
          | .rcd _ => none) r) r)

noncomputable def callF (P : Program) (E : Evs) : CallF := fun t H nx =>
  match t with
  | .fn f args => evFunc P E f args H nx
  | .yld id args => evYield E id args H nx

noncomputable def evs (P : Program) (rounds n : Nat) : Evs :=
  Nat.rec (motive := fun _ => Evs) ⟨fun _ _ => none, fun _ _ _ => none, fun _ _ _ => none⟩ (fun _ E => ⟨codeF P rounds E, callF P E, dcodeF P rounds E⟩) n

end Go.Ev
