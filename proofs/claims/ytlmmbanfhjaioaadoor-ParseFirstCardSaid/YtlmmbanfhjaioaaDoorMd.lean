/- Laid by program out of its parts: EvN, EvO, EvP. -/
import Derived.Test.YtlmmbanfhjaioaaDoorMc
set_option linter.unusedVariables false
set_option linter.unusedSimpArgs false
section
/- The evaluator, part N: what an operation's evaluation hangs on; equal values. -/
namespace Go.Ev
theorem YP {X X':Operand→Option AV}:∀ (l:List Operand),(∀ x∈l,X x=X' x)→xsL X l=xsL X' l
 | [],_=>rfl
 | x :: l,h=>by
  show (ob (X x) fun a=>ob (xsL X l) fun r=>some (a :: r))=ob (X' x) fun a=>ob (xsL X' l) fun r=>some (a :: r)
  rw [h x (by simp),YP l fun y hy=>h y (by simp [hy])]
theorem UQ {X X':Operand→Option AV}:∀ (l:List (Nat×Operand)),(∀ x∈l,X x.2=X' x.2)→partsL X l=partsL X' l
 | [],_=>rfl
 | x :: l,h=>by
  show (ob (X x.2) fun a=>ob (partsL X l) fun r=>some ((x.1,a) :: r))=ob (X' x.2) fun a=>ob (partsL X' l) fun r=>some ((x.1,a) :: r)
  rw [h x (by simp),UQ l fun y hy=>h y (by simp [hy])]
theorem KQ {X X':Operand→Option AV} {x:Option Operand} (h:∀ y,x=some y→X y=X' y) (d lim:Nat):evB X x d lim=evB X' x d lim:=by
 cases x with
 | none=>rfl
 | some o=>unfold evB;simp only;rw [h o rfl]
theorem Zcu {P:Program} {X X':Operand→Option AV} {t:TypeId} {x:AV} {lo hi mx:Option Operand} (h1:∀ y,lo=some y→X y=X' y) (h2:∀ y,hi=some y→X y=X' y)
  (h3:∀ y,mx=some y→X y=X' y):evSlice P X t x lo hi mx=evSlice P X' t x lo hi mx:=by
 have e1:=fun d lim=>KQ (X:=X) (X':=X') h1 d lim
 have e2:=fun d lim=>KQ (X:=X) (X':=X') h2 d lim
 have e3:=fun d lim=>KQ (X:=X) (X':=X') h3 d lim
 unfold evSlice
 simp only [e1,e2,e3]
theorem Zeg {parts:Array (Nat×Operand)} {x:Nat×Operand} (h:x∈parts.toList):x.2∈(parts.toList.map (·.2)).toArray:=by
 simp only [List.mem_toArray,List.mem_map]
 exact ⟨x,h,rfl⟩
theorem Zcx {P:Program} {H:Tr AObj} {X X':Operand→Option AV} {op:Op} (h:∀ x∈op.operands,X x=X' x):evPure3 P H X op=evPure3 P H X' op:=by
 cases op <;> simp only [evPure3,evPure,evBuild] <;> try rfl
 case move x=>exact h x (by simp [Op.operands])
 case assign x=>exact h x (by simp [Op.operands])
 case pick c a b=>rw [h c (by simp [Op.operands]),h a (by simp [Op.operands]),h b (by simp [Op.operands])]
 case build t parts=>rw [UQ parts.toList fun x hx=>h x.2 (by simp only [Op.operands];exact Zeg hx)]
 case load t x=>rw [h x (by simp [Op.operands])]
 case nilCheck x=>rw [h x (by simp [Op.operands])]
 case binOp op t x y yt=>rw [h x (by simp [Op.operands]),h y (by simp [Op.operands])]
 case unOp op t x=>rw [h x (by simp [Op.operands])]
 case convert s d x=>rw [h x (by simp [Op.operands])]
 case makeInterface t x=>rw [h x (by simp [Op.operands])]
 case makeFunc fn first captured =>
  rw [YP first.toList fun x hx=>h x (by simp [Op.operands];exact .inl (by simpa using hx)),YP captured.toList fun x hx=>h x (by simp [Op.operands];exact .inr (by simpa using hx))]
 case slice t x lo hi mx =>
  rw [h x (by simp [Op.operands])]
  have hc:=fun a=>Zcu (P:=P) (X:=X) (X':=X') (t:=t) (x:=a) (lo:=lo) (hi:=hi) (mx:=mx)
   (fun y hy=>h y (by simp [Op.operands,hy])) (fun y hy=>h y (by simp [Op.operands,hy])) (fun y hy=>h y (by simp [Op.operands,hy]))
  simp only [hc]
 case fieldAddr t x f=>rw [h x (by simp [Op.operands])]
 case field t x f=>rw [h x (by simp [Op.operands])]
 case indexAddr t x i=>rw [h x (by simp [Op.operands]),h i (by simp [Op.operands])]
 case index t x i=>rw [h x (by simp [Op.operands]),h i (by simp [Op.operands])]
 case lookup t x i ok=>rw [h x (by simp [Op.operands]),h i (by simp [Op.operands])]
 case extract x i=>rw [h x (by simp [Op.operands])]
 case typeAssert x t a ok=>rw [h x (by simp [Op.operands])]
 case entry x=>rw [h x (by simp [Op.operands])]
 case call c =>
  obtain ⟨callee,args,ts⟩:=c
  cases callee with
  | builtin b=>simp only;rw [YP args.toList fun x hx=>h x (by simp [Op.operands,Call.operands];simpa using hx)]
  | value f =>
   simp only
   rw [h f (by simp [Op.operands,Call.operands]),YP args.toList fun x hx=>h x (by simp [Op.operands,Call.operands];exact .inr (by simpa using hx))]
  | invoke _ _=>rfl
theorem Ze1 {P:Program} {X X':Operand→Option AV} {ni:Nat} {op:Op} (h:∀ x∈op.operands,X x=X' x):evNew3 P X ni op=evNew3 P X' ni op:=by
 cases op <;> simp only [evNew3] <;> try rfl
 case box el x=>rw [h x (by simp [Op.operands])]
 case makeMap t r=>cases r <;> rfl
 case makeSlice t l c=>rw [h l (by simp [Op.operands]),h c (by simp [Op.operands])]
 case buildSlice t len parts=>rw [UQ parts.toList fun x hx=>h x.2 (by simp only [Op.operands];exact Zeg hx)]
 case convert s t x=>rw [h x (by simp [Op.operands])]
 case makeChan t x=>rw [h x (by simp [Op.operands])]
 case range t x=>rw [h x (by simp [Op.operands])]
theorem Zbd {P:Program} {call:CallF} {X X':Operand→Option AV} {H:Tr AObj} {ni nx:Nat} {op:Op} (h:∀ x∈op.operands,X x=X' x) :
  evHeavy3 P call X H ni nx op=evHeavy3 P call X' H ni nx op:=by
 cases op <;> simp only [evHeavy3] <;> try rfl
 case store t x v=>rw [h x (by simp [Op.operands]),h v (by simp [Op.operands])]
 case mapUpdate t m k v=>rw [h m (by simp [Op.operands]),h k (by simp [Op.operands]),h v (by simp [Op.operands])]
 case insert t m k v=>rw [h m (by simp [Op.operands]),h k (by simp [Op.operands]),h v (by simp [Op.operands])]
 case call c =>
  obtain ⟨callee,args,ts⟩:=c
  cases callee with
  | builtin b =>
   cases b <;> try rfl
   all_goals
    simp only
    rw [YP args.toList fun x hx=>h x (by simp [Op.operands,Call.operands];simpa using hx)]
  | value f =>
   simp only
   rw [h f (by simp [Op.operands,Call.operands]),YP args.toList fun x hx=>h x (by simp [Op.operands,Call.operands];exact .inr (by simpa using hx))]
  | invoke _ _=>rfl
 case panic x=>rw [h x (by simp [Op.operands])]
 case next x isS=>rw [h x (by simp [Op.operands])]
 case range t x=>rw [h x (by simp [Op.operands])]
 case convert s d x=>rw [h x (by simp [Op.operands])]
 case defer c =>
  obtain ⟨callee,args,ts⟩:=c
  cases callee with
  | builtin b=>rfl
  | value f =>
   simp only
   rw [h f (by simp [Op.operands,Call.operands]),YP args.toList fun x hx=>h x (by simp [Op.operands,Call.operands];exact .inr (by simpa using hx))]
  | invoke _ _=>rfl
theorem Zca {P:Program} {H H':Tr AObj} {X:Operand→Option AV} {op:Op} (h:readsH op=false):evPure3 P H X op=evPure3 P H' X op:=by
 cases op <;> first | rfl | (cases h;done)
theorem Zdl {X X':Operand→Option AV} {x:Option Operand} (h:∀ y,x=some y→X y=X' y) (d lim:Nat):sBd X x d lim=sBd X' x d lim:=by
 cases x with
 | none=>rfl
 | some o=>unfold sBd;simp only;rw [h o rfl]
theorem Zev {P:Program} {X X':Operand→Option AV} {t:TypeId} {x:AV} {lo hi mx:Option Operand} (h1:∀ y,lo=some y→X y=X' y) (h2:∀ y,hi=some y→X y=X' y) :
  sSlice P X t x lo hi mx=sSlice P X' t x lo hi mx:=by
 have e1:=fun d lim=>Zdl (X:=X) (X':=X') h1 d lim
 have e2:=fun d lim=>Zdl (X:=X) (X':=X') h2 d lim
 unfold sSlice
 simp only [e1,e2]
theorem Zic {P:Program} {H:Tr AObj} {X X':Operand→Option AV} {op:Op} (h:∀ x∈op.operands,X x=X' x):sPure P H X op=sPure P H X' op:=by
 cases op <;> simp only [sPure] <;> try rfl
 case pick c a b=>rw [h c (by simp [Op.operands]),h a (by simp [Op.operands]),h b (by simp [Op.operands])]
 case load t x=>rw [h x (by simp [Op.operands])]
 case nilCheck x=>rw [h x (by simp [Op.operands])]
 case binOp op t x y yt=>rw [h x (by simp [Op.operands]),h y (by simp [Op.operands])]
 case unOp op t x=>rw [h x (by simp [Op.operands])]
 case convert s d x=>rw [h x (by simp [Op.operands])]
 case slice t x lo hi mx =>
  rw [h x (by simp [Op.operands])]
  have hc:=fun a=>Zev (P:=P) (X:=X) (X':=X') (t:=t) (x:=a) (lo:=lo) (hi:=hi) (mx:=mx)
   (fun y hy=>h y (by simp [Op.operands,hy])) (fun y hy=>h y (by simp [Op.operands,hy]))
  simp only [hc]
 case fieldAddr t x f=>rw [h x (by simp [Op.operands])]
 case indexAddr t x i=>rw [h x (by simp [Op.operands]),h i (by simp [Op.operands])]
 case index t x i=>rw [h x (by simp [Op.operands]),h i (by simp [Op.operands])]
 case lookup t x i ok=>rw [h x (by simp [Op.operands]),h i (by simp [Op.operands])]
 case call c =>
  obtain ⟨callee,args,ts⟩:=c
  cases callee with
  | builtin b=>simp only;rw [YP args.toList fun x hx=>h x (by simp [Op.operands,Call.operands];simpa using hx)]
  | value f =>
   simp only
   rw [h f (by simp [Op.operands,Call.operands]),YP args.toList fun x hx=>h x (by simp [Op.operands,Call.operands];exact .inr (by simpa using hx))]
  | invoke _ _=>rfl
theorem Zkl {P:Program} {X X':Operand→Option AV} {ni:Nat} {op:Op} (h:∀ x∈op.operands,X x=X' x):sNew P X ni op=sNew P X' ni op:=by
 cases op <;> simp only [sNew] <;> try rfl
 case makeSlice t l c=>rw [h l (by simp [Op.operands]),h c (by simp [Op.operands])]
 case convert s t x=>rw [h x (by simp [Op.operands])]
theorem Zfu {P:Program} {X X':Operand→Option AV} {H:Tr AObj} {ni:Nat} {op:Op} (h:∀ x∈op.operands,X x=X' x):sHeavy P X H ni op=sHeavy P X' H ni op:=by
 cases op <;> simp only [sHeavy] <;> try rfl
 case store t x v=>rw [h x (by simp [Op.operands]),h v (by simp [Op.operands])]
 case call c =>
  obtain ⟨callee,args,ts⟩:=c
  cases callee with
  | builtin b =>
   cases b <;> try rfl
   all_goals
    simp only
    rw [YP args.toList fun x hx=>h x (by simp [Op.operands,Call.operands];simpa using hx)]
  | value f=>rfl
  | invoke _ _=>rfl
theorem Zc7 {P:Program} {H:Tr AObj} {X X':Operand→Option AV} {op:Op} (h:∀ x∈op.operands,X x=X' x):evPure2 P H X op=evPure2 P H X' op:=by
 unfold evPure2;rw [Zic h,Zcx h]
theorem Zid {P:Program} {X X':Operand→Option AV} {ni:Nat} {op:Op} (h:∀ x∈op.operands,X x=X' x):evNew P X ni op=evNew P X' ni op:=by
 unfold evNew;rw [Zkl h,Ze1 h]
theorem Ju {P:Program} {call:CallF} {X X':Operand→Option AV} {H:Tr AObj} {ni nx:Nat} {op:Op} (h:∀ x∈op.operands,X x=X' x) :
  evHeavy P call X H ni nx op=evHeavy P call X' H ni nx op:=by
 unfold evHeavy;rw [Zfu h,Zbd h]
theorem QA {P:Program} {H H':Tr AObj} {X:Operand→Option AV} {op:Op} (h:readsH op=false):evPure2 P H X op=evPure2 P H' X op:=by
 have:sPure P H X op=sPure P H' X op:=by cases op <;> first | rfl | (cases h;done)
 unfold evPure2;rw [this,Zca h]
end Go.Ev
end
section
/- The evaluator, part O: a region that draws its order: what every order comes to. -/
namespace Go.Ev
structure DTab where
 oo:Nat→Oper
 A:Nat→Nat
 Tin:Nat→Tr AV
 k:Nat→DK
 v:Nat→AV
 G:Nat→Tr AObj
 nxs:Nat→Nat
def DTab.hv (t:DTab) (n q:Nat):Prop:=q < n∧t.k q = .heavy
def DTab.cand (t:DTab) (n c:Nat):Prop:=c=0∨∃ q,t.hv n q∧c=q + 1
def DTab.anc (t:DTab) (i j:Nat):Prop:=(t.A i).testBit j=true
def DTab.late (t:DTab) (n c j:Nat):Prop:=∀ q,t.hv n q→q < c→¬ t.anc q j
def DTab.sub (t:DTab) (n r0:Nat) (V:Tr AObj) (i c:Nat):Prop :=
 ∀ x o,V.get x=some o→(∃ j,t.anc i j∧t.k j = .new o∧t.late n c j∧x=r0 + j)∨(t.G c).get x=some o
def looks (ops:Array Oper) (o:Oper) (t:Tmp):Prop:=.tmp t∈o.op.operands∨∃ j want oj,o.guard=some (j,want)∧ops[j]? = some oj∧oj.dst=some t
def DTab.stay (t:DTab) (i:Nat):Prop:=t.G (i + 1)=t.G i∧t.nxs (i + 1)=t.nxs i
def DTab.isPan (t:DTab) (p:Nat):Prop:=∃ v H nx,t.k p = .pan v H nx
def DTab.kindOK (t:DTab) (P:Program) (call:CallF) (ops:Array Oper) (r0 i:Nat):Prop :=
 match t.k i with
 | .off=>evWanted ops (t.Tin i) (t.oo i)=some false∧t.v i = .tup []∧t.stay i
 | .pure=>evWanted ops (t.Tin i) (t.oo i)=some true∧t.stay i ∧
   ∀ c,t.cand ops.size c→t.late ops.size c i→(∀ q,t.hv ops.size q→t.anc i q→q < c)→∃ V,t.sub ops.size r0 V i c∧evPure2 P V (opd (t.Tin i)) (t.oo i).op=some (t.v i)
 | .new o=>evWanted ops (t.Tin i) (t.oo i)=some true∧t.stay i∧evNew P (opd (t.Tin i)) (r0 + i) (t.oo i).op=some (t.v i,o) ∧
   ∀ c,t.cand ops.size c→t.late ops.size c i→(t.G c).get (r0 + i)=none
 | .heavy=>evWanted ops (t.Tin i) (t.oo i)=some true∧(∀ q,t.hv ops.size q→q < i→t.anc i q) ∧
   ∃ V,t.sub ops.size r0 V i i∧evHeavy P call (opd (t.Tin i)) V (r0 + i) (t.nxs i) (t.oo i).op=some (.mk (t.v i) (t.G (i + 1)) (t.nxs (i + 1)))
 | .dead=>(∃ p,p < ops.size∧t.anc i p∧t.isPan p)∧t.stay i
 | .pan v H nx=>evWanted ops (t.Tin i) (t.oo i)=some true∧t.stay i∧(∀ q,t.hv ops.size q→q < i∧t.anc i q) ∧
   ∃ V,t.sub ops.size r0 V i i∧evHeavy P call (opd (t.Tin i)) V (r0 + i) (t.nxs i) (t.oo i).op=some (.pan v H nx)
structure DOK (t:DTab) (P:Program) (call:CallF) (ops:Array Oper) (s:St):Prop where
 opa:∀ i,i < ops.size→ops[i]? = some (t.oo i)
 anc:∀ i j,i < ops.size→t.anc i j→j < i∧∃ e∈(t.oo i).after,Region.binds .any e=true∧(e.on=j∨t.anc e.on j)
 edge:∀ i e,i < ops.size→e∈(t.oo i).after→Region.binds .any e=true→e.on < i
 T0:t.Tin 0=s.T
 Ts:∀ i,i < ops.size→evPut s.N (t.Tin i) (t.oo i).dst (t.v i)=some (t.Tin (i + 1))
 dst:∀ i j d,i < ops.size→j < ops.size→(t.oo i).dst=some d→(t.oo j).dst=some d→i=j
 look:∀ i d k,i < ops.size→k < ops.size→looks ops (t.oo i) d→(t.oo k).dst=some d→k≠i→t.anc i k∨t.anc k i
 G0:t.G 0=s.H
 n0:t.nxs 0=s.nx + ops.size
 kind:∀ i,i < ops.size→t.kindOK P call ops s.nx i
def Ls (listed:Array Bool) (i:Nat):Prop:=listed.getD i false=true
theorem Zbg {listed:Array Bool} {i j:Nat} (hi:i < listed.size):Ls (listed.setIfInBounds i true) j↔j=i∨Ls listed j:=by
 unfold Ls
 by_cases h:i=j
 ·subst h;simp [hi]
 ·rw [getD_set_ne false h]
  constructor
  ·exact .inr
  ·rintro (rfl | h');exact absurd rfl h;exact h'
def DTab.pend (t:DTab) (n:Nat) (listed:Array Bool) (c j:Nat):Prop:=j < n∧Ls listed j∧t.late n c j
open Classical in
noncomputable def DTab.hD (t:DTab) (n r0:Nat) (listed:Array Bool) (c x:Nat):Option AObj :=
 if r0≤x∧t.pend n listed c (x - r0) then (match t.k (x - r0) with | .new o=>some o | _=>(t.G c).get x) else (t.G c).get x
theorem Ww {t:DTab} {n r0:Nat} {listed:Array Bool} {c x:Nat} {o:AObj} (h:t.hD n r0 listed c x=some o) :
  (∃ j,x=r0 + j∧t.pend n listed c j∧t.k j = .new o)∨(t.G c).get x=some o:=by
 unfold DTab.hD at h
 split at h
 ·rename_i hp
  split at h
  ·rename_i o' ho
   injection h with h;subst h
   exact .inl ⟨x - r0,by omega,hp.2,ho⟩
  ·exact .inr h
 ·exact .inr h
theorem VW {t:DTab} {n r0:Nat} {listed:Array Bool} {c j:Nat} {o:AObj} (hp:t.pend n listed c j) (hk:t.k j = .new o):t.hD n r0 listed c (r0 + j)=some o:=by
 unfold DTab.hD
 have e:r0 + j - r0=j:=by omega
 rw [e,if_pos ⟨by omega,hp⟩,hk]
theorem Zbm {t:DTab} {n r0:Nat} {listed:Array Bool} {c x:Nat} {o:AObj} (hx:(t.G c).get x=some o)
  (hno:∀ j o',x=r0 + j→t.pend n listed c j→t.k j = .new o'→False):t.hD n r0 listed c x=some o:=by
 unfold DTab.hD
 split
 ·rename_i hp
  split
  ·rename_i o' ho
   exact (hno (x - r0) o' (by omega) hp.2 ho).elim
  ·exact hx
 ·exact hx
structure DInv (t:DTab) (ops:Array Oper) (s:St) (E:Env) (F:Nat→Option Obj) (ρ0:Ren) (ro:Option Nat) (listed:Array Bool) (a:Act) (w:World) (ρ:Ren) (c:Nat):Prop where
 size:listed.size=ops.size
 cand:t.cand ops.size c
 hc:∀ q,t.hv ops.size q→(Ls listed q↔q < c)
 down:∀ i j,i < ops.size→Ls listed i→t.anc i j→Ls listed j
 le:ρ0.le ρ
 lo:∀ i,i < s.nx→ρ i=ρ0 i
 nn:s.nx + ops.size≤t.nxs c
 rel:Rel E F (t.nxs c) ρ (t.hD ops.size s.nx listed c) w
 unl:∀ j,j < ops.size→¬ Ls listed j→ρ (s.nx + j)=none
 tm1:∀ i d,i < ops.size→Ls listed i→(t.oo i).dst=some d→∃ u,a.tmps[d]? = some u∧VR ρ (t.v i) u
 tm2:∀ d x,(∀ i,i < ops.size→Ls listed i→(t.oo i).dst≠some d)→s.T.get d=some x→∃ u,a.tmps[d]? = some u∧VR ρ x u
 sz:a.tmps.size=s.N
 dr:DR ρ s.D a.defers
 rr:ROR ρ s.ro ro
 np:∀ i,Ls listed i→¬ t.isPan i
section
variable {t:DTab} {P:Program} {call:CallF} {ops:Array Oper} {s:St}
theorem Vz (ok:DOK t P call ops s):∀ (p d:Nat) (b:AV),p≤ops.size→(t.Tin p).get d=some b →
  (∃ k,k < p∧(t.oo k).dst=some d∧t.v k=b)∨((∀ k,k < p→(t.oo k).dst≠some d)∧s.T.get d=some b)
 | 0,d,b,_,h=>.inr ⟨fun k hk=>absurd hk (Nat.not_lt_zero k),by rw [← ok.T0];exact h⟩
 | p + 1,d,b,hp,h=>by
  have hs:=ok.Ts p (by omega)
  unfold evPut at hs
  cases hd:(t.oo p).dst with
  | none =>
   rw [hd] at hs
   injection hs with hs
   rw [← hs] at h
   rcases Vz ok p d b (by omega) h with ⟨k,h1,h2⟩ | ⟨h1,h2⟩
   ·exact .inl ⟨k,by omega,h2⟩
   ·refine .inr ⟨fun k hk=>?_,h2⟩
    by_cases hkp:k=p
    ·subst hkp;rw [hd];exact fun h=>nomatch h
    ·exact h1 k (by omega)
  | some d' =>
   rw [hd] at hs
   obtain ⟨_,hs⟩:=Zb.1 hs
   injection hs with hs
   rw [← hs,Tr.get_set] at h
   by_cases hdd:d'=d
   ·subst hdd
    rw [if_pos rfl] at h
    injection h with h
    exact .inl ⟨p,by omega,hd,h⟩
   ·rw [if_neg hdd] at h
    rcases Vz ok p d b (by omega) h with ⟨k,h1,h2⟩ | ⟨h1,h2⟩
    ·exact .inl ⟨k,by omega,h2⟩
    ·refine .inr ⟨fun k hk=>?_,h2⟩
     by_cases hkp:k=p
     ·subst hkp;rw [hd];exact fun h=>hdd (Option.some.inj h)
     ·exact h1 k (by omega)
theorem stay_of (ok:DOK t P call ops s) {i:Nat} (hi:i < ops.size) (hk:t.k i≠.heavy):t.stay i:=by
 have h:=ok.kind i hi
 unfold DTab.kindOK at h
 split at h
 ·exact h.2.2
 ·exact h.2.1
 ·exact h.2.1
 ·rename_i hh;exact absurd hh hk
 ·exact h.2
 ·exact h.2.1
theorem G_eq (ok:DOK t P call ops s):∀ (d p:Nat),p + d≤ops.size→(∀ q,t.hv ops.size q→(q < p↔q < p + d))→t.G (p + d)=t.G p∧t.nxs (p + d)=t.nxs p
 | 0,p,_,_=>⟨rfl,rfl⟩
 | d + 1,p,hle,h=>by
  have hnh:t.k (p + d)≠.heavy:=fun hk=>by
   have:=h (p + d) ⟨by omega,hk⟩
   omega
  have ih:=G_eq ok d p (by omega) fun q hq=>by
   have:=h q hq
   have hne:q≠p + d:=fun e=>by subst e;exact hnh hq.2
   omega
  have hs:=stay_of ok (i:=p + d) (by omega) hnh
  exact ⟨(show t.G (p + (d + 1))=_ from hs.1).trans ih.1,(show t.nxs (p + (d + 1))=_ from hs.2).trans ih.2⟩
theorem Zkp (ok:DOK t P call ops s) {p p':Nat} (hp:p≤ops.size) (hp':p'≤ops.size) (h:∀ q,t.hv ops.size q→(q < p↔q < p')):t.G p=t.G p'∧t.nxs p=t.nxs p':=by
 rcases Nat.le_total p p' with hle | hle
 ·obtain ⟨d,rfl⟩:=Nat.le.dest hle
  have:=G_eq ok d p hp' h
  exact ⟨this.1.symm,this.2.symm⟩
 ·obtain ⟨d,rfl⟩:=Nat.le.dest hle
  exact G_eq ok d p' hp fun q hq=>(h q hq).symm
end
end Go.Ev
end
section
/- The evaluator, part P: one step of a region that draws its order, and all of it. -/
namespace Go.Ev
section
variable {t:DTab} {P:Program} {call:CallF} {ops:Array Oper} {s:St}
theorem Zap {c:Nat} (hc:t.cand ops.size c):c≤ops.size:=by
 rcases hc with rfl | ⟨q,hq,rfl⟩
 ·omega
 ·exact hq.1
variable {E:Env} {F:Nat→Option Obj} {ρ0:Ren} {ro:Option Nat}
theorem JI {listed:Array Bool} {a:Act} {w:World} {ρ:Ren} {c i:Nat} (inv:DInv t ops s E F ρ0 ro listed a w ρ c) (hL:¬ Ls listed i):t.late ops.size c i :=
 fun q hq hqc han=>hL (inv.down q i hq.1 ((inv.hc q hq).2 hqc) han)
theorem sub_hs (ok:DOK t P call ops s) {listed:Array Bool} {a:Act} {w:World} {ρ:Ren} {c i:Nat} (inv:DInv t ops s E F ρ0 ro listed a w ρ c) (hi:i < ops.size)
  (hpre:∀ j,t.anc i j→Ls listed j) {V:Tr AObj} (hV:t.sub ops.size s.nx V i c) {x:Nat} {o:AObj} (hx:V.get x=some o):t.hD ops.size s.nx listed c x=some o:=by
 rcases hV x o hx with ⟨j,h1,h2,h3,rfl⟩ | h
 ·exact VW ⟨Nat.lt_trans (ok.anc i j hi h1).1 hi,hpre j h1,h3⟩ h2
 ·refine Zbm h fun j o' hxj hp hk=>?_
  subst hxj
  have h:=ok.kind j hp.1
  unfold DTab.kindOK at h
  rw [hk] at h
  have:=h.2.2.2 c inv.cand hp.2.2
  simp_all
theorem Zko (ok:DOK t P call ops s) {listed:Array Bool} {a:Act} {w:World} {ρ:Ren} {c i:Nat} (inv:DInv t ops s E F ρ0 ro listed a w ρ c) (hi:i < ops.size) (hL:¬ Ls listed i)
  (hpre:∀ j,t.anc i j→Ls listed j) {d:Tmp} (hl:looks ops (t.oo i) d) {b:AV} (hb:(t.Tin i).get d=some b):∃ u,a.tmps[d]? = some u∧VR ρ b u:=by
 rcases Vz ok i d b (by omega) hb with ⟨k,h1,h2,h3⟩ | ⟨h1,h2⟩
 ·have hk:k < ops.size:=by omega
  rcases ok.look i d k hi hk hl h2 (by omega) with h | h
  ·subst h3
   exact inv.tm1 k d hk (hpre k h) h2
  ·have:=(ok.anc k i hk h).1
   omega
 ·refine inv.tm2 d b (fun k hk hLk hd=>?_) h2
  have hki:k≠i:=fun e=>by subst e;exact hL hLk
  rcases ok.look i d k hi hk hl hd hki with h | h
  ·exact h1 k (ok.anc i k hi h).1 hd
  ·exact hL (inv.down k i hk hLk h)
theorem xr_of (ok:DOK t P call ops s) {listed:Array Bool} {a:Act} {w:World} {ρ:Ren} {c i:Nat} (inv:DInv t ops s E F ρ0 ro listed a w ρ c) (hi:i < ops.size) (hL:¬ Ls listed i)
  (hpre:∀ j,t.anc i j→Ls listed j):∃ X:Operand→Option AV,XR ρ X a.eval∧∀ x∈(t.oo i).op.operands,X x=opd (t.Tin i) x:=by
 classical
 refine ⟨fun x=>if x∈(t.oo i).op.operands then opd (t.Tin i) x else none,fun x b hx=>?_,fun x hx=>if_pos hx⟩
 simp only at hx
 split at hx
 ·rename_i hm
  cases x with
  | tmp d =>
   obtain ⟨u,h1,h2⟩:=Zko ok inv hi hL hpre (.inl hm) (show (t.Tin i).get d=some b from hx)
   have:a.eval (.tmp d)=u:=by simp [Act.eval,h1]
   rw [this];exact h2
  | const v=>exact TR.xr (T:=.leaf) (ρ:=ρ) (a:=a) (fun t a h=>by rw [Tr.get_leaf] at h;cases h) (.const v) b hx
  | func f=>exact TR.xr (T:=.leaf) (ρ:=ρ) (a:=a) (fun t a h=>by rw [Tr.get_leaf] at h;cases h) (.func f) b hx
  | global g=>exact TR.xr (T:=.leaf) (ρ:=ρ) (a:=a) (fun t a h=>by rw [Tr.get_leaf] at h;cases h) (.global g) b hx
 ·cases hx
theorem Um (ok:DOK t P call ops s) {listed:Array Bool} {a:Act} {w:World} {ρ:Ren} {c i:Nat} (inv:DInv t ops s E F ρ0 ro listed a w ρ c) (hi:i < ops.size) (hL:¬ Ls listed i)
  (hpre:∀ j,t.anc i j→Ls listed j) {b:Bool} (h:evWanted ops (t.Tin i) (t.oo i)=some b):Region.wanted (t.oo i) (yielded ops a.tmps)=b:=by
 unfold evWanted at h
 unfold Region.wanted
 cases hg:(t.oo i).guard with
 | none=>rw [hg] at h;injection h with h
 | some p =>
  obtain ⟨j,want⟩:=p
  rw [hg] at h
  obtain ⟨oj,hoj,h1⟩:=Za.1 h
  obtain ⟨d,hd,h2⟩:=Za.1 h1
  obtain ⟨v,hv,h3⟩:=Za.1 h2
  obtain ⟨u,hu,hr⟩:=Zko ok inv hi hL hpre (.inr ⟨j,want,oj,hg,hoj,hd⟩) hv
  have hy:yielded ops a.tmps j=match u with | .bool b=>some b | _=>none:=by
   unfold yielded
   rw [hoj]
   simp only [Option.bind_some,hd,hu]
   cases u <;> rfl
  show (yielded ops a.tmps j == some want)=b
  rw [hy]
  split at h3
  ·injection h3 with h3;subst h3
   cases hr
   rename_i b
   cases b <;> cases want <;> rfl
  ·rename_i hnb
   injection h3 with h3;subst h3
   cases hr <;> first | rfl | (exact absurd rfl (hnb _))
theorem QT (ok:DOK t P call ops s) {listed:Array Bool} {a:Act} {w w':World} {ρ ρ':Ren} {c c' i:Nat} (inv:DInv t ops s E F ρ0 ro listed a w ρ c) (hi:i < ops.size) (hL:¬ Ls listed i)
  (hpre:∀ j,t.anc i j→Ls listed j) (hnp:¬ t.isPan i) {u:Value} (hle:ρ.le ρ') (hlo:∀ x,x < s.nx→ρ' x=ρ x) (hun:∀ j,j < ops.size→j≠i→¬ Ls listed j→ρ' (s.nx + j)=ρ (s.nx + j))
  (hv:VR ρ' (t.v i) u) (hcand:t.cand ops.size c') (hc:∀ q,t.hv ops.size q→((q=i∨Ls listed q)↔q < c')) (hnn:s.nx + ops.size≤t.nxs c')
  (hrel:Rel E F (t.nxs c') ρ' (t.hD ops.size s.nx (listed.setIfInBounds i true) c') w') :
  DInv t ops s E F ρ0 ro (listed.setIfInBounds i true) (a.put (t.oo i).dst u) w' ρ' c':=by
 have hset:=fun j=>Zbg (listed:=listed) (j:=j) (show i < listed.size by rw [inv.size];exact hi)
 have hdl:∀ d,(t.oo i).dst=some d→d < s.N:=fun d hd=>by
  have:=ok.Ts i hi
  unfold evPut at this
  rw [hd] at this
  have:=(Zb.1 this).1
  rwa [Nat.blt_eq] at this
 have hsame:∀ d,(t.oo i).dst=some d→(a.put (t.oo i).dst u).tmps[d]? = some u:=fun d hd=>by
  rw [hd]
  simp [Act.put,inv.sz,hdl d hd]
 have hother:∀ d,(t.oo i).dst≠some d→(a.put (t.oo i).dst u).tmps[d]? = a.tmps[d]?:=fun d hd=>by
  cases hdd:(t.oo i).dst with
  | none=>rfl
  | some d' =>
   have:d'≠d:=fun e=>hd (by rw [hdd,e])
   simp only [Act.put];rw [Array.getElem?_setIfInBounds_ne this]
 refine ⟨by simp [inv.size],hcand,fun q hq=>by rw [hset];exact hc q hq,?_,Ren.le_trans inv.le hle,fun x hx=>(hlo x hx).trans (inv.lo x hx),hnn,hrel,?_,?_,?_,?_,?_,?_,?_⟩
 ·intro j k hj hjl hjk
  rw [hset] at hjl ⊢
  rcases hjl with rfl | hjl
  ·exact .inr (hpre k hjk)
  ·exact .inr (inv.down j k hj hjl hjk)
 ·intro j hj hjl
  rw [hset] at hjl
  rw [hun j hj (fun e=>hjl (.inl e)) (fun e=>hjl (.inr e))]
  exact inv.unl j hj fun e=>hjl (.inr e)
 ·intro j d hj hjl hd
  rw [hset] at hjl
  by_cases hji:j=i
  ·subst hji;exact ⟨u,hsame d hd,hv⟩
  ·have hne:(t.oo i).dst≠some d:=fun e=>hji (ok.dst j i d hj hi hd e)
   rw [hother d hne]
   obtain ⟨z,h1,h2⟩:=inv.tm1 j d hj (hjl.resolve_left hji) hd
   exact ⟨z,h1,h2.mono hle⟩
 ·intro d x hno hx
  have hne:(t.oo i).dst≠some d:=hno i hi ((hset i).2 (.inl rfl))
  rw [hother d hne]
  obtain ⟨z,h1,h2⟩:=inv.tm2 d x (fun j hj hjl=>hno j hj ((hset j).2 (.inr hjl))) hx
  exact ⟨z,h1,h2.mono hle⟩
 ·cases hdd:(t.oo i).dst with
  | none=>exact inv.sz
  | some d=>simp [Act.put,inv.sz]
 ·have:(a.put (t.oo i).dst u).defers=a.defers:=by cases (t.oo i).dst <;> rfl
  rw [this];exact inv.dr.mono hle
 ·exact inv.rr.mono hle
 ·intro j hj
  rcases (hset j).1 hj with rfl | hj
  ·exact hnp
  ·exact inv.np j hj
theorem stay_hD {listed:Array Bool} {c i:Nat} (hs:i < listed.size) (hk:∀ o,t.k i≠.new o) {x:Nat} {o:AObj}
  (h:t.hD ops.size s.nx (listed.setIfInBounds i true) c x=some o) (hfr:∀ j o',t.pend ops.size listed c j→t.k j = .new o'→(t.G c).get (s.nx + j)=none):t.hD ops.size s.nx listed c x=some o:=by
 rcases Ww h with ⟨j,rfl,hp,hj⟩ | h
 ·refine VW ⟨hp.1,?_,hp.2.2⟩ hj
  rcases (Zbg hs).1 hp.2.1 with rfl | hl
  ·exact absurd hj (hk _)
  ·exact hl
 ·refine Zbm h fun j o' e hp hj=>?_
  subst e
  rw [hfr j o' hp hj] at h;cases h
theorem Qr (ok:DOK t P call ops s) {listed:Array Bool} {a:Act} {w:World} {ρ:Ren} {c:Nat} (inv:DInv t ops s E F ρ0 ro listed a w ρ c) {j:Nat} {o':AObj} (hp:t.pend ops.size listed c j) (hj:t.k j = .new o') :
  (t.G c).get (s.nx + j)=none:=by
 have h:=ok.kind j hp.1
 unfold DTab.kindOK at h
 rw [hj] at h
 exact h.2.2.2 c inv.cand hp.2.2
end
end Go.Ev
end
