/- Laid by program out of its parts: EvN, EvO, EvP. -/
import Derived.Test.YtlmmbanfhjaioaaGreatDoorMc
noncomputable section
set_option linter.unusedVariables false
set_option linter.unusedSimpArgs false
section
/- The evaluator, part N: what an operation's evaluation hangs on; equal values. -/
namespace Go.Ev
theorem Mz {X X':Operand->Option AV}:∀(l:List Operand),(∀x∈l,X x=X' x)->F3 X l=F3 X' l
 | [],_=>rfl
 |x::l,h=>by show(ob (X x) λa=>ob (F3 X l) λr=>some (a::r))=ob (X' x) λa=>ob (F3 X' l) λr=>some (a::r);rw[h x (by simp),Mz l λy hy=>h y (by simp[hy])]
theorem pM {X X':Operand->Option AV}:∀(l:List (Nat×Operand)),(∀x∈l,X x.2=X' x.2)->Pf X l=Pf X' l
 | [],_=>rfl
 |x::l,h=>by show(ob (X x.2) λa=>ob (Pf X l) λr=>some ((x.1,a)::r))=ob (X' x.2) λa=>ob (Pf X' l) λr=>some ((x.1,a)::r);rw[h x (by simp),pM l λy hy=>h y (by simp[hy])]
theorem mO {X X':Operand->Option AV} {x:Option Operand} (h:∀y,x=some y->X y=X' y) (d lim:Nat):EP X x d lim=EP X' x d lim:=by
 cases x with
 |none=>rfl
 |some o=>unfold EP;simp only;rw[h o rfl]
theorem Afa {P:Program} {X X':Operand->Option AV} {t:TypeId} {x:AV} {lo hi mx:Option Operand} (C:∀y,lo=some y->X y=X' y) (B:∀y,hi=some y->X y=X' y) (q:∀y,mx=some y->X y=X' y):Wh P X t x lo hi mx=Wh P X' t x lo hi mx:=by have K:=λd lim=>mO (X:=X) (X':=X') C d lim;have J:=λd lim=>mO (X:=X) (X':=X') B d lim;have E:=λd lim=>mO (X:=X) (X':=X') q d lim;unfold Wh;simp only[K,J,E]
theorem zj {q:Array (Nat×Operand)} {x:Nat×Operand} (h:x∈q.toList):x.2∈(q.toList.map (·.2)).toArray:=by simp only[List.mem_toArray,List.mem_map];exact⟨x,h,rfl⟩
theorem Ae7 {P:Program} {H:Tr Ac} {X X':Operand->Option AV} {op:Op} (h:∀x∈op.operands,X x=X' x):Hd P H X op=Hd P H X' op:=by
 cases op<;>simp only[Hd,QD,mR]<;>try rfl
 case move x=>exact h x (by simp[Op.operands])
 case assign x=>exact h x (by simp[Op.operands])
 case pick c a b=>rw[h c (by simp[Op.operands]),h a (by simp[Op.operands]),h b (by simp[Op.operands])]
 case build t parts=>rw[pM parts.toList λx q=>h x.2 (by simp only[Op.operands];exact zj q)]
 case load t x=>rw[h x (by simp[Op.operands])]
 case nilCheck x=>rw[h x (by simp[Op.operands])]
 case binOp op t x y C=>rw[h x (by simp[Op.operands]),h y (by simp[Op.operands])]
 case unOp op t x=>rw[h x (by simp[Op.operands])]
 case convert s d x=>rw[h x (by simp[Op.operands])]
 case makeInterface t x=>rw[h x (by simp[Op.operands])]
 case makeFunc fn first captured=>
  rw[Mz first.toList λx q=>h x (by simp[Op.operands];exact .inl (by simpa using q)),Mz captured.toList λx q=>h x (by simp[Op.operands];exact .inr (by simpa using q))]
 case slice t x lo hi mx=>
  rw[h x (by simp[Op.operands])];have hc:=λa=>Afa (P:=P) (X:=X) (X':=X') (t:=t) (x:=a) (lo:=lo) (hi:=hi) (mx:=mx) (λy hy=>h y (by simp[Op.operands,hy])) (λy hy=>h y (by simp[Op.operands,hy])) (λy hy=>h y (by simp[Op.operands,hy]));simp only[hc]
 case fieldAddr t x f=>rw[h x (by simp[Op.operands])]
 case field t x f=>rw[h x (by simp[Op.operands])]
 case indexAddr t x i=>rw[h x (by simp[Op.operands]),h i (by simp[Op.operands])]
 case index t x i=>rw[h x (by simp[Op.operands]),h i (by simp[Op.operands])]
 case lookup t x i ok=>rw[h x (by simp[Op.operands]),h i (by simp[Op.operands])]
 case extract x i=>rw[h x (by simp[Op.operands])]
 case typeAssert x t a ok=>rw[h x (by simp[Op.operands])]
 case entry x=>rw[h x (by simp[Op.operands])]
 case call c=>
  obtain⟨B,args,E⟩:=c;cases B with
  |builtin b=>simp only;rw[Mz args.toList λx q=>h x (by simp[Op.operands,Call.operands];simpa using q)]
  |value f=>
   simp only
   rw[h f (by simp[Op.operands,Call.operands]),Mz args.toList λx q=>h x (by simp[Op.operands,Call.operands];exact .inr (by simpa using q))]
  |invoke _ _=>rfl
theorem Ae2 {P:Program} {X X':Operand->Option AV} {ni:Nat} {op:Op} (h:∀x∈op.operands,X x=X' x):It P X ni op=It P X' ni op:=by
 cases op<;>simp only[It]<;>try rfl
 case box el x=>rw[h x (by simp[Op.operands])]
 case makeMap t r=>cases r<;>rfl
 case makeSlice t l c=>rw[h l (by simp[Op.operands]),h c (by simp[Op.operands])]
 case buildSlice t len parts=>rw[pM parts.toList λx q=>h x.2 (by simp only[Op.operands];exact zj q)]
 case convert s t x=>rw[h x (by simp[Op.operands])]
 case makeChan t x=>rw[h x (by simp[Op.operands])]
 case range t x=>rw[h x (by simp[Op.operands])]
theorem AeV {P:Program} {call:DZ} {X X':Operand->Option AV} {H:Tr Ac} {ni nx:Nat} {op:Op} (h:∀x∈op.operands,X x=X' x): Gq P call X H ni nx op=Gq P call X' H ni nx op:=by
 cases op<;>simp only[Gq]<;>try rfl
 case store t x v=>rw[h x (by simp[Op.operands]),h v (by simp[Op.operands])]
 case mapUpdate t m k v=>rw[h m (by simp[Op.operands]),h k (by simp[Op.operands]),h v (by simp[Op.operands])]
 case insert t m k v=>rw[h m (by simp[Op.operands]),h k (by simp[Op.operands]),h v (by simp[Op.operands])]
 case call c=>
  obtain⟨q,args,B⟩:=c;cases q with
  |builtin b=>
   cases b<;>try rfl
   all_goals
    simp only
    rw[Mz args.toList λx y=>h x (by simp[Op.operands,Call.operands];simpa using y)]
  |value f=>
   simp only
   rw[h f (by simp[Op.operands,Call.operands]),Mz args.toList λx y=>h x (by simp[Op.operands,Call.operands];exact .inr (by simpa using y))]
  |invoke _ _=>rfl
 case panic x=>rw[h x (by simp[Op.operands])]
 case next x Ah=>rw[h x (by simp[Op.operands])]
 case range t x=>rw[h x (by simp[Op.operands])]
 case convert s d x=>rw[h x (by simp[Op.operands])]
 case defer c=>
  obtain⟨q,args,B⟩:=c;cases q with
  |builtin b=>rfl
  |value f=>
   simp only
   rw[h f (by simp[Op.operands,Call.operands]),Mz args.toList λx y=>h x (by simp[Op.operands,Call.operands];exact .inr (by simpa using y))]
  |invoke _ _=>rfl
theorem Ae8 {P:Program} {H H':Tr Ac} {X:Operand->Option AV} {op:Op} (h:LD op=false):Hd P H X op=Hd P H' X op:=by cases op<;>first|rfl|(cases h;done)
theorem Abw {X X':Operand->Option AV} {x:Option Operand} (h:∀y,x=some y->X y=X' y) (d lim:Nat):Ie X x d lim=Ie X' x d lim:=by
 cases x with
 |none=>rfl
 |some o=>unfold Ie;simp only;rw[h o rfl]
theorem AnN {P:Program} {X X':Operand->Option AV} {t:TypeId} {x:AV} {lo hi mx:Option Operand} (B:∀y,lo=some y->X y=X' y) (q:∀y,hi=some y->X y=X' y): XM P X t x lo hi mx=XM P X' t x lo hi mx:=by have E:=λd lim=>Abw (X:=X) (X':=X') B d lim;have C:=λd lim=>Abw (X:=X) (X':=X') q d lim;unfold XM;simp only[E,C]
theorem AnL {P:Program} {H:Tr Ac} {X X':Operand->Option AV} {op:Op} (h:∀x∈op.operands,X x=X' x):HP P H X op=HP P H X' op:=by
 cases op<;>simp only[HP]<;>try rfl
 case pick c a b=>rw[h c (by simp[Op.operands]),h a (by simp[Op.operands]),h b (by simp[Op.operands])]
 case load t x=>rw[h x (by simp[Op.operands])]
 case nilCheck x=>rw[h x (by simp[Op.operands])]
 case binOp op t x y C=>rw[h x (by simp[Op.operands]),h y (by simp[Op.operands])]
 case unOp op t x=>rw[h x (by simp[Op.operands])]
 case convert s d x=>rw[h x (by simp[Op.operands])]
 case slice t x lo hi mx=>
  rw[h x (by simp[Op.operands])];have hc:=λa=>AnN (P:=P) (X:=X) (X':=X') (t:=t) (x:=a) (lo:=lo) (hi:=hi) (mx:=mx) (λy hy=>h y (by simp[Op.operands,hy])) (λy hy=>h y (by simp[Op.operands,hy]));simp only[hc]
 case fieldAddr t x f=>rw[h x (by simp[Op.operands])]
 case indexAddr t x i=>rw[h x (by simp[Op.operands]),h i (by simp[Op.operands])]
 case index t x i=>rw[h x (by simp[Op.operands]),h i (by simp[Op.operands])]
 case lookup t x i ok=>rw[h x (by simp[Op.operands]),h i (by simp[Op.operands])]
 case call c=>
  obtain⟨q,args,E⟩:=c;cases q with
  |builtin b=>simp only;rw[Mz args.toList λx B=>h x (by simp[Op.operands,Call.operands];simpa using B)]
  |value f=>
   simp only
   rw[h f (by simp[Op.operands,Call.operands]),Mz args.toList λx B=>h x (by simp[Op.operands,Call.operands];exact .inr (by simpa using B))]
  |invoke _ _=>rfl
theorem AnJ {P:Program} {X X':Operand->Option AV} {ni:Nat} {op:Op} (h:∀x∈op.operands,X x=X' x):Jh P X ni op=Jh P X' ni op:=by
 cases op<;>simp only[Jh]<;>try rfl
 case makeSlice t l c=>rw[h l (by simp[Op.operands]),h c (by simp[Op.operands])]
 case convert s t x=>rw[h x (by simp[Op.operands])]
theorem AnA {P:Program} {X X':Operand->Option AV} {H:Tr Ac} {ni:Nat} {op:Op} (h:∀x∈op.operands,X x=X' x):JI P X H ni op=JI P X' H ni op:=by
 cases op<;>simp only[JI]<;>try rfl
 case store t x v=>rw[h x (by simp[Op.operands]),h v (by simp[Op.operands])]
 case call c=>
  obtain⟨q,args,B⟩:=c;cases q with
  |builtin b=>
   cases b<;>try rfl
   all_goals
    simp only
    rw[Mz args.toList λx y=>h x (by simp[Op.operands,Call.operands];simpa using y)]
  |value f=>rfl
  |invoke _ _=>rfl
theorem Ae6 {P:Program} {H:Tr Ac} {X X':Operand->Option AV} {op:Op} (h:∀x∈op.operands,X x=X' x):Dl P H X op=Dl P H X' op:=by unfold Dl;rw[AnL h,Ae7 h]
theorem Ae3 {P:Program} {X X':Operand->Option AV} {ni:Nat} {op:Op} (h:∀x∈op.operands,X x=X' x):EE P X ni op=EE P X' ni op:=by unfold EE;rw[AnJ h,Ae2 h]
theorem xA {P:Program} {call:DZ} {X X':Operand->Option AV} {H:Tr Ac} {ni nx:Nat} {op:Op} (h:∀x∈op.operands,X x=X' x): FK P call X H ni nx op=FK P call X' H ni nx op:=by unfold FK;rw[AnA h,AeV h]
theorem xG {P:Program} {H H':Tr Ac} {X:Operand->Option AV} {op:Op} (h:LD op=false):Dl P H X op=Dl P H' X op:=by
 have:HP P H X op=HP P H' X op:=by cases op<;>first|rfl|(cases h;done)
 unfold Dl;rw[this,Ae8 h]
end Go.Ev
end
section
/- The evaluator, part O: a region that draws its order: what every order comes to. -/
namespace Go.Ev
structure BS where
 oo:Nat->Oper
 A:Nat->Nat
 FE:Nat->Tr AV
 k:Nat->DK
 v:Nat->AV
 G:Nat->Tr Ac
 E2:Nat->Nat
def BS.hv (t:BS) (n q:Nat):Prop:=q<n/\t.k q=.Dy
def BS.Gm (t:BS) (n c:Nat):Prop:=c=0\/∃q,t.hv n q/\c=q+1
def BS.Cj (t:BS) (i j:Nat):Prop:=(t.A i).testBit j=true
def BS.late (t:BS) (n c j:Nat):Prop:=∀q,t.hv n q->q<c->¬t.Cj q j
def BS.sub (t:BS) (n q:Nat) (V:Tr Ac) (i c:Nat):Prop:=∀x o,V.get x=some o->(∃j,t.Cj i j/\t.k j=.new o/\t.late n c j/\x=q+j)\/(t.G c).get x=some o
def looks (ops:Array Oper) (o:Oper) (t:Tmp):Prop:=.tmp t∈o.op.operands\/∃j q y,o.guard=some (j,q)/\ops[j]? =some y/\y.dst=some t
def BS.stay (t:BS) (i:Nat):Prop:=t.G (i+1)=t.G i/\t.E2 (i+1)=t.E2 i
def BS.NS (t:BS) (p:Nat):Prop:=∃v H nx,t.k p=.AA v H nx
def BS.Lg (t:BS) (P:Program) (call:DZ) (ops:Array Oper) (y i:Nat):Prop:=
 match t.k i with
 |.off=>EX ops (t.FE i) (t.oo i)=some false/\t.v i=.AL []/\t.stay i
 |.pure=>EX ops (t.FE i) (t.oo i)=some true/\t.stay i/\
   ∀c,t.Gm ops.size c->t.late ops.size c i->(∀q,t.hv ops.size q->t.Cj i q->q<c)->∃V,t.sub ops.size y V i c/\Dl P V (B2 (t.FE i)) (t.oo i).op=some (t.v i)
 |.new o=>EX ops (t.FE i) (t.oo i)=some true/\t.stay i/\EE P (B2 (t.FE i)) (y+i) (t.oo i).op=some (t.v i,o)/\
   ∀c,t.Gm ops.size c->t.late ops.size c i->(t.G c).get (y+i)=none
 |.Dy=>EX ops (t.FE i) (t.oo i)=some true/\(∀q,t.hv ops.size q->q<i->t.Cj i q)/\
   ∃V,t.sub ops.size y V i i/\FK P call (B2 (t.FE i)) V (y+i) (t.E2 i) (t.oo i).op=some (.mk (t.v i) (t.G (i+1)) (t.E2 (i+1)))
 |.dead=>(∃p,p<ops.size/\t.Cj i p/\t.NS p)/\t.stay i
 |.AA v H nx=>EX ops (t.FE i) (t.oo i)=some true/\t.stay i/\(∀q,t.hv ops.size q->q<i/\t.Cj i q)/\
   ∃V,t.sub ops.size y V i i/\FK P call (B2 (t.FE i)) V (y+i) (t.E2 i) (t.oo i).op=some (.AA v H nx)
structure Ej (t:BS) (P:Program) (call:DZ) (ops:Array Oper) (s:St):Prop where
 cw:∀i,i<ops.size->ops[i]? =some (t.oo i)
 Cj:∀i j,i<ops.size->t.Cj i j->j<i/\∃e∈(t.oo i).after,Region.binds .any e=true/\(e.on=j\/t.Cj e.on j)
 K8:∀i e,i<ops.size->e∈(t.oo i).after->Region.binds .any e=true->e.on<i
 T0:t.FE 0=s.T
 Ts:∀i,i<ops.size->Jp s.N (t.FE i) (t.oo i).dst (t.v i)=some (t.FE (i+1))
 dst:∀i j d,i<ops.size->j<ops.size->(t.oo i).dst=some d->(t.oo j).dst=some d->i=j
 look:∀i d k,i<ops.size->k<ops.size->looks ops (t.oo i) d->(t.oo k).dst=some d->k≠i->t.Cj i k\/t.Cj k i
 G0:t.G 0=s.H
 n0:t.E2 0=s.nx+ops.size
 kind:∀i,i<ops.size->t.Lg P call ops s.nx i
def Ls (listed:Array Bool) (i:Nat):Prop:=listed.getD i false=true
theorem Vx {listed:Array Bool} {i j:Nat} (hi:i<listed.size):Ls (listed.setIfInBounds i true) j↔j=i\/Ls listed j:=by
 unfold Ls;by_cases h:i=j
 ·subst h;simp[hi]
 ·rw[getD_set_ne false h];constructor
  ·exact .inr
  ·rintro(rfl|h');exact absurd rfl h;exact h'
def BS.Dp (t:BS) (n:Nat) (listed:Array Bool) (c j:Nat):Prop:=j<n/\Ls listed j/\t.late n c j
open Classical in
def BS.hD (t:BS) (n q:Nat) (listed:Array Bool) (c x:Nat):Option Ac:=
 if q<=x/\t.Dp n listed c (x-q)then(match t.k (x-q)with|.new o=>some o|_=>(t.G c).get x)else(t.G c).get x
theorem MQ {t:BS} {n q:Nat} {listed:Array Bool} {c x:Nat} {o:Ac} (h:t.hD n q listed c x=some o): (∃j,x=q+j/\t.Dp n listed c j/\t.k j=.new o)\/(t.G c).get x=some o:=by
 unfold BS.hD at h;split at h
 ·rename_i y;split at h
  ·rename_i o' B;injection h with h;subst h;exact .inl ⟨x-q,by omega,y.2,B⟩
  ·exact .inr h
 ·exact .inr h
theorem MP {t:BS} {n q:Nat} {listed:Array Bool} {c j:Nat} {o:Ac} (y:t.Dp n listed c j) (B:t.k j=.new o):t.hD n q listed c (q+j)=some o:=by
 unfold BS.hD;have e:q+j-q=j:=by omega
 rw[e,if_pos ⟨by omega,y⟩,B]
theorem Wu {t:BS} {n q:Nat} {listed:Array Bool} {c x:Nat} {o:Ac} (B:(t.G c).get x=some o) (y:∀j o',x=q+j->t.Dp n listed c j->t.k j=.new o'->False):t.hD n q listed c x=some o:=by
 unfold BS.hD;split
 ·rename_i C;split
  ·rename_i o' E;exact(y (x-q) o' (by omega) C.2 E).elim
  ·exact B
 ·exact B
structure Di (t:BS) (ops:Array Oper) (s:St) (E:Env) (F:Nat->Option Obj) (ρ0:Af) (ro:Option Nat) (listed:Array Bool) (a:Act) (w:World) (ρ:Af) (c:Nat):Prop where
 size:listed.size=ops.size
 Gm:t.Gm ops.size c
 hc:∀q,t.hv ops.size q->(Ls listed q↔q<c)
 down:∀i j,i<ops.size->Ls listed i->t.Cj i j->Ls listed j
 le:ρ0.le ρ
 lo:∀i,i<s.nx->ρ i=ρ0 i
 nn:s.nx+ops.size<=t.E2 c
 rel:Rel E F (t.E2 c) ρ (t.hD ops.size s.nx listed c) w
 Vh:∀j,j<ops.size->¬Ls listed j->ρ (s.nx+j)=none
 Qa:∀i d,i<ops.size->Ls listed i->(t.oo i).dst=some d->∃u,a.tmps[d]? =some u/\VR ρ (t.v i) u
 R1:∀d x,(∀i,i<ops.size->Ls listed i->(t.oo i).dst≠some d)->s.T.get d=some x->∃u,a.tmps[d]? =some u/\VR ρ x u
 sz:a.tmps.size=s.N
 dr:DR ρ s.D a.defers
 rr:Qj ρ s.ro ro
 np:∀i,Ls listed i->¬t.NS i
section
variable {t:BS} {P:Program} {call:DZ} {ops:Array Oper} {s:St}
theorem P9 (ok:Ej t P call ops s):∀(p d:Nat) (b:AV),p<=ops.size->(t.FE p).get d=some b-> (∃k,k<p/\(t.oo k).dst=some d/\t.v k=b)\/((∀k,k<p->(t.oo k).dst≠some d)/\s.T.get d=some b)
 |0,d,b,_,h=>.inr ⟨λk J=>absurd J (Nat.not_lt_zero k),by rw[<-ok.T0];exact h⟩
 |p+1,d,b,hp,h=>by
  have q:=ok.Ts p (by omega);unfold Jp at q;cases hd:(t.oo p).dst with
  |none=>
   rw[hd]at q;injection q with q;rw[<-q]at h;rcases P9 ok p d b (by omega) h with⟨k,E,y⟩|⟨E,y⟩
   ·exact .inl ⟨k,by omega,y⟩
   ·refine .inr ⟨λk J=>?_,y⟩;by_cases B:k=p
    ·subst B;rw[hd];exactλh=>nomatch h
    ·exact E k (by omega)
  |some K=>
   rw[hd]at q;obtain⟨_,q⟩:=AK.1 q;injection q with q;rw[<-q,Tr.F6]at h;by_cases C:K=d
   ·subst C;rw[if_pos rfl]at h;injection h with h;exact .inl ⟨p,by omega,hd,h⟩
   ·rw[if_neg C]at h;rcases P9 ok p d b (by omega) h with⟨k,E,y⟩|⟨E,y⟩
    ·exact .inl ⟨k,by omega,y⟩
    ·refine .inr ⟨λk J=>?_,y⟩;by_cases B:k=p
     ·subst B;rw[hd];exactλh=>C (Option.some.inj h)
     ·exact E k (by omega)
theorem Aod (ok:Ej t P call ops s) {i:Nat} (hi:i<ops.size) (q:t.k i≠.Dy):t.stay i:=by
 have h:=ok.kind i hi;unfold BS.Lg at h;split at h
 ·exact h.2.2
 ·exact h.2.1
 ·exact h.2.1
 ·rename_i y;exact absurd y q
 ·exact h.2
 ·exact h.2.1
theorem gM (ok:Ej t P call ops s):∀(d p:Nat),p+d<=ops.size->(∀q,t.hv ops.size q->(q<p↔q<p+d))->t.G (p+d)=t.G p/\t.E2 (p+d)=t.E2 p
 |0,p,_,_=>⟨rfl,rfl⟩
 |d+1,p,hle,h=>by
  have y:t.k (p+d)≠.Dy:=λJ=>by have:=h (p+d) ⟨by omega,J⟩;omega
  have B:=gM ok d p (by omega) λq E=>by
   have:=h q E;have K:q≠p+d:=λe=>by subst e;exact y E.2
   omega
  have C:=Aod ok (i:=p+d) (by omega) y;exact⟨(show t.G (p+(d+1))=_ from C.1).trans B.1,(show t.E2 (p+(d+1))=_ from C.2).trans B.2⟩
theorem Yc (ok:Ej t P call ops s) {p y:Nat} (E:p<=ops.size) (B:y<=ops.size) (h:∀q,t.hv ops.size q->(q<p↔q<y)):t.G p=t.G y/\t.E2 p=t.E2 y:=by
 rcases Nat.le_total p y with hle|hle
 ·obtain⟨d,rfl⟩:=Nat.le.dest hle;have:=gM ok d p B h;exact⟨this.1.symm,this.2.symm⟩
 ·obtain⟨d,rfl⟩:=Nat.le.dest hle;exact gM ok d y E λq C=>(h q C).symm
end
end Go.Ev
end
section
/- The evaluator, part P: one step of a region that draws its order, and all of it. -/
namespace Go.Ev
section
variable {t:BS} {P:Program} {call:DZ} {ops:Array Oper} {s:St}
theorem Zo {c:Nat} (hc:t.Gm ops.size c):c<=ops.size:=by
 rcases hc with rfl|⟨q,y,rfl⟩
 ·omega
 ·exact y.1
variable {E:Env} {F:Nat->Option Obj} {ρ0:Af} {ro:Option Nat}
theorem oe {listed:Array Bool} {a:Act} {w:World} {ρ:Af} {c i:Nat} (y:Di t ops s E F ρ0 ro listed a w ρ c) (K:¬Ls listed i):t.late ops.size c i:=λq J B C=>K (y.down q i J.1 ((y.hc q J).2 B) C)
theorem Aci (ok:Ej t P call ops s) {listed:Array Bool} {a:Act} {w:World} {ρ:Af} {c i:Nat} (y:Di t ops s E F ρ0 ro listed a w ρ c) (hi:i<ops.size) (q:∀j,t.Cj i j->Ls listed j) {V:Tr Ac} (M:t.sub ops.size s.nx V i c) {x:Nat} {o:Ac} (K:V.get x=some o):t.hD ops.size s.nx listed c x=some o:=by
 rcases M x o K with⟨j,J,R,O,rfl⟩|h
 ·exact MP ⟨Nat.lt_trans (ok.Cj i j hi J).1 hi,q j J,O⟩ R
 ·refine Wu h λj o' B C L=>?_;subst B;have h:=ok.kind j C.1;unfold BS.Lg at h;rw[L]at h;have:=h.2.2.2 c y.Gm C.2.2;simp_all
theorem zX (ok:Ej t P call ops s) {listed:Array Bool} {a:Act} {w:World} {ρ:Af} {c i:Nat} (q:Di t ops s E F ρ0 ro listed a w ρ c) (hi:i<ops.size) (M:¬Ls listed i) (C:∀j,t.Cj i j->Ls listed j) {d:Tmp} (L:looks ops (t.oo i) d) {b:AV} (hb:(t.FE i).get d=some b):∃u,a.tmps[d]? =some u/\VR ρ b u:=by
 rcases P9 ok i d b (by omega) hb with⟨k,O,J,R⟩|⟨O,J⟩
 ·have y:k<ops.size:=by omega
  rcases ok.look i d k hi y L J (by omega)with h|h
  ·subst R;exact q.Qa k d y (C k h) J
  ·have:=(ok.Cj k i y h).1;omega
 ·refine q.R1 d b (λk y B hd=>?_) J;have K:k≠i:=λe=>by subst e;exact M B
  rcases ok.look i d k hi y L hd K with h|h
  ·exact O k (ok.Cj i k hi h).1 hd
  ·exact M (q.down k i y B h)
theorem Apv (ok:Ej t P call ops s) {listed:Array Bool} {a:Act} {w:World} {ρ:Af} {c i:Nat} (B:Di t ops s E F ρ0 ro listed a w ρ c) (hi:i<ops.size) (J:¬Ls listed i) (y:∀j,t.Cj i j->Ls listed j):∃X:Operand->Option AV,XR ρ X a.eval/\∀x∈(t.oo i).op.operands,X x=B2 (t.FE i) x:=by
 classical
 refine⟨λx=>if x∈(t.oo i).op.operands then B2 (t.FE i) x else none,λx b q=>?_,λx q=>if_pos q⟩;simp only at q;split at q
 ·rename_i C;cases x with
  |tmp d=>
   obtain⟨u,L,K⟩:=zX ok B hi J y (.inl C) (show(t.FE i).get d=some b from q);have:a.eval (.tmp d)=u:=by simp[Act.eval,L]
   rw[this];exact K
  |const v=>exact TR.xr (T:=.leaf) (ρ:=ρ) (a:=a) (λt a h=>by rw[Tr.Em]at h;cases h) (.const v) b q
  |func f=>exact TR.xr (T:=.leaf) (ρ:=ρ) (a:=a) (λt a h=>by rw[Tr.Em]at h;cases h) (.func f) b q
  |global g=>exact TR.xr (T:=.leaf) (ρ:=ρ) (a:=a) (λt a h=>by rw[Tr.Em]at h;cases h) (.global g) b q
 ·cases q
theorem X3 (ok:Ej t P call ops s) {listed:Array Bool} {a:Act} {w:World} {ρ:Af} {c i:Nat} (J:Di t ops s E F ρ0 ro listed a w ρ c) (hi:i<ops.size) (O:¬Ls listed i) (B:∀j,t.Cj i j->Ls listed j) {b:Bool} (h:EX ops (t.FE i) (t.oo i)=some b):Region.wanted (t.oo i) (yielded ops a.tmps)=b:=by
 unfold EX at h;unfold Region.wanted;cases C:(t.oo i).guard with
 |none=>rw[C]at h;injection h with h
 |some p=>
  obtain⟨j,want⟩:=p;rw[C]at h;obtain⟨M,y,S⟩:=Ae.1 h;obtain⟨d,hd,R⟩:=Ae.1 S;obtain⟨v,hv,q⟩:=Ae.1 R;obtain⟨u,hu,L⟩:=zX ok J hi O B (.inr ⟨j,want,M,C,y,hd⟩) hv;have hy:yielded ops a.tmps j=match u with|.bool b=>some b|_=>none:=by unfold yielded;rw[y];simp only[Option.bind_some,hd,hu];cases u<;>rfl
  show(yielded ops a.tmps j==some want)=b;rw[hy];split at q
  ·injection q with q;subst q;cases L;rename_i b;cases b<;>cases want<;>rfl
  ·rename_i K;injection q with q;subst q;cases L<;>first|rfl|(exact absurd rfl (K _))
theorem sW (ok:Ej t P call ops s) {listed:Array Bool} {a:Act} {w w':World} {ρ L:Af} {c V i:Nat} (y:Di t ops s E F ρ0 ro listed a w ρ c) (hi:i<ops.size) (hL:¬Ls listed i) (ab:∀j,t.Cj i j->Ls listed j) (ae:¬t.NS i) {u:Value} (M:ρ.le L) (ag:∀x,x<s.nx->L x=ρ x) (ad:∀j,j<ops.size->j≠i->¬Ls listed j->L (s.nx+j)=ρ (s.nx+j)) (hv:VR L (t.v i) u) (U:t.Gm ops.size V) (hc:∀q,t.hv ops.size q->((q=i\/Ls listed q)↔q<V)) (af:s.nx+ops.size<=t.E2 V) (aa:Rel E F (t.E2 V) L (t.hD ops.size s.nx (listed.setIfInBounds i true) V) w'): Di t ops s E F ρ0 ro (listed.setIfInBounds i true) (a.put (t.oo i).dst u) w' L V:=by
 have C:=λj=>Vx (listed:=listed) (j:=j) (show i<listed.size by rw[y.size];exact hi);have ah:∀d,(t.oo i).dst=some d->d<s.N:=λd hd=>by have:=ok.Ts i hi;unfold Jp at this;rw[hd]at this;have:=(AK.1 this).1;rwa[Nat.blt_eq]at this
 have S:∀d,(t.oo i).dst=some d->(a.put (t.oo i).dst u).tmps[d]? =some u:=λd hd=>by rw[hd];simp[Act.put,y.sz,ah d hd]
 have J:∀d,(t.oo i).dst≠some d->(a.put (t.oo i).dst u).tmps[d]? =a.tmps[d]?:=λd hd=>by
  cases Z:(t.oo i).dst with
  |none=>rfl
  |some d'=>have:d'≠d:=λe=>hd (by rw[Z,e]);simp only[Act.put];rw[Array.getElem?_setIfInBounds_ne this]
 refine⟨by simp[y.size],U,λq hq=>by rw[C];exact hc q hq,?_,Af.le_trans y.le M,λx hx=>(ag x hx).trans (y.lo x hx),af,aa,?_,?_,?_,?_,?_,?_,?_⟩
 ·intro j k K B Y;rw[C]at B⊢;rcases B with rfl|B
  ·exact .inr (ab k Y)
  ·exact .inr (y.down j k K B Y)
 ·intro j K B;rw[C]at B;rw[ad j K (λe=>B (.inl e)) (λe=>B (.inr e))];exact y.Vh j K λe=>B (.inr e)
 ·intro j d K B hd;rw[C]at B;by_cases R:j=i
  ·subst R;exact⟨u,S d hd,hv⟩
  ·have O:(t.oo i).dst≠some d:=λe=>R (ok.dst j i d K hi hd e);rw[J d O];obtain⟨z,h1,h2⟩:=y.Qa j d K (B.resolve_left R) hd;exact⟨z,h1,h2.mono M⟩
 ·intro d x W hx;have O:(t.oo i).dst≠some d:=W i hi ((C i).2 (.inl rfl));rw[J d O];obtain⟨z,h1,h2⟩:=y.R1 d x (λj K B=>W j K ((C j).2 (.inr B))) hx;exact⟨z,h1,h2.mono M⟩
 ·cases Z:(t.oo i).dst with
  |none=>exact y.sz
  |some d=>simp[Act.put,y.sz]
 ·have:(a.put (t.oo i).dst u).defers=a.defers:=by cases(t.oo i).dst<;>rfl
  rw[this];exact y.dr.mono M
 ·exact y.rr.mono M
 ·intro j K;rcases(C j).1 K with rfl|K
  ·exact ae
  ·exact y.np j K
theorem Aoc {listed:Array Bool} {c i:Nat} (B:i<listed.size) (E:∀o,t.k i≠.new o) {x:Nat} {o:Ac} (h:t.hD ops.size s.nx (listed.setIfInBounds i true) c x=some o) (y:∀j o',t.Dp ops.size listed c j->t.k j=.new o'->(t.G c).get (s.nx+j)=none):t.hD ops.size s.nx listed c x=some o:=by
 rcases MQ h with⟨j,rfl,hp,q⟩|h
 ·refine MP ⟨hp.1,?_,hp.2.2⟩ q;rcases(Vx B).1 hp.2.1 with rfl|C
  ·exact absurd q (E _)
  ·exact C
 ·refine Wu h λj o' e hp q=>?_;subst e;rw[y j o' hp q]at h;cases h
theorem Wn (ok:Ej t P call ops s) {listed:Array Bool} {a:Act} {w:World} {ρ:Af} {c:Nat} (q:Di t ops s E F ρ0 ro listed a w ρ c) {j:Nat} {o':Ac} (y:t.Dp ops.size listed c j) (B:t.k j=.new o'): (t.G c).get (s.nx+j)=none:=by have h:=ok.kind j y.1;unfold BS.Lg at h;rw[B]at h;exact h.2.2.2 c q.Gm y.2.2
end
end Go.Ev
end
end
