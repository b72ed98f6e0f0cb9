/- Laid by program out of its parts: EvN, EvO, EvP. -/
import Derived.Test.YtlmmbanfhjaioaaGreatDoorMc
noncomputable section
set_option linter.unusedVariables false
set_option linter.unusedSimpArgs false
section
namespace Go.Ev
theorem MC {X X':Operand->Option AV}:∀(l:List Operand),(∀x∈l,X x=X' x)->Gf X l=Gf X' l
 | [],_=>rfl
 |x::l,h=>by show(ob (X x) λa=>ob (Gf X l) λr=>some (a::r))=ob (X' x) λa=>ob (Gf X' l) λr=>some (a::r);rw[h x (by simp),MC l λy hy=>h y (by simp[hy])]
theorem kk {X X':Operand->Option AV}:∀(l:List (Nat×Operand)),(∀x∈l,X x.2=X' x.2)->O6 X l=O6 X' l
 | [],_=>rfl
 |x::l,h=>by show(ob (X x.2) λa=>ob (O6 X l) λr=>some ((x.1,a)::r))=ob (X' x.2) λa=>ob (O6 X' l) λr=>some ((x.1,a)::r);rw[h x (by simp),kk l λy hy=>h y (by simp[hy])]
theorem iE {X X':Operand->Option AV} {x:Option Operand} (h:∀y,x=some y->X y=X' y) (d lim:Nat):EZ X x d lim=EZ X' x d lim:=by
 cases x with
 |none=>rfl
 |some o=>unfold EZ;simp only;rw[h o rfl]
theorem Acw {P:Program} {X X':Operand->Option AV} {t:TypeId} {x:AV} {lo hi mx:Option Operand} (C:∀y,lo=some y->X y=X' y) (B:∀y,hi=some y->X y=X' y) (q:∀y,mx=some y->X y=X' y):Vr P X t x lo hi mx=Vr P X' t x lo hi mx:=by have K:=λd lim=>iE (X:=X) (X':=X') C d lim;have J:=λd lim=>iE (X:=X) (X':=X') B d lim;have E:=λd lim=>iE (X:=X) (X':=X') q d lim;unfold Vr;simp only[K,J,E]
theorem vY {q:Array (Nat×Operand)} {x:Nat×Operand} (h:x∈q.toList):x.2∈(q.toList.map (·.2)).toArray:=by simp only[List.mem_toArray,List.mem_map];exact⟨x,h,rfl⟩
theorem Acs {P:Program} {H:Tr Ae} {X X':Operand->Option AV} {op:Op} (h:∀x∈op.operands,X x=X' x):Hk P H X op=Hk P H X' op:=by
 cases op<;>simp only[Hk,Qh,iG]<;>try rfl
 case move x=>exact h x (by simp[Op.operands])
 case assign x=>exact h x (by simp[Op.operands])
 case pick c a b=>rw[h c (by simp[Op.operands]),h a (by simp[Op.operands]),h b (by simp[Op.operands])]
 case build t parts=>rw[kk parts.toList λx q=>h x.2 (by simp only[Op.operands];exact vY q)]
 case load t x=>rw[h x (by simp[Op.operands])]
 case nilCheck x=>rw[h x (by simp[Op.operands])]
 case binOp op t x y C=>rw[h x (by simp[Op.operands]),h y (by simp[Op.operands])]
 case unOp op t x=>rw[h x (by simp[Op.operands])]
 case convert s d x=>rw[h x (by simp[Op.operands])]
 case makeInterface t x=>rw[h x (by simp[Op.operands])]
 case makeFunc fn first captured=>
  rw[MC first.toList λx q=>h x (by simp[Op.operands];exact .inl (by simpa using q)),MC captured.toList λx q=>h x (by simp[Op.operands];exact .inr (by simpa using q))]
 case slice t x lo hi mx=>
  rw[h x (by simp[Op.operands])];have hc:=λa=>Acw (P:=P) (X:=X) (X':=X') (t:=t) (x:=a) (lo:=lo) (hi:=hi) (mx:=mx) (λy hy=>h y (by simp[Op.operands,hy])) (λy hy=>h y (by simp[Op.operands,hy])) (λy hy=>h y (by simp[Op.operands,hy]));simp only[hc]
 case fieldAddr t x f=>rw[h x (by simp[Op.operands])]
 case field t x f=>rw[h x (by simp[Op.operands])]
 case indexAddr t x i=>rw[h x (by simp[Op.operands]),h i (by simp[Op.operands])]
 case index t x i=>rw[h x (by simp[Op.operands]),h i (by simp[Op.operands])]
 case lookup t x i ok=>rw[h x (by simp[Op.operands]),h i (by simp[Op.operands])]
 case extract x i=>rw[h x (by simp[Op.operands])]
 case typeAssert x t a ok=>rw[h x (by simp[Op.operands])]
 case entry x=>rw[h x (by simp[Op.operands])]
 case call c=>
  obtain⟨B,args,E⟩:=c;cases B with
  |builtin b=>simp only;rw[MC args.toList λx q=>h x (by simp[Op.operands,Call.operands];simpa using q)]
  |value f=>
   simp only
   rw[h f (by simp[Op.operands,Call.operands]),MC args.toList λx q=>h x (by simp[Op.operands,Call.operands];exact .inr (by simpa using q))]
  |invoke _ _=>rfl
theorem Acn {P:Program} {X X':Operand->Option AV} {ni:Nat} {op:Op} (h:∀x∈op.operands,X x=X' x):Ix P X ni op=Ix P X' ni op:=by
 cases op<;>simp only[Ix]<;>try rfl
 case box el x=>rw[h x (by simp[Op.operands])]
 case makeMap t r=>cases r<;>rfl
 case makeSlice t l c=>rw[h l (by simp[Op.operands]),h c (by simp[Op.operands])]
 case buildSlice t len parts=>rw[kk parts.toList λx q=>h x.2 (by simp only[Op.operands];exact vY q)]
 case convert s t x=>rw[h x (by simp[Op.operands])]
 case makeChan t x=>rw[h x (by simp[Op.operands])]
 case range t x=>rw[h x (by simp[Op.operands])]
theorem Acg {P:Program} {call:D7} {X X':Operand->Option AV} {H:Tr Ae} {ni nx:Nat} {op:Op} (h:∀x∈op.operands,X x=X' x): GC P call X H ni nx op=GC P call X' H ni nx op:=by
 cases op<;>simp only[GC]<;>try rfl
 case store t x v=>rw[h x (by simp[Op.operands]),h v (by simp[Op.operands])]
 case mapUpdate t m k v=>rw[h m (by simp[Op.operands]),h k (by simp[Op.operands]),h v (by simp[Op.operands])]
 case insert t m k v=>rw[h m (by simp[Op.operands]),h k (by simp[Op.operands]),h v (by simp[Op.operands])]
 case call c=>
  obtain⟨q,args,B⟩:=c;cases q with
  |builtin b=>
   cases b<;>try rfl
   all_goals
    simp only
    rw[MC args.toList λx y=>h x (by simp[Op.operands,Call.operands];simpa using y)]
  |value f=>
   simp only
   rw[h f (by simp[Op.operands,Call.operands]),MC args.toList λx y=>h x (by simp[Op.operands,Call.operands];exact .inr (by simpa using y))]
  |invoke _ _=>rfl
 case panic x=>rw[h x (by simp[Op.operands])]
 case next x As=>rw[h x (by simp[Op.operands])]
 case range t x=>rw[h x (by simp[Op.operands])]
 case convert s d x=>rw[h x (by simp[Op.operands])]
 case defer c=>
  obtain⟨q,args,B⟩:=c;cases q with
  |builtin b=>rfl
  |value f=>
   simp only
   rw[h f (by simp[Op.operands,Call.operands]),MC args.toList λx y=>h x (by simp[Op.operands,Call.operands];exact .inr (by simpa using y))]
  |invoke _ _=>rfl
theorem Acu {P:Program} {H H':Tr Ae} {X:Operand->Option AV} {op:Op} (h:LF op=false):Hk P H X op=Hk P H' X op:=by cases op<;>first|rfl|(cases h;done)
theorem xV {X X':Operand->Option AV} {x:Option Operand} (h:∀y,x=some y->X y=X' y) (d lim:Nat):Ik X x d lim=Ik X' x d lim:=by
 cases x with
 |none=>rfl
 |some o=>unfold Ik;simp only;rw[h o rfl]
theorem AjR {P:Program} {X X':Operand->Option AV} {t:TypeId} {x:AV} {lo hi mx:Option Operand} (B:∀y,lo=some y->X y=X' y) (q:∀y,hi=some y->X y=X' y): Wz P X t x lo hi mx=Wz P X' t x lo hi mx:=by have E:=λd lim=>xV (X:=X) (X':=X') B d lim;have C:=λd lim=>xV (X:=X) (X':=X') q d lim;unfold Wz;simp only[E,C]
theorem AjP {P:Program} {H:Tr Ae} {X X':Operand->Option AV} {op:Op} (h:∀x∈op.operands,X x=X' x):HP P H X op=HP P H X' op:=by
 cases op<;>simp only[HP]<;>try rfl
 case pick c a b=>rw[h c (by simp[Op.operands]),h a (by simp[Op.operands]),h b (by simp[Op.operands])]
 case load t x=>rw[h x (by simp[Op.operands])]
 case nilCheck x=>rw[h x (by simp[Op.operands])]
 case binOp op t x y C=>rw[h x (by simp[Op.operands]),h y (by simp[Op.operands])]
 case unOp op t x=>rw[h x (by simp[Op.operands])]
 case convert s d x=>rw[h x (by simp[Op.operands])]
 case slice t x lo hi mx=>
  rw[h x (by simp[Op.operands])];have hc:=λa=>AjR (P:=P) (X:=X) (X':=X') (t:=t) (x:=a) (lo:=lo) (hi:=hi) (mx:=mx) (λy hy=>h y (by simp[Op.operands,hy])) (λy hy=>h y (by simp[Op.operands,hy]));simp only[hc]
 case fieldAddr t x f=>rw[h x (by simp[Op.operands])]
 case indexAddr t x i=>rw[h x (by simp[Op.operands]),h i (by simp[Op.operands])]
 case index t x i=>rw[h x (by simp[Op.operands]),h i (by simp[Op.operands])]
 case lookup t x i ok=>rw[h x (by simp[Op.operands]),h i (by simp[Op.operands])]
 case call c=>
  obtain⟨q,args,E⟩:=c;cases q with
  |builtin b=>simp only;rw[MC args.toList λx B=>h x (by simp[Op.operands,Call.operands];simpa using B)]
  |value f=>
   simp only
   rw[h f (by simp[Op.operands,Call.operands]),MC args.toList λx B=>h x (by simp[Op.operands,Call.operands];exact .inr (by simpa using B))]
  |invoke _ _=>rfl
theorem AjN {P:Program} {X X':Operand->Option AV} {ni:Nat} {op:Op} (h:∀x∈op.operands,X x=X' x):Je P X ni op=Je P X' ni op:=by
 cases op<;>simp only[Je]<;>try rfl
 case makeSlice t l c=>rw[h l (by simp[Op.operands]),h c (by simp[Op.operands])]
 case convert s t x=>rw[h x (by simp[Op.operands])]
theorem AjE {P:Program} {X X':Operand->Option AV} {H:Tr Ae} {ni:Nat} {op:Op} (h:∀x∈op.operands,X x=X' x):JG P X H ni op=JG P X' H ni op:=by
 cases op<;>simp only[JG]<;>try rfl
 case store t x v=>rw[h x (by simp[Op.operands]),h v (by simp[Op.operands])]
 case call c=>
  obtain⟨q,args,B⟩:=c;cases q with
  |builtin b=>
   cases b<;>try rfl
   all_goals
    simp only
    rw[MC args.toList λx y=>h x (by simp[Op.operands,Call.operands];simpa using y)]
  |value f=>rfl
  |invoke _ _=>rfl
theorem Acr {P:Program} {H:Tr Ae} {X X':Operand->Option AV} {op:Op} (h:∀x∈op.operands,X x=X' x):Ds P H X op=Ds P H X' op:=by unfold Ds;rw[AjP h,Acs h]
theorem Aco {P:Program} {X X':Operand->Option AV} {ni:Nat} {op:Op} (h:∀x∈op.operands,X x=X' x):EJ P X ni op=EJ P X' ni op:=by unfold EJ;rw[AjN h,Acn h]
theorem sK {P:Program} {call:D7} {X X':Operand->Option AV} {H:Tr Ae} {ni nx:Nat} {op:Op} (h:∀x∈op.operands,X x=X' x): FQ P call X H ni nx op=FQ P call X' H ni nx op:=by unfold FQ;rw[AjE h,Acg h]
theorem sQ {P:Program} {H H':Tr Ae} {X:Operand->Option AV} {op:Op} (h:LF op=false):Ds P H X op=Ds P H' X op:=by
 have:HP P H X op=HP P H' X op:=by cases op<;>first|rfl|(cases h;done)
 unfold Ds;rw[this,Acu h]
end Go.Ev
end
section
namespace Go.Ev
structure BU where
 oo:Nat->Oper
 A:Nat->Nat
 FM:Nat->Tr AV
 k:Nat->DK
 v:Nat->AV
 G:Nat->Tr Ae
 Fa:Nat->Nat
def BU.hv (t:BU) (n q:Nat):Prop:=q<n/\t.k q=.DN
def BU.Gy (t:BU) (n c:Nat):Prop:=c=0\/∃q,t.hv n q/\c=q+1
def BU.Cp (t:BU) (i j:Nat):Prop:=(t.A i).testBit j=true
def BU.late (t:BU) (n c j:Nat):Prop:=∀q,t.hv n q->q<c->¬t.Cp q j
def BU.sub (t:BU) (n q:Nat) (V:Tr Ae) (i c:Nat):Prop:=∀x o,V.get x=some o->(∃j,t.Cp i j/\t.k j=.new o/\t.late n c j/\x=q+j)\/(t.G c).get x=some o
def looks (ops:Array Oper) (o:Oper) (t:Tmp):Prop:=.tmp t∈o.op.operands\/∃j q y,o.guard=some (j,q)/\ops[j]? =some y/\y.dst=some t
def BU.stay (t:BU) (i:Nat):Prop:=t.G (i+1)=t.G i/\t.Fa (i+1)=t.Fa i
def BU.NZ (t:BU) (p:Nat):Prop:=∃v H nx,t.k p=.AB v H nx
def BU.Lm (t:BU) (P:Program) (call:D7) (ops:Array Oper) (y i:Nat):Prop:=
 match t.k i with
 |.off=>E7 ops (t.FM i) (t.oo i)=some false/\t.v i=.AO []/\t.stay i
 |.pure=>E7 ops (t.FM i) (t.oo i)=some true/\t.stay i/\
   ∀c,t.Gy ops.size c->t.late ops.size c i->(∀q,t.hv ops.size q->t.Cp i q->q<c)->∃V,t.sub ops.size y V i c/\Ds P V (B6 (t.FM i)) (t.oo i).op=some (t.v i)
 |.new o=>E7 ops (t.FM i) (t.oo i)=some true/\t.stay i/\EJ P (B6 (t.FM i)) (y+i) (t.oo i).op=some (t.v i,o)/\
   ∀c,t.Gy ops.size c->t.late ops.size c i->(t.G c).get (y+i)=none
 |.DN=>E7 ops (t.FM i) (t.oo i)=some true/\(∀q,t.hv ops.size q->q<i->t.Cp i q)/\
   ∃V,t.sub ops.size y V i i/\FQ P call (B6 (t.FM i)) V (y+i) (t.Fa i) (t.oo i).op=some (.mk (t.v i) (t.G (i+1)) (t.Fa (i+1)))
 |.dead=>(∃p,p<ops.size/\t.Cp i p/\t.NZ p)/\t.stay i
 |.AB v H nx=>E7 ops (t.FM i) (t.oo i)=some true/\t.stay i/\(∀q,t.hv ops.size q->q<i/\t.Cp i q)/\
   ∃V,t.sub ops.size y V i i/\FQ P call (B6 (t.FM i)) V (y+i) (t.Fa i) (t.oo i).op=some (.AB v H nx)
structure Ex (t:BU) (P:Program) (call:D7) (ops:Array Oper) (s:St):Prop where
 Zi:∀i,i<ops.size->ops[i]? =some (t.oo i)
 Cp:∀i j,i<ops.size->t.Cp i j->j<i/\∃e∈(t.oo i).after,Region.binds .any e=true/\(e.on=j\/t.Cp e.on j)
 Lg:∀i e,i<ops.size->e∈(t.oo i).after->Region.binds .any e=true->e.on<i
 T0:t.FM 0=s.T
 Ts:∀i,i<ops.size->Jl s.N (t.FM i) (t.oo i).dst (t.v i)=some (t.FM (i+1))
 dst:∀i j d,i<ops.size->j<ops.size->(t.oo i).dst=some d->(t.oo j).dst=some d->i=j
 look:∀i d k,i<ops.size->k<ops.size->looks ops (t.oo i) d->(t.oo k).dst=some d->k≠i->t.Cp i k\/t.Cp k i
 G0:t.G 0=s.H
 n0:t.Fa 0=s.nx+ops.size
 kind:∀i,i<ops.size->t.Lm P call ops s.nx i
def Ls (listed:Array Bool) (i:Nat):Prop:=listed.getD i false=true
theorem UL {listed:Array Bool} {i j:Nat} (hi:i<listed.size):Ls (listed.setIfInBounds i true) j↔j=i\/Ls listed j:=by
 unfold Ls;by_cases h:i=j
 ·subst h;simp[hi]
 ·rw[getD_set_ne false h];constructor
  ·exact .inr
  ·rintro(rfl|h');exact absurd rfl h;exact h'
def BU.Dv (t:BU) (n:Nat) (listed:Array Bool) (c j:Nat):Prop:=j<n/\Ls listed j/\t.late n c j
open Classical in
def BU.hD (t:BU) (n q:Nat) (listed:Array Bool) (c x:Nat):Option Ae:=
 if q<=x/\t.Dv n listed c (x-q)then(match t.k (x-q)with|.new o=>some o|_=>(t.G c).get x)else(t.G c).get x
theorem MW {t:BU} {n q:Nat} {listed:Array Bool} {c x:Nat} {o:Ae} (h:t.hD n q listed c x=some o): (∃j,x=q+j/\t.Dv n listed c j/\t.k j=.new o)\/(t.G c).get x=some o:=by
 unfold BU.hD at h;split at h
 ·rename_i y;split at h
  ·rename_i C B;injection h with h;subst h;exact .inl ⟨x-q,by omega,y.2,B⟩
  ·exact .inr h
 ·exact .inr h
theorem MV {t:BU} {n q:Nat} {listed:Array Bool} {c j:Nat} {o:Ae} (y:t.Dv n listed c j) (B:t.k j=.new o):t.hD n q listed c (q+j)=some o:=by
 unfold BU.hD;have e:q+j-q=j:=by omega
 rw[e,Am ⟨by omega,y⟩,B]
theorem VB {t:BU} {n q:Nat} {listed:Array Bool} {c x:Nat} {o:Ae} (C:(t.G c).get x=some o) (B:∀j y,x=q+j->t.Dv n listed c j->t.k j=.new y->False):t.hD n q listed c x=some o:=by
 unfold BU.hD;split
 ·rename_i E;split
  ·rename_i y J;exact(B (x-q) y (by omega) E.2 J).elim
  ·exact C
 ·exact C
structure Dn (t:BU) (ops:Array Oper) (s:St) (E:Env) (F:Nat->Option Obj) (ρ0:Ai) (ro:Option Nat) (listed:Array Bool) (a:Act) (w:World) (ρ:Ai) (c:Nat):Prop where
 size:listed.size=ops.size
 Gy:t.Gy ops.size c
 hc:∀q,t.hv ops.size q->(Ls listed q↔q<c)
 down:∀i j,i<ops.size->Ls listed i->t.Cp i j->Ls listed j
 le:ρ0.le ρ
 lo:∀i,i<s.nx->ρ i=ρ0 i
 nn:s.nx+ops.size<=t.Fa c
 rel:Rel E F (t.Fa c) ρ (t.hD ops.size s.nx listed c) w
 Uy:∀j,j<ops.size->¬Ls listed j->ρ (s.nx+j)=none
 PG:∀i d,i<ops.size->Ls listed i->(t.oo i).dst=some d->∃u,a.tmps[d]? =some u/\VR ρ (t.v i) u
 Ri:∀d x,(∀i,i<ops.size->Ls listed i->(t.oo i).dst≠some d)->s.T.get d=some x->∃u,a.tmps[d]? =some u/\VR ρ x u
 sz:a.tmps.size=s.N
 dr:DR ρ s.D a.defers
 rr:PX ρ s.ro ro
 np:∀i,Ls listed i->¬t.NZ i
section
variable {t:BU} {P:Program} {call:D7} {ops:Array Oper} {s:St}
theorem PE (ok:Ex t P call ops s):∀(p d:Nat) (b:AV),p<=ops.size->(t.FM p).get d=some b-> (∃k,k<p/\(t.oo k).dst=some d/\t.v k=b)\/((∀k,k<p->(t.oo k).dst≠some d)/\s.T.get d=some b)
 |0,d,b,_,h=>.inr ⟨λk J=>absurd J (Nat.not_lt_zero k),by rw[<-ok.T0];exact h⟩
 |p+1,d,b,hp,h=>by
  have q:=ok.Ts p (by omega);unfold Jl at q;cases hd:(t.oo p).dst with
  |none=>
   rw[hd]at q;injection q with q;rw[<-q]at h;rcases PE ok p d b (by omega) h with⟨k,E,y⟩|⟨E,y⟩
   ·exact .inl ⟨k,by omega,y⟩
   ·refine .inr ⟨λk J=>?_,y⟩;by_cases B:k=p
    ·subst B;rw[hd];exactλh=>nomatch h
    ·exact E k (by omega)
  |some K=>
   rw[hd]at q;obtain⟨_,q⟩:=AL.1 q;injection q with q;rw[<-q,Tr.Hl]at h;by_cases C:K=d
   ·subst C;rw[Am rfl]at h;injection h with h;exact .inl ⟨p,by omega,hd,h⟩
   ·rw[Ad C]at h;rcases PE ok p d b (by omega) h with⟨k,E,y⟩|⟨E,y⟩
    ·exact .inl ⟨k,by omega,y⟩
    ·refine .inr ⟨λk J=>?_,y⟩;by_cases B:k=p
     ·subst B;rw[hd];exactλh=>C (Option.some.inj h)
     ·exact E k (by omega)
theorem Akx (ok:Ex t P call ops s) {i:Nat} (hi:i<ops.size) (q:t.k i≠.DN):t.stay i:=by
 have h:=ok.kind i hi;unfold BU.Lm at h;split at h
 ·exact h.2.2
 ·exact h.2.1
 ·exact h.2.1
 ·rename_i y;exact absurd y q
 ·exact h.2
 ·exact h.2.1
theorem dH (ok:Ex t P call ops s):∀(d p:Nat),p+d<=ops.size->(∀q,t.hv ops.size q->(q<p↔q<p+d))->t.G (p+d)=t.G p/\t.Fa (p+d)=t.Fa p
 |0,p,_,_=>⟨rfl,rfl⟩
 |d+1,p,hle,h=>by
  have y:t.k (p+d)≠.DN:=λJ=>by have:=h (p+d) ⟨by omega,J⟩;omega
  have B:=dH ok d p (by omega) λq E=>by
   have:=h q E;have K:q≠p+d:=λe=>by subst e;exact y E.2
   omega
  have C:=Akx ok (i:=p+d) (by omega) y;exact⟨(show t.G (p+(d+1))=_ from C.1).trans B.1,(show t.Fa (p+(d+1))=_ from C.2).trans B.2⟩
theorem W2 (ok:Ex t P call ops s) {p y:Nat} (E:p<=ops.size) (B:y<=ops.size) (h:∀q,t.hv ops.size q->(q<p↔q<y)):t.G p=t.G y/\t.Fa p=t.Fa y:=by
 rcases Nat.le_total p y with hle|hle
 ·obtain⟨d,rfl⟩:=Nat.le.dest hle;have:=dH ok d p B h;exact⟨this.1.symm,this.2.symm⟩
 ·obtain⟨d,rfl⟩:=Nat.le.dest hle;exact dH ok d y E λq C=>(h q C).symm
end
end Go.Ev
end
section
namespace Go.Ev
section
variable {t:BU} {P:Program} {call:D7} {ops:Array Oper} {s:St}
theorem XU {c:Nat} (hc:t.Gy ops.size c):c<=ops.size:=by
 rcases hc with rfl|⟨q,y,rfl⟩
 ·omega
 ·exact y.1
variable {E:Env} {F:Nat->Option Obj} {ρ0:Ai} {ro:Option Nat}
theorem kN {listed:Array Bool} {a:Act} {w:World} {ρ:Ai} {c i:Nat} (y:Dn t ops s E F ρ0 ro listed a w ρ c) (K:¬Ls listed i):t.late ops.size c i:=λq J B C=>K (y.down q i J.1 ((y.hc q J).2 B) C)
theorem y8 (ok:Ex t P call ops s) {listed:Array Bool} {a:Act} {w:World} {ρ:Ai} {c i:Nat} (y:Dn t ops s E F ρ0 ro listed a w ρ c) (hi:i<ops.size) (q:∀j,t.Cp i j->Ls listed j) {V:Tr Ae} (M:t.sub ops.size s.nx V i c) {x:Nat} {o:Ae} (K:V.get x=some o):t.hD ops.size s.nx listed c x=some o:=by
 rcases M x o K with⟨j,J,R,O,rfl⟩|h
 ·exact MV ⟨Nat.lt_trans (ok.Cp i j hi J).1 hi,q j J,O⟩ R
 ·refine VB h λj S B C L=>?_;subst B;have h:=ok.kind j C.1;unfold BU.Lm at h;rw[L]at h;have:=h.2.2.2 c y.Gy C.2.2;simp_all
theorem vB (ok:Ex t P call ops s) {listed:Array Bool} {a:Act} {w:World} {ρ:Ai} {c i:Nat} (q:Dn t ops s E F ρ0 ro listed a w ρ c) (hi:i<ops.size) (M:¬Ls listed i) (C:∀j,t.Cp i j->Ls listed j) {d:Tmp} (L:looks ops (t.oo i) d) {b:AV} (R:(t.FM i).get d=some b):∃u,a.tmps[d]? =some u/\VR ρ b u:=by
 rcases PE ok i d b (by omega) R with⟨k,O,J,S⟩|⟨O,J⟩
 ·have y:k<ops.size:=by omega
  rcases ok.look i d k hi y L J (by omega)with h|h
  ·subst S;exact q.PG k d y (C k h) J
  ·have:=(ok.Cp k i y h).1;omega
 ·refine q.Ri d b (λk y B hd=>?_) J;have K:k≠i:=λe=>by subst e;exact M B
  rcases ok.look i d k hi y L hd K with h|h
  ·exact O k (ok.Cp i k hi h).1 hd
  ·exact M (q.down k i y B h)
theorem AlI (ok:Ex t P call ops s) {listed:Array Bool} {a:Act} {w:World} {ρ:Ai} {c i:Nat} (B:Dn t ops s E F ρ0 ro listed a w ρ c) (hi:i<ops.size) (J:¬Ls listed i) (y:∀j,t.Cp i j->Ls listed j):∃X:Operand->Option AV,XR ρ X a.eval/\∀x∈(t.oo i).op.operands,X x=B6 (t.FM i) x:=by
 classical
 refine⟨λx=>if x∈(t.oo i).op.operands then B6 (t.FM i) x else none,λx b q=>?_,λx q=>Am q⟩;simp only at q;split at q
 ·rename_i C;cases x with
  |tmp d=>
   obtain⟨u,L,K⟩:=vB ok B hi J y (.inl C) (show(t.FM i).get d=some b from q);have:a.eval (.tmp d)=u:=by simp[Act.eval,L]
   rw[this];exact K
  |const v=>exact TR.xr (T:=.leaf) (ρ:=ρ) (a:=a) (λt a h=>by rw[Tr.EK]at h;cases h) (.const v) b q
  |func f=>exact TR.xr (T:=.leaf) (ρ:=ρ) (a:=a) (λt a h=>by rw[Tr.EK]at h;cases h) (.func f) b q
  |global g=>exact TR.xr (T:=.leaf) (ρ:=ρ) (a:=a) (λt a h=>by rw[Tr.EK]at h;cases h) (.global g) b q
 ·cases q
theorem WS (ok:Ex t P call ops s) {listed:Array Bool} {a:Act} {w:World} {ρ:Ai} {c i:Nat} (J:Dn t ops s E F ρ0 ro listed a w ρ c) (hi:i<ops.size) (O:¬Ls listed i) (B:∀j,t.Cp i j->Ls listed j) {b:Bool} (h:E7 ops (t.FM i) (t.oo i)=some b):Region.wanted (t.oo i) (yielded ops a.tmps)=b:=by
 unfold E7 at h;unfold Region.wanted;cases C:(t.oo i).guard with
 |none=>rw[C]at h;injection h with h
 |some p=>
  obtain⟨j,want⟩:=p;rw[C]at h;obtain⟨M,y,S⟩:=Ag.1 h;obtain⟨d,hd,R⟩:=Ag.1 S;obtain⟨v,hv,q⟩:=Ag.1 R;obtain⟨u,hu,L⟩:=vB ok J hi O B (.inr ⟨j,want,M,C,y,hd⟩) hv;have hy:yielded ops a.tmps j=match u with|.bool b=>some b|_=>none:=by unfold yielded;rw[y];simp only[Option.bind_some,hd,hu];cases u<;>rfl
  show(yielded ops a.tmps j==some want)=b;rw[hy];split at q
  ·injection q with q;subst q;cases L;rename_i b;cases b<;>cases want<;>rfl
  ·rename_i K;injection q with q;subst q;cases L<;>first|rfl|(exact absurd rfl (K _))
theorem mg (ok:Ex t P call ops s) {listed:Array Bool} {a:Act} {w w':World} {ρ L:Ai} {c V i:Nat} (y:Dn t ops s E F ρ0 ro listed a w ρ c) (hi:i<ops.size) (hL:¬Ls listed i) (ab:∀j,t.Cp i j->Ls listed j) (ae:¬t.NZ i) {u:Value} (M:ρ.le L) (ag:∀x,x<s.nx->L x=ρ x) (ad:∀j,j<ops.size->j≠i->¬Ls listed j->L (s.nx+j)=ρ (s.nx+j)) (hv:VR L (t.v i) u) (U:t.Gy ops.size V) (hc:∀q,t.hv ops.size q->((q=i\/Ls listed q)↔q<V)) (af:s.nx+ops.size<=t.Fa V) (aa:Rel E F (t.Fa V) L (t.hD ops.size s.nx (listed.setIfInBounds i true) V) w'): Dn t ops s E F ρ0 ro (listed.setIfInBounds i true) (a.put (t.oo i).dst u) w' L V:=by
 have C:=λj=>UL (listed:=listed) (j:=j) (show i<listed.size by rw[y.size];exact hi);have ah:∀d,(t.oo i).dst=some d->d<s.N:=λd hd=>by have:=ok.Ts i hi;unfold Jl at this;rw[hd]at this;have:=(AL.1 this).1;rwa[Co]at this
 have S:∀d,(t.oo i).dst=some d->(a.put (t.oo i).dst u).tmps[d]? =some u:=λd hd=>by rw[hd];simp[Act.put,y.sz,ah d hd]
 have J:∀d,(t.oo i).dst≠some d->(a.put (t.oo i).dst u).tmps[d]? =a.tmps[d]?:=λd hd=>by
  cases Z:(t.oo i).dst with
  |none=>rfl
  |some d'=>have:d'≠d:=λe=>hd (by rw[Z,e]);simp only[Act.put];rw[Array.getElem?_setIfInBounds_ne this]
 refine⟨by simp[y.size],U,λq hq=>by rw[C];exact hc q hq,?_,Ai.le_trans y.le M,λx hx=>(ag x hx).trans (y.lo x hx),af,aa,?_,?_,?_,?_,?_,?_,?_⟩
 ·intro j k K B Y;rw[C]at B⊢;rcases B with rfl|B
  ·exact .inr (ab k Y)
  ·exact .inr (y.down j k K B Y)
 ·intro j K B;rw[C]at B;rw[ad j K (λe=>B (.inl e)) (λe=>B (.inr e))];exact y.Uy j K λe=>B (.inr e)
 ·intro j d K B hd;rw[C]at B;by_cases R:j=i
  ·subst R;exact⟨u,S d hd,hv⟩
  ·have O:(t.oo i).dst≠some d:=λe=>R (ok.dst j i d K hi hd e);rw[J d O];obtain⟨z,h1,h2⟩:=y.PG j d K (B.resolve_left R) hd;exact⟨z,h1,h2.mono M⟩
 ·intro d x W hx;have O:(t.oo i).dst≠some d:=W i hi ((C i).2 (.inl rfl));rw[J d O];obtain⟨z,h1,h2⟩:=y.Ri d x (λj K B=>W j K ((C j).2 (.inr B))) hx;exact⟨z,h1,h2.mono M⟩
 ·cases Z:(t.oo i).dst with
  |none=>exact y.sz
  |some d=>simp[Act.put,y.sz]
 ·have:(a.put (t.oo i).dst u).defers=a.defers:=by cases(t.oo i).dst<;>rfl
  rw[this];exact y.dr.mono M
 ·exact y.rr.mono M
 ·intro j K;rcases(C j).1 K with rfl|K
  ·exact ae
  ·exact y.np j K
theorem Akw {listed:Array Bool} {c i:Nat} (C:i<listed.size) (J:∀o,t.k i≠.new o) {x:Nat} {o:Ae} (h:t.hD ops.size s.nx (listed.setIfInBounds i true) c x=some o) (B:∀j y,t.Dv ops.size listed c j->t.k j=.new y->(t.G c).get (s.nx+j)=none):t.hD ops.size s.nx listed c x=some o:=by
 rcases MW h with⟨j,rfl,hp,q⟩|h
 ·refine MV ⟨hp.1,?_,hp.2.2⟩ q;rcases(UL C).1 hp.2.1 with rfl|E
  ·exact absurd q (J _)
  ·exact E
 ·refine VB h λj y e hp q=>?_;subst e;rw[B j y hp q]at h;cases h
theorem Vw (ok:Ex t P call ops s) {listed:Array Bool} {a:Act} {w:World} {ρ:Ai} {c:Nat} (q:Dn t ops s E F ρ0 ro listed a w ρ c) {j:Nat} {B:Ae} (y:t.Dv ops.size listed c j) (C:t.k j=.new B): (t.G c).get (s.nx+j)=none:=by have h:=ok.kind j y.1;unfold BU.Lm at h;rw[C]at h;exact h.2.2.2 c q.Gy y.2.2
end
end Go.Ev
end
end
