/- Laid by program out of its parts: EvN, EvO, EvP. -/
import Derived.Test.YthallodoidghoaaGreatMc
noncomputable section
set_option linter.unusedVariables false
set_option linter.unusedSimpArgs false
section
namespace Go.Ev
theorem MU {X X':Operand->Option AV}:∀(l:List Operand),(∀x∈l,X x=X' x)->F0 X l=F0 X' l
 | [],_=>rfl
 |x::l,h=>by show(ob (X x) λa=>ob (F0 X l) λr=>some (a::r))=ob (X' x) λa=>ob (F0 X' l) λr=>some (a::r);rw[h x (by simp),MU l λy hy=>h y (by simp[hy])]
theorem uJ {X X':Operand->Option AV}:∀(l:List (Nat×Operand)),(∀x∈l,X x.2=X' x.2)->P7 X l=P7 X' l
 | [],_=>rfl
 |x::l,h=>by show(ob (X x.2) λa=>ob (P7 X l) λr=>some ((x.1,a)::r))=ob (X' x.2) λa=>ob (P7 X' l) λr=>some ((x.1,a)::r);rw[h x (by simp),uJ l λy hy=>h y (by simp[hy])]
theorem rN {X X':Operand->Option AV} {x:Option Operand} (h:∀y,x=some y->X y=X' y) (d lim:Nat):EJ X x d lim=EJ X' x d lim:=by
 cases x with
 |none=>rfl
 |some o=>unfold EJ;simp only;rw[h o rfl]
theorem Ah2 {P:Program} {X X':Operand->Option AV} {t:TypeId} {x:AV} {lo hi mx:Option Operand} (B:∀y,lo=some y->X y=X' y) (z:∀y,hi=some y->X y=X' y) (r:∀y,mx=some y->X y=X' y):Xc P X t x lo hi mx=Xc P X' t x lo hi mx:=by have L:=λd lim=>rN (X:=X) (X':=X') B d lim;have K:=λd lim=>rN (X:=X) (X':=X') z d lim;have J:=λd lim=>rN (X:=X) (X':=X') r d lim;unfold Xc;simp only[L,K,J]
theorem Ack {r:Array (Nat×Operand)} {x:Nat×Operand} (h:x∈r.toList):x.2∈(r.toList.map (·.2)).toArray:=by simp only[List.mem_toArray,List.mem_map];exact⟨x,h,rfl⟩
theorem AhY {P:Program} {H:Tr Ah} {X X':Operand->Option AV} {op:Op} (h:∀x∈op.operands,X x=X' x):G4 P H X op=G4 P H X' op:=by
 cases op<;>simp only[G4,RD,rR]<;>try rfl
 case move x=>exact h x (by simp[Op.operands])
 case assign x=>exact h x (by simp[Op.operands])
 case pick c a b=>rw[h c (by simp[Op.operands]),h a (by simp[Op.operands]),h b (by simp[Op.operands])]
 case build t parts=>rw[uJ parts.toList λx r=>h x.2 (by simp only[Op.operands];exact Ack r)]
 case load t x=>rw[h x (by simp[Op.operands])]
 case nilCheck x=>rw[h x (by simp[Op.operands])]
 case binOp op t x y B=>rw[h x (by simp[Op.operands]),h y (by simp[Op.operands])]
 case unOp op t x=>rw[h x (by simp[Op.operands])]
 case convert s d x=>rw[h x (by simp[Op.operands])]
 case makeInterface t x=>rw[h x (by simp[Op.operands])]
 case makeFunc fn first captured=>
  rw[MU first.toList λx r=>h x (by simp[Op.operands];exact .inl (by simpa using r)),MU captured.toList λx r=>h x (by simp[Op.operands];exact .inr (by simpa using r))]
 case slice t x lo hi mx=>
  rw[h x (by simp[Op.operands])];have hc:=λa=>Ah2 (P:=P) (X:=X) (X':=X') (t:=t) (x:=a) (lo:=lo) (hi:=hi) (mx:=mx) (λy hy=>h y (by simp[Op.operands,hy])) (λy hy=>h y (by simp[Op.operands,hy])) (λy hy=>h y (by simp[Op.operands,hy]));simp only[hc]
 case fieldAddr t x f=>rw[h x (by simp[Op.operands])]
 case field t x f=>rw[h x (by simp[Op.operands])]
 case indexAddr t x i=>rw[h x (by simp[Op.operands]),h i (by simp[Op.operands])]
 case index t x i=>rw[h x (by simp[Op.operands]),h i (by simp[Op.operands])]
 case lookup t x i ok=>rw[h x (by simp[Op.operands]),h i (by simp[Op.operands])]
 case extract x i=>rw[h x (by simp[Op.operands])]
 case typeAssert x t a ok=>rw[h x (by simp[Op.operands])]
 case entry x=>rw[h x (by simp[Op.operands])]
 case call c=>
  obtain⟨z,args,J⟩:=c;cases z with
  |builtin b=>simp only;rw[MU args.toList λx r=>h x (by simp[Op.operands,Call.operands];simpa using r)]
  |value f=>
   simp only
   rw[h f (by simp[Op.operands,Call.operands]),MU args.toList λx r=>h x (by simp[Op.operands,Call.operands];exact .inr (by simpa using r))]
  |invoke _ _=>rfl
theorem AhU {P:Program} {X X':Operand->Option AV} {ni:Nat} {op:Op} (h:∀x∈op.operands,X x=X' x):Ic P X ni op=Ic P X' ni op:=by
 cases op<;>simp only[Ic]<;>try rfl
 case box el x=>rw[h x (by simp[Op.operands])]
 case makeMap t r=>cases r<;>rfl
 case makeSlice t l c=>rw[h l (by simp[Op.operands]),h c (by simp[Op.operands])]
 case buildSlice t len parts=>rw[uJ parts.toList λx y=>h x.2 (by simp only[Op.operands];exact Ack y)]
 case convert s t x=>rw[h x (by simp[Op.operands])]
 case makeChan t x=>rw[h x (by simp[Op.operands])]
 case range t x=>rw[h x (by simp[Op.operands])]
theorem AhN {P:Program} {call:Da} {X X':Operand->Option AV} {H:Tr Ah} {ni nx:Nat} {op:Op} (h:∀x∈op.operands,X x=X' x): Gk P call X H ni nx op=Gk P call X' H ni nx op:=by
 cases op<;>simp only[Gk]<;>try rfl
 case store t x v=>rw[h x (by simp[Op.operands]),h v (by simp[Op.operands])]
 case mapUpdate t m k v=>rw[h m (by simp[Op.operands]),h k (by simp[Op.operands]),h v (by simp[Op.operands])]
 case insert t m k v=>rw[h m (by simp[Op.operands]),h k (by simp[Op.operands]),h v (by simp[Op.operands])]
 case call c=>
  obtain⟨r,args,z⟩:=c;cases r with
  |builtin b=>
   cases b<;>try rfl
   all_goals
    simp only
    rw[MU args.toList λx y=>h x (by simp[Op.operands,Call.operands];simpa using y)]
  |value f=>
   simp only
   rw[h f (by simp[Op.operands,Call.operands]),MU args.toList λx y=>h x (by simp[Op.operands,Call.operands];exact .inr (by simpa using y))]
  |invoke _ _=>rfl
 case panic x=>rw[h x (by simp[Op.operands])]
 case next x A5=>rw[h x (by simp[Op.operands])]
 case range t x=>rw[h x (by simp[Op.operands])]
 case convert s d x=>rw[h x (by simp[Op.operands])]
 case defer c=>
  obtain⟨r,args,z⟩:=c;cases r with
  |builtin b=>rfl
  |value f=>
   simp only
   rw[h f (by simp[Op.operands,Call.operands]),MU args.toList λx y=>h x (by simp[Op.operands,Call.operands];exact .inr (by simpa using y))]
  |invoke _ _=>rfl
theorem AhZ {P:Program} {H H':Tr Ah} {X:Operand->Option AV} {op:Op} (h:LG op=false):G4 P H X op=G4 P H' X op:=by cases op<;>first|rfl|(cases h;done)
theorem AdW {X X':Operand->Option AV} {x:Option Operand} (h:∀y,x=some y->X y=X' y) (d lim:Nat):H5 X x d lim=H5 X' x d lim:=by
 cases x with
 |none=>rfl
 |some o=>unfold H5;simp only;rw[h o rfl]
theorem ApF {P:Program} {X X':Operand->Option AV} {t:TypeId} {x:AV} {lo hi mx:Option Operand} (z:∀y,lo=some y->X y=X' y) (r:∀y,hi=some y->X y=X' y): YO P X t x lo hi mx=YO P X' t x lo hi mx:=by have J:=λd lim=>AdW (X:=X) (X':=X') z d lim;have B:=λd lim=>AdW (X:=X) (X':=X') r d lim;unfold YO;simp only[J,B]
theorem ApD {P:Program} {H:Tr Ah} {X X':Operand->Option AV} {op:Op} (h:∀x∈op.operands,X x=X' x):HC P H X op=HC P H X' op:=by
 cases op<;>simp only[HC]<;>try rfl
 case pick c a b=>rw[h c (by simp[Op.operands]),h a (by simp[Op.operands]),h b (by simp[Op.operands])]
 case load t x=>rw[h x (by simp[Op.operands])]
 case nilCheck x=>rw[h x (by simp[Op.operands])]
 case binOp op t x y B=>rw[h x (by simp[Op.operands]),h y (by simp[Op.operands])]
 case unOp op t x=>rw[h x (by simp[Op.operands])]
 case convert s d x=>rw[h x (by simp[Op.operands])]
 case slice t x lo hi mx=>
  rw[h x (by simp[Op.operands])];have hc:=λa=>ApF (P:=P) (X:=X) (X':=X') (t:=t) (x:=a) (lo:=lo) (hi:=hi) (mx:=mx) (λy hy=>h y (by simp[Op.operands,hy])) (λy hy=>h y (by simp[Op.operands,hy]));simp only[hc]
 case fieldAddr t x f=>rw[h x (by simp[Op.operands])]
 case indexAddr t x i=>rw[h x (by simp[Op.operands]),h i (by simp[Op.operands])]
 case index t x i=>rw[h x (by simp[Op.operands]),h i (by simp[Op.operands])]
 case lookup t x i ok=>rw[h x (by simp[Op.operands]),h i (by simp[Op.operands])]
 case call c=>
  obtain⟨r,args,J⟩:=c;cases r with
  |builtin b=>simp only;rw[MU args.toList λx z=>h x (by simp[Op.operands,Call.operands];simpa using z)]
  |value f=>
   simp only
   rw[h f (by simp[Op.operands,Call.operands]),MU args.toList λx z=>h x (by simp[Op.operands,Call.operands];exact .inr (by simpa using z))]
  |invoke _ _=>rfl
theorem ApB {P:Program} {X X':Operand->Option AV} {ni:Nat} {op:Op} (h:∀x∈op.operands,X x=X' x):I2 P X ni op=I2 P X' ni op:=by
 cases op<;>simp only[I2]<;>try rfl
 case makeSlice t l c=>rw[h l (by simp[Op.operands]),h c (by simp[Op.operands])]
 case convert s t x=>rw[h x (by simp[Op.operands])]
theorem Apt {P:Program} {X X':Operand->Option AV} {H:Tr Ah} {ni:Nat} {op:Op} (h:∀x∈op.operands,X x=X' x):JA P X H ni op=JA P X' H ni op:=by
 cases op<;>simp only[JA]<;>try rfl
 case store t x v=>rw[h x (by simp[Op.operands]),h v (by simp[Op.operands])]
 case call c=>
  obtain⟨r,args,z⟩:=c;cases r with
  |builtin b=>
   cases b<;>try rfl
   all_goals
    simp only
    rw[MU args.toList λx y=>h x (by simp[Op.operands,Call.operands];simpa using y)]
  |value f=>rfl
  |invoke _ _=>rfl
theorem AhX {P:Program} {H:Tr Ah} {X X':Operand->Option AV} {op:Op} (h:∀x∈op.operands,X x=X' x):De P H X op=De P H X' op:=by unfold De;rw[ApD h,AhY h]
theorem AhV {P:Program} {X X':Operand->Option AV} {ni:Nat} {op:Op} (h:∀x∈op.operands,X x=X' x):Ew P X ni op=Ew P X' ni op:=by unfold Ew;rw[ApB h,AhU h]
theorem Aap {P:Program} {call:Da} {X X':Operand->Option AV} {H:Tr Ah} {ni nx:Nat} {op:Op} (h:∀x∈op.operands,X x=X' x): FN P call X H ni nx op=FN P call X' H ni nx op:=by unfold FN;rw[Apt h,AhN h]
theorem Aaw {P:Program} {H H':Tr Ah} {X:Operand->Option AV} {op:Op} (h:LG op=false):De P H X op=De P H' X op:=by
 have:HC P H X op=HC P H' X op:=by cases op<;>first|rfl|(cases h;done)
 unfold De;rw[this,AhZ h]
end Go.Ev
end
section
namespace Go.Ev
structure B5 where
 oo:Nat->Oper
 A:Nat->Nat
 FL:Nat->Tr AV
 k:Nat->DK
 v:Nat->AV
 G:Nat->Tr Ah
 E0:Nat->Nat
def B5.hv (t:B5) (n q:Nat):Prop:=q<n/\t.k q=.Ds
def B5.Gj (t:B5) (n c:Nat):Prop:=c=0\/∃q,t.hv n q/\c=q+1
def B5.Cj (t:B5) (i j:Nat):Prop:=(t.A i).testBit j=true
def B5.late (t:B5) (n c j:Nat):Prop:=∀q,t.hv n q->q<c->¬t.Cj q j
def B5.sub (t:B5) (n r:Nat) (V:Tr Ah) (i c:Nat):Prop:=∀x o,V.get x=some o->(∃j,t.Cj i j/\t.k j=.new o/\t.late n c j/\x=r+j)\/(t.G c).get x=some o
def looks (ops:Array Oper) (o:Oper) (t:Tmp):Prop:=.tmp t∈o.op.operands\/∃j r x,o.guard=some (j,r)/\ops[j]? =some x/\x.dst=some t
def B5.stay (t:B5) (i:Nat):Prop:=t.G (i+1)=t.G i/\t.E0 (i+1)=t.E0 i
def B5.Oz (t:B5) (p:Nat):Prop:=∃v H nx,t.k p=.AG v H nx
def B5.Le (t:B5) (P:Program) (call:Da) (ops:Array Oper) (r i:Nat):Prop:=
 match t.k i with
 |.off=>Ex ops (t.FL i) (t.oo i)=some false/\t.v i=.AM []/\t.stay i
 |.pure=>Ex ops (t.FL i) (t.oo i)=some true/\t.stay i/\
   ∀c,t.Gj ops.size c->t.late ops.size c i->(∀q,t.hv ops.size q->t.Cj i q->q<c)->∃V,t.sub ops.size r V i c/\De P V (BR (t.FL i)) (t.oo i).op=some (t.v i)
 |.new o=>Ex ops (t.FL i) (t.oo i)=some true/\t.stay i/\Ew P (BR (t.FL i)) (r+i) (t.oo i).op=some (t.v i,o)/\
   ∀c,t.Gj ops.size c->t.late ops.size c i->(t.G c).get (r+i)=none
 |.Ds=>Ex ops (t.FL i) (t.oo i)=some true/\(∀q,t.hv ops.size q->q<i->t.Cj i q)/\
   ∃V,t.sub ops.size r V i i/\FN P call (BR (t.FL i)) V (r+i) (t.E0 i) (t.oo i).op=some (.mk (t.v i) (t.G (i+1)) (t.E0 (i+1)))
 |.dead=>(∃p,p<ops.size/\t.Cj i p/\t.Oz p)/\t.stay i
 |.AG v H nx=>Ex ops (t.FL i) (t.oo i)=some true/\t.stay i/\(∀q,t.hv ops.size q->q<i/\t.Cj i q)/\
   ∃V,t.sub ops.size r V i i/\FN P call (BR (t.FL i)) V (r+i) (t.E0 i) (t.oo i).op=some (.AG v H nx)
structure Ef (t:B5) (P:Program) (call:Da) (ops:Array Oper) (s:St):Prop where
 eu:∀i,i<ops.size->ops[i]? =some (t.oo i)
 Cj:∀i j,i<ops.size->t.Cj i j->j<i/\∃e∈(t.oo i).after,Region.binds .any e=true/\(e.on=j\/t.Cj e.on j)
 K8:∀i e,i<ops.size->e∈(t.oo i).after->Region.binds .any e=true->e.on<i
 T0:t.FL 0=s.T
 Ts:∀i,i<ops.size->Fa s.N (t.FL i) (t.oo i).dst (t.v i)=some (t.FL (i+1))
 dst:∀i j d,i<ops.size->j<ops.size->(t.oo i).dst=some d->(t.oo j).dst=some d->i=j
 look:∀i d k,i<ops.size->k<ops.size->looks ops (t.oo i) d->(t.oo k).dst=some d->k≠i->t.Cj i k\/t.Cj k i
 G0:t.G 0=s.H
 n0:t.E0 0=s.nx+ops.size
 kind:∀i,i<ops.size->t.Le P call ops s.nx i
def Ls (listed:Array Bool) (i:Nat):Prop:=listed.getD i false=true
theorem Wa {listed:Array Bool} {i j:Nat} (hi:i<listed.size):Ls (listed.setIfInBounds i true) j↔j=i\/Ls listed j:=by
 unfold Ls;by_cases h:i=j
 ·subst h;simp[hi]
 ·rw[getD_set_ne false h];constructor
  ·exact .inr
  ·rintro(rfl|h');exact absurd rfl h;exact h'
def B5.Cq (t:B5) (n:Nat) (listed:Array Bool) (c j:Nat):Prop:=j<n/\Ls listed j/\t.late n c j
open Classical in
def B5.hD (t:B5) (n r:Nat) (listed:Array Bool) (c x:Nat):Option Ah:=
 if r<=x/\t.Cq n listed c (x-r)then(match t.k (x-r)with|.new o=>some o|_=>(t.G c).get x)else(t.G c).get x
theorem Ng {t:B5} {n r:Nat} {listed:Array Bool} {c x:Nat} {o:Ah} (h:t.hD n r listed c x=some o): (∃j,x=r+j/\t.Cq n listed c j/\t.k j=.new o)\/(t.G c).get x=some o:=by
 unfold B5.hD at h;split at h
 ·rename_i y;split at h
  ·rename_i o' z;injection h with h;subst h;exact .inl ⟨x-r,by omega,y.2,z⟩
  ·exact .inr h
 ·exact .inr h
theorem Nf {t:B5} {n r:Nat} {listed:Array Bool} {c j:Nat} {o:Ah} (x:t.Cq n listed c j) (y:t.k j=.new o):t.hD n r listed c (r+j)=some o:=by
 unfold B5.hD;have e:r+j-r=j:=by omega
 rw[e,As ⟨by omega,x⟩,y]
theorem Xl {t:B5} {n r:Nat} {listed:Array Bool} {c x:Nat} {o:Ah} (z:(t.G c).get x=some o) (y:∀j o',x=r+j->t.Cq n listed c j->t.k j=.new o'->False):t.hD n r listed c x=some o:=by
 unfold B5.hD;split
 ·rename_i B;split
  ·rename_i o' J;exact(y (x-r) o' (by omega) B.2 J).elim
  ·exact z
 ·exact z
structure Db (t:B5) (ops:Array Oper) (s:St) (E:Env) (F:Nat->Option Obj) (ρ0:Ak) (ro:Option Nat) (listed:Array Bool) (a:Act) (w:World) (ρ:Ak) (c:Nat):Prop where
 size:listed.size=ops.size
 Gj:t.Gj ops.size c
 hc:∀q,t.hv ops.size q->(Ls listed q↔q<c)
 down:∀i j,i<ops.size->Ls listed i->t.Cj i j->Ls listed j
 le:ρ0.le ρ
 lo:∀i,i<s.nx->ρ i=ρ0 i
 nn:s.nx+ops.size<=t.E0 c
 rel:Rel E F (t.E0 c) ρ (t.hD ops.size s.nx listed c) w
 VY:∀j,j<ops.size->¬Ls listed j->ρ (s.nx+j)=none
 Q3:∀i d,i<ops.size->Ls listed i->(t.oo i).dst=some d->∃u,a.tmps[d]? =some u/\VR ρ (t.v i) u
 Ta:∀d x,(∀i,i<ops.size->Ls listed i->(t.oo i).dst≠some d)->s.T.get d=some x->∃u,a.tmps[d]? =some u/\VR ρ x u
 sz:a.tmps.size=s.N
 dr:DR ρ s.D a.defers
 rr:Rc ρ s.ro ro
 np:∀i,Ls listed i->¬t.Oz i
section
variable {t:B5} {P:Program} {call:Da} {ops:Array Oper} {s:St}
theorem Q1 (ok:Ef t P call ops s):∀(p d:Nat) (b:AV),p<=ops.size->(t.FL p).get d=some b-> (∃k,k<p/\(t.oo k).dst=some d/\t.v k=b)\/((∀k,k<p->(t.oo k).dst≠some d)/\s.T.get d=some b)
 |0,d,b,_,h=>.inr ⟨λk J=>absurd J (Nat.not_lt_zero k),by rw[<-ok.T0];exact h⟩
 |p+1,d,b,L,h=>by
  have r:=ok.Ts p (by omega);unfold Fa at r;cases hd:(t.oo p).dst with
  |none=>
   rw[hd]at r;injection r with r;rw[<-r]at h;rcases Q1 ok p d b (by omega) h with⟨k,B,x⟩|⟨B,x⟩
   ·exact .inl ⟨k,by omega,x⟩
   ·refine .inr ⟨λk J=>?_,x⟩;by_cases y:k=p
    ·subst y;rw[hd];exactλh=>nomatch h
    ·exact B k (by omega)
  |some K=>
   rw[hd]at r;obtain⟨_,r⟩:=AQ.1 r;injection r with r;rw[<-r,Tr.Gm]at h;by_cases z:K=d
   ·subst z;rw[As rfl]at h;injection h with h;exact .inl ⟨p,by omega,hd,h⟩
   ·rw[An z]at h;rcases Q1 ok p d b (by omega) h with⟨k,B,x⟩|⟨B,x⟩
    ·exact .inl ⟨k,by omega,x⟩
    ·refine .inr ⟨λk J=>?_,x⟩;by_cases y:k=p
     ·subst y;rw[hd];exactλh=>z (Option.some.inj h)
     ·exact B k (by omega)
theorem ApV (ok:Ef t P call ops s) {i:Nat} (hi:i<ops.size) (r:t.k i≠.Ds):t.stay i:=by
 have h:=ok.kind i hi;unfold B5.Le at h;split at h
 ·exact h.2.2
 ·exact h.2.1
 ·exact h.2.1
 ·rename_i x;exact absurd x r
 ·exact h.2
 ·exact h.2.1
theorem jD (ok:Ef t P call ops s):∀(d p:Nat),p+d<=ops.size->(∀q,t.hv ops.size q->(q<p↔q<p+d))->t.G (p+d)=t.G p/\t.E0 (p+d)=t.E0 p
 |0,p,_,_=>⟨rfl,rfl⟩
 |d+1,p,hle,h=>by
  have r:t.k (p+d)≠.Ds:=λB=>by have:=h (p+d) ⟨by omega,B⟩;omega
  have x:=jD ok d p (by omega) λq z=>by
   have:=h q z;have J:q≠p+d:=λe=>by subst e;exact r z.2
   omega
  have y:=ApV ok (i:=p+d) (by omega) r;exact⟨(show t.G (p+(d+1))=_ from y.1).trans x.1,(show t.E0 (p+(d+1))=_ from y.2).trans x.2⟩
theorem Za (ok:Ef t P call ops s) {p r:Nat} (z:p<=ops.size) (x:r<=ops.size) (h:∀q,t.hv ops.size q->(q<p↔q<r)):t.G p=t.G r/\t.E0 p=t.E0 r:=by
 rcases Nat.le_total p r with hle|hle
 ·obtain⟨d,rfl⟩:=Nat.le.dest hle;have:=jD ok d p x h;exact⟨this.1.symm,this.2.symm⟩
 ·obtain⟨d,rfl⟩:=Nat.le.dest hle;exact jD ok d r z λq y=>(h q y).symm
end
end Go.Ev
end
section
namespace Go.Ev
section
variable {t:B5} {P:Program} {call:Da} {ops:Array Oper} {s:St}
theorem cO {c:Nat} (hc:t.Gj ops.size c):c<=ops.size:=by
 rcases hc with rfl|⟨q,r,rfl⟩
 ·omega
 ·exact r.1
variable {E:Env} {F:Nat->Option Obj} {ρ0:Ak} {ro:Option Nat}
theorem tp {listed:Array Bool} {a:Act} {w:World} {ρ:Ak} {c i:Nat} (r:Db t ops s E F ρ0 ro listed a w ρ c) (B:¬Ls listed i):t.late ops.size c i:=λq z x y=>B (r.down q i z.1 ((r.hc q z).2 x) y)
theorem AeK (ok:Ef t P call ops s) {listed:Array Bool} {a:Act} {w:World} {ρ:Ak} {c i:Nat} (y:Db t ops s E F ρ0 ro listed a w ρ c) (hi:i<ops.size) (r:∀j,t.Cj i j->Ls listed j) {V:Tr Ah} (R:t.sub ops.size s.nx V i c) {x:Nat} {o:Ah} (K:V.get x=some o):t.hD ops.size s.nx listed c x=some o:=by
 rcases R x o K with⟨j,J,U,S,rfl⟩|h
 ·exact Nf ⟨Nat.lt_trans (ok.Cj i j hi J).1 hi,r j J,S⟩ U
 ·refine Xl h λj o' z B L=>?_;subst z;have h:=ok.kind j B.1;unfold B5.Le at h;rw[L]at h;have:=h.2.2.2 c y.Gj B.2.2;simp_all
theorem Aca (ok:Ef t P call ops s) {listed:Array Bool} {a:Act} {w:World} {ρ:Ak} {c i:Nat} (r:Db t ops s E F ρ0 ro listed a w ρ c) (hi:i<ops.size) (K:¬Ls listed i) (z:∀j,t.Cj i j->Ls listed j) {d:Tmp} (hl:looks ops (t.oo i) d) {b:AV} (hb:(t.FL i).get d=some b):∃u,a.tmps[d]? =some u/\VR ρ b u:=by
 rcases Q1 ok i d b (by omega) hb with⟨k,L,B,R⟩|⟨L,B⟩
 ·have x:k<ops.size:=by omega
  rcases ok.look i d k hi x hl B (by omega)with h|h
  ·subst R;exact r.Q3 k d x (z k h) B
  ·have:=(ok.Cj k i x h).1;omega
 ·refine r.Ta d b (λk x y hd=>?_) B;have J:k≠i:=λe=>by subst e;exact K y
  rcases ok.look i d k hi x hl hd J with h|h
  ·exact L k (ok.Cj i k hi h).1 hd
  ·exact K (r.down k i x y h)
theorem Aq2 (ok:Ef t P call ops s) {listed:Array Bool} {a:Act} {w:World} {ρ:Ak} {c i:Nat} (z:Db t ops s E F ρ0 ro listed a w ρ c) (hi:i<ops.size) (J:¬Ls listed i) (y:∀j,t.Cj i j->Ls listed j):∃X:Operand->Option AV,XR ρ X a.eval/\∀x∈(t.oo i).op.operands,X x=BR (t.FL i) x:=by
 classical
 refine⟨λx=>if x∈(t.oo i).op.operands then BR (t.FL i) x else none,λx b r=>?_,λx r=>As r⟩;simp only at r;split at r
 ·rename_i B;cases x with
  |tmp d=>
   obtain⟨u,L,K⟩:=Aca ok z hi J y (.inl B) (show(t.FL i).get d=some b from r);have:a.eval (.tmp d)=u:=by simp[Act.eval,L]
   rw[this];exact K
  |const v=>exact TR.xr (T:=.leaf) (ρ:=ρ) (a:=a) (λt a h=>by rw[Tr.Cy]at h;cases h) (.const v) b r
  |func f=>exact TR.xr (T:=.leaf) (ρ:=ρ) (a:=a) (λt a h=>by rw[Tr.Cy]at h;cases h) (.func f) b r
  |global g=>exact TR.xr (T:=.leaf) (ρ:=ρ) (a:=a) (λt a h=>by rw[Tr.Cy]at h;cases h) (.global g) b r
 ·cases r
theorem Y2 (ok:Ef t P call ops s) {listed:Array Bool} {a:Act} {w:World} {ρ:Ak} {c i:Nat} (B:Db t ops s E F ρ0 ro listed a w ρ c) (hi:i<ops.size) (R:¬Ls listed i) (y:∀j,t.Cj i j->Ls listed j) {b:Bool} (h:Ex ops (t.FL i) (t.oo i)=some b):Region.wanted (t.oo i) (yielded ops a.tmps)=b:=by
 unfold Ex at h;unfold Region.wanted;cases z:(t.oo i).guard with
 |none=>rw[z]at h;injection h with h
 |some p=>
  obtain⟨j,want⟩:=p;rw[z]at h;obtain⟨L,x,U⟩:=Ai.1 h;obtain⟨d,hd,S⟩:=Ai.1 U;obtain⟨v,hv,r⟩:=Ai.1 S;obtain⟨u,hu,K⟩:=Aca ok B hi R y (.inr ⟨j,want,L,z,x,hd⟩) hv;have hy:yielded ops a.tmps j=match u with|.bool b=>some b|_=>none:=by unfold yielded;rw[x];simp only[Option.bind_some,hd,hu];cases u<;>rfl
  show(yielded ops a.tmps j==some want)=b;rw[hy];split at r
  ·injection r with r;subst r;cases K;rename_i b;cases b<;>cases want<;>rfl
  ·rename_i J;injection r with r;subst r;cases K<;>first|rfl|(exact absurd rfl (J _))
theorem wP (ok:Ef t P call ops s) {listed:Array Bool} {a:Act} {w w':World} {ρ L:Ak} {c Y i:Nat} (r:Db t ops s E F ρ0 ro listed a w ρ c) (hi:i<ops.size) (hL:¬Ls listed i) (ae:∀j,t.Cj i j->Ls listed j) (ag:¬t.Oz i) {u:Value} (R:ρ.le L) (ai:∀x,x<s.nx->L x=ρ x) (af:∀j,j<ops.size->j≠i->¬Ls listed j->L (s.nx+j)=ρ (s.nx+j)) (hv:VR L (t.v i) u) (W:t.Gj ops.size Y) (hc:∀q,t.hv ops.size q->((q=i\/Ls listed q)↔q<Y)) (ah:s.nx+ops.size<=t.E0 Y) (ad:Rel E F (t.E0 Y) L (t.hD ops.size s.nx (listed.setIfInBounds i true) Y) w'): Db t ops s E F ρ0 ro (listed.setIfInBounds i true) (a.put (t.oo i).dst u) w' L Y:=by
 have B:=λj=>Wa (listed:=listed) (j:=j) (show i<listed.size by rw[r.size];exact hi);have aj:∀d,(t.oo i).dst=some d->d<s.N:=λd hd=>by have:=ok.Ts i hi;unfold Fa at this;rw[hd]at this;have:=(AQ.1 this).1;rwa[CE]at this
 have V:∀d,(t.oo i).dst=some d->(a.put (t.oo i).dst u).tmps[d]? =some u:=λd hd=>by rw[hd];simp[Act.put,r.sz,aj d hd]
 have J:∀d,(t.oo i).dst≠some d->(a.put (t.oo i).dst u).tmps[d]? =a.tmps[d]?:=λd hd=>by
  cases ab:(t.oo i).dst with
  |none=>rfl
  |some d'=>have:d'≠d:=λe=>hd (by rw[ab,e]);simp only[Act.put];rw[Array.getElem?_setIfInBounds_ne this]
 refine⟨by simp[r.size],W,λq hq=>by rw[B];exact hc q hq,?_,Ak.le_trans r.le R,λx hx=>(ai x hx).trans (r.lo x hx),ah,ad,?_,?_,?_,?_,?_,?_,?_⟩
 ·intro j k K y aa;rw[B]at y⊢;rcases y with rfl|y
  ·exact .inr (ae k aa)
  ·exact .inr (r.down j k K y aa)
 ·intro j K y;rw[B]at y;rw[af j K (λe=>y (.inl e)) (λe=>y (.inr e))];exact r.VY j K λe=>y (.inr e)
 ·intro j d K y hd;rw[B]at y;by_cases U:j=i
  ·subst U;exact⟨u,V d hd,hv⟩
  ·have S:(t.oo i).dst≠some d:=λe=>U (ok.dst j i d K hi hd e);rw[J d S];obtain⟨z,h1,h2⟩:=r.Q3 j d K (y.resolve_left U) hd;exact⟨z,h1,h2.mono R⟩
 ·intro d x Z hx;have S:(t.oo i).dst≠some d:=Z i hi ((B i).2 (.inl rfl));rw[J d S];obtain⟨z,h1,h2⟩:=r.Ta d x (λj K y=>Z j K ((B j).2 (.inr y))) hx;exact⟨z,h1,h2.mono R⟩
 ·cases ab:(t.oo i).dst with
  |none=>exact r.sz
  |some d=>simp[Act.put,r.sz]
 ·have:(a.put (t.oo i).dst u).defers=a.defers:=by cases(t.oo i).dst<;>rfl
  rw[this];exact r.dr.mono R
 ·exact r.rr.mono R
 ·intro j K;rcases(B j).1 K with rfl|K
  ·exact ag
  ·exact r.np j K
theorem ApU {listed:Array Bool} {c i:Nat} (B:i<listed.size) (J:∀o,t.k i≠.new o) {x:Nat} {o:Ah} (h:t.hD ops.size s.nx (listed.setIfInBounds i true) c x=some o) (z:∀j o',t.Cq ops.size listed c j->t.k j=.new o'->(t.G c).get (s.nx+j)=none):t.hD ops.size s.nx listed c x=some o:=by
 rcases Ng h with⟨j,rfl,r,y⟩|h
 ·refine Nf ⟨r.1,?_,r.2.2⟩ y;rcases(Wa B).1 r.2.1 with rfl|hl
  ·exact absurd y (J _)
  ·exact hl
 ·refine Xl h λj o' e r y=>?_;subst e;rw[z j o' r y]at h;cases h
theorem Xh (ok:Ef t P call ops s) {listed:Array Bool} {a:Act} {w:World} {ρ:Ak} {c:Nat} (r:Db t ops s E F ρ0 ro listed a w ρ c) {j:Nat} {o':Ah} (x:t.Cq ops.size listed c j) (y:t.k j=.new o'): (t.G c).get (s.nx+j)=none:=by have h:=ok.kind j x.1;unfold B5.Le at h;rw[y]at h;exact h.2.2.2 c r.Gj x.2.2
end
end Go.Ev
end
end
