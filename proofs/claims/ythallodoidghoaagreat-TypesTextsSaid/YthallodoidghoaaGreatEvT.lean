/- Laid by program out of its parts: EvT. -/
import Derived.Test.YthallodoidghoaaGreatEvS
set_option linter.unusedVariables false
set_option linter.unusedSimpArgs false
namespace Go.Ev
structure DStep (P:Program) (call:Da) (ops:Array Oper) (N r0:Nat) (A p:Nat) (o:Oper) (σ σ':DS) (r:It):Prop where
 ei:r.i=p
 eo:r.o=o
 eA:r.A=A
 eT:r.T=σ.T
 eH:r.H=σ'.H
 ec:r.cc=σ'.cc
 put:Fa N σ.T o.dst r.v=some σ'.T
 hv:r.k=.Ds->r∈σ'.Az
 dc:∀x∈σ.Az,x∈σ'.Az
 PU:∀x∈σ'.Az,x∈σ.Az\/(x=r/\r.k=.Ds)
 nw:∀b,r.k=.new b->r∈σ'.news
 nwk:∀x∈σ.news,x∈σ'.news
 P4:∀x∈σ'.news,x∈σ.news\/(x=r/\∃b,r.k=.new b)
 rd:r.k=.pure->LG o.op=true->r∈σ'.reads
 rdk:∀x∈σ.reads,x∈σ'.reads
 kind:match r.k with
  |.off=>Ex ops σ.T o=some false/\r.v=.AM []/\σ'.H=σ.H/\σ'.nx=σ.nx/\σ'.cc=σ.cc
  |.pure=>Ex ops σ.T o=some true/\σ'.H=σ.H/\σ'.nx=σ.nx/\σ'.cc=σ.cc/\De P (D2 σ.news σ.Az A p r0 σ.H) (BR σ.T) o.op=some r.v
  |.new b=>Ex ops σ.T o=some true/\σ'.H=σ.H/\σ'.nx=σ.nx/\σ'.cc=σ.cc/\Ew P (BR σ.T) (r0+p) o.op=some (r.v,b)
  |.Ds=>Ex ops σ.T o=some true/\σ'.cc=p+1/\(∀h∈σ.Az,A.testBit h.i=true)/\
    FN P call (BR σ.T) (D2 σ.news σ.Az A p r0 σ.H) (r0+p) σ.nx o.op=some (.mk r.v σ'.H σ'.nx)/\σ.pn=none
  |.dead=>RO σ.pn A=true/\r.v=.AM []/\σ'.H=σ.H/\σ'.nx=σ.nx/\σ'.cc=σ.cc
  |.AG v H nx=>Ex ops σ.T o=some true/\σ'.H=σ.H/\σ'.nx=σ.nx/\σ'.cc=σ.cc/\(∀h∈σ.Az,A.testBit h.i=true)/\
    FN P call (BR σ.T) (D2 σ.news σ.Az A p r0 σ.H) (r0+p) σ.nx o.op=some (.AG v H nx)/\σ.pn=none
 pk:σ'.pn=match r.k with
  |.AG v H nx=>some ⟨p,A,v,H,nx⟩
  |_=>σ.pn
theorem Ahh {N p:Nat} {o:Oper} {A:Nat} {x r:DS} {k:DK} {v:AV} {H:Tr Ah} {nx cc:Nat} (h:HN N p o A x k v H nx cc=some r): Fa N x.T o.dst v=some r.T/\r.H=H/\r.nx=nx/\r.cc=cc/\ r.Az=(match k with|.Ds=>⟨p,o,A,x.T,k,v,H,cc⟩::x.Az|_=>x.Az)/\ r.news=(match k with|.new _=>⟨p,o,A,x.T,k,v,H,cc⟩::x.news|_=>x.news)/\ r.reads=(match k with|.pure=>cond (LG o.op) (⟨p,o,A,x.T,k,v,H,cc⟩::x.reads) x.reads|_=>x.reads)/\ r.pn=(match k with|.AG v H nx=>some ⟨p,A,v,H,nx⟩|_=>x.pn):=by
 obtain⟨T,hT,y⟩:=Ai.1 h;injection y with y;cases k with
 |off=>subst y;exact⟨hT,rfl,rfl,rfl,rfl,rfl,rfl,rfl⟩
 |dead=>subst y;exact⟨hT,rfl,rfl,rfl,rfl,rfl,rfl,rfl⟩
 |AG _ _ _=>subst y;exact⟨hT,rfl,rfl,rfl,rfl,rfl,rfl,rfl⟩
 |pure=>
  simp only at y;by_cases z:LG o.op=true
  ·rw[z,cond_true]at y;subst y;simp only[z,cond_true];exact⟨hT,trivial,trivial,trivial,trivial,trivial,trivial,trivial⟩
  ·rw[Bool.not_eq_true]at z;rw[z,cond_false]at y;subst y;simp only[z,cond_false];exact⟨hT,trivial,trivial,trivial,trivial,trivial,trivial,trivial⟩
 |new b=>subst y;exact⟨hT,rfl,rfl,rfl,rfl,rfl,rfl,rfl⟩
 |Ds=>subst y;exact⟨hT,rfl,rfl,rfl,rfl,rfl,rfl,rfl⟩
theorem Uf {P:Program} {call:Da} {ops:Array Oper} {N z p:Nat} {o:Oper} {A:Nat} {r B:DS} {k:DK} {v:AV} {H:Tr Ah} {nx cc:Nat} (h:HN N p o A r k v H nx cc=some B) (W:match k with
  |.off=>Ex ops r.T o=some false/\v=.AM []/\H=r.H/\nx=r.nx/\cc=r.cc
  |.pure=>Ex ops r.T o=some true/\H=r.H/\nx=r.nx/\cc=r.cc/\De P (D2 r.news r.Az A p z r.H) (BR r.T) o.op=some v
  |.new b=>Ex ops r.T o=some true/\H=r.H/\nx=r.nx/\cc=r.cc/\Ew P (BR r.T) (z+p) o.op=some (v,b)
  |.Ds=>Ex ops r.T o=some true/\cc=p+1/\(∀h∈r.Az,A.testBit h.i=true)/\
    FN P call (BR r.T) (D2 r.news r.Az A p z r.H) (z+p) r.nx o.op=some (.mk v H nx)/\r.pn=none
  |.dead=>RO r.pn A=true/\v=.AM []/\H=r.H/\nx=r.nx/\cc=r.cc
  |.AG U H' nx'=>Ex ops r.T o=some true/\H=r.H/\nx=r.nx/\cc=r.cc/\(∀h∈r.Az,A.testBit h.i=true)/\
    FN P call (BR r.T) (D2 r.news r.Az A p z r.H) (z+p) r.nx o.op=some (.AG U H' nx')/\r.pn=none):DStep P call ops N z A p o r B ⟨p,o,A,r.T,k,v,H,cc⟩:=by
 obtain⟨h1,S,Z,R,K,J,L,Y⟩:=Ahh h;refine⟨rfl,rfl,rfl,rfl,S.symm,R.symm,h1,?_,?_,?_,?_,?_,?_,?_,?_,?_,by rw[Y];cases k<;>rfl⟩
 ·rintro rfl;rw[K];exact EG ..
 ·intro x y;rw[K];cases k<;>first|exact y|exact EF _ y
 ·intro x y;rw[K]at y;cases k<;>first|exact .inl y|(rcases Dp.1 y with rfl|y;exact .inr ⟨rfl,rfl⟩;exact .inl y)
 ·rintro b rfl;rw[J];exact EG ..
 ·intro x y;rw[J];cases k<;>first|exact y|exact EF _ y
 ·intro x y;rw[J]at y;cases k<;>first|exact .inl y|(rcases Dp.1 y with rfl|y;exact .inr ⟨rfl,_,rfl⟩;exact .inl y)
 ·rintro rfl V;rw[L];simp only[V,cond_true];exact EG ..
 ·intro x y;rw[L];cases k<;>first|exact y|(simp only;cases LG o.op;exact y;exact EF _ y)
 ·subst S;subst Z;subst R;cases k<;>exact W
theorem Ahl {P:Program} {call:Da} {ops:Array Oper} {N L:Nat} {W:Tr Nat} {p:Nat} {o:Oper} {x z:DS} (h:Ue P call ops N L W p o x=some z): ∃r,DStep P call ops N L (EL W p) p o x z r:=by
 obtain⟨A,hA,K⟩:=Ai.1 h;have Z:EL W p=A:=by unfold EL;rw[hA];rfl
 rw[Z];clear h;cases J:RO x.pn A with
 |true=>rw[J,cond_true]at K;exact⟨_,Uf K ⟨J,rfl,rfl,rfl,rfl⟩⟩
 |false=>
 rw[J,cond_false]at K;obtain⟨wd,hw,y⟩:=Ai.1 K;clear K;cases wd with
 |false=>rw[cond_false]at y;exact⟨_,Uf y ⟨hw,rfl,rfl,rfl,rfl⟩⟩
 |true=>
  rw[cond_true]at y;cases R:De P (D2 x.news x.Az A p L x.H) (BR x.T) o.op with
  |some v=>rw[R]at y;exact⟨_,Uf y ⟨hw,rfl,rfl,rfl,R⟩⟩
  |none=>
   rw[R]at y;simp only[Bv]at y;cases hn:Ew P (BR x.T) (L+p) o.op with
   |some q=>rw[hn]at y;exact⟨_,Uf y ⟨hw,rfl,rfl,rfl,hn⟩⟩
   |none=>
    rw[hn]at y;obtain⟨h3,V⟩:=AQ.1 y;obtain⟨Y,V⟩:=AQ.1 V;obtain⟨r,h5,U⟩:=Ai.1 V;have B:x.pn=none:=by simpa using Y
    cases r with
    |AG v H nx=>exact⟨_,Uf (show HN N p o A x (.AG v H nx) (.AM []) x.H x.nx x.cc=some z from U) ⟨hw,rfl,rfl,rfl,λh S=>by rw[<-LK];exact JH h3 h S,h5,B⟩⟩
    |Cf _ _ _ _=>cases U
    |mk v H nx=>
    exact⟨_,Uf (show HN N p o A x .Ds v H nx (p+1)=some z from U) ⟨hw,rfl,λh S=>by rw[<-LK];exact JH h3 h S,h5,B⟩⟩
theorem oz {A:Nat}:∀(l:List Oper) (k:Nat) (T:Tr AV) (d:Nat) (b:AV),(Kr A l k T).get d=some b->T.get d=some b/\∀j o,l[j]? =some o->o.dst=some d->A.testBit (k+j)=true
 | [],_,_,_,_,h=>⟨h,λj o z=>by simp at z⟩
 |o::l,k,T,d,b,h=>by
  have h':(match o.dst with
   |none=>Kr A l (k+1) T
   |some d=>cond (tb A k) (Kr A l (k+1) T) (Kr A l (k+1) (T.del d))).get d=some b:=by
   have K:(fN (k+1) λB=>match o.dst with
    |none=>Kr A l B T
    |some d=>cond (tb A k) (Kr A l B T) (Kr A l B (T.del d))).get d=some b:=h
   rwa[Bv]at K
  have rest:∀T',(Kr A l (k+1) T').get d=some b->T'.get d=some b/\∀j o,l[j]? =some o->o.dst=some d->A.testBit (k+1+j)=true:=λT' h=>oz l (k+1) T' d b h;have y:(T.get d=some b/\∀j o,l[j]? =some o->o.dst=some d->A.testBit (k+1+j)=true)->(o.dst=some d->A.testBit k=true)->T.get d=some b/\∀j o',(o::l)[j]? =some o'->o'.dst=some d->A.testBit (k+j)=true:=λr J=>by
   refine⟨r.1,λj o' z hd=>?_⟩;cases j with
   |zero=>simp at z;subst z;exact J hd
   |succ j=>rw[show k+(j+1)=k+1+j by omega];exact r.2 j o' (by simpa using z) hd
  split at h'
  ·rename_i hd;exact y (rest _ h') λe=>by rw[hd]at e;cases e
  ·rename_i L hd;cases ht:tb A k with
   |true=>rw[ht,cond_true]at h';exact y (rest _ h') λ_=>by rw[<-LK];exact ht
   |false=>
    rw[ht,cond_false]at h';obtain⟨r,J⟩:=rest _ h';rw[Tr.JN]at r;by_cases x:L=d
    ·rw[As x]at r;cases r
    ·rw[An x]at r;exact y ⟨r,J⟩ λe=>by rw[hd]at e;exact absurd (Option.some.inj e) x
theorem pI {P:Program} {call:Da} {ops:Array Oper} {N z:Nat} {B:Tr Nat}:∀(l:List Oper) (p:Nat) (y x:DS),Ry P call ops N z B l p y=some x-> ∃(f:Nat->DS) (g:Nat->It),f p=y/\f (p+l.length)=x/\∀i o,l[i]? =some o->DStep P call ops N z (EL B (p+i)) (p+i) o (f (p+i)) (f (p+i+1)) (g (p+i))
 | [],p,y,x,h=>by injection h with h;subst h;exact⟨λ_=>y,λ_=>⟨0,default,0,.leaf,.off,.bool true,.leaf,0⟩,rfl,rfl,λi o hi=>by simp at hi⟩
 |o::l,p,y,x,h=>by
  obtain⟨J,R,K⟩:=Ai.1 (show(ob (Ue P call ops N z B p o y) λx=>fN (p+1) λq=>Ry P call ops N z B l q x)=some x from h);rw[Bv]at K;obtain⟨r,L⟩:=Ahl R;obtain⟨f,g,V,U,S⟩:=pI l (p+1) J x K;refine⟨λi=>if i=p then y else f i,λi=>if i=p then r else g i,by simp,?_,λi o' hi=>?_⟩
  ·simp only[Dn];rw[An (by omega),show p+(l.length+1)=p+1+l.length by omega];exact U
  ·cases i with
   |zero=>simp at hi;subst hi;simp only[Nat.add_zero,if_true];rw[An (by omega),V];exact L
   |succ i=>simp only[An (show¬p+(i+1)=p by omega),An (show¬p+(i+1)+1=p by omega)];have:=S i o' (by simpa using hi);rwa[show p+1+i=p+(i+1) by omega]at this
theorem Afq {news Az:List It} {A c y:Nat} {H:Tr Ah} {x:Nat} {o:Ah}:(D2 news Az A c y H).get x=some o-> (∃r∈news,r.k=.new o/\A.testBit r.i=true/\G9 Az c r.i=true/\x=y+r.i)\/H.get x=some o:=by
 induction news with
 |nil=>exact .inr
 |cons r news K=>
  intro h;have h':(match r.k with
   |.new o=>cond (tb A r.i) (cond (G9 Az c r.i) (fN (y+r.i) λx=>(D2 news Az A c y H).set x o) (D2 news Az A c y H)) (D2 news Az A c y H)
   |_=>D2 news Az A c y H).get x=some o:=h
  have rest:(D2 news Az A c y H).get x=some o->(∃z∈r::news,z.k=.new o/\A.testBit z.i=true/\G9 Az c z.i=true/\x=y+z.i)\/H.get x=some o:=λh=>by
   rcases K h with⟨z,J,B⟩|h
   ·exact .inl ⟨z,EF _ J,B⟩
   ·exact .inr h
  split at h'
  ·rename_i b hb;cases J:tb A r.i with
   |false=>rw[J,cond_false]at h';exact rest h'
   |true=>
    rw[J,cond_true]at h';cases B:G9 Az c r.i with
    |false=>rw[B,cond_false]at h';exact rest h'
    |true=>
     rw[B,cond_true,Bv,Tr.Gm]at h';split at h'
     ·rename_i e;injection h' with h';subst h';exact .inl ⟨r,EG ..,hb,by rw[<-LK];exact J,B,e.symm⟩
     ·exact rest h'
  ·exact rest h'
theorem Afp {news Az:List It} {n y:Nat} {H:Tr Ah} {x:Nat} {o:Ah}:(MT news Az n y H).get x=some o-> (∃r∈news,r.k=.new o/\G9 Az n r.i=true/\x=y+r.i)\/H.get x=some o:=by
 induction news with
 |nil=>exact .inr
 |cons r news J=>
  intro h;have h':(match r.k with
   |.new o=>cond (G9 Az n r.i) (fN (y+r.i) λx=>(MT news Az n y H).set x o) (MT news Az n y H)
   |_=>MT news Az n y H).get x=some o:=h
  have rest:(MT news Az n y H).get x=some o->(∃z∈r::news,z.k=.new o/\G9 Az n z.i=true/\x=y+z.i)\/H.get x=some o:=λh=>by
   rcases J h with⟨z,K,B⟩|h
   ·exact .inl ⟨z,EF _ K,B⟩
   ·exact .inr h
  split at h'
  ·rename_i b hb;cases B:G9 Az n r.i with
   |false=>rw[B,cond_false]at h';exact rest h'
   |true=>
    rw[B,cond_true,Bv,Tr.Gm]at h';split at h'
    ·rename_i e;injection h' with h';subst h';exact .inl ⟨r,EG ..,hb,B,e.symm⟩
    ·exact rest h'
  ·exact rest h'
theorem Ab1 {Az:List It} {c j:Nat} (h:G9 Az c j=true):∀x∈Az,x.i<c->x.A.testBit j=false:=λx r hc=>by have:=JH h x r;rw[show Nat.blt x.i c=true from(by rw[CE];exact hc),cond_true]at this;rw[<-LK];simpa using this
theorem bO {α:Type} {f:α->Bool}:∀ {l:List α},(∀x∈l,f x=true)->EH f l=true
 | [],_=>rfl
 |a::l,h=>by rw[nv,h a (EG ..),cond_true];exact bO λx r=>h x (EF _ r)
theorem Ab2 {Az:List It} {c j:Nat} (h:∀x∈Az,x.i<c->x.A.testBit j=false):G9 Az c j=true:=by
 apply bO;intro x r;cases hb:Nat.blt x.i c with
 |false=>rfl
 |true=>rw[cond_true,LK,h x r (by rw[CE]at hb;exact hb)];rfl
end Go.Ev
