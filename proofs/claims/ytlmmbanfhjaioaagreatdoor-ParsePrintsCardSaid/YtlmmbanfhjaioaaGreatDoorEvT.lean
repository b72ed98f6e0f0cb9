/- Laid by program out of its parts: EvT. -/
import Derived.Test.YtlmmbanfhjaioaaGreatDoorEvS
set_option linter.unusedVariables false
set_option linter.unusedSimpArgs false
namespace Go.Ev
structure DStep (P:Program) (call:D7) (ops:Array Oper) (N r0:Nat) (A p:Nat) (o:Oper) (σ σ':DS) (r:IU):Prop where
 ei:r.i=p
 eo:r.o=o
 eA:r.A=A
 eT:r.T=σ.T
 eH:r.H=σ'.H
 ec:r.cc=σ'.cc
 put:Jl N σ.T o.dst r.v=some σ'.T
 hv:r.k=.DN->r∈σ'.Ax
 SJ:∀x∈σ.Ax,x∈σ'.Ax
 OZ:∀x∈σ'.Ax,x∈σ.Ax\/(x=r/\r.k=.DN)
 nw:∀b,r.k=.new b->r∈σ'.news
 vp:∀x∈σ.news,x∈σ'.news
 O4:∀x∈σ'.news,x∈σ.news\/(x=r/\∃b,r.k=.new b)
 rd:r.k=.pure->LF o.op=true->r∈σ'.reads
 xE:∀x∈σ.reads,x∈σ'.reads
 kind:match r.k with
  |.off=>E7 ops σ.T o=some false/\r.v=.AO []/\σ'.H=σ.H/\σ'.nx=σ.nx/\σ'.cc=σ.cc
  |.pure=>E7 ops σ.T o=some true/\σ'.H=σ.H/\σ'.nx=σ.nx/\σ'.cc=σ.cc/\Ds P (D5 σ.news σ.Ax A p r0 σ.H) (B6 σ.T) o.op=some r.v
  |.new b=>E7 ops σ.T o=some true/\σ'.H=σ.H/\σ'.nx=σ.nx/\σ'.cc=σ.cc/\EJ P (B6 σ.T) (r0+p) o.op=some (r.v,b)
  |.DN=>E7 ops σ.T o=some true/\σ'.cc=p+1/\(∀h∈σ.Ax,A.testBit h.i=true)/\
    FQ P call (B6 σ.T) (D5 σ.news σ.Ax A p r0 σ.H) (r0+p) σ.nx o.op=some (.mk r.v σ'.H σ'.nx)/\σ.pn=none
  |.dead=>Qs σ.pn A=true/\r.v=.AO []/\σ'.H=σ.H/\σ'.nx=σ.nx/\σ'.cc=σ.cc
  |.AB v H nx=>E7 ops σ.T o=some true/\σ'.H=σ.H/\σ'.nx=σ.nx/\σ'.cc=σ.cc/\(∀h∈σ.Ax,A.testBit h.i=true)/\
    FQ P call (B6 σ.T) (D5 σ.news σ.Ax A p r0 σ.H) (r0+p) σ.nx o.op=some (.AB v H nx)/\σ.pn=none
 pk:σ'.pn=match r.k with
  |.AB v H nx=>some ⟨p,A,v,H,nx⟩
  |_=>σ.pn
theorem AbL {N p:Nat} {o:Oper} {A:Nat} {y q:DS} {k:DK} {v:AV} {H:Tr Ae} {nx cc:Nat} (h:HY N p o A y k v H nx cc=some q): Jl N y.T o.dst v=some q.T/\q.H=H/\q.nx=nx/\q.cc=cc/\ q.Ax=(match k with|.DN=>⟨p,o,A,y.T,k,v,H,cc⟩::y.Ax|_=>y.Ax)/\ q.news=(match k with|.new _=>⟨p,o,A,y.T,k,v,H,cc⟩::y.news|_=>y.news)/\ q.reads=(match k with|.pure=>cond (LF o.op) (⟨p,o,A,y.T,k,v,H,cc⟩::y.reads) y.reads|_=>y.reads)/\ q.pn=(match k with|.AB v H nx=>some ⟨p,A,v,H,nx⟩|_=>y.pn):=by
 obtain⟨T,hT,B⟩:=Ag.1 h;injection B with B;cases k with
 |off=>subst B;exact⟨hT,rfl,rfl,rfl,rfl,rfl,rfl,rfl⟩
 |dead=>subst B;exact⟨hT,rfl,rfl,rfl,rfl,rfl,rfl,rfl⟩
 |AB _ _ _=>subst B;exact⟨hT,rfl,rfl,rfl,rfl,rfl,rfl,rfl⟩
 |pure=>
  simp only at B;by_cases C:LF o.op=true
  ·rw[C,cond_true]at B;subst B;simp only[C,cond_true];exact⟨hT,trivial,trivial,trivial,trivial,trivial,trivial,trivial⟩
  ·rw[Bool.not_eq_true]at C;rw[C,cond_false]at B;subst B;simp only[C,cond_false];exact⟨hT,trivial,trivial,trivial,trivial,trivial,trivial,trivial⟩
 |new b=>subst B;exact⟨hT,rfl,rfl,rfl,rfl,rfl,rfl,rfl⟩
 |DN=>subst B;exact⟨hT,rfl,rfl,rfl,rfl,rfl,rfl,rfl⟩
theorem Sh {P:Program} {call:D7} {ops:Array Oper} {N B p:Nat} {o:Oper} {A:Nat} {q C:DS} {k:DK} {v:AV} {H:Tr Ae} {nx cc:Nat} (h:HY N p o A q k v H nx cc=some C) (S:match k with
  |.off=>E7 ops q.T o=some false/\v=.AO []/\H=q.H/\nx=q.nx/\cc=q.cc
  |.pure=>E7 ops q.T o=some true/\H=q.H/\nx=q.nx/\cc=q.cc/\Ds P (D5 q.news q.Ax A p B q.H) (B6 q.T) o.op=some v
  |.new b=>E7 ops q.T o=some true/\H=q.H/\nx=q.nx/\cc=q.cc/\EJ P (B6 q.T) (B+p) o.op=some (v,b)
  |.DN=>E7 ops q.T o=some true/\cc=p+1/\(∀h∈q.Ax,A.testBit h.i=true)/\
    FQ P call (B6 q.T) (D5 q.news q.Ax A p B q.H) (B+p) q.nx o.op=some (.mk v H nx)/\q.pn=none
  |.dead=>Qs q.pn A=true/\v=.AO []/\H=q.H/\nx=q.nx/\cc=q.cc
  |.AB O H' nx'=>E7 ops q.T o=some true/\H=q.H/\nx=q.nx/\cc=q.cc/\(∀h∈q.Ax,A.testBit h.i=true)/\
    FQ P call (B6 q.T) (D5 q.news q.Ax A p B q.H) (B+p) q.nx o.op=some (.AB O H' nx')/\q.pn=none):DStep P call ops N B A p o q C ⟨p,o,A,q.T,k,v,H,cc⟩:=by
 obtain⟨W,M,V,L,J,E,K,U⟩:=AbL h;refine⟨rfl,rfl,rfl,rfl,M.symm,L.symm,W,?_,?_,?_,?_,?_,?_,?_,?_,?_,by rw[U];cases k<;>rfl⟩
 ·rintro rfl;rw[J];exact BN ..
 ·intro x y;rw[J];cases k<;>first|exact y|exact Ca _ y
 ·intro x y;rw[J]at y;cases k<;>first|exact .inl y|(rcases CS.1 y with rfl|y;exact .inr ⟨rfl,rfl⟩;exact .inl y)
 ·rintro b rfl;rw[E];exact BN ..
 ·intro x y;rw[E];cases k<;>first|exact y|exact Ca _ y
 ·intro x y;rw[E]at y;cases k<;>first|exact .inl y|(rcases CS.1 y with rfl|y;exact .inr ⟨rfl,_,rfl⟩;exact .inl y)
 ·rintro rfl R;rw[K];simp only[R,cond_true];exact BN ..
 ·intro x y;rw[K];cases k<;>first|exact y|(simp only;cases LF o.op;exact y;exact Ca _ y)
 ·subst M;subst V;subst L;cases k<;>exact S
theorem AbQ {P:Program} {call:D7} {ops:Array Oper} {N L:Nat} {S:Tr Nat} {p:Nat} {o:Oper} {y C:DS} (h:Sg P call ops N L S p o y=some C): ∃r,DStep P call ops N L (maskAt S p) p o y C r:=by
 obtain⟨A,hA,K⟩:=Ag.1 h;have V:maskAt S p=A:=by unfold maskAt;rw[hA];rfl
 rw[V];clear h;cases J:Qs y.pn A with
 |true=>rw[J,cond_true]at K;exact⟨_,Sh K ⟨J,rfl,rfl,rfl,rfl⟩⟩
 |false=>
 rw[J,cond_false]at K;obtain⟨Z,hw,B⟩:=Ag.1 K;clear K;cases Z with
 |false=>rw[cond_false]at B;exact⟨_,Sh B ⟨hw,rfl,rfl,rfl,rfl⟩⟩
 |true=>
  rw[cond_true]at B;cases hp:Ds P (D5 y.news y.Ax A p L y.H) (B6 y.T) o.op with
  |some v=>rw[hp]at B;exact⟨_,Sh B ⟨hw,rfl,rfl,rfl,hp⟩⟩
  |none=>
   rw[hp]at B;simp only[Bv]at B;cases hn:EJ P (B6 y.T) (L+p) o.op with
   |some q=>rw[hn]at B;exact⟨_,Sh B ⟨hw,rfl,rfl,rfl,hn⟩⟩
   |none=>
    rw[hn]at B;obtain⟨Y,R⟩:=AL.1 B;obtain⟨U,R⟩:=AL.1 R;obtain⟨r,W,O⟩:=Ag.1 R;have E:y.pn=none:=by simpa using U
    cases r with
    |AB v H nx=>exact⟨_,Sh (show HY N p o A y (.AB v H nx) (.AO []) y.H y.nx y.cc=some C from O) ⟨hw,rfl,rfl,rfl,λh M=>by rw[<-LI];exact JX Y h M,W,E⟩⟩
    |Df _ _ _ _=>cases O
    |mk v H nx=>
    exact⟨_,Sh (show HY N p o A y .DN v H nx (p+1)=some C from O) ⟨hw,rfl,λh M=>by rw[<-LI];exact JX Y h M,W,E⟩⟩
theorem gH {A:Nat}:∀(l:List Oper) (k:Nat) (T:Tr AV) (d:Nat) (b:AV),(Ky A l k T).get d=some b->T.get d=some b/\∀j o,l[j]? =some o->o.dst=some d->A.testBit (k+j)=true
 | [],_,_,_,_,h=>⟨h,λj o B=>by simp at B⟩
 |o::l,k,T,d,b,h=>by
  have h':(match o.dst with
   |none=>Ky A l (k+1) T
   |some d=>cond (tb A k) (Ky A l (k+1) T) (Ky A l (k+1) (T.del d))).get d=some b:=by
   have K:(fN (k+1) λE=>match o.dst with
    |none=>Ky A l E T
    |some d=>cond (tb A k) (Ky A l E T) (Ky A l E (T.del d))).get d=some b:=h
   rwa[Bv]at K
  have rest:∀T',(Ky A l (k+1) T').get d=some b->T'.get d=some b/\∀j o,l[j]? =some o->o.dst=some d->A.testBit (k+1+j)=true:=λT' h=>gH l (k+1) T' d b h;have fin:(T.get d=some b/\∀j o,l[j]? =some o->o.dst=some d->A.testBit (k+1+j)=true)->(o.dst=some d->A.testBit k=true)->T.get d=some b/\∀j C,(o::l)[j]? =some C->C.dst=some d->A.testBit (k+j)=true:=λq J=>by
   refine⟨q.1,λj C B hd=>?_⟩;cases j with
   |zero=>simp at B;subst B;exact J hd
   |succ j=>rw[show k+(j+1)=k+1+j by omega];exact q.2 j C (by simpa using B) hd
  split at h'
  ·rename_i hd;exact fin (rest _ h') λe=>by rw[hd]at e;cases e
  ·rename_i L hd;cases ht:tb A k with
   |true=>rw[ht,cond_true]at h';exact fin (rest _ h') λ_=>by rw[<-LI];exact ht
   |false=>
    rw[ht,cond_false]at h';obtain⟨q,J⟩:=rest _ h';rw[Tr.H6]at q;by_cases y:L=d
    ·rw[Am y]at q;cases q
    ·rw[Ad y]at q;exact fin ⟨q,J⟩ λe=>by rw[hd]at e;exact absurd (Option.some.inj e) y
theorem gM {P:Program} {call:D7} {ops:Array Oper} {N C:Nat} {E:Tr Nat}:∀(l:List Oper) (p:Nat) (B y:DS),Qd P call ops N C E l p B=some y-> ∃(f:Nat->DS) (g:Nat->IU),f p=B/\f (p+l.length)=y/\∀i o,l[i]? =some o->DStep P call ops N C (maskAt E (p+i)) (p+i) o (f (p+i)) (f (p+i+1)) (g (p+i))
 | [],p,B,y,h=>by injection h with h;subst h;exact⟨λ_=>B,λ_=>⟨0,default,0,.leaf,.off,.bool true,.leaf,0⟩,rfl,rfl,λi o hi=>by simp at hi⟩
 |o::l,p,B,y,h=>by
  obtain⟨J,O,K⟩:=Ag.1 (show(ob (Sg P call ops N C E p o B) λy=>fN (p+1) λq=>Qd P call ops N C E l q y)=some y from h);rw[Bv]at K;obtain⟨r,M⟩:=AbQ O;obtain⟨f,g,U,S,R⟩:=gM l (p+1) J y K;refine⟨λi=>if i=p then B else f i,λi=>if i=p then r else g i,by simp,?_,λi L hi=>?_⟩
  ·simp only[AE];rw[Ad (by omega),show p+(l.length+1)=p+1+l.length by omega];exact S
  ·cases i with
   |zero=>simp at hi;subst hi;simp only[Nat.add_zero,if_true];rw[Ad (by omega),U];exact M
   |succ i=>simp only[Ad (show¬p+(i+1)=p by omega),Ad (show¬p+(i+1)+1=p by omega)];have:=R i L (by simpa using hi);rwa[show p+1+i=p+(i+1) by omega]at this
theorem zT {news Ax:List IU} {A c q:Nat} {H:Tr Ae} {x:Nat} {o:Ae}:(D5 news Ax A c q H).get x=some o-> (∃r∈news,r.k=.new o/\A.testBit r.i=true/\Ho Ax c r.i=true/\x=q+r.i)\/H.get x=some o:=by
 induction news with
 |nil=>exact .inr
 |cons r news E=>
  intro h;have h':(match r.k with
   |.new o=>cond (tb A r.i) (cond (Ho Ax c r.i) (fN (q+r.i) λx=>(D5 news Ax A c q H).set x o) (D5 news Ax A c q H)) (D5 news Ax A c q H)
   |_=>D5 news Ax A c q H).get x=some o:=h
  have rest:(D5 news Ax A c q H).get x=some o->(∃y∈r::news,y.k=.new o/\A.testBit y.i=true/\Ho Ax c y.i=true/\x=q+y.i)\/H.get x=some o:=λh=>by
   rcases E h with⟨y,C,B⟩|h
   ·exact .inl ⟨y,Ca _ C,B⟩
   ·exact .inr h
  split at h'
  ·rename_i b J;cases C:tb A r.i with
   |false=>rw[C,cond_false]at h';exact rest h'
   |true=>
    rw[C,cond_true]at h';cases B:Ho Ax c r.i with
    |false=>rw[B,cond_false]at h';exact rest h'
    |true=>
     rw[B,cond_true,Bv,Tr.Hl]at h';split at h'
     ·rename_i e;injection h' with h';subst h';exact .inl ⟨r,BN ..,J,by rw[<-LI];exact C,B,e.symm⟩
     ·exact rest h'
  ·exact rest h'
theorem zS {news Ax:List IU} {n q:Nat} {H:Tr Ae} {x:Nat} {o:Ae}:(MA news Ax n q H).get x=some o-> (∃r∈news,r.k=.new o/\Ho Ax n r.i=true/\x=q+r.i)\/H.get x=some o:=by
 induction news with
 |nil=>exact .inr
 |cons r news C=>
  intro h;have h':(match r.k with
   |.new o=>cond (Ho Ax n r.i) (fN (q+r.i) λx=>(MA news Ax n q H).set x o) (MA news Ax n q H)
   |_=>MA news Ax n q H).get x=some o:=h
  have rest:(MA news Ax n q H).get x=some o->(∃y∈r::news,y.k=.new o/\Ho Ax n y.i=true/\x=q+y.i)\/H.get x=some o:=λh=>by
   rcases C h with⟨y,J,B⟩|h
   ·exact .inl ⟨y,Ca _ J,B⟩
   ·exact .inr h
  split at h'
  ·rename_i b E;cases B:Ho Ax n r.i with
   |false=>rw[B,cond_false]at h';exact rest h'
   |true=>
    rw[B,cond_true,Bv,Tr.Hl]at h';split at h'
    ·rename_i e;injection h' with h';subst h';exact .inl ⟨r,BN ..,E,B,e.symm⟩
    ·exact rest h'
  ·exact rest h'
theorem uf {Ax:List IU} {c j:Nat} (h:Ho Ax c j=true):∀x∈Ax,x.i<c->x.A.testBit j=false:=λx q hc=>by have:=JX h x q;rw[show Nat.blt x.i c=true from(by rw[Co];exact hc),cond_true]at this;rw[<-LI];simpa using this
theorem Xz {α:Type} {f:α->Bool}:∀ {l:List α},(∀x∈l,f x=true)->FA f l=true
 | [],_=>rfl
 |a::l,h=>by rw[o9,h a (BN ..),cond_true];exact Xz λx q=>h x (Ca _ q)
theorem ug {Ax:List IU} {c j:Nat} (h:∀x∈Ax,x.i<c->x.A.testBit j=false):Ho Ax c j=true:=by
 apply Xz;intro x y;cases q:Nat.blt x.i c with
 |false=>rfl
 |true=>rw[cond_true,LI,h x y (by rw[Co]at q;exact q)];rfl
end Go.Ev
