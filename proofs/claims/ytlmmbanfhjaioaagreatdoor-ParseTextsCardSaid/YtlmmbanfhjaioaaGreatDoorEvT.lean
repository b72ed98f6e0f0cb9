/- Laid by program out of its parts: EvT. -/
import Derived.Test.YtlmmbanfhjaioaaGreatDoorEvS
set_option linter.unusedVariables false
set_option linter.unusedSimpArgs false
/- The evaluator, part T: the region's table from its run. -/
namespace Go.Ev
structure DStep (P:Program) (call:DZ) (ops:Array Oper) (N r0:Nat) (A p:Nat) (o:Oper) (σ σ':DS) (r:IU):Prop where
 ei:r.i=p
 eo:r.o=o
 eA:r.A=A
 eT:r.T=σ.T
 eH:r.H=σ'.H
 ec:r.cc=σ'.cc
 put:Jp N σ.T o.dst r.v=some σ'.T
 hv:r.k=.Dy->r∈σ'.At
 Tz:∀x∈σ.At,x∈σ'.At
 O1:∀x∈σ'.At,x∈σ.At\/(x=r/\r.k=.Dy)
 nw:∀b,r.k=.new b->r∈σ'.news
 nwk:∀x∈σ.news,x∈σ'.news
 Pa:∀x∈σ'.news,x∈σ.news\/(x=r/\∃b,r.k=.new b)
 rd:r.k=.pure->LD o.op=true->r∈σ'.reads
 rdk:∀x∈σ.reads,x∈σ'.reads
 kind:match r.k with
  |.off=>EX ops σ.T o=some false/\r.v=.AL []/\σ'.H=σ.H/\σ'.nx=σ.nx/\σ'.cc=σ.cc
  |.pure=>EX ops σ.T o=some true/\σ'.H=σ.H/\σ'.nx=σ.nx/\σ'.cc=σ.cc/\Dl P (DY σ.news σ.At A p r0 σ.H) (B2 σ.T) o.op=some r.v
  |.new b=>EX ops σ.T o=some true/\σ'.H=σ.H/\σ'.nx=σ.nx/\σ'.cc=σ.cc/\EE P (B2 σ.T) (r0+p) o.op=some (r.v,b)
  |.Dy=>EX ops σ.T o=some true/\σ'.cc=p+1/\(∀h∈σ.At,A.testBit h.i=true)/\
    FK P call (B2 σ.T) (DY σ.news σ.At A p r0 σ.H) (r0+p) σ.nx o.op=some (.mk r.v σ'.H σ'.nx)/\σ.pn=none
  |.dead=>QP σ.pn A=true/\r.v=.AL []/\σ'.H=σ.H/\σ'.nx=σ.nx/\σ'.cc=σ.cc
  |.AA v H nx=>EX ops σ.T o=some true/\σ'.H=σ.H/\σ'.nx=σ.nx/\σ'.cc=σ.cc/\(∀h∈σ.At,A.testBit h.i=true)/\
    FK P call (B2 σ.T) (DY σ.news σ.At A p r0 σ.H) (r0+p) σ.nx o.op=some (.AA v H nx)/\σ.pn=none
 pk:σ'.pn=match r.k with
  |.AA v H nx=>some ⟨p,A,v,H,nx⟩
  |_=>σ.pn
theorem Aeq {N p:Nat} {o:Oper} {A:Nat} {y q:DS} {k:DK} {v:AV} {H:Tr Ac} {nx cc:Nat} (h:HY N p o A y k v H nx cc=some q): Jp N y.T o.dst v=some q.T/\q.H=H/\q.nx=nx/\q.cc=cc/\ q.At=(match k with|.Dy=>⟨p,o,A,y.T,k,v,H,cc⟩::y.At|_=>y.At)/\ q.news=(match k with|.new _=>⟨p,o,A,y.T,k,v,H,cc⟩::y.news|_=>y.news)/\ q.reads=(match k with|.pure=>cond (LD o.op) (⟨p,o,A,y.T,k,v,H,cc⟩::y.reads) y.reads|_=>y.reads)/\ q.pn=(match k with|.AA v H nx=>some ⟨p,A,v,H,nx⟩|_=>y.pn):=by
 obtain⟨T,hT,B⟩:=Ae.1 h;injection B with B;cases k with
 |off=>subst B;exact⟨hT,rfl,rfl,rfl,rfl,rfl,rfl,rfl⟩
 |dead=>subst B;exact⟨hT,rfl,rfl,rfl,rfl,rfl,rfl,rfl⟩
 |AA _ _ _=>subst B;exact⟨hT,rfl,rfl,rfl,rfl,rfl,rfl,rfl⟩
 |pure=>
  simp only at B;by_cases C:LD o.op=true
  ·rw[C,cond_true]at B;subst B;simp only[C,cond_true];exact⟨hT,trivial,trivial,trivial,trivial,trivial,trivial,trivial⟩
  ·rw[Bool.not_eq_true]at C;rw[C,cond_false]at B;subst B;simp only[C,cond_false];exact⟨hT,trivial,trivial,trivial,trivial,trivial,trivial,trivial⟩
 |new b=>subst B;exact⟨hT,rfl,rfl,rfl,rfl,rfl,rfl,rfl⟩
 |Dy=>subst B;exact⟨hT,rfl,rfl,rfl,rfl,rfl,rfl,rfl⟩
theorem S6 {P:Program} {call:DZ} {ops:Array Oper} {N B p:Nat} {o:Oper} {A:Nat} {q C:DS} {k:DK} {v:AV} {H:Tr Ac} {nx cc:Nat} (h:HY N p o A q k v H nx cc=some C) (S:match k with
  |.off=>EX ops q.T o=some false/\v=.AL []/\H=q.H/\nx=q.nx/\cc=q.cc
  |.pure=>EX ops q.T o=some true/\H=q.H/\nx=q.nx/\cc=q.cc/\Dl P (DY q.news q.At A p B q.H) (B2 q.T) o.op=some v
  |.new b=>EX ops q.T o=some true/\H=q.H/\nx=q.nx/\cc=q.cc/\EE P (B2 q.T) (B+p) o.op=some (v,b)
  |.Dy=>EX ops q.T o=some true/\cc=p+1/\(∀h∈q.At,A.testBit h.i=true)/\
    FK P call (B2 q.T) (DY q.news q.At A p B q.H) (B+p) q.nx o.op=some (.mk v H nx)/\q.pn=none
  |.dead=>QP q.pn A=true/\v=.AL []/\H=q.H/\nx=q.nx/\cc=q.cc
  |.AA O H' nx'=>EX ops q.T o=some true/\H=q.H/\nx=q.nx/\cc=q.cc/\(∀h∈q.At,A.testBit h.i=true)/\
    FK P call (B2 q.T) (DY q.news q.At A p B q.H) (B+p) q.nx o.op=some (.AA O H' nx')/\q.pn=none):DStep P call ops N B A p o q C ⟨p,o,A,q.T,k,v,H,cc⟩:=by
 obtain⟨W,M,V,L,J,E,K,U⟩:=Aeq h;refine⟨rfl,rfl,rfl,rfl,M.symm,L.symm,W,?_,?_,?_,?_,?_,?_,?_,?_,?_,by rw[U];cases k<;>rfl⟩
 ·rintro rfl;rw[J];exact List.mem_cons_self ..
 ·intro x y;rw[J];cases k<;>first|exact y|exact List.mem_cons_of_mem _ y
 ·intro x y;rw[J]at y;cases k<;>first|exact .inl y|(rcases List.mem_cons.1 y with rfl|y;exact .inr ⟨rfl,rfl⟩;exact .inl y)
 ·rintro b rfl;rw[E];exact List.mem_cons_self ..
 ·intro x y;rw[E];cases k<;>first|exact y|exact List.mem_cons_of_mem _ y
 ·intro x y;rw[E]at y;cases k<;>first|exact .inl y|(rcases List.mem_cons.1 y with rfl|y;exact .inr ⟨rfl,_,rfl⟩;exact .inl y)
 ·rintro rfl R;rw[K];simp only[R,cond_true];exact List.mem_cons_self ..
 ·intro x y;rw[K];cases k<;>first|exact y|(simp only;cases LD o.op;exact y;exact List.mem_cons_of_mem _ y)
 ·subst M;subst V;subst L;cases k<;>exact S
theorem Aev {P:Program} {call:DZ} {ops:Array Oper} {N L:Nat} {S:Tr Nat} {p:Nat} {o:Oper} {y C:DS} (h:S5 P call ops N L S p o y=some C): ∃r,DStep P call ops N L (maskAt S p) p o y C r:=by
 obtain⟨A,hA,K⟩:=Ae.1 h;have V:maskAt S p=A:=by unfold maskAt;rw[hA];rfl
 rw[V];clear h;cases J:QP y.pn A with
 |true=>rw[J,cond_true]at K;exact⟨_,S6 K ⟨J,rfl,rfl,rfl,rfl⟩⟩
 |false=>
 rw[J,cond_false]at K;obtain⟨Z,hw,B⟩:=Ae.1 K;clear K;cases Z with
 |false=>rw[cond_false]at B;exact⟨_,S6 B ⟨hw,rfl,rfl,rfl,rfl⟩⟩
 |true=>
  rw[cond_true]at B;cases hp:Dl P (DY y.news y.At A p L y.H) (B2 y.T) o.op with
  |some v=>rw[hp]at B;exact⟨_,S6 B ⟨hw,rfl,rfl,rfl,hp⟩⟩
  |none=>
   rw[hp]at B;simp only[Bu]at B;cases hn:EE P (B2 y.T) (L+p) o.op with
   |some q=>rw[hn]at B;exact⟨_,S6 B ⟨hw,rfl,rfl,rfl,hn⟩⟩
   |none=>
    rw[hn]at B;obtain⟨Y,R⟩:=AK.1 B;obtain⟨U,R⟩:=AK.1 R;obtain⟨r,W,O⟩:=Ae.1 R;have E:y.pn=none:=by simpa using U
    cases r with
    |AA v H nx=>exact⟨_,S6 (show HY N p o A y (.AA v H nx) (.AL []) y.H y.nx y.cc=some C from O) ⟨hw,rfl,rfl,rfl,λh M=>by rw[<-LF];exact JP Y h M,W,E⟩⟩
    |Dc _ _ _ _=>cases O
    |mk v H nx=>
    exact⟨_,S6 (show HY N p o A y .Dy v H nx (p+1)=some C from O) ⟨hw,rfl,λh M=>by rw[<-LF];exact JP Y h M,W,E⟩⟩
theorem lM {A:Nat}:∀(l:List Oper) (k:Nat) (T:Tr AV) (d:Nat) (b:AV),(Ko A l k T).get d=some b->T.get d=some b/\∀j o,l[j]? =some o->o.dst=some d->A.testBit (k+j)=true
 | [],_,_,_,_,h=>⟨h,λj o B=>by simp at B⟩
 |o::l,k,T,d,b,h=>by
  have h':(match o.dst with
   |none=>Ko A l (k+1) T
   |some d=>cond (tb A k) (Ko A l (k+1) T) (Ko A l (k+1) (T.del d))).get d=some b:=by
   have J:(fN (k+1) λC=>match o.dst with
    |none=>Ko A l C T
    |some d=>cond (tb A k) (Ko A l C T) (Ko A l C (T.del d))).get d=some b:=h
   rwa[Bu]at J
  have rest:∀T',(Ko A l (k+1) T').get d=some b->T'.get d=some b/\∀j o,l[j]? =some o->o.dst=some d->A.testBit (k+1+j)=true:=λT' h=>lM l (k+1) T' d b h;have fin:(T.get d=some b/\∀j o,l[j]? =some o->o.dst=some d->A.testBit (k+1+j)=true)->(o.dst=some d->A.testBit k=true)->T.get d=some b/\∀j o',(o::l)[j]? =some o'->o'.dst=some d->A.testBit (k+j)=true:=λq E=>by
   refine⟨q.1,λj o' B hd=>?_⟩;cases j with
   |zero=>simp at B;subst B;exact E hd
   |succ j=>rw[show k+(j+1)=k+1+j by omega];exact q.2 j o' (by simpa using B) hd
  split at h'
  ·rename_i hd;exact fin (rest _ h') λe=>by rw[hd]at e;cases e
  ·rename_i K hd;cases ht:tb A k with
   |true=>rw[ht,cond_true]at h';exact fin (rest _ h') λ_=>by rw[<-LF];exact ht
   |false=>
    rw[ht,cond_false]at h';obtain⟨q,E⟩:=rest _ h';rw[Tr.H4]at q;by_cases y:K=d
    ·rw[if_pos y]at q;cases q
    ·rw[if_neg y]at q;exact fin ⟨q,E⟩ λe=>by rw[hd]at e;exact absurd (Option.some.inj e) y
theorem lT {P:Program} {call:DZ} {ops:Array Oper} {N C:Nat} {E:Tr Nat}:∀(l:List Oper) (p:Nat) (B y:DS),Qy P call ops N C E l p B=some y-> ∃(f:Nat->DS) (g:Nat->IU),f p=B/\f (p+l.length)=y/\∀i o,l[i]? =some o->DStep P call ops N C (maskAt E (p+i)) (p+i) o (f (p+i)) (f (p+i+1)) (g (p+i))
 | [],p,B,y,h=>by injection h with h;subst h;exact⟨λ_=>B,λ_=>⟨0,default,0,.leaf,.off,.bool true,.leaf,0⟩,rfl,rfl,λi o hi=>by simp at hi⟩
 |o::l,p,B,y,h=>by
  obtain⟨J,M,K⟩:=Ae.1 (show(ob (S5 P call ops N C E p o B) λy=>fN (p+1) λq=>Qy P call ops N C E l q y)=some y from h);rw[Bu]at K;obtain⟨r,L⟩:=Aev M;obtain⟨f,g,S,R,O⟩:=lT l (p+1) J y K;refine⟨λi=>if i=p then B else f i,λi=>if i=p then r else g i,by simp,?_,λi o' hi=>?_⟩
  ·simp only[List.length_cons];rw[if_neg (by omega),show p+(l.length+1)=p+1+l.length by omega];exact R
  ·cases i with
   |zero=>simp at hi;subst hi;simp only[Nat.add_zero,if_true];rw[if_neg (by omega),S];exact L
   |succ i=>simp only[if_neg (show¬p+(i+1)=p by omega),if_neg (show¬p+(i+1)+1=p by omega)];have:=O i o' (by simpa using hi);rwa[show p+1+i=p+(i+1) by omega]at this
theorem AcT {news At:List IU} {A c q:Nat} {H:Tr Ac} {x:Nat} {o:Ac}:(DY news At A c q H).get x=some o-> (∃r∈news,r.k=.new o/\A.testBit r.i=true/\Hg At c r.i=true/\x=q+r.i)\/H.get x=some o:=by
 induction news with
 |nil=>exact .inr
 |cons r news E=>
  intro h;have h':(match r.k with
   |.new o=>cond (tb A r.i) (cond (Hg At c r.i) (fN (q+r.i) λx=>(DY news At A c q H).set x o) (DY news At A c q H)) (DY news At A c q H)
   |_=>DY news At A c q H).get x=some o:=h
  have rest:(DY news At A c q H).get x=some o->(∃y∈r::news,y.k=.new o/\A.testBit y.i=true/\Hg At c y.i=true/\x=q+y.i)\/H.get x=some o:=λh=>by
   rcases E h with⟨y,C,B⟩|h
   ·exact .inl ⟨y,List.mem_cons_of_mem _ C,B⟩
   ·exact .inr h
  split at h'
  ·rename_i b hb;cases C:tb A r.i with
   |false=>rw[C,cond_false]at h';exact rest h'
   |true=>
    rw[C,cond_true]at h';cases B:Hg At c r.i with
    |false=>rw[B,cond_false]at h';exact rest h'
    |true=>
     rw[B,cond_true,Bu,Tr.F6]at h';split at h'
     ·rename_i e;injection h' with h';subst h';exact .inl ⟨r,List.mem_cons_self ..,hb,by rw[<-LF];exact C,B,e.symm⟩
     ·exact rest h'
  ·exact rest h'
theorem AcS {news At:List IU} {n q:Nat} {H:Tr Ac} {x:Nat} {o:Ac}:(Mt news At n q H).get x=some o-> (∃r∈news,r.k=.new o/\Hg At n r.i=true/\x=q+r.i)\/H.get x=some o:=by
 induction news with
 |nil=>exact .inr
 |cons r news C=>
  intro h;have h':(match r.k with
   |.new o=>cond (Hg At n r.i) (fN (q+r.i) λx=>(Mt news At n q H).set x o) (Mt news At n q H)
   |_=>Mt news At n q H).get x=some o:=h
  have rest:(Mt news At n q H).get x=some o->(∃y∈r::news,y.k=.new o/\Hg At n y.i=true/\x=q+y.i)\/H.get x=some o:=λh=>by
   rcases C h with⟨y,E,B⟩|h
   ·exact .inl ⟨y,List.mem_cons_of_mem _ E,B⟩
   ·exact .inr h
  split at h'
  ·rename_i b hb;cases B:Hg At n r.i with
   |false=>rw[B,cond_false]at h';exact rest h'
   |true=>
    rw[B,cond_true,Bu,Tr.F6]at h';split at h'
    ·rename_i e;injection h' with h';subst h';exact .inl ⟨r,List.mem_cons_self ..,hb,B,e.symm⟩
    ·exact rest h'
  ·exact rest h'
theorem zL {At:List IU} {c j:Nat} (h:Hg At c j=true):∀x∈At,x.i<c->x.A.testBit j=false:=λx q hc=>by have:=JP h x q;rw[show Nat.blt x.i c=true from(by rw[Nat.blt_eq];exact hc),cond_true]at this;rw[<-LF];simpa using this
theorem Y3 {α:Type} {f:α->Bool}:∀ {l:List α},(∀x∈l,f x=true)->Fu f l=true
 | [],_=>rfl
 |a::l,h=>by rw[uV,h a (List.mem_cons_self ..),cond_true];exact Y3 λx q=>h x (List.mem_cons_of_mem _ q)
theorem zM {At:List IU} {c j:Nat} (h:∀x∈At,x.i<c->x.A.testBit j=false):Hg At c j=true:=by
 apply Y3;intro x q;cases hb:Nat.blt x.i c with
 |false=>rfl
 |true=>rw[cond_true,LF,h x q (by rw[Nat.blt_eq]at hb;exact hb)];rfl
end Go.Ev
