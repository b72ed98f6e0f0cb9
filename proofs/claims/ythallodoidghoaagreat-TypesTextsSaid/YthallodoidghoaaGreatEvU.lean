/- Laid by program out of its parts: EvU. -/
import Derived.Test.YthallodoidghoaaGreatEvT
set_option linter.unusedVariables false
set_option linter.unusedSimpArgs false
namespace Go.Ev
theorem pE {P:Program} (hm:P.follows .mixedOrders=true):jB P:=by
 intro call ops s x s' af h id E F ρ a w ro Q hs hq;obtain⟨AT,ao,h1⟩:=Ai.1 h;simp only[Bv]at h1;obtain⟨σ,aI,S⟩:=Ai.1 h1;obtain⟨aK,Y⟩:=AQ.1 S;clear h h1 S;have aj:∀i,i<ops.size->ops[i]? =some ((ops[i]?).getD default):=λi hi=>by rw[Array.getElem?_eq_getElem hi];rfl
 have st:=zk aj ao;obtain⟨f,g,f0,fn,ay⟩:=pI _ _ _ _ aI;rw[show 0+ops.toList.length=ops.size by simp]at fn;have step:∀i,i<ops.size->DStep P call ops s.N s.nx (EL AT i) i ((ops[i]?).getD default) (f i) (f (i+1)) (g i):=λi hi=>by have:=ay i ((ops[i]?).getD default) (by rw[Array.getElem?_toList];exact aj i hi);rwa[Nat.zero_add]at this
 let t:B5:=⟨λi=>(ops[i]?).getD default,EL AT,λi=>(f i).T,λi=>(g i).k,λi=>(g i).v,λi=>(f i).H,λi=>(f i).nx⟩;have ai:∀p,p<=ops.size->∀i,i<p->(g i).k=.Ds->g i∈(f p).Az:=by
  intro p
  induction p with
  |zero=>intro _ i hi;omega
  |succ p W=>
   intro J i hi z;by_cases ad:i=p
   ·subst ad;exact(step i J).hv z
   ·exact(step p J).dc _ (W (by omega) i (by omega) z)
 have PU:∀p,p<=ops.size->∀r∈(f p).Az,∃i,i<p/\r=g i/\(g i).k=.Ds:=by
  intro p
  induction p with
  |zero=>intro _ r B;rw[f0]at B;cases B
  |succ p W=>
   intro J r B;rcases(step p J).PU r B with B|⟨rfl,z⟩
   ·obtain⟨i,h1,S⟩:=W (by omega) r B;exact⟨i,by omega,S⟩
   ·exact⟨p,by omega,rfl,z⟩
 have aP:∀p,p<=ops.size->∀i b,i<p->(g i).k=.new b->g i∈(f p).news:=by
  intro p
  induction p with
  |zero=>intro _ i b hi;omega
  |succ p W=>
   intro J i b hi z;by_cases ad:i=p
   ·subst ad;exact(step i J).nw b z
   ·exact(step p J).nwk _ (W (by omega) i b (by omega) z)
 have P4:∀p,p<=ops.size->∀r∈(f p).news,∃i,i<p/\r=g i/\∃b,(g i).k=.new b:=by
  intro p
  induction p with
  |zero=>intro _ r B;rw[f0]at B;cases B
  |succ p W=>
   intro J r B;rcases(step p J).P4 r B with B|⟨rfl,z⟩
   ·obtain⟨i,h1,S⟩:=W (by omega) r B;exact⟨i,by omega,S⟩
   ·exact⟨p,by omega,rfl,z⟩
 have aN:∀p,p<=ops.size->∀i,i<p->(g i).k=.pure->LG ((ops[i]?).getD default).op=true->g i∈(f p).reads:=by
  intro p
  induction p with
  |zero=>intro _ i hi;omega
  |succ p W=>
   intro J i hi z B;by_cases ad:i=p
   ·subst ad;exact(step i J).rd z B
   ·exact(step p J).rdk _ (W (by omega) i (by omega) z B)
 have az:∀p,p<=ops.size->∀q,(f p).pn=some q->q.p<p/\(g q.p).k=.AG q.v q.H q.nx/\q.A=EL AT q.p:=by
  intro p
  induction p with
  |zero=>intro _ q hq;rw[f0]at hq;cases hq
  |succ p W=>
   intro J q hq;have K:=(step p J).pk;rw[hq]at K;have aO:(f p).pn=some q->q.p<p+1/\(g q.p).k=.AG q.v q.H q.nx/\q.A=EL AT q.p:=λh=>by obtain⟨i1,i2,i3⟩:=W (by omega) q h;exact⟨by omega,i2,i3⟩
   split at K
   ·rename_i v H nx z;injection K with K;subst K;exact⟨Nat.lt_succ_self p,z,rfl⟩
   ·exact aO K.symm
 have ah:∀i v H nx,i<ops.size->(g i).k=.AG v H nx->∀p,i<p->p<=ops.size->(f p).pn≠none:=by
  intro i v H nx hi z p
  induction p with
  |zero=>intro h;omega
  |succ p W=>
   intro ad J;have K:=(step p J).pk;by_cases he:i=p
   ·subst he;rw[z]at K;rw[K];simp
   ·have:=W (by omega) (by omega);split at K
    ·rw[K];simp
    ·rw[K];exact this
 have aV:∀p,p<=ops.size->t.Gj ops.size (f p).cc/\(f p).cc<=p/\∀q,t.hv ops.size q->(q<(f p).cc↔q<p):=by
  intro p
  induction p with
  |zero=>intro _;rw[f0];exact⟨.inl rfl,AH _,λq _=>Iff.rfl⟩
  |succ p W=>
   intro J;obtain⟨i1,i2,i3⟩:=W (by omega);have z:=(step p J).kind;by_cases hh:(g p).k=.Ds
   ·rw[hh]at z;have e:(f (p+1)).cc=p+1:=z.2.1;rw[e];exact⟨.inr ⟨p,⟨J,hh⟩,rfl⟩,AH _,λq _=>Iff.rfl⟩
   ·have e:(f (p+1)).cc=(f p).cc:=by
     split at z
     ·exact z.2.2.2.2
     ·exact z.2.2.2.1
     ·exact z.2.2.2.1
     ·rename_i hx;exact absurd hx hh
     ·exact z.2.2.2.2
     ·exact z.2.2.2.1
    rw[e];refine⟨i1,by omega,λq y=>?_⟩;rw[i3 q y];have:q≠p:=λe=>by subst e;exact hh y.2
    omega
 have aa:∀p,p<=ops.size->∀c j,(c<=p\/p=ops.size)->G9 (f p).Az c j=true->t.late ops.size c j:=λp J c j av hl q y ar aw=>by
  have aR:q<p:=by
   rcases av with h|h
   ·omega
   ·rw[h];exact y.1
  have:=Ab1 hl (g q) (ai p J q aR y.2) (by rw[(step q y.1).ei];exact ar);rw[(step q y.1).eA]at this;unfold B5.Cj at aw;rw[show t.A q=EL AT q from rfl,this]at aw;cases aw
 have R:∀p,p<=ops.size->∀c j,t.late ops.size c j->G9 (f p).Az c j=true:=λp J c j hl=>Ab2 λr B hc=>by
  obtain⟨q,hq,rfl,z⟩:=PU p J r B;have aq:q<ops.size:=by omega
  rw[(step q aq).ei]at hc;have:=hl q ⟨aq,z⟩ hc;unfold B5.Cj at this;rw[(step q aq).eA];simpa using this
 have L:∀p,p<=ops.size->∀i c H,(c<=p\/p=ops.size)->(∀x o,H.get x=some o->(t.G c).get x=some o)->t.sub ops.size s.nx (D2 (f p).news (f p).Az (EL AT i) c s.nx H) i c:=by
  intro p J i c H av hG x o hx;rcases Afq hx with⟨r,B,h1,S,Y,h4⟩|h
  ·obtain⟨j,hj,rfl,b,hb⟩:=P4 p J r B;have aT:j<ops.size:=by omega
   rw[(step j aT).ei]at S Y h4;exact .inl ⟨j,S,h1,aa p J c j av Y,h4⟩
  ·exact .inr (hG x o h)
 have ag:∀c,t.Gj ops.size c->T4 P σ s.nx c (t.G c)=true:=by
  obtain⟨c1,c2⟩:=BG aK;rintro c (rfl|⟨q,y,rfl⟩)
  ·have:t.G 0=s.H:=by show(f 0).H=s.H;rw[f0]
   rw[this];exact c1
  ·have hm:=ai ops.size (AH _) q y.1 y.2;rw[fn]at hm;have:=JH c2 _ hm;have z:=(step q y.1).kind;rw[show(g q).k=.Ds from y.2]at z;rw[(step q y.1).ec,show(f (q+1)).cc=q+1 from z.2.1,(step q y.1).eH]at this;exact this
 have ok:Ef t P call ops s:=by
  refine⟨aj,λi j hi hj=>st.Cj i j hi hj,st.K8,by show(f 0).T=_;rw[f0],λi hi=>(step i hi).put,st.dst,λi d k hi z hl hd aD=>st.look i d k hi z hl hd aD,
   by show(f 0).H=_;rw[f0],by show(f 0).nx=_;rw[f0],λi hi=>?_⟩
  have z:=(step i hi).kind;unfold B5.Le;show(match(g i).k with
   |.off=>_
   |.pure=>_
   |.new o=>_
   |.Ds=>_
   |.dead=>_
   |.AG v H nx=>_)
  split at z
  ·rename_i e;rw[e];exact⟨z.1,z.2.1,z.2.2.1,z.2.2.2.1⟩
  ·rename_i e;rw[e];refine⟨z.1,⟨z.2.1,z.2.2.1⟩,λc hc hl aJ=>?_⟩;have ae:=z.2.2.2.2;cases aA:LG ((ops[i]?).getD default).op with
   |false=>exact⟨.leaf,λx o hx=>(by rw[Tr.Cy]at hx;cases hx),(Aaw aA).trans ae⟩
   |true=>
    have hm:=aN ops.size (AH _) i hi e aA;rw[fn]at hm;have ab:=(BG (ag c hc)).1;have B:=JH ab _ hm;unfold YH at B;cases hb:Nat.beq c (g i).cc with
    |true=>
     have aF:c=(f i).cc:=by rw[D4 hb,(step i hi).ec];exact z.2.2.2.1
     obtain⟨_,i2,i3⟩:=aV i (by omega);refine⟨_,?_,ae⟩;have aH:=L i (by omega) i i (f i).H (.inl (AH _)) (λx o h=>h);intro x o hx;rcases aH x o hx with⟨j,h1,S,Y,h4⟩|h
     ·exact .inl ⟨j,h1,S,λq y ar=>Y q y ((i3 q y).1 (by rw[<-aF];exact ar)),h4⟩
     ·refine .inr ?_;have hG:∀d p,p+d<=i->(∀q,t.hv ops.size q->(q<p↔q<p+d))->t.G (p+d)=t.G p:=by
       intro d
       induction d with
       |zero=>intro p _ _;rfl
       |succ d W=>
        intro p aW hq;have aC:(g (p+d)).k≠.Ds:=λZ=>by have:=hq (p+d) ⟨by omega,Z⟩;omega
        have ao:(f (p+d+1)).H=(f (p+d)).H:=by
         have Z:=(step (p+d) (by omega)).kind;split at Z
         ·exact Z.2.2.1
         ·exact Z.2.1
         ·exact Z.2.1
         ·rename_i hx;exact absurd hx aC
         ·exact Z.2.2.1
         ·exact Z.2.1
        refine(show t.G (p+(d+1))=t.G (p+d)from ao).trans (W p (by omega) λq y=>?_);have:=hq q y;have aD:q≠p+d:=λe=>by subst e;exact aC y.2
        omega
      obtain⟨d,hd⟩:=Nat.le.dest i2;have:=hG d (f i).cc (by omega) (λq y=>by rw[hd];exact i3 q y);rw[hd]at this;rw[aF,<-this];exact h
    |false=>
     rw[hb,cond_false,(step i hi).ei,<-fn,R ops.size (AH _) c i hl,cond_true]at B;have aL:EH (λh=>cond (tb (g i).A h.i) (Nat.blt h.i c) true) (f ops.size).Az=true:=by
      apply bO;intro r B;obtain⟨q,hq,rfl,U⟩:=PU ops.size (AH _) r B;rw[(step q hq).ei,(step i hi).eA];cases aB:tb (EL AT i) q with
      |false=>rfl
      |true=>rw[LK]at aB;rw[cond_true,CE];exact aJ q ⟨hq,U⟩ aB
     rw[aL,cond_true,(step i hi).eA,(step i hi).eT,(step i hi).eo]at B;cases au:De P (D2 (f ops.size).news (f ops.size).Az (EL AT i) c s.nx (t.G c)) (BR (f i).T) ((ops[i]?).getD default).op with
     |none=>rw[au]at B;cases B
     |some v=>rw[au]at B;have:=wE.1 B;subst this;exact⟨_,L ops.size (AH _) i c (t.G c) (.inr rfl) (λx o h=>h),au⟩
  ·rename_i b e;rw[e];refine⟨z.1,⟨z.2.1,z.2.2.1⟩,z.2.2.2.2,λc hc hl=>?_⟩;have hm:=aP ops.size (AH _) i b hi e;rw[fn]at hm;have ab:=(BG (ag c hc)).2;have B:=JH ab _ hm;unfold eU at B;rw[(step i hi).ei,<-fn,R ops.size (AH _) c i hl,cond_true,Bv]at B;simpa using B
  ·rename_i e;rw[e];refine⟨z.1,λq y aS=>?_,_,L i (by omega) i i (f i).H (.inl (AH _)) (λx o h=>h),z.2.2.2.1⟩;have:=z.2.2.1 _ (ai i (by omega) q aS y.2);rw[(step q y.1).ei]at this;exact this
  ·rename_i e;rw[e];refine⟨?_,z.2.2.1,z.2.2.2.1⟩;have an:=z.1;cases V:(f i).pn with
   |none=>rw[V]at an;cases an
   |some q=>rw[V]at an;obtain⟨h1,S,_⟩:=az i (by omega) q V;refine⟨q.p,by omega,?_,q.v,q.H,q.nx,S⟩;show(EL AT i).testBit q.p=true;rw[<-LK];exact an
  ·rename_i v H nx e;rw[e];refine⟨z.1,⟨z.2.1,z.2.2.1⟩,λq y=>?_,_,L i (by omega) i i (f i).H (.inl (AH _)) (λx o h=>h),z.2.2.2.2.2.1⟩;have aE:q<i:=by
    rcases Nat.lt_trichotomy q i with h|h|h
    ·exact h
    ·subst h;have:=y.2;rw[show t.k q=(g q).k from rfl,e]at this;cases this
    ·have U:=(step q y.1).kind;rw[show(g q).k=.Ds from y.2]at U;exact absurd U.2.2.2.2 (ah i v H nx hi e q h (Nat.le_of_lt y.1))
   refine⟨aE,?_⟩;have:=z.2.2.2.2.1 _ (ai i (by omega) q aE y.2);rw[(step q y.1).ei]at this;exact this
 cases V:σ.pn with
 |some q=>
  rw[V]at Y;injection Y with Y;injection Y with Y h4;subst Y;subst h4;rw[<-fn]at V;obtain⟨h1,S,h5⟩:=az ops.size (AH _) q V;refine Ahi af ok hm (p:=q.p) (v:=q.v) (H':=q.H) (nx:=q.nx) (T':=Kr q.A ops.toList 0 σ.T) h1 (λi v' aG nx' hi z=>?_) ⟨_,_,_,S⟩ (λd b hb=>?_) hs λaM a' w' u hx aQ hv=>hq aM a' w' hx aQ u hv
  ·have ak:(g i).k=.AG v' aG nx':=z;have aU:i=q.p:=by
    rcases Nat.lt_trichotomy i q.p with h|h|h
    ·have U:=(step q.p h1).kind;rw[S]at U;exact absurd U.2.2.2.2.2.2 (ah i v' aG nx' hi ak q.p h (by omega))
    ·exact h
    ·have U:=(step i hi).kind;rw[ak]at U;exact absurd U.2.2.2.2.2.2 (ah q.p q.v q.H q.nx h1 S i h (by omega))
   subst aU;rw[S]at ak;injection ak with e1 e2 e3;exact⟨rfl,e1.symm,e2.symm,e3.symm⟩
  ·obtain⟨e1,e2⟩:=oz _ _ _ _ _ hb;refine⟨?_,λk z hd=>?_⟩
   ·show(f ops.size).T.get d=some b;rw[fn];exact e1
   ·have:=e2 k _ (by rw[Array.getElem?_toList];exact aj k z) hd;rw[Nat.zero_add,h5]at this;exact this
 |none=>
 rw[V]at Y;injection Y with Y;injection Y with Y h4;subst Y;refine Ahj af ok hm (λi hi ⟨v,H,nx,z⟩=>ah i v H nx hi z ops.size hi (AH _) (by rw[fn];exact V)) (s':=s') (H':=MT σ.news σ.Az ops.size s.nx σ.H) ?_ ?_ hs hq
 ·rw[<-h4];show _=St.mk s.N (f ops.size).T _ (f ops.size).nx s.ro s.D;rw[fn]
 ·intro x o hx;rcases Afp hx with⟨r,B,h1,S,h4⟩|h
  ·rw[<-fn]at B S;obtain⟨j,hj,rfl,b,hb⟩:=P4 ops.size (AH _) r B;rw[(step j hj).ei]at S h4;exact .inl ⟨j,hj,h1,aa ops.size (AH _) _ j (.inr rfl) S,h4⟩
  ·refine .inr ?_;show(f ops.size).H.get x=some o;rw[fn];exact h
end Go.Ev
