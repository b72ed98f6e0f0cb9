/- Laid by program out of its parts: EvU. -/
import Derived.Test.YtlmmbanfhjaioaaGreatDoorEvT
set_option linter.unusedVariables false
set_option linter.unusedSimpArgs false
namespace Go.Ev
theorem AbM {P:Program} (hm:P.follows .mixedOrders=true):zi P:=by
 intro call ops s x s' ae h id E F ρ a w ro Q hs hq;obtain⟨AT,al,Z⟩:=Ag.1 h;simp only[Bv]at Z;obtain⟨σ,aG,O⟩:=Ag.1 Z;obtain⟨aI,V⟩:=AL.1 O;clear h Z O;have ai:∀i,i<ops.size->ops[i]? =some ((ops[i]?).getD default):=λi hi=>by rw[Array.getElem?_eq_getElem hi];rfl
 have st:=rb ai al;obtain⟨f,g,f0,fn,av⟩:=gM _ _ _ _ aG;rw[show 0+ops.toList.length=ops.size by simp]at fn;have step:∀i,i<ops.size->DStep P call ops s.N s.nx (maskAt AT i) i ((ops[i]?).getD default) (f i) (f (i+1)) (g i):=λi hi=>by have:=av i ((ops[i]?).getD default) (by rw[Array.getElem?_toList];exact ai i hi);rwa[Nat.zero_add]at this
 let t:BU:=⟨λi=>(ops[i]?).getD default,maskAt AT,λi=>(f i).T,λi=>(g i).k,λi=>(g i).v,λi=>(f i).H,λi=>(f i).nx⟩;have ah:∀p,p<=ops.size->∀i,i<p->(g i).k=.DN->g i∈(f p).Ax:=by
  intro p
  induction p with
  |zero=>intro _ i hi;omega
  |succ p U=>
   intro J i hi B;by_cases ab:i=p
   ·subst ab;exact(step i J).hv B
   ·exact(step p J).SJ _ (U (by omega) i (by omega) B)
 have OZ:∀p,p<=ops.size->∀r∈(f p).Ax,∃i,i<p/\r=g i/\(g i).k=.DN:=by
  intro p
  induction p with
  |zero=>intro _ r C;rw[f0]at C;cases C
  |succ p U=>
   intro J r C;rcases(step p J).OZ r C with C|⟨rfl,B⟩
   ·obtain⟨i,Z,O⟩:=U (by omega) r C;exact⟨i,by omega,O⟩
   ·exact⟨p,by omega,rfl,B⟩
 have aN:∀p,p<=ops.size->∀i b,i<p->(g i).k=.new b->g i∈(f p).news:=by
  intro p
  induction p with
  |zero=>intro _ i b hi;omega
  |succ p U=>
   intro J i b hi B;by_cases ab:i=p
   ·subst ab;exact(step i J).nw b B
   ·exact(step p J).vp _ (U (by omega) i b (by omega) B)
 have O4:∀p,p<=ops.size->∀r∈(f p).news,∃i,i<p/\r=g i/\∃b,(g i).k=.new b:=by
  intro p
  induction p with
  |zero=>intro _ r C;rw[f0]at C;cases C
  |succ p U=>
   intro J r C;rcases(step p J).O4 r C with C|⟨rfl,B⟩
   ·obtain⟨i,Z,O⟩:=U (by omega) r C;exact⟨i,by omega,O⟩
   ·exact⟨p,by omega,rfl,B⟩
 have aL:∀p,p<=ops.size->∀i,i<p->(g i).k=.pure->LF ((ops[i]?).getD default).op=true->g i∈(f p).reads:=by
  intro p
  induction p with
  |zero=>intro _ i hi;omega
  |succ p U=>
   intro J i hi B C;by_cases ab:i=p
   ·subst ab;exact(step i J).rd B C
   ·exact(step p J).xE _ (U (by omega) i (by omega) B C)
 have aw:∀p,p<=ops.size->∀q,(f p).pn=some q->q.p<p/\(g q.p).k=.AB q.v q.H q.nx/\q.A=maskAt AT q.p:=by
  intro p
  induction p with
  |zero=>intro _ q hq;rw[f0]at hq;cases hq
  |succ p U=>
   intro J q hq;have K:=(step p J).pk;rw[hq]at K;have aM:(f p).pn=some q->q.p<p+1/\(g q.p).k=.AB q.v q.H q.nx/\q.A=maskAt AT q.p:=λh=>by obtain⟨i1,i2,i3⟩:=U (by omega) q h;exact⟨by omega,i2,i3⟩
   split at K
   ·rename_i v H nx B;injection K with K;subst K;exact⟨Nat.lt_succ_self p,B,rfl⟩
   ·exact aM K.symm
 have ag:∀i v H nx,i<ops.size->(g i).k=.AB v H nx->∀p,i<p->p<=ops.size->(f p).pn≠none:=by
  intro i v H nx hi B p
  induction p with
  |zero=>intro h;omega
  |succ p U=>
   intro ab J;have K:=(step p J).pk;by_cases he:i=p
   ·subst he;rw[B]at K;rw[K];simp
   ·have:=U (by omega) (by omega);split at K
    ·rw[K];simp
    ·rw[K];exact this
 have aT:∀p,p<=ops.size->t.Gy ops.size (f p).cc/\(f p).cc<=p/\∀q,t.hv ops.size q->(q<(f p).cc↔q<p):=by
  intro p
  induction p with
  |zero=>intro _;rw[f0];exact⟨.inl rfl,AM _,λq _=>Iff.rfl⟩
  |succ p U=>
   intro J;obtain⟨i1,i2,i3⟩:=U (by omega);have B:=(step p J).kind;by_cases hh:(g p).k=.DN
   ·rw[hh]at B;have e:(f (p+1)).cc=p+1:=B.2.1;rw[e];exact⟨.inr ⟨p,⟨J,hh⟩,rfl⟩,AM _,λq _=>Iff.rfl⟩
   ·have e:(f (p+1)).cc=(f p).cc:=by
     split at B
     ·exact B.2.2.2.2
     ·exact B.2.2.2.1
     ·exact B.2.2.2.1
     ·rename_i hx;exact absurd hx hh
     ·exact B.2.2.2.2
     ·exact B.2.2.2.1
    rw[e];refine⟨i1,by omega,λq y=>?_⟩;rw[i3 q y];have:q≠p:=λe=>by subst e;exact hh y.2
    omega
 have Y:∀p,p<=ops.size->∀c j,(c<=p\/p=ops.size)->Ho (f p).Ax c j=true->t.late ops.size c j:=λp J c j ar hl q y ao au=>by
  have aP:q<p:=by
   rcases ar with h|h
   ·omega
   ·rw[h];exact y.1
  have:=uf hl (g q) (ah p J q aP y.2) (by rw[(step q y.1).ei];exact ao);rw[(step q y.1).eA]at this;unfold BU.Cp at au;rw[show t.A q=maskAt AT q from rfl,this]at au;cases au
 have M:∀p,p<=ops.size->∀c j,t.late ops.size c j->Ho (f p).Ax c j=true:=λp J c j hl=>ug λr C hc=>by
  obtain⟨q,hq,rfl,B⟩:=OZ p J r C;have an:q<ops.size:=by omega
  rw[(step q an).ei]at hc;have:=hl q ⟨an,B⟩ hc;unfold BU.Cp at this;rw[(step q an).eA];simpa using this
 have L:∀p,p<=ops.size->∀i c H,(c<=p\/p=ops.size)->(∀x o,H.get x=some o->(t.G c).get x=some o)->t.sub ops.size s.nx (D5 (f p).news (f p).Ax (maskAt AT i) c s.nx H) i c:=by
  intro p J i c H ar hG x o hx;rcases zT hx with⟨r,C,Z,O,V,h4⟩|h
  ·obtain⟨j,hj,rfl,b,hb⟩:=O4 p J r C;have aR:j<ops.size:=by omega
   rw[(step j aR).ei]at O V h4;exact .inl ⟨j,O,Z,Y p J c j ar V,h4⟩
  ·exact .inr (hG x o h)
 have af:∀c,t.Gy ops.size c->R6 P σ s.nx c (t.G c)=true:=by
  obtain⟨c1,c2⟩:=Bf aI;rintro c (rfl|⟨q,y,rfl⟩)
  ·have:t.G 0=s.H:=by show(f 0).H=s.H;rw[f0]
   rw[this];exact c1
  ·have hm:=ah ops.size (AM _) q y.1 y.2;rw[fn]at hm;have:=JX c2 _ hm;have B:=(step q y.1).kind;rw[show(g q).k=.DN from y.2]at B;rw[(step q y.1).ec,show(f (q+1)).cc=q+1 from B.2.1,(step q y.1).eH]at this;exact this
 have ok:Ex t P call ops s:=by
  refine⟨ai,λi j hi hj=>st.Cp i j hi hj,st.Lg,by show(f 0).T=_;rw[f0],λi hi=>(step i hi).put,st.dst,λi d k hi B hl hd aB=>st.look i d k hi B hl hd aB,
   by show(f 0).H=_;rw[f0],by show(f 0).nx=_;rw[f0],λi hi=>?_⟩
  have B:=(step i hi).kind;unfold BU.Lm;show(match(g i).k with
   |.off=>_
   |.pure=>_
   |.new o=>_
   |.DN=>_
   |.dead=>_
   |.AB v H nx=>_)
  split at B
  ·rename_i e;rw[e];exact⟨B.1,B.2.1,B.2.2.1,B.2.2.2.1⟩
  ·rename_i e;rw[e];refine⟨B.1,⟨B.2.1,B.2.2.1⟩,λc hc hl aH=>?_⟩;have ad:=B.2.2.2.2;cases ay:LF ((ops[i]?).getD default).op with
   |false=>exact⟨.leaf,λx o hx=>(by rw[Tr.EK]at hx;cases hx),(sQ ay).trans ad⟩
   |true=>
    have hm:=aL ops.size (AM _) i hi e ay;rw[fn]at hm;have aa:=(Bf (af c hc)).1;have C:=JX aa _ hm;unfold Wq at C;cases hb:Nat.beq c (g i).cc with
    |true=>
     have aD:c=(f i).cc:=by rw[DP hb,(step i hi).ec];exact B.2.2.2.1
     obtain⟨_,i2,i3⟩:=aT i (by omega);refine⟨_,?_,ad⟩;have aF:=L i (by omega) i i (f i).H (.inl (AM _)) (λx o h=>h);intro x o hx;rcases aF x o hx with⟨j,Z,O,V,h4⟩|h
     ·exact .inl ⟨j,Z,O,λq y ao=>V q y ((i3 q y).1 (by rw[<-aD];exact ao)),h4⟩
     ·refine .inr ?_;have hG:∀d p,p+d<=i->(∀q,t.hv ops.size q->(q<p↔q<p+d))->t.G (p+d)=t.G p:=by
       intro d
       induction d with
       |zero=>intro p _ _;rfl
       |succ d U=>
        intro p aU hq;have aA:(g (p+d)).k≠.DN:=λW=>by have:=hq (p+d) ⟨by omega,W⟩;omega
        have al:(f (p+d+1)).H=(f (p+d)).H:=by
         have W:=(step (p+d) (by omega)).kind;split at W
         ·exact W.2.2.1
         ·exact W.2.1
         ·exact W.2.1
         ·rename_i hx;exact absurd hx aA
         ·exact W.2.2.1
         ·exact W.2.1
        refine(show t.G (p+(d+1))=t.G (p+d)from al).trans (U p (by omega) λq y=>?_);have:=hq q y;have aB:q≠p+d:=λe=>by subst e;exact aA y.2
        omega
      obtain⟨d,hd⟩:=Nat.le.dest i2;have:=hG d (f i).cc (by omega) (λq y=>by rw[hd];exact i3 q y);rw[hd]at this;rw[aD,<-this];exact h
    |false=>
     rw[hb,cond_false,(step i hi).ei,<-fn,M ops.size (AM _) c i hl,cond_true]at C;have aJ:FA (λh=>cond (tb (g i).A h.i) (Nat.blt h.i c) true) (f ops.size).Ax=true:=by
      apply Xz;intro r C;obtain⟨q,hq,rfl,R⟩:=OZ ops.size (AM _) r C;rw[(step q hq).ei,(step i hi).eA];cases az:tb (maskAt AT i) q with
      |false=>rfl
      |true=>rw[LI]at az;rw[cond_true,Co];exact aH q ⟨hq,R⟩ az
     rw[aJ,cond_true,(step i hi).eA,(step i hi).eT,(step i hi).eo]at C;cases aq:Ds P (D5 (f ops.size).news (f ops.size).Ax (maskAt AT i) c s.nx (t.G c)) (B6 (f i).T) ((ops[i]?).getD default).op with
     |none=>rw[aq]at C;cases C
     |some v=>rw[aq]at C;have:=m2.1 C;subst this;exact⟨_,L ops.size (AM _) i c (t.G c) (.inr rfl) (λx o h=>h),aq⟩
  ·rename_i b e;rw[e];refine⟨B.1,⟨B.2.1,B.2.2.1⟩,B.2.2.2.2,λc hc hl=>?_⟩;have hm:=aN ops.size (AM _) i b hi e;rw[fn]at hm;have aa:=(Bf (af c hc)).2;have C:=JX aa _ hm;unfold Zb at C;rw[(step i hi).ei,<-fn,M ops.size (AM _) c i hl,cond_true,Bv]at C;simpa using C
  ·rename_i e;rw[e];refine⟨B.1,λq y aQ=>?_,_,L i (by omega) i i (f i).H (.inl (AM _)) (λx o h=>h),B.2.2.2.1⟩;have:=B.2.2.1 _ (ah i (by omega) q aQ y.2);rw[(step q y.1).ei]at this;exact this
  ·rename_i e;rw[e];refine⟨?_,B.2.2.1,B.2.2.2.1⟩;have ak:=B.1;cases S:(f i).pn with
   |none=>rw[S]at ak;cases ak
   |some q=>rw[S]at ak;obtain⟨Z,O,_⟩:=aw i (by omega) q S;refine⟨q.p,by omega,?_,q.v,q.H,q.nx,O⟩;show(maskAt AT i).testBit q.p=true;rw[<-LI];exact ak
  ·rename_i v H nx e;rw[e];refine⟨B.1,⟨B.2.1,B.2.2.1⟩,λq y=>?_,_,L i (by omega) i i (f i).H (.inl (AM _)) (λx o h=>h),B.2.2.2.2.2.1⟩;have aC:q<i:=by
    rcases Nat.lt_trichotomy q i with h|h|h
    ·exact h
    ·subst h;have:=y.2;rw[show t.k q=(g q).k from rfl,e]at this;cases this
    ·have R:=(step q y.1).kind;rw[show(g q).k=.DN from y.2]at R;exact absurd R.2.2.2.2 (ag i v H nx hi e q h (Nat.le_of_lt y.1))
   refine⟨aC,?_⟩;have:=B.2.2.2.2.1 _ (ah i (by omega) q aC y.2);rw[(step q y.1).ei]at this;exact this
 cases S:σ.pn with
 |some q=>
  rw[S]at V;injection V with V;injection V with V h4;subst V;subst h4;rw[<-fn]at S;obtain⟨Z,O,h5⟩:=aw ops.size (AM _) q S;refine AbN ae ok hm (p:=q.p) (v:=q.v) (H':=q.H) (nx:=q.nx) (T':=Ky q.A ops.toList 0 σ.T) Z (λi v' aE nx' hi B=>?_) ⟨_,_,_,O⟩ (λd b hb=>?_) hs λaK a' w' u hx aO hv=>hq aK a' w' hx aO u hv
  ·have aj:(g i).k=.AB v' aE nx':=B;have aS:i=q.p:=by
    rcases Nat.lt_trichotomy i q.p with h|h|h
    ·have R:=(step q.p Z).kind;rw[O]at R;exact absurd R.2.2.2.2.2.2 (ag i v' aE nx' hi aj q.p h (by omega))
    ·exact h
    ·have R:=(step i hi).kind;rw[aj]at R;exact absurd R.2.2.2.2.2.2 (ag q.p q.v q.H q.nx Z O i h (by omega))
   subst aS;rw[O]at aj;injection aj with e1 e2 e3;exact⟨rfl,e1.symm,e2.symm,e3.symm⟩
  ·obtain⟨e1,e2⟩:=gH _ _ _ _ _ hb;refine⟨?_,λk B hd=>?_⟩
   ·show(f ops.size).T.get d=some b;rw[fn];exact e1
   ·have:=e2 k _ (by rw[Array.getElem?_toList];exact ai k B) hd;rw[Nat.zero_add,h5]at this;exact this
 |none=>
 rw[S]at V;injection V with V;injection V with V h4;subst V;refine AbO ae ok hm (λi hi ⟨v,H,nx,B⟩=>ag i v H nx hi B ops.size hi (AM _) (by rw[fn];exact S)) (s':=s') (H':=MA σ.news σ.Ax ops.size s.nx σ.H) ?_ ?_ hs hq
 ·rw[<-h4];show _=St.mk s.N (f ops.size).T _ (f ops.size).nx s.ro s.D;rw[fn]
 ·intro x o hx;rcases zS hx with⟨r,C,Z,O,h4⟩|h
  ·rw[<-fn]at C O;obtain⟨j,hj,rfl,b,hb⟩:=O4 ops.size (AM _) r C;rw[(step j hj).ei]at O h4;exact .inl ⟨j,hj,Z,Y ops.size (AM _) _ j (.inr rfl) O,h4⟩
  ·refine .inr ?_;show(f ops.size).H.get x=some o;rw[fn];exact h
end Go.Ev
