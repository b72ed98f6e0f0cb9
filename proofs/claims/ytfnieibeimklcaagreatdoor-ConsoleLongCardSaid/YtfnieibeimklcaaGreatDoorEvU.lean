/- Laid by program out of its parts: EvU. -/
import Derived.Test.YtfnieibeimklcaaGreatDoorEvT
set_option linter.unusedVariables false
set_option linter.unusedSimpArgs false
/- The evaluator, part U: a region that draws its order is what its evaluation says. -/
namespace Go.Ev
theorem drawOK {P:Program} (hm:P.follows .mixedOrders=true):DrawOK P:=by
 intro call ops s x s' hcall h id E F ρ a w ro Q hs hq
 obtain ⟨AT,hst,h1⟩:=ob_some.1 h
 simp only [fN_eq] at h1
 obtain ⟨σ,hrun,h2⟩:=ob_some.1 h1
 obtain ⟨hchk,h3⟩:=gd_some.1 h2
 clear h h1 h2
 have hoo:∀ i,i < ops.size→ops[i]? = some ((ops[i]?).getD default):=fun i hi=>by rw [Array.getElem?_eq_getElem hi];rfl
 have st:=dstat_sound hoo hst
 obtain ⟨f,g,f0,fn,hstep⟩:=drun_sound _ _ _ _ hrun
 rw [show 0 + ops.toList.length=ops.size by simp] at fn
 have step:∀ i,i < ops.size→DStep P call ops s.N s.nx (maskAt AT i) i ((ops[i]?).getD default) (f i) (f (i + 1)) (g i):=fun i hi=>by
  have:=hstep i ((ops[i]?).getD default) (by rw [Array.getElem?_toList];exact hoo i hi)
  rwa [Nat.zero_add] at this
 let t:DTab:=⟨fun i=>(ops[i]?).getD default,maskAt AT,fun i=>(f i).T,fun i=>(g i).k,fun i=>(g i).v,fun i=>(f i).H,fun i=>(f i).nx⟩
 have hvC:∀ p,p≤ops.size→∀ i,i < p→(g i).k = .heavy→g i∈(f p).hvs:=by
  intro p
  induction p with
  | zero=>intro _ i hi;omega
  | succ p ih =>
   intro hp i hi hk
   by_cases hip:i=p
   ·subst hip;exact (step i hp).hv hk
   ·exact (step p hp).hvk _ (ih (by omega) i (by omega) hk)
 have hvS:∀ p,p≤ops.size→∀ r∈(f p).hvs,∃ i,i < p∧r=g i∧(g i).k = .heavy:=by
  intro p
  induction p with
  | zero=>intro _ r hr;rw [f0] at hr;cases hr
  | succ p ih =>
   intro hp r hr
   rcases (step p hp).hvS r hr with hr | ⟨rfl,hk⟩
   ·obtain ⟨i,h1,h2⟩:=ih (by omega) r hr
    exact ⟨i,by omega,h2⟩
   ·exact ⟨p,by omega,rfl,hk⟩
 have nwC:∀ p,p≤ops.size→∀ i b,i < p→(g i).k = .new b→g i∈(f p).news:=by
  intro p
  induction p with
  | zero=>intro _ i b hi;omega
  | succ p ih =>
   intro hp i b hi hk
   by_cases hip:i=p
   ·subst hip;exact (step i hp).nw b hk
   ·exact (step p hp).nwk _ (ih (by omega) i b (by omega) hk)
 have nwS:∀ p,p≤ops.size→∀ r∈(f p).news,∃ i,i < p∧r=g i∧∃ b,(g i).k = .new b:=by
  intro p
  induction p with
  | zero=>intro _ r hr;rw [f0] at hr;cases hr
  | succ p ih =>
   intro hp r hr
   rcases (step p hp).nwS r hr with hr | ⟨rfl,hk⟩
   ·obtain ⟨i,h1,h2⟩:=ih (by omega) r hr
    exact ⟨i,by omega,h2⟩
   ·exact ⟨p,by omega,rfl,hk⟩
 have rdC:∀ p,p≤ops.size→∀ i,i < p→(g i).k = .pure→readsH ((ops[i]?).getD default).op=true→g i∈(f p).reads:=by
  intro p
  induction p with
  | zero=>intro _ i hi;omega
  | succ p ih =>
   intro hp i hi hk hr
   by_cases hip:i=p
   ·subst hip;exact (step i hp).rd hk hr
   ·exact (step p hp).rdk _ (ih (by omega) i (by omega) hk hr)
 have pnS:∀ p,p≤ops.size→∀ q,(f p).pn=some q→q.p < p∧(g q.p).k = .pan q.v q.H q.nx∧q.A=maskAt AT q.p:=by
  intro p
  induction p with
  | zero=>intro _ q hq;rw [f0] at hq;cases hq
  | succ p ih =>
   intro hp q hq
   have hpk:=(step p hp).pk
   rw [hq] at hpk
   have old:(f p).pn=some q→q.p < p + 1∧(g q.p).k = .pan q.v q.H q.nx∧q.A=maskAt AT q.p:=fun h=>by
    obtain ⟨i1,i2,i3⟩:=ih (by omega) q h
    exact ⟨by omega,i2,i3⟩
   split at hpk
   ·rename_i v H nx hk
    injection hpk with hpk;subst hpk
    exact ⟨Nat.lt_succ_self p,hk,rfl⟩
   ·exact old hpk.symm
 have pnK:∀ i v H nx,i < ops.size→(g i).k = .pan v H nx→∀ p,i < p→p≤ops.size→(f p).pn≠none:=by
  intro i v H nx hi hk p
  induction p with
  | zero=>intro h;omega
  | succ p ih =>
   intro hip hp
   have hpk:=(step p hp).pk
   by_cases he:i=p
   ·subst he
    rw [hk] at hpk
    rw [hpk];simp
   ·have:=ih (by omega) (by omega)
    split at hpk
    ·rw [hpk];simp
    ·rw [hpk];exact this
 have hcc:∀ p,p≤ops.size→t.cand ops.size (f p).cc∧(f p).cc≤p∧∀ q,t.hv ops.size q→(q < (f p).cc↔q < p):=by
  intro p
  induction p with
  | zero =>
   intro _
   rw [f0]
   exact ⟨.inl rfl,Nat.le_refl _,fun q _=>Iff.rfl⟩
  | succ p ih =>
   intro hp
   obtain ⟨i1,i2,i3⟩:=ih (by omega)
   have hk:=(step p hp).kind
   by_cases hh:(g p).k = .heavy
   ·rw [hh] at hk
    have e:(f (p + 1)).cc=p + 1:=hk.2.1
    rw [e]
    exact ⟨.inr ⟨p,⟨hp,hh⟩,rfl⟩,Nat.le_refl _,fun q _=>Iff.rfl⟩
   ·have e:(f (p + 1)).cc=(f p).cc:=by
     split at hk
     ·exact hk.2.2.2.2
     ·exact hk.2.2.2.1
     ·exact hk.2.2.2.1
     ·rename_i hx;exact absurd hx hh
     ·exact hk.2.2.2.2
     ·exact hk.2.2.2.1
    rw [e]
    refine ⟨i1,by omega,fun q hqv=>?_⟩
    rw [i3 q hqv]
    have:q≠p:=fun e=>by subst e;exact hh hqv.2
    omega
 have late_of:∀ p,p≤ops.size→∀ c j,(c≤p∨p=ops.size)→lateB (f p).hvs c j=true→t.late ops.size c j:=fun p hp c j hcp hl q hqv hqc han=>by
  have hqp:q < p:=by
   rcases hcp with h | h
   ·omega
   ·rw [h];exact hqv.1
  have:=lateB_iff hl (g q) (hvC p hp q hqp hqv.2) (by rw [(step q hqv.1).ei];exact hqc)
  rw [(step q hqv.1).eA] at this
  unfold DTab.anc at han
  rw [show t.A q=maskAt AT q from rfl,this] at han
  cases han
 have lateB_of':∀ p,p≤ops.size→∀ c j,t.late ops.size c j→lateB (f p).hvs c j=true:=fun p hp c j hl=>lateB_of fun r hr hc=>by
  obtain ⟨q,hq,rfl,hk⟩:=hvS p hp r hr
  have hqn:q < ops.size:=by omega
  rw [(step q hqn).ei] at hc
  have:=hl q ⟨hqn,hk⟩ hc
  unfold DTab.anc at this
  rw [(step q hqn).eA]
  simpa using this
 have sub_of:∀ p,p≤ops.size→∀ i c H,(c≤p∨p=ops.size)→(∀ x o,H.get x=some o→(t.G c).get x=some o)→t.sub ops.size s.nx (viewF (f p).news (f p).hvs (maskAt AT i) c s.nx H) i c:=by
  intro p hp i c H hcp hG x o hx
  rcases viewF_some hx with ⟨r,hr,h1,h2,h3,h4⟩ | h
  ·obtain ⟨j,hj,rfl,b,hb⟩:=nwS p hp r hr
   have hjn:j < ops.size:=by omega
   rw [(step j hjn).ei] at h2 h3 h4
   exact .inl ⟨j,h2,h1,late_of p hp c j hcp h3,h4⟩
  ·exact .inr (hG x o h)
 have cands:∀ c,t.cand ops.size c→candOK P σ s.nx c (t.G c)=true:=by
  obtain ⟨c1,c2⟩:=cond_and hchk
  rintro c (rfl | ⟨q,hqv,rfl⟩)
  ·have:t.G 0=s.H:=by show (f 0).H=s.H;rw [f0]
   rw [this];exact c1
  ·have hm:=hvC ops.size (Nat.le_refl _) q hqv.1 hqv.2
   rw [fn] at hm
   have:=allL_all c2 _ hm
   have hk:=(step q hqv.1).kind
   rw [show (g q).k = .heavy from hqv.2] at hk
   rw [(step q hqv.1).ec,show (f (q + 1)).cc=q + 1 from hk.2.1,(step q hqv.1).eH] at this
   exact this
 have ok:DOK t P call ops s:=by
  refine ⟨hoo,fun i j hi hj=>st.anc i j hi hj,st.edge,by show (f 0).T=_;rw [f0],fun i hi=>(step i hi).put,st.dst,fun i d k hi hk hl hd hne=>st.look i d k hi hk hl hd hne,
   by show (f 0).H=_;rw [f0],by show (f 0).nx=_;rw [f0],fun i hi=>?_⟩
  have hk:=(step i hi).kind
  unfold DTab.kindOK
  show (match (g i).k with
   | .off=>_
   | .pure=>_
   | .new o=>_
   | .heavy=>_
   | .dead=>_
   | .pan v H nx=>_)
  split at hk
  ·rename_i e
   rw [e]
   exact ⟨hk.1,hk.2.1,hk.2.2.1,hk.2.2.2.1⟩
  ·rename_i e
   rw [e]
   refine ⟨hk.1,⟨hk.2.1,hk.2.2.1⟩,fun c hc hl hpre=>?_⟩
   have hpure:=hk.2.2.2.2
   cases hrd:readsH ((ops[i]?).getD default).op with
   | false=>exact ⟨.leaf,fun x o hx=>(by rw [Tr.get_leaf] at hx;cases hx),(evPure2_noread hrd).trans hpure⟩
   | true =>
    have hm:=rdC ops.size (Nat.le_refl _) i hi e hrd
    rw [fn] at hm
    have hcand:=(cond_and (cands c hc)).1
    have hr:=allL_all hcand _ hm
    unfold readOK at hr
    cases hb:Nat.beq c (g i).cc with
    | true =>
     have hce:c=(f i).cc:=by
      rw [Nat.eq_of_beq_eq_true hb,(step i hi).ec];exact hk.2.2.2.1
     obtain ⟨_,i2,i3⟩:=hcc i (by omega)
     refine ⟨_,?_,hpure⟩
     have hsub:=sub_of i (by omega) i i (f i).H (.inl (Nat.le_refl _)) (fun x o h=>h)
     intro x o hx
     rcases hsub x o hx with ⟨j,h1,h2,h3,h4⟩ | h
     ·exact .inl ⟨j,h1,h2,fun q hqv hqc=>h3 q hqv ((i3 q hqv).1 (by rw [← hce];exact hqc)),h4⟩
     ·refine .inr ?_
      have hG:∀ d p,p + d≤i→(∀ q,t.hv ops.size q→(q < p↔q < p + d))→t.G (p + d)=t.G p:=by
       intro d
       induction d with
       | zero=>intro p _ _;rfl
       | succ d ih =>
        intro p hpd hq
        have hnh:(g (p + d)).k≠.heavy:=fun hk'=>by
         have:=hq (p + d) ⟨by omega,hk'⟩
         omega
        have hst:(f (p + d + 1)).H=(f (p + d)).H:=by
         have hk':=(step (p + d) (by omega)).kind
         split at hk'
         ·exact hk'.2.2.1
         ·exact hk'.2.1
         ·exact hk'.2.1
         ·rename_i hx;exact absurd hx hnh
         ·exact hk'.2.2.1
         ·exact hk'.2.1
        refine (show t.G (p + (d + 1))=t.G (p + d) from hst).trans (ih p (by omega) fun q hqv=>?_)
        have:=hq q hqv
        have hne:q≠p + d:=fun e=>by subst e;exact hnh hqv.2
        omega
      obtain ⟨d,hd⟩:=Nat.le.dest i2
      have:=hG d (f i).cc (by omega) (fun q hqv=>by rw [hd];exact i3 q hqv)
      rw [hd] at this
      rw [hce,← this];exact h
    | false =>
     rw [hb,cond_false,(step i hi).ei,← fn,lateB_of' ops.size (Nat.le_refl _) c i hl,cond_true] at hr
     have hall:allL (fun h=>cond (tb (g i).A h.i) (Nat.blt h.i c) true) (f ops.size).hvs=true:=by
      apply allL_of
      intro r hr
      obtain ⟨q,hq,rfl,hkq⟩:=hvS ops.size (Nat.le_refl _) r hr
      rw [(step q hq).ei,(step i hi).eA]
      cases hq':tb (maskAt AT i) q with
      | false=>rfl
      | true =>
       rw [tb_eq] at hq'
       rw [cond_true,Nat.blt_eq]
       exact hpre q ⟨hq,hkq⟩ hq'
     rw [hall,cond_true,(step i hi).eA,(step i hi).eT,(step i hi).eo] at hr
     cases hev:evPure2 P (viewF (f ops.size).news (f ops.size).hvs (maskAt AT i) c s.nx (t.G c)) (opd (f i).T) ((ops[i]?).getD default).op with
     | none=>rw [hev] at hr;cases hr
     | some v =>
      rw [hev] at hr
      have:=sameAV_eq.1 hr
      subst this
      exact ⟨_,sub_of ops.size (Nat.le_refl _) i c (t.G c) (.inr rfl) (fun x o h=>h),hev⟩
  ·rename_i b e
   rw [e]
   refine ⟨hk.1,⟨hk.2.1,hk.2.2.1⟩,hk.2.2.2.2,fun c hc hl=>?_⟩
   have hm:=nwC ops.size (Nat.le_refl _) i b hi e
   rw [fn] at hm
   have hcand:=(cond_and (cands c hc)).2
   have hr:=allL_all hcand _ hm
   unfold newOK at hr
   rw [(step i hi).ei,← fn,lateB_of' ops.size (Nat.le_refl _) c i hl,cond_true,fN_eq] at hr
   simpa using hr
  ·rename_i e
   rw [e]
   refine ⟨hk.1,fun q hqv hqi=>?_,_,sub_of i (by omega) i i (f i).H (.inl (Nat.le_refl _)) (fun x o h=>h),hk.2.2.2.1⟩
   have:=hk.2.2.1 _ (hvC i (by omega) q hqi hqv.2)
   rw [(step q hqv.1).ei] at this
   exact this
  ·rename_i e
   rw [e]
   refine ⟨?_,hk.2.2.1,hk.2.2.2.1⟩
   have hdd:=hk.1
   cases hpn:(f i).pn with
   | none=>rw [hpn] at hdd;cases hdd
   | some q =>
    rw [hpn] at hdd
    obtain ⟨h1,h2,_⟩:=pnS i (by omega) q hpn
    refine ⟨q.p,by omega,?_,q.v,q.H,q.nx,h2⟩
    show (maskAt AT i).testBit q.p=true
    rw [← tb_eq];exact hdd
  ·rename_i v H nx e
   rw [e]
   refine ⟨hk.1,⟨hk.2.1,hk.2.2.1⟩,fun q hqv=>?_,_,sub_of i (by omega) i i (f i).H (.inl (Nat.le_refl _)) (fun x o h=>h),hk.2.2.2.2.2.1⟩
   have hlt:q < i:=by
    rcases Nat.lt_trichotomy q i with h | h | h
    ·exact h
    ·subst h
     have:=hqv.2
     rw [show t.k q=(g q).k from rfl,e] at this;cases this
    ·have hkq:=(step q hqv.1).kind
     rw [show (g q).k = .heavy from hqv.2] at hkq
     exact absurd hkq.2.2.2.2 (pnK i v H nx hi e q h (Nat.le_of_lt hqv.1))
   refine ⟨hlt,?_⟩
   have:=hk.2.2.2.2.1 _ (hvC i (by omega) q hlt hqv.2)
   rw [(step q hqv.1).ei] at this
   exact this
 cases hpn:σ.pn with
 | some q =>
  rw [hpn] at h3
  injection h3 with h3;injection h3 with h3 h4;subst h3;subst h4
  rw [← fn] at hpn
  obtain ⟨h1,h2,h5⟩:=pnS ops.size (Nat.le_refl _) q hpn
  refine draw_panics hcall ok hm (p:=q.p) (v:=q.v) (H':=q.H) (nx:=q.nx) (T':=cutT q.A ops.toList 0 σ.T) h1 (fun i v' H'' nx' hi hk=>?_) ⟨_,_,_,h2⟩ (fun d b hb=>?_) hs fun ρ' a' w' u hx hs' hv=>hq ρ' a' w' hx hs' u hv
  ·have hki:(g i).k = .pan v' H'' nx':=hk
   have hie:i=q.p:=by
    rcases Nat.lt_trichotomy i q.p with h | h | h
    ·have hkq:=(step q.p h1).kind
     rw [h2] at hkq
     exact absurd hkq.2.2.2.2.2.2 (pnK i v' H'' nx' hi hki q.p h (by omega))
    ·exact h
    ·have hkq:=(step i hi).kind
     rw [hki] at hkq
     exact absurd hkq.2.2.2.2.2.2 (pnK q.p q.v q.H q.nx h1 h2 i h (by omega))
   subst hie
   rw [h2] at hki
   injection hki with e1 e2 e3
   exact ⟨rfl,e1.symm,e2.symm,e3.symm⟩
  ·obtain ⟨e1,e2⟩:=cutT_get _ _ _ _ _ hb
   refine ⟨?_,fun k hk hd=>?_⟩
   ·show (f ops.size).T.get d=some b
    rw [fn];exact e1
   ·have:=e2 k _ (by rw [Array.getElem?_toList];exact hoo k hk) hd
    rw [Nat.zero_add,h5] at this
    exact this
 | none =>
 rw [hpn] at h3
 injection h3 with h3;injection h3 with h3 h4;subst h3
 refine draw_sound hcall ok hm (fun i hi ⟨v,H,nx,hk⟩=>pnK i v H nx hi hk ops.size hi (Nat.le_refl _) (by rw [fn];exact hpn)) (s':=s') (H':=viewAll σ.news σ.hvs ops.size s.nx σ.H) ?_ ?_ hs hq
 ·rw [← h4]
  show _=St.mk s.N (f ops.size).T _ (f ops.size).nx s.ro s.D
  rw [fn]
 ·intro x o hx
  rcases viewAll_some hx with ⟨r,hr,h1,h2,h4⟩ | h
  ·rw [← fn] at hr h2
   obtain ⟨j,hj,rfl,b,hb⟩:=nwS ops.size (Nat.le_refl _) r hr
   rw [(step j hj).ei] at h2 h4
   exact .inl ⟨j,hj,h1,late_of ops.size (Nat.le_refl _) _ j (.inr rfl) h2,h4⟩
  ·refine .inr ?_
   show (f ops.size).H.get x=some o
   rw [fn];exact h
end Go.Ev
