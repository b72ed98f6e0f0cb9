/- Laid by program out of its parts: EvR. -/
import Derived.Test.YtlmmbanfhjaioaaGreatDoorEvQ
set_option linter.unusedVariables false
set_option linter.unusedSimpArgs false
namespace Go.Ev
def Kk (n:Nat) (listed:Array Bool):Nat:=(List.range n).countP λi=>!listed.getD i true
theorem gG {p q:Nat->Bool}:∀(l:List Nat),(∀x∈l,p x=true->q x=true)->(∃x∈l,q x=true/\p x=false)->l.countP p<l.countP q
 | [],_,⟨_,h,_⟩=>by cases h
 |y::l,h,⟨x,B,J,E⟩=>by
  rw[List.countP_cons,List.countP_cons];have L:l.countP p<=l.countP q:=List.countP_mono_left λz hz=>h z (Ca _ hz);rcases CS.1 B with rfl|B
  ·simp[J,E];omega
  ·have:=gG l (λz hz=>h z (Ca _ hz)) ⟨x,B,J,E⟩;have hy:=h y (BN ..);cases C:p y
   ·cases K:q y<;>simp<;>omega
   ·simp[hy C];omega
theorem Vy {listed:Array Bool} {i:Nat} (h:i<listed.size):listed.getD i true=listed.getD i false:=by simp[Array.getD,h]
section
variable {t:BU} {P:Program} {call:D7} {ops:Array Oper} {s:St}
variable {E:Env} {F:Nat->Option Obj} {ρ0:Ai} {ro rr:Option Nat} {Q:Exit->Act->World->Prop}
theorem oa (ok:Ex t P call ops s) {listed:Array Bool} (E:listed.size=ops.size) (h:Region.ready .any ops listed=[]):∀i,i<ops.size->Ls listed i:=by
 intro i
 induction i using Nat.strongRecOn with
 |ind i C=>
  intro hi;by_cases q:Ls listed i
  ·exact q
  ·exfalso;have:i∈Region.ready .any ops listed:=by rw[mem_ready];refine⟨?_,t.oo i,ok.Zi i hi,λe y B=>C e.on (ok.Lg i e hi y B) (Nat.lt_trans (ok.Lg i e hi y B) hi)⟩;rw[Vy (by omega)];unfold Ls at q;simpa using q
   rw[h]at this;cases this
theorem gK (B:Lb P call) (ok:Ex t P call ops s) (hP:∀listed a w ρ c i v H' nx',i<ops.size->t.k i=.AB v H' nx'->(∀j,t.Cp i j->Ls listed j)->∀u y w',RX s.nx nx' ρ0 y->Rel E F nx' y H'.get w'->VR y v u->Dn t ops s E F ρ0 rr listed a w ρ c->ρ.le y->Q (.panic (fresh u)) a w') (V:∀listed a w ρ c,Dn t ops s E F ρ0 rr listed a w ρ c->(∀i,i<ops.size->Ls listed i)->Q .normal a w):∀(fuel:Nat) (listed:Array Bool) (a:Act) (w:World) (ρ:Ai) (c:Nat),Dn t ops s E F ρ0 rr listed a w ρ c->Kk ops.size listed<=fuel->wpAnyIn (FW ro) 0 P .any ops Q fuel listed a w
 |0,listed,a,w,ρ,c,inv,hf=>by
  have J:∀i,i<ops.size->listed.getD i true=true:=λi hi=>by
   have W:Kk ops.size listed=0:=by omega
   unfold Kk at W;rw[List.countP_eq_zero]at W;have:=W i (List.mem_range.2 hi);simpa using this
  refine⟨?_,V listed a w ρ c inv λi hi=>?_⟩
  ·rw[List.eq_nil_iff_forall_not_mem];intro i hi;rw[mem_ready]at hi;obtain⟨L,o,U,_⟩:=hi;have q:i<ops.size:=(Array.getElem?_eq_some_iff.1 U).1;rw[J i q]at L;cases L
  ·unfold Ls;rw[<-Vy (by rw[inv.size];exact hi)];exact J i hi
 |fuel+1,listed,a,w,ρ,c,inv,hf=>by
  refine⟨λh=>V listed a w ρ c inv (oa ok inv.size h),λi hi=>?_⟩;rw[mem_ready]at hi;obtain⟨L,o,U,h2⟩:=hi;have q:i<ops.size:=(Array.getElem?_eq_some_iff.1 U).1;have O:t.oo i=o:=by have:=ok.Zi i q;rw[U]at this;exact(Option.some.inj this).symm
  have hL:¬Ls listed i:=by unfold Ls;rw[<-Vy (by rw[inv.size];exact q),L];simp
  have C:∀j,t.Cp i j->Ls listed j:=λj hj=>by
   obtain⟨aa,e,he,Z,K⟩:=ok.Cp i j q hj;rw[O]at he;have R:Ls listed e.on:=h2 e he Z;rcases K with rfl|K
   ·exact R
   ·have:e.on<i:=ok.Lg i e q (by rw[O];exact he) Z;exact inv.down e.on j (by omega) R K
  refine y3 B ok inv q hL C (λy c' a' w' S=>gK B ok hP V fuel _ a' w' y c' S ?_) λv H' nx' hk u y w' h3 h4 h5 h6 h7=>hP listed a w ρ c i v H' nx' q hk C u y w' h3 h4 h5 h6 h7
  ·have:Kk ops.size (listed.setIfInBounds i true)<Kk ops.size listed:=by
    unfold Kk;apply gG
    ·intro x hx Y;by_cases M:i=x
     ·subst M;simp[inv.size,q]at Y
     ·rwa[getD_set_ne true M]at Y
    ·exact⟨i,List.mem_range.2 q,by simp[L],by simp[inv.size,q]⟩
   omega
theorem gL (ok:Ex t P call ops s) {a:Act} {w:World} (y:SR E F ρ0 s a w rr):Dn t ops s E F ρ0 rr (Array.replicate ops.size false) a w.drew ρ0 0:=by
 have hn:∀i,¬Ls (Array.replicate ops.size false) i:=λi=>by unfold Ls;by_cases h:i<ops.size<;>simp[Array.getD,h]
 refine⟨by simp,.inl rfl,λq _=>⟨λh=>absurd h (hn q),λh=>absurd h (Nat.not_lt_zero _)⟩,λi j _ h=>absurd h (hn i),Ai.le_refl _,λ_ _=>rfl,by rw[ok.n0];omega,?_,?_,?_,?_,y.size,y.dr,y.rr,λi h=>absurd h (hn i)⟩
 ·have:=y.rel.drew.Fp (show s.nx<=t.Fa 0 by rw[ok.n0];omega);refine Rel.less (h:=s.H.get) this λx o B=>?_;rcases MW B with⟨j,_,hp,_⟩|h
  ·exact absurd hp.2.1 (hn j)
  ·rw[ok.G0]at h;exact h
 ·exactλj _ _=>y.rel.new _ (by omega)
 ·exactλi d _ h=>absurd h (hn i)
 ·intro d x _ B;exact y.tr d x B
theorem X8:Kk ops.size (Array.replicate ops.size false)<=ops.size:=by unfold Kk;have:=List.countP_le_length (p:=λi=>!(Array.replicate ops.size false).getD i true) (l:=List.range ops.size);simpa using this
theorem AbO (K:Lb P call) (ok:Ex t P call ops s) (Z:P.follows .mixedOrders=true) (U:∀i,i<ops.size->¬t.NZ i) {s':St} {H':Tr Ae} (S:s'=⟨s.N,t.FM ops.size,H',t.Fa ops.size,s.ro,s.D⟩) (hH:∀x o,H'.get x=some o->(∃j,j<ops.size/\t.k j=.new o/\t.late ops.size ops.size j/\x=s.nx+j)\/(t.G ops.size).get x=some o) {id:Nat} {a:Act} {w:World} (W:SR E F ρ0 s a w rr) (C:∀M O w',RX s.nx s'.nx ρ0 M->SR E F M s' O w' rr->Q .normal O w'): (Code.region id ops true).wpIn (FW ro) 0 P Q a w:=by
 refine wpIn_region_any Z (gK K ok (E:=E) (F:=F) (ρ0:=ρ0) (rr:=rr) (λ_ _ _ _ _ i v H' nx' hi hk=>absurd ⟨v,H',nx',hk⟩ (U i hi)) ?_ _ _ _ _ ρ0 0 (gL ok W) X8);intro listed O w' ρ c y B;obtain⟨hG,hn⟩:=W2 ok (XU y.Gy) (AM _) λq C=>by rw[<-y.hc q C];exact⟨λ_=>C.1,λ_=>B q C.1⟩
 have aa:∀q,t.hv ops.size q->q<c:=λq C=>(y.hc q C).1 (B q C.1);subst S;refine C ρ O w' ⟨y.le,y.lo,?_⟩ ⟨?_,?_,y.sz,y.dr,y.rr⟩
 ·have:=y.nn;show s.nx<=t.Fa ops.size;rw[<-hn];omega
 ·show Rel E F (t.Fa ops.size) ρ H'.get w';rw[<-hn];refine y.rel.less λx o V=>?_;rcases hH x o V with⟨j,J,L,R,rfl⟩|h
  ·exact MV ⟨J,B j J,λq C _=>R q C C.1⟩ L
  ·rw[<-hG]at h;refine VB h λj o' e Y hj=>?_;subst e;rw[Vw ok y Y hj]at h;cases h
 ·intro d b hb;rcases PE ok _ d b (AM _) hb with⟨k,J,L,R⟩|⟨J,L⟩
  ·subst R;exact y.PG k d J (B k J) L
  ·exact y.Ri d b (λi hi _=>J i hi) L
theorem AbN (J:Lb P call) (ok:Ex t P call ops s) (hm:P.follows .mixedOrders=true) {p nx:Nat} {v:AV} {H':Tr Ae} {T':Tr AV} (hp:p<ops.size) (R:∀i U C nx',i<ops.size->t.k i=.AB U C nx'->i=p/\U=v/\C=H'/\nx'=nx) (O:t.NZ p) (hT:∀d b,T'.get d=some b->(t.FM ops.size).get d=some b/\∀k,k<ops.size->(t.oo k).dst=some d->t.Cp p k) {id:Nat} {a:Act} {w:World} (hs:SR E F ρ0 s a w rr) (hq:∀y K w' u,RX s.nx nx ρ0 y->SR E F y ⟨s.N,T',H',nx,s.ro,s.D⟩ K w' rr->VR y v u->Q (.panic (fresh u)) K w'): (Code.region id ops true).wpIn (FW ro) 0 P Q a w:=by
 refine wpIn_region_any hm (gK J ok (E:=E) (F:=F) (ρ0:=ρ0) (rr:=rr) ?_ ?_ _ _ _ _ ρ0 0 (gL ok hs) X8)
 ·intro listed K w1 ρ c i U C nx' hi hk M u y w' hx L hv q B;obtain⟨rfl,rfl,rfl,rfl⟩:=R i U C nx' hi hk;refine hq y K w' u hx ⟨L,?_,q.sz,q.dr.mono B,q.rr.mono B⟩ hv;intro d b hb;obtain⟨h1,h2⟩:=hT d b hb;rcases PE ok _ d b (AM _) h1 with⟨k,W,V,h5⟩|⟨W,V⟩
  ·subst h5;obtain⟨z,Z,Y⟩:=q.PG k d W (M k (h2 k W V)) V;exact⟨z,Z,Y.mono B⟩
  ·obtain⟨z,Z,Y⟩:=q.Ri d b (λi hi _=>W i hi) V;exact⟨z,Z,Y.mono B⟩
 ·intro listed K w' ρ c q S;exact absurd O (q.np p (S p hp))
end
end Go.Ev
