/- Laid by program out of its parts: EvR. -/
import Derived.Test.YtlmmbanfhjaioaaGreatDoorEvQ
set_option linter.unusedVariables false
set_option linter.unusedSimpArgs false
/- The evaluator, part R: all of a region that draws its order. -/
namespace Go.Ev
def Ke (n:Nat) (listed:Array Bool):Nat:=(List.range n).countP λi=>!listed.getD i true
theorem lL {p q:Nat->Bool}:∀(l:List Nat),(∀x∈l,p x=true->q x=true)->(∃x∈l,q x=true/\p x=false)->l.countP p<l.countP q
 | [],_,⟨_,h,_⟩=>by cases h
 |y::l,h,⟨x,B,J,E⟩=>by
  rw[List.countP_cons,List.countP_cons];have L:l.countP p<=l.countP q:=List.countP_mono_left λz hz=>h z (List.mem_cons_of_mem _ hz);rcases List.mem_cons.1 B with rfl|B
  ·simp[J,E];omega
  ·have:=lL l (λz hz=>h z (List.mem_cons_of_mem _ hz)) ⟨x,B,J,E⟩;have hy:=h y (List.mem_cons_self ..);cases C:p y
   ·cases K:q y<;>simp<;>omega
   ·simp[hy C];omega
theorem Wq {listed:Array Bool} {i:Nat} (h:i<listed.size):listed.getD i true=listed.getD i false:=by simp[Array.getD,h]
section
variable {t:BS} {P:Program} {call:DZ} {ops:Array Oper} {s:St}
variable {E:Env} {F:Nat->Option Obj} {ρ0:Af} {ro rr:Option Nat} {Q:Exit->Act->World->Prop}
theorem uW (ok:Ej t P call ops s) {listed:Array Bool} (C:listed.size=ops.size) (h:Region.ready .any ops listed=[]):∀i,i<ops.size->Ls listed i:=by
 intro i
 induction i using Nat.strongRecOn with
 |ind i B=>
  intro hi;by_cases q:Ls listed i
  ·exact q
  ·exfalso;have:i∈Region.ready .any ops listed:=by rw[mem_ready];refine⟨?_,t.oo i,ok.cw i hi,λe y hb=>B e.on (ok.K8 i e hi y hb) (Nat.lt_trans (ok.K8 i e hi y hb) hi)⟩;rw[Wq (by omega)];unfold Ls at q;simpa using q
   rw[h]at this;cases this
theorem lR (B:K3 P call) (ok:Ej t P call ops s) (hP:∀listed a w ρ c i v H' nx',i<ops.size->t.k i=.AA v H' nx'->(∀j,t.Cj i j->Ls listed j)->∀u y w',RX s.nx nx' ρ0 y->Rel E F nx' y H'.get w'->VR y v u->Di t ops s E F ρ0 rr listed a w ρ c->ρ.le y->Q (.panic (fresh u)) a w') (V:∀listed a w ρ c,Di t ops s E F ρ0 rr listed a w ρ c->(∀i,i<ops.size->Ls listed i)->Q .normal a w):∀(fuel:Nat) (listed:Array Bool) (a:Act) (w:World) (ρ:Af) (c:Nat),Di t ops s E F ρ0 rr listed a w ρ c->Ke ops.size listed<=fuel->wpAnyIn (FW ro) 0 P .any ops Q fuel listed a w
 |0,listed,a,w,ρ,c,inv,hf=>by
  have J:∀i,i<ops.size->listed.getD i true=true:=λi hi=>by
   have W:Ke ops.size listed=0:=by omega
   unfold Ke at W;rw[List.countP_eq_zero]at W;have:=W i (List.mem_range.2 hi);simpa using this
  refine⟨?_,V listed a w ρ c inv λi hi=>?_⟩
  ·rw[List.eq_nil_iff_forall_not_mem];intro i hi;rw[mem_ready]at hi;obtain⟨L,o,U,_⟩:=hi;have q:i<ops.size:=(Array.getElem?_eq_some_iff.1 U).1;rw[J i q]at L;cases L
  ·unfold Ls;rw[<-Wq (by rw[inv.size];exact hi)];exact J i hi
 |fuel+1,listed,a,w,ρ,c,inv,hf=>by
  refine⟨λh=>V listed a w ρ c inv (uW ok inv.size h),λi hi=>?_⟩;rw[mem_ready]at hi;obtain⟨L,o,U,h2⟩:=hi;have q:i<ops.size:=(Array.getElem?_eq_some_iff.1 U).1;have O:t.oo i=o:=by have:=ok.cw i q;rw[U]at this;exact(Option.some.inj this).symm
  have hL:¬Ls listed i:=by unfold Ls;rw[<-Wq (by rw[inv.size];exact q),L];simp
  have C:∀j,t.Cj i j->Ls listed j:=λj hj=>by
   obtain⟨aa,e,he,hb,K⟩:=ok.Cj i j q hj;rw[O]at he;have R:Ls listed e.on:=h2 e he hb;rcases K with rfl|K
   ·exact R
   ·have:e.on<i:=ok.K8 i e q (by rw[O];exact he) hb;exact inv.down e.on j (by omega) R K
  refine Acf B ok inv q hL C (λy c' a' w' S=>lR B ok hP V fuel _ a' w' y c' S ?_) λv H' nx' Z u y w' h3 h4 h5 h6 h7=>hP listed a w ρ c i v H' nx' q Z C u y w' h3 h4 h5 h6 h7
  ·have:Ke ops.size (listed.setIfInBounds i true)<Ke ops.size listed:=by
    unfold Ke;apply lL
    ·intro x hx Y;by_cases M:i=x
     ·subst M;simp[inv.size,q]at Y
     ·rwa[getD_set_ne true M]at Y
    ·exact⟨i,List.mem_range.2 q,by simp[L],by simp[inv.size,q]⟩
   omega
theorem lS (ok:Ej t P call ops s) {a:Act} {w:World} (y:SR E F ρ0 s a w rr):Di t ops s E F ρ0 rr (Array.replicate ops.size false) a w.drew ρ0 0:=by
 have hn:∀i,¬Ls (Array.replicate ops.size false) i:=λi=>by unfold Ls;by_cases h:i<ops.size<;>simp[Array.getD,h]
 refine⟨by simp,.inl rfl,λq _=>⟨λh=>absurd h (hn q),λh=>absurd h (Nat.not_lt_zero _)⟩,λi j _ h=>absurd h (hn i),Af.le_refl _,λ_ _=>rfl,by rw[ok.n0];omega,?_,?_,?_,?_,y.size,y.dr,y.rr,λi h=>absurd h (hn i)⟩
 ·have:=y.rel.drew.Ff (show s.nx<=t.E2 0 by rw[ok.n0];omega);refine Rel.less (h:=s.H.get) this λx o B=>?_;rcases MQ B with⟨j,_,hp,_⟩|h
  ·exact absurd hp.2.1 (hn j)
  ·rw[ok.G0]at h;exact h
 ·exactλj _ _=>y.rel.new _ (by omega)
 ·exactλi d _ h=>absurd h (hn i)
 ·intro d x _ B;exact y.tr d x B
theorem ZJ:Ke ops.size (Array.replicate ops.size false)<=ops.size:=by unfold Ke;have:=List.countP_le_length (p:=λi=>!(Array.replicate ops.size false).getD i true) (l:=List.range ops.size);simpa using this
theorem Aet (K:K3 P call) (ok:Ej t P call ops s) (Z:P.follows .mixedOrders=true) (U:∀i,i<ops.size->¬t.NS i) {s':St} {H':Tr Ac} (S:s'=⟨s.N,t.FE ops.size,H',t.E2 ops.size,s.ro,s.D⟩) (hH:∀x o,H'.get x=some o->(∃j,j<ops.size/\t.k j=.new o/\t.late ops.size ops.size j/\x=s.nx+j)\/(t.G ops.size).get x=some o) {id:Nat} {a:Act} {w:World} (W:SR E F ρ0 s a w rr) (C:∀M O w',RX s.nx s'.nx ρ0 M->SR E F M s' O w' rr->Q .normal O w'): (Code.region id ops true).wpIn (FW ro) 0 P Q a w:=by
 refine wpIn_region_any Z (lR K ok (E:=E) (F:=F) (ρ0:=ρ0) (rr:=rr) (λ_ _ _ _ _ i v H' nx' hi hk=>absurd ⟨v,H',nx',hk⟩ (U i hi)) ?_ _ _ _ _ ρ0 0 (lS ok W) ZJ);intro listed O w' ρ c y B;obtain⟨hG,hn⟩:=Yc ok (Zo y.Gm) (Nat.le_refl _) λq C=>by rw[<-y.hc q C];exact⟨λ_=>C.1,λ_=>B q C.1⟩
 have aa:∀q,t.hv ops.size q->q<c:=λq C=>(y.hc q C).1 (B q C.1);subst S;refine C ρ O w' ⟨y.le,y.lo,?_⟩ ⟨?_,?_,y.sz,y.dr,y.rr⟩
 ·have:=y.nn;show s.nx<=t.E2 ops.size;rw[<-hn];omega
 ·show Rel E F (t.E2 ops.size) ρ H'.get w';rw[<-hn];refine y.rel.less λx o V=>?_;rcases hH x o V with⟨j,J,L,R,rfl⟩|h
  ·exact MP ⟨J,B j J,λq C _=>R q C C.1⟩ L
  ·rw[<-hG]at h;refine Wu h λj o' e Y hj=>?_;subst e;rw[Wn ok y Y hj]at h;cases h
 ·intro d b hb;rcases P9 ok _ d b (Nat.le_refl _) hb with⟨k,J,L,R⟩|⟨J,L⟩
  ·subst R;exact y.Qa k d J (B k J) L
  ·exact y.R1 d b (λi hi _=>J i hi) L
theorem Aes (J:K3 P call) (ok:Ej t P call ops s) (hm:P.follows .mixedOrders=true) {p nx:Nat} {v:AV} {H':Tr Ac} {T':Tr AV} (hp:p<ops.size) (R:∀i U C nx',i<ops.size->t.k i=.AA U C nx'->i=p/\U=v/\C=H'/\nx'=nx) (O:t.NS p) (hT:∀d b,T'.get d=some b->(t.FE ops.size).get d=some b/\∀k,k<ops.size->(t.oo k).dst=some d->t.Cj p k) {id:Nat} {a:Act} {w:World} (hs:SR E F ρ0 s a w rr) (hq:∀y K w' u,RX s.nx nx ρ0 y->SR E F y ⟨s.N,T',H',nx,s.ro,s.D⟩ K w' rr->VR y v u->Q (.panic (fresh u)) K w'): (Code.region id ops true).wpIn (FW ro) 0 P Q a w:=by
 refine wpIn_region_any hm (lR J ok (E:=E) (F:=F) (ρ0:=ρ0) (rr:=rr) ?_ ?_ _ _ _ _ ρ0 0 (lS ok hs) ZJ)
 ·intro listed K w1 ρ c i U C nx' hi hk M u y w' hx L hv q B;obtain⟨rfl,rfl,rfl,rfl⟩:=R i U C nx' hi hk;refine hq y K w' u hx ⟨L,?_,q.sz,q.dr.mono B,q.rr.mono B⟩ hv;intro d b hb;obtain⟨h1,h2⟩:=hT d b hb;rcases P9 ok _ d b (Nat.le_refl _) h1 with⟨k,W,V,h5⟩|⟨W,V⟩
  ·subst h5;obtain⟨z,Z,Y⟩:=q.Qa k d W (M k (h2 k W V)) V;exact⟨z,Z,Y.mono B⟩
  ·obtain⟨z,Z,Y⟩:=q.R1 d b (λi hi _=>W i hi) V;exact⟨z,Z,Y.mono B⟩
 ·intro listed K w' ρ c q S;exact absurd O (q.np p (S p hp))
end
end Go.Ev
