/- Laid by program out of its parts: EvR. -/
import Derived.Test.YthallodoidghoaaGreatEvQ
set_option linter.unusedVariables false
set_option linter.unusedSimpArgs false
namespace Go.Ev
def Kd (n:Nat) (listed:Array Bool):Nat:=(List.range n).countP λi=>!listed.getD i true
theorem ou {p q:Nat->Bool}:∀(l:List Nat),(∀x∈l,p x=true->q x=true)->(∃x∈l,q x=true/\p x=false)->l.countP p<l.countP q
 | [],_,⟨_,h,_⟩=>by cases h
 |y::l,h,⟨x,r,K,J⟩=>by
  rw[List.countP_cons,List.countP_cons];have R:l.countP p<=l.countP q:=List.countP_mono_left λz hz=>h z (EF _ hz);rcases Dp.1 r with rfl|r
  ·simp[K,J];omega
  ·have:=ou l (λz hz=>h z (EF _ hz)) ⟨x,r,K,J⟩;have hy:=h y (EG ..);cases B:p y
   ·cases L:q y<;>simp<;>omega
   ·simp[hy B];omega
theorem Xj {listed:Array Bool} {i:Nat} (h:i<listed.size):listed.getD i true=listed.getD i false:=by simp[Array.getD,h]
section
variable {t:B5} {P:Program} {call:Da} {ops:Array Oper} {s:St}
variable {E:Env} {F:Nat->Option Obj} {ρ0:Ak} {ro rr:Option Nat} {Q:Exit->Act->World->Prop}
theorem xy (ok:Ef t P call ops s) {listed:Array Bool} (z:listed.size=ops.size) (h:Region.ready .any ops listed=[]):∀i,i<ops.size->Ls listed i:=by
 intro i
 induction i using Nat.strongRecOn with
 |ind i y=>
  intro hi;by_cases r:Ls listed i
  ·exact r
  ·exfalso;have:i∈Region.ready .any ops listed:=by rw[mem_ready];refine⟨?_,t.oo i,ok.eu i hi,λe x hb=>y e.on (ok.K8 i e hi x hb) (Nat.lt_trans (ok.K8 i e hi x hb) hi)⟩;rw[Xj (by omega)];unfold Ls at r;simpa using r
   rw[h]at this;cases this
theorem pF (z:GX P call) (ok:Ef t P call ops s) (hP:∀listed a w ρ c i v H' nx',i<ops.size->t.k i=.AG v H' nx'->(∀j,t.Cj i j->Ls listed j)->∀u y w',RX s.nx nx' ρ0 y->Rel E F nx' y H'.get w'->VR y v u->Db t ops s E F ρ0 rr listed a w ρ c->ρ.le y->Q (.panic (fresh u)) a w') (Y:∀listed a w ρ c,Db t ops s E F ρ0 rr listed a w ρ c->(∀i,i<ops.size->Ls listed i)->Q .normal a w):∀(fuel:Nat) (listed:Array Bool) (a:Act) (w:World) (ρ:Ak) (c:Nat),Db t ops s E F ρ0 rr listed a w ρ c->Kd ops.size listed<=fuel->wpAnyIn (FW ro) 0 P .any ops Q fuel listed a w
 |0,listed,a,w,ρ,c,inv,hf=>by
  have J:∀i,i<ops.size->listed.getD i true=true:=λi hi=>by
   have Z:Kd ops.size listed=0:=by omega
   unfold Kd at Z;rw[List.countP_eq_zero]at Z;have:=Z i (List.mem_range.2 hi);simpa using this
  refine⟨?_,Y listed a w ρ c inv λi hi=>?_⟩
  ·rw[List.eq_nil_iff_forall_not_mem];intro i hi;rw[mem_ready]at hi;obtain⟨L,o,W,_⟩:=hi;have r:i<ops.size:=(Array.getElem?_eq_some_iff.1 W).1;rw[J i r]at L;cases L
  ·unfold Ls;rw[<-Xj (by rw[inv.size];exact hi)];exact J i hi
 |fuel+1,listed,a,w,ρ,c,inv,hf=>by
  refine⟨λh=>Y listed a w ρ c inv (xy ok inv.size h),λi hi=>?_⟩;rw[mem_ready]at hi;obtain⟨L,o,W,h2⟩:=hi;have r:i<ops.size:=(Array.getElem?_eq_some_iff.1 W).1;have S:t.oo i=o:=by have:=ok.eu i r;rw[W]at this;exact(Option.some.inj this).symm
  have hL:¬Ls listed i:=by unfold Ls;rw[<-Xj (by rw[inv.size];exact r),L];simp
  have B:∀j,t.Cj i j->Ls listed j:=λj hj=>by
   obtain⟨aa,e,he,hb,K⟩:=ok.Cj i j r hj;rw[S]at he;have U:Ls listed e.on:=h2 e he hb;rcases K with rfl|K
   ·exact U
   ·have:e.on<i:=ok.K8 i e r (by rw[S];exact he) hb;exact inv.down e.on j (by omega) U K
  refine AeE z ok inv r hL B (λy c' a' w' V=>pF z ok hP Y fuel _ a' w' y c' V ?_) λv H' nx' hk u y w' h3 h4 h5 h6 h7=>hP listed a w ρ c i v H' nx' r hk B u y w' h3 h4 h5 h6 h7
  ·have:Kd ops.size (listed.setIfInBounds i true)<Kd ops.size listed:=by
    unfold Kd;apply ou
    ·intro x hx hp;by_cases R:i=x
     ·subst R;simp[inv.size,r]at hp
     ·rwa[getD_set_ne true R]at hp
    ·exact⟨i,List.mem_range.2 r,by simp[L],by simp[inv.size,r]⟩
   omega
theorem pG (ok:Ef t P call ops s) {a:Act} {w:World} (r:SR E F ρ0 s a w rr):Db t ops s E F ρ0 rr (Array.replicate ops.size false) a w.drew ρ0 0:=by
 have hn:∀i,¬Ls (Array.replicate ops.size false) i:=λi=>by unfold Ls;by_cases h:i<ops.size<;>simp[Array.getD,h]
 refine⟨by simp,.inl rfl,λq _=>⟨λh=>absurd h (hn q),λh=>absurd h (Nat.not_lt_zero _)⟩,λi j _ h=>absurd h (hn i),Ak.le_refl _,λ_ _=>rfl,by rw[ok.n0];omega,?_,?_,?_,?_,r.size,r.dr,r.rr,λi h=>absurd h (hn i)⟩
 ·have:=r.rel.drew.EZ (show s.nx<=t.E0 0 by rw[ok.n0];omega);refine Rel.less (h:=s.H.get) this λx o y=>?_;rcases Ng y with⟨j,_,z,_⟩|h
  ·exact absurd z.2.1 (hn j)
  ·rw[ok.G0]at h;exact h
 ·exactλj _ _=>r.rel.new _ (by omega)
 ·exactλi d _ h=>absurd h (hn i)
 ·intro d x _ y;exact r.tr d x y
theorem cn:Kd ops.size (Array.replicate ops.size false)<=ops.size:=by unfold Kd;have:=List.countP_le_length (p:=λi=>!(Array.replicate ops.size false).getD i true) (l:=List.range ops.size);simpa using this
theorem Ahj (J:GX P call) (ok:Ef t P call ops s) (hm:P.follows .mixedOrders=true) (V:∀i,i<ops.size->¬t.Oz i) {s':St} {H':Tr Ah} (U:s'=⟨s.N,t.FL ops.size,H',t.E0 ops.size,s.ro,s.D⟩) (hH:∀x o,H'.get x=some o->(∃j,j<ops.size/\t.k j=.new o/\t.late ops.size ops.size j/\x=s.nx+j)\/(t.G ops.size).get x=some o) {id:Nat} {a:Act} {w:World} (Y:SR E F ρ0 s a w rr) (z:∀L R w',RX s.nx s'.nx ρ0 L->SR E F L s' R w' rr->Q .normal R w'): (Code.region id ops true).wpIn (FW ro) 0 P Q a w:=by
 refine wpIn_region_any hm (pF J ok (E:=E) (F:=F) (ρ0:=ρ0) (rr:=rr) (λ_ _ _ _ _ i v H' nx' hi hk=>absurd ⟨v,H',nx',hk⟩ (V i hi)) ?_ _ _ _ _ ρ0 0 (pG ok Y) cn);intro listed R w' ρ c r y;obtain⟨hG,hn⟩:=Za ok (cO r.Gj) (AH _) λq z=>by rw[<-r.hc q z];exact⟨λ_=>z.1,λ_=>y q z.1⟩
 have aa:∀q,t.hv ops.size q->q<c:=λq z=>(r.hc q z).1 (y q z.1);subst U;refine z ρ R w' ⟨r.le,r.lo,?_⟩ ⟨?_,?_,r.sz,r.dr,r.rr⟩
 ·have:=r.nn;show s.nx<=t.E0 ops.size;rw[<-hn];omega
 ·show Rel E F (t.E0 ops.size) ρ H'.get w';rw[<-hn];refine r.rel.less λx o W=>?_;rcases hH x o W with⟨j,B,K,S,rfl⟩|h
  ·exact Nf ⟨B,y j B,λq z _=>S q z z.1⟩ K
  ·rw[<-hG]at h;refine Xl h λj o' e Z hj=>?_;subst e;rw[Xh ok r Z hj]at h;cases h
 ·intro d b hb;rcases Q1 ok _ d b (AH _) hb with⟨k,B,K,S⟩|⟨B,K⟩
  ·subst S;exact r.Q3 k d B (y k B) K
  ·exact r.Ta d b (λi hi _=>B i hi) K
theorem Ahi (J:GX P call) (ok:Ef t P call ops s) (hm:P.follows .mixedOrders=true) {p nx:Nat} {v:AV} {H':Tr Ah} {T':Tr AV} (hp:p<ops.size) (U:∀i W B nx',i<ops.size->t.k i=.AG W B nx'->i=p/\W=v/\B=H'/\nx'=nx) (S:t.Oz p) (hT:∀d b,T'.get d=some b->(t.FL ops.size).get d=some b/\∀k,k<ops.size->(t.oo k).dst=some d->t.Cj p k) {id:Nat} {a:Act} {w:World} (hs:SR E F ρ0 s a w rr) (hq:∀x K w' u,RX s.nx nx ρ0 x->SR E F x ⟨s.N,T',H',nx,s.ro,s.D⟩ K w' rr->VR x v u->Q (.panic (fresh u)) K w'): (Code.region id ops true).wpIn (FW ro) 0 P Q a w:=by
 refine wpIn_region_any hm (pF J ok (E:=E) (F:=F) (ρ0:=ρ0) (rr:=rr) ?_ ?_ _ _ _ _ ρ0 0 (pG ok hs) cn)
 ·intro listed K w1 ρ c i W B nx' hi hk R u x w' hx L hv r y;obtain⟨rfl,rfl,rfl,rfl⟩:=U i W B nx' hi hk;refine hq x K w' u hx ⟨L,?_,r.sz,r.dr.mono y,r.rr.mono y⟩ hv;intro d b hb;obtain⟨h1,h2⟩:=hT d b hb;rcases Q1 ok _ d b (AH _) h1 with⟨k,Z,Y,h5⟩|⟨Z,Y⟩
  ·subst h5;obtain⟨z,h6,h7⟩:=r.Q3 k d Z (R k (h2 k Z Y)) Y;exact⟨z,h6,h7.mono y⟩
  ·obtain⟨z,h6,h7⟩:=r.Ta d b (λi hi _=>Z i hi) Y;exact⟨z,h6,h7.mono y⟩
 ·intro listed K w' ρ c r V;exact absurd S (r.np p (V p hp))
end
end Go.Ev
