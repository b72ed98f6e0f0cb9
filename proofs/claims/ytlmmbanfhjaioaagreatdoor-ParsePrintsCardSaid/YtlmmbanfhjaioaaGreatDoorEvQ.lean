/- Laid by program out of its parts: EvQ. -/
import Derived.Test.YtlmmbanfhjaioaaGreatDoorMd
noncomputable section
set_option linter.unusedVariables false
set_option linter.unusedSimpArgs false
namespace Go.Ev
section
variable {t:BU} {P:Program} {call:D7} {ops:Array Oper} {s:St}
variable {E:Env} {F:Nat->Option Obj} {ρ0:Ai} {ro rr:Option Nat} {Q:Exit->Act->World->Prop}
theorem cJ (ok:Ex t P call ops s) {listed:Array Bool} {a:Act} {w:World} {ρ:Ai} {c i:Nat} {u:Value} (y:Dn t ops s E F ρ0 rr listed a w ρ c) (hi:i<ops.size) (U:¬Ls listed i) (B:∀j,t.Cp i j->Ls listed j) (O:∀o,t.k i≠.new o) (S:t.k i≠.DN) (C:¬t.NZ i) (hv:VR ρ (t.v i) u): Dn t ops s E F ρ0 rr (listed.setIfInBounds i true) (a.put (t.oo i).dst u) w ρ c:=by
 refine mg ok y hi U B C (Ai.le_refl ρ) (λ_ _=>rfl) (λ_ _ _ _=>rfl) hv y.Gy (λq K=>?_) y.nn ?_
 ·have:=y.hc q K;have J:q≠i:=λe=>by subst e;exact S K.2
  simp[J,this]
 ·exact y.rel.less λx o L=>Akw (by rw[y.size];exact hi) O L λj V M R=>Vw ok y M R
theorem AkA (ok:Ex t P call ops s) {listed:Array Bool} {a:Act} {w M:World} {ρ:Ai} {c i cap:Nat} {u:Value} {o:Ae} {ob:Obj} (y:Dn t ops s E F ρ0 rr listed a w ρ c) (hi:i<ops.size) (U:¬Ls listed i) (R:∀j,t.Cp i j->Ls listed j) (S:t.k i=.new o) (hw:M=w\/M=w.drew) (V:OR (ρ.put (s.nx+i) ⟨w.heap.size,0,cap⟩) ⟨w.heap.size,0,cap⟩ o ob) (hv:VR (ρ.put (s.nx+i) ⟨w.heap.size,0,cap⟩) (t.v i) u): Dn t ops s E F ρ0 rr (listed.setIfInBounds i true) (a.put (t.oo i).dst u) (M.alloc ob) (ρ.put (s.nx+i) ⟨w.heap.size,0,cap⟩) c:=by
 have W:=y.Uy i hi U;have C:Rel E F (t.Fa c) ρ (t.hD ops.size s.nx listed c) M/\M.heap.size=w.heap.size:=by
  rcases hw with rfl|rfl
  ·exact⟨y.rel,rfl⟩
  ·exact⟨y.rel.drew,rfl⟩
 have L:=C.1.alloc (i:=s.nx+i) (nx':=t.Fa c) W (AM _) (by have:=y.nn;omega) (cap:=cap) (a:=o) (o:=ob) (by rw[C.2];exact V);rw[C.2]at L;refine mg ok y hi U R (by rintro⟨v,H,nx,e⟩;rw[S]at e;cases e) L.2 (λx hx=>Ai.Ha (by omega) _) (λj _ K _=>Ai.Ha (by omega) _) hv y.Gy (λq hq=>?_) y.nn ?_
 ·have:=y.hc q hq;have Y:q≠i:=λe=>by subst e;have:=S.symm.trans hq.2;cases this
  simp[Y,this]
 ·refine L.1.less λx o' hx=>?_;have hs:i<listed.size:=by rw[y.size];exact hi
  rcases MW hx with⟨j,rfl,hp,B⟩|h
  ·by_cases K:j=i
   ·subst K;rw[S]at B;injection B with B;subst B;simp
   ·rw[Ad (by omega)];exact MV ⟨hp.1,((UL hs).1 hp.2.1).resolve_left K,hp.2.2⟩ B
  ·have Z:(t.G c).get (s.nx+i)=none:=by have J:=ok.kind i hi;unfold BU.Lm at J;rw[S]at J;exact J.2.2.2 c y.Gy (kN y U)
   by_cases O:x=s.nx+i
   ·subst O;rw[Z]at h;cases h
   ·rw[Ad O];refine VB h λj aa e hp B=>?_;subst e;rw[Vw ok y hp B]at h;cases h
open Classical in
def J3 (t:BU) (n y:Nat) (listed:Array Bool) (F:Nat->Option Obj) (w:World) (ρ:Ai) (c i:Nat):Nat->Option Obj:=λb=>
 if∃j q o,t.Dv n listed c j/\t.k j=.new o/\¬t.Cp i j/\ρ (y+j)=some q/\q.b=b then w.heap[b]? else F b
theorem tF {t:BU} {n y:Nat} {listed:Array Bool} {w:World} {ρ:Ai} {c i j:Nat} {q:C3} {o:Ae} (hp:t.Dv n listed c j) (B:t.k j=.new o) (E:¬t.Cp i j) (C:ρ (y+j)=some q): J3 t n y listed F w ρ c i q.b=w.heap[q.b]?:=Am ⟨j,q,o,hp,B,E,C,rfl⟩
theorem tG {t:BU} {n y:Nat} {listed:Array Bool} {w:World} {ρ:Ai} {c i b:Nat} (h:∀j q o,t.Dv n listed c j->t.k j=.new o->¬t.Cp i j->ρ (y+j)=some q->q.b≠b):J3 t n y listed F w ρ c i b=F b:=Ad λ⟨j,q,o,K,J,E,C,B⟩=>h j q o K J E C B
open Classical in
def FX (E:Env) (ρ:Ai):Env:=⟨E.tape,E.os,E.output,E.base,λb=>decide (ρ.st b≠none)⟩
theorem tY (ok:Ex t P call ops s) {listed:Array Bool} {a:Act} {w:World} {ρ:Ai} {c i:Nat} (K:Dn t ops s E F ρ0 rr listed a w ρ c) (hi:i<ops.size) (L:∀j,t.Cp i j->Ls listed j) {V:Tr Ae} (Z:t.sub ops.size s.nx V i c): Rel (FX E ρ) (J3 t ops.size s.nx listed F w ρ c i) (t.Fa c) ρ V.get w:=by
 have q:=λx o (C:V.get x=some o)=>y8 ok K hi L Z C;have B:=K.rel;refine⟨B.tape,B.os,B.output,?_,λx o b C=>B.ob x o b (q x o C),?_,λx y o R b b' C hy=>B.inj x y o R b b' (q x o C) (q y R hy),B.new,λg l hg=>B.gl g l (q g _ hg),?_,B.st,λx o b C=>B.sd x o b (q x o C),λb o R _ J=>by simp[FX,J]⟩
 rotate_right
 ·intro b o J;have O:=B.bs b o J;unfold J3;split
  ·exact B.fr b o O
  ·exact O
 ·intro b o J;unfold J3 at J;split at J
  ·exact J
  ·exact B.fr b o J
 ·intro x o b C J;rw[tG]
  ·exact B.dj x o b (q x o C) J
  ·intro j U oj W Y ha M e;have S:x=s.nx+j:=B.inj x (s.nx+j) o oj b U (q x o C) (MV W Y) J M e.symm;subst S;rcases Z _ o C with⟨j',O,h2,h3,h4⟩|h
   ·have:j'=j:=by omega
    subst this;exact ha O
   ·rw[Vw ok K W Y]at h;cases h
theorem tH {t:BU} {n K:Nat} {listed:Array Bool} {w:World} {ρ y:Ai} {c i:Nat} (C:∀b o q,F b=some o->ρ.st b=some q->E.fs b=true) (J:∀b o,F b=some o->w.heap[b]? =some o) (h:∀b o q,J3 t n K listed F w ρ c i b=some o->y.st b=some q->(FX E ρ).fs b=true):∀b o q,F b=some o->y.st b=some q->E.fs b=true:=by
 intro b o q B O;have R:J3 t n K listed F w ρ c i b=some o:=by
  unfold J3;split
  ·exact J b o B
  ·exact B
 have M:=h b o q R O;simp only[FX,ne_eq,BV]at M;cases L:ρ.st b with
 |none=>exact absurd L M
 |some x=>exact C b o x B L
theorem Akz (ok:Ex t P call ops s) {listed:Array Bool} {a:Act} {w w':World} {ρ O:Ai} {c i:Nat} {u:Value} (S:Dn t ops s E F ρ0 rr listed a w ρ c) (hi:i<ops.size) (hL:¬Ls listed i) (ad:∀j,t.Cp i j->Ls listed j) (hk:t.k i=.DN) (hx:RY (s.nx+i) (t.Fa c) (t.Fa (i+1)) ρ O) (B:Rel (FX E ρ) (J3 t ops.size s.nx listed F w ρ c i) (t.Fa (i+1)) O (t.G (i+1)).get w') (hv:VR O (t.v i) u): Dn t ops s E F ρ0 rr (listed.setIfInBounds i true) (a.put (t.oo i).dst u) w' O (i+1):=by
 have Z:=S.rel;have hs:i<listed.size:=by rw[S.size];exact hi
 have ab:∀q,t.hv ops.size q->q<i->t.Cp i q:=by have R:=ok.kind i hi;unfold BU.Lm at R;rw[hk]at R;exact R.2.1
 have Y:∀q,t.hv ops.size q->i<q->t.Cp q i:=λq U ar=>by have R:=ok.kind q U.1;unfold BU.Lm at R;rw[U.2]at R;exact R.2.1 i ⟨hi,hk⟩ ar
 have ae:∀q,t.hv ops.size q->(Ls listed q↔q<i):=λq U=>by
  rcases Nat.lt_trichotomy q i with h|h|h
  ·exact⟨λ_=>h,λ_=>ad q (ab q U h)⟩
  ·subst h;exact⟨λh=>absurd h hL,λh=>absurd h (Nat.lt_irrefl _)⟩
  ·exact⟨λhl=>absurd (S.down q i U.1 hl (Y q U h)) hL,λh'=>by omega⟩
 have aq:=S.nn;have ah:∀x,x<s.nx+ops.size->x≠s.nx+i->O x=ρ x:=λx M al=>hx.lo x (by omega) al;have W:∀j o,t.Dv ops.size (listed.setIfInBounds i true) (i+1) j->t.k j=.new o->t.Dv ops.size listed c j/\¬t.Cp i j/\j≠i:=λj o hp K=>by
  have ai:j≠i:=λe=>by subst e;rw[hk]at K;cases K
  refine⟨⟨hp.1,((UL hs).1 hp.2.1).resolve_left ai,λq U ao=>?_⟩,hp.2.2 i ⟨hi,hk⟩ (by omega),ai⟩;have:=(S.hc q U).2 ao;have:=(ae q U).1 this;exact hp.2.2 q U (by omega)
 have C:∀j o b,t.Dv ops.size (listed.setIfInBounds i true) (i+1) j->t.k j=.new o->O (s.nx+j)=some b-> ρ (s.nx+j)=some b/\t.hD ops.size s.nx listed c (s.nx+j)=some o/\∃J,w.heap[b.b]? =some J/\OR ρ b o J/\J3 t ops.size s.nx listed F w ρ c i b.b=some J:=λj o b hp K L=>by obtain⟨V,h2,h3⟩:=W j o hp K;rw[ah _ (by have:=hp.1;omega) (by omega)]at L;have hd:t.hD ops.size s.nx listed c (s.nx+j)=some o:=MV V K;obtain⟨J,h4,h5⟩:=Z.ob _ _ _ hd L;exact⟨L,hd,J,h4,h5,by rw[tF V K h2 L];exact h4⟩
 refine mg ok S hi hL ad (by rintro⟨v,H,nx,e⟩;rw[hk]at e;cases e) hx.le (λx M=>ah x (by omega) (by omega)) (λj K ai _=>ah _ (by omega) (by omega)) hv (.inr ⟨i,⟨hi,hk⟩,rfl⟩) (λq U=>?_) (G3 aq hx.nn) ?_
 ·rw[ae q U];omega
 ·refine⟨B.tape,B.os,B.output,?_,?_,?_,?_,B.new,λg l hg=>?_,Z.bs,B.st,λx o b M L=>?_,tH Z.sf Z.fr B.sf⟩
  rotate_right
  rotate_right
  rotate_left
  ·rcases MW M with⟨j,rfl,hp,K⟩|h
   ·obtain⟨V,h2,J,h3,h4,h5⟩:=C j o b hp K L;cases an:O.st b.b with
    |none=>rfl
    |some x=>have:=B.sf _ _ _ h5 an;have hn:=Z.sd _ _ _ h2 V;simp[FX,hn]at this
   ·exact B.sd x o b h L
  rotate_right
  ·rcases MW hg with⟨j,rfl,hp,K⟩|h
   ·obtain⟨V,_,_⟩:=W j _ hp K;exact Z.gl _ _ (MV V K)
   ·exact B.gl g l h
  ·intro b o L;apply B.fr b o;unfold J3;split
   ·exact Z.fr b o L
   ·exact L
  ·intro x o b M L;rcases MW M with⟨j,rfl,hp,K⟩|h
   ·obtain⟨V,h2,J,h3,h4,h5⟩:=C j o b hp K L;exact⟨J,B.fr _ _ h5,h4.mono hx.le⟩
   ·exact B.ob x o b h L
  ·intro x o b M L;rcases MW M with⟨j,rfl,hp,K⟩|h
   ·obtain⟨V,h2,_⟩:=C j o b hp K L;exact Z.dj _ _ _ h2 V
   ·have hn:=B.dj x o b h L;rw[<-hn];symm;apply tG;intro j au oj hp K ha af e;obtain⟨J,h4,h5⟩:=Z.ob _ _ _ (MV hp K) af;rw[<-e,tF hp K ha af,h4]at hn;cases hn
  ·intro x y o o' b b' M ak L aa e;rcases MW M with⟨j,rfl,hp,K⟩|h
   ·obtain⟨V,h2,J,h3,h4,h5⟩:=C j o b hp K L;rcases MW ak with⟨j',rfl,ag,aj⟩|h'
    ·obtain⟨k1,k2,_⟩:=C j' o' b' ag aj aa;exact Z.inj _ _ _ _ _ _ h2 k2 V k1 e
    ·have:=B.dj y o' b' h' aa;rw[<-e,h5]at this;cases this
   ·rcases MW ak with⟨j',rfl,ag,aj⟩|h'
    ·obtain⟨k1,k2,J,k3,k4,k5⟩:=C j' o' b' ag aj aa;have:=B.dj x o b h L;rw[e,k5]at this;cases this
    ·exact B.inj _ _ _ _ _ _ h h' L aa e
theorem Alf {t:BU} {n M:Nat} {listed:Array Bool} {w w':World} {ρ B:Ai} {c i nx:Nat} {h:Nat->Option Ae} (K:∀b o R,F b=some o->ρ.st b=some R->E.fs b=true) (C:∀b o,F b=some o->w.heap[b]? =some o) (L:∀b o,E.base b=some o->F b=some o) (V:∀j y o,t.Dv n listed c j->t.k j=.new o->ρ (M+j)=some y->w.heap[y.b]?≠none) (q:Rel (FX E ρ) (J3 t n M listed F w ρ c i) nx B h w'):Rel E F nx B h w':=by
 refine⟨q.tape,q.os,q.output,λb o J=>q.fr b o ?_,q.ob,λx o b S J=>?_,q.inj,q.new,q.gl,L,q.st,q.sd,tH K C q.sf⟩
 ·unfold J3;split
  ·exact C b o J
  ·exact J
 ·have hn:=q.dj x o b S J;unfold J3 at hn;split at hn
  ·rename_i U;obtain⟨j,y,O,h1,Z,h3,Y,W⟩:=U;rw[<-W]at hn;exact absurd hn (V j y O h1 Z Y)
  ·exact hn
theorem y3 (Y:Lb P call) (ok:Ex t P call ops s) {listed:Array Bool} {a:Act} {w:World} {ρ:Ai} {c i:Nat} (y:Dn t ops s E F ρ0 rr listed a w ρ c) (hi:i<ops.size) (S:¬Ls listed i) (B:∀j,t.Cp i j->Ls listed j) {K:Act->World->Prop} (hK:∀M c' a' w',Dn t ops s E F ρ0 rr (listed.setIfInBounds i true) a' w' M c'->K a' w') (hP:∀v H' nx',t.k i=.AB v H' nx'->∀u M w',RX s.nx nx' ρ0 M->Rel E F nx' M H'.get w'->VR M v u->Dn t ops s E F ρ0 rr listed a w ρ c->ρ.le M->Q (.panic (fresh u)) a w'): wpOpIn (FW ro) 0 P ops Q i K a w:=by
 have J:=ok.kind i hi;unfold BU.Lm at J;obtain⟨X,hX,aa⟩:=AlI ok y hi S B;unfold wpOpIn;simp only[ok.Zi i hi];split at J
 ·rename_i U;rw[Ad (by rw[WS ok y hi S B J.1];simp)];refine⟨NI ro P _ w a.eval,hK ρ c _ w ?_⟩;exact cJ ok y hi S B (by rw[U];simp) (by rw[U];simp) (by rintro⟨v,H,nx,e⟩;rw[U]at e;cases e) (by rw[J.2.1];exact .AO [] [] .nil)
 ·rename_i U;rw[Am (WS ok y hi S B J.1)];have ag:=kN y S;obtain⟨V,hV,C⟩:=J.2.2 c y.Gy ag λq O ae=>(y.hc q O).1 (B q ae);rw[<-Acr aa]at C;obtain⟨u,Z,h5⟩:=iZ y.rel (λx o hx _=>y8 ok y hi B hV hx) hX (t.oo i) C;exact Ge (wg C) (.inl Z) (hK ρ c _ w (cJ ok y hi S B (by rw[U];simp) (by rw[U];simp) (by rintro⟨v,H,nx,e⟩;rw[U]at e;cases e) h5))
 ·rename_i o U;rw[Am (WS ok y hi S B J.1)];have C:=J.2.2.1;rw[<-Aco aa]at C;obtain⟨u,w1,ai,cap,Z,h5,h6,h7⟩:=iX (P:=P) (w:=w) hX (y.Uy i hi S) (t.oo i) C;exact Ge (vj C) (.inl Z) (hK _ c _ _ (AkA ok y hi S B U h5 h6 h7))
 ·rename_i U;rw[Am (WS ok y hi S B J.1)];obtain⟨_,L,V,hV,C⟩:=J;rw[<-sK aa]at C;have R:∀q,t.hv ops.size q->(q<c↔q<i):=λq O=>by
   rw[<-y.hc q O];rcases Nat.lt_trichotomy q i with h|h|h
   ·exact⟨λ_=>h,λ_=>B q (L q O h)⟩
   ·subst h;exact⟨λh=>absurd h S,λh=>absurd h (Nat.lt_irrefl _)⟩
   ·refine⟨λhl=>?_,λh'=>by omega⟩;have ad:=ok.kind q O.1;unfold BU.Lm at ad;rw[O.2]at ad;exact absurd (y.down q i O.1 hl (ad.2.1 i ⟨hi,U⟩ h)) S
  obtain⟨hG,hn⟩:=W2 ok (XU y.Gy) (Nat.le_of_lt hi) R;have af:t.sub ops.size s.nx V i c:=λx o hx=>by
   rcases hV x o hx with⟨j,h1,h2,h3,Z⟩|h
   ·exact .inl ⟨j,h1,h2,λq O ab=>h3 q O ((R q O).1 ab),Z⟩
   ·exact .inr (by rw[hG];exact h)
  have W:=tY ok y hi B af;rw[<-hn]at C;refine iR Y W hX (y.Uy i hi S) (AM _) (by have:=y.nn;omega) C λu M w' hy hr hv=>?_;exact hK M (i+1) _ w' (Akz ok y hi S B U hy hr hv)
 ·rename_i U;obtain⟨⟨p,hp,ae,ah⟩,_⟩:=J;exact absurd ah (y.np p (B p ae))
 ·rename_i v H' nx' U;rw[Am (WS ok y hi S B J.1)];obtain⟨_,_,L,V,hV,C⟩:=J;rw[<-sK aa]at C;have R:∀q,t.hv ops.size q->(q<c↔q<i):=λq O=>by rw[<-y.hc q O];exact⟨λ_=>(L q O).1,λ_=>B q (L q O).2⟩
  obtain⟨hG,hn⟩:=W2 ok (XU y.Gy) (Nat.le_of_lt hi) R;have af:t.sub ops.size s.nx V i c:=λx o hx=>by
   rcases hV x o hx with⟨j,h1,h2,h3,Z⟩|h
   ·exact .inl ⟨j,h1,h2,λq O ab=>h3 q O ((R q O).1 ab),Z⟩
   ·exact .inr (by rw[hG];exact h)
  have W:=tY ok y hi B af;rw[<-hn]at C;refine iR Y W hX (y.Uy i hi S) (AM _) (by have:=y.nn;omega) C λu M w' hy hr hv=>?_;refine hP v H' nx' U u M w' ⟨Ai.le_trans y.le hy.le,λx hx=>?_,?_⟩ (Alf y.rel.sf y.rel.fr y.rel.bs (λj aj o h1 h2 h3=>?_) hr) hv y hy.le
  ·have:=y.nn;rw[hy.lo x (by omega) (by omega)];exact y.lo x hx
  ·have:=y.nn;have:=hy.nn;omega
  ·obtain⟨ai,Z,_⟩:=y.rel.ob _ _ _ (MV h1 h2) h3;rw[Z];simp
end
end Go.Ev
end
