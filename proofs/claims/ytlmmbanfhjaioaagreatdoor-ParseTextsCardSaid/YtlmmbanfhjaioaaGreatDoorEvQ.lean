/- Laid by program out of its parts: EvQ. -/
import Derived.Test.YtlmmbanfhjaioaaGreatDoorMd
noncomputable section
set_option linter.unusedVariables false
set_option linter.unusedSimpArgs false
/- The evaluator, part Q: a region that draws its order: each step, all orders. -/
namespace Go.Ev
section
variable {t:BS} {P:Program} {call:DZ} {ops:Array Oper} {s:St}
variable {E:Env} {F:Nat->Option Obj} {ρ0:Af} {ro rr:Option Nat} {Q:Exit->Act->World->Prop}
theorem fU (ok:Ej t P call ops s) {listed:Array Bool} {a:Act} {w:World} {ρ:Af} {c i:Nat} {u:Value} (y:Di t ops s E F ρ0 rr listed a w ρ c) (hi:i<ops.size) (U:¬Ls listed i) (B:∀j,t.Cj i j->Ls listed j) (O:∀o,t.k i≠.new o) (S:t.k i≠.Dy) (C:¬t.NS i) (hv:VR ρ (t.v i) u): Di t ops s E F ρ0 rr (listed.setIfInBounds i true) (a.put (t.oo i).dst u) w ρ c:=by
 refine sW ok y hi U B C (Af.le_refl ρ) (λ_ _=>rfl) (λ_ _ _ _=>rfl) hv y.Gm (λq K=>?_) y.nn ?_
 ·have:=y.hc q K;have J:q≠i:=λe=>by subst e;exact S K.2
  simp[J,this]
 ·exact y.rel.less λx o L=>Aoc (by rw[y.size];exact hi) O L λj o' M R=>Wn ok y M R
theorem Aog (ok:Ej t P call ops s) {listed:Array Bool} {a:Act} {w M:World} {ρ:Af} {c i cap:Nat} {u:Value} {o:Ac} {ob:Obj} (y:Di t ops s E F ρ0 rr listed a w ρ c) (hi:i<ops.size) (U:¬Ls listed i) (R:∀j,t.Cj i j->Ls listed j) (S:t.k i=.new o) (hw:M=w\/M=w.drew) (V:OR (ρ.put (s.nx+i) ⟨w.heap.size,0,cap⟩) ⟨w.heap.size,0,cap⟩ o ob) (hv:VR (ρ.put (s.nx+i) ⟨w.heap.size,0,cap⟩) (t.v i) u): Di t ops s E F ρ0 rr (listed.setIfInBounds i true) (a.put (t.oo i).dst u) (M.alloc ob) (ρ.put (s.nx+i) ⟨w.heap.size,0,cap⟩) c:=by
 have W:=y.Vh i hi U;have C:Rel E F (t.E2 c) ρ (t.hD ops.size s.nx listed c) M/\M.heap.size=w.heap.size:=by
  rcases hw with rfl|rfl
  ·exact⟨y.rel,rfl⟩
  ·exact⟨y.rel.drew,rfl⟩
 have L:=C.1.alloc (i:=s.nx+i) (nx':=t.E2 c) W (Nat.le_refl _) (by have:=y.nn;omega) (cap:=cap) (a:=o) (o:=ob) (by rw[C.2];exact V);rw[C.2]at L;refine sW ok y hi U R (by rintro⟨v,H,nx,e⟩;rw[S]at e;cases e) L.2 (λx hx=>Af.GR (by omega) _) (λj _ K _=>Af.GR (by omega) _) hv y.Gm (λq hq=>?_) y.nn ?_
 ·have:=y.hc q hq;have Y:q≠i:=λe=>by subst e;have:=S.symm.trans hq.2;cases this
  simp[Y,this]
 ·refine L.1.less λx o' hx=>?_;have hs:i<listed.size:=by rw[y.size];exact hi
  rcases MQ hx with⟨j,rfl,hp,B⟩|h
  ·by_cases K:j=i
   ·subst K;rw[S]at B;injection B with B;subst B;simp
   ·rw[if_neg (by omega)];exact MP ⟨hp.1,((Vx hs).1 hp.2.1).resolve_left K,hp.2.2⟩ B
  ·have Z:(t.G c).get (s.nx+i)=none:=by have J:=ok.kind i hi;unfold BS.Lg at J;rw[S]at J;exact J.2.2.2 c y.Gm (oe y U)
   by_cases O:x=s.nx+i
   ·subst O;rw[Z]at h;cases h
   ·rw[if_neg O];refine Wu h λj aa e hp B=>?_;subst e;rw[Wn ok y hp B]at h;cases h
open Classical in
def JY (t:BS) (n y:Nat) (listed:Array Bool) (F:Nat->Option Obj) (w:World) (ρ:Af) (c i:Nat):Nat->Option Obj:=λb=>
 if∃j q o,t.Dp n listed c j/\t.k j=.new o/\¬t.Cj i j/\ρ (y+j)=some q/\q.b=b then w.heap[b]? else F b
theorem xp {t:BS} {n y:Nat} {listed:Array Bool} {w:World} {ρ:Af} {c i j:Nat} {q:CM} {o:Ac} (hp:t.Dp n listed c j) (B:t.k j=.new o) (C:¬t.Cj i j) (hb:ρ (y+j)=some q): JY t n y listed F w ρ c i q.b=w.heap[q.b]?:=if_pos ⟨j,q,o,hp,B,C,hb,rfl⟩
theorem xq {t:BS} {n y:Nat} {listed:Array Bool} {w:World} {ρ:Af} {c i b:Nat} (h:∀j q o,t.Dp n listed c j->t.k j=.new o->¬t.Cj i j->ρ (y+j)=some q->q.b≠b):JY t n y listed F w ρ c i b=F b:=if_neg λ⟨j,q,o,K,J,E,C,B⟩=>h j q o K J E C B
open Classical in
def Gs (E:Env) (ρ:Af):Env:=⟨E.tape,E.os,E.output,E.base,λb=>decide (ρ.st b≠none)⟩
theorem yK (ok:Ej t P call ops s) {listed:Array Bool} {a:Act} {w:World} {ρ:Af} {c i:Nat} (J:Di t ops s E F ρ0 rr listed a w ρ c) (hi:i<ops.size) (K:∀j,t.Cj i j->Ls listed j) {V:Tr Ac} (W:t.sub ops.size s.nx V i c): Rel (Gs E ρ) (JY t ops.size s.nx listed F w ρ c i) (t.E2 c) ρ V.get w:=by
 have q:=λx o (C:V.get x=some o)=>Aci ok J hi K W C;have B:=J.rel;refine⟨B.tape,B.os,B.output,?_,λx o b C=>B.ob x o b (q x o C),?_,λx y o o' b b' C hy=>B.inj x y o o' b b' (q x o C) (q y o' hy),B.new,λg l hg=>B.gl g l (q g _ hg),?_,B.st,λx o b C=>B.sd x o b (q x o C),λb o o' _ hb=>by simp[Gs,hb]⟩
 rotate_right
 ·intro b o hb;have M:=B.bs b o hb;unfold JY;split
  ·exact B.fr b o M
  ·exact M
 ·intro b o hb;unfold JY at hb;split at hb
  ·exact hb
  ·exact B.fr b o hb
 ·intro x o b C hb;rw[xq]
  ·exact B.dj x o b (q x o C) hb
  ·intro j R Y S U ha L e;have O:x=s.nx+j:=B.inj x (s.nx+j) o Y b R (q x o C) (MP S U) hb L e.symm;subst O;rcases W _ o C with⟨Z,M,h2,h3,h4⟩|h
   ·have:Z=j:=by omega
    subst this;exact ha M
   ·rw[Wn ok J S U]at h;cases h
theorem xu {t:BS} {n C:Nat} {listed:Array Bool} {w:World} {ρ q:Af} {c i:Nat} (y:∀b o o',F b=some o->ρ.st b=some o'->E.fs b=true) (B:∀b o,F b=some o->w.heap[b]? =some o) (h:∀b o o',JY t n C listed F w ρ c i b=some o->q.st b=some o'->(Gs E ρ).fs b=true):∀b o o',F b=some o->q.st b=some o'->E.fs b=true:=by
 intro b o o' hb L;have M:JY t n C listed F w ρ c i b=some o:=by
  unfold JY;split
  ·exact B b o hb
  ·exact hb
 have K:=h b o o' M L;simp only[Gs,ne_eq,decide_eq_true_eq]at K;cases J:ρ.st b with
 |none=>exact absurd J K
 |some x=>exact y b o x hb J
theorem Aof (ok:Ej t P call ops s) {listed:Array Bool} {a:Act} {w w':World} {ρ M:Af} {c i:Nat} {u:Value} (R:Di t ops s E F ρ0 rr listed a w ρ c) (hi:i<ops.size) (hL:¬Ls listed i) (ab:∀j,t.Cj i j->Ls listed j) (hk:t.k i=.Dy) (hx:RY (s.nx+i) (t.E2 c) (t.E2 (i+1)) ρ M) (B:Rel (Gs E ρ) (JY t ops.size s.nx listed F w ρ c i) (t.E2 (i+1)) M (t.G (i+1)).get w') (hv:VR M (t.v i) u): Di t ops s E F ρ0 rr (listed.setIfInBounds i true) (a.put (t.oo i).dst u) w' M (i+1):=by
 have Y:=R.rel;have hs:i<listed.size:=by rw[R.size];exact hi
 have aa:∀q,t.hv ops.size q->q<i->t.Cj i q:=by have O:=ok.kind i hi;unfold BS.Lg at O;rw[hk]at O;exact O.2.1
 have W:∀q,t.hv ops.size q->i<q->t.Cj q i:=λq S aq=>by have O:=ok.kind q S.1;unfold BS.Lg at O;rw[S.2]at O;exact O.2.1 i ⟨hi,hk⟩ aq
 have ad:∀q,t.hv ops.size q->(Ls listed q↔q<i):=λq S=>by
  rcases Nat.lt_trichotomy q i with h|h|h
  ·exact⟨λ_=>h,λ_=>ab q (aa q S h)⟩
  ·subst h;exact⟨λh=>absurd h hL,λh=>absurd h (Nat.lt_irrefl _)⟩
  ·exact⟨λhl=>absurd (R.down q i S.1 hl (W q S h)) hL,λh'=>by omega⟩
 have ao:=R.nn;have ag:∀x,x<s.nx+ops.size->x≠s.nx+i->M x=ρ x:=λx L ak=>hx.lo x (by omega) ak;have V:∀j o,t.Dp ops.size (listed.setIfInBounds i true) (i+1) j->t.k j=.new o->t.Dp ops.size listed c j/\¬t.Cj i j/\j≠i:=λj o hp K=>by
  have ah:j≠i:=λe=>by subst e;rw[hk]at K;cases K
  refine⟨⟨hp.1,((Vx hs).1 hp.2.1).resolve_left ah,λq S an=>?_⟩,hp.2.2 i ⟨hi,hk⟩ (by omega),ah⟩;have:=(R.hc q S).2 an;have:=(ad q S).1 this;exact hp.2.2 q S (by omega)
 have C:∀j o b,t.Dp ops.size (listed.setIfInBounds i true) (i+1) j->t.k j=.new o->M (s.nx+j)=some b-> ρ (s.nx+j)=some b/\t.hD ops.size s.nx listed c (s.nx+j)=some o/\∃J,w.heap[b.b]? =some J/\OR ρ b o J/\JY t ops.size s.nx listed F w ρ c i b.b=some J:=λj o b hp K hb=>by obtain⟨U,h2,h3⟩:=V j o hp K;rw[ag _ (by have:=hp.1;omega) (by omega)]at hb;have hd:t.hD ops.size s.nx listed c (s.nx+j)=some o:=MP U K;obtain⟨J,h4,h5⟩:=Y.ob _ _ _ hd hb;exact⟨hb,hd,J,h4,h5,by rw[xp U K h2 hb];exact h4⟩
 refine sW ok R hi hL ab (by rintro⟨v,H,nx,e⟩;rw[hk]at e;cases e) hx.le (λx L=>ag x (by omega) (by omega)) (λj K ah _=>ag _ (by omega) (by omega)) hv (.inr ⟨i,⟨hi,hk⟩,rfl⟩) (λq S=>?_) (Nat.le_trans ao hx.nn) ?_
 ·rw[ad q S];omega
 ·refine⟨B.tape,B.os,B.output,?_,?_,?_,?_,B.new,λg l hg=>?_,Y.bs,B.st,λx o b L hb=>?_,xu Y.sf Y.fr B.sf⟩
  rotate_right
  rotate_right
  rotate_left
  ·rcases MQ L with⟨j,rfl,hp,K⟩|h
   ·obtain⟨U,h2,J,h3,h4,h5⟩:=C j o b hp K hb;cases al:M.st b.b with
    |none=>rfl
    |some x=>have:=B.sf _ _ _ h5 al;have hn:=Y.sd _ _ _ h2 U;simp[Gs,hn]at this
   ·exact B.sd x o b h hb
  rotate_right
  ·rcases MQ hg with⟨j,rfl,hp,K⟩|h
   ·obtain⟨U,_,_⟩:=V j _ hp K;exact Y.gl _ _ (MP U K)
   ·exact B.gl g l h
  ·intro b o hb;apply B.fr b o;unfold JY;split
   ·exact Y.fr b o hb
   ·exact hb
  ·intro x o b L hb;rcases MQ L with⟨j,rfl,hp,K⟩|h
   ·obtain⟨U,h2,J,h3,h4,h5⟩:=C j o b hp K hb;exact⟨J,B.fr _ _ h5,h4.mono hx.le⟩
   ·exact B.ob x o b h hb
  ·intro x o b L hb;rcases MQ L with⟨j,rfl,hp,K⟩|h
   ·obtain⟨U,h2,_⟩:=C j o b hp K hb;exact Y.dj _ _ _ h2 U
   ·have hn:=B.dj x o b h hb;rw[<-hn];symm;apply xq;intro j ar oj hp K ha ae e;obtain⟨J,h4,h5⟩:=Y.ob _ _ _ (MP hp K) ae;rw[<-e,xp hp K ha ae,h4]at hn;cases hn
  ·intro x y o o' b b' L aj hb Z e;rcases MQ L with⟨j,rfl,hp,K⟩|h
   ·obtain⟨U,h2,J,h3,h4,h5⟩:=C j o b hp K hb;rcases MQ aj with⟨j',rfl,af,ai⟩|h'
    ·obtain⟨k1,k2,_⟩:=C j' o' b' af ai Z;exact Y.inj _ _ _ _ _ _ h2 k2 U k1 e
    ·have:=B.dj y o' b' h' Z;rw[<-e,h5]at this;cases this
   ·rcases MQ aj with⟨j',rfl,af,ai⟩|h'
    ·obtain⟨k1,k2,J,k3,k4,k5⟩:=C j' o' b' af ai Z;have:=B.dj x o b h hb;rw[e,k5]at this;cases this
    ·exact B.inj _ _ _ _ _ _ h h' hb Z e
theorem AoR {t:BS} {n L:Nat} {listed:Array Bool} {w w':World} {ρ B:Af} {c i nx:Nat} {h:Nat->Option Ac} (J:∀b o o',F b=some o->ρ.st b=some o'->E.fs b=true) (C:∀b o,F b=some o->w.heap[b]? =some o) (K:∀b o,E.base b=some o->F b=some o) (S:∀j y o,t.Dp n listed c j->t.k j=.new o->ρ (L+j)=some y->w.heap[y.b]?≠none) (q:Rel (Gs E ρ) (JY t n L listed F w ρ c i) nx B h w'):Rel E F nx B h w':=by
 refine⟨q.tape,q.os,q.output,λb o hb=>q.fr b o ?_,q.ob,λx o b O hb=>?_,q.inj,q.new,q.gl,K,q.st,q.sd,xu J C q.sf⟩
 ·unfold JY;split
  ·exact C b o hb
  ·exact hb
 ·have hn:=q.dj x o b O hb;unfold JY at hn;split at hn
  ·rename_i R;obtain⟨j,y,M,Y,W,Z,V,U⟩:=R;rw[<-U]at hn;exact absurd hn (S j y M Y W V)
  ·exact hn
theorem Acf (Y:K3 P call) (ok:Ej t P call ops s) {listed:Array Bool} {a:Act} {w:World} {ρ:Af} {c i:Nat} (y:Di t ops s E F ρ0 rr listed a w ρ c) (hi:i<ops.size) (S:¬Ls listed i) (B:∀j,t.Cj i j->Ls listed j) {K:Act->World->Prop} (hK:∀M c' a' w',Di t ops s E F ρ0 rr (listed.setIfInBounds i true) a' w' M c'->K a' w') (hP:∀v H' nx',t.k i=.AA v H' nx'->∀u M w',RX s.nx nx' ρ0 M->Rel E F nx' M H'.get w'->VR M v u->Di t ops s E F ρ0 rr listed a w ρ c->ρ.le M->Q (.panic (fresh u)) a w'): wpOpIn (FW ro) 0 P ops Q i K a w:=by
 have J:=ok.kind i hi;unfold BS.Lg at J;obtain⟨X,hX,aa⟩:=Apv ok y hi S B;unfold wpOpIn;simp only[ok.cw i hi];split at J
 ·rename_i U;rw[if_neg (by rw[X3 ok y hi S B J.1];simp)];refine⟨Nz ro P _ w a.eval,hK ρ c _ w ?_⟩;exact fU ok y hi S B (by rw[U];simp) (by rw[U];simp) (by rintro⟨v,H,nx,e⟩;rw[U]at e;cases e) (by rw[J.2.1];exact .AL [] [] .nil)
 ·rename_i U;rw[if_pos (X3 ok y hi S B J.1)];have ag:=oe y S;obtain⟨V,hV,C⟩:=J.2.2 c y.Gm ag λq O ae=>(y.hc q O).1 (B q ae);rw[<-Ae6 aa]at C;obtain⟨u,Z,h5⟩:=ml y.rel (λx o hx _=>Aci ok y hi B hV hx) hX (t.oo i) C;exact F2 (Aa7 C) (.inl Z) (hK ρ c _ w (fU ok y hi S B (by rw[U];simp) (by rw[U];simp) (by rintro⟨v,H,nx,e⟩;rw[U]at e;cases e) h5))
 ·rename_i o U;rw[if_pos (X3 ok y hi S B J.1)];have C:=J.2.2.1;rw[<-Ae3 aa]at C;obtain⟨u,w1,ai,cap,Z,h5,h6,h7⟩:=mg (P:=P) (w:=w) hX (y.Vh i hi S) (t.oo i) C;exact F2 (Aam C) (.inl Z) (hK _ c _ _ (Aog ok y hi S B U h5 h6 h7))
 ·rename_i U;rw[if_pos (X3 ok y hi S B J.1)];obtain⟨_,L,V,hV,C⟩:=J;rw[<-xA aa]at C;have R:∀q,t.hv ops.size q->(q<c↔q<i):=λq O=>by
   rw[<-y.hc q O];rcases Nat.lt_trichotomy q i with h|h|h
   ·exact⟨λ_=>h,λ_=>B q (L q O h)⟩
   ·subst h;exact⟨λh=>absurd h S,λh=>absurd h (Nat.lt_irrefl _)⟩
   ·refine⟨λhl=>?_,λh'=>by omega⟩;have ad:=ok.kind q O.1;unfold BS.Lg at ad;rw[O.2]at ad;exact absurd (y.down q i O.1 hl (ad.2.1 i ⟨hi,U⟩ h)) S
  obtain⟨hG,hn⟩:=Yc ok (Zo y.Gm) (Nat.le_of_lt hi) R;have af:t.sub ops.size s.nx V i c:=λx o hx=>by
   rcases hV x o hx with⟨j,h1,h2,h3,Z⟩|h
   ·exact .inl ⟨j,h1,h2,λq O ab=>h3 q O ((R q O).1 ab),Z⟩
   ·exact .inr (by rw[hG];exact h)
  have W:=yK ok y hi B af;rw[<-hn]at C;refine m8 Y W hX (y.Vh i hi S) (Nat.le_refl _) (by have:=y.nn;omega) C λu M w' hy hr hv=>?_;exact hK M (i+1) _ w' (Aof ok y hi S B U hy hr hv)
 ·rename_i U;obtain⟨⟨p,hp,ae,ah⟩,_⟩:=J;exact absurd ah (y.np p (B p ae))
 ·rename_i v H' nx' U;rw[if_pos (X3 ok y hi S B J.1)];obtain⟨_,_,L,V,hV,C⟩:=J;rw[<-xA aa]at C;have R:∀q,t.hv ops.size q->(q<c↔q<i):=λq O=>by rw[<-y.hc q O];exact⟨λ_=>(L q O).1,λ_=>B q (L q O).2⟩
  obtain⟨hG,hn⟩:=Yc ok (Zo y.Gm) (Nat.le_of_lt hi) R;have af:t.sub ops.size s.nx V i c:=λx o hx=>by
   rcases hV x o hx with⟨j,h1,h2,h3,Z⟩|h
   ·exact .inl ⟨j,h1,h2,λq O ab=>h3 q O ((R q O).1 ab),Z⟩
   ·exact .inr (by rw[hG];exact h)
  have W:=yK ok y hi B af;rw[<-hn]at C;refine m8 Y W hX (y.Vh i hi S) (Nat.le_refl _) (by have:=y.nn;omega) C λu M w' hy hr hv=>?_;refine hP v H' nx' U u M w' ⟨Af.le_trans y.le hy.le,λx hx=>?_,?_⟩ (AoR y.rel.sf y.rel.fr y.rel.bs (λj aj o h1 h2 h3=>?_) hr) hv y hy.le
  ·have:=y.nn;rw[hy.lo x (by omega) (by omega)];exact y.lo x hx
  ·have:=y.nn;have:=hy.nn;omega
  ·obtain⟨ai,Z,_⟩:=y.rel.ob _ _ _ (MP h1 h2) h3;rw[Z];simp
end
end Go.Ev
end
