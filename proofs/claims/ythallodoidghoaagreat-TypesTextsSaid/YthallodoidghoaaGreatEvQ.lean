/- Laid by program out of its parts: EvQ. -/
import Derived.Test.YthallodoidghoaaGreatMd
noncomputable section
set_option linter.unusedVariables false
set_option linter.unusedSimpArgs false
namespace Go.Ev
section
variable {t:B5} {P:Program} {call:Da} {ops:Array Oper} {s:St}
variable {E:Env} {F:Nat->Option Obj} {ρ0:Ak} {ro rr:Option Nat} {Q:Exit->Act->World->Prop}
theorem iN (ok:Ef t P call ops s) {listed:Array Bool} {a:Act} {w:World} {ρ:Ak} {c i:Nat} {u:Value} (r:Db t ops s E F ρ0 rr listed a w ρ c) (hi:i<ops.size) (V:¬Ls listed i) (y:∀j,t.Cj i j->Ls listed j) (R:∀o,t.k i≠.new o) (U:t.k i≠.Ds) (z:¬t.Oz i) (hv:VR ρ (t.v i) u): Db t ops s E F ρ0 rr (listed.setIfInBounds i true) (a.put (t.oo i).dst u) w ρ c:=by
 refine wP ok r hi V y z (Ak.le_refl ρ) (λ_ _=>rfl) (λ_ _ _ _=>rfl) hv r.Gj (λq J=>?_) r.nn ?_
 ·have:=r.hc q J;have B:q≠i:=λe=>by subst e;exact U J.2
  simp[B,this]
 ·exact r.rel.less λx o K=>ApU (by rw[r.size];exact hi) R K λj o' L S=>Xh ok r L S
theorem ApY (ok:Ef t P call ops s) {listed:Array Bool} {a:Act} {w L:World} {ρ:Ak} {c i cap:Nat} {u:Value} {o:Ah} {ob:Obj} (r:Db t ops s E F ρ0 rr listed a w ρ c) (hi:i<ops.size) (W:¬Ls listed i) (U:∀j,t.Cj i j->Ls listed j) (V:t.k i=.new o) (hw:L=w\/L=w.drew) (Y:OR (ρ.put (s.nx+i) ⟨w.heap.size,0,cap⟩) ⟨w.heap.size,0,cap⟩ o ob) (hv:VR (ρ.put (s.nx+i) ⟨w.heap.size,0,cap⟩) (t.v i) u): Db t ops s E F ρ0 rr (listed.setIfInBounds i true) (a.put (t.oo i).dst u) (L.alloc ob) (ρ.put (s.nx+i) ⟨w.heap.size,0,cap⟩) c:=by
 have Z:=r.VY i hi W;have z:Rel E F (t.E0 c) ρ (t.hD ops.size s.nx listed c) L/\L.heap.size=w.heap.size:=by
  rcases hw with rfl|rfl
  ·exact⟨r.rel,rfl⟩
  ·exact⟨r.rel.drew,rfl⟩
 have K:=z.1.alloc (i:=s.nx+i) (nx':=t.E0 c) Z (AH _) (by have:=r.nn;omega) (cap:=cap) (a:=o) (o:=ob) (by rw[z.2];exact Y);rw[z.2]at K;refine wP ok r hi W U (by rintro⟨v,H,nx,e⟩;rw[V]at e;cases e) K.2 (λx hx=>Ak.GH (by omega) _) (λj _ J _=>Ak.GH (by omega) _) hv r.Gj (λq hq=>?_) r.nn ?_
 ·have:=r.hc q hq;have aa:q≠i:=λe=>by subst e;have:=V.symm.trans hq.2;cases this
  simp[aa,this]
 ·refine K.1.less λx o' hx=>?_;have hs:i<listed.size:=by rw[r.size];exact hi
  rcases Ng hx with⟨j,rfl,R,y⟩|h
  ·by_cases J:j=i
   ·subst J;rw[V]at y;injection y with y;subst y;simp
   ·rw[An (by omega)];exact Nf ⟨R.1,((Wa hs).1 R.2.1).resolve_left J,R.2.2⟩ y
  ·have ab:(t.G c).get (s.nx+i)=none:=by have B:=ok.kind i hi;unfold B5.Le at B;rw[V]at B;exact B.2.2.2 c r.Gj (tp r W)
   by_cases S:x=s.nx+i
   ·subst S;rw[ab]at h;cases h
   ·rw[An S];refine Xl h λj ad e R y=>?_;subst e;rw[Xh ok r R y]at h;cases h
open Classical in
def JO (t:B5) (n x:Nat) (listed:Array Bool) (F:Nat->Option Obj) (w:World) (ρ:Ak) (c i:Nat):Nat->Option Obj:=λb=>
 if∃j r o,t.Cq n listed c j/\t.k j=.new o/\¬t.Cj i j/\ρ (x+j)=some r/\r.b=b then w.heap[b]? else F b
theorem Aa7 {t:B5} {n x:Nat} {listed:Array Bool} {w:World} {ρ:Ak} {c i j:Nat} {r:CD} {o:Ah} (y:t.Cq n listed c j) (z:t.k j=.new o) (B:¬t.Cj i j) (hb:ρ (x+j)=some r): JO t n x listed F w ρ c i r.b=w.heap[r.b]?:=As ⟨j,r,o,y,z,B,hb,rfl⟩
theorem Aa8 {t:B5} {n x:Nat} {listed:Array Bool} {w:World} {ρ:Ak} {c i b:Nat} (h:∀j r o,t.Cq n listed c j->t.k j=.new o->¬t.Cj i j->ρ (x+j)=some r->r.b≠b):JO t n x listed F w ρ c i b=F b:=An λ⟨j,r,o,K,J,B,z,y⟩=>h j r o K J B z y
open Classical in
def FO (E:Env) (ρ:Ak):Env:=⟨E.tape,E.os,E.output,E.base,λb=>decide (ρ.st b≠none)⟩
theorem Abg (ok:Ef t P call ops s) {listed:Array Bool} {a:Act} {w:World} {ρ:Ak} {c i:Nat} (J:Db t ops s E F ρ0 rr listed a w ρ c) (hi:i<ops.size) (K:∀j,t.Cj i j->Ls listed j) {V:Tr Ah} (Z:t.sub ops.size s.nx V i c): Rel (FO E ρ) (JO t ops.size s.nx listed F w ρ c i) (t.E0 c) ρ V.get w:=by
 have r:=λx o (B:V.get x=some o)=>AeK ok J hi K Z B;have z:=J.rel;refine⟨z.tape,z.os,z.output,?_,λx o b B=>z.ob x o b (r x o B),?_,λx y o o' b b' B hy=>z.inj x y o o' b b' (r x o B) (r y o' hy),z.new,λg l hg=>z.gl g l (r g _ hg),?_,z.st,λx o b B=>z.sd x o b (r x o B),λb o o' _ hb=>by simp[FO,hb]⟩
 rotate_right
 ·intro b o hb;have R:=z.bs b o hb;unfold JO;split
  ·exact z.fr b o R
  ·exact R
 ·intro b o hb;unfold JO at hb;split at hb
  ·exact hb
  ·exact z.fr b o hb
 ·intro x o b B hb;rw[Aa8]
  ·exact z.dj x o b (r x o B) hb
  ·intro j U oj W Y ha L e;have S:x=s.nx+j:=z.inj x (s.nx+j) o oj b U (r x o B) (Nf W Y) hb L e.symm;subst S;rcases Z _ o B with⟨j',R,h2,h3,h4⟩|h
   ·have:j'=j:=by omega
    subst this;exact ha R
   ·rw[Xh ok J W Y]at h;cases h
theorem Aa9 {t:B5} {n B:Nat} {listed:Array Bool} {w:World} {ρ r:Ak} {c i:Nat} (y:∀b o o',F b=some o->ρ.st b=some o'->E.fs b=true) (z:∀b o,F b=some o->w.heap[b]? =some o) (h:∀b o o',JO t n B listed F w ρ c i b=some o->r.st b=some o'->(FO E ρ).fs b=true):∀b o o',F b=some o->r.st b=some o'->E.fs b=true:=by
 intro b o o' hb L;have R:JO t n B listed F w ρ c i b=some o:=by
  unfold JO;split
  ·exact z b o hb
  ·exact hb
 have K:=h b o o' R L;simp only[FO,ne_eq,Bn]at K;cases J:ρ.st b with
 |none=>exact absurd J K
 |some x=>exact y b o x hb J
theorem ApX (ok:Ef t P call ops s) {listed:Array Bool} {a:Act} {w w':World} {ρ R:Ak} {c i:Nat} {u:Value} (U:Db t ops s E F ρ0 rr listed a w ρ c) (hi:i<ops.size) (hL:¬Ls listed i) (ad:∀j,t.Cj i j->Ls listed j) (hk:t.k i=.Ds) (hx:RY (s.nx+i) (t.E0 c) (t.E0 (i+1)) ρ R) (r:Rel (FO E ρ) (JO t ops.size s.nx listed F w ρ c i) (t.E0 (i+1)) R (t.G (i+1)).get w') (hv:VR R (t.v i) u): Db t ops s E F ρ0 rr (listed.setIfInBounds i true) (a.put (t.oo i).dst u) w' R (i+1):=by
 have hr:=U.rel;have hs:i<listed.size:=by rw[U.size];exact hi
 have ab:∀q,t.hv ops.size q->q<i->t.Cj i q:=by have S:=ok.kind i hi;unfold B5.Le at S;rw[hk]at S;exact S.2.1
 have Z:∀q,t.hv ops.size q->i<q->t.Cj q i:=λq V au=>by have S:=ok.kind q V.1;unfold B5.Le at S;rw[V.2]at S;exact S.2.1 i ⟨hi,hk⟩ au
 have ae:∀q,t.hv ops.size q->(Ls listed q↔q<i):=λq V=>by
  rcases Nat.lt_trichotomy q i with h|h|h
  ·exact⟨λ_=>h,λ_=>ad q (ab q V h)⟩
  ·subst h;exact⟨λh=>absurd h hL,λh=>absurd h (Nat.lt_irrefl _)⟩
  ·exact⟨λhl=>absurd (U.down q i V.1 hl (Z q V h)) hL,λh'=>by omega⟩
 have ar:=U.nn;have ah:∀x,x<s.nx+ops.size->x≠s.nx+i->R x=ρ x:=λx L an=>hx.lo x (by omega) an;have Y:∀j o,t.Cq ops.size (listed.setIfInBounds i true) (i+1) j->t.k j=.new o->t.Cq ops.size listed c j/\¬t.Cj i j/\j≠i:=λj o K J=>by
  have ai:j≠i:=λe=>by subst e;rw[hk]at J;cases J
  refine⟨⟨K.1,((Wa hs).1 K.2.1).resolve_left ai,λq V aq=>?_⟩,K.2.2 i ⟨hi,hk⟩ (by omega),ai⟩;have:=(U.hc q V).2 aq;have:=(ae q V).1 this;exact K.2.2 q V (by omega)
 have z:∀j o b,t.Cq ops.size (listed.setIfInBounds i true) (i+1) j->t.k j=.new o->R (s.nx+j)=some b-> ρ (s.nx+j)=some b/\t.hD ops.size s.nx listed c (s.nx+j)=some o/\∃B,w.heap[b.b]? =some B/\OR ρ b o B/\JO t ops.size s.nx listed F w ρ c i b.b=some B:=λj o b K J hb=>by obtain⟨W,h2,h3⟩:=Y j o K J;rw[ah _ (by have:=K.1;omega) (by omega)]at hb;have hd:t.hD ops.size s.nx listed c (s.nx+j)=some o:=Nf W J;obtain⟨B,h4,h5⟩:=hr.ob _ _ _ hd hb;exact⟨hb,hd,B,h4,h5,by rw[Aa7 W J h2 hb];exact h4⟩
 refine wP ok U hi hL ad (by rintro⟨v,H,nx,e⟩;rw[hk]at e;cases e) hx.le (λx L=>ah x (by omega) (by omega)) (λj J ai _=>ah _ (by omega) (by omega)) hv (.inr ⟨i,⟨hi,hk⟩,rfl⟩) (λq V=>?_) (Ho ar hx.nn) ?_
 ·rw[ae q V];omega
 ·refine⟨r.tape,r.os,r.output,?_,?_,?_,?_,r.new,λg l hg=>?_,hr.bs,r.st,λx o b L hb=>?_,Aa9 hr.sf hr.fr r.sf⟩
  rotate_right
  rotate_right
  rotate_left
  ·rcases Ng L with⟨j,rfl,K,J⟩|h
   ·obtain⟨W,h2,B,h3,h4,h5⟩:=z j o b K J hb;cases ao:R.st b.b with
    |none=>rfl
    |some x=>have:=r.sf _ _ _ h5 ao;have hn:=hr.sd _ _ _ h2 W;simp[FO,hn]at this
   ·exact r.sd x o b h hb
  rotate_right
  ·rcases Ng hg with⟨j,rfl,K,J⟩|h
   ·obtain⟨W,_,_⟩:=Y j _ K J;exact hr.gl _ _ (Nf W J)
   ·exact r.gl g l h
  ·intro b o hb;apply r.fr b o;unfold JO;split
   ·exact hr.fr b o hb
   ·exact hb
  ·intro x o b L hb;rcases Ng L with⟨j,rfl,K,J⟩|h
   ·obtain⟨W,h2,B,h3,h4,h5⟩:=z j o b K J hb;exact⟨B,r.fr _ _ h5,h4.mono hx.le⟩
   ·exact r.ob x o b h hb
  ·intro x o b L hb;rcases Ng L with⟨j,rfl,K,J⟩|h
   ·obtain⟨W,h2,_⟩:=z j o b K J hb;exact hr.dj _ _ _ h2 W
   ·have hn:=r.dj x o b h hb;rw[<-hn];symm;apply Aa8;intro j av oj K J ha af e;obtain⟨B,h4,h5⟩:=hr.ob _ _ _ (Nf K J) af;rw[<-e,Aa7 K J ha af,h4]at hn;cases hn
  ·intro x y o o' b b' L ak hb aa e;rcases Ng L with⟨j,rfl,K,J⟩|h
   ·obtain⟨W,h2,B,h3,h4,h5⟩:=z j o b K J hb;rcases Ng ak with⟨j',rfl,ag,aj⟩|h'
    ·obtain⟨k1,k2,_⟩:=z j' o' b' ag aj aa;exact hr.inj _ _ _ _ _ _ h2 k2 W k1 e
    ·have:=r.dj y o' b' h' aa;rw[<-e,h5]at this;cases this
   ·rcases Ng ak with⟨j',rfl,ag,aj⟩|h'
    ·obtain⟨k1,k2,B,k3,k4,k5⟩:=z j' o' b' ag aj aa;have:=r.dj x o b h hb;rw[e,k5]at this;cases this
    ·exact r.inj _ _ _ _ _ _ h h' hb aa e
theorem Aqz {t:B5} {n L:Nat} {listed:Array Bool} {w w':World} {ρ z:Ak} {c i nx:Nat} {h:Nat->Option Ah} (J:∀b o o',F b=some o->ρ.st b=some o'->E.fs b=true) (B:∀b o,F b=some o->w.heap[b]? =some o) (K:∀b o,E.base b=some o->F b=some o) (V:∀j y o,t.Cq n listed c j->t.k j=.new o->ρ (L+j)=some y->w.heap[y.b]?≠none) (r:Rel (FO E ρ) (JO t n L listed F w ρ c i) nx z h w'):Rel E F nx z h w':=by
 refine⟨r.tape,r.os,r.output,λb o hb=>r.fr b o ?_,r.ob,λx o b S hb=>?_,r.inj,r.new,r.gl,K,r.st,r.sd,Aa9 J B r.sf⟩
 ·unfold JO;split
  ·exact B b o hb
  ·exact hb
 ·have hn:=r.dj x o b S hb;unfold JO at hn;split at hn
  ·rename_i U;obtain⟨j,y,R,h1,Z,h3,Y,W⟩:=U;rw[<-W]at hn;exact absurd hn (V j y R h1 Z Y)
  ·exact hn
theorem AeE (Z:GX P call) (ok:Ef t P call ops s) {listed:Array Bool} {a:Act} {w:World} {ρ:Ak} {c i:Nat} (r:Db t ops s E F ρ0 rr listed a w ρ c) (hi:i<ops.size) (U:¬Ls listed i) (y:∀j,t.Cj i j->Ls listed j) {K:Act->World->Prop} (hK:∀L c' a' w',Db t ops s E F ρ0 rr (listed.setIfInBounds i true) a' w' L c'->K a' w') (hP:∀v H' nx',t.k i=.AG v H' nx'->∀u L w',RX s.nx nx' ρ0 L->Rel E F nx' L H'.get w'->VR L v u->Db t ops s E F ρ0 rr listed a w ρ c->ρ.le L->Q (.panic (fresh u)) a w'): wpOpIn (FW ro) 0 P ops Q i K a w:=by
 have B:=ok.kind i hi;unfold B5.Le at B;obtain⟨X,hX,aa⟩:=Aq2 ok r hi U y;unfold wpOpIn;simp only[ok.eu i hi];split at B
 ·rename_i W;rw[An (by rw[Y2 ok r hi U y B.1];simp)];refine⟨L1 ro P _ w a.eval,hK ρ c _ w ?_⟩;exact iN ok r hi U y (by rw[W];simp) (by rw[W];simp) (by rintro⟨v,H,nx,e⟩;rw[W]at e;cases e) (by rw[B.2.1];exact .AM [] [] .nil)
 ·rename_i W;rw[As (Y2 ok r hi U y B.1)];have ag:=tp r U;obtain⟨V,hV,z⟩:=B.2.2 c r.Gj ag λq R ae=>(r.hc q R).1 (y q ae);rw[<-AhX aa]at z;obtain⟨u,h4,h5⟩:=rp r.rel (λx o hx _=>AeK ok r hi y hV hx) hX (t.oo i) z;exact FX (Adt z) (.inl h4) (hK ρ c _ w (iN ok r hi U y (by rw[W];simp) (by rw[W];simp) (by rintro⟨v,H,nx,e⟩;rw[W]at e;cases e) h5))
 ·rename_i o W;rw[As (Y2 ok r hi U y B.1)];have z:=B.2.2.1;rw[<-AhV aa]at z;obtain⟨u,w1,ai,cap,h4,h5,h6,h7⟩:=rm (P:=P) (w:=w) hX (r.VY i hi U) (t.oo i) z;exact FX (AcK z) (.inl h4) (hK _ c _ _ (ApY ok r hi U y W h5 h6 h7))
 ·rename_i W;rw[As (Y2 ok r hi U y B.1)];obtain⟨_,J,V,hV,z⟩:=B;rw[<-Aap aa]at z;have S:∀q,t.hv ops.size q->(q<c↔q<i):=λq R=>by
   rw[<-r.hc q R];rcases Nat.lt_trichotomy q i with h|h|h
   ·exact⟨λ_=>h,λ_=>y q (J q R h)⟩
   ·subst h;exact⟨λh=>absurd h U,λh=>absurd h (Nat.lt_irrefl _)⟩
   ·refine⟨λhl=>?_,λh'=>by omega⟩;have ad:=ok.kind q R.1;unfold B5.Le at ad;rw[R.2]at ad;exact absurd (r.down q i R.1 hl (ad.2.1 i ⟨hi,W⟩ h)) U
  obtain⟨hG,hn⟩:=Za ok (cO r.Gj) (Nat.le_of_lt hi) S;have af:t.sub ops.size s.nx V i c:=λx o hx=>by
   rcases hV x o hx with⟨j,h1,h2,h3,h4⟩|h
   ·exact .inl ⟨j,h1,h2,λq R ab=>h3 q R ((S q R).1 ab),h4⟩
   ·exact .inr (by rw[hG];exact h)
  have Y:=Abg ok r hi y af;rw[<-hn]at z;refine r8 Z Y hX (r.VY i hi U) (AH _) (by have:=r.nn;omega) z λu L w' hy hr hv=>?_;exact hK L (i+1) _ w' (ApX ok r hi U y W hy hr hv)
 ·rename_i W;obtain⟨⟨p,hp,ae,ah⟩,_⟩:=B;exact absurd ah (r.np p (y p ae))
 ·rename_i v H' nx' W;rw[As (Y2 ok r hi U y B.1)];obtain⟨_,_,J,V,hV,z⟩:=B;rw[<-Aap aa]at z;have S:∀q,t.hv ops.size q->(q<c↔q<i):=λq R=>by rw[<-r.hc q R];exact⟨λ_=>(J q R).1,λ_=>y q (J q R).2⟩
  obtain⟨hG,hn⟩:=Za ok (cO r.Gj) (Nat.le_of_lt hi) S;have af:t.sub ops.size s.nx V i c:=λx o hx=>by
   rcases hV x o hx with⟨j,h1,h2,h3,h4⟩|h
   ·exact .inl ⟨j,h1,h2,λq R ab=>h3 q R ((S q R).1 ab),h4⟩
   ·exact .inr (by rw[hG];exact h)
  have Y:=Abg ok r hi y af;rw[<-hn]at z;refine r8 Z Y hX (r.VY i hi U) (AH _) (by have:=r.nn;omega) z λu L w' hy hr hv=>?_;refine hP v H' nx' W u L w' ⟨Ak.le_trans r.le hy.le,λx hx=>?_,?_⟩ (Aqz r.rel.sf r.rel.fr r.rel.bs (λj aj o h1 h2 h3=>?_) hr) hv r hy.le
  ·have:=r.nn;rw[hy.lo x (by omega) (by omega)];exact r.lo x hx
  ·have:=r.nn;have:=hy.nn;omega
  ·obtain⟨ai,h4,_⟩:=r.rel.ob _ _ _ (Nf h1 h2) h3;rw[h4];simp
end
end Go.Ev
end
