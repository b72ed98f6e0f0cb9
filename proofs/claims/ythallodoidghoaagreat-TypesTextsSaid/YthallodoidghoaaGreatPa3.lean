/- Laid by program out of its parts: PaV, PaW. -/
import Derived.Test.YthallodoidghoaaGreatPa2
noncomputable section
set_option linter.unusedVariables false
set_option linter.unusedSimpArgs false
section
set_option maxRecDepth 100000
set_option maxHeartbeats 2000000
open Go Go.Ev
namespace Go.Proofs.YthallodoidghoaaGreat
def xB:Aj:=[108,111,111,112,101,114]
def wm:Aj:=[99,108,97,115,115]
def wv:Aj:=[101,118,101,110,116]
def iw:Aj:=[109,97,105,110]
def Kg:Aj:=[111,110]
def AqV:Aj:=[99,114,101,97,116,101]
def AqX:Aj:=[115,116,97,114,116]
def AqY:Aj:=[115,116,111,112]
def AqW:Aj:=[100,101,115,116,114,111,121]
def OD (L:Ad):PF:=λs=>(nd 4 (Bu L s 1).1.text 0 (Bu L s 1).1 [(Gg L (Bu L s 1).2).1],(Bm L (Gg L (Bu L s 1).2).2 JE).2)
def Kx (x:Aj):Int:=if x=AqV then 0 else if x=AqX then 1 else if x=AqY then 2 else if x=AqW then 3 else 0
def JU (B:Ad->PF) (L:Ad):PF:=λs=>(nd 9 [] (Kx (Bs L s Er).1.text) (Bs L s Er).1 [(B L (Bs L s Er).2).1],(B L (Bs L s Er).2).2)
def og (L:Ad) (t:TK) (x:Aj) (s:RS):PT×RS:=(nd 3 x 0 t (Eu OD L (EW L) [] (Bm L s Ep).2).1,(Bm L (Eu OD L (EW L) [] (Bm L s Ep).2).2 GU).2)
def sI (B:Ad->PF) (L:Ad) (t:TK) (x:Aj) (u:PT) (s:RS):PT×RS:=(nd 10 x (if(Bs L s FY).1.text=Kg then 1 else 0) t [u,(B L (Bs L s FY).2).1],(B L (Bs L s FY).2).2)
def oh (B:Ad->PF) (L:Ad) (t:TK) (x:Aj) (u:PT) (s:RS):PT×RS:=(nd 8 x 0 t (Eu (JU B) L (EW L) [u] (Bm L s Ep).2).1,(Bm L (Eu (JU B) L (EW L) [u] (Bm L s Ep).2).2 GU).2)
def Ua (B:Ad->PF) (L:Ad) (t:TK) (x:Aj) (s:RS):PT×RS:=
 if t.text=xB then(nd 2 x 0 t [],(Bm L s JE).2)
 else if t.text=V4 then(nd 6 x 0 t [(Gg L s).1],(Bm L (Gg L s).2 JE).2)
 else if t.text=Tf then(nd 7 x 0 t [(B L s).1],(B L s).2)
 else if t.text=wm then og L t x s
 else if t.text=wv then sI B L t x (HG L (Bm L s Kg).2).1 (HG L (Bm L s Kg).2).2
 else oh B L t x (HG L (Bm L s Kg).2).1 (HG L (Bm L s Kg).2).2
def M6 (B:Ad->PF) (L:Ad):PF:=λs=>
 if(Bs L s C2).1.text=iw then(nd 11 [] 0 (Bs L s C2).1 [(B L (Bs L s C2).2).1],(B L (Bs L s C2).2).2)
 else Ua B L (Bs L s C2).1 (Bu L (Bs L s C2).2 1).1.text (Bu L (Bs L s C2).2 1).2
def eC (B:Ad->PF) (L:Ad) (s:RS):RS:=(Bm L (HG L (Bm L s Kg).2).2 Ep).2
def dS (L:Ad) (s:RS):RS:=(Bu L (Bs L s C2).2 1).2
def AfJ (o:Option Al) (x:Int):Prop:=match o with
 |some [_,.bs t,_,_,_]=>x=Kx t
 |_=>False
def zA (n:Nat) (B:Ad->PF) (h:E8 74 n B) (L:Ad) (s:RS):Ctx:={P:=Tryz.prog,tb:=[],ht:=UB 74 n B,AA:=Xo h,lp:=λf r=>cond (Nat.beq f 58) (cond (Nat.beq r 18) (some (wQ L (λx=>Kj L (Eu OD L) (Eu OD L (EW L) [] (Bm L (dS L s) Ep).2) 0 4 (Bm L (dS L s) Ep).2 x) [0,3,4] 6)) (cond (Nat.beq r 33) (some (wQ L (λx=>Kj L (Eu (JU B) L) (Eu (JU B) L (EW L) [(HG L (Bm L (dS L s) Kg).2).1] (eC B L (dS L s))) 2 6 (Bm L (dS L s) Kg).2 x) [0,3,4] 9)) none)) none,cut:=λf r=>cond (Nat.beq f 58) (cond (Nat.beq r 36) (some (thin Int [0,3,4,9,11] (λx=>[(12,.int .i64 x)]) (λs x=>AfJ (EV s.H (Ads (s.T.get 11)) 0 5) x) λ_=>0)) none) none,pl:=λ_ r s=>cond (Nat.beq r 33) (Xq (s.T.get 9)) false}
theorem Acl {n:Nat}:GF n 3 4 OD:=by
 intro L s r;have AA:=r.ok;have f:=Jh (k:=1) AA (by decide);unfold OD;generalize(Bu L s 1)=q at f⊢;have Z:=f.am;have Y:=f.ax;have W:=f.eo;have V:=f.er;have U:=f.ns;have g:=YX (L:=L) (s:=q.2) f.ok;generalize Gg L q.2=y at g⊢;have S:=g.am;have R:=g.ss;have K:=g.so;have J:=g.er;have B:=g.ns;have x:=J9 y.1;have e:=GP (w:=JE) g.ok;generalize(Bm L y.2 JE).2=u at e⊢;have e1:=e.am;have e2:=e.ax;have e3:=e.eo;have e4:=e.er;have e5:=e.ns;refine⟨e.ok,by show u.nest=_;omega,by show _<=u.at_;omega,λz=>⟨by show u.err≠0;omega,by show u.at_=_;omega,?_⟩,?_,λz=>?_⟩
 ·show((sz _:Nat):Int)<=3;rw[Hk];omega
 ·show((sz _:Nat):Int)<=3*(u.at_-s.at_)+4;rw[Hk];omega
 ·have z:u.err=0:=z;show((sz _:Nat):Int)<=3*(u.at_-s.at_);rw[Hk];omega
theorem tR {n:Nat} {B:Ad->PF} (x:GF n 1 2 B):GF n 3 4 (JU B):=by
 intro L s r;have AA:=r.ok;have J:=r.ns;have K:=r.lf;have f:=R3 (ws:=Er) AA;unfold JU;generalize(Bs L s Er)=q at f⊢;have f1:=f.am;have f2:=f.ax;have f3:=f.eo;have f4:=f.er;have Z:=f.ns;have g:=x L q.2 ⟨f.ok,by omega,by omega⟩;generalize B L q.2=y at g⊢;have Y:=g.am;have W:=g.ss;have V:=g.so;have U:=g.er;have S:=g.ns;have R:=J9 y.1;refine⟨g.ok,by show y.2.nest=_;omega,by show _<=y.2.at_;omega,λz=>⟨by show y.2.err≠0;omega,by show y.2.at_=_;omega,?_⟩,?_,λz=>?_⟩
 ·show((sz _:Nat):Int)<=3;rw[Hk];omega
 ·show((sz _:Nat):Int)<=3*(y.2.at_-s.at_)+4;rw[Hk];omega
 ·have z:y.2.err=0:=z;show((sz _:Nat):Int)<=3*(y.2.at_-s.at_);rw[Hk];omega
theorem K4.le {L:Ad} {E C:Int} {s:RS} {r:Bg×RS} (h:K4 L E C s r):(DH r.1:Int)<=3*(r.2.at_-s.at_)+C:=h.ss
theorem Ab6 {L:Ad} {q:RS} (h:AJ L q):K4 L 2 6 q ([(HG L q).1],(Bm L (HG L q).2 Ep).2):=by
 have g:=iZ (L:=L) (s:=q) h;generalize HG L q=u at g⊢;have K:=g.am;have J:=g.ss;have B:=g.so;have y:=g.er;have x:=g.ns;have r:=J9 u.1;have e:=GP (w:=Ep) g.ok;generalize(Bm L u.2 Ep).2=v at e⊢;have W:=e.am;have V:=e.ax;have U:=e.eo;have S:=e.er;have R:=e.ns;have hz:DH [u.1]=sz u.1:=by rw[Hj,I3];rfl
 refine⟨e.ok,by show v.nest=_;omega,by show _<=v.at_;omega,λz=>⟨by show v.err≠0;omega,by show v.at_=_;omega,?_⟩,?_,λz=>?_⟩
 ·show((DH [u.1]:Nat):Int)<=2;rw[hz];omega
 ·show((DH [u.1]:Nat):Int)<=3*(v.at_-q.at_)+6;rw[hz];omega
 ·have z:v.err=0:=z;show((DH [u.1]:Nat):Int)<=3*(v.at_-q.at_);rw[hz];omega
theorem Aey {L:Ad} {E C:Int} {s q:RS} {r:Bg×RS} {k n:Int} {x:Aj} {t:TK} (h:K4 L E C q r) (K:C<=6) (J:E<=2) (hn:q.nest=s.nest) (B:s.at_<=q.at_) (R:q.err=0->s.at_+2<=q.at_) (y:s.err≠0->q.err≠0/\q.at_=s.at_):Cs L 3 4 s (nd k x n t r.1,(Bm L r.2 GU).2):=by
 have Y:=h.am;have W:=h.ss;have V:=h.so;have U:=h.er;have S:=h.ns;have e:=GP (w:=GU) h.ok;generalize(Bm L r.2 GU).2=v at e⊢;have e1:=e.am;have e2:=e.ax;have e3:=e.eo;have e4:=e.er;have Z:=e.ns;refine⟨e.ok,by show v.nest=_;omega,by show _<=v.at_;omega,λz=>⟨by show v.err≠0;omega,by show v.at_=_;omega,?_⟩,?_,λz=>?_⟩
 ·show((sz _:Nat):Int)<=3;rw[N8];omega
 ·show((sz _:Nat):Int)<=3*(v.at_-s.at_)+4;rw[N8];omega
 ·have z:v.err=0:=z;show((sz _:Nat):Int)<=3*(v.at_-s.at_);rw[N8];omega
theorem Alr {L:Ad} {s:RS} {ws:List Aj} {w:Aj} (r:w≠[]) (h:(Bs L s ws).1.text=w):(Bs L s ws).2=A7 s/\s.err=0/\s.at_<L.length:=by
 unfold Bs H6 at h⊢;split at h
 ·rename_i e;rw[As e];obtain⟨v,_,hv⟩:=List.any_eq_true.1 e;exact⟨rfl,JR hv,Cg hv⟩
 ·exact absurd h (λe=>r e.symm)
theorem Ahf {n:Nat} {B:Ad->PF} (U:GF n 1 2 B):GF n 3 4 (M6 B):=by
 intro L s S;have AA:=S.ok;have aa:=S.ns;have ab:=S.lf;have f:=R3 (ws:=C2) AA;have tx:∀w,w≠[]->(Bs L s C2).1.text=w->s.err=0/\(Bs L s C2).2.at_=s.at_+1:=λw hw h=>by obtain⟨W,V,_⟩:=Alr hw h;exact⟨V,by rw[W];rfl⟩
 unfold M6;generalize(Bs L s C2)=o at f tx⊢;have f1:=f.am;have f2:=f.ax;have f3:=f.eo;have f4:=f.er;have f5:=f.ns;have J:∀(k:Int) (x:Aj) (q:RS),AJ L q->q.nest=s.nest->s.at_+1<=q.at_->s.err=0->Cs L 3 4 s (nd k x 0 o.1 [(B L q).1],(B L q).2):=λk x q hq W V h3=>by
  have d:=U L q ⟨hq,by omega,by omega⟩;generalize B L q=r at d⊢;have R:=d.am;have Z:=d.ss;have Y:=d.so;have K:=d.ns;refine⟨d.ok,by show r.2.nest=_;omega,by show _<=r.2.at_;omega,λz=>absurd h3 z,?_,λz=>?_⟩
  ·show((sz _:Nat):Int)<=3*(r.2.at_-s.at_)+4;rw[Hk];omega
  ·have z:r.2.err=0:=z;show((sz _:Nat):Int)<=3*(r.2.at_-s.at_);rw[Hk];omega
 refine GG (P:=Cs L 3 4 s) (λe=>?_) λ_=>?_
 ·have:=tx _ (by decide) e;exact J 11 [] o.2 f.ok f5 (by omega) this.1
 have k:=Jh (k:=1) f.ok (by decide);generalize(Bu L o.2 1)=q at k⊢;have k1:=k.am;have k2:=k.ax;have k3:=k.eo;have k4:=k.er;have k5:=k.ns;unfold Ua;refine GG (P:=Cs L 3 4 s) (λe=>?_) λ_=>GG (P:=Cs L 3 4 s) (λe=>?_) λ_=>GG (P:=Cs L 3 4 s) (λe=>?_) λ_=>GG (P:=Cs L 3 4 s) (λe=>?_) λ_=>?_
 ·have:=tx _ (by decide) e;have d:=GP (w:=JE) k.ok;generalize(Bm L q.2 JE).2=v at d⊢;have R:=d.am;have K:=d.ns;refine⟨d.ok,by show v.nest=_;omega,by show _<=v.at_;omega,λz=>absurd this.1 z,?_,λz=>?_⟩
  ·show((sz _:Nat):Int)<=3*(v.at_-s.at_)+4;rw[J8];omega
  ·show((sz _:Nat):Int)<=3*(v.at_-s.at_);rw[J8];omega
 ·have:=tx _ (by decide) e;have g:=YX (L:=L) (s:=q.2) k.ok;generalize Gg L q.2=y at g⊢;have g1:=g.am;have g2:=g.ss;have g3:=g.so;have g5:=g.ns;have d:=GP (w:=JE) g.ok;generalize(Bm L y.2 JE).2=v at d⊢;have R:=d.am;have K:=d.ns;refine⟨d.ok,by show v.nest=_;omega,by show _<=v.at_;omega,λz=>absurd this.1 z,?_,λz=>?_⟩
  ·show((sz _:Nat):Int)<=3*(v.at_-s.at_)+4;rw[Hk];omega
  ·show((sz _:Nat):Int)<=3*(v.at_-s.at_);rw[Hk];omega
 ·have:=tx _ (by decide) e;exact J 7 _ q.2 k.ok (by omega) (by omega) this.1
 ·have d:=GP (w:=Ep) k.ok;unfold og;generalize(Bm L q.2 Ep).2=v at d⊢;have R:=d.am;have Z:=d.ax;have Y:=d.eo;have d4:=d.er;have K:=d.ns;have pl:=bT (E:=0) (C:=4) (by decide) (Acl (n:=n)) (L:=L) (s0:=v) (λz=>⟨d.ok,by omega,by omega⟩) (EW L) [] v (XN d.ok (by decide));exact Aey pl (by decide) (by decide) (by omega) (by omega) (λz=>by omega) λz=>⟨by omega,by omega⟩
 have d:=GP (w:=Kg) k.ok;generalize(Bm L q.2 Kg).2=v at d⊢;have R:=d.am;have Z:=d.ax;have Y:=d.eo;have d4:=d.er;have K:=d.ns;have u:=iZ (L:=L) (s:=v) d.ok;have lb:=Ab6 (L:=L) (q:=v) d.ok;refine GG (P:=Cs L 3 4 s) (λe=>?_) λ_=>?_
 ·have ee:=tx _ (by decide) e;generalize HG L v=y at u⊢;have u1:=u.am;have u2:=u.ss;have u3:=u.so;have u4:=u.er;have u5:=u.ns;unfold sI;have w:=R3 (ws:=FY) u.ok;generalize(Bs L y.2 FY)=c at w⊢;have w1:=w.am;have w2:=w.ax;have w3:=w.eo;have w4:=w.er;have w5:=w.ns;have b:=U L c.2 ⟨w.ok,by omega,by omega⟩;generalize B L c.2=r at b⊢;have b1:=b.am;have b2:=b.ss;have b3:=b.so;have b5:=b.ns;refine⟨b.ok,by show r.2.nest=_;omega,by show _<=r.2.at_;omega,λz=>absurd ee.1 z,?_,λz=>?_⟩
  ·show((sz _:Nat):Int)<=3*(r.2.at_-s.at_)+4;rw[JC];omega
  ·have z:r.2.err=0:=z;show((sz _:Nat):Int)<=3*(r.2.at_-s.at_);rw[JC];omega
 ·unfold oh;have pl:=bT (E:=2) (C:=6) (by decide) (tR U) (L:=L) (s0:=v) (λz=>⟨d.ok,by omega,by omega⟩) (EW L) _ _ lb;exact Aey pl (by decide) (by decide) (by omega) (by omega) (λz=>by omega) λz=>⟨by omega,by omega⟩
theorem Ajd (x:Aj):(bif decide (x=[99,114,101,97,116,101])then 0 else bif decide (x=[115,116,97,114,116])then 1 else bif decide (x=[115,116,111,112])then 2 else bif decide (x=[100,101,115,116,114,111,121])then(3:Int)else 0)=Kx x:=by unfold Kx;simp only[Bool.cond_decide];rfl
theorem Ab7 {n:Nat} {B:Ad->PF} (S:GF n 1 2 B) {L:Ad} {s:RS} (z:A9 L n s) {b:Bool} {r:Int->TK×RS->PT×RS->Prop} (R:∀(c:TK×RS) (y:PT×RS),c=Bs L s Er->y=B L c.2->Be 9 [] (Kx c.1.text) c.1 (Ca 1 λi=>[vW (flat y.1)].getD i .AW)=flat (JU B L s).1->r (Kx c.1.text) c y) (hb:b=true:=by rfl): ((∃M,vK L=vK M/\AJ M s/\Ri [[99,114,101,97,116,101],[115,116,97,114,116],[115,116,111,112],[100,101,115,116,114,111,121]])/\4=([[99,114,101,97,116,101],[115,116,97,114,116],[115,116,111,112],[100,101,115,116,114,111,121]]:List Aj).length/\4=([[99,114,101,97,116,101],[115,116,97,114,116],[115,116,111,112],[100,101,115,116,114,111,121]]:List Aj).length)/\ ∀c:TK×RS,c=Bs L s [[99,114,101,97,116,101],[115,116,97,114,116],[115,116,111,112],[100,101,115,116,114,111,121]]->(∃x,x=Kx c.1.text/\(bif decide (c.1.text=[99,114,101,97,116,101])then 0 else bif decide (c.1.text=[115,116,97,114,116])then 1 else bif decide (c.1.text=[115,116,111,112])then 2 else bif decide (c.1.text=[100,101,115,116,114,111,121])then(3:Int)else 0)=x)/\ ∀x:Int,x=Kx c.1.text->(∃M,vK L=vK M/\A9 M n c.2)/\∀y:PT×RS,y=B L c.2->(b=true/\BW 1 λi=>[vW (flat y.1)].getD i .AW)/\r x c y:=by have AA:=z.ok;have U:=z.ns;have V:=z.lf;refine⟨⟨A4 ⟨AA,⟨.inr (.inr (.inr rfl))⟩⟩,rfl,rfl⟩,λc hc=>⟨⟨_,rfl,Ajd _⟩,λx K=>?_⟩⟩;have hc:c=Bs L s Er:=hc;have f:=R3 (ws:=Er) AA;rw[<-hc]at f;have Y:=f.am;have W:=f.ns;have J:A9 L n c.2:=⟨f.ok,by omega,by omega⟩;refine⟨A4 J,λy hy=>?_⟩;have g:=S L c.2 J;rw[<-hy]at g;have Z:=g.EI f.ok (by decide);have w:=w9 (k:=9) (n:=Kx c.1.text) (x:=[]) (tk:=c.1) (y:=y.1) (g:=λi=>[vW (flat y.1)].getD i .AW) (by omega) rfl;subst K;exact⟨⟨hb,w.1⟩,R c y hc hy (by rw[w.2,hy,hc];rfl)⟩
@[reducible] def kB:TK×RS->Prop:=λ(a:TK×RS)=>(qV a.1/\True)/\True
@[reducible] def kC:TK×RS->Prop:=λ(a:TK×RS)=>kB a/\True
@[reducible] def Wo:TK×RS->Prop:=λ(a:TK×RS)=>Aa/\Aa/\Aa/\Aa/\(U1 a.1)/\Aa/\Ae (TK.Av a.1)
@[reducible] def Zw:TK×RS->Prop:=λ(a:TK×RS)=>DE/\DE/\kC a
@[reducible] def Zx:TK×RS->Prop:=λ(a:TK×RS)=>(Aa/\True)/\Wo a/\True
@[reducible] def kN:TK×RS->Prop:=λ(a:TK×RS)=>DE/\Zw a
def fV (a:Ad) (b:RS):=(((D5 a/\Aa/\Ae (RS.at_ b))/\Aa/\Ae (RS.nest b))/\Aa/\Ae (RS.err b))
@[reducible] def kO:Ad->PT×RS->Prop:=λ(L:Ad) (a:PT×RS)=>Aa/\Aa/\Aa/\(fV L a.2)/\Aa/\Hc a.2
@[reducible] def Zy:Ad->TK×RS->Prop:=λ(L:Ad) (a:TK×RS)=>Aa/\Aa/\Aa/\(fV L a.2)/\Aa/\Hc a.2
@[reducible] def kP:Ad->PT×RS->Prop:=λ(L:Ad) (a:PT×RS)=>kO L a/\True
@[reducible] def xQ:Ad->TK×RS->Prop:=λ(L:Ad) (a:TK×RS)=>Zy L a/\True
@[reducible] def kD:Ad->TK×RS->Prop:=λ(L:Ad) (a:TK×RS)=>Aa/\Zy L a
@[reducible] def kE:TK×RS->Prop:=λ(a:TK×RS)=>DE/\DE/\kB a/\kC a
@[reducible] def kF:Ad->Bg×RS->Prop:=λ(L:Ad) (a:Bg×RS)=>Aa/\Aa/\Aa/\(fV L a.2)/\Aa/\Hc a.2
@[reducible] def kG:Ad->Bg×RS->Prop:=λ(L:Ad) (a:Bg×RS)=>kF L a/\True
def Qv (a:Ad):=xQ a
@[reducible] def kH:Ad->TK×RS->Prop:=λ(L:Ad) (a:TK×RS)=>Aa/\Aa/\(qR/\True)/\Qv L a
@[reducible] def Zu:Ad->TK×RS->Prop:=λ(L:Ad) (a:TK×RS)=>(D6 L a.2)/\kH L a
@[reducible] def xR:Nat->Ad->TK×RS->Prop:=λ(n:Nat) (L:Ad) (a:TK×RS)=>(Qo L n a.2)/\kH L a
@[reducible] def kI:Ad->PT×RS->Prop:=λ(L:Ad) (a:PT×RS)=>(ON L a.2)/\Aa/\Aa/\Mr/\kP L a
@[reducible] def Zv:Ad->TK×RS->Prop:=λ(L:Ad) (a:TK×RS)=>(XZ L a.2)/\Aa/\Aa/\X7/\Qv L a
@[reducible] def xS:Ad->Bg×RS->Prop:=λ(L:Ad) (a:Bg×RS)=>(XZ L a.2)/\Aa/\Aa/\X7/\kG L a
@[reducible] def kJ:Ad->TK×RS->TK×RS->Bg×RS->Prop:=λ(L:Ad) (a x:TK×RS) (r:Bg×RS)=>(Mp L x.2 r.2)/\Zx a
@[reducible] def kK:Ad->TK×RS->PT×RS->Bg×RS->Prop:=λ(L:Ad) (a:TK×RS) (x:PT×RS) (r:Bg×RS)=>(Mp L x.2 r.2)/\(Aa/\True)/\Wo a/\(Aa/\True)/\(Aa/\True)/\(Aa/\True)/\(Aa/\True)/\(Aa/\True)/\(Aa/\True)/\True
@[reducible] def kM:TK×RS->Int->Prop:=λ(a:TK×RS) (r:Int)=>Aa/\(bif decide (TK.text a.1=[(99:UInt8),114,101,97,116,101])then(0:Int)else bif decide (TK.text a.1=[(115:UInt8),116,97,114,116])then(1:Int)else bif decide (TK.text a.1=[(115:UInt8),116,111,112])then(2:Int)else bif decide (TK.text a.1=[(100:UInt8),101,115,116,114,111,121])then(3:Int)else(0:Int))=r
def qU:=[[(99:UInt8),114,101,97,116,101],[(115:UInt8),116,97,114,116],[(115:UInt8),116,111,112],[(100:UInt8),101,115,116,114,111,121]]
def q8:=[[(108:UInt8),111,111,112,101,114],[(99:UInt8),108,97,115,115],[(118:UInt8),97,114],[(102:UInt8),110],[(99:UInt8),111,109,112],[(101:UInt8),118,101,110,116],[(109:UInt8),97,105,110]]
def fO (a:Ad) (b:Ad->PF) (c:RS):=Kj a (Eu (JU b) a) (Eu (JU b) a (EW a) [nd (29:Int) (TK.text (Prod.fst (Bu a (Prod.snd (Bm a (dS a c) [(111:UInt8),110])) (1:Int)))) (0:Int) (Prod.fst (Bu a (Prod.snd (Bm a (dS a c) [(111:UInt8),110])) (1:Int))) []] (eC b a (dS a c))) (2:Int) (6:Int) (Prod.snd (Bm a (dS a c) [(111:UInt8),110]))
def fK (a:Ad) (b:RS):=Kj a (Eu OD a) (Eu OD a (EW a) [] (Prod.snd (Bm a (dS a b) [(123:UInt8)]))) (0:Int) (4:Int) (Prod.snd (Bm a (dS a b) [(123:UInt8)]))
def OP (a:Int) (b:TK) (c:PT) (d:Nat):=List.getD (Be (9:Int) [] a b (qX c)) d LT.none
def Qa (a:Bg):=wS (Bz a)
def Qh (a:Bg) (b:Nat):=List.getD (Qa a 1) b LT.none
def Qi (a:Bg) (b:Nat):=List.getD (Qa a 0) b LT.none
def OQ (a:Bg) (b:Nat) (c:Nat):=List.getD (Qa a b) c LT.none
def Ss:=(Ae (some 3)/\Aa)
def X3 (a:TK):=Be (8:Int) (Eb a) (0:Int)
def Sk (a:Nat):=xR a
def Sh (a:Ad):=xS a
theorem AmM:∀(n:Nat) (B:Ad->PF),E8 (74:FuncId) n B->∀(L:Ad) (s:RS) (t:PT×RS),A9 L n s->(Gw n B)->t=M6 B L s->((∃(V:Ad),vK L=vK V/\AJ V s/\Ri q8)/\Aa/\Aa/\(qR/\(Ae (some 1)/\0=0/\7=List.length q8/\7=List.length q8)/\True)/\(qP L s)/\(Aa/\Aa/\Aa/\fJ/\Ae Qb)/\True)/\∀(y:TK×RS),y=Bs (kL (vK L)) s q8->Ag (decide (TK.text y.1=[(109:UInt8),97,105,110])) (Sk n L y/\∀(K:PT×RS),K=DF B L y.2->(Sb K.1)/\Zw y/\BX L (vW (Be (11:Int) [] (0:Int) y.1 (qX K.1))) K.2 t) (((XX L y.2)/\Aa/\Aa/\KF/\Qv L y)/\∀(K:TK×RS),K=Bu (kL (vK L)) y.2 (1:Int)->Ag (decide (TK.text y.1=[(108:UInt8),111,111,112,101,114])) (((ON L K.2)/\Aa/\Aa/\Mr/\Qv L K)/\∀(S:TK×RS),S=IJ L K.2->BX L (vW (Be (2:Int) (Eb K.1) (0:Int) y.1 [])) S.2 t) (fx y.1 (Zu L K/\∀(S:PT×RS),S=Gg (kL (vK L)) K.2->kI L S/\∀(r:TK×RS),r=IJ L S.2->(Nat.blt 8 10=true/\Aa/\BW 1 λ(i:Nat)=>Ga S.1 i)/\BX L (vW (Be (6:Int) (Eb K.1) (0:Int) y.1 (qX S.1))) r.2 t) (Ag (decide (TK.text y.1=[(102:UInt8),110])) (Sk n L K/\∀(S:PT×RS),S=DF B L K.2->(Nat.blt 10 13=true/\Aa/\BW 1 λ(i:Nat)=>Ga S.1 i)/\Zw y/\BX L (vW (Be (7:Int) (Eb K.1) (0:Int) y.1 (qX S.1))) S.2 t) (Ag (decide (TK.text y.1=[(99:UInt8),108,97,115,115])) (((∃(V:Ad),vK L=vK V/\AJ V K.2/\X2)/\Aa/\Aa/\X1/\Qv L K)/\∀(S:TK×RS),S=GJ L K.2 [(123:UInt8)]->(∃(Z:Bg×RS),fK L s Z/\Aa/\(Z.1.length=0/\qR/\Ss/\Ae (Eb K.1)/\True)/\(Aa/\True)/\kJ L y S Z)/\∀(x:Bg×RS),fK L s x->KE x.2 (Sh L x/\U8 L x.2 (((XX L x.2)/\Aa/\Aa/\KF/\kG L x)/\∀(r:TK×RS),r=Bu (kL (vK L)) x.2 (1:Int)->Zu L r/\∀(R:PT×RS),R=Gg (kL (vK L)) r.2->kI L R/\∀(J:TK×RS),J=IJ L R.2->(Nat.blt 14 16=true/\Aa/\BW 1 λ(i:Nat)=>Ga R.1 i)/\R8 x x.1 (∃(x':Bg×RS),fK L s x'/\J3 L x'.2 x.2/\Aa/\((Ae (some 17)/\x.1.length+1=x'.1.length/\Aa)/\qR/\Ss/\Ae (Eb K.1)/\True)/\(Aa/\Aa/\Aa/\Aa/\(Mw x)*1=NA x'.1/\Ar λ(i:Nat)=>Gs i ((Mw x)*1)->AZ [(3,3),(7,17),(0,0)] (Hz x'.1 i) (BA x.1.length (Hz x.1) (λ(x:Nat)=>[vW (Be (4:Int) (Eb r.1) (0:Int) r.1 (qX R.1))]) i))/\kJ L y J x')) (Sh L x/\∀(r:TK×RS),r=NB L x.2->(Nat.blt 7 11=true/\(Nt x x.1)/\BW x.1.length λ(i:Nat)=>F7 (Hz x.1 i))/\BX L (vW (Be (3:Int) (Eb K.1) (0:Int) y.1 (Qj x x.1))) r.2 t)) (Sh L x/\∀(r:TK×RS),r=NB L x.2->(Nat.blt 7 10=true/\(Nt x x.1)/\BW x.1.length λ(i:Nat)=>F7 (Hz x.1 i))/\BX L (vW (Be (3:Int) (Eb K.1) (0:Int) y.1 (Qj x x.1))) r.2 t)) (((∃(V:Ad),vK L=vK V/\AJ V K.2/\Nat.le 1 (List.length Jm))/\Aa/\Aa/\(qR/\Ae Jm/\True)/\Qv L K)/\∀(S:TK×RS),S=GJ L K.2 Jm->Zu L S/\∀(r:PT×RS),r=HG (kL (vK L)) S.2->Ag (decide (TK.text y.1=[(101:UInt8),118,101,110,116])) (((∃(V:Ad),vK L=vK V/\AJ V r.2/\Ri [Jm,Li])/\Aa/\Aa/\(qR/\(Ae (some 9)/\0=0/\2=List.length [Jm,Li]/\2=List.length [Jm,Li])/\True)/\kO L r/\(Aa/\Aa/\Aa/\(True/\Ae Jm)/\Ae Li)/\True)/\∀(R:TK×RS),R=Bs (kL (vK L)) r.2 [Jm,Li]->Ag (decide (TK.text R.1=[(111:UInt8),110])) (Sk n L R/\∀(J:PT×RS),J=DF B L R.2->(Nat.blt 18 21=true/\Aa/\BW 2 λ(i:Nat)=>Gx r.1 J.1 i)/\kE y/\BX L (vW (Be (10:Int) (Eb K.1) (1:Int) y.1 (qO r.1 J.1))) J.2 t) (Sk n L R/\∀(J:PT×RS),J=DF B L R.2->(Nat.blt 18 21=true/\Aa/\BW 2 λ(i:Nat)=>Gx r.1 J.1 i)/\kE y/\BX L (vW (Be (10:Int) (Eb K.1) (0:Int) y.1 (qO r.1 J.1))) J.2 t)) (((∃(V:Ad),vK L=vK V/\AJ V r.2/\X2)/\Aa/\Aa/\X1/\kP L r)/\∀(R:TK×RS),R=GJ L r.2 [(123:UInt8)]->KE R.2 (Zv L R/\U8 L R.2 (((∃(V:Ad),vK L=vK V/\AJ V R.2/\Ri qU)/\Aa/\Aa/\(qR/\(Ae (some 11)/\0=0/\4=List.length qU/\4=List.length qU)/\True)/\Zy L R/\(Aa/\Aa/\Aa/\XT/\Ae OK)/\True)/\∀(J:TK×RS),J=Bs (kL (vK L)) R.2 qU->(∃(x:Int),x=Kx (Eb J.1)/\Aa/\(kM J x/\qR/\Ss/\Ae (Eb K.1)/\(Ae (some 8)/\0=0/\1=1/\1=1)/\(Ae (some 13)/\Aa)/\True)/\kD L J/\(Aa/\True)/\Wo y/\(Aa/\Aa/\Aa/\Aa/\True/\Aa/\Ae (Lk r.1)/\Ar λ(i:Nat)=>BQ i (Lk r.1)->(Aa/\Ae (LT.kind (qT r.1 i)))/\Ae (LT.text (qT r.1 i))/\(Aa/\Ae (LT.n (qT r.1 i)))/\(Aa/\Ae (LT.line (qT r.1 i)))/\(Aa/\Ae (LT.Av (qT r.1 i)))/\(Aa/\Ae (Qq r.1 i)/\Ar λ(U:Nat)=>BQ U (Qq r.1 i)->(Aa/\Ae (U6 r.1 i U))/\True)/\True)/\Zx J)/\∀(x:Int),x=Kx (Eb J.1)->Sk n L J/\∀(Y:PT×RS),Y=DF B L J.2->(Nat.blt 20 25=true/\Aa/\BW 1 λ(i:Nat)=>Ga Y.1 i)/\kN J/\(∃(Z:Bg×RS),fO L B s Z/\Aa/\((Ae (some 23)/\Aa/\2=Z.1.length/\Aa)/\qR/\Ss/\Ae (Eb K.1)/\True)/\(Aa/\Aa/\Aa/\2=NA Z.1/\(True/\Aa/\Lk r.1=List.length (Qa Z.1 0)/\Ar λ(i:Nat)=>BQ i (Lk r.1)->(Aa/\LT.kind (qT r.1 i)=LT.kind (Qi Z.1 i))/\LT.text (qT r.1 i)=LT.text (Qi Z.1 i)/\(Aa/\LT.n (qT r.1 i)=LT.n (Qi Z.1 i))/\(Aa/\LT.line (qT r.1 i)=LT.line (Qi Z.1 i))/\(Aa/\LT.Av (qT r.1 i)=LT.Av (Qi Z.1 i))/\(Aa/\Qq r.1 i=List.length (LT.kids (Qi Z.1 i))/\Ar λ(U:Nat)=>BQ U (Qq r.1 i)->(Aa/\U6 r.1 i U=List.getD (LT.kids (Qi Z.1 i)) U (0:Int))/\True)/\True)/\Aa/\List.length (Be (9:Int) [] x J.1 (qX Y.1))=List.length (Qa Z.1 1)/\Ar λ(i:Nat)=>BQ i (List.length (Be (9:Int) [] x J.1 (qX Y.1)))->(Aa/\LT.kind (OP x J.1 Y.1 i)=LT.kind (Qh Z.1 i))/\LT.text (OP x J.1 Y.1 i)=LT.text (Qh Z.1 i)/\(Aa/\LT.n (OP x J.1 Y.1 i)=LT.n (Qh Z.1 i))/\(Aa/\LT.line (OP x J.1 Y.1 i)=LT.line (Qh Z.1 i))/\(Aa/\LT.Av (OP x J.1 Y.1 i)=LT.Av (Qh Z.1 i))/\(Aa/\List.length (LT.kids (OP x J.1 Y.1 i))=List.length (LT.kids (Qh Z.1 i))/\Ar λ(U:Nat)=>BQ U (List.length (LT.kids (OP x J.1 Y.1 i)))->(Aa/\List.getD (LT.kids (OP x J.1 Y.1 i)) U (0:Int)=List.getD (LT.kids (Qh Z.1 i)) U (0:Int))/\True)/\True)/\kK L y Y Z)/\∀(x:Bg×RS),fO L B s x->KE x.2 (Sh L x/\U8 L x.2 (((∃(V:Ad),vK L=vK V/\AJ V x.2/\Ri qU)/\Aa/\Aa/\(qR/\(Ae (some 27)/\0=0/\4=List.length qU/\4=List.length qU)/\True)/\kF L x/\(Aa/\Aa/\Aa/\XT/\Ae OK)/\True)/\∀(W:TK×RS),W=Bs (kL (vK L)) x.2 qU->(∃(aa:Int),aa=Kx (Eb W.1)/\Aa/\(kM W aa/\qR/\Ss/\Ae (Eb K.1)/\(Ae (some 25)/\Ae x.1.length/\Aa)/\(Ae (some 29)/\Aa)/\True)/\kD L W/\(Aa/\True)/\Wo y/\(Aa/\True)/\(Aa/\True)/\(Aa/\True)/\(Aa/\True)/\(Aa/\True)/\(Aa/\True)/\(Aa/\Aa/\Aa/\Aa/\Ae (NA x.1)/\Ar λ(i:Nat)=>Gs i (NA x.1)->(Aa/\Ae (List.length (Qa x.1 i))/\Ar λ(U:Nat)=>BQ U (List.length (Qa x.1 i))->(Aa/\Ae (LT.kind (OQ x.1 i U)))/\Ae (LT.text (OQ x.1 i U))/\(Aa/\Ae (LT.n (OQ x.1 i U)))/\(Aa/\Ae (LT.line (OQ x.1 i U)))/\(Aa/\Ae (LT.Av (OQ x.1 i U)))/\(Aa/\Ae (List.length (LT.kids (OQ x.1 i U)))/\Ar λ(ae:Nat)=>BQ ae (List.length (LT.kids (OQ x.1 i U)))->(Aa/\Ae (List.getD (LT.kids (OQ x.1 i U)) ae (0:Int)))/\True)/\True)/\True)/\Zx W)/\∀(aa:Int),aa=Kx (Eb W.1)->Sk n L W/\∀(ad:PT×RS),ad=DF B L W.2->(Nat.blt 36 41=true/\Aa/\BW 1 λ(i:Nat)=>Ga ad.1 i)/\R8 x x.1 (kN W/\∃(x':Bg×RS),fO L B s x'/\J3 L x'.2 x.2/\Aa/\((Ae (some 39)/\x.1.length+1=x'.1.length/\Aa)/\qR/\Ss/\Ae (Eb K.1)/\True)/\(Aa/\Aa/\Aa/\Aa/\(Mw x)*1=NA x'.1/\Ar λ(i:Nat)=>Gs i ((Mw x)*1)->AZ [(3,3),(25,39),(0,0)] (Hz x'.1 i) (BA x.1.length (Hz x.1) (λ(x:Nat)=>[vW (Be (9:Int) [] aa W.1 (qX ad.1))]) i))/\kK L y ad x')) (Sh L x/\∀(W:TK×RS),W=NB L x.2->(Nat.blt 25 29=true/\(Nt x x.1)/\BW x.1.length λ(i:Nat)=>F7 (Hz x.1 i))/\BX L (vW (X3 K.1 y.1 (Qj x x.1))) W.2 t)) (Sh L x/\∀(W:TK×RS),W=NB L x.2->(Nat.blt 25 28=true/\(Nt x x.1)/\BW x.1.length λ(i:Nat)=>F7 (Hz x.1 i))/\BX L (vW (X3 K.1 y.1 (Qj x x.1))) W.2 t)) (Zv L R/\∀(J:TK×RS),J=NB L R.2->(Nat.blt 8 13=true/\Aa/\BW 1 λ(i:Nat)=>Ga r.1 i)/\BX L (vW (X3 K.1 y.1 (qX r.1))) J.2 t)) (Zv L R/\∀(J:TK×RS),J=NB L R.2->(Nat.blt 8 12=true/\Aa/\BW 1 λ(i:Nat)=>Ga r.1 i)/\BX L (vW (X3 K.1 y.1 (qX r.1))) J.2 t)))))))
:=by
 delta qO qP qR qT qU qX q8 BX fO Gw R8 Ga Gx B3 Nt XT BQ OK fJ GJ Gs Li fK ON Jm OP Qa Qb Qj Sb KE J3 KF Eb IJ Hz Mr Qh Qi Lk OQ XX Qq NA Ss NB X2 X3 U8 Sk DF Sh U6 X1 fx Qv Mw;intro n B AA L s t hp hB ht;simp only[Bq,kB,kC,Wo,Zw,Zx,kN,D5,kO,Zy,kP,xQ,kD,kE,kF,kG,kH,Zu,xR,kI,Zv,xS,kJ,kK,kM,qV,U1,DE,BQ,fV,Hc,qR,Qv,D6,Qo,ON,Mr,XZ,X7,Mp];simp only[Dt];have AA:=hp.ok;have ai:=hp.ns;have aj:=hp.lf;have f:=R3 (ws:=C2) AA;refine⟨⟨A4 ⟨AA,⟨.inr (.inl rfl)⟩⟩,rfl,rfl⟩,λo ho=>?_⟩;have ho:o=Bs L s C2:=ho;have hd:dS L s=(Bu L o.2 1).2:=by rw[ho];rfl
 have ht:t=if o.1.text=iw then(nd 11 [] 0 o.1 [(B L o.2).1],(B L o.2).2)else Ua B L o.1 (Bu L o.2 1).1.text (Bu L o.2 1).2:=by rw[ht,ho];rfl
 rw[<-ho]at f;have f1:=f.am;have f2:=f.ax;have f3:=f.eo;have f4:=f.er;have f5:=f.ns;have po:A9 L n o.2:=⟨f.ok,by omega,by omega⟩;clear ho;refine Ao (λc1=>?_) λc1=>?_
 ·rw[Bn]at c1;rw[As (show o.1.text=iw from c1)]at ht;refine⟨A4 po,λy hy=>?_⟩;have g:=hB L o.2 po;rw[<-hy]at g ht;have b:=g.EI f.ok (by decide);exact PL rfl (y:=y.1) (by omega) rfl ht
 rw[CU]at c1;rw[An (show¬o.1.text=iw from c1)]at ht;refine⟨A4 ⟨f.ok,λh=>by cases h⟩,λq hq=>?_⟩;have k:=Jh (k:=1) f.ok (by decide);rw[<-hq]at k ht hd;have k1:=k.am;have k2:=k.ax;have k3:=k.eo;have k4:=k.er;have k5:=k.ns;have pq:A9 L n q.2:=⟨k.ok,by omega,by omega⟩;rw[hd];clear hq hd;unfold Ua at ht;refine Ao (λc2=>?_) λc2=>?_
 ·rw[Bn]at c2;rw[As (show o.1.text=xB from c2)]at ht;exact⟨A4 ⟨k.ok,by decide⟩,λz hz=>M8 (by rw[ht,hz];rfl)⟩
 rw[CU]at c2;rw[An (show¬o.1.text=xB from c2)]at ht;refine Ao (λc3=>?_) λc3=>?_
 ·rw[Bn]at c3;rw[As (show o.1.text=V4 from c3)]at ht;refine⟨A4 k.ok,λy hy=>?_⟩;have g:=YX (L:=L) (s:=q.2) k.ok;rw[<-hy]at g ht;have b:=g.EI k.ok (by decide);refine⟨A4 ⟨g.ok,by decide⟩,λz hz=>PL rfl (y:=y.1) (by omega) rfl (by rw[ht,hz];rfl)⟩
 rw[CU]at c3;rw[An (show¬o.1.text=V4 from c3)]at ht;refine Ao (λc4=>?_) λc4=>?_
 ·rw[Bn]at c4;rw[As (show o.1.text=Tf from c4)]at ht;refine⟨A4 pq,λy hy=>?_⟩;have g:=hB L q.2 pq;rw[<-hy]at g ht;have b:=g.EI k.ok (by decide);exact PL rfl (y:=y.1) (by omega) rfl ht
 rw[CU]at c4;rw[An (show¬o.1.text=Tf from c4)]at ht;refine Ao (λc5=>?_) λc5=>?_
 ·rw[Bn]at c5;rw[As (show o.1.text=wm from c5)]at ht;refine⟨A4 ⟨k.ok,by decide⟩,λv hv=>?_⟩;have hv:v=Bm L q.2 Ep:=hv;have d:=GP (w:=Ep) k.ok;unfold og at ht;rw[show Bm L q.2 [123]=v from hv.symm];rw[<-hv]at d ht;clear hv;have d1:=d.am;have d2:=d.ax;have d3:=d.eo;have d4:=d.er;have d5:=d.ns;have pv:v.2.err=0->A9 L n v.2:=λz=>⟨d.ok,by omega,by omega⟩;refine⟨⟨([],v.2),⟨⟨EW L,UN d.ok,rfl⟩,XN d.ok (by decide)⟩,rfl,Hi rfl⟩,λx hx=>?_⟩;have px:=hx.p;have bx:=px.EI d.ok (by decide);have hl:=RT x.1;have ab:¬(x.2.err=0/\A5 L x.2 GU=false)->∀ {c:Bool},c=true->(∃M,vK L=vK M/\AJ M x.2/\1<=([125]:Aj).length)/\∀z,z=Bm L x.2 [125]->(c=true/\(x.1.length<=(Bz x.1).length/\Ps x.1.length (ED (Bz x.1)))/\BW x.1.length λi=>F7 (ED (Bz x.1) i))/\ H7 (vK L) (vK L) (vW (Be 3 q.1.text 0 o.1 (Ca x.1.length λi=>F7 (ED (Bz x.1) i)))) z.2 t:=λhi c hc=>by have e:=bR hx hi;exact⟨A4 ⟨px.ok,by decide⟩,λz hz=>rK hc (by omega) (by rw[ht,hz,e];rfl)⟩
  refine Ao (λc6=>⟨A4 ⟨px.ok,by decide⟩,Ao (λc7=>?_) λc7=>?_⟩) λc6=>?_
  ·rw[Ba]at c6;rw[BZ]at c7;obtain⟨e0,e1,e2⟩:=bS (n:=n) (by decide) Acl hx pv c6 c7;refine⟨A4 ⟨px.ok,λh=>by cases h⟩,λa ha=>?_⟩;have fa:=Jh (k:=1) px.ok (by decide);rw[<-ha]at fa;refine⟨A4 fa.ok,λy hy=>?_⟩;have g:=YX (L:=L) (s:=a.2) fa.ok;rw[<-hy]at g;have b:=g.EI fa.ok (by decide);refine⟨A4 ⟨g.ok,by decide⟩,λz hz=>?_⟩;have w:=w9 (k:=4) (n:=0) (x:=a.1.text) (tk:=a.1) (y:=y.1) (g:=λi=>[vW (flat y.1)].getD i .AW) (by omega) rfl;refine⟨⟨rfl,w.1⟩,Am (dV (by rw[L9];exact AH _) (by omega)) ⟨_,e1,e2,by rw[E6,List.length_singleton],gr x.1 _ ?_,Hi ?_⟩⟩
   ·show [vW (Be 4 a.1.text 0 a.1 (Ca 1 λi=>[vW (flat y.1)].getD i .AW))]=_;rw[w.2,hy,ha];rfl
   ·rw[hz,hy,ha];rfl
  ·rw[BI]at c7;exact ab (λh=>by rw[show A5 L x.2 GU=true from c7]at h;cases h.2) rfl
  ·rw[BB]at c6;exact ab (λh=>c6 h.1) rfl
 rw[CU]at c5;rw[An (show¬o.1.text=wm from c5)]at ht;refine⟨A4 ⟨k.ok,by decide⟩,λp hp=>?_⟩;have hp:p=Bm L q.2 Kg:=hp;have d:=GP (w:=Kg) k.ok;rw[show Bm L q.2 [111,110]=p from hp.symm];rw[<-hp]at d ht;have d1:=d.am;have d2:=d.ax;have d3:=d.eo;have d4:=d.er;have d5:=d.ns;refine⟨A4 d.ok,λu hu=>?_⟩;have hu:u=HG L p.2:=hu;have g:=iZ (L:=L) (s:=p.2) d.ok;have lb:=Ab6 (L:=L) (q:=p.2) d.ok;rw[<-hu]at g lb ht;have g1:=g.am;have g2:=g.ss;have g3:=g.so;have g4:=g.er;have g5:=g.ns;have bu:=g.EI d.ok (by decide);refine Ao (λc6=>?_) λc6=>?_
 ·rw[Bn]at c6;rw[As (show o.1.text=wv from c6)]at ht;refine⟨⟨A4 ⟨g.ok,⟨.inr (.inr (.inl rfl))⟩⟩,rfl,rfl⟩,λe he=>?_⟩;have he:e=Bs L u.2 FY:=he;have w:=R3 (ws:=FY) g.ok;unfold sI at ht;rw[<-he]at w ht;have w1:=w.am;have w5:=w.ns;have pe:A9 L n e.2:=⟨w.ok,by omega,by omega⟩;have b:=hB L e.2 pe;have bb:=b.EI w.ok (by decide);refine Ao (λc7=>⟨A4 pe,λy hy=>?_⟩) λc7=>⟨A4 pe,λy hy=>?_⟩
  ·rw[Bn]at c7;rw[As (show e.1.text=Kg from c7),<-hy]at ht;rw[<-hy]at bb;exact Ui rfl (y:=u.1) (z:=y.1) (by omega) rfl rfl ht
  ·rw[CU]at c7;rw[An (show¬e.1.text=Kg from c7),<-hy]at ht;rw[<-hy]at bb;exact Ui rfl (y:=u.1) (z:=y.1) (by omega) rfl rfl ht
 rw[CU]at c6;rw[An (show¬o.1.text=wv from c6)]at ht;refine⟨A4 ⟨g.ok,by decide⟩,λv hv=>?_⟩;have hv:v=Bm L u.2 Ep:=hv;have ah:eC B L q.2=v.2:=by unfold eC;rw[<-hp,<-hu,<-hv]
 have ag:nd 29 (Bu L p.2 1).1.text 0 (Bu L p.2 1).1 []=u.1:=by rw[hu];rfl
 rw[ah,ag];unfold oh at ht;rw[<-hv]at lb ht;have pv:p.2.err=0->A9 L n p.2:=λz=>⟨d.ok,by omega,by omega⟩;have l0:Kj L (Eu (JU B) L) (Eu (JU B) L (EW L) [u.1] v.2) 2 6 p.2 ([u.1],v.2):=⟨⟨EW L,UN lb.ok,rfl⟩,lb⟩;have af:¬(v.2.err=0/\A5 L v.2 GU=false)->∀ {c:Bool},c=true->(∃M,vK L=vK M/\AJ M v.2/\1<=([125]:Aj).length)/\∀z,z=Bm L v.2 [125]->(c=true/\BW 1 λi=>[vW (flat u.1)].getD i .AW)/\ H7 (vK L) (vK L) (vW (Be 8 q.1.text 0 o.1 (Ca 1 λi=>[vW (flat u.1)].getD i .AW))) z.2 t:=λhi c hc=>by have e:=bR l0 hi;exact⟨A4 ⟨lb.ok,by decide⟩,λz hz=>PL hc (y:=u.1) (by omega) rfl (by rw[ht,hz,e];rfl)⟩
 refine Ao (λc7=>⟨A4 ⟨lb.ok,by decide⟩,Ao (λc8=>?_) λc8=>?_⟩) λc7=>?_
 ·rw[Ba]at c7;rw[BZ]at c8;obtain⟨e0,e1,e2⟩:=bS (n:=n) (by decide) (tR hB) l0 pv c7 c8;refine Ab7 hB e0 λc y hc hy w=>⟨⟨([u.1]++[(JU B L v.2).1],(JU B L v.2).2),e1,rfl,⟨rfl,KU rfl,KU (w.trans rfl)⟩,Hi (by rw[hy,hc];rfl)⟩,λx hx=>?_⟩;have px:=hx.p;have bx:=px.EI d.ok (by decide);have hl:=RT x.1;have ab:¬(x.2.err=0/\A5 L x.2 GU=false)->∀ {c:Bool},c=true->(∃M,vK L=vK M/\AJ M x.2/\1<=([125]:Aj).length)/\∀z,z=Bm L x.2 [125]->(c=true/\(x.1.length<=(Bz x.1).length/\Ps x.1.length (ED (Bz x.1)))/\BW x.1.length λi=>F7 (ED (Bz x.1) i))/\ H7 (vK L) (vK L) (vW (Be 8 q.1.text 0 o.1 (Ca x.1.length λi=>F7 (ED (Bz x.1) i)))) z.2 t:=λhi c hc=>by have e:=bR hx hi;exact⟨A4 ⟨px.ok,by decide⟩,λz hz=>rK hc (by omega) (by rw[ht,hz,e];rfl)⟩
  refine Ao (λc6=>⟨A4 ⟨px.ok,by decide⟩,Ao (λc7=>?_) λc7=>?_⟩) λc6=>?_
  ·rw[Ba]at c6;rw[BZ]at c7;obtain⟨e3,e4,e5⟩:=bS (n:=n) (by decide) (tR hB) hx pv c6 c7;exact Ab7 hB e3 λc y hc hy w=>Am (dV (by rw[L9];exact AH _) (by omega)) ⟨_,e4,e5,by rw[E6,List.length_singleton],gr x.1 _ (by rw[<-w]),Hi (by rw[hy,hc];rfl)⟩
  ·rw[BI]at c7;exact ab (λh=>by rw[show A5 L x.2 GU=true from c7]at h;cases h.2) rfl
  ·rw[BB]at c6;exact ab (λh=>c6 h.1) rfl
 ·rw[BI]at c8;exact af (λh=>by rw[show A5 L v.2 GU=true from c8]at h;cases h.2) rfl
 ·rw[BB]at c7;exact af (λh=>c7 h.1) rfl
theorem AmJ:∀(n:Nat) (B:Ad->PF) (AA:E8 74 n B) (L:Ad) (s:RS) (t:PT×RS),A9 L n s->GF n 1 2 B->t=M6 B L s->(A3 (zA n B AA L s) 60).call 58 [.ptr 0 0] (BU (B2 [Bw (vK L) s] 0)) 1 (GZ (vK L) t):=Eq.mpr (by kernel_rfl) AmM
theorem Akj {n:Nat} {B:Ad->PF} (h:E8 74 n B) (x:GF n 1 2 B):BH Tryz.prog 58 (sF n (M6 B)):=Iq λL s r=>⟨zA n B h L s,60,rfl,Dq,Bk,λt ht=>AmJ n B h L s t r x ht⟩
structure Kp (s r:RS):Prop where
 e:s.err≠0->r.err=s.err/\r.BE=s.BE
 o:r.err=0->r.BE=s.BE
theorem AbZ (s:RS):Kp s s:=⟨λ_=>⟨rfl,rfl⟩,λ_=>rfl⟩
theorem Kp.tr {s r u:RS} (h:Kp s r) (k:Kp r u):Kp s u:=by have J:=h.e;have B:=h.o;have y:=k.e;have x:=k.o;exact⟨λz=>by omega,λz=>by omega⟩
theorem Ai6 (s:RS) {e:Int} (r:e≠0):Kp s (CM s e):=by
 unfold CM;split
 ·rename_i h;exact⟨λz=>absurd h z,λz=>absurd z r⟩
 ·exact AbZ s
theorem Ai4 (s:RS):Kp s (A7 s):=⟨λ_=>⟨rfl,rfl⟩,λ_=>rfl⟩
theorem Ai5 (s:RS):Kp s (down s):=⟨λ_=>⟨rfl,rfl⟩,λ_=>rfl⟩
end Go.Proofs.YthallodoidghoaaGreat
end
end
