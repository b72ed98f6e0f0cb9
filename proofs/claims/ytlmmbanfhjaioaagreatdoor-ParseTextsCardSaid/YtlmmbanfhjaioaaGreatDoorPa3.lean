/- Laid by program out of its parts: PaV, PaW. -/
import Derived.Test.YtlmmbanfhjaioaaGreatDoorPa2
noncomputable section
set_option linter.unusedVariables false
set_option linter.unusedSimpArgs false
section
set_option maxRecDepth 100000
set_option maxHeartbeats 2000000
open Go Go.Ev
namespace Go.Proofs.YtlmmbanfhjaioaaGreatDoor
def Vp:List UInt8:=[108,111,111,112,101,114]
def Vm:List UInt8:=[99,108,97,115,115]
def Ao7:List UInt8:=[99,111,109,112]
def fy:List UInt8:=[101,118,101,110,116]
def R8:List UInt8:=[109,97,105,110]
def CT:List UInt8:=[111,110]
def fw:List UInt8:=[99,114,101,97,116,101]
def gC:List UInt8:=[115,116,97,114,116]
def gD:List UInt8:=[115,116,111,112]
def fx:List UInt8:=[100,101,115,116,114,111,121]
def EI (L:List TK):PF:=λs=>(nd 4 (AB L s 1).1.text 0 (AB L s 1).1 [(B9 L (AB L s 1).2).1],(Aw L (B9 L (AB L s 1).2).2 Fp).2)
def Iw (x:List UInt8):Int:=if x=fw then 0 else if x=gC then 1 else if x=gD then 2 else if x=fx then 3 else 0
def Dn (B:List TK->PF) (L:List TK):PF:=λs=>(nd 9 [] (Iw (Al L s Bf).1.text) (Al L s Bf).1 [(B L (Al L s Bf).2).1],(B L (Al L s Bf).2).2)
def Zr (L:List TK) (t:TK) (x:List UInt8) (s:RS):PT×RS:=(nd 3 x 0 t (Bz EI L (B7 L) [] (Aw L s BP).2).1,(Aw L (Bz EI L (B7 L) [] (Aw L s BP).2).2 C5).2)
def ZY (B:List TK->PF) (L:List TK) (t:TK) (x:List UInt8) (u:PT) (s:RS):PT×RS:=(nd 10 x (if(Al L s D9).1.text=CT then 1 else 0) t [u,(B L (Al L s D9).2).1],(B L (Al L s D9).2).2)
def Zs (B:List TK->PF) (L:List TK) (t:TK) (x:List UInt8) (u:PT) (s:RS):PT×RS:=(nd 8 x 0 t (Bz (Dn B) L (B7 L) [u] (Aw L s BP).2).1,(Aw L (Bz (Dn B) L (B7 L) [u] (Aw L s BP).2).2 C5).2)
def K7 (B:List TK->PF) (L:List TK) (t:TK) (x:List UInt8) (s:RS):PT×RS:=
 if t.text=Vp then(nd 2 x 0 t [],(Aw L s Fp).2)
 else if t.text=FY then(nd 6 x 0 t [(B9 L s).1],(Aw L (B9 L s).2 Fp).2)
 else if t.text=K0 then(nd 7 x 0 t [(B L s).1],(B L s).2)
 else if t.text=Vm then Zr L t x s
 else if t.text=fy then ZY B L t x (BZ L (Aw L s CT).2).1 (BZ L (Aw L s CT).2).2
 else Zs B L t x (BZ L (Aw L s CT).2).1 (BZ L (Aw L s CT).2).2
def Gp (B:List TK->PF) (L:List TK):PF:=λs=>
 if(Al L s Bt).1.text=R8 then(nd 11 [] 0 (Al L s Bt).1 [(B L (Al L s Bt).2).1],(B L (Al L s Bt).2).2)
 else K7 B L (Al L s Bt).1 (AB L (Al L s Bt).2 1).1.text (AB L (Al L s Bt).2 1).2
def cR (B:List TK->PF) (L:List TK) (s:RS):RS:=(Aw L (BZ L (Aw L s CT).2).2 BP).2
def dS (L:List TK) (s:RS):RS:=(AB L (Al L s Bt).2 1).2
def Adl (o:Option (List AV)) (x:Int):Prop:=match o with
 |some [_,.bs t,_,_,_]=>x=Iw t
 |_=>False
def vj (n:Nat) (B:List TK->PF) (h:E9 63 n B) (L:List TK) (s:RS):Ctx:={P:=Tryz.prog,tb:=[],ht:=Tw 63 n B,Am:=Wy h,lp:=λf r=>cond (Nat.beq f 36) (cond (Nat.beq r 18) (some (sZ L (λx=>Kj L (Bz EI L) (Bz EI L (B7 L) [] (Aw L (dS L s) BP).2) 0 4 (Aw L (dS L s) BP).2 x) [0,3,4] 6)) (cond (Nat.beq r 33) (some (sZ L (λx=>Kj L (Bz (Dn B) L) (Bz (Dn B) L (B7 L) [(BZ L (Aw L (dS L s) CT).2).1] (cR B L (dS L s))) 2 6 (Aw L (dS L s) CT).2 x) [0,3,4] 9)) none)) none,cut:=λf r=>cond (Nat.beq f 36) (cond (Nat.beq r 36) (some (thin Int [0,3,4,9,11] (λx=>[(12,.int .i64 x)]) (λs x=>Adl (Fa s.H (Aa6 (s.T.get 11)) 0 5) x) λ_=>0)) none) none,pl:=λ_ r s=>cond (Nat.beq r 33) (WH (s.T.get 9)) false}
theorem cU {n:Nat}:GF n 3 4 EI:=by
 intro L s B;have Am:=B.ok;have f:=Gu (k:=1) Am (by decide);unfold EI;generalize(AB L s 1)=q at f⊢;have W:=f.am;have V:=f.ax;have U:=f.eo;have S:=f.er;have R:=f.ns;have g:=Qb (L:=L) (s:=q.2) f.ok;generalize B9 L q.2=y at g⊢;have O:=g.am;have M:=g.ss;have K:=g.so;have J:=g.er;have E:=g.ns;have C:=Ih y.1;have e:=G4 (w:=Fp) g.ok;generalize(Aw L y.2 Fp).2=u at e⊢;have e1:=e.am;have e2:=e.ax;have e3:=e.eo;have Z:=e.er;have Y:=e.ns;refine⟨e.ok,by show u.nest=_;omega,by show _<=u.at_;omega,λz=>⟨by show u.err≠0;omega,by show u.at_=_;omega,?_⟩,?_,λz=>?_⟩
 ·show((sz _:Nat):Int)<=3;rw[Hs];omega
 ·show((sz _:Nat):Int)<=3*(u.at_-s.at_)+4;rw[Hs];omega
 ·have z:u.err=0:=z;show((sz _:Nat):Int)<=3*(u.at_-s.at_);rw[Hs];omega
theorem cI {n:Nat} {B:List TK->PF} (E:GF n 1 2 B):GF n 3 4 (Dn B):=by
 intro L s C;have Am:=C.ok;have J:=C.ns;have K:=C.lf;have f:=Iz (ws:=Bf) Am;unfold Dn;generalize(Al L s Bf)=q at f⊢;have f1:=f.am;have f2:=f.ax;have Z:=f.eo;have Y:=f.er;have W:=f.ns;have g:=E L q.2 ⟨f.ok,by omega,by omega⟩;generalize B L q.2=y at g⊢;have V:=g.am;have U:=g.ss;have S:=g.so;have R:=g.er;have O:=g.ns;have M:=Ih y.1;refine⟨g.ok,by show y.2.nest=_;omega,by show _<=y.2.at_;omega,λz=>⟨by show y.2.err≠0;omega,by show y.2.at_=_;omega,?_⟩,?_,λz=>?_⟩
 ·show((sz _:Nat):Int)<=3;rw[Hs];omega
 ·show((sz _:Nat):Int)<=3*(y.2.at_-s.at_)+4;rw[Hs];omega
 ·have z:y.2.err=0:=z;show((sz _:Nat):Int)<=3*(y.2.at_-s.at_);rw[Hs];omega
theorem GL.le {L:List TK} {E C:Int} {s:RS} {r:List PT×RS} (h:GL L E C s r):(CS r.1:Int)<=3*(r.2.at_-s.at_)+C:=h.ss
theorem zS {L:List TK} {q:RS} (h:Az L q):GL L 2 6 q ([(BZ L q).1],(Aw L (BZ L q).2 BP).2):=by
 have g:=XW (L:=L) (s:=q) h;generalize BZ L q=u at g⊢;have K:=g.am;have J:=g.ss;have E:=g.so;have C:=g.er;have B:=g.ns;have y:=Ih u.1;have e:=G4 (w:=BP) g.ok;generalize(Aw L u.2 BP).2=v at e⊢;have U:=e.am;have S:=e.ax;have R:=e.eo;have O:=e.er;have M:=e.ns;have hz:CS [u.1]=sz u.1:=by rw[Fl,Ig];rfl
 refine⟨e.ok,by show v.nest=_;omega,by show _<=v.at_;omega,λz=>⟨by show v.err≠0;omega,by show v.at_=_;omega,?_⟩,?_,λz=>?_⟩
 ·show((CS [u.1]:Nat):Int)<=2;rw[hz];omega
 ·show((CS [u.1]:Nat):Int)<=3*(v.at_-q.at_)+6;rw[hz];omega
 ·have z:v.err=0:=z;show((CS [u.1]:Nat):Int)<=3*(v.at_-q.at_);rw[hz];omega
theorem Ab7 {L:List TK} {E C:Int} {s q:RS} {r:List PT×RS} {k n:Int} {x:List UInt8} {t:TK} (h:GL L E C q r) (K:C<=6) (J:E<=2) (hn:q.nest=s.nest) (B:s.at_<=q.at_) (M:q.err=0->s.at_+2<=q.at_) (y:s.err≠0->q.err≠0/\q.at_=s.at_):Cf L 3 4 s (nd k x n t r.1,(Aw L r.2 C5).2):=by
 have V:=h.am;have U:=h.ss;have S:=h.so;have R:=h.er;have O:=h.ns;have e:=G4 (w:=C5) h.ok;generalize(Aw L r.2 C5).2=v at e⊢;have e1:=e.am;have e2:=e.ax;have Z:=e.eo;have Y:=e.er;have W:=e.ns;refine⟨e.ok,by show v.nest=_;omega,by show _<=v.at_;omega,λz=>⟨by show v.err≠0;omega,by show v.at_=_;omega,?_⟩,?_,λz=>?_⟩
 ·show((sz _:Nat):Int)<=3;rw[Ms];omega
 ·show((sz _:Nat):Int)<=3*(v.at_-s.at_)+4;rw[Ms];omega
 ·have z:v.err=0:=z;show((sz _:Nat):Int)<=3*(v.at_-s.at_);rw[Ms];omega
theorem Aje {L:List TK} {s:RS} {ws:List (List UInt8)} {w:List UInt8} (q:w≠[]) (h:(Al L s ws).1.text=w):(Al L s ws).2=Ai s/\s.err=0/\s.at_<L.length:=by
 unfold Al Ei at h⊢;split at h
 ·rename_i e;rw[if_pos e];obtain⟨v,_,hv⟩:=List.any_eq_true.1 e;exact⟨rfl,J0 hv,Bb hv⟩
 ·exact absurd h (λe=>q e.symm)
theorem Aen {n:Nat} {B:List TK->PF} (R:GF n 1 2 B):GF n 3 4 (Gp B):=by
 intro L s O;have Am:=O.ok;have aa:=O.ns;have ab:=O.lf;have f:=Iz (ws:=Bt) Am;have tx:∀w,w≠[]->(Al L s Bt).1.text=w->s.err=0/\(Al L s Bt).2.at_=s.at_+1:=λw Z h=>by obtain⟨U,S,_⟩:=Aje Z h;exact⟨S,by rw[U];rfl⟩
 unfold Gp;generalize(Al L s Bt)=o at f tx⊢;have f1:=f.am;have f2:=f.ax;have f3:=f.eo;have f4:=f.er;have f5:=f.ns;have J:∀(k:Int) (x:List UInt8) (q:RS),Az L q->q.nest=s.nest->s.at_+1<=q.at_->s.err=0->Cf L 3 4 s (nd k x 0 o.1 [(B L q).1],(B L q).2):=λk x q hq U S h3=>by
  have d:=R L q ⟨hq,by omega,by omega⟩;generalize B L q=r at d⊢;have M:=d.am;have W:=d.ss;have V:=d.so;have K:=d.ns;refine⟨d.ok,by show r.2.nest=_;omega,by show _<=r.2.at_;omega,λz=>absurd h3 z,?_,λz=>?_⟩
  ·show((sz _:Nat):Int)<=3*(r.2.at_-s.at_)+4;rw[Hs];omega
  ·have z:r.2.err=0:=z;show((sz _:Nat):Int)<=3*(r.2.at_-s.at_);rw[Hs];omega
 refine Eo (P:=Cf L 3 4 s) (λe=>?_) λ_=>?_
 ·have:=tx _ (by decide) e;exact J 11 [] o.2 f.ok f5 (by omega) this.1
 have k:=Gu (k:=1) f.ok (by decide);generalize(AB L o.2 1)=q at k⊢;have k1:=k.am;have k2:=k.ax;have k3:=k.eo;have k4:=k.er;have k5:=k.ns;unfold K7;refine Eo (P:=Cf L 3 4 s) (λe=>?_) λ_=>Eo (P:=Cf L 3 4 s) (λe=>?_) λ_=>Eo (P:=Cf L 3 4 s) (λe=>?_) λ_=>Eo (P:=Cf L 3 4 s) (λe=>?_) λ_=>?_
 ·have:=tx _ (by decide) e;have d:=G4 (w:=Fp) k.ok;generalize(Aw L q.2 Fp).2=v at d⊢;have M:=d.am;have K:=d.ns;refine⟨d.ok,by show v.nest=_;omega,by show _<=v.at_;omega,λz=>absurd this.1 z,?_,λz=>?_⟩
  ·show((sz _:Nat):Int)<=3*(v.at_-s.at_)+4;rw[Kd];omega
  ·show((sz _:Nat):Int)<=3*(v.at_-s.at_);rw[Kd];omega
 ·have:=tx _ (by decide) e;have g:=Qb (L:=L) (s:=q.2) k.ok;generalize B9 L q.2=y at g⊢;have g1:=g.am;have g2:=g.ss;have g3:=g.so;have g5:=g.ns;have d:=G4 (w:=Fp) g.ok;generalize(Aw L y.2 Fp).2=v at d⊢;have M:=d.am;have K:=d.ns;refine⟨d.ok,by show v.nest=_;omega,by show _<=v.at_;omega,λz=>absurd this.1 z,?_,λz=>?_⟩
  ·show((sz _:Nat):Int)<=3*(v.at_-s.at_)+4;rw[Hs];omega
  ·show((sz _:Nat):Int)<=3*(v.at_-s.at_);rw[Hs];omega
 ·have:=tx _ (by decide) e;exact J 7 _ q.2 k.ok (by omega) (by omega) this.1
 ·have d:=G4 (w:=BP) k.ok;unfold Zr;generalize(Aw L q.2 BP).2=v at d⊢;have M:=d.am;have W:=d.ax;have V:=d.eo;have d4:=d.er;have K:=d.ns;have pl:=Zb (E:=0) (C:=4) (by decide) (cU (n:=n)) (L:=L) (s0:=v) (λz=>⟨d.ok,by omega,by omega⟩) (B7 L) [] v (M3 d.ok (by decide));exact Ab7 pl (by decide) (by decide) (by omega) (by omega) (λz=>by omega) λz=>⟨by omega,by omega⟩
 have d:=G4 (w:=CT) k.ok;generalize(Aw L q.2 CT).2=v at d⊢;have M:=d.am;have W:=d.ax;have V:=d.eo;have d4:=d.er;have K:=d.ns;have u:=XW (L:=L) (s:=v) d.ok;have Y:=zS (L:=L) (q:=v) d.ok;refine Eo (P:=Cf L 3 4 s) (λe=>?_) λ_=>?_
 ·have ee:=tx _ (by decide) e;generalize BZ L v=y at u⊢;have u1:=u.am;have u2:=u.ss;have u3:=u.so;have u4:=u.er;have u5:=u.ns;unfold ZY;have w:=Iz (ws:=D9) u.ok;generalize(Al L y.2 D9)=c at w⊢;have w1:=w.am;have w2:=w.ax;have w3:=w.eo;have w4:=w.er;have w5:=w.ns;have b:=R L c.2 ⟨w.ok,by omega,by omega⟩;generalize B L c.2=r at b⊢;have b1:=b.am;have b2:=b.ss;have b3:=b.so;have b5:=b.ns;refine⟨b.ok,by show r.2.nest=_;omega,by show _<=r.2.at_;omega,λz=>absurd ee.1 z,?_,λz=>?_⟩
  ·show((sz _:Nat):Int)<=3*(r.2.at_-s.at_)+4;rw[JL];omega
  ·have z:r.2.err=0:=z;show((sz _:Nat):Int)<=3*(r.2.at_-s.at_);rw[JL];omega
 ·unfold Zs;have pl:=Zb (E:=2) (C:=6) (by decide) (cI R) (L:=L) (s0:=v) (λz=>⟨d.ok,by omega,by omega⟩) (B7 L) _ _ Y;exact Ab7 pl (by decide) (by decide) (by omega) (by omega) (λz=>by omega) λz=>⟨by omega,by omega⟩
theorem AgY (x:List UInt8):(bif decide (x=[99,114,101,97,116,101])then 0 else bif decide (x=[115,116,97,114,116])then 1 else bif decide (x=[115,116,111,112])then 2 else bif decide (x=[100,101,115,116,114,111,121])then(3:Int)else 0)=Iw x:=by unfold Iw;simp only[Bool.cond_decide];rfl
theorem zT {n:Nat} {B:List TK->PF} (O:GF n 1 2 B) {L:List TK} {s:RS} (C:Av L n s) {b:Bool} {q:Int->TK×RS->PT×RS->Prop} (K:∀(c:TK×RS) (y:PT×RS),c=Al L s Bf->y=B L c.2->A3 9 [] (Iw c.1.text) c.1 (B6 1 λi=>[vW (flat y.1)].getD i .As)=flat (Dn B L s).1->q (Iw c.1.text) c y) (hb:b=true:=by rfl): ((∃M,vK L=vK M/\Az M s/\Ql [[99,114,101,97,116,101],[115,116,97,114,116],[115,116,111,112],[100,101,115,116,114,111,121]])/\4=([[99,114,101,97,116,101],[115,116,97,114,116],[115,116,111,112],[100,101,115,116,114,111,121]]:List (List UInt8)).length/\4=([[99,114,101,97,116,101],[115,116,97,114,116],[115,116,111,112],[100,101,115,116,114,111,121]]:List (List UInt8)).length)/\ ∀c:TK×RS,c=Al L s [[99,114,101,97,116,101],[115,116,97,114,116],[115,116,111,112],[100,101,115,116,114,111,121]]->(∃x,x=Iw c.1.text/\(bif decide (c.1.text=[99,114,101,97,116,101])then 0 else bif decide (c.1.text=[115,116,97,114,116])then 1 else bif decide (c.1.text=[115,116,111,112])then 2 else bif decide (c.1.text=[100,101,115,116,114,111,121])then(3:Int)else 0)=x)/\ ∀x:Int,x=Iw c.1.text->(∃M,vK L=vK M/\Av M n c.2)/\∀y:PT×RS,y=B L c.2->(b=true/\BM 1 λi=>[vW (flat y.1)].getD i .As)/\q x c y:=by have Am:=C.ok;have R:=C.ns;have S:=C.lf;refine⟨⟨AN ⟨Am,⟨.inr (.inr (.inr rfl))⟩⟩,rfl,rfl⟩,λc hc=>⟨⟨_,rfl,AgY _⟩,λx J=>?_⟩⟩;have hc:c=Al L s Bf:=hc;have f:=Iz (ws:=Bf) Am;rw[<-hc]at f;have V:=f.am;have U:=f.ns;have E:Av L n c.2:=⟨f.ok,by omega,by omega⟩;refine⟨AN E,λy hy=>?_⟩;have g:=O L c.2 E;rw[<-hy]at g;have W:=g.DU f.ok (by decide);have w:=sy (k:=9) (n:=Iw c.1.text) (x:=[]) (tk:=c.1) (y:=y.1) (g:=λi=>[vW (flat y.1)].getD i .As) (by omega) rfl;subst J;exact⟨⟨hb,w.1⟩,K c y hc hy (by rw[w.2,hy,hc];rfl)⟩
@[reducible] def iY:TK×RS->Prop:=λ(a:TK×RS)=>(DG a.1/\True)/\True
@[reducible] def iZ:TK×RS->Prop:=λ(a:TK×RS)=>iY a/\True
@[reducible] def OI:TK×RS->Prop:=λ(a:TK×RS)=>Aa/\Aa/\Aa/\Aa/\(Pt a.1)/\Aa/\Ab (TK.Ag a.1)
@[reducible] def YC:TK×RS->Prop:=λ(a:TK×RS)=>A8/\A8/\iZ a
@[reducible] def YD:TK×RS->Prop:=λ(a:TK×RS)=>(Aa/\True)/\OI a/\True
@[reducible] def iv:TK×RS->Prop:=λ(a:TK×RS)=>A8/\YC a
def dZ (a:List TK) (b:RS):=(((D1 a/\Aa/\Ab (RS.at_ b))/\Aa/\Ab (RS.nest b))/\Aa/\Ab (RS.err b))
@[reducible] def iw:List TK->PT×RS->Prop:=λ(L:List TK) (a:PT×RS)=>Aa/\Aa/\Aa/\(dZ L a.2)/\Aa/\Ho a.2
@[reducible] def YE:List TK->TK×RS->Prop:=λ(L:List TK) (a:TK×RS)=>Aa/\Aa/\Aa/\(dZ L a.2)/\Aa/\Ho a.2
@[reducible] def ix:List TK->PT×RS->Prop:=λ(L:List TK) (a:PT×RS)=>iw L a/\True
@[reducible] def th:List TK->TK×RS->Prop:=λ(L:List TK) (a:TK×RS)=>YE L a/\True
@[reducible] def ia:List TK->TK×RS->Prop:=λ(L:List TK) (a:TK×RS)=>Aa/\YE L a
@[reducible] def ib:TK×RS->Prop:=λ(a:TK×RS)=>A8/\A8/\iY a/\iZ a
@[reducible] def ic:List TK->List PT×RS->Prop:=λ(L:List TK) (a:List PT×RS)=>Aa/\Aa/\Aa/\(dZ L a.2)/\Aa/\Ho a.2
@[reducible] def ie:List TK->List PT×RS->Prop:=λ(L:List TK) (a:List PT×RS)=>ic L a/\True
def PX (a:List TK):=th a
@[reducible] def ig:List TK->TK×RS->Prop:=λ(L:List TK) (a:TK×RS)=>Aa/\Aa/\(Ay/\True)/\PX L a
@[reducible] def YA:List TK->TK×RS->Prop:=λ(L:List TK) (a:TK×RS)=>(D8 L a.2)/\ig L a
@[reducible] def tj:Nat->List TK->TK×RS->Prop:=λ(n:Nat) (L:List TK) (a:TK×RS)=>(PK L n a.2)/\ig L a
@[reducible] def YB:List TK->TK×RS->Prop:=λ(L:List TK) (a:TK×RS)=>(Xs L a.2)/\Aa/\Aa/\Xx/\PX L a
@[reducible] def ik:List TK->PT×RS->Prop:=λ(L:List TK) (a:PT×RS)=>(N8 L a.2)/\Aa/\Aa/\Mi/\ix L a
@[reducible] def tm:List TK->List PT×RS->Prop:=λ(L:List TK) (a:List PT×RS)=>(Xs L a.2)/\Aa/\Aa/\Xx/\ie L a
@[reducible] def im:List TK->TK×RS->TK×RS->List PT×RS->Prop:=λ(L:List TK) (a y:TK×RS) (q:List PT×RS)=>(Mb L y.2 q.2)/\YD a
@[reducible] def iq:List TK->TK×RS->PT×RS->List PT×RS->Prop:=λ(L:List TK) (a:TK×RS) (y:PT×RS) (q:List PT×RS)=>(Mb L y.2 q.2)/\(Aa/\True)/\OI a/\(Aa/\True)/\(Aa/\True)/\(Aa/\True)/\(Aa/\True)/\(Aa/\True)/\(Aa/\True)/\True
@[reducible] def iu:TK×RS->Int->Prop:=λ(a:TK×RS) (q:Int)=>Aa/\(bif decide (TK.text a.1=[(99:UInt8),114,101,97,116,101])then(0:Int)else bif decide (TK.text a.1=[(115:UInt8),116,97,114,116])then(1:Int)else bif decide (TK.text a.1=[(115:UInt8),116,111,112])then(2:Int)else bif decide (TK.text a.1=[(100:UInt8),101,115,116,114,111,121])then(3:Int)else(0:Int))=q
def I7:=[[(99:UInt8),114,101,97,116,101],[(115:UInt8),116,97,114,116],[(115:UInt8),116,111,112],[(100:UInt8),101,115,116,114,111,121]]
def Lr:=[[(108:UInt8),111,111,112,101,114],[(99:UInt8),108,97,115,115],[(118:UInt8),97,114],[(102:UInt8),110],[(99:UInt8),111,109,112],[(101:UInt8),118,101,110,116],[(109:UInt8),97,105,110]]
def dR (a:List TK) (b:List TK->PF) (c:RS):=Kj a (Bz (Dn b) a) (Bz (Dn b) a (B7 a) [nd (29:Int) (TK.text (Prod.fst (AB a (Prod.snd (Aw a (dS a c) [(111:UInt8),110])) (1:Int)))) (0:Int) (Prod.fst (AB a (Prod.snd (Aw a (dS a c) [(111:UInt8),110])) (1:Int))) []] (cR b a (dS a c))) (2:Int) (6:Int) (Prod.snd (Aw a (dS a c) [(111:UInt8),110]))
def T4 (a:List TK) (b:RS):=Prod.snd (Aw a (dS a b) [(123:UInt8)])
def Oa (a:Int) (b:TK) (c:PT) (d:Nat):=List.getD (A3 (9:Int) [] a b (Eu c)) d LT.none
def Pw (a:List PT):=wS (Ba a)
def dc (a:List TK) (b:RS):=Kj a (Bz EI a) (Bz EI a (B7 a) [] (T4 a b)) (0:Int) (4:Int) (T4 a b)
def PJ (a:List PT) (b:Nat):=List.getD (Pw a 1) b LT.none
def PC (a:List PT) (b:Nat):=List.getD (Pw a 0) b LT.none
def Og (a:List PT) (b:Nat) (c:Nat):=List.getD (Pw a b) c LT.none
def eG (a:TK):=Ad (decide (TK.text a=[(108:UInt8),111,111,112,101,114]))
def RC:=(Ab (some 3)/\Aa)
def On:=List.length I7
def dz (a:TK):=Ad (decide (TK.text a=[(99:UInt8),108,97,115,115]))
def Xu (a:TK):=A3 (8:Int) (DC a) (0:Int)
def eS (a:TK):=Ad (decide (TK.text a=[(109:UInt8),97,105,110]))
def RI (a:Nat):=tj a
def RE (a:List TK):=tm a
theorem AkT:∀(n:Nat) (B:List TK->PF),E9 (63:FuncId) n B->∀(L:List TK) (s:RS) (t:PT×RS),Av L n s->(GB n B)->t=Gp B L s->((∃(S:List TK),vK L=vK S/\Az S s/\Ql Lr)/\Aa/\Aa/\(Ay/\(Ab (some 1)/\0=0/\7=List.length Lr/\7=List.length Lr)/\True)/\(CY L s)/\(Aa/\Aa/\Aa/\dT/\Ab Px)/\True)/\∀(y:TK×RS),y=Al (kL (vK L)) s Lr->eS y.1 (RI n L y/\∀(J:PT×RS),J=DI B L y.2->(Rn J.1)/\YC y/\BO L (vW (A3 (11:Int) [] (0:Int) y.1 (Eu J.1))) J.2 t) (((Xp L y.2)/\Aa/\Aa/\KJ/\PX L y)/\∀(J:TK×RS),J=AB (kL (vK L)) y.2 (1:Int)->eG y.1 (((N8 L J.2)/\Aa/\Aa/\Mi/\PX L J)/\∀(O:TK×RS),O=Je L J.2->BO L (vW (A3 (2:Int) (DC J.1) (0:Int) y.1 [])) O.2 t) (Uv y.1 (YA L J/\∀(O:PT×RS),O=B9 (kL (vK L)) J.2->ik L O/\∀(C:TK×RS),C=Je L O.2->(Nat.blt 8 10=true/\Aa/\BM 1 λ(i:Nat)=>Ge O.1 i)/\BO L (vW (A3 (6:Int) (DC J.1) (0:Int) y.1 (Eu O.1))) C.2 t) (Ad (decide (TK.text y.1=[(102:UInt8),110])) (RI n L J/\∀(O:PT×RS),O=DI B L J.2->(Nat.blt 10 13=true/\Aa/\BM 1 λ(i:Nat)=>Ge O.1 i)/\YC y/\BO L (vW (A3 (7:Int) (DC J.1) (0:Int) y.1 (Eu O.1))) O.2 t) (dz y.1 (((∃(S:List TK),vK L=vK S/\Az S J.2/\Xt)/\Aa/\Aa/\XB/\PX L J)/\∀(O:TK×RS),O=GX L J.2 [(123:UInt8)]->(∃(W:List PT×RS),dc L s W/\Aa/\(W.1.length=0/\Ay/\RC/\Ab (DC J.1)/\True)/\(Aa/\True)/\im L y O W)/\∀(x:List PT×RS),dc L s x->AO x.2 (RE L x/\UT L x.2 (((Xp L x.2)/\Aa/\Aa/\KJ/\ie L x)/\∀(C:TK×RS),C=AB (kL (vK L)) x.2 (1:Int)->YA L C/\∀(K:PT×RS),K=B9 (kL (vK L)) C.2->ik L K/\∀(E:TK×RS),E=Je L K.2->(Nat.blt 14 16=true/\Aa/\BM 1 λ(i:Nat)=>Ge K.1 i)/\Q7 x x.1 (∃(x':List PT×RS),dc L s x'/\DX L x'.2 x.2/\Aa/\((Ab (some 17)/\x.1.length+1=x'.1.length/\Aa)/\Ay/\RC/\Ab (DC J.1)/\True)/\(Aa/\Aa/\Aa/\Aa/\(Fh x)*1=Ng x'.1/\Au λ(i:Nat)=>B8 i ((Fh x)*1)->AH [(3,3),(7,17),(0,0)] (HM x'.1 i) (B0 x.1.length (HM x.1) (λ(x:Nat)=>[vW (A3 (4:Int) (DC C.1) (0:Int) C.1 (Eu K.1))]) i))/\im L y E x')) (RE L x/\∀(C:TK×RS),C=Nh L x.2->(Nat.blt 7 11=true/\(M9 x x.1)/\BM x.1.length λ(i:Nat)=>F9 (HM x.1 i))/\BO L (vW (A3 (3:Int) (DC J.1) (0:Int) y.1 (Py x x.1))) C.2 t)) (RE L x/\∀(C:TK×RS),C=Nh L x.2->(Nat.blt 7 10=true/\(M9 x x.1)/\BM x.1.length λ(i:Nat)=>F9 (HM x.1 i))/\BO L (vW (A3 (3:Int) (DC J.1) (0:Int) y.1 (Py x x.1))) C.2 t)) (((∃(S:List TK),vK L=vK S/\Az S J.2/\Nat.le 1 (List.length Hl))/\Aa/\Aa/\(Ay/\Ab Hl/\True)/\PX L J)/\∀(O:TK×RS),O=GX L J.2 Hl->YA L O/\∀(C:PT×RS),C=BZ (kL (vK L)) O.2->Ad (decide (TK.text y.1=[(101:UInt8),118,101,110,116])) (((∃(S:List TK),vK L=vK S/\Az S C.2/\Ql [Hl,JD])/\Aa/\Aa/\(Ay/\(Ab (some 9)/\0=0/\2=List.length [Hl,JD]/\2=List.length [Hl,JD])/\True)/\iw L C/\(Aa/\Aa/\Aa/\(True/\Ab Hl)/\Ab JD)/\True)/\∀(K:TK×RS),K=Al (kL (vK L)) C.2 [Hl,JD]->Ad (decide (TK.text K.1=[(111:UInt8),110])) (RI n L K/\∀(E:PT×RS),E=DI B L K.2->(Nat.blt 18 21=true/\Aa/\BM 2 λ(i:Nat)=>GD C.1 E.1 i)/\ib y/\BO L (vW (A3 (10:Int) (DC J.1) (1:Int) y.1 (D5 C.1 E.1))) E.2 t) (RI n L K/\∀(E:PT×RS),E=DI B L K.2->(Nat.blt 18 21=true/\Aa/\BM 2 λ(i:Nat)=>GD C.1 E.1 i)/\ib y/\BO L (vW (A3 (10:Int) (DC J.1) (0:Int) y.1 (D5 C.1 E.1))) E.2 t)) (((∃(S:List TK),vK L=vK S/\Az S C.2/\Xt)/\Aa/\Aa/\XB/\ix L C)/\∀(K:TK×RS),K=GX L C.2 [(123:UInt8)]->AO K.2 (YB L K/\UT L K.2 (((∃(S:List TK),vK L=vK S/\Az S K.2/\Ql I7)/\Aa/\Aa/\(Ay/\(Ab (some 11)/\0=0/\4=On/\4=On)/\True)/\YE L K/\(Aa/\Aa/\Aa/\Xi/\Ab N4)/\True)/\∀(E:TK×RS),E=Al (kL (vK L)) K.2 I7->(∃(x:Int),x=Iw (DC E.1)/\Aa/\(iu E x/\Ay/\RC/\Ab (DC J.1)/\(Ab (some 8)/\0=0/\1=1/\1=1)/\(Ab (some 13)/\Aa)/\True)/\ia L E/\(Aa/\True)/\OI y/\(Aa/\Aa/\Aa/\Aa/\True/\Aa/\Ab (Ic C.1)/\Au λ(i:Nat)=>AM i (Ic C.1)->(Aa/\Ab (LT.kind (Cu C.1 i)))/\Ab (LT.text (Cu C.1 i))/\(Aa/\Ab (LT.n (Cu C.1 i)))/\(Aa/\Ab (LT.line (Cu C.1 i)))/\(Aa/\Ab (LT.Ag (Cu C.1 i)))/\(Aa/\Ab (PG C.1 i)/\Au λ(R:Nat)=>AM R (PG C.1 i)->(Aa/\Ab (UU C.1 i R))/\True)/\True)/\YD E)/\∀(x:Int),x=Iw (DC E.1)->RI n L E/\∀(V:PT×RS),V=DI B L E.2->(Nat.blt 20 25=true/\Aa/\BM 1 λ(i:Nat)=>Ge V.1 i)/\iv E/\(∃(W:List PT×RS),dR L B s W/\Aa/\((Ab (some 23)/\Aa/\2=W.1.length/\Aa)/\Ay/\RC/\Ab (DC J.1)/\True)/\(Aa/\Aa/\Aa/\2=Ng W.1/\(True/\Aa/\Ic C.1=List.length (Pw W.1 0)/\Au λ(i:Nat)=>AM i (Ic C.1)->(Aa/\LT.kind (Cu C.1 i)=LT.kind (PC W.1 i))/\LT.text (Cu C.1 i)=LT.text (PC W.1 i)/\(Aa/\LT.n (Cu C.1 i)=LT.n (PC W.1 i))/\(Aa/\LT.line (Cu C.1 i)=LT.line (PC W.1 i))/\(Aa/\LT.Ag (Cu C.1 i)=LT.Ag (PC W.1 i))/\(Aa/\PG C.1 i=List.length (LT.kids (PC W.1 i))/\Au λ(R:Nat)=>AM R (PG C.1 i)->(Aa/\UU C.1 i R=List.getD (LT.kids (PC W.1 i)) R (0:Int))/\True)/\True)/\Aa/\List.length (A3 (9:Int) [] x E.1 (Eu V.1))=List.length (Pw W.1 1)/\Au λ(i:Nat)=>AM i (List.length (A3 (9:Int) [] x E.1 (Eu V.1)))->(Aa/\LT.kind (Oa x E.1 V.1 i)=LT.kind (PJ W.1 i))/\LT.text (Oa x E.1 V.1 i)=LT.text (PJ W.1 i)/\(Aa/\LT.n (Oa x E.1 V.1 i)=LT.n (PJ W.1 i))/\(Aa/\LT.line (Oa x E.1 V.1 i)=LT.line (PJ W.1 i))/\(Aa/\LT.Ag (Oa x E.1 V.1 i)=LT.Ag (PJ W.1 i))/\(Aa/\List.length (LT.kids (Oa x E.1 V.1 i))=List.length (LT.kids (PJ W.1 i))/\Au λ(R:Nat)=>AM R (List.length (LT.kids (Oa x E.1 V.1 i)))->(Aa/\List.getD (LT.kids (Oa x E.1 V.1 i)) R (0:Int)=List.getD (LT.kids (PJ W.1 i)) R (0:Int))/\True)/\True)/\iq L y V W)/\∀(x:List PT×RS),dR L B s x->AO x.2 (RE L x/\UT L x.2 (((∃(S:List TK),vK L=vK S/\Az S x.2/\Ql I7)/\Aa/\Aa/\(Ay/\(Ab (some 27)/\0=0/\4=On/\4=On)/\True)/\ic L x/\(Aa/\Aa/\Aa/\Xi/\Ab N4)/\True)/\∀(U:TK×RS),U=Al (kL (vK L)) x.2 I7->(∃(aa:Int),aa=Iw (DC U.1)/\Aa/\(iu U aa/\Ay/\RC/\Ab (DC J.1)/\(Ab (some 25)/\Ab x.1.length/\Aa)/\(Ab (some 29)/\Aa)/\True)/\ia L U/\(Aa/\True)/\OI y/\(Aa/\True)/\(Aa/\True)/\(Aa/\True)/\(Aa/\True)/\(Aa/\True)/\(Aa/\True)/\(Aa/\Aa/\Aa/\Aa/\Ab (Ng x.1)/\Au λ(i:Nat)=>B8 i (Ng x.1)->(Aa/\Ab (List.length (Pw x.1 i))/\Au λ(R:Nat)=>AM R (List.length (Pw x.1 i))->(Aa/\Ab (LT.kind (Og x.1 i R)))/\Ab (LT.text (Og x.1 i R))/\(Aa/\Ab (LT.n (Og x.1 i R)))/\(Aa/\Ab (LT.line (Og x.1 i R)))/\(Aa/\Ab (LT.Ag (Og x.1 i R)))/\(Aa/\Ab (List.length (LT.kids (Og x.1 i R)))/\Au λ(ad:Nat)=>AM ad (List.length (LT.kids (Og x.1 i R)))->(Aa/\Ab (List.getD (LT.kids (Og x.1 i R)) ad (0:Int)))/\True)/\True)/\True)/\YD U)/\∀(aa:Int),aa=Iw (DC U.1)->RI n L U/\∀(ab:PT×RS),ab=DI B L U.2->(Nat.blt 36 41=true/\Aa/\BM 1 λ(i:Nat)=>Ge ab.1 i)/\Q7 x x.1 (iv U/\∃(x':List PT×RS),dR L B s x'/\DX L x'.2 x.2/\Aa/\((Ab (some 39)/\x.1.length+1=x'.1.length/\Aa)/\Ay/\RC/\Ab (DC J.1)/\True)/\(Aa/\Aa/\Aa/\Aa/\(Fh x)*1=Ng x'.1/\Au λ(i:Nat)=>B8 i ((Fh x)*1)->AH [(3,3),(25,39),(0,0)] (HM x'.1 i) (B0 x.1.length (HM x.1) (λ(x:Nat)=>[vW (A3 (9:Int) [] aa U.1 (Eu ab.1))]) i))/\iq L y ab x')) (RE L x/\∀(U:TK×RS),U=Nh L x.2->(Nat.blt 25 29=true/\(M9 x x.1)/\BM x.1.length λ(i:Nat)=>F9 (HM x.1 i))/\BO L (vW (Xu J.1 y.1 (Py x x.1))) U.2 t)) (RE L x/\∀(U:TK×RS),U=Nh L x.2->(Nat.blt 25 28=true/\(M9 x x.1)/\BM x.1.length λ(i:Nat)=>F9 (HM x.1 i))/\BO L (vW (Xu J.1 y.1 (Py x x.1))) U.2 t)) (YB L K/\∀(E:TK×RS),E=Nh L K.2->(Nat.blt 8 13=true/\Aa/\BM 1 λ(i:Nat)=>Ge C.1 i)/\BO L (vW (Xu J.1 y.1 (Eu C.1))) E.2 t)) (YB L K/\∀(E:TK×RS),E=Nh L K.2->(Nat.blt 8 12=true/\Aa/\BM 1 λ(i:Nat)=>Ge C.1 i)/\BO L (vW (Xu J.1 y.1 (Eu C.1))) E.2 t)))))))
:=by
 delta I7 Lr CY D5 Ay AO Cu Eu AM Lw BO B8 dR GB DX Q7 Ge GD BR M9 N4 Xi T4 JD GX Hl ID dT N8 Oa Pw Px Py Rn Ic KJ DC Fh dc Je Mi HM PJ PC Og Xp Uv PG eG Ng RC Nh On dz Xt Xu eS UT RI UU XB DI RE PX;intro n B Am L s t hp hB ht;simp only[A9,iY,iZ,OI,YC,YD,iv,D1,iw,YE,ix,th,ia,ib,ic,ie,ig,YA,tj,YB,ik,tm,im,iq,iu,DG,Pt,A8,AM,dZ,Ho,Ay,PX,D8,PK,Xs,Xx,N8,Mi,Mb];simp only[Dz];have Am:=hp.ok;have ah:=hp.ns;have ai:=hp.lf;have f:=Iz (ws:=Bt) Am;refine⟨⟨AN ⟨Am,⟨.inr (.inl rfl)⟩⟩,rfl,rfl⟩,λo ho=>?_⟩;have ho:o=Al L s Bt:=ho;have hd:dS L s=(AB L o.2 1).2:=by rw[ho];rfl
 have ht:t=if o.1.text=R8 then(nd 11 [] 0 o.1 [(B L o.2).1],(B L o.2).2)else K7 B L o.1 (AB L o.2 1).1.text (AB L o.2 1).2:=by rw[ht,ho];rfl
 rw[<-ho]at f;have f1:=f.am;have f2:=f.ax;have f3:=f.eo;have f4:=f.er;have f5:=f.ns;have po:Av L n o.2:=⟨f.ok,by omega,by omega⟩;clear ho;refine Aj (λc1=>?_) λc1=>?_
 ·rw[decide_eq_true_eq]at c1;rw[if_pos (show o.1.text=R8 from c1)]at ht;refine⟨AN po,λy hy=>?_⟩;have g:=hB L o.2 po;rw[<-hy]at g ht;have b:=g.DU f.ok (by decide);exact OW rfl (y:=y.1) (by omega) rfl ht
 rw[decide_eq_false_iff_not]at c1;rw[if_neg (show¬o.1.text=R8 from c1)]at ht;refine⟨AN ⟨f.ok,λh=>by cases h⟩,λq hq=>?_⟩;have k:=Gu (k:=1) f.ok (by decide);rw[<-hq]at k ht hd;have k1:=k.am;have k2:=k.ax;have k3:=k.eo;have k4:=k.er;have k5:=k.ns;have pq:Av L n q.2:=⟨k.ok,by omega,by omega⟩;rw[hd];clear hq hd;unfold K7 at ht;refine Aj (λc2=>?_) λc2=>?_
 ·rw[decide_eq_true_eq]at c2;rw[if_pos (show o.1.text=Vp from c2)]at ht;exact⟨AN ⟨k.ok,by decide⟩,λz hz=>MJ (by rw[ht,hz];rfl)⟩
 rw[decide_eq_false_iff_not]at c2;rw[if_neg (show¬o.1.text=Vp from c2)]at ht;refine Aj (λc3=>?_) λc3=>?_
 ·rw[decide_eq_true_eq]at c3;rw[if_pos (show o.1.text=FY from c3)]at ht;refine⟨AN k.ok,λy hy=>?_⟩;have g:=Qb (L:=L) (s:=q.2) k.ok;rw[<-hy]at g ht;have b:=g.DU k.ok (by decide);refine⟨AN ⟨g.ok,by decide⟩,λz hz=>OW rfl (y:=y.1) (by omega) rfl (by rw[ht,hz];rfl)⟩
 rw[decide_eq_false_iff_not]at c3;rw[if_neg (show¬o.1.text=FY from c3)]at ht;refine Aj (λc4=>?_) λc4=>?_
 ·rw[decide_eq_true_eq]at c4;rw[if_pos (show o.1.text=K0 from c4)]at ht;refine⟨AN pq,λy hy=>?_⟩;have g:=hB L q.2 pq;rw[<-hy]at g ht;have b:=g.DU k.ok (by decide);exact OW rfl (y:=y.1) (by omega) rfl ht
 rw[decide_eq_false_iff_not]at c4;rw[if_neg (show¬o.1.text=K0 from c4)]at ht;refine Aj (λc5=>?_) λc5=>?_
 ·rw[decide_eq_true_eq]at c5;rw[if_pos (show o.1.text=Vm from c5)]at ht;refine⟨AN ⟨k.ok,by decide⟩,λv hv=>?_⟩;have hv:v=Aw L q.2 BP:=hv;have d:=G4 (w:=BP) k.ok;unfold Zr at ht;rw[show Aw L q.2 [123]=v from hv.symm];rw[<-hv]at d ht;clear hv;have d1:=d.am;have d2:=d.ax;have d3:=d.eo;have d4:=d.er;have d5:=d.ns;have pv:v.2.err=0->Av L n v.2:=λz=>⟨d.ok,by omega,by omega⟩;refine⟨⟨([],v.2),⟨⟨B7 L,Kz d.ok,rfl⟩,M3 d.ok (by decide)⟩,rfl,Hr rfl⟩,λx hx=>?_⟩;have px:=hx.p;have bx:=px.DU d.ok (by decide);have hl:=Kx x.1;have fin:¬(x.2.err=0/\Ah L x.2 C5=false)->∀ {c:Bool},c=true->(∃M,vK L=vK M/\Az M x.2/\1<=([125]:List UInt8).length)/\∀z,z=Aw L x.2 [125]->(c=true/\(x.1.length<=(Ba x.1).length/\OJ x.1.length (EJ (Ba x.1)))/\BM x.1.length λi=>F9 (EJ (Ba x.1) i))/\ Ir (vK L) (vK L) (vW (A3 3 q.1.text 0 o.1 (B6 x.1.length λi=>F9 (EJ (Ba x.1) i)))) z.2 t:=λhi c hc=>by have e:=Y8 hx hi;exact⟨AN ⟨px.ok,by decide⟩,λz hz=>mM hc (by omega) (by rw[ht,hz,e];rfl)⟩
  refine Aj (λZ=>⟨AN ⟨px.ok,by decide⟩,Aj (λY=>?_) λY=>?_⟩) λZ=>?_
  ·rw[BL]at Z;rw[Bool.not_eq_true']at Y;obtain⟨e0,e1,e2⟩:=Y9 (n:=n) (by decide) cU hx pv Z Y;refine⟨AN ⟨px.ok,λh=>by cases h⟩,λa ha=>?_⟩;have fa:=Gu (k:=1) px.ok (by decide);rw[<-ha]at fa;refine⟨AN fa.ok,λy hy=>?_⟩;have g:=Qb (L:=L) (s:=a.2) fa.ok;rw[<-hy]at g;have b:=g.DU fa.ok (by decide);refine⟨AN ⟨g.ok,by decide⟩,λz hz=>?_⟩;have w:=sy (k:=4) (n:=0) (x:=a.1.text) (tk:=a.1) (y:=y.1) (g:=λi=>[vW (flat y.1)].getD i .As) (by omega) rfl;refine⟨⟨rfl,w.1⟩,An (bL (by rw[Lb];exact Nat.le_refl _) (by omega)) ⟨_,e1,e2,by rw[List.length_append,List.length_singleton],eh x.1 _ ?_,Hr ?_⟩⟩
   ·show [vW (A3 4 a.1.text 0 a.1 (B6 1 λi=>[vW (flat y.1)].getD i .As))]=_;rw[w.2,hy,ha];rfl
   ·rw[hz,hy,ha];rfl
  ·rw[Bool.not_eq_false']at Y;exact fin (λh=>by rw[show Ah L x.2 C5=true from Y]at h;cases h.2) rfl
  ·rw[BU]at Z;exact fin (λh=>Z h.1) rfl
 rw[decide_eq_false_iff_not]at c5;rw[if_neg (show¬o.1.text=Vm from c5)]at ht;refine⟨AN ⟨k.ok,by decide⟩,λp hp=>?_⟩;have hp:p=Aw L q.2 CT:=hp;have d:=G4 (w:=CT) k.ok;rw[show Aw L q.2 [111,110]=p from hp.symm];rw[<-hp]at d ht;have d1:=d.am;have d2:=d.ax;have d3:=d.eo;have d4:=d.er;have d5:=d.ns;refine⟨AN d.ok,λu hu=>?_⟩;have hu:u=BZ L p.2:=hu;have g:=XW (L:=L) (s:=p.2) d.ok;have lb:=zS (L:=L) (q:=p.2) d.ok;rw[<-hu]at g lb ht;have g1:=g.am;have g2:=g.ss;have g3:=g.so;have g4:=g.er;have g5:=g.ns;have bu:=g.DU d.ok (by decide);refine Aj (λZ=>?_) λZ=>?_
 ·rw[decide_eq_true_eq]at Z;rw[if_pos (show o.1.text=fy from Z)]at ht;refine⟨⟨AN ⟨g.ok,⟨.inr (.inr (.inl rfl))⟩⟩,rfl,rfl⟩,λe he=>?_⟩;have he:e=Al L u.2 D9:=he;have w:=Iz (ws:=D9) g.ok;unfold ZY at ht;rw[<-he]at w ht;have w1:=w.am;have w5:=w.ns;have pe:Av L n e.2:=⟨w.ok,by omega,by omega⟩;have b:=hB L e.2 pe;have bb:=b.DU w.ok (by decide);refine Aj (λY=>⟨AN pe,λy hy=>?_⟩) λY=>⟨AN pe,λy hy=>?_⟩
  ·rw[decide_eq_true_eq]at Y;rw[if_pos (show e.1.text=CT from Y),<-hy]at ht;rw[<-hy]at bb;exact Td rfl (y:=u.1) (z:=y.1) (by omega) rfl rfl ht
  ·rw[decide_eq_false_iff_not]at Y;rw[if_neg (show¬e.1.text=CT from Y),<-hy]at ht;rw[<-hy]at bb;exact Td rfl (y:=u.1) (z:=y.1) (by omega) rfl rfl ht
 rw[decide_eq_false_iff_not]at Z;rw[if_neg (show¬o.1.text=fy from Z)]at ht;refine⟨AN ⟨g.ok,by decide⟩,λv hv=>?_⟩;have hv:v=Aw L u.2 BP:=hv;have ag:cR B L q.2=v.2:=by unfold cR;rw[<-hp,<-hu,<-hv]
 have af:nd 29 (AB L p.2 1).1.text 0 (AB L p.2 1).1 []=u.1:=by rw[hu];rfl
 rw[ag,af];unfold Zs at ht;rw[<-hv]at lb ht;have pv:p.2.err=0->Av L n p.2:=λz=>⟨d.ok,by omega,by omega⟩;have l0:Kj L (Bz (Dn B) L) (Bz (Dn B) L (B7 L) [u.1] v.2) 2 6 p.2 ([u.1],v.2):=⟨⟨B7 L,Kz lb.ok,rfl⟩,lb⟩;have ae:¬(v.2.err=0/\Ah L v.2 C5=false)->∀ {c:Bool},c=true->(∃M,vK L=vK M/\Az M v.2/\1<=([125]:List UInt8).length)/\∀z,z=Aw L v.2 [125]->(c=true/\BM 1 λi=>[vW (flat u.1)].getD i .As)/\ Ir (vK L) (vK L) (vW (A3 8 q.1.text 0 o.1 (B6 1 λi=>[vW (flat u.1)].getD i .As))) z.2 t:=λhi c hc=>by have e:=Y8 l0 hi;exact⟨AN ⟨lb.ok,by decide⟩,λz hz=>OW hc (y:=u.1) (by omega) rfl (by rw[ht,hz,e];rfl)⟩
 refine Aj (λY=>⟨AN ⟨lb.ok,by decide⟩,Aj (λc8=>?_) λc8=>?_⟩) λY=>?_
 ·rw[BL]at Y;rw[Bool.not_eq_true']at c8;obtain⟨e0,e1,e2⟩:=Y9 (n:=n) (by decide) (cI hB) l0 pv Y c8;refine zT hB e0 λc y hc hy w=>⟨⟨([u.1]++[(Dn B L v.2).1],(Dn B L v.2).2),e1,rfl,⟨rfl,KS rfl,KS (w.trans rfl)⟩,Hr (by rw[hy,hc];rfl)⟩,λx hx=>?_⟩;have px:=hx.p;have bx:=px.DU d.ok (by decide);have hl:=Kx x.1;have fin:¬(x.2.err=0/\Ah L x.2 C5=false)->∀ {c:Bool},c=true->(∃M,vK L=vK M/\Az M x.2/\1<=([125]:List UInt8).length)/\∀z,z=Aw L x.2 [125]->(c=true/\(x.1.length<=(Ba x.1).length/\OJ x.1.length (EJ (Ba x.1)))/\BM x.1.length λi=>F9 (EJ (Ba x.1) i))/\ Ir (vK L) (vK L) (vW (A3 8 q.1.text 0 o.1 (B6 x.1.length λi=>F9 (EJ (Ba x.1) i)))) z.2 t:=λhi c hc=>by have e:=Y8 hx hi;exact⟨AN ⟨px.ok,by decide⟩,λz hz=>mM hc (by omega) (by rw[ht,hz,e];rfl)⟩
  refine Aj (λZ=>⟨AN ⟨px.ok,by decide⟩,Aj (λY=>?_) λY=>?_⟩) λZ=>?_
  ·rw[BL]at Z;rw[Bool.not_eq_true']at Y;obtain⟨e3,e4,e5⟩:=Y9 (n:=n) (by decide) (cI hB) hx pv Z Y;exact zT hB e3 λc y hc hy w=>An (bL (by rw[Lb];exact Nat.le_refl _) (by omega)) ⟨_,e4,e5,by rw[List.length_append,List.length_singleton],eh x.1 _ (by rw[<-w]),Hr (by rw[hy,hc];rfl)⟩
  ·rw[Bool.not_eq_false']at Y;exact fin (λh=>by rw[show Ah L x.2 C5=true from Y]at h;cases h.2) rfl
  ·rw[BU]at Z;exact fin (λh=>Z h.1) rfl
 ·rw[Bool.not_eq_false']at c8;exact ae (λh=>by rw[show Ah L v.2 C5=true from c8]at h;cases h.2) rfl
 ·rw[BU]at Y;exact ae (λh=>Y h.1) rfl
theorem AkQ:∀(n:Nat) (B:List TK->PF) (Am:E9 63 n B) (L:List TK) (s:RS) (t:PT×RS),Av L n s->GF n 1 2 B->t=Gp B L s->(AG (vj n B Am L s) 60).call 36 [.ptr 0 0] (AU (A0 [Bm (vK L) s] 0)) 1 (Hc (vK L) t):=Eq.mpr (by kernel_rfl) AkT
theorem AhY {n:Nat} {B:List TK->PF} (h:E9 63 n B) (y:GF n 1 2 B):AD Tryz.prog 36 (sF n (Gp B)):=IH λL s q=>⟨vj n B h L s,60,rfl,AW,Bc,λt ht=>AkQ n B h L s t q y ht⟩
structure Kp (s r:RS):Prop where
 e:s.err≠0->r.err=s.err/\r.Bp=s.Bp
 o:r.err=0->r.Bp=s.Bp
def KF (F:PF):Prop:=∀s,Kp s (F s).2
theorem Dd (s:RS):Kp s s:=⟨λ_=>⟨rfl,rfl⟩,λ_=>rfl⟩
theorem Kp.tr {s r u:RS} (h:Kp s r) (k:Kp r u):Kp s u:=by have y:=h.e;have q:=h.o;have k1:=k.e;have k2:=k.o;exact⟨λz=>by omega,λz=>by omega⟩
theorem CE {α:Type} {s:RS} {p:Prop} [Decidable p] {a b:α×RS} (y:p->Kp s a.2) (q:¬p->Kp s b.2):Kp s (if p then a else b).2:=by
 by_cases h:p
 ·rw[if_pos h];exact y h
 ·rw[if_neg h];exact q h
theorem WS (s:RS) {e:Int} (q:e≠0):Kp s (Bj s e):=by
 unfold Bj;split
 ·rename_i h;exact⟨λz=>absurd h z,λz=>absurd z q⟩
 ·exact Dd s
theorem oJ (L:List TK) (s:RS) (b:Bool):Kp s (Ei L s b).2:=by
 unfold Ei;split
 ·exact⟨λ_=>⟨rfl,rfl⟩,λ_=>rfl⟩
 ·exact WS s (by decide)
theorem De (L:List TK) (s:RS) (w:List UInt8):Kp s (Aw L s w).2:=oJ L s _
theorem H6 (L:List TK) (s:RS) (k:Int):Kp s (AB L s k).2:=oJ L s _
theorem GP (L:List TK) (s:RS) (ws:List (List UInt8)):Kp s (Al L s ws).2:=oJ L s _
theorem Ga (s:RS):Kp s (Ai s):=⟨λ_=>⟨rfl,rfl⟩,λ_=>rfl⟩
theorem J1 (s:RS):Kp s (down s):=⟨λ_=>⟨rfl,rfl⟩,λ_=>rfl⟩
theorem cB (L:List TK) (s:RS) (w:List UInt8):Kp s (AQ L s w).2:=by
 refine Kp.tr ?_ (De L (EM L s w) w);unfold EM;split
 ·have:=WS s (e:=5) (by decide);exact⟨this.e,this.o⟩
 ·exact⟨λ_=>⟨rfl,rfl⟩,λ_=>rfl⟩
theorem QU {F:List TK->PF} {L:List TK} (h:KF (F L)):KF (A5 F L):=by intro s;unfold A5;exact CE (λ_=>Dd s) λ_=>h s
theorem NW (L:List TK):KF (BZ L):=λs=>H6 L s 1
theorem NV (L:List TK):KF (B9 L):=λs=>CE (λ_=>Ga s) λ_=>GP L s _
theorem zE {T B:List TK->PF} {L:List TK} (hT:KF (T L)) (q:KF (B L)):KF (firstM T B L):=λs=>
 CE (λ_=>Ga s) λ_=>CE (λ_=>Ga s) λ_=>CE (λ_=>Ga s) λ_=>CE (λ_=>(Ga s).tr (H6 L _ 1)) λ_=>CE (λ_=>(Ga s).tr (QU q _)) λ_=>
  CE (λ_=>(cB L s FD).tr ((QU hT _).tr ((De L _ My).tr (J1 _)))) λ_=>NW L s
theorem AgG {T:List TK->PF} {L:List TK} (hT:KF (T L)) (x:PT) (s:RS):Kp s (Ku T L x s).2:=(cB L s Fq).tr ((QU hT _).tr ((De L _ LJ).tr (J1 _)))
theorem AgF (L:List TK) (x:PT) (s:RS):Kp s (LR L x s).2:=(Ga s).tr (H6 L _ 1)
theorem cE {T:List TK->PF} {L:List TK} (hT:KF (T L)):∀(k:Nat) (x:PT) (s:RS),Kp s (ET T L k x s).2
 |0,x,s=>Dd s
 |k+1,x,s=>by unfold ET;exact CE (λ_=>(AgF L x s).tr (cE hT k _ _)) λ_=>CE (λ_=>(AgG hT x s).tr (cE hT k _ _)) λ_=>Dd s
theorem AgM {T Fi:List TK->PF} {L:List TK} (hT:KF (T L)) (q:KF (Fi L)):KF (KV T Fi L):=λs=>(q s).tr (cE hT _ _ _)
theorem zJ {U:List TK->PF} {L:List TK} (q:KF (U L)) (k:Int) (s:RS):Kp s (LH k U L s).2:=(cB L s _).tr ((QU q _).tr (J1 _))
theorem AgN {U y:List TK->PF} {L:List TK} (q:KF (U L)) (hT:KF (y L)):KF (Ij U y L):=λs=>
 CE (λ_=>zJ q 35 s) λ_=>CE (λ_=>zJ q 34 s) λ_=>hT s
theorem oI {F:List TK->PF} {L:List TK} (q:KF (F L)) (x:PT) (s:RS):Kp s (Fw F L x s).2:=(Ga s).tr (q _)
theorem WL {F:List TK->PF} {L:List TK} {ws:List (List UInt8)} (q:KF (F L)):∀(k:Nat) (x:PT) (s:RS),Kp s (Df F ws L k x s).2
 |0,x,s=>Dd s
 |k+1,x,s=>by unfold Df;exact CE (λ_=>(oI q x s).tr (WL q k _ _)) λ_=>Dd s
theorem WM {F:List TK->PF} {L:List TK} {ws:List (List UInt8)} (q:KF (F L)):KF (DE F ws L):=λs=>(q s).tr (WL q _ _ _)
theorem AgL {F:List TK->PF} {L:List TK} (q:KF (F L)):KF (JM F L):=λs=>CE (λ_=>(q s).tr (oI q _ _)) λ_=>q s
theorem AgO {q:List TK->PF} {L:List TK} (hT:KF (q L)):KF (KY q L):=λs=>(hT s).tr (Eo (P:=λr:RS=>Kp (q L s).2 r) (λ_=>WS _ (by decide)) λ_=>Dd _)
theorem AgJ {V T:List TK->PF} {L:List TK} (q:KF (V L)) (hT:KF (T L)) (t:TK):KF (G3 V T L t):=λs=>(q s).tr ((De L _ _).tr ((hT _).tr (De L _ _)))
theorem AgH {T B:List TK->PF} {L:List TK} (hT:KF (T L)) (q:KF (B L)) (t:TK) (s:RS):Kp s (NQ T B L t s).2:=CE (λ_=>(hT s).tr (q _)) λ_=>CE (λ_=>(hT s).tr ((q _).tr ((Ga _).tr (q _)))) λ_=>(hT s).tr (q _)
theorem zC {T B:List TK->PF} {L:List TK} (hT:KF (T L)) (q:KF (B L)):KF (HV T B L):=λs=>(Ga s).tr (AgH hT q _ _)
theorem WN {V:List TK->PF} {L:List TK} (q:KF (V L)) (k:Int) (x:List UInt8) (n:Int) (t:TK) (y:PT) (s:RS):Kp s (Ii V L k x n t y s).2:=CE (λ_=>(Ga s).tr (q _)) λ_=>Dd s
theorem zG {T V:List TK->PF} {L:List TK} (hT:KF (T L)) (y:KF (V L)) (t q:TK) (s:RS):Kp s (N0 T V L t q s).2:=CE (λ_=>(hT s).tr ((Ga _).tr ((H6 L _ 3).tr (WN y _ _ _ _ _ _)))) λ_=>CE (λ_=>(hT s).tr ((Ga _).tr (WN y _ _ _ _ _ _))) λ_=>(hT s).tr (WN y _ _ _ _ _ _)
theorem zF {T V:List TK->PF} {L:List TK} (hT:KF (T L)) (q:KF (V L)):KF (Gd T V L):=λs=>
 CE (λ_=>(Ga s).tr ((H6 L _ 1).tr (zG hT q _ _ _))) λ_=>(Ga s).tr ((hT _).tr (WN q _ _ _ _ _ _))
theorem QV {L:List TK} {s:RS} {r:PT×RS} (h:Kp s r.2):Kp s (C4 L r).2:=h.tr (De L _ _)
theorem AgQ {T:List TK->PF} {L:List TK} (hT:KF (T L)) (t:TK) (k:TK×RS):Kp k.2 (R3 T L t k).2:=(NV L k.2).tr ((De L _ _).tr (hT _))
theorem AgK {Se:List TK->TK->PF} {Br Po T:List TK->PF} {L:List TK} (B:∀t,KF (Se L t)) (C:KF (Br L)) (hP:KF (Po L)) (hT:KF (T L)):KF (CK Se Br Po T L):=λs=>by
 have q:∀k,Kp s (C4 L (Iy T L k (Aq L s) (Ai s))).2:=λk=>QV ((Ga s).tr (hT _));have y:∀k,Kp s (C4 L (KB L k (Aq L s) (Ai s))).2:=λk=>QV ((Ga s).tr (H6 L _ 1));unfold CK;exact CE (λ_=>B _ s) λ_=>CE (λ_=>C s) λ_=>CE (λ_=>C s) λ_=>CE (λ_=>QV ((Ga s).tr ((H6 L _ 1).tr (AgQ hT _ _)))) λ_=>CE (λ_=>q 15) λ_=>CE (λ_=>q 16) λ_=>CE (λ_=>q 17) λ_=>
  CE (λ_=>q 18) λ_=>CE (λ_=>QV (hP s)) λ_=>CE (λ_=>QV (hP s)) λ_=>CE (λ_=>y 21) λ_=>CE (λ_=>y 22) λ_=>CE (λ_=>QV (Ga s)) λ_=>B _ s
theorem Lh {St:List TK->PF} {L:List TK} (q:KF (St L)):∀(k:Nat) (l:List PT) (s:RS),Kp s (Bz St L k l s).2
 |0,l,s=>Dd s
 |k+1,l,s=>by unfold Bz;exact CE (λ_=>(q s).tr (Lh q k _ _)) λ_=>Dd s
theorem AgD {St:List TK->PF} {L:List TK} (q:KF (St L)):KF (Kl St L):=λs=>(cB L s _).tr ((Lh q _ _ _).tr ((De L _ _).tr (J1 _)))
structure Qf (L:List TK) (x:LV):Prop where
 u:KF (x.u L)
 t:KF (x.t L)
 b:KF (x.b L)
theorem oK {L:List TK} {x:LV} (h:Qf L x):KF (Np x L):=AgM h.t (zE h.t h.b)
theorem WR {L:List TK} {x:LV} (h:Qf L x):KF (HT x L):=AgN h.u (oK h)
theorem QW {L:List TK} {x:LV} (h:Qf L x):KF (Fm x L):=AgL (WM (F:=DE (HT x) [E7]) (WM (WR h)))
theorem oL {L:List TK} {x:LV} (h:Qf L x):KF (IL x L):=AgO (oK h)
theorem zI {L:List TK} {x:LV} (h:Qf L x):KF (KU x L):=AgK (Se:=λL t=>G3 (IL x) (Fm x) L t) (λt=>AgJ (oL h) (QW h) t) (zC (QW h) h.b) (zF (QW h) (oL h)) (QW h)
theorem TD (L:List TK):∀n,Qf L (lv n)
 |0=>⟨λs=>Dd s,λs=>Dd s,λs=>Dd s⟩
 |n+1=>⟨WR (TD L n),QW (TD L n),AgD (zI (TD L n))⟩
theorem cA (L:List TK):KF (EI L):=λs=>(H6 L s 1).tr ((NV L _).tr (De L _ _))
theorem WK {B:List TK->PF} {L:List TK} (q:KF (B L)):KF (Dn B L):=λs=>(GP L s _).tr (q _)
theorem AgE {B:List TK->PF} {L:List TK} (q:KF (B L)):KF (Gp B L):=λs=>
 CE (λ_=>(GP L s _).tr (q _)) λ_=>(GP L s _).tr ((H6 L _ 1).tr (by
  unfold K7;refine CE (λ_=>De L _ _) λ_=>CE (λ_=>(NV L _).tr (De L _ _)) λ_=>CE (λ_=>q _) λ_=>CE (λ_=>(De L _ _).tr ((Lh (cA L) _ _ _).tr (De L _ _))) λ_=>
   CE (λ_=>(De L _ _).tr ((NW L _).tr ((GP L _ _).tr (q _)))) λ_=>(De L _ _).tr ((NW L _).tr ((De L _ _).tr ((Lh (WK q) _ _ _).tr (De L _ _))))))
end Go.Proofs.YtlmmbanfhjaioaaGreatDoor
end
end
