/- Laid by program out of its parts: PaV, PaW. -/
import Derived.Test.YtlmmbanfhjaioaaGreatDoorPa2
noncomputable section
set_option linter.unusedVariables false
set_option linter.unusedSimpArgs false
section
set_option maxRecDepth 100000
set_option maxHeartbeats 2000000
open Go Go.Ev
namespace Go.Proofs.YtlmmbanfhjaioaaGreatDoor
def UD:Ac:=[108,111,111,112,101,114]
def Rn:Ac:=[99,108,97,115,115]
def cq:Ac:=[99,111,109,112]
def WR:Ac:=[101,118,101,110,116]
def PJ:Ac:=[109,97,105,110]
def JS:Ac:=[111,110]
def cr:Ac:=[99,114,101,97,116,101]
def cw:Ac:=[115,116,97,114,116]
def cy:Ac:=[115,116,111,112]
def cu:Ac:=[100,101,115,116,114,111,121]
def F0 (L:Ab):PF:=λs=>(nd 4 (A6 L s 1).1.text 0 (A6 L s 1).1 [(Eg L (A6 L s 1).2).1],(BE L (Eg L (A6 L s 1).2).2 IM).2)
def Y0 (x:Ac):Int:=if x=cr then 0 else if x=cw then 1 else if x=cy then 2 else if x=cu then 3 else 0
def E0 (B:Ab->PF) (L:Ab):PF:=λs=>(nd 9 [] (Y0 (Aq L s B1).1.text) (Aq L s B1).1 [(B L (Aq L s B1).2).1],(B L (Aq L s B1).2).2)
def XX (L:Ab) (t:TK) (x:Ac) (s:RS):PT×RS:=(nd 3 x 0 t (CY F0 L (B3 L) [] (BE L s D6).2).1,(BE L (CY F0 L (B3 L) [] (BE L s D6).2).2 Fw).2)
def Yr (B:Ab->PF) (L:Ab) (t:TK) (x:Ac) (u:PT) (s:RS):PT×RS:=(nd 10 x (if(Aq L s LP).1.text=JS then 1 else 0) t [u,(B L (Aq L s LP).2).1],(B L (Aq L s LP).2).2)
def XY (B:Ab->PF) (L:Ab) (t:TK) (x:Ac) (u:PT) (s:RS):PT×RS:=(nd 8 x 0 t (CY (E0 B) L (B3 L) [u] (BE L s D6).2).1,(BE L (CY (E0 B) L (B3 L) [u] (BE L s D6).2).2 Fw).2)
def Kz (B:Ab->PF) (L:Ab) (t:TK) (x:Ac) (s:RS):PT×RS:=
 if t.text=UD then(nd 2 x 0 t [],(BE L s IM).2)
 else if t.text=EX then(nd 6 x 0 t [(Eg L s).1],(BE L (Eg L s).2 IM).2)
 else if t.text=Iq then(nd 7 x 0 t [(B L s).1],(B L s).2)
 else if t.text=Rn then XX L t x s
 else if t.text=WR then Yr B L t x (Eh L (BE L s JS).2).1 (Eh L (BE L s JS).2).2
 else XY B L t x (Eh L (BE L s JS).2).1 (Eh L (BE L s JS).2).2
def Gm (B:Ab->PF) (L:Ab):PF:=λs=>
 if(Aq L s CV).1.text=PJ then(nd 11 [] 0 (Aq L s CV).1 [(B L (Aq L s CV).2).1],(B L (Aq L s CV).2).2)
 else Kz B L (Aq L s CV).1 (A6 L (Aq L s CV).2 1).1.text (A6 L (Aq L s CV).2 1).2
def dS (L:Ab) (s:RS):RS:=(A6 L (Aq L s CV).2 1).2
theorem kG {n:Nat}:GF n 3 4 F0:=by
 intro L s B;have AA:=B.ok;have f:=I3 (k:=1) AA (by decide);unfold F0;generalize(A6 L s 1)=q at f⊢;have U:=f.am;have S:=f.ax;have R:=f.eo;have O:=f.er;have M:=f.ns;have g:=Ux (L:=L) (s:=q.2) f.ok;generalize Eg L q.2=y at g⊢;have K:=g.am;have g2:=g.ss;have g3:=g.so;have J:=g.er;have E:=g.ns;have C:=F9 y.1;have e:=JK (w:=IM) g.ok;generalize(BE L y.2 IM).2=u at e⊢;have e1:=e.am;have Z:=e.ax;have Y:=e.eo;have W:=e.er;have V:=e.ns;refine⟨e.ok,by show u.nest=_;omega,by show _<=u.at_;omega,λz=>⟨by show u.err≠0;omega,by show u.at_=_;omega,?_⟩,?_,λz=>?_⟩
 ·show((sz _:Nat):Int)<=3;rw[Hy];omega
 ·show((sz _:Nat):Int)<=3*(u.at_-s.at_)+4;rw[Hy];omega
 ·have z:u.err=0:=z;show((sz _:Nat):Int)<=3*(u.at_-s.at_);rw[Hy];omega
theorem uw {n:Nat} {B:Ab->PF} (E:GF n 1 2 B):GF n 3 4 (E0 B):=by
 intro L s C;have AA:=C.ok;have J:=C.ns;have K:=C.lf;have f:=Kb (ws:=B1) AA;unfold E0;generalize(Aq L s B1)=q at f⊢;have Z:=f.am;have Y:=f.ax;have W:=f.eo;have V:=f.er;have U:=f.ns;have g:=E L q.2 ⟨f.ok,by omega,by omega⟩;generalize B L q.2=y at g⊢;have S:=g.am;have g2:=g.ss;have g3:=g.so;have R:=g.er;have O:=g.ns;have M:=F9 y.1;refine⟨g.ok,by show y.2.nest=_;omega,by show _<=y.2.at_;omega,λz=>⟨by show y.2.err≠0;omega,by show y.2.at_=_;omega,?_⟩,?_,λz=>?_⟩
 ·show((sz _:Nat):Int)<=3;rw[Hy];omega
 ·show((sz _:Nat):Int)<=3*(y.2.at_-s.at_)+4;rw[Hy];omega
 ·have z:y.2.err=0:=z;show((sz _:Nat):Int)<=3*(y.2.at_-s.at_);rw[Hy];omega
theorem Hi.le {L:Ab} {E C:Int} {s:RS} {r:Av×RS} (h:Hi L E C s r):(BG r.1:Int)<=3*(r.2.at_-s.at_)+C:=h.ss
theorem Aen {L:Ab} {q:RS} (h:CD L q):Hi L 2 6 q ([(Eh L q).1],(BE L (Eh L q).2 D6).2):=by
 have g:=cZ (L:=L) (s:=q) h;generalize Eh L q=u at g⊢;have E:=g.am;have g2:=g.ss;have g3:=g.so;have C:=g.er;have B:=g.ns;have y:=F9 u.1;have e:=JK (w:=D6) g.ok;generalize(BE L u.2 D6).2=v at e⊢;have R:=e.am;have O:=e.ax;have M:=e.eo;have K:=e.er;have J:=e.ns;have hz:BG [u.1]=sz u.1:=by rw[Cc,Hf];rfl
 refine⟨e.ok,by show v.nest=_;omega,by show _<=v.at_;omega,λz=>⟨by show v.err≠0;omega,by show v.at_=_;omega,?_⟩,?_,λz=>?_⟩
 ·show((BG [u.1]:Nat):Int)<=2;rw[hz];omega
 ·show((BG [u.1]:Nat):Int)<=3*(v.at_-q.at_)+6;rw[hz];omega
 ·have z:v.err=0:=z;show((BG [u.1]:Nat):Int)<=3*(v.at_-q.at_);rw[hz];omega
theorem yR {L:Ab} {E C:Int} {s q:RS} {r:Av×RS} {k n:Int} {x:Ac} {t:TK} (h:Hi L E C q r) (K:C<=6) (J:E<=2) (hn:q.nest=s.nest) (B:s.at_<=q.at_) (M:q.err=0->s.at_+2<=q.at_) (y:s.err≠0->q.err≠0/\q.at_=s.at_):CA L 3 4 s (nd k x n t r.1,(BE L r.2 Fw).2):=by
 have S:=h.am;have g2:=h.ss;have g3:=h.so;have R:=h.er;have O:=h.ns;have e:=JK (w:=Fw) h.ok;generalize(BE L r.2 Fw).2=v at e⊢;have Z:=e.am;have Y:=e.ax;have W:=e.eo;have V:=e.er;have U:=e.ns;refine⟨e.ok,by show v.nest=_;omega,by show _<=v.at_;omega,λz=>⟨by show v.err≠0;omega,by show v.at_=_;omega,?_⟩,?_,λz=>?_⟩
 ·show((sz _:Nat):Int)<=3;rw[My];omega
 ·show((sz _:Nat):Int)<=3*(v.at_-s.at_)+4;rw[My];omega
 ·have z:v.err=0:=z;show((sz _:Nat):Int)<=3*(v.at_-s.at_);rw[My];omega
theorem Af9 {L:Ab} {s:RS} {ws:List Ac} {w:Ac} (q:w≠[]) (h:(Aq L s ws).1.text=w):(Aq L s ws).2=Au s/\s.err=0/\s.at_<L.length:=by
 unfold Aq FI at h⊢;split at h
 ·rename_i e;rw[Am e];obtain⟨v,_,hv⟩:=List.any_eq_true.1 e;exact⟨rfl,J6 hv,Dz hv⟩
 ·exact absurd h (λe=>q e.symm)
theorem Abz {n:Nat} {B:Ab->PF} (R:GF n 1 2 B):GF n 3 4 (Gm B):=by
 intro L s O;have AA:=O.ok;have aa:=O.ns;have ab:=O.lf;have f:=Kb (ws:=CV) AA;have tx:∀w,w≠[]->(Aq L s CV).1.text=w->s.err=0/\(Aq L s CV).2.at_=s.at_+1:=λw Z h=>by obtain⟨U,S,_⟩:=Af9 Z h;exact⟨S,by rw[U];rfl⟩
 unfold Gm;generalize(Aq L s CV)=o at f tx⊢;have f1:=f.am;have f2:=f.ax;have f3:=f.eo;have f4:=f.er;have f5:=f.ns;have J:∀(k:Int) (x:Ac) (q:RS),CD L q->q.nest=s.nest->s.at_+1<=q.at_->s.err=0->CA L 3 4 s (nd k x 0 o.1 [(B L q).1],(B L q).2):=λk x q hq U S h3=>by
  have d:=R L q ⟨hq,by omega,by omega⟩;generalize B L q=r at d⊢;have M:=d.am;have W:=d.ss;have V:=d.so;have K:=d.ns;refine⟨d.ok,by show r.2.nest=_;omega,by show _<=r.2.at_;omega,λz=>absurd h3 z,?_,λz=>?_⟩
  ·show((sz _:Nat):Int)<=3*(r.2.at_-s.at_)+4;rw[Hy];omega
  ·have z:r.2.err=0:=z;show((sz _:Nat):Int)<=3*(r.2.at_-s.at_);rw[Hy];omega
 refine EN (P:=CA L 3 4 s) (λe=>?_) λ_=>?_
 ·have:=tx _ (by decide) e;exact J 11 [] o.2 f.ok f5 (by omega) this.1
 have k:=I3 (k:=1) f.ok (by decide);generalize(A6 L o.2 1)=q at k⊢;have k1:=k.am;have k2:=k.ax;have k3:=k.eo;have k4:=k.er;have k5:=k.ns;unfold Kz;refine EN (P:=CA L 3 4 s) (λe=>?_) λ_=>EN (P:=CA L 3 4 s) (λe=>?_) λ_=>EN (P:=CA L 3 4 s) (λe=>?_) λ_=>EN (P:=CA L 3 4 s) (λe=>?_) λ_=>?_
 ·have:=tx _ (by decide) e;have d:=JK (w:=IM) k.ok;generalize(BE L q.2 IM).2=v at d⊢;have M:=d.am;have K:=d.ns;refine⟨d.ok,by show v.nest=_;omega,by show _<=v.at_;omega,λz=>absurd this.1 z,?_,λz=>?_⟩
  ·show((sz _:Nat):Int)<=3*(v.at_-s.at_)+4;rw[K4];omega
  ·show((sz _:Nat):Int)<=3*(v.at_-s.at_);rw[K4];omega
 ·have:=tx _ (by decide) e;have g:=Ux (L:=L) (s:=q.2) k.ok;generalize Eg L q.2=y at g⊢;have g1:=g.am;have g2:=g.ss;have g3:=g.so;have g5:=g.ns;have d:=JK (w:=IM) g.ok;generalize(BE L y.2 IM).2=v at d⊢;have M:=d.am;have K:=d.ns;refine⟨d.ok,by show v.nest=_;omega,by show _<=v.at_;omega,λz=>absurd this.1 z,?_,λz=>?_⟩
  ·show((sz _:Nat):Int)<=3*(v.at_-s.at_)+4;rw[Hy];omega
  ·show((sz _:Nat):Int)<=3*(v.at_-s.at_);rw[Hy];omega
 ·have:=tx _ (by decide) e;exact J 7 _ q.2 k.ok (by omega) (by omega) this.1
 ·have d:=JK (w:=D6) k.ok;unfold XX;generalize(BE L q.2 D6).2=v at d⊢;have M:=d.am;have W:=d.ax;have V:=d.eo;have d4:=d.er;have K:=d.ns;have pl:=XG (E:=0) (C:=4) (by decide) (kG (n:=n)) (L:=L) (s0:=v) (λz=>⟨d.ok,by omega,by omega⟩) (B3 L) [] v (QM d.ok (by decide));exact yR pl (by decide) (by decide) (by omega) (by omega) (λz=>by omega) λz=>⟨by omega,by omega⟩
 have d:=JK (w:=JS) k.ok;generalize(BE L q.2 JS).2=v at d⊢;have M:=d.am;have W:=d.ax;have V:=d.eo;have d4:=d.er;have K:=d.ns;have u:=cZ (L:=L) (s:=v) d.ok;have Y:=Aen (L:=L) (q:=v) d.ok;refine EN (P:=CA L 3 4 s) (λe=>?_) λ_=>?_
 ·have ee:=tx _ (by decide) e;generalize Eh L v=y at u⊢;have u1:=u.am;have u2:=u.ss;have u3:=u.so;have u4:=u.er;have u5:=u.ns;unfold Yr;have w:=Kb (ws:=LP) u.ok;generalize(Aq L y.2 LP)=c at w⊢;have w1:=w.am;have w2:=w.ax;have w3:=w.eo;have w4:=w.er;have w5:=w.ns;have b:=R L c.2 ⟨w.ok,by omega,by omega⟩;generalize B L c.2=r at b⊢;have b1:=b.am;have b2:=b.ss;have b3:=b.so;have b5:=b.ns;refine⟨b.ok,by show r.2.nest=_;omega,by show _<=r.2.at_;omega,λz=>absurd ee.1 z,?_,λz=>?_⟩
  ·show((sz _:Nat):Int)<=3*(r.2.at_-s.at_)+4;rw[JM];omega
  ·have z:r.2.err=0:=z;show((sz _:Nat):Int)<=3*(r.2.at_-s.at_);rw[JM];omega
 ·unfold XY;have pl:=XG (E:=2) (C:=6) (by decide) (uw R) (L:=L) (s0:=v) (λz=>⟨d.ok,by omega,by omega⟩) (B3 L) _ _ Y;exact yR pl (by decide) (by decide) (by omega) (by omega) (λz=>by omega) λz=>⟨by omega,by omega⟩
@[reducible] def nu:TK×RS->Prop:=λ(a:TK×RS)=>(Gq a.1/\True)/\True
@[reducible] def nv:TK×RS->Prop:=λ(a:TK×RS)=>nu a/\True
@[reducible] def UW:TK×RS->Prop:=λ(a:TK×RS)=>Aa/\Aa/\Aa/\Aa/\(Wd a.1)/\Aa/\Af (TK.Ao a.1)
@[reducible] def Aaj:TK×RS->Prop:=λ(a:TK×RS)=>Bn/\Bn/\nv a
@[reducible] def Aak:TK×RS->Prop:=λ(a:TK×RS)=>(Aa/\True)/\UW a/\True
@[reducible] def AmY:TK×RS->Prop:=λ(a:TK×RS)=>Bn/\Aaj a
@[reducible] def Aal:Ab->PT×RS->Prop:=λ(L:Ab) (a:PT×RS)=>Aa/\Aa/\Aa/\(Zu L a.2)/\Aa/\Q6 a.2
@[reducible] def oA:Ab->TK×RS->Prop:=λ(L:Ab) (a:TK×RS)=>Aa/\Aa/\Aa/\(Zu L a.2)/\Aa/\Q6 a.2
@[reducible] def Aam:Ab->PT×RS->Prop:=λ(L:Ab) (a:PT×RS)=>Aal L a/\True
@[reducible] def ny:Ab->TK×RS->Prop:=λ(L:Ab) (a:TK×RS)=>oA L a/\True
@[reducible] def AmO:Ab->TK×RS->Prop:=λ(L:Ab) (a:TK×RS)=>Aa/\oA L a
@[reducible] def AmP:TK×RS->Prop:=λ(a:TK×RS)=>Bn/\Bn/\nu a/\nv a
@[reducible] def Aah:Ab->Av×RS->Prop:=λ(L:Ab) (a:Av×RS)=>Aa/\Aa/\Aa/\(Zu L a.2)/\Aa/\Q6 a.2
@[reducible] def Aai:Ab->Av×RS->Prop:=λ(L:Ab) (a:Av×RS)=>Aah L a/\True
@[reducible] def nz:Ab->TK×RS->Prop:=λ(L:Ab) (a:TK×RS)=>Aa/\Aa/\(Cx/\True)/\ny L a
@[reducible] def AmQ:Ab->TK×RS->Prop:=λ(L:Ab) (a:TK×RS)=>(ZR L a.2)/\nz L a
@[reducible] def AmR:Nat->Ab->TK×RS->Prop:=λ(n:Nat) (L:Ab) (a:TK×RS)=>(∃(q:Ab),vK L=vK q/\Bb q n a.2)/\nz L a
@[reducible] def AmS:Ab->TK×RS->Prop:=λ(L:Ab) (a:TK×RS)=>(lH L a.2)/\Aa/\Aa/\l9/\ny L a
@[reducible] def AmT:Ab->PT×RS->Prop:=λ(L:Ab) (a:PT×RS)=>(lI L a.2)/\Aa/\Aa/\la/\Aam L a
@[reducible] def AmU:Ab->Av×RS->Prop:=λ(L:Ab) (a:Av×RS)=>(lH L a.2)/\Aa/\Aa/\l9/\Aai L a
@[reducible] def AmV:Ab->TK×RS->TK×RS->Av×RS->Prop:=λ(L:Ab) (a y:TK×RS) (q:Av×RS)=>(lF L y.2 q.2)/\Aak a
@[reducible] def AmW:Ab->TK×RS->PT×RS->Av×RS->Prop:=λ(L:Ab) (a:TK×RS) (y:PT×RS) (q:Av×RS)=>(lF L y.2 q.2)/\(Aa/\True)/\UW a/\(Aa/\True)/\(Aa/\True)/\(Aa/\True)/\(Aa/\True)/\(Aa/\True)/\(Aa/\True)/\True
@[reducible] def AmX:TK×RS->Int->Prop:=λ(a:TK×RS) (q:Int)=>Aa/\(bif decide (TK.text a.1=[(99:UInt8),114,101,97,116,101])then(0:Int)else bif decide (TK.text a.1=[(115:UInt8),116,97,114,116])then(1:Int)else bif decide (TK.text a.1=[(115:UInt8),116,111,112])then(2:Int)else bif decide (TK.text a.1=[(100:UInt8),101,115,116,114,111,121])then(3:Int)else(0:Int))=q
structure Kp (s r:RS):Prop where
 e:s.err≠0->r.err=s.err/\r.DM=s.DM
 o:r.err=0->r.DM=s.DM
def KF (F:PF):Prop:=∀s,Kp s (F s).2
theorem Du (s:RS):Kp s s:=⟨λ_=>⟨rfl,rfl⟩,λ_=>rfl⟩
theorem Kp.tr {s r u:RS} (h:Kp s r) (k:Kp r u):Kp s u:=by have y:=h.e;have q:=h.o;have k1:=k.e;have k2:=k.o;exact⟨λz=>by omega,λz=>by omega⟩
theorem CN {α:Type} {s:RS} {p:Prop} [Decidable p] {a b:α×RS} (y:p->Kp s a.2) (q:¬p->Kp s b.2):Kp s (if p then a else b).2:=by
 by_cases h:p
 ·rw[Am h];exact y h
 ·rw[Ad h];exact q h
theorem YW (s:RS) {e:Int} (q:e≠0):Kp s (CK s e):=by
 unfold CK;split
 ·rename_i h;exact⟨λz=>absurd h z,λz=>absurd z q⟩
 ·exact Du s
theorem jo (L:Ab) (s:RS) (b:Bool):Kp s (FI L s b).2:=by
 unfold FI;split
 ·exact⟨λ_=>⟨rfl,rfl⟩,λ_=>rfl⟩
 ·exact YW s (by decide)
theorem Dk (L:Ab) (s:RS) (w:Ac):Kp s (BE L s w).2:=jo L s _
theorem Ia (L:Ab) (s:RS) (k:Int):Kp s (A6 L s k).2:=jo L s _
theorem G7 (L:Ab) (s:RS) (ws:List Ac):Kp s (Aq L s ws).2:=jo L s _
theorem GJ (s:RS):Kp s (Au s):=⟨λ_=>⟨rfl,rfl⟩,λ_=>rfl⟩
theorem KJ (s:RS):Kp s (down s):=⟨λ_=>⟨rfl,rfl⟩,λ_=>rfl⟩
theorem YT (L:Ab) (s:RS) (w:Ac):Kp s (B7 L s w).2:=by
 refine Kp.tr ?_ (Dk L (GA L s w) w);unfold GA;split
 ·have:=YW s (e:=5) (by decide);exact⟨this.e,this.o⟩
 ·exact⟨λ_=>⟨rfl,rfl⟩,λ_=>rfl⟩
theorem Qw {F:Ab->PF} {L:Ab} (h:KF (F L)):KF (Fk F L):=by intro s;unfold Fk;exact CN (λ_=>Du s) λ_=>h s
theorem N5 (L:Ab):KF (Eh L):=λs=>Ia L s 1
theorem N4 (L:Ab):KF (Eg L):=λs=>CN (λ_=>GJ s) λ_=>G7 L s _
theorem uY {T B:Ab->PF} {L:Ab} (hT:KF (T L)) (q:KF (B L)):KF (firstM T B L):=λs=>
 CN (λ_=>GJ s) λ_=>CN (λ_=>GJ s) λ_=>CN (λ_=>GJ s) λ_=>CN (λ_=>(GJ s).tr (Ia L _ 1)) λ_=>CN (λ_=>(GJ s).tr (Qw q _)) λ_=>
  CN (λ_=>(YT L s K9).tr ((Qw hT _).tr ((Dk L _ UE).tr (KJ _)))) λ_=>N5 L s
theorem Ad0 {T:Ab->PF} {L:Ab} (hT:KF (T L)) (x:PT) (s:RS):Kp s (Lj T L x s).2:=(YT L s HU).tr ((Qw hT _).tr ((Dk L _ Rp).tr (KJ _)))
theorem AdZ (L:Ab) (x:PT) (s:RS):Kp s (MM L x s).2:=(GJ s).tr (Ia L _ 1)
theorem YV {T:Ab->PF} {L:Ab} (hT:KF (T L)):∀(k:Nat) (x:PT) (s:RS),Kp s (EW T L k x s).2
 |0,x,s=>Du s
 |k+1,x,s=>by unfold EW;exact CN (λ_=>(AdZ L x s).tr (YV hT k _ _)) λ_=>CN (λ_=>(Ad0 hT x s).tr (YV hT k _ _)) λ_=>Du s
theorem Ad6 {T q:Ab->PF} {L:Ab} (hT:KF (T L)) (y:KF (q L)):KF (Rh T q L):=λs=>(y s).tr (YV hT _ _ _)
theorem ua {U:Ab->PF} {L:Ab} (q:KF (U L)) (k:Int) (s:RS):Kp s (Oy k U L s).2:=(YT L s _).tr ((Qw q _).tr (KJ _))
theorem Ad7 {U y:Ab->PF} {L:Ab} (q:KF (U L)) (hT:KF (y L)):KF (LK U y L):=λs=>
 CN (λ_=>ua q 35 s) λ_=>CN (λ_=>ua q 34 s) λ_=>hT s
theorem jn {F:Ab->PF} {L:Ab} (q:KF (F L)) (x:PT) (s:RS):Kp s (Ht F L x s).2:=(GJ s).tr (q _)
theorem VP {F:Ab->PF} {L:Ab} {ws:List Ac} (q:KF (F L)):∀(k:Nat) (x:PT) (s:RS),Kp s (Ee F ws L k x s).2
 |0,x,s=>Du s
 |k+1,x,s=>by unfold Ee;exact CN (λ_=>(jn q x s).tr (VP q k _ _)) λ_=>Du s
theorem VQ {F:Ab->PF} {L:Ab} {ws:List Ac} (q:KF (F L)):KF (F6 F ws L):=λs=>(q s).tr (VP q _ _ _)
theorem Ad5 {F:Ab->PF} {L:Ab} (q:KF (F L)):KF (LJ F L):=λs=>CN (λ_=>(q s).tr (jn q _ _)) λ_=>q s
theorem Ad8 {q:Ab->PF} {L:Ab} (hT:KF (q L)):KF (OA q L):=λs=>(hT s).tr (EN (P:=λr:RS=>Kp (q L s).2 r) (λ_=>YW _ (by decide)) λ_=>Du _)
theorem Ad3 {V T:Ab->PF} {L:Ab} (q:KF (V L)) (hT:KF (T L)) (t:TK):KF (LH V T L t):=λs=>(q s).tr ((Dk L _ _).tr ((hT _).tr (Dk L _ _)))
theorem Ad1 {T B:Ab->PF} {L:Ab} (hT:KF (T L)) (q:KF (B L)) (t:TK) (s:RS):Kp s (NX T B L t s).2:=CN (λ_=>(hT s).tr (q _)) λ_=>CN (λ_=>(hT s).tr ((q _).tr ((GJ _).tr (q _)))) λ_=>(hT s).tr (q _)
theorem uW {T B:Ab->PF} {L:Ab} (hT:KF (T L)) (q:KF (B L)):KF (NJ T B L):=λs=>(GJ s).tr (Ad1 hT q _ _)
theorem VS {V:Ab->PF} {L:Ab} (q:KF (V L)) (k:Int) (x:Ac) (n:Int) (t:TK) (y:PT) (s:RS):Kp s (JN V L k x n t y s).2:=CN (λ_=>(GJ s).tr (q _)) λ_=>Du s
theorem u6 {T V:Ab->PF} {L:Ab} (hT:KF (T L)) (y:KF (V L)) (t q:TK) (s:RS):Kp s (QN T V L t q s).2:=CN (λ_=>(hT s).tr ((GJ _).tr ((Ia L _ 3).tr (VS y _ _ _ _ _ _)))) λ_=>CN (λ_=>(hT s).tr ((GJ _).tr (VS y _ _ _ _ _ _))) λ_=>(hT s).tr (VS y _ _ _ _ _ _)
theorem uZ {T V:Ab->PF} {L:Ab} (hT:KF (T L)) (q:KF (V L)):KF (Jw T V L):=λs=>
 CN (λ_=>(GJ s).tr ((Ia L _ 1).tr (u6 hT q _ _ _))) λ_=>(GJ s).tr ((hT _).tr (VS q _ _ _ _ _ _))
theorem Qx {L:Ab} {s:RS} {r:PT×RS} (h:Kp s r.2):Kp s (Cz L r).2:=h.tr (Dk L _ _)
theorem Aea {T:Ab->PF} {L:Ab} (hT:KF (T L)) (t:TK) (k:TK×RS):Kp k.2 (OB T L t k).2:=(N4 L k.2).tr ((Dk L _ _).tr (hT _))
theorem Ad4 {Se:Ab->TK->PF} {Br Po T:Ab->PF} {L:Ab} (B:∀t,KF (Se L t)) (C:KF (Br L)) (hP:KF (Po L)) (hT:KF (T L)):KF (BZ Se Br Po T L):=λs=>by
 have q:∀k,Kp s (Cz L (Hs T L k (Ar L s) (Au s))).2:=λk=>Qx ((GJ s).tr (hT _));have y:∀k,Kp s (Cz L (J9 L k (Ar L s) (Au s))).2:=λk=>Qx ((GJ s).tr (Ia L _ 1));unfold BZ;exact CN (λ_=>B _ s) λ_=>CN (λ_=>C s) λ_=>CN (λ_=>C s) λ_=>CN (λ_=>Qx ((GJ s).tr ((Ia L _ 1).tr (Aea hT _ _)))) λ_=>CN (λ_=>q 15) λ_=>CN (λ_=>q 16) λ_=>CN (λ_=>q 17) λ_=>
  CN (λ_=>q 18) λ_=>CN (λ_=>Qx (hP s)) λ_=>CN (λ_=>Qx (hP s)) λ_=>CN (λ_=>y 21) λ_=>CN (λ_=>y 22) λ_=>CN (λ_=>Qx (GJ s)) λ_=>B _ s
theorem Ln {St:Ab->PF} {L:Ab} (q:KF (St L)):∀(k:Nat) (l:Av) (s:RS),Kp s (CY St L k l s).2
 |0,l,s=>Du s
 |k+1,l,s=>by unfold CY;exact CN (λ_=>(q s).tr (Ln q k _ _)) λ_=>Du s
theorem AdX {St:Ab->PF} {L:Ab} (q:KF (St L)):KF (LX St L):=λs=>(YT L s _).tr ((Ln q _ _ _).tr ((Dk L _ _).tr (KJ _)))
structure PO (L:List TK) (x:LV):Prop where
 u:KF (x.u L)
 t:KF (x.t L)
 b:KF (x.b L)
theorem jq {L:Ab} {x:LV} (h:PO L x):KF (Nt x L):=Ad6 h.t (uY h.t h.b)
theorem VU {L:Ab} {x:LV} (h:PO L x):KF (GW x L):=Ad7 h.u (jq h)
theorem Qy {L:Ab} {x:LV} (h:PO L x):KF (EV x L):=Ad5 (VQ (F:=F6 (GW x) [IL]) (VQ (VU h)))
theorem jr {L:Ab} {x:LV} (h:PO L x):KF (Io x L):=Ad8 (jq h)
theorem u9 {L:Ab} {x:LV} (h:PO L x):KF (JL x L):=Ad4 (Se:=λL t=>LH (Io x) (EV x) L t) (λt=>Ad3 (jr h) (Qy h) t) (uW (Qy h) h.b) (uZ (Qy h) (jr h)) (Qy h)
theorem SN (L:Ab):∀n,PO L (lv n)
 |0=>⟨λs=>Du s,λs=>Du s,λs=>Du s⟩
 |n+1=>⟨VU (SN L n),Qy (SN L n),AdX (u9 (SN L n))⟩
theorem YS (L:Ab):KF (F0 L):=λs=>(Ia L s 1).tr ((N4 L _).tr (Dk L _ _))
theorem VO {B:Ab->PF} {L:Ab} (q:KF (B L)):KF (E0 B L):=λs=>(G7 L s _).tr (q _)
theorem AdY {B:Ab->PF} {L:Ab} (q:KF (B L)):KF (Gm B L):=λs=>
 CN (λ_=>(G7 L s _).tr (q _)) λ_=>(G7 L s _).tr ((Ia L _ 1).tr (by
  unfold Kz;refine CN (λ_=>Dk L _ _) λ_=>CN (λ_=>(N4 L _).tr (Dk L _ _)) λ_=>CN (λ_=>q _) λ_=>CN (λ_=>(Dk L _ _).tr ((Ln (YS L) _ _ _).tr (Dk L _ _))) λ_=>
   CN (λ_=>(Dk L _ _).tr ((N5 L _).tr ((G7 L _ _).tr (q _)))) λ_=>(Dk L _ _).tr ((N5 L _).tr ((Dk L _ _).tr ((Ln (VO q) _ _ _).tr (Dk L _ _))))))
end Go.Proofs.YtlmmbanfhjaioaaGreatDoor
end
end
