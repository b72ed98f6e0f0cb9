/- Laid by program out of its parts: PaL, PaM, PaN, PaO, PaP, PaQ, PaR, PaS, PaT, PaU. -/
import Derived.Test.YtlmmbanfhjaioaaGreatDoorPa1
import Derived.Test.YtlmmbanfhjaioaaGreatDoorMh
noncomputable section
set_option linter.unusedVariables false
set_option linter.unusedSimpArgs false
section
set_option maxRecDepth 100000
set_option maxHeartbeats 2000000
open Go Go.Ev
namespace Go.Proofs.YtlmmbanfhjaioaaGreatDoor
structure Bb (L:List TK) (n:Nat) (s:RS):Prop where
 ok:CD L s
 ns:s.nest<=64
 lf:(L.length:Int)-s.at_<n
structure CA (L:List TK) (E C:Int) (s:RS) (r:PT×RS):Prop where
 ok:CD L r.2
 ns:r.2.nest=s.nest
 am:s.at_<=r.2.at_
 er:s.err≠0->r.2.err≠0/\r.2.at_=s.at_/\(sz r.1:Int)<=E
 ss:(sz r.1:Int)<=3*(r.2.at_-s.at_)+C
 so:r.2.err=0->(sz r.1:Int)<=3*(r.2.at_-s.at_)
def GF (n:Nat) (E C:Int) (F:Ab->PF):Prop:=∀L s,Bb L n s->CA L E C s (F L s)
structure W0 (c0 c v:AV) (s:RS) (t:PT×RS):Prop where
 c:c=c0
 v:v=vW (flat t.1)
 s:s=t.2
structure RG (L:List TK) (n:Nat) (s:RS):Prop where
 ok:CD L s
 pe:s.err=0->Bb L n s
def Fk (F:Ab->PF):Ab->PF:=λL s=>if s.err≠0 then(Dm,s)else F L s
def Eh (L:Ab):PF:=λs=>(nd 29 (A6 L s 1).1.text 0 (A6 L s 1).1 [],(A6 L s 1).2)
def Eg (L:Ab):PF:=λs=>if(Ar L s).kind=1 then(nd 5 (Ar L s).text 0 (Ar L s) [],Au s)else(nd 5 (Aq L s LO).1.text 0 (Aq L s LO).1 [],(Aq L s LO).2)
def Ko:Ac:=[110,117,108,108]
def K8:Ac:=[105,116]
def LN:Ac:=[110,101,119]
def Iq:Ac:=[102,110]
def K9:Ac:=[40]
def UE:Ac:=[41]
theorem P0 {L:Ab} {s:RS} (h:(Ar L s).kind≠0):s.err=0:=by
 unfold Ar at h;split at h
 ·exact absurd rfl h
 ·rename_i g;omega
theorem J6 {L:Ab} {s:RS} {w:Ac} (h:As L s w=true):s.err=0:=by unfold As at h;rw[C5,BV]at h;refine P0 (L:=L) λe=>?_;rw[e]at h;have:=h.1;unfold Fl at this;split at this<;>omega
structure PY (L:List TK) (s r:RS):Prop where
 ok:CD L r
 ns:r.nest=s.nest
 am:s.at_<=r.at_
 ax:r.at_<=s.at_+1
 er:s.err≠0->r.err≠0/\r.at_=s.at_
 eo:r.err=0->r.at_=s.at_+1
theorem WW (s:RS) {e:Int} (q:e≠0):(CK s e).err≠0/\(CK s e).at_=s.at_/\(CK s e).nest=s.nest:=by
 unfold CK;split
 ·exact⟨q,rfl,rfl⟩
 ·rename_i h;exact⟨h,rfl,rfl⟩
theorem mw {L:Ab} {s:RS} {b:Bool} (h:CD L s) (B:b=true->s.at_<L.length/\s.err=0):PY L s (FI L s b).2:=by
 have y:=AkP (b:=b) h λe=>(B e).1;have q:=WW s (e:=4) (by decide);unfold FI at y⊢;split at y
 ·rename_i e;rw[Am e];have:=(B e).2;exact⟨y,rfl,show s.at_<=s.at_+1 by omega,show s.at_+1<=s.at_+1 by omega,λh=>absurd this h,λ_=>rfl⟩
 ·rename_i e;rw[Ad e];exact⟨y,q.2.2,by show _<=(CK s 4).at_;omega,by show(CK s 4).at_<=_;omega,λh=>⟨q.1,q.2.1⟩,λh=>absurd h q.1⟩
theorem JK {L:Ab} {s:RS} {w:Ac} (h:CD L s):PY L s (BE L s w).2:=mw h λe=>⟨Dz e,J6 e⟩
theorem I3 {L:Ab} {s:RS} {k:Int} (h:CD L s) (q:k≠0):PY L s (A6 L s k).2:=mw h λe=>have y:(Ar L s).kind=k:=Bt e;⟨P1 (by rw[y];exact q),P0 (by rw[y];exact q)⟩
theorem Kb {L:Ab} {s:RS} {ws:List Ac} (h:CD L s):PY L s (Aq L s ws).2:=by refine mw h λe=>?_;obtain⟨w,_,q⟩:=List.any_eq_true.1 e;exact⟨Dz q,J6 q⟩
structure zk (L:List TK) (s r:RS):Prop where
 ok:CD L r
 ns:r.nest=s.nest+1
 am:s.at_<=r.at_
 ax:r.at_<=s.at_+1
 er:s.err≠0->r.err≠0/\r.at_=s.at_
 eo:r.err=0->r.at_=s.at_+1/\s.nest<64
theorem Zj {L:Ab} {s:RS} {w:Ac} (h:CD L s) (hn:s.nest<=900):zk L s (B7 L s w).2:=by
 have hd:=AbB (w:=w) h hn;have q:=JK (w:=w) hd;have key:(GA L s w).nest=s.nest+1/\(GA L s w).at_=s.at_/\(s.err≠0->(GA L s w).err≠0)/\((GA L s w).err=0->¬(As L s w=true/\64<=s.nest)):=by
  have y:=WW s (e:=5) (by decide);unfold GA;split
  ·exact⟨rfl,y.2.1,λ_=>y.1,λh=>absurd h y.1⟩
  ·rename_i e;exact⟨rfl,rfl,λh=>h,λ_=>e⟩
 obtain⟨k1,k2,k3,k4⟩:=key;have R:=q.ns;have O:=q.am;have M:=q.ax;have C:=q.er;have K:=q.eo;unfold B7;refine⟨q.ok,by omega,by omega,by omega,λe=>by have:=C (k3 e);omega,λe=>⟨by have:=K e;omega,?_⟩⟩;have hz:(GA L s w).err=0:=Classical.byContradiction λhz=>(C hz).1 e;have hi:As L (GA L s w) w=true:=by
  have:(BE L (GA L s w) w).2.err=0:=e;unfold BE FI at this;split at this
  ·rename_i h;exact h
  ·exact absurd this (WW _ (by decide)).1
 have B:As L s w=true:=by have J:=k4 hz;unfold GA at hi;rw[Ad J]at hi;exact hi
 have:=k4 hz;by_cases E:s.nest<64
 ·exact E
 ·exact absurd ⟨B,by omega⟩ this
theorem JY {L:Ab} {s:RS} (h:CD L s) (q:s.at_<L.length):CD L (Au s):=⟨h.len,by have:=h.a0;show 0<=s.at_+1;omega,show s.at_+1<=L.length by omega,h.n0,h.n1⟩
theorem Sb {L:Ab} {s:RS} (h:CD L s) (hn:1<=s.nest):CD L (down s):=⟨h.len,h.a0,h.a1,show 0<=s.nest-1 by omega,by have:=h.n1;show s.nest-1<=1000;omega⟩
theorem K4 (k:Int) (s:Ac) (n:Int) (t:TK):sz (nd k s n t [])=1:=by rw[My,Hf]
theorem Hy (k:Int) (s:Ac) (n:Int) (t:TK) (x:PT):sz (nd k s n t [x])=1+sz x:=by rw[My,Cc,Hf];omega
theorem JM (k:Int) (s:Ac) (n:Int) (t:TK) (x y:PT):sz (nd k s n t [x,y])=1+(sz x+sz y):=by rw[My,Cc,Cc,Hf];omega
theorem yd:sz Dm=1:=by unfold Dm;rw[Im,Hf]
theorem V6 {L:Ab} {s:RS} {k:Int} {x:Ac} {n:Int} {t:TK} {E C:Int} (h:CD L s) (q:s.at_<L.length) (y:s.err=0) (B:0<=C):CA L E C s (nd k x n t [],Au s):=⟨JY h q,rfl,show s.at_<=s.at_+1 by omega,λe=>absurd y e,by show((sz _:Nat):Int)<=3*(s.at_+1-s.at_)+C;rw[K4];omega,λ_=>by show((sz _:Nat):Int)<=3*(s.at_+1-s.at_);rw[K4];omega⟩
theorem wa {L:Ab} {s r:RS} {k:Int} {x:Ac} {n:Int} {t:TK} (h:PY L s r):CA L 1 1 s (nd k x n t [],r):=by
 have B:=h.am;have C:=h.ax;have q:=h.er;have y:=h.eo;refine⟨h.ok,h.ns,B,λe=>⟨(q e).1,(q e).2,?_⟩,?_,λe=>?_⟩
 ·show((sz _:Nat):Int)<=1;rw[K4];omega
 ·show((sz _:Nat):Int)<=_;rw[K4];show(1:Int)<=3*(r.at_-s.at_)+1;omega
 ·have:=y e;show((sz _:Nat):Int)<=_;rw[K4];show(1:Int)<=3*(r.at_-s.at_);omega
theorem cZ {L:Ab} {s:RS} (h:CD L s):CA L 1 1 s (Eh L s):=wa (I3 h (by decide))
theorem Ux {L:Ab} {s:RS} (h:CD L s):CA L 1 1 s (Eg L s):=by
 unfold Eg;split
 ·rename_i e;exact V6 h (P1 (by rw[e];decide)) (P0 (by rw[e];decide)) (by decide)
 ·exact wa (Kb h)
theorem YJ {L:Ab} {s:RS} {n:Nat} {E C:Int} {F:Ab->PF} (y:GF n E C F) (q:RG L n s) (J:1<=C):CA L 1 C s (Fk F L s):=by
 have h:=q.ok;have q:=q.pe;unfold Fk;split
 ·rename_i e;exact⟨h,rfl,JU _,λ_=>⟨e,rfl,by show((sz Dm:Nat):Int)<=1;rw[yd];omega⟩,by show((sz Dm:Nat):Int)<=3*(s.at_-s.at_)+C;rw[yd];omega,λB=>absurd B e⟩
 ·rename_i e;have e:s.err=0:=by omega
  have p:=y L s (q e);exact⟨p.ok,p.ns,p.am,λh=>absurd e h,p.ss,p.so⟩
theorem nb {b:Bool} (h:b=false):¬b=true:=by rw[h];decide
theorem CA.P4 {L:Ab} {E C:Int} {s:RS} {r:PT×RS} (h:CA L E C s r) (q:CD L s) (y:C<=100):sz r.1<=300100:=by have M:=h.ss;have K:=h.ok.a1;have J:=h.ok.len;have B:=q.a0;omega
theorem cN (k:Int) (s:Ac) (n:Int) (t:TK) (x y z:PT):sz (nd k s n t [x,y,z])=1+(sz x+(sz y+sz z)):=by rw[My,Cc,Cc,Cc,Hf];omega
def firstM (T B:Ab->PF) (L:Ab):PF:=λs=>
 if(Ar L s).kind=3 then(nd 26 [] (Ar L s).num (Ar L s) [],Au s)
 else if As L s Ko=true then(nd 27 [] 0 (Ar L s) [],Au s)
 else if As L s K8=true then(nd 28 [] 0 (Ar L s) [],Au s)
 else if As L s LN=true then(nd 33 (A6 L (Au s) 1).1.text 0 (Ar L s) [],(A6 L (Au s) 1).2)
 else if As L s Iq=true then(nd 36 [] 0 (Ar L s) [(Fk B L (Au s)).1],(Fk B L (Au s)).2)
 else if As L s K9=true then((Fk T L (B7 L s K9).2).1,down (BE L (Fk T L (B7 L s K9).2).2 UE).2)
 else Eh L s
theorem s7 {n:Nat} {T B:Ab->PF} (hT:GF n 1 2 T) (S:GF n 1 2 B):GF (n+1) 1 2 (firstM T B):=by
 intro L s J;have h:=J.ok;have W:=J.lf;have K:=J.ns;unfold firstM;split
 ·rename_i e;exact V6 h (P1 (by rw[e];decide)) (P0 (by rw[e];decide)) (by decide)
 split
 ·rename_i e;exact V6 h (Dz e) (J6 e) (by decide)
 split
 ·rename_i e;exact V6 h (Dz e) (J6 e) (by decide)
 split
 ·rename_i e;have a1:=JY h (Dz e);have g:=I3 (k:=1) a1 (by decide);have C:=g.am;have g2:=g.ax;have g3:=g.er;have U:=g.eo;have R:=g.ns;have y:=J6 e;refine⟨g.ok,R,?_,λe=>absurd y e,?_,λ_=>?_⟩
  ·have:s.at_+1<=(A6 L (Au s) 1).2.at_:=C;show s.at_<=(A6 L (Au s) 1).2.at_;omega
  ·have:s.at_+1<=(A6 L (Au s) 1).2.at_:=C;show((sz _:Nat):Int)<=3*((A6 L (Au s) 1).2.at_-s.at_)+2;rw[K4];omega
  ·have:s.at_+1<=(A6 L (Au s) 1).2.at_:=C;show((sz _:Nat):Int)<=3*((A6 L (Au s) 1).2.at_-s.at_);rw[K4];omega
 split
 ·rename_i e;have O:=Dz e;have y:=J6 e;have a1:=JY h O;have g:=YJ (s:=Au s) S ⟨a1,λ_=>⟨a1,K,by show(L.length:Int)-(s.at_+1)<n;omega⟩⟩ (by decide);generalize Fk B L (Au s)=r at g⊢;have C:s.at_+1<=r.2.at_:=g.am;have g2:(sz r.1:Int)<=3*(r.2.at_-(s.at_+1))+2:=g.ss;have g3:r.2.err=0->(sz r.1:Int)<=3*(r.2.at_-(s.at_+1)):=g.so;refine⟨g.ok,g.ns,by show s.at_<=r.2.at_;omega,λe=>absurd y e,?_,λE=>?_⟩
  ·show((sz _:Nat):Int)<=3*(r.2.at_-s.at_)+2;rw[Hy];omega
  ·have:=g3 E;show((sz _:Nat):Int)<=3*(r.2.at_-s.at_);rw[Hy];omega
 split
 ·rename_i e;have O:=Dz e;have y:=J6 e;have o:=Zj (w:=K9) h (by omega);generalize(B7 L s K9).2=q at o⊢;have o1:=o.am;have o2:=o.ax;have M:=o.eo;have Z:=o.ns;have g:=YJ (s:=q) hT ⟨o.ok,λz=>⟨o.ok,by have:=M z;omega,by have:=M z;omega⟩⟩ (by decide);generalize Fk T L q=r at g⊢;have C:=g.am;have g2:=g.ss;have g3:=g.so;have U:=g.er;have R:=g.ns;have f:=JK (w:=UE) g.ok;generalize(BE L r.2 UE).2=v at f⊢;have f1:=f.am;have f2:=f.ax;have f3:=f.eo;have f4:=f.er;have f5:=f.ns;have V:=h.n0;refine⟨Sb f.ok (by omega),by show v.nest-1=s.nest;omega,by show s.at_<=v.at_;omega,λe=>absurd y e,?_,λE=>?_⟩
  ·show(sz r.1:Int)<=3*(v.at_-s.at_)+2;omega
  ·have E:v.err=0:=E;show(sz r.1:Int)<=3*(v.at_-s.at_);omega
 ·have:=cZ (L:=L) (s:=s) h;have Y:=this.ss;exact⟨this.ok,this.ns,this.am,this.er,by omega,this.so⟩
def ZD (a:Ab) (b:RS):=(Aa/\Aa/\Aa/\(((Xd a/\Aa/\Af (RS.at_ b+1))/\Aa/\Af (RS.nest b))/\Aa/\Af (RS.err b))/\Aa/\Af (RS.DM b))
@[reducible] def na:Ab->RS->Prop:=λ(L:Ab) (s:RS)=>(ZD L s)/\True
def ZR (a:Ab) (b:RS):=(∃(q:Ab),vK a=vK q/\CD q b)
@[reducible] def Amn:Ab->RS->Prop:=λ(L:Ab) (s:RS)=>(ZR L s)/\Aa/\Aa/\(Cx/\True)/\RB L s
@[reducible] def Amo:Ab->RS->Prop:=λ(L:Ab) (s:RS)=>Aa/\Aa/\(Cx/\Af [(40:UInt8)]/\True)/\RB L s
def Ro:Ac:=[46]
def HU:Ac:=[91]
def Rp:Ac:=[93]
def MM (L:Ab) (x:PT) (s:RS):PT×RS:=(nd 30 (A6 L (Au s) 1).1.text 0 (Ar L s) [x],(A6 L (Au s) 1).2)
def Lj (T:Ab->PF) (L:Ab) (x:PT) (s:RS):PT×RS:=(nd 31 [] 0 (B7 L s HU).1 [x,(Fk T L (B7 L s HU).2).1],down (BE L (Fk T L (B7 L s HU).2).2 Rp).2)
def EW (T:Ab->PF) (L:Ab):Nat->PT->RS->PT×RS
 |0,x,s=>(x,s)
 |k+1,x,s=>if As L s Ro=true then EW T L k (MM L x s).1 (MM L x s).2 else if As L s HU=true then EW T L k (Lj T L x s).1 (Lj T L x s).2 else(x,s)
def De (L:Ab) (s:RS):Nat:=2*((L.length:Int)-s.at_).toNat+(if s.err=0 then 1 else 0)
def B3 (L:Ab):Nat:=2*L.length+2
def Rh (T:Ab->PF) (q:Ab->PF) (L:Ab):PF:=λs=>EW T L (B3 L) (q L s).1 (q L s).2
structure dI (L:List TK) (f:Nat->PT->RS->PT×RS) (t:PT×RS) (s0:RS) (x:PT×RS):Prop where
 k:∃k,De L x.2<k/\f k x.1 x.2=t
 p:CA L 1 2 s0 x
theorem Y8 {L:Ab} {s r:RS} (h:CD L r) (q:s.err=0) (B:s.at_<=r.at_) (y:r.err=0->s.at_<r.at_):De L r<De L s:=by
 have:=h.a1;unfold De;rw[Am q];split
 ·rename_i e;have:=y e;omega
 ·omega
theorem QD {L:Ab} {s:RS} (h:CD L s):De L s<B3 L:=by have:=h.a0;unfold De B3;split<;>omega
theorem r7 {L:Ab} {s0 s:RS} {x:PT} (h:CA L 1 2 s0 (x,s)) (hd:As L s Ro=true):CA L 1 2 s0 (MM L x s)/\De L (MM L x s).2<De L s:=by
 have q:=J6 hd;have y:=Dz hd;have AA:CD L s:=h.ok;have a1:=JY AA y;have g:=I3 (k:=1) a1 (by decide);have K:s.at_+1<=(A6 L (Au s) 1).2.at_:=g.am;have g2:(A6 L (Au s) 1).2.nest=s.nest:=g.ns;have J:s0.at_<=s.at_:=h.am;have E:s.nest=s0.nest:=h.ns;have C:(sz x:Int)<=3*(s.at_-s0.at_):=h.so q;refine⟨⟨g.ok,by show(A6 L (Au s) 1).2.nest=_;omega,by show s0.at_<=(A6 L (Au s) 1).2.at_;omega,λe=>absurd q (h.er e).1,?_,λB=>?_⟩,Y8 g.ok q ?_ λB=>?_⟩
 ·show((sz (nd 30 (A6 L (Au s) 1).1.text 0 (Ar L s) [x]):Nat):Int)<=3*((A6 L (Au s) 1).2.at_-s0.at_)+2;rw[Hy];omega
 ·show((sz (nd 30 (A6 L (Au s) 1).1.text 0 (Ar L s) [x]):Nat):Int)<=3*((A6 L (Au s) 1).2.at_-s0.at_);rw[Hy];omega
 ·show s.at_<=(A6 L (Au s) 1).2.at_;omega
 ·show s.at_<(A6 L (Au s) 1).2.at_;omega
theorem tt {n:Nat} {T:Ab->PF} (hT:GF n 1 2 T) {L:Ab} {s0 s:RS} {x:PT} (h:CA L 1 2 s0 (x,s)) (hn:s0.nest<=64) (M:(L.length:Int)-s0.at_<(n:Int)+1) (hd:As L s HU=true):RG L n (B7 L s HU).2/\CA L 1 2 s0 (Lj T L x s)/\De L (Lj T L x s).2<De L s:=by
 have B:=J6 hd;have Z:=Dz hd;have AA:CD L s:=h.ok;have S:s0.at_<=s.at_:=h.am;have R:s.nest=s0.nest:=h.ns;have O:(sz x:Int)<=3*(s.at_-s0.at_):=h.so B;have J:s0.err≠0->s.err≠0:=λe=>(h.er e).1;have o:=Zj (w:=HU) AA (show s.nest<=900 by omega);unfold Lj;generalize(B7 L s HU)=q at o⊢;have Y:=o.am;have W:=o.ax;have E:=o.eo;have V:=o.ns;have U:=o.er;have C:RG L n q.2:=⟨o.ok,λz=>⟨o.ok,by have:=E z;omega,by have:=E z;omega⟩⟩;have g:=YJ hT C (by decide);generalize Fk T L q.2=r at g⊢;have g1:=g.am;have g2:=g.ss;have g3:=g.so;have g4:=g.er;have g5:=g.ns;have f:=JK (w:=Rp) g.ok;generalize(BE L r.2 Rp).2=v at f⊢;have f1:=f.am;have f2:=f.ax;have f3:=f.eo;have f4:=f.er;have f5:=f.ns;have K:=AA.n0;refine⟨C,⟨Sb f.ok (by omega),by show v.nest-1=_;omega,by show s0.at_<=v.at_;omega,λe=>absurd B (J e),?_,λy=>?_⟩,Y8 (Sb f.ok (by omega)) B ?_ λy=>?_⟩
 ·show((sz _:Nat):Int)<=3*(v.at_-s0.at_)+2;rw[JM];omega
 ·have y:v.err=0:=y;show((sz _:Nat):Int)<=3*(v.at_-s0.at_);rw[JM];omega
 ·show s.at_<=v.at_;omega
 ·have y:v.err=0:=y;show s.at_<v.at_;omega
theorem nE {n:Nat} {T:Ab->PF} (hT:GF n 1 2 T) {L:Ab} {s0:RS} (hn:s0.nest<=64) (q:(L.length:Int)-s0.at_<(n:Int)+1):∀(k:Nat) (x:PT) (s:RS),CA L 1 2 s0 (x,s)->CA L 1 2 s0 (EW T L k x s)
 |0,x,s,h=>h
 |k+1,x,s,h=>by
  unfold EW;split
  ·rename_i e;exact nE hT hn q k _ _ (r7 h e).1
  split
  ·rename_i e;exact nE hT hn q k _ _ (tt hT h hn q e).2.1
  ·exact h
theorem yv {n:Nat} {T y:Ab->PF} (hT:GF n 1 2 T) (B:GF (n+1) 1 2 y):GF (n+1) 1 2 (Rh T y):=by intro L s q;exact nE hT q.ns (by have:=q.lf;omega) _ _ _ (B L s q)
@[reducible] def nc:Ab->TK×RS->PT×RS->Prop:=λ(L:Ab) (a:TK×RS) (q:PT×RS)=>Q4 L/\Aa/\RS.at_ a.2=RS.at_ q.2
@[reducible] def Aab:Ab->PT×RS->Prop:=λ(L:Ab) (a:PT×RS)=>(Wf L a.2)/\True
def Ue (a:Ab):=Aab a
@[reducible] def Amq:Ab->PT×RS->Prop:=λ(L:Ab) (a:PT×RS)=>(ZR L a.2)/\Aa/\Aa/\(Cx/\True)/\Ue L a
@[reducible] def Amr:Nat->Ab->TK×RS->Prop:=λ(n:Nat) (L:Ab) (a:TK×RS)=>(∃(q:Ab),vK L=vK q/\RG q n a.2)/\Aa/\Aa/\(Cx/\True)/\(Wf L a.2)/\True
@[reducible] def Aac:Ab->PT×RS->Prop:=λ(L:Ab) (a:PT×RS)=>Aa/\Aa/\(Cx/\Af [(91:UInt8)]/\True)/\Ue L a
@[reducible] def Ams:Ab->PT×RS->Prop:=λ(L:Ab) (a:PT×RS)=>(∃(q:Ab),vK L=vK q/\CD q a.2/\Nat.le 1 (List.length [(46:UInt8)]))/\Aa/\Aa/\(Cx/\Af [(46:UInt8)]/\True)/\Ue L a
@[reducible] def Amt:Ab->PT×RS->Prop:=λ(L:Ab) (a:PT×RS)=>(∃(q:Ab),vK L=vK q/\CD q a.2/\Nat.le 1 (List.length [(91:UInt8)])/\Int.NonNeg ((900:Int)-RS.nest a.2))/\Aac L a
def ZK (a:RS):=RS.mk (RS.at_ a+1) (RS.nest a) (RS.err a) (RS.DM a)
def wz (a:Ab) (b:RS):=(∃(q:Ab),vK a=vK q/\CD q (ZK b)/\((1:Int)=(0:Int)->False))
@[reducible] def Amu:Ab->PT×RS->Prop:=λ(L:Ab) (a:PT×RS)=>(wz L a.2)/\Aa/\Aa/\(Cx/\TN/\True)/\(ZD L a.2)/\True
def Gq (a:TK):=Af (AV.agg [AV.int .i64 (TK.kind a),AV.bs (TK.text a),AV.int .i64 (TK.num a),AV.int .i64 (TK.line a),AV.int .i64 (TK.Ao a)])
def Bn:=((True/\True)/\True)
def ky (a:TK) (b:TK) (c:PT):=Nu (30:Int) (TK.text a) (0:Int) b (WX 1 λ(q:Nat)=>List.getD [vW (flat c)] q AV.Ay)
def Hd (a:PT) (b:Nat):=List.getD (flat a) b LT.none
def GN (a:Ab) (b:RS) (c:RS):=Nat.le (Nat.succ (De a b)) (De a c)
def Pp (a:TK) (b:TK) (c:PT) (d:Nat):=List.getD (ky a b c) d LT.none
def KW (a:TK):=((Gq a/\True)/\True)
def Ol (a:PT):=List.length (flat a)
@[reducible] def Amv:(Ab->PF)->Ab->RS->PT×RS->PT×RS->TK->TK×RS->Prop:=λ(T:Ab->PF) (L:Ab) (s:RS) (t a:PT×RS) (y:TK) (q:TK×RS)=>((KW y)/\Bn/\Bn/\True)/\∃(B:PT×RS),dI L (EW T L) t s B/\GN L B.2 a.2/\Aa/\((Aa/\List.length (ky q.1 y a.1)=Ol B.1/\AH λ(i:Nat)=>Bh i (List.length (ky q.1 y a.1))->(Aa/\LT.kind (Pp q.1 y a.1 i)=LT.kind (Hd B.1 i))/\LT.text (Pp q.1 y a.1 i)=LT.text (Hd B.1 i)/\(Aa/\LT.n (Pp q.1 y a.1 i)=LT.n (Hd B.1 i))/\(Aa/\LT.line (Pp q.1 y a.1 i)=LT.line (Hd B.1 i))/\(Aa/\LT.Ao (Pp q.1 y a.1 i)=LT.Ao (Hd B.1 i))/\(Aa/\List.length (LT.kids (Pp q.1 y a.1 i))=List.length (LT.kids (Hd B.1 i))/\AH λ(C:Nat)=>Bh C (List.length (LT.kids (Pp q.1 y a.1 i)))->(Aa/\List.getD (LT.kids (Pp q.1 y a.1 i)) C (0:Int)=List.getD (LT.kids (Hd B.1 i)) C (0:Int))/\True)/\True)/\Cx/\True)/\(Aa/\Aa/\Aa/\Aa/\((nc L q B/\Aa/\RS.nest q.2=RS.nest B.2)/\Aa/\RS.err q.2=RS.err B.2)/\Aa/\RS.DM q.2=RS.DM B.2)/\True
def QQ (a:PT) (b:PT):=(WX 2 λ(q:Nat)=>List.getD [vW (flat a),vW (flat b)] q AV.Ay)
def Pa (a:TK) (b:PT) (c:PT) (d:Nat):=List.getD (Nu (31:Int) [] (0:Int) a (QQ b c)) d LT.none
def Ng (a:RS):=Al (BJ .i64 (RS.nest a-1))
@[reducible] def Amp:(Ab->PF)->Ab->RS->PT×RS->PT×RS->TK×RS->PT×RS->Prop:=λ(T:Ab->PF) (L:Ab) (s:RS) (t a:PT×RS) (B:TK×RS) (q:PT×RS)=>(Bn/\Bn/\(KW B.1)/\True)/\((∃(J:Ab),vK L=vK J/\CD J q.2/\Nat.le 1 (List.length [(93:UInt8)]))/\Aa/\Aa/\(Cx/\Af [(93:UInt8)]/\True)/\Ue L q)/\∀(y:TK×RS),y=BE (kL (vK L)) q.2 [(93:UInt8)]->Ng y.2 (∃(C:PT×RS),dI L (EW T L) t s C/\GN L C.2 a.2/\Aa/\((Aa/\List.length (Nu (31:Int) [] (0:Int) B.1 (QQ a.1 q.1))=Ol C.1/\AH λ(i:Nat)=>Bh i (List.length (Nu (31:Int) [] (0:Int) B.1 (QQ a.1 q.1)))->(Aa/\LT.kind (Pa B.1 a.1 q.1 i)=LT.kind (Hd C.1 i))/\LT.text (Pa B.1 a.1 q.1 i)=LT.text (Hd C.1 i)/\(Aa/\LT.n (Pa B.1 a.1 q.1 i)=LT.n (Hd C.1 i))/\(Aa/\LT.line (Pa B.1 a.1 q.1 i)=LT.line (Hd C.1 i))/\(Aa/\LT.Ao (Pa B.1 a.1 q.1 i)=LT.Ao (Hd C.1 i))/\(Aa/\List.length (LT.kids (Pa B.1 a.1 q.1 i))=List.length (LT.kids (Hd C.1 i))/\AH λ(E:Nat)=>Bh E (List.length (LT.kids (Pa B.1 a.1 q.1 i)))->(Aa/\List.getD (LT.kids (Pa B.1 a.1 q.1 i)) E (0:Int)=List.getD (LT.kids (Hd C.1 i)) E (0:Int))/\True)/\True)/\Cx/\True)/\(Aa/\Aa/\Aa/\Aa/\((nc L y C/\Aa/\RS.nest y.2-1=RS.nest C.2)/\Aa/\RS.err y.2=RS.err C.2)/\Aa/\RS.DM y.2=RS.DM C.2)/\True)
def LM:Ac:=[108,101,110]
def LL:Ac:=[97,114,114]
def IL:Ac:=[42]
def Ip:Ac:=[43]
def Ir:Ac:=[45]
def nU:Ac:=[60]
def nT:Ac:=[61,61]
def Oy (k:Int) (U:Ab->PF) (L:Ab) (s:RS):PT×RS:=(nd k [] 0 (B7 L s (Ar L s).text).1 [(Fk U L (B7 L s (Ar L s).text).2).1],down (Fk U L (B7 L s (Ar L s).text).2).2)
def LK (U q:Ab->PF) (L:Ab):PF:=λs=>if As L s LM=true then Oy 35 U L s else if As L s LL=true then Oy 34 U L s else q L s
def Ht (F:Ab->PF) (L:Ab) (x:PT) (s:RS):PT×RS:=(nd 32 (Ar L s).text 0 (Ar L s) [x,(F L (Au s)).1],(F L (Au s)).2)
def Ee (F:Ab->PF) (ws:List Ac) (L:Ab):Nat->PT->RS->PT×RS
 |0,x,s=>(x,s)
 |k+1,x,s=>if ws.any (As L s)=true then Ee F ws L k (Ht F L x s).1 (Ht F L x s).2 else(x,s)
def F6 (F:Ab->PF) (ws:List Ac) (L:Ab):PF:=λs=>Ee F ws L (B3 L) (F L s).1 (F L s).2
def LJ (F:Ab->PF) (L:Ab):PF:=λs=>if [nU,nT].any (As L (F L s).2)=true then Ht F L (F L s).1 (F L s).2 else F L s
def OA (q:Ab->PF) (L:Ab):PF:=λs=>((q L s).1,if(q L s).2.err=0/\(q L s).1.kind≠29/\(q L s).1.kind≠30/\(q L s).1.kind≠31 then CK (q L s).2 4 else(q L s).2)
theorem Ma {L:Ab} {s:RS} {w:Ac} (h:As L s w=true):(Ar L s).text=w:=by unfold As at h;rw[C5,BV,BV]at h;exact h.2
theorem zL {n:Nat} {U:Ab->PF} (K:GF n 1 2 U) {L:Ab} {s:RS} {k:Int} {w:Ac} (y:Bb L (n+1) s) (h:As L s w=true):RG L n (B7 L s (Ar L s).text).2/\CA L 1 2 s (Oy k U L s):=by
 have J:=J6 h;have Z:=Dz h;have AA:=y.ok;have M:=y.ns;have R:=y.lf;have o:=Zj (w:=(Ar L s).text) AA (show s.nest<=900 by omega);unfold Oy;generalize(B7 L s (Ar L s).text)=q at o⊢;have Y:=o.am;have W:=o.ax;have C:=o.eo;have V:=o.ns;have S:=o.er;have B:RG L n q.2:=⟨o.ok,λz=>⟨o.ok,by have:=C z;omega,by have:=C z;omega⟩⟩;have g:=YJ K B (by decide);generalize Fk U L q.2=r at g⊢;have g1:=g.am;have g2:=g.ss;have g3:=g.so;have g4:=g.er;have g5:=g.ns;have O:=AA.n0;refine⟨B,⟨Sb g.ok (by omega),by show r.2.nest-1=_;omega,by show s.at_<=r.2.at_;omega,λe=>absurd J e,?_,λE=>?_⟩⟩
 ·show((sz _:Nat):Int)<=3*(r.2.at_-s.at_)+2;rw[Hy];omega
 ·have E:r.2.err=0:=E;show((sz _:Nat):Int)<=3*(r.2.at_-s.at_);rw[Hy];omega
theorem zM {n:Nat} {U B:Ab->PF} (y:GF n 1 2 U) (hT:GF (n+1) 1 2 B):GF (n+1) 1 2 (LK U B):=by
 intro L s q;unfold LK;split
 ·rename_i e;exact(zL y q e).2
 split
 ·rename_i e;exact(zL y q e).2
 ·exact hT L s q
theorem Zh {n:Nat} {F:Ab->PF} (K:GF n 1 2 F) {L:Ab} {s0 s:RS} {x:PT} {ws:List Ac} (h:CA L 1 2 s0 (x,s)) (B:Bb L n s0) (hd:ws.any (As L s)=true):Bb L n (Au s)/\CA L 1 2 s0 (Ht F L x s)/\De L (Ht F L x s).2<De L s:=by
 obtain⟨w,_,y⟩:=List.any_eq_true.1 hd;have q:=J6 y;have J:=Dz y;have AA:CD L s:=h.ok;have U:s0.at_<=s.at_:=h.am;have S:s.nest=s0.nest:=h.ns;have R:(sz x:Int)<=3*(s.at_-s0.at_):=h.so q;have E:s0.err≠0->s.err≠0:=λe=>(h.er e).1;have M:=B.ns;have O:=B.lf;have a1:=JY AA J;have pa:Bb L n (Au s):=⟨a1,by show s.nest<=64;omega,by show(L.length:Int)-(s.at_+1)<n;omega⟩;have g:=K L (Au s) pa;unfold Ht;generalize F L (Au s)=r at g⊢;have W:s.at_+1<=r.2.at_:=g.am;have g2:(sz r.1:Int)<=3*(r.2.at_-(s.at_+1))+2:=g.ss;have g3:r.2.err=0->(sz r.1:Int)<=3*(r.2.at_-(s.at_+1)):=g.so;have V:r.2.nest=s.nest:=g.ns;refine⟨pa,⟨g.ok,by show r.2.nest=_;omega,by show s0.at_<=r.2.at_;omega,λe=>absurd q (E e),?_,λC=>?_⟩,Y8 g.ok q (by show s.at_<=r.2.at_;omega) λ_=>by show s.at_<r.2.at_;omega⟩
 ·show((sz _:Nat):Int)<=3*(r.2.at_-s0.at_)+2;rw[JM];omega
 ·have C:r.2.err=0:=C;show((sz _:Nat):Int)<=3*(r.2.at_-s0.at_);rw[JM];omega
theorem wP {n:Nat} {F:Ab->PF} (y:GF n 1 2 F) {L:Ab} {s0:RS} {ws:List Ac} (q:Bb L n s0):∀(k:Nat) (x:PT) (s:RS),CA L 1 2 s0 (x,s)->CA L 1 2 s0 (Ee F ws L k x s)
 |0,x,s,h=>h
 |k+1,x,s,h=>by
  unfold Ee;split
  ·rename_i e;exact wP y q k _ _ (Zh y h q e).2.1
  ·exact h
theorem Z6 {n:Nat} {F:Ab->PF} {ws:List Ac} (y:GF n 1 2 F):GF n 1 2 (F6 F ws):=λL s q=>wP y q _ _ _ (y L s q)
theorem yn {n:Nat} {F:Ab->PF} (y:GF n 1 2 F):GF n 1 2 (LJ F):=by
 intro L s q;unfold LJ;split
 ·rename_i e;exact(Zh y (y L s q) q e).2.1
 ·exact y L s q
theorem zP {n:Nat} {q:Ab->PF} (hT:GF n 1 2 q):GF n 1 2 (OA q):=by
 intro L s C;have g:=hT L s C;unfold OA;generalize q L s=r at g⊢;have w:=WW r.2 (e:=4) (by decide);have B:=nY g.ok 4;have J:=g.am;have g2:=g.ss;have g3:=g.so;have y:=g.er;have E:=g.ns;split
 ·exact⟨B,by show(CK r.2 4).nest=_;omega,by show _<=(CK r.2 4).at_;omega,λe=>⟨w.1,by show(CK r.2 4).at_=_;have:=y e;omega,(y e).2.2⟩,by show _<=3*((CK r.2 4).at_-_)+2;rw[w.2.1];exact g2,λe=>absurd e w.1⟩
 ·exact g
theorem Dc {f:Ac->Bool} {a:Ac} {c:Bool} (h:f a=c):[a].any f=c:=by simp[h]
@[reducible] def RC:TK×RS->Prop:=λ(a:TK×RS)=>Bn/\Bn/\(KW a.1)/\True
@[reducible] def nh:Ab->RS->Prop:=λ(L:Ab) (s:RS)=>Aa/\Aa/\(Cx/\True)/\RB L s
@[reducible] def Amz:Ab->RS->Prop:=λ(L:Ab) (s:RS)=>(ZR L s)/\nh L s
@[reducible] def AmA:Ab->RS->TK->Prop:=λ(L:Ab) (s:RS) (a:TK)=>(∃(q:Ab),vK L=vK q/\CD q s/\Nat.le 1 (List.length (TK.text a))/\Int.NonNeg ((900:Int)-RS.nest s))/\Aa/\Aa/\(Cx/\Af (TK.text a)/\True)/\RB L s
def lF (a:Ab) (b:RS) (c:RS):=(Aa/\Aa/\Aa/\Aa/\(((Xd a/\Aa/\RS.at_ b=RS.at_ c)/\Aa/\RS.nest b=RS.nest c)/\Aa/\RS.err b=RS.err c)/\Aa/\RS.DM b=RS.DM c)
@[reducible] def Aad:Ab->PT×RS->PT×RS->Prop:=λ(L:Ab) (a q:PT×RS)=>(lF L a.2 q.2)/\True
@[reducible] def Amw:Nat->Ab->PT×RS->Prop:=λ(n:Nat) (L:Ab) (a:PT×RS)=>(∃(q:Ab),vK L=vK q/\Bb q n (ZK a.2))/\Aa/\Aa/\(Cx/\True)/\(ZD L a.2)/\True
def BS:=((True/\True/\True)/\True)
def DD (a:TK):=AV.bs (TK.text a)
def Pd (a:TK) (b:PT) (c:PT) (d:Nat):=List.getD (Nu (32:Int) (TK.text a) (0:Int) a (QQ b c)) d LT.none
def Mg:=[[(43:UInt8)],[(45:UInt8)]]
def lN (a:TK):=Nu (32:Int) (TK.text a) (0:Int) a
def xB (a:TK):=(BS/\BS/\((Gq a/\Af (DD a)/\True)/\True)/\True)
@[reducible] def Amx:(Ab->PF)->Ab->RS->PT×RS->PT×RS->TK->PT×RS->Prop:=λ(F:Ab->PF) (L:Ab) (s:RS) (t a:PT×RS) (y:TK) (q:PT×RS)=>(xB y)/\∃(B:PT×RS),dI L (Ee F Mg L) t s B/\GN L B.2 a.2/\Aa/\((Aa/\List.length (lN y (QQ a.1 q.1))=Ol B.1/\AH λ(i:Nat)=>Bh i (List.length (lN y (QQ a.1 q.1)))->(Aa/\LT.kind (Pd y a.1 q.1 i)=LT.kind (Hd B.1 i))/\LT.text (Pd y a.1 q.1 i)=LT.text (Hd B.1 i)/\(Aa/\LT.n (Pd y a.1 q.1 i)=LT.n (Hd B.1 i))/\(Aa/\LT.line (Pd y a.1 q.1 i)=LT.line (Hd B.1 i))/\(Aa/\LT.Ao (Pd y a.1 q.1 i)=LT.Ao (Hd B.1 i))/\(Aa/\List.length (LT.kids (Pd y a.1 q.1 i))=List.length (LT.kids (Hd B.1 i))/\AH λ(C:Nat)=>Bh C (List.length (LT.kids (Pd y a.1 q.1 i)))->(Aa/\List.getD (LT.kids (Pd y a.1 q.1 i)) C (0:Int)=List.getD (LT.kids (Hd B.1 i)) C (0:Int))/\True)/\True)/\Cx/\True)/\Aad L q B
@[reducible] def Amy:Ab->PT×RS->PT×RS->TK->PT×RS->Prop:=λ(L:Ab) (t a:PT×RS) (y:TK) (q:PT×RS)=>(xB y)/\W0 (vK L) (vK L) (vW (lN y (QQ a.1 q.1))) q.2 t
def MB:Ac:=[61]
def IM:Ac:=[59]
def IJ:Ac:=[101,108,115,101]
def Fe:Ac:=[119,104,105,108,101]
def LH (V T:Ab->PF) (L:Ab) (t:TK):PF:=λs=>
 (nd 14 [] 0 t [(V L s).1,(T L (BE L (V L s).2 MB).2).1],(BE L (T L (BE L (V L s).2 MB).2).2 IM).2)
def NX (T B:Ab->PF) (L:Ab) (t:TK) (s:RS):PT×RS:=
 if t.text=Fe then(nd 24 [] 0 t [(T L s).1,(B L (T L s).2).1],(B L (T L s).2).2)
 else if As L (B L (T L s).2).2 IJ=true then(nd 23 [] 0 t [(T L s).1,(B L (T L s).2).1,(B L (Au (B L (T L s).2).2)).1],(B L (Au (B L (T L s).2).2)).2)
 else(nd 23 [] 0 t [(T L s).1,(B L (T L s).2).1,nd 12 [] 0 t []],(B L (T L s).2).2)
def NJ (T B:Ab->PF) (L:Ab):PF:=λs=>NX T B L (Ar L s) (Au s)
structure JV (L:List TK) (n:Nat) (s:RS):Prop where
 p:Bb L (n+1) s
 k:(Ar L s).kind=2
theorem yK {n:Nat} {V T:Ab->PF} (B:GF n 1 2 V) (hT:GF n 1 2 T) (t:TK):GF n 3 4 (λL=>LH V T L t):=by
 intro L s y;have g:=B L s y;have C:=y.ns;have E:=y.lf;show CA L 3 4 s (LH V T L t s);unfold LH;generalize V L s=v at g⊢;have O:=g.am;have g2:=g.ss;have g3:=g.so;have M:=g.er;have K:=g.ns;have J:=F9 v.1;have f:=JK (w:=MB) g.ok;generalize(BE L v.2 MB).2=q at f⊢;have Y:=f.am;have W:=f.ax;have U:=f.eo;have S:=f.er;have R:=f.ns;have d:=hT L q ⟨f.ok,by omega,by omega⟩;generalize T L q=r at d⊢;have d1:=d.am;have d2:=d.ss;have d3:=d.so;have d4:=d.er;have d5:=d.ns;have e:=JK (w:=IM) d.ok;generalize(BE L r.2 IM).2=u at e⊢;have e1:=e.am;have e2:=e.ax;have e3:=e.eo;have e4:=e.er;have Z:=e.ns;refine⟨e.ok,by show u.nest=_;omega,by show _<=u.at_;omega,λz=>⟨by show u.err≠0;omega,by show u.at_=_;omega,?_⟩,?_,λz=>?_⟩
 ·show((sz _:Nat):Int)<=3;rw[JM];omega
 ·show((sz _:Nat):Int)<=3*(u.at_-s.at_)+4;rw[JM];omega
 ·have z:u.err=0:=z;show((sz _:Nat):Int)<=3*(u.at_-s.at_);rw[JM];omega
theorem fP {n:Nat} {T B:Ab->PF} (hT:GF (n+1) 1 2 T) (J:GF n 1 2 B) {L:Ab} {s:RS} (y:JV L n s):CA L 1 2 s (NJ T B L s):=by
 have AA:=y.p.ok;have E:=y.p.ns;have U:=y.p.lf;have O:=P1 (L:=L) (s:=s) (by rw[y.k];decide);have C:=P0 (L:=L) (s:=s) (by rw[y.k];decide);have a1:=JY AA O;unfold NJ NX;have g:=hT L (Au s) ⟨a1,E,by show(L.length:Int)-(s.at_+1)<_;omega⟩;have S:(Au s).at_=s.at_+1:=rfl;have R:(Au s).nest=s.nest:=rfl;generalize Au s=s1 at g S R⊢;generalize T L s1=x at g⊢;have Z:=g.am;have g2:=g.ss;have g3:=g.so;have Y:=g.ns;have W:=F9 x.1;have d:=J L x.2 ⟨g.ok,by omega,by omega⟩;generalize B L x.2=b at d⊢;have d1:=d.am;have d2:=d.ss;have d3:=d.so;have d4:=d.er;have d5:=d.ns;have d6:=F9 b.1;split
 ·refine⟨d.ok,by show b.2.nest=_;omega,by show _<=b.2.at_;omega,λz=>absurd C z,?_,λz=>?_⟩
  ·show((sz _:Nat):Int)<=3*(b.2.at_-s.at_)+2;rw[JM];omega
  ·have z:b.2.err=0:=z;show((sz _:Nat):Int)<=3*(b.2.at_-s.at_);rw[JM];omega
 split
 ·rename_i K;have l2:=Dz K;have V:=J6 K;have M:=JY d.ok l2;have q:=J L (Au b.2) ⟨M,by show b.2.nest<=64;omega,by show(L.length:Int)-(b.2.at_+1)<_;omega⟩;generalize B L (Au b.2)=c at q⊢;have c1:b.2.at_+1<=c.2.at_:=q.am;have c2:(sz c.1:Int)<=3*(c.2.at_-(b.2.at_+1))+2:=q.ss;have c3:c.2.err=0->(sz c.1:Int)<=3*(c.2.at_-(b.2.at_+1)):=q.so;have c5:c.2.nest=b.2.nest:=q.ns;refine⟨q.ok,by show c.2.nest=_;omega,by show _<=c.2.at_;omega,λz=>absurd C z,?_,λz=>?_⟩
  ·show((sz _:Nat):Int)<=3*(c.2.at_-s.at_)+2;rw[cN];omega
  ·have z:c.2.err=0:=z;show((sz _:Nat):Int)<=3*(c.2.at_-s.at_);rw[cN];omega
 ·refine⟨d.ok,by show b.2.nest=_;omega,by show _<=b.2.at_;omega,λz=>absurd C z,?_,λz=>?_⟩
  ·show((sz _:Nat):Int)<=3*(b.2.at_-s.at_)+2;rw[cN,K4];omega
  ·have z:b.2.err=0:=z;show((sz _:Nat):Int)<=3*(b.2.at_-s.at_);rw[cN,K4];omega
def FK:Ac:=[112,111,115,116]
def JR:Ac:=[97,102,116,101,114]
def Kn:Ac:=[102,114,111,110,116]
def Kq:Ac:=[116,111]
def JN (V:Ab->PF) (L:Ab) (k:Int) (x:Ac) (n:Int) (t:TK) (y:PT) (s:RS):PT×RS:=
 if As L s Kq=true then(nd k x n t [y,(V L (Au s)).1],(V L (Au s)).2)else(nd k x n t [y],s)
def QN (T V:Ab->PF) (L:Ab) (t q:TK) (s:RS):PT×RS:=
 if As L (T L s).2 JR=true then JN V L 19 q.text (A6 L (Au (T L s).2) 3).1.num t (T L s).1 (A6 L (Au (T L s).2) 3).2
 else if As L (T L s).2 Kn=true then JN V L 19 q.text (-1) t (T L s).1 (Au (T L s).2)
 else JN V L 19 q.text 0 t (T L s).1 (T L s).2
def Jw (T V:Ab->PF) (L:Ab):PF:=λs=>
 if(Ar L s).text=FK then QN T V L (Ar L s) (A6 L (Au s) 1).1 (A6 L (Au s) 1).2
 else JN V L 20 [] 0 (Ar L s) (T L (Au s)).1 (T L (Au s)).2
theorem cW {n:Nat} {V:Ab->PF} (M:GF n 1 2 V) {L:Ab} {s0 s:RS} {k:Int} {x:Ac} {m:Int} {t:TK} {y:PT} (B:Bb L n s) (E:s0.err=0) (hn:s.nest=s0.nest) (K:s0.at_<=s.at_) (S:1+(sz y:Int)<=3*(s.at_-s0.at_)):CA L 1 2 s0 (JN V L k x m t y s):=by
 have AA:=B.ok;have C:=B.ns;have O:=B.lf;unfold JN;split
 ·rename_i e;have l2:=Dz e;have R:=J6 e;have J:=JY AA l2;have q:=M L (Au s) ⟨J,C,by show(L.length:Int)-(s.at_+1)<_;omega⟩;generalize V L (Au s)=c at q⊢;have W:s.at_+1<=c.2.at_:=q.am;have U:(sz c.1:Int)<=3*(c.2.at_-(s.at_+1))+2:=q.ss;have c5:c.2.nest=s.nest:=q.ns;refine⟨q.ok,by show c.2.nest=_;omega,by show _<=c.2.at_;omega,λz=>absurd E z,?_,λz=>?_⟩
  ·show((sz _:Nat):Int)<=3*(c.2.at_-s0.at_)+2;rw[JM];omega
  ·show((sz _:Nat):Int)<=3*(c.2.at_-s0.at_);rw[JM];omega
 ·refine⟨AA,hn,K,λz=>absurd E z,?_,λz=>?_⟩
  ·show((sz _:Nat):Int)<=3*(s.at_-s0.at_)+2;rw[Hy];omega
  ·show((sz _:Nat):Int)<=3*(s.at_-s0.at_);rw[Hy];omega
theorem w9 {n:Nat} {T:Ab->PF} (hT:GF n 1 2 T) {L:Ab} {s0 s:RS} (q:Bb L n s) (hn:s.nest=s0.nest) (C:s0.at_+1<=s.at_):Bb L n (T L s).2/\(T L s).2.nest=s0.nest/\s0.at_<=(T L s).2.at_/\1+(sz (T L s).1:Int)<=3*((T L s).2.at_-s0.at_)/\sz (T L s).1<=300100:=by have g:=hT L s q;have b:=g.P4 q.ok (by decide);have J:=g.am;have g2:=g.ss;have E:=g.ns;have y:=q.ns;have B:=q.lf;exact⟨⟨g.ok,by omega,by omega⟩,by omega,by omega,by omega,b⟩
theorem kp {n:Nat} {T V:Ab->PF} (hT:GF (n+1) 1 2 T) (M:GF (n+1) 1 2 V) {L:Ab} {s:RS} (C:JV L n s):CA L 1 2 s (Jw T V L s):=by
 have AA:=C.p.ok;have R:=C.p.ns;have aa:=C.p.lf;have W:=P1 (L:=L) (s:=s) (by rw[C.k];decide);have K:=P0 (L:=L) (s:=s) (by rw[C.k];decide);have a1:=JY AA W;unfold Jw;split
 ·have f:=I3 (k:=1) a1 (by decide);unfold QN;generalize(A6 L (Au s) 1)=q at f⊢;have Z:s.at_+1<=q.2.at_:=f.am;have Y:q.2.nest=s.nest:=f.ns;obtain⟨y,B,J,E,S⟩:=w9 (s0:=s) hT (s:=q.2) ⟨f.ok,by omega,by omega⟩ Y Z;generalize T L q.2=x at y B J E S⊢;have U:=y.ns;have y2:=y.lf;split
  ·rename_i e;have O:=JY y.ok (Dz e);have u:=I3 (k:=3) O (by decide);have u1:x.2.at_+1<=(A6 L (Au x.2) 3).2.at_:=u.am;have u5:(A6 L (Au x.2) 3).2.nest=x.2.nest:=u.ns;exact cW M ⟨u.ok,by omega,by omega⟩ K (by omega) (by omega) (by omega)
  split
  ·rename_i e;have O:=JY y.ok (Dz e);exact cW M ⟨O,U,by show(L.length:Int)-(x.2.at_+1)<_;omega⟩ K B (by show _<=x.2.at_+1;omega) (by show _<=3*(x.2.at_+1-_);omega)
  ·exact cW M y K B J E
 ·obtain⟨y,B,J,E,S⟩:=w9 (s0:=s) hT (s:=Au s) ⟨a1,R,by show(L.length:Int)-(s.at_+1)<_;omega⟩ rfl (JU _);exact cW M y K B J E
@[reducible] def nj:Ab->TK×RS->Prop:=λ(L:Ab) (a:TK×RS)=>(Wf L a.2)/\True
@[reducible] def Aae:Ab->PT×RS->Prop:=λ(L:Ab) (a:PT×RS)=>(ZD L a.2)/\True
def Tx:=[(116:UInt8),111]
@[reducible] def AmB:Ab->PT×RS->Prop:=λ(L:Ab) (a:PT×RS)=>(∃(q:Ab),vK L=vK q/\CD q a.2/\Nat.le 1 (List.length Tx))/\Aa/\Aa/\(Cx/\Af Tx/\True)/\Ue L a
@[reducible] def AmC:Nat->Ab->PT×RS->Prop:=λ(n:Nat) (L:Ab) (a:PT×RS)=>(∃(q:Ab),vK L=vK q/\Bb q (n+1) (ZK a.2))/\Aa/\Aa/\(Cx/\True)/\Aae L a
def Gu:Ac:=[105,102]
def EX:Ac:=[118,97,114]
def Ga:Ac:=[99,97,108,108]
def Gb:Ac:=[99,97,110,99,101,108]
def Gc:Ac:=[106,111,105,110]
def Gd:Ac:=[108,111,103]
def Gv:Ac:=[115,112,97,119,110]
def GY:Ac:=[101,110,97,98,108,101]
def GX:Ac:=[100,105,115,97,98,108,101]
def Hg:Ac:=[114,101,116,117,114,110]
def Cz (L:Ab) (r:PT×RS):PT×RS:=(r.1,(BE L r.2 IM).2)
def OB (T:Ab->PF) (L:Ab) (t:TK) (k:TK×RS):PT×RS:=(nd 13 k.1.text 0 t [(Eg L k.2).1,(T L (BE L (Eg L k.2).2 MB).2).1],(T L (BE L (Eg L k.2).2 MB).2).2)
def Hs (T:Ab->PF) (L:Ab) (k:Int) (t:TK) (s:RS):PT×RS:=(nd k [] 0 t [(T L s).1],(T L s).2)
def J9 (L:Ab) (k:Int) (t:TK) (s:RS):PT×RS:=(nd k (A6 L s 1).1.text 0 t [],(A6 L s 1).2)
def BZ (Se:Ab->TK->PF) (Br Po T:Ab->PF) (L:Ab):PF:=λs=>
 if(Ar L s).kind≠2 then Se L (Ar L s) s
 else if(Ar L s).text=Gu then Br L s
 else if(Ar L s).text=Fe then Br L s
 else if(Ar L s).text=EX then Cz L (OB T L (Ar L s) (A6 L (Au s) 1))
 else if(Ar L s).text=Ga then Cz L (Hs T L 15 (Ar L s) (Au s))
 else if(Ar L s).text=Gb then Cz L (Hs T L 16 (Ar L s) (Au s))
 else if(Ar L s).text=Gc then Cz L (Hs T L 17 (Ar L s) (Au s))
 else if(Ar L s).text=Gd then Cz L (Hs T L 18 (Ar L s) (Au s))
 else if(Ar L s).text=FK then Cz L (Po L s)
 else if(Ar L s).text=Gv then Cz L (Po L s)
 else if(Ar L s).text=GY then Cz L (J9 L 21 (Ar L s) (Au s))
 else if(Ar L s).text=GX then Cz L (J9 L 22 (Ar L s) (Au s))
 else if(Ar L s).text=Hg then Cz L (nd 25 [] 0 (Ar L s) [],Au s)
 else Se L (Ar L s) s
structure GS (n:Nat) (Se:List TK->TK->PF) (Br Po T:List TK->PF):Prop where
 s:∀t,GF (n+1) 3 4 λL=>Se L t
 b:∀L s,JV L n s->CA L 1 2 s (Br L s)
 p:∀L s,JV L n s->CA L 1 2 s (Po L s)
 t:GF (n+1) 1 2 T
theorem EN {α:Type} {P:α->Prop} {p:Prop} [Decidable p] {a b:α} (y:p->P a) (q:¬p->P b):P (if p then a else b):=by
 by_cases h:p
 ·rw[Am h];exact y h
 ·rw[Ad h];exact q h
theorem wb {L:Ab} {E C q y:Int} {s:RS} {r:PT×RS} (h:CA L E C s r) (B:E<=q) (hc:C<=y):CA L q y s r:=⟨h.ok,h.ns,h.am,λz=>⟨(h.er z).1,(h.er z).2.1,by have:=(h.er z).2.2;omega⟩,by have:=h.ss;omega,h.so⟩
theorem WG {L:Ab} {E C:Int} {s:RS} {r:PT×RS} (h:CA L E C s r):CA L E C s (Cz L r):=by have e:=JK (w:=IM) h.ok;unfold Cz;generalize(BE L r.2 IM).2=u at e⊢;have R:=e.am;have O:=e.ax;have M:=e.eo;have K:=e.er;have J:=e.ns;have B:=h.am;have g2:=h.ss;have g3:=h.so;have q:=h.er;have y:=h.ns;exact⟨e.ok,by show u.nest=_;omega,by show _<=u.at_;omega,λz=>⟨by show u.err≠0;omega,by show u.at_=_;omega,(q z).2.2⟩,by show(sz r.1:Int)<=3*(u.at_-_)+C;omega,λz=>by have z:u.err=0:=z;show(sz r.1:Int)<=3*(u.at_-_);omega⟩
theorem Af8 {n:Nat} {T:Ab->PF} (hT:GF n 1 2 T) {L:Ab} {s0 s:RS} {k:Int} {t:TK} (q:Bb L n s) (y:s0.err=0) (hn:s.nest=s0.nest) (B:s0.at_+1<=s.at_):CA L 3 4 s0 (Hs T L k t s):=by
 have g:=hT L s q;unfold Hs;generalize T L s=x at g⊢;have E:=g.am;have g2:=g.ss;have g3:=g.so;have C:=g.ns;refine⟨g.ok,by show x.2.nest=_;omega,by show _<=x.2.at_;omega,λz=>absurd y z,?_,λz=>?_⟩
 ·show((sz _:Nat):Int)<=3*(x.2.at_-s0.at_)+4;rw[Hy];omega
 ·show((sz _:Nat):Int)<=3*(x.2.at_-s0.at_);rw[Hy];omega
theorem AeU {L:Ab} {s0 s:RS} {k:Int} {t:TK} (h:CD L s) (y:s0.err=0) (hn:s.nest=s0.nest) (B:s0.at_+1<=s.at_):CA L 3 4 s0 (J9 L k t s):=by
 have f:=I3 (k:=1) h (by decide);unfold J9;generalize(A6 L s 1)=q at f⊢;have E:=f.am;have C:=f.ns;refine⟨f.ok,by show q.2.nest=_;omega,by show _<=q.2.at_;omega,λz=>absurd y z,?_,λz=>?_⟩
 ·show((sz _:Nat):Int)<=3*(q.2.at_-s0.at_)+4;rw[K4];omega
 ·show((sz _:Nat):Int)<=3*(q.2.at_-s0.at_);rw[K4];omega
theorem Alj {n:Nat} {T:Ab->PF} (hT:GF n 1 2 T) {L:Ab} {s0:RS} {t:TK} {k:TK×RS} (B:Bb L n k.2) (E:s0.err=0) (hn:k.2.nest=s0.nest) (M:s0.at_+1<=k.2.at_):CA L 1 1 k.2 (Eg L k.2)/\Bb L n (BE L (Eg L k.2).2 MB).2/\CA L 3 4 s0 (OB T L t k):=by
 have g:=Ux (L:=L) (s:=k.2) B.ok;have K:=B.ns;have J:=B.lf;unfold OB;generalize Eg L k.2=y at g⊢;have U:=g.am;have g2:=g.ss;have g3:=g.so;have R:=g.ns;have S:=g.er;have O:=F9 y.1;have f:=JK (w:=MB) g.ok;generalize(BE L y.2 MB).2=q at f⊢;have f1:=f.am;have Z:=f.ax;have Y:=f.eo;have W:=f.er;have V:=f.ns;have C:Bb L n q:=⟨f.ok,by omega,by omega⟩;have d:=hT L q C;generalize T L q=x at d⊢;have d1:=d.am;have d2:=d.ss;have d3:=d.so;have d5:=d.ns;have d4:=d.er;have d6:=F9 x.1;refine⟨g,C,d.ok,by show x.2.nest=_;omega,by show _<=x.2.at_;omega,λz=>absurd E z,?_,λz=>?_⟩
 ·show((sz _:Nat):Int)<=3*(x.2.at_-s0.at_)+4;rw[JM];omega
 ·have z:x.2.err=0:=z;show((sz _:Nat):Int)<=3*(x.2.at_-s0.at_);rw[JM];omega
theorem y5 {n:Nat} {Se:Ab->TK->PF} {Br Po T:Ab->PF} (h:GS n Se Br Po T):GF (n+1) 3 4 (BZ Se Br Po T):=by
 intro L s q;have AA:=q.ok;have E:=q.ns;have U:=q.lf;unfold BZ;refine EN (P:=CA L 3 4 s) (λ_=>h.s _ L s q) λy=>?_;have y:(Ar L s).kind=2:=by omega
 have O:=P1 (L:=L) (s:=s) (by rw[y];decide);have C:=P0 (L:=L) (s:=s) (by rw[y];decide);have a1:=JY AA O;have pa:Bb L (n+1) (Au s):=⟨a1,E,by show(L.length:Int)-(s.at_+1)<_;omega⟩;have B:∀k,CA L 3 4 s (Cz L (Hs T L k (Ar L s) (Au s))):=λk=>WG (Af8 h.t pa C rfl (JU _));have M:∀k,CA L 3 4 s (Cz L (J9 L k (Ar L s) (Au s))):=λk=>WG (AeU a1 C rfl (JU _));have K:=wb (h.b L s ⟨q,y⟩) (show(1:Int)<=3 by decide) (show(2:Int)<=4 by decide);have J:=WG (wb (h.p L s ⟨q,y⟩) (show(1:Int)<=3 by decide) (show(2:Int)<=4 by decide));have f:=I3 (k:=1) a1 (by decide);have S:s.at_+1<=(A6 L (Au s) 1).2.at_:=f.am;have R:(A6 L (Au s) 1).2.nest=s.nest:=f.ns;exact EN (λ_=>K) λ_=>EN (λ_=>K) λ_=>EN (λ_=>WG (Alj h.t ⟨f.ok,by omega,by omega⟩ C R S).2.2) λ_=>EN (λ_=>B 15) λ_=>EN (λ_=>B 16) λ_=>EN (λ_=>B 17) λ_=>
  EN (λ_=>B 18) λ_=>EN (λ_=>J) λ_=>EN (λ_=>J) λ_=>EN (λ_=>M 21) λ_=>EN (λ_=>M 22) λ_=>EN (λ_=>WG (V6 AA O C (by decide))) λ_=>h.s _ L s q
@[reducible] def AmD:TK->Prop:=λ(a:TK)=>Bn/\Bn/\(KW a)/\True
@[reducible] def AmE:TK->Prop:=λ(a:TK)=>(KW a)/\Bn/\Bn/\True
@[reducible] def nr:Nat->Ab->RS->Prop:=λ(n:Nat) (L:Ab) (s:RS)=>(∃(q:Ab),vK L=vK q/\JV q n s)/\nh L s
@[reducible] def AmL:Ab->TK×RS->Prop:=λ(L:Ab) (a:TK×RS)=>Aa/\Aa/\(Cx/\True)/\nj L a
@[reducible] def AmF:Nat->(Ab->PF)->Ab->RS->PT×RS->Prop:=λ(n:Nat) (Br:Ab->PF) (L:Ab) (s:RS) (t:PT×RS)=>nr n L s/\∀(y:PT×RS),y=Br (kL (vK L)) s->W0 (vK L) (vK L) (vW (flat y.1)) y.2 t
@[reducible] def AmG:Nat->Ab->RS->Prop:=λ(n:Nat) (L:Ab) (s:RS)=>(∃(q:Ab),vK L=vK q/\Bb q (n+1) (ZK s))/\Aa/\Aa/\(Cx/\True)/\na L s
def lI (a:Ab) (b:RS):=(∃(q:Ab),vK a=vK q/\CD q b/\Nat.le 1 (List.length [(59:UInt8)]))
def la:=(Cx/\Af [(59:UInt8)]/\True)
@[reducible] def AmH:Ab->TK×RS->Prop:=λ(L:Ab) (a:TK×RS)=>(lI L a.2)/\Aa/\Aa/\la/\nj L a
@[reducible] def Aaf:Ab->PT×RS->Prop:=λ(L:Ab) (a:PT×RS)=>(lI L a.2)/\Aa/\Aa/\la/\Ue L a
@[reducible] def AmI:Ab->RS->Prop:=λ(L:Ab) (s:RS)=>(wz L s)/\Aa/\Aa/\(Cx/\TN/\True)/\na L s
@[reducible] def AmJ:Nat->(Ab->TK->PF)->Ab->RS->PT×RS->TK->Prop:=λ(n:Nat) (Se:Ab->TK->PF) (L:Ab) (s:RS) (t:PT×RS) (a:TK)=>((∃(q:Ab),vK L=vK q/\Bb q (n+1) s)/\Aa/\Aa/\(Cx/\((Aa/\Af (TK.kind a))/\Af (TK.text a)/\(Aa/\Af (TK.num a))/\(Aa/\Af (TK.line a))/\(Aa/\Af (TK.Ao a))/\True)/\True)/\RB L s)/\∀(y:PT×RS),y=Se (kL (vK L)) a s->W0 (vK L) (vK L) (vW (flat y.1)) y.2 t
@[reducible] def AmK:Nat->(Ab->PF)->Ab->RS->PT×RS->Prop:=λ(n:Nat) (Po:Ab->PF) (L:Ab) (s:RS) (t:PT×RS)=>nr n L s/\∀(y:PT×RS),y=Po (kL (vK L)) s->Aaf L y/\∀(q:TK×RS),q=BE (kL (vK L)) y.2 [(59:UInt8)]->W0 (vK L) (vK L) (vW (flat y.1)) q.2 t
def D6:Ac:=[123]
def Fw:Ac:=[125]
def CY (St:Ab->PF) (L:Ab):Nat->Av->RS->Av×RS
 |0,l,s=>(l,s)
 |k+1,l,s=>if s.err=0/\As L s Fw=false then CY St L k (l++[(St L s).1]) (St L s).2 else(l,s)
def LY (St:Ab->PF) (L:Ab) (s:RS):Av×RS:=CY St L (B3 L) [] s
def LX (St:Ab->PF) (L:Ab):PF:=λs=>(nd 12 [] 0 (B7 L s D6).1 (LY St L (B7 L s D6).2).1,down (BE L (LY St L (B7 L s D6).2).2 Fw).2)
structure Hi (L:List TK) (E C:Int) (s:RS) (r:List PT×RS):Prop where
 ok:CD L r.2
 ns:r.2.nest=s.nest
 am:s.at_<=r.2.at_
 er:s.err≠0->r.2.err≠0/\r.2.at_=s.at_/\(BG r.1:Int)<=E
 ss:(BG r.1:Int)<=3*(r.2.at_-s.at_)+C
 so:r.2.err=0->(BG r.1:Int)<=3*(r.2.at_-s.at_)
def YO (s:St) (ids:List Nat):List (Nat×Ae):=List.rec (motive:=λ_=>List (Nat×Ae)) [] (λt _ q=>cond (ids.any (Nat.beq t)) q (Option.rec (motive:=λ_=>List (Nat×Ae)) q (λv=>(t,v)::q) (s.H.get t))) (List.range s.nx)
theorem RT {E C:Int} (Y:4<=C) {n:Nat} {St:Ab->PF} (M:GF n 3 4 St) {L:Ab} {s0 s:RS} {l:Av} (h:Hi L E C s0 (l,s)) (B:s0.err=0->Bb L n s0) (y:s.err=0):Bb L n s/\Hi L E C s0 (l++[(St L s).1],(St L s).2)/\De L (St L s).2<De L s:=by
 have AA:CD L s:=h.ok;have W:s0.at_<=s.at_:=h.am;have V:s.nest=s0.nest:=h.ns;have U:(BG l:Int)<=3*(s.at_-s0.at_):=h.so y;have K:s0.err≠0->s.err≠0:=λe=>(h.er e).1;have q:s0.err=0:=Classical.byContradiction λe=>K e y;have R:=(B q).ns;have S:=(B q).lf;have pa:Bb L n s:=⟨AA,by omega,by omega⟩;have g:=M L s pa;generalize St L s=r at g⊢;have O:=g.am;have g2:=g.ss;have g3:=g.so;have g5:=g.ns;have Z:=F9 r.1;refine⟨pa,⟨g.ok,by show r.2.nest=_;omega,by show s0.at_<=r.2.at_;omega,λe=>absurd q e,?_,λJ=>?_⟩,Y8 g.ok y O λe=>by have:=g3 e;omega⟩
 ·show((BG (l++[r.1]):Nat):Int)<=3*(r.2.at_-s0.at_)+C;rw[mo,Cc,Hf];omega
 ·have J:r.2.err=0:=J;show((BG (l++[r.1]):Nat):Int)<=3*(r.2.at_-s0.at_);rw[mo,Cc,Hf];omega
theorem XG {E C:Int} (B:4<=C) {n:Nat} {St:Ab->PF} (y:GF n 3 4 St) {L:Ab} {s0:RS} (q:s0.err=0->Bb L n s0):∀(k:Nat) (l:Av) (s:RS),Hi L E C s0 (l,s)->Hi L E C s0 (CY St L k l s)
 |0,l,s,h=>h
 |k+1,l,s,h=>by unfold CY;exact EN (λe=>XG B y q k _ _ (RT B y h q e.1).2.1) λ_=>h
theorem QM {L:Ab} {C:Int} {s:RS} (h:CD L s) (q:0<=C):Hi L 0 C s ([],s):=⟨h,rfl,JU _,λe=>⟨e,rfl,by show((BG []:Nat):Int)<=0;rw[Hf];decide⟩,by show((BG []:Nat):Int)<=3*(s.at_-s.at_)+C;rw[Hf];omega,λ_=>by show((BG []:Nat):Int)<=3*(s.at_-s.at_);rw[Hf];omega⟩
theorem Hi.P4 {L:Ab} {E C:Int} {s:RS} {r:Av×RS} (h:Hi L E C s r) (q:CD L s) (y:C<=100):BG r.1<=300100:=by have M:=h.ss;have K:=h.ok.a1;have J:=h.ok.len;have B:=q.a0;omega
theorem AaW {n:Nat} {St:Ab->PF} (K:GF n 3 4 St):GF (n+1) 1 2 (LX St):=by
 intro L s y;have AA:=y.ok;have M:=y.ns;have R:=y.lf;have o:=Zj (w:=D6) AA (show s.nest<=900 by omega);unfold LX;generalize(B7 L s D6)=q at o⊢;have W:=o.am;have V:=o.ax;have B:=o.eo;have U:=o.ns;have S:=o.er;have g:=XG (E:=0) (C:=4) (by decide) K (L:=L) (s0:=q.2) (λz=>⟨o.ok,by have:=B z;omega,by have:=B z;omega⟩) (B3 L) [] q.2 (QM o.ok (by decide));unfold LY;generalize(CY St L (B3 L) [] q.2)=r at g⊢;have g1:=g.am;have g2:=g.ss;have g3:=g.so;have Z:=g.er;have Y:=g.ns;have f:=JK (w:=Fw) g.ok;generalize(BE L r.2 Fw).2=v at f⊢;have f1:=f.am;have f2:=f.ax;have f3:=f.eo;have f4:=f.er;have f5:=f.ns;have O:=AA.n0;refine⟨Sb f.ok (by omega),by show v.nest-1=_;omega,by show s.at_<=v.at_;omega,λe=>⟨by show v.err≠0;omega,by show v.at_=_;omega,?_⟩,?_,λJ=>?_⟩
 ·show((sz _:Nat):Int)<=1;rw[My];omega
 ·show((sz _:Nat):Int)<=3*(v.at_-s.at_)+2;rw[My];omega
 ·have J:v.err=0:=J;show((sz _:Nat):Int)<=3*(v.at_-s.at_);rw[My];omega
def lX (a:TK):=(Aa/\Aa/\Aa/\Aa/\(Wd a)/\Aa/\Af (TK.Ao a))
@[reducible] def AmM:TK×RS->Prop:=λ(a:TK×RS)=>(lX a.1)/\True
@[reducible] def Aag:Ab->Av×RS->Prop:=λ(L:Ab) (a:Av×RS)=>(Wf L a.2)/\True
def lH (a:Ab) (b:RS):=(∃(q:Ab),vK a=vK q/\CD q b/\Nat.le 1 (List.length [(125:UInt8)]))
def l9:=(Cx/\Af [(125:UInt8)]/\True)
@[reducible] def AmN:Ab->Av×RS->Prop:=λ(L:Ab) (a:Av×RS)=>(lH L a.2)/\Aa/\Aa/\l9/\Aag L a
structure LV where
 u:List TK->PF
 t:List TK->PF
 b:List TK->PF
def Nt (x:LV):Ab->PF:=Rh x.t (firstM x.t x.b)
def GW (x:LV):Ab->PF:=LK x.u (Nt x)
def EV (x:LV):Ab->PF:=LJ (F6 (F6 (GW x) [IL]) [Ip,Ir])
def Io (x:LV):Ab->PF:=OA (Nt x)
def JL (x:LV):Ab->PF:=BZ (λL t=>LH (Io x) (EV x) L t) (NJ (EV x) x.b) (Jw (EV x) (Io x)) (EV x)
def QF (x:LV):LV:=⟨GW x,EV x,LX (JL x)⟩
def lv:Nat->LV
 |0=>⟨λ_ s=>(Dm,s),λ_ s=>(Dm,s),λ_ s=>(Dm,s)⟩
 |n+1=>QF (lv n)
structure UM (n:Nat) (x:LV):Prop where
 u:GF n 1 2 x.u
 t:GF n 1 2 x.t
 b:GF n 1 2 x.b
theorem S6 {L:Ab} {s:RS} (h:Bb L 0 s):False:=by have:=h.lf;have:=h.ok.a1;omega
theorem kr {L:Ab} {n m:Nat} {s:RS} (h:Bb L n s) (q:n<=m):Bb L m s:=⟨h.ok,h.ns,by have:=h.lf;omega⟩
theorem AeE:UM 0 (lv 0):=⟨λL s h=>(S6 h).elim,λL s h=>(S6 h).elim,λL s h=>(S6 h).elim⟩
theorem AeD {n:Nat} {x:LV} (h:UM n x):UM (n+1) (QF x):=by have O:=s7 h.t h.b;have E:GF (n+1) 1 2 (Nt x):=yv h.t O;have C:GF (n+1) 1 2 (GW x):=zM h.u E;have K:=Z6 (ws:=[IL]) C;have J:=Z6 (ws:=[Ip,Ir]) K;have q:GF (n+1) 1 2 (EV x):=yn J;have va:GF (n+1) 1 2 (Io x):=zP E;have M:GS n (λL t=>LH (Io x) (EV x) L t) (NJ (EV x) x.b) (Jw (EV x) (Io x)) (EV x):=⟨λt=>yK va q t,λL s y=>fP q h.b y,λL s y=>kp q va y,q⟩;have st:GF (n+1) 3 4 (JL x):=y5 M;have B:GF n 3 4 (JL x):=λL s y=>st L s (kr y (Nat.le_succ n));exact⟨C,q,AaW B⟩
theorem Y6:∀n,UM n (lv n)
 |0=>AeE
 |n+1=>AeD (Y6 n)
end Go.Proofs.YtlmmbanfhjaioaaGreatDoor
end
end
