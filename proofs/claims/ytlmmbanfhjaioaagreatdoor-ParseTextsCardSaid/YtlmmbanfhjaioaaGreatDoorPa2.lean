/- Laid by program out of its parts: PaL, PaM, PaN, PaO, PaP, PaQ, PaR, PaS, PaT, PaU. -/
import Derived.Test.YtlmmbanfhjaioaaGreatDoorPa1
import Derived.Test.YtlmmbanfhjaioaaGreatDoorMh
noncomputable section
set_option linter.unusedVariables false
set_option linter.unusedSimpArgs false
section
set_option maxRecDepth 100000
set_option maxHeartbeats 2000000
open Go Go.Ev
namespace Go.Proofs.YtlmmbanfhjaioaaGreatDoor
structure Av (L:List TK) (n:Nat) (s:RS):Prop where
 ok:Az L s
 ns:s.nest<=64
 lf:(L.length:Int)-s.at_<n
structure Cf (L:List TK) (E C:Int) (s:RS) (r:PT×RS):Prop where
 ok:Az L r.2
 ns:r.2.nest=s.nest
 am:s.at_<=r.2.at_
 er:s.err≠0->r.2.err≠0/\r.2.at_=s.at_/\(sz r.1:Int)<=E
 ss:(sz r.1:Int)<=3*(r.2.at_-s.at_)+C
 so:r.2.err=0->(sz r.1:Int)<=3*(r.2.at_-s.at_)
def GF (n:Nat) (E C:Int) (F:List TK->PF):Prop:=∀L s,Av L n s->Cf L E C s (F L s)
def bM (A:Type) (ar:A->List AV) (rd:List AV->Option A) (fz:Nat) (pre:List TK->RS->A->Prop) (F:List TK->A->PF):Ea:=Nm A ar rd pre (λc s a=>.gen (F (kL c) a s) λy=>.ret (vW (flat y.1)) [Bm c y.2] 0) fz
def bN (fz:Nat) (pre:List TK->RS->Prop) (F:List TK->PF):Ea:=bM Unit (λ_=>[]) Kb fz (λL s _=>pre L s) (λL _=>F L)
def I0 (pre:List TK->RS->Prop) (F:List TK->PF):Ea:=bN 0 pre F
def sG (pre:List TK->RS->Prop) (F:List TK->PF):Da:=(I0 pre F).NF
def sF (n:Nat) (F:List TK->PF):Da:=sG (λL s=>Av L n s) F
structure Ir (c0 c v:AV) (s:RS) (t:PT×RS):Prop where
 c:c=c0
 v:v=vW (flat t.1)
 s:s=t.2
def Hc (q:AV) (t:PT×RS):KC:=λr=>match r with
 |.mk v H _=>A7 (H.get 0) λo=>match o with
  |.cells ty c z n op=>Ap (cond (Nat.beq ty 79) (cond (Nat.beq n 5) (not op) false) false) (A7 (Kc c z 5 0) λl=>match l with
   | [c,.int .i64 a,.int .i64 b,.int .i64 d,.int .i64 e]=>Ir q c v ⟨a,b,d,e⟩ t
   |_=>False)
  |_=>False
 |_=>False
structure HU (L:List TK) (n:Nat) (s:RS):Prop where
 ok:Az L s
 pe:s.err=0->Av L n s
def A5 (F:List TK->PF):List TK->PF:=λL s=>if s.err≠0 then(EV,s)else F L s
def sE (n:Nat) (F:List TK->PF):Da:=sG (λL s=>HU L n s) (A5 F)
def BZ (L:List TK):PF:=λs=>(nd 29 (AB L s 1).1.text 0 (AB L s 1).1 [],(AB L s 1).2)
def B9 (L:List TK):PF:=λs=>if(Aq L s).kind=1 then(nd 5 (Aq L s).text 0 (Aq L s) [],Ai s)else(nd 5 (Al L s EL).1.text 0 (Al L s EL).1 [],(Al L s EL).2)
def K1:List UInt8:=[110,117,108,108]
def Mw:List UInt8:=[105,116]
def OD:List UInt8:=[110,101,119]
def K0:List UInt8:=[102,110]
def FD:List UInt8:=[40]
def My:List UInt8:=[41]
theorem Abj {L:List TK} {t:PT×RS} {r:CR} (h:Hc (vK L) t r):Cz Tryz.prog 0 0 1 (.ret (vW (flat t.1)) [Bm (vK L) t.2] 0) r:=by
 unfold Hc at h;split at h
 ·rename_i v H n;obtain⟨o,O,h⟩:=BG h;split at h
  ·rename_i ty cc z m op;obtain⟨C,R⟩:=Eh.1 h;obtain⟨l,Z,J⟩:=BG R;clear h R;split at J
   ·rename_i c a b d e;obtain⟨C,B⟩:=A4 C;obtain⟨B,S⟩:=A4 B;rw[Nat.beq_eq]at C B;have S:op=false:=by cases op<;>simp_all
    subst C;subst B;subst S;have hc:=J.c;have hv:=J.v;have M:=J.s;subst hc;subst hv;have E:=(Oq cc z 5 0 _ Z).2;have c0:=E 0 _ rfl;have c1:=E 1 _ rfl;have c2:=E 2 _ rfl;have c3:=E 3 _ rfl;have c4:=E 4 _ rfl;have step:∀(x:AV) (k:Nat) (q:List (Nat×Nat)),(∀b,P3 x b q=q)->(match cellOf cc z k with
      |none=>q
      |some b=>P3 x b q)=q:=λx k q Y=>by
     split
     ·rfl
     ·exact Y _
    have es:Oz .leaf (.CC (SU (vK L) t.2)) cc z 5 [(0,0)]=[(0,0)]:=by have s0:Oz .leaf (.CC (SU (vK L) t.2)) cc z 1 [(0,0)]=[(0,0)]:=step (vK L) 0 _ λb=>rfl;have W:Oz .leaf (.CC (SU (vK L) t.2)) cc z 2 [(0,0)]=[(0,0)]:=(step (.int .i64 t.2.at_) 1 _ λb=>rfl).trans s0;have V:Oz .leaf (.CC (SU (vK L) t.2)) cc z 3 [(0,0)]=[(0,0)]:=(step (.int .i64 t.2.nest) 2 _ λb=>rfl).trans W;have U:Oz .leaf (.CC (SU (vK L) t.2)) cc z 4 [(0,0)]=[(0,0)]:=(step (.int .i64 t.2.err) 3 _ λb=>rfl).trans V;exact(step (.int .i64 t.2.Bp) 4 _ λb=>rfl).trans U
    have e:P4 H [(0,Bm (vK L) t.2)] [(0,0)]=[(0,0)]:=by show fL (Option.rec (motive:=λ_=>List (Nat×Nat)) [(0,0)] (λo=>fV (Bm (vK L) t.2) o [(0,0)]) (H.get 0)) (λq=>q)=_;rw[O,OY];exact es
    show fL (P4 H [(0,Bm (vK L) t.2)] [(0,0)]) (λq=>cond (Nat.beq 1 1) (cond (Nat.ble 1 1) (XQ 1 1 [0] q) false) false=true/\tP q (Tr.leaf.set 0 (vW (flat t.1))) [(0,vW (flat t.1))]/\hP 1 q H [(0,Bm (vK L) t.2)]);rw[e,OY];refine⟨rfl,⟨Ac1 _ _,trivial⟩,⟨rfl,?_⟩,trivial⟩;show(match H.get 0 with
     |none=>False
     |some o=>Ed [(0,0)] (Bm (vK L) t.2) o)
    rw[O];refine⟨rfl,rfl,rfl,?_⟩;have pp:∀(x y:AV) (k:Nat),cellOf cc z k=some y->AR [(0,0)] x y->(match cellOf cc z k with
      |none=>False
      |some b=>AR [(0,0)] x b):=λx y k C B=>by rw[C];exact B
    have K:∀x y:Int,x=y->AR [(0,0)] (.int .i64 x) (.int .i64 y):=λx y h=>⟨rfl,h.symm⟩;exact⟨⟨⟨⟨⟨trivial,pp _ _ 0 c0 ⟨rfl,rfl,⟨λi _=>⟨⟨rfl,rfl⟩,rfl,⟨rfl,rfl⟩,⟨rfl,rfl⟩,⟨rfl,rfl⟩,trivial⟩⟩⟩⟩,pp _ _ 1 c1 (K _ _ (by rw[<-M]))⟩,pp _ _ 2 c2 (K _ _ (by rw[<-M]))⟩,pp _ _ 3 c3 (K _ _ (by rw[<-M]))⟩,pp _ _ 4 c4 (K _ _ (by rw[<-M]))⟩
   ·exact J.elim
  ·exact h.elim
 ·exact h.elim
theorem OK {L:List TK} {s:RS} (h:(Aq L s).kind≠0):s.err=0:=by
 unfold Aq at h;split at h
 ·exact absurd rfl h
 ·rename_i g;omega
theorem J0 {L:List TK} {s:RS} {w:List UInt8} (h:Ah L s w=true):s.err=0:=by unfold Ah at h;rw[Bool.and_eq_true,decide_eq_true_eq]at h;refine OK (L:=L) λe=>?_;rw[e]at h;have:=h.1;unfold I2 at this;split at this<;>omega
structure Qk (L:List TK) (s r:RS):Prop where
 ok:Az L r
 ns:r.nest=s.nest
 am:s.at_<=r.at_
 ax:r.at_<=s.at_+1
 er:s.err≠0->r.err≠0/\r.at_=s.at_
 eo:r.err=0->r.at_=s.at_+1
theorem X7 (s:RS) {e:Int} (q:e≠0):(Bj s e).err≠0/\(Bj s e).at_=s.at_/\(Bj s e).nest=s.nest:=by
 unfold Bj;split
 ·exact⟨q,rfl,rfl⟩
 ·rename_i h;exact⟨h,rfl,rfl⟩
theorem s8 {L:List TK} {s:RS} {b:Bool} (h:Az L s) (hb:b=true->s.at_<L.length/\s.err=0):Qk L s (Ei L s b).2:=by
 have y:=Aou (b:=b) h λe=>(hb e).1;have q:=X7 s (e:=4) (by decide);unfold Ei at y⊢;split at y
 ·rename_i e;rw[if_pos e];have:=(hb e).2;exact⟨y,rfl,show s.at_<=s.at_+1 by omega,show s.at_+1<=s.at_+1 by omega,λh=>absurd this h,λ_=>rfl⟩
 ·rename_i e;rw[if_neg e];exact⟨y,q.2.2,by show _<=(Bj s 4).at_;omega,by show(Bj s 4).at_<=_;omega,λh=>⟨q.1,q.2.1⟩,λh=>absurd h q.1⟩
theorem G4 {L:List TK} {s:RS} {w:List UInt8} (h:Az L s):Qk L s (Aw L s w).2:=s8 h λe=>⟨Bb e,J0 e⟩
theorem Gu {L:List TK} {s:RS} {k:Int} (h:Az L s) (q:k≠0):Qk L s (AB L s k).2:=s8 h λe=>have y:(Aq L s).kind=k:=of_decide_eq_true e;⟨LL (by rw[y];exact q),OK (by rw[y];exact q)⟩
theorem Iz {L:List TK} {s:RS} {ws:List (List UInt8)} (h:Az L s):Qk L s (Al L s ws).2:=by refine s8 h λe=>?_;obtain⟨w,_,q⟩:=List.any_eq_true.1 e;exact⟨Bb q,J0 q⟩
structure Opn (L:List TK) (s r:RS):Prop where
 ok:Az L r
 ns:r.nest=s.nest+1
 am:s.at_<=r.at_
 ax:r.at_<=s.at_+1
 er:s.err≠0->r.err≠0/\r.at_=s.at_
 eo:r.err=0->r.at_=s.at_+1/\s.nest<64
theorem Pc {L:List TK} {s:RS} {w:List UInt8} (h:Az L s) (hn:s.nest<=900):Opn L s (AQ L s w).2:=by
 have hd:=wV (w:=w) h hn;have q:=G4 (w:=w) hd;have key:(EM L s w).nest=s.nest+1/\(EM L s w).at_=s.at_/\(s.err≠0->(EM L s w).err≠0)/\((EM L s w).err=0->¬(Ah L s w=true/\64<=s.nest)):=by
  have y:=X7 s (e:=5) (by decide);unfold EM;split
  ·exact⟨rfl,y.2.1,λ_=>y.1,λh=>absurd h y.1⟩
  ·rename_i e;exact⟨rfl,rfl,λh=>h,λ_=>e⟩
 obtain⟨k1,k2,k3,k4⟩:=key;have O:=q.ns;have M:=q.am;have K:=q.ax;have C:=q.er;have J:=q.eo;unfold AQ;refine⟨q.ok,by omega,by omega,by omega,λe=>by have:=C (k3 e);omega,λe=>⟨by have:=J e;omega,?_⟩⟩;have hz:(EM L s w).err=0:=Classical.byContradiction λhz=>(C hz).1 e;have hi:Ah L (EM L s w) w=true:=by
  have:(Aw L (EM L s w) w).2.err=0:=e;unfold Aw Ei at this;split at this
  ·rename_i h;exact h
  ·exact absurd this (X7 _ (by decide)).1
 have B:Ah L s w=true:=by have hb:=k4 hz;unfold EM at hi;rw[if_neg hb]at hi;exact hi
 have:=k4 hz;by_cases E:s.nest<64
 ·exact E
 ·exact absurd ⟨B,by omega⟩ this
theorem FF {L:List TK} {s:RS} (h:Az L s) (q:s.at_<L.length):Az L (Ai s):=⟨h.len,by have:=h.a0;show 0<=s.at_+1;omega,show s.at_+1<=L.length by omega,h.n0,h.n1⟩
theorem S1 {L:List TK} {s:RS} (h:Az L s) (hn:1<=s.nest):Az L (down s):=⟨h.len,h.a0,h.a1,show 0<=s.nest-1 by omega,by have:=h.n1;show s.nest-1<=1000;omega⟩
theorem Kd (k:Int) (s:List UInt8) (n:Int) (t:TK):sz (nd k s n t [])=1:=by rw[Ms,Ig]
theorem Hs (k:Int) (s:List UInt8) (n:Int) (t:TK) (x:PT):sz (nd k s n t [x])=1+sz x:=by rw[Ms,Fl,Ig];omega
theorem JL (k:Int) (s:List UInt8) (n:Int) (t:TK) (x y:PT):sz (nd k s n t [x,y])=1+(sz x+sz y):=by rw[Ms,Fl,Fl,Ig];omega
theorem Ack:sz EV=1:=by unfold EV;rw[P5,Ig]
theorem Xa {L:List TK} {s:RS} {k:Int} {x:List UInt8} {n:Int} {t:TK} {E C:Int} (h:Az L s) (q:s.at_<L.length) (y:s.err=0) (B:0<=C):Cf L E C s (nd k x n t [],Ai s):=⟨FF h q,rfl,show s.at_<=s.at_+1 by omega,λe=>absurd y e,by show((sz _:Nat):Int)<=3*(s.at_+1-s.at_)+C;rw[Kd];omega,λ_=>by show((sz _:Nat):Int)<=3*(s.at_+1-s.at_);rw[Kd];omega⟩
theorem Aa2 {L:List TK} {s r:RS} {k:Int} {x:List UInt8} {n:Int} {t:TK} (h:Qk L s r):Cf L 1 1 s (nd k x n t [],r):=by
 have B:=h.am;have C:=h.ax;have q:=h.er;have y:=h.eo;refine⟨h.ok,h.ns,B,λe=>⟨(q e).1,(q e).2,?_⟩,?_,λe=>?_⟩
 ·show((sz _:Nat):Int)<=1;rw[Kd];omega
 ·show((sz _:Nat):Int)<=_;rw[Kd];show(1:Int)<=3*(r.at_-s.at_)+1;omega
 ·have:=y e;show((sz _:Nat):Int)<=_;rw[Kd];show(1:Int)<=3*(r.at_-s.at_);omega
theorem XW {L:List TK} {s:RS} (h:Az L s):Cf L 1 1 s (BZ L s):=Aa2 (Gu h (by decide))
theorem Qb {L:List TK} {s:RS} (h:Az L s):Cf L 1 1 s (B9 L s):=by
 unfold B9;split
 ·rename_i e;exact Xa h (LL (by rw[e];decide)) (OK (by rw[e];decide)) (by decide)
 ·exact Aa2 (Iz h)
theorem O2 {L:List TK} {s:RS} {n:Nat} {E C:Int} {F:List TK->PF} (y:GF n E C F) (q:HU L n s) (J:1<=C):Cf L 1 C s (A5 F L s):=by
 have h:=q.ok;have q:=q.pe;unfold A5;split
 ·rename_i e;exact⟨h,rfl,Int.le_refl _,λ_=>⟨e,rfl,by show((sz EV:Nat):Int)<=1;rw[Ack];omega⟩,by show((sz EV:Nat):Int)<=3*(s.at_-s.at_)+C;rw[Ack];omega,λB=>absurd B e⟩
 ·rename_i e;have e:s.err=0:=by omega
  have p:=y L s (q e);exact⟨p.ok,p.ns,p.am,λh=>absurd e h,p.ss,p.so⟩
theorem AbC {g:FuncId} {A:Type} {ar:A->List AV} {rd:List AV->Option A} {fz:Nat} {pre:List TK->RS->A->Prop} {F:List TK->A->PF} (B:∀L s a,pre L s a->∃cx fuel args,∃K:KC,cx.P=Tryz.prog/\cx.P.follows .mixedOrders=true/\DP cx.P cx.tb/\.ptr 0 0::ar a=args/\ (∀r,K r->Cz Tryz.prog fz 0 1 (.ret (vW (flat (F L a s).1)) [Bm (vK L) (F L a s).2] 0) r)/\(AG cx fuel).call g args (AU (A0 [Bm (vK L) s] 0)) 1 K):AD Tryz.prog g (bM A ar rd fz pre F).NF:=by
 refine AfR (bM A ar rd fz pre F) (λp q=>by cases q) (λH _ p q=>by cases q) (λx=>rfl) (λx o M=>?_) (λx q=>?_) (λx ids nx q=>?_) λx q=>?_
 ·rw[List.mem_singleton.1 M];rfl
 ·obtain⟨⟨c,s⟩,a⟩:=x;obtain⟨L,rfl,h⟩:=q;exact OT L _ (vY _)
 ·obtain⟨⟨c,s⟩,a⟩:=x;obtain⟨L,rfl,h⟩:=q;show hOut (EY (nx+0) λn=>Cv.ret (vW (flat (F (kL (vK L)) a s).1)) ((ids++List.range' nx 0).zip [Bm (vK L) (F (kL (vK L)) a s).2]) n)=hOut (EY (nx+0) λn=>(λC=>Cv.ret (DD (BI 0 C) 4 (vW (flat (F (kL (vK L)) a s).1))) (C.zip ([Bm (vK L) (F (kL (vK L)) a s).2].map (Cy (BI 0 C)))) n) (ids++List.range' nx 0));rw[FL,FL];rfl
 ·obtain⟨⟨c,s⟩,a⟩:=x;obtain⟨L,hc,h⟩:=q;have hc:c=vK L:=hc;subst hc;obtain⟨cx,fuel,args,K,V,U,S,O,R,E⟩:=B L s a h;rw[<-O]at E;refine⟨cx,fuel,K,V,U,S,λr J=>?_,E⟩;have h:=R r J;show Cz Tryz.prog fz 0 1 (.gen (F (kL (vK L)) a s) λy=>.ret (vW (flat y.1)) [Bm (vK L) y.2] 0) r;rw[Dz];exact h
theorem et {g:FuncId} {fz:Nat} {pre:List TK->RS->Prop} {F:List TK->PF} (q:∀L s,pre L s->∃cx fuel,∃K:KC,cx.P=Tryz.prog/\cx.P.follows .mixedOrders=true/\DP cx.P cx.tb/\(∀r,K r->Cz Tryz.prog fz 0 1 (.ret (vW (flat (F L s).1)) [Bm (vK L) (F L s).2] 0) r)/\ (AG cx fuel).call g [.ptr 0 0] (AU (A0 [Bm (vK L) s] 0)) 1 K):AD Tryz.prog g (bN fz pre F).NF:=AbC λL s _ h=>by obtain⟨cx,fuel,K,J,E,C,y,B⟩:=q L s h;exact⟨cx,fuel,_,K,J,E,C,rfl,y,B⟩
theorem IH {g:FuncId} {pre:List TK->RS->Prop} {F:List TK->PF} (q:∀L s,pre L s->∃cx fuel,cx.P=Tryz.prog/\cx.P.follows .mixedOrders=true/\DP cx.P cx.tb/\ ∀t,t=F L s->(AG cx fuel).call g [.ptr 0 0] (AU (A0 [Bm (vK L) s] 0)) 1 (Hc (vK L) t)):AD Tryz.prog g (sG pre F):=by refine et (fz:=0) λL s h=>?_;obtain⟨cx,fuel,J,E,C,B⟩:=q L s h;exact⟨cx,fuel,Hc (vK L) (F L s),J,E,C,λr y=>Abj y,B _ rfl⟩
theorem AN {L:List TK} {p:List TK->Prop} (h:p L):∃M,vK L=vK M/\p M:=⟨L,rfl,h⟩
theorem MJ {L:List TK} {k n:Int} {x:List UInt8} {tk:TK} {s:RS} {t:PT×RS} (h:t=(nd k x n tk [],s)):Ir (vK L) (vK L) (vW (A3 k x n tk [])) s t:=by subst h;exact⟨rfl,by rw[NL,nF],rfl⟩
theorem KS {W q:List LT} (h:W=q):W.length=q.length/\Au λi=>i.succ<=W.length->(W.getD i LT.none).kind=(q.getD i LT.none).kind/\(W.getD i LT.none).text=(q.getD i LT.none).text/\(W.getD i LT.none).n=(q.getD i LT.none).n/\(W.getD i LT.none).line=(q.getD i LT.none).line/\(W.getD i LT.none).Ag=(q.getD i LT.none).Ag/\(W.getD i LT.none).kids.length=(q.getD i LT.none).kids.length/\Au λj=>j.succ<=(W.getD i LT.none).kids.length->(W.getD i LT.none).kids.getD j 0=(q.getD i LT.none).kids.getD j 0:=by subst h;exact⟨rfl,⟨λi _=>⟨rfl,rfl,rfl,rfl,rfl,rfl,⟨λ_ _=>rfl⟩⟩⟩⟩
theorem Hr {a b:RS} (h:a=b):((a.at_=b.at_/\a.nest=b.nest)/\a.err=b.err)/\a.Bp=b.Bp:=by subst h;exact⟨⟨⟨rfl,rfl⟩,rfl⟩,rfl⟩
theorem sy {k n:Int} {x:List UInt8} {tk:TK} {y:PT} {g:Nat->AV} (hy:sz y<=1000000) (q:g 0=vW (flat y)):BM 1 g/\A3 k x n tk (B6 1 g)=flat (nd k x n tk [y]):=by obtain⟨C,B⟩:=tk1 hy q;exact⟨C,by rw[NL,B]⟩
theorem AcI {k n:Int} {x:List UInt8} {tk:TK} {y z:PT} {g:Nat->AV} (hy:sz y+sz z<=1000000) (B:g 0=vW (flat y)) (q:g 1=vW (flat z)):BM 2 g/\A3 k x n tk (B6 2 g)=flat (nd k x n tk [y,z]):=by obtain⟨E,C⟩:=tk2 hy B q;exact⟨E,by rw[NL,C]⟩
theorem HZ {L:List TK} {t y:PT×RS} (h:t=y):Ir (vK L) (vK L) (vW (flat y.1)) y.2 t:=by subst h;exact⟨rfl,rfl,rfl⟩
theorem nb {b:Bool} (h:b=false):¬b=true:=by rw[h];decide
theorem Cf.DU {L:List TK} {E C:Int} {s:RS} {r:PT×RS} (h:Cf L E C s r) (q:Az L s) (y:C<=100):sz r.1<=300100:=by have M:=h.ss;have K:=h.ok.a1;have J:=h.ok.len;have B:=q.a0;omega
theorem OW {L:List TK} {k n:Int} {x:List UInt8} {tk:TK} {s:RS} {t:PT×RS} {y:PT} {g:Nat->AV} {c:Bool} (hc:c=true) (hy:sz y<=1000000) (q:g 0=vW (flat y)) (h:t=(nd k x n tk [y],s)):(c=true/\BM 1 g)/\Ir (vK L) (vK L) (vW (A3 k x n tk (B6 1 g))) s t:=by subst h;obtain⟨C,B⟩:=tk1 hy q;exact⟨⟨hc,C⟩,rfl,by rw[NL,B],rfl⟩
theorem Td {L:List TK} {k n:Int} {x:List UInt8} {tk:TK} {s:RS} {t:PT×RS} {y z:PT} {g:Nat->AV} {c:Bool} (hc:c=true) (hy:sz y+sz z<=1000000) (B:g 0=vW (flat y)) (q:g 1=vW (flat z)) (h:t=(nd k x n tk [y,z],s)):(c=true/\BM 2 g)/\Ir (vK L) (vK L) (vW (A3 k x n tk (B6 2 g))) s t:=by subst h;obtain⟨E,C⟩:=tk2 hy B q;exact⟨⟨hc,E⟩,rfl,by rw[NL,C],rfl⟩
theorem wg {L:List TK} {k n:Int} {x:List UInt8} {tk:TK} {s:RS} {t:PT×RS} {y z v:PT} {g:Nat->AV} {c:Bool} (hc:c=true) (hy:sz y+(sz z+sz v)<=1000000) (C:g 0=vW (flat y)) (B:g 1=vW (flat z)) (q:g 2=vW (flat v)) (h:t=(nd k x n tk [y,z,v],s)):(c=true/\BM 3 g)/\Ir (vK L) (vK L) (vW (A3 k x n tk (B6 3 g))) s t:=by subst h;obtain⟨J,E⟩:=tk3 hy C B q;exact⟨⟨hc,J⟩,rfl,by rw[NL,E],rfl⟩
theorem Afy (k:Int) (x:List UInt8) (n:Int) (tk:TK):flat (nd k x n tk [])=A3 k x n tk []:=by rw[NL,nF]
theorem fW (k:Int) (s:List UInt8) (n:Int) (t:TK) (x y z:PT):sz (nd k s n t [x,y,z])=1+(sz x+(sz y+sz z)):=by rw[Ms,Fl,Fl,Fl,Ig];omega
def BO (a:List TK):=Ir (vK a) (vK a)
def KJ:=(Ay/\(Aa/\Ab (1:Int))/\True)
def Xp (a:List TK) (b:RS):=(∃(q:List TK),vK a=vK q/\Az q b/\((1:Int)=(0:Int)->False))
theorem Ang:∀(L:List TK) (s:RS) (t:PT×RS),Az L s->t=BZ L s->((Xp L s)/\Aa/\Aa/\KJ/\(Aa/\Aa/\Aa/\(Ru L s)/\Aa/\Ho s)/\True)/\∀(y:TK×RS),y=AB (kL (vK L)) s (1:Int)->BO L (vW (A3 (29:Int) (TK.text y.1) (0:Int) y.1 [])) y.2 t
:=by delta Ay AM Q8 BO KJ Ru Xp Ho;intro L s t q ht;simp only[A9];simp only[Dz];exact⟨AN ⟨q,λh=>by cases h⟩,λy hy=>MJ (by rw[ht,hy];rfl)⟩
theorem Anc:∀(L:List TK) (s:RS) (t:PT×RS),Az L s->t=BZ L s->(AG ZE 60).call 68 [.ptr 0 0] (AU (A0 [Bm (vK L) s] 0)) 1 (Hc (vK L) t):=Eq.mpr (by kernel_rfl) Ang
def DW (a:RS):=RS.mk (RS.at_ a+1) (RS.nest a) (RS.err a) (RS.Bp a)
def Pj:=[[(105:UInt8),110,116],[(102:UInt8),110],[(116:UInt8),111,107],[(104:UInt8),97,110,100],[(97:UInt8),114,114]]
theorem Am3:∀(L:List TK) (s:RS) (t:PT×RS),Az L s->t=B9 L s->((D8 L s)/\Aa/\Aa/\(Ay/\True)/\So L s/\True)/\∀(y:TK),y=Ez L s->Ad (!Ak (TK.kind y) (1:Int)) (((∃(B:List TK),vK L=vK B/\Az B s/\Ql Pj)/\Aa/\Aa/\(Ay/\(Ab (some 4)/\0=0/\5=List.length Pj/\5=List.length Pj)/\True)/\So L s/\(Aa/\Aa/\Aa/\eO/\Ab Jz)/\True)/\∀(y:TK×RS),y=Al (kL (vK L)) s Pj->BO L (vW (A3 (5:Int) (TK.text y.1) (0:Int) y.1 [])) y.2 t) (Dh s (BO L (vW (A3 (5:Int) (TK.text y) (0:Int) y [])) (DW s) t))
:=by
 delta DW Ay Pj BO Dh D8 Jz ID Rm Rh Ri Ez eO;intro L s t q ht;simp only[A9,So,AM,Q8,Ru,Ho];simp only[Dz];have J:=q.a0;have E:=q.a1;have C:=q.len;refine⟨AN q,λy hy=>?_⟩;subst hy;refine Aj (λh=>?_) λh=>?_
 ·rw[Bool.not_eq_true',BU]at h;exact⟨⟨AN ⟨q,⟨.inl rfl⟩⟩,rfl,rfl⟩,λy hy=>MJ (by rw[ht,hy];unfold B9;rw[if_neg h];rfl)⟩
 ·rw[Bool.not_eq_false',BL]at h;exact An (Be.2 (by omega)) (MJ (by rw[ht];unfold B9;rw[if_pos h];rfl))
theorem Am0:∀(L:List TK) (s:RS) (t:PT×RS),Az L s->t=B9 L s->(AG ZE 60).call 66 [.ptr 0 0] (AU (A0 [Bm (vK L) s] 0)) 1 (Hc (vK L) t):=Eq.mpr (by kernel_rfl) Am3
def AbU:Da:=sG (λL s=>Az L s) BZ
def AbS:Da:=sG (λL s=>Az L s) B9
theorem Ai4:AD Tryz.prog 68 AbU:=IH λL s h=>⟨ZE,60,rfl,AW,Bc,λt ht=>Anc L s t h ht⟩
theorem AiY:AD Tryz.prog 66 AbS:=IH λL s h=>⟨ZE,60,rfl,AW,Bc,λt ht=>Am0 L s t h ht⟩
def LZ:Cq:=(97,AbL)::(68,AbU)::(66,AbS)::nc
theorem MT:Db Tryz.prog LZ:=BN Aip (BN Ai4 (BN AiY y6))
def firstM (T B:List TK->PF) (L:List TK):PF:=λs=>
 if(Aq L s).kind=3 then(nd 26 [] (Aq L s).num (Aq L s) [],Ai s)
 else if Ah L s K1=true then(nd 27 [] 0 (Aq L s) [],Ai s)
 else if Ah L s Mw=true then(nd 28 [] 0 (Aq L s) [],Ai s)
 else if Ah L s OD=true then(nd 33 (AB L (Ai s) 1).1.text 0 (Aq L s) [],(AB L (Ai s) 1).2)
 else if Ah L s K0=true then(nd 36 [] 0 (Aq L s) [(A5 B L (Ai s)).1],(A5 B L (Ai s)).2)
 else if Ah L s FD=true then((A5 T L (AQ L s FD).2).1,down (Aw L (A5 T L (AQ L s FD).2).2 My).2)
 else BZ L s
def yY (n:Nat) (T B:List TK->PF):Cq:=(139,sE n T)::(143,sE n B)::LZ
structure VF (n:Nat) (T B:List TK->PF):Prop where
 t:AD Tryz.prog 139 (sE n T)
 b:AD Tryz.prog 143 (sE n B)
theorem Af0 {n:Nat} {T B:List TK->PF} (h:VF n T B):Db Tryz.prog (yY n T B):=BN h.t (BN h.b MT)
def vz (n:Nat) (T B:List TK->PF) (h:VF n T B):Ctx:=wM (yY n T B) (Af0 h)
theorem nD {n:Nat} {T B:List TK->PF} (hT:GF n 1 2 T) (V:GF n 1 2 B):GF (n+1) 1 2 (firstM T B):=by
 intro L s J;have h:=J.ok;have Z:=J.lf;have M:=J.ns;unfold firstM;split
 ·rename_i e;exact Xa h (LL (by rw[e];decide)) (OK (by rw[e];decide)) (by decide)
 split
 ·rename_i e;exact Xa h (Bb e) (J0 e) (by decide)
 split
 ·rename_i e;exact Xa h (Bb e) (J0 e) (by decide)
 split
 ·rename_i e;have a1:=FF h (Bb e);have g:=Gu (k:=1) a1 (by decide);have C:=g.am;have U:=g.ax;have K:=g.er;have W:=g.eo;have S:=g.ns;have y:=J0 e;refine⟨g.ok,S,?_,λe=>absurd y e,?_,λ_=>?_⟩
  ·have:s.at_+1<=(AB L (Ai s) 1).2.at_:=C;show s.at_<=(AB L (Ai s) 1).2.at_;omega
  ·have:s.at_+1<=(AB L (Ai s) 1).2.at_:=C;show((sz _:Nat):Int)<=3*((AB L (Ai s) 1).2.at_-s.at_)+2;rw[Kd];omega
  ·have:s.at_+1<=(AB L (Ai s) 1).2.at_:=C;show((sz _:Nat):Int)<=3*((AB L (Ai s) 1).2.at_-s.at_);rw[Kd];omega
 split
 ·rename_i e;have R:=Bb e;have y:=J0 e;have a1:=FF h R;have g:=O2 (s:=Ai s) V ⟨a1,λ_=>⟨a1,M,by show(L.length:Int)-(s.at_+1)<n;omega⟩⟩ (by decide);generalize A5 B L (Ai s)=r at g⊢;have C:s.at_+1<=r.2.at_:=g.am;have U:(sz r.1:Int)<=3*(r.2.at_-(s.at_+1))+2:=g.ss;have K:r.2.err=0->(sz r.1:Int)<=3*(r.2.at_-(s.at_+1)):=g.so;refine⟨g.ok,g.ns,by show s.at_<=r.2.at_;omega,λe=>absurd y e,?_,λE=>?_⟩
  ·show((sz _:Nat):Int)<=3*(r.2.at_-s.at_)+2;rw[Hs];omega
  ·have:=K E;show((sz _:Nat):Int)<=3*(r.2.at_-s.at_);rw[Hs];omega
 split
 ·rename_i e;have R:=Bb e;have y:=J0 e;have o:=Pc (w:=FD) h (by omega);generalize(AQ L s FD).2=q at o⊢;have o1:=o.am;have o2:=o.ax;have O:=o.eo;have o4:=o.ns;have g:=O2 (s:=q) hT ⟨o.ok,λz=>⟨o.ok,by have:=O z;omega,by have:=O z;omega⟩⟩ (by decide);generalize A5 T L q=r at g⊢;have C:=g.am;have U:=g.ss;have K:=g.so;have W:=g.er;have S:=g.ns;have f:=G4 (w:=My) g.ok;generalize(Aw L r.2 My).2=v at f⊢;have f1:=f.am;have f2:=f.ax;have f3:=f.eo;have f4:=f.er;have f5:=f.ns;have Y:=h.n0;refine⟨S1 f.ok (by omega),by show v.nest-1=s.nest;omega,by show s.at_<=v.at_;omega,λe=>absurd y e,?_,λE=>?_⟩
  ·show(sz r.1:Int)<=3*(v.at_-s.at_)+2;omega
  ·have E:v.err=0:=E;show(sz r.1:Int)<=3*(v.at_-s.at_);omega
 ·have:=XW (L:=L) (s:=s) h;have t1:=this.ss;exact⟨this.ok,this.ns,this.am,this.er,by omega,this.so⟩
def I6 (a:List TK) (b:RS):=(Aa/\Aa/\Aa/\(((D1 a/\Aa/\Ab (RS.at_ b+1))/\Aa/\Ab (RS.nest b))/\Aa/\Ab (RS.err b))/\Aa/\Ab (RS.Bp b))
@[reducible] def Yt:List TK->RS->Prop:=λ(L:List TK) (s:RS)=>(I6 L s)/\True
@[reducible] def iB:List TK->RS->Prop:=λ(L:List TK) (s:RS)=>(D8 L s)/\Aa/\Aa/\(Ay/\True)/\CP L s
@[reducible] def iC:List TK->RS->Prop:=λ(L:List TK) (s:RS)=>Aa/\Aa/\(Ay/\Ab [(40:UInt8)]/\True)/\CP L s
def DG (a:TK):=Ab (AV.agg [AV.int .i64 (TK.kind a),AV.bs (TK.text a),AV.int .i64 (TK.num a),AV.int .i64 (TK.line a),AV.int .i64 (TK.Ag a)])
def Eu (a:PT):=(B6 1 λ(q:Nat)=>List.getD [vW (flat a)] q AV.As)
def GB (a:Nat) (b:List TK->PF):=(∀(y:List TK) (q:RS),Av y a q->Cf y (1:Int) (2:Int) q (b y q))
def Ge (a:PT) (b:Nat):=List.getD [vW (flat a)] b AV.As
def HH (a:RS):=Ap (Bo .i64 (RS.nest a-1))
def Ps (a:RS):=RS.mk (RS.at_ a) (RS.nest a-1) (RS.err a) (RS.Bp a)
def Rk:=[(110:UInt8),117,108,108]
def Pz (a:List TK) (b:RS):=(∃(q:List TK),vK a=vK q/\Az q (DW b)/\((1:Int)=(0:Int)->False))
def GY (a:TK):=((DG a/\True)/\True)
def DC (a:TK):=(TK.text a)
def Rg:=[(110:UInt8),101,119]
def Gf (a:List TK) (b:PT):=BO a (vW (flat b))
def Me (a:List TK) (b:RS):=AB (kL (vK a)) (DW b) (1:Int)
def Rr:=[(105:UInt8),116]
def Mk (a:List TK):=Yt a
def PW (a:TK):=(A8/\A8/\(GY a)/\True)
def Ni (a:List TK):=AQ (kL (vK a))
theorem AkZ:∀(n:Nat) (T B:List TK->PF),VF n T B->∀(L:List TK) (s:RS) (t:PT×RS),Av L (n+1) s->(GB n T)->(GB n B)->t=firstM T B L s->iB L s/\∀(y:TK),y=Ez L s->Ad (Nj y (3:Int)) (Dh s (BO L (vW (A3 (26:Int) [] (TK.num y) y [])) (DW s) t)) (((∃(C:List TK),vK L=vK C/\Az C s/\Nat.le 1 (List.length Rk))/\Aa/\Aa/\(Ay/\Ab Rk/\True)/\CP L s)/\Ad (Ax (BR L s Rk)) (Dh s (BO L (vW (A3 (27:Int) [] (0:Int) y [])) (DW s) t)) (((∃(C:List TK),vK L=vK C/\Az C s/\Nat.le 1 (List.length Rr))/\Aa/\Aa/\(Ay/\Ab Rr/\True)/\CP L s)/\Ad (Ax (BR L s Rr)) (Dh s (BO L (vW (A3 (28:Int) [] (0:Int) y [])) (DW s) t)) (((∃(C:List TK),vK L=vK C/\Az C s/\Nat.le 1 (List.length Rg))/\Aa/\Aa/\(Ay/\Ab Rg/\True)/\CP L s)/\Ad (Ax (BR L s Rg)) (Dh s (((Pz L s)/\Aa/\Aa/\KJ/\Mk L s)/\∀(E:TK×RS),E=Me L s->((GY y)/\A8/\A8/\True)/\BO L (vW (A3 (33:Int) (DC E.1) (0:Int) y [])) E.2 t)) ((T8 L s)/\Ad (Ax (BR L s ID)) (Dh s (((∃(C:List TK),vK L=vK C/\HU C n (DW s))/\Aa/\Aa/\(Ay/\True)/\Mk L s)/\∀(E:PT×RS),E=A5 B (kL (vK L)) (DW s)->(Nat.blt 12 15=true/\Aa/\BM 1 λ(i:Nat)=>Ge E.1 i)/\(PW y)/\BO L (vW (A3 (36:Int) [] (0:Int) y (Eu E.1))) E.2 t)) (((∃(C:List TK),vK L=vK C/\Az C s/\Nat.le 1 (List.length [(40:UInt8)]))/\iC L s)/\Ad (Ax (BR L s [(40:UInt8)])) (((∃(C:List TK),vK L=vK C/\Az C s/\Nat.le 1 (List.length [(40:UInt8)])/\Nd s)/\iC L s)/\∀(y:TK×RS),y=Ni L s [(40:UInt8)]->((∃(C:List TK),vK L=vK C/\HU C n y.2)/\Aa/\Aa/\(Ay/\True)/\(CY L y.2)/\True)/\∀(E:PT×RS),E=A5 T (kL (vK L)) y.2->((∃(C:List TK),vK L=vK C/\Az C E.2/\Nat.le 1 (List.length [(41:UInt8)]))/\Aa/\Aa/\(Ay/\Ab [(41:UInt8)]/\True)/\(CY L E.2)/\True)/\∀(y:TK×RS),y=GX L E.2 [(41:UInt8)]->HH y.2 (Gf L E.1 (Ps y.2) t)) (iB L s/\∀(y:PT×RS),y=BZ (kL (vK L)) s->Gf L y.1 y.2 t))))))
:=by
 delta DG DW CY Ay A8 Eu BO Dh GB Ge BR CP GX ID HH Ps T8 Rk Pz KJ GY DC Rg Gf Me Ez Nd Rr Mk Nj PW Ni;intro n T B Am L s t Y hT hB ht;simp only[A9,D1,Kk,Yt,iB,iC,AM,CY,I6,Ay,D8,CP];simp only[Dz];have h:=Y.ok;have ab:=Y.lf;have Z:=Y.ns;have h0:=h.a0;have h1:=h.a1;have hl:=h.len;have aa:=h.n0;have J:Bo IntKind.i64 (s.at_+1)=true:=Be.2 (by omega);refine⟨AN h,λy hy=>?_⟩;subst hy;unfold firstM at ht;refine Aj (λK=>?_) λK=>⟨AN ⟨h,by decide⟩,Aj (λM=>?_) λM=>⟨AN ⟨h,by decide⟩,Aj (λR=>?_) λR=>⟨AN ⟨h,by decide⟩,Aj (λO=>?_) λO=>⟨AN ⟨h,by decide⟩,Aj (λS=>?_) λS=>⟨AN ⟨h,by decide⟩,Aj (λV=>?_) λV=>?_⟩⟩⟩⟩⟩
 ·rw[BL]at K;rw[if_pos K]at ht;exact An J (MJ ht)
 ·rw[if_neg (BU.1 K),if_pos (show Ah L s K1=true from M)]at ht;exact An J (MJ ht)
 ·rw[if_neg (BU.1 K),if_neg (nb (show Ah L s K1=false from M)),if_pos (show Ah L s Mw=true from R)]at ht;exact An J (MJ ht)
 ·rw[if_neg (BU.1 K),if_neg (nb (show Ah L s K1=false from M)),if_neg (nb (show Ah L s Mw=false from R)),if_pos (show Ah L s OD=true from O)]at ht;exact An J ⟨AN ⟨FF h (Bb O),λh=>by cases h⟩,λy hy=>MJ (by rw[ht,hy];rfl)⟩
 ·rw[if_neg (BU.1 K),if_neg (nb (show Ah L s K1=false from M)),if_neg (nb (show Ah L s Mw=false from R)),if_neg (nb (show Ah L s OD=false from O)),if_pos (show Ah L s K0=true from S)]at ht;have U:=Bb S;have a1:=FF h U;have pa:HU L n (Ai s):=⟨a1,λ_=>⟨a1,Z,by show(L.length:Int)-(s.at_+1)<n;omega⟩⟩;refine An J ⟨AN pa,λy hy=>?_⟩;have hy:y=A5 B L (Ai s):=hy;have g:=O2 (s:=Ai s) hB pa (by decide);rw[<-hy]at g ht;have b:=g.DU a1 (by decide);exact OW rfl (by omega) rfl ht
 ·rw[if_neg (BU.1 K),if_neg (nb (show Ah L s K1=false from M)),if_neg (nb (show Ah L s Mw=false from R)),if_neg (nb (show Ah L s OD=false from O)),if_neg (nb (show Ah L s K0=false from S)),if_pos (show Ah L s FD=true from V)]at ht;have U:=Bb V;refine⟨AN ⟨h,by decide,(show s.nest<=900 by omega)⟩,λq W=>?_⟩;have W:q=AQ L s FD:=W;have o:=Pc (w:=FD) h (by omega);rw[<-W]at o ht;have o1:=o.am;have o2:=o.ax;have o3:=o.eo;have o4:=o.ns;have pq:HU L n q.2:=⟨o.ok,λz=>⟨o.ok,by have:=o3 z;omega,by have:=o3 z;omega⟩⟩;refine⟨AN pq,λy hy=>?_⟩;have g:=O2 hT pq (by decide);rw[<-hy]at g ht;refine⟨AN ⟨g.ok,by decide⟩,λz hz=>?_⟩;have hz:z=Aw L y.2 My:=hz;have f:=G4 (w:=My) g.ok;rw[<-hz]at f ht;have g1:=g.ns;have f1:=f.ns;exact An (Be.2 (by omega)) (HZ (y:=(y.1,down z.2)) ht)
 ·rw[if_neg (BU.1 K),if_neg (nb (show Ah L s K1=false from M)),if_neg (nb (show Ah L s Mw=false from R)),if_neg (nb (show Ah L s OD=false from O)),if_neg (nb (show Ah L s K0=false from S)),if_neg (nb (show Ah L s FD=false from V))]at ht;exact⟨AN h,λy hy=>HZ (ht.trans hy.symm)⟩
theorem AkW:∀(n:Nat) (T B:List TK->PF) (Am:VF n T B) (L:List TK) (s:RS) (t:PT×RS),Av L (n+1) s->GF n 1 2 T->GF n 1 2 B->t=firstM T B L s->(AG (vz n T B Am) 60).call 138 [.ptr 0 0] (AU (A0 [Bm (vK L) s] 0)) 1 (Hc (vK L) t):=Eq.mpr (by kernel_rfl) AkZ
theorem Ah2 {n:Nat} {T B:List TK->PF} (h:VF n T B) (hT:GF n 1 2 T) (y:GF n 1 2 B):AD Tryz.prog 138 (sF (n+1) (firstM T B)):=IH λL s q=>⟨vz n T B h,60,rfl,AW,Bc,λt ht=>AkW n T B h L s t q hT y ht⟩
def OC:List UInt8:=[46]
def Fq:List UInt8:=[91]
def LJ:List UInt8:=[93]
def LR (L:List TK) (x:PT) (s:RS):PT×RS:=(nd 30 (AB L (Ai s) 1).1.text 0 (Aq L s) [x],(AB L (Ai s) 1).2)
def Ku (T:List TK->PF) (L:List TK) (x:PT) (s:RS):PT×RS:=(nd 31 [] 0 (AQ L s Fq).1 [x,(A5 T L (AQ L s Fq).2).1],down (Aw L (A5 T L (AQ L s Fq).2).2 LJ).2)
def ET (T:List TK->PF) (L:List TK):Nat->PT->RS->PT×RS
 |0,x,s=>(x,s)
 |k+1,x,s=>if Ah L s OC=true then ET T L k (LR L x s).1 (LR L x s).2 else if Ah L s Fq=true then ET T L k (Ku T L x s).1 (Ku T L x s).2 else(x,s)
def Cn (L:List TK) (s:RS):Nat:=2*((L.length:Int)-s.at_).toNat+(if s.err=0 then 1 else 0)
def B7 (L:List TK):Nat:=2*L.length+2
def KV (T:List TK->PF) (Fi:List TK->PF) (L:List TK):PF:=λs=>ET T L (B7 L) (Fi L s).1 (Fi L s).2
structure Jm (L:List TK) (f:Nat->PT->RS->PT×RS) (t:PT×RS) (s0:RS) (x:PT×RS):Prop where
 k:∃k,Cn L x.2<k/\f k x.1 x.2=t
 p:Cf L 1 2 s0 x
def Acg (L:List TK) (f:Nat->PT->RS->PT×RS) (t:PT×RS) (s0:RS) (ks:List Nat) (q:Nat):CV:={X:=PT×RS,T:=λs _ x=>(q,vW (flat x.1))::MV s ks,H:=λs n0 x=>[(0,Bm (vK L) x.2)],nx:=λs _=>s.nx,I:=λs x=>Jm L f t s0 x,m:=λx=>Cn L x.2}
def y0 (n:Nat) (T Fi:List TK->PF):Cq:=(139,sE n T)::(138,sF (n+1) Fi)::LZ
structure VH (n:Nat) (T Fi:List TK->PF):Prop where
 t:AD Tryz.prog 139 (sE n T)
 f:AD Tryz.prog 138 (sF (n+1) Fi)
theorem Af3 {n:Nat} {T Fi:List TK->PF} (h:VH n T Fi):Db Tryz.prog (y0 n T Fi):=BN h.t (BN h.f MT)
def wB (n:Nat) (T Fi:List TK->PF) (h:VH n T Fi) (L:List TK) (t:PT×RS) (s0:RS):Ctx:={P:=Tryz.prog,tb:=[],ht:=y0 n T Fi,Am:=Af3 h,lp:=λf r=>cond (Nat.beq f 132) (cond (Nat.beq r 2) (some (Acg L (ET T L) t s0 [0] 3)) none) none,cut:=λ_ _=>none}
theorem cT {L:List TK} {s r:RS} (h:Az L r) (q:s.err=0) (B:s.at_<=r.at_) (y:r.err=0->s.at_<r.at_):Cn L r<Cn L s:=by
 have:=h.a1;unfold Cn;rw[if_pos q];split
 ·rename_i e;have:=y e;omega
 ·omega
theorem Kz {L:List TK} {s:RS} (h:Az L s):Cn L s<B7 L:=by have:=h.a0;unfold Cn B7;split<;>omega
theorem lQ {L:List TK} {s0 s:RS} {x:PT} (h:Cf L 1 2 s0 (x,s)) (hd:Ah L s OC=true):Cf L 1 2 s0 (LR L x s)/\Cn L (LR L x s).2<Cn L s:=by
 have q:=J0 hd;have y:=Bb hd;have Am:Az L s:=h.ok;have a1:=FF Am y;have g:=Gu (k:=1) a1 (by decide);have M:s.at_+1<=(AB L (Ai s) 1).2.at_:=g.am;have K:(AB L (Ai s) 1).2.nest=s.nest:=g.ns;have J:s0.at_<=s.at_:=h.am;have E:s.nest=s0.nest:=h.ns;have C:(sz x:Int)<=3*(s.at_-s0.at_):=h.so q;refine⟨⟨g.ok,by show(AB L (Ai s) 1).2.nest=_;omega,by show s0.at_<=(AB L (Ai s) 1).2.at_;omega,λe=>absurd q (h.er e).1,?_,λB=>?_⟩,cT g.ok q ?_ λB=>?_⟩
 ·show((sz (nd 30 (AB L (Ai s) 1).1.text 0 (Aq L s) [x]):Nat):Int)<=3*((AB L (Ai s) 1).2.at_-s0.at_)+2;rw[Hs];omega
 ·show((sz (nd 30 (AB L (Ai s) 1).1.text 0 (Aq L s) [x]):Nat):Int)<=3*((AB L (Ai s) 1).2.at_-s0.at_);rw[Hs];omega
 ·show s.at_<=(AB L (Ai s) 1).2.at_;omega
 ·show s.at_<(AB L (Ai s) 1).2.at_;omega
theorem nh {n:Nat} {T:List TK->PF} (hT:GF n 1 2 T) {L:List TK} {s0 s:RS} {x:PT} (h:Cf L 1 2 s0 (x,s)) (hn:s0.nest<=64) (M:(L.length:Int)-s0.at_<(n:Int)+1) (hd:Ah L s Fq=true):HU L n (AQ L s Fq).2/\Cf L 1 2 s0 (Ku T L x s)/\Cn L (Ku T L x s).2<Cn L s:=by
 have B:=J0 hd;have Z:=Bb hd;have Am:Az L s:=h.ok;have S:s0.at_<=s.at_:=h.am;have R:s.nest=s0.nest:=h.ns;have O:(sz x:Int)<=3*(s.at_-s0.at_):=h.so B;have J:s0.err≠0->s.err≠0:=λe=>(h.er e).1;have o:=Pc (w:=Fq) Am (show s.nest<=900 by omega);unfold Ku;generalize(AQ L s Fq)=q at o⊢;have Y:=o.am;have W:=o.ax;have E:=o.eo;have V:=o.ns;have U:=o.er;have C:HU L n q.2:=⟨o.ok,λz=>⟨o.ok,by have:=E z;omega,by have:=E z;omega⟩⟩;have g:=O2 hT C (by decide);generalize A5 T L q.2=r at g⊢;have g1:=g.am;have g2:=g.ss;have g3:=g.so;have g4:=g.er;have g5:=g.ns;have f:=G4 (w:=LJ) g.ok;generalize(Aw L r.2 LJ).2=v at f⊢;have f1:=f.am;have f2:=f.ax;have f3:=f.eo;have f4:=f.er;have f5:=f.ns;have K:=Am.n0;refine⟨C,⟨S1 f.ok (by omega),by show v.nest-1=_;omega,by show s0.at_<=v.at_;omega,λe=>absurd B (J e),?_,λy=>?_⟩,cT (S1 f.ok (by omega)) B ?_ λy=>?_⟩
 ·show((sz _:Nat):Int)<=3*(v.at_-s0.at_)+2;rw[JL];omega
 ·have y:v.err=0:=y;show((sz _:Nat):Int)<=3*(v.at_-s0.at_);rw[JL];omega
 ·show s.at_<=v.at_;omega
 ·have y:v.err=0:=y;show s.at_<v.at_;omega
theorem sk {n:Nat} {T:List TK->PF} (hT:GF n 1 2 T) {L:List TK} {s0:RS} (hn:s0.nest<=64) (q:(L.length:Int)-s0.at_<(n:Int)+1):∀(k:Nat) (x:PT) (s:RS),Cf L 1 2 s0 (x,s)->Cf L 1 2 s0 (ET T L k x s)
 |0,x,s,h=>h
 |k+1,x,s,h=>by
  unfold ET;split
  ·rename_i e;exact sk hT hn q k _ _ (lQ h e).1
  split
  ·rename_i e;exact sk hT hn q k _ _ (nh hT h hn q e).2.1
  ·exact h
theorem sn {n:Nat} {T Fi:List TK->PF} (hT:GF n 1 2 T) (y:GF (n+1) 1 2 Fi):GF (n+1) 1 2 (KV T Fi):=by intro L s q;exact sk hT q.ns (by have:=q.lf;omega) _ _ _ (y L s q)
@[reducible] def iD:List TK->TK×RS->PT×RS->Prop:=λ(L:List TK) (a:TK×RS) (q:PT×RS)=>FP L/\Aa/\RS.at_ a.2=RS.at_ q.2
@[reducible] def Ny:List TK->PT×RS->Prop:=λ(L:List TK) (a:PT×RS)=>(CY L a.2)/\True
def EA (a:List TK):=Ny a
@[reducible] def Yu:List TK->PT×RS->Prop:=λ(L:List TK) (a:PT×RS)=>(D8 L a.2)/\Aa/\Aa/\(Ay/\True)/\EA L a
@[reducible] def Sq:Nat->List TK->TK×RS->Prop:=λ(n:Nat) (L:List TK) (a:TK×RS)=>(∃(q:List TK),vK L=vK q/\HU q n a.2)/\Aa/\Aa/\(Ay/\True)/\(CY L a.2)/\True
@[reducible] def iF:List TK->PT×RS->Prop:=λ(L:List TK) (a:PT×RS)=>Aa/\Aa/\(Ay/\Ab [(91:UInt8)]/\True)/\EA L a
@[reducible] def Yv:List TK->PT×RS->Prop:=λ(L:List TK) (a:PT×RS)=>(∃(q:List TK),vK L=vK q/\Az q a.2/\Nat.le 1 (List.length [(46:UInt8)]))/\Aa/\Aa/\(Ay/\Ab [(46:UInt8)]/\True)/\EA L a
@[reducible] def iG:List TK->PT×RS->Prop:=λ(L:List TK) (a:PT×RS)=>(∃(q:List TK),vK L=vK q/\Az q a.2/\Nat.le 1 (List.length [(91:UInt8)])/\Nd a.2)/\iF L a
@[reducible] def iH:List TK->PT×RS->Prop:=λ(L:List TK) (a:PT×RS)=>(Pz L a.2)/\Aa/\Aa/\KJ/\(I6 L a.2)/\True
def Cu (a:PT) (b:Nat):=List.getD (flat a) b LT.none
def DX (a:List TK) (b:RS) (c:RS):=Nat.le (Nat.succ (Cn a b)) (Cn a c)
def Oc (a:TK) (b:TK) (c:PT) (d:Nat):=List.getD (A3 (30:Int) (TK.text a) (0:Int) b (Eu c)) d LT.none
def Ic (a:PT):=List.length (flat a)
def PG (a:PT) (b:Nat):=List.length (LT.kids (Cu a b))
def UU (a:PT) (b:Nat) (c:Nat):=List.getD (LT.kids (Cu a b)) c (0:Int)
@[reducible] def iI:(List TK->PF)->List TK->RS->PT×RS->PT×RS->TK->TK×RS->Prop:=λ(T:List TK->PF) (L:List TK) (s:RS) (t a:PT×RS) (y:TK) (q:TK×RS)=>((GY y)/\A8/\A8/\True)/\∃(B:PT×RS),Jm L (ET T L) t s B/\DX L B.2 a.2/\Aa/\((Aa/\List.length (A3 (30:Int) (DC q.1) (0:Int) y (Eu a.1))=Ic B.1/\Au λ(i:Nat)=>AM i (List.length (A3 (30:Int) (DC q.1) (0:Int) y (Eu a.1)))->(Aa/\LT.kind (Oc q.1 y a.1 i)=LT.kind (Cu B.1 i))/\LT.text (Oc q.1 y a.1 i)=LT.text (Cu B.1 i)/\(Aa/\LT.n (Oc q.1 y a.1 i)=LT.n (Cu B.1 i))/\(Aa/\LT.line (Oc q.1 y a.1 i)=LT.line (Cu B.1 i))/\(Aa/\LT.Ag (Oc q.1 y a.1 i)=LT.Ag (Cu B.1 i))/\(Aa/\List.length (LT.kids (Oc q.1 y a.1 i))=PG B.1 i/\Au λ(C:Nat)=>AM C (List.length (LT.kids (Oc q.1 y a.1 i)))->(Aa/\List.getD (LT.kids (Oc q.1 y a.1 i)) C (0:Int)=UU B.1 i C)/\True)/\True)/\Ay/\True)/\(Aa/\Aa/\Aa/\Aa/\((iD L q B/\Aa/\RS.nest q.2=RS.nest B.2)/\Aa/\RS.err q.2=RS.err B.2)/\Aa/\RS.Bp q.2=RS.Bp B.2)/\True
def D5 (a:PT) (b:PT):=(B6 2 λ(q:Nat)=>List.getD [vW (flat a),vW (flat b)] q AV.As)
def Od (a:TK) (b:PT) (c:PT) (d:Nat):=List.getD (A3 (31:Int) [] (0:Int) a (D5 b c)) d LT.none
@[reducible] def iE:(List TK->PF)->List TK->RS->PT×RS->PT×RS->TK×RS->PT×RS->Prop:=λ(T:List TK->PF) (L:List TK) (s:RS) (t a:PT×RS) (B:TK×RS) (q:PT×RS)=>(PW B.1)/\((∃(J:List TK),vK L=vK J/\Az J q.2/\Nat.le 1 (List.length [(93:UInt8)]))/\Aa/\Aa/\(Ay/\Ab [(93:UInt8)]/\True)/\EA L q)/\∀(y:TK×RS),y=GX L q.2 [(93:UInt8)]->HH y.2 (∃(C:PT×RS),Jm L (ET T L) t s C/\DX L C.2 a.2/\Aa/\((Aa/\List.length (A3 (31:Int) [] (0:Int) B.1 (D5 a.1 q.1))=Ic C.1/\Au λ(i:Nat)=>AM i (List.length (A3 (31:Int) [] (0:Int) B.1 (D5 a.1 q.1)))->(Aa/\LT.kind (Od B.1 a.1 q.1 i)=LT.kind (Cu C.1 i))/\LT.text (Od B.1 a.1 q.1 i)=LT.text (Cu C.1 i)/\(Aa/\LT.n (Od B.1 a.1 q.1 i)=LT.n (Cu C.1 i))/\(Aa/\LT.line (Od B.1 a.1 q.1 i)=LT.line (Cu C.1 i))/\(Aa/\LT.Ag (Od B.1 a.1 q.1 i)=LT.Ag (Cu C.1 i))/\(Aa/\List.length (LT.kids (Od B.1 a.1 q.1 i))=PG C.1 i/\Au λ(E:Nat)=>AM E (List.length (LT.kids (Od B.1 a.1 q.1 i)))->(Aa/\List.getD (LT.kids (Od B.1 a.1 q.1 i)) E (0:Int)=UU C.1 i E)/\True)/\True)/\Ay/\True)/\(Aa/\Aa/\Aa/\Aa/\((iD L y C/\Aa/\RS.nest y.2-1=RS.nest C.2)/\Aa/\RS.err y.2=RS.err C.2)/\Aa/\RS.Bp y.2=RS.Bp C.2)/\True)
def TX (a:PT) (b:PT):=((Aa/\List.length (flat a)=List.length (flat b)/\Au λ(q:Nat)=>Nat.le (Nat.succ q) (List.length (flat a))->(Aa/\LT.kind (Cu a q)=LT.kind (Cu b q))/\LT.text (Cu a q)=LT.text (Cu b q)/\(Aa/\LT.n (Cu a q)=LT.n (Cu b q))/\(Aa/\LT.line (Cu a q)=LT.line (Cu b q))/\(Aa/\LT.Ag (Cu a q)=LT.Ag (Cu b q))/\(Aa/\List.length (LT.kids (Cu a q))=List.length (LT.kids (Cu b q))/\Au λ(y:Nat)=>Nat.le (Nat.succ y) (List.length (LT.kids (Cu a q)))->(Aa/\List.getD (LT.kids (Cu a q)) y (0:Int)=List.getD (LT.kids (Cu b q)) y (0:Int))/\True)/\True)/\Ay/\True)
def Mb (a:List TK) (b:RS) (c:RS):=(Aa/\Aa/\Aa/\Aa/\(((D1 a/\Aa/\RS.at_ b=RS.at_ c)/\Aa/\RS.nest b=RS.nest c)/\Aa/\RS.err b=RS.err c)/\Aa/\RS.Bp b=RS.Bp c)
def GD (a:PT) (b:PT) (c:Nat):=List.getD [vW (flat a),vW (flat b)] c AV.As
def Rp (a:Nat) (b:List TK->PF):=(∀(y:List TK) (q:RS),Av y (a+1) q->Cf y (1:Int) (2:Int) q (b y q))
def Nf (a:List TK) (b:Nat) (c:RS):=(∃(q:List TK),vK a=vK q/\Av q (b+1) c)
def DI (a:List TK->PF) (b:List TK) (c:RS):=a (kL (vK b)) c
def Oo (a:List TK):=Yu a
theorem AmL:∀(n:Nat) (T Fi:List TK->PF),VH n T Fi->∀(L:List TK) (s:RS) (t:PT×RS),Av L (n+1) s->(GB n T)->(Rp n Fi)->t=KV T Fi L s->((Nf L n s)/\Aa/\Aa/\(Ay/\True)/\(CY L s)/\True)/\∀(y:PT×RS),y=DI Fi L s->(∃(S:PT×RS),Jm L (ET T L) t s S/\Aa/\(TX y.1 S.1)/\(Mb L y.2 S.2)/\True)/\∀(x:PT×RS),Jm L (ET T L) t s x->Yv L x/\Ad (Ax (BR L x.2 [(46:UInt8)])) (Yv L x/\Ad (Ax (BR L x.2 [(46:UInt8)])) (Oo L x/\∀(y:TK),y=Ez L x.2->Dh x.2 (iH L x/\∀(B:TK×RS),B=Me L x.2->(Nat.blt 13 16=true/\Aa/\BM 1 λ(i:Nat)=>Ge x.1 i)/\iI T L s t x y B)) (iG L x/\∀(y:TK×RS),y=Ni L x.2 [(91:UInt8)]->Sq n L y/\∀(B:PT×RS),B=A5 T (kL (vK L)) y.2->(Nat.blt 11 14=true/\Aa/\BM 2 λ(i:Nat)=>GD x.1 B.1 i)/\iE T L s t x y B)) (((∃(R:List TK),vK L=vK R/\Az R x.2/\Nat.le 1 (List.length [(91:UInt8)]))/\iF L x)/\Ad (Ax (BR L x.2 [(91:UInt8)])) (Yv L x/\Ad (Ax (BR L x.2 [(46:UInt8)])) (Oo L x/\∀(y:TK),y=Ez L x.2->Dh x.2 (iH L x/\∀(B:TK×RS),B=Me L x.2->(Nat.blt 14 17=true/\Aa/\BM 1 λ(i:Nat)=>Ge x.1 i)/\iI T L s t x y B)) (iG L x/\∀(y:TK×RS),y=Ni L x.2 [(91:UInt8)]->Sq n L y/\∀(B:PT×RS),B=A5 T (kL (vK L)) y.2->(Nat.blt 12 15=true/\Aa/\BM 2 λ(i:Nat)=>GD x.1 B.1 i)/\iE T L s t x y B)) (Gf L x.1 x.2 t))
:=by
 delta DW CY Ay Cu TX Mb BO Dh GB Ge GD BR Rp Gf Me Ez Nf DI Oo Ni;intro n T Fi Am L s t O hT hF ht;simp only[A9,D1,iD,Ny,Yu,Sq,iF,Yv,iG,iH,iI,iE,AM,FP,CY,Ay,D8,EA,Nd,DW,I6,Pz,KJ,DG,Cu,A8,Eu,DX,Oc,Ic,GY,DC,PG,UU,D5,GX,Od,HH,PW];simp only[Dz];refine⟨AN O,λy hy=>?_⟩;have U:=hF L s O;have Z:=O.ok;have Y:=O.ns;have ab:=O.lf;have hy:y=Fi L s:=hy;rw[<-hy]at U;refine⟨⟨y,⟨⟨B7 L,Kz U.ok,by rw[ht,hy];rfl⟩,U⟩,KS rfl,Hr rfl⟩,λx hx=>?_⟩;obtain⟨⟨k,hk,C⟩,M⟩:=hx;have h:=M.ok;have h0:=h.a0;have h1:=h.a1;have hl:=h.len;have aa:=h.n0;have e5:=M.ns;have bx:=M.DU Z (by decide);cases k with
 |zero=>omega
 |succ k=>
 unfold ET at C;have W:Bo IntKind.i64 (x.2.at_+1)=true:=Be.2 (by omega);refine⟨AN ⟨h,by decide⟩,Aj (λE=>⟨AN ⟨h,by decide⟩,Aj (λ_=>?_) λJ=>?_⟩) λE=>?_⟩
 ·rw[if_pos (show Ah L x.2 OC=true from E)]at C;obtain⟨d1,d2⟩:=lQ M E;refine⟨AN h,λy hy=>An W ⟨AN ⟨FF h (Bb E),λh=>by cases h⟩,λz hz=>?_⟩⟩;have hz:z=AB L (Ai x.2) 1:=hz;have w:=sy (k:=30) (n:=0) (x:=z.1.text) (tk:=y) (g:=λi=>[vW (flat x.1)].getD i .As) (show sz x.1<=1000000 by omega) rfl;refine⟨⟨rfl,w.1⟩,LR L x.1 x.2,⟨⟨k,by omega,C⟩,d1⟩,d2,KS ?_,Hr ?_⟩
  ·rw[w.2,hy,hz];rfl
  ·rw[hz];rfl
 ·rw[show Ah L x.2 [46]=true from E]at J;cases J
 ·refine⟨AN ⟨h,by decide⟩,Aj (λJ=>⟨AN ⟨h,by decide⟩,Aj (λe3=>?_) λ_=>?_⟩) λJ=>?_⟩
  ·rw[show Ah L x.2 [46]=false from E]at e3;cases e3
  ·rw[if_neg (nb (show Ah L x.2 OC=false from E)),if_pos (show Ah L x.2 Fq=true from J)]at C;obtain⟨d0,d1,d2⟩:=nh hT M Y (by omega) J;refine⟨AN ⟨h,by decide,(show x.2.nest<=900 by omega)⟩,λq K=>?_⟩;have K:q=AQ L x.2 Fq:=K;rw[<-K]at d0;refine⟨AN d0,λr V=>?_⟩;have g:=O2 hT d0 (by decide);rw[<-V]at g;have br:=g.DU d0.ok (by decide);have o:=Pc (w:=Fq) h (show x.2.nest<=900 by omega);rw[<-K]at o;have o4:=o.ns;have g5:=g.ns;have w:=AcI (k:=31) (n:=0) (x:=[]) (tk:=q.1) (y:=x.1) (z:=r.1) (g:=λi=>[vW (flat x.1),vW (flat r.1)].getD i .As) (show sz x.1+sz r.1<=1000000 by omega) rfl rfl;refine⟨⟨rfl,w.1⟩,AN ⟨g.ok,by decide⟩,λz hz=>?_⟩;have hz:z=Aw L r.2 LJ:=hz;have f:=G4 (w:=LJ) g.ok;rw[<-hz]at f;have f1:=f.ns;refine An (Be.2 (by omega)) ⟨Ku T L x.1 x.2,⟨⟨k,by omega,C⟩,d1⟩,d2,KS ?_,Hr (a:=down z.2) ?_⟩
   ·rw[w.2,V,K];rfl
   ·rw[hz,V,K];rfl
  ·rw[if_neg (nb (show Ah L x.2 OC=false from E)),if_neg (nb (show Ah L x.2 Fq=false from J))]at C;exact HZ (y:=x) C.symm
theorem AmI:∀(n:Nat) (T Fi:List TK->PF) (Am:VH n T Fi) (L:List TK) (s:RS) (t:PT×RS),Av L (n+1) s->GF n 1 2 T->GF (n+1) 1 2 Fi->t=KV T Fi L s->(AG (wB n T Fi Am L t s) 60).call 132 [.ptr 0 0] (AU (A0 [Bm (vK L) s] 0)) 1 (Hc (vK L) t):=Eq.mpr (by kernel_rfl) AmL
theorem AiR {n:Nat} {T Fi:List TK->PF} (h:VH n T Fi) (hT:GF n 1 2 T) (y:GF (n+1) 1 2 Fi):AD Tryz.prog 132 (sF (n+1) (KV T Fi)):=IH λL s q=>⟨wB n T Fi h L (KV T Fi L s) s,60,rfl,AW,Bc,λt ht=>by subst ht;exact AmI n T Fi h L s _ q hT y rfl⟩
def yb (n:Nat) (F:List TK->PF):Cq:=(116,sF n F)::LZ
structure Yk (n:Nat) (F:List TK->PF):Prop where
 f:AD Tryz.prog 116 (sF n F)
theorem Af8 {n:Nat} {F:List TK->PF} (h:Yk n F):Db Tryz.prog (yb n F):=BN h.f MT
def wN (n:Nat) (F:List TK->PF) (h:Yk n F):Ctx:=GM (yb n F) (Af8 h)
def ye (n:Nat) (F:List TK->PF):Cq:=(140,sF n F)::LZ
structure Ym (n:Nat) (F:List TK->PF):Prop where
 f:AD Tryz.prog 140 (sF n F)
theorem Aga {n:Nat} {F:List TK->PF} (h:Ym n F):Db Tryz.prog (ye n F):=BN h.f MT
def wT (n:Nat) (F:List TK->PF) (h:Ym n F):Ctx:=GM (ye n F) (Aga h)
def yP (n:Nat) (F:List TK->PF):Cq:=(63,sF n F)::LZ
structure Yi (n:Nat) (F:List TK->PF):Prop where
 f:AD Tryz.prog 63 (sF n F)
theorem AfT {n:Nat} {F:List TK->PF} (h:Yi n F):Db Tryz.prog (yP n F):=BN h.f MT
def vh (n:Nat) (F:List TK->PF) (h:Yi n F):Ctx:=GM (yP n F) (AfT h)
theorem tV {i:Nat} (hi:i.succ<=1):0=([LT.none].getD i LT.none).kind/\[]=([LT.none].getD i LT.none).text/\0=([LT.none].getD i LT.none).n/\0=([LT.none].getD i LT.none).line/\0=([LT.none].getD i LT.none).Ag/\([LT.none].getD i LT.none).kids.length=0:=by
 obtain rfl:i=0:=by omega
 exact⟨rfl,rfl,rfl,rfl,rfl,rfl⟩
theorem nY {g:FuncId} {fz q:Nat} {pre:List TK->RS->Prop} {F:List TK->PF} (h:AD Tryz.prog g (bN fz pre F).NF):AD Tryz.prog g (bN q pre F).NF:=h
def TY (a:RS) (b:List TK->PF) (c:List TK) (d:Nat):=Ad (!Ak (RS.err a) (0:Int)) (Aa/\((Aa/\1=List.length (flat (Prod.fst (A5 b c a)))/\Au λ(B:Nat)=>Nat.le (Nat.succ B) 1->(Aa/\(0:Int)=LT.kind (List.getD (flat (Prod.fst (A5 b c a))) B LT.none))/\[]=LT.text (List.getD (flat (Prod.fst (A5 b c a))) B LT.none)/\(Aa/\(0:Int)=LT.n (List.getD (flat (Prod.fst (A5 b c a))) B LT.none))/\(Aa/\(0:Int)=LT.line (List.getD (flat (Prod.fst (A5 b c a))) B LT.none))/\(Aa/\(0:Int)=LT.Ag (List.getD (flat (Prod.fst (A5 b c a))) B LT.none))/\List.length (LT.kids (List.getD (flat (Prod.fst (A5 b c a))) B LT.none))=0/\True)/\True)/\(Aa/\Aa/\Aa/\Aa/\(((D1 c/\Aa/\RS.at_ a=RS.at_ (Prod.snd (A5 b c a)))/\Aa/\RS.nest a=RS.nest (Prod.snd (A5 b c a)))/\Aa/\RS.err a=RS.err (Prod.snd (A5 b c a)))/\Aa/\RS.Bp a=RS.Bp (Prod.snd (A5 b c a)))/\True) (((∃(E:List TK),vK c=vK E/\Av E d a)/\Aa/\Aa/\((Ab (some 0)/\Aa)/\True)/\(Aa/\Aa/\Aa/\(((D1 c/\Aa/\Ab (RS.at_ a))/\Aa/\Ab (RS.nest a))/\Aa/\Ab (RS.err a))/\Aa/\Ab (RS.Bp a))/\True)/\∀(y:PT×RS),y=b (kL (vK c)) a->Aa/\((Aa/\List.length (flat y.1)=List.length (flat (Prod.fst (A5 b c a)))/\Au λ(q:Nat)=>Nat.le (Nat.succ q) (List.length (flat y.1))->(Aa/\LT.kind (List.getD (flat y.1) q LT.none)=LT.kind (List.getD (flat (Prod.fst (A5 b c a))) q LT.none))/\LT.text (List.getD (flat y.1) q LT.none)=LT.text (List.getD (flat (Prod.fst (A5 b c a))) q LT.none)/\(Aa/\LT.n (List.getD (flat y.1) q LT.none)=LT.n (List.getD (flat (Prod.fst (A5 b c a))) q LT.none))/\(Aa/\LT.line (List.getD (flat y.1) q LT.none)=LT.line (List.getD (flat (Prod.fst (A5 b c a))) q LT.none))/\(Aa/\LT.Ag (List.getD (flat y.1) q LT.none)=LT.Ag (List.getD (flat (Prod.fst (A5 b c a))) q LT.none))/\(Aa/\List.length (LT.kids (List.getD (flat y.1) q LT.none))=List.length (LT.kids (List.getD (flat (Prod.fst (A5 b c a))) q LT.none))/\Au λ(C:Nat)=>Nat.le (Nat.succ C) (List.length (LT.kids (List.getD (flat y.1) q LT.none)))->(Aa/\List.getD (LT.kids (List.getD (flat y.1) q LT.none)) C (0:Int)=List.getD (LT.kids (List.getD (flat (Prod.fst (A5 b c a))) q LT.none)) C (0:Int))/\True)/\True)/\True)/\(Aa/\Aa/\Aa/\Aa/\(((D1 c/\Aa/\RS.at_ y.2=RS.at_ (Prod.snd (A5 b c a)))/\Aa/\RS.nest y.2=RS.nest (Prod.snd (A5 b c a)))/\Aa/\RS.err y.2=RS.err (Prod.snd (A5 b c a)))/\Aa/\RS.Bp y.2=RS.Bp (Prod.snd (A5 b c a)))/\True)
theorem Amw:∀(n:Nat) (F:List TK->PF),Yk n F->∀(L:List TK) (s:RS),HU L n s->TY s F L n
:=by
 delta TY;intro n F Am L s q;simp only[A9,D1,AM];simp only[Dz];refine Aj (λh=>?_) λh=>?_
 ·rw[Bool.not_eq_true',BU]at h;have e:A5 F L s=(EV,s):=by unfold A5;rw[if_pos h]
  rw[e,nI];exact⟨⟨rfl,⟨λi hi=>tV hi⟩⟩,Hr rfl⟩
 ·rw[Bool.not_eq_false',BL]at h;have e:A5 F L s=F L s:=by unfold A5;rw[if_neg (λe=>e h)]
  rw[e];exact⟨AN (q.pe h),λy hy=>by subst hy;exact⟨KS rfl,Hr rfl⟩⟩
theorem Amv:∀(n:Nat) (F:List TK->PF) (Am:Yk n F) (L:List TK) (s:RS),HU L n s->(AG (wN n F Am) 60).call 139 [.ptr 0 0] (AU (A0 [Bm (vK L) s] 0)) 1 (Cz Tryz.prog 1 0 1 (.ret (vW (flat (A5 F L s).1)) [Bm (vK L) (A5 F L s).2] 0)):=Eq.mpr (by kernel_rfl) Amw
theorem AiJ {n:Nat} {F:List TK->PF} (h:AD Tryz.prog 116 (sF n F)):AD Tryz.prog 139 (sE n F):=nY (et (fz:=1) λL s q=>⟨wN n F ⟨h⟩,60,_,rfl,AW,Bc,λ_ h=>h,Amv n F ⟨h⟩ L s q⟩)
theorem Am7:∀(n:Nat) (F:List TK->PF),Ym n F->∀(L:List TK) (s:RS),HU L n s->TY s F L n
:=by
 delta TY;intro n F Am L s q;simp only[A9,D1,AM];simp only[Dz];refine Aj (λh=>?_) λh=>?_
 ·rw[Bool.not_eq_true',BU]at h;have e:A5 F L s=(EV,s):=by unfold A5;rw[if_pos h]
  rw[e,nI];exact⟨⟨rfl,⟨λi hi=>tV hi⟩⟩,Hr rfl⟩
 ·rw[Bool.not_eq_false',BL]at h;have e:A5 F L s=F L s:=by unfold A5;rw[if_neg (λe=>e h)]
  rw[e];exact⟨AN (q.pe h),λy hy=>by subst hy;exact⟨KS rfl,Hr rfl⟩⟩
theorem Am6:∀(n:Nat) (F:List TK->PF) (Am:Ym n F) (L:List TK) (s:RS),HU L n s->(AG (wT n F Am) 60).call 144 [.ptr 0 0] (AU (A0 [Bm (vK L) s] 0)) 1 (Cz Tryz.prog 1 0 1 (.ret (vW (flat (A5 F L s).1)) [Bm (vK L) (A5 F L s).2] 0)):=Eq.mpr (by kernel_rfl) Am7
theorem Ai1 {n:Nat} {F:List TK->PF} (h:AD Tryz.prog 140 (sF n F)):AD Tryz.prog 144 (sE n F):=nY (et (fz:=1) λL s q=>⟨wT n F ⟨h⟩,60,_,rfl,AW,Bc,λ_ h=>h,Am6 n F ⟨h⟩ L s q⟩)
theorem AkF:∀(n:Nat) (F:List TK->PF),Yi n F->∀(L:List TK) (s:RS),HU L n s->TY s F L n
:=by
 delta TY;intro n F Am L s q;simp only[A9,D1,AM];simp only[Dz];refine Aj (λh=>?_) λh=>?_
 ·rw[Bool.not_eq_true',BU]at h;have e:A5 F L s=(EV,s):=by unfold A5;rw[if_pos h]
  rw[e,nI];exact⟨⟨rfl,⟨λi hi=>tV hi⟩⟩,Hr rfl⟩
 ·rw[Bool.not_eq_false',BL]at h;have e:A5 F L s=F L s:=by unfold A5;rw[if_neg (λe=>e h)]
  rw[e];exact⟨AN (q.pe h),λy hy=>by subst hy;exact⟨KS rfl,Hr rfl⟩⟩
theorem AkE:∀(n:Nat) (F:List TK->PF) (Am:Yi n F) (L:List TK) (s:RS),HU L n s->(AG (vh n F Am) 60).call 143 [.ptr 0 0] (AU (A0 [Bm (vK L) s] 0)) 1 (Cz Tryz.prog 1 0 1 (.ret (vW (flat (A5 F L s).1)) [Bm (vK L) (A5 F L s).2] 0)):=Eq.mpr (by kernel_rfl) AkF
theorem AhS {n:Nat} {F:List TK->PF} (h:AD Tryz.prog 63 (sF n F)):AD Tryz.prog 143 (sE n F):=nY (et (fz:=1) λL s q=>⟨vh n F ⟨h⟩,60,_,rfl,AW,Bc,λ_ h=>h,AkE n F ⟨h⟩ L s q⟩)
def R7:List UInt8:=[108,101,110]
def Vl:List UInt8:=[97,114,114]
def E7:List UInt8:=[42]
def Gi:List UInt8:=[43]
def Gj:List UInt8:=[45]
def Mx:List UInt8:=[60]
def Mu:List UInt8:=[61,61]
def LH (k:Int) (U:List TK->PF) (L:List TK) (s:RS):PT×RS:=(nd k [] 0 (AQ L s (Aq L s).text).1 [(A5 U L (AQ L s (Aq L s).text).2).1],down (A5 U L (AQ L s (Aq L s).text).2).2)
def Ij (U q:List TK->PF) (L:List TK):PF:=λs=>if Ah L s R7=true then LH 35 U L s else if Ah L s Vl=true then LH 34 U L s else q L s
def Fw (F:List TK->PF) (L:List TK) (x:PT) (s:RS):PT×RS:=(nd 32 (Aq L s).text 0 (Aq L s) [x,(F L (Ai s)).1],(F L (Ai s)).2)
def Df (F:List TK->PF) (ws:List (List UInt8)) (L:List TK):Nat->PT->RS->PT×RS
 |0,x,s=>(x,s)
 |k+1,x,s=>if ws.any (Ah L s)=true then Df F ws L k (Fw F L x s).1 (Fw F L x s).2 else(x,s)
def DE (F:List TK->PF) (ws:List (List UInt8)) (L:List TK):PF:=λs=>Df F ws L (B7 L) (F L s).1 (F L s).2
def JM (F:List TK->PF) (L:List TK):PF:=λs=>if [Mx,Mu].any (Ah L (F L s).2)=true then Fw F L (F L s).1 (F L s).2 else F L s
def KY (q:List TK->PF) (L:List TK):PF:=λs=>((q L s).1,if(q L s).2.err=0/\(q L s).1.kind≠29/\(q L s).1.kind≠30/\(q L s).1.kind≠31 then Bj (q L s).2 4 else(q L s).2)
structure VJ (n:Nat) (U Ti:List TK->PF):Prop where
 u:AD Tryz.prog 144 (sE n U)
 t:AD Tryz.prog 132 (sF (n+1) Ti)
def yd (n:Nat) (U q:List TK->PF):Cq:=(144,sE n U)::(132,sF (n+1) q)::LZ
theorem Agb {n:Nat} {U q:List TK->PF} (h:VJ n U q):Db Tryz.prog (yd n U q):=BN h.u (BN h.t MT)
def wR (n:Nat) (U q:List TK->PF) (h:VJ n U q):Ctx:=GM (yd n U q) (Agb h)
structure E9 (g:FuncId) (n:Nat) (F:List TK->PF):Prop where
 f:AD Tryz.prog g (sF n F)
def Tw (g:FuncId) (n:Nat) (F:List TK->PF):Cq:=(g,sF n F)::LZ
theorem Wy {g:FuncId} {n:Nat} {F:List TK->PF} (h:E9 g n F):Db Tryz.prog (Tw g n F):=BN h.f MT
def Zy (g:FuncId) (n:Nat) (F:List TK->PF) (h:E9 g n F):Ctx:=GM (Tw g n F) (Wy h)
def ZB (f g:FuncId) (n:Nat) (F:List TK->PF) (ws:List (List UInt8)) (h:E9 g n F) (L:List TK) (t:PT×RS) (s0:RS):Ctx:={P:=Tryz.prog,tb:=[],ht:=Tw g n F,Am:=Wy h,lp:=λq r=>cond (Nat.beq q f) (cond (Nat.beq r 2) (some (Acg L (Df F ws L) t s0 [0] 3)) none) none,cut:=λ_ _=>none}
theorem Lf {L:List TK} {s:RS} {w:List UInt8} (h:Ah L s w=true):(Aq L s).text=w:=by unfold Ah at h;rw[Bool.and_eq_true,decide_eq_true_eq,decide_eq_true_eq]at h;exact h.2
theorem tC {n:Nat} {U:List TK->PF} (K:GF n 1 2 U) {L:List TK} {s:RS} {k:Int} {w:List UInt8} (y:Av L (n+1) s) (h:Ah L s w=true):HU L n (AQ L s (Aq L s).text).2/\Cf L 1 2 s (LH k U L s):=by
 have J:=J0 h;have Z:=Bb h;have Am:=y.ok;have M:=y.ns;have R:=y.lf;have o:=Pc (w:=(Aq L s).text) Am (show s.nest<=900 by omega);unfold LH;generalize(AQ L s (Aq L s).text)=q at o⊢;have Y:=o.am;have W:=o.ax;have C:=o.eo;have V:=o.ns;have S:=o.er;have B:HU L n q.2:=⟨o.ok,λz=>⟨o.ok,by have:=C z;omega,by have:=C z;omega⟩⟩;have g:=O2 K B (by decide);generalize A5 U L q.2=r at g⊢;have g1:=g.am;have g2:=g.ss;have g3:=g.so;have g4:=g.er;have g5:=g.ns;have O:=Am.n0;refine⟨B,⟨S1 g.ok (by omega),by show r.2.nest-1=_;omega,by show s.at_<=r.2.at_;omega,λe=>absurd J e,?_,λE=>?_⟩⟩
 ·show((sz _:Nat):Int)<=3*(r.2.at_-s.at_)+2;rw[Hs];omega
 ·have E:r.2.err=0:=E;show((sz _:Nat):Int)<=3*(r.2.at_-s.at_);rw[Hs];omega
theorem tD {n:Nat} {U B:List TK->PF} (y:GF n 1 2 U) (hT:GF (n+1) 1 2 B):GF (n+1) 1 2 (Ij U B):=by
 intro L s q;unfold Ij;split
 ·rename_i e;exact(tC y q e).2
 split
 ·rename_i e;exact(tC y q e).2
 ·exact hT L s q
theorem TU {n:Nat} {F:List TK->PF} (K:GF n 1 2 F) {L:List TK} {s0 s:RS} {x:PT} {ws:List (List UInt8)} (h:Cf L 1 2 s0 (x,s)) (B:Av L n s0) (hd:ws.any (Ah L s)=true):Av L n (Ai s)/\Cf L 1 2 s0 (Fw F L x s)/\Cn L (Fw F L x s).2<Cn L s:=by
 obtain⟨w,_,y⟩:=List.any_eq_true.1 hd;have q:=J0 y;have J:=Bb y;have Am:Az L s:=h.ok;have U:s0.at_<=s.at_:=h.am;have S:s.nest=s0.nest:=h.ns;have R:(sz x:Int)<=3*(s.at_-s0.at_):=h.so q;have E:s0.err≠0->s.err≠0:=λe=>(h.er e).1;have M:=B.ns;have O:=B.lf;have a1:=FF Am J;have pa:Av L n (Ai s):=⟨a1,by show s.nest<=64;omega,by show(L.length:Int)-(s.at_+1)<n;omega⟩;have g:=K L (Ai s) pa;unfold Fw;generalize F L (Ai s)=r at g⊢;have Z:s.at_+1<=r.2.at_:=g.am;have Y:(sz r.1:Int)<=3*(r.2.at_-(s.at_+1))+2:=g.ss;have W:r.2.err=0->(sz r.1:Int)<=3*(r.2.at_-(s.at_+1)):=g.so;have V:r.2.nest=s.nest:=g.ns;refine⟨pa,⟨g.ok,by show r.2.nest=_;omega,by show s0.at_<=r.2.at_;omega,λe=>absurd q (E e),?_,λC=>?_⟩,cT g.ok q (by show s.at_<=r.2.at_;omega) λ_=>by show s.at_<r.2.at_;omega⟩
 ·show((sz _:Nat):Int)<=3*(r.2.at_-s0.at_)+2;rw[JL];omega
 ·have C:r.2.err=0:=C;show((sz _:Nat):Int)<=3*(r.2.at_-s0.at_);rw[JL];omega
theorem AaQ {n:Nat} {F:List TK->PF} (y:GF n 1 2 F) {L:List TK} {s0:RS} {ws:List (List UInt8)} (q:Av L n s0):∀(k:Nat) (x:PT) (s:RS),Cf L 1 2 s0 (x,s)->Cf L 1 2 s0 (Df F ws L k x s)
 |0,x,s,h=>h
 |k+1,x,s,h=>by
  unfold Df;split
  ·rename_i e;exact AaQ y q k _ _ (TU y h q e).2.1
  ·exact h
theorem U5 {n:Nat} {F:List TK->PF} {ws:List (List UInt8)} (y:GF n 1 2 F):GF n 1 2 (DE F ws):=λL s q=>AaQ y q _ _ _ (y L s q)
theorem si {n:Nat} {F:List TK->PF} (y:GF n 1 2 F):GF n 1 2 (JM F):=by
 intro L s q;unfold JM;split
 ·rename_i e;exact(TU y (y L s q) q e).2.1
 ·exact y L s q
theorem tG {n:Nat} {q:List TK->PF} (hT:GF n 1 2 q):GF n 1 2 (KY q):=by
 intro L s C;have g:=hT L s C;unfold KY;generalize q L s=r at g⊢;have w:=X7 r.2 (e:=4) (by decide);have B:=tR g.ok 4;have M:=g.am;have E:=g.ss;have K:=g.so;have y:=g.er;have J:=g.ns;split
 ·exact⟨B,by show(Bj r.2 4).nest=_;omega,by show _<=(Bj r.2 4).at_;omega,λe=>⟨w.1,by show(Bj r.2 4).at_=_;have:=y e;omega,(y e).2.2⟩,by show _<=3*((Bj r.2 4).at_-_)+2;rw[w.2.1];exact E,λe=>absurd e w.1⟩
 ·exact g
theorem W7 {n:Nat} {F:List TK->PF} (C:GF n 1 2 F) {L:List TK} {s0:RS} {x:PT×RS} {ws:List (List UInt8)} (h:Cf L 1 2 s0 x) (B:Av L n s0) (hd:ws.any (Ah L x.2)=true) {c:Bool} (hc:c=true) {q:TK->PT×RS->Prop} (E:A3 32 (Aq L x.2).text 0 (Aq L x.2) (B6 2 λi=>[vW (flat x.1),vW (flat (F L (Ai x.2)).1)].getD i .As)=flat (Fw F L x.1 x.2).1->q (Aq L x.2) (F L (Ai x.2))): (∃M,vK L=vK M/\Az M x.2)/\∀y,y=Aq L x.2->Ap (Bo .i64 (x.2.at_+1)) ((∃M,vK L=vK M/\Av M n (Ai x.2))/\∀z,z=F L (Ai x.2)->(c=true/\BM 2 λi=>[vW (flat x.1),vW (flat z.1)].getD i .As)/\q y z):=by obtain⟨d0,d1,R⟩:=TU C (x:=x.1) (s:=x.2) h B hd;have Am:=h.ok;have O:=Am.a0;have K:=Am.a1;have J:=Am.len;have S:=h.DU B.ok (by decide);have g:=C L (Ai x.2) d0;have U:=g.DU d0.ok (by decide);refine⟨AN Am,λy hy=>An (Be.2 (by omega)) ⟨AN d0,λz hz=>?_⟩⟩;subst hy;subst hz;have w:=AcI (k:=32) (n:=0) (x:=(Aq L x.2).text) (tk:=Aq L x.2) (y:=x.1) (z:=(F L (Ai x.2)).1) (g:=λi=>[vW (flat x.1),vW (flat (F L (Ai x.2)).1)].getD i .As) (show sz x.1+sz (F L (Ai x.2)).1<=1000000 by omega) rfl rfl;exact⟨⟨hc,w.1⟩,E w.2⟩
theorem pH {n:Nat} {F:List TK->PF} (C:GF n 1 2 F) {L:List TK} {s0:RS} {x t:PT×RS} {ws:List (List UInt8)} (h:Jm L (Df F ws L) t s0 x) (B:Av L n s0) (hd:ws.any (Ah L x.2)=true):Jm L (Df F ws L) t s0 (Fw F L x.1 x.2)/\Cn L (Fw F L x.1 x.2).2<Cn L x.2:=by
 obtain⟨⟨k,J,q⟩,y⟩:=h;obtain⟨d0,d1,E⟩:=TU C (x:=x.1) (s:=x.2) y B hd;cases k with
 |zero=>omega
 |succ k=>
 unfold Df at q;rw[if_pos hd]at q;exact⟨⟨⟨k,by omega,q⟩,d1⟩,E⟩
theorem AaU {F:List TK->PF} {L:List TK} {s0:RS} {x t:PT×RS} {ws:List (List UInt8)} (h:Jm L (Df F ws L) t s0 x) (hd:ws.any (Ah L x.2)=false):t=x:=by
 obtain⟨⟨k,B,q⟩,y⟩:=h;cases k with
 |zero=>omega
 |succ k=>
 unfold Df at q;rw[if_neg (nb hd)]at q;exact q.symm
theorem Abr {n:Nat} {F:List TK->PF} (y:GF n 1 2 F) {L:List TK} {s0:RS} {t:PT×RS} {ws:List (List UInt8)} (q:Av L n s0) (ht:t=DE F ws L s0):Jm L (Df F ws L) t s0 (F L s0):=by have g:=y L s0 q;exact⟨⟨B7 L,Kz g.ok,ht.symm⟩,g⟩
theorem AcK {n:Nat} {U:List TK->PF} (E:GF n 1 2 U) {L:List TK} {s:RS} {t:PT×RS} {k:Int} {w:List UInt8} (C:Av L (n+1) s) (hd:Ah L s w=true) (O:1<=w.length) (ht:t=LH k U L s) {c:Bool} (hc:c=true): (∃M,vK L=vK M/\Az M s)/\∀y,y=Aq L s->(∃M,vK L=vK M/\Az M s/\1<=y.text.length/\Int.NonNeg (900-s.nest))/\∀q:TK×RS,q=AQ L s y.text->(∃M,vK L=vK M/\HU M n q.2)/\∀z,z=A5 U L q.2-> (c=true/\BM 1 λi=>[vW (flat z.1)].getD i .As)/\Ap (Bo .i64 (z.2.nest-1)) (Ir (vK L) (vK L) (vW (A3 k [] 0 q.1 (B6 1 λi=>[vW (flat z.1)].getD i .As))) ⟨z.2.at_,z.2.nest-1,z.2.err,z.2.Bp⟩ t):=by have Am:=C.ok;have R:=C.ns;have S:=Am.n0;obtain⟨d0,Y⟩:=tC (k:=k) E C hd;refine⟨AN Am,λy hy=>?_⟩;subst hy;refine⟨AN ⟨Am,by rw[Lf hd];exact O,(show s.nest<=900 by omega)⟩,λq B=>?_⟩;rw[<-B]at d0;refine⟨AN d0,λz hz=>?_⟩;have g:=O2 E d0 (by decide);rw[<-hz]at g;have Z:=g.DU d0.ok (by decide);have o:=Pc (w:=(Aq L s).text) Am (show s.nest<=900 by omega);rw[<-B]at o;have V:=o.ns;have W:=g.ns;obtain⟨K,J⟩:=OW (L:=L) (k:=k) (n:=0) (x:=[]) (tk:=q.1) (s:=down z.2) (t:=t) (y:=z.1) (g:=λi=>[vW (flat z.1)].getD i .As) hc (show sz z.1<=1000000 by omega) rfl (by rw[ht,hz,B];rfl);exact⟨K,An (Be.2 (by omega)) J⟩
theorem CH {f:List UInt8->Bool} {a:List UInt8} {c:Bool} (h:f a=c):[a].any f=c:=by simp[h]
theorem V1 {f:List UInt8->Bool} {a b:List UInt8} (h:f a=true):[a,b].any f=true:=by simp[h]
theorem Qn {f:List UInt8->Bool} {a b:List UInt8} {c:Bool} (h:f a=false) (q:f b=c):[a,b].any f=c:=by simp[h,q]
@[reducible] def Yw:TK×RS->Prop:=λ(a:TK×RS)=>A8/\A8/\(GY a.1)/\True
@[reducible] def Sv:List TK->RS->Prop:=λ(L:List TK) (s:RS)=>Aa/\Aa/\(Ay/\True)/\CP L s
@[reducible] def iL:List TK->RS->Prop:=λ(L:List TK) (s:RS)=>(D8 L s)/\Sv L s
@[reducible] def iM:List TK->RS->TK->Prop:=λ(L:List TK) (s:RS) (a:TK)=>(∃(q:List TK),vK L=vK q/\Az q s/\Nat.le 1 (List.length (TK.text a))/\Nd s)/\Aa/\Aa/\(Ay/\Ab (TK.text a)/\True)/\CP L s
def Ob:=[(108:UInt8),101,110]
def Mm (a:TK×RS):=Yw a
theorem Anb:∀(n:Nat) (U K:List TK->PF),VJ n U K->∀(L:List TK) (s:RS) (t:PT×RS),Av L (n+1) s->(GB n U)->t=Ij U K L s->((∃(J:List TK),vK L=vK J/\Az J s/\Nat.le 1 (List.length Ob))/\Aa/\Aa/\(Ay/\Ab Ob/\True)/\CP L s)/\Ad (Ax (BR L s Ob)) (iL L s/\∀(y:TK),y=Ez L s->iM L s y/\∀(q:TK×RS),q=Ni L s (TK.text y)->Sq n L q/\∀(y:PT×RS),y=A5 U (kL (vK L)) q.2->(Nat.blt 10 13=true/\Aa/\BM 1 λ(i:Nat)=>Ge y.1 i)/\Mm q/\HH y.2 (BO L (vW (A3 (35:Int) [] (0:Int) q.1 (Eu y.1))) (Ps y.2) t)) ((eE L s)/\Ad (!Ax (BR L s Jz)) (((Nf L n s)/\Sv L s)/\∀(y:PT×RS),y=DI K L s->Gf L y.1 y.2 t) (iL L s/\∀(y:TK),y=Ez L s->iM L s y/\∀(q:TK×RS),q=Ni L s (TK.text y)->Sq n L q/\∀(y:PT×RS),y=A5 U (kL (vK L)) q.2->(Nat.blt 11 14=true/\Aa/\BM 1 λ(i:Nat)=>Ge y.1 i)/\Mm q/\HH y.2 (BO L (vW (A3 (34:Int) [] (0:Int) q.1 (Eu y.1))) (Ps y.2) t)))
:=by
 delta Ay Eu BO GB Ge BR Jz CP HH Ps Ob Gf Ez Nf eE DI Ni Mm;intro n U K Am L s t C M ht;simp only[A9,Yw,D1,Kk,Sv,iL,Sq,iM,DG,A8,GY,AM,CY,Ay,CP,D8,Nd];simp only[Dz];refine⟨AN ⟨C.ok,by decide⟩,Aj (λE=>?_) λE=>⟨AN ⟨C.ok,by decide⟩,Aj (λB=>?_) λB=>?_⟩⟩
 ·exact AcK M C (w:=R7) E (by decide) (by rw[ht];unfold Ij;rw[if_pos (show Ah L s R7=true from E)]) rfl
 ·rw[Bool.not_eq_true']at B;exact⟨AN C,λy hy=>HZ (by rw[ht,hy];unfold Ij;rw[if_neg (nb (show Ah L s R7=false from E)),if_neg (nb (show Ah L s Vl=false from B))])⟩
 ·rw[Bool.not_eq_false']at B;exact AcK M C (w:=Vl) B (by decide) (by rw[ht];unfold Ij;rw[if_neg (nb (show Ah L s R7=false from E)),if_pos (show Ah L s Vl=true from B)]) rfl
theorem Am8:∀(n:Nat) (U q:List TK->PF) (Am:VJ n U q) (L:List TK) (s:RS) (t:PT×RS),Av L (n+1) s->GF n 1 2 U->t=Ij U q L s->(AG (wR n U q Am) 60).call 140 [.ptr 0 0] (AU (A0 [Bm (vK L) s] 0)) 1 (Hc (vK L) t):=Eq.mpr (by kernel_rfl) Anb
@[reducible] def Ss:List TK->PT×RS->PT×RS->Prop:=λ(L:List TK) (a q:PT×RS)=>(Mb L a.2 q.2)/\True
def BF:=((True/\True/\True)/\True)
def dM (a:TK) (b:PT) (c:PT) (d:PT):=((Aa/\List.length (A3 (32:Int) (TK.text a) (0:Int) a (D5 b c))=List.length (flat d)/\Au λ(q:Nat)=>Nat.le (Nat.succ q) (List.length (A3 (32:Int) (TK.text a) (0:Int) a (D5 b c)))->(Aa/\LT.kind (List.getD (A3 (32:Int) (TK.text a) (0:Int) a (D5 b c)) q LT.none)=LT.kind (Cu d q))/\LT.text (List.getD (A3 (32:Int) (TK.text a) (0:Int) a (D5 b c)) q LT.none)=LT.text (Cu d q)/\(Aa/\LT.n (List.getD (A3 (32:Int) (TK.text a) (0:Int) a (D5 b c)) q LT.none)=LT.n (Cu d q))/\(Aa/\LT.line (List.getD (A3 (32:Int) (TK.text a) (0:Int) a (D5 b c)) q LT.none)=LT.line (Cu d q))/\(Aa/\LT.Ag (List.getD (A3 (32:Int) (TK.text a) (0:Int) a (D5 b c)) q LT.none)=LT.Ag (Cu d q))/\(Aa/\List.length (LT.kids (List.getD (A3 (32:Int) (TK.text a) (0:Int) a (D5 b c)) q LT.none))=List.length (LT.kids (Cu d q))/\Au λ(y:Nat)=>Nat.le (Nat.succ y) (List.length (LT.kids (List.getD (A3 (32:Int) (TK.text a) (0:Int) a (D5 b c)) q LT.none)))->(Aa/\List.getD (LT.kids (List.getD (A3 (32:Int) (TK.text a) (0:Int) a (D5 b c)) q LT.none)) y (0:Int)=List.getD (LT.kids (Cu d q)) y (0:Int))/\True)/\True)/\Ay/\True)
def C7 (a:TK):=AV.bs (TK.text a)
def L9 (a:List TK) (b:Nat) (c:RS):=((∃(q:List TK),vK a=vK q/\Av q b c)/\Aa/\Aa/\(Ay/\True)/\(CY a c)/\True)
def JF:=[[(42:UInt8)]]
def G1 (a:List TK->PF) (b:List TK) (c:RS):=a (kL (vK b)) (DW c)
def PI (a:PT) (b:PT):=(Nat.blt 13 16=true/\Aa/\BM 2 λ(q:Nat)=>GD a b q)
def Us (a:TK):=(BF/\BF/\((DG a/\Ab (C7 a)/\True)/\True)/\True)
def eU (a:List TK) (b:Nat) (c:RS):=((∃(q:List TK),vK a=vK q/\Av q b (DW c))/\Aa/\Aa/\(Ay/\True)/\(I6 a c)/\True)
theorem Al6:∀(n:Nat) (F:List TK->PF),E9 (140:FuncId) n F->∀(L:List TK) (s:RS) (t:PT×RS),Av L n s->(GB n F)->t=DE F JF L s->(L9 L n s)/\∀(y:PT×RS),y=DI F L s->(∃(M:PT×RS),Jm L (Df F JF L) t s M/\Aa/\(TX y.1 M.1)/\Ss L y M)/\∀(x:PT×RS),Jm L (Df F JF L) t s x->((∃(B:List TK),vK L=vK B/\Az B x.2/\Nat.le 1 (List.length [(42:UInt8)]))/\Aa/\Aa/\(Ay/\Ab [(42:UInt8)]/\True)/\EA L x)/\Ad (Ax (BR L x.2 [(42:UInt8)])) (((D8 L x.2)/\Aa/\Aa/\(Ay/\True)/\EA L x)/\∀(y:TK),y=Ez L x.2->Dh x.2 ((eU L n x.2)/\∀(q:PT×RS),q=G1 F L x.2->(PI x.1 q.1)/\(Us y)/\∃(C:PT×RS),Jm L (Df F JF L) t s C/\DX L C.2 x.2/\Aa/\(dM y x.1 q.1 C.1)/\Ss L q C)) (Gf L x.1 x.2 t)
:=by delta DG DW CY D5 Ay Cu BF dM TX I6 BO Dh GB DX GD D8 BR C7 L9 EA JF Gf Ez G1 PI Us eU DI;intro n F Am L s t J O ht;simp only[A9,D1,Ny,Ss,AM,CY,Mb];simp only[Dz];refine⟨AN J,λy hy=>?_⟩;have hy:y=F L s:=hy;subst hy;refine⟨⟨F L s,Abr O J ht,KS rfl,Hr rfl⟩,λx E=>⟨AN ⟨E.p.ok,by decide⟩,Aj (λK=>?_) λK=>HZ (AaU E (CH (a:=E7) K))⟩⟩;obtain⟨d1,d2⟩:=pH O E J (CH (a:=E7) K);exact W7 O E.p J (CH (a:=E7) K) rfl λw=>⟨Fw F L x.1 x.2,d1,d2,KS w,Hr rfl⟩
theorem Al3:∀(n:Nat) (F:List TK->PF) (Am:E9 140 n F) (L:List TK) (s:RS) (t:PT×RS),Av L n s->GF n 1 2 F->t=DE F [E7] L s->(AG (ZB 133 140 n F [E7] Am L t s) 60).call 133 [.ptr 0 0] (AU (A0 [Bm (vK L) s] 0)) 1 (Hc (vK L) t):=Eq.mpr (by kernel_rfl) Al6
@[reducible] def Su:Nat->List TK->PT×RS->Prop:=λ(n:Nat) (L:List TK) (a:PT×RS)=>(∃(q:List TK),vK L=vK q/\Av q n (DW a.2))/\Aa/\Aa/\(Ay/\True)/\(I6 L a.2)/\True
def Jb:=[[(43:UInt8)],[(45:UInt8)]]
@[reducible] def iJ:(List TK->PF)->List TK->RS->PT×RS->PT×RS->TK->PT×RS->Prop:=λ(F:List TK->PF) (L:List TK) (s:RS) (t a:PT×RS) (y:TK) (q:PT×RS)=>(Us y)/\∃(B:PT×RS),Jm L (Df F Jb L) t s B/\DX L B.2 a.2/\Aa/\(dM y a.1 q.1 B.1)/\Ss L q B
theorem Amu:∀(n:Nat) (F:List TK->PF),E9 (133:FuncId) n F->∀(L:List TK) (s:RS) (t:PT×RS),Av L n s->(GB n F)->t=DE F Jb L s->(L9 L n s)/\∀(y:PT×RS),y=DI F L s->(∃(O:PT×RS),Jm L (Df F Jb L) t s O/\Aa/\(TX y.1 O.1)/\Ss L y O)/\∀(x:PT×RS),Jm L (Df F Jb L) t s x->((∃(B:List TK),vK L=vK B/\Az B x.2/\Nat.le 1 (List.length [(43:UInt8)]))/\Aa/\Aa/\(Ay/\Ab [(43:UInt8)]/\True)/\EA L x)/\Ad (Ax (BR L x.2 [(43:UInt8)])) (Oo L x/\∀(y:TK),y=Ez L x.2->Dh x.2 (Su n L x/\∀(q:PT×RS),q=G1 F L x.2->(PI x.1 q.1)/\iJ F L s t x y q)) (((∃(B:List TK),vK L=vK B/\Az B x.2/\Nat.le 1 (List.length [(45:UInt8)]))/\Aa/\Aa/\(Ay/\Ab [(45:UInt8)]/\True)/\EA L x)/\Ad (Ax (BR L x.2 [(45:UInt8)])) (Oo L x/\∀(y:TK),y=Ez L x.2->Dh x.2 (Su n L x/\∀(q:PT×RS),q=G1 F L x.2->(Nat.blt 14 17=true/\Aa/\BM 2 λ(i:Nat)=>GD x.1 q.1 i)/\iJ F L s t x y q)) (Gf L x.1 x.2 t))
:=by
 delta DW CY Ay Cu TX BO Dh GB GD BR L9 Jb EA Gf Ez G1 PI DI Oo;intro n F Am L s t E K ht;simp only[A9,D1,Ny,Ss,Yu,Su,iJ,AM,CY,Mb,Ay,D8,EA,DW,I6,DG,D5,Cu,BF,dM,DX,C7,Jb,Us];simp only[Dz];refine⟨AN E,λy hy=>?_⟩;have hy:y=F L s:=hy;subst hy;refine⟨⟨F L s,Abr K E ht,KS rfl,Hr rfl⟩,λx C=>⟨AN ⟨C.p.ok,by decide⟩,Aj (λJ=>?_) λJ=>⟨AN ⟨C.p.ok,by decide⟩,Aj (λM=>?_) λM=>HZ (AaU C (Qn (a:=Gi) (b:=Gj) J M))⟩⟩⟩
 ·obtain⟨d1,d2⟩:=pH K C E (V1 (a:=Gi) (b:=Gj) J);exact W7 K C.p E (V1 (a:=Gi) (b:=Gj) J) rfl λw=>⟨Fw F L x.1 x.2,d1,d2,KS w,Hr rfl⟩
 ·obtain⟨d1,d2⟩:=pH K C E (Qn (a:=Gi) (b:=Gj) J M);exact W7 K C.p E (Qn (a:=Gi) (b:=Gj) J M) rfl λw=>⟨Fw F L x.1 x.2,d1,d2,KS w,Hr rfl⟩
theorem Amr:∀(n:Nat) (F:List TK->PF) (Am:E9 133 n F) (L:List TK) (s:RS) (t:PT×RS),Av L n s->GF n 1 2 F->t=DE F [Gi,Gj] L s->(AG (ZB 129 133 n F [Gi,Gj] Am L t s) 60).call 129 [.ptr 0 0] (AU (A0 [Bm (vK L) s] 0)) 1 (Hc (vK L) t):=Eq.mpr (by kernel_rfl) Amu
@[reducible] def iK:List TK->PT×RS->PT×RS->TK->PT×RS->Prop:=λ(L:List TK) (t a:PT×RS) (q:TK) (y:PT×RS)=>(Us q)/\BO L (vW (A3 (32:Int) (TK.text q) (0:Int) q (D5 a.1 y.1))) y.2 t
def RA:=[(61:UInt8),61]
theorem AmE:∀(n:Nat) (F:List TK->PF),E9 (129:FuncId) n F->∀(L:List TK) (s:RS) (t:PT×RS),Av L n s->(GB n F)->t=JM F L s->(L9 L n s)/\∀(y:PT×RS),y=DI F L s->((∃(C:List TK),vK L=vK C/\Az C y.2/\Nat.le 1 (List.length [(60:UInt8)]))/\Aa/\Aa/\(Ay/\Ab [(60:UInt8)]/\True)/\EA L y)/\Ad (Ax (BR L y.2 [(60:UInt8)])) (Oo L y/\∀(B:TK),B=Ez L y.2->Dh y.2 (Su n L y/\∀(q:PT×RS),q=G1 F L y.2->(PI y.1 q.1)/\iK L t y B q)) (((∃(C:List TK),vK L=vK C/\Az C y.2/\Nat.le 1 (List.length RA))/\Aa/\Aa/\(Ay/\Ab RA/\True)/\EA L y)/\Ad (Ax (BR L y.2 RA)) (Oo L y/\∀(B:TK),B=Ez L y.2->Dh y.2 (Su n L y/\∀(q:PT×RS),q=G1 F L y.2->(Nat.blt 14 17=true/\Aa/\BM 2 λ(i:Nat)=>GD y.1 q.1 i)/\iK L t y B q)) (Gf L y.1 y.2 t))
:=by
 delta DW CY Ay BO Dh GB GD BR L9 EA Gf Ez G1 PI RA DI Oo;intro n F Am L s t K M ht;simp only[A9,D1,iK,Ny,Yu,Su,AM,DG,D5,BF,BO,C7,Us,CY,Ay,D8,EA,DW,I6];simp only[Dz];refine⟨AN K,λy hy=>?_⟩;have hy:y=F L s:=hy;subst hy;have g:=M L s K;have key:∀c,[Mx,Mu].any (Ah L (F L s).2)=c->t=if c=true then Fw F L (F L s).1 (F L s).2 else F L s:=λc hc=>by rw[ht];unfold JM;rw[hc]
 refine⟨AN ⟨g.ok,by decide⟩,Aj (λE=>?_) λE=>⟨AN ⟨g.ok,by decide⟩,Aj (λJ=>?_) λJ=>HZ (key false (Qn (a:=Mx) (b:=Mu) E J))⟩⟩
 ·exact W7 M g K (V1 (a:=Mx) (b:=Mu) E) rfl λw=>⟨rfl,by rw[key true (V1 (a:=Mx) (b:=Mu) E),if_pos rfl,w],by rw[key true (V1 (a:=Mx) (b:=Mu) E)];rfl⟩
 ·exact W7 M g K (Qn (a:=Mx) (b:=Mu) E J) rfl λw=>⟨rfl,by rw[key true (Qn (a:=Mx) (b:=Mu) E J),if_pos rfl,w],by rw[key true (Qn (a:=Mx) (b:=Mu) E J)];rfl⟩
theorem Amz:∀(n:Nat) (F:List TK->PF) (Am:E9 129 n F) (L:List TK) (s:RS) (t:PT×RS),Av L n s->GF n 1 2 F->t=JM F L s->(AG (Zy 129 n F Am) 60).call 116 [.ptr 0 0] (AU (A0 [Bm (vK L) s] 0)) 1 (Hc (vK L) t):=Eq.mpr (by kernel_rfl) AmE
def eQ (a:PT):=LT.kind (List.getD (flat a) 0 LT.none)
theorem Ank:∀(n:Nat) (F:List TK->PF),E9 (132:FuncId) n F->∀(L:List TK) (s:RS) (t:PT×RS),Av L n s->(GB n F)->t=KY F L s->(L9 L n s)/\∀(y:PT×RS),y=DI F L s->AO y.2 (Ap (Bn (0:Int) (Ic y.1)) (Ad (!Ak (eQ y.1) (29:Int)) (Ap (Bn (0:Int) (Ic y.1)) (Ad (!Ak (eQ y.1) (30:Int)) (Ap (Bn (0:Int) (Ic y.1)) (Ad (!Ak (eQ y.1) (31:Int)) (((D8 L y.2)/\Aa/\Aa/\(Ay/\(Aa/\Ab (4:Int))/\True)/\(CY L y.2)/\True)/\∀(J:RS),J=Bj y.2 (4:Int)->Gf L y.1 J t) (Gf L y.1 y.2 t))) (Gf L y.1 y.2 t))) (Gf L y.1 y.2 t))) (Gf L y.1 y.2 t)
:=by
 delta CY Ay AO BO GB D8 L9 Ic Gf eQ DI;intro n F Am L s t K M ht;simp only[A9,D1,AM];simp only[Dz];refine⟨AN K,λy hy=>?_⟩;have hy:y=F L s:=hy;have g:=M L s K;rw[<-hy]at g;have hi:Bn 0 (flat y.1).length=true:=BJ.2 (by have:=(NK y.1).1;have:=Ih y.1;omega);have ht:t=(y.1,if y.2.err=0/\y.1.kind≠29/\y.1.kind≠30/\y.1.kind≠31 then Bj y.2 4 else y.2):=by rw[ht,hy];rfl
 rw[Afx];refine Aj (λE=>An hi (Aj (λC=>An hi (Aj (λB=>An hi (Aj (λq=>⟨AN g.ok,λz hz=>?_⟩) λq=>?_)) λB=>?_)) λC=>?_)) λE=>?_
 ·rw[Bool.not_eq_true',BU]at C B q;rw[BL]at E;rw[if_pos ⟨E,C,B,q⟩]at ht;exact HZ (y:=(y.1,z)) (by rw[ht,hz])
 ·rw[Bool.not_eq_false',BL]at q;rw[if_neg (by rintro⟨_,_,_,h⟩;exact h q)]at ht;exact HZ ht
 ·rw[Bool.not_eq_false',BL]at B;rw[if_neg (by rintro⟨_,_,h,_⟩;exact h B)]at ht;exact HZ ht
 ·rw[Bool.not_eq_false',BL]at C;rw[if_neg (by rintro⟨_,h,_⟩;exact h C)]at ht;exact HZ ht
 ·rw[BU]at E;rw[if_neg (by rintro⟨h,_⟩;exact E h)]at ht;exact HZ ht
theorem Anh:∀(n:Nat) (F:List TK->PF) (Am:E9 132 n F) (L:List TK) (s:RS) (t:PT×RS),Av L n s->GF n 1 2 F->t=KY F L s->(AG (Zy 132 n F Am) 60).call 128 [.ptr 0 0] (AU (A0 [Bm (vK L) s] 0)) 1 (Hc (vK L) t):=Eq.mpr (by kernel_rfl) Ank
theorem Ai2 {n:Nat} {U q:List TK->PF} (h:VJ n U q) (B:GF n 1 2 U):AD Tryz.prog 140 (sF (n+1) (Ij U q)):=IH λL s y=>⟨wR n U q h,60,rfl,AW,Bc,λt ht=>Am8 n U q h L s t y B ht⟩
theorem Aiu {n:Nat} {F:List TK->PF} (h:E9 140 n F) (y:GF n 1 2 F):AD Tryz.prog 133 (sF n (DE F [E7])):=IH λL s q=>⟨ZB 133 140 n F [E7] h L (DE F [E7] L s) s,60,rfl,AW,Bc,λt ht=>by subst ht;exact Al3 n F h L s _ q y rfl⟩
theorem AiH {n:Nat} {F:List TK->PF} (h:E9 133 n F) (y:GF n 1 2 F):AD Tryz.prog 129 (sF n (DE F [Gi,Gj])):=IH λL s q=>⟨ZB 129 133 n F [Gi,Gj] h L (DE F [Gi,Gj] L s) s,60,rfl,AW,Bc,λt ht=>by subst ht;exact Amr n F h L s _ q y rfl⟩
theorem AiL {n:Nat} {F:List TK->PF} (h:E9 129 n F) (y:GF n 1 2 F):AD Tryz.prog 116 (sF n (JM F)):=IH λL s q=>⟨Zy 129 n F h,60,rfl,AW,Bc,λt ht=>Amz n F h L s t q y ht⟩
theorem Ai6 {n:Nat} {F:List TK->PF} (h:E9 132 n F) (y:GF n 1 2 F):AD Tryz.prog 128 (sF n (KY F)):=IH λL s q=>⟨Zy 132 n F h,60,rfl,AW,Bc,λt ht=>Anh n F h L s t q y ht⟩
def rdT (l:List AV):Option TK:=match l with
 | [.agg [.int .i64 k,.bs b,.int .i64 n,.int .i64 a,.int .i64 c]]=>some ⟨k,b,n,a,c⟩
 |_=>none
def sT (n:Nat) (F:List TK->TK->PF):Da:=(bM TK (λt=>[.agg t.row]) rdT 0 (λL s _=>Av L n s) F).NF
def FX:List UInt8:=[61]
def Fp:List UInt8:=[59]
def X1:List UInt8:=[101,108,115,101]
def F0:List UInt8:=[119,104,105,108,101]
def G3 (V T:List TK->PF) (L:List TK) (t:TK):PF:=λs=>
 (nd 14 [] 0 t [(V L s).1,(T L (Aw L (V L s).2 FX).2).1],(Aw L (T L (Aw L (V L s).2 FX).2).2 Fp).2)
def NQ (T B:List TK->PF) (L:List TK) (t:TK) (s:RS):PT×RS:=
 if t.text=F0 then(nd 24 [] 0 t [(T L s).1,(B L (T L s).2).1],(B L (T L s).2).2)
 else if Ah L (B L (T L s).2).2 X1=true then(nd 23 [] 0 t [(T L s).1,(B L (T L s).2).1,(B L (Ai (B L (T L s).2).2)).1],(B L (Ai (B L (T L s).2).2)).2)
 else(nd 23 [] 0 t [(T L s).1,(B L (T L s).2).1,nd 12 [] 0 t []],(B L (T L s).2).2)
def HV (T B:List TK->PF) (L:List TK):PF:=λs=>NQ T B L (Aq L s) (Ai s)
structure OH (n:Nat) (V T:List TK->PF):Prop where
 v:AD Tryz.prog 128 (sF n V)
 t:AD Tryz.prog 116 (sF n T)
def y7 (n:Nat) (V T:List TK->PF):Cq:=(128,sF n V)::(116,sF n T)::LZ
theorem Af5 {n:Nat} {V T:List TK->PF} (h:OH n V T):Db Tryz.prog (y7 n V T):=BN h.v (BN h.t MT)
def ZD (n:Nat) (V T:List TK->PF) (h:OH n V T):Ctx:=GM (y7 n V T) (Af5 h)
structure Vy (n:Nat) (T B:List TK->PF):Prop where
 t:AD Tryz.prog 116 (sF (n+1) T)
 b:AD Tryz.prog 63 (sF n B)
def yL (n:Nat) (T B:List TK->PF):Cq:=(116,sF (n+1) T)::(63,sF n B)::LZ
theorem AfU {n:Nat} {T B:List TK->PF} (h:Vy n T B):Db Tryz.prog (yL n T B):=BN h.t (BN h.b MT)
def vf (n:Nat) (T B:List TK->PF) (h:Vy n T B):Ctx:=GM (yL n T B) (AfU h)
structure Hx (L:List TK) (n:Nat) (s:RS):Prop where
 p:Av L (n+1) s
 k:(Aq L s).kind=2
def sB (n:Nat) (F:List TK->PF):Da:=sG (λL s=>Hx L n s) F
theorem sQ {n:Nat} {V T:List TK->PF} (B:GF n 1 2 V) (hT:GF n 1 2 T) (t:TK):GF n 3 4 (λL=>G3 V T L t):=by
 intro L s y;have g:=B L s y;have C:=y.ns;have E:=y.lf;show Cf L 3 4 s (G3 V T L t s);unfold G3;generalize V L s=v at g⊢;have S:=g.am;have R:=g.ss;have O:=g.so;have M:=g.er;have K:=g.ns;have J:=Ih v.1;have f:=G4 (w:=FX) g.ok;generalize(Aw L v.2 FX).2=q at f⊢;have f1:=f.am;have Z:=f.ax;have Y:=f.eo;have W:=f.er;have U:=f.ns;have d:=hT L q ⟨f.ok,by omega,by omega⟩;generalize T L q=r at d⊢;have d1:=d.am;have d2:=d.ss;have d3:=d.so;have d4:=d.er;have d5:=d.ns;have e:=G4 (w:=Fp) d.ok;generalize(Aw L r.2 Fp).2=u at e⊢;have e1:=e.am;have e2:=e.ax;have e3:=e.eo;have e4:=e.er;have e5:=e.ns;refine⟨e.ok,by show u.nest=_;omega,by show _<=u.at_;omega,λz=>⟨by show u.err≠0;omega,by show u.at_=_;omega,?_⟩,?_,λz=>?_⟩
 ·show((sz _:Nat):Int)<=3;rw[JL];omega
 ·show((sz _:Nat):Int)<=3*(u.at_-s.at_)+4;rw[JL];omega
 ·have z:u.err=0:=z;show((sz _:Nat):Int)<=3*(u.at_-s.at_);rw[JL];omega
theorem Zd {n:Nat} {T B:List TK->PF} (hT:GF (n+1) 1 2 T) (J:GF n 1 2 B) {L:List TK} {s:RS} (y:Hx L n s):Cf L 1 2 s (HV T B L s):=by
 have Am:=y.p.ok;have E:=y.p.ns;have V:=y.p.lf;have R:=LL (L:=L) (s:=s) (by rw[y.k];decide);have C:=OK (L:=L) (s:=s) (by rw[y.k];decide);have a1:=FF Am R;unfold HV NQ;have g:=hT L (Ai s) ⟨a1,E,by show(L.length:Int)-(s.at_+1)<_;omega⟩;have U:(Ai s).at_=s.at_+1:=rfl;have S:(Ai s).nest=s.nest:=rfl;generalize Ai s=s1 at g U S⊢;generalize T L s1=x at g⊢;have g1:=g.am;have g2:=g.ss;have g3:=g.so;have Z:=g.ns;have Y:=Ih x.1;have d:=J L x.2 ⟨g.ok,by omega,by omega⟩;generalize B L x.2=b at d⊢;have d1:=d.am;have d2:=d.ss;have d3:=d.so;have d4:=d.er;have d5:=d.ns;have d6:=Ih b.1;split
 ·refine⟨d.ok,by show b.2.nest=_;omega,by show _<=b.2.at_;omega,λz=>absurd C z,?_,λz=>?_⟩
  ·show((sz _:Nat):Int)<=3*(b.2.at_-s.at_)+2;rw[JL];omega
  ·have z:b.2.err=0:=z;show((sz _:Nat):Int)<=3*(b.2.at_-s.at_);rw[JL];omega
 split
 ·rename_i K;have O:=Bb K;have W:=J0 K;have M:=FF d.ok O;have q:=J L (Ai b.2) ⟨M,by show b.2.nest<=64;omega,by show(L.length:Int)-(b.2.at_+1)<_;omega⟩;generalize B L (Ai b.2)=c at q⊢;have c1:b.2.at_+1<=c.2.at_:=q.am;have c2:(sz c.1:Int)<=3*(c.2.at_-(b.2.at_+1))+2:=q.ss;have c3:c.2.err=0->(sz c.1:Int)<=3*(c.2.at_-(b.2.at_+1)):=q.so;have c5:c.2.nest=b.2.nest:=q.ns;refine⟨q.ok,by show c.2.nest=_;omega,by show _<=c.2.at_;omega,λz=>absurd C z,?_,λz=>?_⟩
  ·show((sz _:Nat):Int)<=3*(c.2.at_-s.at_)+2;rw[fW];omega
  ·have z:c.2.err=0:=z;show((sz _:Nat):Int)<=3*(c.2.at_-s.at_);rw[fW];omega
 ·refine⟨d.ok,by show b.2.nest=_;omega,by show _<=b.2.at_;omega,λz=>absurd C z,?_,λz=>?_⟩
  ·show((sz _:Nat):Int)<=3*(b.2.at_-s.at_)+2;rw[fW,Kd];omega
  ·have z:b.2.err=0:=z;show((sz _:Nat):Int)<=3*(b.2.at_-s.at_);rw[fW,Kd];omega
def N8 (a:List TK) (b:RS):=(∃(q:List TK),vK a=vK q/\Az q b/\Nat.le 1 (List.length [(59:UInt8)]))
def Je (a:List TK) (b:RS):=GX a b [(59:UInt8)]
def Mi:=(Ay/\Ab [(59:UInt8)]/\True)
def df (a:List TK) (b:RS) (c:PT×RS):=((∃(q:List TK),vK a=vK q/\Az q b/\Nat.le 1 (List.length [(61:UInt8)]))/\Aa/\Aa/\(Ay/\Ab [(61:UInt8)]/\True)/\EA a c)
theorem Amg:∀(n:Nat) (V T:List TK->PF),OH n V T->∀(L:List TK) (s:RS) (tk:TK) (t:PT×RS),Av L n s->(GB n V)->(GB n T)->t=G3 V T L tk s->(L9 L n s)/\∀(y:PT×RS),y=DI V L s->(df L y.2 y)/\∀(C:TK×RS),C=GX L y.2 [(61:UInt8)]->(L9 L n C.2)/\∀(B:PT×RS),B=DI T L C.2->(Nat.blt 8 11=true/\Aa/\BM 2 λ(i:Nat)=>GD y.1 B.1 i)/\(PW tk)/\((N8 L B.2)/\Aa/\Aa/\Mi/\EA L B)/\∀(J:TK×RS),J=Je L B.2->BO L (vW (A3 (14:Int) [] (0:Int) tk (D5 y.1 B.1))) J.2 t
:=by delta DG CY D5 Ay A8 BO GB GD L9 GX N8 EA GY Je Mi df DI PW;intro n V T Am L s tk t E R hT ht;simp only[A9,D1,Ny,AM,CY];simp only[Dz];have S:=E.ns;have U:=E.lf;refine⟨AN E,λv hv=>?_⟩;have g:=R L s E;rw[<-hv]at g;have Y:=g.am;have W:=g.ns;refine⟨AN ⟨g.ok,by decide⟩,λq K=>?_⟩;have f:=G4 (w:=FX) g.ok;have K:q=Aw L v.2 FX:=K;rw[<-K]at f;have f1:=f.am;have Z:=f.ns;have M:Av L n q.2:=⟨f.ok,by omega,by omega⟩;refine⟨AN M,λr O=>?_⟩;have d:=hT L q.2 M;rw[<-O]at d;have bv:=g.DU E.ok (by decide);have br:=d.DU f.ok (by decide);have key:∀u,u=Aw L r.2 [59]->_:=λu hu=>Td (L:=L) (k:=14) (n:=0) (x:=[]) (tk:=tk) (s:=u.2) (t:=t) (g:=λi=>[vW (flat v.1),vW (flat r.1)].getD i .As) (y:=v.1) (z:=r.1) (rfl:Nat.blt 8 11=true) (by omega) rfl rfl (by rw[ht,hu,O,K,hv];rfl);exact⟨(key _ rfl).1,AN ⟨d.ok,by decide⟩,λu hu=>(key u hu).2⟩
theorem Amf:∀(n:Nat) (V T:List TK->PF) (Am:OH n V T) (L:List TK) (s:RS) (tk:TK) (t:PT×RS),Av L n s->GF n 1 2 V->GF n 1 2 T->t=G3 V T L tk s->(AG (ZD n V T Am) 60).call 114 [.ptr 0 0,.agg tk.row] (AU (A0 [Bm (vK L) s] 0)) 1 (Hc (vK L) t):=Eq.mpr (by kernel_rfl) Amg
def Rl:=[(101:UInt8),108,115,101]
def Ul (a:TK):=Ad (decide (TK.text a=[(119:UInt8),104,105,108,101]))
def Of (a:List TK) (b:Nat) (c:RS):=(∃(q:List TK),vK a=vK q/\Av q (b+1) (DW c))
def UC:=A3 (12:Int) [] (0:Int)
def PK (a:List TK) (b:Nat) (c:RS):=(∃(q:List TK),vK a=vK q/\Av q b c)
def KN (a:PT):=vW (flat a)
theorem AkP:∀(n:Nat) (T B:List TK->PF),Vy n T B->∀(L:List TK) (s:RS) (t:PT×RS),Hx L n s->(Rp n T)->(GB n B)->t=HV T B L s->((D8 L s)/\Aa/\Aa/\(Ay/\True)/\(CY L s)/\True)/\∀(y:TK),y=Ez L s->Dh s (((Of L n s)/\Aa/\Aa/\(Ay/\True)/\(I6 L s)/\True)/\∀(C:PT×RS),C=G1 T L s->((PK L n C.2)/\Aa/\Aa/\(Ay/\True)/\EA L C)/\∀(q:PT×RS),q=DI B L C.2->Ul y ((Nat.blt 9 11=true/\Aa/\BM 2 λ(i:Nat)=>GD C.1 q.1 i)/\BO L (vW (A3 (24:Int) [] (0:Int) y (D5 C.1 q.1))) q.2 t) (((∃(K:List TK),vK L=vK K/\Az K q.2/\Nat.le 1 (List.length Rl))/\Aa/\Aa/\(Ay/\Ab Rl/\True)/\EA L q)/\Ad (Ax (BR L q.2 Rl)) (Dh q.2 ((eU L n q.2)/\∀(E:PT×RS),E=G1 B L q.2->(Nat.blt 17 20=true/\Aa/\BM 3 λ(i:Nat)=>List.getD [KN C.1,KN q.1,KN E.1] i AV.As)/\(A8/\A8/\(GY y)/\(GY y)/\True)/\BO L (vW (A3 (23:Int) [] (0:Int) y (B6 3 λ(i:Nat)=>List.getD [KN C.1,KN q.1,KN E.1] i AV.As))) E.2 t)) ((Nat.blt 16 20=true/\Aa/\BM 3 λ(i:Nat)=>List.getD [KN C.1,KN q.1,vW (UC y [])] i AV.As)/\(BF/\BF/\((True/\DG y/\True)/\True)/\((True/\DG y/\True)/\True)/\True)/\BO L (vW (A3 (23:Int) [] (0:Int) y (B6 3 λ(i:Nat)=>List.getD [KN C.1,KN q.1,vW (UC y [])] i AV.As))) q.2 t)))
:=by
 delta DG DW CY D5 Ay A8 BF I6 BO Dh GB GD D8 BR Rl EA GY Rp Ul Of Ez G1 UC PK KN eU DI;intro n T B Am L s t O hT Z ht;simp only[A9,D1,Ny,AM,CY];simp only[Dz];have Am:=O.p.ok;have S:=O.p.ns;have ab:=O.p.lf;have h0:=Am.a0;have h1:=Am.a1;have aa:=Am.len;have hl:=LL (L:=L) (s:=s) (by rw[O.k];decide);have a1:=FF Am hl;refine⟨AN Am,λy hy=>?_⟩;subst hy;have pa:Av L (n+1) (Ai s):=⟨a1,S,by show(L.length:Int)-(s.at_+1)<_;omega⟩;refine An (Be.2 (by omega)) ⟨AN pa,λx M=>?_⟩;have M:x=T L (Ai s):=M;have g:=hT L (Ai s) pa;rw[<-M]at g;have g1:s.at_+1<=x.2.at_:=g.am;have g5:x.2.nest=s.nest:=g.ns;have U:Av L n x.2:=⟨g.ok,by omega,by omega⟩;refine⟨AN U,λb hb=>?_⟩;have d:=Z L x.2 U;rw[<-hb]at d;have d1:=d.am;have d5:=d.ns;have bx:=g.DU a1 (by decide);have bb:=d.DU g.ok (by decide);have e0:=d.ok.a1;have e1:=d.ok.len;have e2:=d.ok.a0;unfold HV NQ at ht;rw[<-M,<-hb]at ht;refine Aj (λJ=>?_) λJ=>⟨AN ⟨d.ok,by decide⟩,Aj (λR=>?_) λR=>?_⟩
 ·rw[decide_eq_true_eq]at J;rw[if_pos (show(Aq L s).text=F0 from J)]at ht;exact Td rfl (y:=x.1) (z:=b.1) (by omega) rfl rfl ht
 ·rw[decide_eq_false_iff_not]at J;rw[if_neg (show¬(Aq L s).text=F0 from J),if_pos (show Ah L b.2 X1=true from R)]at ht;have l2:=Bb R;have Y:=FF d.ok l2;have W:Av L n (Ai b.2):=⟨Y,by show b.2.nest<=64;omega,by show(L.length:Int)-(b.2.at_+1)<_;omega⟩;refine An (Be.2 (by omega)) ⟨AN W,λc hc=>?_⟩;have hc:c=B L (Ai b.2):=hc;have V:=Z L (Ai b.2) W;rw[<-hc]at V ht;have bc:=V.DU Y (by decide);exact wg rfl (y:=x.1) (z:=b.1) (v:=c.1) (by omega) rfl rfl rfl ht
 ·rw[decide_eq_false_iff_not]at J;rw[if_neg (show¬(Aq L s).text=F0 from J),if_neg (nb (show Ah L b.2 X1=false from R))]at ht;exact wg rfl (y:=x.1) (z:=b.1) (v:=nd 12 [] 0 (Aq L s) []) (by rw[Kd];omega) rfl rfl (by rw[Afy];rfl) ht
theorem AkM:∀(n:Nat) (T B:List TK->PF) (Am:Vy n T B) (L:List TK) (s:RS) (t:PT×RS),Hx L n s->GF (n+1) 1 2 T->GF n 1 2 B->t=HV T B L s->(AG (vf n T B Am) 60).call 115 [.ptr 0 0] (AU (A0 [Bm (vK L) s] 0)) 1 (Hc (vK L) t):=Eq.mpr (by kernel_rfl) AkP
theorem AiB {n:Nat} {V T:List TK->PF} (h:OH n V T) (B:GF n 1 2 V) (hT:GF n 1 2 T):AD Tryz.prog 114 (sT n λL t=>G3 V T L t):=AbC (A:=TK) λL s tk y=>⟨ZD n V T h,60,_,Hc (vK L) (G3 V T L tk s),rfl,AW,Bc,rfl,λr q=>Abj q,Amf n V T h L s tk _ y B hT rfl⟩
theorem AhW {n:Nat} {T B:List TK->PF} (h:Vy n T B) (hT:GF (n+1) 1 2 T) (y:GF n 1 2 B):AD Tryz.prog 115 (sB n (HV T B)):=IH λL s q=>⟨vf n T B h,60,rfl,AW,Bc,λt ht=>AkM n T B h L s t q hT y ht⟩
def G8:List UInt8:=[112,111,115,116]
def R6:List UInt8:=[97,102,116,101,114]
def X2:List UInt8:=[102,114,111,110,116]
def R9:List UInt8:=[116,111]
def Ii (V:List TK->PF) (L:List TK) (k:Int) (x:List UInt8) (n:Int) (t:TK) (y:PT) (s:RS):PT×RS:=
 if Ah L s R9=true then(nd k x n t [y,(V L (Ai s)).1],(V L (Ai s)).2)else(nd k x n t [y],s)
def N0 (T V:List TK->PF) (L:List TK) (t q:TK) (s:RS):PT×RS:=
 if Ah L (T L s).2 R6=true then Ii V L 19 q.text (AB L (Ai (T L s).2) 3).1.num t (T L s).1 (AB L (Ai (T L s).2) 3).2
 else if Ah L (T L s).2 X2=true then Ii V L 19 q.text (-1) t (T L s).1 (Ai (T L s).2)
 else Ii V L 19 q.text 0 t (T L s).1 (T L s).2
def Gd (T V:List TK->PF) (L:List TK):PF:=λs=>
 if(Aq L s).text=G8 then N0 T V L (Aq L s) (AB L (Ai s) 1).1 (AB L (Ai s) 1).2
 else Ii V L 20 [] 0 (Aq L s) (T L (Ai s)).1 (T L (Ai s)).2
theorem fg {n:Nat} {V:List TK->PF} (O:GF n 1 2 V) {L:List TK} {s0 s:RS} {k:Int} {x:List UInt8} {m:Int} {t:TK} {y:PT} (B:Av L n s) (E:s0.err=0) (hn:s.nest=s0.nest) (M:s0.at_<=s.at_) (U:1+(sz y:Int)<=3*(s.at_-s0.at_)):Cf L 1 2 s0 (Ii V L k x m t y s):=by
 have Am:=B.ok;have C:=B.ns;have R:=B.lf;unfold Ii;split
 ·rename_i e;have K:=Bb e;have S:=J0 e;have J:=FF Am K;have q:=O L (Ai s) ⟨J,C,by show(L.length:Int)-(s.at_+1)<_;omega⟩;generalize V L (Ai s)=c at q⊢;have Z:s.at_+1<=c.2.at_:=q.am;have Y:(sz c.1:Int)<=3*(c.2.at_-(s.at_+1))+2:=q.ss;have W:c.2.nest=s.nest:=q.ns;refine⟨q.ok,by show c.2.nest=_;omega,by show _<=c.2.at_;omega,λz=>absurd E z,?_,λz=>?_⟩
  ·show((sz _:Nat):Int)<=3*(c.2.at_-s0.at_)+2;rw[JL];omega
  ·show((sz _:Nat):Int)<=3*(c.2.at_-s0.at_);rw[JL];omega
 ·refine⟨Am,hn,M,λz=>absurd E z,?_,λz=>?_⟩
  ·show((sz _:Nat):Int)<=3*(s.at_-s0.at_)+2;rw[Hs];omega
  ·show((sz _:Nat):Int)<=3*(s.at_-s0.at_);rw[Hs];omega
theorem ff {n:Nat} {V:List TK->PF} (J:GF n 1 2 V) {L:List TK} {s:RS} {k:Int} {x:List UInt8} {m:Int} {tk:TK} {y:PT} {t:PT×RS} (q:Av L n s) (hy:sz y<=300100) (ht:t=Ii V L k x m tk y s) {c d:Bool} (hc:c=true) (hd:d=true): (∃M,vK L=vK M/\Az M s/\1<=([116,111]:List UInt8).length)/\Ad (Ah L s [116,111]) (Ap (Bo .i64 (s.at_+1)) ((∃M,vK L=vK M/\Av M n (Ai s))/\∀v,v=V L (Ai s)-> (c=true/\BM 2 λi=>[vW (flat y),vW (flat v.1)].getD i .As)/\Ir (vK L) (vK L) (vW (A3 k x m tk (B6 2 λi=>[vW (flat y),vW (flat v.1)].getD i .As))) v.2 t)) ((d=true/\BM 1 λi=>[vW (flat y)].getD i .As)/\Ir (vK L) (vK L) (vW (A3 k x m tk (B6 1 λi=>[vW (flat y)].getD i .As))) s t):=by
 have Am:=q.ok;have B:=q.ns;have K:=q.lf;have S:=Am.a0;have R:=Am.a1;have O:=Am.len;unfold Ii at ht;refine⟨AN ⟨Am,by decide⟩,Aj (λe=>?_) λe=>?_⟩
 ·rw[if_pos (show Ah L s R9=true from e)]at ht;have E:=Bb e;have C:=FF Am E;have pa:Av L n (Ai s):=⟨C,B,by show(L.length:Int)-(s.at_+1)<_;omega⟩;refine An (Be.2 (by omega)) ⟨AN pa,λv hv=>?_⟩;have pv:=J L (Ai s) pa;rw[<-hv]at pv ht;have bv:=pv.DU C (by decide);exact Td hc (y:=y) (z:=v.1) (by omega) rfl rfl ht
 ·rw[if_neg (nb (show Ah L s R9=false from e))]at ht;exact OW hd (y:=y) (by omega) rfl ht
theorem dH {n:Nat} {T:List TK->PF} (hT:GF n 1 2 T) {L:List TK} {s0 s:RS} (q:Av L n s) (hn:s.nest=s0.nest) (C:s0.at_+1<=s.at_):Av L n (T L s).2/\(T L s).2.nest=s0.nest/\s0.at_<=(T L s).2.at_/\1+(sz (T L s).1:Int)<=3*((T L s).2.at_-s0.at_)/\sz (T L s).1<=300100:=by have g:=hT L s q;have b:=g.DU q.ok (by decide);have K:=g.am;have J:=g.ss;have E:=g.ns;have y:=q.ns;have B:=q.lf;exact⟨⟨g.ok,by omega,by omega⟩,by omega,by omega,by omega,b⟩
theorem dI {n:Nat} {T V:List TK->PF} (hT:GF (n+1) 1 2 T) (M:GF (n+1) 1 2 V) {L:List TK} {s:RS} (C:Hx L n s):Cf L 1 2 s (Gd T V L s):=by
 have Am:=C.p.ok;have R:=C.p.ns;have aa:=C.p.lf;have W:=LL (L:=L) (s:=s) (by rw[C.k];decide);have K:=OK (L:=L) (s:=s) (by rw[C.k];decide);have a1:=FF Am W;unfold Gd;split
 ·have f:=Gu (k:=1) a1 (by decide);unfold N0;generalize(AB L (Ai s) 1)=q at f⊢;have Z:s.at_+1<=q.2.at_:=f.am;have Y:q.2.nest=s.nest:=f.ns;obtain⟨y,B,J,E,S⟩:=dH (s0:=s) hT (s:=q.2) ⟨f.ok,by omega,by omega⟩ Y Z;generalize T L q.2=x at y B J E S⊢;have U:=y.ns;have y2:=y.lf;split
  ·rename_i e;have O:=FF y.ok (Bb e);have u:=Gu (k:=3) O (by decide);have u1:x.2.at_+1<=(AB L (Ai x.2) 3).2.at_:=u.am;have u5:(AB L (Ai x.2) 3).2.nest=x.2.nest:=u.ns;exact fg M ⟨u.ok,by omega,by omega⟩ K (by omega) (by omega) (by omega)
  split
  ·rename_i e;have O:=FF y.ok (Bb e);exact fg M ⟨O,U,by show(L.length:Int)-(x.2.at_+1)<_;omega⟩ K B (by show _<=x.2.at_+1;omega) (by show _<=3*(x.2.at_+1-_);omega)
  ·exact fg M y K B J E
 ·obtain⟨y,B,J,E,S⟩:=dH (s0:=s) hT (s:=Ai s) ⟨a1,R,by show(L.length:Int)-(s.at_+1)<_;omega⟩ rfl (Int.le_refl _);exact fg M y K B J E
@[reducible] def Sw:List TK->TK×RS->Prop:=λ(L:List TK) (a:TK×RS)=>(CY L a.2)/\True
@[reducible] def Yx:List TK->PT×RS->Prop:=λ(L:List TK) (a:PT×RS)=>(I6 L a.2)/\True
def J5:=[(116:UInt8),111]
def Xy:=Nat.le 1 (List.length J5)
@[reducible] def iN:List TK->PT×RS->Prop:=λ(L:List TK) (a:PT×RS)=>(∃(q:List TK),vK L=vK q/\Az q a.2/\Xy)/\Aa/\Aa/\(Ay/\Ab J5/\True)/\EA L a
@[reducible] def iO:Nat->List TK->PT×RS->Prop:=λ(n:Nat) (L:List TK) (a:PT×RS)=>(Of L n a.2)/\Aa/\Aa/\(Ay/\True)/\Yx L a
def Ra:=[(102:UInt8),114,111,110,116]
def Rb:=[(97:UInt8),102,116,101,114]
def RB (a:TK):=A3 (19:Int) (DC a)
def pz (a:RS):=RS.mk (RS.at_ a+1+1) (RS.nest a) (RS.err a) (RS.Bp a)
def eR (a:TK):=Ad (decide (TK.text a=[(112:UInt8),111,115,116]))
theorem Al2:∀(n:Nat) (V T:List TK->PF),OH (n+1) V T->∀(L:List TK) (s:RS) (t:PT×RS),Hx L n s->(Rp n V)->(Rp n T)->t=Gd T V L s->((D8 L s)/\Aa/\Aa/\(Ay/\True)/\(CY L s)/\True)/\∀(y:TK),y=Ez L s->Dh s (eR y (((Pz L s)/\Aa/\Aa/\KJ/\Mk L s)/\∀(C:TK×RS),C=Me L s->((Nf L n C.2)/\Aa/\Aa/\(Ay/\True)/\Sw L C)/\∀(B:PT×RS),B=DI T L C.2->((∃(J:List TK),vK L=vK J/\Az J B.2/\Nat.le 1 (List.length Rb))/\Aa/\Aa/\(Ay/\Ab Rb/\True)/\EA L B)/\Ad (Ax (BR L B.2 Rb)) (Dh B.2 (((∃(J:List TK),vK L=vK J/\Az J (DW B.2)/\((3:Int)=(0:Int)->False))/\Aa/\Aa/\(Ay/\(Aa/\Ab (3:Int))/\True)/\Yx L B)/\∀(E:TK×RS),E=AB (kL (vK L)) (DW B.2) (3:Int)->((∃(J:List TK),vK L=vK J/\Az J E.2/\Xy)/\Aa/\Aa/\(Ay/\Ab J5/\True)/\Sw L E)/\Ad (Ax (BR L E.2 J5)) (Dh E.2 (((Of L n E.2)/\Aa/\Aa/\(Ay/\True)/\(I6 L E.2)/\True)/\∀(M:PT×RS),M=G1 V L E.2->(Nat.blt 15 17=true/\Aa/\BM 2 λ(i:Nat)=>GD B.1 M.1 i)/\BO L (vW (RB C.1 (TK.num E.1) y (D5 B.1 M.1))) M.2 t)) ((Nat.blt 7 13=true/\Aa/\BM 1 λ(i:Nat)=>Ge B.1 i)/\BO L (vW (RB C.1 (TK.num E.1) y (Eu B.1))) E.2 t))) (((∃(J:List TK),vK L=vK J/\Az J B.2/\Nat.le 1 (List.length Ra))/\Aa/\Aa/\(Ay/\Ab Ra/\True)/\EA L B)/\Ad (Ax (BR L B.2 Ra)) (Dh B.2 (((∃(J:List TK),vK L=vK J/\Az J (DW B.2)/\Xy)/\Aa/\Aa/\(Ay/\Ab J5/\True)/\Yx L B)/\Ad (Ax (BR L (DW B.2) J5)) (Ap (Bo .i64 (RS.at_ B.2+1+1)) (((∃(J:List TK),vK L=vK J/\Av J (n+1) (pz B.2))/\Aa/\Aa/\(Ay/\True)/\(Aa/\Aa/\Aa/\(((FP L/\Aa/\Ab (RS.at_ B.2+1+1))/\Aa/\Ab (RS.nest B.2))/\Aa/\Ab (RS.err B.2))/\Aa/\Ho B.2)/\True)/\∀(E:PT×RS),E=V (kL (vK L)) (pz B.2)->(Nat.blt 15 17=true/\Aa/\BM 2 λ(i:Nat)=>GD B.1 E.1 i)/\BO L (vW (RB C.1 (Int.negSucc 0) y (D5 B.1 E.1))) E.2 t)) ((Nat.blt 7 13=true/\Aa/\BM 1 λ(i:Nat)=>Ge B.1 i)/\BO L (vW (RB C.1 (Int.negSucc 0) y (Eu B.1))) (DW B.2) t))) (iN L B/\Ad (Ax (BR L B.2 J5)) (Dh B.2 (iO n L B/\∀(E:PT×RS),E=G1 V L B.2->(Nat.blt 14 16=true/\Aa/\BM 2 λ(i:Nat)=>GD B.1 E.1 i)/\BO L (vW (RB C.1 (0:Int) y (D5 B.1 E.1))) E.2 t)) ((Nat.blt 7 12=true/\Aa/\BM 1 λ(i:Nat)=>Ge B.1 i)/\BO L (vW (RB C.1 (0:Int) y (Eu B.1))) B.2 t)))) (((Of L n s)/\Aa/\Aa/\(Ay/\True)/\Mk L s)/\∀(C:PT×RS),C=G1 T L s->iN L C/\Ad (Ax (BR L C.2 J5)) (Dh C.2 (iO n L C/\∀(B:PT×RS),B=G1 V L C.2->(Nat.blt 11 13=true/\Aa/\BM 2 λ(i:Nat)=>GD C.1 B.1 i)/\BO L (vW (A3 (20:Int) [] (0:Int) y (D5 C.1 B.1))) B.2 t)) ((Nat.blt 6 9=true/\Aa/\BM 1 λ(i:Nat)=>Ge C.1 i)/\BO L (vW (A3 (20:Int) [] (0:Int) y (Eu C.1))) C.2 t)))
:=by
 delta DW CY D5 Ay Eu I6 BO Dh Ge GD D8 BR J5 Ra Rb EA Pz KJ Rp DC Of Me Ez G1 Nf FP RB pz eR Ho Mk DI Xy;intro n V T Am L s t Y Z hT ht;simp only[A9,D1,Ny,Sw,Yt,Yx,iN,iO,AM,CY,I6,Ay,J5,EA,Xy,DW,Of];simp only[Dz];have Am:=Y.p.ok;have aa:=Y.p.ns;have ad:=Y.p.lf;have h0:=Am.a0;have h1:=Am.a1;have ab:=Am.len;have hl:=LL (L:=L) (s:=s) (by rw[Y.k];decide);have a1:=FF Am hl;unfold Gd at ht;refine⟨AN Am,λy hy=>An (Be.2 (by omega)) ?_⟩;subst hy;refine Aj (λU=>?_) λU=>?_
 ·rw[decide_eq_true_eq]at U;rw[if_pos (show(Aq L s).text=G8 from U)]at ht;refine⟨AN ⟨a1,λh=>by cases h⟩,λq hq=>?_⟩;have hq:q=AB L (Ai s) 1:=hq;have f:=Gu (k:=1) a1 (by decide);rw[<-hq]at f ht;have f1:s.at_+1<=q.2.at_:=f.am;have f5:q.2.nest=s.nest:=f.ns;have pq:Av L (n+1) q.2:=⟨f.ok,by omega,by omega⟩;refine⟨AN pq,λx R=>?_⟩;obtain⟨K,x2,x3,x4,O⟩:=dH (s0:=s) hT pq f5 f1;unfold N0 at ht;rw[<-R]at K x2 x3 x4 O ht;have y1:=K.ns;have y2:=K.lf;have y3:=K.ok.a0;have y4:=K.ok.a1;refine⟨AN ⟨K.ok,by decide⟩,Aj (λS=>?_) λS=>⟨AN ⟨K.ok,by decide⟩,Aj (λc3=>?_) λc3=>?_⟩⟩
  ·rw[if_pos (show Ah L x.2 R6=true from S)]at ht;have W:=FF K.ok (Bb S);refine An (Be.2 (by omega)) ⟨AN ⟨W,λh=>by cases h⟩,λu hu=>?_⟩;have hu:u=AB L (Ai x.2) 3:=hu;have f2:=Gu (k:=3) W (by decide);rw[<-hu]at f2 ht;have u1:x.2.at_+1<=u.2.at_:=f2.am;have u5:u.2.nest=x.2.nest:=f2.ns;exact ff Z ⟨f2.ok,by omega,by omega⟩ O ht rfl rfl
  ·rw[if_neg (nb (show Ah L x.2 R6=false from S)),if_pos (show Ah L x.2 X2=true from c3)]at ht;have W:=FF K.ok (Bb c3);exact An (Be.2 (by omega)) (ff Z (s:=Ai x.2) ⟨W,y1,by show(L.length:Int)-(x.2.at_+1)<_;omega⟩ O ht rfl rfl)
  ·rw[if_neg (nb (show Ah L x.2 R6=false from S)),if_neg (nb (show Ah L x.2 X2=false from c3))]at ht;exact ff Z K O ht rfl rfl
 ·rw[decide_eq_false_iff_not]at U;rw[if_neg (show¬(Aq L s).text=G8 from U)]at ht;have pa:Av L (n+1) (Ai s):=⟨a1,aa,by show(L.length:Int)-(s.at_+1)<_;omega⟩;refine⟨AN pa,λx R=>?_⟩;have R:x=T L (Ai s):=R;obtain⟨K,x2,x3,x4,O⟩:=dH (s0:=s) hT (s:=Ai s) pa rfl (Int.le_refl _);rw[<-R]at K x2 x3 x4 O ht;exact ff Z K O ht rfl rfl
theorem AlZ:∀(n:Nat) (V T:List TK->PF) (Am:OH (n+1) V T) (L:List TK) (s:RS) (t:PT×RS),Hx L n s->GF (n+1) 1 2 V->GF (n+1) 1 2 T->t=Gd T V L s->(AG (ZD (n+1) V T Am) 60).call 117 [.ptr 0 0] (AU (A0 [Bm (vK L) s] 0)) 1 (Hc (vK L) t):=Eq.mpr (by kernel_rfl) Al2
theorem Ais {n:Nat} {T V:List TK->PF} (h:OH (n+1) V T) (hT:GF (n+1) 1 2 T) (y:GF (n+1) 1 2 V):AD Tryz.prog 117 (sB n (Gd T V)):=IH λL s q=>⟨ZD (n+1) V T h,60,rfl,AW,Bc,λt ht=>AlZ n V T h L s t q y hT ht⟩
def Io:List UInt8:=[105,102]
def FY:List UInt8:=[118,97,114]
def Ht:List UInt8:=[99,97,108,108]
def Hu:List UInt8:=[99,97,110,99,101,108]
def Hv:List UInt8:=[106,111,105,110]
def Hw:List UInt8:=[108,111,103]
def Iq:List UInt8:=[115,112,97,119,110]
def Im:List UInt8:=[101,110,97,98,108,101]
def Il:List UInt8:=[100,105,115,97,98,108,101]
def Ip:List UInt8:=[114,101,116,117,114,110]
def C4 (L:List TK) (r:PT×RS):PT×RS:=(r.1,(Aw L r.2 Fp).2)
def R3 (T:List TK->PF) (L:List TK) (t:TK) (k:TK×RS):PT×RS:=(nd 13 k.1.text 0 t [(B9 L k.2).1,(T L (Aw L (B9 L k.2).2 FX).2).1],(T L (Aw L (B9 L k.2).2 FX).2).2)
def Iy (T:List TK->PF) (L:List TK) (k:Int) (t:TK) (s:RS):PT×RS:=(nd k [] 0 t [(T L s).1],(T L s).2)
def KB (L:List TK) (k:Int) (t:TK) (s:RS):PT×RS:=(nd k (AB L s 1).1.text 0 t [],(AB L s 1).2)
def CK (Se:List TK->TK->PF) (Br Po T:List TK->PF) (L:List TK):PF:=λs=>
 if(Aq L s).kind≠2 then Se L (Aq L s) s
 else if(Aq L s).text=Io then Br L s
 else if(Aq L s).text=F0 then Br L s
 else if(Aq L s).text=FY then C4 L (R3 T L (Aq L s) (AB L (Ai s) 1))
 else if(Aq L s).text=Ht then C4 L (Iy T L 15 (Aq L s) (Ai s))
 else if(Aq L s).text=Hu then C4 L (Iy T L 16 (Aq L s) (Ai s))
 else if(Aq L s).text=Hv then C4 L (Iy T L 17 (Aq L s) (Ai s))
 else if(Aq L s).text=Hw then C4 L (Iy T L 18 (Aq L s) (Ai s))
 else if(Aq L s).text=G8 then C4 L (Po L s)
 else if(Aq L s).text=Iq then C4 L (Po L s)
 else if(Aq L s).text=Im then C4 L (KB L 21 (Aq L s) (Ai s))
 else if(Aq L s).text=Il then C4 L (KB L 22 (Aq L s) (Ai s))
 else if(Aq L s).text=Ip then C4 L (nd 25 [] 0 (Aq L s) [],Ai s)
 else Se L (Aq L s) s
structure VI (n:Nat) (Se:List TK->TK->PF) (Br Po T:List TK->PF):Prop where
 s:AD Tryz.prog 114 (sT (n+1) Se)
 b:AD Tryz.prog 115 (sB n Br)
 p:AD Tryz.prog 117 (sB n Po)
 t:AD Tryz.prog 116 (sF (n+1) T)
def y9 (n:Nat) (Se:List TK->TK->PF) (Br Po T:List TK->PF):Cq:=(114,sT (n+1) Se)::(115,sB n Br)::(117,sB n Po)::(116,sF (n+1) T)::LZ
theorem Af7 {n:Nat} {Se:List TK->TK->PF} {Br Po T:List TK->PF} (h:VI n Se Br Po T):Db Tryz.prog (y9 n Se Br Po T):=BN h.s (BN h.b (BN h.p (BN h.t MT)))
def wL (n:Nat) (Se:List TK->TK->PF) (Br Po T:List TK->PF) (h:VI n Se Br Po T):Ctx:=GM (y9 n Se Br Po T) (Af7 h)
structure GS (n:Nat) (Se:List TK->TK->PF) (Br Po T:List TK->PF):Prop where
 s:∀t,GF (n+1) 3 4 λL=>Se L t
 b:∀L s,Hx L n s->Cf L 1 2 s (Br L s)
 p:∀L s,Hx L n s->Cf L 1 2 s (Po L s)
 t:GF (n+1) 1 2 T
theorem Eo {α:Type} {P:α->Prop} {p:Prop} [Decidable p] {a b:α} (y:p->P a) (q:¬p->P b):P (if p then a else b):=by
 by_cases h:p
 ·rw[if_pos h];exact y h
 ·rw[if_neg h];exact q h
theorem Aa3 {L:List TK} {E C q y:Int} {s:RS} {r:PT×RS} (h:Cf L E C s r) (B:E<=q) (hc:C<=y):Cf L q y s r:=⟨h.ok,h.ns,h.am,λz=>⟨(h.er z).1,(h.er z).2.1,by have:=(h.er z).2.2;omega⟩,by have:=h.ss;omega,h.so⟩
theorem XO {L:List TK} {E C:Int} {s:RS} {r:PT×RS} (h:Cf L E C s r):Cf L E C s (C4 L r):=by have e:=G4 (w:=Fp) h.ok;unfold C4;generalize(Aw L r.2 Fp).2=u at e⊢;have U:=e.am;have S:=e.ax;have R:=e.eo;have O:=e.er;have M:=e.ns;have K:=h.am;have J:=h.ss;have B:=h.so;have q:=h.er;have y:=h.ns;exact⟨e.ok,by show u.nest=_;omega,by show _<=u.at_;omega,λz=>⟨by show u.err≠0;omega,by show u.at_=_;omega,(q z).2.2⟩,by show(sz r.1:Int)<=3*(u.at_-_)+C;omega,λz=>by have z:u.err=0:=z;show(sz r.1:Int)<=3*(u.at_-_);omega⟩
theorem Ajd {n:Nat} {T:List TK->PF} (hT:GF n 1 2 T) {L:List TK} {s0 s:RS} {k:Int} {t:TK} (q:Av L n s) (y:s0.err=0) (hn:s.nest=s0.nest) (B:s0.at_+1<=s.at_):Cf L 3 4 s0 (Iy T L k t s):=by
 have g:=hT L s q;unfold Iy;generalize T L s=x at g⊢;have K:=g.am;have J:=g.ss;have E:=g.so;have C:=g.ns;refine⟨g.ok,by show x.2.nest=_;omega,by show _<=x.2.at_;omega,λz=>absurd y z,?_,λz=>?_⟩
 ·show((sz _:Nat):Int)<=3*(x.2.at_-s0.at_)+4;rw[Hs];omega
 ·show((sz _:Nat):Int)<=3*(x.2.at_-s0.at_);rw[Hs];omega
theorem Ahy {L:List TK} {s0 s:RS} {k:Int} {t:TK} (h:Az L s) (y:s0.err=0) (hn:s.nest=s0.nest) (B:s0.at_+1<=s.at_):Cf L 3 4 s0 (KB L k t s):=by
 have f:=Gu (k:=1) h (by decide);unfold KB;generalize(AB L s 1)=q at f⊢;have E:=f.am;have C:=f.ns;refine⟨f.ok,by show q.2.nest=_;omega,by show _<=q.2.at_;omega,λz=>absurd y z,?_,λz=>?_⟩
 ·show((sz _:Nat):Int)<=3*(q.2.at_-s0.at_)+4;rw[Kd];omega
 ·show((sz _:Nat):Int)<=3*(q.2.at_-s0.at_);rw[Kd];omega
theorem AcQ {n:Nat} {T:List TK->PF} (hT:GF n 1 2 T) {L:List TK} {s0:RS} {t:TK} {k:TK×RS} (B:Av L n k.2) (E:s0.err=0) (hn:k.2.nest=s0.nest) (M:s0.at_+1<=k.2.at_):Cf L 1 1 k.2 (B9 L k.2)/\Av L n (Aw L (B9 L k.2).2 FX).2/\Cf L 3 4 s0 (R3 T L t k):=by
 have g:=Qb (L:=L) (s:=k.2) B.ok;have K:=B.ns;have J:=B.lf;unfold R3;generalize B9 L k.2=y at g⊢;have W:=g.am;have V:=g.ss;have U:=g.so;have R:=g.ns;have S:=g.er;have O:=Ih y.1;have f:=G4 (w:=FX) g.ok;generalize(Aw L y.2 FX).2=q at f⊢;have f1:=f.am;have f2:=f.ax;have f3:=f.eo;have Z:=f.er;have Y:=f.ns;have C:Av L n q:=⟨f.ok,by omega,by omega⟩;have d:=hT L q C;generalize T L q=x at d⊢;have d1:=d.am;have d2:=d.ss;have d3:=d.so;have d5:=d.ns;have d4:=d.er;have d6:=Ih x.1;refine⟨g,C,d.ok,by show x.2.nest=_;omega,by show _<=x.2.at_;omega,λz=>absurd E z,?_,λz=>?_⟩
 ·show((sz _:Nat):Int)<=3*(x.2.at_-s0.at_)+4;rw[JL];omega
 ·have z:x.2.err=0:=z;show((sz _:Nat):Int)<=3*(x.2.at_-s0.at_);rw[JL];omega
theorem sX {n:Nat} {Se:List TK->TK->PF} {Br Po T:List TK->PF} (h:GS n Se Br Po T):GF (n+1) 3 4 (CK Se Br Po T):=by
 intro L s q;have Am:=q.ok;have E:=q.ns;have U:=q.lf;unfold CK;refine Eo (P:=Cf L 3 4 s) (λ_=>h.s _ L s q) λy=>?_;have y:(Aq L s).kind=2:=by omega
 have O:=LL (L:=L) (s:=s) (by rw[y];decide);have C:=OK (L:=L) (s:=s) (by rw[y];decide);have a1:=FF Am O;have pa:Av L (n+1) (Ai s):=⟨a1,E,by show(L.length:Int)-(s.at_+1)<_;omega⟩;have B:∀k,Cf L 3 4 s (C4 L (Iy T L k (Aq L s) (Ai s))):=λk=>XO (Ajd h.t pa C rfl (Int.le_refl _));have M:∀k,Cf L 3 4 s (C4 L (KB L k (Aq L s) (Ai s))):=λk=>XO (Ahy a1 C rfl (Int.le_refl _));have K:=Aa3 (h.b L s ⟨q,y⟩) (show(1:Int)<=3 by decide) (show(2:Int)<=4 by decide);have J:=XO (Aa3 (h.p L s ⟨q,y⟩) (show(1:Int)<=3 by decide) (show(2:Int)<=4 by decide));have f:=Gu (k:=1) a1 (by decide);have S:s.at_+1<=(AB L (Ai s) 1).2.at_:=f.am;have R:(AB L (Ai s) 1).2.nest=s.nest:=f.ns;exact Eo (λ_=>K) λ_=>Eo (λ_=>K) λ_=>Eo (λ_=>XO (AcQ h.t ⟨f.ok,by omega,by omega⟩ C R S).2.2) λ_=>Eo (λ_=>B 15) λ_=>Eo (λ_=>B 16) λ_=>Eo (λ_=>B 17) λ_=>
  Eo (λ_=>B 18) λ_=>Eo (λ_=>J) λ_=>Eo (λ_=>J) λ_=>Eo (λ_=>M 21) λ_=>Eo (λ_=>M 22) λ_=>Eo (λ_=>XO (Xa Am O C (by decide))) λ_=>h.s _ L s q
theorem cu {n:Nat} {T:List TK->PF} (hT:GF n 1 2 T) {L:List TK} {s:RS} {k:Int} {tk:TK} {t:PT×RS} (q:Av L n s) (ht:t=C4 L (Iy T L k tk s)) {c:Bool} (hc:c=true): (∃M,vK L=vK M/\Av M n s)/\∀y,y=T L s->(c=true/\BM 1 λi=>[vW (flat y.1)].getD i .As)/\(∃M,vK L=vK M/\Az M y.2/\1<=([59]:List UInt8).length)/\ ∀z,z=Aw L y.2 [59]->Ir (vK L) (vK L) (vW (A3 k [] 0 tk (B6 1 λi=>[vW (flat y.1)].getD i .As))) z.2 t:=by refine⟨AN q,λy hy=>?_⟩;have g:=hT L s q;rw[<-hy]at g;have b:=g.DU q.ok (by decide);have key:∀z,z=Aw L y.2 [59]->_:=λz hz=>OW (L:=L) (k:=k) (n:=0) (x:=[]) (tk:=tk) (s:=z.2) (t:=t) (y:=y.1) (g:=λi=>[vW (flat y.1)].getD i .As) hc (by omega) rfl (by rw[ht,hz,hy];rfl);exact⟨(key _ rfl).1,AN ⟨g.ok,by decide⟩,λz hz=>(key z hz).2⟩
theorem Aao {L:List TK} {s:RS} {k:Int} {tk:TK} {t:PT×RS} (h:Az L s) (ht:t=C4 L (KB L k tk s)):(∃M,vK L=vK M/\Az M s/\((1:Int)=0->False))/\∀y,y=AB L s 1->(∃M,vK L=vK M/\Az M y.2/\1<=([59]:List UInt8).length)/\ ∀z,z=Aw L y.2 [59]->Ir (vK L) (vK L) (vW (A3 k y.1.text 0 tk [])) z.2 t:=by refine⟨AN ⟨h,λh=>by cases h⟩,λy hy=>?_⟩;have f:=Gu (k:=1) h (by decide);rw[<-hy]at f;exact⟨AN ⟨f.ok,by decide⟩,λz hz=>MJ (by rw[ht,hz,hy];rfl)⟩
@[reducible] def Sx:TK->Prop:=λ(a:TK)=>A8/\A8/\(GY a)/\True
@[reducible] def iP:TK->Prop:=λ(a:TK)=>(GY a)/\A8/\A8/\True
@[reducible] def iU:Nat->List TK->RS->Prop:=λ(n:Nat) (L:List TK) (s:RS)=>(∃(q:List TK),vK L=vK q/\Hx q n s)/\Sv L s
@[reducible] def iV:List TK->TK×RS->Prop:=λ(L:List TK) (a:TK×RS)=>Aa/\Aa/\(Ay/\True)/\Sw L a
@[reducible] def iQ:Nat->(List TK->PF)->List TK->RS->PT×RS->Prop:=λ(n:Nat) (Br:List TK->PF) (L:List TK) (s:RS) (t:PT×RS)=>iU n L s/\∀(y:PT×RS),y=DI Br L s->Gf L y.1 y.2 t
@[reducible] def VP:Nat->List TK->RS->Prop:=λ(n:Nat) (L:List TK) (s:RS)=>(Of L n s)/\Aa/\Aa/\(Ay/\True)/\Mk L s
@[reducible] def iR:List TK->TK×RS->Prop:=λ(L:List TK) (a:TK×RS)=>(N8 L a.2)/\Aa/\Aa/\Mi/\Sw L a
@[reducible] def tg:List TK->PT×RS->Prop:=λ(L:List TK) (a:PT×RS)=>(N8 L a.2)/\Aa/\Aa/\Mi/\EA L a
@[reducible] def Yy:List TK->RS->Prop:=λ(L:List TK) (s:RS)=>(Pz L s)/\Aa/\Aa/\KJ/\Mk L s
@[reducible] def iS:Nat->(List TK->TK->PF)->List TK->RS->PT×RS->TK->Prop:=λ(n:Nat) (Se:List TK->TK->PF) (L:List TK) (s:RS) (t:PT×RS) (a:TK)=>((Nf L n s)/\Aa/\Aa/\(Ay/\((Aa/\Ab (TK.kind a))/\Ab (TK.text a)/\(Aa/\Ab (TK.num a))/\(Aa/\Ab (TK.line a))/\(Aa/\Ab (TK.Ag a))/\True)/\True)/\CP L s)/\∀(y:PT×RS),y=Se (kL (vK L)) a s->Gf L y.1 y.2 t
def PV (a:List TK):=tg a
@[reducible] def iT:Nat->(List TK->PF)->List TK->RS->PT×RS->Prop:=λ(n:Nat) (Po:List TK->PF) (L:List TK) (s:RS) (t:PT×RS)=>iU n L s/\∀(y:PT×RS),y=DI Po L s->PV L y/\∀(q:TK×RS),q=Je L y.2->Gf L y.1 q.2 t
def Rn (a:PT):=(Nat.blt 8 11=true/\Aa/\BM 1 λ(q:Nat)=>Ge a q)
def Uv (a:TK):=Ad (decide (TK.text a=[(118:UInt8),97,114]))
theorem Amq:∀(n:Nat) (Se:List TK->TK->PF) (Br Po T:List TK->PF),VI n Se Br Po T->∀(L:List TK) (s:RS) (t:PT×RS),Av L (n+1) s->GS n Se Br Po T->t=CK Se Br Po T L s->((D8 L s)/\Sv L s)/\∀(y:TK),y=Ez L s->Ad (!Ak (TK.kind y) (2:Int)) (iS n Se L s t y) (Ad (decide (TK.text y=[(105:UInt8),102])) (iQ n Br L s t) (Ul y (iQ n Br L s t) (Uv y (Dh s (Yy L s/\∀(B:TK×RS),B=Me L s->((D8 L B.2)/\iV L B)/\∀(E:PT×RS),E=B9 (kL (vK L)) B.2->(df L E.2 E)/\∀(R:TK×RS),R=GX L E.2 [(61:UInt8)]->((Nf L n R.2)/\iV L R)/\∀(O:PT×RS),O=DI T L R.2->(PI E.1 O.1)/\Sx y/\PV L O/\∀(U:TK×RS),U=Je L O.2->BO L (vW (A3 (13:Int) (DC B.1) (0:Int) y (D5 E.1 O.1))) U.2 t)) (Ad (decide (TK.text y=[(99:UInt8),97,108,108])) (Dh s (VP n L s/\∀(B:PT×RS),B=G1 T L s->(Rn B.1)/\Sx y/\PV L B/\∀(E:TK×RS),E=Je L B.2->BO L (vW (A3 (15:Int) [] (0:Int) y (Eu B.1))) E.2 t)) (Ad (decide (TK.text y=[(99:UInt8),97,110,99,101,108])) (Dh s (VP n L s/\∀(B:PT×RS),B=G1 T L s->(Rn B.1)/\Sx y/\PV L B/\∀(E:TK×RS),E=Je L B.2->BO L (vW (A3 (16:Int) [] (0:Int) y (Eu B.1))) E.2 t)) (Ad (decide (TK.text y=[(106:UInt8),111,105,110])) (Dh s (VP n L s/\∀(B:PT×RS),B=G1 T L s->(Rn B.1)/\Sx y/\PV L B/\∀(E:TK×RS),E=Je L B.2->BO L (vW (A3 (17:Int) [] (0:Int) y (Eu B.1))) E.2 t)) (Ad (decide (TK.text y=[(108:UInt8),111,103])) (Dh s (VP n L s/\∀(B:PT×RS),B=G1 T L s->(Rn B.1)/\Sx y/\PV L B/\∀(E:TK×RS),E=Je L B.2->BO L (vW (A3 (18:Int) [] (0:Int) y (Eu B.1))) E.2 t)) (eR y (iT n Po L s t) (Ad (decide (TK.text y=[(115:UInt8),112,97,119,110])) (iT n Po L s t) (Ad (decide (TK.text y=[(101:UInt8),110,97,98,108,101])) (Dh s (Yy L s/\∀(B:TK×RS),B=Me L s->iP y/\iR L B/\∀(E:TK×RS),E=Je L B.2->BO L (vW (A3 (21:Int) (DC B.1) (0:Int) y [])) E.2 t)) (Ad (decide (TK.text y=[(100:UInt8),105,115,97,98,108,101])) (Dh s (Yy L s/\∀(B:TK×RS),B=Me L s->iP y/\iR L B/\∀(E:TK×RS),E=Je L B.2->BO L (vW (A3 (22:Int) (DC B.1) (0:Int) y [])) E.2 t)) (Ad (decide (TK.text y=[(114:UInt8),101,116,117,114,110])) (Dh s (((∃(V:List TK),vK L=vK V/\Az V (DW s)/\Nat.le 1 (List.length [(59:UInt8)]))/\Aa/\Aa/\Mi/\Mk L s)/\∀(B:TK×RS),B=GX L (DW s) [(59:UInt8)]->BO L (vW (A3 (25:Int) [] (0:Int) y [])) B.2 t)) (iS n Se L s t y)))))))))))))
:=by
 delta DW D5 Ay Eu BO Dh Ge GD D8 GX EA Rn DC Ul Me Ez G1 Je Mi Nf PI Uv df eR Mk DI PV;intro n Se Br Po T Am L s t M S ht;simp only[A9,Sx,iP,D1,Kk,Ny,Yt,Sw,Sv,iU,iV,iQ,VP,iR,tg,Yy,iS,iT,DG,A8,GY,AM,CY,I6,Ay,CP,BO,Gf,DI,DW,Of,Mk,N8,Mi,EA,Pz,KJ,Nf,GX,Je,PV];simp only[Dz];have Am:=M.ok;have aa:=M.ns;have ad:=M.lf;have h0:=Am.a0;have h1:=Am.a1;have ab:=Am.len;refine⟨AN Am,λy hy=>?_⟩;subst hy;unfold CK at ht;refine Aj (λK=>?_) λK=>?_
 ·rw[Bool.not_eq_true',BU]at K;rw[if_pos K]at ht;exact⟨AN M,λy hy=>HZ (ht.trans hy.symm)⟩
 rw[Bool.not_eq_false',BL]at K;rw[if_neg (λe=>e K)]at ht;have hl:=LL (L:=L) (s:=s) (by rw[K];decide);have a1:=FF Am hl;have J:Bo IntKind.i64 (s.at_+1)=true:=Be.2 (by omega);have pa:Av L (n+1) (Ai s):=⟨a1,aa,by show(L.length:Int)-(s.at_+1)<_;omega⟩;refine Aj (λC=>?_) λC=>?_
 ·rw[decide_eq_true_eq]at C;rw[if_pos (show(Aq L s).text=Io from C)]at ht;exact⟨AN ⟨M,K⟩,λy hy=>HZ (ht.trans hy.symm)⟩
 rw[decide_eq_false_iff_not]at C;rw[if_neg (show¬(Aq L s).text=Io from C)]at ht;refine Aj (λC=>?_) λC=>?_
 ·rw[decide_eq_true_eq]at C;rw[if_pos (show(Aq L s).text=F0 from C)]at ht;exact⟨AN ⟨M,K⟩,λy hy=>HZ (ht.trans hy.symm)⟩
 rw[decide_eq_false_iff_not]at C;rw[if_neg (show¬(Aq L s).text=F0 from C)]at ht;refine Aj (λC=>?_) λC=>?_
 ·rw[decide_eq_true_eq]at C;rw[if_pos (show(Aq L s).text=FY from C)]at ht;refine An J ⟨AN ⟨a1,λh=>by cases h⟩,λk Y=>?_⟩;have Y:k=AB L (Ai s) 1:=Y;have f:=Gu (k:=1) a1 (by decide);rw[<-Y]at f ht;have f1:s.at_+1<=k.2.at_:=f.am;have f5:k.2.nest=s.nest:=f.ns;have pk:Av L (n+1) k.2:=⟨f.ok,by omega,by omega⟩;obtain⟨Z,d2,_⟩:=AcQ (t:=Aq L s) (s0:=s) S.t pk (OK (by rw[K];decide)) f5 f1;refine⟨AN f.ok,λy hy=>?_⟩;rw[<-hy]at Z d2;refine⟨AN ⟨Z.ok,by decide⟩,λq W=>?_⟩;have W:q=Aw L y.2 FX:=W;rw[<-W]at d2;refine⟨AN d2,λx hx=>?_⟩;have g:=S.t L q.2 d2;rw[<-hx]at g;have b1:=Z.DU f.ok (by decide);have b2:=g.DU d2.ok (by decide);have key:∀z,z=Aw L x.2 [59]->_:=λz hz=>Td (L:=L) (k:=13) (n:=0) (x:=k.1.text) (tk:=Aq L s) (s:=z.2) (t:=t) (g:=λi=>[vW (flat y.1),vW (flat x.1)].getD i .As) (y:=y.1) (z:=x.1) (rfl:Nat.blt 13 16=true) (by omega) rfl rfl (by rw[ht,hz,hx,W,hy];rfl);exact⟨(key _ rfl).1,AN ⟨g.ok,by decide⟩,λz hz=>(key z hz).2⟩
 rw[decide_eq_false_iff_not]at C;rw[if_neg (show¬(Aq L s).text=FY from C)]at ht;refine Aj (λC=>?_) λC=>?_
 ·rw[decide_eq_true_eq]at C;rw[if_pos (show(Aq L s).text=Ht from C)]at ht;exact An J (cu S.t pa ht rfl)
 rw[decide_eq_false_iff_not]at C;rw[if_neg (show¬(Aq L s).text=Ht from C)]at ht;refine Aj (λC=>?_) λC=>?_
 ·rw[decide_eq_true_eq]at C;rw[if_pos (show(Aq L s).text=Hu from C)]at ht;exact An J (cu S.t pa ht rfl)
 rw[decide_eq_false_iff_not]at C;rw[if_neg (show¬(Aq L s).text=Hu from C)]at ht;refine Aj (λC=>?_) λC=>?_
 ·rw[decide_eq_true_eq]at C;rw[if_pos (show(Aq L s).text=Hv from C)]at ht;exact An J (cu S.t pa ht rfl)
 rw[decide_eq_false_iff_not]at C;rw[if_neg (show¬(Aq L s).text=Hv from C)]at ht;refine Aj (λC=>?_) λC=>?_
 ·rw[decide_eq_true_eq]at C;rw[if_pos (show(Aq L s).text=Hw from C)]at ht;exact An J (cu S.t pa ht rfl)
 rw[decide_eq_false_iff_not]at C;rw[if_neg (show¬(Aq L s).text=Hw from C)]at ht;refine Aj (λC=>?_) λC=>?_
 ·rw[decide_eq_true_eq]at C;rw[if_pos (show(Aq L s).text=G8 from C)]at ht;refine⟨AN ⟨M,K⟩,λy hy=>?_⟩;have g:=S.p L s ⟨M,K⟩;rw[<-hy]at g ht;exact⟨AN ⟨g.ok,by decide⟩,λz hz=>HZ (y:=(y.1,z.2)) (by rw[ht,hz];rfl)⟩
 rw[decide_eq_false_iff_not]at C;rw[if_neg (show¬(Aq L s).text=G8 from C)]at ht;refine Aj (λC=>?_) λC=>?_
 ·rw[decide_eq_true_eq]at C;rw[if_pos (show(Aq L s).text=Iq from C)]at ht;refine⟨AN ⟨M,K⟩,λy hy=>?_⟩;have g:=S.p L s ⟨M,K⟩;rw[<-hy]at g ht;exact⟨AN ⟨g.ok,by decide⟩,λz hz=>HZ (y:=(y.1,z.2)) (by rw[ht,hz];rfl)⟩
 rw[decide_eq_false_iff_not]at C;rw[if_neg (show¬(Aq L s).text=Iq from C)]at ht;refine Aj (λC=>?_) λC=>?_
 ·rw[decide_eq_true_eq]at C;rw[if_pos (show(Aq L s).text=Im from C)]at ht;exact An J (Aao a1 ht)
 rw[decide_eq_false_iff_not]at C;rw[if_neg (show¬(Aq L s).text=Im from C)]at ht;refine Aj (λC=>?_) λC=>?_
 ·rw[decide_eq_true_eq]at C;rw[if_pos (show(Aq L s).text=Il from C)]at ht;exact An J (Aao a1 ht)
 rw[decide_eq_false_iff_not]at C;rw[if_neg (show¬(Aq L s).text=Il from C)]at ht;refine Aj (λC=>?_) λC=>?_
 ·rw[decide_eq_true_eq]at C;rw[if_pos (show(Aq L s).text=Ip from C)]at ht;exact An J ⟨AN ⟨a1,by decide⟩,λz hz=>MJ (by rw[ht,hz];rfl)⟩
 rw[decide_eq_false_iff_not]at C;rw[if_neg (show¬(Aq L s).text=Ip from C)]at ht;exact⟨AN M,λy hy=>HZ (ht.trans hy.symm)⟩
theorem Amn:∀(n:Nat) (Se:List TK->TK->PF) (Br Po T:List TK->PF) (Am:VI n Se Br Po T) (L:List TK) (s:RS) (t:PT×RS),Av L (n+1) s->GS n Se Br Po T->t=CK Se Br Po T L s->(AG (wL n Se Br Po T Am) 60).call 98 [.ptr 0 0] (AU (A0 [Bm (vK L) s] 0)) 1 (Hc (vK L) t):=Eq.mpr (by kernel_rfl) Amq
theorem AiF {n:Nat} {Se:List TK->TK->PF} {Br Po T:List TK->PF} (h:VI n Se Br Po T) (y:GS n Se Br Po T):AD Tryz.prog 98 (sF (n+1) (CK Se Br Po T)):=IH λL s q=>⟨wL n Se Br Po T h,60,rfl,AW,Bc,λt ht=>Amn n Se Br Po T h L s t q y ht⟩
def BP:List UInt8:=[123]
def C5:List UInt8:=[125]
def Bz (St:List TK->PF) (L:List TK):Nat->List PT->RS->List PT×RS
 |0,l,s=>(l,s)
 |k+1,l,s=>if s.err=0/\Ah L s C5=false then Bz St L k (l++[(St L s).1]) (St L s).2 else(l,s)
def IX (St:List TK->PF) (L:List TK) (s:RS):List PT×RS:=Bz St L (B7 L) [] s
def Kl (St:List TK->PF) (L:List TK):PF:=λs=>(nd 12 [] 0 (AQ L s BP).1 (IX St L (AQ L s BP).2).1,down (Aw L (IX St L (AQ L s BP).2).2 C5).2)
structure GL (L:List TK) (E C:Int) (s:RS) (r:List PT×RS):Prop where
 ok:Az L r.2
 ns:r.2.nest=s.nest
 am:s.at_<=r.2.at_
 er:s.err≠0->r.2.err≠0/\r.2.at_=s.at_/\(CS r.1:Int)<=E
 ss:(CS r.1:Int)<=3*(r.2.at_-s.at_)+C
 so:r.2.err=0->(CS r.1:Int)<=3*(r.2.at_-s.at_)
structure Kj (L:List TK) (f:Nat->List PT->RS->List PT×RS) (t:List PT×RS) (E C:Int) (s0:RS) (x:List PT×RS):Prop where
 k:∃k,Cn L x.2<k/\f k x.1 x.2=t
 p:GL L E C s0 x
def TC (s:St) (ids:List Nat):List (Nat×Ac):=List.rec (motive:=λ_=>List (Nat×Ac)) [] (λt _ q=>cond (ids.any (Nat.beq t)) q (Option.rec (motive:=λ_=>List (Nat×Ac)) q (λv=>(t,v)::q) (s.H.get t))) (List.range s.nx)
def sZ (L:List TK) (I:List PT×RS->Prop) (ks:List Nat) (q:Nat):CV:={X:=List PT×RS,T:=λs _ x=>(q,.AJ s.nx x.1.length 1)::MV s ks,H:=λs n0 x=>(s.nx,Gg (Ba x.1))::(0,Bm (vK L) x.2)::TC s [0],nx:=λs _=>s.nx+1,I:=λs x=>I x,m:=λx=>Cn L x.2}
def vi (n:Nat) (St:List TK->PF) (h:E9 98 n St) (L:List TK) (s0:RS):Ctx:={P:=Tryz.prog,tb:=[],ht:=Tw 98 n St,Am:=Wy h,lp:=λf r=>cond (Nat.beq f 63) (cond (Nat.beq r 3) (some (sZ L (λx=>Kj L (Bz St L) (IX St L s0) 0 4 s0 x) [0,3] 4)) none) none,cut:=λ_ _=>none}
theorem OM {E C:Int} (Z:4<=C) {n:Nat} {St:List TK->PF} (M:GF n 3 4 St) {L:List TK} {s0 s:RS} {l:List PT} (h:GL L E C s0 (l,s)) (B:s0.err=0->Av L n s0) (y:s.err=0):Av L n s/\GL L E C s0 (l++[(St L s).1],(St L s).2)/\Cn L (St L s).2<Cn L s:=by
 have Am:Az L s:=h.ok;have Y:s0.at_<=s.at_:=h.am;have W:s.nest=s0.nest:=h.ns;have V:(CS l:Int)<=3*(s.at_-s0.at_):=h.so y;have K:s0.err≠0->s.err≠0:=λe=>(h.er e).1;have q:s0.err=0:=Classical.byContradiction λe=>K e y;have S:=(B q).ns;have U:=(B q).lf;have pa:Av L n s:=⟨Am,by omega,by omega⟩;have g:=M L s pa;generalize St L s=r at g⊢;have R:=g.am;have g2:=g.ss;have O:=g.so;have g5:=g.ns;have g6:=Ih r.1;refine⟨pa,⟨g.ok,by show r.2.nest=_;omega,by show s0.at_<=r.2.at_;omega,λe=>absurd q e,?_,λJ=>?_⟩,cT g.ok y R λe=>by have:=O e;omega⟩
 ·show((CS (l++[r.1]):Nat):Int)<=3*(r.2.at_-s0.at_)+C;rw[s7,Fl,Ig];omega
 ·have J:r.2.err=0:=J;show((CS (l++[r.1]):Nat):Int)<=3*(r.2.at_-s0.at_);rw[s7,Fl,Ig];omega
theorem Zb {E C:Int} (B:4<=C) {n:Nat} {St:List TK->PF} (y:GF n 3 4 St) {L:List TK} {s0:RS} (q:s0.err=0->Av L n s0):∀(k:Nat) (l:List PT) (s:RS),GL L E C s0 (l,s)->GL L E C s0 (Bz St L k l s)
 |0,l,s,h=>h
 |k+1,l,s,h=>by unfold Bz;exact Eo (λe=>Zb B y q k _ _ (OM B y h q e.1).2.1) λ_=>h
theorem M3 {L:List TK} {C:Int} {s:RS} (h:Az L s) (q:0<=C):GL L 0 C s ([],s):=⟨h,rfl,Int.le_refl _,λe=>⟨e,rfl,by show((CS []:Nat):Int)<=0;rw[Ig];decide⟩,by show((CS []:Nat):Int)<=3*(s.at_-s.at_)+C;rw[Ig];omega,λ_=>by show((CS []:Nat):Int)<=3*(s.at_-s.at_);rw[Ig];omega⟩
theorem GL.DU {L:List TK} {E C:Int} {s:RS} {r:List PT×RS} (h:GL L E C s r) (q:Az L s) (y:C<=100):CS r.1<=300100:=by have M:=h.ss;have K:=h.ok.a1;have J:=h.ok.len;have B:=q.a0;omega
theorem AdI {n:Nat} {St:List TK->PF} (K:GF n 3 4 St):GF (n+1) 1 2 (Kl St):=by
 intro L s y;have Am:=y.ok;have M:=y.ns;have R:=y.lf;have o:=Pc (w:=BP) Am (show s.nest<=900 by omega);unfold Kl;generalize(AQ L s BP)=q at o⊢;have W:=o.am;have V:=o.ax;have B:=o.eo;have U:=o.ns;have S:=o.er;have g:=Zb (E:=0) (C:=4) (by decide) K (L:=L) (s0:=q.2) (λz=>⟨o.ok,by have:=B z;omega,by have:=B z;omega⟩) (B7 L) [] q.2 (M3 o.ok (by decide));unfold IX;generalize(Bz St L (B7 L) [] q.2)=r at g⊢;have g1:=g.am;have g2:=g.ss;have g3:=g.so;have Z:=g.er;have Y:=g.ns;have f:=G4 (w:=C5) g.ok;generalize(Aw L r.2 C5).2=v at f⊢;have f1:=f.am;have f2:=f.ax;have f3:=f.eo;have f4:=f.er;have f5:=f.ns;have O:=Am.n0;refine⟨S1 f.ok (by omega),by show v.nest-1=_;omega,by show s.at_<=v.at_;omega,λe=>⟨by show v.err≠0;omega,by show v.at_=_;omega,?_⟩,?_,λJ=>?_⟩
 ·show((sz _:Nat):Int)<=1;rw[Ms];omega
 ·show((sz _:Nat):Int)<=3*(v.at_-s.at_)+2;rw[Ms];omega
 ·have J:v.err=0:=J;show((sz _:Nat):Int)<=3*(v.at_-s.at_);rw[Ms];omega
theorem tkN {ks:List PT} (h:CS ks<=1000000):OJ ks.length (EJ (Ba ks))/\(BM ks.length λi=>F9 (EJ (Ba ks) i))/\(B6 ks.length λi=>F9 (EJ (Ba ks) i))=Ba ks:=by have q:ks.length=(Ba ks).length:=(Lb ks).symm;exact⟨⟨λi _=>rfl⟩,fj q (λi _=>rfl) (Z3 h),X8 q λi _=>rfl⟩
theorem eh {q:List (Nat×Nat)} (l:List PT) (x:PT) {g:Nat->List AV} (B:g 0=[vW (flat x)]):l.length+1=(Ba (l++[x])).length/\Au λi=>i.succ<=l.length+1->AH q (EJ (Ba (l++[x])) i) (B0 l.length (EJ (Ba l)) g i):=by
 refine⟨by rw[Lb,List.length_append,List.length_singleton],⟨λi hi=>?_⟩⟩;have e:B0 l.length (EJ (Ba l)) g i=EJ (Ba (l++[x])) i:=by
  refine LM (λy=>?_) λy=>?_
  ·unfold EJ wS;rw[MN,MN,List.map_append,OZ (by simpa using y)]
  ·have:i=l.length:=by omega
   subst this;rw[Nat.sub_self,B];unfold EJ wS;rw[MN,List.map_append];have:=Wp (d:=[]) (l:=l.map flat) (t:=flat x);rw[List.length_map]at this;rw[List.map_cons,List.map_nil,this]
 rw[e];exact⟨Ac1 q _,trivial⟩
theorem bL {a b:Nat} (h:a<=b) (hb:a<=1000000):(Nat.ble a b&&decide (a+1<=9223372036854775807/\(a+1)*24<=140737488355328))=true:=by rw[Bool.and_eq_true];exact⟨Nat.ble_eq_true_of_le h,decide_eq_true (by omega)⟩
theorem mM {L:List TK} {k n:Int} {x:List UInt8} {tk:TK} {s:RS} {t:PT×RS} {ks:List PT} {c:Bool} (hc:c=true) (h:CS ks<=1000000) (ht:t=(nd k x n tk ks,s)): (c=true/\(ks.length<=(Ba ks).length/\OJ ks.length (EJ (Ba ks)))/\BM ks.length λi=>F9 (EJ (Ba ks) i))/\Ir (vK L) (vK L) (vW (A3 k x n tk (B6 ks.length λi=>F9 (EJ (Ba ks) i)))) s t:=by subst ht;obtain⟨B,y,q⟩:=tkN h;exact⟨⟨hc,⟨by rw[Lb];exact Nat.le_refl _,B⟩,y⟩,rfl,by rw[NL,q],rfl⟩
theorem Y9 {E C:Int} (M:4<=C) {n:Nat} {St:List TK->PF} (K:GF n 3 4 St) {L:List TK} {s0:RS} {t:List PT×RS} {x:List PT×RS} (h:Kj L (Bz St L) t E C s0 x) (J:s0.err=0->Av L n s0) (y:x.2.err=0) (hi:Ah L x.2 C5=false): Av L n x.2/\Kj L (Bz St L) t E C s0 (x.1++[(St L x.2).1],(St L x.2).2)/\Cn L (St L x.2).2<Cn L x.2:=by
 obtain⟨⟨k,R,q⟩,B⟩:=h;obtain⟨d0,d1,O⟩:=OM M K (l:=x.1) (s:=x.2) B J y;cases k with
 |zero=>omega
 |succ k=>
 unfold Bz at q;rw[if_pos ⟨y,hi⟩]at q;exact⟨d0,⟨⟨k,by show Cn L (St L x.2).2<k;omega,q⟩,d1⟩,O⟩
theorem Y8 {E C:Int} {St:List TK->PF} {L:List TK} {s0:RS} {t:List PT×RS} {x:List PT×RS} (h:Kj L (Bz St L) t E C s0 x) (hi:¬(x.2.err=0/\Ah L x.2 C5=false)):t=x:=by
 obtain⟨⟨k,B,q⟩,y⟩:=h;cases k with
 |zero=>omega
 |succ k=>
 unfold Bz at q;rw[if_neg hi]at q;exact q.symm
def eY (a:TK):=(Aa/\Aa/\Aa/\Aa/\(Pt a)/\Aa/\Ab (TK.Ag a))
@[reducible] def iW:TK×RS->Prop:=λ(a:TK×RS)=>(eY a.1)/\True
@[reducible] def iX:List TK->List PT×RS->Prop:=λ(L:List TK) (a:List PT×RS)=>(CY L a.2)/\True
def Xs (a:List TK) (b:RS):=(∃(q:List TK),vK a=vK q/\Az q b/\Nat.le 1 (List.length [(125:UInt8)]))
def Xx:=(Ay/\Ab [(125:UInt8)]/\True)
@[reducible] def Yz:List TK->List PT×RS->Prop:=λ(L:List TK) (a:List PT×RS)=>(Xs L a.2)/\Aa/\Aa/\Xx/\iX L a
def Q7 (a:List PT×RS) (b:List PT):=Ap (bif bif Nat.ble (a.1.length*1) (List.length (Ba b))then true else false then decide (a.1.length+1<=9223372036854775807/\(a.1.length+1)*24<=140737488355328)else false)
def M9 (a:List PT×RS) (b:List PT):=(Aa/\Nat.le a.1.length (List.length (Ba b))/\OJ a.1.length (EJ (Ba b)))
def Uk (a:List TK) (b:RS):=Prod.snd (AQ a b [(123:UInt8)])
def Py (a:List PT×RS) (b:List PT):=(B6 a.1.length λ(q:Nat)=>F9 (EJ (Ba b) q))
def Fh (a:List PT×RS):=(a.1.length+1)
def HM (a:List PT):=EJ (Ba a)
def Ng (a:List PT):=List.length (Ba a)
def Nh (a:List TK) (b:RS):=GX a b [(125:UInt8)]
def eJ (a:List TK) (b:List TK->PF) (c:RS):=Kj a (Bz b a) (IX b a (Uk a c)) (0:Int) (4:Int) (Uk a c)
def Xt:=Nat.le 1 (List.length [(123:UInt8)])
def UT (a:List TK) (b:RS):=Ad (!Ax (BR a b [(125:UInt8)]))
def XB:=(Ay/\Ab [(123:UInt8)]/\True)
def RL:=(Ab (some 2)/\Aa)
theorem AkL:∀(n:Nat) (St:List TK->PF),E9 (98:FuncId) n St->∀(L:List TK) (s:RS) (t:PT×RS),Av L (n+1) s->(∀(L:List TK) (s:RS),Av L n s->Cf L (3:Int) (4:Int) s (St L s))->t=Kl St L s->((∃(R:List TK),vK L=vK R/\Az R s/\Xt/\Nd s)/\Aa/\Aa/\XB/\(CY L s)/\True)/\∀(y:TK×RS),y=Ni L s [(123:UInt8)]->(∃(S:List PT×RS),eJ L St s S/\Aa/\(S.1.length=0/\Ay/\RL/\True)/\(Aa/\True)/\(Mb L y.2 S.2)/\iW y)/\∀(x:List PT×RS),eJ L St s x->AO x.2 (Yz L x/\UT L x.2 (((PK L n x.2)/\Aa/\Aa/\(Ay/\True)/\iX L x)/\∀(B:PT×RS),B=DI St L x.2->Q7 x x.1 (∃(C:List PT×RS),eJ L St s C/\DX L C.2 x.2/\Aa/\((Ab (some 8)/\x.1.length+1=C.1.length/\Aa)/\Ay/\RL/\True)/\(Aa/\Aa/\Aa/\Aa/\(Fh x)*1=Ng C.1/\Au λ(i:Nat)=>B8 i ((Fh x)*1)->AH [(2,2),(4,8),(0,0)] (HM C.1 i) (B0 x.1.length (HM x.1) (λ(x:Nat)=>[KN B.1]) i))/\(Mb L B.2 C.2)/\iW y)) (Yz L x/\∀(B:TK×RS),B=Nh L x.2->HH B.2 ((Nat.blt 4 9=true/\(M9 x x.1)/\BM x.1.length λ(i:Nat)=>F9 (HM x.1 i))/\BO L (vW (UC y.1 (Py x x.1))) (Ps B.2) t))) (Yz L x/\∀(B:TK×RS),B=Nh L x.2->HH B.2 ((Nat.blt 4 8=true/\(M9 x x.1)/\BM x.1.length λ(i:Nat)=>F9 (HM x.1 i))/\BO L (vW (UC y.1 (Py x x.1))) (Ps B.2) t))
:=by
 delta CY Ay AO Mb BO B8 DX Q7 BR M9 GX Uk HH Ps Py Fh HM Nd Ng Nh eJ UC Xt PK KN UT XB DI Ni RL;intro n St Am L s t V Z ht;simp only[A9,iW,D1,iX,Yz,Pt,eY,AM,CY,Ay,Xs,Xx];simp only[Dz];have Am:=V.ok;have aa:=V.ns;have ad:=V.lf;have ab:=Am.n0;have o:=Pc (w:=BP) Am (show s.nest<=900 by omega);have o1:=o.am;have o2:=o.ax;have W:=o.eo;have o4:=o.ns;have o5:=o.er;have Y:(AQ L s BP).2.err=0->Av L n (AQ L s BP).2:=λz=>⟨o.ok,by have:=W z;omega,by have:=W z;omega⟩;refine⟨AN ⟨Am,by decide,(show s.nest<=900 by omega)⟩,λq U=>?_⟩;have U:q=AQ L s BP:=U;subst U;refine⟨⟨([],(AQ L s BP).2),⟨⟨B7 L,Kz o.ok,rfl⟩,M3 o.ok (by decide)⟩,rfl,Hr rfl⟩,λx J=>?_⟩;have J:Kj L (Bz St L) (IX St L (AQ L s BP).2) 0 4 (AQ L s BP).2 x:=J;have E:=J.p;have bx:=E.DU o.ok (by decide);have g5:=E.ns;have hl:=Kx x.1;have fin:¬(x.2.err=0/\Ah L x.2 C5=false)->∀ {c:Bool},c=true->(∃M,vK L=vK M/\Az M x.2/\1<=([125]:List UInt8).length)/\∀z,z=Aw L x.2 [125]->Ap (Bo .i64 (z.2.nest-1)) ((c=true/\(x.1.length<=(Ba x.1).length/\OJ x.1.length (EJ (Ba x.1)))/\BM x.1.length λi=>F9 (EJ (Ba x.1) i))/\ Ir (vK L) (vK L) (vW (A3 12 [] 0 (AQ L s BP).1 (B6 x.1.length λi=>F9 (EJ (Ba x.1) i)))) ⟨z.2.at_,z.2.nest-1,z.2.err,z.2.Bp⟩ t):=λhi c hc=>by have e:=Y8 J hi;refine⟨AN ⟨E.ok,by decide⟩,λz hz=>?_⟩;have f:=G4 (w:=C5) E.ok;have hz:z=Aw L x.2 C5:=hz;rw[<-hz]at f;have f5:=f.ns;exact An (Be.2 (by omega)) (mM (s:=down z.2) hc (by omega) (by rw[ht,hz,<-e];rfl))
 refine Aj (λO=>⟨AN ⟨E.ok,by decide⟩,Aj (λK=>?_) λK=>?_⟩) λO=>?_
 ·rw[BL]at O;rw[Bool.not_eq_true']at K;obtain⟨d0,d1,d2⟩:=Y9 (by decide) Z J Y O K;refine⟨AN d0,λy hy=>?_⟩;subst hy;exact An (bL (by rw[Lb];exact Nat.le_refl _) (by omega)) ⟨_,d1,d2,by rw[List.length_append,List.length_singleton],eh x.1 _ rfl,Hr rfl⟩
 ·rw[Bool.not_eq_false']at K;exact fin (λh=>by rw[show Ah L x.2 C5=true from K]at h;cases h.2) rfl
 ·rw[BU]at O;exact fin (λh=>O h.1) rfl
theorem AkI:∀(n:Nat) (St:List TK->PF) (Am:E9 98 n St) (L:List TK) (s:RS) (t:PT×RS),Av L (n+1) s->GF n 3 4 St->t=Kl St L s->(AG (vi n St Am L (AQ L s BP).2) 60).call 63 [.ptr 0 0] (AU (A0 [Bm (vK L) s] 0)) 1 (Hc (vK L) t):=Eq.mpr (by kernel_rfl) AkL
theorem AhU {n:Nat} {St:List TK->PF} (h:E9 98 n St) (y:GF n 3 4 St):AD Tryz.prog 63 (sF (n+1) (Kl St)):=IH λL s q=>⟨vi n St h L (AQ L s BP).2,60,rfl,AW,Bc,λt ht=>AkI n St h L s t q y ht⟩
structure LV where
 u:List TK->PF
 t:List TK->PF
 b:List TK->PF
def Np (x:LV):List TK->PF:=KV x.t (firstM x.t x.b)
def HT (x:LV):List TK->PF:=Ij x.u (Np x)
def Fm (x:LV):List TK->PF:=JM (DE (DE (HT x) [E7]) [Gi,Gj])
def IL (x:LV):List TK->PF:=KY (Np x)
def KU (x:LV):List TK->PF:=CK (λL t=>G3 (IL x) (Fm x) L t) (HV (Fm x) x.b) (Gd (Fm x) (IL x)) (Fm x)
def W5 (x:LV):LV:=⟨HT x,Fm x,Kl (KU x)⟩
def lv:Nat->LV
 |0=>⟨λ_ s=>(EV,s),λ_ s=>(EV,s),λ_ s=>(EV,s)⟩
 |n+1=>W5 (lv n)
structure Sl (n:Nat) (x:LV):Prop where
 u:GF n 1 2 x.u
 t:GF n 1 2 x.t
 b:GF n 1 2 x.b
structure Ye (n:Nat) (x:LV):Prop where
 hu:AD Tryz.prog 140 (sF n x.u)
 ht:AD Tryz.prog 116 (sF n x.t)
 hb:AD Tryz.prog 63 (sF n x.b)
theorem N3 {L:List TK} {s:RS} (h:Av L 0 s):False:=by have:=h.lf;have:=h.ok.a1;omega
theorem Xb {L:List TK} {n m:Nat} {s:RS} (h:Av L n s) (q:n<=m):Av L m s:=⟨h.ok,h.ns,by have:=h.lf;omega⟩
theorem Anx {g:FuncId} {n m:Nat} {F:List TK->PF} (E:n<=m) (h:AD Tryz.prog g (sF m F)):AD Tryz.prog g (sF n F):=by
 intro H nx args hc B p v up nx' y;obtain⟨q,C,B⟩:=Ae.1 (show(ob ((I0 (λL s=>Av L n s) F).find H args) λp=>cond (Nat.beq p.2.length 1) (some (Cv.A6 ((I0 (λL s=>Av L n s) F).pre p.1/\Jy p.2=true/\LO nx p.2=true/\AH (CL p.2 0) ((I0 (λL s=>Av L n s) F).args p.1) args/\Ky (CL p.2 0) H (A0 ((I0 (λL s=>Av L n s) F).Dv p.1) 0)) (GO p.2 nx ((I0 (λL s=>Av L n s) F).out p.1)))) none)=some hc from B);cases hb:Nat.beq q.2.length 1 with
 |false=>rw[hb]at B;cases B
 |true=>
 rw[hb]at B;injection B with B;subst B;obtain⟨⟨⟨M,O,K⟩,J⟩,y⟩:=LY y;refine h H nx args (Cv.A6 ((I0 (λL s=>Av L m s) F).pre q.1/\Jy q.2=true/\LO nx q.2=true/\AH (CL q.2 0) ((I0 (λL s=>Av L m s) F).args q.1) args/\Ky (CL q.2 0) H (A0 ((I0 (λL s=>Av L m s) F).Dv q.1) 0)) (GO q.2 nx ((I0 (λL s=>Av L m s) F).out q.1))) ?_ p v up nx' ((if_pos ⟨⟨M,O,Xb K E⟩,J⟩).trans y);show(ob ((I0 (λL s=>Av L m s) F).find H args) λp=>cond (Nat.beq p.2.length 1) (some (Cv.A6 ((I0 (λL s=>Av L m s) F).pre p.1/\Jy p.2=true/\LO nx p.2=true/\AH (CL p.2 0) ((I0 (λL s=>Av L m s) F).args p.1) args/\Ky (CL p.2 0) H (A0 ((I0 (λL s=>Av L m s) F).Dv p.1) 0)) (GO p.2 nx ((I0 (λL s=>Av L m s) F).out p.1)))) none)=_;rw[show(I0 (λL s=>Av L m s) F).find H args=some q from C];show cond (Nat.beq q.2.length 1) _ _=_;rw[hb];rfl
theorem Ahe:Sl 0 (lv 0):=⟨λL s h=>(N3 h).elim,λL s h=>(N3 h).elim,λL s h=>(N3 h).elim⟩
theorem Ahd {n:Nat} {x:LV} (h:Sl n x):Sl (n+1) (W5 x):=by have O:=nD h.t h.b;have E:GF (n+1) 1 2 (Np x):=sn h.t O;have C:GF (n+1) 1 2 (HT x):=tD h.u E;have K:=U5 (ws:=[E7]) C;have J:=U5 (ws:=[Gi,Gj]) K;have q:GF (n+1) 1 2 (Fm x):=si J;have va:GF (n+1) 1 2 (IL x):=tG E;have M:GS n (λL t=>G3 (IL x) (Fm x) L t) (HV (Fm x) x.b) (Gd (Fm x) (IL x)) (Fm x):=⟨λt=>sQ va q t,λL s y=>Zd q h.b y,λL s y=>dI q va y,q⟩;have st:GF (n+1) 3 4 (KU x):=sX M;have B:GF n 3 4 (KU x):=λL s y=>st L s (Xb y (Nat.le_succ n));exact⟨C,q,AdI B⟩
theorem TH:∀n,Sl n (lv n)
 |0=>Ahe
 |n+1=>Ahd (TH n)
theorem Ahc:Ye 0 (lv 0):=⟨IH λL s h=>(N3 h).elim,IH λL s h=>(N3 h).elim,IH λL s h=>(N3 h).elim⟩
theorem Ahb {n:Nat} {x:LV} (y:Sl n x) (h:Ye n x):Ye (n+1) (W5 x):=by have fi:=nD y.t y.b;have O:GF (n+1) 1 2 (Np x):=sn y.t fi;have un:GF (n+1) 1 2 (HT x):=tD y.u O;have pr:=U5 (ws:=[E7]) un;have su:=U5 (ws:=[Gi,Gj]) pr;have B:GF (n+1) 1 2 (Fm x):=si su;have va:GF (n+1) 1 2 (IL x):=tG O;have gs:GS n (λL t=>G3 (IL x) (Fm x) L t) (HV (Fm x) x.b) (Gd (Fm x) (IL x)) (Fm x):=⟨λt=>sQ va B t,λL s C=>Zd B y.b C,λL s C=>dI B va C,B⟩;have st:GF (n+1) 3 4 (KU x):=sX gs;have tI:=AiJ h.ht;have uI:=Ai1 h.hu;have bI:=AhS h.hb;have Z:=Ah2 ⟨tI,bI⟩ y.t y.b;have K:=AiR ⟨tI,Z⟩ y.t fi;have J:=Ai2 ⟨uI,K⟩ y.u;have W:=Aiu ⟨J⟩ un;have S:=AiH ⟨W⟩ pr;have q:=AiL ⟨S⟩ su;have E:=Ai6 ⟨K⟩ O;have V:=AiB ⟨E,q⟩ va B;have aa:=AhW ⟨q,h.hb⟩ B y.b;have Y:=Ais ⟨E,q⟩ B va;have U:AD Tryz.prog 98 (sF (n+1) (KU x)):=AiF ⟨V,aa,Y,q⟩ gs;have R:GF n 3 4 (KU x):=λL s C=>st L s (Xb C (Nat.le_succ n));have M:AD Tryz.prog 98 (sF n (KU x)):=Anx (Nat.le_succ n) U;exact⟨J,q,AhU ⟨M⟩ R⟩
theorem z3:∀n,Ye n (lv n)
 |0=>Ahc
 |n+1=>Ahb (TH n) (z3 n)
end Go.Proofs.YtlmmbanfhjaioaaGreatDoor
end
end
