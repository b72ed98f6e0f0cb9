/- Laid by program out of its parts: PaL, PaM, PaN, PaO, PaP, PaQ, PaR, PaS, PaT, PaU. -/
import Derived.Test.YthallodoidghoaaGreatPa1
import Derived.Test.YthallodoidghoaaGreatMh
noncomputable section
open List(getD)
set_option linter.unusedVariables false
set_option linter.unusedSimpArgs false
section
set_option maxRecDepth 100000
set_option maxHeartbeats 2000000
open Go Go.Ev
namespace Go.Proofs.YthallodoidghoaaGreat
structure A9 (L:List TK) (n:Nat) (s:RS):Prop where
 ok:AJ L s
 ns:s.nest<=64
 lf:(L.length:Int)-s.at_<n
structure Cs (L:List TK) (E C:Int) (s:RS) (r:PT×RS):Prop where
 ok:AJ L r.2
 ns:r.2.nest=s.nest
 am:s.at_<=r.2.at_
 er:s.err≠0->r.2.err≠0/\r.2.at_=s.at_/\(sz r.1:Int)<=E
 ss:(sz r.1:Int)<=3*(r.2.at_-s.at_)+C
 so:r.2.err=0->(sz r.1:Int)<=3*(r.2.at_-s.at_)
def GF (n:Nat) (E C:Int) (F:Ad->PF):Prop:=∀L s,A9 L n s->Cs L E C s (F L s)
def dX (A:Type) (r:A->Al) (rd:Al->Option A) (fz:Nat) (pre:Ad->RS->A->Prop) (F:Ad->A->PF):GY:=N6 A r rd pre (λc s a=>.gen (F (kL c) a s) λy=>.ret (vW (flat y.1)) [Bw c y.2] 0) fz
def dY (fz:Nat) (pre:Ad->RS->Prop) (F:Ad->PF):GY:=dX Unit (λ_=>[]) rd0 fz (λL s _=>pre L s) (λL _=>F L)
def IC (pre:Ad->RS->Prop) (F:Ad->PF):GY:=dY 0 pre F
def sG (pre:Ad->RS->Prop) (F:Ad->PF):Ft:=(IC pre F).Oq
def sF (n:Nat) (F:Ad->PF):Ft:=sG (λL s=>A9 L n s) F
structure H7 (c0 c v:AV) (s:RS) (t:PT×RS):Prop where
 c:c=c0
 v:v=vW (flat t.1)
 s:s=t.2
def GZ (x:AV) (t:PT×RS):KC:=λr=>match r with
 |.mk v H _=>Bp (H.get 0) λo=>match o with
  |.cells ty c z n op=>Ap (cond (Nat.beq ty 118) (cond (Nat.beq n 5) (not op) false) false) (Bp (VI c z 5 0) λl=>match l with
   | [c,.int .i64 a,.int .i64 b,.int .i64 d,.int .i64 e]=>H7 x c v ⟨a,b,d,e⟩ t
   |_=>False)
  |_=>False
 |_=>False
structure HK (L:List TK) (n:Nat) (s:RS):Prop where
 ok:AJ L s
 pe:s.err=0->A9 L n s
def BP (F:Ad->PF):Ad->PF:=λL s=>if s.err≠0 then(Ki,s)else F L s
def sE (n:Nat) (F:Ad->PF):Ft:=sG (λL s=>HK L n s) (BP F)
def HG (L:Ad):PF:=λs=>(nd 29 (Bu L s 1).1.text 0 (Bu L s 1).1 [],(Bu L s 1).2)
def Gg (L:Ad):PF:=λs=>if(AY L s).kind=1 then(nd 5 (AY L s).text 0 (AY L s) [],A7 s)else(nd 5 (Bs L s Fp).1.text 0 (Bs L s Fp).1 [],(Bs L s Fp).2)
def Tg:Aj:=[110,117,108,108]
def V0:Aj:=[105,116]
def Y1:Aj:=[110,101,119]
def Tf:Aj:=[102,110]
def Oc:Aj:=[40]
def V3:Aj:=[41]
theorem AdE {L:Ad} {t:PT×RS} {r:CR} (h:GZ (vK L) t r):E9 Tryz.prog 0 0 1 (.ret (vW (flat t.1)) [Bw (vK L) t.2] 0) r:=by
 unfold GZ at h;split at h
 ·rename_i v H n;obtain⟨o,W,h⟩:=BV h;split at h
  ·rename_i ty cc z m op;obtain⟨K,Y⟩:=EE.1 h;obtain⟨l,hl,S⟩:=BV Y;clear h Y;split at S
   ·rename_i c a b d e;obtain⟨K,J⟩:=BG K;obtain⟨J,Z⟩:=BG J;rw[A0]at K J;have Z:op=false:=by cases op<;>simp_all
    subst K;subst J;subst Z;have hc:=S.c;have hv:=S.v;have V:=S.s;subst hc;subst hv;have R:=(YG cc z 5 0 _ hl).2;have c0:=R 0 _ rfl;have c1:=R 1 _ rfl;have c2:=R 2 _ rfl;have c3:=R 3 _ rfl;have c4:=R 4 _ rfl;have step:∀(x:AV) (k:Nat) (B:List (Nat×Nat)),(∀b,VQ x b B=B)->(match cellOf cc z k with
      |none=>B
      |some b=>VQ x b B)=B:=λx k B hx=>by
     split
     ·rfl
     ·exact hx _
    have es:VS .leaf (.Dv (T5 (vK L) t.2)) cc z 5 [(0,0)]=[(0,0)]:=by have s0:VS .leaf (.Dv (T5 (vK L) t.2)) cc z 1 [(0,0)]=[(0,0)]:=step (vK L) 0 _ λb=>rfl;have s1:VS .leaf (.Dv (T5 (vK L) t.2)) cc z 2 [(0,0)]=[(0,0)]:=(step (.int .i64 t.2.at_) 1 _ λb=>rfl).trans s0;have s2:VS .leaf (.Dv (T5 (vK L) t.2)) cc z 3 [(0,0)]=[(0,0)]:=(step (.int .i64 t.2.nest) 2 _ λb=>rfl).trans s1;have s3:VS .leaf (.Dv (T5 (vK L) t.2)) cc z 4 [(0,0)]=[(0,0)]:=(step (.int .i64 t.2.err) 3 _ λb=>rfl).trans s2;exact(step (.int .i64 t.2.BE) 4 _ λb=>rfl).trans s3
    have e:iO H [(0,Bw (vK L) t.2)] [(0,0)]=[(0,0)]:=by show fL (Option.rec (motive:=λ_=>List (Nat×Nat)) [(0,0)] (λo=>AeI (Bw (vK L) t.2) o [(0,0)]) (H.get 0)) (λB=>B)=_;rw[W,dF];exact es
    show fL (iO H [(0,Bw (vK L) t.2)] [(0,0)]) (λB=>cond (Nat.beq 1 1) (cond (Nat.ble 1 1) (wK 1 1 [0] B) false) false=true/\tP B (Tr.leaf.set 0 (vW (flat t.1))) [(0,vW (flat t.1))]/\hP 1 B H [(0,Bw (vK L) t.2)]);rw[e,dF];refine⟨rfl,⟨Afu _ _,trivial⟩,⟨rfl,?_⟩,trivial⟩;show(match H.get 0 with
     |none=>False
     |some o=>Kz [(0,0)] (Bw (vK L) t.2) o)
    rw[W];refine⟨rfl,rfl,rfl,?_⟩;have pp:∀(x y:AV) (k:Nat),cellOf cc z k=some y->Bi [(0,0)] x y->(match cellOf cc z k with
      |none=>False
      |some b=>Bi [(0,0)] x b):=λx y k K J=>by rw[K];exact J
    have U:∀x y:Int,x=y->Bi [(0,0)] (.int .i64 x) (.int .i64 y):=λx y h=>⟨rfl,h.symm⟩;exact⟨⟨⟨⟨⟨trivial,pp _ _ 0 c0 ⟨rfl,rfl,⟨λi _=>⟨⟨rfl,rfl⟩,rfl,⟨rfl,rfl⟩,⟨rfl,rfl⟩,⟨rfl,rfl⟩,trivial⟩⟩⟩⟩,pp _ _ 1 c1 (U _ _ (by rw[<-V]))⟩,pp _ _ 2 c2 (U _ _ (by rw[<-V]))⟩,pp _ _ 3 c3 (U _ _ (by rw[<-V]))⟩,pp _ _ 4 c4 (U _ _ (by rw[<-V]))⟩
   ·exact S.elim
  ·exact h.elim
 ·exact h.elim
theorem Py {L:Ad} {s:RS} (h:(AY L s).kind≠0):s.err=0:=by
 unfold AY at h;split at h
 ·exact absurd rfl h
 ·rename_i g;omega
theorem JR {L:Ad} {s:RS} {w:Aj} (h:A5 L s w=true):s.err=0:=by unfold A5 at h;rw[B4,Bn]at h;refine Py (L:=L) λe=>?_;rw[e]at h;have:=h.1;unfold P0 at this;split at this<;>omega
structure Wq (L:List TK) (s r:RS):Prop where
 ok:AJ L r
 ns:r.nest=s.nest
 am:s.at_<=r.at_
 ax:r.at_<=s.at_+1
 er:s.err≠0->r.err≠0/\r.at_=s.at_
 eo:r.err=0->r.at_=s.at_+1
theorem iy (s:RS) {e:Int} (r:e≠0):(CM s e).err≠0/\(CM s e).at_=s.at_/\(CM s e).nest=s.nest:=by
 unfold CM;split
 ·exact⟨r,rfl,rfl⟩
 ·rename_i h;exact⟨h,rfl,rfl⟩
theorem wV {L:Ad} {s:RS} {b:Bool} (h:AJ L s) (hb:b=true->s.at_<L.length/\s.err=0):Wq L s (H6 L s b).2:=by
 have x:=Ap6 (b:=b) h λe=>(hb e).1;have r:=iy s (e:=4) (by decide);unfold H6 at x⊢;split at x
 ·rename_i e;rw[As e];have:=(hb e).2;exact⟨x,rfl,show s.at_<=s.at_+1 by omega,show s.at_+1<=s.at_+1 by omega,λh=>absurd this h,λ_=>rfl⟩
 ·rename_i e;rw[An e];exact⟨x,r.2.2,by show _<=(CM s 4).at_;omega,by show(CM s 4).at_<=_;omega,λh=>⟨r.1,r.2.1⟩,λh=>absurd h r.1⟩
theorem GP {L:Ad} {s:RS} {w:Aj} (h:AJ L s):Wq L s (Bm L s w).2:=wV h λe=>⟨Cg e,JR e⟩
theorem Jh {L:Ad} {s:RS} {k:Int} (h:AJ L s) (r:k≠0):Wq L s (Bu L s k).2:=wV h λe=>have x:(AY L s).kind=k:=of_decide_eq_true e;⟨L2 (by rw[x];exact r),Py (by rw[x];exact r)⟩
theorem R3 {L:Ad} {s:RS} {ws:List Aj} (h:AJ L s):Wq L s (Bs L s ws).2:=by refine wV h λe=>?_;obtain⟨w,_,r⟩:=List.any_eq_true.1 e;exact⟨Cg r,JR r⟩
structure Opn (L:List TK) (s r:RS):Prop where
 ok:AJ L r
 ns:r.nest=s.nest+1
 am:s.at_<=r.at_
 ax:r.at_<=s.at_+1
 er:s.err≠0->r.err≠0/\r.at_=s.at_
 eo:r.err=0->r.at_=s.at_+1/\s.nest<64
theorem P5 {L:Ad} {s:RS} {w:Aj} (h:AJ L s) (hn:s.nest<=900):Opn L s (B6 L s w).2:=by
 have hd:=ze (w:=w) h hn;have r:=GP (w:=w) hd;have key:(Hu L s w).nest=s.nest+1/\(Hu L s w).at_=s.at_/\(s.err≠0->(Hu L s w).err≠0)/\((Hu L s w).err=0->¬(A5 L s w=true/\64<=s.nest)):=by
  have x:=iy s (e:=5) (by decide);unfold Hu;split
  ·exact⟨rfl,x.2.1,λ_=>x.1,λh=>absurd h x.1⟩
  ·rename_i e;exact⟨rfl,rfl,λh=>h,λ_=>e⟩
 obtain⟨U,S,J,z⟩:=key;have Y:=r.ns;have W:=r.am;have V:=r.ax;have B:=r.er;have R:=r.eo;unfold B6;refine⟨r.ok,by omega,by omega,by omega,λe=>by have:=B (J e);omega,λe=>⟨by have:=R e;omega,?_⟩⟩;have hz:(Hu L s w).err=0:=Classical.byContradiction λhz=>(B hz).1 e;have hi:A5 L (Hu L s w) w=true:=by
  have:(Bm L (Hu L s w) w).2.err=0:=e;unfold Bm H6 at this;split at this
  ·rename_i h;exact h
  ·exact absurd this (iy _ (by decide)).1
 have y:A5 L s w=true:=by have hb:=z hz;unfold Hu at hi;rw[An hb]at hi;exact hi
 have:=z hz;by_cases K:s.nest<64
 ·exact K
 ·exact absurd ⟨y,by omega⟩ this
theorem Gi {L:Ad} {s:RS} (h:AJ L s) (hl:s.at_<L.length):AJ L (A7 s):=⟨h.len,by have:=h.a0;show 0<=s.at_+1;omega,show s.at_+1<=L.length by omega,h.n0,h.n1⟩
theorem WY {L:Ad} {s:RS} (h:AJ L s) (hn:1<=s.nest):AJ L (down s):=⟨h.len,h.a0,h.a1,show 0<=s.nest-1 by omega,by have:=h.n1;show s.nest-1<=1000;omega⟩
theorem J8 (k:Int) (s:Aj) (n:Int) (t:TK):sz (nd k s n t [])=1:=by rw[N8,I3]
theorem Hk (k:Int) (s:Aj) (n:Int) (t:TK) (x:PT):sz (nd k s n t [x])=1+sz x:=by rw[N8,Hj,I3];omega
theorem JC (k:Int) (s:Aj) (n:Int) (t:TK) (x y:PT):sz (nd k s n t [x,y])=1+(sz x+sz y):=by rw[N8,Hj,Hj,I3];omega
theorem AeL:sz Ki=1:=by unfold Ki;rw[iP,I3]
theorem XO {L:Ad} {s:RS} {k:Int} {x:Aj} {n:Int} {t:TK} {E C:Int} (h:AJ L s) (hl:s.at_<L.length) (r:s.err=0) (y:0<=C):Cs L E C s (nd k x n t [],A7 s):=⟨Gi h hl,rfl,show s.at_<=s.at_+1 by omega,λe=>absurd r e,by show((sz _:Nat):Int)<=3*(s.at_+1-s.at_)+C;rw[J8];omega,λ_=>by show((sz _:Nat):Int)<=3*(s.at_+1-s.at_);rw[J8];omega⟩
theorem Adq {L:Ad} {s r:RS} {k:Int} {x:Aj} {n:Int} {t:TK} (h:Wq L s r):Cs L 1 1 s (nd k x n t [],r):=by
 have B:=h.am;have J:=h.ax;have y:=h.er;have z:=h.eo;refine⟨h.ok,h.ns,B,λe=>⟨(y e).1,(y e).2,?_⟩,?_,λe=>?_⟩
 ·show((sz _:Nat):Int)<=1;rw[J8];omega
 ·show((sz _:Nat):Int)<=_;rw[J8];show(1:Int)<=3*(r.at_-s.at_)+1;omega
 ·have:=z e;show((sz _:Nat):Int)<=_;rw[J8];show(1:Int)<=3*(r.at_-s.at_);omega
theorem iZ {L:Ad} {s:RS} (h:AJ L s):Cs L 1 1 s (HG L s):=Adq (Jh h (by decide))
theorem YX {L:Ad} {s:RS} (h:AJ L s):Cs L 1 1 s (Gg L s):=by
 unfold Gg;split
 ·rename_i e;exact XO h (L2 (by rw[e];decide)) (Py (by rw[e];decide)) (by decide)
 ·exact Adq (R3 h)
theorem PV {L:Ad} {s:RS} {n:Nat} {E C:Int} {F:Ad->PF} (x:GF n E C F) (r:HK L n s) (z:1<=C):Cs L 1 C s (BP F L s):=by
 have h:=r.ok;have r:=r.pe;unfold BP;split
 ·rename_i e;exact⟨h,rfl,H8 _,λ_=>⟨e,rfl,by show((sz Ki:Nat):Int)<=1;rw[AeL];omega⟩,by show((sz Ki:Nat):Int)<=3*(s.at_-s.at_)+C;rw[AeL];omega,λy=>absurd y e⟩
 ·rename_i e;have e:s.err=0:=by omega
  have p:=x L s (r e);exact⟨p.ok,p.ns,p.am,λh=>absurd e h,p.ss,p.so⟩
theorem Ad3 {g:FuncId} {A:Type} {U:A->Al} {rd:Al->Option A} {fz:Nat} {pre:Ad->RS->A->Prop} {F:Ad->A->PF} (R:∀L s a,pre L s a->∃B fuel args,∃K:KC,B.P=Tryz.prog/\B.P.follows .mixedOrders=true/\EU B.P B.tb/\.ptr 0 0::U a=args/\ (∀r,K r->E9 Tryz.prog fz 0 1 (.ret (vW (flat (F L a s).1)) [Bw (vK L) (F L a s).2] 0) r)/\(A3 B fuel).call g args (BU (B2 [Bw (vK L) s] 0)) 1 K):BH Tryz.prog g (dX A U rd fz pre F).Oq:=by
 refine Ait (dX A U rd fz pre F) (λp z=>by cases z) (λH _ p z=>by cases z) (λx=>rfl) (λx o Y=>?_) (λx z=>?_) (λx J nx z=>?_) λx z=>?_
 ·rw[I7.1 Y];rfl
 ·obtain⟨⟨c,s⟩,a⟩:=x;obtain⟨L,rfl,h⟩:=z;exact PG L _ (yl _)
 ·obtain⟨⟨c,s⟩,a⟩:=x;obtain⟨L,rfl,h⟩:=z;show hOut (K9 (nx+0) λn=>Eg.ret (vW (flat (F (kL (vK L)) a s).1)) ((J++List.range' nx 0).zip [Bw (vK L) (F (kL (vK L)) a s).2]) n)=hOut (K9 (nx+0) λn=>(λS=>Eg.ret (I0 (DP 0 S) 4 (vW (flat (F (kL (vK L)) a s).1))) (S.zip ([Bw (vK L) (F (kL (vK L)) a s).2].map (Ge (DP 0 S)))) n) (J++List.range' nx 0));rw[Ou,Ou];rfl
 ·obtain⟨⟨c,s⟩,a⟩:=x;obtain⟨L,hc,h⟩:=z;have hc:c=vK L:=hc;subst hc;obtain⟨B,fuel,args,K,e1,e2,e3,Z,e5,V⟩:=R L s a h;rw[<-Z]at V;refine⟨B,fuel,K,e1,e2,e3,λr W=>?_,V⟩;have h:=e5 r W;show E9 Tryz.prog fz 0 1 (.gen (F (kL (vK L)) a s) λy=>.ret (vW (flat y.1)) [Bw (vK L) y.2] 0) r;rw[Dt];exact h
theorem gy {g:FuncId} {fz:Nat} {pre:Ad->RS->Prop} {F:Ad->PF} (y:∀L s,pre L s->∃x fuel,∃K:KC,x.P=Tryz.prog/\x.P.follows .mixedOrders=true/\EU x.P x.tb/\(∀r,K r->E9 Tryz.prog fz 0 1 (.ret (vW (flat (F L s).1)) [Bw (vK L) (F L s).2] 0) r)/\ (A3 x fuel).call g [.ptr 0 0] (BU (B2 [Bw (vK L) s] 0)) 1 K):BH Tryz.prog g (dY fz pre F).Oq:=Ad3 λL s _ h=>by obtain⟨x,fuel,K,S,R,J,z,B⟩:=y L s h;exact⟨x,fuel,_,K,S,R,J,rfl,z,B⟩
theorem Iq {g:FuncId} {pre:Ad->RS->Prop} {F:Ad->PF} (y:∀L s,pre L s->∃x fuel,x.P=Tryz.prog/\x.P.follows .mixedOrders=true/\EU x.P x.tb/\ ∀t,t=F L s->(A3 x fuel).call g [.ptr 0 0] (BU (B2 [Bw (vK L) s] 0)) 1 (GZ (vK L) t)):BH Tryz.prog g (sG pre F):=by refine gy (fz:=0) λL s h=>?_;obtain⟨x,fuel,R,K,J,B⟩:=y L s h;exact⟨x,fuel,GZ (vK L) (F L s),R,K,J,λr z=>AdE z,B _ rfl⟩
theorem A4 {L:Ad} {p:Ad->Prop} (h:p L):∃M,vK L=vK M/\p M:=⟨L,rfl,h⟩
theorem M8 {L:Ad} {k n:Int} {x:Aj} {tk:TK} {s:RS} {t:PT×RS} (h:t=(nd k x n tk [],s)):H7 (vK L) (vK L) (vW (Be k x n tk [])) s t:=by subst h;exact⟨rfl,by rw[Ox,AaR],rfl⟩
theorem KU {W r:AB} (h:W=r):W.length=r.length/\Ar λi=>i.succ<=W.length->(W.getD i LT.none).kind=(r.getD i LT.none).kind/\(W.getD i LT.none).text=(r.getD i LT.none).text/\(W.getD i LT.none).n=(r.getD i LT.none).n/\(W.getD i LT.none).line=(r.getD i LT.none).line/\(W.getD i LT.none).Av=(r.getD i LT.none).Av/\(W.getD i LT.none).kids.length=(r.getD i LT.none).kids.length/\Ar λj=>j.succ<=(W.getD i LT.none).kids.length->(W.getD i LT.none).kids.getD j 0=(r.getD i LT.none).kids.getD j 0:=by subst h;exact⟨rfl,⟨λi _=>⟨rfl,rfl,rfl,rfl,rfl,rfl,⟨λ_ _=>rfl⟩⟩⟩⟩
theorem Hi {a b:RS} (h:a=b):((a.at_=b.at_/\a.nest=b.nest)/\a.err=b.err)/\a.BE=b.BE:=by subst h;exact⟨⟨⟨rfl,rfl⟩,rfl⟩,rfl⟩
theorem w9 {k n:Int} {x:Aj} {tk:TK} {y:PT} {g:Nat->AV} (hy:sz y<=1000000) (r:g 0=vW (flat y)):BW 1 g/\Be k x n tk (Ca 1 g)=flat (nd k x n tk [y]):=by obtain⟨B,z⟩:=tk1 hy r;exact⟨B,by rw[Ox,z]⟩
theorem Afc {k n:Int} {x:Aj} {tk:TK} {y z:PT} {g:Nat->AV} (hy:sz y+sz z<=1000000) (B:g 0=vW (flat y)) (r:g 1=vW (flat z)):BW 2 g/\Be k x n tk (Ca 2 g)=flat (nd k x n tk [y,z]):=by obtain⟨K,J⟩:=tk2 hy B r;exact⟨K,by rw[Ox,J]⟩
theorem HP {L:Ad} {t y:PT×RS} (h:t=y):H7 (vK L) (vK L) (vW (flat y.1)) y.2 t:=by subst h;exact⟨rfl,rfl,rfl⟩
theorem nb {b:Bool} (h:b=false):¬b=true:=by rw[h];decide
theorem Cs.EI {L:Ad} {E C:Int} {s:RS} {r:PT×RS} (h:Cs L E C s r) (x:AJ L s) (y:C<=100):sz r.1<=300100:=by have K:=h.ss;have J:=h.ok.a1;have B:=h.ok.len;have z:=x.a0;omega
theorem PL {L:Ad} {k n:Int} {x:Aj} {tk:TK} {s:RS} {t:PT×RS} {y:PT} {g:Nat->AV} {c:Bool} (hc:c=true) (hy:sz y<=1000000) (r:g 0=vW (flat y)) (h:t=(nd k x n tk [y],s)):(c=true/\BW 1 g)/\H7 (vK L) (vK L) (vW (Be k x n tk (Ca 1 g))) s t:=by subst h;obtain⟨B,z⟩:=tk1 hy r;exact⟨⟨hc,B⟩,rfl,by rw[Ox,z],rfl⟩
theorem Ui {L:Ad} {k n:Int} {x:Aj} {tk:TK} {s:RS} {t:PT×RS} {y z:PT} {g:Nat->AV} {c:Bool} (hc:c=true) (hy:sz y+sz z<=1000000) (B:g 0=vW (flat y)) (r:g 1=vW (flat z)) (h:t=(nd k x n tk [y,z],s)):(c=true/\BW 2 g)/\H7 (vK L) (vK L) (vW (Be k x n tk (Ca 2 g))) s t:=by subst h;obtain⟨K,J⟩:=tk2 hy B r;exact⟨⟨hc,K⟩,rfl,by rw[Ox,J],rfl⟩
theorem Aaa {L:Ad} {k n:Int} {x:Aj} {tk:TK} {s:RS} {t:PT×RS} {y z v:PT} {g:Nat->AV} {c:Bool} (hc:c=true) (hy:sz y+(sz z+sz v)<=1000000) (J:g 0=vW (flat y)) (B:g 1=vW (flat z)) (r:g 2=vW (flat v)) (h:t=(nd k x n tk [y,z,v],s)):(c=true/\BW 3 g)/\H7 (vK L) (vK L) (vW (Be k x n tk (Ca 3 g))) s t:=by subst h;obtain⟨R,K⟩:=tk3 hy J B r;exact⟨⟨hc,R⟩,rfl,by rw[Ox,K],rfl⟩
theorem Aid (k:Int) (x:Aj) (n:Int) (tk:TK):flat (nd k x n tk [])=Be k x n tk []:=by rw[Ox,AaR]
theorem iQ (k:Int) (s:Aj) (n:Int) (t:TK) (x y z:PT):sz (nd k s n t [x,y,z])=1+(sz x+(sz y+sz z)):=by rw[N8,Hj,Hj,Hj,I3];omega
def BX (a:Ad):=H7 (vK a) (vK a)
def KF:=(qR/\(Aa/\Ae (1:Int))/\True)
def XX (a:Ad) (b:RS):=(∃(r:Ad),vK a=vK r/\AJ r b/\((1:Int)=(0:Int)->False))
theorem Apf:∀(L:Ad) (s:RS) (t:PT×RS),AJ L s->t=HG L s->((XX L s)/\Aa/\Aa/\KF/\(Aa/\Aa/\Aa/\(R9 L s)/\Aa/\Hc s)/\True)/\∀(y:TK×RS),y=Bu (kL (vK L)) s (1:Int)->BX L (vW (Be (29:Int) (TK.text y.1) (0:Int) y.1 [])) y.2 t
:=by delta qR R7 BX KF R9 XX Hc;intro L s t r ht;simp only[Bq];simp only[Dt];exact⟨A4 ⟨r,λh=>by cases h⟩,λy hy=>M8 (by rw[ht,hy];rfl)⟩
theorem Apc:∀(L:Ad) (s:RS) (t:PT×RS),AJ L s->t=HG L s->(A3 cd 60).call 79 [.ptr 0 0] (BU (B2 [Bw (vK L) s] 0)) 1 (GZ (vK L) t):=Eq.mpr (by kernel_rfl) Apf
def qN (a:RS):=RS.mk (RS.at_ a+1) (RS.nest a) (RS.err a) (RS.BE a)
def XW:=[[(105:UInt8),110,116],[(102:UInt8),110],[(116:UInt8),111,107],[(104:UInt8),97,110,100],[(97:UInt8),114,114]]
theorem Ao3:∀(L:Ad) (s:RS) (t:PT×RS),AJ L s->t=Gg L s->((D6 L s)/\Aa/\Aa/\(qR/\True)/\Tp L s/\True)/\∀(y:TK),y=Ek L s->Ag (!Au (TK.kind y) (1:Int)) (((∃(x:Ad),vK L=vK x/\AJ x s/\Ri XW)/\Aa/\Aa/\(qR/\(Ae (some 4)/\0=0/\5=List.length XW/\5=List.length XW)/\True)/\Tp L s/\(Aa/\Aa/\Aa/\fy/\Ae Ns)/\True)/\∀(y:TK×RS),y=Bs (kL (vK L)) s XW->BX L (vW (Be (5:Int) (TK.text y.1) (0:Int) y.1 [])) y.2 t) (C5 s (BX L (vW (Be (5:Int) (TK.text y) (0:Int) y [])) (qN s) t))
:=by
 delta qN qR BX C5 XW D6 Ns Sa Sf Sg Ek OX fy;intro L s t r ht;simp only[Bq,Tp,R7,R9,Hc];simp only[Dt];have B:=r.a0;have z:=r.a1;have hl:=r.len;refine⟨A4 r,λy hy=>?_⟩;subst hy;refine Ao (λh=>?_) λh=>?_
 ·rw[BZ,BB]at h;exact⟨⟨A4 ⟨r,⟨.inl rfl⟩⟩,rfl,rfl⟩,λy hy=>M8 (by rw[ht,hy];unfold Gg;rw[An h];rfl)⟩
 ·rw[BI,Ba]at h;exact Am (AU.2 (by omega)) (M8 (by rw[ht];unfold Gg;rw[As h];rfl))
theorem Ao2:∀(L:Ad) (s:RS) (t:PT×RS),AJ L s->t=Gg L s->(A3 cd 60).call 77 [.ptr 0 0] (BU (B2 [Bw (vK L) s] 0)) 1 (GZ (vK L) t):=Eq.mpr (by kernel_rfl) Ao3
def Ael:Ft:=sG (λL s=>AJ L s) HG
def Aej:Ft:=sG (λL s=>AJ L s) Gg
theorem All:BH Tryz.prog 79 Ael:=Iq λL s h=>⟨cd,60,rfl,Dq,Bk,λt ht=>Apc L s t h ht⟩
theorem Alf:BH Tryz.prog 77 Aej:=Iq λL s h=>⟨cd,60,rfl,Dq,Bk,λt ht=>Ao2 L s t h ht⟩
def Mc:CZ:=(89,Aec)::(79,Ael)::(77,Aej)::sw
theorem Nh:Es Tryz.prog Mc:=Dj AkN (Dj All (Dj Alf Abr))
def firstM (T B:Ad->PF) (L:Ad):PF:=λs=>
 if(AY L s).kind=3 then(nd 26 [] (AY L s).num (AY L s) [],A7 s)
 else if A5 L s Tg=true then(nd 27 [] 0 (AY L s) [],A7 s)
 else if A5 L s V0=true then(nd 28 [] 0 (AY L s) [],A7 s)
 else if A5 L s Y1=true then(nd 33 (Bu L (A7 s) 1).1.text 0 (AY L s) [],(Bu L (A7 s) 1).2)
 else if A5 L s Tf=true then(nd 36 [] 0 (AY L s) [(BP B L (A7 s)).1],(BP B L (A7 s)).2)
 else if A5 L s Oc=true then((BP T L (B6 L s Oc).2).1,down (Bm L (BP T L (B6 L s Oc).2).2 V3).2)
 else HG L s
def Abo (n:Nat) (T B:Ad->PF):CZ:=(105,sE n T)::(107,sE n B)::Mc
structure We (n:Nat) (T B:List TK->PF):Prop where
 t:BH Tryz.prog 105 (sE n T)
 b:BH Tryz.prog 107 (sE n B)
theorem Aiz {n:Nat} {T B:Ad->PF} (h:We n T B):Es Tryz.prog (Abo n T B):=Dj h.t (Dj h.b Nh)
def zG (n:Nat) (T B:Ad->PF) (h:We n T B):Ctx:=zZ (Abo n T B) (Aiz h)
theorem AaP {n:Nat} {T B:Ad->PF} (hT:GF n 1 2 T) (Y:GF n 1 2 B):GF (n+1) 1 2 (firstM T B):=by
 intro L s K;have h:=K.ok;have ab:=K.lf;have S:=K.ns;unfold firstM;split
 ·rename_i e;exact XO h (L2 (by rw[e];decide)) (Py (by rw[e];decide)) (by decide)
 split
 ·rename_i e;exact XO h (Cg e) (JR e) (by decide)
 split
 ·rename_i e;exact XO h (Cg e) (JR e) (by decide)
 split
 ·rename_i e;have a1:=Gi h (Cg e);have g:=Jh (k:=1) a1 (by decide);have y:=g.am;have W:=g.ax;have R:=g.er;have Z:=g.eo;have V:=g.ns;have x:=JR e;refine⟨g.ok,V,?_,λe=>absurd x e,?_,λ_=>?_⟩
  ·have:s.at_+1<=(Bu L (A7 s) 1).2.at_:=y;show s.at_<=(Bu L (A7 s) 1).2.at_;omega
  ·have:s.at_+1<=(Bu L (A7 s) 1).2.at_:=y;show((sz _:Nat):Int)<=3*((Bu L (A7 s) 1).2.at_-s.at_)+2;rw[J8];omega
  ·have:s.at_+1<=(Bu L (A7 s) 1).2.at_:=y;show((sz _:Nat):Int)<=3*((Bu L (A7 s) 1).2.at_-s.at_);rw[J8];omega
 split
 ·rename_i e;have hl:=Cg e;have x:=JR e;have a1:=Gi h hl;have g:=PV (s:=A7 s) Y ⟨a1,λ_=>⟨a1,S,by show(L.length:Int)-(s.at_+1)<n;omega⟩⟩ (by decide);generalize BP B L (A7 s)=r at g⊢;have y:s.at_+1<=r.2.at_:=g.am;have W:(sz r.1:Int)<=3*(r.2.at_-(s.at_+1))+2:=g.ss;have R:r.2.err=0->(sz r.1:Int)<=3*(r.2.at_-(s.at_+1)):=g.so;refine⟨g.ok,g.ns,by show s.at_<=r.2.at_;omega,λe=>absurd x e,?_,λJ=>?_⟩
  ·show((sz _:Nat):Int)<=3*(r.2.at_-s.at_)+2;rw[Hk];omega
  ·have:=R J;show((sz _:Nat):Int)<=3*(r.2.at_-s.at_);rw[Hk];omega
 split
 ·rename_i e;have hl:=Cg e;have x:=JR e;have o:=P5 (w:=Oc) h (by omega);generalize(B6 L s Oc).2=q at o⊢;have o1:=o.am;have o2:=o.ax;have U:=o.eo;have o4:=o.ns;have g:=PV (s:=q) hT ⟨o.ok,λz=>⟨o.ok,by have:=U z;omega,by have:=U z;omega⟩⟩ (by decide);generalize BP T L q=r at g⊢;have y:=g.am;have W:=g.ss;have R:=g.so;have Z:=g.er;have V:=g.ns;have f:=GP (w:=V3) g.ok;generalize(Bm L r.2 V3).2=v at f⊢;have f1:=f.am;have f2:=f.ax;have f3:=f.eo;have f4:=f.er;have f5:=f.ns;have aa:=h.n0;refine⟨WY f.ok (by omega),by show v.nest-1=s.nest;omega,by show s.at_<=v.at_;omega,λe=>absurd x e,?_,λJ=>?_⟩
  ·show(sz r.1:Int)<=3*(v.at_-s.at_)+2;omega
  ·have J:v.err=0:=J;show(sz r.1:Int)<=3*(v.at_-s.at_);omega
 ·have:=iZ (L:=L) (s:=s) h;have t1:=this.ss;exact⟨this.ok,this.ns,this.am,this.er,by omega,this.so⟩
def IH (a:Ad) (b:RS):=(Aa/\Aa/\Aa/\(((D5 a/\Aa/\Ae (RS.at_ b+1))/\Aa/\Ae (RS.nest b))/\Aa/\Ae (RS.err b))/\Aa/\Ae (RS.BE b))
@[reducible] def Zo:Ad->RS->Prop:=λ(L:Ad) (s:RS)=>(IH L s)/\True
@[reducible] def jc:Ad->RS->Prop:=λ(L:Ad) (s:RS)=>(D6 L s)/\Aa/\Aa/\(qR/\True)/\CP L s
@[reducible] def jd:Ad->RS->Prop:=λ(L:Ad) (s:RS)=>Aa/\Aa/\(qR/\Ae [(40:UInt8)]/\True)/\CP L s
def qV (a:TK):=Ae (AV.agg [AV.int .i64 (TK.kind a),AV.bs (TK.text a),AV.int .i64 (TK.num a),AV.int .i64 (TK.line a),AV.int .i64 (TK.Av a)])
def qX (a:PT):=(Ca 1 λ(r:Nat)=>getD [vW (flat a)] r AV.AW)
def Gw (a:Nat) (b:Ad->PF):=(∀(x:Ad) (r:RS),A9 x a r->Cs x (1:Int) (2:Int) r (b x r))
def Ga (a:PT) (b:Nat):=getD [vW (flat a)] b AV.AW
def Qc (a:RS):=RS.mk (RS.at_ a) (RS.nest a-1) (RS.err a) (RS.BE a)
def Qk (a:Ad) (b:RS):=(∃(r:Ad),vK a=vK r/\AJ r (qN b)/\((1:Int)=(0:Int)->False))
def Eb (a:TK):=(TK.text a)
def Gb (a:Ad) (b:PT):=BX a (vW (flat b))
def Mq (a:Ad) (b:RS):=Bu (kL (vK a)) (qN b) (1:Int)
def Nw (a:RS):=Ap (Bf .i64 (RS.nest a-1))
def II (a:TK):=((qV a/\True)/\True)
def fk:=[(110:UInt8),117,108,108]
def fY:=[(110:UInt8),101,119]
def Ms (a:Ad):=Zo a
def fw:=[(105:UInt8),116]
def ND (a:Ad):=B6 (kL (vK a))
theorem AmU:∀(n:Nat) (T B:Ad->PF),We n T B->∀(L:Ad) (s:RS) (t:PT×RS),A9 L (n+1) s->(Gw n T)->(Gw n B)->t=firstM T B L s->jc L s/\∀(y:TK),y=Ek L s->Ag (Nz y (3:Int)) (C5 s (BX L (vW (Be (26:Int) [] (TK.num y) y [])) (qN s) t)) (((∃(r:Ad),vK L=vK r/\AJ r s/\Nat.le 1 (List.length fk))/\Aa/\Aa/\(qR/\Ae fk/\True)/\CP L s)/\Ag (Ay (B3 L s fk)) (C5 s (BX L (vW (Be (27:Int) [] (0:Int) y [])) (qN s) t)) (((∃(r:Ad),vK L=vK r/\AJ r s/\Nat.le 1 (List.length fw))/\Aa/\Aa/\(qR/\Ae fw/\True)/\CP L s)/\Ag (Ay (B3 L s fw)) (C5 s (BX L (vW (Be (28:Int) [] (0:Int) y [])) (qN s) t)) (((∃(r:Ad),vK L=vK r/\AJ r s/\Nat.le 1 (List.length fY))/\Aa/\Aa/\(qR/\Ae fY/\True)/\CP L s)/\Ag (Ay (B3 L s fY)) (C5 s (((Qk L s)/\Aa/\Aa/\KF/\Ms L s)/\∀(x:TK×RS),x=Mq L s->((II y)/\DE/\DE/\True)/\BX L (vW (Be (33:Int) (Eb x.1) (0:Int) y [])) x.2 t)) ((U2 L s)/\Ag (Ay (B3 L s OX)) (C5 s (((∃(r:Ad),vK L=vK r/\HK r n (qN s))/\Aa/\Aa/\(qR/\True)/\Ms L s)/\∀(x:PT×RS),x=BP B (kL (vK L)) (qN s)->(Nat.blt 12 15=true/\Aa/\BW 1 λ(i:Nat)=>Ga x.1 i)/\(DE/\DE/\(II y)/\True)/\BX L (vW (Be (36:Int) [] (0:Int) y (qX x.1))) x.2 t)) (((∃(r:Ad),vK L=vK r/\AJ r s/\Nat.le 1 (List.length [(40:UInt8)]))/\jd L s)/\Ag (Ay (B3 L s [(40:UInt8)])) (((∃(r:Ad),vK L=vK r/\AJ r s/\Nat.le 1 (List.length [(40:UInt8)])/\Nu s)/\jd L s)/\∀(y:TK×RS),y=ND L s [(40:UInt8)]->((∃(r:Ad),vK L=vK r/\HK r n y.2)/\Aa/\Aa/\(qR/\True)/\(qP L y.2)/\True)/\∀(x:PT×RS),x=BP T (kL (vK L)) y.2->((∃(r:Ad),vK L=vK r/\AJ r x.2/\Nat.le 1 (List.length [(41:UInt8)]))/\Aa/\Aa/\(qR/\Ae [(41:UInt8)]/\True)/\(qP L x.2)/\True)/\∀(y:TK×RS),y=GJ L x.2 [(41:UInt8)]->Nw y.2 (Gb L x.1 (Qc y.2) t)) (jc L s/\∀(y:PT×RS),y=HG (kL (vK L)) s->Gb L y.1 y.2 t))))))
:=by
 delta qN qP qR qV qX BX C5 Gw Ga B3 DE CP GJ U2 Qc Qk KF Eb Gb Ek Mq Nw II Nu fk OX fY Ms Nz fw ND;intro n T B AA L s t hp hT hB ht;simp only[Bq,D5,Kk,Zo,jc,jd,BQ,qP,IH,qR,D6,CP];simp only[Dt];have h:=hp.ok;have ad:=hp.lf;have aa:=hp.ns;have h0:=h.a0;have h1:=h.a1;have hl:=h.len;have ab:=h.n0;have J:Bf IntKind.i64 (s.at_+1)=true:=AU.2 (by omega);refine⟨A4 h,λy hy=>?_⟩;subst hy;unfold firstM at ht;refine Ao (λK=>?_) λK=>⟨A4 ⟨h,by decide⟩,Ao (λR=>?_) λR=>⟨A4 ⟨h,by decide⟩,Ao (λU=>?_) λU=>⟨A4 ⟨h,by decide⟩,Ao (λS=>?_) λS=>⟨A4 ⟨h,by decide⟩,Ao (λV=>?_) λV=>⟨A4 ⟨h,by decide⟩,Ao (λY=>?_) λY=>?_⟩⟩⟩⟩⟩
 ·rw[Ba]at K;rw[As K]at ht;exact Am J (M8 ht)
 ·rw[An (BB.1 K),As (show A5 L s Tg=true from R)]at ht;exact Am J (M8 ht)
 ·rw[An (BB.1 K),An (nb (show A5 L s Tg=false from R)),As (show A5 L s V0=true from U)]at ht;exact Am J (M8 ht)
 ·rw[An (BB.1 K),An (nb (show A5 L s Tg=false from R)),An (nb (show A5 L s V0=false from U)),As (show A5 L s Y1=true from S)]at ht;exact Am J ⟨A4 ⟨Gi h (Cg S),λh=>by cases h⟩,λy hy=>M8 (by rw[ht,hy];rfl)⟩
 ·rw[An (BB.1 K),An (nb (show A5 L s Tg=false from R)),An (nb (show A5 L s V0=false from U)),An (nb (show A5 L s Y1=false from S)),As (show A5 L s Tf=true from V)]at ht;have W:=Cg V;have a1:=Gi h W;have pa:HK L n (A7 s):=⟨a1,λ_=>⟨a1,aa,by show(L.length:Int)-(s.at_+1)<n;omega⟩⟩;refine Am J ⟨A4 pa,λy hy=>?_⟩;have hy:y=BP B L (A7 s):=hy;have g:=PV (s:=A7 s) hB pa (by decide);rw[<-hy]at g ht;have b:=g.EI a1 (by decide);exact PL rfl (by omega) rfl ht
 ·rw[An (BB.1 K),An (nb (show A5 L s Tg=false from R)),An (nb (show A5 L s V0=false from U)),An (nb (show A5 L s Y1=false from S)),An (nb (show A5 L s Tf=false from V)),As (show A5 L s Oc=true from Y)]at ht;have W:=Cg Y;refine⟨A4 ⟨h,by decide,(show s.nest<=900 by omega)⟩,λq Z=>?_⟩;have Z:q=B6 L s Oc:=Z;have o:=P5 (w:=Oc) h (by omega);rw[<-Z]at o ht;have o1:=o.am;have o2:=o.ax;have o3:=o.eo;have o4:=o.ns;have pq:HK L n q.2:=⟨o.ok,λz=>⟨o.ok,by have:=o3 z;omega,by have:=o3 z;omega⟩⟩;refine⟨A4 pq,λy hy=>?_⟩;have g:=PV hT pq (by decide);rw[<-hy]at g ht;refine⟨A4 ⟨g.ok,by decide⟩,λz hz=>?_⟩;have hz:z=Bm L y.2 V3:=hz;have f:=GP (w:=V3) g.ok;rw[<-hz]at f ht;have g1:=g.ns;have f1:=f.ns;exact Am (AU.2 (by omega)) (HP (y:=(y.1,down z.2)) ht)
 ·rw[An (BB.1 K),An (nb (show A5 L s Tg=false from R)),An (nb (show A5 L s V0=false from U)),An (nb (show A5 L s Y1=false from S)),An (nb (show A5 L s Tf=false from V)),An (nb (show A5 L s Oc=false from Y))]at ht;exact⟨A4 h,λy hy=>HP (ht.trans hy.symm)⟩
theorem AmT:∀(n:Nat) (T B:Ad->PF) (AA:We n T B) (L:Ad) (s:RS) (t:PT×RS),A9 L (n+1) s->GF n 1 2 T->GF n 1 2 B->t=firstM T B L s->(A3 (zG n T B AA) 60).call 104 [.ptr 0 0] (BU (B2 [Bw (vK L) s] 0)) 1 (GZ (vK L) t):=Eq.mpr (by kernel_rfl) AmU
theorem Akn {n:Nat} {T B:Ad->PF} (h:We n T B) (hT:GF n 1 2 T) (x:GF n 1 2 B):BH Tryz.prog 104 (sF (n+1) (firstM T B)):=Iq λL s r=>⟨zG n T B h,60,rfl,Dq,Bk,λt ht=>AmT n T B h L s t r hT x ht⟩
def YZ:Aj:=[46]
def K2:Aj:=[91]
def V2:Aj:=[93]
def Ub (L:Ad) (x:PT) (s:RS):PT×RS:=(nd 30 (Bu L (A7 s) 1).1.text 0 (AY L s) [x],(Bu L (A7 s) 1).2)
def RK (T:Ad->PF) (L:Ad) (x:PT) (s:RS):PT×RS:=(nd 31 [] 0 (B6 L s K2).1 [x,(BP T L (B6 L s K2).2).1],down (Bm L (BP T L (B6 L s K2).2).2 V2).2)
def KW (T:Ad->PF) (L:Ad):Nat->PT->RS->PT×RS
 |0,x,s=>(x,s)
 |k+1,x,s=>if A5 L s YZ=true then KW T L k (Ub L x s).1 (Ub L x s).2 else if A5 L s K2=true then KW T L k (RK T L x s).1 (RK T L x s).2 else(x,s)
def Fc (L:Ad) (s:RS):Nat:=2*((L.length:Int)-s.at_).toNat+(if s.err=0 then 1 else 0)
def EW (L:Ad):Nat:=2*L.length+2
def S9 (T:Ad->PF) (r:Ad->PF) (L:Ad):PF:=λs=>KW T L (EW L) (r L s).1 (r L s).2
structure Jb (L:List TK) (f:Nat->PT->RS->PT×RS) (t:PT×RS) (s0:RS) (x:PT×RS):Prop where
 k:∃k,Fc L x.2<k/\f k x.1 x.2=t
 p:Cs L 1 2 s0 x
def AeH (L:Ad) (f:Nat->PT->RS->PT×RS) (t:PT×RS) (s0:RS) (ks:List Nat) (r:Nat):B0:={X:=PT×RS,T:=λs _ x=>(r,vW (flat x.1))::Ig s ks,H:=λs n0 x=>[(0,Bw (vK L) x.2)],nx:=λs _=>s.nx,I:=λs x=>Jb L f t s0 x,m:=λx=>Fc L x.2}
def htN (n:Nat) (T r:Ad->PF):CZ:=(105,sE n T)::(104,sF (n+1) r)::Mc
structure Wf (n:Nat) (T Fi:List TK->PF):Prop where
 t:BH Tryz.prog 105 (sE n T)
 f:BH Tryz.prog 104 (sF (n+1) Fi)
theorem AiA {n:Nat} {T r:Ad->PF} (h:Wf n T r):Es Tryz.prog (htN n T r):=Dj h.t (Dj h.f Nh)
def zN (n:Nat) (T x:Ad->PF) (h:Wf n T x) (L:Ad) (t:PT×RS) (s0:RS):Ctx:={P:=Tryz.prog,tb:=[],ht:=htN n T x,AA:=AiA h,lp:=λf r=>cond (Nat.beq f 102) (cond (Nat.beq r 2) (some (AeH L (KW T L) t s0 [0] 3)) none) none,cut:=λ_ _=>none}
theorem eI {L:Ad} {s r:RS} (h:AJ L r) (x:s.err=0) (z:s.at_<=r.at_) (y:r.err=0->s.at_<r.at_):Fc L r<Fc L s:=by
 have:=h.a1;unfold Fc;rw[As x];split
 ·rename_i e;have:=y e;omega
 ·omega
theorem UN {L:Ad} {s:RS} (h:AJ L s):Fc L s<EW L:=by have:=h.a0;unfold Fc EW;split<;>omega
theorem zh {L:Ad} {s0 s:RS} {x:PT} (h:Cs L 1 2 s0 (x,s)) (hd:A5 L s YZ=true):Cs L 1 2 s0 (Ub L x s)/\Fc L (Ub L x s).2<Fc L s:=by
 have r:=JR hd;have hl:=Cg hd;have AA:AJ L s:=h.ok;have a1:=Gi AA hl;have g:=Jh (k:=1) a1 (by decide);have R:s.at_+1<=(Bu L (A7 s) 1).2.at_:=g.am;have K:(Bu L (A7 s) 1).2.nest=s.nest:=g.ns;have J:s0.at_<=s.at_:=h.am;have B:s.nest=s0.nest:=h.ns;have z:(sz x:Int)<=3*(s.at_-s0.at_):=h.so r;refine⟨⟨g.ok,by show(Bu L (A7 s) 1).2.nest=_;omega,by show s0.at_<=(Bu L (A7 s) 1).2.at_;omega,λe=>absurd r (h.er e).1,?_,λy=>?_⟩,eI g.ok r ?_ λy=>?_⟩
 ·show((sz (nd 30 (Bu L (A7 s) 1).1.text 0 (AY L s) [x]):Nat):Int)<=3*((Bu L (A7 s) 1).2.at_-s0.at_)+2;rw[Hk];omega
 ·show((sz (nd 30 (Bu L (A7 s) 1).1.text 0 (AY L s) [x]):Nat):Int)<=3*((Bu L (A7 s) 1).2.at_-s0.at_);rw[Hk];omega
 ·show s.at_<=(Bu L (A7 s) 1).2.at_;omega
 ·show s.at_<(Bu L (A7 s) 1).2.at_;omega
theorem AbA {n:Nat} {T:Ad->PF} (hT:GF n 1 2 T) {L:Ad} {s0 s:RS} {x:PT} (h:Cs L 1 2 s0 (x,s)) (hn:s0.nest<=64) (U:(L.length:Int)-s0.at_<(n:Int)+1) (hd:A5 L s K2=true):HK L n (B6 L s K2).2/\Cs L 1 2 s0 (RK T L x s)/\Fc L (RK T L x s).2<Fc L s:=by
 have B:=JR hd;have hl:=Cg hd;have AA:AJ L s:=h.ok;have Y:s0.at_<=s.at_:=h.am;have W:s.nest=s0.nest:=h.ns;have V:(sz x:Int)<=3*(s.at_-s0.at_):=h.so B;have R:s0.err≠0->s.err≠0:=λe=>(h.er e).1;have o:=P5 (w:=K2) AA (show s.nest<=900 by omega);unfold RK;generalize(B6 L s K2)=q at o⊢;have o1:=o.am;have o2:=o.ax;have K:=o.eo;have o4:=o.ns;have Z:=o.er;have J:HK L n q.2:=⟨o.ok,λz=>⟨o.ok,by have:=K z;omega,by have:=K z;omega⟩⟩;have g:=PV hT J (by decide);generalize BP T L q.2=r at g⊢;have g1:=g.am;have g2:=g.ss;have g3:=g.so;have g4:=g.er;have g5:=g.ns;have f:=GP (w:=V2) g.ok;generalize(Bm L r.2 V2).2=v at f⊢;have f1:=f.am;have f2:=f.ax;have f3:=f.eo;have f4:=f.er;have f5:=f.ns;have S:=AA.n0;refine⟨J,⟨WY f.ok (by omega),by show v.nest-1=_;omega,by show s0.at_<=v.at_;omega,λe=>absurd B (R e),?_,λy=>?_⟩,eI (WY f.ok (by omega)) B ?_ λy=>?_⟩
 ·show((sz _:Nat):Int)<=3*(v.at_-s0.at_)+2;rw[JC];omega
 ·have y:v.err=0:=y;show((sz _:Nat):Int)<=3*(v.at_-s0.at_);rw[JC];omega
 ·show s.at_<=v.at_;omega
 ·have y:v.err=0:=y;show s.at_<v.at_;omega
theorem wZ {n:Nat} {T:Ad->PF} (hT:GF n 1 2 T) {L:Ad} {s0:RS} (hn:s0.nest<=64) (r:(L.length:Int)-s0.at_<(n:Int)+1):∀(k:Nat) (x:PT) (s:RS),Cs L 1 2 s0 (x,s)->Cs L 1 2 s0 (KW T L k x s)
 |0,x,s,h=>h
 |k+1,x,s,h=>by
  unfold KW;split
  ·rename_i e;exact wZ hT hn r k _ _ (zh h e).1
  split
  ·rename_i e;exact wZ hT hn r k _ _ (AbA hT h hn r e).2.1
  ·exact h
theorem Ae1 {n:Nat} {T x:Ad->PF} (hT:GF n 1 2 T) (y:GF (n+1) 1 2 x):GF (n+1) 1 2 (S9 T x):=by intro L s r;exact wZ hT r.ns (by have:=r.lf;omega) _ _ _ (y L s r)
@[reducible] def je:Ad->TK×RS->PT×RS->Prop:=λ(L:Ad) (a:TK×RS) (r:PT×RS)=>FQ L/\Aa/\RS.at_ a.2=RS.at_ r.2
@[reducible] def Oi:Ad->PT×RS->Prop:=λ(L:Ad) (a:PT×RS)=>(qP L a.2)/\True
def El (a:Ad):=Oi a
@[reducible] def Zp:Ad->PT×RS->Prop:=λ(L:Ad) (a:PT×RS)=>(D6 L a.2)/\Aa/\Aa/\(qR/\True)/\El L a
@[reducible] def Tt:Nat->Ad->TK×RS->Prop:=λ(n:Nat) (L:Ad) (a:TK×RS)=>(∃(r:Ad),vK L=vK r/\HK r n a.2)/\Aa/\Aa/\(qR/\True)/\(qP L a.2)/\True
@[reducible] def jg:Ad->PT×RS->Prop:=λ(L:Ad) (a:PT×RS)=>Aa/\Aa/\(qR/\Ae [(91:UInt8)]/\True)/\El L a
@[reducible] def Zq:Ad->PT×RS->Prop:=λ(L:Ad) (a:PT×RS)=>(∃(r:Ad),vK L=vK r/\AJ r a.2/\Nat.le 1 (List.length [(46:UInt8)]))/\Aa/\Aa/\(qR/\Ae [(46:UInt8)]/\True)/\El L a
@[reducible] def jh:Ad->PT×RS->Prop:=λ(L:Ad) (a:PT×RS)=>(∃(r:Ad),vK L=vK r/\AJ r a.2/\Nat.le 1 (List.length [(91:UInt8)])/\Nu a.2)/\jg L a
@[reducible] def ji:Ad->PT×RS->Prop:=λ(L:Ad) (a:PT×RS)=>(Qk L a.2)/\Aa/\Aa/\KF/\(IH L a.2)/\True
def qT (a:PT) (b:Nat):=getD (flat a) b LT.none
def OL (a:TK) (b:TK) (c:PT) (d:Nat):=getD (Be (30:Int) (TK.text a) (0:Int) b (qX c)) d LT.none
def J3 (a:Ad) (b:RS) (c:RS):=Nat.le (Nat.succ (Fc a b)) (Fc a c)
def Lk (a:PT):=List.length (flat a)
def Qq (a:PT) (b:Nat):=List.length (LT.kids (qT a b))
def U6 (a:PT) (b:Nat) (c:Nat):=getD (LT.kids (qT a b)) c (0:Int)
@[reducible] def jj:(Ad->PF)->Ad->RS->PT×RS->PT×RS->TK->TK×RS->Prop:=λ(T:Ad->PF) (L:Ad) (s:RS) (t a:PT×RS) (x:TK) (r:TK×RS)=>((II x)/\DE/\DE/\True)/\∃(y:PT×RS),Jb L (KW T L) t s y/\J3 L y.2 a.2/\Aa/\((Aa/\List.length (Be (30:Int) (Eb r.1) (0:Int) x (qX a.1))=Lk y.1/\Ar λ(i:Nat)=>BQ i (List.length (Be (30:Int) (Eb r.1) (0:Int) x (qX a.1)))->(Aa/\LT.kind (OL r.1 x a.1 i)=LT.kind (qT y.1 i))/\LT.text (OL r.1 x a.1 i)=LT.text (qT y.1 i)/\(Aa/\LT.n (OL r.1 x a.1 i)=LT.n (qT y.1 i))/\(Aa/\LT.line (OL r.1 x a.1 i)=LT.line (qT y.1 i))/\(Aa/\LT.Av (OL r.1 x a.1 i)=LT.Av (qT y.1 i))/\(Aa/\List.length (LT.kids (OL r.1 x a.1 i))=Qq y.1 i/\Ar λ(z:Nat)=>BQ z (List.length (LT.kids (OL r.1 x a.1 i)))->(Aa/\getD (LT.kids (OL r.1 x a.1 i)) z (0:Int)=U6 y.1 i z)/\True)/\True)/\qR/\True)/\(Aa/\Aa/\Aa/\Aa/\((je L r y/\Aa/\RS.nest r.2=RS.nest y.2)/\Aa/\RS.err r.2=RS.err y.2)/\Aa/\RS.BE r.2=RS.BE y.2)/\True
def qO (a:PT) (b:PT):=(Ca 2 λ(r:Nat)=>getD [vW (flat a),vW (flat b)] r AV.AW)
def OM (a:TK) (b:PT) (c:PT) (d:Nat):=getD (Be (31:Int) [] (0:Int) a (qO b c)) d LT.none
@[reducible] def jf:(Ad->PF)->Ad->RS->PT×RS->PT×RS->TK×RS->PT×RS->Prop:=λ(T:Ad->PF) (L:Ad) (s:RS) (t a:PT×RS) (x:TK×RS) (r:PT×RS)=>(DE/\DE/\(II x.1)/\True)/\((∃(J:Ad),vK L=vK J/\AJ J r.2/\Nat.le 1 (List.length [(93:UInt8)]))/\Aa/\Aa/\(qR/\Ae [(93:UInt8)]/\True)/\El L r)/\∀(y:TK×RS),y=GJ L r.2 [(93:UInt8)]->Nw y.2 (∃(z:PT×RS),Jb L (KW T L) t s z/\J3 L z.2 a.2/\Aa/\((Aa/\List.length (Be (31:Int) [] (0:Int) x.1 (qO a.1 r.1))=Lk z.1/\Ar λ(i:Nat)=>BQ i (List.length (Be (31:Int) [] (0:Int) x.1 (qO a.1 r.1)))->(Aa/\LT.kind (OM x.1 a.1 r.1 i)=LT.kind (qT z.1 i))/\LT.text (OM x.1 a.1 r.1 i)=LT.text (qT z.1 i)/\(Aa/\LT.n (OM x.1 a.1 r.1 i)=LT.n (qT z.1 i))/\(Aa/\LT.line (OM x.1 a.1 r.1 i)=LT.line (qT z.1 i))/\(Aa/\LT.Av (OM x.1 a.1 r.1 i)=LT.Av (qT z.1 i))/\(Aa/\List.length (LT.kids (OM x.1 a.1 r.1 i))=Qq z.1 i/\Ar λ(B:Nat)=>BQ B (List.length (LT.kids (OM x.1 a.1 r.1 i)))->(Aa/\getD (LT.kids (OM x.1 a.1 r.1 i)) B (0:Int)=U6 z.1 i B)/\True)/\True)/\qR/\True)/\(Aa/\Aa/\Aa/\Aa/\((je L y z/\Aa/\RS.nest y.2-1=RS.nest z.2)/\Aa/\RS.err y.2=RS.err z.2)/\Aa/\RS.BE y.2=RS.BE z.2)/\True)
def qZ (a:PT) (b:PT):=((Aa/\List.length (flat a)=List.length (flat b)/\Ar λ(r:Nat)=>Nat.le (Nat.succ r) (List.length (flat a))->(Aa/\LT.kind (qT a r)=LT.kind (qT b r))/\LT.text (qT a r)=LT.text (qT b r)/\(Aa/\LT.n (qT a r)=LT.n (qT b r))/\(Aa/\LT.line (qT a r)=LT.line (qT b r))/\(Aa/\LT.Av (qT a r)=LT.Av (qT b r))/\(Aa/\List.length (LT.kids (qT a r))=List.length (LT.kids (qT b r))/\Ar λ(x:Nat)=>Nat.le (Nat.succ x) (List.length (LT.kids (qT a r)))->(Aa/\getD (LT.kids (qT a r)) x (0:Int)=getD (LT.kids (qT b r)) x (0:Int))/\True)/\True)/\qR/\True)
def Mp (a:Ad) (b:RS) (c:RS):=(Aa/\Aa/\Aa/\Aa/\(((D5 a/\Aa/\RS.at_ b=RS.at_ c)/\Aa/\RS.nest b=RS.nest c)/\Aa/\RS.err b=RS.err c)/\Aa/\RS.BE b=RS.BE c)
def Gx (a:PT) (b:PT) (c:Nat):=getD [vW (flat a),vW (flat b)] c AV.AW
def Sc (a:Nat) (b:Ad->PF):=(∀(x:Ad) (r:RS),A9 x (a+1) r->Cs x (1:Int) (2:Int) r (b x r))
def Nv (a:Ad) (b:Nat) (c:RS):=(∃(r:Ad),vK a=vK r/\A9 r (b+1) c)
def DF (a:Ad->PF) (b:Ad) (c:RS):=a (kL (vK b)) c
def OY (a:Ad):=Zp a
theorem AoT:∀(n:Nat) (T U:Ad->PF),Wf n T U->∀(L:Ad) (s:RS) (t:PT×RS),A9 L (n+1) s->(Gw n T)->(Sc n U)->t=S9 T U L s->((Nv L n s)/\Aa/\Aa/\(qR/\True)/\(qP L s)/\True)/\∀(y:PT×RS),y=DF U L s->(∃(Z:PT×RS),Jb L (KW T L) t s Z/\Aa/\(qZ y.1 Z.1)/\(Mp L y.2 Z.2)/\True)/\∀(x:PT×RS),Jb L (KW T L) t s x->Zq L x/\Ag (Ay (B3 L x.2 [(46:UInt8)])) (Zq L x/\Ag (Ay (B3 L x.2 [(46:UInt8)])) (OY L x/\∀(y:TK),y=Ek L x.2->C5 x.2 (ji L x/\∀(B:TK×RS),B=Mq L x.2->(Nat.blt 13 16=true/\Aa/\BW 1 λ(i:Nat)=>Ga x.1 i)/\jj T L s t x y B)) (jh L x/\∀(y:TK×RS),y=ND L x.2 [(91:UInt8)]->Tt n L y/\∀(B:PT×RS),B=BP T (kL (vK L)) y.2->(Nat.blt 11 14=true/\Aa/\BW 2 λ(i:Nat)=>Gx x.1 B.1 i)/\jf T L s t x y B)) (((∃(Y:Ad),vK L=vK Y/\AJ Y x.2/\Nat.le 1 (List.length [(91:UInt8)]))/\jg L x)/\Ag (Ay (B3 L x.2 [(91:UInt8)])) (Zq L x/\Ag (Ay (B3 L x.2 [(46:UInt8)])) (OY L x/\∀(y:TK),y=Ek L x.2->C5 x.2 (ji L x/\∀(B:TK×RS),B=Mq L x.2->(Nat.blt 14 17=true/\Aa/\BW 1 λ(i:Nat)=>Ga x.1 i)/\jj T L s t x y B)) (jh L x/\∀(y:TK×RS),y=ND L x.2 [(91:UInt8)]->Tt n L y/\∀(B:PT×RS),B=BP T (kL (vK L)) y.2->(Nat.blt 12 15=true/\Aa/\BW 2 λ(i:Nat)=>Gx x.1 B.1 i)/\jf T L s t x y B)) (Gb L x.1 x.2 t))
:=by
 delta qN qP qR qT qZ Mp BX C5 Gw Ga Gx B3 Sc Gb Ek Mq Nv DF OY ND;intro n T U AA L s t W hT hF ht;simp only[Bq,D5,je,Oi,Zp,Tt,jg,Zq,jh,ji,jj,jf,BQ,FQ,qP,qR,D6,El,Nu,qN,IH,Qk,KF,qT,qV,qX,DE,OL,J3,Eb,II,Lk,Qq,U6,qO,GJ,OM,Nw];simp only[Dt];refine⟨A4 W,λy hy=>?_⟩;have py:=hF L s W;have ad:=W.ok;have ab:=W.ns;have af:=W.lf;have hy:y=U L s:=hy;rw[<-hy]at py;refine⟨⟨y,⟨⟨EW L,UN py.ok,by rw[ht,hy];rfl⟩,py⟩,KU rfl,Hi rfl⟩,λx hx=>?_⟩;obtain⟨⟨k,hk,J⟩,V⟩:=hx;have h:=V.ok;have h0:=h.a0;have h1:=h.a1;have hl:=h.len;have ae:=h.n0;have e5:=V.ns;have bx:=V.EI ad (by decide);cases k with
 |zero=>omega
 |succ k=>
 unfold KW at J;have aa:Bf IntKind.i64 (x.2.at_+1)=true:=AU.2 (by omega);refine⟨A4 ⟨h,by decide⟩,Ao (λK=>⟨A4 ⟨h,by decide⟩,Ao (λ_=>?_) λR=>?_⟩) λK=>?_⟩
 ·rw[As (show A5 L x.2 YZ=true from K)]at J;obtain⟨d1,d2⟩:=zh V K;refine⟨A4 h,λy hy=>Am aa ⟨A4 ⟨Gi h (Cg K),λh=>by cases h⟩,λz hz=>?_⟩⟩;have hz:z=Bu L (A7 x.2) 1:=hz;have w:=w9 (k:=30) (n:=0) (x:=z.1.text) (tk:=y) (g:=λi=>[vW (flat x.1)].getD i .AW) (show sz x.1<=1000000 by omega) rfl;refine⟨⟨rfl,w.1⟩,Ub L x.1 x.2,⟨⟨k,by omega,J⟩,d1⟩,d2,KU ?_,Hi ?_⟩
  ·rw[w.2,hy,hz];rfl
  ·rw[hz];rfl
 ·rw[show A5 L x.2 [46]=true from K]at R;cases R
 ·refine⟨A4 ⟨h,by decide⟩,Ao (λR=>⟨A4 ⟨h,by decide⟩,Ao (λe3=>?_) λ_=>?_⟩) λR=>?_⟩
  ·rw[show A5 L x.2 [46]=false from K]at e3;cases e3
  ·rw[An (nb (show A5 L x.2 YZ=false from K)),As (show A5 L x.2 K2=true from R)]at J;obtain⟨d0,d1,d2⟩:=AbA hT V ab (by omega) R;refine⟨A4 ⟨h,by decide,(show x.2.nest<=900 by omega)⟩,λq S=>?_⟩;have S:q=B6 L x.2 K2:=S;rw[<-S]at d0;refine⟨A4 d0,λr hr=>?_⟩;have g:=PV hT d0 (by decide);rw[<-hr]at g;have br:=g.EI d0.ok (by decide);have o:=P5 (w:=K2) h (show x.2.nest<=900 by omega);rw[<-S]at o;have o4:=o.ns;have g5:=g.ns;have w:=Afc (k:=31) (n:=0) (x:=[]) (tk:=q.1) (y:=x.1) (z:=r.1) (g:=λi=>[vW (flat x.1),vW (flat r.1)].getD i .AW) (show sz x.1+sz r.1<=1000000 by omega) rfl rfl;refine⟨⟨rfl,w.1⟩,A4 ⟨g.ok,by decide⟩,λz hz=>?_⟩;have hz:z=Bm L r.2 V2:=hz;have f:=GP (w:=V2) g.ok;rw[<-hz]at f;have f1:=f.ns;refine Am (AU.2 (by omega)) ⟨RK T L x.1 x.2,⟨⟨k,by omega,J⟩,d1⟩,d2,KU ?_,Hi (a:=down z.2) ?_⟩
   ·rw[w.2,hr,S];rfl
   ·rw[hz,hr,S];rfl
  ·rw[An (nb (show A5 L x.2 YZ=false from K)),An (nb (show A5 L x.2 K2=false from R))]at J;exact HP (y:=x) J.symm
theorem AoS:∀(n:Nat) (T r:Ad->PF) (AA:Wf n T r) (L:Ad) (s:RS) (t:PT×RS),A9 L (n+1) s->GF n 1 2 T->GF (n+1) 1 2 r->t=S9 T r L s->(A3 (zN n T r AA L t s) 60).call 102 [.ptr 0 0] (BU (B2 [Bw (vK L) s] 0)) 1 (GZ (vK L) t):=Eq.mpr (by kernel_rfl) AoT
theorem Ak9 {n:Nat} {T r:Ad->PF} (h:Wf n T r) (hT:GF n 1 2 T) (y:GF (n+1) 1 2 r):BH Tryz.prog 102 (sF (n+1) (S9 T r)):=Iq λL s x=>⟨zN n T r h L (S9 T r L s) s,60,rfl,Dq,Bk,λt ht=>by subst ht;exact AoS n T r h L s _ x hT y rfl⟩
def Abv (n:Nat) (F:Ad->PF):CZ:=(98,sF n F)::Mc
structure Zg (n:Nat) (F:List TK->PF):Prop where
 f:BH Tryz.prog 98 (sF n F)
theorem AiF {n:Nat} {F:Ad->PF} (h:Zg n F):Es Tryz.prog (Abv n F):=Dj h.f Nh
def z4 (n:Nat) (F:Ad->PF) (h:Zg n F):Ctx:=K7 (Abv n F) (AiF h)
def Abx (n:Nat) (F:Ad->PF):CZ:=(106,sF n F)::Mc
structure Zh (n:Nat) (F:List TK->PF):Prop where
 f:BH Tryz.prog 106 (sF n F)
theorem AiG {n:Nat} {F:Ad->PF} (h:Zh n F):Es Tryz.prog (Abx n F):=Dj h.f Nh
def zb (n:Nat) (F:Ad->PF) (h:Zh n F):Ctx:=K7 (Abx n F) (AiG h)
def Abm (n:Nat) (F:Ad->PF):CZ:=(74,sF n F)::Mc
structure Zf (n:Nat) (F:List TK->PF):Prop where
 f:BH Tryz.prog 74 (sF n F)
theorem Aiw {n:Nat} {F:Ad->PF} (h:Zf n F):Es Tryz.prog (Abm n F):=Dj h.f Nh
def yv (n:Nat) (F:Ad->PF) (h:Zf n F):Ctx:=K7 (Abm n F) (Aiw h)
theorem xJ {i:Nat} (hi:i.succ<=1):0=([LT.none].getD i LT.none).kind/\[]=([LT.none].getD i LT.none).text/\0=([LT.none].getD i LT.none).n/\0=([LT.none].getD i LT.none).line/\0=([LT.none].getD i LT.none).Av/\([LT.none].getD i LT.none).kids.length=0:=by
 obtain rfl:i=0:=by omega
 exact⟨rfl,rfl,rfl,rfl,rfl,rfl⟩
theorem sk {g:FuncId} {fz r:Nat} {pre:Ad->RS->Prop} {F:Ad->PF} (h:BH Tryz.prog g (dY fz pre F).Oq):BH Tryz.prog g (dY r pre F).Oq:=h
def qL (a:RS) (b:Ad->PF) (c:Ad) (d:Nat):=Ag (!Au (RS.err a) (0:Int)) (Aa/\((Aa/\1=List.length (flat (Prod.fst (BP b c a)))/\Ar λ(y:Nat)=>Nat.le (Nat.succ y) 1->(Aa/\(0:Int)=LT.kind (getD (flat (Prod.fst (BP b c a))) y LT.none))/\[]=LT.text (getD (flat (Prod.fst (BP b c a))) y LT.none)/\(Aa/\(0:Int)=LT.n (getD (flat (Prod.fst (BP b c a))) y LT.none))/\(Aa/\(0:Int)=LT.line (getD (flat (Prod.fst (BP b c a))) y LT.none))/\(Aa/\(0:Int)=LT.Av (getD (flat (Prod.fst (BP b c a))) y LT.none))/\List.length (LT.kids (getD (flat (Prod.fst (BP b c a))) y LT.none))=0/\True)/\True)/\(Aa/\Aa/\Aa/\Aa/\(((D5 c/\Aa/\RS.at_ a=RS.at_ (Prod.snd (BP b c a)))/\Aa/\RS.nest a=RS.nest (Prod.snd (BP b c a)))/\Aa/\RS.err a=RS.err (Prod.snd (BP b c a)))/\Aa/\RS.BE a=RS.BE (Prod.snd (BP b c a)))/\True) (((∃(B:Ad),vK c=vK B/\A9 B d a)/\Aa/\Aa/\((Ae (some 0)/\Aa)/\True)/\(Aa/\Aa/\Aa/\(((D5 c/\Aa/\Ae (RS.at_ a))/\Aa/\Ae (RS.nest a))/\Aa/\Ae (RS.err a))/\Aa/\Ae (RS.BE a))/\True)/\∀(x:PT×RS),x=b (kL (vK c)) a->Aa/\((Aa/\List.length (flat x.1)=List.length (flat (Prod.fst (BP b c a)))/\Ar λ(r:Nat)=>Nat.le (Nat.succ r) (List.length (flat x.1))->(Aa/\LT.kind (getD (flat x.1) r LT.none)=LT.kind (getD (flat (Prod.fst (BP b c a))) r LT.none))/\LT.text (getD (flat x.1) r LT.none)=LT.text (getD (flat (Prod.fst (BP b c a))) r LT.none)/\(Aa/\LT.n (getD (flat x.1) r LT.none)=LT.n (getD (flat (Prod.fst (BP b c a))) r LT.none))/\(Aa/\LT.line (getD (flat x.1) r LT.none)=LT.line (getD (flat (Prod.fst (BP b c a))) r LT.none))/\(Aa/\LT.Av (getD (flat x.1) r LT.none)=LT.Av (getD (flat (Prod.fst (BP b c a))) r LT.none))/\(Aa/\List.length (LT.kids (getD (flat x.1) r LT.none))=List.length (LT.kids (getD (flat (Prod.fst (BP b c a))) r LT.none))/\Ar λ(z:Nat)=>Nat.le (Nat.succ z) (List.length (LT.kids (getD (flat x.1) r LT.none)))->(Aa/\getD (LT.kids (getD (flat x.1) r LT.none)) z (0:Int)=getD (LT.kids (getD (flat (Prod.fst (BP b c a))) r LT.none)) z (0:Int))/\True)/\True)/\True)/\(Aa/\Aa/\Aa/\Aa/\(((D5 c/\Aa/\RS.at_ x.2=RS.at_ (Prod.snd (BP b c a)))/\Aa/\RS.nest x.2=RS.nest (Prod.snd (BP b c a)))/\Aa/\RS.err x.2=RS.err (Prod.snd (BP b c a)))/\Aa/\RS.BE x.2=RS.BE (Prod.snd (BP b c a)))/\True)
theorem AoE:∀(n:Nat) (F:Ad->PF),Zg n F->∀(L:Ad) (s:RS),HK L n s->qL s F L n
:=by
 delta qL;intro n F AA L s r;simp only[Bq,D5,BQ];simp only[Dt];refine Ao (λh=>?_) λh=>?_
 ·rw[BZ,BB]at h;have e:BP F L s=(Ki,s):=by unfold BP;rw[As h]
  rw[e,sP];exact⟨⟨rfl,⟨λi hi=>xJ hi⟩⟩,Hi rfl⟩
 ·rw[BI,Ba]at h;have e:BP F L s=F L s:=by unfold BP;rw[An (λe=>e h)]
  rw[e];exact⟨A4 (r.pe h),λy hy=>by subst hy;exact⟨KU rfl,Hi rfl⟩⟩
theorem AoD:∀(n:Nat) (F:Ad->PF) (AA:Zg n F) (L:Ad) (s:RS),HK L n s->(A3 (z4 n F AA) 60).call 105 [.ptr 0 0] (BU (B2 [Bw (vK L) s] 0)) 1 (E9 Tryz.prog 1 0 1 (.ret (vW (flat (BP F L s).1)) [Bw (vK L) (BP F L s).2] 0)):=Eq.mpr (by kernel_rfl) AoE
theorem Ak2 {n:Nat} {F:Ad->PF} (h:BH Tryz.prog 98 (sF n F)):BH Tryz.prog 105 (sE n F):=sk (gy (fz:=1) λL s r=>⟨z4 n F ⟨h⟩,60,_,rfl,Dq,Bk,λ_ h=>h,AoD n F ⟨h⟩ L s r⟩)
theorem Ao7:∀(n:Nat) (F:Ad->PF),Zh n F->∀(L:Ad) (s:RS),HK L n s->qL s F L n
:=by
 delta qL;intro n F AA L s r;simp only[Bq,D5,BQ];simp only[Dt];refine Ao (λh=>?_) λh=>?_
 ·rw[BZ,BB]at h;have e:BP F L s=(Ki,s):=by unfold BP;rw[As h]
  rw[e,sP];exact⟨⟨rfl,⟨λi hi=>xJ hi⟩⟩,Hi rfl⟩
 ·rw[BI,Ba]at h;have e:BP F L s=F L s:=by unfold BP;rw[An (λe=>e h)]
  rw[e];exact⟨A4 (r.pe h),λy hy=>by subst hy;exact⟨KU rfl,Hi rfl⟩⟩
theorem Ao6:∀(n:Nat) (F:Ad->PF) (AA:Zh n F) (L:Ad) (s:RS),HK L n s->(A3 (zb n F AA) 60).call 108 [.ptr 0 0] (BU (B2 [Bw (vK L) s] 0)) 1 (E9 Tryz.prog 1 0 1 (.ret (vW (flat (BP F L s).1)) [Bw (vK L) (BP F L s).2] 0)):=Eq.mpr (by kernel_rfl) Ao7
theorem Alh {n:Nat} {F:Ad->PF} (h:BH Tryz.prog 106 (sF n F)):BH Tryz.prog 108 (sE n F):=sk (gy (fz:=1) λL s r=>⟨zb n F ⟨h⟩,60,_,rfl,Dq,Bk,λ_ h=>h,Ao6 n F ⟨h⟩ L s r⟩)
theorem Amu:∀(n:Nat) (F:Ad->PF),Zf n F->∀(L:Ad) (s:RS),HK L n s->qL s F L n
:=by
 delta qL;intro n F AA L s r;simp only[Bq,D5,BQ];simp only[Dt];refine Ao (λh=>?_) λh=>?_
 ·rw[BZ,BB]at h;have e:BP F L s=(Ki,s):=by unfold BP;rw[As h]
  rw[e,sP];exact⟨⟨rfl,⟨λi hi=>xJ hi⟩⟩,Hi rfl⟩
 ·rw[BI,Ba]at h;have e:BP F L s=F L s:=by unfold BP;rw[An (λe=>e h)]
  rw[e];exact⟨A4 (r.pe h),λy hy=>by subst hy;exact⟨KU rfl,Hi rfl⟩⟩
theorem Amt:∀(n:Nat) (F:Ad->PF) (AA:Zf n F) (L:Ad) (s:RS),HK L n s->(A3 (yv n F AA) 60).call 107 [.ptr 0 0] (BU (B2 [Bw (vK L) s] 0)) 1 (E9 Tryz.prog 1 0 1 (.ret (vW (flat (BP F L s).1)) [Bw (vK L) (BP F L s).2] 0)):=Eq.mpr (by kernel_rfl) Amu
theorem Akc {n:Nat} {F:Ad->PF} (h:BH Tryz.prog 74 (sF n F)):BH Tryz.prog 107 (sE n F):=sk (gy (fz:=1) λL s r=>⟨yv n F ⟨h⟩,60,_,rfl,Dq,Bk,λ_ h=>h,Amt n F ⟨h⟩ L s r⟩)
def Y0:Aj:=[108,101,110]
def iv:Aj:=[97,114,114]
def LO:Aj:=[42]
def K1:Aj:=[43]
def K3:Aj:=[45]
def Pk:Aj:=[60]
def Pj:Aj:=[61,61]
def VX (k:Int) (U:Ad->PF) (L:Ad) (s:RS):PT×RS:=(nd k [] 0 (B6 L s (AY L s).text).1 [(BP U L (B6 L s (AY L s).text).2).1],down (BP U L (B6 L s (AY L s).text).2).2)
def N9 (U r:Ad->PF) (L:Ad):PF:=λs=>if A5 L s Y0=true then VX 35 U L s else if A5 L s iv=true then VX 34 U L s else r L s
def J0 (F:Ad->PF) (L:Ad) (x:PT) (s:RS):PT×RS:=(nd 32 (AY L s).text 0 (AY L s) [x,(F L (A7 s)).1],(F L (A7 s)).2)
def Hx (F:Ad->PF) (ws:List Aj) (L:Ad):Nat->PT->RS->PT×RS
 |0,x,s=>(x,s)
 |k+1,x,s=>if ws.any (A5 L s)=true then Hx F ws L k (J0 F L x s).1 (J0 F L x s).2 else(x,s)
def J6 (F:Ad->PF) (ws:List Aj) (L:Ad):PF:=λs=>Hx F ws L (EW L) (F L s).1 (F L s).2
def Q0 (F:Ad->PF) (L:Ad):PF:=λs=>if [Pk,Pj].any (A5 L (F L s).2)=true then J0 F L (F L s).1 (F L s).2 else F L s
def Tc (r:Ad->PF) (L:Ad):PF:=λs=>((r L s).1,if(r L s).2.err=0/\(r L s).1.kind≠29/\(r L s).1.kind≠30/\(r L s).1.kind≠31 then CM (r L s).2 4 else(r L s).2)
structure Wh (n:Nat) (U Ti:List TK->PF):Prop where
 u:BH Tryz.prog 108 (sE n U)
 t:BH Tryz.prog 102 (sF (n+1) Ti)
def htU (n:Nat) (U r:Ad->PF):CZ:=(108,sE n U)::(102,sF (n+1) r)::Mc
theorem AiH {n:Nat} {U r:Ad->PF} (h:Wh n U r):Es Tryz.prog (htU n U r):=Dj h.u (Dj h.t Nh)
def z9 (n:Nat) (U r:Ad->PF) (h:Wh n U r):Ctx:=K7 (htU n U r) (AiH h)
structure E8 (g:FuncId) (n:Nat) (F:List TK->PF):Prop where
 f:BH Tryz.prog g (sF n F)
def UB (g:FuncId) (n:Nat) (F:Ad->PF):CZ:=(g,sF n F)::Mc
theorem Xo {g:FuncId} {n:Nat} {F:Ad->PF} (h:E8 g n F):Es Tryz.prog (UB g n F):=Dj h.f Nh
def cZ (g:FuncId) (n:Nat) (F:Ad->PF) (h:E8 g n F):Ctx:=K7 (UB g n F) (Xo h)
def c9 (f g:FuncId) (n:Nat) (F:Ad->PF) (ws:List Aj) (h:E8 g n F) (L:Ad) (t:PT×RS) (s0:RS):Ctx:={P:=Tryz.prog,tb:=[],ht:=UB g n F,AA:=Xo h,lp:=λx r=>cond (Nat.beq x f) (cond (Nat.beq r 2) (some (AeH L (Hx F ws L) t s0 [0] 3)) none) none,cut:=λ_ _=>none}
theorem AiN {L:Ad} {s:RS} {w:Aj} (h:A5 L s w=true):(AY L s).text=w:=by unfold A5 at h;rw[B4,Bn,Bn]at h;exact h.2
theorem wa {n:Nat} {U:Ad->PF} (R:GF n 1 2 U) {L:Ad} {s:RS} {k:Int} {w:Aj} (x:A9 L (n+1) s) (h:A5 L s w=true):HK L n (B6 L s (AY L s).text).2/\Cs L 1 2 s (VX k U L s):=by
 have K:=JR h;have hl:=Cg h;have AA:=x.ok;have S:=x.ns;have W:=x.lf;have o:=P5 (w:=(AY L s).text) AA (show s.nest<=900 by omega);unfold VX;generalize(B6 L s (AY L s).text)=q at o⊢;have o1:=o.am;have o2:=o.ax;have B:=o.eo;have Z:=o.ns;have Y:=o.er;have y:HK L n q.2:=⟨o.ok,λz=>⟨o.ok,by have:=B z;omega,by have:=B z;omega⟩⟩;have g:=PV R y (by decide);generalize BP U L q.2=r at g⊢;have g1:=g.am;have g2:=g.ss;have g3:=g.so;have g4:=g.er;have g5:=g.ns;have V:=AA.n0;refine⟨y,⟨WY g.ok (by omega),by show r.2.nest-1=_;omega,by show s.at_<=r.2.at_;omega,λe=>absurd K e,?_,λJ=>?_⟩⟩
 ·show((sz _:Nat):Int)<=3*(r.2.at_-s.at_)+2;rw[Hk];omega
 ·have J:r.2.err=0:=J;show((sz _:Nat):Int)<=3*(r.2.at_-s.at_);rw[Hk];omega
theorem Afh {n:Nat} {U y:Ad->PF} (x:GF n 1 2 U) (hT:GF (n+1) 1 2 y):GF (n+1) 1 2 (N9 U y):=by
 intro L s r;unfold N9;split
 ·rename_i e;exact(wa x r e).2
 split
 ·rename_i e;exact(wa x r e).2
 ·exact hT L s r
theorem ep {n:Nat} {F:Ad->PF} (R:GF n 1 2 F) {L:Ad} {s0 s:RS} {x:PT} {ws:List Aj} (h:Cs L 1 2 s0 (x,s)) (B:A9 L n s0) (hd:ws.any (A5 L s)=true):A9 L n (A7 s)/\Cs L 1 2 s0 (J0 F L x s)/\Fc L (J0 F L x s).2<Fc L s:=by
 obtain⟨w,_,z⟩:=List.any_eq_true.1 hd;have y:=JR z;have hl:=Cg z;have AA:AJ L s:=h.ok;have Y:s0.at_<=s.at_:=h.am;have W:s.nest=s0.nest:=h.ns;have V:(sz x:Int)<=3*(s.at_-s0.at_):=h.so y;have K:s0.err≠0->s.err≠0:=λe=>(h.er e).1;have S:=B.ns;have U:=B.lf;have a1:=Gi AA hl;have pa:A9 L n (A7 s):=⟨a1,by show s.nest<=64;omega,by show(L.length:Int)-(s.at_+1)<n;omega⟩;have g:=R L (A7 s) pa;unfold J0;generalize F L (A7 s)=r at g⊢;have g1:s.at_+1<=r.2.at_:=g.am;have g2:(sz r.1:Int)<=3*(r.2.at_-(s.at_+1))+2:=g.ss;have g3:r.2.err=0->(sz r.1:Int)<=3*(r.2.at_-(s.at_+1)):=g.so;have Z:r.2.nest=s.nest:=g.ns;refine⟨pa,⟨g.ok,by show r.2.nest=_;omega,by show s0.at_<=r.2.at_;omega,λe=>absurd y (K e),?_,λJ=>?_⟩,eI g.ok y (by show s.at_<=r.2.at_;omega) λ_=>by show s.at_<r.2.at_;omega⟩
 ·show((sz _:Nat):Int)<=3*(r.2.at_-s0.at_)+2;rw[JC];omega
 ·have J:r.2.err=0:=J;show((sz _:Nat):Int)<=3*(r.2.at_-s0.at_);rw[JC];omega
theorem Adc {n:Nat} {F:Ad->PF} (y:GF n 1 2 F) {L:Ad} {s0:RS} {ws:List Aj} (r:A9 L n s0):∀(k:Nat) (x:PT) (s:RS),Cs L 1 2 s0 (x,s)->Cs L 1 2 s0 (Hx F ws L k x s)
 |0,x,s,h=>h
 |k+1,x,s,h=>by
  unfold Hx;split
  ·rename_i e;exact Adc y r k _ _ (ep y h r e).2.1
  ·exact h
theorem gq {n:Nat} {F:Ad->PF} {ws:List Aj} (x:GF n 1 2 F):GF n 1 2 (J6 F ws):=λL s r=>Adc x r _ _ _ (x L s r)
theorem AeY {n:Nat} {F:Ad->PF} (x:GF n 1 2 F):GF n 1 2 (Q0 F):=by
 intro L s r;unfold Q0;split
 ·rename_i e;exact(ep x (x L s r) r e).2.1
 ·exact x L s r
theorem Afn {n:Nat} {x:Ad->PF} (hT:GF n 1 2 x):GF n 1 2 (Tc x):=by
 intro L s B;have g:=hT L s B;unfold Tc;generalize x L s=r at g⊢;have w:=iy r.2 (e:=4) (by decide);have z:=xH g.ok 4;have S:=g.am;have J:=g.ss;have R:=g.so;have y:=g.er;have K:=g.ns;split
 ·exact⟨z,by show(CM r.2 4).nest=_;omega,by show _<=(CM r.2 4).at_;omega,λe=>⟨w.1,by show(CM r.2 4).at_=_;have:=y e;omega,(y e).2.2⟩,by show _<=3*((CM r.2 4).at_-_)+2;rw[w.2.1];exact J,λe=>absurd e w.1⟩
 ·exact g
theorem XM {n:Nat} {F:Ad->PF} (J:GF n 1 2 F) {L:Ad} {s0:RS} {x:PT×RS} {ws:List Aj} (h:Cs L 1 2 s0 x) (B:A9 L n s0) (hd:ws.any (A5 L x.2)=true) {c:Bool} (hc:c=true) {r:TK->PT×RS->Prop} (K:Be 32 (AY L x.2).text 0 (AY L x.2) (Ca 2 λi=>[vW (flat x.1),vW (flat (F L (A7 x.2)).1)].getD i .AW)=flat (J0 F L x.1 x.2).1->r (AY L x.2) (F L (A7 x.2))): (∃M,vK L=vK M/\AJ M x.2)/\∀y,y=AY L x.2->Ap (Bf .i64 (x.2.at_+1)) ((∃M,vK L=vK M/\A9 M n (A7 x.2))/\∀z,z=F L (A7 x.2)->(c=true/\BW 2 λi=>[vW (flat x.1),vW (flat z.1)].getD i .AW)/\r y z):=by obtain⟨d0,d1,U⟩:=ep J (x:=x.1) (s:=x.2) h B hd;have AA:=h.ok;have S:=AA.a0;have R:=AA.a1;have hl:=AA.len;have V:=h.EI B.ok (by decide);have g:=J L (A7 x.2) d0;have W:=g.EI d0.ok (by decide);refine⟨A4 AA,λy hy=>Am (AU.2 (by omega)) ⟨A4 d0,λz hz=>?_⟩⟩;subst hy;subst hz;have w:=Afc (k:=32) (n:=0) (x:=(AY L x.2).text) (tk:=AY L x.2) (y:=x.1) (z:=(F L (A7 x.2)).1) (g:=λi=>[vW (flat x.1),vW (flat (F L (A7 x.2)).1)].getD i .AW) (show sz x.1+sz (F L (A7 x.2)).1<=1000000 by omega) rfl rfl;exact⟨⟨hc,w.1⟩,K w.2⟩
theorem uE {n:Nat} {F:Ad->PF} (B:GF n 1 2 F) {L:Ad} {s0:RS} {x t:PT×RS} {ws:List Aj} (h:Jb L (Hx F ws L) t s0 x) (z:A9 L n s0) (hd:ws.any (A5 L x.2)=true):Jb L (Hx F ws L) t s0 (J0 F L x.1 x.2)/\Fc L (J0 F L x.1 x.2).2<Fc L x.2:=by
 obtain⟨⟨k,K,r⟩,y⟩:=h;obtain⟨d0,d1,J⟩:=ep B (x:=x.1) (s:=x.2) y z hd;cases k with
 |zero=>omega
 |succ k=>
 unfold Hx at r;rw[As hd]at r;exact⟨⟨⟨k,by omega,r⟩,d1⟩,J⟩
theorem Adf {F:Ad->PF} {L:Ad} {s0:RS} {x t:PT×RS} {ws:List Aj} (h:Jb L (Hx F ws L) t s0 x) (hd:ws.any (A5 L x.2)=false):t=x:=by
 obtain⟨⟨k,z,r⟩,y⟩:=h;cases k with
 |zero=>omega
 |succ k=>
 unfold Hx at r;rw[An (nb hd)]at r;exact r.symm
theorem AdM {n:Nat} {F:Ad->PF} (x:GF n 1 2 F) {L:Ad} {s0:RS} {t:PT×RS} {ws:List Aj} (r:A9 L n s0) (ht:t=J6 F ws L s0):Jb L (Hx F ws L) t s0 (F L s0):=by have g:=x L s0 r;exact⟨⟨EW L,UN g.ok,ht.symm⟩,g⟩
theorem Afg {n:Nat} {U:Ad->PF} (J:GF n 1 2 U) {L:Ad} {s:RS} {t:PT×RS} {k:Int} {w:Aj} (B:A9 L (n+1) s) (hd:A5 L s w=true) (S:1<=w.length) (ht:t=VX k U L s) {c:Bool} (hc:c=true): (∃M,vK L=vK M/\AJ M s)/\∀y,y=AY L s->(∃M,vK L=vK M/\AJ M s/\1<=y.text.length/\Int.NonNeg (900-s.nest))/\∀q:TK×RS,q=B6 L s y.text->(∃M,vK L=vK M/\HK M n q.2)/\∀z,z=BP U L q.2-> (c=true/\BW 1 λi=>[vW (flat z.1)].getD i .AW)/\Ap (Bf .i64 (z.2.nest-1)) (H7 (vK L) (vK L) (vW (Be k [] 0 q.1 (Ca 1 λi=>[vW (flat z.1)].getD i .AW))) ⟨z.2.at_,z.2.nest-1,z.2.err,z.2.BE⟩ t):=by have AA:=B.ok;have V:=B.ns;have W:=AA.n0;obtain⟨d0,d1⟩:=wa (k:=k) J B hd;refine⟨A4 AA,λy hy=>?_⟩;subst hy;refine⟨A4 ⟨AA,by rw[AiN hd];exact S,(show s.nest<=900 by omega)⟩,λq r=>?_⟩;rw[<-r]at d0;refine⟨A4 d0,λz hz=>?_⟩;have g:=PV J d0 (by decide);rw[<-hz]at g;have bg:=g.EI d0.ok (by decide);have o:=P5 (w:=(AY L s).text) AA (show s.nest<=900 by omega);rw[<-r]at o;have Y:=o.ns;have Z:=g.ns;obtain⟨R,K⟩:=PL (L:=L) (k:=k) (n:=0) (x:=[]) (tk:=q.1) (s:=down z.2) (t:=t) (y:=z.1) (g:=λi=>[vW (flat z.1)].getD i .AW) hc (show sz z.1<=1000000 by omega) rfl (by rw[ht,hz,r];rfl);exact⟨R,Am (AU.2 (by omega)) K⟩
theorem nz {f:Aj->Bool} {a:Aj} {c:Bool} (h:f a=c):[a].any f=c:=by simp[h]
theorem WK {f:Aj->Bool} {a b:Aj} (h:f a=true):[a,b].any f=true:=by simp[h]
theorem Rk {f:Aj->Bool} {a b:Aj} {c:Bool} (h:f a=false) (r:f b=c):[a,b].any f=c:=by simp[h,r]
@[reducible] def jm:TK×RS->Prop:=λ(a:TK×RS)=>DE/\DE/\(II a.1)/\True
@[reducible] def Tw:Ad->RS->Prop:=λ(L:Ad) (s:RS)=>Aa/\Aa/\(qR/\True)/\CP L s
@[reducible] def jn:Ad->RS->Prop:=λ(L:Ad) (s:RS)=>(D6 L s)/\Tw L s
@[reducible] def jo:Ad->RS->TK->Prop:=λ(L:Ad) (s:RS) (a:TK)=>(∃(r:Ad),vK L=vK r/\AJ r s/\Nat.le 1 (List.length (TK.text a))/\Nu s)/\Aa/\Aa/\(qR/\Ae (TK.text a)/\True)/\CP L s
def fZ:=[(108:UInt8),101,110]
theorem Ao9:∀(n:Nat) (U K:Ad->PF),Wh n U K->∀(L:Ad) (s:RS) (t:PT×RS),A9 L (n+1) s->(Gw n U)->t=N9 U K L s->((∃(J:Ad),vK L=vK J/\AJ J s/\Nat.le 1 (List.length fZ))/\Aa/\Aa/\(qR/\Ae fZ/\True)/\CP L s)/\Ag (Ay (B3 L s fZ)) (jn L s/\∀(y:TK),y=Ek L s->jo L s y/\∀(r:TK×RS),r=ND L s (TK.text y)->Tt n L r/\∀(y:PT×RS),y=BP U (kL (vK L)) r.2->(Nat.blt 10 13=true/\Aa/\BW 1 λ(i:Nat)=>Ga y.1 i)/\jm r/\Nw y.2 (BX L (vW (Be (35:Int) [] (0:Int) r.1 (qX y.1))) (Qc y.2) t)) ((fq L s)/\Ag (!Ay (B3 L s Ns)) (((Nv L n s)/\Tw L s)/\∀(y:PT×RS),y=DF K L s->Gb L y.1 y.2 t) (jn L s/\∀(y:TK),y=Ek L s->jo L s y/\∀(r:TK×RS),r=ND L s (TK.text y)->Tt n L r/\∀(y:PT×RS),y=BP U (kL (vK L)) r.2->(Nat.blt 11 14=true/\Aa/\BW 1 λ(i:Nat)=>Ga y.1 i)/\jm r/\Nw y.2 (BX L (vW (Be (34:Int) [] (0:Int) r.1 (qX y.1))) (Qc y.2) t)))
:=by
 delta qR qX BX Gw Ga B3 CP Ns Qc Gb Ek Nv Nw fq fZ DF ND;intro n U K AA L s t z R ht;simp only[Bq,jm,D5,Kk,Tw,jn,Tt,jo,qV,DE,II,BQ,qP,qR,CP,D6,Nu];simp only[Dt];refine⟨A4 ⟨z.ok,by decide⟩,Ao (λB=>?_) λB=>⟨A4 ⟨z.ok,by decide⟩,Ao (λx=>?_) λx=>?_⟩⟩
 ·exact Afg R z (w:=Y0) B (by decide) (by rw[ht];unfold N9;rw[As (show A5 L s Y0=true from B)]) rfl
 ·rw[BZ]at x;exact⟨A4 z,λy hy=>HP (by rw[ht,hy];unfold N9;rw[An (nb (show A5 L s Y0=false from B)),An (nb (show A5 L s iv=false from x))])⟩
 ·rw[BI]at x;exact Afg R z (w:=iv) x (by decide) (by rw[ht];unfold N9;rw[An (nb (show A5 L s Y0=false from B)),As (show A5 L s iv=true from x)]) rfl
theorem Ao8:∀(n:Nat) (U r:Ad->PF) (AA:Wh n U r) (L:Ad) (s:RS) (t:PT×RS),A9 L (n+1) s->GF n 1 2 U->t=N9 U r L s->(A3 (z9 n U r AA) 60).call 106 [.ptr 0 0] (BU (B2 [Bw (vK L) s] 0)) 1 (GZ (vK L) t):=Eq.mpr (by kernel_rfl) Ao9
@[reducible] def Tu:Ad->PT×RS->PT×RS->Prop:=λ(L:Ad) (a r:PT×RS)=>(Mp L a.2 r.2)/\True
def qY (a:TK) (b:PT) (c:PT) (d:PT):=((Aa/\List.length (Be (32:Int) (TK.text a) (0:Int) a (qO b c))=List.length (flat d)/\Ar λ(r:Nat)=>Nat.le (Nat.succ r) (List.length (Be (32:Int) (TK.text a) (0:Int) a (qO b c)))->(Aa/\LT.kind (getD (Be (32:Int) (TK.text a) (0:Int) a (qO b c)) r LT.none)=LT.kind (qT d r))/\LT.text (getD (Be (32:Int) (TK.text a) (0:Int) a (qO b c)) r LT.none)=LT.text (qT d r)/\(Aa/\LT.n (getD (Be (32:Int) (TK.text a) (0:Int) a (qO b c)) r LT.none)=LT.n (qT d r))/\(Aa/\LT.line (getD (Be (32:Int) (TK.text a) (0:Int) a (qO b c)) r LT.none)=LT.line (qT d r))/\(Aa/\LT.Av (getD (Be (32:Int) (TK.text a) (0:Int) a (qO b c)) r LT.none)=LT.Av (qT d r))/\(Aa/\List.length (LT.kids (getD (Be (32:Int) (TK.text a) (0:Int) a (qO b c)) r LT.none))=List.length (LT.kids (qT d r))/\Ar λ(x:Nat)=>Nat.le (Nat.succ x) (List.length (LT.kids (getD (Be (32:Int) (TK.text a) (0:Int) a (qO b c)) r LT.none)))->(Aa/\getD (LT.kids (getD (Be (32:Int) (TK.text a) (0:Int) a (qO b c)) r LT.none)) x (0:Int)=getD (LT.kids (qT d r)) x (0:Int))/\True)/\True)/\qR/\True)
def Mo (a:Ad) (b:Nat) (c:RS):=((∃(r:Ad),vK a=vK r/\A9 r b c)/\Aa/\Aa/\(qR/\True)/\(qP a c)/\True)
def U0 (a:TK):=(((True/\True/\True)/\True)/\((True/\True/\True)/\True)/\((qV a/\Ae (AV.bs (TK.text a))/\True)/\True)/\True)
def Qg (a:PT) (b:PT):=(Nat.blt 13 16=true/\Aa/\BW 2 λ(r:Nat)=>Gx a b r)
def GK (a:Ad->PF) (b:Ad) (c:RS):=a (kL (vK b)) (qN c)
def fj (a:Ad) (b:Nat) (c:RS):=((∃(r:Ad),vK a=vK r/\A9 r b (qN c))/\Aa/\Aa/\(qR/\True)/\(IH a c)/\True)
theorem Aoi:∀(n:Nat) (F:Ad->PF),E8 (106:FuncId) n F->∀(L:Ad) (s:RS) (t:PT×RS),A9 L n s->(Gw n F)->t=J6 F [[(42:UInt8)]] L s->(Mo L n s)/\∀(y:PT×RS),y=DF F L s->(∃(S:PT×RS),Jb L (Hx F [[(42:UInt8)]] L) t s S/\Aa/\(qZ y.1 S.1)/\Tu L y S)/\∀(x:PT×RS),Jb L (Hx F [[(42:UInt8)]] L) t s x->((∃(z:Ad),vK L=vK z/\AJ z x.2/\Nat.le 1 (List.length [(42:UInt8)]))/\Aa/\Aa/\(qR/\Ae [(42:UInt8)]/\True)/\El L x)/\Ag (Ay (B3 L x.2 [(42:UInt8)])) (((D6 L x.2)/\Aa/\Aa/\(qR/\True)/\El L x)/\∀(y:TK),y=Ek L x.2->C5 x.2 ((fj L n x.2)/\∀(r:PT×RS),r=GK F L x.2->(Qg x.1 r.1)/\(U0 y)/\∃(B:PT×RS),Jb L (Hx F [[(42:UInt8)]] L) t s B/\J3 L B.2 x.2/\Aa/\(qY y x.1 r.1 B.1)/\Tu L r B)) (Gb L x.1 x.2 t)
:=by delta qN qO qP qR qT qV qY qZ IH BX C5 Gw Gx D6 B3 Mo U0 El J3 Gb Ek Qg GK fj DF;intro n F AA L s t K U ht;simp only[Bq,D5,Oi,Tu,BQ,qP,Mp];simp only[Dt];refine⟨A4 K,λy hy=>?_⟩;have hy:y=F L s:=hy;subst hy;refine⟨⟨F L s,AdM U K ht,KU rfl,Hi rfl⟩,λx J=>⟨A4 ⟨J.p.ok,by decide⟩,Ao (λR=>?_) λR=>HP (Adf J (nz (a:=LO) R))⟩⟩;obtain⟨d1,d2⟩:=uE U J K (nz (a:=LO) R);exact XM U J.p K (nz (a:=LO) R) rfl λw=>⟨J0 F L x.1 x.2,d1,d2,KU w,Hi rfl⟩
theorem Aoh:∀(n:Nat) (F:Ad->PF) (AA:E8 106 n F) (L:Ad) (s:RS) (t:PT×RS),A9 L n s->GF n 1 2 F->t=J6 F [LO] L s->(A3 (c9 103 106 n F [LO] AA L t s) 60).call 103 [.ptr 0 0] (BU (B2 [Bw (vK L) s] 0)) 1 (GZ (vK L) t):=Eq.mpr (by kernel_rfl) Aoi
@[reducible] def Tv:Nat->Ad->PT×RS->Prop:=λ(n:Nat) (L:Ad) (a:PT×RS)=>(∃(r:Ad),vK L=vK r/\A9 r n (qN a.2))/\Aa/\Aa/\(qR/\True)/\(IH L a.2)/\True
def Vb:=[[(43:UInt8)],[(45:UInt8)]]
@[reducible] def jk:(Ad->PF)->Ad->RS->PT×RS->PT×RS->TK->PT×RS->Prop:=λ(F:Ad->PF) (L:Ad) (s:RS) (t a:PT×RS) (x:TK) (r:PT×RS)=>(U0 x)/\∃(y:PT×RS),Jb L (Hx F Vb L) t s y/\J3 L y.2 a.2/\Aa/\(qY x a.1 r.1 y.1)/\Tu L r y
theorem AoC:∀(n:Nat) (F:Ad->PF),E8 (103:FuncId) n F->∀(L:Ad) (s:RS) (t:PT×RS),A9 L n s->(Gw n F)->t=J6 F Vb L s->(Mo L n s)/\∀(y:PT×RS),y=DF F L s->(∃(U:PT×RS),Jb L (Hx F Vb L) t s U/\Aa/\(qZ y.1 U.1)/\Tu L y U)/\∀(x:PT×RS),Jb L (Hx F Vb L) t s x->((∃(z:Ad),vK L=vK z/\AJ z x.2/\Nat.le 1 (List.length [(43:UInt8)]))/\Aa/\Aa/\(qR/\Ae [(43:UInt8)]/\True)/\El L x)/\Ag (Ay (B3 L x.2 [(43:UInt8)])) (OY L x/\∀(y:TK),y=Ek L x.2->C5 x.2 (Tv n L x/\∀(r:PT×RS),r=GK F L x.2->(Qg x.1 r.1)/\jk F L s t x y r)) (((∃(z:Ad),vK L=vK z/\AJ z x.2/\Nat.le 1 (List.length [(45:UInt8)]))/\Aa/\Aa/\(qR/\Ae [(45:UInt8)]/\True)/\El L x)/\Ag (Ay (B3 L x.2 [(45:UInt8)])) (OY L x/\∀(y:TK),y=Ek L x.2->C5 x.2 (Tv n L x/\∀(r:PT×RS),r=GK F L x.2->(Nat.blt 14 17=true/\Aa/\BW 2 λ(i:Nat)=>Gx x.1 r.1 i)/\jk F L s t x y r)) (Gb L x.1 x.2 t))
:=by
 delta qN qP qR qT qZ BX C5 Gw Gx B3 Mo El Gb Ek Qg GK Vb DF OY;intro n F AA L s t J R ht;simp only[Bq,D5,Oi,Tu,Zp,Tv,jk,BQ,qP,Mp,qR,D6,El,qN,IH,qO,qT,qV,qY,U0,J3,Vb];simp only[Dt];refine⟨A4 J,λy hy=>?_⟩;have hy:y=F L s:=hy;subst hy;refine⟨⟨F L s,AdM R J ht,KU rfl,Hi rfl⟩,λx B=>⟨A4 ⟨B.p.ok,by decide⟩,Ao (λK=>?_) λK=>⟨A4 ⟨B.p.ok,by decide⟩,Ao (λS=>?_) λS=>HP (Adf B (Rk (a:=K1) (b:=K3) K S))⟩⟩⟩
 ·obtain⟨d1,d2⟩:=uE R B J (WK (a:=K1) (b:=K3) K);exact XM R B.p J (WK (a:=K1) (b:=K3) K) rfl λw=>⟨J0 F L x.1 x.2,d1,d2,KU w,Hi rfl⟩
 ·obtain⟨d1,d2⟩:=uE R B J (Rk (a:=K1) (b:=K3) K S);exact XM R B.p J (Rk (a:=K1) (b:=K3) K S) rfl λw=>⟨J0 F L x.1 x.2,d1,d2,KU w,Hi rfl⟩
theorem AoB:∀(n:Nat) (F:Ad->PF) (AA:E8 103 n F) (L:Ad) (s:RS) (t:PT×RS),A9 L n s->GF n 1 2 F->t=J6 F [K1,K3] L s->(A3 (c9 101 103 n F [K1,K3] AA L t s) 60).call 101 [.ptr 0 0] (BU (B2 [Bw (vK L) s] 0)) 1 (GZ (vK L) t):=Eq.mpr (by kernel_rfl) AoC
@[reducible] def jl:Ad->PT×RS->PT×RS->TK->PT×RS->Prop:=λ(L:Ad) (t a:PT×RS) (r:TK) (x:PT×RS)=>(U0 r)/\BX L (vW (Be (32:Int) (TK.text r) (0:Int) r (qO a.1 x.1))) x.2 t
def gA:=[(61:UInt8),61]
theorem AoQ:∀(n:Nat) (F:Ad->PF),E8 (101:FuncId) n F->∀(L:Ad) (s:RS) (t:PT×RS),A9 L n s->(Gw n F)->t=Q0 F L s->(Mo L n s)/\∀(y:PT×RS),y=DF F L s->((∃(z:Ad),vK L=vK z/\AJ z y.2/\Nat.le 1 (List.length [(60:UInt8)]))/\Aa/\Aa/\(qR/\Ae [(60:UInt8)]/\True)/\El L y)/\Ag (Ay (B3 L y.2 [(60:UInt8)])) (OY L y/\∀(x:TK),x=Ek L y.2->C5 y.2 (Tv n L y/\∀(r:PT×RS),r=GK F L y.2->(Qg y.1 r.1)/\jl L t y x r)) (((∃(z:Ad),vK L=vK z/\AJ z y.2/\Nat.le 1 (List.length gA))/\Aa/\Aa/\(qR/\Ae gA/\True)/\El L y)/\Ag (Ay (B3 L y.2 gA)) (OY L y/\∀(x:TK),x=Ek L y.2->C5 y.2 (Tv n L y/\∀(r:PT×RS),r=GK F L y.2->(Nat.blt 14 17=true/\Aa/\BW 2 λ(i:Nat)=>Gx y.1 r.1 i)/\jl L t y x r)) (Gb L y.1 y.2 t))
:=by
 delta qN qP qR BX C5 Gw Gx B3 Mo El Gb Ek Qg GK DF OY gA;intro n F AA L s t K R ht;simp only[Bq,D5,jl,Oi,Zp,Tv,BQ,qO,qV,BX,U0,qP,qR,D6,El,qN,IH];simp only[Dt];refine⟨A4 K,λy hy=>?_⟩;have hy:y=F L s:=hy;subst hy;have g:=R L s K;have key:∀c,[Pk,Pj].any (A5 L (F L s).2)=c->t=if c=true then J0 F L (F L s).1 (F L s).2 else F L s:=λc hc=>by rw[ht];unfold Q0;rw[hc]
 refine⟨A4 ⟨g.ok,by decide⟩,Ao (λB=>?_) λB=>⟨A4 ⟨g.ok,by decide⟩,Ao (λJ=>?_) λJ=>HP (key false (Rk (a:=Pk) (b:=Pj) B J))⟩⟩
 ·exact XM R g K (WK (a:=Pk) (b:=Pj) B) rfl λw=>⟨rfl,by rw[key true (WK (a:=Pk) (b:=Pj) B),As rfl,w],by rw[key true (WK (a:=Pk) (b:=Pj) B)];rfl⟩
 ·exact XM R g K (Rk (a:=Pk) (b:=Pj) B J) rfl λw=>⟨rfl,by rw[key true (Rk (a:=Pk) (b:=Pj) B J),As rfl,w],by rw[key true (Rk (a:=Pk) (b:=Pj) B J)];rfl⟩
theorem AoH:∀(n:Nat) (F:Ad->PF) (AA:E8 101 n F) (L:Ad) (s:RS) (t:PT×RS),A9 L n s->GF n 1 2 F->t=Q0 F L s->(A3 (cZ 101 n F AA) 60).call 98 [.ptr 0 0] (BU (B2 [Bw (vK L) s] 0)) 1 (GZ (vK L) t):=Eq.mpr (by kernel_rfl) AoQ
def fg (a:PT):=LT.kind (getD (flat a) 0 LT.none)
theorem Aph:∀(n:Nat) (F:Ad->PF),E8 (102:FuncId) n F->∀(L:Ad) (s:RS) (t:PT×RS),A9 L n s->(Gw n F)->t=Tc F L s->(Mo L n s)/\∀(y:PT×RS),y=DF F L s->KE y.2 (Ap (AO (0:Int) (Lk y.1)) (Ag (!Au (fg y.1) (29:Int)) (Ap (AO (0:Int) (Lk y.1)) (Ag (!Au (fg y.1) (30:Int)) (Ap (AO (0:Int) (Lk y.1)) (Ag (!Au (fg y.1) (31:Int)) (((D6 L y.2)/\Aa/\Aa/\(qR/\(Aa/\Ae (4:Int))/\True)/\(qP L y.2)/\True)/\∀(K:RS),K=CM y.2 (4:Int)->Gb L y.1 K t) (Gb L y.1 y.2 t))) (Gb L y.1 y.2 t))) (Gb L y.1 y.2 t))) (Gb L y.1 y.2 t)
:=by
 delta qP qR BX Gw D6 Mo KE Gb Lk fg DF;intro n F AA L s t R S ht;simp only[Bq,D5,BQ];simp only[Dt];refine⟨A4 R,λy hy=>?_⟩;have hy:y=F L s:=hy;have g:=S L s R;rw[<-hy]at g;have hi:AO 0 (flat y.1).length=true:=AK.2 (by have:=(sO y.1).1;have:=J9 y.1;omega);have ht:t=(y.1,if y.2.err=0/\y.1.kind≠29/\y.1.kind≠30/\y.1.kind≠31 then CM y.2 4 else y.2):=by rw[ht,hy];rfl
 rw[Aic];refine Ao (λJ=>Am hi (Ao (λB=>Am hi (Ao (λx=>Am hi (Ao (λr=>⟨A4 g.ok,λz hz=>?_⟩) λr=>?_)) λx=>?_)) λB=>?_)) λJ=>?_
 ·rw[BZ,BB]at B x r;rw[Ba]at J;rw[As ⟨J,B,x,r⟩]at ht;exact HP (y:=(y.1,z)) (by rw[ht,hz])
 ·rw[BI,Ba]at r;rw[An (by rintro⟨_,_,_,h⟩;exact h r)]at ht;exact HP ht
 ·rw[BI,Ba]at x;rw[An (by rintro⟨_,_,h,_⟩;exact h x)]at ht;exact HP ht
 ·rw[BI,Ba]at B;rw[An (by rintro⟨_,h,_⟩;exact h B)]at ht;exact HP ht
 ·rw[BB]at J;rw[An (by rintro⟨h,_⟩;exact J h)]at ht;exact HP ht
theorem Apg:∀(n:Nat) (F:Ad->PF) (AA:E8 102 n F) (L:Ad) (s:RS) (t:PT×RS),A9 L n s->GF n 1 2 F->t=Tc F L s->(A3 (cZ 102 n F AA) 60).call 100 [.ptr 0 0] (BU (B2 [Bw (vK L) s] 0)) 1 (GZ (vK L) t):=Eq.mpr (by kernel_rfl) Aph
theorem Ali {n:Nat} {U r:Ad->PF} (h:Wh n U r) (y:GF n 1 2 U):BH Tryz.prog 106 (sF (n+1) (N9 U r)):=Iq λL s x=>⟨z9 n U r h,60,rfl,Dq,Bk,λt ht=>Ao8 n U r h L s t x y ht⟩
theorem AkR {n:Nat} {F:Ad->PF} (h:E8 106 n F) (x:GF n 1 2 F):BH Tryz.prog 103 (sF n (J6 F [LO])):=Iq λL s r=>⟨c9 103 106 n F [LO] h L (J6 F [LO] L s) s,60,rfl,Dq,Bk,λt ht=>by subst ht;exact Aoh n F h L s _ r x rfl⟩
theorem Ak1 {n:Nat} {F:Ad->PF} (h:E8 103 n F) (x:GF n 1 2 F):BH Tryz.prog 101 (sF n (J6 F [K1,K3])):=Iq λL s r=>⟨c9 101 103 n F [K1,K3] h L (J6 F [K1,K3] L s) s,60,rfl,Dq,Bk,λt ht=>by subst ht;exact AoB n F h L s _ r x rfl⟩
theorem Ak4 {n:Nat} {F:Ad->PF} (h:E8 101 n F) (x:GF n 1 2 F):BH Tryz.prog 98 (sF n (Q0 F)):=Iq λL s r=>⟨cZ 101 n F h,60,rfl,Dq,Bk,λt ht=>AoH n F h L s t r x ht⟩
theorem Alm {n:Nat} {F:Ad->PF} (h:E8 102 n F) (x:GF n 1 2 F):BH Tryz.prog 100 (sF n (Tc F)):=Iq λL s r=>⟨cZ 102 n F h,60,rfl,Dq,Bk,λt ht=>Apg n F h L s t r x ht⟩
def rdT (l:Al):Option TK:=match l with
 | [.agg [.int .i64 k,.bs b,.int .i64 n,.int .i64 a,.int .i64 c]]=>some ⟨k,b,n,a,c⟩
 |_=>none
def sT (n:Nat) (F:Ad->TK->PF):Ft:=(dX TK (λt=>[.agg t.row]) rdT 0 (λL s _=>A9 L n s) F).Oq
def LP:Aj:=[61]
def JE:Aj:=[59]
def wq:Aj:=[101,108,115,101]
def Th:Aj:=[119,104,105,108,101]
def LJ (V T:Ad->PF) (L:Ad) (t:TK):PF:=λs=>
 (nd 14 [] 0 t [(V L s).1,(T L (Bm L (V L s).2 LP).2).1],(Bm L (T L (Bm L (V L s).2 LP).2).2 JE).2)
def dg (T B:Ad->PF) (L:Ad) (t:TK) (s:RS):PT×RS:=
 if t.text=Th then(nd 24 [] 0 t [(T L s).1,(B L (T L s).2).1],(B L (T L s).2).2)
 else if A5 L (B L (T L s).2).2 wq=true then(nd 23 [] 0 t [(T L s).1,(B L (T L s).2).1,(B L (A7 (B L (T L s).2).2)).1],(B L (A7 (B L (T L s).2).2)).2)
 else(nd 23 [] 0 t [(T L s).1,(B L (T L s).2).1,nd 12 [] 0 t []],(B L (T L s).2).2)
def L4 (T B:Ad->PF) (L:Ad):PF:=λs=>dg T B L (AY L s) (A7 s)
structure Pq (n:Nat) (V T:List TK->PF):Prop where
 v:BH Tryz.prog 100 (sF n V)
 t:BH Tryz.prog 98 (sF n T)
def htS (n:Nat) (V T:Ad->PF):CZ:=(100,sF n V)::(98,sF n T)::Mc
theorem AiD {n:Nat} {V T:Ad->PF} (h:Pq n V T):Es Tryz.prog (htS n V T):=Dj h.v (Dj h.t Nh)
def cb (n:Nat) (V T:Ad->PF) (h:Pq n V T):Ctx:=K7 (htS n V T) (AiD h)
structure Wd (n:Nat) (T B:List TK->PF):Prop where
 t:BH Tryz.prog 98 (sF (n+1) T)
 b:BH Tryz.prog 74 (sF n B)
def htB (n:Nat) (T B:Ad->PF):CZ:=(98,sF (n+1) T)::(74,sF n B)::Mc
theorem Aix {n:Nat} {T B:Ad->PF} (h:Wd n T B):Es Tryz.prog (htB n T B):=Dj h.t (Dj h.b Nh)
def yr (n:Nat) (T B:Ad->PF) (h:Wd n T B):Ctx:=K7 (htB n T B) (Aix h)
structure MX (L:List TK) (n:Nat) (s:RS):Prop where
 p:A9 L (n+1) s
 k:(AY L s).kind=2
def sB (n:Nat) (F:Ad->PF):Ft:=sG (λL s=>MX L n s) F
theorem Aew {n:Nat} {V T:Ad->PF} (y:GF n 1 2 V) (hT:GF n 1 2 T) (t:TK):GF n 3 4 (λL=>LJ V T L t):=by
 intro L s x;have g:=y L s x;have B:=x.ns;have J:=x.lf;show Cs L 3 4 s (LJ V T L t s);unfold LJ;generalize V L s=v at g⊢;have Y:=g.am;have W:=g.ss;have U:=g.so;have S:=g.er;have R:=g.ns;have K:=J9 v.1;have f:=GP (w:=LP) g.ok;generalize(Bm L v.2 LP).2=q at f⊢;have f1:=f.am;have f2:=f.ax;have f3:=f.eo;have f4:=f.er;have Z:=f.ns;have d:=hT L q ⟨f.ok,by omega,by omega⟩;generalize T L q=r at d⊢;have d1:=d.am;have d2:=d.ss;have d3:=d.so;have d4:=d.er;have d5:=d.ns;have e:=GP (w:=JE) d.ok;generalize(Bm L r.2 JE).2=u at e⊢;have e1:=e.am;have e2:=e.ax;have e3:=e.eo;have e4:=e.er;have e5:=e.ns;refine⟨e.ok,by show u.nest=_;omega,by show _<=u.at_;omega,λz=>⟨by show u.err≠0;omega,by show u.at_=_;omega,?_⟩,?_,λz=>?_⟩
 ·show((sz _:Nat):Int)<=3;rw[JC];omega
 ·show((sz _:Nat):Int)<=3*(u.at_-s.at_)+4;rw[JC];omega
 ·have z:u.err=0:=z;show((sz _:Nat):Int)<=3*(u.at_-s.at_);rw[JC];omega
theorem yG {n:Nat} {T B:Ad->PF} (hT:GF (n+1) 1 2 T) (R:GF n 1 2 B) {L:Ad} {s:RS} (y:MX L n s):Cs L 1 2 s (L4 T B L s):=by
 have AA:=y.p.ok;have K:=y.p.ns;have Z:=y.p.lf;have hl:=L2 (L:=L) (s:=s) (by rw[y.k];decide);have J:=Py (L:=L) (s:=s) (by rw[y.k];decide);have a1:=Gi AA hl;unfold L4 dg;have g:=hT L (A7 s) ⟨a1,K,by show(L.length:Int)-(s.at_+1)<_;omega⟩;have Y:(A7 s).at_=s.at_+1:=rfl;have W:(A7 s).nest=s.nest:=rfl;generalize A7 s=s1 at g Y W⊢;generalize T L s1=x at g⊢;have g1:=g.am;have g2:=g.ss;have g3:=g.so;have g5:=g.ns;have g6:=J9 x.1;have d:=R L x.2 ⟨g.ok,by omega,by omega⟩;generalize B L x.2=b at d⊢;have d1:=d.am;have d2:=d.ss;have d3:=d.so;have d4:=d.er;have d5:=d.ns;have d6:=J9 b.1;split
 ·refine⟨d.ok,by show b.2.nest=_;omega,by show _<=b.2.at_;omega,λz=>absurd J z,?_,λz=>?_⟩
  ·show((sz _:Nat):Int)<=3*(b.2.at_-s.at_)+2;rw[JC];omega
  ·have z:b.2.err=0:=z;show((sz _:Nat):Int)<=3*(b.2.at_-s.at_);rw[JC];omega
 split
 ·rename_i S;have V:=Cg S;have z2:=JR S;have U:=Gi d.ok V;have r:=R L (A7 b.2) ⟨U,by show b.2.nest<=64;omega,by show(L.length:Int)-(b.2.at_+1)<_;omega⟩;generalize B L (A7 b.2)=c at r⊢;have c1:b.2.at_+1<=c.2.at_:=r.am;have c2:(sz c.1:Int)<=3*(c.2.at_-(b.2.at_+1))+2:=r.ss;have c3:c.2.err=0->(sz c.1:Int)<=3*(c.2.at_-(b.2.at_+1)):=r.so;have c5:c.2.nest=b.2.nest:=r.ns;refine⟨r.ok,by show c.2.nest=_;omega,by show _<=c.2.at_;omega,λz=>absurd J z,?_,λz=>?_⟩
  ·show((sz _:Nat):Int)<=3*(c.2.at_-s.at_)+2;rw[iQ];omega
  ·have z:c.2.err=0:=z;show((sz _:Nat):Int)<=3*(c.2.at_-s.at_);rw[iQ];omega
 ·refine⟨d.ok,by show b.2.nest=_;omega,by show _<=b.2.at_;omega,λz=>absurd J z,?_,λz=>?_⟩
  ·show((sz _:Nat):Int)<=3*(b.2.at_-s.at_)+2;rw[iQ,J8];omega
  ·have z:b.2.err=0:=z;show((sz _:Nat):Int)<=3*(b.2.at_-s.at_);rw[iQ,J8];omega
def ON (a:Ad) (b:RS):=(∃(r:Ad),vK a=vK r/\AJ r b/\Nat.le 1 (List.length [(59:UInt8)]))
def IJ (a:Ad) (b:RS):=GJ a b [(59:UInt8)]
def Mr:=(qR/\Ae [(59:UInt8)]/\True)
def fp (a:Ad) (b:RS) (c:PT×RS):=((∃(r:Ad),vK a=vK r/\AJ r b/\Nat.le 1 (List.length [(61:UInt8)]))/\Aa/\Aa/\(qR/\Ae [(61:UInt8)]/\True)/\El a c)
theorem Aow:∀(n:Nat) (V T:Ad->PF),Pq n V T->∀(L:Ad) (s:RS) (tk:TK) (t:PT×RS),A9 L n s->(Gw n V)->(Gw n T)->t=LJ V T L tk s->(Mo L n s)/\∀(y:PT×RS),y=DF V L s->(fp L y.2 y)/\∀(J:TK×RS),J=GJ L y.2 [(61:UInt8)]->(Mo L n J.2)/\∀(B:PT×RS),B=DF T L J.2->(Nat.blt 8 11=true/\Aa/\BW 2 λ(i:Nat)=>Gx y.1 B.1 i)/\(DE/\DE/\(II tk)/\True)/\((ON L B.2)/\Aa/\Aa/\Mr/\El L B)/\∀(R:TK×RS),R=IJ L B.2->BX L (vW (Be (14:Int) [] (0:Int) tk (qO y.1 B.1))) R.2 t
:=by delta qO qP qR qV BX Gw Gx DE Mo GJ ON El IJ Mr II fp DF;intro n V T AA L s tk t K Y hT ht;simp only[Bq,D5,Oi,BQ,qP];simp only[Dt];have Z:=K.ns;have aa:=K.lf;refine⟨A4 K,λv hv=>?_⟩;have g:=Y L s K;rw[<-hv]at g;have g1:=g.am;have g5:=g.ns;refine⟨A4 ⟨g.ok,by decide⟩,λq S=>?_⟩;have f:=GP (w:=LP) g.ok;have S:q=Bm L v.2 LP:=S;rw[<-S]at f;have f1:=f.am;have f5:=f.ns;have U:A9 L n q.2:=⟨f.ok,by omega,by omega⟩;refine⟨A4 U,λr W=>?_⟩;have d:=hT L q.2 U;rw[<-W]at d;have bv:=g.EI K.ok (by decide);have br:=d.EI f.ok (by decide);have key:∀u,u=Bm L r.2 [59]->_:=λu hu=>Ui (L:=L) (k:=14) (n:=0) (x:=[]) (tk:=tk) (s:=u.2) (t:=t) (g:=λi=>[vW (flat v.1),vW (flat r.1)].getD i .AW) (y:=v.1) (z:=r.1) (rfl:Nat.blt 8 11=true) (by omega) rfl rfl (by rw[ht,hu,W,S,hv];rfl);exact⟨(key _ rfl).1,A4 ⟨d.ok,by decide⟩,λu hu=>(key u hu).2⟩
theorem Aot:∀(n:Nat) (V T:Ad->PF) (AA:Pq n V T) (L:Ad) (s:RS) (tk:TK) (t:PT×RS),A9 L n s->GF n 1 2 V->GF n 1 2 T->t=LJ V T L tk s->(A3 (cb n V T AA) 60).call 96 [.ptr 0 0,.agg tk.row] (BU (B2 [Bw (vK L) s] 0)) 1 (GZ (vK L) t):=Eq.mpr (by kernel_rfl) Aow
def OT (a:Ad) (b:Nat) (c:RS):=(∃(r:Ad),vK a=vK r/\A9 r (b+1) (qN c))
def fm:=[(101:UInt8),108,115,101]
def fc (a:TK):=Ag (decide (TK.text a=[(119:UInt8),104,105,108,101]))
def U7:=Be (12:Int) [] (0:Int)
def Qo (a:Ad) (b:Nat) (c:RS):=(∃(r:Ad),vK a=vK r/\A9 r b c)
def KG (a:PT):=vW (flat a)
theorem AmA:∀(n:Nat) (T B:Ad->PF),Wd n T B->∀(L:Ad) (s:RS) (t:PT×RS),MX L n s->(Sc n T)->(Gw n B)->t=L4 T B L s->((D6 L s)/\Aa/\Aa/\(qR/\True)/\(qP L s)/\True)/\∀(y:TK),y=Ek L s->C5 s (((OT L n s)/\Aa/\Aa/\(qR/\True)/\(IH L s)/\True)/\∀(J:PT×RS),J=GK T L s->((Qo L n J.2)/\Aa/\Aa/\(qR/\True)/\El L J)/\∀(r:PT×RS),r=DF B L J.2->fc y ((Nat.blt 9 11=true/\Aa/\BW 2 λ(i:Nat)=>Gx J.1 r.1 i)/\BX L (vW (Be (24:Int) [] (0:Int) y (qO J.1 r.1))) r.2 t) (((∃(S:Ad),vK L=vK S/\AJ S r.2/\Nat.le 1 (List.length fm))/\Aa/\Aa/\(qR/\Ae fm/\True)/\El L r)/\Ag (Ay (B3 L r.2 fm)) (C5 r.2 ((fj L n r.2)/\∀(K:PT×RS),K=GK B L r.2->(Nat.blt 17 20=true/\Aa/\BW 3 λ(i:Nat)=>getD [KG J.1,KG r.1,KG K.1] i AV.AW)/\(DE/\DE/\(II y)/\(II y)/\True)/\BX L (vW (Be (23:Int) [] (0:Int) y (Ca 3 λ(i:Nat)=>getD [KG J.1,KG r.1,KG K.1] i AV.AW))) K.2 t)) ((Nat.blt 16 20=true/\Aa/\BW 3 λ(i:Nat)=>getD [KG J.1,KG r.1,vW (U7 y [])] i AV.AW)/\(((True/\True/\True)/\True)/\((True/\True/\True)/\True)/\((True/\qV y/\True)/\True)/\((True/\qV y/\True)/\True)/\True)/\BX L (vW (Be (23:Int) [] (0:Int) y (Ca 3 λ(i:Nat)=>getD [KG J.1,KG r.1,vW (U7 y [])] i AV.AW))) r.2 t)))
:=by
 delta qN qO qP qR qV IH BX C5 Gw Gx D6 B3 DE El Sc OT Ek II GK fm fc U7 Qo KG fj DF;intro n T B AA L s t V hT hB ht;simp only[Bq,D5,Oi,BQ,qP];simp only[Dt];have AA:=V.p.ok;have Y:=V.p.ns;have ab:=V.p.lf;have h0:=AA.a0;have h1:=AA.a1;have aa:=AA.len;have hl:=L2 (L:=L) (s:=s) (by rw[V.k];decide);have a1:=Gi AA hl;refine⟨A4 AA,λy hy=>?_⟩;subst hy;have pa:A9 L (n+1) (A7 s):=⟨a1,Y,by show(L.length:Int)-(s.at_+1)<_;omega⟩;refine Am (AU.2 (by omega)) ⟨A4 pa,λx U=>?_⟩;have U:x=T L (A7 s):=U;have g:=hT L (A7 s) pa;rw[<-U]at g;have g1:s.at_+1<=x.2.at_:=g.am;have g5:x.2.nest=s.nest:=g.ns;have Z:A9 L n x.2:=⟨g.ok,by omega,by omega⟩;refine⟨A4 Z,λb hb=>?_⟩;have d:=hB L x.2 Z;rw[<-hb]at d;have d1:=d.am;have d5:=d.ns;have bx:=g.EI a1 (by decide);have bb:=d.EI g.ok (by decide);have e0:=d.ok.a1;have e1:=d.ok.len;have e2:=d.ok.a0;unfold L4 dg at ht;rw[<-U,<-hb]at ht;refine Ao (λR=>?_) λR=>⟨A4 ⟨d.ok,by decide⟩,Ao (λW=>?_) λW=>?_⟩
 ·rw[Bn]at R;rw[As (show(AY L s).text=Th from R)]at ht;exact Ui rfl (y:=x.1) (z:=b.1) (by omega) rfl rfl ht
 ·rw[CU]at R;rw[An (show¬(AY L s).text=Th from R),As (show A5 L b.2 wq=true from W)]at ht;have l2:=Cg W;have o2:=Gi d.ok l2;have pb:A9 L n (A7 b.2):=⟨o2,by show b.2.nest<=64;omega,by show(L.length:Int)-(b.2.at_+1)<_;omega⟩;refine Am (AU.2 (by omega)) ⟨A4 pb,λc hc=>?_⟩;have hc:c=B L (A7 b.2):=hc;have pc:=hB L (A7 b.2) pb;rw[<-hc]at pc ht;have bc:=pc.EI o2 (by decide);exact Aaa rfl (y:=x.1) (z:=b.1) (v:=c.1) (by omega) rfl rfl rfl ht
 ·rw[CU]at R;rw[An (show¬(AY L s).text=Th from R),An (nb (show A5 L b.2 wq=false from W))]at ht;exact Aaa rfl (y:=x.1) (z:=b.1) (v:=nd 12 [] 0 (AY L s) []) (by rw[J8];omega) rfl rfl (by rw[Aid];rfl) ht
theorem Amz:∀(n:Nat) (T B:Ad->PF) (AA:Wd n T B) (L:Ad) (s:RS) (t:PT×RS),MX L n s->GF (n+1) 1 2 T->GF n 1 2 B->t=L4 T B L s->(A3 (yr n T B AA) 60).call 97 [.ptr 0 0] (BU (B2 [Bw (vK L) s] 0)) 1 (GZ (vK L) t):=Eq.mpr (by kernel_rfl) AmA
theorem AkX {n:Nat} {V T:Ad->PF} (h:Pq n V T) (z:GF n 1 2 V) (hT:GF n 1 2 T):BH Tryz.prog 96 (sT n λL t=>LJ V T L t):=Ad3 (A:=TK) λL s tk y=>⟨cb n V T h,60,_,GZ (vK L) (LJ V T L tk s),rfl,Dq,Bk,rfl,λr x=>AdE x,Aot n V T h L s tk _ y z hT rfl⟩
theorem Akf {n:Nat} {T B:Ad->PF} (h:Wd n T B) (hT:GF (n+1) 1 2 T) (x:GF n 1 2 B):BH Tryz.prog 97 (sB n (L4 T B)):=Iq λL s r=>⟨yr n T B h,60,rfl,Dq,Bk,λt ht=>Amz n T B h L s t r hT x ht⟩
def V1:Aj:=[112,111,115,116]
def iu:Aj:=[97,102,116,101,114]
def wx:Aj:=[102,114,111,110,116]
def xE:Aj:=[116,111]
def Pe (V:Ad->PF) (L:Ad) (k:Int) (x:Aj) (n:Int) (t:TK) (y:PT) (s:RS):PT×RS:=
 if A5 L s xE=true then(nd k x n t [y,(V L (A7 s)).1],(V L (A7 s)).2)else(nd k x n t [y],s)
def fE (T V:Ad->PF) (L:Ad) (t q:TK) (s:RS):PT×RS:=
 if A5 L (T L s).2 iu=true then Pe V L 19 q.text (Bu L (A7 (T L s).2) 3).1.num t (T L s).1 (Bu L (A7 (T L s).2) 3).2
 else if A5 L (T L s).2 wx=true then Pe V L 19 q.text (-1) t (T L s).1 (A7 (T L s).2)
 else Pe V L 19 q.text 0 t (T L s).1 (T L s).2
def Mm (T V:Ad->PF) (L:Ad):PF:=λs=>
 if(AY L s).text=V1 then fE T V L (AY L s) (Bu L (A7 s) 1).1 (Bu L (A7 s) 1).2
 else Pe V L 20 [] 0 (AY L s) (T L (A7 s)).1 (T L (A7 s)).2
theorem iX {n:Nat} {V:Ad->PF} (W:GF n 1 2 V) {L:Ad} {s0 s:RS} {k:Int} {x:Aj} {m:Int} {t:TK} {y:PT} (B:A9 L n s) (K:s0.err=0) (hn:s.nest=s0.nest) (U:s0.at_<=s.at_) (hs:1+(sz y:Int)<=3*(s.at_-s0.at_)):Cs L 1 2 s0 (Pe V L k x m t y s):=by
 have AA:=B.ok;have J:=B.ns;have Y:=B.lf;unfold Pe;split
 ·rename_i e;have S:=Cg e;have Z:=JR e;have R:=Gi AA S;have r:=W L (A7 s) ⟨R,J,by show(L.length:Int)-(s.at_+1)<_;omega⟩;generalize V L (A7 s)=c at r⊢;have c1:s.at_+1<=c.2.at_:=r.am;have c2:(sz c.1:Int)<=3*(c.2.at_-(s.at_+1))+2:=r.ss;have c5:c.2.nest=s.nest:=r.ns;refine⟨r.ok,by show c.2.nest=_;omega,by show _<=c.2.at_;omega,λz=>absurd K z,?_,λz=>?_⟩
  ·show((sz _:Nat):Int)<=3*(c.2.at_-s0.at_)+2;rw[JC];omega
  ·show((sz _:Nat):Int)<=3*(c.2.at_-s0.at_);rw[JC];omega
 ·refine⟨AA,hn,U,λz=>absurd K z,?_,λz=>?_⟩
  ·show((sz _:Nat):Int)<=3*(s.at_-s0.at_)+2;rw[Hk];omega
  ·show((sz _:Nat):Int)<=3*(s.at_-s0.at_);rw[Hk];omega
theorem iW {n:Nat} {V:Ad->PF} (R:GF n 1 2 V) {L:Ad} {s:RS} {k:Int} {x:Aj} {m:Int} {tk:TK} {y:PT} {t:PT×RS} (r:A9 L n s) (hy:sz y<=300100) (ht:t=Pe V L k x m tk y s) {c d:Bool} (hc:c=true) (hd:d=true): (∃M,vK L=vK M/\AJ M s/\1<=([116,111]:Aj).length)/\Ag (A5 L s [116,111]) (Ap (Bf .i64 (s.at_+1)) ((∃M,vK L=vK M/\A9 M n (A7 s))/\∀v,v=V L (A7 s)-> (c=true/\BW 2 λi=>[vW (flat y),vW (flat v.1)].getD i .AW)/\H7 (vK L) (vK L) (vW (Be k x m tk (Ca 2 λi=>[vW (flat y),vW (flat v.1)].getD i .AW))) v.2 t)) ((d=true/\BW 1 λi=>[vW (flat y)].getD i .AW)/\H7 (vK L) (vK L) (vW (Be k x m tk (Ca 1 λi=>[vW (flat y)].getD i .AW))) s t):=by
 have AA:=r.ok;have B:=r.ns;have S:=r.lf;have W:=AA.a0;have U:=AA.a1;have hl:=AA.len;unfold Pe at ht;refine⟨A4 ⟨AA,by decide⟩,Ao (λe=>?_) λe=>?_⟩
 ·rw[As (show A5 L s xE=true from e)]at ht;have K:=Cg e;have J:=Gi AA K;have pa:A9 L n (A7 s):=⟨J,B,by show(L.length:Int)-(s.at_+1)<_;omega⟩;refine Am (AU.2 (by omega)) ⟨A4 pa,λv hv=>?_⟩;have pv:=R L (A7 s) pa;rw[<-hv]at pv ht;have bv:=pv.EI J (by decide);exact Ui hc (y:=y) (z:=v.1) (by omega) rfl rfl ht
 ·rw[An (nb (show A5 L s xE=false from e))]at ht;exact PL hd (y:=y) (by omega) rfl ht
theorem fF {n:Nat} {T:Ad->PF} (hT:GF n 1 2 T) {L:Ad} {s0 s:RS} (r:A9 L n s) (hn:s.nest=s0.nest) (z:s0.at_+1<=s.at_):A9 L n (T L s).2/\(T L s).2.nest=s0.nest/\s0.at_<=(T L s).2.at_/\1+(sz (T L s).1:Int)<=3*((T L s).2.at_-s0.at_)/\sz (T L s).1<=300100:=by have g:=hT L s r;have b:=g.EI r.ok (by decide);have K:=g.am;have J:=g.ss;have B:=g.ns;have x:=r.ns;have y:=r.lf;exact⟨⟨g.ok,by omega,by omega⟩,by omega,by omega,by omega,b⟩
theorem Adp {n:Nat} {T V:Ad->PF} (hT:GF (n+1) 1 2 T) (R:GF (n+1) 1 2 V) {L:Ad} {s:RS} (z:MX L n s):Cs L 1 2 s (Mm T V L s):=by
 have AA:=z.p.ok;have U:=z.p.ns;have aa:=z.p.lf;have hl:=L2 (L:=L) (s:=s) (by rw[z.k];decide);have K:=Py (L:=L) (s:=s) (by rw[z.k];decide);have a1:=Gi AA hl;unfold Mm;split
 ·have f:=Jh (k:=1) a1 (by decide);unfold fE;generalize(Bu L (A7 s) 1)=q at f⊢;have f1:s.at_+1<=q.2.at_:=f.am;have Z:q.2.nest=s.nest:=f.ns;obtain⟨r,y,J,B,W⟩:=fF (s0:=s) hT (s:=q.2) ⟨f.ok,by omega,by omega⟩ Z f1;generalize T L q.2=x at r y J B W⊢;have Y:=r.ns;have y2:=r.lf;split
  ·rename_i e;have S:=Gi r.ok (Cg e);have u:=Jh (k:=3) S (by decide);have u1:x.2.at_+1<=(Bu L (A7 x.2) 3).2.at_:=u.am;have u5:(Bu L (A7 x.2) 3).2.nest=x.2.nest:=u.ns;exact iX R ⟨u.ok,by omega,by omega⟩ K (by omega) (by omega) (by omega)
  split
  ·rename_i e;have S:=Gi r.ok (Cg e);exact iX R ⟨S,Y,by show(L.length:Int)-(x.2.at_+1)<_;omega⟩ K y (by show _<=x.2.at_+1;omega) (by show _<=3*(x.2.at_+1-_);omega)
  ·exact iX R r K y J B
 ·obtain⟨r,y,J,B,W⟩:=fF (s0:=s) hT (s:=A7 s) ⟨a1,U,by show(L.length:Int)-(s.at_+1)<_;omega⟩ rfl (H8 _);exact iX R r K y J B
@[reducible] def Tx:Ad->TK×RS->Prop:=λ(L:Ad) (a:TK×RS)=>(qP L a.2)/\True
@[reducible] def Zr:Ad->PT×RS->Prop:=λ(L:Ad) (a:PT×RS)=>(IH L a.2)/\True
def Nr:=[(116:UInt8),111]
def X8:=Nat.le 1 (List.length Nr)
@[reducible] def jq:Ad->PT×RS->Prop:=λ(L:Ad) (a:PT×RS)=>(∃(r:Ad),vK L=vK r/\AJ r a.2/\X8)/\Aa/\Aa/\(qR/\Ae Nr/\True)/\El L a
@[reducible] def jr:Nat->Ad->PT×RS->Prop:=λ(n:Nat) (L:Ad) (a:PT×RS)=>(OT L n a.2)/\Aa/\Aa/\(qR/\True)/\Zr L a
def fQ:=[(102:UInt8),114,111,110,116]
def fS:=[(97:UInt8),102,116,101,114]
def Sp (a:TK):=Be (19:Int) (Eb a)
def uX (a:RS):=RS.mk (RS.at_ a+1+1) (RS.nest a) (RS.err a) (RS.BE a)
def fh (a:TK):=Ag (decide (TK.text a=[(112:UInt8),111,115,116]))
theorem Aog:∀(n:Nat) (V T:Ad->PF),Pq (n+1) V T->∀(L:Ad) (s:RS) (t:PT×RS),MX L n s->(Sc n V)->(Sc n T)->t=Mm T V L s->((D6 L s)/\Aa/\Aa/\(qR/\True)/\(qP L s)/\True)/\∀(y:TK),y=Ek L s->C5 s (fh y (((Qk L s)/\Aa/\Aa/\KF/\Ms L s)/\∀(z:TK×RS),z=Mq L s->((Nv L n z.2)/\Aa/\Aa/\(qR/\True)/\Tx L z)/\∀(r:PT×RS),r=DF T L z.2->((∃(J:Ad),vK L=vK J/\AJ J r.2/\Nat.le 1 (List.length fS))/\Aa/\Aa/\(qR/\Ae fS/\True)/\El L r)/\Ag (Ay (B3 L r.2 fS)) (C5 r.2 (((∃(J:Ad),vK L=vK J/\AJ J (qN r.2)/\((3:Int)=(0:Int)->False))/\Aa/\Aa/\(qR/\(Aa/\Ae (3:Int))/\True)/\Zr L r)/\∀(B:TK×RS),B=Bu (kL (vK L)) (qN r.2) (3:Int)->((∃(J:Ad),vK L=vK J/\AJ J B.2/\X8)/\Aa/\Aa/\(qR/\Ae Nr/\True)/\Tx L B)/\Ag (Ay (B3 L B.2 Nr)) (C5 B.2 (((OT L n B.2)/\Aa/\Aa/\(qR/\True)/\(IH L B.2)/\True)/\∀(R:PT×RS),R=GK V L B.2->(Nat.blt 15 17=true/\Aa/\BW 2 λ(i:Nat)=>Gx r.1 R.1 i)/\BX L (vW (Sp z.1 (TK.num B.1) y (qO r.1 R.1))) R.2 t)) ((Nat.blt 7 13=true/\Aa/\BW 1 λ(i:Nat)=>Ga r.1 i)/\BX L (vW (Sp z.1 (TK.num B.1) y (qX r.1))) B.2 t))) (((∃(J:Ad),vK L=vK J/\AJ J r.2/\Nat.le 1 (List.length fQ))/\Aa/\Aa/\(qR/\Ae fQ/\True)/\El L r)/\Ag (Ay (B3 L r.2 fQ)) (C5 r.2 (((∃(J:Ad),vK L=vK J/\AJ J (qN r.2)/\X8)/\Aa/\Aa/\(qR/\Ae Nr/\True)/\Zr L r)/\Ag (Ay (B3 L (qN r.2) Nr)) (Ap (Bf .i64 (RS.at_ r.2+1+1)) (((∃(J:Ad),vK L=vK J/\A9 J (n+1) (uX r.2))/\Aa/\Aa/\(qR/\True)/\(Aa/\Aa/\Aa/\(((FQ L/\Aa/\Ae (RS.at_ r.2+1+1))/\Aa/\Ae (RS.nest r.2))/\Aa/\Ae (RS.err r.2))/\Aa/\Hc r.2)/\True)/\∀(B:PT×RS),B=V (kL (vK L)) (uX r.2)->(Nat.blt 15 17=true/\Aa/\BW 2 λ(i:Nat)=>Gx r.1 B.1 i)/\BX L (vW (Sp z.1 (Int.negSucc 0) y (qO r.1 B.1))) B.2 t)) ((Nat.blt 7 13=true/\Aa/\BW 1 λ(i:Nat)=>Ga r.1 i)/\BX L (vW (Sp z.1 (Int.negSucc 0) y (qX r.1))) (qN r.2) t))) (jq L r/\Ag (Ay (B3 L r.2 Nr)) (C5 r.2 (jr n L r/\∀(B:PT×RS),B=GK V L r.2->(Nat.blt 14 16=true/\Aa/\BW 2 λ(i:Nat)=>Gx r.1 B.1 i)/\BX L (vW (Sp z.1 (0:Int) y (qO r.1 B.1))) B.2 t)) ((Nat.blt 7 12=true/\Aa/\BW 1 λ(i:Nat)=>Ga r.1 i)/\BX L (vW (Sp z.1 (0:Int) y (qX r.1))) r.2 t)))) (((OT L n s)/\Aa/\Aa/\(qR/\True)/\Ms L s)/\∀(z:PT×RS),z=GK T L s->jq L z/\Ag (Ay (B3 L z.2 Nr)) (C5 z.2 (jr n L z/\∀(r:PT×RS),r=GK V L z.2->(Nat.blt 11 13=true/\Aa/\BW 2 λ(i:Nat)=>Gx z.1 r.1 i)/\BX L (vW (Be (20:Int) [] (0:Int) y (qO z.1 r.1))) r.2 t)) ((Nat.blt 6 9=true/\Aa/\BW 1 λ(i:Nat)=>Ga z.1 i)/\BX L (vW (Be (20:Int) [] (0:Int) y (qX z.1))) z.2 t)))
:=by
 delta qN qO qP qR qX IH BX C5 Ga Gx D6 B3 Nr El Qk Sc KF Eb OT Ek Mq fQ fS Nv GK FQ Sp uX fh Hc Ms DF X8;intro n V T AA L s t hp hV hT ht;simp only[Bq,D5,Tx,Oi,Zo,Zr,jq,jr,BQ,qP,IH,qR,Nr,El,X8,qN,OT];simp only[Dt];have AA:=hp.p.ok;have aa:=hp.p.ns;have ad:=hp.p.lf;have h0:=AA.a0;have h1:=AA.a1;have ab:=AA.len;have hl:=L2 (L:=L) (s:=s) (by rw[hp.k];decide);have a1:=Gi AA hl;unfold Mm at ht;refine⟨A4 AA,λy hy=>Am (AU.2 (by omega)) ?_⟩;subst hy;refine Ao (λY=>?_) λY=>?_
 ·rw[Bn]at Y;rw[As (show(AY L s).text=V1 from Y)]at ht;refine⟨A4 ⟨a1,λh=>by cases h⟩,λq hq=>?_⟩;have hq:q=Bu L (A7 s) 1:=hq;have f:=Jh (k:=1) a1 (by decide);rw[<-hq]at f ht;have f1:s.at_+1<=q.2.at_:=f.am;have f5:q.2.nest=s.nest:=f.ns;have pq:A9 L (n+1) q.2:=⟨f.ok,by omega,by omega⟩;refine⟨A4 pq,λx U=>?_⟩;obtain⟨K,x2,x3,x4,S⟩:=fF (s0:=s) hT pq f5 f1;unfold fE at ht;rw[<-U]at K x2 x3 x4 S ht;have y1:=K.ns;have y2:=K.lf;have y3:=K.ok.a0;have y4:=K.ok.a1;refine⟨A4 ⟨K.ok,by decide⟩,Ao (λW=>?_) λW=>⟨A4 ⟨K.ok,by decide⟩,Ao (λc3=>?_) λc3=>?_⟩⟩
  ·rw[As (show A5 L x.2 iu=true from W)]at ht;have Z:=Gi K.ok (Cg W);refine Am (AU.2 (by omega)) ⟨A4 ⟨Z,λh=>by cases h⟩,λu hu=>?_⟩;have hu:u=Bu L (A7 x.2) 3:=hu;have f2:=Jh (k:=3) Z (by decide);rw[<-hu]at f2 ht;have u1:x.2.at_+1<=u.2.at_:=f2.am;have u5:u.2.nest=x.2.nest:=f2.ns;exact iW hV ⟨f2.ok,by omega,by omega⟩ S ht rfl rfl
  ·rw[An (nb (show A5 L x.2 iu=false from W)),As (show A5 L x.2 wx=true from c3)]at ht;have Z:=Gi K.ok (Cg c3);exact Am (AU.2 (by omega)) (iW hV (s:=A7 x.2) ⟨Z,y1,by show(L.length:Int)-(x.2.at_+1)<_;omega⟩ S ht rfl rfl)
  ·rw[An (nb (show A5 L x.2 iu=false from W)),An (nb (show A5 L x.2 wx=false from c3))]at ht;exact iW hV K S ht rfl rfl
 ·rw[CU]at Y;rw[An (show¬(AY L s).text=V1 from Y)]at ht;have pa:A9 L (n+1) (A7 s):=⟨a1,aa,by show(L.length:Int)-(s.at_+1)<_;omega⟩;refine⟨A4 pa,λx U=>?_⟩;have U:x=T L (A7 s):=U;obtain⟨K,x2,x3,x4,S⟩:=fF (s0:=s) hT (s:=A7 s) pa rfl (H8 _);rw[<-U]at K x2 x3 x4 S ht;exact iW hV K S ht rfl rfl
theorem Aof:∀(n:Nat) (V T:Ad->PF) (AA:Pq (n+1) V T) (L:Ad) (s:RS) (t:PT×RS),MX L n s->GF (n+1) 1 2 V->GF (n+1) 1 2 T->t=Mm T V L s->(A3 (cb (n+1) V T AA) 60).call 99 [.ptr 0 0] (BU (B2 [Bw (vK L) s] 0)) 1 (GZ (vK L) t):=Eq.mpr (by kernel_rfl) Aog
theorem AkQ {n:Nat} {T V:Ad->PF} (h:Pq (n+1) V T) (hT:GF (n+1) 1 2 T) (x:GF (n+1) 1 2 V):BH Tryz.prog 99 (sB n (Mm T V)):=Iq λL s r=>⟨cb (n+1) V T h,60,rfl,Dq,Bk,λt ht=>Aof n V T h L s t r x hT ht⟩
def wy:Aj:=[105,102]
def V4:Aj:=[118,97,114]
def wj:Aj:=[99,97,108,108]
def wk:Aj:=[99,97,110,99,101,108]
def wz:Aj:=[106,111,105,110]
def xA:Aj:=[108,111,103]
def xD:Aj:=[115,112,97,119,110]
def wu:Aj:=[101,110,97,98,108,101]
def wo:Aj:=[100,105,115,97,98,108,101]
def xC:Aj:=[114,101,116,117,114,110]
def HD (L:Ad) (r:PT×RS):PT×RS:=(r.1,(Bm L r.2 JE).2)
def ie (T:Ad->PF) (L:Ad) (t:TK) (k:TK×RS):PT×RS:=(nd 13 k.1.text 0 t [(Gg L k.2).1,(T L (Bm L (Gg L k.2).2 LP).2).1],(T L (Bm L (Gg L k.2).2 LP).2).2)
def OH (T:Ad->PF) (L:Ad) (k:Int) (t:TK) (s:RS):PT×RS:=(nd k [] 0 t [(T L s).1],(T L s).2)
def R1 (L:Ad) (k:Int) (t:TK) (s:RS):PT×RS:=(nd k (Bu L s 1).1.text 0 t [],(Bu L s 1).2)
def N7 (Se:Ad->TK->PF) (Br Po T:Ad->PF) (L:Ad):PF:=λs=>
 if(AY L s).kind≠2 then Se L (AY L s) s
 else if(AY L s).text=wy then Br L s
 else if(AY L s).text=Th then Br L s
 else if(AY L s).text=V4 then HD L (ie T L (AY L s) (Bu L (A7 s) 1))
 else if(AY L s).text=wj then HD L (OH T L 15 (AY L s) (A7 s))
 else if(AY L s).text=wk then HD L (OH T L 16 (AY L s) (A7 s))
 else if(AY L s).text=wz then HD L (OH T L 17 (AY L s) (A7 s))
 else if(AY L s).text=xA then HD L (OH T L 18 (AY L s) (A7 s))
 else if(AY L s).text=V1 then HD L (Po L s)
 else if(AY L s).text=xD then HD L (Po L s)
 else if(AY L s).text=wu then HD L (R1 L 21 (AY L s) (A7 s))
 else if(AY L s).text=wo then HD L (R1 L 22 (AY L s) (A7 s))
 else if(AY L s).text=xC then HD L (nd 25 [] 0 (AY L s) [],A7 s)
 else Se L (AY L s) s
structure Wg (n:Nat) (Se:List TK->TK->PF) (Br Po T:List TK->PF):Prop where
 s:BH Tryz.prog 96 (sT (n+1) Se)
 b:BH Tryz.prog 97 (sB n Br)
 p:BH Tryz.prog 99 (sB n Po)
 t:BH Tryz.prog 98 (sF (n+1) T)
def Abu (n:Nat) (Se:Ad->TK->PF) (Br Po T:Ad->PF):CZ:=(96,sT (n+1) Se)::(97,sB n Br)::(99,sB n Po)::(98,sF (n+1) T)::Mc
theorem AiE {n:Nat} {Se:Ad->TK->PF} {Br Po T:Ad->PF} (h:Wg n Se Br Po T):Es Tryz.prog (Abu n Se Br Po T):=Dj h.s (Dj h.b (Dj h.p (Dj h.t Nh)))
def zY (n:Nat) (Se:Ad->TK->PF) (Br Po T:Ad->PF) (h:Wg n Se Br Po T):Ctx:=K7 (Abu n Se Br Po T) (AiE h)
structure GS (n:Nat) (Se:List TK->TK->PF) (Br Po T:List TK->PF):Prop where
 s:∀t,GF (n+1) 3 4 λL=>Se L t
 b:∀L s,MX L n s->Cs L 1 2 s (Br L s)
 p:∀L s,MX L n s->Cs L 1 2 s (Po L s)
 t:GF (n+1) 1 2 T
theorem GG {α:Type} {P:α->Prop} {p:Prop} [Decidable p] {a b:α} (x:p->P a) (r:¬p->P b):P (if p then a else b):=by
 by_cases h:p
 ·rw[As h];exact x h
 ·rw[An h];exact r h
theorem Adr {L:Ad} {E C x y:Int} {s:RS} {r:PT×RS} (h:Cs L E C s r) (B:E<=x) (hc:C<=y):Cs L x y s r:=⟨h.ok,h.ns,h.am,λz=>⟨(h.er z).1,(h.er z).2.1,by have:=(h.er z).2.2;omega⟩,by have:=h.ss;omega,h.so⟩
theorem YR {L:Ad} {E C:Int} {s:RS} {r:PT×RS} (h:Cs L E C s r):Cs L E C s (HD L r):=by have e:=GP (w:=JE) h.ok;unfold HD;generalize(Bm L r.2 JE).2=u at e⊢;have W:=e.am;have V:=e.ax;have U:=e.eo;have S:=e.er;have R:=e.ns;have K:=h.am;have J:=h.ss;have B:=h.so;have x:=h.er;have y:=h.ns;exact⟨e.ok,by show u.nest=_;omega,by show _<=u.at_;omega,λz=>⟨by show u.err≠0;omega,by show u.at_=_;omega,(x z).2.2⟩,by show(sz r.1:Int)<=3*(u.at_-_)+C;omega,λz=>by have z:u.err=0:=z;show(sz r.1:Int)<=3*(u.at_-_);omega⟩
theorem Alq {n:Nat} {T:Ad->PF} (hT:GF n 1 2 T) {L:Ad} {s0 s:RS} {k:Int} {t:TK} (r:A9 L n s) (y:s0.err=0) (hn:s.nest=s0.nest) (B:s0.at_+1<=s.at_):Cs L 3 4 s0 (OH T L k t s):=by
 have g:=hT L s r;unfold OH;generalize T L s=x at g⊢;have S:=g.am;have R:=g.ss;have K:=g.so;have J:=g.ns;refine⟨g.ok,by show x.2.nest=_;omega,by show _<=x.2.at_;omega,λz=>absurd y z,?_,λz=>?_⟩
 ·show((sz _:Nat):Int)<=3*(x.2.at_-s0.at_)+4;rw[Hk];omega
 ·show((sz _:Nat):Int)<=3*(x.2.at_-s0.at_);rw[Hk];omega
theorem Aj0 {L:Ad} {s0 s:RS} {k:Int} {t:TK} (h:AJ L s) (r:s0.err=0) (hn:s.nest=s0.nest) (x:s0.at_+1<=s.at_):Cs L 3 4 s0 (R1 L k t s):=by
 have f:=Jh (k:=1) h (by decide);unfold R1;generalize(Bu L s 1)=q at f⊢;have B:=f.am;have y:=f.ns;refine⟨f.ok,by show q.2.nest=_;omega,by show _<=q.2.at_;omega,λz=>absurd r z,?_,λz=>?_⟩
 ·show((sz _:Nat):Int)<=3*(q.2.at_-s0.at_)+4;rw[J8];omega
 ·show((sz _:Nat):Int)<=3*(q.2.at_-s0.at_);rw[J8];omega
theorem Afm {n:Nat} {T:Ad->PF} (hT:GF n 1 2 T) {L:Ad} {s0:RS} {t:TK} {k:TK×RS} (r:A9 L n k.2) (J:s0.err=0) (hn:k.2.nest=s0.nest) (S:s0.at_+1<=k.2.at_):Cs L 1 1 k.2 (Gg L k.2)/\A9 L n (Bm L (Gg L k.2).2 LP).2/\Cs L 3 4 s0 (ie T L t k):=by
 have g:=YX (L:=L) (s:=k.2) r.ok;have R:=r.ns;have K:=r.lf;unfold ie;generalize Gg L k.2=y at g⊢;have g1:=g.am;have Z:=g.ss;have Y:=g.so;have V:=g.ns;have W:=g.er;have U:=J9 y.1;have f:=GP (w:=LP) g.ok;generalize(Bm L y.2 LP).2=q at f⊢;have f1:=f.am;have f2:=f.ax;have f3:=f.eo;have f4:=f.er;have f5:=f.ns;have B:A9 L n q:=⟨f.ok,by omega,by omega⟩;have d:=hT L q B;generalize T L q=x at d⊢;have d1:=d.am;have d2:=d.ss;have d3:=d.so;have d5:=d.ns;have d4:=d.er;have d6:=J9 x.1;refine⟨g,B,d.ok,by show x.2.nest=_;omega,by show _<=x.2.at_;omega,λz=>absurd J z,?_,λz=>?_⟩
 ·show((sz _:Nat):Int)<=3*(x.2.at_-s0.at_)+4;rw[JC];omega
 ·have z:x.2.err=0:=z;show((sz _:Nat):Int)<=3*(x.2.at_-s0.at_);rw[JC];omega
theorem AeG {n:Nat} {Se:Ad->TK->PF} {Br Po T:Ad->PF} (h:GS n Se Br Po T):GF (n+1) 3 4 (N7 Se Br Po T):=by
 intro L s r;have AA:=r.ok;have B:=r.ns;have V:=r.lf;unfold N7;refine GG (P:=Cs L 3 4 s) (λ_=>h.s _ L s r) λx=>?_;have x:(AY L s).kind=2:=by omega
 have hl:=L2 (L:=L) (s:=s) (by rw[x];decide);have z:=Py (L:=L) (s:=s) (by rw[x];decide);have a1:=Gi AA hl;have pa:A9 L (n+1) (A7 s):=⟨a1,B,by show(L.length:Int)-(s.at_+1)<_;omega⟩;have y:∀k,Cs L 3 4 s (HD L (OH T L k (AY L s) (A7 s))):=λk=>YR (Alq h.t pa z rfl (H8 _));have R:∀k,Cs L 3 4 s (HD L (R1 L k (AY L s) (A7 s))):=λk=>YR (Aj0 a1 z rfl (H8 _));have K:=Adr (h.b L s ⟨r,x⟩) (show(1:Int)<=3 by decide) (show(2:Int)<=4 by decide);have J:=YR (Adr (h.p L s ⟨r,x⟩) (show(1:Int)<=3 by decide) (show(2:Int)<=4 by decide));have f:=Jh (k:=1) a1 (by decide);have U:s.at_+1<=(Bu L (A7 s) 1).2.at_:=f.am;have S:(Bu L (A7 s) 1).2.nest=s.nest:=f.ns;exact GG (λ_=>K) λ_=>GG (λ_=>K) λ_=>GG (λ_=>YR (Afm h.t ⟨f.ok,by omega,by omega⟩ z S U).2.2) λ_=>GG (λ_=>y 15) λ_=>GG (λ_=>y 16) λ_=>GG (λ_=>y 17) λ_=>
  GG (λ_=>y 18) λ_=>GG (λ_=>J) λ_=>GG (λ_=>J) λ_=>GG (λ_=>R 21) λ_=>GG (λ_=>R 22) λ_=>GG (λ_=>YR (XO AA hl z (by decide))) λ_=>h.s _ L s r
theorem ek {n:Nat} {T:Ad->PF} (hT:GF n 1 2 T) {L:Ad} {s:RS} {k:Int} {tk:TK} {t:PT×RS} (r:A9 L n s) (ht:t=HD L (OH T L k tk s)) {c:Bool} (hc:c=true): (∃M,vK L=vK M/\A9 M n s)/\∀y,y=T L s->(c=true/\BW 1 λi=>[vW (flat y.1)].getD i .AW)/\(∃M,vK L=vK M/\AJ M y.2/\1<=([59]:Aj).length)/\ ∀z,z=Bm L y.2 [59]->H7 (vK L) (vK L) (vW (Be k [] 0 tk (Ca 1 λi=>[vW (flat y.1)].getD i .AW))) z.2 t:=by refine⟨A4 r,λy hy=>?_⟩;have g:=hT L s r;rw[<-hy]at g;have b:=g.EI r.ok (by decide);have key:∀z,z=Bm L y.2 [59]->_:=λz hz=>PL (L:=L) (k:=k) (n:=0) (x:=[]) (tk:=tk) (s:=z.2) (t:=t) (y:=y.1) (g:=λi=>[vW (flat y.1)].getD i .AW) hc (by omega) rfl (by rw[ht,hz,hy];rfl);exact⟨(key _ rfl).1,A4 ⟨g.ok,by decide⟩,λz hz=>(key z hz).2⟩
theorem AcM {L:Ad} {s:RS} {k:Int} {tk:TK} {t:PT×RS} (h:AJ L s) (ht:t=HD L (R1 L k tk s)):(∃M,vK L=vK M/\AJ M s/\((1:Int)=0->False))/\∀y,y=Bu L s 1->(∃M,vK L=vK M/\AJ M y.2/\1<=([59]:Aj).length)/\ ∀z,z=Bm L y.2 [59]->H7 (vK L) (vK L) (vW (Be k y.1.text 0 tk [])) z.2 t:=by refine⟨A4 ⟨h,λh=>by cases h⟩,λy hy=>?_⟩;have f:=Jh (k:=1) h (by decide);rw[<-hy]at f;exact⟨A4 ⟨f.ok,by decide⟩,λz hz=>M8 (by rw[ht,hz,hy];rfl)⟩
@[reducible] def js:TK->Prop:=λ(a:TK)=>(II a)/\DE/\DE/\True
@[reducible] def Ty:TK->Prop:=λ(a:TK)=>DE/\DE/\(II a)/\True
@[reducible] def jx:Nat->Ad->RS->Prop:=λ(n:Nat) (L:Ad) (s:RS)=>(∃(r:Ad),vK L=vK r/\MX r n s)/\Tw L s
@[reducible] def jy:Ad->TK×RS->Prop:=λ(L:Ad) (a:TK×RS)=>Aa/\Aa/\(qR/\True)/\Tx L a
@[reducible] def jt:Nat->(Ad->PF)->Ad->RS->PT×RS->Prop:=λ(n:Nat) (Br:Ad->PF) (L:Ad) (s:RS) (t:PT×RS)=>jx n L s/\∀(y:PT×RS),y=DF Br L s->Gb L y.1 y.2 t
@[reducible] def Wn:Nat->Ad->RS->Prop:=λ(n:Nat) (L:Ad) (s:RS)=>(OT L n s)/\Aa/\Aa/\(qR/\True)/\Ms L s
@[reducible] def ju:Ad->TK×RS->Prop:=λ(L:Ad) (a:TK×RS)=>(ON L a.2)/\Aa/\Aa/\Mr/\Tx L a
@[reducible] def xP:Ad->PT×RS->Prop:=λ(L:Ad) (a:PT×RS)=>(ON L a.2)/\Aa/\Aa/\Mr/\El L a
@[reducible] def Zs:Ad->RS->Prop:=λ(L:Ad) (s:RS)=>(Qk L s)/\Aa/\Aa/\KF/\Ms L s
@[reducible] def jv:Nat->(Ad->TK->PF)->Ad->RS->PT×RS->TK->Prop:=λ(n:Nat) (Se:Ad->TK->PF) (L:Ad) (s:RS) (t:PT×RS) (a:TK)=>((Nv L n s)/\Aa/\Aa/\(qR/\((Aa/\Ae (TK.kind a))/\Ae (TK.text a)/\(Aa/\Ae (TK.num a))/\(Aa/\Ae (TK.line a))/\(Aa/\Ae (TK.Av a))/\True)/\True)/\CP L s)/\∀(y:PT×RS),y=Se (kL (vK L)) a s->Gb L y.1 y.2 t
def Qu (a:Ad):=xP a
@[reducible] def jw:Nat->(Ad->PF)->Ad->RS->PT×RS->Prop:=λ(n:Nat) (Po:Ad->PF) (L:Ad) (s:RS) (t:PT×RS)=>jx n L s/\∀(y:PT×RS),y=DF Po L s->Qu L y/\∀(r:TK×RS),r=IJ L y.2->Gb L y.1 r.2 t
def Sb (a:PT):=(Nat.blt 8 11=true/\Aa/\BW 1 λ(r:Nat)=>Ga a r)
def fx (a:TK):=Ag (decide (TK.text a=[(118:UInt8),97,114]))
theorem AoA:∀(n:Nat) (Se:Ad->TK->PF) (Br Po T:Ad->PF),Wg n Se Br Po T->∀(L:Ad) (s:RS) (t:PT×RS),A9 L (n+1) s->GS n Se Br Po T->t=N7 Se Br Po T L s->((D6 L s)/\Tw L s)/\∀(y:TK),y=Ek L s->Ag (!Au (TK.kind y) (2:Int)) (jv n Se L s t y) (Ag (decide (TK.text y=[(105:UInt8),102])) (jt n Br L s t) (fc y (jt n Br L s t) (fx y (C5 s (Zs L s/\∀(r:TK×RS),r=Mq L s->((D6 L r.2)/\jy L r)/\∀(J:PT×RS),J=Gg (kL (vK L)) r.2->(fp L J.2 J)/\∀(V:TK×RS),V=GJ L J.2 [(61:UInt8)]->((Nv L n V.2)/\jy L V)/\∀(U:PT×RS),U=DF T L V.2->(Qg J.1 U.1)/\Ty y/\Qu L U/\∀(Y:TK×RS),Y=IJ L U.2->BX L (vW (Be (13:Int) (Eb r.1) (0:Int) y (qO J.1 U.1))) Y.2 t)) (Ag (decide (TK.text y=[(99:UInt8),97,108,108])) (C5 s (Wn n L s/\∀(r:PT×RS),r=GK T L s->(Sb r.1)/\Ty y/\Qu L r/\∀(J:TK×RS),J=IJ L r.2->BX L (vW (Be (15:Int) [] (0:Int) y (qX r.1))) J.2 t)) (Ag (decide (TK.text y=[(99:UInt8),97,110,99,101,108])) (C5 s (Wn n L s/\∀(r:PT×RS),r=GK T L s->(Sb r.1)/\Ty y/\Qu L r/\∀(J:TK×RS),J=IJ L r.2->BX L (vW (Be (16:Int) [] (0:Int) y (qX r.1))) J.2 t)) (Ag (decide (TK.text y=[(106:UInt8),111,105,110])) (C5 s (Wn n L s/\∀(r:PT×RS),r=GK T L s->(Sb r.1)/\Ty y/\Qu L r/\∀(J:TK×RS),J=IJ L r.2->BX L (vW (Be (17:Int) [] (0:Int) y (qX r.1))) J.2 t)) (Ag (decide (TK.text y=[(108:UInt8),111,103])) (C5 s (Wn n L s/\∀(r:PT×RS),r=GK T L s->(Sb r.1)/\Ty y/\Qu L r/\∀(J:TK×RS),J=IJ L r.2->BX L (vW (Be (18:Int) [] (0:Int) y (qX r.1))) J.2 t)) (fh y (jw n Po L s t) (Ag (decide (TK.text y=[(115:UInt8),112,97,119,110])) (jw n Po L s t) (Ag (decide (TK.text y=[(101:UInt8),110,97,98,108,101])) (C5 s (Zs L s/\∀(r:TK×RS),r=Mq L s->js y/\ju L r/\∀(J:TK×RS),J=IJ L r.2->BX L (vW (Be (21:Int) (Eb r.1) (0:Int) y [])) J.2 t)) (Ag (decide (TK.text y=[(100:UInt8),105,115,97,98,108,101])) (C5 s (Zs L s/\∀(r:TK×RS),r=Mq L s->js y/\ju L r/\∀(J:TK×RS),J=IJ L r.2->BX L (vW (Be (22:Int) (Eb r.1) (0:Int) y [])) J.2 t)) (Ag (decide (TK.text y=[(114:UInt8),101,116,117,114,110])) (C5 s (((∃(Z:Ad),vK L=vK Z/\AJ Z (qN s)/\Nat.le 1 (List.length [(59:UInt8)]))/\Aa/\Aa/\Mr/\Ms L s)/\∀(r:TK×RS),r=GJ L (qN s) [(59:UInt8)]->BX L (vW (Be (25:Int) [] (0:Int) y [])) r.2 t)) (jv n Se L s t y)))))))))))))
:=by
 delta qN qO qR qX BX C5 Ga Gx D6 GJ El Sb Eb Ek Mq IJ Nv Mr Qg GK fp fc fh Ms DF Qu fx;intro n Se Br Po T AA L s t S W ht;simp only[Bq,js,Ty,D5,Kk,Zo,Tx,Oi,Tw,jx,jy,jt,Wn,ju,xP,Zs,jv,jw,qV,DE,II,BQ,qP,IH,qR,CP,BX,Gb,DF,qN,OT,Ms,ON,Mr,El,Qk,KF,Nv,GJ,IJ,Qu];simp only[Dt];have AA:=S.ok;have aa:=S.ns;have ad:=S.lf;have h0:=AA.a0;have h1:=AA.a1;have ab:=AA.len;refine⟨A4 AA,λy hy=>?_⟩;subst hy;unfold N7 at ht;refine Ao (λR=>?_) λR=>?_
 ·rw[BZ,BB]at R;rw[As R]at ht;exact⟨A4 S,λy hy=>HP (ht.trans hy.symm)⟩
 rw[BI,Ba]at R;rw[An (λe=>e R)]at ht;have hl:=L2 (L:=L) (s:=s) (by rw[R];decide);have a1:=Gi AA hl;have K:Bf IntKind.i64 (s.at_+1)=true:=AU.2 (by omega);have pa:A9 L (n+1) (A7 s):=⟨a1,aa,by show(L.length:Int)-(s.at_+1)<_;omega⟩;refine Ao (λB=>?_) λB=>?_
 ·rw[Bn]at B;rw[As (show(AY L s).text=wy from B)]at ht;exact⟨A4 ⟨S,R⟩,λy hy=>HP (ht.trans hy.symm)⟩
 rw[CU]at B;rw[An (show¬(AY L s).text=wy from B)]at ht;refine Ao (λB=>?_) λB=>?_
 ·rw[Bn]at B;rw[As (show(AY L s).text=Th from B)]at ht;exact⟨A4 ⟨S,R⟩,λy hy=>HP (ht.trans hy.symm)⟩
 rw[CU]at B;rw[An (show¬(AY L s).text=Th from B)]at ht;refine Ao (λB=>?_) λB=>?_
 ·rw[Bn]at B;rw[As (show(AY L s).text=V4 from B)]at ht;refine Am K ⟨A4 ⟨a1,λh=>by cases h⟩,λk hk=>?_⟩;have hk:k=Bu L (A7 s) 1:=hk;have f:=Jh (k:=1) a1 (by decide);rw[<-hk]at f ht;have f1:s.at_+1<=k.2.at_:=f.am;have f5:k.2.nest=s.nest:=f.ns;have pk:A9 L (n+1) k.2:=⟨f.ok,by omega,by omega⟩;obtain⟨d1,d2,_⟩:=Afm (t:=AY L s) (s0:=s) W.t pk (Py (by rw[R];decide)) f5 f1;refine⟨A4 f.ok,λy hy=>?_⟩;rw[<-hy]at d1 d2;refine⟨A4 ⟨d1.ok,by decide⟩,λq hq=>?_⟩;have hq:q=Bm L y.2 LP:=hq;rw[<-hq]at d2;refine⟨A4 d2,λx hx=>?_⟩;have g:=W.t L q.2 d2;rw[<-hx]at g;have b1:=d1.EI f.ok (by decide);have b2:=g.EI d2.ok (by decide);have key:∀z,z=Bm L x.2 [59]->_:=λz hz=>Ui (L:=L) (k:=13) (n:=0) (x:=k.1.text) (tk:=AY L s) (s:=z.2) (t:=t) (g:=λi=>[vW (flat y.1),vW (flat x.1)].getD i .AW) (y:=y.1) (z:=x.1) (rfl:Nat.blt 13 16=true) (by omega) rfl rfl (by rw[ht,hz,hx,hq,hy];rfl);exact⟨(key _ rfl).1,A4 ⟨g.ok,by decide⟩,λz hz=>(key z hz).2⟩
 rw[CU]at B;rw[An (show¬(AY L s).text=V4 from B)]at ht;refine Ao (λB=>?_) λB=>?_
 ·rw[Bn]at B;rw[As (show(AY L s).text=wj from B)]at ht;exact Am K (ek W.t pa ht rfl)
 rw[CU]at B;rw[An (show¬(AY L s).text=wj from B)]at ht;refine Ao (λB=>?_) λB=>?_
 ·rw[Bn]at B;rw[As (show(AY L s).text=wk from B)]at ht;exact Am K (ek W.t pa ht rfl)
 rw[CU]at B;rw[An (show¬(AY L s).text=wk from B)]at ht;refine Ao (λB=>?_) λB=>?_
 ·rw[Bn]at B;rw[As (show(AY L s).text=wz from B)]at ht;exact Am K (ek W.t pa ht rfl)
 rw[CU]at B;rw[An (show¬(AY L s).text=wz from B)]at ht;refine Ao (λB=>?_) λB=>?_
 ·rw[Bn]at B;rw[As (show(AY L s).text=xA from B)]at ht;exact Am K (ek W.t pa ht rfl)
 rw[CU]at B;rw[An (show¬(AY L s).text=xA from B)]at ht;refine Ao (λB=>?_) λB=>?_
 ·rw[Bn]at B;rw[As (show(AY L s).text=V1 from B)]at ht;refine⟨A4 ⟨S,R⟩,λy hy=>?_⟩;have g:=W.p L s ⟨S,R⟩;rw[<-hy]at g ht;exact⟨A4 ⟨g.ok,by decide⟩,λz hz=>HP (y:=(y.1,z.2)) (by rw[ht,hz];rfl)⟩
 rw[CU]at B;rw[An (show¬(AY L s).text=V1 from B)]at ht;refine Ao (λB=>?_) λB=>?_
 ·rw[Bn]at B;rw[As (show(AY L s).text=xD from B)]at ht;refine⟨A4 ⟨S,R⟩,λy hy=>?_⟩;have g:=W.p L s ⟨S,R⟩;rw[<-hy]at g ht;exact⟨A4 ⟨g.ok,by decide⟩,λz hz=>HP (y:=(y.1,z.2)) (by rw[ht,hz];rfl)⟩
 rw[CU]at B;rw[An (show¬(AY L s).text=xD from B)]at ht;refine Ao (λB=>?_) λB=>?_
 ·rw[Bn]at B;rw[As (show(AY L s).text=wu from B)]at ht;exact Am K (AcM a1 ht)
 rw[CU]at B;rw[An (show¬(AY L s).text=wu from B)]at ht;refine Ao (λB=>?_) λB=>?_
 ·rw[Bn]at B;rw[As (show(AY L s).text=wo from B)]at ht;exact Am K (AcM a1 ht)
 rw[CU]at B;rw[An (show¬(AY L s).text=wo from B)]at ht;refine Ao (λB=>?_) λB=>?_
 ·rw[Bn]at B;rw[As (show(AY L s).text=xC from B)]at ht;exact Am K ⟨A4 ⟨a1,by decide⟩,λz hz=>M8 (by rw[ht,hz];rfl)⟩
 rw[CU]at B;rw[An (show¬(AY L s).text=xC from B)]at ht;exact⟨A4 S,λy hy=>HP (ht.trans hy.symm)⟩
theorem Aoz:∀(n:Nat) (Se:Ad->TK->PF) (Br Po T:Ad->PF) (AA:Wg n Se Br Po T) (L:Ad) (s:RS) (t:PT×RS),A9 L (n+1) s->GS n Se Br Po T->t=N7 Se Br Po T L s->(A3 (zY n Se Br Po T AA) 60).call 90 [.ptr 0 0] (BU (B2 [Bw (vK L) s] 0)) 1 (GZ (vK L) t):=Eq.mpr (by kernel_rfl) AoA
theorem Ak0 {n:Nat} {Se:Ad->TK->PF} {Br Po T:Ad->PF} (h:Wg n Se Br Po T) (x:GS n Se Br Po T):BH Tryz.prog 90 (sF (n+1) (N7 Se Br Po T)):=Iq λL s r=>⟨zY n Se Br Po T h,60,rfl,Dq,Bk,λt ht=>Aoz n Se Br Po T h L s t r x ht⟩
def Ep:Aj:=[123]
def GU:Aj:=[125]
def Eu (St:Ad->PF) (L:Ad):Nat->Bg->RS->Bg×RS
 |0,l,s=>(l,s)
 |k+1,l,s=>if s.err=0/\A5 L s GU=false then Eu St L k (l++[(St L s).1]) (St L s).2 else(l,s)
def TS (St:Ad->PF) (L:Ad) (s:RS):Bg×RS:=Eu St L (EW L) [] s
def Rn (St:Ad->PF) (L:Ad):PF:=λs=>(nd 12 [] 0 (B6 L s Ep).1 (TS St L (B6 L s Ep).2).1,down (Bm L (TS St L (B6 L s Ep).2).2 GU).2)
structure K4 (L:List TK) (E C:Int) (s:RS) (r:List PT×RS):Prop where
 ok:AJ L r.2
 ns:r.2.nest=s.nest
 am:s.at_<=r.2.at_
 er:s.err≠0->r.2.err≠0/\r.2.at_=s.at_/\(DH r.1:Int)<=E
 ss:(DH r.1:Int)<=3*(r.2.at_-s.at_)+C
 so:r.2.err=0->(DH r.1:Int)<=3*(r.2.at_-s.at_)
structure Kj (L:List TK) (f:Nat->List PT->RS->List PT×RS) (t:List PT×RS) (E C:Int) (s0:RS) (x:List PT×RS):Prop where
 k:∃k,Fc L x.2<k/\f k x.1 x.2=t
 p:K4 L E C s0 x
def AbQ (s:St) (x:List Nat):List (Nat×Ah):=List.rec (motive:=λ_=>List (Nat×Ah)) [] (λt _ r=>cond (x.any (Nat.beq t)) r (Option.rec (motive:=λ_=>List (Nat×Ah)) r (λv=>(t,v)::r) (s.H.get t))) (List.range s.nx)
def wQ (L:Ad) (I:Bg×RS->Prop) (ks:List Nat) (r:Nat):B0:={X:=Bg×RS,T:=λs _ x=>(r,.AR s.nx x.1.length 1)::Ig s ks,H:=λs n0 x=>(s.nx,Gf (Bz x.1))::(0,Bw (vK L) x.2)::AbQ s [0],nx:=λs _=>s.nx+1,I:=λs x=>I x,m:=λx=>Fc L x.2}
def yw (n:Nat) (St:Ad->PF) (h:E8 90 n St) (L:Ad) (s0:RS):Ctx:={P:=Tryz.prog,tb:=[],ht:=UB 90 n St,AA:=Xo h,lp:=λf r=>cond (Nat.beq f 74) (cond (Nat.beq r 3) (some (wQ L (λx=>Kj L (Eu St L) (TS St L s0) 0 4 s0 x) [0,3] 4)) none) none,cut:=λ_ _=>none}
theorem oE {E C:Int} (hC:4<=C) {n:Nat} {St:Ad->PF} (K:GF n 3 4 St) {L:Ad} {s0 s:RS} {l:Bg} (h:K4 L E C s0 (l,s)) (z:s0.err=0->A9 L n s0) (y:s.err=0):A9 L n s/\K4 L E C s0 (l++[(St L s).1],(St L s).2)/\Fc L (St L s).2<Fc L s:=by
 have AA:AJ L s:=h.ok;have Z:s0.at_<=s.at_:=h.am;have Y:s.nest=s0.nest:=h.ns;have W:(DH l:Int)<=3*(s.at_-s0.at_):=h.so y;have J:s0.err≠0->s.err≠0:=λe=>(h.er e).1;have x:s0.err=0:=Classical.byContradiction λe=>J e y;have U:=(z x).ns;have V:=(z x).lf;have pa:A9 L n s:=⟨AA,by omega,by omega⟩;have g:=K L s pa;generalize St L s=r at g⊢;have S:=g.am;have g2:=g.ss;have R:=g.so;have g5:=g.ns;have g6:=J9 r.1;refine⟨pa,⟨g.ok,by show r.2.nest=_;omega,by show s0.at_<=r.2.at_;omega,λe=>absurd x e,?_,λB=>?_⟩,eI g.ok y S λe=>by have:=R e;omega⟩
 ·show((DH (l++[r.1]):Nat):Int)<=3*(r.2.at_-s0.at_)+C;rw[wU,Hj,I3];omega
 ·have B:r.2.err=0:=B;show((DH (l++[r.1]):Nat):Int)<=3*(r.2.at_-s0.at_);rw[wU,Hj,I3];omega
theorem bT {E C:Int} (y:4<=C) {n:Nat} {St:Ad->PF} (x:GF n 3 4 St) {L:Ad} {s0:RS} (r:s0.err=0->A9 L n s0):∀(k:Nat) (l:Bg) (s:RS),K4 L E C s0 (l,s)->K4 L E C s0 (Eu St L k l s)
 |0,l,s,h=>h
 |k+1,l,s,h=>by unfold Eu;exact GG (λe=>bT y x r k _ _ (oE y x h r e.1).2.1) λ_=>h
theorem XN {L:Ad} {C:Int} {s:RS} (h:AJ L s) (r:0<=C):K4 L 0 C s ([],s):=⟨h,rfl,H8 _,λe=>⟨e,rfl,by show((DH []:Nat):Int)<=0;rw[I3];decide⟩,by show((DH []:Nat):Int)<=3*(s.at_-s.at_)+C;rw[I3];omega,λ_=>by show((DH []:Nat):Int)<=3*(s.at_-s.at_);rw[I3];omega⟩
theorem K4.EI {L:Ad} {E C:Int} {s:RS} {r:Bg×RS} (h:K4 L E C s r) (x:AJ L s) (y:C<=100):DH r.1<=300100:=by have K:=h.ss;have J:=h.ok.a1;have B:=h.ok.len;have z:=x.a0;omega
theorem Agy {n:Nat} {St:Ad->PF} (J:GF n 3 4 St):GF (n+1) 1 2 (Rn St):=by
 intro L s x;have AA:=x.ok;have K:=x.ns;have S:=x.lf;have o:=P5 (w:=Ep) AA (show s.nest<=900 by omega);unfold Rn;generalize(B6 L s Ep)=q at o⊢;have Y:=o.am;have W:=o.ax;have y:=o.eo;have V:=o.ns;have U:=o.er;have g:=bT (E:=0) (C:=4) (by decide) J (L:=L) (s0:=q.2) (λz=>⟨o.ok,by have:=y z;omega,by have:=y z;omega⟩) (EW L) [] q.2 (XN o.ok (by decide));unfold TS;generalize(Eu St L (EW L) [] q.2)=r at g⊢;have g1:=g.am;have g2:=g.ss;have g3:=g.so;have g4:=g.er;have Z:=g.ns;have f:=GP (w:=GU) g.ok;generalize(Bm L r.2 GU).2=v at f⊢;have f1:=f.am;have f2:=f.ax;have f3:=f.eo;have f4:=f.er;have f5:=f.ns;have R:=AA.n0;refine⟨WY f.ok (by omega),by show v.nest-1=_;omega,by show s.at_<=v.at_;omega,λe=>⟨by show v.err≠0;omega,by show v.at_=_;omega,?_⟩,?_,λB=>?_⟩
 ·show((sz _:Nat):Int)<=1;rw[N8];omega
 ·show((sz _:Nat):Int)<=3*(v.at_-s.at_)+2;rw[N8];omega
 ·have B:v.err=0:=B;show((sz _:Nat):Int)<=3*(v.at_-s.at_);rw[N8];omega
theorem tkN {ks:Bg} (h:DH ks<=1000000):Ps ks.length (ED (Bz ks))/\(BW ks.length λi=>F7 (ED (Bz ks) i))/\(Ca ks.length λi=>F7 (ED (Bz ks) i))=Bz ks:=by have r:ks.length=(Bz ks).length:=(L9 ks).symm;exact⟨⟨λi _=>rfl⟩,iY r (λi _=>rfl) (dI h),Y5 r λi _=>rfl⟩
theorem gr {r:List (Nat×Nat)} (l:Bg) (x:PT) {g:Nat->Al} (z:g 0=[vW (flat x)]):l.length+1=(Bz (l++[x])).length/\Ar λi=>i.succ<=l.length+1->AZ r (ED (Bz (l++[x])) i) (BA l.length (ED (Bz l)) g i):=by
 refine⟨by rw[L9,E6,List.length_singleton],⟨λi hi=>?_⟩⟩;have e:BA l.length (ED (Bz l)) g i=ED (Bz (l++[x])) i:=by
  refine WL (λy=>?_) λy=>?_
  ·unfold ED wS;rw[Ow,Ow,List.map_append,dO (by simpa using y)]
  ·have:i=l.length:=by omega
   subst this;rw[Of,z];unfold ED wS;rw[Ow,List.map_append];have:=dP (d:=[]) (l:=l.map flat) (t:=flat x);rw[HJ]at this;rw[List.map_cons,List.map_nil,this]
 rw[e];exact⟨Afu r _,trivial⟩
theorem dV {a b:Nat} (h:a<=b) (hb:a<=1000000):(Nat.ble a b&&decide (a+1<=9223372036854775807/\(a+1)*24<=140737488355328))=true:=by rw[B4];exact⟨E5 h,BF (by omega)⟩
theorem rK {L:Ad} {k n:Int} {x:Aj} {tk:TK} {s:RS} {t:PT×RS} {ks:Bg} {c:Bool} (hc:c=true) (h:DH ks<=1000000) (ht:t=(nd k x n tk ks,s)): (c=true/\(ks.length<=(Bz ks).length/\Ps ks.length (ED (Bz ks)))/\BW ks.length λi=>F7 (ED (Bz ks) i))/\H7 (vK L) (vK L) (vW (Be k x n tk (Ca ks.length λi=>F7 (ED (Bz ks) i)))) s t:=by subst ht;obtain⟨z,y,r⟩:=tkN h;exact⟨⟨hc,⟨by rw[L9];exact AH _,z⟩,y⟩,rfl,by rw[Ox,r],rfl⟩
theorem bS {E C:Int} (K:4<=C) {n:Nat} {St:Ad->PF} (J:GF n 3 4 St) {L:Ad} {s0:RS} {t:Bg×RS} {x:Bg×RS} (h:Kj L (Eu St L) t E C s0 x) (B:s0.err=0->A9 L n s0) (y:x.2.err=0) (hi:A5 L x.2 GU=false): A9 L n x.2/\Kj L (Eu St L) t E C s0 (x.1++[(St L x.2).1],(St L x.2).2)/\Fc L (St L x.2).2<Fc L x.2:=by
 obtain⟨⟨k,S,r⟩,z⟩:=h;obtain⟨d0,d1,R⟩:=oE K J (l:=x.1) (s:=x.2) z B y;cases k with
 |zero=>omega
 |succ k=>
 unfold Eu at r;rw[As ⟨y,hi⟩]at r;exact⟨d0,⟨⟨k,by show Fc L (St L x.2).2<k;omega,r⟩,d1⟩,R⟩
theorem bR {E C:Int} {St:Ad->PF} {L:Ad} {s0:RS} {t:Bg×RS} {x:Bg×RS} (h:Kj L (Eu St L) t E C s0 x) (hi:¬(x.2.err=0/\A5 L x.2 GU=false)):t=x:=by
 obtain⟨⟨k,z,r⟩,y⟩:=h;cases k with
 |zero=>omega
 |succ k=>
 unfold Eu at r;rw[An hi]at r;exact r.symm
@[reducible] def jz:TK×RS->Prop:=λ(a:TK×RS)=>(Aa/\Aa/\Aa/\Aa/\(U1 a.1)/\Aa/\Ae (TK.Av a.1))/\True
@[reducible] def kA:Ad->Bg×RS->Prop:=λ(L:Ad) (a:Bg×RS)=>(qP L a.2)/\True
def XZ (a:Ad) (b:RS):=(∃(r:Ad),vK a=vK r/\AJ r b/\Nat.le 1 (List.length [(125:UInt8)]))
def X7:=(qR/\Ae [(125:UInt8)]/\True)
@[reducible] def Zt:Ad->Bg×RS->Prop:=λ(L:Ad) (a:Bg×RS)=>(XZ L a.2)/\Aa/\Aa/\X7/\kA L a
def R8 (a:Bg×RS) (b:Bg):=Ap (bif bif Nat.ble (a.1.length*1) (List.length (Bz b))then true else false then decide (a.1.length+1<=9223372036854775807/\(a.1.length+1)*24<=140737488355328)else false)
def Nt (a:Bg×RS) (b:Bg):=(Aa/\Nat.le a.1.length (List.length (Bz b))/\Ps a.1.length (ED (Bz b)))
def fH (a:Ad) (b:Ad->PF) (c:RS):=Kj a (Eu b a) (TS b a (Prod.snd (B6 a c [(123:UInt8)]))) (0:Int) (4:Int) (Prod.snd (B6 a c [(123:UInt8)]))
def Qj (a:Bg×RS) (b:Bg):=(Ca a.1.length λ(r:Nat)=>F7 (ED (Bz b) r))
def Hz (a:Bg):=ED (Bz a)
def NA (a:Bg):=List.length (Bz a)
def NB (a:Ad) (b:RS):=GJ a b [(125:UInt8)]
def X2:=Nat.le 1 (List.length [(123:UInt8)])
def U8 (a:Ad) (b:RS):=Ag (!Ay (B3 a b [(125:UInt8)]))
def X1:=(qR/\Ae [(123:UInt8)]/\True)
def Mw (a:Bg×RS):=(a.1.length+1)
theorem Amy:∀(n:Nat) (St:Ad->PF),E8 (90:FuncId) n St->∀(L:Ad) (s:RS) (t:PT×RS),A9 L (n+1) s->(∀(L:Ad) (s:RS),A9 L n s->Cs L (3:Int) (4:Int) s (St L s))->t=Rn St L s->((∃(V:Ad),vK L=vK V/\AJ V s/\X2/\Nu s)/\Aa/\Aa/\X1/\(qP L s)/\True)/\∀(y:TK×RS),y=ND L s [(123:UInt8)]->(∃(W:Bg×RS),fH L St s W/\Aa/\(W.1.length=0/\qR/\(Ae (some 2)/\Aa)/\True)/\(Aa/\True)/\(Mp L y.2 W.2)/\jz y)/\∀(x:Bg×RS),fH L St s x->KE x.2 (Zt L x/\U8 L x.2 (((Qo L n x.2)/\Aa/\Aa/\(qR/\True)/\kA L x)/\∀(r:PT×RS),r=DF St L x.2->R8 x x.1 (∃(B:Bg×RS),fH L St s B/\J3 L B.2 x.2/\Aa/\((Ae (some 8)/\x.1.length+1=B.1.length/\Aa)/\qR/\(Ae (some 2)/\Aa)/\True)/\(Aa/\Aa/\Aa/\Aa/\(Mw x)*1=NA B.1/\Ar λ(i:Nat)=>Gs i ((Mw x)*1)->AZ [(2,2),(4,8),(0,0)] (Hz B.1 i) (BA x.1.length (Hz x.1) (λ(x:Nat)=>[KG r.1]) i))/\(Mp L r.2 B.2)/\jz y)) (Zt L x/\∀(r:TK×RS),r=NB L x.2->Nw r.2 ((Nat.blt 4 9=true/\(Nt x x.1)/\BW x.1.length λ(i:Nat)=>F7 (Hz x.1 i))/\BX L (vW (U7 y.1 (Qj x x.1))) (Qc r.2) t))) (Zt L x/\∀(r:TK×RS),r=NB L x.2->Nw r.2 ((Nat.blt 4 8=true/\(Nt x x.1)/\BW x.1.length λ(i:Nat)=>F7 (Hz x.1 i))/\BX L (vW (U7 y.1 (Qj x x.1))) (Qc r.2) t))
:=by
 delta qP qR Mp BX R8 B3 Nt GJ Gs Qc fH Qj KE J3 Hz Nw Nu NA NB U7 X2 Qo KG U8 DF X1 Mw ND;intro n St AA L s t Z hS ht;simp only[Bq,jz,D5,kA,Zt,U1,BQ,qP,qR,XZ,X7];simp only[Dt];have AA:=Z.ok;have aa:=Z.ns;have ad:=Z.lf;have ab:=AA.n0;have o:=P5 (w:=Ep) AA (show s.nest<=900 by omega);have o1:=o.am;have o2:=o.ax;have o3:=o.eo;have o4:=o.ns;have o5:=o.er;have ps:(B6 L s Ep).2.err=0->A9 L n (B6 L s Ep).2:=λz=>⟨o.ok,by have:=o3 z;omega,by have:=o3 z;omega⟩;refine⟨A4 ⟨AA,by decide,(show s.nest<=900 by omega)⟩,λq Y=>?_⟩;have Y:q=B6 L s Ep:=Y;subst Y;refine⟨⟨([],(B6 L s Ep).2),⟨⟨EW L,UN o.ok,rfl⟩,XN o.ok (by decide)⟩,rfl,Hi rfl⟩,λx K=>?_⟩;have K:Kj L (Eu St L) (TS St L (B6 L s Ep).2) 0 4 (B6 L s Ep).2 x:=K;have J:=K.p;have bx:=J.EI o.ok (by decide);have g5:=J.ns;have hl:=RT x.1;have U:¬(x.2.err=0/\A5 L x.2 GU=false)->∀ {c:Bool},c=true->(∃M,vK L=vK M/\AJ M x.2/\1<=([125]:Aj).length)/\∀z,z=Bm L x.2 [125]->Ap (Bf .i64 (z.2.nest-1)) ((c=true/\(x.1.length<=(Bz x.1).length/\Ps x.1.length (ED (Bz x.1)))/\BW x.1.length λi=>F7 (ED (Bz x.1) i))/\ H7 (vK L) (vK L) (vW (Be 12 [] 0 (B6 L s Ep).1 (Ca x.1.length λi=>F7 (ED (Bz x.1) i)))) ⟨z.2.at_,z.2.nest-1,z.2.err,z.2.BE⟩ t):=λhi c hc=>by have e:=bR K hi;refine⟨A4 ⟨J.ok,by decide⟩,λz hz=>?_⟩;have f:=GP (w:=GU) J.ok;have hz:z=Bm L x.2 GU:=hz;rw[<-hz]at f;have f5:=f.ns;exact Am (AU.2 (by omega)) (rK (s:=down z.2) hc (by omega) (by rw[ht,hz,<-e];rfl))
 refine Ao (λS=>⟨A4 ⟨J.ok,by decide⟩,Ao (λR=>?_) λR=>?_⟩) λS=>?_
 ·rw[Ba]at S;rw[BZ]at R;obtain⟨d0,d1,d2⟩:=bS (by decide) hS K ps S R;refine⟨A4 d0,λy hy=>?_⟩;subst hy;exact Am (dV (by rw[L9];exact AH _) (by omega)) ⟨_,d1,d2,by rw[E6,List.length_singleton],gr x.1 _ rfl,Hi rfl⟩
 ·rw[BI]at R;exact U (λh=>by rw[show A5 L x.2 GU=true from R]at h;cases h.2) rfl
 ·rw[BB]at S;exact U (λh=>S h.1) rfl
theorem Amx:∀(n:Nat) (St:Ad->PF) (AA:E8 90 n St) (L:Ad) (s:RS) (t:PT×RS),A9 L (n+1) s->GF n 3 4 St->t=Rn St L s->(A3 (yw n St AA L (B6 L s Ep).2) 60).call 74 [.ptr 0 0] (BU (B2 [Bw (vK L) s] 0)) 1 (GZ (vK L) t):=Eq.mpr (by kernel_rfl) Amy
theorem Ake {n:Nat} {St:Ad->PF} (h:E8 90 n St) (x:GF n 3 4 St):BH Tryz.prog 74 (sF (n+1) (Rn St)):=Iq λL s r=>⟨yw n St h L (B6 L s Ep).2,60,rfl,Dq,Bk,λt ht=>Amx n St h L s t r x ht⟩
structure LV where
 u:List TK->PF
 t:List TK->PF
 b:List TK->PF
def YW (x:LV):Ad->PF:=S9 x.t (firstM x.t x.b)
def VW (x:LV):Ad->PF:=N9 x.u (YW x)
def I4 (x:LV):Ad->PF:=Q0 (J6 (J6 (VW x) [LO]) [K1,K3])
def Pg (x:LV):Ad->PF:=Tc (YW x)
def QY (x:LV):Ad->PF:=N7 (λL t=>LJ (Pg x) (I4 x) L t) (L4 (I4 x) x.b) (Mm (I4 x) (Pg x)) (I4 x)
def tm (x:LV):LV:=⟨VW x,I4 x,Rn (QY x)⟩
def lv:Nat->LV
 |0=>⟨λ_ s=>(Ki,s),λ_ s=>(Ki,s),λ_ s=>(Ki,s)⟩
 |n+1=>tm (lv n)
structure Wb (n:Nat) (x:LV):Prop where
 u:GF n 1 2 x.u
 t:GF n 1 2 x.t
 b:GF n 1 2 x.b
structure Zc (n:Nat) (x:LV):Prop where
 hu:BH Tryz.prog 106 (sF n x.u)
 ht:BH Tryz.prog 98 (sF n x.t)
 hb:BH Tryz.prog 74 (sF n x.b)
theorem UZ {L:Ad} {s:RS} (h:A9 L 0 s):False:=by have:=h.lf;have:=h.ok.a1;omega
theorem uM {L:Ad} {n m:Nat} {s:RS} (h:A9 L n s) (r:n<=m):A9 L m s:=⟨h.ok,h.ns,by have:=h.lf;omega⟩
theorem Apr {g:FuncId} {n m:Nat} {F:Ad->PF} (z:n<=m) (h:BH Tryz.prog g (sF m F)):BH Tryz.prog g (sF n F):=by
 intro H nx args hc x p v up nx' r;obtain⟨q,y,x⟩:=Ai.1 (show(ob ((IC (λL s=>A9 L n s) F).find H args) λp=>cond (Nat.beq p.2.length 1) (some (Eg.Bb ((IC (λL s=>A9 L n s) F).pre p.1/\Mj p.2=true/\Ol nx p.2=true/\AZ (C3 p.2 0) ((IC (λL s=>A9 L n s) F).args p.1) args/\Mh (C3 p.2 0) H (B2 ((IC (λL s=>A9 L n s) F).Ff p.1) 0)) (RM p.2 nx ((IC (λL s=>A9 L n s) F).out p.1)))) none)=some hc from x);cases hb:Nat.beq q.2.length 1 with
 |false=>rw[hb]at x;cases x
 |true=>
 rw[hb]at x;injection x with x;subst x;obtain⟨⟨⟨M,K,J⟩,B⟩,r⟩:=Uz r;refine h H nx args (Eg.Bb ((IC (λL s=>A9 L m s) F).pre q.1/\Mj q.2=true/\Ol nx q.2=true/\AZ (C3 q.2 0) ((IC (λL s=>A9 L m s) F).args q.1) args/\Mh (C3 q.2 0) H (B2 ((IC (λL s=>A9 L m s) F).Ff q.1) 0)) (RM q.2 nx ((IC (λL s=>A9 L m s) F).out q.1))) ?_ p v up nx' ((As ⟨⟨M,K,uM J z⟩,B⟩).trans r);show(ob ((IC (λL s=>A9 L m s) F).find H args) λp=>cond (Nat.beq p.2.length 1) (some (Eg.Bb ((IC (λL s=>A9 L m s) F).pre p.1/\Mj p.2=true/\Ol nx p.2=true/\AZ (C3 p.2 0) ((IC (λL s=>A9 L m s) F).args p.1) args/\Mh (C3 p.2 0) H (B2 ((IC (λL s=>A9 L m s) F).Ff p.1) 0)) (RM p.2 nx ((IC (λL s=>A9 L m s) F).out p.1)))) none)=_;rw[show(IC (λL s=>A9 L m s) F).find H args=some q from y];show cond (Nat.beq q.2.length 1) _ _=_;rw[hb];rfl
theorem Ajr:Wb 0 (lv 0):=⟨λL s h=>(UZ h).elim,λL s h=>(UZ h).elim,λL s h=>(UZ h).elim⟩
theorem Ajq {n:Nat} {x:LV} (h:Wb n x):Wb (n+1) (tm x):=by have U:=AaP h.t h.b;have J:GF (n+1) 1 2 (YW x):=Ae1 h.t U;have B:GF (n+1) 1 2 (VW x):=Afh h.u J;have R:=gq (ws:=[LO]) B;have K:=gq (ws:=[K1,K3]) R;have r:GF (n+1) 1 2 (I4 x):=AeY K;have va:GF (n+1) 1 2 (Pg x):=Afn J;have S:GS n (λL t=>LJ (Pg x) (I4 x) L t) (L4 (I4 x) x.b) (Mm (I4 x) (Pg x)) (I4 x):=⟨λt=>Aew va r t,λL s y=>yG r h.b y,λL s y=>Adp r va y,r⟩;have st:GF (n+1) 3 4 (QY x):=AeG S;have z:GF n 3 4 (QY x):=λL s y=>st L s (uM y (Nat.le_succ n));exact⟨B,r,Agy z⟩
theorem eD:∀n,Wb n (lv n)
 |0=>Ajr
 |n+1=>Ajq (eD n)
theorem Ajp:Zc 0 (lv 0):=⟨Iq λL s h=>(UZ h).elim,Iq λL s h=>(UZ h).elim,Iq λL s h=>(UZ h).elim⟩
theorem Ajo {n:Nat} {x:LV} (y:Wb n x) (h:Zc n x):Zc (n+1) (tm x):=by have fi:=AaP y.t y.b;have U:GF (n+1) 1 2 (YW x):=Ae1 y.t fi;have un:GF (n+1) 1 2 (VW x):=Afh y.u U;have pr:=gq (ws:=[LO]) un;have su:=gq (ws:=[K1,K3]) pr;have z:GF (n+1) 1 2 (I4 x):=AeY su;have va:GF (n+1) 1 2 (Pg x):=Afn U;have gs:GS n (λL t=>LJ (Pg x) (I4 x) L t) (L4 (I4 x) x.b) (Mm (I4 x) (Pg x)) (I4 x):=⟨λt=>Aew va z t,λL s B=>yG z y.b B,λL s B=>Adp z va B,z⟩;have st:GF (n+1) 3 4 (QY x):=AeG gs;have tI:=Ak2 h.ht;have uI:=Alh h.hu;have bI:=Akc h.hb;have ad:=Akn ⟨tI,bI⟩ y.t y.b;have R:=Ak9 ⟨tI,ad⟩ y.t fi;have K:=Ali ⟨uI,R⟩ y.u;have aa:=AkR ⟨K⟩ un;have W:=Ak1 ⟨aa⟩ pr;have r:=Ak4 ⟨W⟩ su;have J:=Alm ⟨R⟩ U;have Z:=AkX ⟨J,r⟩ va z;have ae:=Akf ⟨r,h.hb⟩ z y.b;have ab:=AkQ ⟨J,r⟩ z va;have Y:BH Tryz.prog 90 (sF (n+1) (QY x)):=Ak0 ⟨Z,ae,ab,r⟩ gs;have V:GF n 3 4 (QY x):=λL s B=>st L s (uM B (Nat.le_succ n));have S:BH Tryz.prog 90 (sF n (QY x)):=Apr (Nat.le_succ n) Y;exact⟨K,r,Ake ⟨S⟩ V⟩
theorem Acb:∀n,Zc n (lv n)
 |0=>Ajp
 |n+1=>Ajo (eD n) (Acb n)
end Go.Proofs.YthallodoidghoaaGreat
end
end
