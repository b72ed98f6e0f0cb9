/- Laid by program out of its parts: TyG, TyH, TyI, TyJ, TyK. -/
import Derived.Test.YthallodoidghoaaGreatTy1
noncomputable section
open List(getD)
open Int(toNat)
set_option linter.unusedVariables false
set_option linter.unusedSimpArgs false
section
set_option maxRecDepth 100000
open Go Go.Ev
namespace Go.Proofs.YthallodoidghoaaGreat
structure TU (L:List Ab) (U:List Int):Prop where
 len:L.length<=1000000
 CO:Good L
 Ir:Oj L U
def vP:H9:=λ_ args=>match args with
 | [.agg [.vec 6 n f],.vec 1 m g,.int .i64 a]=>some ⟨Int,(∃(L:Ac) (U:Af),n=L.length/\f=AE L/\m=U.length/\g=Aq U/\TU L U/\0<=a/\a<L.length),λd=>d= -1\/0<=d/\d<n,λd=>.int .i64 d⟩
 |_=>none
def SLo (L:Ac) (U:Af):B0:=thin Int [0,1,2,3,6,7] (λx=>[(8,.int .i64 x)]) (λ_ x=>-1<=x/\x<L.length) λx=>(x+1).toNat
def SLi (L:Ac) (U:Af):B0:=thin Nat [0,1,2,3,6,7,8,9] (λk=>[(10,.int .i64 k)]) (λs k=>∀x,s.T.get 8=some (.int .i64 x)->k<=L.length/\0<x/\x<L.length/\k<=(L.getD (U.getD x.toNat 0).toNat Ab.none).kids.length) λk=>L.length-k
def zH (L:Ac) (U:Af):Ctx:={P:=Tryz.prog,tb:=[],lp:=λf r=>cond (Nat.beq f 36) (cond (Nat.beq r 3) (some (SLo L U)) (cond (Nat.beq r 8) (some (SLi L U)) none)) none,cut:=λ_ _=>none}
def vX:H9:=λ_ args=>match args with
 | [.agg [.vec 6 n f],.vec 1 m g,.int .i64 a]=>some ⟨Bool,(∃(L:Ac) (U:Af),n=L.length/\f=AE L/\m=U.length/\g=Aq U/\TU L U/\0<=a/\a<L.length),λ_=>True,λd=>.bool d⟩
 |_=>none
def STw (L:Ac) (U:Af):B0:=thin Nat [0,1,2,3,6,7,8] (λk=>[(9,.int .i64 k)]) (λ_ k=>k<=L.length) λk=>L.length-k
def z5 (L:Ac) (U:Af):Ctx:={P:=Tryz.prog,tb:=[(34,Ml Ky),(14,W1)],rt:=[(35,gf)],VL:=LI AcX (VM _),lp:=λf r=>cond (Nat.beq f 16) (cond (Nat.beq r 10) (some (STw L U)) none) none,cut:=λ_ _=>none}
@[reducible] def lX:Ac->Prop:=λ(L:Ac)=>TD L/\True
def NT:=(Aa/\Ae (0:Int))
@[reducible] def lY:Ac->Af->Nat->Prop:=λ(L:Ac) (U:Af) (a:Nat)=>HA L/\(DN U)/\(Fj a)/\Cm/\NT/\Ae (Im L a)/\True
@[reducible] def lZ:Ac->Af->Nat->Int->Prop:=λ(L:Ac) (U:Af) (a:Nat) (r:Int)=>HA L/\(DN U)/\(Fj a)/\Cm/\NT/\Ae (Im L a)/\(Aa/\Ae r)/\(Ae (some 9)/\Aa)/\True
def IL (a:Ac) (b:Af) (c:Int):=getD a (toNat (getD b (toNat c) (0:Int))) Ab.none
def NL (a:Ac) (b:Af) (c:Int):=List.length (Ab.kids (IL a b c))
@[reducible] def l4:Ac->Af->Int->Prop:=λ(L:Ac) (U:Af) (a:Int)=>TD L/\(Aa/\Aa/\Aa/\Aa/\(((((True/\Aa/\Ae (Ab.kind (IL L U a)))/\Ae (Ab.text (IL L U a)))/\Aa/\Ae (Ab.n (IL L U a)))/\Aa/\Ae (Ab.line (IL L U a)))/\Aa/\Ae (Ab.Av (IL L U a)))/\Aa/\Ae (NL L U a)/\Ar λ(i:Nat)=>AD i (NL L U a)->(Aa/\Ae (getD (Ab.kids (IL L U a)) i (0:Int)))/\True)/\True
def FD (a:Af) (b:Int):=getD a (toNat b) (0:Int)
def SJ (a:Int) (b:Int):=Nat.le (Nat.succ (toNat (a+1))) (toNat (b+1))
def Lz (a:Ac) (b:Int):=Int.NonNeg ((CH a)-(b+1))
@[reducible] def ZO:Ac->Af->Nat->Int->Int->Prop:=λ(L:Ac) (U:Af) (a:Nat) (x r:Int)=>(Int.NonNeg (r-Int.negSucc 0)/\Lz L r)/\SJ r x/\Aa/\((Aa/\FD U x=r)/\lY L U a)/\lX L
def Yk (a:Int) (b:Nat) (c:Ac) (d:Af):=(∀(r:Int),HU a=HU r->Fk b c/\Int.NonNeg (r-1)/\Int.NonNeg ((CH c)-(r+1))/\Nat.le b (List.length (Ab.kids (IL c d r))))
@[reducible] def l5:Ac->Af->Nat->Int->Nat->Nat->Prop:=λ(L:Ac) (U:Af) (a:Nat) (x:Int) (y r:Nat)=>(Yk x r L U)/\Dx L r y/\Aa/\((Cb y r)/\lZ L U a x)/\l4 L U x
def ES:=((True/\True/\True/\True)/\True)
def H3 (a:Int) (b:Af):=Ap (AO a b.length)
def Yw (a:Ac) (b:Af) (c:Int) (d:Nat):=getD (Ab.kids (IL a b c)) (B8 d) (0:Int)
theorem Ant:∀(L:Ac) (U:Af) (a:Nat),TU L U->AD a L.length->C6 a L ((∃(S:Int),(Int.NonNeg (S-Int.negSucc 0)/\Lz L S)/\Aa/\((Aa/\(↑a:Int)=S)/\lY L U a)/\lX L)/\∀(x:Int),Int.NonNeg (x-Int.negSucc 0)/\Lz L x->Ag (AP (0:Int) x) (H3 x U (Ap (AO (FD U x) L.length) ((ES/\ES/\True)/\Ag (!Au (Ab.kind (IL L U x)) (12:Int)) (H3 x U (∃(B:Int),ZO L U a x B)) ((∃(S:Nat),(Yk x S L U)/\Aa/\((Cr S)/\lZ L U a x)/\l4 L U x)/\∀(r:Nat),(Yk x r L U)->Ag (Dh r (Int.ofNat (NL L U x))) (Ap (D8 r (NL L U x)) (Ag (AP (Yw L U x r) x) (Ap (D8 r (NL L U x)) (Ap (AO (Yw L U x r) L.length) ((CI/\CI/\True)/\Ag (Au (Ab.kind (getD L (toNat (Yw L U x r)) Ab.none)) (13:Int)) (Ag (decide (Ab.text (getD L (toNat (getD (Ab.kids (getD L (toNat (getD U (toNat x) (0:Int))) Ab.none)) (toNat (↑r:Int)) (0:Int))) Ab.none)=Ab.text (getD L (toNat (↑a:Int)) Ab.none))) (Ap (D8 r (NL L U x)) (∃(J:Int),(VB J L)/\Aa/\Yw L U x r=J)) (Bj r (∃(B:Nat),l5 L U a x r B))) (Bj r (∃(B:Nat),l5 L U a x r B))))) (H3 x U (∃(B:Int),ZO L U a x B)))) (H3 x U (∃(B:Int),ZO L U a x B)))))) (∃(x:Int),(VB x L)/\Aa/\Int.negSucc 0=x))
:=by
 delta AD Bj IL B8 CI ES Cr FD C6 HU CH Fk Yk Dh D8 H3 NL Lz VB Yw;intro L U a hT Z;have Z:a<L.length:=Z;have hL:=hT.len;have ah:=hT.Ir.len;simp only[Bq,Iy,Rd,TD,lX,lY,lZ,l4,ZO,l5,AD,Bc,Cl,Hg,Dl,CA,DN,Cm,Fj,HA,NT,Im,IL,NL,FD,CH,SJ,Lz,Dx,Cb,HU,Fk,Yk];refine Am (AK.2 (by omega)) ⟨⟨a,⟨(show(-1:Int)<=(a:Int) by omega),(show(a:Int)<(L.length:Int) by omega)⟩,rfl⟩,λx hx=>Ao (λh=>?_) λh=>⟨-1,.inl rfl,rfl⟩⟩;obtain⟨ab,aa⟩:-1<=x/\x<(L.length:Int):=hx;rw[Bd]at h;obtain⟨y,rfl⟩:∃y:Nat,x=y:=⟨x.toNat,by omega⟩;obtain⟨ae,ad⟩:=hT.Ir.lo y (by omega) (by omega);obtain⟨u,hu⟩:∃u:Nat,U.getD y 0=u:=⟨(U.getD y 0).toNat,by omega⟩;have W:∃B:Int,(-1<=B/\B<(L.length:Int))/\(B+1).toNat.succ<=((y:Int)+1).toNat/\(u:Int)=B:=⟨u,by omega,by omega,rfl⟩;have K:AO (y:Int) U.length=true:=AK.2 (by omega);simp only[Int.toNat_natCast,hu];refine Am K (Am (AK.2 (by omega)) (Ao (λ_=>Am K W) λ_=>⟨⟨0,λz hz=>⟨BL _,(show(0:Int)<z by omega),(show z<(L.length:Int) by omega),BL _⟩,rfl⟩,λk hk=>?_⟩));obtain⟨ag,_,_,Y⟩:=hk _ rfl;rw[Int.toNat_natCast,hu,Int.toNat_natCast]at Y;have af:=hT.CO.Mf u (by omega);refine Ao (λh1=>?_) λh1=>Am K W;rw[Bd]at h1;have V:k<(L.getD u Ab.none).kids.length:=by omega
 have R:AO (k:Int) (L.getD u Ab.none).kids.length=true:=AK.2 (by omega);have hc:=hT.CO.Gn u (by omega) _ (G6 V);have hN:∃B:Nat,(∀J:Int,(y:Int)=J->B<=L.length/\(0:Int)<J/\J<(L.length:Int)/\B<=(L.getD (U.getD J.toNat 0).toNat Ab.none).kids.length)/\(L.length-B).succ<=L.length-k/\(k:Int)+1=(B:Int):=⟨k+1,λz hz=>by subst hz;rw[Int.toNat_natCast,hu,Int.toNat_natCast];exact⟨by omega,by omega,by omega,V⟩,by omega,by omega⟩;have hR:Bf .i64 ((k:Int)+1)=true:=AU.2 (by omega);exact Am R (Ao (λh2=>Am R (Am (AK.2 (by omega)) (Ao (λ_=>Ao (λ_=>Am R ⟨_,.inr (by omega),rfl⟩) λ_=>Am hR hN) λ_=>Am hR hN))) λ_=>Am K W)
theorem Ans:∀(L:Ac) (U:Af) (a:Nat),TU L U->a<L.length->(A3 (zH L U) 60).call 36 [tree L,.vec 1 U.length (Aq U),.int .i64 a] .leaf 0 (L0 (λd:Int=>d= -1\/0<=d/\d<L.length) λd=>.int .i64 d):=Eq.mpr (by kernel_rfl) Ant
def J4 (a:Ac) (b:Af) (c:Nat):=getD a (toNat (Dm b c)) Ab.none
def MG (a:Ac) (b:Af) (c:Nat):=Ab.kids (J4 a b c)
@[reducible] def l6:Ac->Af->Nat->Prop:=λ(L:Ac) (U:Af) (a:Nat)=>(Dl L/\True)/\(DN U)/\(Fj a)/\Cm/\Ae false/\Fh/\(Aa/\Ae (List.length (MG L U a))/\Ar λ(i:Nat)=>AD i (List.length (MG L U a))->(Aa/\Ae (getD (MG L U a) i (0:Int)))/\True)/\True
def Yt (a:Ac) (b:Nat):=(Aa/\Aa/\Aa/\Aa/\(Vr a b)/\Aa/\Ae (Ec a b)/\Ar λ(r:Nat)=>AD r (Ec a b)->(Aa/\Ae (getD (Ab.kids (CA a b)) r (0:Int)))/\True)
@[reducible] def l7:Ac->Nat->Prop:=λ(L:Ac) (a:Nat)=>(Aa/\Aa/\Aa/\Aa/\True/\Dl L)/\(Yt L a)/\True
def NP (a:Ac):=l7 a
@[reducible] def ZP:Ac->Af->Nat->Nat->Nat->Prop:=λ(L:Ac) (U:Af) (a x r:Nat)=>Fk r L/\Dx L r x/\Aa/\((Cb x r)/\l6 L U a)/\NP L a
def YE:=(∃(r:Bool),True/\false=r)
@[reducible] def ZQ:Ac->Af->Nat->Prop:=λ(L:Ac) (U:Af) (a:Nat)=>(ES/\True)/\(∃(y:Nat),Fk y L/\Aa/\((Cr y)/\l6 L U a)/\NP L a)/\∀(x:Nat),Fk x L->Ag (AP (↑x:Int) (Int.ofNat (List.length (MG L U a)))) (Ap (AO (↑x:Int) (List.length (MG L U a))) (Ag (AP (getD (MG L U a) (B8 x) (0:Int)) (↑a:Int)) (Ap (AO (↑x:Int) (List.length (MG L U a))) (Ap (AO (getD (MG L U a) (B8 x) (0:Int)) L.length) ((ES/\ES/\True)/\Ag (Au (Ab.kind (getD L (toNat (getD (MG L U a) (B8 x) (0:Int))) Ab.none)) (Gc L a)) (Ag (decide (Ab.text (getD L (toNat (getD (Ab.kids (getD L (toNat (getD U (toNat (↑a:Int)) (0:Int))) Ab.none)) (toNat (↑x:Int)) (0:Int))) Ab.none)=Ab.text (getD L (toNat (↑a:Int)) Ab.none))) (Ag (Au (Ab.n (getD L (toNat (getD (MG L U a) (B8 x) (0:Int))) Ab.none)) (Ab.n (CA L a))) (∃(x:Bool),True/\true=x) (Bj x (∃(r:Nat),ZP L U a x r))) (Bj x (∃(r:Nat),ZP L U a x r))) (Bj x (∃(r:Nat),ZP L U a x r))))) YE)) YE
def OZ (a:Ac):=(∃(r:Ac),a.length=r.length/\AE a=AE r/\Nat.le r.length 1000000)
def ME (a:Af) (b:Nat) (c:Ac):=Ap (AO (Dm a b) c.length)
theorem AoX:∀(L:Ac) (U:Af) (a:Nat),TU L U->AD a L.length->C6 a L (True/\Ag (Ay (Ky (Gc L a))) ((OZ L)/\∀(x:Int),x=Int.negSucc 0\/(0:Int)<=x/\x<(CH L)->∃(R:Bool),True/\AP x (↑a:Int)=R) (Ag (Ch L a (11:Int)) ((∃(y:Ac),L.length=y.length/\AE L=AE y/\HZ y/\Jx a/\Int.NonNeg ((CH y)-(↑a:Int)))/\∃(x:Bool),True/\AP (0:Int) (AF (↑(BN (Dk L) (11:Int) (B8 a)):Int))=x) (Ag (!Au (Gc L a) (4:Int)) (Ag (!Au (Gc L a) (9:Int)) (Ag (!Au (Gc L a) (13:Int)) YE (Ez a U (ME U a L (ZQ L U a)))) (Ez a U (ME U a L (ZQ L U a)))) (Ez a U (ME U a L (ZQ L U a))))))
:=by
 delta CA AD Dm B8 Ch Dk C6 Ez OZ CH HZ Gc Jx ME YE;intro L U a hT B;have B:a<L.length:=B;have Z:=hT.len;have af:=hT.Ir.len;simp only[Bq,Iy,l6,l7,ZP,ZQ,AD,Bc,Cl,Hg,Dm,DN,J4,Cm,Fh,Fj,Dl,MG,CA,Ec,Vr,Yt,Dx,Cb,Fk,NP,Bj,B8,ES,Cr,Gc,YE];refine Am (AK.2 (by omega)) (Ao (λ_=>⟨⟨L,rfl,rfl,Z⟩,λx hx=>⟨_,rfl⟩⟩) λh0=>Ao (λ_=>⟨⟨L,rfl,rfl,Z,(show(0:Int)<=(a:Int) by omega),(show(a:Int)<=(L.length:Int) by omega)⟩,⟨_,rfl⟩⟩) λh1=>?_);have key:(L.getD a Ab.none).kind≠1->Ap (AO (a:Int) U.length) (Ap (AO (U.getD a 0) L.length) ((∃Y:Nat,Y<=L.length/\(0:Int)=(Y:Int))/\∀x:Nat,x<=L.length->Ag (AP (x:Int) ((L.getD (U.getD a 0).toNat Ab.none).kids.length:Int)) (Ap (AO (x:Int) (L.getD (U.getD a 0).toNat Ab.none).kids.length) (Ag (AP ((L.getD (U.getD a 0).toNat Ab.none).kids.getD x 0) (a:Int)) (Ap (AO (x:Int) (L.getD (U.getD a 0).toNat Ab.none).kids.length) (Ap (AO ((L.getD (U.getD a 0).toNat Ab.none).kids.getD x 0) L.length) (Ag (Au (L.getD ((L.getD (U.getD a 0).toNat Ab.none).kids.getD x 0).toNat Ab.none).kind (L.getD a Ab.none).kind) (Ag (decide ((L.getD ((L.getD (U.getD a 0).toNat Ab.none).kids.getD x 0).toNat Ab.none).text=(L.getD a Ab.none).text)) (Ag (Au (L.getD ((L.getD (U.getD a 0).toNat Ab.none).kids.getD x 0).toNat Ab.none).n (L.getD a Ab.none).n) (∃x:Bool,true=x) (Ap (Bf IntKind.i64 ((x:Int)+1)) (∃r:Nat,r<=L.length/\(L.length-r).succ<=L.length-x/\(x:Int)+1=(r:Int)))) (Ap (Bf IntKind.i64 ((x:Int)+1)) (∃r:Nat,r<=L.length/\(L.length-r).succ<=L.length-x/\(x:Int)+1=(r:Int)))) (Ap (Bf IntKind.i64 ((x:Int)+1)) (∃r:Nat,r<=L.length/\(L.length-r).succ<=L.length-x/\(x:Int)+1=(r:Int)))))) (∃x:Bool,false=x))) (∃x:Bool,false=x))):=λS=>by
  have ae:a≠0:=λe=>S (by rw[e];exact hT.CO.root);obtain⟨ab,aa⟩:=hT.Ir.lo a (by omega) B;obtain⟨u,hu⟩:∃u:Nat,U.getD a 0=u:=⟨(U.getD a 0).toNat,by omega⟩;simp only[hu,Int.toNat_natCast];refine Am (AK.2 (by omega)) (Am (AK.2 (by omega)) ⟨⟨0,BL _,rfl⟩,λx hx=>Ao (λh2=>?_) λh2=>⟨_,rfl⟩⟩);rw[Bd]at h2;have V:x<(L.getD u Ab.none).kids.length:=by omega
  have ad:=hT.CO.Mf u (by omega);have z:AO (x:Int) (L.getD u Ab.none).kids.length=true:=AK.2 (by omega);have hc:=hT.CO.Gn u (by omega) _ (G6 V);have K:∃r:Nat,r<=L.length/\(L.length-r).succ<=L.length-x/\(x:Int)+1=(r:Int):=⟨x+1,by omega,by omega,by omega⟩;have J:Bf .i64 ((x:Int)+1)=true:=AU.2 (by omega);exact Am z (Ao (λ_=>Am z (Am (AK.2 (by omega)) (Ao (λ_=>Ao (λ_=>Ao (λ_=>⟨_,rfl⟩) λ_=>Am J K) λ_=>Am J K) λ_=>Am J K))) λ_=>⟨_,rfl⟩)
 refine Ao (λh4=>Ao (λh9=>Ao (λ_=>⟨_,rfl⟩) λW=>key ?_) λh9=>key ?_) λh4=>key ?_
 ·rw[BI,Ba]at W;omega
 ·rw[BI,Ba]at h9;omega
 ·rw[BI,Ba]at h4;omega
theorem AoW:∀(L:Ac) (U:Af) (a:Nat),TU L U->a<L.length->(A3 (z5 L U) 60).call 16 [tree L,.vec 1 U.length (Aq U),.int .i64 a] .leaf 0 (L0 (λ_:Bool=>True) λd=>.bool d):=Eq.mpr (by kernel_rfl) AoX
theorem AkC:JG Tryz.prog 36 vP:=by
 refine MI (gl:=[]) (ng:=0) AS λH args y r x=>?_;unfold vP at r;split at r
 ·rename_i n f m g a;injection r with r;subst r;obtain⟨L,U,rfl,rfl,rfl,rfl,hT,B,z⟩:=x;obtain⟨b,rfl⟩:∃b:Nat,a=b:=⟨a.toNat,by omega⟩;exact⟨AS,⟨FK L,⟨rfl,rfl,⟨λi _=>Ob _ i⟩⟩,⟨rfl,rfl⟩,trivial⟩,zH L U,60,rfl,Cc,Bk,Ans L U b hT (by omega)⟩
 ·cases r
theorem Ale:JG Tryz.prog 16 vX:=by
 refine MI (gl:=[]) (ng:=0) AS λH args y r x=>?_;unfold vX at r;split at r
 ·rename_i n f m g a;injection r with r;subst r;obtain⟨L,U,rfl,rfl,rfl,rfl,hT,B,z⟩:=x;obtain⟨b,rfl⟩:∃b:Nat,a=b:=⟨a.toNat,by omega⟩;exact⟨AS,⟨FK L,⟨rfl,rfl,⟨λi _=>Ob _ i⟩⟩,⟨rfl,rfl⟩,trivial⟩,z5 L U,60,rfl,Cc,BD Ac2 (BD tv Bk),AoW L U b hT (by omega)⟩
 ·cases r
end Go.Proofs.YthallodoidghoaaGreat
end
section
set_option maxRecDepth 100000
set_option maxHeartbeats 2000000
open Go Go.Ev
namespace Go.Proofs.YthallodoidghoaaGreat
def vQ:H9:=λ_ args=>match args with
 | [.agg [.vec 6 n f],.vec 1 m g,.int .i64 a]=>some ⟨Int×Int×Bool,(∃(L:Ac) (U:Af),n=L.length/\f=AE L/\m=U.length/\g=Aq U/\TU L U/\0<=a/\a<L.length),λx=>∀L:Ac,n=L.length->f=AE L->0<=x.2.1/\x.2.1<=L.length/\(x.1=2->x.2.1<BN L 6 L.length),λx=>.AM [.agg [.int .i64 x.1,.int .i64 x.2.1],.bool x.2.2]⟩
 |_=>none
structure MQ (L:List Ab) (x:Int×Int×Bool):Prop where
 lo:0<=x.2.1
 hi:x.2.1<=L.length
 gl:x.1=2->x.2.1<BN L 6 L.length
def SMn (L:Ac):B0:=thin (Nat×Nat) [3,6,12] (λx=>[(14,.int .i64 x.2),(15,.int .i64 x.1)]) (λs x=>x.2<=x.1/\x.1<=L.length/\∀d,s.T.get 12=some (.int .i64 d)->x.1<=d.toNat) λx=>L.length-x.1
def rtM:Pr:=[(35,gf),(36,vP)]
theorem Amc:Pt Tryz.prog rtM:=LI AcX (LI AkC (VM _))
def zJ (L:Ac):Ctx:={P:=Tryz.prog,tb:=[(37,Ml Eh),(14,W1)],rt:=rtM,VL:=Amc,lp:=λf r=>cond (Nat.beq f 17) (cond (Nat.beq r 40) (some (SMn L)) none) none,cut:=λ_ _=>none}
theorem count_le (L:Ac) (k:Int):∀n,BN L k n<=n
 |0=>AH _
 |n+1=>by have:=count_le L k n;unfold BN;split<;>omega
theorem ow (L:Ac) (k:Int):∀ {m n},m<=n->BN L k m<=BN L k n
 |m,0,h=>by rw[show m=0 by omega];exact AH _
 |m,n+1,h=>by
  rcases D9 n m with r|r
  ·rw[show m=n+1 by omega];exact AH _
  ·have:=ow L k r;rw[BN];omega
theorem Ahc {L:Ac} {k:Int} {d n:Nat} (h:d<n) (r:(L.getD d Ab.none).kind=k):BN L k d<BN L k n:=by have:=ow L k (show d+1<=n from h);rw[BN,As r]at this;omega
theorem AbV {L:Ac} (y:Good L) {i:Nat} (hi:i<L.length) (r:(L.getD i Ab.none).kind=8\/(L.getD i Ab.none).kind=10):0<(L.getD i Ab.none).kids.length:=by
 have h:=y.kinds i hi;rcases Nat.eq_zero_or_pos (L.getD i Ab.none).kids.length with x|x
 ·rw[Ra]at x;rw[x,List.map_nil]at h;rcases r with r|r
  ·rw[r,show BT 8=[117,42,108] by decide,RR _ (by decide) (by decide)]at h;cases h
  ·rw[r,show BT 10=[117,98] by decide,RR _ (by decide) (by decide)]at h;cases h
 ·exact x
@[reducible] def l8:Int->Nat×Nat->Nat×Nat->Prop:=λ(a:Int) (x r:Nat×Nat)=>(Cb x.1 r.1)/\Cm/\Fh/\(Aa/\a=a)/\True
def Vk (a:Ac):=(Aa/\Aa/\Aa/\Aa/\True/\Aa/\Ae a.length/\Ar λ(r:Nat)=>AD r a.length->(Aa/\Ae (Ab.kind (Bc a r)))/\Ae (Ab.text (Bc a r))/\(Aa/\Ae (Ab.n (Bc a r)))/\(Aa/\Ae (Ab.line (Bc a r)))/\(Aa/\Ae (Ab.Av (Bc a r)))/\(Aa/\Ae (Cl a r)/\Ar λ(x:Nat)=>AD x (Cl a r)->(Aa/\Ae (getD (Ab.kids (Bc a r)) x (0:Int)))/\True)/\True)
@[reducible] def ZR:Ac->Prop:=λ(L:Ac)=>(Vk L)/\(Aa/\Aa/\Aa/\Aa/\(True/\Aa/\Ae (0:Int))/\Aa/\Ae (0:Int))/\(Aa/\True)/\(Aa/\True)/\True
def Ll (a:Ac) (b:Int):=getD a (toNat b) Ab.none
def NC (a:Ac):=(∃(r:Int×Int×Bool),MQ a r/\((Aa/\(0:Int)=r.1)/\(Aa/\(0:Int)=r.2.1)/\True)/\false=r.2.2/\True)
def Yc (a:Ac) (b:Int):=(∃(r:Ac),a.length=r.length/\AE a=AE r/\Nat.le r.length 1000000/\Int.NonNeg (b-0)/\Int.NonNeg ((↑r.length:Int)-b))
def ET (a:Ac) (b:Int):=Ab.kind (Ll a b)
def IY (a:Int) (b:Ac):=Ap (AO a b.length)
@[reducible] def l9:Ac->Prop:=λ(L:Ac)=>(OZ L)/\∀(x:Int),x=Int.negSucc 0\/(0:Int)<=x/\x<(CH L)->IU x (IY x L ((ES/\True)/\Ag (!Au (ET L x) (3:Int)) (NC L) ((Yc L x)/\∃(r:Int×Int×Bool),MQ L r/\((Aa/\(5:Int)=r.1)/\(Aa/\AF (↑(BN (Dk L) (3:Int) (toNat x)):Int)=r.2.1)/\True)/\true=r.2.2/\True))) (NC L)
@[reducible] def la:Ac->Prop:=λ(L:Ac)=>(OZ L)/\∀(x:Int),x=Int.negSucc 0\/(0:Int)<=x/\x<(CH L)->IU x (IY x L ((ES/\True)/\Ag (!Au (ET L x) (2:Int)) (NC L) ((Yc L x)/\∃(r:Int×Int×Bool),MQ L r/\((Aa/\(4:Int)=r.1)/\(Aa/\AF (↑(BN (Dk L) (2:Int) (toNat x)):Int)=r.2.1)/\True)/\true=r.2.2/\True))) (NC L)
@[reducible] def ld:Ac->Prop:=λ(L:Ac)=>(OZ L)/\∀(x:Int),x=Int.negSucc 0\/(0:Int)<=x/\x<(CH L)->IU x (IY x L ((ES/\True)/\Ag (!Au (ET L x) (10:Int)) (NC L) ((Yc L x)/\∃(r:Int×Int×Bool),MQ L r/\((Aa/\(6:Int)=r.1)/\(Aa/\AF (↑(BN (Dk L) (10:Int) (toNat x)):Int)=r.2.1)/\True)/\true=r.2.2/\True))) (NC L)
def Yu (a:Nat) (b:Nat) (c:Ac) (d:Int):=(Nat.le a b/\Fk b c/\∀(r:Int),HU d=HU r->Nat.le b (toNat r))
@[reducible] def lg:Ac->Af->Nat->Prop:=λ(L:Ac) (U:Af) (a:Nat)=>(∃(z:Ac),∃(B:Af),L.length=z.length/\AE L=AE z/\U.length=B.length/\Aq U=Aq B/\TU z B/\Jx a/\Int.NonNeg ((CH z)-(IW a)))/\∀(x:Int),x=Int.negSucc 0\/(0:Int)<=x/\x<(CH L)->IU x (∃(r:Int×Int×Bool),MQ L r/\((Aa/\(1:Int)=r.1)/\(Aa/\x=r.2.1)/\True)/\true=r.2.2/\True) ((OZ L)/\∀(x:Int),x=Int.negSucc 0\/(0:Int)<=x/\x<(CH L)->IU x (IY x L ((ES/\True)/\Ag (!Au (ET L x) (6:Int)) (IU x (IY x L ((ES/\True)/\Ag (!Au (ET L x) (7:Int)) (NC L) ((∃(J:Nat×Nat),(Yu J.2 J.1 L x)/\Aa/\((Cr J.2)/\(Cr J.1)/\Cm/\Fh/\(Aa/\x=x)/\True)/\ZR L)/\∀(r:Nat×Nat),(Yu r.2 r.1 L x)->Ag (Dh r.1 x) (C6 r.1 L (True/\Ag (Ay (Eh (Gc L r.1))) (Bj r.2 (Bj r.1 (∃(y:Nat×Nat),(Yu y.2 y.1 L x)/\Dx L y.1 r.1/\Aa/\((Cb r.2 y.2)/\l8 x r y)/\ZR L))) (Bj r.1 (∃(y:Nat×Nat),(Yu y.2 y.1 L x)/\Dx L y.1 r.1/\Aa/\((KP r.2 y.2)/\l8 x r y)/\ZR L)))) (∃(x:Int×Int×Bool),MQ L x/\((Aa/\(3:Int)=x.1)/\(Aa/\(↑r.2:Int)=x.2.1)/\True)/\true=x.2.2/\True)))) (NC L)) ((Yc L x)/\∃(r:Int×Int×Bool),MQ L r/\((Aa/\(2:Int)=r.1)/\(Aa/\AF (↑(BN (Dk L) (6:Int) (toNat x)):Int)=r.2.1)/\True)/\true=r.2.2/\True))) (NC L))
def SC (a:Ac):=(∃(r:Int×Int×Bool),MQ a r/\((Aa/\(0:Int)=r.1)/\(Aa/\(0:Int)=r.2.1)/\True)/\true=r.2.2/\True)
def vC (a:Af) (b:Nat) (c:Ac):=Ap (AO (Dm a b) c.length) (Ap (AO (0:Int) (List.length (Ab.kids (J4 c a b)))) (Ag (Au (getD (Ab.kids (J4 c a b)) 0 (0:Int)) (↑b:Int)) (la c) (lg c a b)))
theorem Anx:∀(L:Ac) (U:Af) (a:Nat),TU L U->AD a L.length->C6 a L (Ez a U (Ag (Ch L a (29:Int)) (ME U a L (Ag (Au (Ab.kind (J4 L U a)) (8:Int)) (vC U a L) (ME U a L (Ag (Au (Ab.kind (J4 L U a)) (10:Int)) (vC U a L) (lg L U a))))) (Ag (Ch L a (19:Int)) (la L) (Ag (Ch L a (21:Int)) (ld L) (Ag (Ch L a (22:Int)) (ld L) (Ag (Ch L a (33:Int)) (l9 L) (Ag (Ch L a (5:Int)) (Ag (decide (Ab.text (getD L (toNat (↑a:Int)) Ab.none)=[(105:UInt8),110,116])) (SC L) (Ag (decide (Ab.text (getD L (toNat (↑a:Int)) Ab.none)=[(102:UInt8),110])) (SC L) (Ag (decide (Ab.text (getD L (toNat (↑a:Int)) Ab.none)=[(116:UInt8),111,107])) (SC L) (Ag (decide (Ab.text (getD L (toNat (↑a:Int)) Ab.none)=[(104:UInt8),97,110,100])) (SC L) (Ag (decide (Ab.text (getD L (toNat (↑a:Int)) Ab.none)=[(97:UInt8),114,114])) (SC L) (l9 L)))))) (SC L))))))))
:=by
 delta CA AD Dm Ch J4 SC C6 Ez vC ME;intro L U a hT ha;have ha:a<L.length:=ha;have hL:=hT.len;have an:=hT.Ir.len;simp only[Bq,l8,ZR,l9,la,ld,lg,Cb,Cm,Fh,AD,Bc,Cl,Vk,Ll,NC,Dk,ES,Yc,OZ,CH,ET,IU,IY,CA,Bj,Dx,Cr,C6,HU,Fk,Dh,Yu,Gc,Jx,KP,IW];simp only[DY];have h0:∃x:Int×Int×Bool,MQ L x/\(0=x.fst/\0=x.snd.fst)/\false=x.snd.snd:=⟨(0,0,false),⟨by simp,by simp,λh=>by simp at h⟩,⟨rfl,rfl⟩,rfl⟩;have h1:∀d:Int,0<=d->d<L.length->∃x:Int×Int×Bool,MQ L x/\(1=x.fst/\d=x.snd.fst)/\true=x.snd.snd:=λd J K=>⟨(1,d,true),⟨J,by simp only;omega,λh=>by simp at h⟩,⟨rfl,rfl⟩,rfl⟩;have hc:∀(c k d:Int),c≠2->0<=d->d<L.length->∃x:Int×Int×Bool,MQ L x/\(c=x.fst/\((BN L k d.toNat:Nat):Int)=x.snd.fst)/\true=x.snd.snd:=λc k d g0 J K=>by have:=count_le L k d.toNat;exact⟨(c,(BN L k d.toNat:Nat),true),⟨by simp only;omega,by simp only;omega,λh=>absurd h g0⟩,⟨rfl,rfl⟩,rfl⟩
 have hg:∀d:Int,0<=d->d<L.length->(L.getD d.toNat Ab.none).kind=6->∃x:Int×Int×Bool,MQ L x/\(2=x.fst/\((BN L 6 d.toNat:Nat):Int)=x.snd.fst)/\true=x.snd.snd:=λd J K g3=>by have:=count_le L 6 d.toNat;have h:=Ahc (n:=L.length) (show d.toNat<L.length by omega) g3;exact⟨(2,(BN L 6 d.toNat:Nat),true),⟨by simp only;omega,by simp only;omega,λ_=>by simp only;omega⟩,⟨rfl,rfl⟩,rfl⟩
 have hD:∃z:Ac,L.length=z.length/\AE L=AE z/\z.length<=1000000:=⟨L,rfl,rfl,hL⟩;have Y:∃(z:Ac) (R:Af),L.length=z.length/\AE L=AE z/\U.length=R.length/\Aq U=Aq R/\TU z R/\((0:Int)<=(a:Int))/\(a:Int)<(z.length:Int):=⟨L,U,rfl,rfl,rfl,rfl,hT,by omega,by omega⟩;have hC:∀d:Int,0<=d->d<L.length->∃z:Ac,L.length=z.length/\AE L=AE z/\z.length<=1000000/\(0:Int)<=d/\d<=(z.length:Int):=λd J K=>⟨L,rfl,rfl,hL,J,by omega⟩;have aa:∀d:Int,∃S:Nat×Nat,(S.snd<=S.fst/\S.fst<=L.length/\∀r:Int,d=r->S.fst<=r.toNat)/\0=(S.snd:Int)/\0=(S.fst:Int):=λd=>⟨(0,0),⟨AH _,BL _,λ_ _=>BL _⟩,rfl,rfl⟩;have ae:AO (a:Int) L.length=true:=AK.2 (by omega);have ad:AO (a:Int) U.length=true:=AK.2 (by omega);refine Am ae (Am ad ?_);have V:(L.getD a Ab.none).kind=29->∃u:Nat,U.getD a 0=u/\u<L.length:=λh=>by
  have ak:a≠0:=λe=>by rw[e,hT.CO.root]at h;cases h
  obtain⟨J,K⟩:=hT.Ir.lo a (by omega) ha;exact⟨(U.getD a 0).toNat,by omega,by omega⟩
 have ab:(L.getD a Ab.none).kind=29->((L.getD (U.getD a 0).toNat Ab.none).kind=8\/(L.getD (U.getD a 0).toNat Ab.none).kind=10)->AO 0 (L.getD (U.getD a 0).toNat Ab.none).kids.length=true:=λJ K=>by obtain⟨u,hu,W⟩:=V J;rw[hu,Int.toNat_natCast]at K⊢;have:=AbV hT.CO W K;exact AK.2 (by omega)
 have ai:∃x:Int×Int×Bool,MQ L x/\(0=x.fst/\0=x.snd.fst)/\true=x.snd.snd:=⟨(0,0,true),⟨by simp,by simp,λh=>by simp at h⟩,⟨rfl,rfl⟩,rfl⟩;have ah:∀(d:Int) (y:Nat×Nat),(y.snd<=y.fst/\y.fst<=L.length/\∀r:Int,d=r->y.fst<=r.toNat)->(y.fst:Int)<d->d<L.length->∃B:Nat×Nat,(B.snd<=B.fst/\B.fst<=L.length/\∀r:Int,d=r->B.fst<=r.toNat)/\(L.length-B.fst).succ<=L.length-y.fst/\(y.snd:Int)+1=(B.snd:Int)/\(y.fst:Int)+1=(B.fst:Int):=λd y J K g3=>
  ⟨(y.1+1,y.2+1),⟨by simp only;omega,by simp only;omega,λe Z=>by subst Z;simp only;omega⟩,by simp only;omega,by simp only;omega,by simp only;omega⟩
 have ag:∀(d:Int) (y:Nat×Nat),(y.snd<=y.fst/\y.fst<=L.length/\∀r:Int,d=r->y.fst<=r.toNat)->(y.fst:Int)<d->d<L.length->∃B:Nat×Nat,(B.snd<=B.fst/\B.fst<=L.length/\∀r:Int,d=r->B.fst<=r.toNat)/\(L.length-B.fst).succ<=L.length-y.fst/\(y.snd:Int)=(B.snd:Int)/\(y.fst:Int)+1=(B.fst:Int):=λd y J K g3=>
  ⟨(y.1+1,y.2),⟨by simp only;omega,by simp only;omega,λe Z=>by subst Z;simp only;omega⟩,by simp only;omega,rfl,by simp only;omega⟩
 have af:∀(d:Int) (y:Nat×Nat),(y.snd<=y.fst/\y.fst<=L.length/\∀r:Int,d=r->y.fst<=r.toNat)->∃x:Int×Int×Bool,MQ L x/\(3=x.fst/\(y.snd:Int)=x.snd.fst)/\true=x.snd.snd:=λd y J=>
  ⟨(3,(y.2:Int),true),⟨by simp only;omega,by simp only;omega,λh=>by simp at h⟩,⟨rfl,rfl⟩,rfl⟩
 have aj:∀d:Int,d= -1\/0<=d/\d<(L.length:Int)->¬d<0->0<=d/\d<(L.length:Int):=λd J K=>by omega
 repeat' first
  |with_reducible refine Ao (λ_=>?_) (λ_=>?_)
  |with_reducible refine Am ?_ ?_
  |with_reducible refine And.intro ?_ ?_
  |intro _ _
 all_goals first
  |exact h0
  |exact ai
  |exact hD
  |exact Y
  |exact aa _
  |skip
 all_goals simp only[BZ,BI,Bd,Bl,Ba,BB,show Int.negSucc 0= -1 from rfl]at*
 all_goals first
  |(with_reducible refine AK.2 ?_;omega)
  |(with_reducible refine AU.2 ?_;omega)
  |(obtain⟨u,hu,W⟩:=V ‹_›;with_reducible refine AK.2 ?_;omega)
  |exact ab (by assumption) (by first|exact .inl ‹_› |exact .inr ‹_›)
  |exact h1 _ (by omega) (by omega)
  |exact hc 4 _ _ (by decide) (by omega) (by omega)
  |exact hc 5 _ _ (by decide) (by omega) (by omega)
  |exact hc 6 _ _ (by decide) (by omega) (by omega)
  |exact hg _ (by omega) (by omega) (by assumption)
  |exact hC _ (by omega) (by omega)
  |exact ah _ _ (by assumption) (by omega) (by omega)
  |exact ag _ _ (by assumption) (by omega) (by omega)
  |exact af _ _ (by assumption)
theorem Anw:∀(L:Ac) (U:Af) (a:Nat),TU L U->a<L.length->(A3 (zJ L) 60).call 17 [tree L,.vec 1 U.length (Aq U),.int .i64 a] .leaf 0 (L0 (λx:Int×Int×Bool=>MQ L x) λx=>.AM [.agg [.int .i64 x.1,.int .i64 x.2.1],.bool x.2.2]):=Eq.mpr (by kernel_rfl) Anx
structure LS (L:List Ab) (F:List Int):Prop where
 len:F.length<=L.length
 al:∀x∈F,0<=x/\x<L.length/\Eh (L.getD x.toNat Ab.none).kind=true
structure FI (L:List Ab) (i:Nat) (F:List Int):Prop where
 le:i<=L.length
 len:F.length<=i
 al:∀x∈F,0<=x/\x<L.length/\Eh (L.getD x.toNat Ab.none).kind=true
def vO:H9:=λ_ args=>match args with
 | [.agg [.vec 6 n f]]=>some ⟨Af,(∃L:Ac,n=L.length/\f=AE L/\L.length<=1000000),λF=>∀L:Ac,n=L.length->f=AE L->LS L F,λF=>.vec 1 F.length (Aq F)⟩
 |_=>none
def x7 (L:Ac):B0:={X:=Nat×Af,T:=λs _ x=>(3,.AR s.nx x.2.length 1)::(4,.int .i64 x.1)::Ig s [0,1],H:=λs n0 x=>(s.nx,Oa x.2)::Xs s [0],nx:=λs _=>s.nx+1,I:=λ_ x=>FI L x.1 x.2,m:=λx=>L.length-x.1}
def pU:Tr Ah->Al->Option Ct:=λ_ args=>match args with
 | [.vec 1 n f,.int .i64 z]=>some (.Bb (∃S:Af,n=S.length/\f=Aq S/\S.length<=1000000) (.ret (.bool (Ay (decide (z∈Dy n f))))))
 |_=>none
structure HI (S:List Int) (z:Int) (k:Nat):Prop where
 le:k<=S.length
 al:∀j,j<k->S.getD j 0≠z
def Af0 (S:Af) (z:Int):B0:=thin Nat [0,1] (λk=>[(5,.int .i64 k)]) (λ_ k=>HI S z k) λk=>S.length-k
def Jf (L:Ac) (a:Nat):Nat:=
 match(L.getD a Ab.none).kids.getLast? with
 |none=>a+1
 |some c=>if h:(a:Int)<c/\c<L.length then Jf L c.toNat else a+1
termination_by L.length-a
decreasing_by omega
def W2 (N:Nat):Tr Ah->Al->Option Ct:=λ_ args=>match args with
 | [.agg [.vec 6 n f],.int .i64 a]=>some (.Bb (∃L:Ac,n=L.length/\f=AE L/\L.length<=1000000/\Good L/\0<=a/\a<L.length/\L.length-a.toNat<N) (.ret (.int .i64 (AF (Jf (H4 n f) a.toNat:Nat)))))
 |_=>none
def RA (L:Ac) (a i:Nat):Nat:=if i=0 then a+1 else Jf L ((L.getD a Ab.none).kids.getD (i-1) 0).toNat
def AfV (L:Ac) (a:Nat):B0:=thin Nat [0,1,2] (λi=>[(5,.int .i64 (RA L a i)),(6,.int .i64 i)]) (λ_ i=>i<=(L.getD a Ab.none).kids.length) λi=>(L.getD a Ab.none).kids.length-i
def zB (N:Nat) (L:Ac) (a:Nat):Ctx:=M4 [(41,W2 N)] 41 3 (AfV L a)
@[reducible] def lj:Ac->Prop:=λ(L:Ac)=>(Dl L/\True)/\Cm/\True
@[reducible] def lq:Ac->Nat×Af->Nat×Af->Prop:=λ(L:Ac) (a r:Nat×Af)=>(Cb a.1 r.1)/\lj L
def SD (a:Nat×Af):=Ap (bif bif Nat.ble (a.2.length*1) a.2.length then true else false then decide (a.2.length+1<=9223372036854775807/\(a.2.length+1)*8<=140737488355328)else false)
theorem Am6:∀(L:Ac),HZ L->(∃(R:Nat×Af),FI L R.1 R.2/\Aa/\(R.2.length=0/\(Cr R.1)/\lj L)/\(Aa/\True)/\Ed L)/\∀(x:Nat×Af),FI L x.1 x.2->Ag (Dh x.1 (CX L)) (C6 x.1 L (True/\Ag (Ay (Eh (Gc L x.1))) (SD x (Bj x.1 (∃(r:Nat×Af),FI L r.1 r.2/\Dx L r.1 x.1/\Aa/\((Ae (some 5)/\x.2.length+1=r.2.length/\Aa)/\lq L x r)/\(Aa/\Aa/\Aa/\Aa/\(x.2.length+1)*1=r.2.length/\Ar λ(i:Nat)=>B7 i ((x.2.length+1)*1)->AZ [(0,0),(1,5)] (Aq r.2 i) (BA x.2.length (Aq x.2) (λ(J:Nat)=>[QM x.1]) i))/\Ed L))) (Bj x.1 (∃(r:Nat×Af),FI L r.1 r.2/\Dx L r.1 x.1/\Aa/\((Ae (some 1)/\x.2.length=r.2.length/\Aa)/\lq L x r)/\(Aa/\Aa/\Aa/\Aa/\x.2.length=r.2.length/\Ar λ(i:Nat)=>B7 i x.2.length->(Aa/\DG x.2 i=DG r.2 i)/\True)/\Ed L)))) (∃(J:Af),LS L J/\gK x x.2 J)
:=by
 delta CA AD Bj B7 Dx SD Cr C6 DG CX Ed Dh HZ Gc gK QM;intro L U;have U:L.length<=1000000:=U;simp only[Bq,Iy,Pu,lj,lq,AD,Bc,Cl,Hg,Dl,Cm,Cb];refine⟨⟨(0,[]),⟨BL _,AH _,λx y=>by simp at y⟩,rfl,rfl⟩,λx y=>?_⟩;obtain⟨i,F⟩:=x;have K:=y.len;have S:=y.le;have B:=y.al;simp only at K S B⊢;refine Ao (λh=>?_) λh=>⟨F,⟨by omega,B⟩,Am (DL λ_ _=>rfl) ⟨rfl,⟨λ_ _=>rfl⟩⟩⟩;rw[Bd]at h;refine Am (AK.2 (by omega)) (Ao (λV=>Am (BF (by omega)) (Am (AU.2 (by omega)) ⟨(i+1,F++[(i:Int)]),⟨by simp only;omega,by simp;omega,λx y=>?_⟩,by simp only;omega,⟨by simp,by simp⟩,by simp,?_⟩)) λV=>Am (AU.2 (by omega)) ⟨(i+1,F),⟨by simp only;omega,by simp only;omega,B⟩,by simp only;omega,⟨rfl,by simp⟩,rfl,⟨λ_ _=>rfl⟩⟩)
 ·rcases List.mem_append.1 y with y|y
  ·exact B x y
  ·simp only[I7]at y;subst y;rw[Int.toNat_natCast];exact⟨by omega,by omega,V⟩
 ·exact⟨λj W=>(QS (row:=λz:Int=>[AV.int .i64 z]) (d:=0) (e:=1) (n:=F.length+1) (out:=F) (t:=(i:Int)) (g:=λ_=>[AV.int .i64 (i:Int)]) (λt=>⟨⟨rfl,rfl⟩,trivial⟩) rfl rfl).h j (by have:j<F.length+1:=W;omega)⟩
theorem Am5:∀(L:Ac),L.length<=1000000->(A3 (M4 [(37,Ml Eh)] 38 3 (x7 L)) 60).call 38 [tree L] .leaf 0 (L0 (λF:Af=>LS L F) λF=>.vec 1 F.length (Aq F)):=Eq.mpr (by kernel_rfl) Am6
theorem Ana:∀(S:Af) (z:Int),Nat.le S.length 1000000->(∃(K:Nat),HI S z K/\Aa/\((Cr K)/\(DN S)/\(Aa/\z=z)/\True)/\True)/\∀(x:Nat),HI S z x->Ag (AP (↑x:Int) (Io S)) (Ez x S (Ag (Au (Dm S x) z) (true=decide (z∈S)) (Bj x (∃(B:Nat),HI S z B/\QI S B x/\Aa/\((Cb x B)/\(DN S)/\(Aa/\z=z)/\True)/\True)))) (false=decide (z∈S))
:=by
 delta AD Dm DN Bj Cb Cr Ez Io QI;intro S z R;have R:S.length<=1000000:=R;simp only[Bq];refine⟨⟨0,⟨BL _,λj J=>by omega⟩,rfl⟩,λx L=>Ao (λh=>?_) λh=>?_⟩
 ·rw[Bd]at h;have y:x<S.length:=by omega
  refine Am (AK.2 (by omega)) (Ao (λr=>?_) λr=>Am (AU.2 (by omega)) ⟨x+1,⟨y,λj J=>?_⟩,by omega,by omega⟩)
  ·rw[Ba]at r;rw[BF (r▸G6 y)]
  ·rw[BB]at r;rcases D9 j x with U|U
   ·exact L.al j U
   ·rw[show j=x by omega];exact r
 ·rw[Bl]at h;rw[E7];intro V;obtain⟨j,J,W⟩:=List.getElem_of_mem V;refine L.al j (by omega) ?_;rw[Bt,Ce J];exact W
theorem Am9:∀(S:Af) (z:Int),S.length<=1000000->(A3 (M4 [] 42 2 (Af0 S z)) 60).call 42 [.vec 1 S.length (Aq S),.int .i64 z] .leaf 0 (BS Tryz.prog false (.bool (decide (z∈S)))):=Eq.mpr (by kernel_rfl) Ana
theorem AaW {l:Af} (h:0<l.length):l.getLast?=some (l.getD (l.length-1) 0):=by rw[List.getLast?_eq_getElem?,Bt,Ce (by omega)];rfl
theorem zr {L:Ac} {a:Nat} (h:(L.getD a Ab.none).kids.length=0):Jf L a=a+1:=by
 rw[Jf];split
 ·rfl
 ·rename_i c hc;rw[Ra]at h;rw[h]at hc;cases hc
theorem zq {L:Ac} {a:Nat} (y:Good L) (x:a<L.length) (h:0<(L.getD a Ab.none).kids.length):Jf L a=Jf L ((L.getD a Ab.none).kids.getD ((L.getD a Ab.none).kids.length-1) 0).toNat:=by
 have r:=y.Gn a x _ (G6 (show(L.getD a Ab.none).kids.length-1<(L.getD a Ab.none).kids.length by omega));rw[Jf];split
 ·rename_i hc;rw[AaW h]at hc;cases hc
 ·rename_i c hc;rw[AaW h]at hc;injection hc with hc;subst hc;rw[dif_pos r]
theorem Ahm {L:Ac} (x:Good L):∀(d a:Nat),L.length-a<=d->a<L.length->a<Jf L a/\Jf L a<=L.length:=by
 intro d
 induction d with
 |zero=>intro a z r;omega
 |succ d y=>
  intro a z r;rcases Nat.eq_zero_or_pos (L.getD a Ab.none).kids.length with h|h
  ·rw[zr h];omega
  ·have B:=x.Gn a r _ (G6 (show(L.getD a Ab.none).kids.length-1<(L.getD a Ab.none).kids.length by omega));rw[zq x r h];have:=y ((L.getD a Ab.none).kids.getD ((L.getD a Ab.none).kids.length-1) 0).toNat (by omega) (by omega);omega
@[reducible] def lh:Ac->Nat->Prop:=λ(L:Ac) (a:Nat)=>(Dl L/\True)/\(Fj a)/\Cm/\True
theorem AmS:∀(N:Nat) (L:Ac) (a:Nat),HZ L->Good L->AD a L.length->Nat.le (Nat.succ (L.length-a)) (N+1)->Bj a ((∃(K:Nat),Nat.le K (Cl L a)/\Aa/\((Aa/\(↑a:Int)+1=(↑(RA L a K):Int))/\(Cr K)/\lh L a)/\Ed L)/\∀(x:Nat),Nat.le x (Cl L a)->C6 a L (Ag (AP (↑x:Int) (Int.ofNat (Ec L a))) (C6 a L (Ap (AO (↑x:Int) (Ec L a)) ((∃(r:Ac),L.length=r.length/\AE L=AE r/\HZ r/\Good r/\Int.NonNeg (Jv L a x-0)/\Int.NonNeg ((CH r)-(Jv L a x+1))/\Nat.le (Nat.succ (r.length-toNat (Jv L a x))) N)/\(CI/\CI/\True)/\Bj x (∃(B:Nat),Nat.le B (Cl L a)/\Nat.le (Nat.succ (Cl L a-B)) (Cl L a-x)/\Aa/\((Aa/\AF (↑(Jf (Dk L) (toNat (Jv L a x))):Int)=(↑(RA L a B):Int))/\(Cb x B)/\lh L a)/\Ed L)))) (Aa/\(↑(RA L a x):Int)=(↑(Jf L a):Int))))
:=by
 delta CA AD Bc Bj B8 Ec Cl CI Dk Cb Cr C6 Jv CH Ed HZ;intro N L a R J y S;have R:L.length<=1000000:=R;have y:a<L.length:=y;have S:L.length-a<N+1:=S;have W:=J.Mf a y;simp only[Bq,Iy,Pu,lh,AD,Bc,Cl,Hg,Dl,Cm,Fj];simp only[DY];have U:AO (a:Int) L.length=true:=AK.2 (by omega);refine Am (AU.2 (by omega)) ⟨⟨0,BL _,by unfold RA;simp,rfl⟩,λx Y=>Am U (Ao (λh=>?_) λh=>?_)⟩
 ·rw[Bd]at h;have z:x<(L.getD a Ab.none).kids.length:=by omega
  have Z:=J.Gn a y _ (G6 z);refine Am U (Am (AK.2 (by omega)) ⟨⟨L,rfl,rfl,R,J,(show(0:Int)<=(L.getD a Ab.none).kids.getD x 0 by omega),(show(L.getD a Ab.none).kids.getD x 0<(L.length:Int) by omega),(show L.length-((L.getD a Ab.none).kids.getD x 0).toNat<N by omega)⟩,Am (AU.2 (by omega)) ⟨x+1,z,by omega,?_,by omega⟩⟩);unfold RA;rw[An (by omega),Nat.add_sub_cancel]
 ·rw[Bl]at h;obtain rfl:x=(L.getD a Ab.none).kids.length:=by omega
  unfold RA;split
  ·rename_i V;rw[zr V]
  ·rename_i V;rw[zq J y (by omega)]
theorem AmR:∀(N:Nat) (L:Ac) (a:Nat),L.length<=1000000->Good L->a<L.length->L.length-a<N+1->(A3 (zB N L a) 60).call 41 [tree L,.int .i64 a] .leaf 0 (BS Tryz.prog false (.int .i64 (Jf L a))):=Eq.mpr (by kernel_rfl) AmS
theorem Aku:BC Tryz.prog 42 pU:=by
 refine Cw (gl:=[]) (ng:=0) AS λH args ct r=>?_;unfold pU at r;split at r
 ·rename_i n f z;injection r with r;subst r;refine⟨AS,_,_,rfl,?_⟩;rintro⟨S,rfl,rfl,x⟩;rw[F2,EC];exact⟨⟨⟨rfl,rfl,⟨λi _=>Ob _ i⟩⟩,⟨rfl,rfl⟩,trivial⟩,_,60,rfl,Cc,Bk,Am9 S z x⟩
 ·cases r
theorem Akm:∀N:Nat,BC Tryz.prog 41 (W2 N):=by
 intro N
 induction N with
 |zero=>
  refine Cw (gl:=[]) (ng:=0) AS λH args ct r=>?_;unfold W2 at r;split at r
  ·injection r with r;subst r;refine⟨AS,_,_,rfl,?_⟩;rintro⟨L,rfl,rfl,y,z,K,J,x⟩;omega
  ·cases r
 |succ N B=>
  refine Cw (gl:=[]) (ng:=0) AS λH args ct r=>?_;unfold W2 at r;split at r
  ·rename_i n f a;injection r with r;subst r;refine⟨AS,_,_,rfl,?_⟩;rintro⟨L,rfl,rfl,y,z,K,J,x⟩;obtain⟨b,rfl⟩:∃b:Nat,a=b:=⟨a.toNat,by omega⟩;rw[Et,DY];exact⟨⟨FK L,⟨rfl,rfl⟩,trivial⟩,zB N L b,60,rfl,Cc,BD B Bk,AmR N L b y z (by omega) x⟩
  ·cases r
theorem Aks:JG Tryz.prog 38 vO:=by
 refine MI (gl:=[]) (ng:=0) AS λH args J r x=>?_;unfold vO at r;split at r
 ·rename_i n f;injection r with r;subst r;obtain⟨L,rfl,rfl,y⟩:=x;refine⟨AS,⟨FK L,trivial⟩,M4 [(37,Ml Eh)] 38 3 (x7 L),60,rfl,Cc,BD eb Bk,?_⟩;have:=Am5 L y;have e:(λF:Af=>LS L F)=λF=>∀M:Ac,L.length=M.length->AE L=AE M->LS M F:=by funext F;exact propext ⟨λh M B z=>QR B z▸h,λh=>h L rfl rfl⟩
  rw[e]at this;exact this
 ·cases r
theorem AkE:JG Tryz.prog 17 vQ:=by
 refine MI (gl:=[]) (ng:=0) AS λH args J r z=>?_;unfold vQ at r;split at r
 ·rename_i n f m g a;injection r with r;subst r;obtain⟨L,U,rfl,rfl,rfl,rfl,hT,K,y⟩:=z;obtain⟨b,rfl⟩:∃b:Nat,a=b:=⟨a.toNat,by omega⟩;refine⟨AS,⟨FK L,⟨rfl,rfl,⟨λi _=>Ob _ i⟩⟩,⟨rfl,rfl⟩,trivial⟩,zJ L,60,rfl,Cc,BD eb (BD tv Bk),?_⟩;have:=Anw L U b hT (by omega);have e:(λx:Int×Int×Bool=>MQ L x)=λx:Int×Int×Bool=>∀M:Ac,L.length=M.length->AE L=AE M->(0:Int)<=x.2.1/\x.2.1<=(M.length:Int)/\(x.1=2->x.2.1<((BN M 6 M.length:Nat):Int)):=by funext x;exact propext ⟨λh M y B=>by have e:=QR y B;subst e;exact⟨h.lo,h.hi,h.gl⟩,λh=>⟨(h L rfl rfl).1,(h L rfl rfl).2.1,(h L rfl rfl).2.2⟩⟩
  rw[e]at this;exact this
 ·cases r
def ey (L:Ac) (up x:Int):Bool:=decide ((L.getD up.toNat Ab.none).kind=10)&&decide ((L.getD up.toNat Ab.none).kids.getD 0 0=x)
def KA (L:Ac) (up x:Int):Bool:=decide (0<=up)&&(Eh (L.getD up.toNat Ab.none).kind&& !ey L up x)
def F9 (L:Ac) (U F:Af) (x:Nat):Int:=
 match(if KA L (U.getD x 0) x then F.findIdx? (λf=>decide (f=U.getD x 0))else none)with
 |some i=>i
 |none=>if h:0<=U.getD x 0/\U.getD x 0<x then F9 L U F (U.getD x 0).toNat else-1
termination_by x
decreasing_by omega
def R4 (L:Ac) (U F:Af) (x:Int):Int:=if x<0 then-1 else F9 L U F x.toNat
def pd:Tr Ah->Al->Option Ct:=λ_ args=>match args with
 | [.agg [.vec 6 n f],.vec 1 m g,.vec 1 k h,.int .i64 a]=>some (.Bb (∃(L:Ac) (U F:Af),n=L.length/\f=AE L/\m=U.length/\g=Aq U/\k=F.length/\h=Aq F/\TU L U/\LS L F/\0<=a/\a<L.length) (.ret (.int .i64 (AF (F9 (H4 n f) (Dy m g) (Dy k h) a.toNat)))))
 |_=>none
structure OI (L:List Ab) (U F:List Int) (a:Nat) (x:Int):Prop where
 lo:-1<=x
 hi:x<L.length
 eq:R4 L U F x=F9 L U F a
def SOo (L:Ac) (U F:Af) (a:Nat):B0:=thin Int [0,1,2,3,4] (λx=>[(9,.int .i64 x)]) (λ_ x=>OI L U F a x) λx=>(x+1).toNat
def SOi (L:Ac) (U F:Af) (a:Nat):B0:=thin Nat [0,1,2,3,4,9,10] (λi=>[(11,.int .i64 i)]) (λs i=>i<=F.length/\∀up,s.T.get 10=some (.int .i64 up)->∀j,j<i->F.getD j 0≠up) λi=>F.length-i
def zP (L:Ac) (U F:Af) (a:Nat):Ctx:={P:=Tryz.prog,tb:=[(37,Ml Eh)],lp:=λf r=>cond (Nat.beq f 39) (cond (Nat.beq r 2) (some (SOo L U F a)) (cond (Nat.beq r 7) (some (SOi L U F a)) none)) none,cut:=λ_ _=>none}
def M7 (n:Nat) (s:Aj):Aj:=if h:n=0 then s else M7 (n/10) (UInt8.ofNat (48+n %10)::s)
termination_by n
decreasing_by omega
def L7 (n:Nat):Aj:=if n=0 then [48]else M7 n []
def pQ:Tr Ah->Al->Option Ct:=λ_ args=>match args with
 | [.int .i64 z]=>some (.Bb (0<=z/\z<=1000000000) (.ret (.bs (AF (L7 z.toNat)))))
 |_=>none
structure DI (n:Nat) (x:Nat×List UInt8):Prop where
 le:x.1<=n
 len:x.2.length+x.1<=n+1
 eq:L7 n=if x.2=[]then L7 x.1 else M7 x.1 x.2
 zero:x.2=[]->x.1=n
def x6 (n:Nat):B0:={X:=Nat×Aj,T:=λs _ x=>[(0,.int .i64 x.1),(3,.bs x.2)],H:=λs n0 x=>[],nx:=λs _=>s.nx,I:=λ_ x=>DI n x,m:=λx=>x.1+(if x.2=[]then 1 else 0)}
theorem Alw {L:Ac} {U F:Af} {y:Nat} (h:U.getD y 0<0):F9 L U F y= -1:=by
 have hc:KA L (U.getD y 0) y=false:=by unfold KA;rw[E7 (by omega)];rfl
 rw[F9,hc];simp only[Bool.false_eq_true,if_false];rw[dif_neg (by omega)]
theorem Alx {L:Ac} {U F:Af} {y:Nat} (B:0<=U.getD y 0) (z:U.getD y 0<y) (h:KA L (U.getD y 0) y=false\/∀j,j<F.length->F.getD j 0≠U.getD y 0):F9 L U F y=F9 L U F (U.getD y 0).toNat:=by
 have hn:(if KA L (U.getD y 0) y then F.findIdx? (λf=>decide (f=U.getD y 0))else none)=none:=by
  rcases h with h|h
  ·rw[h];rfl
  ·split
   ·rw[List.findIdx?_eq_none_iff];intro f x;obtain⟨j,r,rfl⟩:=List.getElem_of_mem x;have:=h j r;rw[Bt,Ce r]at this;exact E7 this
   ·rfl
 rw[F9,hn];simp only
 rw[dif_pos ⟨B,z⟩]
theorem Alv {L:Ac} {U F:Af} {y i:Nat} (hc:KA L (U.getD y 0) y=true) (hi:i<F.length) (h:F.getD i 0=U.getD y 0) (hb:∀j,j<i->F.getD j 0≠U.getD y 0):F9 L U F y=(i:Int):=by
 have hn:(if KA L (U.getD y 0) y then F.findIdx? (λf=>decide (f=U.getD y 0))else none)=some i:=by
  rw[hc,As rfl,List.findIdx?_eq_some_iff_getElem];refine⟨hi,?_,λj r=>?_⟩
  ·rw[Bt,Ce hi]at h;exact BF h
  ·have:=hb j r;rw[Bt,Ce (by omega)]at this;simpa using this
 rw[F9,hn]
@[reducible] def lr:Ac->Af->Af->Nat->Prop:=λ(L:Ac) (U F:Af) (a:Nat)=>HA L/\(DN U)/\(DN F)/\(Fj a)/\Cm/\True
@[reducible] def lu:Ac->Af->Af->Nat->Int->Prop:=λ(L:Ac) (U F:Af) (a:Nat) (r:Int)=>HA L/\(DN U)/\(DN F)/\(Fj a)/\Cm/\(Aa/\Ae r)/\(Aa/\Ae (FD U r))/\True
@[reducible] def xh:Ac->Af->Af->Nat->Int->Int->Prop:=λ(L:Ac) (U F:Af) (a:Nat) (x r:Int)=>OI L U F a r/\SJ r x/\Aa/\((Aa/\FD U x=r)/\lr L U F a)/\Ed L
def gO (a:Nat) (b:Af) (c:Af) (d:Int):=(Nat.le a b.length/\∀(x:Int),some (AV.int .i64 (FD c d))=HU x->∀(r:Nat),AD r a->DG b r=x->False)
def VF (a:Int) (b:Af) (c:Ac) (d:Af) (e:Nat):=H3 a b (∃(r:Int),xh c b d e a r)
@[reducible] def lx:Ac->Af->Af->Nat->Int->Prop:=λ(L:Ac) (U F:Af) (a:Nat) (r:Int)=>(∃(z:Nat),(gO z F U r)/\Aa/\((Cr z)/\lu L U F a r)/\Ed L)/\∀(x:Nat),(gO x F U r)->Ag (AP (↑x:Int) (Io F)) (Ez x F (Ag (Au (Dm F x) (FD U r)) (Aa/\(↑x:Int)=F9 L U F a) (Bj x (∃(y:Nat),(gO y F U r)/\QI F y x/\Aa/\((Cb x y)/\lu L U F a r)/\Ed L)))) (VF r U L F a)
theorem Aoc:∀(L:Ac) (U F:Af) (a:Nat),TU L U->LS L F->AD a L.length->(∃(Y:Int),OI L U F a Y/\Aa/\((Aa/\(↑a:Int)=Y)/\lr L U F a)/\Ed L)/\∀(x:Int),OI L U F a x->IU x (H3 x U (Ag (!AP (FD U x) (0:Int)) (Ap (AO (FD U x) L.length) (True/\Ag (Ay (Eh (Ab.kind (IL L U x)))) (Ap (AO (FD U x) L.length) (Ag (Au (Ab.kind (IL L U x)) (10:Int)) (Ap (AO (FD U x) L.length) (Ap (AO (0:Int) (NL L U x)) (Ag (!Au (getD (Ab.kids (IL L U x)) 0 (0:Int)) x) (lx L U F a x) (VF x U L F a)))) (lx L U F a x))) (VF x U L F a))) (VF x U L F a))) (Aa/\Int.negSucc 0=F9 L U F a)
:=by
 delta AD IL FD Ed H3 IU NL VF;intro L U F a hT hF ha;have ha:a<L.length:=ha;have hL:=hT.len;have ag:=hT.Ir.len;have hFl:=hF.len;simp only[Bq,Iy,Rd,Pu,lr,lu,xh,lx,AD,Bc,Cl,Hg,Dl,DN,Cm,Fj,HA,FD,Ed,SJ,Dm,Bj,Cb,Cr,HU,Ez,DG,gO,H3,Io,QI,VF];refine⟨⟨a,⟨by omega,by omega,by unfold R4;rw[An (by omega),Int.toNat_natCast]⟩,rfl⟩,λx hx=>Ao (λh=>?_) λh=>?_⟩
 ·rw[BZ,Bl]at h;have af:=hx.hi;have z:=hx.eq;obtain⟨y,rfl⟩:∃y:Nat,x=y:=⟨x.toNat,by omega⟩;unfold R4 at z;rw[An (by omega),Int.toNat_natCast]at z;rw[Int.toNat_natCast];have ad:-1<=U.getD y 0/\U.getD y 0<y:=by
   rcases Nat.eq_zero_or_pos y with h0|h0
   ·subst h0;rw[hT.Ir.zero];decide
   ·have:=hT.Ir.lo y h0 (by omega);omega
  have R:AO (y:Int) U.length=true:=AK.2 (by omega);generalize hu:U.getD y 0=u at*;have hN:R4 L U F u=F9 L U F y->∃B:Int,OI L U F a B/\(B+1).toNat.succ<=((y:Int)+1).toNat/\u=B:=λe=>⟨u,⟨by omega,by omega,e.trans z⟩,by omega,rfl⟩;have K:0<=u->(KA L u y=false\/∀j,j<F.length->F.getD j 0≠u)->∃B:Int,OI L U F a B/\(B+1).toNat.succ<=((y:Int)+1).toNat/\u=B:=λg1 g2=>hN (by have:=Alx (L:=L) (U:=U) (F:=F) (y:=y) (by omega) (by omega) (by rw[hu];exact g2);rw[this,hu];unfold R4;rw[An (by omega)]);have loop:0<=u->KA L u y=true->((∃Y:Nat,(Y<=F.length/\∀up:Int,u=up->∀j:Nat,j.succ<=Y->F.getD j 0=up->False)/\(0:Int)=(Y:Int))/\∀r:Nat,(r<=F.length/\∀up:Int,u=up->∀j:Nat,j.succ<=r->F.getD j 0=up->False)-> Ag (AP (r:Int) (F.length:Int)) (Ap (AO (r:Int) F.length) (Ag (Au (F.getD r 0) u) ((r:Int)=F9 L U F a) (Ap (Bf IntKind.i64 ((r:Int)+1)) (∃B:Nat,(B<=F.length/\∀up:Int,u=up->∀j:Nat,j.succ<=B->F.getD j 0=up->False)/\(F.length-B).succ<=F.length-r/\(r:Int)+1=(B:Int))))) (Ap (AO (y:Int) U.length) (∃B:Int,OI L U F a B/\(B+1).toNat.succ<=((y:Int)+1).toNat/\u=B))):=λg1 g2=>by
   refine⟨⟨0,⟨BL _,λup _ j hj=>by omega⟩,rfl⟩,λi hi=>Ao (λJ=>?_) λJ=>Am R (K g1 (.inr ?_))⟩
   ·rw[Bd]at J;refine Am (AK.2 (by omega)) (Ao (λS=>?_) λS=>Am (AU.2 (by omega)) ⟨i+1,⟨by omega,λup aa j hj ab=>?_⟩,by omega,by omega⟩)
    ·rw[Ba]at S;rw[<-z,Alv (i:=i) (by rw[hu];exact g2) (by omega) (by rw[hu];exact S) (by rw[hu];exactλj hj=>hi.2 u rfl j hj)]
    ·rw[BB]at S;rcases D9 j i with V|V
     ·exact hi.2 up aa j V ab
     ·obtain rfl:j=i:=by omega
      exact S (ab.trans aa.symm)
   ·rw[Bl]at J;exactλj hj=>hi.2 u rfl j (by omega)
  refine Am R (Ao (λJ=>?_) λJ=>Am R (hN ?_))
  ·rw[BZ,Bl]at J;have W:AO u L.length=true:=AK.2 (by omega);refine Am W (Ao (λS=>Am W (Ao (λV=>?_) λV=>?_)) λS=>Am R (K J (.inl ?_)))
   ·rw[Ba]at V;have ae:=AbV hT.CO (i:=u.toNat) (by omega) (.inr V);refine Am W (Am (AK.2 (by omega)) (Ao (λZ=>?_) λZ=>Am R (K J (.inl ?_))))
    ·refine loop J ?_;rw[BZ,BB]at Z;unfold KA ey;rw[BF J,S,E7 Z];simp
    ·rw[BI,Ba]at Z;unfold KA ey;rw[BF V,BF Z];simp
   ·rw[BB]at V;refine loop J ?_;unfold KA ey;rw[BF J,S,E7 V];simp
   ·unfold KA;rw[S];simp
  ·rw[BI,Bd]at J;rw[Alw (by rw[hu];exact J)];unfold R4;rw[As J]
 ·rw[BI,Bd]at h;have z:=hx.eq;unfold R4 at z;rw[As h]at z;exact z
theorem Aob:∀(L:Ac) (U F:Af) (a:Nat),TU L U->LS L F->a<L.length->(A3 (zP L U F a) 60).call 39 [tree L,.vec 1 U.length (Aq U),.vec 1 F.length (Aq F),.int .i64 a] .leaf 0 (BS Tryz.prog false (.int .i64 (F9 L U F a))):=Eq.mpr (by kernel_rfl) Aoc
@[reducible] def xg:Nat->Nat×Aj->Nat×Aj->Prop:=λ(n:Nat) (a r:Nat×Aj)=>DI n r/\Nat.le (Nat.succ (r.1+if r.2=[]then 1 else 0)) (a.1+if a.2=[]then 1 else 0)/\Aa/\((Aa/\Int.tdiv (↑a.1:Int) (10:Int)=(↑r.1:Int))/\List.map (λ(a:AV)=>yH (λ(l:Al)=>UInt8) [a] (λ(k:IntKind) (n:Int)=>UInt8.ofNat (toNat n)) λ(x:Al)=>(0:UInt8)) [AV.int .u8 ((48:Int)+Int.tmod (↑a.1:Int) (10:Int))]++a.2=r.2/\True)/\True
def uc (a:Nat) (b:Nat×Aj) (c:Nat):=Ap (Bf .i64 ((48:Int)+Int.tmod (↑a:Int) (10:Int))) (Ap (Bf .u8 ((48:Int)+Int.tmod (↑a:Int) (10:Int))) (Ap (decide (List.length (List.map (λ(y:AV)=>yH (λ(J:Al)=>UInt8) [y] (λ(B:IntKind) (x:Int)=>UInt8.ofNat (toNat x)) λ(z:Al)=>(0:UInt8)) [AV.int .u8 ((48:Int)+Int.tmod (↑a:Int) (10:Int))])+b.2.length<=9223372036854775807)) (Ap (Bf .i64 (Int.tdiv (↑a:Int) (10:Int))) (∃(r:Nat×Aj),xg c b r))))
theorem AmQ:∀(n:Nat),Nat.le n 1000000000->(∃(L:Nat×Aj),DI n L/\Aa/\((KP n L.1)/\[]=L.2/\True)/\True)/\∀(x:Nat×Aj),DI n x->Ag (AP (0:Int) (↑x.1:Int)) (uc x.1 x n) (Ag (decide (x.2=[])) (uc x.1 x n) (x.2=L7 n))
:=by
 delta uc KP;intro n hn;have hn:n<=1000000000:=hn;simp only[Bq,xg];refine⟨⟨(n,[]),⟨AH _,by simp,by simp,λ_=>rfl⟩,rfl,rfl⟩,λx J=>?_⟩;obtain⟨m,s⟩:=x;have V:=J.le;have y:=J.len;have r:=J.eq;have hz:=J.zero;simp only at V y r hz⊢;have S:(m:Int).tmod 10=((m %10:Nat):Int):=by rw[Int.tmod_eq_emod_of_nonneg (by omega)];omega
 have U:(m:Int).tdiv 10=((m/10:Nat):Int):=by rw[Int.tdiv_eq_ediv_of_nonneg (by omega)];omega
 rw[S,U];have W:(48+((m %10:Nat):Int)).toNat=48+m %10:=by omega
 have next:0<m\/s=[]->Ap (Bf .i64 (48+((m %10:Nat):Int))) (Ap (Bf .u8 (48+((m %10:Nat):Int))) (Ap (decide ((UInt8.ofNat (48+((m %10:Nat):Int)).toNat::([]:Aj)).length+s.length<=9223372036854775807)) (Ap (Bf .i64 ((m/10:Nat):Int))
   (∃z:Nat×Aj,DI n z/\(z.fst+if z.snd=[]then 1 else 0).succ<=m+(if s=[]then 1 else 0)/\((m/10:Nat):Int)=(z.fst:Int)/\(UInt8.ofNat (48+((m %10:Nat):Int)).toNat::s)=z.snd)))):=λh=>by
  rw[W];refine Am (AU.2 (by omega)) (Am (sy.2 (by omega)) (Am (BF (by simp;omega)) (Am (AU.2 (by omega)) ⟨(m/10,UInt8.ofNat (48+m %10)::s),⟨by simp only;omega,?_,?_,λh=>by simp at h⟩,?_,rfl,rfl⟩)))
  ·simp only[Dn];rcases h with h|h
   ·omega
   ·have:=hz h;subst h;simp only[List.length_nil]at y⊢;omega
  ·simp only[List.cons_ne_nil,if_false,reduceCtorEq];by_cases K:s=[]
   ·rw[As K]at r;rw[r,K];unfold L7;split
    ·rename_i R;subst R;rw[M7];rfl
    ·rename_i R;rw[M7,dif_neg R]
   ·rw[An K]at r;rw[r,M7,dif_neg (by rcases h with h|h;omega;exact absurd h K)]
  ·simp only[List.cons_ne_nil,if_false,reduceCtorEq];rcases h with h|h
   ·omega
   ·rw[As h];omega
 refine Ao (λh=>?_) λh=>Ao (λB=>?_) λB=>?_
 ·rw[Bd]at h;exact next (.inl (by omega))
 ·exact next (.inr (of_decide_eq_true B))
 ·rw[Bl]at h;have B:=of_decide_eq_false B;rw[An B]at r;obtain rfl:m=0:=by omega
  rw[r,M7];rfl
theorem AmP:∀(n:Nat),n<=1000000000->(A3 (M4 [] 64 2 (x6 n)) 60).call 64 [.int .i64 n] .leaf 0 (BS Tryz.prog false (.bs (L7 n))):=Eq.mpr (by kernel_rfl) AmQ
theorem AkO:BC Tryz.prog 39 pd:=by
 refine Cw (gl:=[]) (ng:=0) AS λH args ct r=>?_;unfold pd at r;split at r
 ·rename_i n f m g k h a;injection r with r;subst r;refine⟨AS,_,_,rfl,?_⟩;rintro⟨L,U,F,rfl,rfl,rfl,rfl,rfl,rfl,hT,x,z,y⟩;obtain⟨b,rfl⟩:∃b:Nat,a=b:=⟨a.toNat,by omega⟩;rw[Et,DY,EC,EC];exact⟨⟨FK L,⟨rfl,rfl,⟨λi _=>Ob _ i⟩⟩,⟨rfl,rfl,⟨λi _=>Ob _ i⟩⟩,⟨rfl,rfl⟩,trivial⟩,zP L U F b,60,rfl,Cc,BD eb Bk,Aob L U F b hT x (by omega)⟩
 ·cases r
theorem Akl:BC Tryz.prog 64 pQ:=by
 refine Cw (gl:=[]) (ng:=0) AS λH args ct r=>?_;unfold pQ at r;split at r
 ·rename_i z;injection r with r;subst r;refine⟨AS,_,_,rfl,?_⟩;rintro⟨y,x⟩;obtain⟨b,rfl⟩:∃b:Nat,z=b:=⟨z.toNat,by omega⟩;rw[Et,Int.toNat_natCast];exact⟨⟨⟨rfl,rfl⟩,trivial⟩,M4 [] 64 2 (x6 b),60,rfl,Cc,Bk,AmP b (by omega)⟩
 ·cases r
def C8 (L:Ac) (U:Af) (x top:Nat):Nat:=
 if h:0<=U.getD x 0/\U.getD x 0<x then C8 L U (U.getD x 0).toNat (if Eh (L.getD x Ab.none).kind then x else top)else(if Eh (L.getD x Ab.none).kind then x else top)
termination_by x
decreasing_by omega
def VU (L:Ac) (U:Af) (x:Int) (top:Nat):Nat:=if x<0 then top else C8 L U x.toNat top
def UF (n:Int):Aj:=if n=0 then [99,114,101,97,116,101]else if n=1 then [115,116,97,114,116]else if n=2 then [115,116,111,112]else [100,101,115,116,114,111,121]
def FP (L:Ac) (U:Af) (a:Nat):Aj:=
 if(L.getD a Ab.none).kind=9 then(L.getD (U.getD a 0).toNat Ab.none).text++[46]++UF (L.getD a Ab.none).n
 else if(L.getD a Ab.none).kind=11 then [109,97,105,110]
 else if(L.getD a Ab.none).kind=36 then(if h:C8 L U a a<a then FP L U (C8 L U a a)++[46]++L7 (BN L 36 (a+1)-BN L 36 (C8 L U a a))else [])
 else(L.getD a Ab.none).text
termination_by a
def W5 (N:Nat):Tr Ah->Al->Option Ct:=λ_ args=>match args with
 | [.agg [.vec 6 n f],.vec 1 m g,.int .i64 a]=>some (.Bb (∃(L:Ac) (U:Af),n=L.length/\f=AE L/\m=U.length/\g=Aq U/\TU L U/\Hn L/\0<=a/\a<L.length/\a.toNat<N) (.ret (.bs (AF (FP (H4 n f) (Dy m g) a.toNat)))))
 |_=>none
structure TI (L:List Ab) (U:List Int) (a:Nat) (x:Int×Nat):Prop where
 lo:-1<=x.1
 hi:x.1<=a
 top:x.2<=a
 eq:VU L U x.1 x.2=C8 L U a a
def SNo (L:Ac) (U:Af) (a:Nat):B0:=thin (Int×Nat) [0,1,2,3,6,7] (λx=>[(9,.int .i64 x.1),(8,.int .i64 x.2)]) (λ_ x=>TI L U a x) λx=>(x.1+1).toNat
structure NI (L:List Ab) (a top i:Nat):Prop where
 lo:top<=i
 hi:i<=a+1
def SNc (L:Ac) (U:Af) (a:Nat):B0:=thin Nat [0,1,2,3,6,7,8] (λi=>[(10,.int .i64 ((BN L 36 i:Int)-(BN L 36 (C8 L U a a):Int))),(11,.int .i64 i)]) (λ_ i=>NI L a (C8 L U a a) i) λi=>a+1-i
def zO (N:Nat) (L:Ac) (U:Af) (a:Nat):Ctx:={P:=Tryz.prog,tb:=[(37,Ml Eh),(64,pQ),(40,W5 N)],lp:=λf r=>cond (Nat.beq f 40) (cond (Nat.beq r 10) (some (SNo L U a)) (cond (Nat.beq r 16) (some (SNc L U a)) none)) none,cut:=λ_ _=>none}
inductive V6 (L:List Ab) (U:List Int):Nat->Prop where
 |here (x:Nat) (h:Eh (L.getD x Ab.none).kind=true):V6 L U x
 |up (x:Nat) (h1:0<=U.getD x 0) (h2:U.getD x 0<x) (h:V6 L U (U.getD x 0).toNat):V6 L U x
theorem Acm {p:Int->Bool}:∀ {l:Af} {x:Int},x∈l.takeWhile p->p x=true
 | [],x,h=>by simp at h
 |y::l,x,h=>by
  by_cases hy:p y=true
  ·rw[List.takeWhile_cons_of_pos hy]at h;rcases Dp.1 h with rfl|h
   ·exact hy
   ·exact Acm h
  ·rw[List.takeWhile_cons_of_neg hy]at h;simp at h
theorem AiY:∀(n:Nat) (s:Aj),s.length<=n->∀l:Af,CF s l=true->∀x∈l,∃c∈s,Ck (c.toNat:Int) x=true:=by
 intro n
 induction n with
 |zero=>intro s L l h x r;have:s=[]:=Ra.1 (by omega);subst this;rw[Xv,List.isEmpty_iff]at h;subst h;simp at r
 |succ n K=>
  intro s L l h x r
  match s,L with
  | [],_=>rw[Xv,List.isEmpty_iff]at h;subst h;simp at r
  | [c],_=>
   match l,r with
   |y::t,r=>simp only[CF,B4,List.isEmpty_iff]at h;obtain⟨z,rfl⟩:=h;simp only[I7]at r;subst r;exact⟨c,by simp,z⟩
  |c::d::s,L=>
   simp only[Dn]at L;by_cases J:c=42
   ·subst J;rw[AbY]at h;rw[<-List.takeWhile_append_dropWhile (p:=Ck (d.toNat:Int)) (l:=l)]at r;rcases List.mem_append.1 r with r|r
    ·exact⟨d,by simp,Acm r⟩
    ·obtain⟨e,he,z⟩:=K s (by omega) _ h x r;exact⟨e,by simp[he],z⟩
   ·by_cases B:c=63
    ·subst B;rw[tN]at h
     match l,r with
     |y::t,r=>
      unfold YS at h;by_cases hy:Ck (d.toNat:Int) y=true
      ·simp only[hy,if_true]at h;rcases Dp.1 r with rfl|r
       ·exact⟨d,by simp,hy⟩
       ·obtain⟨e,he,z⟩:=K s (by omega) _ h x r;exact⟨e,by simp[he],z⟩
      ·simp only[hy,if_false]at h;obtain⟨e,he,z⟩:=K s (by omega) _ h x r;exact⟨e,by simp[he],z⟩
    ·match l,r with
     |y::t,r=>
      rw[Xw _ _ _ J B,B4]at h;rcases Dp.1 r with rfl|r
      ·exact⟨c,by simp,h.1⟩
      ·obtain⟨e,he,z⟩:=K (d::s) (by simp;omega) _ h.2 x r;exact⟨e,by simp only[Dp]at he⊢;exact .inr he,z⟩
def inner (k:Int):Prop:=12<=k/\k<=36/\k≠29
theorem Aja {k c:Int} (h:∃e∈BT k,Ck (e.toNat:Int) c=true) (hc:inner c):Eh k=true\/inner k:=by
 obtain⟨e,he,x⟩:=h;unfold inner at hc⊢;unfold Eh;by_cases L:12<=k/\k<=36/\k≠29
 ·exact .inr L
 ·refine .inl ?_;rw[Bn];unfold BT at he;have hd:∀z:Int,z=100\/z=109\/z=121\/z=108\/z=42\/z=117->Ck z c=false:=λz hz=>by unfold Ck pB;rcases hz with rfl|rfl|rfl|rfl|rfl|rfl<;>simp<;>omega
  by_cases R:k=7\/k=9\/k=11\/k=36
  ·omega
  ·by_cases r:k=10
   ·omega
   ·exfalso;have:e=42\/e=100\/e=109\/e=121\/e=117\/e=108:=by
     by_cases K:k=1
     ·rw[As K]at he;simp at he;rcases he with rfl|rfl<;>simp
     ·rw[An K]at he;by_cases J:k=3
      ·rw[As J]at he;simp at he;rcases he with rfl|rfl<;>simp
      ·rw[An J]at he;by_cases B:k=4\/k=6
       ·rw[As B]at he;simp at he;subst he;simp
       ·rw[An B,An R]at he;by_cases y:k=8
        ·rw[As y]at he;simp at he;rcases he with rfl|rfl|rfl<;>simp
        ·rw[An y,An r,An (by omega),An (by omega),An (by omega),An (by omega),An (by omega),An (by omega),An (by omega),An (by omega)]at he;simp at he
    have S:=hd (e.toNat:Int) (by rcases this with rfl|rfl|rfl|rfl|rfl|rfl<;>decide);rw[S]at x;cases x
theorem Ag5 {L:Ac} {U:Af} (hT:TU L U):∀(n x:Nat),x<=n->x<L.length->inner (L.getD x Ab.none).kind->V6 L U (U.getD x 0).toNat:=by
 intro n
 induction n with
 |zero=>
  intro x R hl hi;obtain rfl:x=0:=by omega
  unfold inner at hi;rw[hT.CO.root]at hi;omega
 |succ n K=>
  intro x R hl hi;have y:0<x:=by
   rcases Nat.eq_zero_or_pos x with h|h
   ·subst h;unfold inner at hi;rw[hT.CO.root]at hi;omega
   ·exact h
  obtain⟨h1,Z⟩:=hT.Ir.lo x y hl;have J:=hT.Ir.up x y hl;obtain⟨p,S⟩:∃p:Nat,U.getD x 0=p:=⟨(U.getD x 0).toNat,by omega⟩;rw[S,Int.toNat_natCast]at J⊢;have V:=hT.CO.kinds p (by omega);have B:=AiY _ _ (AH _) _ V (DM L (x:Int)) (List.mem_map.2 ⟨_,J,rfl⟩);rw[show DM L (x:Int)=(L.getD x Ab.none).kind by unfold DM;rw[Int.toNat_natCast]]at B;rcases Aja B hi with r|r
  ·exact .here p r
  ·have z:0<p:=by
    rcases Nat.eq_zero_or_pos p with h|h
    ·subst h;unfold inner at r;rw[hT.CO.root]at r;omega
    ·exact h
   obtain⟨Y,W⟩:=hT.Ir.lo p z (by omega);exact .up p Y W (K p (by omega) (by omega) r)
theorem Aqr (L:Ac) (U:Af):∀(n x top:Nat),x<=n->C8 L U x top<=max x top:=by
 intro n
 induction n with
 |zero=>
  intro x top y;obtain rfl:x=0:=by omega
  rw[C8,dif_neg (by omega)];split<;>omega
 |succ n r=>
  intro x top y;rw[C8];split
  ·rename_i h;have:=r (U.getD x 0).toNat (if Eh (L.getD x Ab.none).kind then x else top) (by omega);split at this<;>rename_i z<;>simp only[z,if_true,if_false,Bool.false_eq_true]<;>omega
  ·split<;>omega
theorem Aqp {L:Ac} {U:Af} {x:Nat} (h:V6 L U x):∀top,C8 L U x top<=x:=by
 induction h with
 |here x h=>
  intro top;rw[C8];split
  ·rename_i g;have:=Aqr L U _ (U.getD x 0).toNat (if Eh (L.getD x Ab.none).kind then x else top) (AH _)
   first
    |(simp only[h,if_true]at this⊢;omega)
    |(rw[As h]at this;omega)
  ·first
    |exact AH _
    |(simp only[h,if_true];exact AH _)
 |up x z y _ r=>intro top;rw[C8,dif_pos ⟨z,y⟩];have:=r (if Eh (L.getD x Ab.none).kind then x else top);omega
theorem Aqq {L:Ac} {U:Af} (hT:TU L U) {a:Nat} (y:a<L.length) (x:(L.getD a Ab.none).kind=36):C8 L U a a<a:=by
 have r:0<a:=by
  rcases Nat.eq_zero_or_pos a with h|h
  ·subst h;rw[hT.CO.root]at x;cases x
  ·exact h
 obtain⟨B,z⟩:=hT.Ir.lo a r y;have hc:=Ag5 hT a a (AH _) y (by unfold inner;omega);rw[C8,dif_pos ⟨B,z⟩];have:=Aqp hc (if Eh (L.getD a Ab.none).kind then a else a);omega
theorem Aqs {L:Ac} {U:Af} {y top:Nat} (h:U.getD y 0= -1\/0<=U.getD y 0/\U.getD y 0<y):C8 L U y top=VU L U (U.getD y 0) (if Eh (L.getD y Ab.none).kind then y else top):=by
 rw[C8];unfold VU;rcases h with h|h
 ·have r:U.getD y 0<0:=by omega
  rw[dif_neg (by omega)];simp only[r,if_true]
 ·have r:¬U.getD y 0<0:=by omega
  rw[dif_pos h];simp only[r,if_false]
theorem Ahg:∀(m n:Nat) (s:Aj),n<=m->(M7 n s).length<=n+s.length:=by
 intro m
 induction m with
 |zero=>
  intro n s h;obtain rfl:n=0:=by omega
  rw[M7];simp
 |succ m r=>
  intro n s h;rw[M7];split
  ·omega
  ·have:=r (n/10) (UInt8.ofNat (48+n %10)::s) (by omega);simp only[Dn]at this;omega
theorem zg (n:Nat):(L7 n).length<=n+1:=by
 unfold L7;split
 ·simp
 ·have:=Ahg n n [] (AH _);simp at this;omega
theorem AjQ {L:Ac} {U:Af} (hT:TU L U) (r:Hn L):∀(n a:Nat),a<=n->a<L.length->(FP L U a).length<=(a+1)*3000000:=by
 intro n
 induction n with
 |zero=>
  intro a B z;have y:=r.text a;have hy:=r.text (U.getD a 0).toNat;rw[FP];split
  ·have:(UF (L.getD a Ab.none).n).length<=7:=by unfold UF;(repeat' split)<;>simp
   simp only[E6,Dn,List.length_nil];omega
  ·split
   ·simp;omega
   ·split
    ·split
     ·omega
     ·simp
    ·omega
 |succ n x=>
  intro a B z;have y:=r.text a;have hy:=r.text (U.getD a 0).toNat;have hl:=hT.len;rw[FP];split
  ·have:(UF (L.getD a Ab.none).n).length<=7:=by unfold UF;(repeat' split)<;>simp
   simp only[E6,Dn,List.length_nil];omega
  ·split
   ·simp;omega
   ·split
    ·split
     ·rename_i h;have S:=x (C8 L U a a) (by omega) (by omega);have R:=zg (BN L 36 (a+1)-BN L 36 (C8 L U a a));have K:=count_le L 36 (a+1);have J:(C8 L U a a+1)*3000000<=a*3000000:=Nat.mul_le_mul_right _ (by omega);simp only[E6,Dn,List.length_nil];omega
     ·simp
    ·omega
@[reducible] def ZS:Ac->Af->Nat->Prop:=λ(L:Ac) (U:Af) (a:Nat)=>HA L/\(DN U)/\(Fj a)/\Cm/\(0=0/\0=0)/\Fh/\True
@[reducible] def ly:Ac->Af->Nat->Int×Nat->Prop:=λ(L:Ac) (U:Af) (a:Nat) (r:Int×Nat)=>HA L/\(DN U)/\(Fj a)/\Cm/\(0=0/\0=0)/\Fh/\(Fj r.2)/\True
@[reducible] def lz:Ac->Af->Nat->Int×Nat->Nat->Nat->Prop:=λ(L:Ac) (U:Af) (a:Nat) (y:Int×Nat) (x r:Nat)=>(Cb x r)/\ly L U a y
def IP:=((True/\True/\True/\True/\True/\True)/\True)
def NH (a:Ac) (b:Af) (c:Nat):=(↑(BN a (36:Int) (C8 a b c c)):Int)
def NM (a:Ac) (b:Nat):=(↑(BN a (36:Int) b):Int)
def NN (a:Af):=Dy a.length (Aq a)
theorem AnI:∀(N:Nat) (L:Ac) (U:Af) (a:Nat),TU L U->Hn L->AD a L.length->AD a (N+1)->C6 a L (Ag (Ch L a (9:Int)) (Ez a U (ME U a L (Ap (decide (List.length (Ab.text (getD L (toNat (getD U (toNat (↑a:Int)) (0:Int))) Ab.none))+1<=9223372036854775807)) (Ag (Au (Ab.n (CA L a)) (3:Int)) (Ap (decide (List.length (Ab.text (getD L (toNat (getD U (toNat (↑a:Int)) (0:Int))) Ab.none)++[(46:UInt8)])+7<=9223372036854775807)) ((IP/\True)/\Ab.text (J4 L U a)++[(46:UInt8)]++[(100:UInt8),101,115,116,114,111,121]=FP L U a)) (Ag (Au (Ab.n (CA L a)) (2:Int)) (Ap (decide (List.length (Ab.text (getD L (toNat (getD U (toNat (↑a:Int)) (0:Int))) Ab.none)++[(46:UInt8)])+4<=9223372036854775807)) ((IP/\True)/\Ab.text (J4 L U a)++[(46:UInt8)]++[(115:UInt8),116,111,112]=FP L U a)) (Ag (Au (Ab.n (CA L a)) (1:Int)) (Ap (decide (List.length (Ab.text (getD L (toNat (getD U (toNat (↑a:Int)) (0:Int))) Ab.none)++[(46:UInt8)])+5<=9223372036854775807)) ((IP/\True)/\Ab.text (J4 L U a)++[(46:UInt8)]++[(115:UInt8),116,97,114,116]=FP L U a)) (Ap (Au (Ab.n (CA L a)) (0:Int)) (Ap (decide (List.length (Ab.text (getD L (toNat (getD U (toNat (↑a:Int)) (0:Int))) Ab.none)++[(46:UInt8)])+6<=9223372036854775807)) ((IP/\True)/\Ab.text (J4 L U a)++[(46:UInt8)]++[(99:UInt8),114,101,97,116,101]=FP L U a))))))))) (Ag (Ch L a (11:Int)) ([(109:UInt8),97,105,110]=FP L U a) (Ag (Ch L a (36:Int)) ((∃(Y:Int×Nat),TI L U a Y/\Aa/\((Aa/\(↑a:Int)=Y.1)/\(KP a Y.2)/\ZS L U a)/\NP L a)/\∀(x:Int×Nat),TI L U a x->IU x.1 (IY x.1 L (True/\Ag (Ay (Eh (ET L x.1))) (H3 x.1 U (∃(B:Int×Nat),TI L U a B/\SJ B.1 x.1/\Aa/\((Aa/\FD U x.1=B.1)/\(Aa/\x.1=(↑B.2:Int))/\ZS L U a)/\NP L a)) (H3 x.1 U (∃(B:Int×Nat),TI L U a B/\SJ B.1 x.1/\Aa/\((Aa/\FD U x.1=B.1)/\(KP x.2 B.2)/\ZS L U a)/\NP L a)))) ((∃(Y:Nat),NI L a (C8 L U a a) Y/\Aa/\((Aa/\(0:Int)=(NM L Y)-(NH L U a))/\(KP x.2 Y)/\ly L U a x)/\NP L a)/\∀(r:Nat),NI L a (C8 L U a a) r->Ag (!AP (↑a:Int) (↑r:Int)) (C6 r L (Ag (Ch L r (36:Int)) (Ap (Bf .i64 ((NM L r)-(NH L U a)+1)) (Bj r (∃(B:Nat),NI L a (C8 L U a a) B/\Nat.le (Nat.succ (a+1-B)) (a+1-r)/\Aa/\((Aa/\(NM L r)-(NH L U a)+1=(NM L B)-(NH L U a))/\lz L U a x r B)/\NP L a))) (Bj r (∃(B:Nat),NI L a (C8 L U a a) B/\Nat.le (Nat.succ (a+1-B)) (a+1-r)/\Aa/\((Aa/\(NM L r)-(NH L U a)=(NM L B)-(NH L U a))/\lz L U a x r B)/\NP L a)))) ((∃(S:Ac),∃(ab:Af),L.length=S.length/\AE L=AE S/\U.length=ab.length/\Aq U=Aq ab/\TU S ab/\Hn S/\Jx x.2/\Int.NonNeg ((CH S)-(IW x.2))/\Nat.le (Nat.succ (B8 x.2)) N)/\Ap (decide (List.length (AF (FP (H4 L.length (AE L)) (Dy U.length (Aq U)) (toNat (↑x.2:Int))))+1<=9223372036854775807)) ((Int.NonNeg ((NM L r)-(NH L U a)-0)/\Int.NonNeg ((1000000000:Int)-((NM L r)-(NH L U a))))/\Ap (decide (List.length (AF (FP (H4 L.length (AE L)) (Dy U.length (Aq U)) (toNat (↑x.2:Int)))++[(46:UInt8)])+List.length (AF (L7 (toNat ((↑(BN L (36:Int) r):Int)-(↑(BN L (36:Int) (C8 L U a a)):Int)))))<=9223372036854775807)) (AF (FP (Dk L) (NN U) (B8 x.2))++[(46:UInt8)]++AF (L7 (toNat ((NM L r)-(NH L U a))))=FP L U a))))) (Im L a=FP L U a))))
:=by
 delta CA AD Dm Bj B8 Ll Ch Dk J4 IP FD C6 Ez CH NH ET NM NN H3 Jx IU SJ KP IY NP ME Im IW;intro N L U a hT hL ha hN;have ha:a<L.length:=ha;have hN:a<N+1:=hN;have hl:=hT.len;have av:=hT.Ir.len;have hx:=hL.text a;have hy:=hL.text (U.getD a 0).toNat;have aa:=hT.CO.head a ha;simp only[Bq,Iy,Rd,ZS,ly,lz,l7,AD,Bc,Cl,Hg,Dl,DN,Cm,Fh,Fj,HA,Cb,CA,Ec,Vr,Yt];simp only[DY,EC];have an:AO (a:Int) L.length=true:=AK.2 (by omega);have ae:∀y:Nat,y<L.length->U.getD y 0= -1\/0<=U.getD y 0/\U.getD y 0<y:=λy hy=>by
  rcases Nat.eq_zero_or_pos y with h|h
  ·subst h;exact .inl hT.Ir.zero
  ·exact .inr (hT.Ir.lo y h hy)
 refine Am an (Ao (λR=>?_) λR=>Ao (λJ=>?_) λJ=>Ao (λK=>?_) λK=>?_)
 ·rw[Ba]at R;have ak:0<a:=by
   rcases Nat.eq_zero_or_pos a with h|h
   ·subst h;rw[hT.CO.root]at R;cases R
   ·exact h
  obtain⟨g1,g2⟩:=hT.Ir.lo a ak ha;have hn:0<=(L.getD a Ab.none).n/\(L.getD a Ab.none).n<=3:=by unfold JQ IF at aa;rw[As R,B4,B4,Bn,Bn]at aa;exact aa.2.2
  have hv:FP L U a=(L.getD (U.getD a 0).toNat Ab.none).text++[46]++UF (L.getD a Ab.none).n:=by rw[FP,As R]
  rw[hv];have hd:∀k:Nat,k<=10->decide (((L.getD (U.getD a 0).toNat Ab.none).text++[46]).length+k<=9223372036854775807)=true:=λk hk=>BF (by rw[E6,List.length_singleton];omega);refine Am (AK.2 (by omega)) (Am (AK.2 (by omega)) (Am (BF (by omega)) (Ao (λh=>Am (hd 7 (by omega)) ?_) λh3=>Ao (λh=>Am (hd 4 (by omega)) ?_) λZ=>Ao (λh=>Am (hd 5 (by omega)) ?_) λV=>?_)))
  ·rw[Ba]at h;rw[h];rfl
  ·rw[Ba]at h;rw[h];rfl
  ·rw[Ba]at h;rw[h];rfl
  ·rw[BB]at V Z h3;have h0:(L.getD a Ab.none).n=0:=by omega
   refine Am (Ba.2 h0) (Am (hd 6 (by omega)) ?_);rw[h0];rfl
 ·rw[BB]at R;rw[Ba]at J;rw[FP,An R,As J]
 ·rw[BB]at R J;rw[Ba]at K;have af:=Aqq hT ha K;refine⟨⟨((a:Int),a),⟨by simp only;omega,by simp,AH _,by unfold VU;rw[An (by simp only;omega),Int.toNat_natCast]⟩,rfl,rfl⟩,λx hx=>Ao (λh=>?_) λh=>?_⟩
  ·obtain⟨x,top⟩:=x;have ai:=hx.hi;have W:=hx.top;have z:=hx.eq;simp only at ai W z h⊢;rw[BZ,Bl]at h;obtain⟨y,rfl⟩:∃y:Nat,x=y:=⟨x.toNat,by omega⟩;rw[Int.toNat_natCast];have ag:=Aqs (L:=L) (top:=top) (ae y (by omega));unfold VU at z;rw[An (by omega),Int.toNat_natCast,ag]at z;have hu:=ae y (by omega);refine Am (AK.2 (by omega)) (Ao (λV=>Am (AK.2 (by omega)) ⟨(U.getD y 0,y),⟨by simp only;omega,by simp only;omega,by simp only;omega,?_⟩,by simp only;omega,rfl,rfl⟩) λV=>Am (AK.2 (by omega)) ⟨(U.getD y 0,top),⟨by simp only;omega,by simp only;omega,W,?_⟩,by simp only;omega,rfl,rfl⟩)
   ·rw[As V]at z;exact z
   ·rw[An (by rw[V];simp)]at z;exact z
  ·obtain⟨x,top⟩:=x;have z:=hx.eq;simp only at z h⊢;rw[BI,Bd]at h;unfold VU at z;rw[As h]at z;subst z;have ad:∀i:Nat,C8 L U a a<=i->BN L 36 (C8 L U a a)<=BN L 36 i:=λi hi=>ow L 36 hi;refine⟨⟨C8 L U a a,⟨AH _,by omega⟩,by omega,rfl⟩,λi hi=>Ao (λV=>?_) λV=>?_⟩
   ·rw[BZ,Bl]at V;have ah:=hi.lo;have hc:=count_le L 36 i;have aj:=ad i ah;refine Am (AK.2 (by omega)) (Ao (λZ=>Am (AU.2 (by omega)) (Am (AU.2 (by omega)) ⟨i+1,⟨by omega,by omega⟩,by omega,?_,by omega⟩)) λZ=>Am (AU.2 (by omega)) ⟨i+1,⟨by omega,by omega⟩,by omega,?_,by omega⟩)
    ·rw[Ba]at Z;rw[BN,As Z];omega
    ·rw[BB]at Z;rw[BN,An Z];omega
   ·rw[BI,Bd]at V;have ar:=hi.hi;obtain rfl:i=a+1:=by omega
    have hc:=count_le L 36 (a+1);have aj:=ad (a+1) (by omega);have aq:=AjQ hT hL _ (C8 L U a a) (AH _) (by omega);have ao:(C8 L U a a+1)*3000000<=1000000*3000000:=Nat.mul_le_mul_right _ (by omega);have au:=zg (BN L 36 (a+1)-BN L 36 (C8 L U a a));have ht:((BN L 36 (a+1):Int)-(BN L 36 (C8 L U a a):Int)).toNat=BN L 36 (a+1)-BN L 36 (C8 L U a a):=by omega
    rw[ht];refine⟨⟨L,U,rfl,rfl,rfl,rfl,hT,hL,(show(0:Int)<=(C8 L U a a:Int) by omega),(show(C8 L U a a:Int)<(L.length:Int) by omega),(show C8 L U a a<N by omega)⟩,Am (BF (by omega)) ⟨⟨(show(0:Int)<=(BN L 36 (a+1):Int)-(BN L 36 (C8 L U a a):Int) by omega),(show(BN L 36 (a+1):Int)-(BN L 36 (C8 L U a a):Int)<=1000000000 by omega)⟩,Am (BF (by rw[E6,List.length_singleton];omega)) ?_⟩⟩
    conv=>rhs;rw[FP,An R,An J,As K,dif_pos af]
 ·rw[BB]at R J K;rw[FP,An R,An J,An K]
theorem AnH:∀(N:Nat) (L:Ac) (U:Af) (a:Nat),TU L U->Hn L->a<L.length->a<N+1->(A3 (zO N L U a) 60).call 40 [tree L,.vec 1 U.length (Aq U),.int .i64 a] .leaf 0 (BS Tryz.prog false (.bs (FP L U a))):=Eq.mpr (by kernel_rfl) AnI
end Go.Proofs.YthallodoidghoaaGreat
end
end
