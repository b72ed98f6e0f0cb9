/- Laid by program out of its parts: PaX, PaY, PcMs, PcK, PfA, PfB. -/
import Derived.Test.YtlmmbanfhjaioaaGreatDoorPb5
import Derived.Test.YtlmmbanfhjaioaaGreatDoorPa3
import Derived.Test.YtlmmbanfhjaioaaGreatDoorPe0
noncomputable section
set_option linter.unusedVariables false
set_option linter.unusedSimpArgs false
section
set_option maxRecDepth 100000
set_option maxHeartbeats 2000000
open Go Go.Ev
namespace Go.Proofs.YtlmmbanfhjaioaaGreatDoor
def Aoi (p:Nat) (L:List TK) (I:List PT×RS->Prop) (ks:List Nat) (q:Nat):CV:={X:=List PT×RS,T:=λs _ x=>(q,.AJ s.nx x.1.length 1)::MV s ks,H:=λs n0 x=>(s.nx,Gg (Ba x.1))::(p,Bm (vK L) x.2)::TC s [p],nx:=λs _=>s.nx+1,I:=λs x=>I x,m:=λx=>Cn L x.2}
def mE:Da:=λH nx args=>match args with
 | [.int .i64 k,x,.int .i64 n,.agg [.int .i64 a,y,.int .i64 c,.int .i64 d,.int .i64 e],w]=>ob (JK y) λb=>ZO H nx [.int .i64 k,x,.int .i64 n,.agg [.int .i64 a,.bs b,.int .i64 c,.int .i64 d,.int .i64 e],w]
 |_=>none
theorem AiX:AD Tryz.prog 37 mE:=by
 intro H nx args hc q p v up nx' B E F ρ w r;unfold mE at q;split at q
 ·rename_i k x n a y c d e ws;obtain⟨b,hb,q⟩:=Ae.1 q;have C:=AaJ H nx _ hc q p v up nx' B E F ρ w r;exact⟨C.1,λvs At=>C.2 vs (Ik (Kf _) (Ik (Kf _) (Ik (Kf _) (Ik (AoS (Ik (Kf _) (Ik (RV hb) (Ik (Kf _) (Ik (Kf _) (Ik (Kf _) Vi)))))) (Ik (Kf _) Vi)))) ρ vs At)⟩
 ·cases q
def wH (n:Nat) (D:List TK->PF) (h:E9 36 n D) (L:List TK):Ctx:={P:=Tryz.prog,tb:=[],ht:=(37,mE)::Tw 36 n D,Am:=BN AiX (Wy h),lp:=λf r=>cond (Nat.beq f 18) (cond (Nat.beq r 3) (some (Aoi (4+1) L (λx=>Kj L (GQ D L) (Ln D L Ef) 0 4 Ef x) [0,2,3,4] 5)) none) none,cut:=λ_ _=>none}
@[reducible] def iy:List TK->Prop:=λ(L:List TK)=>Aa/\Ab L.length/\Au λ(i:Nat)=>AM i L.length->(Aa/\Ab (TK.kind (List.getD L i TK.zero)))/\Ab (TK.text (List.getD L i TK.zero))/\(Aa/\Ab (TK.num (List.getD L i TK.zero)))/\(Aa/\Ab (TK.line (List.getD L i TK.zero)))/\(Aa/\Ab (TK.Ag (List.getD L i TK.zero)))/\True
@[reducible] def YF:List TK->Prop:=λ(L:List TK)=>True/\iy L
@[reducible] def iz:List TK->Prop:=λ(L:List TK)=>iy L/\HI/\True/\Jc/\True
@[reducible] def tn:List TK->PT×RS->List PT×RS->Prop:=λ(L:List TK) (t:PT×RS) (a:List PT×RS)=>(A8/\((Ab (AV.agg [BX,BX,AV.int .i64 (RS.err a.2)])/\True)/\True)/\True)/\(Rx t=0/\True)/\(Aa/\1=RG L t.2/\Au λ(i:Nat)=>AM i 1->(Aa/\(0:Int)=Dg.line (Mf L t.2 i))/\(Aa/\(0:Int)=Dg.Ag (Mf L t.2 i))/\(Aa/\RS.err a.2=Dg.err (Mf L t.2 i))/\True)/\True
def Xv (a:List TK) (b:RS):=List.getD a (Int.toNat (RS.Bp b)) TK.zero
@[reducible] def tp:List TK->PT×RS->List PT×RS->Prop:=λ(L:List TK) (t:PT×RS) (a:List PT×RS)=>(A8/\((Ab (AV.agg [AV.int .i64 (TK.line (Xv L a.2)),AV.int .i64 (TK.Ag (Xv L a.2)),AV.int .i64 (RS.err a.2)])/\True)/\True)/\True)/\(Rx t=0/\True)/\(Aa/\1=RG L t.2/\Au λ(i:Nat)=>AM i 1->(Aa/\TK.line (Xv L a.2)=Dg.line (Mf L t.2 i))/\(Aa/\TK.Ag (Xv L a.2)=Dg.Ag (Mf L t.2 i))/\(Aa/\RS.err a.2=Dg.err (Mf L t.2 i))/\True)/\True
def dK (a:List PT×RS) (b:List PT):=A3 (1:Int) [] (0:Int) (TK.mk (0:Int) [] (0:Int) (1:Int) (1:Int)) (B6 a.1.length λ(q:Nat)=>F9 (EJ (Ba b) q))
def Oh (a:List PT×RS) (b:List PT) (c:Nat):=List.getD (dK a b) c LT.none
@[reducible] def tq:List TK->PT×RS->List PT×RS->Prop:=λ(L:List TK) (t:PT×RS) (a:List PT×RS)=>(Nat.blt 6 8=true/\(M9 a a.1)/\BM a.1.length λ(i:Nat)=>F9 (HM a.1 i))/\((Aa/\List.length (dK a a.1)=Rx t/\Au λ(i:Nat)=>AM i (List.length (dK a a.1))->(Aa/\LT.kind (Oh a a.1 i)=LT.kind (Ja t i))/\LT.text (Oh a a.1 i)=LT.text (Ja t i)/\(Aa/\LT.n (Oh a a.1 i)=LT.n (Ja t i))/\(Aa/\LT.line (Oh a a.1 i)=LT.line (Ja t i))/\(Aa/\LT.Ag (Oh a a.1 i)=LT.Ag (Ja t i))/\(Aa/\List.length (LT.kids (Oh a a.1 i))=List.length (LT.kids (Ja t i))/\Au λ(q:Nat)=>AM q (List.length (LT.kids (Oh a a.1 i)))->(Aa/\List.getD (LT.kids (Oh a a.1 i)) q (0:Int)=List.getD (LT.kids (Ja t i)) q (0:Int))/\True)/\True)/\True)/\RG L t.2=0/\True
def pd (a:RS) (b:List TK) (c:PT×RS) (d:List PT×RS):=AO a (tq b c d) (Ad (AP (RS.Bp a) (Int.ofNat b.length)) (Ap (Bn (RS.Bp a) b.length) (Ap (Bn (RS.Bp a) b.length) (tp b c d))) (tn b c d))
def eP (a:List TK) (b:List TK->PF):=Kj a (GQ b a) (Ln b a Ef) (0:Int) (4:Int) Ef
theorem Amc:∀(L:List TK) (n:Nat) (D:List TK->PF),E9 (36:FuncId) n D->∀(t:PT×RS),Nat.le L.length 100000->Nat.le (Nat.succ L.length) n->(∀(L:List TK) (s:RS),Av L n s->Cf L (3:Int) (4:Int) s (D L s))->(∀(s:RS),Mv L s (Prod.snd (D L s)))->t=Ph D L Ef->(∃(E:List PT×RS),eP L D E/\Aa/\(E.1.length=0/\iz L)/\(Aa/\True)/\(Aa/\Aa/\Aa/\Aa/\(((YF L/\Aa/\(0:Int)=RS.at_ E.2)/\Aa/\(0:Int)=RS.nest E.2)/\Aa/\(0:Int)=RS.err E.2)/\Aa/\(0:Int)=RS.Bp E.2)/\Fy/\(Aa/\Aa/\Aa/\Aa/\True/\True)/\True)/\∀(x:List PT×RS),eP L D x->AO x.2 (Ad (AP (RS.at_ x.2) (Int.ofNat L.length)) (((PK L n x.2)/\Aa/\Aa/\(Jc/\True)/\(Aa/\Aa/\Aa/\(((YF L/\Aa/\Ab (RS.at_ x.2))/\Aa/\Ab (RS.nest x.2))/\Aa/\Ab (RS.err x.2))/\Aa/\Ho x.2)/\True)/\∀(y:PT×RS),y=DI D L x.2->Q7 x x.1 (∃(C:List PT×RS),eP L D C/\DX L C.2 x.2/\Aa/\((Ab (some 9)/\x.1.length+1=C.1.length/\Aa)/\iz L)/\(Aa/\Aa/\Aa/\Aa/\(Fh x)*1=Ng C.1/\Au λ(i:Nat)=>B8 i ((Fh x)*1)->AH [(5,5),(4,4),(6,9),(0,0),(1,1),(2,2),(3,3)] (HM C.1 i) (B0 x.1.length (HM x.1) (λ(x:Nat)=>[vW (flat y.1)]) i))/\(Aa/\Aa/\Aa/\Aa/\(((YF L/\Aa/\RS.at_ y.2=RS.at_ C.2)/\Aa/\RS.nest y.2=RS.nest C.2)/\Aa/\RS.err y.2=RS.err C.2)/\Aa/\RS.Bp y.2=RS.Bp C.2)/\Fy/\(Aa/\Aa/\Aa/\Aa/\True/\True)/\True)) (pd x.2 L t x)) (pd x.2 L t x)
:=by
 delta AO B8 DX Q7 Fy Jc Fh pd HM Ng PK eP Ho DI;intro L n D Am t U hn hD Z ht;simp only[A9,iy,YF,iz,tn,tp,tq,AM,HI,Jc,A8,BX,Mf,Rx,RG,Xv,dK,M9,Ja,HM,Oh];simp only[Dz];have U:L.length<=100000:=U;have hn:L.length<n:=hn;have O:=fh U;have Y:Ef.err=0->Av L n Ef:=λ_=>⟨O.ok,by decide,by show(L.length:Int)-0<n;omega⟩;refine⟨⟨([],Ef),⟨⟨B7 L,Kz O.ok,rfl⟩,M3 O.ok (by decide)⟩,rfl,⟨⟨rfl,rfl⟩,rfl⟩,rfl⟩,λx M=>?_⟩;obtain⟨⟨k,hk,B⟩,V⟩:=M;have bx:=V.DU O.ok (by decide);have aa:=Kx x.1;cases k with
 |zero=>omega
 |succ k=>
 unfold GQ at B;have fin:¬(x.2.err=0/\x.2.at_<L.length)->Ln D L Ef=x:=λh=>by rw[if_neg h]at B;exact B.symm
 refine Aj (λJ=>Aj (λR=>?_) λR=>?_) λJ=>?_
 ·rw[BL]at J;rw[B1]at R;obtain⟨d0,d1,d2⟩:=OM (by decide) hD (l:=x.1) (s:=x.2) V Y J;rw[if_pos ⟨J,R⟩]at B;refine⟨AN d0,λy hy=>?_⟩;subst hy;exact An (bL (by rw[Lb];exact Nat.le_refl _) (by omega)) ⟨(x.1++[(D L x.2).1],(D L x.2).2),⟨⟨k,by show Cn L (D L x.2).2<k;omega,B⟩,d1⟩,d2,by rw[List.length_append,List.length_singleton],eh x.1 _ rfl,⟨⟨rfl,rfl⟩,rfl⟩,rfl⟩
 all_goals
  have K:¬(x.2.err=0/\x.2.at_<L.length):=by
   first
    |exactλh=>by have:=Cg.1 R;omega
    |exactλh=>BU.1 J h.1
  have M:=fin K;have mv:Mv L Ef x.2:=by have:=zz Z (B7 L) [] Ef;rwa[show GQ D L (B7 L) [] Ef=x from M]at this
  obtain rfl:t=(nd 1 [] 0 Vd x.1,x.2):=by rw[ht];unfold Ph;rw[M]
  refine Aj (λe=>?_) λe=>?_
  ·have e:x.2.err=0:=BL.1 e;obtain⟨h1,h2,h3⟩:=tkN (show CS x.1<=1000000 by omega);have S:EU (nd 1 [] 0 Vd x.1,x.2)=A3 1 [] 0 ⟨0,[],0,1,1⟩ (B6 x.1.length λi=>F9 (EJ (Ba x.1) i)):=by unfold EU;rw[if_pos e,h3];exact NL _ _ _ _ _
   have hd:FV L x.2=[]:=by unfold FV;rw[if_pos e]
   rw[S,hd];exact⟨⟨by decide,⟨by rw[Lb];exact Nat.le_refl _,h1⟩,h2⟩,⟨rfl,⟨λi _=>⟨rfl,rfl,rfl,rfl,rfl,rfl,⟨λj _=>rfl⟩⟩⟩⟩,rfl⟩
  ·have e:x.2.err≠0:=BU.1 e;have W:0<=x.2.Bp:=mv.w rfl e;have S:EU (nd 1 [] 0 Vd x.1,x.2)=[]:=by unfold EU;rw[if_neg e]
   have hd:FV L x.2=[⟨Ep L x.2,El L x.2,x.2.err⟩]:=by unfold FV;rw[if_neg e]
   rw[S,hd];refine Aj (λq=>?_) λq=>?_
   ·have q:=B1.1 q;refine An (BJ.2 ⟨W,q⟩) (An (BJ.2 ⟨W,q⟩) ⟨rfl,rfl,⟨λi hi=>?_⟩⟩);obtain rfl:i=0:=by omega
    exact⟨by show _=Ep L x.2;unfold Ep;rw[if_pos q],by show _=El L x.2;unfold El;rw[if_pos q],rfl⟩
   ·have q:=Cg.1 q;refine⟨rfl,rfl,⟨λi hi=>?_⟩⟩;obtain rfl:i=0:=by omega
    exact⟨by show _=Ep L x.2;unfold Ep;rw[if_neg (by omega)],by show _=El L x.2;unfold El;rw[if_neg (by omega)],rfl⟩
theorem Amb:∀(L:List TK) (n:Nat) (D:List TK->PF) (Am:E9 36 n D) (t:PT×RS),L.length<=100000->L.length<n->GF n 3 4 D->MF L (D L)->t=Ph D L Ef->(AG (wH n D Am L) 60).call 18 [vK L] (AU Cm) 4 (Ch Tryz.prog false (sv L t)):=Eq.mpr (by kernel_rfl) Amc
theorem Ah1 (n:Nat):AD Tryz.prog 36 (sF n (Gp (lv n).b)):=AhY ⟨(z3 n).hb⟩ (TH n).b
theorem Aiz:Ci Tryz.prog 18 Tb:=by
 refine ZQ (gl:=Cm) (ng:=4) NN λH args ct q=>?_;unfold Tb at q;split at q
 ·rename_i n f;cases y:DM H with
  |false=>rw[y]at q;cases q
  |true=>
   rw[y]at q;injection q with q;refine⟨Wt H y,_,_,q.symm,λB=>⟨[vK (CF n f)],Ik (AcP B.f) Vi,⟨XY [] (CF n f) Ef,trivial⟩,?_⟩⟩;have C:(CF n f).length<=100000:=by rw[show(CF n f).length=n by simp[CF]];exact B.len
   refine⟨wH 100001 (Gp (lv 100001).b) ⟨Ah1 _⟩ (CF n f),60,rfl,AW,Bc,?_⟩;rw[Ve];exact Amb _ _ _ _ _ C (Nat.lt_succ_of_le C) (lN _) (zq (cZ _ _).b) rfl
 ·cases q
def Acr:DQ:=(17,lU)::(18,Tb)::[]
def wG:Ctx:={P:=Tryz.prog,tb:=Acr,lp:=λ_ _=>none,cut:=λ_ _=>none}
theorem Aoz:DP Tryz.prog Acr:=Cw AhF (Cw Aiz Bc)
theorem Ama:∀(l:List UInt8),Nat.le l.length 100000->LC l/\dL l
:=by
 delta dL LC;intro l B;simp only[A9];have B:l.length<=100000:=B;have C:=U6 l;rw[Abn,<-RZ];refine⟨by omega,Aj (λc=>?_) λc=>⟨Acx _ (by omega),?_⟩⟩
 ·have c:(Bk l).2.length≠0:=by have:=B1.1 c;omega
  have y:CX l=[]:=by unfold CX;rw[if_neg c]
  have q:Cd l=(Bk l).2:=by unfold Cd;rw[if_neg c]
  rw[y,q];exact⟨rfl,rfl,⟨λi _=>⟨rfl,rfl,rfl⟩⟩⟩
 ·have c:(Bk l).2.length=0:=by have:=Cg.1 c;omega
  have y:CX l=EU (FA (Jj l)):=by unfold CX;rw[if_pos c]
  have q:Cd l=FV (Jj l) (FA (Jj l)).2:=by unfold Cd;rw[if_pos c]
  rw[y,q];exact⟨⟨rfl,⟨λi _=>⟨rfl,rfl,rfl,rfl,rfl,rfl,⟨λj _=>rfl⟩⟩⟩⟩,rfl,⟨λi _=>⟨rfl,rfl,rfl⟩⟩⟩
theorem Al9:∀(l:List UInt8),l.length<=100000->(AG wG 60).call 7 [.bv l] (AU Cm) 4 (Ch Tryz.prog false (pK l)):=Eq.mpr (by kernel_rfl) Ama
theorem Aiy:Ci Tryz.prog 7 Qz:=by
 refine EN (gl:=Cm) (ng:=4) NN λH args ct q=>?_;unfold Qz at q;split at q
 ·rename_i l;cases y:DM H with
  |false=>rw[y]at q;cases q
  |true=>rw[y]at q;injection q with q;exact⟨QJ y,_,_,q.symm,λB=>⟨⟨rfl,trivial⟩,wG,60,rfl,AW,Aoz,Al9 l B⟩⟩
 ·cases q
theorem Aa0 {l:List UInt8} (h:Cd l≠[]):CX l=[]:=by
 unfold Cd at h;unfold CX;split
 ·rename_i c;rw[if_pos c]at h;unfold FV at h;unfold EU;split
  ·rename_i e;rw[if_pos e]at h;exact absurd rfl h
  ·rfl
 ·rfl
def AaZ (l:List UInt8):List Dg:=if(Bk l).2.length=0 then FV ((Bk l).1.map XV) (Nq 100001 ((Bk l).1.map XV) Ef).2 else(Bk l).2
theorem pL (l:List UInt8):Cd l=AaZ l:=by unfold Cd AaZ;rw[RZ,Ve]
def wb (a b:List Dg):Bool:=match a,b with
 | [],[]=>true
 | [x],[y]=>decide (x.line=y.line)&&(decide (x.Ag=y.Ag)&&decide (x.err=y.err))
 |_,_=>false
theorem mK {a b:List Dg} (h:wb a b=true):a=b:=by
 unfold wb at h;split at h
 ·rfl
 ·rename_i x y;cases x;cases y;simp only[Bool.and_eq_true,decide_eq_true_eq]at h;obtain⟨C,B,q⟩:=h;subst C;subst B;subst q;rfl
 ·cases h
structure uK (n:Nat) (f:Nat->List AV) (m:Nat) (g:Nat->List AV):Prop where
 d:∃D:List Dg,n=D.length/\m=D.length/\(f=λk=>EW (D.getD k d0))/\(g=λk=>EW (D.getD k d0))
def lz:Tr Ac->List AV->Option Ct:=λ_ args=>match args with
 | [.vec 3 n f,.vec 3 m g]=>some (.A6 (uK n f m g/\n<=1000000) (.ret (.bool true)))
 |_=>none
def lh:Tr Ac->List AV->Option Ct:=λH args=>match args with
 | []=>cond (DM H) (some (.A6 True (.ret (.bool true)))) none
 |_=>none
def SSd (D:List Dg):CV:=thin Nat [0,1] (λi=>[(5,.int .i64 i)]) (λ_ i=>i<=D.length) λi=>D.length-i
def wJ (D:List Dg):Ctx:={P:=Tryz.prog,tb:=[],lp:=λf r=>cond (Nat.beq f 8) (cond (Nat.beq r 4) (some (SSd D)) none) none,cut:=λ_ _=>none}
def Aco:DQ:=(6,Qz)::[]
def vn:Ctx:={P:=Tryz.prog,tb:=Aco,lp:=λ_ _=>none,cut:=λ_ _=>none}
theorem Aow:DP Tryz.prog Aco:=Cw AaI Bc
def k1:List UInt8:=[109,97,105,110,32,123,32,120,32,61,32,49,32,125]
def k2:List UInt8:=[109,97,105,110,32,123,32,53,32,61,32,49,59,32,125]
def k3:List UInt8:=[108,111,111,112,101,114]
theorem kn1:Cd k1=[⟨1,14,4⟩]:=by rw[pL];exact mK (by kernel_rfl)
theorem kn2:Cd k2=[⟨1,10,4⟩]:=by rw[pL];exact mK (by kernel_rfl)
theorem zB:Cd k3=[⟨0,0,4⟩]:=by rw[pL];exact mK (by kernel_rfl)
theorem AaO {l:List UInt8} {a b c:Int} {K X:Prop} (h:Cd l=[⟨a,b,c⟩]) (y:K):Ad (Ak ((CX l).length:Int) 0) (Ad (Ak ((Cd l).length:Int) 1) (Ap (Bn 0 (Cd l).length) (Ad (Ak ((Cd l).getD 0 d0).line a&&(Ak ((Cd l).getD 0 d0).Ag b&&Ak ((Cd l).getD 0 d0).err c)) K X)) X) X:=by
 have q:CX l=[]:=Aa0 (by rw[h];exactλe=>by cases e);rw[q,h];refine Aj (λ_=>Aj (λ_=>An (BJ.2 ⟨Int.le_refl 0,(by show(0:Int)<((1:Nat):Int);decide)⟩) (Aj (λ_=>y) λe=>?_)) λe=>?_) λe=>?_
 ·exfalso;have:(Ak a a&&(Ak b b&&Ak c c))=false:=e;rw[WA,WA,WA]at this;cases this
 ·exact absurd rfl (BU.1 e)
 ·exact absurd rfl (BU.1 e)
def Xj:=[(109:UInt8),97,105,110,32,123,32,53,32,61,32,49,59,32,125]
def Xk:=[(109:UInt8),97,105,110,32,123,32,120,32,61,32,49,32,125]
def eD:=List.getD (AY (Cd Lw)) 0 d0
def dv:=List.getD (AY (Cd Xk)) 0 d0
def dw:=List.getD (AY (Cd Xj)) 0 d0
theorem All:Nat.le 14 100000/\Ad (Ak (Int.ofNat (List.length (AY (CX Xk)))) (0:Int)) (Ad (Ak (Int.ofNat (List.length (AY (Cd Xk)))) (1:Int)) (Ap (Bn (0:Int) (List.length (AY (Cd Xk)))) (Ad (Ak (Dg.line (dv)) (1:Int)&&(Ak (Dg.Ag (dv)) (14:Int)&&(Ak (Dg.err (dv)) (4:Int)&&true))) (Nat.le 15 100000/\Ad (Ak (Int.ofNat (List.length (AY (CX Xj)))) (0:Int)) (Ad (Ak (Int.ofNat (List.length (AY (Cd Xj)))) (1:Int)) (Ap (Bn (0:Int) (List.length (AY (Cd Xj)))) (Ad (Ak (Dg.line (dw)) (1:Int)&&(Ak (Dg.Ag (dw)) (10:Int)&&(Ak (Dg.err (dw)) (4:Int)&&true))) (Nat.le 6 100000/\Ad (Ak (Int.ofNat (List.length (AY (CX Lw)))) (0:Int)) (Ad (Ak (Int.ofNat (List.length (AY (Cd Lw)))) (1:Int)) (Ap (Bn (0:Int) (List.length (AY (Cd Lw)))) ((Ak (Dg.line (eD)) (0:Int)&&(Ak (Dg.Ag (eD)) (0:Int)&&(Ak (Dg.err (eD)) (4:Int)&&true)))=true)) (false=true)) (false=true)) (false=true))) (false=true)) (false=true)) (false=true))) (false=true)) (false=true)
:=by delta Xj Xk Lw eD dv dw;simp only[A9];refine⟨by decide,AaO kn1 ⟨by decide,AaO kn2 ⟨by decide,?_⟩⟩⟩;have q:CX k3=[]:=Aa0 (by rw[zB];exactλe=>by cases e);show Ad (Ak ((CX k3).length:Int) 0) (Ad (Ak ((Cd k3).length:Int) 1) (Ap (Bn 0 (Cd k3).length) ((Ak ((Cd k3).getD 0 d0).line 0&&(Ak ((Cd k3).getD 0 d0).Ag 0&&Ak ((Cd k3).getD 0 d0).err 4))=true)) _) _;rw[q,zB];exact Aj (λ_=>Aj (λ_=>An (BJ.2 ⟨by decide,by decide⟩) (by decide)) λe=>absurd rfl (BU.1 e)) λe=>absurd rfl (BU.1 e)
theorem Alk:(AG vn 100).call 5 [] (AU Cm) 4 (Ch Tryz.prog false (.bool true)):=Eq.mpr (by kernel_rfl) All
theorem Aig:Ci Tryz.prog 5 lh:=by
 refine EN (gl:=Cm) (ng:=4) NN λH args ct q=>?_;unfold lh at q;split at q
 ·cases y:DM H with
  |false=>rw[y]at q;cases q
  |true=>rw[y]at q;injection q with q;exact⟨QJ y,_,_,q.symm,λB=>⟨trivial,vn,100,rfl,AW,Aow,Alk⟩⟩
 ·cases q
theorem AcX (q:List (Nat×Nat)) (D:List Dg):AR q (Qv D) (Qv D):=⟨rfl,rfl,⟨λi _=>ft q _⟩⟩
@[reducible] def jU:List Dg->Prop:=λ(D:List Dg)=>Aa/\Ab D.length/\Au λ(i:Nat)=>AM i D.length->(Aa/\Ab (Dg.line (List.getD D i d0)))/\(Aa/\Ab (Dg.Ag (List.getD D i d0)))/\(Aa/\Ab (Dg.err (List.getD D i d0)))/\True
@[reducible] def jV:List Dg->Prop:=λ(D:List Dg)=>jU D/\jU D/\True
def RJ (a:List Dg) (b:Nat):=List.getD a (CD b) d0
theorem Ame:∀(D:List Dg),Nat.le D.length 1000000->Ad (!Ak (Int.ofNat D.length) (Int.ofNat D.length)) (false=true) ((∃(y:Nat),Nat.le y D.length/\Aa/\((Fg y)/\jV D)/\True)/\∀(x:Nat),Nat.le x D.length->Ad (AP (↑x:Int) (Int.ofNat D.length)) (Ap (Bn (↑x:Int) D.length) (Ap (Bn (↑x:Int) D.length) ((BF/\True)/\Ad (!(Ak (Dg.line (RJ D x)) (Dg.line (RJ D x))&&(Ak (Dg.Ag (RJ D x)) (Dg.Ag (RJ D x))&&(Ak (Dg.err (RJ D x)) (Dg.err (RJ D x))&&true)))) (false=true) (DH x (∃(q:Nat),Nat.le q D.length/\Nat.le (Nat.succ (D.length-q)) (D.length-x)/\Aa/\((D6 x q)/\jV D)/\True))))) (Aa))
:=by delta CD BF DH D6 Fg RJ;intro D hD;simp only[A9,jU,jV,AM];have hD:D.length<=1000000:=hD;refine⟨⟨0,Nat.zero_le _,rfl⟩,λx B=>Aj (λc=>?_) λ_=>trivial⟩;have c:=B1.1 c;exact An (BJ.2 ⟨by omega,by omega⟩) (An (BJ.2 ⟨by omega,by omega⟩) (An (Be.2 (by omega)) ⟨x+1,by omega,by omega,rfl⟩))
theorem Amd:∀(D:List Dg),D.length<=1000000->(AG (wJ D) 60).call 8 [Qv D,Qv D] .leaf 0 (Ch Tryz.prog false (.bool true)):=Eq.mpr (by kernel_rfl) Ame
theorem AiA:Ci Tryz.prog 8 lz:=by
 refine EN (gl:=[]) (ng:=0) BQ λH args ct q=>?_;unfold lz at q;split at q
 ·rename_i n f m g;injection q with q;subst q;refine⟨BQ,_,_,rfl,λB=>?_⟩;obtain⟨⟨D,rfl,rfl,rfl,rfl⟩,y⟩:=B;exact⟨⟨AcX [] D,AcX [] D,trivial⟩,wJ D,60,rfl,AW,Bc,Amd D y⟩
 ·cases q
structure jv (n:Nat) (f:Nat->List AV) (m:Nat) (g:Nat->List AV):Prop where
 d:∃W:List LT,n=W.length/\m=W.length/\f=Bs W/\g=Bs W/\W.length<=1000000/\∀i,(W.getD i LT.none).kids.length<=1000000
def Ta:Tr Ac->List AV->Option Ct:=λ_ args=>match args with
 | [.agg [.vec 6 n f],.agg [.vec 6 m g]]=>some (.A6 (jv n f m g) (.ret (.bool true)))
 |_=>none
def SPl (W:List LT):CV:=thin Nat [0,1,2,3] (λi=>[(5,.int .i64 i)]) (λ_ i=>i<=W.length) λi=>W.length-i
def wE (W:List LT):Ctx:={P:=Tryz.prog,tb:=[],lp:=λf r=>cond (Nat.beq f 10) (cond (Nat.beq r 4) (some (SPl W)) none) none,cut:=λ_ _=>none}
def SSm (W:List LT):CV:=thin Nat [0,1,2,3] (λi=>[(5,.int .i64 i)]) (λ_ i=>i<=W.length) λi=>W.length-i
structure IK (W:List LT) (o:Option AV) (k:Nat):Prop where
 le:k<=1000000
 i:∀a,o=some (.int .i64 a)->k<=(W.getD a.toNat LT.none).kids.length
def SSk (W:List LT):CV:=thin Nat [0,1,2,3,5,6,7] (λk=>[(8,.int .i64 k)]) (λst k=>IK W (st.T.get 5) k) λk=>1000001-k
def wK (W:List LT):Ctx:={P:=Tryz.prog,tb:=[],lp:=λf r=>cond (Nat.beq f 9) (cond (Nat.beq r 4) (some (SSm W)) (cond (Nat.beq r 10) (some (SSk W)) none)) none,cut:=λ_ _=>none}
@[reducible] def YM:List LT->Prop:=λ(W:List LT)=>Aa/\Ab W.length/\Au λ(i:Nat)=>AM i W.length->(Aa/\Ab (LT.kind (Cx W i)))/\Ab (LT.text (Cx W i))/\(Aa/\Ab (LT.n (Cx W i)))/\(Aa/\Ab (LT.line (Cx W i)))/\(Aa/\Ab (LT.Ag (Cx W i)))/\(Ui W i)/\True
@[reducible] def SA:List LT->Prop:=λ(W:List LT)=>YM W/\True
@[reducible] def SB:List LT->Prop:=λ(W:List LT)=>Aa/\Aa/\Aa/\Aa/\True/\YM W
@[reducible] def jo:List LT->Nat->Prop:=λ(W:List LT) (a:Nat)=>Aa/\Aa/\Aa/\Aa/\(Xm W a)/\Aa/\Ab (HJ W a)/\Au λ(i:Nat)=>AM i (HJ W a)->(Xw W a i)/\True
@[reducible] def YN:List LT->Prop:=λ(W:List LT)=>SB W/\SB W/\True
@[reducible] def YO:List LT->Prop:=λ(W:List LT)=>SA W/\SA W/\Ay/\GH/\True
@[reducible] def jq:List LT->Nat->Prop:=λ(W:List LT) (a:Nat)=>SA W/\SA W/\Ay/\GH/\(J7 a)/\(Ab (some 12)/\Aa)/\(Ab (some 13)/\Aa)/\True
@[reducible] def jr:List LT->Nat->Prop:=λ(W:List LT) (a:Nat)=>SB W/\SB W/\jo W a/\jo W a/\True
def dg (a:Nat) (b:List LT):=DH a (∃(q:Nat),Nat.le q b.length/\Nat.le (Nat.succ (b.length-q)) (b.length-a)/\Aa/\((D6 a q)/\YO b)/\YN b)
def dy (a:List LT):=(∃(q:Nat),Nat.le q a.length/\Aa/\((Fg q)/\YO a)/\YN a)
def eX (a:Nat):=some (AV.int .i64 (↑a:Int))
theorem Amk:∀(W:List LT),Nat.le W.length 1000000->(∀(i:Nat),Nat.le (PL W i) 1000000)->Ad (!Ak (GG W) (GG W)) (false=true) ((dy W)/\∀(x:Nat),Nat.le x W.length->Ad (AP (↑x:Int) (GG W)) (Lz x W (Lz x W ((Hi/\Hi/\((Ab (AV.agg (List.take (N9 39) (Prod.snd (W.length,Bs W) (CD x))))/\Ab (AV.vec 6 W.length (Bs W))/\True/\True/\True)/\True)/\True)/\Ad (!Ak (IF W x) (IF W x)) (false=true) (Ad (!decide (Ab (LT.text (List.getD W (Int.toNat (↑x:Int)) LT.none)))) (false=true) (Ad (!Ak (LT.n (Ee W x)) (LT.n (Ee W x))) (false=true) (Ad (!Ak (Int.ofNat (HJ W x)) (Int.ofNat (HJ W x))) (false=true) ((∃(J:Nat),IK W (eX x) J/\Aa/\((Fg J)/\jq W x)/\jr W x)/\∀(y:Nat),IK W (eX x) y->Ad (HL y (Int.ofNat (HJ W x))) (Ap (GJ y (HJ W x)) (Ap (GJ y (HJ W x)) ((Hi/\True)/\Ad (!Ak (List.getD (LT.kids (Ee W x)) (CD y) (0:Int)) (List.getD (LT.kids (Ee W x)) (CD y) (0:Int))) (false=true) (DH y (∃(C:Nat),IK W (eX x) C/\Na C y/\Aa/\((D6 y C)/\jq W x)/\jr W x))))) (dg x W)))))))) (Aa))
:=by
 delta CD Ee Cx DH D6 Hi HJ Fg N9 Na GG Lz GJ IF dg HL PL dy eX;intro W hW E;simp only[A9,YM,SA,SB,jo,YN,YO,jq,jr,AM,Cx,Ui,CD,Ee,HJ,Xm,Xw,Ay,GH,J7];have hW:W.length<=1000000:=hW;have E:∀i,(W.getD i LT.none).kids.length<=1000000:=E;refine⟨⟨0,Nat.zero_le _,rfl⟩,λx L=>Aj (λc=>?_) λ_=>trivial⟩;have c:=B1.1 c;have b:Bn (x:Int) W.length=true:=BJ.2 ⟨by omega,by omega⟩;refine An b (An b ⟨⟨0,⟨Nat.zero_le _,λa _=>Nat.zero_le _⟩,rfl⟩,λk K=>?_⟩);have hi:=K.i x rfl;have M:=K.le;rw[Int.toNat_natCast]at hi;refine Aj (λq=>?_) λ_=>An (Be.2 (by omega)) ⟨x+1,by omega,by omega,rfl⟩;have q:=B1.1 q;have e:Bn (k:Int) (W.getD x LT.none).kids.length=true:=BJ.2 ⟨by omega,by omega⟩;refine An e (An e (An (Be.2 (by omega)) ⟨k+1,⟨?_,λa B=>?_⟩,by omega,rfl⟩))
 ·have:=E x;omega
 ·injection B with B;injection B with _ B;subst B;rw[Int.toNat_natCast];omega
theorem Amj:∀(W:List LT),W.length<=1000000->(∀i,(W.getD i LT.none).kids.length<=1000000)->(AG (wK W) 60).call 9 [tree W,tree W] .leaf 0 (Ch Tryz.prog false (.bool true)):=Eq.mpr (by kernel_rfl) Amk
theorem AlY:∀(W:List LT),Nat.le W.length 1000000->Ad (!Ak (GG W) (GG W)) (false=true) ((dy W)/\∀(x:Nat),Nat.le x W.length->Ad (AP (↑x:Int) (GG W)) (Lz x W (Lz x W (Ad (!Ak (LT.line (Ee W x)) (LT.line (Ee W x))) ((Hi/\True)/\false=true) (Lz x W (Lz x W ((((True/\True/\True/\True/\True/\True/\True/\True/\True)/\True)/\True)/\Ad (!Ak (LT.Ag (Ee W x)) (LT.Ag (Ee W x))) (false=true) (dg x W))))))) (Aa))
:=by delta CD Ee DH D6 Hi Fg GG Lz dg dy;intro W hW;simp only[A9,YM,SA,SB,YN,YO,AM,Cx,Ui,Ay,GH];have hW:W.length<=1000000:=hW;refine⟨⟨0,Nat.zero_le _,rfl⟩,λx q=>Aj (λc=>?_) λ_=>trivial⟩;have c:=B1.1 c;have b:Bn (x:Int) W.length=true:=BJ.2 ⟨by omega,by omega⟩;exact An b (An b (An b (An b (An (Be.2 (by omega)) ⟨x+1,by omega,by omega,rfl⟩))))
theorem AlX:∀(W:List LT),W.length<=1000000->(AG (wE W) 60).call 10 [tree W,tree W] .leaf 0 (Ch Tryz.prog false (.bool true)):=Eq.mpr (by kernel_rfl) AlY
theorem AiD:Ci Tryz.prog 9 Ta:=by
 refine EN (gl:=[]) (ng:=0) BQ λH args ct q=>?_;unfold Ta at q;split at q
 ·rename_i n f m g;injection q with q;subst q;refine⟨BQ,_,_,rfl,λy=>?_⟩;obtain⟨W,rfl,rfl,rfl,rfl,C,B⟩:=y.d;exact⟨⟨R5 W,R5 W,trivial⟩,wK W,60,rfl,AW,Bc,Amj W C B⟩
 ·cases q
theorem Air:Ci Tryz.prog 10 Ta:=by
 refine EN (gl:=[]) (ng:=0) BQ λH args ct q=>?_;unfold Ta at q;split at q
 ·rename_i n f m g;injection q with q;subst q;refine⟨BQ,_,_,rfl,λy=>?_⟩;obtain⟨W,rfl,rfl,rfl,rfl,B,C⟩:=y.d;exact⟨⟨R5 W,R5 W,trivial⟩,wE W,60,rfl,AW,Bc,AlX W B⟩
 ·cases q
def Acs:DQ:=(5,lh)::(6,Qz)::(7,Qz)::(8,lz)::(9,Ta)::(10,Ta)::(11,lr)::[]
def wQ:Ctx:={P:=Tryz.prog,tb:=Acs,lp:=λ_ _=>none,cut:=λ_ _=>none}
theorem AoA:DP Tryz.prog Acs:=Cw Aig (Cw AaI (Cw Aiy (Cw AiA (Cw AiD (Cw Air (Cw Aik Bc))))))
theorem Aak {s:List UInt8} (h:Fv s=true):s.length<=32:=by unfold Fv at h;simp only[Bool.and_eq_true,decide_eq_true_eq]at h;exact h.2.2.1
theorem AoC {k:Int} {s:List UInt8} (h:G6 k s=true):s.length<=32:=by
 unfold G6 at h;split at h
 ·unfold Jk at h;rcases Bool.or_eq_true _ _▸h with h|h
  ·rcases of_decide_eq_true h with rfl|rfl|rfl|rfl|rfl<;>decide
  ·exact Aak h
 ·split at h
  ·unfold pG at h;rcases of_decide_eq_true h with rfl|rfl|rfl|rfl|rfl<;>decide
  ·split at h
   ·exact Aak h
   ·rw[of_decide_eq_true h];decide
mutual
theorem Ac8:∀(x:PT) (d:Int),Fs x d->∀w∈flat x,w.text.length<=32
 |.mk k s n l c ks,d,h,w,hw=>by
  unfold Fs at h;rw[nG]at hw;rcases List.mem_cons.1 hw with rfl|hw
  ·exact AoC h.2.1.2.1
  ·exact Ac5 ks k s 0 d 1 h.2.2.2 w hw
theorem Ac5:∀(q:List PT) (k:Int) (s:List UInt8) (i:Nat) (d:Int) (o:Nat),IP k s q i d->∀w∈Nl o q,w.text.length<=32
 | [],k,s,i,d,o,h,w,hw=>by unfold Nl at hw;cases hw
 |y::q,k,s,i,d,o,h,w,hw=>by
  unfold IP at h;rw[XG]at hw;rcases List.mem_append.1 hw with hw|hw
  ·obtain⟨v,hv,rfl⟩:=List.mem_map.1 hw;exact Ac8 y _ h.1 v hv
  ·exact Ac5 q k s (i+1) d (o+sz y) h.2 w hw
end
theorem x5 {P:LT->Prop} {W:List LT} (h:∀w∈W,P w) (q:P LT.none) (i:Nat):P (W.getD i LT.none):=by
 by_cases hi:i<W.length
 ·rw[List.getD_eq_getElem?_getD,List.getElem?_eq_getElem hi];exact h _ (List.getElem_mem _)
 ·rw[List.getD_eq_getElem?_getD,List.getElem?_eq_none (by omega)];exact q
theorem Ajp {b:List UInt8} (hb:b.length<=100000):(CX b).length<=1000000/\∀i,((CX b).getD i LT.none).kids.length<=1000000:=by
 have y:([]:List LT).length<=1000000/\∀i,(([]:List LT).getD i LT.none).kids.length<=1000000:=⟨by decide,λi=>by rw[List.getD_nil];decide⟩;unfold CX;split
 ·have E:=U6 b;have q:(Jj b).length<=100000:=by rw[RZ,List.length_map];omega
  have hz:=AcB q 100001 (Nat.lt_succ_of_le q);rw[<-Ve]at hz;unfold EU;split
  ·obtain⟨J,C⟩:=NK (FA (Jj b)).1;exact⟨by omega,x5 (P:=λw=>w.kids.length<=1000000) (λw B=>by have:=(C w B).l;omega) (by decide)⟩
  ·exact y
 ·exact y
theorem Ajo {b:List UInt8} (hb:b.length<=100000):(Cd b).length<=1000000:=by
 have q:=U6 b;unfold Cd;split
 ·unfold FV;split
  ·exact(by decide:(0:Nat)<=1000000)
  ·exact(by decide:(1:Nat)<=1000000)
 ·omega
theorem Ajq {b:List UInt8} (hb:b.length<=100000) (h:Cd b=[]):∀i,((CX b).getD i LT.none).text.length<=1000000:=by
 unfold Cd at h;unfold CX;by_cases c:(Bk b).2.length=0
 ·rw[if_pos c]at h⊢;have B:=U6 b;have y:(Jj b).length<100001:=by rw[RZ,List.length_map];omega
  unfold FV at h;unfold EU;split at h
  ·rename_i e;rw[if_pos e];rw[Ve]at e⊢;exact x5 (P:=λw=>w.text.length<=1000000) (λw q=>by have:=Ac8 _ _ (Ac9 (AcA c) y e) w q;omega) (by decide)
  ·cases h
 ·rw[if_neg c]at h;exact absurd (by rw[h];rfl) c
def Rc (a:List UInt8):=AY (CX (Fz a.length (HW a)))
def py (a:List UInt8):=jv (List.length (Rc a)) (Bs (Rc a)) (List.length (AY (CX a))) (Bs (AY (CX a)))
def eW (a:List UInt8):=AY (Cd (Fz a.length (HW a)))
theorem AmH:∀(b:List UInt8),Ad (AP (3000:Int) (Int.ofNat b.length)) (True/\Aa) (Ap (decide (b.length<=9223372036854775807/\b.length*1<=140737488355328)) (Ap (bif bif Nat.ble (b.length*1) (b.length*1)then ME b.length (HW b)else false then true else false) (Ap (bif bif bif Nat.beq b.length b.length then bif bif bif Nat.beq b.length b.length then true else false then true else false then true else false else false then bif Nat.beq b.length b.length then true else false else false then true else false) (Nat.le (List.length (Fz b.length (HW b))) 100000/\Nat.le b.length 100000/\Ad (!decide (Fz b.length (HW b)=b)) (false=true) (((uK (List.length (eW b)) (λ(k:Nat)=>EW (List.getD (eW b) k d0)) (List.length (AY (Cd b))) λ(k:Nat)=>EW (List.getD (AY (Cd b)) k d0))/\Nat.le (List.length (eW b)) 1000000)/\py b/\py b/\Ad (AP (0:Int) (Int.ofNat (List.length (AY (Cd b))))) (True/\Aa) ((∃(L:List LT),List.length (Rc b)=L.length/\Bs (Rc b)=Bs L/\Nw L)/\Ad (Ax (L2 (Ou (List.length (Rc b)) (Bs (Rc b))))) (True/\Aa) (false=true)))))))
:=by
 delta Rc py eW;intro b;simp only[A9];refine Aj (λ_=>trivial) λc=>?_;have c:=Cg.1 c;have hb:b.length<=100000:=by omega
 obtain⟨B,C⟩:=Ajp hb;have y:jv (CX b).length (Bs (CX b)) (CX b).length (Bs (CX b)):=⟨⟨CX b,rfl,rfl,rfl,rfl,B,C⟩⟩;refine An (decide_eq_true (by omega)) ⟨hb,hb,⟨⟨⟨Cd b,rfl,rfl,rfl,rfl⟩⟩,Ajo hb⟩,y,y,Aj (λ_=>trivial) λq=>?_⟩;have q:=Cg.1 q;have hd:Cd b=[]:=List.length_eq_zero_iff.1 (by omega);refine⟨⟨CX b,rfl,rfl,⟨B,Ajq hb hd⟩⟩,?_⟩;rw[XF,Ahk hb hd];exact Aj (λ_=>trivial) λe=>by cases e
theorem AmG:∀(b:List UInt8),(AG wQ 200).call 3 [.bv b] (AU Cm) 4 (Ch Tryz.prog false (.bool true)):=Eq.mpr (by kernel_rfl) AmH
def w7:Tr Ac->List AV->Option Ct:=λH args=>match args with
 | [.bv l]=>cond (DM H) (some (.A6 True (.ret (.bool true)))) none
 |_=>none
theorem AiQ:Ci Tryz.prog 3 w7:=by
 refine EN (gl:=Cm) (ng:=4) NN λH args ct q=>?_;unfold w7 at q;split at q
 ·rename_i l;cases y:DM H with
  |false=>rw[y]at q;cases q
  |true=>rw[y]at q;injection q with q;exact⟨QJ y,_,_,q.symm,λB=>⟨⟨rfl,trivial⟩,wQ,200,rfl,AW,AoA,AmG l⟩⟩
 ·cases q
end Go.Proofs.YtlmmbanfhjaioaaGreatDoor
end
end
