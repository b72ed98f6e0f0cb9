/- Laid by program out of its parts: TyY, TyZ, TyAA. -/
import Derived.Test.YthallodoidghoaaGreatTy6
noncomputable section
set_option linter.unusedVariables false
set_option linter.unusedSimpArgs false
section
set_option maxRecDepth 100000
set_option maxHeartbeats 2000000
open Go Go.Ev
namespace Go.Proofs.YthallodoidghoaaGreat
def DX (L:Ac) (M:List (Int×Int)) (C X:Af) (j:Nat):Bool:=Gz L M C X (L.getD j Ab.none)
def DZ (L:Ac) (M:List (Int×Int)) (C G X:Af) (j:Nat):Int:=
 if B9 (L.getD j Ab.none).kind=false then CG L M j
 else if DX L M C X j=false\/((L.getD j Ab.none).kind≠36/\IE X (L.getD j Ab.none).kids=true)then Du
 else Fo L M C G X j
def cg (L:Ac) (j:Nat):Int×Int×Int:=((L.getD j Ab.none).line,(L.getD j Ab.none).Av,8)
def L3 (L:Ac) (M:List (Int×Int)) (C X:Af) (j:Nat):Option (Int×Int×Int):=if DX L M C X j=true then none else some (cg L j)
structure HL (L:List Ab) (x:LN) (i:Nat) (X:List Int) (W:List (Int×Int×Int)):Prop where
 le:i<=L.length
 ok:CN L x X
 eq:∀j,i<=j->j<L.length->X.getD j 0=DZ L x.M x.C x.G X j
 w:W=(((List.range L.length).drop i).filterMap (L3 L x.M x.C X)).reverse
 wl:W.length+i<=L.length
 no:∀j,j<i->X.getD j 0=0
theorem AkU:BC Tryz.prog 21 pt:=by
 refine Cw (gl:=[]) (ng:=0) AS λH args ct r=>?_;unfold pt at r;split at r
 ·rename_i cs w;injection r with r;subst r;refine⟨AS,_,_,rfl,?_⟩;rintro⟨L,x,X,j,rfl,z,y,rfl⟩;rw[VK,WR,Rs,bX,On,T9];exact⟨⟨Te L x X,Q4 _,trivial⟩,zX X (L.getD j Ab.none).kids (L.getD j Ab.none).kind,60,rfl,Cc,BD Ako (BD AkY (BD tz (BD AcZ Bk))),Aon L x X j z y⟩
 ·cases r
theorem Ak6:BC Tryz.prog 26 qs:=by
 refine Cw (gl:=[]) (ng:=0) AS λH args ct r=>?_;unfold qs at r;split at r
 ·rename_i cs i;injection r with r;subst r;refine⟨AS,_,_,rfl,?_⟩;rintro⟨L,x,X,rfl,y,B,z⟩;obtain⟨j,rfl⟩:∃j:Nat,i=j:=⟨i.toNat,by omega⟩;rw[S8,WR,Rs,bX,cD,On,Int.toNat_natCast];exact⟨⟨Te L x X,⟨rfl,rfl⟩,trivial⟩,z6,60,rfl,Cc,BD tz (BD Alk (BD AcZ Bk)),AoL L x X j y (by omega)⟩
 ·cases r
theorem AbT {L:Ac} {X X':Af} {i:Nat} (h:∀q,X.getD (A8 L i q) 0=X'.getD (A8 L i q) 0) (q:Int):Bo X (L.getD i Ab.none).kids q=Bo X' (L.getD i Ab.none).kids q:=h q.toNat
theorem AdF {L:Ac} {M:List (Int×Int)} {C X X':Af} {i:Nat} (h:∀q,X.getD (A8 L i q) 0=X'.getD (A8 L i q) 0):DX L M C X i=DX L M C X' i:=by unfold DX Gz;simp only[AbT h]
theorem Aj2 {L:Ac} {X X':Af} {i:Nat} (h:∀q,X.getD (A8 L i q) 0=X'.getD (A8 L i q) 0):IE X (L.getD i Ab.none).kids=IE X' (L.getD i Ab.none).kids:=by
 unfold IE;rw[Bool.eq_iff_iff,List.any_eq_true,List.any_eq_true];have key:∀c∈(L.getD i Ab.none).kids,X.getD c.toNat 0=X'.getD c.toNat 0:=λc hc=>by obtain⟨q,y,rfl⟩:=List.getElem_of_mem hc;have:=h q;unfold A8 at this;rwa[Bt (l:=(L.getD i Ab.none).kids),Ce y]at this
 exact⟨λ⟨c,r,x⟩=>⟨c,r,by rw[<-key c r];exact x⟩,λ⟨c,r,x⟩=>⟨c,r,by rw[key c r];exact x⟩⟩
theorem Aqy {L:Ac} {M:List (Int×Int)} {C G X X':Af} {i:Nat} (h:∀q,X.getD (A8 L i q) 0=X'.getD (A8 L i q) 0):DZ L M C G X i=DZ L M C G X' i:=by unfold DZ Fo;simp only[AdF h,Aj2 h,AbT h]
theorem AqA {L:Ac} {M:List (Int×Int)} (r:BM L M) (G:Af) (k n:Int):G8 (K0 L M G k n):=by
 unfold K0
 repeat' split
 all_goals first
  |exact UW r _
  |(unfold G8;omega)
theorem wY {L:Ac} {M:List (Int×Int)} (r:BM L M) (C G X:Af) {i:Nat} (hi:i<L.length):G8 (Fo L M C G X i):=by
 have hn:=r.n i hi;unfold Fo
 repeat' split
 all_goals first
  |exact AqA r _ _ _
  |exact Ach r _ _ _
  |(unfold G8;omega)
theorem sQ {α r:Type} {f g:α->Option r}:∀ {l:List α},(∀a∈l,f a=g a)->l.filterMap f=l.filterMap g
 | [],_=>rfl
 |a::l,h=>by rw[List.filterMap_cons,List.filterMap_cons,h a (EG ..),sQ λb hb=>h b (EF _ hb)]
theorem Aqg {L:Ac} {x:LN} (z:Good L) (y:BM L x.M) (B:Hm L x.C) (hT:GB L x):HL L x L.length (List.replicate L.length 0) []:=by
 have r:∀j,(List.replicate L.length (0:Int)).getD j 0=0:=λj=>by rw[Bt,List.getElem?_replicate];split<;>rfl
 exact⟨AH _,⟨z,y,B,hT,by simp,λj=>by rw[r];omega⟩,λj K J=>by omega,by rw[List.drop_eq_nil_of_le (by simp)];rfl,by simp,λj _=>r j⟩
theorem Ae0 {L:Ac} {x:LN} {i:Nat} {X:Af} {W:At} (h:HL L x (i+1) X W):HL L x i (X.set i (DZ L x.M x.C x.G X i)) (if DX L x.M x.C X i=true then W else W++[cg L i]):=by
 have hi:i<L.length:=h.le;have ok:=h.ok;have aa:=ok.xl;have J:i=0->DZ L x.M x.C x.G X i=0:=λe=>by subst e;unfold DZ;rw[ok.CO.root,As (by decide)];rw[show((0:Nat):Int)=((0:Nat):Int)from rfl,XL (by rw[ok.CO.root];decide),XI (by rw[ok.CO.root];decide)]
 have U:-1000000000<=DZ L x.M x.C x.G X i/\DZ L x.M x.C x.G X i<=2000000000:=by
  have r:=UW ok.m i;have y:=wY ok.m x.C x.G X hi;unfold G8 at r y;unfold DZ Du
  repeat' split
  all_goals omega
 generalize hv:DZ L x.M x.C x.G X i=v at*;have z:∀j q,i<=j->j<L.length->(X.set i v).getD (A8 L j q) 0=X.getD (A8 L j q) 0:=λj q r y=>by
  by_cases e:A8 L j q=i
  ·rcases Nat.eq_zero_or_pos i with R|R
   ·rw[e,Nc (by omega),J R,h.no i (by omega)]
   ·rcases Nat.eq_or_lt_of_le r with S|S
    ·subst S;exact absurd e (tK ok.CO y R)
    ·exact absurd e (tL ok.CO y S R)
  ·rw[getD_set_ne (Ne.symm e)]
 have B:∀j,i<=j->j<L.length->L3 L x.M x.C (X.set i v) j=L3 L x.M x.C X j:=λj r y=>by unfold L3;rw[AdF λq=>z j q r y]
 refine⟨by omega,⟨ok.CO,ok.m,ok.c,ok.g,by rw[Og];exact ok.xl,λj=>?_⟩,λj r y=>?_,?_,?_,λj V=>?_⟩
 ·by_cases e:i=j
  ·subst e;rw[Nc (by omega)];exact U
  ·rw[getD_set_ne e];exact ok.b j
 ·rw[Aqy λq=>z j q r y];rcases Nat.eq_or_lt_of_le r with e|r
  ·subst e;rw[Nc (by omega),hv]
  ·rw[getD_set_ne (by omega)];exact h.eq j r y
 ·have hd:(List.range L.length).drop i=i::(List.range L.length).drop (i+1):=by rw[List.drop_eq_getElem_cons (by simpa using hi)];simp
  have Y:((List.range L.length).drop (i+1)).filterMap (L3 L x.M x.C (X.set i v))=((List.range L.length).drop (i+1)).filterMap (L3 L x.M x.C X):=by
   refine sQ λj V=>?_;obtain⟨q,Z,rfl⟩:=List.getElem_of_mem V;have ab:q<L.length-(i+1):=by simpa using Z
   refine B _ ?_ ?_<;>simp<;>omega
  rw[hd,List.filterMap_cons,B i (AH _) hi];by_cases K:DX L x.M x.C X i=true
  ·rw[show L3 L x.M x.C X i=none from As K,As K];simp only
   rw[Y];exact h.w
  ·rw[show L3 L x.M x.C X i=some (cg L i)from An K,An K];simp only
   rw[Y,List.reverse_cons,<-h.w]
 ·have:=h.wl;split
  ·omega
  ·rw[E6];simp;omega
 ·rw[getD_set_ne (by omega)];exact h.no j (by omega)
def tD (o:Option Ah):Bool:=match o with
 |some (.cells _ _ (.Dv [.AW]) _ _)=>true
 |_=>false
def AbE (el:Nat) (o:Option Ah):Bool:=match o with
 |some (.cells e _ _ _ _)=>Nat.beq e el
 |_=>false
def Xg (s:St) (p:Option Ah->Bool):Nat:=List.rec (motive:=λ_=>Nat) 0 (λt _ r=>cond (p (s.H.get t)) t r) (List.range s.nx)
def Aq0 (o:Option Ah) (l:Al):Ah:=match o with
 |some (.cells e c _ n b)=>.cells e c (.Dv l) n b
 |_=>.cells 0 .leaf (.Dv l) 1 false
def AiV (s:St) (p q:Nat):List (Nat×Ah):=List.rec (motive:=λ_=>List (Nat×Ah)) [] (λt _ r=>cond (cond (Nat.beq t p) true (Nat.beq t q)) r (Option.rec (motive:=λ_=>List (Nat×Ah)) r (λv=>(t,v)::r) (s.H.get t))) (List.range s.nx)
def SBl (L:Ac) (x:LN):B0:={X:=Nat×Af×At,T:=λs _ y=>(3,.int .i64 ((y.1:Int)-1))::Ig s [0,1],H:=λs n0 y=>(Xg s (AbE 39),vZ y.2.1)::(Xg s tD,Aq0 (s.H.get (Xg s tD)) [.AR s.nx y.2.2.length 3])::(s.nx,KT y.2.2)::AiV s (Xg s (AbE 39)) (Xg s tD),nx:=λs _=>s.nx+1,I:=λ_ y=>HL L x y.1 y.2.1 y.2.2,m:=λy=>y.1}
def Hh (D:At) (i:Nat):At:=(List.range D.length).map λk=>if k<i\/D.length-i<=k then D.getD (D.length-1-k) (0,0,0)else D.getD k (0,0,0)
def wN (o:Option AV):Nat:=match o with
 |some (.AR r _ _)=>r
 |_=>0
def QX (o:Option AV):Nat:=match o with
 |some (.AR _ n _)=>n
 |_=>0
def AiL (o:Option Ah):Bool:=match o with
 |some (.loop ..)=>true
 |_=>false
def AiW (s:St) (p:Nat):List (Nat×Ah):=List.rec (motive:=λ_=>List (Nat×Ah)) [] (λt _ r=>cond (cond (Nat.beq t p) true (AiL (s.H.get t))) r (Option.rec (motive:=λ_=>List (Nat×Ah)) r (λv=>(t,v)::r) (s.H.get t))) (List.range s.nx)
def SRv:B0:={X:=Nat×At,T:=λs _ y=>(2,.int .i64 y.1)::(3,.int .i64 ((QX (s.T.get 0):Int)-1-y.1))::Ig s [0],H:=λs _ y=>(wN (s.T.get 0),KT y.2)::AiW s (wN (s.T.get 0)),nx:=λs _=>s.nx,I:=λs y=>y.1*2<=QX (s.T.get 0)/\∀D,D.length=QX (s.T.get 0)->s.H.get (wN (s.T.get 0))=some (KT D)->y.2=Hh D y.1,m:=λy=>1000000000-y.1}
structure QT (L:List Ab) (x:LN) (o:List Int) (w:List (Int×Int×Int)):Prop where
 q:∃X W,HL L x 0 X W/\(W≠[]->o=[]/\w=W.reverse)/\(W=[]->o=X/\w=[])
def Abn:CZ:=[(21,SZ Tryz.prog pt),(26,SZ Tryz.prog qs),(24,SZ Tryz.prog pP)]
theorem Aiy:Es Tryz.prog Abn:=Dj (UA AkU) (Dj (UA Ak6) (Dj (UA Akh) (UC _)))
def yz (L:Ac) (x:LN):Ctx:={P:=Tryz.prog,tb:=[(23,L8),(22,PK),(19,p8)],ht:=Abn,AA:=Aiy,lp:=λf r=>cond (Nat.beq f 44) (some (SBl L x)) (cond (Nat.beq f 27) (some SRv) none),cut:=λ_ _=>none}
theorem AqB {W D:At} (h:KT W=KT D) (hl:D.length=W.length):W=D:=by unfold KT at h;injection h with _ _ h;injection h with _ h;refine PO (d:=((0:Int),(0:Int),(0:Int))) hl.symm λi=>?_;have:=congrFun h i;injection this with a b;injection b with b c;injection c with c d;injection a with _ a;injection b with _ b;injection c with _ c;exact Prod.ext a (Prod.ext b c)
theorem NZ (D:At) (i:Nat):(Hh D i).length=D.length:=by simp[Hh]
theorem QO {D:At} {i k:Nat} (r:k<D.length):(Hh D i).getD k (0,0,0)=if k<i\/D.length-i<=k then D.getD (D.length-1-k) (0,0,0)else D.getD k (0,0,0):=by unfold Hh;rw[Bt,I8,Tn r];rfl
theorem vb {D:At} {i k:Nat} (r:D.length<=k):(Hh D i).getD k (0,0,0)=(0,0,0):=by rw[Bt,Ja (by rw[NZ];exact r)];rfl
theorem AlT (D:At):Hh D 0=D:=by
 refine PO (d:=((0:Int),(0:Int),(0:Int))) (NZ D 0) λk=>?_;rcases D9 k D.length with r|r
 ·rw[QO r,An (by omega)]
 ·rw[vb r,Bt,Ja r];rfl
theorem AlS {D:At} {i c:Nat} (hc:c=D.length-1-i) (h:i<c):((Hh D i).set i ((Hh D i).getD c (0,0,0))).set c ((Hh D i).getD i (0,0,0))=Hh D (i+1):=by
 refine PO (d:=((0:Int),(0:Int),(0:Int))) (by simp[NZ]) λk=>?_;rcases D9 k D.length with r|r
 ·by_cases e:c=k
  ·subst e;rw[Nc (by rw[Og,NZ];exact r),QO (by omega),An (by omega),QO r,As (by omega)];congr 1;omega
  ·rw[getD_set_ne e];by_cases x:i=k
   ·subst x;rw[Nc (by rw[NZ];exact r),QO (by omega),An (by omega),QO r,As (by omega),hc]
   ·rw[getD_set_ne x,QO r,QO r];by_cases q:k<i\/D.length-i<=k
    ·rw[As q,As (by omega)]
    ·rw[An q,An (by omega)]
 ·rw[vb r,Bt,Ja (by simp[NZ];exact r)];rfl
theorem AlR {D:At} {i:Nat} (y:i*2<=D.length) (x:D.length<=i*2+1):Hh D i=D.reverse:=by
 refine PO (d:=((0:Int),(0:Int),(0:Int))) (by simp[NZ]) λk=>?_;rcases D9 k D.length with r|r
 ·rw[QO r,Bt (l:=D.reverse),List.getElem?_reverse r,<-Bt];by_cases q:k<i\/D.length-i<=k
  ·rw[As q]
  ·rw[An q];congr 1;omega
 ·rw[vb r,Bt,Ja (by simpa using r)];rfl
theorem Afj (U:At) (c:Nat) (t:Int×Int×Int) (h:c<U.length):E4 (rD U) c 0 (M5 t)=rD (U.set c t):=by
 funext j;unfold E4 rD;cases hb:Nat.beq j c with
 |true=>have:=D4 hb;subst this;simp[MK,h,Bt,M5]
 |false=>
  have r:c≠j:=λe=>by subst e;simp at hb
  simp[Bt,List.getElem?_set_ne r]
@[reducible] def nV:Nat×Af×At->Prop:=λ(a:Nat×Af×At)=>Ae (some 19)/\Ae (FT a.2.2)/\Aa
@[reducible] def nW:Nat×Af×At->Prop:=λ(a:Nat×Af×At)=>nV a/\True
@[reducible] def n6:Ac->Prop:=λ(L:Ac)=>ES/\ES/\((True/\Ae (AV.AR 7 (CT L) 1)/\Ae (AV.ptr 10 0)/\True)/\True)/\True
@[reducible] def nq:Ac->Prop:=λ(L:Ac)=>CI/\CI/\((True/\True/\Ae (AV.AR 7 (CT L) 1)/\Ae (AV.ptr 10 0)/\True)/\True)/\True
@[reducible] def nr:Ac->LN->Ac->LN->Prop:=λ(L:Ac) (x:LN) (a:Ac) (r:LN)=>L.length=a.length/\AE L=AE a/\x.M.length=r.M.length/\rM x.M=rM r.M/\[vI x.O,vI x.Lo,vI x.C,vI x.G,vI x.Co,vI x.E,Cz x,CL x]=LN.rest r/\BM a r.M/\Good a
@[reducible] def Rg:Nat×Af×At->Nat×Af×At->Prop:=λ(a r:Nat×Af×At)=>(Aa/\(↑a.1:Int)-1-1=(↑r.1:Int)-1)/\Ae (some 18)/\(Ae (some 16)/\Aa)/\True
@[reducible] def Z9:Nat×Af×At->Nat×At->Prop:=λ(a:Nat×Af×At) (r:Nat×At)=>Nat.le (r.1*2) (QX (some (AV.AR 19 (FT a.2.2) 3)))/\∀(D:At),D.length=QX (some (AV.AR 19 (FT a.2.2) 3))->some (KT (a.2.2))=some (KT D)->r.2=Hh D r.1
def SN (a:Ac) (b:Nat):=List.length (Ab.kids (He a b))
@[reducible] def nX:Ac->Nat×Af×At->Prop:=λ(L:Ac) (a:Nat×Af×At)=>Aa/\Ae (SN L a.1)/\Ar λ(i:Nat)=>AD i (SN L a.1)->(Aa/\Ae (List.getD (Ab.kids (He L a.1)) i (0:Int)))/\True
@[reducible] def WH:Ac->Prop:=λ(L:Ac)=>Aa/\Aa/\Aa/\Aa/\WG L
def Sw (a:Ac) (b:LN) (c:Af):=[AV.vec 6 a.length (AE a),AV.vec 2 b.M.length (rM b.M),AV.vec 1 b.O.length (Aq b.O),AV.vec 1 b.Lo.length (Aq b.Lo),AV.vec 1 b.C.length (Aq b.C),AV.vec 1 b.G.length (Aq b.G),AV.vec 1 b.Co.length (Aq b.Co),AV.vec 1 b.E.length (Aq b.E),AV.vec 4 b.Fs.length (Fl b.Fs),AV.int .i64 b.main,AV.vec 1 (Int.toNat (Int.ofNat a.length)) (Aq (c)),AV.Fb Gp Fe AV.AW]
@[reducible] def nY:Ac->LN->Nat×Af×At->Ac->LN->Af->Af->Prop:=λ(L:Ac) (x:LN) (a:Nat×Af×At) (y:Ac) (B:LN) (z r:Af)=>(Sw L x a.2.1)=Bx y B z/\CN y B z/\SN L a.1=r.length/\Aq (Ab.kids (He L a.1))=Aq r/\C0 y r
@[reducible] def nZ:Ac->LN->Nat×Af×At->Ac->LN->Af->Prop:=λ(L:Ac) (x:LN) (a:Nat×Af×At) (r:Ac) (z:LN) (y:Af)=>(Sw L x a.2.1)=Bx r z y/\CN r z y/\Int.NonNeg ((↑a.1:Int)-1-0)/\Int.NonNeg ((CH r)-((↑a.1:Int)-1+1))
@[reducible] def n3:LN->Prop:=λ(x:LN)=>NX x/\(Lr x)/\(Lp x)/\(Lm x)/\(Lt x)/\(Lq x)/\(Lu x)/\NO x/\(LC x)/\True
@[reducible] def n4:LN->Prop:=λ(x:LN)=>Aa/\Aa/\Aa/\Aa/\(Sy x)/\Aa/\Ae x.main
def ub:=(∀(r:Cn),Aa/\Ae (List.length (AF (JY r)))/\Ar λ(x:Nat)=>AD x (List.length (AF (JY r)))->(Aa/\Ae (List.getD (AF (JY r)) x (0:Int)))/\True)
@[reducible] def n5:Ac->LN->Prop:=λ(L:Ac) (x:LN)=>Aa/\Aa/\Aa/\Aa/\(((gE L x)/\Aa/\Ae x.main)/\Ae (some 7)/\Ae (CT L)/\Aa)/\(∀(k:Cn),Ae (Gp k))/\ub/\∀(k:Cn),Gp k=false->Fe k=AV.AW\/Ae AV.AW/\∃(e:Nat),∃(f:Nat->Al),Fe k=AV.vec e 0 f
def gJ:=((∀(z:Cn),Ae (Gp z))/\ub/\∀(r:Cn),Gp r=false->Fe r=AV.AW\/Ae AV.AW/\∃(y:Nat),∃(x:Nat->Al),Fe r=AV.vec y 0 x)
@[reducible] def Z5:Ac->LN->Nat×Af×At->Prop:=λ(L:Ac) (x:LN) (a:Nat×Af×At)=>Dl L/\NX x/\(Lr x)/\(Lp x)/\(Lm x)/\(Lt x)/\(Lq x)/\(Lu x)/\NO x/\(LC x)/\(Aa/\Ae (CT L)/\Ar λ(i:Nat)=>AD i (CT L)->(Aa/\Ae (List.getD (a.2.1) i (0:Int)))/\True)/\gJ/\True
@[reducible] def n7:Ac->LN->Nat×Af×At->Prop:=λ(L:Ac) (x:LN) (a:Nat×Af×At)=>(bif bif bif Nat.ble (CT L*1) (EB a.2.1)then B1 1 (CT L) (Aq (a.2.1))else false then true else false then true else false)=true/\Z5 L x a/\(Aa/\Ae (HW a.1))/\True
@[reducible] def n8:Ac->LN->Nat×Af×At->Prop:=λ(L:Ac) (x:LN) (a:Nat×Af×At)=>(bif bif bif bif bif Nat.ble (CT L*1) (EB a.2.1)then B1 1 (CT L) (Aq (a.2.1))else false then true else false then true else false then true else false then true else false)=true/\nX L a/\(Aa/\True/\(Z5 L x a/\True)/\True)/\True
def vJ:=(Aa/\Aa/\Aa/\Aa/\True/\Ae (some 10)/\Aa)
@[reducible] def n9:Ac->LN->Nat×Af×At->Prop:=λ(L:Ac) (x:LN) (a:Nat×Af×At)=>WH L/\n4 x/\(gL a.2.1)/\n5 L x/\vJ/\(Aa/\Aa/\Aa/\Aa/\True/\nV a)/\WH L/\(Aa/\Aa)/\True
@[reducible] def Z6:Ac->LN->Prop:=λ(L:Ac) (x:LN)=>WH L/\n4 x/\n5 L x/\vJ/\WH L/\(Aa/\Aa)/\(Aa/\Aa/\Aa/\Ae (rfP Tryz.prog (8:FuncId))/\Ae (rfA Tryz.prog (8:FuncId))/\Ae (rfB Tryz.prog (8:FuncId))/\HA L/\(n3 x/\(Fh/\((Ae (some 14)/\Aa)/\((Aa/\Ae (CX L))/\True/\True)/\True)/\HA L/\((Ae (some 10)/\Aa)/\True/\True)/\True)/\True/\(True/\(gJ/\True/\True)/\True)/\Cm/\((Aa/\True/\(Ae (some 16)/\Aa)/\True)/\True/\True)/\True)/\Cm/\(True/\(True/\((Ae (some 7)/\Ae (CT L)/\Aa)/\True/\True)/\True)/\n3 x/\(HA L/\True/\True)/\True)/\(Ae (some 11)/\Aa)/\(True/\((Dl L/\NX x/\(Lr x)/\(Lp x)/\(Lm x)/\(Lt x)/\(Lq x)/\(Lu x)/\NO x/\(LC x)/\(Ae (some 7)/\Ae (CT L)/\Aa)/\gJ/\True)/\True/\True)/\True)/\Dl L/\True/\True)/\True
@[reducible] def Z7:Ac->LN->Nat×Af×At->Nat×Af×At->Prop:=λ(L:Ac) (x:LN) (a r:Nat×Af×At)=>(Aa/\Aa/\Aa/\Aa/\True/\Ae (some 19)/\FT a.2.2=FT r.2.2/\Aa)/\(gC a.2.2 r.2.2)/\Z6 L x
def Vj:=AZ [(19,26),(0,0),(1,1),(2,2),(3,3),(4,4),(5,5),(6,6),(7,7),(8,8),(9,9),(10,10),(11,11),(12,12),(13,13),(14,14),(15,15),(16,16),(17,17),(18,18)]
@[reducible] def Z8:Ac->LN->Nat×Af×At->Nat×Af×At->Prop:=λ(L:Ac) (x:LN) (a r:Nat×Af×At)=>(Aa/\Aa/\Aa/\Aa/\True/\Ae (some 26)/\FT a.2.2+1=FT r.2.2/\Aa)/\(Aa/\Aa/\Aa/\Aa/\(FT a.2.2+1)*3=FT r.2.2*3/\Ar λ(i:Nat)=>HV i ((FT a.2.2+1)*3)->Vj (rD (r.2.2) i) (BA (FT a.2.2) (rD (a.2.2)) (λ(x:Nat)=>[AV.int .i64 (Ab.line (He L a.1)),AV.int .i64 (Ab.Av (He L a.1)),AV.int .i64 (8:Int)]) i))/\Z6 L x
def Yo:=AZ [(19,19),(0,0),(1,1),(2,2),(3,3),(4,4),(5,5),(6,6),(7,7),(8,8),(9,9),(10,10),(11,11),(12,12),(13,13),(14,14),(15,15),(16,16),(17,17),(18,18)]
@[reducible] def na:Ac->LN->Nat×Af×At->Nat×Af×At->Prop:=λ(L:Ac) (x:LN) (a r:Nat×Af×At)=>HL L x r.1 (r.2.1) (r.2.2)/\AD r.1 a.1/\Aa/\Rg a r/\(Aa/\Aa/\Aa/\Aa/\EB a.2.1=EB r.2.1/\Ar λ(i:Nat)=>B7 i (EB a.2.1)->Yo (Aq (r.2.1) i) (E4 (Aq (a.2.1)) (Cd a.1) 0 [AV.int .i64 MC] i))/\Z7 L x a r
@[reducible] def nc:Ac->LN->Nat×Af×At->Nat×Af×At->Prop:=λ(L:Ac) (x:LN) (a r:Nat×Af×At)=>HL L x r.1 (r.2.1) (r.2.2)/\AD r.1 a.1/\Aa/\Rg a r/\(Aa/\Aa/\Aa/\Aa/\EB a.2.1=EB r.2.1/\Ar λ(i:Nat)=>B7 i (EB a.2.1)->Vj (Aq (r.2.1) i) (E4 (Aq (a.2.1)) (Cd a.1) 0 [AV.int .i64 MC] i))/\Z8 L x a r
def uf (a:Ac) (b:LN) (c:Af) (d:Nat):=Ap (bif Nat.ble (0+List.length [AV.int .i64 (AF (S8 (Sw a b c) (Cd d)))]) (List.length (Aq (c) (Cd d)))then Nat.ble (Cd d*1+0+List.length [AV.int .i64 (AF (S8 (Sw a b c) (Cd d)))]) (EB c)else false)
def NK (a:Nat) (b:Ac):=Ap (AO (HW a) (CT b))
@[reducible] def nh:Ac->LN->Nat×Af×At->Prop:=λ(L:Ac) (x:LN) (a:Nat×Af×At)=>n7 L x a/\(∃(z:Ac),∃(y:LN),∃(X:Af),nZ L x a z y X)/\Aa/\NK a.1 L (uf L x a.2.1 a.1 (n6 L/\KM a.1 (∃(r:Nat×Af×At),HL L x r.1 r.2.1 r.2.2/\AD r.1 a.1/\Aa/\Rg a r/\(Aa/\Aa/\Aa/\Aa/\EB a.2.1=r.2.1.length/\Ar λ(i:Nat)=>B7 i (EB a.2.1)->Yo (Aq r.2.1 i) (E4 (Aq (a.2.1)) (Cd a.1) 0 [AV.int .i64 (AF (S8 (Sw L x a.2.1) (Cd a.1)))] i))/\Z7 L x a r)))
@[reducible] def nj:Ac->LN->Nat×Af×At->Prop:=λ(L:Ac) (x:LN) (a:Nat×Af×At)=>n7 L x a/\(∃(z:Ac),∃(y:LN),∃(X:Af),nZ L x a z y X)/\Aa/\NK a.1 L (uf L x a.2.1 a.1 (n6 L/\KM a.1 (∃(r:Nat×Af×At),HL L x r.1 r.2.1 r.2.2/\AD r.1 a.1/\Aa/\Rg a r/\(Aa/\Aa/\Aa/\Aa/\EB a.2.1=r.2.1.length/\Ar λ(i:Nat)=>B7 i (EB a.2.1)->Vj (Aq r.2.1 i) (E4 (Aq (a.2.1)) (Cd a.1) 0 [AV.int .i64 (AF (S8 (Sw L x a.2.1) (Cd a.1)))] i))/\Z8 L x a r)))
def Sx (a:Ac) (b:LN) (c:Af):=[AV.vec 6 a.length (AE a),AV.vec 2 b.M.length (rM b.M),AV.vec 1 b.O.length (Aq b.O),AV.vec 1 b.Lo.length (Aq b.Lo),AV.vec 1 b.C.length (Aq b.C),AV.vec 1 b.G.length (Aq b.G),AV.vec 1 b.Co.length (Aq b.Co),AV.vec 1 b.E.length (Aq b.E),AV.vec 4 b.Fs.length (Fl b.Fs),AV.int .i64 b.main,AV.vec 1 (Int.toNat (Int.ofNat a.length)) (Aq c),AV.Fb Gp Fe AV.AW]
def X6 (a:Ac) (b:Nat):=[AV.int .i64 (Ab.kind (List.getD a (Cd b) Ab.none)),AV.bs (Ab.text (List.getD a (Cd b) Ab.none)),AV.int .i64 (Ab.n (List.getD a (Cd b) Ab.none)),AV.int .i64 (Ab.line (List.getD a (Cd b) Ab.none)),AV.int .i64 (Ab.Av (List.getD a (Cd b) Ab.none)),AV.vec 1 (List.length (Ab.kids (List.getD a (Cd b) Ab.none))) (Aq (Ab.kids (List.getD a (Cd b) Ab.none)))]
def NF (a:Nat×Af×At) (b:Nat):=((↑(QX (some (AV.AR 19 a.2.2.length 3))):Int)-1-(↑b:Int))
def Yi (a:Af) (b:Nat) (c:Nat×Af×At):=Ap (bif Nat.ble 1 (List.length (Aq a (Cd b)))then Nat.ble (Cd b*1+0+1) c.2.1.length else false)
def ui (a:Ac) (b:LN) (c:Nat) (d:Af) (e:Nat×Af×At):=Ap (bif Nat.ble (0+List.length [AV.int .i64 (AF (IM a b (HW c)))]) (List.length (Aq d (Cd c)))then Nat.ble (Cd c*1+0+List.length [AV.int .i64 (AF (IM a b (HW c)))]) e.2.1.length else false)
def Yx (a:Nat×Af×At):=(↑(QX (some (AV.AR 19 a.2.2.length 3))):Int)
def Yz (a:At) (b:Nat×Af×At) (c:Nat):=List.take (Jq 51) (List.drop 0 (rD a (Int.toNat (NF b c))))
def gb (a:At) (b:Nat):=List.take (Jq 51) (List.drop 0 (rD a (B8 b)))
theorem AmG:∀(L:Ac) (x:LN),Good L->BM L x.M->(GL x L)->GB L x->Vq L (True/\(CI/\CI/\((Ae (AV.int .i64 (CX L))/\Ae (Eo L)/\Ae (AV.agg [Fz x,vI x.O,vI x.Lo,vI x.C,vI x.G,vI x.Co,vI x.E,Cz x,CL x])/\Ae (AV.agg [Eo L])/\True)/\True)/\True)/\Ap (Bf .i64 (CX L-1)) ((∃(Y:Nat×Af×At),HL L x Y.1 Y.2.1 Y.2.2/\Aa/\((Aa/\CX L-1=(↑Y.1:Int)-1)/\Ae (some 18)/\(Ae (some 16)/\Aa)/\True)/\(Aa/\Aa/\Aa/\Aa/\CT L*1=Y.2.1.length/\Ar λ(i:Nat)=>B7 i (CT L*1)->(Aa/\(0:Int)=DG Y.2.1 i)/\True)/\(Aa/\Aa/\Aa/\Aa/\True/\Y.2.2.length=0)/\(Aa/\True)/\Z6 L x)/\∀(B:Nat×Af×At),HL L x B.1 B.2.1 B.2.2->Ag (!AP (HW B.1) (0:Int)) (Ap (AO (HW B.1) L.length) (((bif bif bif Nat.ble (CT L*1) B.2.1.length then B1 1 (CT L) (Aq B.2.1)else false then true else false then true else false)=true/\Z5 L x B/\((Aa/\Ae (Ab.kind (He L B.1)))/\Ae (Ab.text (He L B.1))/\(Aa/\Ae (Ab.n (He L B.1)))/\(Aa/\Ae (Ab.line (He L B.1)))/\(Aa/\Ae (Ab.Av (He L B.1)))/\nX L B/\True)/\True)/\(∃(K:Ac),∃(J:LN),∃(X:Af),∃(j:Nat),(Sx L x B.2.1)=Bx K J X/\CN K J X/\AD j K.length/\(X6 L B.1)=Ab.row (Bc K j))/\Aa/\Ag (!Ay (VK (Sx L x B.2.1) (X6 L B.1))) (gN B (True/\Ag (!Ay (B9 (Ab.kind (He L B.1)))) ((∃(K:Ac),∃(J:LN),nr L x K J)/\NK B.1 L (ui L x B.1 B.2.1 B (nq L/\KM B.1 (∃(R:Nat×Af×At),HL L x R.1 R.2.1 R.2.2/\AD R.1 B.1/\Aa/\Rg B R/\(Aa/\Aa/\Aa/\Aa/\IX B=R.2.1.length/\Ar λ(i:Nat)=>B7 i B.2.1.length->Vj (Aq R.2.1 i) (E4 (Aq B.2.1) (Cd B.1) 0 [AV.int .i64 (AF (IM L x (HW B.1)))] i))/\Z8 L x B R)))) (Ag (!Ay (VK (Sx L x B.2.1) (X6 L B.1))) (NK B.1 L (Yi B.2.1 B.1 B (KM B.1 (∃(R:Nat×Af×At),nc L x B R)))) (Ag (!Au (Ab.kind (He L B.1)) (36:Int)) (n8 L x B/\(∃(K:Ac),∃(J:LN),∃(X:Af),∃(S:Af),nY L x B K J X S)/\Aa/\Ag (Ay (XH (Sx L x B.2.1) (Dy (SN L B.1) (Aq (Ab.kids (He L B.1)))))) (NK B.1 L (Yi B.2.1 B.1 B (KM B.1 (∃(R:Nat×Af×At),nc L x B R)))) (nj L x B)) (nj L x B))))) (True/\Ag (!Ay (B9 (Ab.kind (He L B.1)))) ((∃(K:Ac),∃(J:LN),nr L x K J)/\NK B.1 L (ui L x B.1 B.2.1 B (nq L/\KM B.1 (∃(R:Nat×Af×At),HL L x R.1 R.2.1 R.2.2/\AD R.1 B.1/\Aa/\Rg B R/\(Aa/\Aa/\Aa/\Aa/\IX B=R.2.1.length/\Ar λ(i:Nat)=>B7 i B.2.1.length->Yo (Aq R.2.1 i) (E4 (Aq B.2.1) (Cd B.1) 0 [AV.int .i64 (AF (IM L x (HW B.1)))] i))/\Z7 L x B R)))) (Ag (!Ay (VK (Sx L x B.2.1) (X6 L B.1))) (NK B.1 L (Yi B.2.1 B.1 B (KM B.1 (∃(R:Nat×Af×At),na L x B R)))) (Ag (!Au (Ab.kind (He L B.1)) (36:Int)) (n8 L x B/\(∃(K:Ac),∃(J:LN),∃(X:Af),∃(S:Af),nY L x B K J X S)/\Aa/\Ag (Ay (XH (Sx L x B.2.1) (Dy (SN L B.1) (Aq (Ab.kids (He L B.1)))))) (NK B.1 L (Yi B.2.1 B.1 B (KM B.1 (∃(R:Nat×Af×At),na L x B R)))) (nh L x B)) (nh L x B)))))) (Ag (AP (0:Int) (Int.ofNat B.2.2.length)) (Ap (Bf .i64 (Int.ofNat B.2.2.length-1)) ((∃(Y:Nat×At),Z9 B Y/\Aa/\((Cr Y.1)/\(Aa/\Int.ofNat B.2.2.length-1=(Yx B)-1-(↑Y.1:Int))/\nW B)/\(Aa/\Aa/\Aa/\Aa/\B.2.2.length*3=Y.2.length*3/\Ar λ(i:Nat)=>HV i (B.2.2.length*3)->(Aa/\HY B.2.2 i=HY Y.2 i)/\(Aa/\HX B.2.2 i=HX Y.2 i)/\(O6 B.2.2 i Y.2)/\True)/\n9 L x B)/\∀(J:Nat×At),Z9 B J->Ag (Dh J.1 (NF B J.1)) (Ap (AO (NF B J.1) B.2.2.length) (Ap (bif Nat.ble (Int.toNat (NF B J.1)*3+0+Jq 51) (J.2.length*3)then Nat.ble (Jq 51) (List.length (List.drop 0 (rD J.2 (Int.toNat (NF B J.1)))))else false) (Ap (D8 J.1 B.2.2.length) (Ap (bif Nat.ble (B8 J.1*3+0+Jq 51) (J.2.length*3)then Nat.ble (Jq 51) (List.length (List.drop 0 (rD J.2 (B8 J.1))))else false) (Ap (D8 J.1 B.2.2.length) (Ap (bif Nat.ble (0+List.length (Yz J.2 B J.1)) (List.length (rD J.2 (B8 J.1)))then Nat.ble (B8 J.1*3+0+List.length (Yz J.2 B J.1)) (J.2.length*3)else false) (Ap (AO (NF B J.1) B.2.2.length) (Ap (bif Nat.ble (0+List.length (gb J.2 J.1)) (List.length (E4 (rD J.2) (B8 J.1) 0 (Yz J.2 B J.1) (Int.toNat (NF B J.1))))then Nat.ble (Int.toNat (NF B J.1)*3+0+List.length (gb J.2 J.1)) (J.2.length*3)else false) ((DV/\DV/\DV/\True)/\Bj J.1 (Ap (Bf .i64 ((Yx B)-1-(↑J.1:Int)-1)) (∃(R:Nat×At),Z9 B R/\Nat.le (Nat.succ (1000000000-R.1)) (1000000000-J.1)/\Aa/\((Cb J.1 R.1)/\(Aa/\(Yx B)-1-(↑J.1:Int)-1=(Yx B)-1-(↑R.1:Int))/\nW B)/\(Aa/\Aa/\Aa/\Aa/\J.2.length*3=R.2.length*3/\Ar λ(i:Nat)=>HV i (J.2.length*3)->AZ [(0,0),(1,1),(2,2),(3,3),(4,4),(5,5),(6,6),(7,7),(8,8),(9,9),(10,10),(11,11),(12,12),(13,13),(14,14),(15,15),(16,16),(17,17),(18,18),(19,19),(20,20)] (rD R.2 i) (E4 (E4 (rD J.2) (B8 J.1) 0 (Yz J.2 B J.1)) (Int.toNat (NF B J.1)) 0 (gb J.2 J.1) i))/\n9 L x B))))))))))) (O4/\∃(aa:Af×At),QT L x aa.1 aa.2/\Ap (bif bif Nat.ble (B.2.2.length*3) (J.2.length*3)then B1 3 B.2.2.length (rD J.2)else false then true else false) (ga aa B J.2 aa.2)))) (∃(J:Af×At),QT L x J.1 J.2/\Ap (bif bif Nat.ble (CT L*1) B.2.1.length then B1 1 (CT L) (Aq B.2.1)else false then true else false) ((Aa/\CT L=J.1.length/\Ar λ(i:Nat)=>AD i (CT L)->(Aa/\DG B.2.1 i=DG J.1 i)/\True)/\J.2.length=0/\True)))))
:=by
 delta AD Bc Cd Sx Bj Vc B8 X6 CT CI B7 Cz DV GL Dk Cb Eo NF Cr Vj Jq He DG Fz IM CX Vq CL O3 Yo KM Yi HV HW Dh gN D8 O6 HX HY O4 ui NK Yx Yz SN IX ga gb;intro L x hG hM hC hT;simp only[Bq,nV,nW,n6,nq,nr,Rg,Pv,Pw,Z9,Iy,Rd,WG,nX,WH,nY,nZ,n3,n4,n5,Z5,n7,n8,n9,Z6,Z7,Z8,na,nc,nh,nj,FT,CT,ES,CI,Cz,CL,AD,C7,O1,Jy,Bc,Cl,Hg,Dl,Cd,He,SN,Sw,CH,Lp,Lq,Lr,Lt,Lu,Lm,LC,NO,NX,Sy,gE,ub,gJ,EB,HW,B7,gL,vJ,Cm,CX,Fh,HA,gC,Vj,HV,Yo,MC,KM,uf,NK];have ad:Good L:=hG;have af:BM L x.M:=hM;have aB:Hm L x.C:=hC;have av:GB L x:=hT;have aG:=af.len;have hp:=ad.pos;clear hG hM hC hT;have e0:∀i:Nat,(0:Int)=(List.replicate L.length (0:Int)).getD i 0:=λi=>by rw[Bt,List.getElem?_replicate];split<;>rfl
 refine Am (BF (by omega)) (Am (AU.2 (by omega)) ⟨⟨(L.length,List.replicate L.length 0,[]),Aqg ad af aB av,rfl,⟨by simp,⟨λi _=>e0 i⟩⟩,rfl,EM,EM,EM⟩,λy hy=>?_⟩);obtain⟨m,X,W⟩:=y;simp only at hy⊢;have ok:=hy.ok;have ae:=ok.xl;have aH:=hy.wl;have pf:[AV.vec 6 L.length (AE L),AV.vec 2 x.M.length (rM x.M),AV.vec 1 x.O.length (Aq x.O),AV.vec 1 x.Lo.length (Aq x.Lo),AV.vec 1 x.C.length (Aq x.C),AV.vec 1 x.G.length (Aq x.G),AV.vec 1 x.Co.length (Aq x.Co),AV.vec 1 x.E.length (Aq x.E),AV.vec 4 x.Fs.length (Fl x.Fs),AV.int IntKind.i64 x.main,AV.vec 1 L.length (Aq X),AV.Fb Gp Fe AV.AW]=Bx L x X:=by unfold Bx vI RZ;rw[ae]
 have gI:∀l:Af,B1 1 l.length (Aq l)=true:=λl=>DL λ_ _=>rfl;refine Ao (λh=>?_) λh=>?_
 ·rw[BZ,Bl]at h;obtain⟨j,rfl⟩:∃j,m=j+1:=⟨m-1,by omega⟩;have e1:((j+1:Nat):Int)-1=j:=by omega
  have hj:j<L.length:=hy.le;have pw:[AV.int IntKind.i64 (L.getD j Ab.none).kind,AV.bs (L.getD j Ab.none).text,AV.int IntKind.i64 (L.getD j Ab.none).n,AV.int IntKind.i64 (L.getD j Ab.none).line,AV.int IntKind.i64 (L.getD j Ab.none).Av,AV.vec 1 (L.getD j Ab.none).kids.length (Aq (L.getD j Ab.none).kids)]=(L.getD j Ab.none).row:=rfl;simp only[e1,Int.toNat_natCast,VK,S8,XH,pf,pw,T9,WR,Rs,bX,cD,On,DY,HB,EC];have ao:j<X.length:=by omega
  simp only[Afl X j _ ao];have hq:(L.length.ble X.length&&B1 1 L.length (Aq X))=true:=by rw[<-ae,gI,Bool.and_true];exact E5 (AH _)
  have aD:∃K J V ah,Bx L x X=Bx K J V/\CN K J V/\Nat.succ ah<=K.length/\(L.getD j Ab.none).row=(K.getD ah Ab.none).row:=⟨L,x,X,j,rfl,ok,hj,rfl⟩;have aE:∃K J V S,Bx L x X=Bx K J V/\CN K J V/\(L.getD j Ab.none).kids.length=List.length S/\Aq (L.getD j Ab.none).kids=Aq S/\C0 K S:=⟨L,x,X,_,rfl,ok,rfl,rfl,tM ad hj⟩;have aC:∃K B V,Bx L x X=Bx K B V/\CN K B V/\((j:Int)-0).NonNeg/\((K.length:Int)-(j+1)).NonNeg:=⟨L,x,X,rfl,ok,(show(0:Int)<=j by omega),(show(j:Int)+1<=L.length by omega)⟩;have ak:∀v:Int,((0+[AV.int .i64 v].length).ble (Aq X j).length&&(j+0+[AV.int .i64 v].length).ble X.length)=true:=λv=>by rw[B4];exact⟨rfl,E5 (show j+0+1<=X.length by omega)⟩
  have ag:∀ {v},(!Gz L x.M x.C X (L.getD j Ab.none))=true->DZ L x.M x.C x.G X j=v->HL L x j (X.set j v) (W++[((L.getD j Ab.none).line,(L.getD j Ab.none).Av,8)]):=λhr e=>by have:=Ae0 hy;rw[e,An (show¬DX L x.M x.C X j=true fromλg=>by unfold DX at g;rw[g]at hr;cases hr)]at this;exact this
  have ab:∀ {v},(!Gz L x.M x.C X (L.getD j Ab.none))=false->DZ L x.M x.C x.G X j=v->HL L x j (X.set j v) W:=λhr e=>by have:=Ae0 hy;rw[e,As (show DX L x.M x.C X j=true from nt hr)]at this;exact this
  have an:(!B9 (L.getD j Ab.none).kind)=true->DZ L x.M x.C x.G X j=CG L x.M j:=λh=>As (nf h);have aA:(!B9 (L.getD j Ab.none).kind)=false->(!Gz L x.M x.C X (L.getD j Ab.none))=true->DZ L x.M x.C x.G X j=1073741824:=λh g=>by unfold DZ;rw[An (by rw[nt h];decide),As (.inl (nf g))];rfl
  have az:(!B9 (L.getD j Ab.none).kind)=false->(!Au (L.getD j Ab.none).kind 36)=true->IE X (L.getD j Ab.none).kids=true->DZ L x.M x.C x.G X j=1073741824:=λh g e=>by rw[BZ,BB]at g;unfold DZ;rw[An (by rw[nt h];decide),As (.inr ⟨g,e⟩)];rfl
  have ay:(!B9 (L.getD j Ab.none).kind)=false->(!Gz L x.M x.C X (L.getD j Ab.none))=false->(!Au (L.getD j Ab.none).kind 36)=false->DZ L x.M x.C x.G X j=Fo L x.M x.C x.G X j:=λh r g=>by rw[BI,Ba]at g;unfold DZ;rw[An (by rw[nt h];decide),An (by rintro(q|q);exact absurd ((nt r).symm.trans q) (by decide);exact q.1 g)]
  have aw:(!B9 (L.getD j Ab.none).kind)=false->(!Gz L x.M x.C X (L.getD j Ab.none))=false->IE X (L.getD j Ab.none).kids=false->DZ L x.M x.C x.G X j=Fo L x.M x.C x.G X j:=λh r g=>by unfold DZ;rw[An (by rw[nt h];decide),An (by rintro(q|q);exact absurd ((nt r).symm.trans q) (by decide);exact absurd (g.symm.trans q.2) (by decide))]
  have no:∀ {p:Prop},(!Gz L x.M x.C X (L.getD j Ab.none))=true->(!Gz L x.M x.C X (L.getD j Ab.none))=false->p:=λa b=>absurd (a.symm.trans b) (by decide)
  repeat' with_reducible first
   |exact hq
   |exact EM
   |exact aD
   |exact aE
   |exact aC
   |refine Ao (λhk=>?_) λhk=>?_
   |refine Am ?_ ?_
   |refine And.intro ?_ ?_
  all_goals first
   |exact no (by assumption) (by assumption)
   |exact AK.2 (by omega)
   |exact ak _
   |exact ak 0
   |exact BF (by omega)
   |exact AU.2 (by omega)
   |exact⟨L,x,rfl,rfl,rfl,rfl,rfl,af,ad⟩
   |exact⟨(j,X.set j (CG L x.M j),W++[((L.getD j Ab.none).line,(L.getD j Ab.none).Av,8)]),ag (by assumption) (an (by assumption)),AH _,rfl,⟨by simp,⟨λi _=>⟨⟨rfl,rfl⟩,trivial⟩⟩⟩,by simp,⟨by simp,Rl _ _ _ rfl⟩,EM,EM,EM⟩
   |exact⟨(j,X.set j 1073741824,W++[((L.getD j Ab.none).line,(L.getD j Ab.none).Av,8)]),ag (by assumption) (aA (by assumption) (by assumption)),AH _,rfl,⟨by simp,⟨λi _=>⟨⟨rfl,rfl⟩,trivial⟩⟩⟩,by simp,⟨by simp,Rl _ _ _ rfl⟩,EM,EM,EM⟩
   |exact⟨(j,X.set j (CG L x.M j),W),ab (by assumption) (an (by assumption)),AH _,rfl,⟨by simp,⟨λi _=>⟨⟨rfl,rfl⟩,trivial⟩⟩⟩,rfl,⟨rfl,⟨λ_ _=>⟨rfl,rfl,rfl⟩⟩⟩,EM,EM,EM⟩
   |exact⟨(j,X.set j 1073741824,W),ab (by assumption) (az (by assumption) (by assumption) (by assumption)),AH _,rfl,⟨by simp,⟨λi _=>⟨⟨rfl,rfl⟩,trivial⟩⟩⟩,rfl,⟨rfl,⟨λ_ _=>⟨rfl,rfl,rfl⟩⟩⟩,EM,EM,EM⟩
   |exact⟨(j,X.set j (Fo L x.M x.C x.G X j),W),ab (by assumption) (ay (by assumption) (by assumption) (by assumption)),AH _,rfl,⟨by simp,⟨λi _=>⟨⟨rfl,rfl⟩,trivial⟩⟩⟩,rfl,⟨rfl,⟨λ_ _=>⟨rfl,rfl,rfl⟩⟩⟩,EM,EM,EM⟩
   |exact⟨(j,X.set j (Fo L x.M x.C x.G X j),W),ab (by assumption) (aw (by assumption) (by assumption) (by assumption)),AH _,rfl,⟨by simp,⟨λi _=>⟨⟨rfl,rfl⟩,trivial⟩⟩⟩,rfl,⟨rfl,⟨λ_ _=>⟨rfl,rfl,rfl⟩⟩⟩,EM,EM,EM⟩
   |trace_state
 ·rw[BI,Bd]at h;obtain rfl:m=0:=by omega
  have aF:Program.cellsOf Tryz.prog 51=3:=by kernel_rfl
  have eN:QX (some (AV.AR 19 W.length 3))=W.length:=rfl;have inj:∀i (D:At),D.length=W.length->KT W=KT D->Hh W i=Hh D i:=λi D Z h2=>by rw[AqB h2 Z]
  have dr:∀(U:At) (c:Nat),List.take 3 (List.drop 0 (rD U c))=M5 (U.getD c (0,0,0)):=λ_ _=>rfl;simp only[eN,aF,dr];refine Ao (λh0=>Am (AU.2 (by omega)) ⟨⟨(0,W),⟨BL _,λD Z h2=>by rw[<-inj 0 D Z h2,AlT]⟩,⟨rfl,by simp⟩,⟨rfl,⟨λ_ _=>⟨rfl,rfl,rfl⟩⟩⟩,EM⟩,λz hz=>?_⟩) λh0=>?_
  ·obtain⟨i,D'⟩:=z;obtain⟨aj,ai⟩:=hz;simp only at aj ai⊢;obtain rfl:=ai W rfl rfl;rw[Bd]at h0;have hl:=NZ W i;refine Ao (λZ=>?_) λZ=>?_
   ·rw[Bd]at Z;obtain⟨c,hc⟩:∃c:Nat,c=W.length-1-i:=⟨_,rfl⟩;have au:(W.length:Int)-1-i=c:=by omega
    simp only[au,Int.toNat_natCast];have aq:i<c:=by omega
    have ar:c<(Hh W i).length:=by omega
    simp only[Afj (Hh W i) i _ (by omega),Afj ((Hh W i).set i ((Hh W i).getD c (0,0,0))) c _ (by rw[Og];exact ar),AlS hc aq];refine Am (AK.2 (by omega)) (Am ?_ (Am (AK.2 (by omega)) (Am ?_ (Am (AK.2 (by omega)) (Am ?_ (Am (AK.2 (by omega)) (Am ?_ (Am (AU.2 (by omega)) (Am (AU.2 (by omega)) ⟨(i+1,Hh W (i+1)),⟨by simp only;omega,λD Z h2=>inj _ D Z h2⟩,by simp only;omega,⟨rfl,by simp only;omega⟩,⟨by rw[NZ,NZ],⟨λk _=>wh _ _⟩⟩,EM⟩)))))))))
    ·rw[B4];exact⟨E5 (by omega),rfl⟩
    ·rw[B4];exact⟨E5 (by omega),rfl⟩
    ·rw[B4];exact⟨rfl,E5 (show i*3+0+(0+3)<=_ by omega)⟩
    ·rw[B4];exact⟨rfl,E5 (show c*3+0+(0+3)<=_ by omega)⟩
   ·rw[Bl]at Z;rw[AlR aj (by omega)];refine⟨([],W.reverse),⟨X,W,hy,λ_=>⟨rfl,rfl⟩,λe=>by rw[e]at h0;simp at h0⟩,Am ?_ ⟨rfl,by simp,⟨λ_ _=>⟨rfl,rfl,rfl⟩⟩⟩⟩;rw[B4];exact⟨E5 (by simp),DL λ_ _=>rfl⟩
  ·rw[Bl]at h0;have e:W=[]:=Ra.1 (by omega);refine⟨(X,[]),⟨X,W,hy,λg=>absurd e g,λ_=>⟨rfl,rfl⟩⟩,Am ?_ ⟨⟨by simp only;omega,⟨λ_ _=>rfl⟩⟩,rfl⟩⟩;rw[<-ae,gI,Bool.and_true];exact E5 (AH _)
theorem AmF:∀(L:Ac) (x:LN),Good L->BM L x.M->Hm L x.C->GB L x->(A3 (yz L x) 60).call 8 [tree L,.agg x.row] .leaf 0 (L0 (λy:Af×At=>QT L x y.1 y.2) λy=>.AM [.vec 1 y.1.length (Aq y.1),.vec 3 y.2.length (rD y.2)]):=Eq.mpr (by kernel_rfl) AmG
def MY (x y:Int) (h:Bool):Prop:=(h=false/\x=Du)\/(h=true/\x=y/\x≠Du)
theorem km1 {c:UInt8} {l:Af} (h:CF [c] l=true):∃x,l=[x]/\Ck (c.toNat:Int) x=true:=by
 cases l with
 |nil=>simp[CF]at h
 |cons x t=>rw[CF,B4]at h;exact⟨x,by rw[List.isEmpty_iff.1 h.2],h.1⟩
theorem Xx {c:UInt8} {s:Aj} {l:Af} (y:c≠42) (r:c≠63) (h:CF (c::s) l=true):∃x t,l=x::t/\Ck (c.toNat:Int) x=true/\CF s t=true:=by
 cases l with
 |nil=>rw[RR _ y r]at h;cases h
 |cons x t=>rw[Xw _ _ _ y r,B4]at h;exact⟨x,t,rfl,h.1,h.2⟩
theorem kmo {l:Af} (h:CF [63,118] l=true):l=[]\/∃y,l=[y]/\Ck 118 y=true:=by
 rw[show([63,118]:Aj)=63::118::[]from rfl,tN,Xv]at h;cases l with
 |nil=>exact .inl rfl
 |cons y t=>
  have h':(if Ck 118 y=true then t else y::t).isEmpty=true:=h;by_cases e:Ck 118 y=true
  ·rw[As e]at h';exact .inr ⟨y,by rw[List.isEmpty_iff.1 h'],e⟩
  ·rw[An e]at h';cases h'
theorem AbG {k:Int} (h:Ck 101 k=true):B9 k=true:=by unfold Ck at h;rwa[An (by decide),An (by decide),An (by decide),As rfl]at h
theorem AbH {k:Int} (h:Ck 118 k=true):B9 k=true:=by unfold Ck at h;rw[An (by decide),An (by decide),An (by decide),An (by decide),As rfl]at h;unfold wc at h;unfold B9;rw[Bn]at*;omega
theorem AiK {k:Int} (h:Ck 121 k=true):k=5:=by unfold Ck at h;rwa[As rfl,Bn]at h
theorem uD {L:Ac} {i:Nat} {a:Int} {t:Af} (h:(L.getD i Ab.none).kids.map (DM L)=a::t):0<(L.getD i Ab.none).kids.length/\(L.getD (A8 L i 0) Ab.none).kind=a:=by
 unfold A8;cases r:(L.getD i Ab.none).kids with
 |nil=>rw[r]at h;cases h
 |cons c u=>rw[r,List.map_cons]at h;injection h with x y;exact⟨by simp,x⟩
theorem Afd {L:Ac} {i:Nat} {a b:Int} {t:Af} (h:(L.getD i Ab.none).kids.map (DM L)=a::b::t):1<(L.getD i Ab.none).kids.length/\(L.getD (A8 L i 1) Ab.none).kind=b:=by
 unfold A8;cases x:(L.getD i Ab.none).kids with
 |nil=>rw[x]at h;cases h
 |cons c u=>
  rw[x,List.map_cons]at h;injection h with B r;cases u with
  |nil=>cases r
  |cons d v=>rw[List.map_cons]at r;injection r with y z;exact⟨by simp,y⟩
theorem dy {L:Ac} {i:Nat} {l:Af} (h:(L.getD i Ab.none).kids.map (DM L)=l):(L.getD i Ab.none).kids.length=l.length:=by rw[<-h,HJ]
theorem JS {L:Ac} (K:Good L) {i:Nat} (hi:i<L.length) (r:(L.getD i Ab.none).kind=14\/(L.getD i Ab.none).kind=15\/(L.getD i Ab.none).kind=16\/(L.getD i Ab.none).kind=17\/(L.getD i Ab.none).kind=18\/(L.getD i Ab.none).kind=19\/(L.getD i Ab.none).kind=20\/(L.getD i Ab.none).kind=23\/(L.getD i Ab.none).kind=24\/(L.getD i Ab.none).kind=30\/(L.getD i Ab.none).kind=31\/(L.getD i Ab.none).kind=32\/(L.getD i Ab.none).kind=34\/(L.getD i Ab.none).kind=35): 0<(L.getD i Ab.none).kids.length/\B9 (L.getD (A8 L i 0) Ab.none).kind=true:=by
 have h:=K.kinds i hi;have hl:(∃s,BT (L.getD i Ab.none).kind=101::s)\/∃s,BT (L.getD i Ab.none).kind=118::s:=by rcases r with r|r|r|r|r|r|r|r|r|r|r|r|r|r<;>rw[r]<;>first|exact .inl ⟨_,rfl⟩|exact .inr ⟨_,rfl⟩
 rcases hl with⟨s,y⟩|⟨s,y⟩
 ·rw[y]at h;obtain⟨x,t,e,J,R⟩:=Xx (by decide) (by decide) h;obtain⟨B,z⟩:=uD e;exact⟨B,by rw[z];exact AbG J⟩
 ·rw[y]at h;obtain⟨x,t,e,J,R⟩:=Xx (by decide) (by decide) h;obtain⟨B,z⟩:=uD e;exact⟨B,by rw[z];exact AbH J⟩
theorem Xy {L:Ac} (B:Good L) {i:Nat} (hi:i<L.length) (r:(L.getD i Ab.none).kind=13\/(L.getD i Ab.none).kind=14\/(L.getD i Ab.none).kind=31\/(L.getD i Ab.none).kind=32): (L.getD i Ab.none).kids.length=2/\B9 (L.getD (A8 L i 1) Ab.none).kind=true:=by
 have h:=B.kinds i hi;have hl:∃c,BT (L.getD i Ab.none).kind=[c,101]/\c≠42/\c≠63:=by rcases r with r|r|r|r<;>rw[r]<;>exact⟨_,rfl,by decide,by decide⟩
 obtain⟨c,z,U,S⟩:=hl;rw[z]at h;obtain⟨x,t,e,W,R⟩:=Xx U S h;obtain⟨y,rfl,K⟩:=km1 R;obtain⟨V,J⟩:=Afd e;exact⟨dy e,by rw[J];exact AbG K⟩
theorem Ai8 {L:Ac} (y:Good L) {i:Nat} (hi:i<L.length) (r:(L.getD i Ab.none).kind=13):B9 (L.getD (A8 L i 0) Ab.none).kind=false:=by have h:=y.kinds i hi;rw[r]at h;obtain⟨x,t,e,z,B⟩:=Xx (c:=121) (s:=[101]) (by decide) (by decide) h;rw[(uD e).2,AiK z];rfl
theorem Ai7 {L:Ac} (z:Good L) {i:Nat} (hi:i<L.length) (r:(L.getD i Ab.none).kind=19\/(L.getD i Ab.none).kind=20):(L.getD i Ab.none).kids.length=1\/(L.getD i Ab.none).kids.length=2/\B9 (L.getD (A8 L i 1) Ab.none).kind=true:=by
 have h:=z.kinds i hi;have hl:BT (L.getD i Ab.none).kind=[101,63,118]:=by rcases r with r|r<;>rw[r]<;>rfl
 rw[hl]at h;obtain⟨x,t,e,K,J⟩:=Xx (by decide) (by decide) h;rcases kmo J with rfl|⟨y,rfl,B⟩
 ·exact .inl (dy e)
 ·exact .inr ⟨dy e,by rw[(Afd e).2];exact AbH B⟩
theorem AiZ {L:Ac} (x:Good L) {i:Nat} (hi:i<L.length) (r:(L.getD i Ab.none).kind=26\/(L.getD i Ab.none).kind=27\/(L.getD i Ab.none).kind=28\/(L.getD i Ab.none).kind=29\/(L.getD i Ab.none).kind=33):(L.getD i Ab.none).kids=[]:=by
 have h:=x.kinds i hi;have hl:BT (L.getD i Ab.none).kind=[]:=by rcases r with r|r|r|r|r<;>rw[r]<;>rfl
 rw[hl,Xv,List.isEmpty_iff,List.map_eq_nil_iff]at h;exact h
theorem Ai3 {L:Ac} (y:Good L) {i:Nat} (hi:i<L.length) (r:(L.getD i Ab.none).kind=30\/(L.getD i Ab.none).kind=34\/(L.getD i Ab.none).kind=35):(L.getD i Ab.none).kids.length=1:=by
 have h:=y.kinds i hi;have hl:BT (L.getD i Ab.none).kind=[101]:=by rcases r with r|r|r<;>rw[r]<;>rfl
 rw[hl]at h;obtain⟨x,e,z⟩:=km1 h;exact dy e
theorem AcE {X S N:Af} (r:N=[]):decide (∀i:Nat,i<N.length->i<S.length->Bo X S i=N.getD i 0\/Bo X S i=Du)=true:=by subst r;exact BF λi h=>absurd h (Nat.not_lt_zero i)
theorem AjU {X S N:Af} {w:Int} (x:N=[w]) (r:0<S.length):decide (∀i:Nat,i<N.length->i<S.length->Bo X S i=N.getD i 0\/Bo X S i=Du)=decide (Bo X S 0=w\/Bo X S 0=Du):=by
 subst x;refine decide_eq_decide.2 ⟨λh=>h 0 (by simp) r,λh i y z=>?_⟩;obtain rfl:i=0:=by simp at y;omega
 exact h
theorem AjV {X S N:Af} {w v:Int} (x:N=[w,v]) (r:1<S.length):decide (∀i:Nat,i<N.length->i<S.length->Bo X S i=N.getD i 0\/Bo X S i=Du)=(decide (Bo X S 0=w\/Bo X S 0=Du)&&decide (Bo X S 1=v\/Bo X S 1=Du)):=by
 subst x;rw[<-Bool.decide_and];refine decide_eq_decide.2 ⟨λh=>⟨h 0 (by simp) (by omega),h 1 (by simp) r⟩,λh i y z=>?_⟩;rcases i with _|_|i
 ·exact h.1
 ·exact h.2
 ·simp at y;omega
theorem AjW {X S N:Af} {w v:Int} (r:N=[w,v]) (x:S.length=1):decide (∀i:Nat,i<N.length->i<S.length->Bo X S i=N.getD i 0\/Bo X S i=Du)=decide (Bo X S 0=w\/Bo X S 0=Du):=by
 subst r;refine decide_eq_decide.2 ⟨λh=>h 0 (by simp) (by omega),λh i z y=>?_⟩;obtain rfl:i=0:=by omega
 exact h
theorem gj {x y w:Int} {h:Bool} (r:MY x y h) (B:w≠Du):decide (x=w\/x=Du)=(!h||decide (y=w)):=by
 rcases r with⟨rfl,rfl⟩|⟨rfl,rfl,z⟩
 ·simp
 ·simp[z]
theorem AlO {x y a:Int} {h:Bool} (r:MY x y h) (z:a≠Du):G5 x a=(!h||Gl y a):=by
 unfold G5;rcases r with⟨rfl,rfl⟩|⟨rfl,rfl,B⟩
 ·simp
 ·simp[B,z]
theorem v8 {x y B z:Int} {h h':Bool} (r:MY x y h) (J:MY B z h'):G5 x B=(!h|| !h'||Gl y z):=by
 unfold G5;rcases r with⟨rfl,rfl⟩|⟨rfl,rfl,L⟩
 ·simp
 ·rcases J with⟨rfl,rfl⟩|⟨rfl,rfl,K⟩
  ·simp
  ·simp[L,K]
theorem di {z:Int} (h:G8 z):z≠Du:=by unfold G8 at h;unfold Du;omega
end Go.Proofs.YthallodoidghoaaGreat
end
end
