/- Laid by program out of its parts: TyQa, TyR, TyS, TyT. -/
import Derived.Test.YthallodoidghoaaGreatTy4
noncomputable section
open List(getD)
set_option linter.unusedVariables false
set_option linter.unusedSimpArgs false
section
set_option maxRecDepth 100000
set_option maxHeartbeats 2000000
open Go Go.Ev
namespace Go.Proofs.YthallodoidghoaaGreat
def G8 (z:Int):Prop:=-1000001<=z/\z<=5
theorem Aqx {s:Aj} {n:Int} (h:0<=n/\n<=1000000):G8 (Kc s n):=by
 unfold Kc G8
 repeat' split
 all_goals omega
theorem Aj6 {L:Ac} {M:List (Int×Int)} (r:BM L M) (i:Int):G8 (E2 L M i):=by
 unfold E2;split
 ·unfold G8;omega
 ·rename_i h;split
  ·exact Aqx (r.n i.toNat (by omega))
  ·unfold G8;omega
theorem UW {L:Ac} {M:List (Int×Int)} (r:BM L M) (i:Int):G8 (CG L M i):=by unfold CG;split<;>exact Aj6 r _
theorem Ach {L:Ac} {M:List (Int×Int)} (r:BM L M) (C:Af) (c:Int) (s:Aj):G8 (Ea L M C c s).2:=by
 unfold Ea;split
 ·unfold G8;simp only;omega
 ·split
  ·unfold G8;simp only;omega
  ·exact UW r _
theorem Aqe {L:Ac} {M:List (Int×Int)} (r:BM L M) (C G X:Af) (H R:List Bool) {i:Nat} (hi:i<L.length):G8 (CY L M C G X H R i).1:=by
 have hn:=r.n i hi;unfold CY;dsimp only
 repeat' split
 all_goals first
  |exact UW r _
  |exact Ach r _ _ _
  |(unfold G8;simp only;omega)
theorem getD_set_ne {α:Type} {d v:α} {l:List α} {i j:Nat} (h:i≠j):(l.set i v).getD j d=l.getD j d:=by simp[Bt,List.getElem?_set_ne h]
theorem Nc {α:Type} {d v:α} {l:List α} {i:Nat} (h:i<l.length):(l.set i v).getD i d=v:=by simp[Bt,h]
theorem Afi (U:List Bool) (c:Nat) (z:Bool) (h:c<U.length):E4 (rB U) c 0 [AV.bool z]=rB (U.set c z):=by
 funext j;unfold E4 rB;cases hb:Nat.beq j c with
 |true=>have:=D4 hb;subst this;simp[MK,h,Bt]
 |false=>
  have r:c≠j:=λe=>by subst e;simp at hb
  simp[Bt,List.getElem?_set_ne r]
theorem Afl (U:Af) (c:Nat) (z:Int) (h:c<U.length):E4 (Aq U) c 0 [AV.int .i64 z]=Aq (U.set c z):=funext λj=>Afk U c z h j
theorem Al0 {L:Ac} {M:List (Int×Int)} {C X X':Af} {H H':List Bool} {i:Nat} (x:X.getD (A8 L i 0) 0=X'.getD (A8 L i 0) 0) (r:X.getD (A8 L i 1) 0=X'.getD (A8 L i 1) 0) (z:H.getD (A8 L i 0) false=H'.getD (A8 L i 0) false) (y:H.getD (A8 L i 1) false=H'.getD (A8 L i 1) false):CC L M C X H i=CC L M C X' H' i:=by
 unfold CC F8 JK;dsimp only
 rw[x,r,z,y]
theorem AeX {L:Ac} {M:List (Int×Int)} {C G X X':Af} {H H' R R':List Bool} {i:Nat} (y:X.getD (A8 L i 0) 0=X'.getD (A8 L i 0) 0) (z:∀k,k<(L.getD i Ab.none).kids.length->H.getD (A8 L i k) false=H'.getD (A8 L i k) false) (B:R.getD i false=R'.getD i false):CY L M C G X H R i=CY L M C G X' H' R' i:=by
 have e:(∃j,j<(L.getD i Ab.none).kids.length/\H.getD ((L.getD i Ab.none).kids.getD j 0).toNat false=false)=(∃j,j<(L.getD i Ab.none).kids.length/\H'.getD ((L.getD i Ab.none).kids.getD j 0).toNat false=false):=propext ⟨λ⟨j,r,x⟩=>⟨j,r,(z j r).symm.trans x⟩,λ⟨j,r,x⟩=>⟨j,r,(z j r).trans x⟩⟩;unfold CY;dsimp only
 simp only[e,B,y]
theorem tL {L:Ac} (r:Good L) {i j k:Nat} (hi:i<L.length) (y:j<i) (x:0<j):A8 L i k≠j:=by
 unfold A8;rcases D9 k (L.getD i Ab.none).kids.length with h|h
 ·obtain⟨B,z⟩:=r.Gn i hi _ (G6 h);omega
 ·rw[show(L.getD i Ab.none).kids.getD k 0=0 by rw[Bt,Ja h];rfl];simp;omega
theorem tK {L:Ac} (r:Good L) {i k:Nat} (hi:i<L.length) (x:0<i):A8 L i k≠i:=by
 unfold A8;rcases D9 k (L.getD i Ab.none).kids.length with h|h
 ·obtain⟨z,y⟩:=r.Gn i hi _ (G6 h);omega
 ·rw[show(L.getD i Ab.none).kids.getD k 0=0 by rw[Bt,Ja h];rfl];simp;omega
theorem bM {L:Ac} {x:LN} (z:Good L) (y:BM L x.M) (B:Hm L x.C):GW L x L.length (List.replicate L.length 0) (List.replicate L.length false) (List.replicate L.length false):=by
 have r:∀j,(List.replicate L.length (0:Int)).getD j 0=0:=λj=>by rw[Bt,List.getElem?_replicate];split<;>rfl
 have R:∀j,(List.replicate L.length false).getD j false=false:=λj=>by rw[Bt,List.getElem?_replicate];split<;>rfl
 exact⟨AH _,⟨z,y,B,by simp,by simp,by simp,λj=>by rw[r];omega⟩,λj K J=>by omega,λj K J=>by omega,λj _=>⟨r j,R j⟩⟩
theorem Agp {L:Ac} {x:LN} {j:Nat} {X:Af} {H R:List Bool} (h:GW L x (j+1) X H R) (ht:B9 (L.getD j Ab.none).kind=false):GW L x j X H (R.set j (CC L x.M x.C X H j)):=by
 have B:j<L.length:=h.le;have ok:=h.ok;refine⟨by omega,⟨ok.CO,ok.m,ok.c,ok.xl,ok.hl,by rw[Og];exact ok.rl,ok.b⟩,λi r z=>?_,λi r z y=>?_,λi hi=>?_⟩
 ·rcases Nat.eq_or_lt_of_le r with e|r
  ·subst e;rw[Nc (by rw[ok.rl];exact B)]
  ·rw[getD_set_ne (by omega)];exact h.right i r z
 ·rcases Nat.eq_or_lt_of_le r with e|r
  ·subst e;rw[ht]at y;cases y
  ·rw[h.term i r z y];exact AeX rfl (λ_ _=>rfl) (getD_set_ne (by omega)).symm
 ·exact h.no i (by rcases hi with hi|hi;exact .inl (by omega);exact .inr hi)
theorem Agq {L:Ac} {x:LN} {j:Nat} {X:Af} {H R:List Bool} (h:GW L x (j+1) X H R) (ht:B9 (L.getD j Ab.none).kind=true):GW L x j (X.set j (CY L x.M x.C x.G X H (R.set j (CC L x.M x.C X H j)) j).1) (H.set j (CY L x.M x.C x.G X H (R.set j (CC L x.M x.C X H j)) j).2) (R.set j (CC L x.M x.C X H j)):=by
 have S:j<L.length:=h.le;have ok:=h.ok;have z:0<j:=by
  rcases Nat.eq_zero_or_pos j with e|e
  ·subst e;rw[ok.CO.root]at ht;cases ht
  ·exact e
 have V:=Aqe ok.m x.C x.G X H (R.set j (CC L x.M x.C X H j)) S;generalize J:R.set j (CC L x.M x.C X H j)=R' at*;generalize U:CY L x.M x.C x.G X H R' j=t at*;have Z:∀i,j<=i->i<L.length->CC L x.M x.C (X.set j t.1) (H.set j t.2) i=CC L x.M x.C X H i:=λi r y=>by
  have B:∀k,j≠A8 L i k:=λk=>by
   rcases Nat.eq_or_lt_of_le r with e|r
   ·subst e;exact(tK ok.CO y z).symm
   ·exact(tL ok.CO y r z).symm
  exact Al0 (getD_set_ne (B 0)) (getD_set_ne (B 1)) (getD_set_ne (B 0)) (getD_set_ne (B 1))
 have Y:∀i,j<=i->i<L.length->∀K,K.getD i false=R'.getD i false->CY L x.M x.C x.G X H K i=CY L x.M x.C x.G (X.set j t.1) (H.set j t.2) R' i:=λi r y K hr=>by
  have B:∀k,j≠A8 L i k:=λk=>by
   rcases Nat.eq_or_lt_of_le r with e|r
   ·subst e;exact(tK ok.CO y z).symm
   ·exact(tL ok.CO y r z).symm
  exact AeX (getD_set_ne (B 0)).symm (λk _=>(getD_set_ne (B k)).symm) hr
 refine⟨by omega,⟨ok.CO,ok.m,ok.c,by rw[Og];exact ok.xl,by rw[Og];exact ok.hl,by rw[<-J,Og];exact ok.rl,λi=>?_⟩,λi r y=>?_,λi r y h3=>?_,λi hi=>?_⟩
 ·by_cases e:j=i
  ·subst e;rw[Nc (by rw[ok.xl];exact S)];unfold G8 at V;omega
  ·rw[getD_set_ne e];exact ok.b i
 ·rw[Z i r y,<-J];rcases Nat.eq_or_lt_of_le r with e|r
  ·subst e;rw[Nc (by rw[ok.rl];exact S)]
  ·rw[getD_set_ne (by omega)];exact h.right i r y
 ·rcases Nat.eq_or_lt_of_le r with e|W
  ·subst e;rw[Nc (by rw[ok.xl];exact S),Nc (by rw[ok.hl];exact S),<-Y j (AH _) S R' rfl,U]
  ·rw[getD_set_ne (by omega),getD_set_ne (by omega),h.term i W y h3];exact Y i r y R (by rw[<-J,getD_set_ne (by omega)])
 ·have e:j≠i:=by
   rcases hi with hi|hi
   ·omega
   ·intro e;subst e;rw[ht]at hi;cases hi
  rw[getD_set_ne e,getD_set_ne e];exact h.no i (by rcases hi with hi|hi;exact .inl (by omega);exact .inr hi)
def htA:CZ:=[(51,SZ Tryz.prog pj),(52,SZ Tryz.prog q4)]
theorem Aiu:Es Tryz.prog htA:=Dj (UA AkT) (Dj (UA Ak5) (UC _))
def yq (L:Ac) (x:LN):Ctx:={P:=Tryz.prog,tb:=[(29,PK)],ht:=htA,AA:=Aiu,lp:=λf r=>cond (Nat.beq f 28) (cond (Nat.beq r 3) (some (AfP L x)) none) none,cut:=λ_ _=>none}
@[reducible] def my:Nat×Af×List Bool×List Bool->Ac->Prop:=λ(a:Nat×Af×List Bool×List Bool) (r:Ac)=>Int.NonNeg ((↑a.1:Int)-1-0)/\Int.NonNeg ((CH r)-((↑a.1:Int)-1+1))
@[reducible] def mz:Nat×Af×List Bool×List Bool->Prop:=λ(a:Nat×Af×List Bool×List Bool)=>Aa/\Ae (EB a.2.1)/\Ar λ(i:Nat)=>AD i (EB a.2.1)->(Aa/\Ae (getD (a.2.1) i (0:Int)))/\True
def Vw (a:List Bool×List Bool):=List.length (Prod.fst (a))
@[reducible] def nD:Nat×Af×List Bool×List Bool->Prop:=λ(a:Nat×Af×List Bool×List Bool)=>Aa/\Ae (Vw a.2.2)/\Ar λ(i:Nat)=>AD i (Vw a.2.2)->Ae (getD (Prod.fst (a.2.2)) i false)/\True
@[reducible] def WG:Ac->Prop:=λ(L:Ac)=>True/\Dl L
def gE (a:Ac) (b:LN):=((((((((WG a/\Pv b)/\Aa/\Ae b.O.length/\Ar λ(J:Nat)=>AD J b.O.length->(Aa/\Ae (getD b.O J (0:Int)))/\True)/\Aa/\Ae b.Lo.length/\Ar λ(B:Nat)=>AD B b.Lo.length->(Aa/\Ae (getD b.Lo B (0:Int)))/\True)/\Aa/\Ae b.C.length/\Ar λ(z:Nat)=>AD z b.C.length->(Aa/\Ae (getD b.C z (0:Int)))/\True)/\Aa/\Ae b.G.length/\Ar λ(y:Nat)=>AD y b.G.length->(Aa/\Ae (getD b.G y (0:Int)))/\True)/\Aa/\Ae b.Co.length/\Ar λ(x:Nat)=>AD x b.Co.length->(Aa/\Ae (getD b.Co x (0:Int)))/\True)/\Aa/\Ae b.E.length/\Ar λ(r:Nat)=>AD r b.E.length->(Aa/\Ae (getD b.E r (0:Int)))/\True)/\Pw b)
@[reducible] def nE:Ac->LN->Prop:=λ(L:Ac) (x:LN)=>(gE L x)/\Aa/\Ae x.main
@[reducible] def nF:Ac->LN->Prop:=λ(L:Ac) (x:LN)=>(Aa/\Aa/\Aa/\Aa/\WG L)/\(Aa/\Aa/\Aa/\Aa/\(Sy x)/\Aa/\Ae x.main)/\(Aa/\True)/\(Aa/\True)/\(Aa/\True)/\True
@[reducible] def nG:Ac->LN->Prop:=λ(L:Ac) (x:LN)=>(Dl L/\True)/\(Vd x)/\Cm/\Fh/\True/\(Ae (some 17)/\Aa)/\True
@[reducible] def nA:Ac->LN->Nat×Af×List Bool×List Bool->Nat×Af×List Bool×List Bool->Prop:=λ(L:Ac) (x:LN) (a r:Nat×Af×List Bool×List Bool)=>(Aa/\(↑a.1:Int)-1-1=(↑r.1:Int)-1)/\nG L x
def SQ (a:List Bool×List Bool):=List.length (Prod.snd (a))
@[reducible] def nB:Ac->LN->Nat×Af×List Bool×List Bool->Nat×Af×List Bool×List Bool->Prop:=λ(L:Ac) (x:LN) (a r:Nat×Af×List Bool×List Bool)=>Aa/\Aa/\Aa/\Aa/\((nE L x/\Ae (some 19)/\EB a.2.1=EB r.2.1/\Aa)/\some 20=some (19+1)/\Vw a.2.2=Vw r.2.2/\Aa)/\some 21=some (19+2)/\SQ a.2.2=SQ r.2.2/\Aa
def Cd (a:Nat):=Int.toNat ((↑a:Int)-1)
def FF (a:LN):=AV.vec 1 a.Lo.length (Aq a.Lo)
def FG (a:LN):=AV.vec 1 a.Co.length (Aq a.Co)
def FA (a:LN):=AV.vec 1 a.O.length (Aq a.O)
def FB (a:LN):=AV.vec 1 a.G.length (Aq a.G)
def FC (a:LN):=AV.vec 1 a.E.length (Aq a.E)
def FE (a:LN):=AV.vec 1 a.C.length (Aq a.C)
def Fz (a:LN):=AV.vec 2 a.M.length (rM a.M)
def Yq:=AZ [(21,21),(20,20),(19,19),(17,17),(1,1),(0,0)]
@[reducible] def nC:Ac->LN->Nat×Af×List Bool×List Bool->Nat×Af×List Bool×List Bool->Prop:=λ(L:Ac) (x:LN) (a r:Nat×Af×List Bool×List Bool)=>(Aa/\Aa/\Aa/\Aa/\SQ a.2.2=SQ r.2.2/\Ar λ(i:Nat)=>B7 i (SQ a.2.2)->Yq (rB (Prod.snd (r.2.2)) i) (E4 (rB (Prod.snd (a.2.2))) (Cd a.1) 0 [AV.bool (Ay (IZ [Eo L,Fz x,FA x,FF x,FE x,FB x,FG x,FC x,Cz x,CL x,AV.vec 1 (EB a.2.1) (Aq (a.2.1)),AV.vec 1 (Vw a.2.2) (rB (Prod.fst (a.2.2))),AV.vec 1 (SQ a.2.2) (rB (Prod.snd (a.2.2)))] (Cd a.1)))] i))/\nF L x
def DO (a:List Bool):=AV.vec 1 (List.length (a)) (rB (a))
def CQ (a:List Bool):=List.length (a)
def He (a:Ac) (b:Nat):=getD a (Cd b) Ab.none
def GM (a:Nat×Af×List Bool×List Bool) (b:Af):=AV.vec 1 a.2.1.length (Aq b)
def KM (a:Nat):=Ap (Bf .i64 ((↑a:Int)-1-1))
def HW (a:Nat):=((↑a:Int)-1)
def Yg (a:List Bool):=(Aa/\Ae (CQ a)/\Ar λ(r:Nat)=>AD r (CQ a)->Ae (getD (a) r false)/\True)
def LA (a:List Bool) (b:Nat):=E4 (rB (a)) (Cd b) 0
def uo (a:Ac):=Ap (decide ((0:Int)<=Int.ofNat a.length/\Int.ofNat a.length<=Int.ofNat a.length/\Int.ofNat a.length<=9223372036854775807/\(↑1:Int)*Int.ofNat a.length<=281474976710656))
def vG (a:Ac) (b:List Bool):=(Aa/\Aa/\Aa/\Aa/\CT a*1=CQ b/\Ar λ(r:Nat)=>B7 r (CT a*1)->false=getD (b) r false/\True)
def QG (a:List Bool):=AV.vec 1 (CQ a)
def NO (a:LN):=Pw a
def NX (a:LN):=Pv a
theorem Ams:∀(L:Ac) (x:LN),Good L->BM L x.M->(GL x L)->GB L x->Vq L (uo L (uo L ((Yr/\True)/\Ap (Bf .i64 (CX L-1)) ((∃(K:Nat×Af×List Bool×List Bool),GW L x K.1 K.2.1 (K.2.2.1) (K.2.2.2)/\Aa/\((Aa/\CX L-1=(↑K.1:Int)-1)/\nG L x)/\(Aa/\Aa/\Aa/\Aa/\((nE L x/\Ae (some 7)/\CT L=K.2.1.length/\Aa)/\Ae (some 11)/\CT L=CQ K.2.2.1/\Aa)/\Ae (some 15)/\CT L=CQ K.2.2.2/\Aa)/\(Aa/\Aa/\Aa/\Aa/\CT L*1=K.2.1.length/\Ar λ(i:Nat)=>B7 i (CT L*1)->(Aa/\(0:Int)=DG K.2.1 i)/\True)/\(vG L K.2.2.1)/\(vG L K.2.2.2)/\nF L x)/\∀(r:Nat×Af×List Bool×List Bool),GW L x r.1 r.2.1 (r.2.2.1) (r.2.2.2)->Ag (!AP (HW r.1) (0:Int)) (((bif bif bif Nat.ble (r.2.1.length*1) r.2.1.length then B1 1 r.2.1.length (Aq r.2.1)else false then bif bif Nat.ble (CQ r.2.2.1*1) (CQ r.2.2.1)then B1 1 (CQ r.2.2.1) (rB (r.2.2.1))else false then bif bif Nat.ble (CQ r.2.2.2*1) (CQ r.2.2.2)then B1 1 (CQ r.2.2.2) (rB (r.2.2.2))else false then true else false else false else false then true else false)=true/\(Dl L/\NX x/\(Lr x)/\(Lp x)/\(Lm x)/\(Lt x)/\(Lq x)/\(Lu x)/\NO x/\(LC x)/\mz r/\nD r/\(Yg r.2.2.2)/\True)/\(Aa/\Ae (HW r.1))/\True)/\(∃(J:Ac),∃(z:LN),∃(X:Af),∃(H:List Bool),∃(R:List Bool),[Eo L,Fz x,FA x,FF x,FE x,FB x,FG x,FC x,Cz x,CL x,GM r r.2.1,DO r.2.2.1,DO r.2.2.2]=Dw J z X H R/\Hp J z X H R/\my r J)/\Aa/\Ap (AO (HW r.1) (CQ r.2.2.2)) (Ap (bif Nat.ble (0+List.length [AV.bool (Ay (IZ [Eo L,Fz x,FA x,FF x,FE x,FB x,FG x,FC x,Cz x,CL x,GM r r.2.1,DO r.2.2.1,DO r.2.2.2] (Cd r.1)))]) (List.length (rB (r.2.2.2) (Cd r.1)))then Nat.ble (Cd r.1*1+0+List.length [AV.bool (Ay (IZ [Eo L,Fz x,FA x,FF x,FE x,FB x,FG x,FC x,Cz x,CL x,GM r r.2.1,DO r.2.2.1,DO r.2.2.2] (Cd r.1)))]) (CQ r.2.2.2)else false) ((((True/\True)/\True)/\((True/\True)/\True)/\((Ae (AV.AR (19+2) (CQ r.2.2.2) 1)/\True)/\True)/\True)/\Ap (AO (HW r.1) L.length) (True/\Ag (Ay (B9 (Ab.kind (He L r.1)))) (((bif bif bif Nat.ble (r.2.1.length*1) r.2.1.length then B1 1 r.2.1.length (Aq r.2.1)else false then bif bif Nat.ble (CQ r.2.2.1*1) (CQ r.2.2.1)then B1 1 (CQ r.2.2.1) (rB (r.2.2.1))else false then bif bif Nat.ble (CQ r.2.2.2*1) (CQ r.2.2.2)then B1 1 (CQ r.2.2.2) (LA r.2.2.2 r.1 [AV.bool (Ay (IZ [Eo L,Fz x,FA x,FF x,FE x,FB x,FG x,FC x,Cz x,CL x,GM r r.2.1,DO r.2.2.1,DO r.2.2.2] (Cd r.1)))])else false then true else false else false else false then true else false)=true/\(Dl L/\NX x/\(Lr x)/\(Lp x)/\(Lm x)/\(Lt x)/\(Lq x)/\(Lu x)/\NO x/\(LC x)/\mz r/\nD r/\(Aa/\Ae (CQ r.2.2.2)/\Ar λ(i:Nat)=>AD i (CQ r.2.2.2)->AZ [] (LA r.2.2.2 r.1 [AV.bool (Ay (IZ [Eo L,Fz x,FA x,FF x,FE x,FB x,FG x,FC x,Cz x,CL x,GM r r.2.1,DO r.2.2.1,DO r.2.2.2] (Cd r.1)))] i) (LA r.2.2.2 r.1 [AV.bool (Ay (IZ [Eo L,Fz x,FA x,FF x,FE x,FB x,FG x,FC x,Cz x,CL x,GM r r.2.1,DO r.2.2.1,DO r.2.2.2] (Cd r.1)))] i))/\True)/\(Aa/\Ae (HW r.1))/\True)/\(∃(J:Ac),∃(z:LN),∃(X:Af),∃(H:List Bool),∃(R:List Bool),[Eo L,Fz x,FA x,FF x,FE x,FB x,FG x,FC x,Cz x,CL x,GM r r.2.1,DO r.2.2.1,QG r.2.2.2 (LA r.2.2.2 r.1 [AV.bool (Ay (IZ [Eo L,Fz x,FA x,FF x,FE x,FB x,FG x,FC x,Cz x,CL x,GM r r.2.1,DO r.2.2.1,DO r.2.2.2] (Cd r.1)))])]=Dw J z X H R/\Hp J z X H R/\GB J z/\my r J)/\Aa/\Ap (AO (HW r.1) r.2.1.length) (Ap (bif Nat.ble (0+List.length [AV.int .i64 (AF (Prod.fst (MN [Eo L,Fz x,FA x,FF x,FE x,FB x,FG x,FC x,Cz x,CL x,GM r r.2.1,DO r.2.2.1,QG r.2.2.2 (LA r.2.2.2 r.1 [AV.bool (Ay (IZ [Eo L,Fz x,FA x,FF x,FE x,FB x,FG x,FC x,Cz x,CL x,GM r r.2.1,DO r.2.2.1,DO r.2.2.2] (Cd r.1)))])] (Cd r.1))))]) (List.length (Aq r.2.1 (Cd r.1)))then Nat.ble (Cd r.1*1+0+List.length [AV.int .i64 (AF (Prod.fst (MN [Eo L,Fz x,FA x,FF x,FE x,FB x,FG x,FC x,Cz x,CL x,GM r r.2.1,DO r.2.2.1,QG r.2.2.2 (LA r.2.2.2 r.1 [AV.bool (Ay (IZ [Eo L,Fz x,FA x,FF x,FE x,FB x,FG x,FC x,Cz x,CL x,GM r r.2.1,DO r.2.2.1,DO r.2.2.2] (Cd r.1)))])] (Cd r.1))))]) r.2.1.length else false) (Ap (AO (HW r.1) (CQ r.2.2.1)) (Ap (bif Nat.ble (0+List.length [AV.bool (Ay (Prod.snd (MN [Eo L,Fz x,FA x,FF x,FE x,FB x,FG x,FC x,Cz x,CL x,GM r r.2.1,DO r.2.2.1,QG r.2.2.2 (LA r.2.2.2 r.1 [AV.bool (Ay (IZ [Eo L,Fz x,FA x,FF x,FE x,FB x,FG x,FC x,Cz x,CL x,GM r r.2.1,DO r.2.2.1,DO r.2.2.2] (Cd r.1)))])] (Cd r.1))))]) (List.length (rB (r.2.2.1) (Cd r.1)))then Nat.ble (Cd r.1*1+0+List.length [AV.bool (Ay (Prod.snd (MN [Eo L,Fz x,FA x,FF x,FE x,FB x,FG x,FC x,Cz x,CL x,GM r r.2.1,DO r.2.2.1,QG r.2.2.2 (LA r.2.2.2 r.1 [AV.bool (Ay (IZ [Eo L,Fz x,FA x,FF x,FE x,FB x,FG x,FC x,Cz x,CL x,GM r r.2.1,DO r.2.2.1,DO r.2.2.2] (Cd r.1)))])] (Cd r.1))))]) (CQ r.2.2.1)else false) ((DV/\DV/\DV/\((Ae (AV.AR (19+1) (CQ r.2.2.1) 1)/\Ae (AV.AR 19 r.2.1.length 1)/\True)/\True)/\True)/\KM r.1 (∃(B:Nat×Af×List Bool×List Bool),GW L x B.1 B.2.1 (B.2.2.1) (B.2.2.2)/\AD B.1 r.1/\Aa/\nA L x r B/\nB L x r B/\(Aa/\Aa/\Aa/\Aa/\r.2.1.length=B.2.1.length/\Ar λ(i:Nat)=>B7 i r.2.1.length->Yq (Aq B.2.1 i) (E4 (Aq r.2.1) (Cd r.1) 0 [AV.int .i64 (AF (Prod.fst (MN [Eo L,Fz x,FA x,FF x,FE x,FB x,FG x,FC x,Cz x,CL x,GM r r.2.1,DO r.2.2.1,QG r.2.2.2 (LA r.2.2.2 r.1 [AV.bool (Ay (IZ [Eo L,Fz x,FA x,FF x,FE x,FB x,FG x,FC x,Cz x,CL x,GM r r.2.1,DO r.2.2.1,DO r.2.2.2] (Cd r.1)))])] (Cd r.1))))] i))/\(Aa/\Aa/\Aa/\Aa/\CQ r.2.2.1=CQ B.2.2.1/\Ar λ(i:Nat)=>B7 i (CQ r.2.2.1)->Yq (rB (B.2.2.1) i) (LA r.2.2.1 r.1 [AV.bool (Ay (Prod.snd (MN [Eo L,Fz x,FA x,FF x,FE x,FB x,FG x,FC x,Cz x,CL x,GM r r.2.1,DO r.2.2.1,QG r.2.2.2 (LA r.2.2.2 r.1 [AV.bool (Ay (IZ [Eo L,Fz x,FA x,FF x,FE x,FB x,FG x,FC x,Cz x,CL x,GM r r.2.1,DO r.2.2.1,DO r.2.2.2] (Cd r.1)))])] (Cd r.1))))] i))/\nC L x r B)))))) (KM r.1 (∃(B:Nat×Af×List Bool×List Bool),GW L x B.1 B.2.1 (B.2.2.1) (B.2.2.2)/\AD B.1 r.1/\Aa/\nA L x r B/\nB L x r B/\(Aa/\Aa/\Aa/\Aa/\r.2.1.length=B.2.1.length/\Ar λ(i:Nat)=>B7 i r.2.1.length->(Aa/\DG r.2.1 i=DG B.2.1 i)/\True)/\(Aa/\Aa/\Aa/\Aa/\CQ r.2.2.1=CQ B.2.2.1/\Ar λ(i:Nat)=>B7 i (CQ r.2.2.1)->getD (r.2.2.1) i false=getD (B.2.2.1) i false/\True)/\nC L x r B)))))) (∃(z:Af×List Bool×List Bool),GW L x 0 z.1 z.2.1 z.2.2/\Ap (bif bif Nat.ble (r.2.1.length*1) r.2.1.length then B1 1 r.2.1.length (Aq r.2.1)else false then bif bif Nat.ble (CQ r.2.2.1*1) (CQ r.2.2.1)then B1 1 (CQ r.2.2.1) (rB (r.2.2.1))else false then bif bif Nat.ble (CQ r.2.2.2*1) (CQ r.2.2.2)then B1 1 (CQ r.2.2.2) (rB (r.2.2.2))else false then true else false else false else false) (Dl L/\NX x/\(Lr x)/\(Lp x)/\(Lm x)/\(Lt x)/\(Lq x)/\(Lu x)/\NO x/\(LC x)/\(Aa/\r.2.1.length=z.1.length/\Ar λ(i:Nat)=>AD i r.2.1.length->(Aa/\DG r.2.1 i=DG z.1 i)/\True)/\(Aa/\CQ r.2.2.1=z.2.1.length/\Ar λ(i:Nat)=>AD i (CQ r.2.2.1)->getD (r.2.2.1) i false=getD z.2.1 i false/\True)/\(Aa/\CQ r.2.2.2=z.2.2.length/\Ar λ(i:Nat)=>AD i (CQ r.2.2.2)->getD (r.2.2.2) i false=getD z.2.2 i false/\True)/\True))))))
:=by
 delta AD Cd DO CT B7 Cz DV GL Lp Lq Eo Lr Lt CQ FF Lu FG Lm FA FB FC FE He DG Fz CX Vq CL GM KM HW Yg LA uo Yr Dl Yq vG LC QG NO NX;intro L x hG hM hC hT;have U:Good L:=hG;have S:BM L x.M:=hM;have V:Hm L x.C:=hC;have ab:GB L x:=hT;have ad:=S.len;have hp:=U.pos;simp only[Bq,my,mz,Pv,nD,Pw,Iy,WG,nE,nF,nG,nA,nB,nC,CH,AD,EB,C7,Vw,O1,Jy,Bc,Cl,Hg,Dl,gE,Sy,Vd,Cm,Fh,SQ,Cd,B7,Cz,Eo,FF,FG,FA,FB,FC,FE,Fz,CL,Yq];have pf:∀(X:Af) (H R:List Bool),[AV.vec 6 L.length (AE L),AV.vec 2 x.M.length (rM x.M),AV.vec 1 x.O.length (Aq x.O),AV.vec 1 x.Lo.length (Aq x.Lo),AV.vec 1 x.C.length (Aq x.C),AV.vec 1 x.G.length (Aq x.G),AV.vec 1 x.Co.length (Aq x.Co),AV.vec 1 x.E.length (Aq x.E),AV.vec 4 x.Fs.length (Fl x.Fs),AV.int IntKind.i64 x.main,AV.vec 1 X.length (Aq X),AV.vec 1 H.length (rB H),AV.vec 1 R.length (rB R)]=Dw L x X H R:=λ_ _ _=>rfl;simp only[IZ,MN,pf,cE,TX,bY,oX,T3,TW,o6];refine Am (BF (by omega)) (Am (BF (by omega)) (Am (BF (by omega)) (Am (AU.2 (by omega)) ⟨⟨(L.length,List.replicate L.length 0,List.replicate L.length false,List.replicate L.length false),bM U S V,rfl,⟨⟨by simp,by simp⟩,by simp⟩,⟨by simp,⟨λi _=>?_⟩⟩,⟨by simp,⟨λi _=>?_⟩⟩,by simp,⟨λi _=>?_⟩⟩,λy hy=>?_⟩)))
 ·exact((bM U S V).no i (by by_cases h:i<L.length;exact .inl h;right;rw[show L.getD i Ab.none=Ab.none by rw[Bt,Ja (by omega)];rfl];decide)).1.symm
 ·exact((bM U S V).no i (by by_cases h:i<L.length;exact .inl h;right;rw[show L.getD i Ab.none=Ab.none by rw[Bt,Ja (by omega)];rfl];decide)).2.symm
 ·exact((bM U S V).no i (by by_cases h:i<L.length;exact .inl h;right;rw[show L.getD i Ab.none=Ab.none by rw[Bt,Ja (by omega)];rfl];decide)).2.symm
 obtain⟨m,X,H,R⟩:=y;simp only at hy⊢;have ok:=hy.ok;have ae:=ok.xl;have ag:=ok.hl;have af:=ok.rl;have Y:∀l:Af,B1 1 l.length (Aq l)=true:=λl=>DL λ_ _=>rfl;have W:∀l:List Bool,B1 1 l.length (rB l)=true:=λl=>DL λ_ _=>rfl;refine Ao (λh=>?_) λh=>?_
 ·rw[BZ,Bl]at h;obtain⟨j,rfl⟩:∃j,m=j+1:=⟨m-1,by omega⟩;have e1:((j+1:Nat):Int)-1=j:=by omega
  have hj:j<L.length:=hy.le;simp only[e1,Int.toNat_natCast,Afi R j (CC L x.M x.C X H j) (by omega)];have Z:[AV.vec 6 L.length (AE L),AV.vec 2 x.M.length (rM x.M),AV.vec 1 x.O.length (Aq x.O),AV.vec 1 x.Lo.length (Aq x.Lo),AV.vec 1 x.C.length (Aq x.C),AV.vec 1 x.G.length (Aq x.G),AV.vec 1 x.Co.length (Aq x.Co),AV.vec 1 x.E.length (Aq x.E),AV.vec 4 x.Fs.length (Fl x.Fs),AV.int IntKind.i64 x.main,AV.vec 1 X.length (Aq X),AV.vec 1 H.length (rB H),AV.vec 1 R.length (rB (R.set j (CC L x.M x.C X H j)))]=Dw L x X H (R.set j (CC L x.M x.C X H j)):=by unfold Dw vB vI;rw[Og]
  simp only[MN,Z,cE,TX,bY,oX,T3,TW,o6];simp only[Afl X j _ (show j<X.length by omega),Afi H j _ (show j<H.length by omega)];have aa:Hp L x X H (R.set j (CC L x.M x.C X H j)):=⟨ok.CO,ok.m,ok.c,ok.xl,ok.hl,by rw[Og];exact ok.rl,ok.b⟩;have j0:(0:Int)<=j:=by omega
  have j1:(j:Int)+1<=L.length:=by omega
  refine⟨by rw[Y,W,W];rfl,⟨L,x,X,H,R,rfl,ok,j0,j1⟩,Am (AK.2 (by omega)) (Am ?_ (Am (AK.2 (by omega)) (Ao (λht=>⟨⟨?_,⟨λ_ _=>⟨rfl,trivial⟩⟩⟩,⟨L,x,X,H,_,rfl,aa,ab,j0,j1⟩,Am (AK.2 (by omega)) (Am ?_ (Am (AK.2 (by omega)) (Am ?_ (Am (AU.2 (by omega)) ⟨(j,X.set j (CY L x.M x.C x.G X H (R.set j (CC L x.M x.C X H j)) j).1,H.set j (CY L x.M x.C x.G X H (R.set j (CC L x.M x.C X H j)) j).2,R.set j (CC L x.M x.C X H j)),Agq hy ht,AH _,rfl,⟨⟨by simp,by simp⟩,by simp⟩,⟨by simp,⟨λi _=>⟨⟨rfl,rfl⟩,trivial⟩⟩⟩,⟨by simp,⟨λi _=>⟨rfl,trivial⟩⟩⟩,by simp,⟨λi _=>⟨rfl,trivial⟩⟩⟩))))⟩) λht=>Am (AU.2 (by omega)) ⟨(j,X,H,R.set j (CC L x.M x.C X H j)),Agp hy ht,AH _,rfl,⟨⟨rfl,rfl⟩,by simp⟩,⟨rfl,⟨λ_ _=>rfl⟩⟩,⟨rfl,⟨λ_ _=>rfl⟩⟩,by simp,⟨λi _=>⟨rfl,trivial⟩⟩⟩)))⟩
  ·rw[B4];exact⟨rfl,E5 (show j+0+1<=R.length by omega)⟩
  ·rw[Y,W];exact DL λ_ _=>rfl
  ·rw[B4];exact⟨rfl,E5 (show j+0+1<=X.length by omega)⟩
  ·rw[B4];exact⟨rfl,E5 (show j+0+1<=H.length by omega)⟩
 ·rw[BI,Bd]at h;obtain rfl:m=0:=by omega
  exact⟨(X,H,R),hy,Am (by rw[Y,W,W];rfl) ⟨⟨rfl,⟨λ_ _=>rfl⟩⟩,⟨rfl,⟨λ_ _=>rfl⟩⟩,rfl,⟨λ_ _=>rfl⟩⟩⟩
theorem Amr:∀(L:Ac) (x:LN),Good L->BM L x.M->Hm L x.C->GB L x->(A3 (yq L x) 60).call 28 [tree L,.agg x.row] .leaf 0 (L0 (λy:Af×List Bool×List Bool=>GW L x 0 y.1 y.2.1 y.2.2) λy=>.pv (Dw L x y.1 y.2.1 y.2.2)):=Eq.mpr (by kernel_rfl) Ams
def vL:H9:=λ_ args=>match args with
 | [.agg [.vec 6 n f],.agg q]=>some ⟨Af×List Bool×List Bool,(∃(L:Ac) (x:LN),n=L.length/\f=AE L/\q=x.row/\Good L/\BM L x.M/\Hm L x.C/\GB L x),λy=>∀(L:Ac) (x:LN),n=L.length->f=AE L->q=x.row->GW L x 0 y.1 y.2.1 y.2.2,λy=>.pv (.vec 6 n f::(q++[vI y.1,vB y.2.1,vB y.2.2]))⟩
 |_=>none
theorem PO {α:Type} {d:α} {l r:List α} (h:l.length=r.length) (y:∀i,l.getD i d=r.getD i d):l=r:=by apply List.ext_getElem h;intro i z x;have:=y i;rwa[Bt,Bt,Ce z,Ce x]at this
theorem Tb {l r:Af} (h:vI l=vI r):l=r:=by unfold vI at h;injection h with z y x;refine PO (d:=(0:Int)) y λi=>?_;have:=congrFun x i;injection this with a b;injection a
theorem AqD {l r:List (Int×Int)} (h:AV.vec 2 l.length (rM l)=AV.vec 2 r.length (rM r)):l=r:=by injection h with z y x;refine PO (d:=((0:Int),(0:Int))) y λi=>?_;have:=congrFun x i;injection this with a b;injection b with b c;injection a with _ a;injection b with _ b;exact Prod.ext a b
theorem AqC {l r:List A6} (h:AV.vec 4 l.length (Fl l)=AV.vec 4 r.length (Fl r)):l=r:=by injection h with U S R;refine PO (d:=A6.none) S λi=>?_;have:=congrFun R i;unfold Fl at this;generalize l.getD i A6.none=u at this;generalize r.getD i A6.none=v at this;obtain⟨L,K,J,B⟩:=u;obtain⟨z,v2,y,x⟩:=v;injection this with a b;injection b with b c;injection c with c d;injection d with d e;injection a with _ a;injection b with _ b;injection c with c;have d:B=x:=Tb d;have a:L=z:=a;have b:K=v2:=b;have c:J=y:=c;rw[a,b,c,d]
theorem vg {x y:LN} (h:x.row=y.row):x=y:=by obtain⟨x1,x2,x3,x4,Z,Y,W,V,x9⟩:=x;obtain⟨U,S,R,L,K,J,B,z,r⟩:=y;unfold LN.row at h;simp only at h;injection h with a h;injection h with b h;injection h with c h;injection h with d h;injection h with e h;injection h with f h;injection h with g h;injection h with k h;injection h with m h;have a:=AqD a;have b:=Tb b;have c:=Tb c;have d:=Tb d;have e:=Tb e;have f:=Tb f;have g:=Tb g;have k:=AqC k;injection m with _ m;subst a;subst b;subst c;subst d;subst e;subst f;subst g;subst k;subst m;rfl
theorem Akb:JG Tryz.prog 28 vL:=by
 refine MI (gl:=[]) (ng:=0) AS λH args rc r J=>?_;unfold vL at r;split at r
 ·rename_i n f q;injection r with r;subst r;obtain⟨L,x,rfl,rfl,rfl,R,K,S,hT⟩:=J;refine⟨AS,⟨FK L,Ph x,trivial⟩,yq L x,60,rfl,Cc,BD uB Bk,?_⟩;have:=Amr L x R K S hT;have e:(λy:Af×List Bool×List Bool=>GW L x 0 y.1 y.2.1 y.2.2)=λy=>∀(z:Ac) (B:LN),L.length=z.length->AE L=AE z->x.row=B.row->GW z B 0 y.1 y.2.1 y.2.2:=by funext y;exact propext ⟨λh z B W V U=>by have Z:=QR W V;have Y:=vg U;subst Z;subst Y;exact h,λh=>h L x rfl rfl rfl⟩
  rw[e]at this;exact this
 ·cases r
def MP (L:Ac) (M:List (Int×Int)) (X:Af) (i:Nat):Int:=if B9 (L.getD i Ab.none).kind=true then X.getD i 0 else CG L M i
def Kh (L:Ac) (R:List Bool):Nat->At
 |0=>[]
 |i+1=>if R.getD i false=true then Kh L R i else Kh L R i++[((L.getD i Ab.none).line,(L.getD i Ab.none).Av,8)]
structure Is (L:List Ab) (M:List (Int×Int)) (X:List Int) (R:List Bool) (i:Nat) (o:List Int) (w:List (Int×Int×Int)):Prop where
 le:i<=L.length
 ol:o.length=i
 wl:w.length<=i
 w:w=Kh L R i
 o:∀j,j<i->o.getD j 0=MP L M X j
structure Q5 (L:List Ab) (x:LN) (o:List Int) (w:List (Int×Int×Int)):Prop where
 q:∃(X:List Int) (H R:List Bool),GW L x 0 X H R/\(Kh L R L.length≠[]->o=[]/\w=Kh L R L.length)/\(Kh L R L.length=[]->w=[]/\o.length=L.length/\∀j,j<L.length->o.getD j 0=MP L x.M X j)
def SC5 (L:Ac) (x:LN):B0:={X:=Nat×Af×At,T:=λs _ y=>(7,.AR s.nx y.2.1.length 1)::(8,.AR (s.nx+1) y.2.2.length 3)::(9,.int .i64 y.1)::Ig s [0,1,2,3,4,5,6],H:=λs n0 y=>(s.nx,vZ y.2.1)::(s.nx+1,KT y.2.2)::dp s n0,nx:=λs _=>s.nx+2,I:=λs y=>∀cs,s.T.get 6=some (.pv cs)->Is L x.M (cX cs) (cR cs) y.1 y.2.1 y.2.2,m:=λy=>L.length-y.1}
def AdR:Pr:=[(28,vL)]
theorem Ama:Pt Tryz.prog AdR:=LI Akb (VM _)
def yx (L:Ac) (x:LN):Ctx:={P:=Tryz.prog,tb:=[(29,PK),(30,L8)],rt:=AdR,VL:=Ama,lp:=λf r=>cond (Nat.beq f 9) (cond (Nat.beq r 5) (some (SC5 L x)) none) none,cut:=λ_ _=>none}
theorem yP {L:Ac} {M:List (Int×Int)} {X:Af} {R:List Bool} {i:Nat} {o:Af} {w:At} (h:Is L M X R i o w):∀j,j<i+1->(o++[MP L M X i]).getD j 0=MP L M X j:=λj y=>by
 have r:=h.ol;rcases D9 j i with x|x
 ·rw[Xi (by omega)];exact h.o j x
 ·obtain rfl:j=o.length:=by omega
  rw[dQ,r]
theorem yQ {L:Ac} {M:List (Int×Int)} {X:Af} {R:List Bool} {i:Nat} {o:Af} {w:At} (h:Is L M X R i o w) (hi:i<L.length) (r:R.getD i false=true):Is L M X R (i+1) (o++[MP L M X i]) w:=by have x:=h.wl;exact⟨hi,by simp[h.ol],by omega,by rw[h.w,Kh,As r],yP h⟩
theorem yO {L:Ac} {M:List (Int×Int)} {X:Af} {R:List Bool} {i:Nat} {o:Af} {w:At} (h:Is L M X R i o w) (hi:i<L.length) (r:R.getD i false=false):Is L M X R (i+1) (o++[MP L M X i]) (w++[((L.getD i Ab.none).line,(L.getD i Ab.none).Av,8)]):=by have x:=h.wl;exact⟨hi,by simp[h.ol],by simp;omega,by rw[Kh,An (by rw[r];decide),<-h.w],yP h⟩
@[reducible] def nH:Nat×Af×At->Nat×Af×At->Prop:=λ(a r:Nat×Af×At)=>Ae (some 13)/\EB a.2.1+1=EB r.2.1/\Aa
@[reducible] def xn:Nat×Af×At->Prop:=λ(a:Nat×Af×At)=>EB a.2.1+1<=9223372036854775807/\(EB a.2.1+1)*8<=140737488355328
@[reducible] def nK:Ac->LN->Ac->LN->Prop:=λ(L:Ac) (x:LN) (a:Ac) (r:LN)=>L.length=a.length/\AE L=AE a/\x.M.length=r.M.length/\rM x.M=rM r.M/\[FA x,FF x,FE x,FB x,FG x,FC x,Cz x,CL x]=LN.rest r/\BM a r.M/\Good a
def gC (a:At) (b:At):=(Aa/\Aa/\Aa/\Aa/\List.length (a)*3=List.length (b)*3/\Ar λ(r:Nat)=>Nat.le (Nat.succ (r*3)) (List.length (a)*3)->(Aa/\Prod.fst (getD (a) r ((0:Int),(0:Int),(0:Int)))=Prod.fst (getD (b) r ((0:Int),(0:Int),(0:Int))))/\(Aa/\Prod.fst (Prod.snd (getD (a) r ((0:Int),(0:Int),(0:Int))))=Prod.fst (Prod.snd (getD (b) r ((0:Int),(0:Int),(0:Int)))))/\(Aa/\Prod.snd (Prod.snd (getD (a) r ((0:Int),(0:Int),(0:Int))))=Prod.snd (Prod.snd (getD (b) r ((0:Int),(0:Int),(0:Int)))))/\True)
@[reducible] def nL:Ac->LN->Nat×Af×At->Nat×Af×At->Prop:=λ(L:Ac) (x:LN) (a r:Nat×Af×At)=>(gC a.2.2 r.2.2)/\Px L x
@[reducible] def nM:Ac->LN->Af×List Bool×List Bool->Prop:=λ(L:Ac) (x:LN) (a:Af×List Bool×List Bool)=>(Dl L/\True)/\(Vd x)/\Cm/\Fh/\True/\True/\(Dl L/\NX x/\(Lr x)/\(Lp x)/\(Lm x)/\(Lt x)/\(Lq x)/\(Lu x)/\NO x/\(LC x)/\(Aa/\Ae a.1.length/\Ar λ(i:Nat)=>AD i a.1.length->(Aa/\Ae (DG a.1 i))/\True)/\(Yg a.2.1)/\(Yg a.2.2)/\True)/\True
@[reducible] def nN:Ac->LN->Af×List Bool×List Bool->Nat×Af×At->Nat×Af×At->Prop:=λ(L:Ac) (x:LN) (a:Af×List Bool×List Bool) (y r:Nat×Af×At)=>(Cb y.1 r.1)/\nM L x a
@[reducible] def nI:Ac->LN->Af×List Bool×List Bool->Nat×Af×At->Nat×Af×At->Prop:=λ(L:Ac) (x:LN) (a:Af×List Bool×List Bool) (y r:Nat×Af×At)=>(Ae (some 9)/\FT y.2.2+1=FT r.2.2/\Aa)/\nN L x a y r
@[reducible] def nJ:Ac->LN->Af×List Bool×List Bool->Nat×Af×At->Nat×Af×At->Prop:=λ(L:Ac) (x:LN) (a:Af×List Bool×List Bool) (y r:Nat×Af×At)=>(some 5=some (4+1)/\FT y.2.2=FT r.2.2/\Aa)/\nN L x a y r
def ft (a:LN):=[AV.vec 2 a.M.length (rM a.M),AV.vec 1 a.O.length (Aq a.O),AV.vec 1 a.Lo.length (Aq a.Lo),AV.vec 1 a.C.length (Aq a.C),AV.vec 1 a.G.length (Aq a.G),AV.vec 1 a.Co.length (Aq a.Co),AV.vec 1 a.E.length (Aq a.E),AV.vec 4 a.Fs.length (Fl a.Fs),AV.int .i64 a.main]
def Yn (a:Nat×Af×At):=Ap (bif bif Nat.ble (a.2.1.length*1) a.2.1.length then true else false then decide (xn a)else false)
def gN (a:Nat×Af×At):=Ap (bif bif Nat.ble (a.2.2.length*3) (a.2.2.length*3)then true else false then decide (a.2.2.length+1<=9223372036854775807/\(a.2.2.length+1)*24<=140737488355328)else false)
def SI (a:Ac) (b:LN) (c:Af) (d:List Bool) (e:List Bool):=some (AV.pv (Eo a::((ft b)++[vI c,vB d,vB e])))
def IX (a:Nat×Af×At):=a.2.1.length
def ga (a:Af×At) (b:Nat×Af×At) (c:At) (d:At):=(a.1.length=0/\(Aa/\b.2.2.length=a.2.length/\Ar λ(r:Nat)=>AD r b.2.2.length->(Aa/\HY c r=HY d r)/\(Aa/\HX c r=HX d r)/\(O6 c r d)/\True)/\True)
theorem AmC:∀(L:Ac) (x:LN),Good L->BM L x.M->(GL x L)->GB L x->(∃(K:Ac),∃(B:LN),L.length=K.length/\AE L=AE K/\(ft x)=LN.row B/\Good K/\BM K B.M/\(GL B K)/\GB K B)/\∀(B:Af×List Bool×List Bool),(∀(K:Ac) (r:LN),L.length=K.length->AE L=AE K->(ft x)=LN.row r->GW K r 0 B.1 B.2.1 B.2.2)->(∃(Z:Nat×Af×At),(∀(cs:Al),SI L x B.1 B.2.1 B.2.2=some (AV.pv cs)->Is L x.M (cX cs) (cR cs) Z.1 Z.2.1 Z.2.2)/\Aa/\(Z.2.1.length=0/\Z.2.2.length=0/\(Cr Z.1)/\nM L x B)/\(Aa/\True)/\(Aa/\True)/\Px L x)/\∀(r:Nat×Af×At),(∀(cs:Al),SI L x B.1 B.2.1 B.2.2=some (AV.pv cs)->Is L x.M (cX cs) (cR cs) r.1 r.2.1 r.2.2)->Ag (Dh r.1 (CX L)) (C6 r.1 L (Ap (D8 r.1 B.2.2.length) (Ag (!getD B.2.2 (B8 r.1) false) (gN r (Ap (D8 r.1 B.1.length) (True/\Ag (!Ay (B9 (Gc L r.1))) ((∃(K:Ac),∃(S:LN),nK L x K S)/\Yn r (Bj r.1 (∃(J:Nat×Af×At),(∀(cs:Al),SI L x B.1 B.2.1 B.2.2=some (AV.pv cs)->Is L x.M (cX cs) (cR cs) J.1 J.2.1 J.2.2)/\Dx L J.1 r.1/\Aa/\((Ae (some 15)/\IX r+1=J.2.1.length/\Aa)/\nI L x B r J)/\(Aa/\Aa/\Aa/\Aa/\(IX r+1)*1=J.2.1.length/\Ar λ(i:Nat)=>B7 i ((IX r+1)*1)->AZ [(1,1),(0,0),(5,9),(4,15)] (Aq J.2.1 i) (BA r.2.1.length (Aq r.2.1) (λ(S:Nat)=>[AV.int .i64 (AF (IM L x (↑r.1:Int)))]) i))/\(Aa/\Aa/\Aa/\Aa/\(r.2.2.length+1)*3=J.2.2.length*3/\Ar λ(i:Nat)=>HV i ((r.2.2.length+1)*3)->AZ [(1,1),(0,0),(5,9),(4,15)] (rD J.2.2 i) (BA r.2.2.length (rD r.2.2) (λ(x:Nat)=>[QB L r.1,QC L r.1,AV.int .i64 (8:Int)]) i))/\Px L x))) (Yn r (Bj r.1 (∃(J:Nat×Af×At),(∀(cs:Al),SI L x B.1 B.2.1 B.2.2=some (AV.pv cs)->Is L x.M (cX cs) (cR cs) J.1 J.2.1 J.2.2)/\Dx L J.1 r.1/\Aa/\(nH r J/\nI L x B r J)/\(Aa/\Aa/\Aa/\Aa/\(IX r+1)*1=J.2.1.length/\Ar λ(i:Nat)=>B7 i ((IX r+1)*1)->AZ [(1,1),(0,0),(5,9),(4,13)] (Aq J.2.1 i) (BA r.2.1.length (Aq r.2.1) (λ(x:Nat)=>[NU B.1 r.1]) i))/\(Aa/\Aa/\Aa/\Aa/\(r.2.2.length+1)*3=J.2.2.length*3/\Ar λ(i:Nat)=>HV i ((r.2.2.length+1)*3)->AZ [(1,1),(0,0),(5,9),(4,13)] (rD J.2.2 i) (BA r.2.2.length (rD r.2.2) (λ(x:Nat)=>[QB L r.1,QC L r.1,AV.int .i64 (8:Int)]) i))/\Px L x)))))) (Ap (D8 r.1 B.1.length) (True/\Ag (!Ay (B9 (Gc L r.1))) ((∃(K:Ac),∃(S:LN),nK L x K S)/\Yn r (Bj r.1 (∃(J:Nat×Af×At),(∀(cs:Al),SI L x B.1 B.2.1 B.2.2=some (AV.pv cs)->Is L x.M (cX cs) (cR cs) J.1 J.2.1 J.2.2)/\Dx L J.1 r.1/\Aa/\(nH r J/\nJ L x B r J)/\(Aa/\Aa/\Aa/\Aa/\(IX r+1)*1=J.2.1.length/\Ar λ(i:Nat)=>B7 i ((IX r+1)*1)->AZ [(1,1),(0,0),(5,5),(4,13)] (Aq J.2.1 i) (BA r.2.1.length (Aq r.2.1) (λ(S:Nat)=>[AV.int .i64 (AF (IM L x (↑r.1:Int)))]) i))/\nL L x r J))) (Yn r (Bj r.1 (∃(J:Nat×Af×At),(∀(cs:Al),SI L x B.1 B.2.1 B.2.2=some (AV.pv cs)->Is L x.M (cX cs) (cR cs) J.1 J.2.1 J.2.2)/\Dx L J.1 r.1/\Aa/\((Ae (some 11)/\IX r+1=J.2.1.length/\Aa)/\nJ L x B r J)/\(Aa/\Aa/\Aa/\Aa/\(IX r+1)*1=J.2.1.length/\Ar λ(i:Nat)=>B7 i ((IX r+1)*1)->AZ [(1,1),(0,0),(5,5),(4,11)] (Aq J.2.1 i) (BA r.2.1.length (Aq r.2.1) (λ(x:Nat)=>[NU B.1 r.1]) i))/\nL L x r J)))))))) (Ag (AP (0:Int) (Int.ofNat r.2.2.length)) (∃(S:Af×At),Q5 L x S.1 S.2/\Ap (bif bif Nat.ble (r.2.2.length*3) (r.2.2.length*3)then B1 3 r.2.2.length (rD r.2.2)else false then true else false) (ga S r r.2.2 S.2)) (∃(S:Af×At),Q5 L x S.1 S.2/\Ap (bif bif Nat.ble (IX r*1) r.2.1.length then B1 1 r.2.1.length (Aq r.2.1)else false then true else false) ((Aa/\IX r=S.1.length/\Ar λ(i:Nat)=>AD i r.2.1.length->(Aa/\DG r.2.1 i=DG S.1 i)/\True)/\S.2.length=0/\True)))
:=by
 delta CA AD Dm ft Bj Vc B8 B7 Dx GL Dk Eo Cr C6 DG IM CX O3 Yn HV Dh gN D8 Gc O6 HX HY SI QB QC NU IX ga;intro L x hG hM hC hT;have ad:Good L:=hG;have Y:BM L x.M:=hM;have af:Hm L x.C:=hC;have ae:GB L x:=hT;have ag:=Y.len;simp only[Bq,nH,xn,Pv,Pw,nK,Iy,Px,nL,nM,nN,nI,nJ,EB,AD,C7,O1,Jy,Cz,FF,FG,FA,FB,FC,FE,CL,Bc,Cl,Hg,Sy,Dl,gC,Vd,Lp,Lq,Lr,Lt,CQ,Lu,Lm,Cm,DG,Fh,Yg,LC,NO,NX,Cb,FT];simp only[DY,HB];refine⟨⟨L,x,rfl,rfl,rfl,ad,Y,af,ae⟩,λy hy=>?_⟩;obtain⟨X,H,R⟩:=y;have hA:GW L x 0 X H R:=hy L x rfl rfl rfl;clear hy;have ah:=hA.ok.xl;have ai:=hA.ok.rl;have V:∀ {i o w},Is L x.M X R i o w->Is L x.M (Dy X.length (Aq X)) (S0 R.length (rB R)) i o w:=λh=>by rw[EC,gm];exact h
 dsimp only
 refine⟨⟨(0,[],[]),λcs e=>by cases e;exact V ⟨BL _,rfl,AH _,rfl,λj hj=>by omega⟩,rfl,rfl,rfl⟩,λz hz=>?_⟩;have hz:Is L x.M X R z.1 z.2.1 z.2.2:=by have:=hz _ rfl;change Is L x.M (Dy X.length (Aq X)) (S0 R.length (rB R)) _ _ _ at this;rwa[EC,gm]at this
 have zl:=hz.le;have zo:=hz.ol;have zw:=hz.wl;have U:(z.1:Int)+1=((z.1+1:Nat):Int):=by omega
 have oM:∃K B,L.length=List.length K/\AE L=AE K/\x.M.length=B.M.length/\rM x.M=rM B.M/\x.rest=LN.rest B/\BM K B.M/\Good K:=⟨L,x,rfl,rfl,rfl,rfl,rfl,Y,ad⟩;refine Ao (λh=>?_) λh=>?_
 ·rw[Bd]at h;have hi:z.1<L.length:=by omega
  have ab:B9 (L.getD z.1 Ab.none).kind=false->MP L x.M X z.1=CG L x.M z.1:=λh=>by unfold MP;rw[An (by rw[h];decide)]
  have aa:B9 (L.getD z.1 Ab.none).kind=true->MP L x.M X z.1=X.getD z.1 0:=λh=>by unfold MP;rw[As h]
  refine Am (AK.2 (by omega)) (Am (AK.2 (by omega)) (Ao (λW=>Am (BF (by omega)) (Am (AK.2 (by omega)) (Ao (λht=>⟨oM,Am (BF (by omega)) (Am (AU.2 (by omega)) ?_)⟩) λht=>Am (BF (by omega)) (Am (AU.2 (by omega)) ?_)))) λW=>Am (AK.2 (by omega)) (Ao (λht=>⟨oM,Am (BF (by omega)) (Am (AU.2 (by omega)) ?_)⟩) λht=>Am (BF (by omega)) (Am (AU.2 (by omega)) ?_))))
  ·rw[BZ]at W ht;exact⟨(z.1+1,z.2.1++[CG L x.M z.1],z.2.2++[((L.getD z.1 Ab.none).line,(L.getD z.1 Ab.none).Av,8)]),λcs e=>by cases e;exact V (ab ht▸yO hz hi W),by simp only;omega,⟨by simp,by simp,U⟩,⟨by simp,Ia _ _ _ rfl⟩,by simp,Rl _ _ _ rfl⟩
  ·rw[BZ]at W;rw[BI]at ht;exact⟨(z.1+1,z.2.1++[X.getD z.1 0],z.2.2++[((L.getD z.1 Ab.none).line,(L.getD z.1 Ab.none).Av,8)]),λcs e=>by cases e;exact V (aa ht▸yO hz hi W),by simp only;omega,⟨by simp,by simp,U⟩,⟨by simp,Ia _ _ _ rfl⟩,by simp,Rl _ _ _ rfl⟩
  ·rw[BI]at W;rw[BZ]at ht;exact⟨(z.1+1,z.2.1++[CG L x.M z.1],z.2.2),λcs e=>by cases e;exact V (ab ht▸yQ hz hi W),by simp only;omega,⟨by simp,rfl,U⟩,⟨by simp,Ia _ _ _ rfl⟩,rfl,⟨λ_ _=>⟨rfl,rfl,rfl⟩⟩⟩
  ·rw[BI]at W ht;exact⟨(z.1+1,z.2.1++[X.getD z.1 0],z.2.2),λcs e=>by cases e;exact V (aa ht▸yQ hz hi W),by simp only;omega,⟨by simp,rfl,U⟩,⟨by simp,Ia _ _ _ rfl⟩,rfl,⟨λ_ _=>⟨rfl,rfl,rfl⟩⟩⟩
 ·rw[Bl]at h;have zi:z.1=L.length:=by omega
  have ww:z.2.2=Kh L R L.length:=by rw[hz.w,zi]
  refine Ao (λh1=>?_) λh1=>?_
  ·rw[Bd]at h1;exact⟨([],z.2.2),⟨X,H,R,hA,λ_=>⟨rfl,ww⟩,λe=>by rw[ww,e]at h1;simp at h1⟩,Am (DL λ_ _=>rfl) ⟨rfl,rfl,⟨λ_ _=>⟨rfl,rfl,rfl⟩⟩⟩⟩
  ·rw[Bl]at h1;have e:z.2.2=[]:=Ra.1 (by omega);exact⟨(z.2.1,[]),⟨X,H,R,hA,λg=>absurd (ww.symm.trans e) g,λ_=>⟨rfl,show z.2.1.length=L.length by omega,λj hj=>hz.o j (by omega)⟩⟩,Am (DL λ_ _=>rfl) ⟨⟨rfl,⟨λ_ _=>rfl⟩⟩,rfl⟩⟩
theorem AmB:∀(L:Ac) (x:LN),Good L->BM L x.M->Hm L x.C->GB L x->(A3 (yx L x) 60).call 9 [tree L,.agg x.row] .leaf 0 (L0 (λy:Af×At=>Q5 L x y.1 y.2) λy=>.AM [.vec 1 y.1.length (Aq y.1),.vec 3 y.2.length (rD y.2)]):=Eq.mpr (by kernel_rfl) AmC
end Go.Proofs.YthallodoidghoaaGreat
end
end
