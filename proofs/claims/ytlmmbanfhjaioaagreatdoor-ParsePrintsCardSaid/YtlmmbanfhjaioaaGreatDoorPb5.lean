/- Laid by program out of its parts: PbX, PbY. -/
import Derived.Test.YtlmmbanfhjaioaaGreatDoorPb4
import Derived.Test.YtlmmbanfhjaioaaGreatDoorMh
noncomputable section
open List(getD)
set_option linter.unusedVariables false
set_option linter.unusedSimpArgs false
section
set_option maxRecDepth 100000
set_option maxHeartbeats 2000000
open Go Go.Ev
namespace Go.Proofs.YtlmmbanfhjaioaaGreatDoor
def IG:RS:=⟨0,0,0,0⟩
def Rk (n:Nat):Ab->PF:=V7 (Gm (lv n).b)
def Kj (L:Ab):PT×RS:=AU (Rk 100001 L IG)
def JQ (t:PT×RS):Ak:=if t.2.err=0 then flat t.1 else []
def Ki (L:Ab) (t:RS):List Dg:=if t.err=0 then []else [⟨FD L t,FC L t,t.err⟩]
def zB (L:Ab) (t:PT×RS):AV:=.AO [.agg [vW (AU (JQ t))],gJ (AU (Ki L t.2))]
structure Xs (n:Nat) (f:Nat->List AV):Prop where
 len:n<=100000
 f:∀i,i<n->f i=(X5 (f i)).row
def hU:Tr Ae->Aj->Option Ct:=λH args=>match args with
 | [.vec 5 n f]=>cond (Ec H) (some (.Be (Xs n f) (.ret (zB (Ij n f) (Kj (Ij n f)))))) none
 |_=>none
structure Xc (L:List TK) (n:Nat) (F:List TK->PF):Prop where
 f:Bo Tryz.prog 30 (mF L n F)
def tp (L:Ab) (n:Nat) (F:Ab->PF):DX:=[(30,mF L n F),(29,gg)]
theorem Adu {L:Ab} {n:Nat} {F:Ab->PF} (h:Xc L n F):Gi Tryz.prog (tp L n F):=El h.f (El Afn (YH _))
def rR (L:Ab) (n:Nat) (F:Ab->PF) (h:Xc L n F):Ctx:={P:=Tryz.prog,tb:=[],ht:=tp L n F,AA:=Adu h,lp:=λ_ _=>none,cut:=λ_ _=>none}
def JD (a:PT×RS) (b:Nat):=getD (AU (JQ a)) b LT.none
def HK (a:Ak) (b:Nat):=List.length (LT.kids (CG a b))
def Ni (a:Ab) (b:RS) (c:Nat):=getD (AU (Ki a b)) c d0
def TL (a:PT×RS):=List.length (AU (JQ a))
def TS (a:Ab) (b:RS):=List.length (AU (Ki a b))
theorem Aja:∀(L:Ab) (n:Nat) (F:Ab->PF),Xc L n F->∀(t:PT×RS),Nat.le L.length 100000->Nat.le (Nat.succ L.length) n->Nat.le (sz t.1) 1000000->t=F L IG->(C6 L (vK L) (0:Int) λ(s:RS)=>Bb L n s)/\∀(y:PT×RS),y=F L (B8 L (vK L) (0:Int))->A5 y.2 (n5 (Bw y.1)/\∀(q:Ak),q=flat (Nb (Bw y.1))->Al (bif bif bif Nat.ble (q.length*6) (q.length*6)then Ed 6 q.length (A8 q)else false then true else false then true else false) (((Aa/\q.length=TL t/\AH λ(i:Nat)=>Bh i q.length->(Aa/\HM q i=LT.kind (JD t i))/\LT.text (CG q i)=LT.text (JD t i)/\(Aa/\LT.n (CG q i)=LT.n (JD t i))/\(Aa/\LT.line (CG q i)=LT.line (JD t i))/\(Aa/\LT.Ao (CG q i)=LT.Ao (JD t i))/\(Aa/\HK q i=List.length (LT.kids (JD t i))/\AH λ(B:Nat)=>Bh B (HK q i)->(Aa/\getD (LT.kids (CG q i)) B (0:Int)=getD (LT.kids (JD t i)) B (0:Int))/\True)/\True)/\True)/\TS L t.2=0/\True)) ((Bn/\Bn/\((Af (AV.agg [AV.int .i64 (FD L y.2),AV.int .i64 (FC L y.2),AV.int .i64 (RS.err y.2)])/\True)/\True)/\True)/\(TL t=0/\True)/\(Aa/\1=TS L t.2/\AH λ(i:Nat)=>Bh i 1->(Aa/\FD L y.2=Dg.line (Ni L t.2 i))/\(Aa/\FC L y.2=Dg.Ao (Ni L t.2 i))/\(Aa/\RS.err y.2=Dg.err (Ni L t.2 i))/\True)/\True)
:=by
 delta A5 Bn CG Bh JD HK Ni TL TS HM;intro L n F AA t J hn hz ht;simp only[Cd];have E:R0 L IG:=⟨⟨J,JU 0,Int.natCast_nonneg _,JU 0,by decide⟩,rfl,rfl⟩;have hz:sz t.1<=1000000:=hz;refine⟨I5 E ⟨E.ok,by decide,by show(L.length:Int)-0<n;have:L.length<n:=hn;omega⟩,λy hy=>?_⟩;have hy:y=t:=by rw[hy,ht];exact congrArg (F L) (Jf E)
 subst hy;refine Aw (λe=>⟨⟨⟨_,rfl⟩,by rw[Lw];exact hz⟩,λW hW=>?_⟩) λe=>?_
 ·have e:=C0.1 e;rw[Lw]at hW;have C:JQ y=W:=by rw[hW];unfold JQ;rw[Am e]
  have hd:Ki L y.2=[]:=by unfold Ki;rw[Am e]
  refine At (OX λi _=>rfl) ⟨⟨by rw[C],?_⟩,by rw[hd];rfl⟩;rw[C];exact⟨λi _=>⟨rfl,rfl,rfl,rfl,rfl,rfl,⟨λj _=>rfl⟩⟩⟩
 ·have e:=Dy.1 e;have C:JQ y=[]:=by unfold JQ;rw[Ad e]
  have hd:Ki L y.2=[⟨FD L y.2,FC L y.2,y.2.err⟩]:=by unfold Ki;rw[Ad e]
  rw[C,hd];refine⟨rfl,rfl,⟨λi hi=>?_⟩⟩;obtain rfl:i=0:=by omega
  exact⟨rfl,rfl,rfl⟩
theorem Ai9:∀(L:Ab) (n:Nat) (F:Ab->PF) (AA:Xc L n F) (t:PT×RS),L.length<=100000->L.length<n->sz t.1<=1000000->t=F L IG->(A4 (rR L n F AA) 60).call 16 [vK L] (Bx CI) 4 (Cb Tryz.prog false (zB L t)):=Eq.mpr (by kernel_rfl) Aja
theorem rW (n:Nat):GF n 3 4 (Gm (lv n).b):=Abz (Y6 n).b
theorem cX (L:Ab):Kj L=Rk 100001 L IG:=by unfold Kj;rw[Dr]
theorem nH {L:Ab} (q:L.length<=100000):R0 L IG:=⟨⟨q,JU 0,Int.natCast_nonneg _,JU 0,by decide⟩,rfl,rfl⟩
theorem Ak8 {L:Ab} (q:L.length<=100000) (n:Nat) (hn:L.length<n):Hi L 0 4 IG (Lv (Gm (lv n).b) L IG):=wc (rW n) (λ_=>⟨(nH q).ok,by decide,by show(L.length:Int)-0<n;omega⟩) _ _ _ (QM (nH q).ok (by decide))
theorem Ak9 {L:Ab} (q:L.length<=100000) (n:Nat) (hn:L.length<n):sz (Rk n L IG).1<=1000000:=by have h:=(Ak8 q n hn).P4 (nH q).ok (by decide);show sz (nd 1 [] 0 cT (Lv (Gm (lv n).b) L IG).1)<=_;rw[My];omega
theorem Afk (L:Ab) (n:Nat):Bo Tryz.prog 60 (mF L n (Gm (lv n).b)):=Afl ⟨(vF L n).b⟩ ⟨(Y6 n).b,(SN L n).b⟩
theorem AfI (L:Ab) (n:Nat):Bo Tryz.prog 30 (mF L n (Rk n)):=AfJ ⟨Afk L n⟩ ⟨rW n,AdY (SN L n).b⟩
theorem Alg {n:Nat} {f:Nat->Aj} (h:∀i,i<n->f i=(X5 (f i)).row):VA (.vec 5 n f) (vK (Ij n f)):=λρ v hv=>by
 have q:n=(Ij n f).length:=by simp[Ij]
 refine zO q (λi hi=>?_) ρ v hv;show f i=((Ij n f).getD i TK.zero).row;rw[h i hi];congr 1;unfold Ij;rw[B2,HB,OI hi];show _=X5 (f i);rw[h i hi]
theorem AfX:Ck Tryz.prog 16 hU:=by
 refine OV (gl:=CI) (ng:=4) Qn λH args ct q=>?_;unfold hU at q;split at q
 ·rename_i n f;cases B:Ec H with
  |false=>rw[B]at q;cases q
  |true=>
   rw[B]at q;injection q with q;refine⟨YD H B,_,_,q.symm,λC=>⟨[vK (Ij n f)],Kl (Alg C.f) Rm,⟨cf [] (Ij n f) IG,trivial⟩,?_⟩⟩;have y:(Ij n f).length<=100000:=by rw[show(Ij n f).length=n by simp[Ij]];exact C.len
   refine⟨rR (Ij n f) 100001 (Rk 100001) ⟨AfI _ _⟩,60,rfl,Bu,B5,?_⟩;rw[cX];exact Ai9 _ _ _ _ _ y (Nat.lt_succ_of_le y) (Ak9 y _ (Nat.lt_succ_of_le y)) rfl
 ·cases q
def Uv (t:Tok):TK:=⟨t.kind,t.text,t.num,t.line,t.Ao⟩
def Mz (l:Ac):Ab:=AU ((DV l).1.map Uv)
def Ep (l:Ac):Ak:=if(DV l).2.length=0 then JQ (Kj (Mz l))else []
def Da (l:Ac):List Dg:=if(DV l).2.length=0 then Ki (Mz l) (Kj (Mz l)).2 else(DV l).2
def wY (l:Ac):AV:=.AO [.agg [vW (AU (Ep l))],gJ (AU (Da l))]
def Yh:Tr Ae->Aj->Option Ct:=λH args=>match args with
 | [.bv l]=>cond (Ec H) (some (.Be (l.length<=100000) (.ret (wY l)))) none
 |_=>none
def yj:D9:=(15,e9)::(16,hU)::[]
def rH:Ctx:={P:=Tryz.prog,tb:=yj,lp:=λ_ _=>none,cut:=λ_ _=>none}
theorem AgO (T:List Tok):Ij T.length (λk=>JP (T.getD k t0))=T.map Uv:=by
 apply List.ext_getElem
 ·simp[Ij]
 ·intro i y q;have hi:i<T.length:=by simpa using q
  simp only[Ij,List.getElem_map,List.getElem_range];rw[B2,CC hi];rfl
theorem WN (l:Ac):Mz l=(DV l).1.map Uv:=by unfold Mz;rw[Dr]
theorem Ak0 (T:List Tok) (h:T.length<=100000):Xs T.length (λk=>JP (T.getD k t0)):=⟨h,λi _=>rfl⟩
theorem AkT:EY Tryz.prog yj:=Cj ok9 (Cj AfX B5)
def S7 (a:Ac):=(Ij (List.length (Prod.fst (DV a))) λ(q:Nat)=>JP (getD (Prod.fst (DV a)) q t0))
def Oh (a:Ac) (b:Nat):=getD (AU (JQ (Kj (S7 a)))) b LT.none
def Tp (a:Ac):=AU (Ki (S7 a) (Prod.snd (Kj (S7 a))))
def Pg (a:Ac) (b:Nat):=getD (AU (Ep a)) b LT.none
def Q2 (a:Ac) (b:Nat):=getD (AU (Da a)) b d0
def Nm (a:Ac):=Nat.le a.length 1000000
def Q7 (a:Ac):=Prod.snd (DV a)
theorem AiB:∀(l:Ac),Nat.le l.length 100000->Nm l/\Ah (AQ (0:Int) (Int.ofNat (List.length (Q7 l)))) ((List.length (AU (Ep l))=0/\True)/\(Aa/\List.length (Q7 l)=List.length (AU (Da l))/\AH λ(i:Nat)=>Bh i (List.length (Q7 l))->(Aa/\Dg.line (getD (Q7 l) i d0)=Dg.line (Q2 l i))/\(Aa/\Dg.Ao (getD (Q7 l) i d0)=Dg.Ao (Q2 l i))/\(Aa/\Dg.err (getD (Q7 l) i d0)=Dg.err (Q2 l i))/\True)/\True) ((Xs (List.length (Prod.fst (DV l))) λ(k:Nat)=>JP (getD (Prod.fst (DV l)) k t0))/\((Aa/\List.length (AU (JQ (Kj (S7 l))))=List.length (AU (Ep l))/\AH λ(i:Nat)=>Bh i (List.length (AU (JQ (Kj (S7 l)))))->(Aa/\LT.kind (Oh l i)=LT.kind (Pg l i))/\LT.text (Oh l i)=LT.text (Pg l i)/\(Aa/\LT.n (Oh l i)=LT.n (Pg l i))/\(Aa/\LT.line (Oh l i)=LT.line (Pg l i))/\(Aa/\LT.Ao (Oh l i)=LT.Ao (Pg l i))/\(Aa/\List.length (LT.kids (Oh l i))=List.length (LT.kids (Pg l i))/\AH λ(q:Nat)=>Bh q (List.length (LT.kids (Oh l i)))->(Aa/\getD (LT.kids (Oh l i)) q (0:Int)=getD (LT.kids (Pg l i)) q (0:Int))/\True)/\True)/\True)/\(Aa/\List.length (Tp l)=List.length (AU (Da l))/\AH λ(i:Nat)=>Bh i (List.length (Tp l))->(Aa/\Dg.line (getD (Tp l) i d0)=Dg.line (Q2 l i))/\(Aa/\Dg.Ao (getD (Tp l) i d0)=Dg.Ao (Q2 l i))/\(Aa/\Dg.err (getD (Tp l) i d0)=Dg.err (Q2 l i))/\True)/\True)
:=by
 delta S7 Bh Oh Tp Pg Q2 Nm Q7;intro l C;simp only[Cd];have C:l.length<=100000:=C;have E:=yD l;rw[AgO,<-WN];refine⟨by omega,Aw (λc=>?_) λc=>⟨Ak0 _ (by omega),?_⟩⟩
 ·have c:(DV l).2.length≠0:=by have:=CE.1 c;omega
  have B:Ep l=[]:=by unfold Ep;rw[Ad c]
  have y:Da l=(DV l).2:=by unfold Da;rw[Ad c]
  rw[B,y];exact⟨rfl,rfl,⟨λi _=>⟨rfl,rfl,rfl⟩⟩⟩
 ·have c:(DV l).2.length=0:=by have:=CF.1 c;omega
  have B:Ep l=JQ (Kj (Mz l)):=by unfold Ep;rw[Am c]
  have y:Da l=Ki (Mz l) (Kj (Mz l)).2:=by unfold Da;rw[Am c]
  rw[B,y];exact⟨⟨rfl,⟨λi _=>⟨rfl,rfl,rfl,rfl,rfl,rfl,⟨λj _=>rfl⟩⟩⟩⟩,rfl,⟨λi _=>⟨rfl,rfl,rfl⟩⟩⟩
theorem AiA:∀(l:Ac),l.length<=100000->(A4 rH 60).call 6 [.bv l] (Bx CI) 4 (Cb Tryz.prog false (wY l)):=Eq.mpr (by kernel_rfl) AiB
theorem wK:Ck Tryz.prog 6 Yh:=by
 refine Fh (gl:=CI) (ng:=4) Qn λH args ct q=>?_;unfold Yh at q;split at q
 ·rename_i l;cases y:Ec H with
  |false=>rw[y]at q;cases q
  |true=>rw[y]at q;injection q with q;exact⟨SC y,_,_,q.symm,λB=>⟨⟨rfl,trivial⟩,rH,60,rfl,Bu,AkT,AiA l B⟩⟩
 ·cases q
end Go.Proofs.YtlmmbanfhjaioaaGreatDoor
end
end
