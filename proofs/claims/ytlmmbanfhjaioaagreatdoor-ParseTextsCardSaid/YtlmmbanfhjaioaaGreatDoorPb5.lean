/- Laid by program out of its parts: PbX, PbY. -/
import Derived.Test.YtlmmbanfhjaioaaGreatDoorPb4
import Derived.Test.YtlmmbanfhjaioaaGreatDoorMh
noncomputable section
set_option linter.unusedVariables false
set_option linter.unusedSimpArgs false
section
set_option maxRecDepth 100000
set_option maxHeartbeats 2000000
open Go Go.Ev
namespace Go.Proofs.YtlmmbanfhjaioaaGreatDoor
def Ef:RS:=⟨0,0,0,0⟩
def Nq (n:Nat):List TK->PF:=Ph (Gp (lv n).b)
def FA (L:List TK):PT×RS:=AY (Nq 100001 L Ef)
def EU (t:PT×RS):List LT:=if t.2.err=0 then flat t.1 else []
def FV (L:List TK) (t:RS):List Dg:=if t.err=0 then []else [⟨Ep L t,El L t,t.err⟩]
def sv (L:List TK) (t:PT×RS):AV:=.AL [.agg [vW (AY (EU t))],Qv (AY (FV L t.2))]
structure YT (n:Nat) (f:Nat->List AV):Prop where
 len:n<=100000
 f:∀i,i<n->f i=(Wb (f i)).row
def Tb:Tr Ac->List AV->Option Ct:=λH args=>match args with
 | [.vec 5 n f]=>cond (DM H) (some (.A6 (YT n f) (.ret (sv (CF n f) (FA (CF n f)))))) none
 |_=>none
structure Yl (L:List TK) (n:Nat) (F:List TK->PF):Prop where
 f:AD Tryz.prog 30 (mF L n F)
def yc (L:List TK) (n:Nat) (F:List TK->PF):Cq:=[(30,mF L n F),(29,la)]
theorem Af9 {L:List TK} {n:Nat} {F:List TK->PF} (h:Yl L n F):Db Tryz.prog (yc L n F):=BN h.f (BN Ah4 (Ty _))
def wP (L:List TK) (n:Nat) (F:List TK->PF) (h:Yl L n F):Ctx:={P:=Tryz.prog,tb:=[],ht:=yc L n F,Am:=Af9 h,lp:=λ_ _=>none,cut:=λ_ _=>none}
def Ja (a:PT×RS) (b:Nat):=List.getD (AY (EU a)) b LT.none
def Mf (a:List TK) (b:RS) (c:Nat):=List.getD (AY (FV a b)) c d0
def Rx (a:PT×RS):=List.length (AY (EU a))
def PL (a:List LT) (b:Nat):=List.length (LT.kids (Cx a b))
def RG (a:List TK) (b:RS):=List.length (AY (FV a b))
theorem AmP:∀(L:List TK) (n:Nat) (F:List TK->PF),Yl L n F->∀(t:PT×RS),Nat.le L.length 100000->Nat.le (Nat.succ L.length) n->Nat.le (sz t.1) 1000000->t=F L Ef->(CU L (vK L) (0:Int) λ(s:RS)=>Av L n s)/\∀(y:PT×RS),y=F L (B5 L (vK L) (0:Int))->AO y.2 (tW (Bv y.1)/\∀(q:List LT),q=flat (M6 (Bv y.1))->Ap (bif bif bif Nat.ble (q.length*6) (q.length*6)then Ds 6 q.length (Bs q)else false then true else false then true else false) (((Aa/\q.length=Rx t/\Au λ(i:Nat)=>AM i q.length->(Aa/\LT.kind (Cx q i)=LT.kind (Ja t i))/\LT.text (Cx q i)=LT.text (Ja t i)/\(Aa/\LT.n (Cx q i)=LT.n (Ja t i))/\(Aa/\LT.line (Cx q i)=LT.line (Ja t i))/\(Aa/\LT.Ag (Cx q i)=LT.Ag (Ja t i))/\(Aa/\PL q i=List.length (LT.kids (Ja t i))/\Au λ(B:Nat)=>AM B (PL q i)->(Aa/\List.getD (LT.kids (Cx q i)) B (0:Int)=List.getD (LT.kids (Ja t i)) B (0:Int))/\True)/\True)/\True)/\RG L t.2=0/\True)) ((A8/\A8/\((Ab (AV.agg [AV.int .i64 (Ep L y.2),AV.int .i64 (El L y.2),AV.int .i64 (RS.err y.2)])/\True)/\True)/\True)/\(Rx t=0/\True)/\(Aa/\1=RG L t.2/\Au λ(i:Nat)=>AM i 1->(Aa/\Ep L y.2=Dg.line (Mf L t.2 i))/\(Aa/\El L y.2=Dg.Ag (Mf L t.2 i))/\(Aa/\RS.err y.2=Dg.err (Mf L t.2 i))/\True)/\True)
:=by
 delta AO A8 AM Cx Ja Mf Rx PL RG;intro L n F Am t J hn hz ht;simp only[A9];have E:R0 L Ef:=⟨⟨J,Int.le_refl 0,Int.natCast_nonneg _,Int.le_refl 0,by decide⟩,rfl,rfl⟩;have hz:sz t.1<=1000000:=hz;refine⟨I5 E ⟨E.ok,by decide,by show(L.length:Int)-0<n;have:L.length<n:=hn;omega⟩,λy hy=>?_⟩;have hy:y=t:=by rw[hy,ht];exact congrArg (F L) (Ji E)
 subst hy;refine Aj (λe=>⟨⟨⟨_,rfl⟩,by rw[Lo];exact hz⟩,λW hW=>?_⟩) λe=>?_
 ·have e:=BL.1 e;rw[Lo]at hW;have C:EU y=W:=by rw[hW];unfold EU;rw[if_pos e]
  have hd:FV L y.2=[]:=by unfold FV;rw[if_pos e]
  refine An (Lc λi _=>rfl) ⟨⟨by rw[C],?_⟩,by rw[hd];rfl⟩;rw[C];exact⟨λi _=>⟨rfl,rfl,rfl,rfl,rfl,rfl,⟨λj _=>rfl⟩⟩⟩
 ·have e:=BU.1 e;have C:EU y=[]:=by unfold EU;rw[if_neg e]
  have hd:FV L y.2=[⟨Ep L y.2,El L y.2,y.2.err⟩]:=by unfold FV;rw[if_neg e]
  rw[C,hd];refine⟨rfl,rfl,⟨λi hi=>?_⟩⟩;obtain rfl:i=0:=by omega
  exact⟨rfl,rfl,rfl⟩
theorem AmO:∀(L:List TK) (n:Nat) (F:List TK->PF) (Am:Yl L n F) (t:PT×RS),L.length<=100000->L.length<n->sz t.1<=1000000->t=F L Ef->(AG (wP L n F Am) 60).call 16 [vK L] (AU Cm) 4 (Ch Tryz.prog false (sv L t)):=Eq.mpr (by kernel_rfl) AmP
theorem lN (n:Nat):GF n 3 4 (Gp (lv n).b):=Aen (TH n).b
theorem Ve (L:List TK):FA L=Nq 100001 L Ef:=by unfold FA;rw[Du]
theorem fh {L:List TK} (q:L.length<=100000):R0 L Ef:=⟨⟨q,Int.le_refl 0,Int.natCast_nonneg _,Int.le_refl 0,by decide⟩,rfl,rfl⟩
theorem AoI {L:List TK} (q:L.length<=100000) (n:Nat) (hn:L.length<n):GL L 0 4 Ef (Ln (Gp (lv n).b) L Ef):=Aa4 (lN n) (λ_=>⟨(fh q).ok,by decide,by show(L.length:Int)-0<n;omega⟩) _ _ _ (M3 (fh q).ok (by decide))
theorem AcB {L:List TK} (q:L.length<=100000) (n:Nat) (hn:L.length<n):sz (Nq n L Ef).1<=1000000:=by have h:=(AoI q n hn).DU (fh q).ok (by decide);show sz (nd 1 [] 0 Vd (Ln (Gp (lv n).b) L Ef).1)<=_;rw[Ms];omega
theorem AhZ (L:List TK) (n:Nat):AD Tryz.prog 60 (mF L n (Gp (lv n).b)):=Ah0 ⟨(z2 L n).b⟩ ⟨(TH n).b,(TD L n).b⟩
theorem Aiw (L:List TK) (n:Nat):AD Tryz.prog 30 (mF L n (Nq n)):=Aix ⟨AhZ L n⟩ ⟨lN n,AgE (TD L n).b⟩
theorem AcP {n:Nat} {f:Nat->List AV} (h:∀i,i<n->f i=(Wb (f i)).row):VA (.vec 5 n f) (vK (CF n f)):=λρ v hv=>by
 have q:n=(CF n f).length:=by simp[CF]
 refine AoV q (λi hi=>?_) ρ v hv;show f i=((CF n f).getD i TK.zero).row;rw[h i hi];congr 1;unfold CF;rw[List.getD_eq_getElem?_getD,List.getElem?_map,List.getElem?_range hi];show _=Wb (f i);rw[h i hi]
theorem AiU:Ci Tryz.prog 16 Tb:=by
 refine ZQ (gl:=Cm) (ng:=4) NN λH args ct q=>?_;unfold Tb at q;split at q
 ·rename_i n f;cases B:DM H with
  |false=>rw[B]at q;cases q
  |true=>
   rw[B]at q;injection q with q;refine⟨Wt H B,_,_,q.symm,λC=>⟨[vK (CF n f)],Ik (AcP C.f) Vi,⟨XY [] (CF n f) Ef,trivial⟩,?_⟩⟩;have y:(CF n f).length<=100000:=by rw[show(CF n f).length=n by simp[CF]];exact C.len
   refine⟨wP (CF n f) 100001 (Nq 100001) ⟨Aiw _ _⟩,60,rfl,AW,Bc,?_⟩;rw[Ve];exact AmO _ _ _ _ _ y (Nat.lt_succ_of_le y) (AcB y _ (Nat.lt_succ_of_le y)) rfl
 ·cases q
def XV (t:Tok):TK:=⟨t.kind,t.text,t.num,t.line,t.Ag⟩
def Jj (l:List UInt8):List TK:=AY ((Bk l).1.map XV)
def CX (l:List UInt8):List LT:=if(Bk l).2.length=0 then EU (FA (Jj l))else []
def Cd (l:List UInt8):List Dg:=if(Bk l).2.length=0 then FV (Jj l) (FA (Jj l)).2 else(Bk l).2
def pK (l:List UInt8):AV:=.AL [.agg [vW (AY (CX l))],Qv (AY (Cd l))]
def Qz:Tr Ac->List AV->Option Ct:=λH args=>match args with
 | [.bv l]=>cond (DM H) (some (.A6 (l.length<=100000) (.ret (pK l)))) none
 |_=>none
def Acq:DQ:=(15,e9)::(16,Tb)::[]
def wD:Ctx:={P:=Tryz.prog,tb:=Acq,lp:=λ_ _=>none,cut:=λ_ _=>none}
theorem Abn (T:List Tok):CF T.length (λk=>Dq (T.getD k t0))=T.map XV:=by
 apply List.ext_getElem
 ·simp[CF]
 ·intro i y q;have hi:i<T.length:=by simpa using q
  simp only[CF,List.getElem_map,List.getElem_range];rw[List.getD_eq_getElem?_getD,List.getElem?_eq_getElem hi];rfl
theorem RZ (l:List UInt8):Jj l=(Bk l).1.map XV:=by unfold Jj;rw[Du]
theorem Acx (T:List Tok) (h:T.length<=100000):YT T.length (λk=>Dq (T.getD k t0)):=⟨h,λi _=>rfl⟩
theorem Aoy:DP Tryz.prog Acq:=Cw ok9 (Cw AiU Bc)
def dL (a:List UInt8):=Ad (AP (0:Int) (Int.ofNat (List.length (Prod.snd (Bk a))))) ((List.length (AY (CX a))=0/\True)/\(Aa/\List.length (Prod.snd (Bk a))=List.length (AY (Cd a))/\Au λ(B:Nat)=>Nat.le (Nat.succ B) (List.length (Prod.snd (Bk a)))->(Aa/\Dg.line (List.getD (Prod.snd (Bk a)) B d0)=Dg.line (List.getD (AY (Cd a)) B d0))/\(Aa/\Dg.Ag (List.getD (Prod.snd (Bk a)) B d0)=Dg.Ag (List.getD (AY (Cd a)) B d0))/\(Aa/\Dg.err (List.getD (Prod.snd (Bk a)) B d0)=Dg.err (List.getD (AY (Cd a)) B d0))/\True)/\True) ((YT (List.length (Prod.fst (Bk a))) λ(v2:Nat)=>Dq (List.getD (Prod.fst (Bk a)) v2 t0))/\((Aa/\List.length (AY (EU (FA (CF (List.length (Prod.fst (Bk a))) λ(v3:Nat)=>Dq (List.getD (Prod.fst (Bk a)) v3 t0)))))=List.length (AY (CX a))/\Au λ(q:Nat)=>Nat.le (Nat.succ q) (List.length (AY (EU (FA (CF (List.length (Prod.fst (Bk a))) λ(v5:Nat)=>Dq (List.getD (Prod.fst (Bk a)) v5 t0))))))->(Aa/\LT.kind (List.getD (AY (EU (FA (CF (List.length (Prod.fst (Bk a))) λ(v6:Nat)=>Dq (List.getD (Prod.fst (Bk a)) v6 t0))))) q LT.none)=LT.kind (List.getD (AY (CX a)) q LT.none))/\LT.text (List.getD (AY (EU (FA (CF (List.length (Prod.fst (Bk a))) λ(v7:Nat)=>Dq (List.getD (Prod.fst (Bk a)) v7 t0))))) q LT.none)=LT.text (List.getD (AY (CX a)) q LT.none)/\(Aa/\LT.n (List.getD (AY (EU (FA (CF (List.length (Prod.fst (Bk a))) λ(v8:Nat)=>Dq (List.getD (Prod.fst (Bk a)) v8 t0))))) q LT.none)=LT.n (List.getD (AY (CX a)) q LT.none))/\(Aa/\LT.line (List.getD (AY (EU (FA (CF (List.length (Prod.fst (Bk a))) λ(v9:Nat)=>Dq (List.getD (Prod.fst (Bk a)) v9 t0))))) q LT.none)=LT.line (List.getD (AY (CX a)) q LT.none))/\(Aa/\LT.Ag (List.getD (AY (EU (FA (CF (List.length (Prod.fst (Bk a))) λ(aa:Nat)=>Dq (List.getD (Prod.fst (Bk a)) aa t0))))) q LT.none)=LT.Ag (List.getD (AY (CX a)) q LT.none))/\(Aa/\List.length (LT.kids (List.getD (AY (EU (FA (CF (List.length (Prod.fst (Bk a))) λ(Z:Nat)=>Dq (List.getD (Prod.fst (Bk a)) Z t0))))) q LT.none))=List.length (LT.kids (List.getD (AY (CX a)) q LT.none))/\Au λ(C:Nat)=>Nat.le (Nat.succ C) (List.length (LT.kids (List.getD (AY (EU (FA (CF (List.length (Prod.fst (Bk a))) λ(Y:Nat)=>Dq (List.getD (Prod.fst (Bk a)) Y t0))))) q LT.none)))->(Aa/\List.getD (LT.kids (List.getD (AY (EU (FA (CF (List.length (Prod.fst (Bk a))) λ(W:Nat)=>Dq (List.getD (Prod.fst (Bk a)) W t0))))) q LT.none)) C (0:Int)=List.getD (LT.kids (List.getD (AY (CX a)) q LT.none)) C (0:Int))/\True)/\True)/\True)/\(Aa/\List.length (AY (FV (CF (List.length (Prod.fst (Bk a))) λ(V:Nat)=>Dq (List.getD (Prod.fst (Bk a)) V t0)) (Prod.snd (FA (CF (List.length (Prod.fst (Bk a))) λ(U:Nat)=>Dq (List.getD (Prod.fst (Bk a)) U t0))))))=List.length (AY (Cd a))/\Au λ(y:Nat)=>Nat.le (Nat.succ y) (List.length (AY (FV (CF (List.length (Prod.fst (Bk a))) λ(S:Nat)=>Dq (List.getD (Prod.fst (Bk a)) S t0)) (Prod.snd (FA (CF (List.length (Prod.fst (Bk a))) λ(R:Nat)=>Dq (List.getD (Prod.fst (Bk a)) R t0)))))))->(Aa/\Dg.line (List.getD (AY (FV (CF (List.length (Prod.fst (Bk a))) λ(O:Nat)=>Dq (List.getD (Prod.fst (Bk a)) O t0)) (Prod.snd (FA (CF (List.length (Prod.fst (Bk a))) λ(M:Nat)=>Dq (List.getD (Prod.fst (Bk a)) M t0)))))) y d0)=Dg.line (List.getD (AY (Cd a)) y d0))/\(Aa/\Dg.Ag (List.getD (AY (FV (CF (List.length (Prod.fst (Bk a))) λ(L:Nat)=>Dq (List.getD (Prod.fst (Bk a)) L t0)) (Prod.snd (FA (CF (List.length (Prod.fst (Bk a))) λ(K:Nat)=>Dq (List.getD (Prod.fst (Bk a)) K t0)))))) y d0)=Dg.Ag (List.getD (AY (Cd a)) y d0))/\(Aa/\Dg.err (List.getD (AY (FV (CF (List.length (Prod.fst (Bk a))) λ(J:Nat)=>Dq (List.getD (Prod.fst (Bk a)) J t0)) (Prod.snd (FA (CF (List.length (Prod.fst (Bk a))) λ(E:Nat)=>Dq (List.getD (Prod.fst (Bk a)) E t0)))))) y d0)=Dg.err (List.getD (AY (Cd a)) y d0))/\True)/\True)
def LC (a:List UInt8):=Nat.le a.length 1000000
theorem AlU:∀(l:List UInt8),Nat.le l.length 100000->LC l/\dL l
:=by
 delta dL LC;intro l B;simp only[A9];have B:l.length<=100000:=B;have C:=U6 l;rw[Abn,<-RZ];refine⟨by omega,Aj (λc=>?_) λc=>⟨Acx _ (by omega),?_⟩⟩
 ·have c:(Bk l).2.length≠0:=by have:=B1.1 c;omega
  have y:CX l=[]:=by unfold CX;rw[if_neg c]
  have q:Cd l=(Bk l).2:=by unfold Cd;rw[if_neg c]
  rw[y,q];exact⟨rfl,rfl,⟨λi _=>⟨rfl,rfl,rfl⟩⟩⟩
 ·have c:(Bk l).2.length=0:=by have:=Cg.1 c;omega
  have y:CX l=EU (FA (Jj l)):=by unfold CX;rw[if_pos c]
  have q:Cd l=FV (Jj l) (FA (Jj l)).2:=by unfold Cd;rw[if_pos c]
  rw[y,q];exact⟨⟨rfl,⟨λi _=>⟨rfl,rfl,rfl,rfl,rfl,rfl,⟨λj _=>rfl⟩⟩⟩⟩,rfl,⟨λi _=>⟨rfl,rfl,rfl⟩⟩⟩
theorem AlT:∀(l:List UInt8),l.length<=100000->(AG wD 60).call 6 [.bv l] (AU Cm) 4 (Ch Tryz.prog false (pK l)):=Eq.mpr (by kernel_rfl) AlU
theorem AaI:Ci Tryz.prog 6 Qz:=by
 refine EN (gl:=Cm) (ng:=4) NN λH args ct q=>?_;unfold Qz at q;split at q
 ·rename_i l;cases y:DM H with
  |false=>rw[y]at q;cases q
  |true=>rw[y]at q;injection q with q;exact⟨QJ y,_,_,q.symm,λB=>⟨⟨rfl,trivial⟩,wD,60,rfl,AW,Aoy,AlT l B⟩⟩
 ·cases q
end Go.Proofs.YtlmmbanfhjaioaaGreatDoor
end
end
