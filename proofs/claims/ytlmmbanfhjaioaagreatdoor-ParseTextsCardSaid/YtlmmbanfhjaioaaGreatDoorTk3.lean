/- Laid by program out of its parts: TkI, TkJ. -/
import Derived.Test.YtlmmbanfhjaioaaGreatDoorTk2
noncomputable section
set_option linter.unusedVariables false
set_option linter.unusedSimpArgs false
section
set_option maxRecDepth 100000
open Go Go.Ev
namespace Go.Proofs.YtlmmbanfhjaioaaGreatDoor
structure Ao where
 pos:Nat
 line:Int
 DL:Int
 out:List Tok
 Bx:List Dg
def Ao.Ag (x:Ao):Int:=(x.pos:Int)-x.DL+1
structure IV (l:List UInt8) (x:Ao):Prop where
 le:x.pos<=l.length
 Ag0:1<=x.line
 Ag1:x.line<=x.pos+1
 ApI:0<=x.DL
 ApJ:x.DL<=x.pos
 out:x.out.length<=x.pos
 Bx:x.Bx.length<=x.pos
 V0:(x.out++(KT (l.drop x.pos) x.line x.Ag).1,x.Bx++(KT (l.drop x.pos) x.line x.Ag).2)=Bk l
def S10 (l:List UInt8):CV:={X:=Ao,T:=λ_ n0 x=>[(0,.bv l),(4,.AJ n0 x.out.length 5),(5,.AJ (n0+1) x.Bx.length 3),(6,.int .i64 x.line),(7,.int .i64 x.DL),(8,.int .i64 x.pos)],H:=λ_ n0 x=>[(n0,.cells 60 .leaf (.rows 5 λk=>Dq (x.out.getD k t0)) (x.out.length*5) true),(n0+1,.cells 48 .leaf (.rows 3 λk=>EW (x.Bx.getD k d0)) (x.Bx.length*3) true)],nx:=λ_ n0=>n0+2,I:=λ_=>IV l,m:=λx=>l.length-x.pos}
def hd (l:List UInt8) (p:Nat):UInt8:=l.getD p 0
def CJ (l:List UInt8) (p:Nat):Int×Nat:=Bi (l.drop p)
def tx (l:List UInt8) (p:Nat):List UInt8:=(l.take (p+(CJ l p).2)).drop p
def Ao.kd (x:Ao) (l:List UInt8):Int:=if 0<(CJ l x.pos).1 then(C6 (CJ l x.pos).1 (tx l x.pos)).1 else 0
def Ao.nm (x:Ao) (l:List UInt8):Int:=if 0<(CJ l x.pos).1 then(C6 (CJ l x.pos).1 (tx l x.pos)).2.1 else 0
def Ao.wr (x:Ao) (l:List UInt8):List Dg:=x.Bx++(Es (hd l x.pos) (l.drop (x.pos+1)) x.line x.Ag).2
def C36 (l:List UInt8):CV:={X:=Ao,T:=λ_ n0 x=>[(0,.bv l),(4,.AJ n0 x.out.length 5),(5,.AJ (n0+1) (x.wr l).length 3),(6,.int .i64 (if hd l x.pos=10 then x.line+1 else x.line)),(7,.int .i64 (if hd l x.pos=10 then(x.pos:Int)+1 else x.DL)),(8,.int .i64 x.pos),(9,.ptr (n0+2) 0),(10,.int .i64 ((x.pos+(CJ l x.pos).2:Nat):Int))],H:=λ_ n0 x=>[(n0,.cells 60 .leaf (.rows 5 λk=>Dq (x.out.getD k t0)) (x.out.length*5) true),(n0+1,.cells 48 .leaf (.rows 3 λk=>EW ((x.wr l).getD k d0)) ((x.wr l).length*3) true),(n0+2,.cells 60 .leaf (.CC [.int .i64 (x.kd l),.bs [],.int .i64 (x.nm l),.int .i64 x.line,.int .i64 x.Ag]) 5 false)],nx:=λ_ n0=>n0+3,I:=λs x=>(IV l x/\x.pos<l.length)/\s.T.get 8=some (.int .i64 x.pos),m:=λ_=>0}
structure Gl (p:Int->Bool) (l:List UInt8) (a:Int) (e:Nat):Prop where
 lo:a.toNat+1<=e
 hi:e<=a.toNat+runN p (l.drop a.toNat)
def gN (l:List UInt8) (p:Int->Bool):CV:=thin Nat [0,4,5,6,7,8,9,11] (λe=>[(10,.int .i64 e)]) (λs e=>∀a,s.T.get 8=some (.int .i64 a)->Gl p l a e) λe=>l.length-e
def vd (l:List UInt8):Ctx:={P:=Tryz.prog,tb:=sa,lp:=λf r=>cond (Nat.beq f 17) (cond (Nat.beq r 5) (some (S10 l)) (cond (Nat.beq r 15) (some (gN l λz=>!decide (z=10))) (cond (Nat.beq r 18) (some (gN l λz=>BW z||AZ z)) (cond (Nat.beq r 26) (some (gN l AZ)) none)))) none,cut:=λf r=>cond (Nat.beq f 17) (cond (Nat.beq r 36) (some (C36 l)) none) none}
theorem oN (b:UInt8):Ha (b.toNat:Int)=BW (b.toNat:Int):=by
 have h:∀n:Fin 256,Ha (n.val:Int)=BW (n.val:Int):=by decide+kernel
 exact h ⟨b.toNat,b.toNat_lt⟩
theorem Wv {l:List UInt8} {p:Nat} (h:p<l.length):l.drop p=hd l p::l.drop (p+1):=ZL l p h
theorem Q1 {l:List UInt8} {p:Nat} (h:p<l.length):CJ l p=Bi (hd l p::l.drop (p+1)):=by unfold CJ;rw[Wv h]
theorem AoP {l:List UInt8} {p:Nat} (h:p<l.length):tx l p=(hd l p::l.drop (p+1)).take (CJ l p).2:=by unfold tx;rw[List.drop_take,Nat.add_sub_cancel_left,Wv h]
theorem cr {l:List UInt8} {x:Ao} (h:x.pos<l.length):Es (hd l x.pos) (l.drop (x.pos+1)) x.line x.Ag=
  if 0<(CJ l x.pos).1 then([⟨(C6 (CJ l x.pos).1 (tx l x.pos)).1,tx l x.pos,(C6 (CJ l x.pos).1 (tx l x.pos)).2.1,x.line,x.Ag⟩],if(C6 (CJ l x.pos).1 (tx l x.pos)).2.2=0 then []else [⟨x.line,x.Ag,(C6 (CJ l x.pos).1 (tx l x.pos)).2.2⟩])
  else([],if JR ((hd l x.pos).toNat:Int)then []else [⟨x.line,x.Ag,3⟩]):=by
 unfold Es;rw[AoP h,Q1 h]
theorem Va {l:List UInt8} {x:Ao} {n:Nat} (h:x.pos<l.length) (q:CJ l x.pos=(0,n)) (hb:JR ((hd l x.pos).toNat:Int)=true):x.kd l=0/\x.nm l=0/\x.wr l=x.Bx:=by
 refine⟨?_,?_,?_⟩
 ·unfold Ao.kd;rw[q,if_neg (Int.lt_irrefl 0)]
 ·unfold Ao.nm;rw[q,if_neg (Int.lt_irrefl 0)]
 ·unfold Ao.wr;rw[cr h,q,if_neg (Int.lt_irrefl 0),if_pos hb,List.append_nil]
theorem Aop {l:List UInt8} {x:Ao} {n:Nat} (h:x.pos<l.length) (q:CJ l x.pos=(0,n)) (hb:JR ((hd l x.pos).toNat:Int)=false):x.kd l=0/\x.nm l=0/\x.wr l=x.Bx++[⟨x.line,x.Ag,3⟩]:=by
 refine⟨?_,?_,?_⟩
 ·unfold Ao.kd;rw[q,if_neg (Int.lt_irrefl 0)]
 ·unfold Ao.nm;rw[q,if_neg (Int.lt_irrefl 0)]
 ·unfold Ao.wr;rw[cr h,q,if_neg (Int.lt_irrefl 0),if_neg (by rw[hb];simp)]
theorem Mr {l:List UInt8} {x:Ao} {n:Nat} {c a m e:Int} (h:x.pos<l.length) (y:CJ l x.pos=(c,n)) (hc:0<c) (q:C6 c (tx l x.pos)=(a,m,e)):x.kd l=a/\x.nm l=m/\x.wr l=x.Bx++(if e=0 then []else [⟨x.line,x.Ag,e⟩]):=by
 refine⟨?_,?_,?_⟩
 ·unfold Ao.kd;rw[y,if_pos hc,q]
 ·unfold Ao.nm;rw[y,if_pos hc,q]
 ·unfold Ao.wr;rw[cr h,y,if_pos hc,q]
theorem Kn {l:List UInt8} {x:Ao} {L F E K M:Int} (J:IV l x) (B:x.pos<l.length) (C:L=if hd l x.pos=10 then x.line+1 else x.line) (O:F=if hd l x.pos=10 then(x.pos:Int)+1 else x.DL) (R:E=((x.pos+(CJ l x.pos).2:Nat):Int)) (h:x.kd l=K/\x.nm l=M/\x.wr l=x.Bx): ∃y:Ao,((IV l y/\y.pos.succ<=l.length)/\(x.pos:Int)=y.pos)/\(x.out.length=y.out.length/\x.Bx.length=(y.wr l).length/\(L=if hd l y.pos=10 then y.line+1 else y.line)/\(F=if hd l y.pos=10 then(y.pos:Int)+1 else y.DL)/\(x.pos:Int)=y.pos/\E=((y.pos+(CJ l y.pos).2:Nat):Int))/\ (x.out.length*5=y.out.length*5/\Au λi=>i*5<x.out.length*5->(x.out.getD i t0).kind=(y.out.getD i t0).kind/\(x.out.getD i t0).text=(y.out.getD i t0).text/\(x.out.getD i t0).num=(y.out.getD i t0).num/\(x.out.getD i t0).line=(y.out.getD i t0).line/\(x.out.getD i t0).Ag=(y.out.getD i t0).Ag)/\(x.Bx.length*3=(y.wr l).length*3/\Au λi=>i*3<x.Bx.length*3->(x.Bx.getD i d0).line=((y.wr l).getD i d0).line/\(x.Bx.getD i d0).Ag=((y.wr l).getD i d0).Ag/\(x.Bx.getD i d0).err=((y.wr l).getD i d0).err)/\ ((K=y.kd l/\M=y.nm l)/\x.line=y.line)/\(x.pos:Int)-x.DL+1=y.Ag:=by obtain⟨U,S,q⟩:=h;refine⟨x,⟨⟨J,B⟩,rfl⟩,⟨rfl,by rw[q],C,O,rfl,R⟩,⟨rfl,⟨λi _=>⟨rfl,rfl,rfl,rfl,rfl⟩⟩⟩,⟨by rw[q],by rw[q];exact⟨λi _=>⟨rfl,rfl,rfl⟩⟩⟩,⟨⟨U.symm,S.symm⟩,rfl⟩,rfl⟩
theorem Wa {l:List UInt8} {x:Ao} {C:List (Nat×Nat)} {L F E K M e:Int} (O:IV l x) (B:x.pos<l.length) (J:L=if hd l x.pos=10 then x.line+1 else x.line) (R:F=if hd l x.pos=10 then(x.pos:Int)+1 else x.DL) (S:E=((x.pos+(CJ l x.pos).2:Nat):Int)) (h:x.kd l=K/\x.nm l=M/\x.wr l=x.Bx++[⟨x.line,x.Ag,e⟩]): ∃y:Ao,((IV l y/\y.pos.succ<=l.length)/\(x.pos:Int)=y.pos)/\(x.out.length=y.out.length/\x.Bx.length+1=(y.wr l).length/\(L=if hd l y.pos=10 then y.line+1 else y.line)/\(F=if hd l y.pos=10 then(y.pos:Int)+1 else y.DL)/\(x.pos:Int)=y.pos/\E=((y.pos+(CJ l y.pos).2:Nat):Int))/\ (x.out.length*5=y.out.length*5/\Au λi=>i*5<x.out.length*5->(x.out.getD i t0).kind=(y.out.getD i t0).kind/\(x.out.getD i t0).text=(y.out.getD i t0).text/\(x.out.getD i t0).num=(y.out.getD i t0).num/\(x.out.getD i t0).line=(y.out.getD i t0).line/\(x.out.getD i t0).Ag=(y.out.getD i t0).Ag)/\((x.Bx.length+1)*3=(y.wr l).length*3/\Au λi=>i*3<(x.Bx.length+1)*3->AH C (EW ((y.wr l).getD i d0)) (B0 x.Bx.length (λk=>EW (x.Bx.getD k d0)) (λ_=>[AV.int .i64 x.line,AV.int .i64 ((x.pos:Int)-x.DL+1),AV.int .i64 e]) i))/\ ((K=y.kd l/\M=y.nm l)/\x.line=y.line)/\(x.pos:Int)-x.DL+1=y.Ag:=by obtain⟨V,U,q⟩:=h;refine⟨x,⟨⟨O,B⟩,rfl⟩,⟨rfl,by rw[q];simp,J,R,rfl,S⟩,⟨rfl,⟨λi _=>⟨rfl,rfl,rfl,rfl,rfl⟩⟩⟩,⟨by rw[q];simp,by rw[q];exact RN (ft _) rfl rfl⟩,⟨⟨V.symm,U.symm⟩,rfl⟩,rfl⟩
theorem IV.step {l:List UInt8} {x:Ao} (y:IV l x) (q:x.pos<l.length): IV l ⟨x.pos+(CJ l x.pos).2,if hd l x.pos=10 then x.line+1 else x.line,if hd l x.pos=10 then(x.pos:Int)+1 else x.DL,x.out++(Es (hd l x.pos) (l.drop (x.pos+1)) x.line x.Ag).1,x.wr l⟩:=by
 obtain⟨S,R,O,M,L,K,J,B⟩:=y;have hn:=Pb (hd l x.pos) (l.drop (x.pos+1));rw[<-Q1 q,List.length_cons,List.length_drop]at hn;obtain⟨E,C⟩:=pE (hd l x.pos) (l.drop (x.pos+1)) x.line x.Ag;refine⟨?_,?_,?_,?_,?_,?_,?_,?_⟩
 ·simp only;omega
 ·simp only;split<;>omega
 ·simp only;split<;>omega
 ·simp only;split<;>omega
 ·simp only;split<;>omega
 ·simp only[List.length_append];omega
 ·simp only[Ao.wr,List.length_append];omega
 ·rw[<-B,Wv q,fC,<-Q1 q,<-Wv q,List.drop_drop];simp only[Ao.wr,List.append_assoc,Ao.Ag];by_cases hb:hd l x.pos=10
  ·have:(CJ l x.pos).2=1:=by rw[Q1 q,hb,cn]
   rw[if_pos hb,if_pos hb,if_pos hb,this,show((x.pos+1:Nat):Int)-((x.pos:Int)+1)+1=1 from by omega]
  ·rw[if_neg hb,if_neg hb,if_neg hb,show((x.pos+(CJ l x.pos).2:Nat):Int)-x.DL+1=(x.pos:Int)-x.DL+1+(CJ l x.pos).2 from by omega]
theorem Gl.next {p:Int->Bool} {l:List UInt8} {a e:Nat} (h:Gl p l (a:Int) e) (K:e<l.length):(p ((l.getD e 0).toNat:Int)=true->Gl p l (a:Int) (e+1))/\(p ((l.getD e 0).toNat:Int)=false->e=a+runN p (l.drop a)):=by
 obtain⟨J,E⟩:=h;simp only[Int.toNat_natCast]at J E;have B:(l.drop a).getD (e-a) 0=l.getD e 0:=by simp[List.getD_eq_getElem?_getD];rw[show a+(e-a)=e by omega]
 have:=r8 p (l.drop a) (e-a) (by omega) (by rw[List.length_drop];omega);rw[B]at this;refine⟨λy=>?_,λy=>?_⟩
 ·rcases this with⟨C,_⟩|⟨_,q⟩
  ·exact⟨by simp only[Int.toNat_natCast];omega,by simp only[Int.toNat_natCast];omega⟩
  ·rw[y]at q;cases q
 ·rcases this with⟨_,q⟩|⟨C,_⟩
  ·rw[y]at q;cases q
  ·omega
theorem Gl.stop {p:Int->Bool} {l:List UInt8} {a e:Nat} (h:Gl p l (a:Int) e) (B:l.length<=e) (C:a<=l.length):e=a+runN p (l.drop a):=by obtain⟨y,q⟩:=h;simp only[Int.toNat_natCast]at y q;have:=RO p (l.drop a);rw[List.length_drop]at this;omega
theorem Gl.first {p:Int->Bool} {l:List UInt8} {a:Nat} (q:a<l.length) (h:p ((l.getD a 0).toNat:Int)=true):Gl p l (a:Int) (a+1):=by have:=XI (t:=l.drop (a+1)) (p:=p) h;have e:l.drop a=l.getD a 0::l.drop (a+1):=ZL l a q;rw[<-e]at this;exact⟨by simp only[Int.toNat_natCast];omega,by simp only[Int.toNat_natCast];omega⟩
theorem Gl.le {p:Int->Bool} {l:List UInt8} {a e:Nat} (h:Gl p l (a:Int) e) (B:a<=l.length):e<=l.length:=by obtain⟨y,q⟩:=h;simp only[Int.toNat_natCast]at y q;have:=RO p (l.drop a);rw[List.length_drop]at this;omega
theorem cg {l:List UInt8} {p:Nat} (h:p<l.length):CJ l p=if BW ((hd l p).toNat:Int)then(1,runN (λz=>BW z||AZ z) (l.drop p))else if AZ ((hd l p).toNat:Int)then(3,runN AZ (l.drop p))
  else if((hd l p).toNat:Int)=35 then(0,runN (λz=>!decide (z=10)) (l.drop p))
  else if 0<H8 l p then(4,(H8 l p).toNat)else(0,1):=by
 rw[Q1 h,TN,Wv h];by_cases C:BW ((hd l p).toNat:Int)=true
 ·rw[if_pos C,if_pos C]
 ·rw[if_neg C,if_neg C];by_cases B:AZ ((hd l p).toNat:Int)=true
  ·rw[if_pos B,if_pos B]
  ·rw[if_neg B,if_neg B];by_cases y:((hd l p).toNat:Int)=35
   ·rw[if_pos y,if_pos y]
   ·rw[if_neg y,if_neg y];have E:(1<=(l.drop (p+1)).length/\(((l.drop (p+1)).getD 0 0).toNat:Int)=61)↔(p+1<l.length/\((l.getD (p+1) 0).toNat:Int)=61):=by
     rw[List.length_drop];simp only[List.getD_eq_getElem?_getD,List.getElem?_drop,Nat.add_zero];constructor
     ·rintro⟨a,b⟩;exact⟨by omega,b⟩
     ·rintro⟨a,b⟩;exact⟨by omega,b⟩
    unfold H8;rw[show l.getD p 0=hd l p from rfl];by_cases q:((hd l p).toNat:Int)=61/\p+1<l.length/\((l.getD (p+1) 0).toNat:Int)=61
    ·rw[if_pos ⟨q.1,E.2 q.2⟩,if_pos q,if_pos (by decide)];rfl
    ·rw[if_neg (λh=>q ⟨h.1,E.1 h.2⟩),if_neg q];cases NX ((hd l p).toNat:Int)<;>simp
theorem fO {l:List UInt8} {p:Nat} {z:Int} (h:p<l.length) (hz:((hd l p).toNat:Int)=z) (E:BW z=false) (C:AZ z=false) (B:z≠35) (y:z≠61) (q:NX z=false):CJ l p=(0,1):=by rw[Q1 h,TN,hz,if_neg (by rw[E];simp),if_neg (by rw[C];simp),if_neg B,if_neg (λh=>y h.1),if_neg (by rw[q];simp)]
theorem Ahn (l:List UInt8) (p:Nat):0<=H8 l p/\H8 l p<=2:=by
 unfold H8;split
 ·decide
 ·split<;>decide
theorem O5 {s:List UInt8}:C6 1 s=if Dm s then(2,0,0)else(1,0,if 32<s.length then 9 else 0):=by
 unfold C6;rw[if_neg (by decide)];by_cases h:Dm s=true
 ·rw[if_pos ⟨rfl,h⟩,if_pos h]
 ·rw[if_neg (λe=>h e.2),if_neg h]
theorem W2 {s:List UInt8}:C6 3 s=(3,(E0 s).1,if(E0 s).2 then 0 else 9):=by unfold C6;rw[if_pos rfl]
theorem Ahi {s:List UInt8} (h:s.length<=32):C6 4 s=(4,0,0):=by unfold C6;rw[if_neg (by decide),if_neg (λe=>absurd e.1 (by decide)),if_neg (by omega)]
def qc (a:Ao):=(↑(Ao.pos a):Int)
def qF (a:Ao) (b:List UInt8):=(↑(Ao.pos a+Prod.snd (CJ b (Ao.pos a))):Int)
@[reducible] def kG:List UInt8->Ao->Ao->Prop:=λ(l:List UInt8) (a q:Ao)=>(Aa/\(qc a)=(qc q))/\(Ab (some 2)/\Aa)/\(Aa/\(qc a)+1=(qF q l))/\True
@[reducible] def YV:List UInt8->Ao->Ao->Prop:=λ(l:List UInt8) (a q:Ao)=>(Aa/\Aa/\Aa/\Aa/\((((True/\Aa/\(1:Int)=Ao.kd q l)/\([]:List UInt8)=[])/\Aa/\(0:Int)=Ao.nm q l)/\Aa/\Ao.line a=Ao.line q)/\Aa/\(qc a)-Ao.DL a+1=Ao.Ag q)/\True
@[reducible] def kM:List UInt8->Ao->Ao->Prop:=λ(l:List UInt8) (a q:Ao)=>(Aa/\Aa/\Aa/\Aa/\((((True/\Aa/\(0:Int)=Ao.kd q l)/\([]:List UInt8)=[])/\Aa/\(0:Int)=Ao.nm q l)/\Aa/\Ao.line a=Ao.line q)/\Aa/\(qc a)-Ao.DL a+1=Ao.Ag q)/\True
def qw (a:Ao) (b:Nat) (c:List UInt8):=List.drop (Int.toNat (qc a)) (List.take (Int.toNat (↑b:Int)) c)
@[reducible] def Y0:List UInt8->Ao->Nat->Ao->Prop:=λ(l:List UInt8) (a:Ao) (y:Nat) (q:Ao)=>(Aa/\Aa/\Aa/\Aa/\((((True/\Aa/\(3:Int)=Ao.kd q l)/\([]:List UInt8)=[])/\Aa/\Prod.fst (E0 (qw a y l))=Ao.nm q l)/\Aa/\Ao.line a=Ao.line q)/\Aa/\(qc a)-Ao.DL a+1=Ao.Ag q)/\True
def qe (a:Ao):=List.length (Ao.Bx a)
def qx (a:Ao) (b:List UInt8):=List.length (Ao.wr a b)
def qy (a:Ao) (b:Nat):=List.getD (Ao.Bx a) b d0
def qW (a:Ao) (b:List UInt8) (c:Nat):=List.getD (Ao.wr a b) c d0
@[reducible] def SF:List UInt8->Ao->Ao->Prop:=λ(l:List UInt8) (a q:Ao)=>Aa/\Aa/\Aa/\Aa/\qe a*3=qx q l*3/\Au λ(i:Nat)=>qK i (qe a*3)->(Aa/\Dg.line (qy a i)=Dg.line (qW q l i))/\(Aa/\Dg.Ag (qy a i)=Dg.Ag (qW q l i))/\(Aa/\Dg.err (qy a i)=Dg.err (qW q l i))/\True
@[reducible] def kP:List UInt8->Ao->Ao->Prop:=λ(l:List UInt8) (a q:Ao)=>(Aa/\Aa/\Aa/\Aa/\qx a l*3=qe q*3/\Au λ(i:Nat)=>qK i (qx a l*3)->(Aa/\Dg.line (qW a l i)=Dg.line (qy q i))/\(Aa/\Dg.Ag (qW a l i)=Dg.Ag (qy q i))/\(Aa/\Dg.err (qW a l i)=Dg.err (qy q i))/\True)/\True
@[reducible] def kQ:List UInt8->Ao->Ao->Prop:=λ(l:List UInt8) (a q:Ao)=>(Ab (some 1)/\qx a l=qe q/\Aa)/\(Aa/\(if hd l (Ao.pos a)=(10:UInt8)then Ao.line a+1 else Ao.line a)=Ao.line q)/\(Aa/\(if hd l (Ao.pos a)=(10:UInt8)then(qc a)+1 else Ao.DL a)=Ao.DL q)/\(Aa/\(qF a l)=(qc q))/\True
def Xf (a:Ao) (b:List UInt8) (c:Ao):=(Aa/\Ao.line a=if hd b (Ao.pos c)=(10:UInt8)then Ao.line c+1 else Ao.line c)
def Xh (a:Ao) (b:List UInt8) (c:Ao):=(Aa/\Ao.DL a=if hd b (Ao.pos c)=(10:UInt8)then(qc c)+1 else Ao.DL c)
@[reducible] def SG:List UInt8->Ao->Nat->Ao->Prop:=λ(l:List UInt8) (a:Ao) (y:Nat) (q:Ao)=>(Xf a l q)/\(Xh a l q)/\(Aa/\(qc a)=(qc q))/\(Ab (some 2)/\Aa)/\(Aa/\(↑y:Int)=(qF q l))/\True
def qh (a:Ao):=List.length (Ao.out a)
def qp (a:List UInt8) (b:Ao):=(↑(UInt8.toNat (List.getD a (Int.toNat (qc b)) (0:UInt8))):Int)
@[reducible] def kR:List UInt8->Ao->Prop:=λ(l:List UInt8) (a:Ao)=>l=l/\(Ab (some 0)/\Ab (qh a)/\Aa)/\(Ab (some 1)/\Ab (qe a)/\Aa)/\(Aa/\Ab (Ao.line a))/\(Aa/\Ab (Ao.DL a))/\(Aa/\Ab (qc a))/\(Ab (some 2)/\Aa)/\(Aa/\Ab (qp l a))/\True
@[reducible] def kU:List UInt8->Ao->Ao->Prop:=λ(l:List UInt8) (a q:Ao)=>(Xf a l q)/\(Xh a l q)/\kG l a q
def qo (a:Ao) (b:Nat):=List.getD (Ao.out a) b t0
@[reducible] def uN:Ao->Ao->Prop:=λ(a q:Ao)=>Aa/\Aa/\Aa/\Aa/\qh a*5=qh q*5/\Au λ(i:Nat)=>L7 i (qh a*5)->(Aa/\Tok.kind (qo a i)=Tok.kind (qo q i))/\Tok.text (qo a i)=Tok.text (qo q i)/\(Aa/\Tok.num (qo a i)=Tok.num (qo q i))/\(Aa/\Tok.line (qo a i)=Tok.line (qo q i))/\(Aa/\Tok.Ag (qo a i)=Tok.Ag (qo q i))/\True
def qQ (a:Ao) (b:Ao):=(Ab (some 0)/\qh a=qh b/\Aa)
@[reducible] def VV:List UInt8->Ao->Nat->Ao->Prop:=λ(l:List UInt8) (a:Ao) (y:Nat) (q:Ao)=>l=l/\(qQ a q)/\(Ab (some 1)/\qe a=qx q l/\Aa)/\SG l a y q
def KH (a:Ao):=uN a
@[reducible] def YW:List UInt8->Ao->Ao->Prop:=λ(l:List UInt8) (a q:Ao)=>KH a q/\SF l a q/\kM l a q
@[reducible] def kH:Ao->Prop:=λ(a:Ao)=>(Aa/\Aa/\Aa/\Aa/\Ab (qh a*5)/\Au λ(i:Nat)=>L7 i (qh a*5)->(Aa/\Ab (Tok.kind (qo a i)))/\Ab (Tok.text (qo a i))/\(Aa/\Ab (Tok.num (qo a i)))/\(Aa/\Ab (Tok.line (qo a i)))/\(Aa/\Ab (Tok.Ag (qo a i)))/\True)/\(Aa/\Aa/\Aa/\Aa/\Ab (qe a*3)/\Au λ(i:Nat)=>qK i (qe a*3)->(Aa/\Ab (Dg.line (qy a i)))/\(Aa/\Ab (Dg.Ag (qy a i)))/\(Aa/\Ab (Dg.err (qy a i)))/\True)/\(Aa/\Aa/\Aa/\Aa/\((((True/\Aa/\Ab (0:Int))/\0=0/\0=0)/\Aa/\Ab (0:Int))/\Aa/\Ab (Ao.line a))/\Aa/\Ab ((qc a)-Ao.DL a+1))/\True
@[reducible] def YX:List UInt8->Ao->Nat->Prop:=λ(l:List UInt8) (a:Ao) (q:Nat)=>Aa/\((Aa/\(qc a)+1=(↑q:Int))/\kR l a)/\kH a
@[reducible] def YY:List UInt8->Ao->Nat->Nat->Prop:=λ(l:List UInt8) (a:Ao) (y q:Nat)=>Lt l q y/\Aa/\((Aa/\(↑y:Int)+1=(↑q:Int))/\kR l a)/\kH a
def qf (a:List UInt8) (b:Ao) (c:Ao):=((IV a b/\Nat.le (Nat.succ (Ao.pos b)) a.length)/\some (AV.int .i64 (qc c))=some (AV.int .i64 (qc b)))
@[reducible] def kI:List UInt8->Ao->Nat->Ao->Prop:=λ(l:List UInt8) (a:Ao) (y:Nat) (q:Ao)=>(qf l q a)/\Aa/\VV l a y q/\KH a q/\SF l a q/\YV l a q
@[reducible] def kJ:List UInt8->Ao->Nat->Ao->Prop:=λ(l:List UInt8) (a:Ao) (y:Nat) (q:Ao)=>(qf l q a)/\Aa/\VV l a y q/\YW l a q
@[reducible] def kK:List UInt8->Ao->Nat->Ao->Prop:=λ(l:List UInt8) (a:Ao) (y:Nat) (q:Ao)=>(qf l q a)/\Aa/\VV l a y q/\KH a q/\SF l a q/\(Aa/\Aa/\Aa/\Aa/\((((True/\Aa/\(2:Int)=Ao.kd q l)/\([]:List UInt8)=[])/\Aa/\(0:Int)=Ao.nm q l)/\Aa/\Ao.line a=Ao.line q)/\Aa/\(qc a)-Ao.DL a+1=Ao.Ag q)/\True
@[reducible] def YZ:List UInt8->Ao->Ao->Prop:=λ(l:List UInt8) (a q:Ao)=>(qf l q a)/\Aa/\(l=l/\(qQ a q)/\(Ab (some 1)/\qe a=qx q l/\Aa)/\kU l a q)/\YW l a q
@[reducible] def kN:List UInt8->Ao->Nat->Ao->Prop:=λ(l:List UInt8) (a:Ao) (y:Nat) (q:Ao)=>(qf l q a)/\Aa/\VV l a y q/\KH a q/\SF l a q/\Y0 l a y q
def qL (a:Ao):=some (AV.int .i64 (qc a))
def L6 (a:Int):=some (AV.int .i64 a)
@[reducible] def kO:List UInt8->Ao->Nat->Nat->Prop:=λ(l:List UInt8) (a:Ao) (B y:Nat)=>(∀(q:Int),qL a=L6 q->Gl qX l q y)/\YY l a B y
def qg (a:Ao):=Ap (bif bif Nat.ble (qe a*3) (qe a*3)then true else false then decide (List.length (Ao.Bx a)+1<=9223372036854775807/\(List.length (Ao.Bx a)+1)*24<=140737488355328)else false)
def qm (a:Ao):=B0 (qe a) (λ(q:Nat)=>EW (List.getD (Ao.Bx a) q d0)) (λ(y:Nat)=>[AV.int .i64 (Ao.line a),AV.int .i64 ((qc a)-Ao.DL a+1),AV.int .i64 (9:Int)])
def qM (a:Nat) (b:List UInt8) (c:Ao):=Ap (bif Iu (↑a:Int) b.length then Iu (qc c) (Int.toNat (↑a:Int))else false)
def pP (a:Ao) (b:List UInt8):=(Int.NonNeg ((qc a)-0)/\Int.NonNeg ((↑b.length:Int)-((qc a)+1))/\qI b)
theorem AjX:∀(l:List UInt8),qI l->(∃(x0:Ao),IV l x0/\Aa/\(l=l/\qh x0=0/\qe x0=0/\(Aa/\(1:Int)=Ao.line x0)/\(Aa/\(0:Int)=Ao.DL x0)/\(Aa/\(0:Int)=(qc x0))/\True)/\(Aa/\True)/\(Aa/\True)/\True)/\∀(x:Ao),IV l x->Ad (AP (qc x) (qY l)) (Ap (Bo .i64 ((qc x)-Ao.DL x)) (Ap (Bo .i64 ((qc x)-Ao.DL x+1)) (Ap (Bo .i64 ((qc x)+1)) (Ap (Bn (qc x) l.length) (Ad (Ak (qp l x) (10:Int)) (Ap (Bo .i64 (Ao.line x+1)) (Ap (Bo .i64 ((qc x)+1)) (∃(q:Ao),(qf l q x)/\Aa/\(l=l/\(qQ x q)/\(Ab (some 1)/\qe x=qx q l/\Aa)/\(Aa/\Ao.line x+1=if hd l (Ao.pos q)=(10:UInt8)then Ao.line q+1 else Ao.line q)/\(Aa/\(qc x)+1=if hd l (Ao.pos q)=(10:UInt8)then(qc q)+1 else Ao.DL q)/\kG l x q)/\YW l x q))) (Ad (Ak (qp l x) (32:Int)) (∃(q:Ao),YZ l x q) (Ad (Ak (qp l x) (9:Int)) (∃(q:Ao),YZ l x q) (Ad (Ak (qp l x) (13:Int)) (∃(q:Ao),YZ l x q) (Ad (Ak (qp l x) (35:Int)) ((∃(x0:Nat),(∀(a:Int),qL x=L6 a->Gl qD l a x0)/\YX l x x0)/\∀(q:Nat),(∀(a:Int),qL x=L6 a->Gl qD l a q)->Ad (AP (↑q:Int) (qY l)) (ql q l (Ad (!Ak (qa l q) (10:Int)) (qC q (∃(R:Nat),(∀(a:Int),qL x=L6 a->Gl qD l a R)/\YY l x q R)) (∃(B:Ao),kJ l x q B))) (∃(B:Ao),kJ l x q B)) (True/\Ad (Ax (Ha (qp l x))) ((∃(x0:Nat),(∀(a:Int),qL x=L6 a->Gl qX l a x0)/\YX l x x0)/\∀(q:Nat),(∀(a:Int),qL x=L6 a->Gl qX l a q)->Ad (AP (↑q:Int) (qY l)) (ql q l (True/\Ad (Ax (Ha (qa l q))) (qC q (∃(R:Nat),kO l x q R)) (ql q l (True/\Ad (Ax (AZ (qa l q))) (qC q (∃(R:Nat),kO l x q R)) (qM q l x (True/\Ad (Ax (Dm (qw x q l))) (∃(B:Ao),kK l x q B) (Ap (Bo .i64 ((↑q:Int)-(qc x))) (Ad (AP (32:Int) ((↑q:Int)-(qc x))) (qg x (∃(B:Ao),(qf l B x)/\Aa/\(l=l/\(qQ x B)/\(Ab (some 14)/\qe x+1=qx B l/\Aa)/\SG l x q B)/\KH x B/\(Aa/\Aa/\Aa/\Aa/\(qe x+1)*3=qx B l*3/\Au λ(i:Nat)=>qK i ((qe x+1)*3)->AH [(2,2),(1,14),(0,0)] (EW (qW B l i)) (qm x i))/\YV l x B)) (∃(B:Ao),kI l x q B))))))))) (qM q l x (True/\Ad (Ax (Dm (qw x q l))) (∃(B:Ao),kK l x q B) (Ap (Bo .i64 ((↑q:Int)-(qc x))) (Ad (AP (32:Int) ((↑q:Int)-(qc x))) (qg x (∃(B:Ao),(qf l B x)/\Aa/\(l=l/\(qQ x B)/\(Ab (some 10)/\qe x+1=qx B l/\Aa)/\SG l x q B)/\KH x B/\(Aa/\Aa/\Aa/\Aa/\(qe x+1)*3=qx B l*3/\Au λ(i:Nat)=>qK i ((qe x+1)*3)->AH [(2,2),(1,10),(0,0)] (EW (qW B l i)) (qm x i))/\YV l x B)) (∃(B:Ao),kI l x q B)))))) (True/\Ad (Ax (AZ (qp l x))) ((∃(x0:Nat),(∀(a:Int),qL x=L6 a->Gl AZ l a x0)/\YX l x x0)/\∀(q:Nat),(∀(a:Int),qL x=L6 a->Gl AZ l a q)->Ad (AP (↑q:Int) (qY l)) (ql q l (True/\Ad (Ax (AZ (qa l q))) (qC q (∃(R:Nat),(∀(a:Int),qL x=L6 a->Gl AZ l a R)/\YY l x q R)) (qM q l x (Nat.le (List.length (qw x q l)) 1000000/\Ad (!Ax (Prod.snd (E0 (qw x q l)))) (qg x (∃(B:Ao),(qf l B x)/\Aa/\(l=l/\(qQ x B)/\(Ab (some 15)/\qe x+1=qx B l/\Aa)/\SG l x q B)/\KH x B/\(Aa/\Aa/\Aa/\Aa/\(qe x+1)*3=qx B l*3/\Au λ(i:Nat)=>qK i ((qe x+1)*3)->AH [(2,2),(1,15),(0,0)] (EW (qW B l i)) (qm x i))/\Y0 l x q B)) (∃(B:Ao),kN l x q B))))) (qM q l x (Nat.le (List.length (qw x q l)) 1000000/\Ad (!Ax (Prod.snd (E0 (qw x q l)))) (qg x (∃(B:Ao),(qf l B x)/\Aa/\(l=l/\(qQ x B)/\(Ab (some 13)/\qe x+1=qx B l/\Aa)/\SG l x q B)/\KH x B/\(Aa/\Aa/\Aa/\Aa/\(qe x+1)*3=qx B l*3/\Au λ(i:Nat)=>qK i ((qe x+1)*3)->AH [(2,2),(1,13),(0,0)] (EW (qW B l i)) (qm x i))/\Y0 l x q B)) (∃(B:Ao),kN l x q B)))) ((pP x l)/\Ad (AP (0:Int) (AY (H8 l (Int.toNat (qc x))))) ((pP x l)/\Ap (Bo .i64 ((qc x)+AY (H8 l (Int.toNat (qc x))))) (∃(q:Ao),(qf l q x)/\Aa/\(l=l/\(qQ x q)/\(Ab (some 1)/\qe x=qx q l/\Aa)/\(Xf x l q)/\(Xh x l q)/\(Aa/\(qc x)=(qc q))/\(Ab (some 2)/\Aa)/\(Aa/\(qc x)+AY (H8 l (Int.toNat (qc x)))=(qF q l))/\True)/\KH x q/\SF l x q/\(Aa/\Aa/\Aa/\Aa/\((((True/\Aa/\(4:Int)=Ao.kd q l)/\([]:List UInt8)=[])/\Aa/\(0:Int)=Ao.nm q l)/\Aa/\Ao.line x=Ao.line q)/\Aa/\(qc x)-Ao.DL x+1=Ao.Ag q)/\True)) (qg x (∃(q:Ao),(qf l q x)/\Aa/\(l=l/\(qQ x q)/\(Ab (some 11)/\qe x+1=qx q l/\Aa)/\kU l x q)/\KH x q/\(Aa/\Aa/\Aa/\Aa/\(qe x+1)*3=qx q l*3/\Au λ(i:Nat)=>qK i ((qe x+1)*3)->AH [(2,2),(1,11),(0,0)] (EW (qW q l i)) (B0 (qe x) (λ(k:Nat)=>EW (qy x k)) (λ(B:Nat)=>[AV.int .i64 (Ao.line x),AV.int .i64 ((qc x)-Ao.DL x+1),AV.int .i64 (3:Int)]) i))/\kM l x q)))))))))/\∀(q:Ao),(IV l q/\Nat.le (Nat.succ (Ao.pos q)) l.length)/\qL x=qL q->Ad (AP (0:Int) (Ao.kd q l)) (Ap (bif Iu (qF q l) l.length then Iu (qc q) (Int.toNat (qF q l))else false) (Ap (bif bif Nat.ble (qh q*5) (qh q*5)then true else false then decide (List.length (Ao.out q)+1<=9223372036854775807/\(List.length (Ao.out q)+1)*48<=140737488355328)else false) (∃(R:Ao),IV l R/\Nat.le (Nat.succ (l.length-Ao.pos R)) (l.length-Ao.pos x)/\Aa/\(l=l/\(Ab (some 5)/\qh q+1=qh R/\Aa)/\kQ l q R)/\(Aa/\Aa/\Aa/\Aa/\(qh q+1)*5=qh R*5/\Au λ(i:Nat)=>L7 i ((qh q+1)*5)->AH [(1,1),(0,5)] (Dq (qo R i)) (B0 (qh q) (λ(k:Nat)=>Dq (qo q k)) (λ(x:Nat)=>[AV.int .i64 (Ao.kd q l),AV.bs (List.drop (Int.toNat (qc q)) (List.take (Int.toNat (qF q l)) l)),AV.int .i64 (Ao.nm q l),AV.int .i64 (Ao.line q),AV.int .i64 (Ao.Ag q)]) i))/\kP l q R))) (∃(R:Ao),IV l R/\Nat.le (Nat.succ (l.length-Ao.pos R)) (l.length-Ao.pos x)/\Aa/\(l=l/\(qQ q R)/\kQ l q R)/\KH q R/\kP l q R)))))) (Ap (bif bif Nat.ble (qh x*5) (qh x*5)then Ds 5 (qh x) λ(k:Nat)=>Dq (qo x k)else false then bif bif Nat.ble (qe x*3) (qe x*3)then Ds 3 (qe x) λ(k:Nat)=>EW (qy x k)else false then true else false else false) ((Aa/\qh x=List.length (Prod.fst (Bk l))/\Au λ(i:Nat)=>M8 i (qh x)->(Aa/\Tok.kind (qo x i)=Tok.kind (qG l i))/\Tok.text (qo x i)=Tok.text (qG l i)/\(Aa/\Tok.num (qo x i)=Tok.num (qG l i))/\(Aa/\Tok.line (qo x i)=Tok.line (qG l i))/\(Aa/\Tok.Ag (qo x i)=Tok.Ag (qG l i))/\True)/\(Aa/\qe x=List.length (Prod.snd (Bk l))/\Au λ(i:Nat)=>M8 i (qe x)->(Aa/\Dg.line (qy x i)=Dg.line (Pk l i))/\(Aa/\Dg.Ag (qy x i)=Dg.Ag (Pk l i))/\(Aa/\Dg.err (qy x i)=Dg.err (Pk l i))/\True)/\True))
:=by
 delta qa qc qe qf qg qh ql qm qo qp qw qx qy qC qD qF qG qI qK qL qM qQ qW qX qY L6 Pk Xf L7 Xh KH M8 pP;intro l hl;simp only[Du,DT,true_and,and_true,eq_self,implies_true,Nat.le_eq,Zu,Zt,Int.toNat_natCast,Int.ofNat_eq_natCast,Nat.ble_eq,Nat.ble_self_eq_true,Bool.true_and,Option.some.injEq,AV.int.injEq,kG,YV,kM,Y0,SF,kP,kQ,SG,kR,kU,uN,VV,YW,kH,YX,YY,kI,kJ,kK,YZ,kN,kO,qc,qF,qw,qe,qx,qy,qK,qW,Xf,Xh,qh,qp,qo,L7,qQ,KH,Lt,qf,qL,qX,L6]at hl⊢;have U:∀ {x:Ao} {K M:Int},(x.kd l=K/\x.nm l=M/\x.wr l=x.Bx++(if(0:Int)=0 then []else [⟨x.line,x.Ag,0⟩]))->x.kd l=K/\x.nm l=M/\x.wr l=x.Bx:=λh=>⟨h.1,h.2.1,by rw[h.2.2,if_pos rfl,List.append_nil]⟩;have ad:∀ {x:Ao} {K M e:Int},e≠0->(x.kd l=K/\x.nm l=M/\x.wr l=x.Bx++(if e=0 then []else [⟨x.line,x.Ag,e⟩]))->x.kd l=K/\x.nm l=M/\x.wr l=x.Bx++[⟨x.line,x.Ag,e⟩]:=λhe h=>⟨h.1,h.2.1,by rw[h.2.2,if_neg he]⟩;have V:∀(n k:Nat),n<=1000000->k<=48->decide (n+1<=9223372036854775807/\(n+1)*k<=140737488355328)=true:=λn k hn E=>decide_eq_true ⟨by omega,by have:=Nat.mul_le_mul_left (n+1) E;omega⟩;refine⟨⟨⟨0,1,0,[],[]⟩,⟨Nat.zero_le _,Int.le_refl 1,Int.le_refl 1,Int.le_refl 0,Int.le_refl 0,Nat.le_refl _,Nat.le_refl _,rfl⟩,rfl,rfl,rfl,rfl,rfl⟩,λx W=>?_⟩;obtain⟨h1,h2,h3,h4,h5,h6,h7,h8⟩:=id W;refine Aj (λhr=>?_) λhr=>?_
 ·rw[B1]at hr;have C:x.pos<l.length:=by omega
  refine An (Be.2 (by omega)) (An (Be.2 (by omega)) (An (Be.2 (by omega)) (An (BJ.2 (by omega)) ⟨?_,λy hy=>?_⟩)))
  ·rw[show l.getD x.pos 0=hd l x.pos from rfl];refine Aj (λhz=>?_) λaf=>?_
   ·rw[BL]at hz;have hb:hd l x.pos=10:=UInt8.toNat_inj.1 (by show _=10;omega);have E:=fO C hz (by decide) (by decide) (by decide) (by decide) (by decide);exact An (Be.2 (by omega)) (An (Be.2 (by omega)) (Kn W C (if_pos hb).symm (if_pos hb).symm (by rw[E];rfl) (Va C E (by rw[hz];decide))))
   ·rw[BU]at af;have hb:¬hd l x.pos=10:=λh=>af (by rw[h];rfl);have hL:x.line=if hd l x.pos=10 then x.line+1 else x.line:=(if_neg hb).symm
    have hF:x.DL=if hd l x.pos=10 then(x.pos:Int)+1 else x.DL:=(if_neg hb).symm
    refine Aj (λhz=>?_) λah=>Aj (λhz=>?_) λao=>Aj (λhz=>?_) λai=>Aj (λhz=>?_) λae=>?_
    ·rw[BL]at hz;have E:=fO C hz (by decide) (by decide) (by decide) (by decide) (by decide);exact Kn W C hL hF (by rw[E];rfl) (Va C E (by rw[hz];decide))
    ·rw[BL]at hz;have E:=fO C hz (by decide) (by decide) (by decide) (by decide) (by decide);exact Kn W C hL hF (by rw[E];rfl) (Va C E (by rw[hz];decide))
    ·rw[BL]at hz;have E:=fO C hz (by decide) (by decide) (by decide) (by decide) (by decide);exact Kn W C hL hF (by rw[E];rfl) (Va C E (by rw[hz];decide))
    ·rw[BL]at hz;have E:CJ l x.pos=(0,runN (λz=>!decide (z=10)) (l.drop x.pos)):=by rw[cg C,hz,if_neg (by decide),if_neg (by decide),if_pos rfl]
     refine⟨⟨x.pos+1,λa V=>by subst V;exact Gl.first C (by show(!decide (((hd l x.pos).toNat:Int)=10))=true;rw[hz];decide),by omega,⟨⟨λ_=>trivial⟩,⟨λ_=>trivial⟩⟩⟩,λe he=>?_⟩;have Z:=he _ rfl;have aq:=Z.le (by omega);refine Aj (λh=>?_) λh=>?_
     ·rw[B1]at h;have Y:e<l.length:=by omega
      refine An (BJ.2 (by omega)) (Aj (λhp=>?_) λhp=>?_)
      ·exact An (Be.2 (by omega)) ⟨e+1,λa V=>by subst V;exact(Z.next Y).1 (by rw[Dt]at hp;exact hp),by omega,by omega,⟨⟨λ_=>trivial⟩,⟨λ_=>trivial⟩⟩⟩
      ·have L:=(Z.next Y).2 (by rw[Dt]at hp;exact hp);exact Kn W C hL hF (by rw[E,L]) (Va C E (by rw[hz];decide))
     ·rw[Cg]at h;have L:=Z.stop (by omega) (by omega);exact Kn W C hL hF (by rw[E,L]) (Va C E (by rw[hz];decide))
    ·rw[BU]at ah ao ai ae;rw[oN];refine Aj (λhz=>?_) λan=>?_
     ·have E:CJ l x.pos=(1,runN (λz=>BW z||AZ z) (l.drop x.pos)):=by rw[cg C,if_pos hz]
      refine⟨⟨x.pos+1,λa V=>by subst V;exact Gl.first C (by show(BW ((hd l x.pos).toNat:Int)||_)=true;rw[hz];rfl),by omega,⟨⟨λ_=>trivial⟩,⟨λ_=>trivial⟩⟩⟩,λe he=>?_⟩;have Z:=he _ rfl;have aq:=Z.le (by omega);have al:=Z.lo;simp only[Int.toNat_natCast]at al;rw[oN];refine Aj (λh=>?_) λh=>?_
      ·rw[B1]at h;have Y:e<l.length:=by omega
       refine An (BJ.2 (by omega)) (Aj (λhp=>?_) λhp=>?_)
       ·exact An (Be.2 (by omega)) ⟨e+1,λa V=>by subst V;exact(Z.next Y).1 (by show(BW _||AZ _)=true;rw[hp];rfl),by omega,by omega,⟨⟨λ_=>trivial⟩,⟨λ_=>trivial⟩⟩⟩
       ·refine An (BJ.2 (by omega)) (Aj (λak=>?_) λak=>?_)
        ·exact An (Be.2 (by omega)) ⟨e+1,λa V=>by subst V;exact(Z.next Y).1 (by show(BW _||AZ _)=true;rw[hp,ak];rfl),by omega,by omega,⟨⟨λ_=>trivial⟩,⟨λ_=>trivial⟩⟩⟩
        ·have L:e=x.pos+(CJ l x.pos).2:=by rw[E];exact(Z.next Y).2 (by show(BW _||AZ _)=false;rw[hp,ak];rfl)
         have J:List.drop x.pos (List.take e l)=tx l x.pos:=by rw[L];rfl
         have S:(tx l x.pos).length=e-x.pos:=by rw[<-J,List.length_drop,List.length_take];omega
         have hE:(e:Int)=((x.pos+(CJ l x.pos).2:Nat):Int):=by rw[<-L]
         refine An (by rw[Bool.and_eq_true];exact⟨Jt.2 (by omega),Jt.2 (by omega)⟩) (Aj (λO=>?_) λO=>?_)
         ·rw[J]at O;exact Kn W C hL hF hE (U (Mr C E (by decide) (by rw[O5,if_pos O])))
         ·rw[J]at O;refine An (Be.2 (by omega)) (Aj (λab=>?_) λab=>?_)
          ·rw[B1]at ab;exact An (V _ _ (by omega) (by decide)) (Wa W C hL hF hE (ad (by decide) (Mr C E (by decide) (by rw[O5,if_neg (by rw[O];simp),if_pos (by rw[S];omega)]))))
          ·rw[Cg]at ab;exact Kn W C hL hF hE (U (Mr C E (by decide) (by rw[O5,if_neg (by rw[O];simp),if_neg (by rw[S];omega)])))
      ·rw[Cg]at h;have L:e=x.pos+(CJ l x.pos).2:=by rw[E];exact Z.stop (by omega) (by omega)
       have J:List.drop x.pos (List.take e l)=tx l x.pos:=by rw[L];rfl
       have S:(tx l x.pos).length=e-x.pos:=by rw[<-J,List.length_drop,List.length_take];omega
       have hE:(e:Int)=((x.pos+(CJ l x.pos).2:Nat):Int):=by rw[<-L]
       refine An (by rw[Bool.and_eq_true];exact⟨Jt.2 (by omega),Jt.2 (by omega)⟩) (Aj (λO=>?_) λO=>?_)
       ·rw[J]at O;exact Kn W C hL hF hE (U (Mr C E (by decide) (by rw[O5,if_pos O])))
       ·rw[J]at O;refine An (Be.2 (by omega)) (Aj (λab=>?_) λab=>?_)
        ·rw[B1]at ab;exact An (V _ _ (by omega) (by decide)) (Wa W C hL hF hE (ad (by decide) (Mr C E (by decide) (by rw[O5,if_neg (by rw[O];simp),if_pos (by rw[S];omega)]))))
        ·rw[Cg]at ab;exact Kn W C hL hF hE (U (Mr C E (by decide) (by rw[O5,if_neg (by rw[O];simp),if_neg (by rw[S];omega)])))
     ·refine Aj (λhz=>?_) λau=>?_
      ·have E:CJ l x.pos=(3,runN AZ (l.drop x.pos)):=by rw[cg C,if_neg (by rw[an];simp),if_pos hz]
       refine⟨⟨x.pos+1,λa V=>by subst V;exact Gl.first C hz,by omega,⟨⟨λ_=>trivial⟩,⟨λ_=>trivial⟩⟩⟩,λe he=>?_⟩;have Z:=he _ rfl;have aq:=Z.le (by omega);have al:=Z.lo;simp only[Int.toNat_natCast]at al;refine Aj (λh=>?_) λh=>?_
       ·rw[B1]at h;have Y:e<l.length:=by omega
        refine An (BJ.2 (by omega)) (Aj (λhp=>?_) λhp=>?_)
        ·exact An (Be.2 (by omega)) ⟨e+1,λa V=>by subst V;exact(Z.next Y).1 hp,by omega,by omega,⟨⟨λ_=>trivial⟩,⟨λ_=>trivial⟩⟩⟩
        ·have L:e=x.pos+(CJ l x.pos).2:=by rw[E];exact(Z.next Y).2 hp
         have J:List.drop x.pos (List.take e l)=tx l x.pos:=by rw[L];rfl
         have S:(tx l x.pos).length=e-x.pos:=by rw[<-J,List.length_drop,List.length_take];omega
         have hE:(e:Int)=((x.pos+(CJ l x.pos).2:Nat):Int):=by rw[<-L]
         refine An (by rw[Bool.and_eq_true];exact⟨Jt.2 (by omega),Jt.2 (by omega)⟩) ⟨by rw[J,S];omega,Aj (λO=>?_) λO=>?_⟩
         ·rw[J]at O⊢;rw[Bool.not_eq_true']at O;exact An (V _ _ (by omega) (by decide)) (Wa W C hL hF hE (ad (by decide) (Mr C E (by decide) (by rw[W2,O];rfl))))
         ·rw[J]at O⊢;rw[Bool.not_eq_false']at O;exact Kn W C hL hF hE (U (Mr C E (by decide) (by rw[W2,O];rfl)))
       ·rw[Cg]at h;have L:e=x.pos+(CJ l x.pos).2:=by rw[E];exact Z.stop (by omega) (by omega)
        have J:List.drop x.pos (List.take e l)=tx l x.pos:=by rw[L];rfl
        have S:(tx l x.pos).length=e-x.pos:=by rw[<-J,List.length_drop,List.length_take];omega
        have hE:(e:Int)=((x.pos+(CJ l x.pos).2:Nat):Int):=by rw[<-L]
        refine An (by rw[Bool.and_eq_true];exact⟨Jt.2 (by omega),Jt.2 (by omega)⟩) ⟨by rw[J,S];omega,Aj (λO=>?_) λO=>?_⟩
        ·rw[J]at O⊢;rw[Bool.not_eq_true']at O;exact An (V _ _ (by omega) (by decide)) (Wa W C hL hF hE (ad (by decide) (Mr C E (by decide) (by rw[W2,O];rfl))))
        ·rw[J]at O⊢;rw[Bool.not_eq_false']at O;exact Kn W C hL hF hE (U (Mr C E (by decide) (by rw[W2,O];rfl)))
      ·have hn:(((x.pos:Int)-0).NonNeg/\((l.length:Int)-((x.pos:Int)+1)).NonNeg/\l.length<=1000000):=⟨(show(0:Int)<=x.pos by omega),(show(x.pos:Int)+1<=l.length by omega),hl⟩;obtain⟨m1,m2⟩:=Ahn l x.pos;have aa:=cg C;rw[if_neg (by rw[an];simp),if_neg (by rw[au];simp),if_neg ae]at aa;refine⟨hn,Aj (λhm=>?_) λhm=>?_⟩
       ·rw[B1]at hm;rw[if_pos hm]at aa;have S:(tx l x.pos).length<=32:=by
         have:(CJ l x.pos).2<=2:=by rw[aa];show(H8 l x.pos).toNat<=2;omega
         unfold tx;rw[List.length_drop,List.length_take];omega
        exact⟨hn,An (Be.2 (by omega)) (Kn W C hL hF (by rw[aa];show _=((x.pos+(H8 l x.pos).toNat:Nat):Int);omega) (U (Mr C aa (by decide) (Ahi S))))⟩
       ·rw[Cg]at hm;rw[if_neg (by omega)]at aa;refine An (V _ _ (by omega) (by decide)) (Wa W C hL hF (by rw[aa];rfl) (Aop C aa ?_));unfold JR;simp[ah,ao,af,ai,ae]
  ·obtain⟨⟨hJ,aj⟩,av⟩:=hy;have av:x.pos=y.pos:=by omega
   have ag:=IV.step hJ aj;obtain⟨g1,g2,g3,g4,g5,g6,g7,g8⟩:=id hJ;have hn:=Pb (hd l y.pos) (l.drop (y.pos+1));rw[<-Q1 aj,List.length_cons,List.length_drop]at hn;have ho:=cr aj;have ar:0<y.kd l↔0<(CJ l y.pos).1:=by
    unfold Ao.kd;by_cases E:0<(CJ l y.pos).1
    ·rw[if_pos E];refine⟨λ_=>E,λ_=>?_⟩;unfold C6;split
     ·exact(by decide:(0:Int)<3)
     ·split
      ·exact(by decide:(0:Int)<2)
      ·exact E
    ·rw[if_neg E];exact⟨λh=>absurd h (by decide),λh=>absurd h E⟩
   refine Aj (λE=>?_) λE=>?_
   ·rw[B1,ar]at E;rw[if_pos E]at ho;rw[ho]at ag;refine An (by rw[Bool.and_eq_true];exact⟨Jt.2 (by omega),Jt.2 (by omega)⟩) (An (V _ _ (by omega) (by decide)) ⟨_,ag,?_,⟨by simp,rfl,rfl,rfl,rfl⟩,⟨by simp,RN (tL _) ?_ rfl⟩,rfl,⟨λi _=>⟨rfl,rfl,rfl⟩⟩⟩)
    ·show(l.length-(y.pos+(CJ l y.pos).2)).succ<=_;omega
    ·unfold Ao.kd Ao.nm;rw[if_pos E,if_pos E];rfl
   ·have E:¬0<(CJ l y.pos).1:=λh=>by rw[Cg]at E;have:=ar.2 h;omega
    rw[if_neg E]at ho;rw[ho,List.append_nil]at ag;refine⟨_,ag,?_,⟨rfl,rfl,rfl,rfl,rfl⟩,⟨rfl,⟨λi _=>⟨rfl,rfl,rfl,rfl,rfl⟩⟩⟩,rfl,⟨λi _=>⟨rfl,rfl,rfl⟩⟩⟩;show(l.length-(y.pos+(CJ l y.pos).2)).succ<=_;omega
 ·rw[Cg]at hr;have aw:x.pos=l.length:=by omega
  rw[aw,List.drop_length,sO,List.append_nil,List.append_nil]at h8;rw[xn,xl,<-h8];exact An rfl ⟨⟨rfl,⟨λ_ _=>⟨rfl,rfl,rfl,rfl,rfl⟩⟩⟩,rfl,⟨λ_ _=>⟨rfl,rfl,rfl⟩⟩⟩
theorem AjW:∀(l:List UInt8),l.length<=1000000->(AG (vd l) 200).call 17 [.bv l] .leaf 0 (Ch Tryz.prog false (fA l)):=Eq.mpr (by kernel_rfl) AjX
def lU:Tr Ac->List AV->Option Ct:=λ_ args=>match args with
 | [.bv l]=>some (.A6 (l.length<=1000000) (.ret (fA l)))
 |_=>none
theorem AhF:Ci Tryz.prog 17 lU:=by
 refine EN (gl:=[]) (ng:=0) BQ λH args ct q=>?_;unfold lU at q;split at q
 ·rename_i l;injection q with q;subst q;exact⟨BQ,_,_,rfl,λy=>⟨⟨rfl,trivial⟩,vd l,200,rfl,AW,Acn,AjW l y⟩⟩
 ·cases q
theorem AbY:∀(n:Nat) (l:List UInt8) (line Ag:Int),l.length<=n->(KT l line Ag).1.length<=l.length/\(KT l line Ag).2.length<=l.length
 |_,[],_,_,_=>⟨Nat.le_refl _,Nat.le_refl _⟩
 |0,b::t,_,_,h=>by simp at h
 |n+1,b::t,line,Ag,h=>by
  have hn:=Pb b t;simp only[List.length_cons]at h hn;have B:((b::t).drop (Bi (b::t)).2).length=t.length+1-(Bi (b::t)).2:=by rw[List.length_drop,List.length_cons]
  obtain⟨E,C⟩:=AbY n ((b::t).drop (Bi (b::t)).2) (if b=10 then line+1 else line) (if b=10 then 1 else Ag+(Bi (b::t)).2) (by omega);obtain⟨y,q⟩:=pE b t line Ag;rw[fC];simp only[List.length_append,List.length_cons];omega
theorem U6 (l:List UInt8):(Bk l).1.length<=l.length/\(Bk l).2.length<=l.length:=AbY l.length l 1 1 (Nat.le_refl _)
end Go.Proofs.YtlmmbanfhjaioaaGreatDoor
end
end
