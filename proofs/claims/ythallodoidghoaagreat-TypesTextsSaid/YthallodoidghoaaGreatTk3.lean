/- Laid by program out of its parts: TkI, TkJ. -/
import Derived.Test.YthallodoidghoaaGreatTk2
noncomputable section
set_option linter.unusedVariables false
set_option linter.unusedSimpArgs false
section
set_option maxRecDepth 100000
open Go Go.Ev
namespace Go.Proofs.YthallodoidghoaaGreat
structure Aw where
 pos:Nat
 line:Int
 DJ:Int
 out:List CV
 C9:List Dg
def Aw.Av (x:Aw):Int:=(x.pos:Int)-x.DJ+1
structure Iu (l:List UInt8) (x:Aw):Prop where
 le:x.pos<=l.length
 Ajh:1<=x.line
 Aji:x.line<=x.pos+1
 Ard:0<=x.DJ
 Are:x.DJ<=x.pos
 out:x.out.length<=x.pos
 C9:x.C9.length<=x.pos
 yB:(x.out++(N3 (l.drop x.pos) x.line x.Av).1,x.C9++(N3 (l.drop x.pos) x.line x.Av).2)=FH l
def S10 (l:Aj):B0:={X:=Aw,T:=λ_ n0 x=>[(0,.bv l),(4,.AR n0 x.out.length 5),(5,.AR (n0+1) x.C9.length 3),(6,.int .i64 x.line),(7,.int .i64 x.DJ),(8,.int .i64 x.pos)],H:=λ_ n0 x=>[(n0,.cells 110 .leaf (.rows 5 λk=>KY (x.out.getD k t0)) (x.out.length*5) true),(n0+1,.cells 51 .leaf (.rows 3 λk=>Iz (x.C9.getD k d0)) (x.C9.length*3) true)],nx:=λ_ n0=>n0+2,I:=λ_=>Iu l,m:=λx=>l.length-x.pos}
def hd (l:Aj) (p:Nat):UInt8:=l.getD p 0
def CK (l:Aj) (p:Nat):Int×Nat:=Fy (l.drop p)
def tx (l:Aj) (p:Nat):Aj:=(l.take (p+(CK l p).2)).drop p
def Aw.kd (x:Aw) (l:Aj):Int:=if 0<(CK l x.pos).1 then(Ji (CK l x.pos).1 (tx l x.pos)).1 else 0
def Aw.nm (x:Aw) (l:Aj):Int:=if 0<(CK l x.pos).1 then(Ji (CK l x.pos).1 (tx l x.pos)).2.1 else 0
def Aw.wr (x:Aw) (l:Aj):List Dg:=x.C9++(IG (hd l x.pos) (l.drop (x.pos+1)) x.line x.Av).2
def C36 (l:Aj):B0:={X:=Aw,T:=λ_ n0 x=>[(0,.bv l),(4,.AR n0 x.out.length 5),(5,.AR (n0+1) (x.wr l).length 3),(6,.int .i64 (if hd l x.pos=10 then x.line+1 else x.line)),(7,.int .i64 (if hd l x.pos=10 then(x.pos:Int)+1 else x.DJ)),(8,.int .i64 x.pos),(9,.ptr (n0+2) 0),(10,.int .i64 ((x.pos+(CK l x.pos).2:Nat):Int))],H:=λ_ n0 x=>[(n0,.cells 110 .leaf (.rows 5 λk=>KY (x.out.getD k t0)) (x.out.length*5) true),(n0+1,.cells 51 .leaf (.rows 3 λk=>Iz ((x.wr l).getD k d0)) ((x.wr l).length*3) true),(n0+2,.cells 110 .leaf (.Dv [.int .i64 (x.kd l),.bs [],.int .i64 (x.nm l),.int .i64 x.line,.int .i64 x.Av]) 5 false)],nx:=λ_ n0=>n0+3,I:=λs x=>(Iu l x/\x.pos<l.length)/\s.T.get 8=some (.int .i64 x.pos),m:=λ_=>0}
structure HH (p:Int->Bool) (l:List UInt8) (a:Int) (e:Nat):Prop where
 lo:a.toNat+1<=e
 hi:e<=a.toNat+runN p (l.drop a.toNat)
def jE (l:Aj) (p:Int->Bool):B0:=thin Nat [0,4,5,6,7,8,9,11] (λe=>[(10,.int .i64 e)]) (λs e=>∀a,s.T.get 8=some (.int .i64 a)->HH p l a e) λe=>l.length-e
def yp (l:Aj):Ctx:={P:=Tryz.prog,tb:=tbE,lp:=λf r=>cond (Nat.beq f 31) (cond (Nat.beq r 5) (some (S10 l)) (cond (Nat.beq r 15) (some (jE l λz=>!decide (z=10))) (cond (Nat.beq r 18) (some (jE l λz=>Ha z||C4 z)) (cond (Nat.beq r 26) (some (jE l C4)) none)))) none,cut:=λf r=>cond (Nat.beq f 31) (cond (Nat.beq r 36) (some (C36 l)) none) none}
theorem Ab4 (b:UInt8):LW (b.toNat:Int)=Ha (b.toNat:Int):=by
 have h:∀n:Fin 256,LW (n.val:Int)=Ha (n.val:Int):=by decide+kernel
 exact h ⟨b.toNat,b.toNat_lt⟩
theorem Xm {l:Aj} {p:Nat} (h:p<l.length):l.drop p=hd l p::l.drop (p+1):=pH l p h
theorem R2 {l:Aj} {p:Nat} (h:p<l.length):CK l p=Fy (hd l p::l.drop (p+1)):=by unfold CK;rw[Xm h]
theorem Aqw {l:Aj} {p:Nat} (h:p<l.length):tx l p=(hd l p::l.drop (p+1)).take (CK l p).2:=by unfold tx;rw[List.drop_take,Nat.add_sub_cancel_left,Xm h]
theorem eg {l:Aj} {x:Aw} (h:x.pos<l.length):IG (hd l x.pos) (l.drop (x.pos+1)) x.line x.Av=
  if 0<(CK l x.pos).1 then([⟨(Ji (CK l x.pos).1 (tx l x.pos)).1,tx l x.pos,(Ji (CK l x.pos).1 (tx l x.pos)).2.1,x.line,x.Av⟩],if(Ji (CK l x.pos).1 (tx l x.pos)).2.2=0 then []else [⟨x.line,x.Av,(Ji (CK l x.pos).1 (tx l x.pos)).2.2⟩])
  else([],if WN ((hd l x.pos).toNat:Int)then []else [⟨x.line,x.Av,3⟩]):=by
 unfold IG;rw[Aqw h,R2 h]
theorem VT {l:Aj} {x:Aw} {n:Nat} (h:x.pos<l.length) (r:CK l x.pos=(0,n)) (hb:WN ((hd l x.pos).toNat:Int)=true):x.kd l=0/\x.nm l=0/\x.wr l=x.C9:=by
 refine⟨?_,?_,?_⟩
 ·unfold Aw.kd;rw[r,An (Int.lt_irrefl 0)]
 ·unfold Aw.nm;rw[r,An (Int.lt_irrefl 0)]
 ·unfold Aw.wr;rw[eg h,r,An (Int.lt_irrefl 0),As hb,List.append_nil]
theorem Ap2 {l:Aj} {x:Aw} {n:Nat} (h:x.pos<l.length) (r:CK l x.pos=(0,n)) (hb:WN ((hd l x.pos).toNat:Int)=false):x.kd l=0/\x.nm l=0/\x.wr l=x.C9++[⟨x.line,x.Av,3⟩]:=by
 refine⟨?_,?_,?_⟩
 ·unfold Aw.kd;rw[r,An (Int.lt_irrefl 0)]
 ·unfold Aw.nm;rw[r,An (Int.lt_irrefl 0)]
 ·unfold Aw.wr;rw[eg h,r,An (Int.lt_irrefl 0),An (by rw[hb];simp)]
theorem MM {l:Aj} {x:Aw} {n:Nat} {c a m e:Int} (h:x.pos<l.length) (y:CK l x.pos=(c,n)) (hc:0<c) (r:Ji c (tx l x.pos)=(a,m,e)):x.kd l=a/\x.nm l=m/\x.wr l=x.C9++(if e=0 then []else [⟨x.line,x.Av,e⟩]):=by
 refine⟨?_,?_,?_⟩
 ·unfold Aw.kd;rw[y,As hc,r]
 ·unfold Aw.nm;rw[y,As hc,r]
 ·unfold Aw.wr;rw[eg h,y,As hc,r]
theorem Kq {l:Aj} {x:Aw} {L F E K M:Int} (J:Iu l x) (z:x.pos<l.length) (B:L=if hd l x.pos=10 then x.line+1 else x.line) (R:F=if hd l x.pos=10 then(x.pos:Int)+1 else x.DJ) (S:E=((x.pos+(CK l x.pos).2:Nat):Int)) (h:x.kd l=K/\x.nm l=M/\x.wr l=x.C9): ∃y:Aw,((Iu l y/\y.pos.succ<=l.length)/\(x.pos:Int)=y.pos)/\(x.out.length=y.out.length/\x.C9.length=(y.wr l).length/\(L=if hd l y.pos=10 then y.line+1 else y.line)/\(F=if hd l y.pos=10 then(y.pos:Int)+1 else y.DJ)/\(x.pos:Int)=y.pos/\E=((y.pos+(CK l y.pos).2:Nat):Int))/\ (x.out.length*5=y.out.length*5/\Ar λi=>i*5<x.out.length*5->(x.out.getD i t0).kind=(y.out.getD i t0).kind/\(x.out.getD i t0).text=(y.out.getD i t0).text/\(x.out.getD i t0).num=(y.out.getD i t0).num/\(x.out.getD i t0).line=(y.out.getD i t0).line/\(x.out.getD i t0).Av=(y.out.getD i t0).Av)/\(x.C9.length*3=(y.wr l).length*3/\Ar λi=>i*3<x.C9.length*3->(x.C9.getD i d0).line=((y.wr l).getD i d0).line/\(x.C9.getD i d0).Av=((y.wr l).getD i d0).Av/\(x.C9.getD i d0).err=((y.wr l).getD i d0).err)/\ ((K=y.kd l/\M=y.nm l)/\x.line=y.line)/\(x.pos:Int)-x.DJ+1=y.Av:=by obtain⟨V,U,r⟩:=h;refine⟨x,⟨⟨J,z⟩,rfl⟩,⟨rfl,by rw[r],B,R,rfl,S⟩,⟨rfl,⟨λi _=>⟨rfl,rfl,rfl,rfl,rfl⟩⟩⟩,⟨by rw[r],by rw[r];exact⟨λi _=>⟨rfl,rfl,rfl⟩⟩⟩,⟨⟨V.symm,U.symm⟩,rfl⟩,rfl⟩
theorem WW {l:Aj} {x:Aw} {B:List (Nat×Nat)} {L F E K M e:Int} (R:Iu l x) (z:x.pos<l.length) (J:L=if hd l x.pos=10 then x.line+1 else x.line) (S:F=if hd l x.pos=10 then(x.pos:Int)+1 else x.DJ) (U:E=((x.pos+(CK l x.pos).2:Nat):Int)) (h:x.kd l=K/\x.nm l=M/\x.wr l=x.C9++[⟨x.line,x.Av,e⟩]): ∃y:Aw,((Iu l y/\y.pos.succ<=l.length)/\(x.pos:Int)=y.pos)/\(x.out.length=y.out.length/\x.C9.length+1=(y.wr l).length/\(L=if hd l y.pos=10 then y.line+1 else y.line)/\(F=if hd l y.pos=10 then(y.pos:Int)+1 else y.DJ)/\(x.pos:Int)=y.pos/\E=((y.pos+(CK l y.pos).2:Nat):Int))/\ (x.out.length*5=y.out.length*5/\Ar λi=>i*5<x.out.length*5->(x.out.getD i t0).kind=(y.out.getD i t0).kind/\(x.out.getD i t0).text=(y.out.getD i t0).text/\(x.out.getD i t0).num=(y.out.getD i t0).num/\(x.out.getD i t0).line=(y.out.getD i t0).line/\(x.out.getD i t0).Av=(y.out.getD i t0).Av)/\((x.C9.length+1)*3=(y.wr l).length*3/\Ar λi=>i*3<(x.C9.length+1)*3->AZ B (Iz ((y.wr l).getD i d0)) (BA x.C9.length (λk=>Iz (x.C9.getD k d0)) (λ_=>[AV.int .i64 x.line,AV.int .i64 ((x.pos:Int)-x.DJ+1),AV.int .i64 e]) i))/\ ((K=y.kd l/\M=y.nm l)/\x.line=y.line)/\(x.pos:Int)-x.DJ+1=y.Av:=by obtain⟨W,V,r⟩:=h;refine⟨x,⟨⟨R,z⟩,rfl⟩,⟨rfl,by rw[r];simp,J,S,rfl,U⟩,⟨rfl,⟨λi _=>⟨rfl,rfl,rfl,rfl,rfl⟩⟩⟩,⟨by rw[r];simp,by rw[r];exact QS (AqP _) rfl rfl⟩,⟨⟨W.symm,V.symm⟩,rfl⟩,rfl⟩
theorem Iu.step {l:Aj} {x:Aw} (y:Iu l x) (r:x.pos<l.length): Iu l ⟨x.pos+(CK l x.pos).2,if hd l x.pos=10 then x.line+1 else x.line,if hd l x.pos=10 then(x.pos:Int)+1 else x.DJ,x.out++(IG (hd l x.pos) (l.drop (x.pos+1)) x.line x.Av).1,x.wr l⟩:=by
 obtain⟨W,V,U,S,R,L,K,z⟩:=y;have hn:=UU (hd l x.pos) (l.drop (x.pos+1));rw[<-R2 r,Dn,Iw]at hn;obtain⟨J,B⟩:=uC (hd l x.pos) (l.drop (x.pos+1)) x.line x.Av;refine⟨?_,?_,?_,?_,?_,?_,?_,?_⟩
 ·simp only;omega
 ·simp only;split<;>omega
 ·simp only;split<;>omega
 ·simp only;split<;>omega
 ·simp only;split<;>omega
 ·simp only[E6];omega
 ·simp only[Aw.wr,E6];omega
 ·rw[<-z,Xm r,wG,<-R2 r,<-Xm r,List.drop_drop];simp only[Aw.wr,List.append_assoc,Aw.Av];by_cases hb:hd l x.pos=10
  ·have:(CK l x.pos).2=1:=by rw[R2 r,hb,Aj4]
   rw[As hb,As hb,As hb,this,show((x.pos+1:Nat):Int)-((x.pos:Int)+1)+1=1 from by omega]
  ·rw[An hb,An hb,An hb,show((x.pos+(CK l x.pos).2:Nat):Int)-x.DJ+1=(x.pos:Int)-x.DJ+1+(CK l x.pos).2 from by omega]
theorem HH.next {p:Int->Bool} {l:Aj} {a e:Nat} (h:HH p l (a:Int) e) (K:e<l.length):(p ((l.getD e 0).toNat:Int)=true->HH p l (a:Int) (e+1))/\(p ((l.getD e 0).toNat:Int)=false->e=a+runN p (l.drop a)):=by
 obtain⟨J,B⟩:=h;simp only[Int.toNat_natCast]at J B;have y:(l.drop a).getD (e-a) 0=l.getD e 0:=by simp[Bt];rw[show a+(e-a)=e by omega]
 have:=AdV p (l.drop a) (e-a) (by omega) (by rw[Iw];omega);rw[y]at this;refine⟨λx=>?_,λx=>?_⟩
 ·rcases this with⟨z,_⟩|⟨_,r⟩
  ·exact⟨by simp only[Int.toNat_natCast];omega,by simp only[Int.toNat_natCast];omega⟩
  ·rw[x]at r;cases r
 ·rcases this with⟨_,r⟩|⟨z,_⟩
  ·rw[x]at r;cases r
  ·omega
theorem HH.stop {p:Int->Bool} {l:Aj} {a e:Nat} (h:HH p l (a:Int) e) (y:l.length<=e) (z:a<=l.length):e=a+runN p (l.drop a):=by obtain⟨x,r⟩:=h;simp only[Int.toNat_natCast]at x r;have:=VN p (l.drop a);rw[Iw]at this;omega
theorem HH.first {p:Int->Bool} {l:Aj} {a:Nat} (r:a<l.length) (h:p ((l.getD a 0).toNat:Int)=true):HH p l (a:Int) (a+1):=by have:=gu (t:=l.drop (a+1)) (p:=p) h;have e:l.drop a=l.getD a 0::l.drop (a+1):=pH l a r;rw[<-e]at this;exact⟨by simp only[Int.toNat_natCast];omega,by simp only[Int.toNat_natCast];omega⟩
theorem HH.le {p:Int->Bool} {l:Aj} {a e:Nat} (h:HH p l (a:Int) e) (y:a<=l.length):e<=l.length:=by obtain⟨x,r⟩:=h;simp only[Int.toNat_natCast]at x r;have:=VN p (l.drop a);rw[Iw]at this;omega
theorem eV {l:Aj} {p:Nat} (h:p<l.length):CK l p=if Ha ((hd l p).toNat:Int)then(1,runN (λz=>Ha z||C4 z) (l.drop p))else if C4 ((hd l p).toNat:Int)then(3,runN C4 (l.drop p))
  else if((hd l p).toNat:Int)=35 then(0,runN (λz=>!decide (z=10)) (l.drop p))
  else if 0<HR l p then(4,(HR l p).toNat)else(0,1):=by
 rw[R2 h,eW,Xm h];by_cases B:Ha ((hd l p).toNat:Int)=true
 ·rw[As B,As B]
 ·rw[An B,An B];by_cases y:C4 ((hd l p).toNat:Int)=true
  ·rw[As y,As y]
  ·rw[An y,An y];by_cases x:((hd l p).toNat:Int)=35
   ·rw[As x,As x]
   ·rw[An x,An x];have J:(1<=(l.drop (p+1)).length/\(((l.drop (p+1)).getD 0 0).toNat:Int)=61)↔(p+1<l.length/\((l.getD (p+1) 0).toNat:Int)=61):=by
     rw[Iw];simp only[Bt,List.getElem?_drop,Nat.add_zero];constructor
     ·rintro⟨a,b⟩;exact⟨by omega,b⟩
     ·rintro⟨a,b⟩;exact⟨by omega,b⟩
    unfold HR;rw[show l.getD p 0=hd l p from rfl];by_cases r:((hd l p).toNat:Int)=61/\p+1<l.length/\((l.getD (p+1) 0).toNat:Int)=61
    ·rw[As ⟨r.1,J.2 r.2⟩,As r,As (by decide)];rfl
    ·rw[An (λh=>r ⟨h.1,J.1 h.2⟩),An r];cases RW ((hd l p).toNat:Int)<;>simp
theorem iH {l:Aj} {p:Nat} {z:Int} (h:p<l.length) (hz:((hd l p).toNat:Int)=z) (J:Ha z=false) (B:C4 z=false) (y:z≠35) (x:z≠61) (r:RW z=false):CK l p=(0,1):=by rw[R2 h,eW,hz,An (by rw[J];simp),An (by rw[B];simp),An y,An (λh=>x h.1),An (by rw[r];simp)]
theorem Aju (l:Aj) (p:Nat):0<=HR l p/\HR l p<=2:=by
 unfold HR;split
 ·decide
 ·split<;>decide
theorem UM {s:Aj}:Ji 1 s=if OA s then(2,0,0)else(1,0,if 32<s.length then 9 else 0):=by
 unfold Ji;rw[An (by decide)];by_cases h:OA s=true
 ·rw[As ⟨rfl,h⟩,As h]
 ·rw[An (λe=>h e.2),An h]
theorem eE {s:Aj}:Ji 3 s=(3,(Ij s).1,if(Ij s).2 then 0 else 9):=by unfold Ji;rw[As rfl]
theorem Ajs {s:Aj} (h:s.length<=32):Ji 4 s=(4,0,0):=by unfold Ji;rw[An (by decide),An (λe=>absurd e.1 (by decide)),An (by omega)]
def qa (a:Aw):=(↑(Aw.pos a):Int)
def qp (a:Aw) (b:Aj):=(↑(Aw.pos a+Prod.snd (CK b (Aw.pos a))):Int)
@[reducible] def kV:Aj->Aw->Aw->Prop:=λ(l:Aj) (a r:Aw)=>(Aa/\(qa a)=(qa r))/\(Ae (some 2)/\Aa)/\(Aa/\(qa a)+1=(qp r l))/\True
@[reducible] def kW:Aj->Aw->Aw->Prop:=λ(l:Aj) (a r:Aw)=>(Aa/\Aa/\Aa/\Aa/\((((True/\Aa/\(0:Int)=Aw.kd r l)/\([]:Aj)=[])/\Aa/\(0:Int)=Aw.nm r l)/\Aa/\Aw.line a=Aw.line r)/\Aa/\(qa a)-Aw.DJ a+1=Aw.Av r)/\True
@[reducible] def ZJ:Aj->Aw->Aw->Prop:=λ(l:Aj) (a r:Aw)=>(Aa/\Aa/\Aa/\Aa/\((((True/\Aa/\(1:Int)=Aw.kd r l)/\([]:Aj)=[])/\Aa/\(0:Int)=Aw.nm r l)/\Aa/\Aw.line a=Aw.line r)/\Aa/\(qa a)-Aw.DJ a+1=Aw.Av r)/\True
def qm (a:Aw) (b:Nat) (c:Aj):=List.drop (Int.toNat (qa a)) (List.take (Int.toNat (↑b:Int)) c)
@[reducible] def ZK:Aj->Aw->Nat->Aw->Prop:=λ(l:Aj) (a:Aw) (x:Nat) (r:Aw)=>(Aa/\Aa/\Aa/\Aa/\((((True/\Aa/\(3:Int)=Aw.kd r l)/\([]:Aj)=[])/\Aa/\Prod.fst (Ij (qm a x l))=Aw.nm r l)/\Aa/\Aw.line a=Aw.line r)/\Aa/\(qa a)-Aw.DJ a+1=Aw.Av r)/\True
def qc (a:Aw):=List.length (Aw.C9 a)
def qn (a:Aw) (b:Aj):=List.length (Aw.wr a b)
def qo (a:Aw) (b:Nat):=List.getD (Aw.C9 a) b d0
def qx (a:Aw) (b:Aj) (c:Nat):=List.getD (Aw.wr a b) c d0
def qy (a:Nat):=Nat.le (Nat.succ (a*3))
@[reducible] def TB:Aj->Aw->Aw->Prop:=λ(l:Aj) (a r:Aw)=>Aa/\Aa/\Aa/\Aa/\qc a*3=qn r l*3/\Ar λ(i:Nat)=>qy i (qc a*3)->(Aa/\Dg.line (qo a i)=Dg.line (qx r l i))/\(Aa/\Dg.Av (qo a i)=Dg.Av (qx r l i))/\(Aa/\Dg.err (qo a i)=Dg.err (qx r l i))/\True
@[reducible] def kg:Aj->Aw->Aw->Prop:=λ(l:Aj) (a r:Aw)=>(Aa/\Aa/\Aa/\Aa/\qn a l*3=qc r*3/\Ar λ(i:Nat)=>qy i (qn a l*3)->(Aa/\Dg.line (qx a l i)=Dg.line (qo r i))/\(Aa/\Dg.Av (qx a l i)=Dg.Av (qo r i))/\(Aa/\Dg.err (qx a l i)=Dg.err (qo r i))/\True)/\True
@[reducible] def kh:Aj->Aw->Aw->Prop:=λ(l:Aj) (a r:Aw)=>(Ae (some 1)/\qn a l=qc r/\Aa)/\(Aa/\(if hd l (Aw.pos a)=(10:UInt8)then Aw.line a+1 else Aw.line a)=Aw.line r)/\(Aa/\(if hd l (Aw.pos a)=(10:UInt8)then(qa a)+1 else Aw.DJ a)=Aw.DJ r)/\(Aa/\(qp a l)=(qa r))/\True
def qB (a:Aw) (b:Aj) (c:Aw):=(Aa/\Aw.line a=if hd b (Aw.pos c)=(10:UInt8)then Aw.line c+1 else Aw.line c)
def qG (a:Aw) (b:Aj) (c:Aw):=(Aa/\Aw.DJ a=if hd b (Aw.pos c)=(10:UInt8)then(qa c)+1 else Aw.DJ c)
@[reducible] def TC:Aj->Aw->Nat->Aw->Prop:=λ(l:Aj) (a:Aw) (x:Nat) (r:Aw)=>(qB a l r)/\(qG a l r)/\(Aa/\(qa a)=(qa r))/\(Ae (some 2)/\Aa)/\(Aa/\(↑x:Int)=(qp r l))/\True
def qf (a:Aw):=List.length (Aw.out a)
def qk (a:Aj) (b:Aw):=(↑(UInt8.toNat (List.getD a (Int.toNat (qa b)) (0:UInt8))):Int)
@[reducible] def ki:Aj->Aw->Prop:=λ(l:Aj) (a:Aw)=>l=l/\(Ae (some 0)/\Ae (qf a)/\Aa)/\(Ae (some 1)/\Ae (qc a)/\Aa)/\(Aa/\Ae (Aw.line a))/\(Aa/\Ae (Aw.DJ a))/\(Aa/\Ae (qa a))/\(Ae (some 2)/\Aa)/\(Aa/\Ae (qk l a))/\True
@[reducible] def kj:Aj->Aw->Aw->Prop:=λ(l:Aj) (a r:Aw)=>(qB a l r)/\(qG a l r)/\kV l a r
def qj (a:Aw) (b:Nat):=List.getD (Aw.out a) b t0
@[reducible] def xe:Aw->Aw->Prop:=λ(a r:Aw)=>Aa/\Aa/\Aa/\Aa/\qf a*5=qf r*5/\Ar λ(i:Nat)=>Nat.le (Nat.succ (i*5)) (qf a*5)->(Aa/\CV.kind (qj a i)=CV.kind (qj r i))/\CV.text (qj a i)=CV.text (qj r i)/\(Aa/\CV.num (qj a i)=CV.num (qj r i))/\(Aa/\CV.line (qj a i)=CV.line (qj r i))/\(Aa/\CV.Av (qj a i)=CV.Av (qj r i))/\True
def qt (a:Aw) (b:Aw):=(Ae (some 0)/\qf a=qf b/\Aa)
@[reducible] def Wt:Aj->Aw->Nat->Aw->Prop:=λ(l:Aj) (a:Aw) (x:Nat) (r:Aw)=>l=l/\(qt a r)/\(Ae (some 1)/\qc a=qn r l/\Aa)/\TC l a x r
def qE (a:Aw):=xe a
@[reducible] def ZF:Aj->Aw->Aw->Prop:=λ(l:Aj) (a r:Aw)=>qE a r/\TB l a r/\kW l a r
@[reducible] def kY:Aw->Prop:=λ(a:Aw)=>(Aa/\Aa/\Aa/\Aa/\Ae (qf a*5)/\Ar λ(i:Nat)=>Nat.le (Nat.succ (i*5)) (qf a*5)->(Aa/\Ae (CV.kind (qj a i)))/\Ae (CV.text (qj a i))/\(Aa/\Ae (CV.num (qj a i)))/\(Aa/\Ae (CV.line (qj a i)))/\(Aa/\Ae (CV.Av (qj a i)))/\True)/\(Aa/\Aa/\Aa/\Aa/\Ae (qc a*3)/\Ar λ(i:Nat)=>qy i (qc a*3)->(Aa/\Ae (Dg.line (qo a i)))/\(Aa/\Ae (Dg.Av (qo a i)))/\(Aa/\Ae (Dg.err (qo a i)))/\True)/\(Aa/\Aa/\Aa/\Aa/\((((True/\Aa/\Ae (0:Int))/\0=0/\0=0)/\Aa/\Ae (0:Int))/\Aa/\Ae (Aw.line a))/\Aa/\Ae ((qa a)-Aw.DJ a+1))/\True
@[reducible] def ZG:Aj->Aw->Nat->Prop:=λ(l:Aj) (a:Aw) (r:Nat)=>Aa/\((Aa/\(qa a)+1=(↑r:Int))/\ki l a)/\kY a
@[reducible] def ZH:Aj->Aw->Nat->Nat->Prop:=λ(l:Aj) (a:Aw) (x r:Nat)=>Nat.le (Nat.succ (l.length-r)) (l.length-x)/\Aa/\((Aa/\(↑x:Int)+1=(↑r:Int))/\ki l a)/\kY a
def qd (a:Aj) (b:Aw) (c:Aw):=((Iu a b/\Nat.le (Nat.succ (Aw.pos b)) a.length)/\some (AV.int .i64 (qa c))=some (AV.int .i64 (qa b)))
@[reducible] def kZ:Aj->Aw->Nat->Aw->Prop:=λ(l:Aj) (a:Aw) (x:Nat) (r:Aw)=>(qd l r a)/\Aa/\Wt l a x r/\qE a r/\TB l a r/\ZJ l a r
@[reducible] def k7:Aj->Aw->Nat->Aw->Prop:=λ(l:Aj) (a:Aw) (x:Nat) (r:Aw)=>(qd l r a)/\Aa/\Wt l a x r/\ZF l a r
@[reducible] def k9:Aj->Aw->Nat->Aw->Prop:=λ(l:Aj) (a:Aw) (x:Nat) (r:Aw)=>(qd l r a)/\Aa/\Wt l a x r/\qE a r/\TB l a r/\(Aa/\Aa/\Aa/\Aa/\((((True/\Aa/\(2:Int)=Aw.kd r l)/\([]:Aj)=[])/\Aa/\(0:Int)=Aw.nm r l)/\Aa/\Aw.line a=Aw.line r)/\Aa/\(qa a)-Aw.DJ a+1=Aw.Av r)/\True
@[reducible] def ZI:Aj->Aw->Aw->Prop:=λ(l:Aj) (a r:Aw)=>(qd l r a)/\Aa/\(l=l/\(qt a r)/\(Ae (some 1)/\qc a=qn r l/\Aa)/\kj l a r)/\ZF l a r
@[reducible] def ke:Aj->Aw->Nat->Aw->Prop:=λ(l:Aj) (a:Aw) (x:Nat) (r:Aw)=>(qd l r a)/\Aa/\Wt l a x r/\qE a r/\TB l a r/\ZK l a x r
def qq (a:Aw):=some (AV.int .i64 (qa a))
def qA (a:Int):=some (AV.int .i64 a)
def qJ:=HH (λ(r:Int)=>Ha r||C4 r)
@[reducible] def kf:Aj->Aw->Nat->Nat->Prop:=λ(l:Aj) (a:Aw) (y x:Nat)=>(∀(r:Int),qq a=qA r->qJ l r x)/\ZH l a y x
def qe (a:Aw):=Ap (bif bif Nat.ble (qc a*3) (qc a*3)then true else false then decide (List.length (Aw.C9 a)+1<=9223372036854775807/\(List.length (Aw.C9 a)+1)*24<=140737488355328)else false)
def qg (a:Aw):=BA (qc a) (λ(r:Nat)=>Iz (List.getD (Aw.C9 a) r d0)) (λ(x:Nat)=>[AV.int .i64 (Aw.line a),AV.int .i64 ((qa a)-Aw.DJ a+1),AV.int .i64 (9:Int)])
def qr (a:Nat) (b:Aj) (c:Aw):=Ap (bif C0 (↑a:Int) b.length then C0 (qa c) (Int.toNat (↑a:Int))else false)
def qF (a:Aj) (b:Nat):=List.getD (Prod.fst (FH a)) b t0
def qH:=HH (λ(r:Int)=>!decide (r=(10:Int)))
def qK (a:Aw) (b:Aj):=(Int.NonNeg ((qa a)-0)/\Int.NonNeg ((↑b.length:Int)-((qa a)+1))/\Nat.le b.length 1000000)
theorem Amf:∀(l:Aj),Nat.le l.length 1000000->(∃(x0:Aw),Iu l x0/\Aa/\(l=l/\qf x0=0/\qc x0=0/\(Aa/\(1:Int)=Aw.line x0)/\(Aa/\(0:Int)=Aw.DJ x0)/\(Aa/\(0:Int)=(qa x0))/\True)/\(Aa/\True)/\(Aa/\True)/\True)/\∀(x:Aw),Iu l x->Ag (AP (qa x) (Int.ofNat l.length)) (Ap (Bf .i64 ((qa x)-Aw.DJ x)) (Ap (Bf .i64 ((qa x)-Aw.DJ x+1)) (Ap (Bf .i64 ((qa x)+1)) (Ap (AO (qa x) l.length) (Ag (Au (qk l x) (10:Int)) (Ap (Bf .i64 (Aw.line x+1)) (Ap (Bf .i64 ((qa x)+1)) (∃(r:Aw),(qd l r x)/\Aa/\(l=l/\(qt x r)/\(Ae (some 1)/\qc x=qn r l/\Aa)/\(Aa/\Aw.line x+1=if hd l (Aw.pos r)=(10:UInt8)then Aw.line r+1 else Aw.line r)/\(Aa/\(qa x)+1=if hd l (Aw.pos r)=(10:UInt8)then(qa r)+1 else Aw.DJ r)/\kV l x r)/\ZF l x r))) (Ag (Au (qk l x) (32:Int)) (∃(r:Aw),ZI l x r) (Ag (Au (qk l x) (9:Int)) (∃(r:Aw),ZI l x r) (Ag (Au (qk l x) (13:Int)) (∃(r:Aw),ZI l x r) (Ag (Au (qk l x) (35:Int)) ((∃(x0:Nat),(∀(a:Int),qq x=qA a->qH l a x0)/\ZG l x x0)/\∀(r:Nat),(∀(a:Int),qq x=qA a->qH l a r)->qI r l (qh r l (Ag (!Au (qb l r) (10:Int)) (qw r (∃(V:Nat),(∀(a:Int),qq x=qA a->qH l a V)/\ZH l x r V)) (∃(B:Aw),k7 l x r B))) (∃(B:Aw),k7 l x r B)) (True/\Ag (Ay (LW (qk l x))) ((∃(x0:Nat),(∀(a:Int),qq x=qA a->qJ l a x0)/\ZG l x x0)/\∀(r:Nat),(∀(a:Int),qq x=qA a->qJ l a r)->qI r l (qh r l (True/\Ag (Ay (LW (qb l r))) (qw r (∃(V:Nat),kf l x r V)) (qh r l (True/\Ag (Ay (C4 (qb l r))) (qw r (∃(V:Nat),kf l x r V)) (qr r l x (True/\Ag (Ay (OA (qm x r l))) (∃(B:Aw),k9 l x r B) (Ap (Bf .i64 ((↑r:Int)-(qa x))) (Ag (AP (32:Int) ((↑r:Int)-(qa x))) (qe x (∃(B:Aw),(qd l B x)/\Aa/\(l=l/\(qt x B)/\(Ae (some 14)/\qc x+1=qn B l/\Aa)/\TC l x r B)/\qE x B/\(Aa/\Aa/\Aa/\Aa/\(qc x+1)*3=qn B l*3/\Ar λ(i:Nat)=>qy i ((qc x+1)*3)->AZ [(2,2),(1,14),(0,0)] (Iz (qx B l i)) (qg x i))/\ZJ l x B)) (∃(B:Aw),kZ l x r B))))))))) (qr r l x (True/\Ag (Ay (OA (qm x r l))) (∃(B:Aw),k9 l x r B) (Ap (Bf .i64 ((↑r:Int)-(qa x))) (Ag (AP (32:Int) ((↑r:Int)-(qa x))) (qe x (∃(B:Aw),(qd l B x)/\Aa/\(l=l/\(qt x B)/\(Ae (some 10)/\qc x+1=qn B l/\Aa)/\TC l x r B)/\qE x B/\(Aa/\Aa/\Aa/\Aa/\(qc x+1)*3=qn B l*3/\Ar λ(i:Nat)=>qy i ((qc x+1)*3)->AZ [(2,2),(1,10),(0,0)] (Iz (qx B l i)) (qg x i))/\ZJ l x B)) (∃(B:Aw),kZ l x r B)))))) (True/\Ag (Ay (C4 (qk l x))) ((∃(x0:Nat),(∀(a:Int),qq x=qA a->HH C4 l a x0)/\ZG l x x0)/\∀(r:Nat),(∀(a:Int),qq x=qA a->HH C4 l a r)->qI r l (qh r l (True/\Ag (Ay (C4 (qb l r))) (qw r (∃(V:Nat),(∀(a:Int),qq x=qA a->HH C4 l a V)/\ZH l x r V)) (qr r l x (Nat.le (List.length (qm x r l)) 1000000/\Ag (!Ay (Prod.snd (Ij (qm x r l)))) (qe x (∃(B:Aw),(qd l B x)/\Aa/\(l=l/\(qt x B)/\(Ae (some 15)/\qc x+1=qn B l/\Aa)/\TC l x r B)/\qE x B/\(Aa/\Aa/\Aa/\Aa/\(qc x+1)*3=qn B l*3/\Ar λ(i:Nat)=>qy i ((qc x+1)*3)->AZ [(2,2),(1,15),(0,0)] (Iz (qx B l i)) (qg x i))/\ZK l x r B)) (∃(B:Aw),ke l x r B))))) (qr r l x (Nat.le (List.length (qm x r l)) 1000000/\Ag (!Ay (Prod.snd (Ij (qm x r l)))) (qe x (∃(B:Aw),(qd l B x)/\Aa/\(l=l/\(qt x B)/\(Ae (some 13)/\qc x+1=qn B l/\Aa)/\TC l x r B)/\qE x B/\(Aa/\Aa/\Aa/\Aa/\(qc x+1)*3=qn B l*3/\Ar λ(i:Nat)=>qy i ((qc x+1)*3)->AZ [(2,2),(1,13),(0,0)] (Iz (qx B l i)) (qg x i))/\ZK l x r B)) (∃(B:Aw),ke l x r B)))) ((qK x l)/\Ag (AP (0:Int) (AF (HR l (Int.toNat (qa x))))) ((qK x l)/\Ap (Bf .i64 ((qa x)+AF (HR l (Int.toNat (qa x))))) (∃(r:Aw),(qd l r x)/\Aa/\(l=l/\(qt x r)/\(Ae (some 1)/\qc x=qn r l/\Aa)/\(qB x l r)/\(qG x l r)/\(Aa/\(qa x)=(qa r))/\(Ae (some 2)/\Aa)/\(Aa/\(qa x)+AF (HR l (Int.toNat (qa x)))=(qp r l))/\True)/\qE x r/\TB l x r/\(Aa/\Aa/\Aa/\Aa/\((((True/\Aa/\(4:Int)=Aw.kd r l)/\([]:Aj)=[])/\Aa/\(0:Int)=Aw.nm r l)/\Aa/\Aw.line x=Aw.line r)/\Aa/\(qa x)-Aw.DJ x+1=Aw.Av r)/\True)) (qe x (∃(r:Aw),(qd l r x)/\Aa/\(l=l/\(qt x r)/\(Ae (some 11)/\qc x+1=qn r l/\Aa)/\kj l x r)/\qE x r/\(Aa/\Aa/\Aa/\Aa/\(qc x+1)*3=qn r l*3/\Ar λ(i:Nat)=>qy i ((qc x+1)*3)->AZ [(2,2),(1,11),(0,0)] (Iz (qx r l i)) (BA (qc x) (λ(k:Nat)=>Iz (qo x k)) (λ(B:Nat)=>[AV.int .i64 (Aw.line x),AV.int .i64 ((qa x)-Aw.DJ x+1),AV.int .i64 (3:Int)]) i))/\kW l x r)))))))))/\∀(r:Aw),(Iu l r/\Nat.le (Nat.succ (Aw.pos r)) l.length)/\qq x=qq r->Ag (AP (0:Int) (Aw.kd r l)) (Ap (bif C0 (qp r l) l.length then C0 (qa r) (Int.toNat (qp r l))else false) (Ap (bif bif Nat.ble (qf r*5) (qf r*5)then true else false then decide (List.length (Aw.out r)+1<=9223372036854775807/\(List.length (Aw.out r)+1)*48<=140737488355328)else false) (∃(V:Aw),Iu l V/\Nat.le (Nat.succ (l.length-Aw.pos V)) (l.length-Aw.pos x)/\Aa/\(l=l/\(Ae (some 5)/\qf r+1=qf V/\Aa)/\kh l r V)/\(Aa/\Aa/\Aa/\Aa/\(qf r+1)*5=qf V*5/\Ar λ(i:Nat)=>Nat.le (Nat.succ (i*5)) ((qf r+1)*5)->AZ [(1,1),(0,5)] (KY (qj V i)) (BA (qf r) (λ(k:Nat)=>KY (qj r k)) (λ(x:Nat)=>[AV.int .i64 (Aw.kd r l),AV.bs (List.drop (Int.toNat (qa r)) (List.take (Int.toNat (qp r l)) l)),AV.int .i64 (Aw.nm r l),AV.int .i64 (Aw.line r),AV.int .i64 (Aw.Av r)]) i))/\kg l r V))) (∃(V:Aw),Iu l V/\Nat.le (Nat.succ (l.length-Aw.pos V)) (l.length-Aw.pos x)/\Aa/\(l=l/\(qt r V)/\kh l r V)/\qE r V/\kg l r V)))))) (Ap (bif bif Nat.ble (qf x*5) (qf x*5)then B1 5 (qf x) λ(k:Nat)=>KY (qj x k)else false then bif bif Nat.ble (qc x*3) (qc x*3)then B1 3 (qc x) λ(k:Nat)=>Iz (qo x k)else false then true else false else false) ((Aa/\qf x=List.length (Prod.fst (FH l))/\Ar λ(i:Nat)=>Nat.le (Nat.succ i) (qf x)->(Aa/\CV.kind (qj x i)=CV.kind (qF l i))/\CV.text (qj x i)=CV.text (qF l i)/\(Aa/\CV.num (qj x i)=CV.num (qF l i))/\(Aa/\CV.line (qj x i)=CV.line (qF l i))/\(Aa/\CV.Av (qj x i)=CV.Av (qF l i))/\True)/\(Aa/\qc x=List.length (Prod.snd (FH l))/\Ar λ(i:Nat)=>Nat.le (Nat.succ i) (qc x)->(Aa/\Dg.line (qo x i)=Dg.line (List.getD (Prod.snd (FH l)) i d0))/\(Aa/\Dg.Av (qo x i)=Dg.Av (List.getD (Prod.snd (FH l)) i d0))/\(Aa/\Dg.err (qo x i)=Dg.err (List.getD (Prod.snd (FH l)) i d0))/\True)/\True))
:=by
 delta qa qb qc qd qe qf qg qh qj qk qm qn qo qp qq qr qt qw qx qy qA qB qE qF qG qH qI qJ qK;intro l hl;simp only[Et,F2,true_and,and_true,eq_self,implies_true,Nat.le_eq,ot,oq,Int.toNat_natCast,Int.ofNat_eq_natCast,Nat.ble_eq,Nat.ble_self_eq_true,Bool.true_and,Option.some.injEq,AV.int.injEq,kV,kW,ZJ,ZK,TB,kg,kh,TC,ki,kj,xe,Wt,ZF,kY,ZG,ZH,kZ,k7,k9,ZI,ke,kf,qa,qp,qm,qc,qn,qo,qx,qy,qB,qG,qf,qk,qj,qt,qE,qd,qq,qA,qJ]at hl⊢;have Y:∀ {x:Aw} {K M:Int},(x.kd l=K/\x.nm l=M/\x.wr l=x.C9++(if(0:Int)=0 then []else [⟨x.line,x.Av,0⟩]))->x.kd l=K/\x.nm l=M/\x.wr l=x.C9:=λh=>⟨h.1,h.2.1,by rw[h.2.2,As rfl,List.append_nil]⟩;have ae:∀ {x:Aw} {K M e:Int},e≠0->(x.kd l=K/\x.nm l=M/\x.wr l=x.C9++(if e=0 then []else [⟨x.line,x.Av,e⟩]))->x.kd l=K/\x.nm l=M/\x.wr l=x.C9++[⟨x.line,x.Av,e⟩]:=λhe h=>⟨h.1,h.2.1,by rw[h.2.2,An he]⟩;have Z:∀(n k:Nat),n<=1000000->k<=48->decide (n+1<=9223372036854775807/\(n+1)*k<=140737488355328)=true:=λn k hn L=>BF ⟨by omega,by have:=Nat.mul_le_mul_left (n+1) L;omega⟩;refine⟨⟨⟨0,1,0,[],[]⟩,⟨BL _,H8 1,H8 1,H8 0,H8 0,AH _,AH _,rfl⟩,rfl,rfl,rfl,rfl,rfl⟩,λx hI=>?_⟩;obtain⟨h1,h2,h3,h4,h5,h6,h7,h8⟩:=id hI;refine Ao (λhr=>?_) λhr=>?_
 ·rw[Bd]at hr;have J:x.pos<l.length:=by omega
  refine Am (AU.2 (by omega)) (Am (AU.2 (by omega)) (Am (AU.2 (by omega)) (Am (AK.2 (by omega)) ⟨?_,λy hy=>?_⟩)))
  ·rw[show l.getD x.pos 0=hd l x.pos from rfl];refine Ao (λhz=>?_) λag=>?_
   ·rw[Ba]at hz;have hb:hd l x.pos=10:=UInt8.toNat_inj.1 (by show _=10;omega);have L:=iH J hz (by decide) (by decide) (by decide) (by decide) (by decide);exact Am (AU.2 (by omega)) (Am (AU.2 (by omega)) (Kq hI J (As hb).symm (As hb).symm (by rw[L];rfl) (VT J L (by rw[hz];decide))))
   ·rw[BB]at ag;have hb:¬hd l x.pos=10:=λh=>ag (by rw[h];rfl);have hL:x.line=if hd l x.pos=10 then x.line+1 else x.line:=(An hb).symm
    have hF:x.DJ=if hd l x.pos=10 then(x.pos:Int)+1 else x.DJ:=(An hb).symm
    refine Ao (λhz=>?_) λai=>Ao (λhz=>?_) λar=>Ao (λhz=>?_) λaj=>Ao (λhz=>?_) λaf=>?_
    ·rw[Ba]at hz;have L:=iH J hz (by decide) (by decide) (by decide) (by decide) (by decide);exact Kq hI J hL hF (by rw[L];rfl) (VT J L (by rw[hz];decide))
    ·rw[Ba]at hz;have L:=iH J hz (by decide) (by decide) (by decide) (by decide) (by decide);exact Kq hI J hL hF (by rw[L];rfl) (VT J L (by rw[hz];decide))
    ·rw[Ba]at hz;have L:=iH J hz (by decide) (by decide) (by decide) (by decide) (by decide);exact Kq hI J hL hF (by rw[L];rfl) (VT J L (by rw[hz];decide))
    ·rw[Ba]at hz;have L:CK l x.pos=(0,runN (λz=>!decide (z=10)) (l.drop x.pos)):=by rw[eV J,hz,An (by decide),An (by decide),As rfl]
     refine⟨⟨x.pos+1,λa Z=>by subst Z;exact HH.first J (by show(!decide (((hd l x.pos).toNat:Int)=10))=true;rw[hz];decide),by omega,⟨⟨λ_=>trivial⟩,⟨λ_=>trivial⟩⟩⟩,λe he=>?_⟩;have hj:=he _ rfl;have au:=hj.le (by omega);refine Ao (λh=>?_) λh=>?_
     ·rw[Bd]at h;have aa:e<l.length:=by omega
      refine Am (AK.2 (by omega)) (Ao (λhp=>?_) λhp=>?_)
      ·exact Am (AU.2 (by omega)) ⟨e+1,λa Z=>by subst Z;exact(hj.next aa).1 (by rw[DD]at hp;exact hp),by omega,by omega,⟨⟨λ_=>trivial⟩,⟨λ_=>trivial⟩⟩⟩
      ·have S:=(hj.next aa).2 (by rw[DD]at hp;exact hp);exact Kq hI J hL hF (by rw[L,S]) (VT J L (by rw[hz];decide))
     ·rw[Bl]at h;have S:=hj.stop (by omega) (by omega);exact Kq hI J hL hF (by rw[L,S]) (VT J L (by rw[hz];decide))
    ·rw[BB]at ai ar aj af;rw[Ab4];refine Ao (λhz=>?_) λaq=>?_
     ·have L:CK l x.pos=(1,runN (λz=>Ha z||C4 z) (l.drop x.pos)):=by rw[eV J,As hz]
      refine⟨⟨x.pos+1,λa Z=>by subst Z;exact HH.first J (by show(Ha ((hd l x.pos).toNat:Int)||_)=true;rw[hz];rfl),by omega,⟨⟨λ_=>trivial⟩,⟨λ_=>trivial⟩⟩⟩,λe he=>?_⟩;have hj:=he _ rfl;have au:=hj.le (by omega);have ao:=hj.lo;simp only[Int.toNat_natCast]at ao;rw[Ab4];refine Ao (λh=>?_) λh=>?_
      ·rw[Bd]at h;have aa:e<l.length:=by omega
       refine Am (AK.2 (by omega)) (Ao (λhp=>?_) λhp=>?_)
       ·exact Am (AU.2 (by omega)) ⟨e+1,λa Z=>by subst Z;exact(hj.next aa).1 (by show(Ha _||C4 _)=true;rw[hp];rfl),by omega,by omega,⟨⟨λ_=>trivial⟩,⟨λ_=>trivial⟩⟩⟩
       ·refine Am (AK.2 (by omega)) (Ao (λan=>?_) λan=>?_)
        ·exact Am (AU.2 (by omega)) ⟨e+1,λa Z=>by subst Z;exact(hj.next aa).1 (by show(Ha _||C4 _)=true;rw[hp,an];rfl),by omega,by omega,⟨⟨λ_=>trivial⟩,⟨λ_=>trivial⟩⟩⟩
        ·have S:e=x.pos+(CK l x.pos).2:=by rw[L];exact(hj.next aa).2 (by show(Ha _||C4 _)=false;rw[hp,an];rfl)
         have R:List.drop x.pos (List.take e l)=tx l x.pos:=by rw[S];rfl
         have W:(tx l x.pos).length=e-x.pos:=by rw[<-R,Iw,List.length_take];omega
         have hE:(e:Int)=((x.pos+(CK l x.pos).2:Nat):Int):=by rw[<-S]
         refine Am (by rw[B4];exact⟨Nj.2 (by omega),Nj.2 (by omega)⟩) (Ao (λU=>?_) λU=>?_)
         ·rw[R]at U;exact Kq hI J hL hF hE (Y (MM J L (by decide) (by rw[UM,As U])))
         ·rw[R]at U;refine Am (AU.2 (by omega)) (Ao (λad=>?_) λad=>?_)
          ·rw[Bd]at ad;exact Am (Z _ _ (by omega) (by decide)) (WW hI J hL hF hE (ae (by decide) (MM J L (by decide) (by rw[UM,An (by rw[U];simp),As (by rw[W];omega)]))))
          ·rw[Bl]at ad;exact Kq hI J hL hF hE (Y (MM J L (by decide) (by rw[UM,An (by rw[U];simp),An (by rw[W];omega)])))
      ·rw[Bl]at h;have S:e=x.pos+(CK l x.pos).2:=by rw[L];exact hj.stop (by omega) (by omega)
       have R:List.drop x.pos (List.take e l)=tx l x.pos:=by rw[S];rfl
       have W:(tx l x.pos).length=e-x.pos:=by rw[<-R,Iw,List.length_take];omega
       have hE:(e:Int)=((x.pos+(CK l x.pos).2:Nat):Int):=by rw[<-S]
       refine Am (by rw[B4];exact⟨Nj.2 (by omega),Nj.2 (by omega)⟩) (Ao (λU=>?_) λU=>?_)
       ·rw[R]at U;exact Kq hI J hL hF hE (Y (MM J L (by decide) (by rw[UM,As U])))
       ·rw[R]at U;refine Am (AU.2 (by omega)) (Ao (λad=>?_) λad=>?_)
        ·rw[Bd]at ad;exact Am (Z _ _ (by omega) (by decide)) (WW hI J hL hF hE (ae (by decide) (MM J L (by decide) (by rw[UM,An (by rw[U];simp),As (by rw[W];omega)]))))
        ·rw[Bl]at ad;exact Kq hI J hL hF hE (Y (MM J L (by decide) (by rw[UM,An (by rw[U];simp),An (by rw[W];omega)])))
     ·refine Ao (λhz=>?_) λaw=>?_
      ·have L:CK l x.pos=(3,runN C4 (l.drop x.pos)):=by rw[eV J,An (by rw[aq];simp),As hz]
       refine⟨⟨x.pos+1,λa Z=>by subst Z;exact HH.first J hz,by omega,⟨⟨λ_=>trivial⟩,⟨λ_=>trivial⟩⟩⟩,λe he=>?_⟩;have hj:=he _ rfl;have au:=hj.le (by omega);have ao:=hj.lo;simp only[Int.toNat_natCast]at ao;refine Ao (λh=>?_) λh=>?_
       ·rw[Bd]at h;have aa:e<l.length:=by omega
        refine Am (AK.2 (by omega)) (Ao (λhp=>?_) λhp=>?_)
        ·exact Am (AU.2 (by omega)) ⟨e+1,λa Z=>by subst Z;exact(hj.next aa).1 hp,by omega,by omega,⟨⟨λ_=>trivial⟩,⟨λ_=>trivial⟩⟩⟩
        ·have S:e=x.pos+(CK l x.pos).2:=by rw[L];exact(hj.next aa).2 hp
         have R:List.drop x.pos (List.take e l)=tx l x.pos:=by rw[S];rfl
         have W:(tx l x.pos).length=e-x.pos:=by rw[<-R,Iw,List.length_take];omega
         have hE:(e:Int)=((x.pos+(CK l x.pos).2:Nat):Int):=by rw[<-S]
         refine Am (by rw[B4];exact⟨Nj.2 (by omega),Nj.2 (by omega)⟩) ⟨by rw[R,W];omega,Ao (λU=>?_) λU=>?_⟩
         ·rw[R]at U⊢;rw[BZ]at U;exact Am (Z _ _ (by omega) (by decide)) (WW hI J hL hF hE (ae (by decide) (MM J L (by decide) (by rw[eE,U];rfl))))
         ·rw[R]at U⊢;rw[BI]at U;exact Kq hI J hL hF hE (Y (MM J L (by decide) (by rw[eE,U];rfl)))
       ·rw[Bl]at h;have S:e=x.pos+(CK l x.pos).2:=by rw[L];exact hj.stop (by omega) (by omega)
        have R:List.drop x.pos (List.take e l)=tx l x.pos:=by rw[S];rfl
        have W:(tx l x.pos).length=e-x.pos:=by rw[<-R,Iw,List.length_take];omega
        have hE:(e:Int)=((x.pos+(CK l x.pos).2:Nat):Int):=by rw[<-S]
        refine Am (by rw[B4];exact⟨Nj.2 (by omega),Nj.2 (by omega)⟩) ⟨by rw[R,W];omega,Ao (λU=>?_) λU=>?_⟩
        ·rw[R]at U⊢;rw[BZ]at U;exact Am (Z _ _ (by omega) (by decide)) (WW hI J hL hF hE (ae (by decide) (MM J L (by decide) (by rw[eE,U];rfl))))
        ·rw[R]at U⊢;rw[BI]at U;exact Kq hI J hL hF hE (Y (MM J L (by decide) (by rw[eE,U];rfl)))
      ·have hn:(((x.pos:Int)-0).NonNeg/\((l.length:Int)-((x.pos:Int)+1)).NonNeg/\l.length<=1000000):=⟨(show(0:Int)<=x.pos by omega),(show(x.pos:Int)+1<=l.length by omega),hl⟩;obtain⟨m1,m2⟩:=Aju l x.pos;have ab:=eV J;rw[An (by rw[aq];simp),An (by rw[aw];simp),An af]at ab;refine⟨hn,Ao (λhm=>?_) λhm=>?_⟩
       ·rw[Bd]at hm;rw[As hm]at ab;have W:(tx l x.pos).length<=32:=by
         have:(CK l x.pos).2<=2:=by rw[ab];show(HR l x.pos).toNat<=2;omega
         unfold tx;rw[Iw,List.length_take];omega
        exact⟨hn,Am (AU.2 (by omega)) (Kq hI J hL hF (by rw[ab];show _=((x.pos+(HR l x.pos).toNat:Nat):Int);omega) (Y (MM J ab (by decide) (Ajs W))))⟩
       ·rw[Bl]at hm;rw[An (by omega)]at ab;refine Am (Z _ _ (by omega) (by decide)) (WW hI J hL hF (by rw[ab];rfl) (Ap2 J ab ?_));unfold WN;simp[ai,ar,ag,aj,af]
  ·obtain⟨⟨hJ,ak⟩,ay⟩:=hy;have ay:x.pos=y.pos:=by omega
   have ah:=Iu.step hJ ak;obtain⟨g1,g2,g3,g4,g5,g6,g7,g8⟩:=id hJ;have hn:=UU (hd l y.pos) (l.drop (y.pos+1));rw[<-R2 ak,Dn,Iw]at hn;have ho:=eg ak;have av:0<y.kd l↔0<(CK l y.pos).1:=by
    unfold Aw.kd;by_cases L:0<(CK l y.pos).1
    ·rw[As L];refine⟨λ_=>L,λ_=>?_⟩;unfold Ji;split
     ·exact(by decide:(0:Int)<3)
     ·split
      ·exact(by decide:(0:Int)<2)
      ·exact L
    ·rw[An L];exact⟨λh=>absurd h (by decide),λh=>absurd h L⟩
   refine Ao (λL=>?_) λL=>?_
   ·rw[Bd,av]at L;rw[As L]at ho;rw[ho]at ah;refine Am (by rw[B4];exact⟨Nj.2 (by omega),Nj.2 (by omega)⟩) (Am (Z _ _ (by omega) (by decide)) ⟨_,ah,?_,⟨by simp,rfl,rfl,rfl,rfl⟩,⟨by simp,QS (AqS _) ?_ rfl⟩,rfl,⟨λi _=>⟨rfl,rfl,rfl⟩⟩⟩)
    ·show(l.length-(y.pos+(CK l y.pos).2)).succ<=_;omega
    ·unfold Aw.kd Aw.nm;rw[As L,As L];rfl
   ·have L:¬0<(CK l y.pos).1:=λh=>by rw[Bl]at L;have:=av.2 h;omega
    rw[An L]at ho;rw[ho,List.append_nil]at ah;refine⟨_,ah,?_,⟨rfl,rfl,rfl,rfl,rfl⟩,⟨rfl,⟨λi _=>⟨rfl,rfl,rfl,rfl,rfl⟩⟩⟩,rfl,⟨λi _=>⟨rfl,rfl,rfl⟩⟩⟩;show(l.length-(y.pos+(CK l y.pos).2)).succ<=_;omega
 ·rw[Bl]at hr;have az:x.pos=l.length:=by omega
  rw[az,List.drop_length,ApN,List.append_nil,List.append_nil]at h8;rw[Ais,Air,<-h8];exact Am rfl ⟨⟨rfl,⟨λ_ _=>⟨rfl,rfl,rfl,rfl,rfl⟩⟩⟩,rfl,⟨λ_ _=>⟨rfl,rfl,rfl⟩⟩⟩
theorem Ame:∀(l:Aj),l.length<=1000000->(A3 (yp l) 200).call 31 [.bv l] .leaf 0 (BS Tryz.prog false (Aen l)):=Eq.mpr (by kernel_rfl) Amf
def pJ:Tr Ah->Al->Option Ct:=λ_ args=>match args with
 | [.bv l]=>some (.Bb (l.length<=1000000) (.ret (Aen l)))
 |_=>none
theorem Aj7:BC Tryz.prog 31 pJ:=by
 refine Cw (gl:=[]) (ng:=0) AS λH args ct r=>?_;unfold pJ at r;split at r
 ·rename_i l;injection r with r;subst r;exact⟨AS,_,_,rfl,λx=>⟨⟨rfl,trivial⟩,yp l,200,rfl,Dq,Aqa,Ame l x⟩⟩
 ·cases r
theorem Aer:∀(n:Nat) (l:Aj) (line Av:Int),l.length<=n->(N3 l line Av).1.length<=l.length/\(N3 l line Av).2.length<=l.length
 |_,[],_,_,_=>⟨AH _,AH _⟩
 |0,b::t,_,_,h=>by simp at h
 |n+1,b::t,line,Av,h=>by
  have hn:=UU b t;simp only[Dn]at h hn;have hl:((b::t).drop (Fy (b::t)).2).length=t.length+1-(Fy (b::t)).2:=by rw[Iw,Dn]
  obtain⟨z,y⟩:=Aer n ((b::t).drop (Fy (b::t)).2) (if b=10 then line+1 else line) (if b=10 then 1 else Av+(Fy (b::t)).2) (by omega);obtain⟨x,r⟩:=uC b t line Av;rw[wG];simp only[E6,Dn];omega
theorem ApL (l:Aj):(FH l).1.length<=l.length/\(FH l).2.length<=l.length:=Aer l.length l 1 1 (AH _)
end Go.Proofs.YthallodoidghoaaGreat
end
end
