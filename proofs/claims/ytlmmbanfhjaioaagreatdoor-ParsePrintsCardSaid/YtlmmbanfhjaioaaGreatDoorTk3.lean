/- Laid by program out of its parts: TkI, TkJ. -/
import Derived.Test.YtlmmbanfhjaioaaGreatDoorTk2
noncomputable section
set_option linter.unusedVariables false
set_option linter.unusedSimpArgs false
section
set_option maxRecDepth 100000
open Go Go.Ev
namespace Go.Proofs.YtlmmbanfhjaioaaGreatDoor
structure AD where
 pos:Nat
 line:Int
 H4:Int
 out:List Tok
 CU:List Dg
def AD.Ao (x:AD):Int:=(x.pos:Int)-x.H4+1
structure W3 (l:List UInt8) (x:AD):Prop where
 le:x.pos<=l.length
 Aep:1<=x.line
 Aeq:x.line<=x.pos+1
 Anl:0<=x.H4
 Anm:x.H4<=x.pos
 out:x.out.length<=x.pos
 CU:x.CU.length<=x.pos
 U9:(x.out++(K2 (l.drop x.pos) x.line x.Ao).1,x.CU++(K2 (l.drop x.pos) x.line x.Ao).2)=DV l
def hd (l:Ac) (p:Nat):UInt8:=l.getD p 0
def Lr (l:Ac) (p:Nat):Int×Nat:=Bs (l.drop p)
def tx (l:Ac) (p:Nat):Ac:=(l.take (p+(Lr l p).2)).drop p
def AD.kd (x:AD) (l:Ac):Int:=if 0<(Lr l x.pos).1 then(D4 (Lr l x.pos).1 (tx l x.pos)).1 else 0
def AD.nm (x:AD) (l:Ac):Int:=if 0<(Lr l x.pos).1 then(D4 (Lr l x.pos).1 (tx l x.pos)).2.1 else 0
def AD.wr (x:AD) (l:Ac):List Dg:=x.CU++(EP (hd l x.pos) (l.drop (x.pos+1)) x.line x.Ao).2
structure ME (p:Int->Bool) (l:List UInt8) (a:Int) (e:Nat):Prop where
 lo:a.toNat+1<=e
 hi:e<=a.toNat+runN p (l.drop a.toNat)
theorem uo (b:UInt8):HV (b.toNat:Int)=C9 (b.toNat:Int):=by
 have h:∀n:Fin 256,HV (n.val:Int)=C9 (n.val:Int):=by decide+kernel
 exact h ⟨b.toNat,b.toNat_lt⟩
theorem jY {l:Ac} {p:Nat} (h:p<l.length):l.drop p=hd l p::l.drop (p+1):=Yb l p h
theorem kR {l:Ac} {p:Nat} (h:p<l.length):Lr l p=Bs (hd l p::l.drop (p+1)):=by unfold Lr;rw[jY h]
theorem W3.step {l:Ac} {x:AD} (B:W3 l x) (q:x.pos<l.length): W3 l ⟨x.pos+(Lr l x.pos).2,if hd l x.pos=10 then x.line+1 else x.line,if hd l x.pos=10 then(x.pos:Int)+1 else x.H4,x.out++(EP (hd l x.pos) (l.drop (x.pos+1)) x.line x.Ao).1,x.wr l⟩:=by
 obtain⟨U,S,R,O,M,L,K,C⟩:=B;have hn:=S0 (hd l x.pos) (l.drop (x.pos+1));rw[<-kR q,AE,HC]at hn;obtain⟨J,E⟩:=k9 (hd l x.pos) (l.drop (x.pos+1)) x.line x.Ao;refine⟨?_,?_,?_,?_,?_,?_,?_,?_⟩
 ·simp only;omega
 ·simp only;split<;>omega
 ·simp only;split<;>omega
 ·simp only;split<;>omega
 ·simp only;split<;>omega
 ·simp only[AK];omega
 ·simp only[AD.wr,AK];omega
 ·rw[<-C,jY q,WD,<-kR q,<-jY q,List.drop_drop];simp only[AD.wr,A7,AD.Ao];by_cases y:hd l x.pos=10
  ·have:(Lr l x.pos).2=1:=by rw[kR q,y,Zd]
   rw[Am y,Am y,Am y,this,show((x.pos+1:Nat):Int)-((x.pos:Int)+1)+1=1 from by omega]
  ·rw[Ad y,Ad y,Ad y,show((x.pos+(Lr l x.pos).2:Nat):Int)-x.H4+1=(x.pos:Int)-x.H4+1+(Lr l x.pos).2 from by omega]
theorem ME.next {p:Int->Bool} {l:Ac} {a e:Nat} (h:ME p l (a:Int) e) (K:e<l.length):(p ((l.getD e 0).toNat:Int)=true->ME p l (a:Int) (e+1))/\(p ((l.getD e 0).toNat:Int)=false->e=a+runN p (l.drop a)):=by
 obtain⟨J,E⟩:=h;simp only[Int.toNat_natCast]at J E;have B:(l.drop a).getD (e-a) 0=l.getD e 0:=by simp[B2];rw[show a+(e-a)=e by omega]
 have:=mE p (l.drop a) (e-a) (by omega) (by rw[HC];omega);rw[B]at this;refine⟨λy=>?_,λy=>?_⟩
 ·rcases this with⟨C,_⟩|⟨_,q⟩
  ·exact⟨by simp only[Int.toNat_natCast];omega,by simp only[Int.toNat_natCast];omega⟩
  ·rw[y]at q;cases q
 ·rcases this with⟨_,q⟩|⟨C,_⟩
  ·rw[y]at q;cases q
  ·omega
theorem ME.stop {p:Int->Bool} {l:Ac} {a e:Nat} (h:ME p l (a:Int) e) (B:l.length<=e) (C:a<=l.length):e=a+runN p (l.drop a):=by obtain⟨y,q⟩:=h;simp only[Int.toNat_natCast]at y q;have:=Rc p (l.drop a);rw[HC]at this;omega
theorem ME.first {p:Int->Bool} {l:Ac} {a:Nat} (q:a<l.length) (h:p ((l.getD a 0).toNat:Int)=true):ME p l (a:Int) (a+1):=by have:=Z8 (t:=l.drop (a+1)) (p:=p) h;have e:l.drop a=l.getD a 0::l.drop (a+1):=Yb l a q;rw[<-e]at this;exact⟨by simp only[Int.toNat_natCast];omega,by simp only[Int.toNat_natCast];omega⟩
theorem ME.le {p:Int->Bool} {l:Ac} {a e:Nat} (h:ME p l (a:Int) e) (B:a<=l.length):e<=l.length:=by obtain⟨y,q⟩:=h;simp only[Int.toNat_natCast]at y q;have:=Rc p (l.drop a);rw[HC]at this;omega
def qr (a:AD):=(↑(AD.pos a):Int)
def lB (a:AD) (b:Ac):=(↑(AD.pos a+Prod.snd (Lr b (AD.pos a))):Int)
@[reducible] def AaF:Ac->AD->AD->Prop:=λ(l:Ac) (a q:AD)=>(Aa/\(qr a)=(qr q))/\(Af (some 2)/\Aa)/\(Aa/\(qr a)+1=(lB q l))/\True
@[reducible] def AaG:Ac->AD->AD->Prop:=λ(l:Ac) (a q:AD)=>(Aa/\Aa/\Aa/\Aa/\((((True/\Aa/\(1:Int)=AD.kd q l)/\([]:Ac)=[])/\Aa/\(0:Int)=AD.nm q l)/\Aa/\AD.line a=AD.line q)/\Aa/\(qr a)-AD.H4 a+1=AD.Ao q)/\True
@[reducible] def AaI:Ac->AD->AD->Prop:=λ(l:Ac) (a q:AD)=>(Aa/\Aa/\Aa/\Aa/\((((True/\Aa/\(0:Int)=AD.kd q l)/\([]:Ac)=[])/\Aa/\(0:Int)=AD.nm q l)/\Aa/\AD.line a=AD.line q)/\Aa/\(qr a)-AD.H4 a+1=AD.Ao q)/\True
@[reducible] def AaJ:Ac->AD->Nat->AD->Prop:=λ(l:Ac) (a:AD) (y:Nat) (q:AD)=>(Aa/\Aa/\Aa/\Aa/\((((True/\Aa/\(3:Int)=AD.kd q l)/\([]:Ac)=[])/\Aa/\Prod.fst (GL (List.drop (Int.toNat (qr a)) (List.take (Int.toNat (↑y:Int)) l)))=AD.nm q l)/\Aa/\AD.line a=AD.line q)/\Aa/\(qr a)-AD.H4 a+1=AD.Ao q)/\True
def qI (a:AD):=List.length (AD.CU a)
def qJ (a:AD) (b:Nat):=List.getD (AD.CU a) b d0
def Ta (a:AD) (b:Ac):=List.length (AD.wr a b)
def Tb (a:AD) (b:Ac) (c:Nat):=List.getD (AD.wr a b) c d0
@[reducible] def Xw:Ac->AD->AD->Prop:=λ(l:Ac) (a q:AD)=>Aa/\Aa/\Aa/\Aa/\qI a*3=Ta q l*3/\AH λ(i:Nat)=>qU i (qI a*3)->(Aa/\Dg.line (qJ a i)=Dg.line (Tb q l i))/\(Aa/\Dg.Ao (qJ a i)=Dg.Ao (Tb q l i))/\(Aa/\Dg.err (qJ a i)=Dg.err (Tb q l i))/\True
@[reducible] def Anh:Ac->AD->AD->Prop:=λ(l:Ac) (a q:AD)=>(Aa/\Aa/\Aa/\Aa/\Ta a l*3=qI q*3/\AH λ(i:Nat)=>qU i (Ta a l*3)->(Aa/\Dg.line (Tb a l i)=Dg.line (qJ q i))/\(Aa/\Dg.Ao (Tb a l i)=Dg.Ao (qJ q i))/\(Aa/\Dg.err (Tb a l i)=Dg.err (qJ q i))/\True)/\True
@[reducible] def Ani:Ac->AD->AD->Prop:=λ(l:Ac) (a q:AD)=>(Af (some 1)/\Ta a l=qI q/\Aa)/\(Aa/\(if hd l (AD.pos a)=(10:UInt8)then AD.line a+1 else AD.line a)=AD.line q)/\(Aa/\(if hd l (AD.pos a)=(10:UInt8)then(qr a)+1 else AD.H4 a)=AD.H4 q)/\(Aa/\(lB a l)=(qr q))/\True
def wu (a:AD) (b:Ac) (c:AD):=(Aa/\AD.line a=if hd b (AD.pos c)=(10:UInt8)then AD.line c+1 else AD.line c)
@[reducible] def AaK:Ac->AD->Nat->AD->Prop:=λ(l:Ac) (a:AD) (y:Nat) (q:AD)=>(wu a l q)/\(Aa/\AD.H4 a=if hd l (AD.pos q)=(10:UInt8)then(qr q)+1 else AD.H4 q)/\(Aa/\(qr a)=(qr q))/\(Af (some 2)/\Aa)/\(Aa/\(↑y:Int)=(lB q l))/\True
def qF (a:AD):=List.length (AD.out a)
@[reducible] def oZ:Ac->AD->Prop:=λ(l:Ac) (a:AD)=>l=l/\(Af (some 0)/\Af (qF a)/\Aa)/\(Af (some 1)/\Af (qI a)/\Aa)/\(Aa/\Af (AD.line a))/\(Aa/\Af (AD.H4 a))/\(Aa/\Af (qr a))/\(Af (some 2)/\Aa)/\(Aa/\Af (↑(UInt8.toNat (List.getD l (Int.toNat (qr a)) (0:UInt8))):Int))/\True
@[reducible] def AaL:Ac->AD->AD->Prop:=λ(l:Ac) (a q:AD)=>(wu a l q)/\(Aa/\AD.H4 a=if hd l (AD.pos q)=(10:UInt8)then(qr q)+1 else AD.H4 q)/\AaF l a q
def qp (a:AD) (b:Nat):=List.getD (AD.out a) b t0
@[reducible] def Xu:AD->AD->Prop:=λ(a q:AD)=>Aa/\Aa/\Aa/\Aa/\qF a*5=qF q*5/\AH λ(i:Nat)=>qZ i (qF a*5)->(Aa/\Tok.kind (qp a i)=Tok.kind (qp q i))/\Tok.text (qp a i)=Tok.text (qp q i)/\(Aa/\Tok.num (qp a i)=Tok.num (qp q i))/\(Aa/\Tok.line (qp a i)=Tok.line (qp q i))/\(Aa/\Tok.Ao (qp a i)=Tok.Ao (qp q i))/\True
@[reducible] def Xv:Ac->AD->Nat->AD->Prop:=λ(l:Ac) (a:AD) (y:Nat) (q:AD)=>l=l/\(Af (some 0)/\qF a=qF q/\Aa)/\(Af (some 1)/\qI a=Ta q l/\Aa)/\AaK l a y q
@[reducible] def oX:Ac->AD->AD->Prop:=λ(l:Ac) (a q:AD)=>Xu a q/\Xw l a q/\AaI l a q
@[reducible] def oY:AD->Prop:=λ(a:AD)=>(Aa/\Aa/\Aa/\Aa/\Af (qF a*5)/\AH λ(i:Nat)=>qZ i (qF a*5)->(Aa/\Af (Tok.kind (qp a i)))/\Af (Tok.text (qp a i))/\(Aa/\Af (Tok.num (qp a i)))/\(Aa/\Af (Tok.line (qp a i)))/\(Aa/\Af (Tok.Ao (qp a i)))/\True)/\(Aa/\Aa/\Aa/\Aa/\Af (qI a*3)/\AH λ(i:Nat)=>qU i (qI a*3)->(Aa/\Af (Dg.line (qJ a i)))/\(Aa/\Af (Dg.Ao (qJ a i)))/\(Aa/\Af (Dg.err (qJ a i)))/\True)/\(Aa/\Aa/\Aa/\Aa/\((((True/\Aa/\Af (0:Int))/\0=0/\0=0)/\Aa/\Af (0:Int))/\Aa/\Af (AD.line a))/\Aa/\Af ((qr a)-AD.H4 a+1))/\True
@[reducible] def Am9:Ac->AD->Nat->Prop:=λ(l:Ac) (a:AD) (q:Nat)=>Aa/\((Aa/\(qr a)+1=(↑q:Int))/\oZ l a)/\oY a
@[reducible] def AaH:Ac->AD->Nat->Nat->Prop:=λ(l:Ac) (a:AD) (y q:Nat)=>qP l q y/\Aa/\((Aa/\(↑y:Int)+1=(↑q:Int))/\oZ l a)/\oY a
def qh (a:Ac) (b:AD) (c:AD):=((W3 a b/\Nat.le (Nat.succ (AD.pos b)) a.length)/\some (AV.int .i64 (↑(AD.pos c):Int))=some (AV.int .i64 (↑(AD.pos b):Int)))
@[reducible] def Ana:Ac->AD->Nat->AD->Prop:=λ(l:Ac) (a:AD) (y:Nat) (q:AD)=>(qh l q a)/\Aa/\Xv l a y q/\Xu a q/\Xw l a q/\AaG l a q
@[reducible] def Anb:Ac->AD->Nat->AD->Prop:=λ(l:Ac) (a:AD) (y:Nat) (q:AD)=>(qh l q a)/\Aa/\Xv l a y q/\oX l a q
@[reducible] def Anc:Ac->AD->Nat->AD->Prop:=λ(l:Ac) (a:AD) (y:Nat) (q:AD)=>(qh l q a)/\Aa/\Xv l a y q/\Xu a q/\Xw l a q/\(Aa/\Aa/\Aa/\Aa/\((((True/\Aa/\(2:Int)=AD.kd q l)/\([]:Ac)=[])/\Aa/\(0:Int)=AD.nm q l)/\Aa/\AD.line a=AD.line q)/\Aa/\(qr a)-AD.H4 a+1=AD.Ao q)/\True
@[reducible] def Ane:Ac->AD->AD->Prop:=λ(l:Ac) (a q:AD)=>(qh l q a)/\Aa/\(l=l/\(Af (some 0)/\qF a=qF q/\Aa)/\(Af (some 1)/\qI a=Ta q l/\Aa)/\AaL l a q)/\oX l a q
@[reducible] def Anf:Ac->AD->Nat->AD->Prop:=λ(l:Ac) (a:AD) (y:Nat) (q:AD)=>(qh l q a)/\Aa/\Xv l a y q/\Xu a q/\Xw l a q/\AaJ l a y q
@[reducible] def Ang:Ac->AD->Nat->Nat->Prop:=λ(l:Ac) (a:AD) (B y:Nat)=>(∀(q:Int),some (AV.int .i64 (qr a))=some (AV.int .i64 q)->ME qH l q y)/\AaH l a B y
theorem yE:∀(n:Nat) (l:Ac) (line Ao:Int),l.length<=n->(K2 l line Ao).1.length<=l.length/\(K2 l line Ao).2.length<=l.length
 |_,[],_,_,_=>⟨AM _,AM _⟩
 |0,b::t,_,_,h=>by simp at h
 |n+1,b::t,line,Ao,h=>by
  have hn:=S0 b t;simp only[AE]at h hn;have B:((b::t).drop (Bs (b::t)).2).length=t.length+1-(Bs (b::t)).2:=by rw[HC,AE]
  obtain⟨E,C⟩:=yE n ((b::t).drop (Bs (b::t)).2) (if b=10 then line+1 else line) (if b=10 then 1 else Ao+(Bs (b::t)).2) (by omega);obtain⟨y,q⟩:=k9 b t line Ao;rw[WD];simp only[AK,AE];omega
theorem yD (l:Ac):(DV l).1.length<=l.length/\(DV l).2.length<=l.length:=yE l.length l 1 1 (AM _)
end Go.Proofs.YtlmmbanfhjaioaaGreatDoor
end
end
