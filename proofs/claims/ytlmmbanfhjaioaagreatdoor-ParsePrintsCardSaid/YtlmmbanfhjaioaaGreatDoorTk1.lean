/- Laid by program out of its parts: TkA, TkB, TkC, TkD. -/
import Derived.Test.YtlmmbanfhjaioaaGreatDoorMe
import Derived.KernelRfl
import Derived.Test.YtlmmbanfhjaioaaGreatDoorPa1
noncomputable section
set_option linter.unusedVariables false
set_option linter.unusedSimpArgs false
section
set_option maxRecDepth 100000
set_option linter.unusedSimpArgs false
open Go Go.Ev
namespace Go.Proofs.YtlmmbanfhjaioaaGreatDoor
def Eb (tb:D9):Ctx:={P:=Tryz.prog,tb:=tb,lp:=λ_ _=>none,cut:=λ_ _=>none}
def IZ (tb:D9) (y q:Nat) (S:CX):Ctx:={P:=Tryz.prog,tb:=tb,lp:=λf r=>cond (Nat.beq f y) (cond (Nat.beq r q) (some S) none) none,cut:=λ_ _=>none}
def Bp (z:Int):Bool:=decide (48<=z/\z<=57)
def S3 (z:Int):Int:=IntKind.wrap IntKind.u8 (↑(BitVec.toNat (BitVec.ofInt (8:Nat) z|||BitVec.ofInt (8:Nat) (32:Int))):Int)
def C9 (z:Int):Bool:=decide (z=95)||decide (97<=S3 z/\S3 z<=122)
def MJ (z:Int):Bool:=decide (z=32)||decide (z=9)||decide (z=10)||decide (z=13)||decide (z=35)
def HV (z:Int):Bool:=decide (97<=z/\z<=122)||decide (65<=z/\z<=90)||decide (z=95)
def KL (f:Int->Bool):Tr Ae->Aj->Option Ct:=λ_ args=>match args with
 | [.int .u8 z]=>some (.Be True (.ret (.bool (AW (f z)))))
 |_=>none
def KK (l:Ac) (c:Int):Nat->Int
 |0=>-1
 |k+1=>if((l.getD k 0).toNat:Int)=c then k else KK l c k
structure W4 (l:List UInt8) (c:Int) (k:Nat):Prop where
 le:k<=l.length
 U9:KK l c k=KK l c l.length
def oS (l:Ac) (c:Int):CX:={X:=Nat,T:=λ_ _ k=>[(0,.bv l),(1,.int .u8 c),(5,.int .i64 ((k:Int)-1))],H:=λ_ _ _=>[],nx:=λ_ n0=>n0,I:=λ_=>W4 l c,m:=λk=>k}
def gU:Tr Ae->Aj->Option Ct:=λ_ args=>match args with
 | [.bv l,.int .u8 c]=>some (.Be (l.length<=1000000) (.ret (.int .i64 (KK l c l.length))))
 |_=>none
theorem QJ {g:FuncId} {f:Int->Bool} (h:∀z:Int,(A4 (Eb []) 40).call g [.int .u8 z] .leaf 0 (Cb Tryz.prog false (.bool (f z)))):Ck Tryz.prog g (KL f):=by
 refine NN (gl:=[]) (ng:=0) Bq λH args ct q=>?_;unfold KL at q;split at q
 ·rename_i z;injection q with q;subst q;exact⟨Bq,⟨⟨rfl,rfl⟩,trivial⟩,_,_,rfl,λ_=>⟨Eb [],40,rfl,Bu,B5,by rw[Ea];exact h z⟩⟩
 ·cases q
def Zw (a:Int):=Ah (!AQ a (48:Int)) ((!AQ (57:Int) a)=Bp a) (false=Bp a)
theorem Ahl:∀(z:Int),Zw z
:=by
 delta Zw;intro z;simp only[FN,Bp,EM,DU]
 grind
theorem Ahk:∀z:Int,(A4 (Eb []) 40).call 56 [.int .u8 z] .leaf 0 (Cb Tryz.prog false (.bool (Bp z))):=Eq.mpr (by kernel_rfl) Ahl
def qt (a:Int):=IntKind.wrap .u8 (↑(BitVec.toNat (BitVec.ofInt 8 a|||BitVec.ofInt 8 (32:Int))):Int)
theorem Ahn:∀(z:Int),Ah (An z (95:Int)) (true=C9 z) (Ah (!AQ (qt z) (97:Int)) ((!AQ (122:Int) (qt z))=C9 z) (false=C9 z))
:=by
 delta qt;intro z;rw[show IntKind.wrap IntKind.u8 (↑(BitVec.toNat (BitVec.ofInt (8:Nat) z|||BitVec.ofInt (8:Nat) (32:Int))):Int)=S3 z from rfl];generalize h:S3 z=y;simp only[FN,C9,h,EM,DU]
 grind
theorem Ahm:∀z:Int,(A4 (Eb []) 40).call 53 [.int .u8 z] .leaf 0 (Cb Tryz.prog false (.bool (C9 z))):=Eq.mpr (by kernel_rfl) Ahn
theorem Ahd:∀(z:Int),Ah (An z (32:Int)) (true=MJ z) (Ah (An z (9:Int)) (true=MJ z) (Ah (An z (10:Int)) (true=MJ z) (Ah (An z (13:Int)) (true=MJ z) (An z (35:Int)=MJ z))))
:=by
 intro z;simp only[FN,MJ,EM,DU]
 grind
theorem Ahc:∀z:Int,(A4 (Eb []) 40).call 27 [.int .u8 z] .leaf 0 (Cb Tryz.prog false (.bool (MJ z))):=Eq.mpr (by kernel_rfl) Ahd
def kz (a:Int):=Ah (!AQ a (48:Int)) ((!AQ (57:Int) a)=(C9 a||Bp a)) (false=(C9 a||Bp a))
theorem Ahx:∀(z:Int),Ah (An z (95:Int)) (true=(C9 z||Bp z)) (Ah (!AQ (qt z) (97:Int)) (Ah (!AQ (122:Int) (qt z)) (true=(C9 z||Bp z)) (kz z)) (kz z))
:=by
 delta qt kz;intro z;rw[show IntKind.wrap IntKind.u8 (↑(BitVec.toNat (BitVec.ofInt (8:Nat) z|||BitVec.ofInt (8:Nat) (32:Int))):Int)=S3 z from rfl];generalize h:S3 z=y;simp only[FN,C9,Bp,h,EM,DU]
 grind
theorem Ahw:∀z:Int,(A4 (Eb []) 40).call 55 [.int .u8 z] .leaf 0 (Cb Tryz.prog false (.bool (C9 z||Bp z))):=Eq.mpr (by kernel_rfl) Ahx
theorem Ahz:∀(z:Int),(!An z (10:Int))= !decide (z=(10:Int))
:=by intro z;rw[DU];rfl
theorem Ahy:∀z:Int,(A4 (Eb []) 40).call 57 [.int .u8 z] .leaf 0 (Cb Tryz.prog false (.bool (!decide (z=10)))):=Eq.mpr (by kernel_rfl) Ahz
def qV (a:Int):=Ah (!AQ a (65:Int)) (Ah (!AQ (90:Int) a) (true=HV a) (An a (95:Int)=HV a)) (An a (95:Int)=HV a)
theorem Ahf:∀(z:Int),Ah (!AQ z (97:Int)) (Ah (!AQ (122:Int) z) (true=HV z) (qV z)) (qV z)
:=by
 delta qV;intro z;simp only[FN,HV,EM,DU]
 grind
theorem Ahe:∀z:Int,(A4 (Eb []) 40).call 31 [.int .u8 z] .leaf 0 (Cb Tryz.prog false (.bool (HV z))):=Eq.mpr (by kernel_rfl) Ahf
theorem Ahh:∀(z:Int),Zw z
:=by
 delta Zw;intro z;simp only[FN,Bp,EM,DU]
 grind
theorem Ahg:∀z:Int,(A4 (Eb []) 40).call 32 [.int .u8 z] .leaf 0 (Cb Tryz.prog false (.bool (Bp z))):=Eq.mpr (by kernel_rfl) Ahh
def qE (a:Ac):=Nat.le a.length 1000000
def q8 (a:Ac):=Int.ofNat a.length
theorem Ahp:∀(l:Ac) (c:Int),qE l->Al (BJ .i64 (q8 l-1)) ((∃(C:Nat),W4 l c C/\Aa/\(l=l/\(Aa/\c=c)/\(Aa/\q8 l-1=(↑C:Int)-1)/\True)/\True)/\∀(x:Nat),W4 l c x->Ah (!AQ ((↑x:Int)-1) (0:Int)) (Al (A9 ((↑x:Int)-1) l.length) (Ah (An (↑(UInt8.toNat (List.getD l (Int.toNat ((↑x:Int)-1)) (0:UInt8))):Int) c) (Aa/\(↑x:Int)-1=KK l c l.length) (Al (BJ .i64 ((↑x:Int)-1-1)) (∃(B:Nat),W4 l c B/\Nat.le (Nat.succ B) x/\Aa/\(l=l/\(Aa/\c=c)/\(Aa/\(↑x:Int)-1-1=(↑B:Int)-1)/\True)/\True)))) (Aa/\Int.negSucc 0=KK l c l.length))
:=by
 delta qE q8;intro l c E;simp only[Nat.le_eq]at E;refine At (CJ.2 (by simp;omega)) ⟨⟨l.length,⟨AM _,rfl⟩,rfl,⟨rfl,⟨rfl,rfl⟩,⟨rfl,rfl⟩,trivial⟩,trivial⟩,λk y=>Aw (λh=>?_) λh=>?_⟩
 ·have J:=y.le;simp only[EH,CF]at h;obtain⟨k,rfl⟩:∃j,k=j+1:=⟨k-1,by omega⟩;have e:Int.toNat (((k+1:Nat):Int)-1)=k:=by omega
  have q:=y.U9;rw[KK]at q;refine At (Cf.2 (by omega)) (Aw (λh=>?_) λh=>?_)
  ·rw[e,C0]at h;rw[Am h]at q;exact⟨rfl,by rw[<-q];omega⟩
  ·rw[e,Dy]at h;rw[Ad h]at q;exact At (CJ.2 (by omega)) ⟨k,⟨by omega,q⟩,AM _,rfl,⟨rfl,⟨rfl,rfl⟩,⟨rfl,by omega⟩,trivial⟩,trivial⟩
 ·have J:=y.le;simp only[EG,CE]at h;obtain rfl:k=0:=by omega
  exact⟨rfl,y.U9⟩
theorem Aho:∀(l:Ac) (c:Int),l.length<=1000000->(A4 (IZ [] 52 2 (oS l c)) 40).call 52 [.bv l,.int .u8 c] .leaf 0 (Cb Tryz.prog false (.int .i64 (KK l c l.length))):=Eq.mpr (by kernel_rfl) Ahp
theorem Afc:Ck Tryz.prog 52 gU:=by
 refine NN (gl:=[]) (ng:=0) Bq λH args ct q=>?_;unfold gU at q;split at q
 ·rename_i l c;injection q with q;subst q;exact⟨Bq,⟨rfl,⟨rfl,rfl⟩,trivial⟩,_,_,rfl,λy=>⟨IZ [] 52 2 (oS l c),40,rfl,Bu,B5,Aho l c y⟩⟩
 ·cases q
def PB:D9:=[(56,KL Bp),(53,KL C9),(27,KL MJ),(55,KL λz=>C9 z||Bp z),(57,KL λz=>!decide (z=10)),(31,KL HV),(32,KL Bp),(52,gU)]
theorem cR:EY Tryz.prog PB:=Cj (QJ Ahk) <| Cj (QJ Ahm) <| Cj (QJ Ahc) <| Cj (QJ Ahw) <| Cj (QJ Ahy) <| Cj (QJ Ahe) <| Cj (QJ Ahg) <| Cj Afc B5
def runN (p:Int->Bool):Ac->Nat
 | []=>0
 |b::l=>if p (b.toNat:Int)then runN p l+1 else 0
structure Ks (p:Int->Bool) (l:List UInt8) (k:Nat):Prop where
 le:k<=runN p l
def RH (g:Nat) (p:Int->Bool) (l:Ac):CX:={X:=Nat,T:=λ_ _ k=>[(0,.bv l),(1,.fn (.func 86) [] [.ptr 0 0]),(7,.int .i64 l.length),(8,.int .i64 k)],H:=λ_ _ _=>[(0,.cells 63 .leaf (.Dw [.fn (.func g) [] []]) 1 false)],nx:=λ_ n0=>n0,I:=λ_=>Ks p l,m:=λk=>l.length-k}
theorem Rc (p:Int->Bool):∀l,runN p l<=l.length
 | []=>AM _
 |b::l=>by rw[runN,AE];have:=Rc p l;split<;>omega
theorem mE (p:Int->Bool):∀(l:Ac) (k:Nat),k<=runN p l->k<l.length->(k<runN p l/\p ((l.getD k 0).toNat:Int)=true)\/(k=runN p l/\p ((l.getD k 0).toNat:Int)=false)
 | [],k,_,h=>absurd h (Nat.not_lt_zero _)
 |b::l,0,h,_=>by
  simp only[List.getD_cons_zero];rw[runN];cases q:p (b.toNat:Int)with
  |true=>exact .inl ⟨by simp,rfl⟩
  |false=>exact .inr ⟨by simp,rfl⟩
 |b::l,k+1,h,C=>by
  simp only[List.getD_cons_succ];rw[runN]at h⊢;cases q:p (b.toNat:Int)with
  |true=>
   rw[q,Am rfl]at h;rw[Am rfl];rcases mE p l k (by omega) (by rw[AE]at C;omega)with⟨B,y⟩|⟨B,y⟩
   ·exact .inl ⟨by omega,y⟩
   ·exact .inr ⟨by omega,y⟩
  |false=>rw[q]at h;simp at h
theorem lh (p:Int->Bool):∀(l:Ac),Nat.le (List.length l) (1000000:Nat)-> (∃(E:Nat),Ks p l E/\ true=true/\ (l=l/\ (true=true/\True/\(some (0:Nat)=some (0:Nat)/\true=true)/\True)/\ (true=true/\Int.ofNat (List.length l)=(↑(List.length l):Int))/\ (true=true/\(0:Int)=(↑E:Int))/\True)/\ (true=true/\true=true/\true=true/\true=true/\True/\true=true/\True/\True)/\True)/\ ∀(x:Nat),Ks p l x-> Ah (AQ (↑x:Int) (↑(List.length l):Int)) (Al (A9 (↑x:Int) (List.length l)) (True/\ Ah (!AW (p (↑(UInt8.toNat (List.getD l (Int.toNat (↑x:Int)) (0:UInt8))):Int))) (true=true/\(↑x:Int)=(↑(runN p l):Int)) (Al (BJ IntKind.i64 ((↑x:Int)+(1:Int))) (∃(B:Nat),Ks p l B/\ Nat.le (Nat.succ (List.length l-B)) (List.length l-x)/\ true=true/\ (l=l/\ (true=true/\True/\(some (0:Nat)=some (0:Nat)/\true=true)/\True)/\ (true=true/\(↑(List.length l):Int)=(↑(List.length l):Int))/\ (true=true/\(↑x:Int)+(1:Int)=(↑B:Int))/\True)/\ (true=true/\ true=true/\true=true/\true=true/\True/\true=true/\True/\True)/\ True)))) (true=true/\Int.ofNat (List.length l)=(↑(runN p l):Int)):=by
 intro l K;simp only[Nat.le_eq]at K;refine⟨⟨0,⟨CL _⟩,rfl,⟨rfl,⟨rfl,trivial,⟨rfl,rfl⟩,trivial⟩,⟨rfl,rfl⟩,⟨rfl,rfl⟩,trivial⟩,⟨rfl,rfl,rfl,rfl,trivial,rfl,trivial,trivial⟩,trivial⟩,λk L=>?_⟩;have C:=L.le;have J:=Rc p l;refine Aw (λh=>?_) λh=>?_
 ·rw[CE]at h;refine At (Cf.2 (by omega)) ⟨trivial,?_⟩;rw[Ea,show Int.toNat (k:Int)=k from rfl];have y:=mE p l k C (by omega);refine Aw (λq=>?_) λq=>?_
  ·refine⟨rfl,?_⟩;rw[EH]at q;have:k=runN p l:=y.elim (λh=>(by rw[h.2]at q;cases q)) λh=>h.1;omega
  ·rw[EG]at q;have:k<runN p l:=y.elim (λh=>h.1) λh=>(by rw[h.2]at q;cases q);exact At (CJ.2 (by omega)) ⟨k+1,⟨this⟩,by simp only[Nat.le_eq];omega,rfl,⟨rfl,⟨rfl,trivial,⟨rfl,rfl⟩,trivial⟩,⟨rfl,rfl⟩,⟨rfl,by omega⟩,trivial⟩,⟨rfl,rfl,rfl,rfl,trivial,rfl,trivial,trivial⟩,trivial⟩
 ·rw[CF]at h;exact⟨rfl,by simp;omega⟩
def qc (a:Ac) (b:Nat):=(↑(UInt8.toNat (List.getD a (Int.toNat (↑b:Int)) (0:UInt8))):Int)
def qj (a:Nat) (b:Ac):=Al (A9 (↑a:Int) b.length)
def qu:=(Aa/\Aa/\Aa/\Aa/\True/\Aa/\True/\True)
def qy (a:Ac) (b:Nat):=(a=a/\(Aa/\True/\(Af (some 0)/\Aa)/\True)/\(Aa/\Int.ofNat a.length=(↑a.length:Int))/\(Aa/\(0:Int)=(↑b:Int))/\True)
def qD (a:Ac) (b:Nat) (c:Nat):=(a=a/\(Aa/\True/\(Af (some 0)/\Aa)/\True)/\(Aa/\Af (↑a.length:Int))/\(Aa/\(↑b:Int)+1=(↑c:Int))/\True)
def qH:=(λ(q:Int)=>C9 q||Bp q)
def qN (a:Nat):=Al (BJ .i64 ((↑a:Int)+1))
def qP (a:Ac) (b:Nat) (c:Nat):=Nat.le (Nat.succ (a.length-b)) (a.length-c)
def O9 (a:Nat) (b:Ac):=Ah (AQ (↑a:Int) (↑b.length:Int))
theorem Ahr:∀(l:Ac),qE l->(∃(y:Nat),Ks qH l y/\Aa/\(qy l y)/\qu/\True)/\∀(x:Nat),Ks qH l x->O9 x l (qj x l (True/\Ah (!AW (C9 (qc l x)||Bp (qc l x))) (Aa/\(↑x:Int)=(↑(runN qH l):Int)) (qN x (∃(q:Nat),Ks qH l q/\qP l q x/\Aa/\(qD l x q)/\qu/\True)))) (Aa/\q8 l=(↑(runN qH l):Int))
:=by delta qc qj qu qy qD qE qH qN qP q8 O9;exact lh _
theorem Ahq:∀(l:Ac),l.length<=1000000->(A4 (IZ PB 85 2 (RH 55 (λz=>C9 z||Bp z) l)) 60).call 54 [.bv l,.fn (.func 55) [] []] .leaf 0 (Cb Tryz.prog false (.int .i64 (runN (λz=>C9 z||Bp z) l))):=Eq.mpr (by kernel_rfl) Ahr
theorem Aht:∀(l:Ac),qE l->(∃(y:Nat),Ks Bp l y/\Aa/\(qy l y)/\qu/\True)/\∀(x:Nat),Ks Bp l x->O9 x l (qj x l (True/\Ah (!AW (Bp (qc l x))) (Aa/\(↑x:Int)=(↑(runN Bp l):Int)) (qN x (∃(q:Nat),Ks Bp l q/\qP l q x/\Aa/\(qD l x q)/\qu/\True)))) (Aa/\q8 l=(↑(runN Bp l):Int))
:=by delta qc qj qu qy qD qE qN qP q8 O9;exact lh _
theorem Ahs:∀(l:Ac),l.length<=1000000->(A4 (IZ PB 85 2 (RH 56 Bp l)) 60).call 54 [.bv l,.fn (.func 56) [] []] .leaf 0 (Cb Tryz.prog false (.int .i64 (runN Bp l))):=Eq.mpr (by kernel_rfl) Aht
def qL:=(λ(q:Int)=>!decide (q=(10:Int)))
theorem Ahv:∀(l:Ac),qE l->(∃(y:Nat),Ks qL l y/\Aa/\(qy l y)/\qu/\True)/\∀(x:Nat),Ks qL l x->O9 x l (qj x l (True/\Ah (!AW !decide ((↑(UInt8.toNat (List.getD l (Int.toNat (↑x:Int)) (0:UInt8))):Int)=(10:Int))) (Aa/\(↑x:Int)=(↑(runN qL l):Int)) (qN x (∃(q:Nat),Ks qL l q/\qP l q x/\Aa/\(qD l x q)/\qu/\True)))) (Aa/\q8 l=(↑(runN qL l):Int))
:=by delta qj qu qy qD qE qL qN qP q8 O9;exact lh _
theorem Ahu:∀(l:Ac),l.length<=1000000->(A4 (IZ PB 85 2 (RH 57 (λz=>!decide (z=10)) l)) 60).call 54 [.bv l,.fn (.func 57) [] []] .leaf 0 (Cb Tryz.prog false (.int .i64 (runN (λz=>!decide (z=10)) l))):=Eq.mpr (by kernel_rfl) Ahv
def gW:Tr Ae->Aj->Option Ct:=λ_ args=>match args with
 | [.bv l,.fn (.func g) [] []]=>cond (Nat.beq g 55) (some (.Be (l.length<=1000000) (.ret (.int .i64 (runN (λz=>C9 z||Bp z) l)))))
  (cond (Nat.beq g 56) (some (.Be (l.length<=1000000) (.ret (.int .i64 (runN Bp l)))))
  (cond (Nat.beq g 57) (some (.Be (l.length<=1000000) (.ret (.int .i64 (runN (λz=>!decide (z=10)) l))))) none))
 |_=>none
theorem Afd:Ck Tryz.prog 54 gW:=by
 refine NN (gl:=[]) (ng:=0) Bq λH args ct q=>?_;unfold gW at q;split at q
 ·rename_i l g;refine⟨Bq,⟨rfl,⟨Nat.beq_refl g,trivial,trivial⟩,trivial⟩,?_⟩;cases E:Nat.beq g 55 with
  |true=>rw[E]at q;obtain rfl:=DP E;injection q with q;subst q;exact⟨_,_,rfl,λy=>⟨IZ PB 85 2 (RH 55 (λz=>C9 z||Bp z) l),60,rfl,Bu,cR,Ahq l y⟩⟩
  |false=>
   rw[E]at q;cases C:Nat.beq g 56 with
   |true=>rw[C]at q;obtain rfl:=DP C;injection q with q;subst q;exact⟨_,_,rfl,λy=>⟨IZ PB 85 2 (RH 56 Bp l),60,rfl,Bu,cR,Ahs l y⟩⟩
   |false=>
    rw[C]at q;cases B:Nat.beq g 57 with
    |true=>rw[B]at q;obtain rfl:=DP B;injection q with q;subst q;exact⟨_,_,rfl,λy=>⟨IZ PB 85 2 (RH 57 (λz=>!decide (z=10)) l),60,rfl,Bu,cR,Ahu l y⟩⟩
    |false=>rw[B]at q;cases q
 ·cases q
def Ns:D9:=(54,gW)::PB
def SU (z:Int):Bool:=decide (z=61)||decide (z=123)||decide (z=125)||decide (z=40)||decide (z=41)||decide (z=91)||decide (z=93)||decide (z=59)||decide (z=46)||decide (z=43)||decide (z=45)||decide (z=42)||decide (z=60)
def Bs:Ac->Int×Nat
 | []=>(0,0)
 |b::t=>if C9 (b.toNat:Int)then(1,runN (λz=>C9 z||Bp z) (b::t))else if Bp (b.toNat:Int)then(3,runN Bp (b::t))
  else if(b.toNat:Int)=35 then(0,runN (λz=>!decide (z=10)) (b::t))
  else if(b.toNat:Int)=61/\1<=t.length/\((t.getD 0 0).toNat:Int)=61 then(4,2)else if SU (b.toNat:Int)then(4,1)else(0,1)
def QE (l:Ac):Nat->Int:=λk=>if((l.getD k 0).toNat:Int)=61/\k+1<l.length/\((l.getD (k+1) 0).toNat:Int)=61 then 2 else if SU ((l.getD k 0).toNat:Int)then 1 else 0
def Yc:Tr Ae->Aj->Option Ct:=λ_ args=>match args with
 | [.bv l,.bv [z]]=>some (.Be True (.ret (.int .i64 (Lib.countByte l z))))
 |_=>none
def gP:Tr Ae->Aj->Option Ct:=λ_ args=>match args with
 | [.bv l,.int .u8 c]=>some (.Be (l.length<=1000000) (.ret (.int .i64 (KK l c l.length))))
 |_=>none
def gQ:Tr Ae->Aj->Option Ct:=λ_ args=>match args with
 | [.bv l]=>some (.Be (l≠[]/\l.length<=1000000) (.ret (.AO [.int .i64 (AU (Bs l).1),.int .i64 (AU (Bs l).2:Nat)])))
 |_=>none
def gS:Tr Ae->Aj->Option Ct:=λ_ args=>match args with
 | [.bv l,.int .i64 z]=>some (.Be (0<=z/\z<l.length/\l.length<=1000000) (.ret (.int .i64 (AU (QE l z.toNat)))))
 |_=>none
theorem Ag5:∀(l:Ac) (z:UInt8),Al (BJ .u8 (↑(UInt8.toNat (List.getD [z] 0 (0:UInt8))):Int)) (Aa/\Int.ofNat (Lib.countByte l (UInt8.ofNat (Int.toNat (↑(UInt8.toNat (List.getD [z] 0 (0:UInt8))):Int))))=(↑(Lib.countByte l z):Int))
:=by intro l z;simp only[List.getD_cons_zero,Int.toNat_natCast,UInt8.ofNat_toNat];refine At (VF.2 ?_) ⟨trivial,rfl⟩;have:=z.toNat_lt;omega
theorem Ag4:∀(l:Ac) (z:UInt8),(A4 (Eb Ns) 60).call 23 [.bv l,.bv [z]] .leaf 0 (Cb Tryz.prog false (.int .i64 (Lib.countByte l z))):=Eq.mpr (by kernel_rfl) Ag5
theorem Ag7:∀(l:Ac) (z:Int),qE l->qE l/\Aa/\Af (KK l z l.length)
:=by delta qE;intro l z q;exact⟨q,rfl,rfl⟩
theorem Ag6:∀(l:Ac) (z:Int),l.length<=1000000->(A4 (Eb Ns) 60).call 24 [.bv l,.int .u8 z] .leaf 0 (Cb Tryz.prog false (.int .i64 (KK l z l.length))):=Eq.mpr (by kernel_rfl) Ag7
def qe (a:UInt8) (b:Ac):=((Aa/\(4:Int)=Prod.fst (Bs (a::b)))/\(Aa/\(1:Int)=(↑(Prod.snd (Bs (a::b))):Int))/\True)
def qf (a:UInt8) (b:Ac):=(↑(UInt8.toNat (List.getD (a::b) 0 (0:UInt8))):Int)
def qX (a:UInt8) (b:Ac):=List.length (a::b)
def S8 (a:UInt8) (b:Ac):=(↑(Prod.snd (Bs (a::b))):Int)
theorem Ag9:∀(b:UInt8) (t:Ac),Nat.le (qX b t) 1000000->Al (A9 (0:Int) (qX b t)) (True/\Ah (AW (C9 (qf b t))) (Nat.le (qX b t) 1000000/\(Aa/\(1:Int)=Prod.fst (Bs (b::t)))/\(Aa/\(↑(runN qH (b::t)):Int)=(S8 b t))/\True) (Al (A9 (0:Int) (qX b t)) (True/\Ah (AW (Bp (qf b t))) (Nat.le (qX b t) 1000000/\(Aa/\(3:Int)=Prod.fst (Bs (b::t)))/\(Aa/\(↑(runN Bp (b::t)):Int)=(S8 b t))/\True) (Al (A9 (0:Int) (qX b t)) (Ah (An (qf b t) (35:Int)) (Nat.le (qX b t) 1000000/\(Aa/\(0:Int)=Prod.fst (Bs (b::t)))/\(Aa/\(↑(runN qL (b::t)):Int)=(S8 b t))/\True) (Al (A9 (0:Int) (qX b t)) (Ah (An (qf b t) (61:Int)) (Ah (AQ (1:Int) (Int.ofNat (qX b t))) (Al (A9 (1:Int) (qX b t)) (Ah (An (↑(UInt8.toNat (List.getD (b::t) 1 (0:UInt8))):Int) (61:Int)) ((Aa/\(4:Int)=Prod.fst (Bs (b::t)))/\(Aa/\(2:Int)=(S8 b t))/\True) (qe b t))) (qe b t)) (Ah (An (qf b t) (123:Int)) (qe b t) (Ah (An (qf b t) (125:Int)) (qe b t) (Ah (An (qf b t) (40:Int)) (qe b t) (Ah (An (qf b t) (41:Int)) (qe b t) (Ah (An (qf b t) (91:Int)) (qe b t) (Ah (An (qf b t) (93:Int)) (qe b t) (Ah (An (qf b t) (59:Int)) (qe b t) (Ah (An (qf b t) (46:Int)) (qe b t) (Ah (An (qf b t) (43:Int)) (qe b t) (Ah (An (qf b t) (45:Int)) (qe b t) (Ah (An (qf b t) (42:Int)) (qe b t) (Ah (An (qf b t) (60:Int)) (qe b t) ((Aa/\(0:Int)=Prod.fst (Bs (b::t)))/\(Aa/\(1:Int)=(S8 b t))/\True))))))))))))))))))))
:=by
 delta qe qf qH qL qX S8;intro b t B;have C:A9 (0:Int) (b::t).length=true:=Cf.2 (by simp);have E:AQ (1:Int) (Int.ofNat (b::t).length)=decide (1<=t.length):=by rw[EM];simp;omega
 have q:1<=t.length->A9 (1:Int) (b::t).length=true:=λh=>Cf.2 (by simp;omega);rw[E];simp only[List.getD_cons_zero,List.getD_cons_succ,Ea,Bs];generalize hz:(b.toNat:Int)=z;generalize hy:((t.getD 0 0).toNat:Int)=y
 repeat' first
  |exact trivial
  |exact(rfl:true=true)
  |refine At ?_ ?_
  |refine Aw (λ_=>?_) (λ_=>?_)
  |refine And.intro ?_ ?_
 all_goals first
  |exact B
  |exact C
  |(exact q (Bt (by assumption)))
  |(simp_all[SU,EM,DU];done)
theorem Ag8:∀(b:UInt8) (t:Ac),(b::t).length<=1000000->(A4 (Eb Ns) 80).call 25 [.bv (b::t)] .leaf 0 (Cb Tryz.prog false (.AO [.int .i64 (Bs (b::t)).1,.int .i64 (Bs (b::t)).2])):=Eq.mpr (by kernel_rfl) Ag9
def qm:=(((True/\True)/\True)/\True)
def qG (a:Ac) (b:Nat):=(Aa/\(1:Int)=QE a b)
@[reducible] def Xr:Ac->Nat->Prop:=λ(l:Ac) (z:Nat)=>qm/\Ah (An (qc l z) (123:Int)) (qG l z) (qj z l (qm/\Ah (An (qc l z) (125:Int)) (qG l z) (qj z l (qm/\Ah (An (qc l z) (40:Int)) (qG l z) (qj z l (qm/\Ah (An (qc l z) (41:Int)) (qG l z) (qj z l (qm/\Ah (An (qc l z) (91:Int)) (qG l z) (qj z l (qm/\Ah (An (qc l z) (93:Int)) (qG l z) (qj z l (qm/\Ah (An (qc l z) (59:Int)) (qG l z) (qj z l (qm/\Ah (An (qc l z) (46:Int)) (qG l z) (qj z l (qm/\Ah (An (qc l z) (61:Int)) (qG l z) (qj z l (qm/\Ah (An (qc l z) (43:Int)) (qG l z) (qj z l (qm/\Ah (An (qc l z) (45:Int)) (qG l z) (qj z l (qm/\Ah (An (qc l z) (42:Int)) (qG l z) (qj z l (qm/\Ah (An (qc l z) (60:Int)) (qG l z) (Aa/\(0:Int)=QE l z)))))))))))))))))))))))))
theorem Ahj:∀(l:Ac) (z:Nat),Nat.le (Nat.succ z) l.length->qE l->qN z (Ah (AQ ((↑z:Int)+1) (q8 l)) (qj z l (Ah (An (qc l z) (61:Int)) (qN z (Al (A9 ((↑z:Int)+1) l.length) (Ah (An (↑(UInt8.toNat (List.getD l (Int.toNat ((↑z:Int)+1)) (0:UInt8))):Int) (61:Int)) (Aa/\(2:Int)=QE l z) (qj z l (Xr l z))))) (qj z l (Xr l z)))) (qj z l (Xr l z)))
:=by
 delta qc qj qE qN q8 Xr qm qG;intro l z hz B;simp only[Int.toNat_natCast,show Int.toNat ((z:Int)+1)=z+1 from by omega];have q:A9 (z:Int) l.length=true:=Cf.2 (by have:z<l.length:=hz;omega);generalize hy:((l.getD z 0).toNat:Int)=y
 repeat' first
  |exact trivial
  |exact(rfl:true=true)
  |refine At ?_ ?_
  |refine Aw (λ_=>?_) (λ_=>?_)
  |refine And.intro ?_ ?_
 all_goals first
  |exact q
  |(simp_all[QE,SU,EM,DU,CJ,Cf];done)
  |(simp_all[QE,SU,EM,DU,CJ,Cf];omega)
theorem Ahi:∀(l:Ac) (z:Nat),z<l.length->l.length<=1000000->(A4 (Eb Ns) 120).call 35 [.bv l,.int .i64 z] .leaf 0 (Cb Tryz.prog false (.int .i64 (QE l z))):=Eq.mpr (by kernel_rfl) Ahj
theorem WL:EY Tryz.prog Ns:=Cj Afd cR
theorem Ae7:Ck Tryz.prog 23 Yc:=by
 refine NN (gl:=[]) (ng:=0) Bq λH args ct q=>?_;unfold Yc at q;split at q
 ·rename_i l z;injection q with q;subst q;exact⟨Bq,⟨rfl,rfl,trivial⟩,_,_,rfl,λy=>⟨Eb Ns,60,rfl,Bu,WL,Ag4 l z⟩⟩
 ·cases q
theorem Ae8:Ck Tryz.prog 24 gP:=by
 refine NN (gl:=[]) (ng:=0) Bq λH args ct q=>?_;unfold gP at q;split at q
 ·rename_i l c;injection q with q;subst q;exact⟨Bq,⟨rfl,⟨rfl,rfl⟩,trivial⟩,_,_,rfl,λy=>⟨Eb Ns,60,rfl,Bu,WL,Ag6 l c y⟩⟩
 ·cases q
theorem Ae9:Ck Tryz.prog 25 gQ:=by
 refine NN (gl:=[]) (ng:=0) Bq λH args ct q=>?_;unfold gQ at q;split at q
 ·rename_i l;injection q with q;subst q;refine⟨Bq,⟨rfl,trivial⟩,_,_,rfl,λy=>⟨Eb Ns,80,rfl,Bu,WL,?_⟩⟩;rw[Dr,Dr];cases l with
  |nil=>exact absurd rfl y.1
  |cons b t=>exact Ag8 b t y.2
 ·cases q
theorem Afb:Ck Tryz.prog 35 gS:=by
 refine NN (gl:=[]) (ng:=0) Bq λH args ct q=>?_;unfold gS at q;split at q
 ·rename_i l z;injection q with q;subst q;refine⟨Bq,⟨rfl,⟨rfl,rfl⟩,trivial⟩,_,_,rfl,λy=>⟨Eb Ns,120,rfl,Bu,WL,?_⟩⟩;have:=Ahi l z.toNat (by omega) y.2.2;rw[Dr];rwa[Int.toNat_of_nonneg y.1]at this
 ·cases q
def PC:D9:=(23,Yc)::(24,gP)::(25,gQ)::(35,gS)::Ns
def HF:Int->Ac->Int×Bool
 |n,[]=>if n<=2147483647 then(n,true)else(0,false)
 |n,b::t=>if Bp (b.toNat:Int)then HF (10*n+((b.toNat:Int)-48)) t else(0,false)
def GL (l:Ac):Int×Bool:=if l=[]then(0,false)else HF 0 l
structure OH (l:List UInt8) (x:Nat×Int):Prop where
 le:x.1<=l.length
 lo:0<=x.2
 hi:x.2<=1099511627776
 U9:HF x.2 (l.drop x.1)=HF 0 l
def oP (l:Ac):CX:={X:=Nat×Int,T:=λ_ _ x=>[(0,.bs l),(4,.int .i64 x.2),(7,.int .i64 l.length),(8,.int .i64 x.1)],H:=λ_ _ _=>[],nx:=λ_ n0=>n0,I:=λ_=>OH l,m:=λx=>l.length-x.1}
def oQ (l:Ac):CX:={X:=Nat×Int,T:=λ_ _ x=>[(0,.bs l),(4,.int .i64 x.2),(5,.int .i64 x.1)],H:=λ_ _ _=>[],nx:=λ_ n0=>n0,I:=λ_=>OH l,m:=λx=>l.length-x.1}
def Si:Tr Ae->Aj->Option Ct:=λ_ args=>match args with
 | [.bs l]=>some (.Be (l.length<=1000000) (.ret (.AO [.int .i64 (GL l).1,.bool (AW (GL l).2)])))
 |_=>none
theorem Yb (l:Ac) (k:Nat) (h:k<l.length):l.drop k=l.getD k 0::l.drop (k+1):=by rw[List.drop_eq_getElem_cons h,B2,CC h];rfl
theorem Vk {z:Int}:Bp z=true↔48<=z/\z<=57:=by unfold Bp;exact decide_eq_true_iff
theorem Zc:∀(l:Ac) (n:Int),2147483647<n->HF n l=(0,false)
 | [],n,h=>by rw[HF,Ad (by omega)]
 |b::t,n,h=>by
  rw[HF];by_cases hd:Bp (b.toNat:Int)=true
  ·rw[Am hd];have:=Vk.1 hd;exact Zc t _ (by omega)
  ·rw[Ad hd]
def ql (a:Ac):=((Aa/\(0:Int)=Prod.fst (GL a))/\false=Prod.snd (GL a)/\True)
def qY (a:Ac) (b:Int):=Ah (decide (a=[])) (ql a) (Ah (AQ (2147483647:Int) b) (ql a) ((Aa/\b=Prod.fst (GL a))/\true=Prod.snd (GL a)/\True))
theorem AgZ:∀(l:Ac),qE l->(∃(C:Nat×Int),OH l C/\Aa/\(l=l/\(Aa/\(0:Int)=C.2)/\(Aa/\q8 l=(↑l.length:Int))/\(Aa/\(0:Int)=(↑C.1:Int))/\True)/\True)/\∀(x:Nat×Int),OH l x->O9 x.1 l (qj x.1 l (True/\Ah (!AW (Bp (qc l x.1))) (ql l) (Ah (AQ (2147483647:Int) x.2) (ql l) (Al (BJ .i64 ((10:Int)*x.2)) (qj x.1 l (Al (BJ .u8 ((qc l x.1)-48)) (Al (BJ .i64 ((qc l x.1)-48)) (Al (BJ .i64 ((10:Int)*x.2+((qc l x.1)-48))) (qN x.1 (∃(y:Nat×Int),OH l y/\qP l y.1 x.1/\Aa/\(l=l/\(Aa/\(10:Int)*x.2+((qc l x.1)-48)=y.2)/\(Aa/\Af (↑l.length:Int))/\(Aa/\(↑x.1:Int)+1=(↑y.1:Int))/\True)/\True)))))))))) (qY l x.2)
:=by
 delta qc qj ql qE qN qP qY q8 O9;intro l K;simp only[Nat.le_eq]at K;simp only[show BB (List.length (Array.toList (ByteArray.data (ByteArray.mk #[])))) (HH (Array.toList (ByteArray.data (ByteArray.mk #[]))))=[]from rfl,Ea,eq_self,true_and,and_true,Int.toNat_natCast,Int.ofNat_eq_natCast];refine⟨⟨(0,0),⟨CL _,by decide,by decide,rfl⟩,rfl,rfl⟩,λx J=>?_⟩;obtain⟨k,n⟩:=x;obtain⟨O,M,L,q⟩:=J;simp only at O M L q⊢;refine Aw (λh=>?_) λh=>?_
 ·rw[CE]at h;have hd:=Yb l k (by omega);have hT:GL l=HF 0 l:=Ad (by rintro rfl;simp at h;omega);rw[hd,HF]at q;rw[hT];have E:A9 (k:Int) l.length=true:=Cf.2 (by omega);generalize((l.getD k 0).toNat:Int)=z at q⊢;refine At E (Aw (λhz=>?_) λhz=>?_)
  ·rw[EH]at hz;rw[hz,Ad (by simp)]at q;rw[<-q];exact⟨rfl,rfl⟩
  ·rw[EG]at hz;rw[hz,Am rfl]at q;obtain⟨S,R⟩:=Vk.1 hz;refine Aw (λhn=>?_) λhn=>?_
   ·rw[CE]at hn;rw[<-q,Zc _ _ (by omega)];exact⟨rfl,rfl⟩
   ·rw[CF]at hn;refine At (CJ.2 (by omega)) (At E (At (VF.2 (by omega)) (At (CJ.2 (by omega)) (At (CJ.2 (by omega)) (At (CJ.2 (by omega)) ?_)))));exact⟨(k+1,10*n+(z-48)),⟨by simp only;omega,by simp only;omega,by simp only;omega,q⟩,by simp only[Nat.le_eq];omega,rfl,by simp⟩
 ·rw[CF]at h;obtain rfl:k=l.length:=by omega
  rw[List.drop_length,HF]at q;refine Aw (λB=>?_) λB=>?_
  ·rw[BV]at B;subst B;exact⟨rfl,rfl⟩
  ·have hT:GL l=HF 0 l:=Ad (by simpa using B);rw[hT,<-q];refine Aw (λhn=>?_) λhn=>?_
   ·rw[CE]at hn;rw[Ad (by omega)];exact⟨rfl,rfl⟩
   ·rw[CF]at hn;rw[Am hn];exact⟨rfl,rfl⟩
theorem AgY:∀(l:Ac),l.length<=1000000->(A4 (IZ PC 58 3 (oP l)) 60).call 58 [.bs l] .leaf 0 (Cb Tryz.prog false (.AO [.int .i64 (GL l).1,.bool (GL l).2])):=Eq.mpr (by kernel_rfl) AgZ
theorem Ag1:∀(l:Ac),qE l->(∃(C:Nat×Int),OH l C/\Aa/\(l=l/\(Aa/\(0:Int)=C.2)/\(Aa/\(0:Int)=(↑C.1:Int))/\True)/\True)/\∀(x:Nat×Int),OH l x->Ah (AQ (↑x.1:Int) (q8 l)) (qj x.1 l (True/\Ah (!AW (Bp (qc l x.1))) (ql l) (Al (BJ .i64 ((10:Int)*x.2)) (qj x.1 l (Al (BJ .u8 ((qc l x.1)-48)) (Al (BJ .i64 ((qc l x.1)-48)) (Al (BJ .i64 ((10:Int)*x.2+((qc l x.1)-48))) (qN x.1 (∃(y:Nat×Int),OH l y/\qP l y.1 x.1/\Aa/\(l=l/\(Aa/\(bif AQ (1099511627776:Int) ((10:Int)*x.2+((qc l x.1)-48))then(1099511627776:Int)else(10:Int)*x.2+((qc l x.1)-48))=y.2)/\(Aa/\(↑x.1:Int)+1=(↑y.1:Int))/\True)/\True))))))))) (qY l x.2)
:=by
 delta qc qj ql qE qN qP qY q8;intro l K;simp only[Nat.le_eq]at K;simp only[show BB (List.length (Array.toList (ByteArray.data (ByteArray.mk #[])))) (HH (Array.toList (ByteArray.data (ByteArray.mk #[]))))=[]from rfl,Ea,eq_self,true_and,and_true,Int.toNat_natCast,Int.ofNat_eq_natCast];refine⟨⟨(0,0),⟨CL _,by decide,by decide,rfl⟩,rfl,rfl⟩,λx J=>?_⟩;obtain⟨k,n⟩:=x;obtain⟨O,M,L,q⟩:=J;simp only at O M L q⊢;refine Aw (λh=>?_) λh=>?_
 ·rw[CE]at h;have hd:=Yb l k (by omega);have hT:GL l=HF 0 l:=Ad (by rintro rfl;simp at h;omega);rw[hd,HF]at q;rw[hT];have E:A9 (k:Int) l.length=true:=Cf.2 (by omega);generalize((l.getD k 0).toNat:Int)=z at q⊢;refine At E (Aw (λhz=>?_) λhz=>?_)
  ·rw[EH]at hz;rw[hz,Ad (by simp)]at q;rw[<-q];exact⟨rfl,rfl⟩
  ·rw[EG]at hz;rw[hz,Am rfl]at q;obtain⟨S,R⟩:=Vk.1 hz;refine At (CJ.2 (by omega)) (At E (At (VF.2 (by omega)) (At (CJ.2 (by omega)) (At (CJ.2 (by omega)) (At (CJ.2 (by omega)) ?_)))));cases hc:AQ (1099511627776:Int) (10*n+(z-48))with
   |true=>rw[CE]at hc;rw[Zc _ _ (by omega)]at q;exact⟨(k+1,1099511627776),⟨by simp only;omega,by simp only;omega,by simp only;omega,by rw[<-q];exact Zc _ _ (by simp)⟩,by simp only[Nat.le_eq];omega,rfl,by simp⟩
   |false=>rw[CF]at hc;exact⟨(k+1,10*n+(z-48)),⟨by simp only;omega,by simp only;omega,by simp only;omega,q⟩,by simp only[Nat.le_eq];omega,rfl,by simp⟩
 ·rw[CF]at h;obtain rfl:k=l.length:=by omega
  rw[List.drop_length,HF]at q;refine Aw (λB=>?_) λB=>?_
  ·rw[BV]at B;subst B;exact⟨rfl,rfl⟩
  ·have hT:GL l=HF 0 l:=Ad (by simpa using B);rw[hT,<-q];refine Aw (λhn=>?_) λhn=>?_
   ·rw[CE]at hn;rw[Ad (by omega)];exact⟨rfl,rfl⟩
   ·rw[CF]at hn;rw[Am hn];exact⟨rfl,rfl⟩
theorem Ag0:∀(l:Ac),l.length<=1000000->(A4 (IZ PC 34 3 (oQ l)) 60).call 34 [.bs l] .leaf 0 (Cb Tryz.prog false (.AO [.int .i64 (GL l).1,.bool (GL l).2])):=Eq.mpr (by kernel_rfl) Ag1
end Go.Proofs.YtlmmbanfhjaioaaGreatDoor
end
end
