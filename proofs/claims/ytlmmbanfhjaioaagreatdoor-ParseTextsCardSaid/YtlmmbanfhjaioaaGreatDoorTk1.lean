/- Laid by program out of its parts: TkA, TkB, TkC, TkD. -/
import Derived.Test.YtlmmbanfhjaioaaGreatDoorMe
import Derived.KernelRfl
import Derived.Test.YtlmmbanfhjaioaaGreatDoorPa1
noncomputable section
set_option linter.unusedVariables false
set_option linter.unusedSimpArgs false
section
set_option maxRecDepth 100000
set_option linter.unusedSimpArgs false
open Go Go.Ev
namespace Go.Proofs.YtlmmbanfhjaioaaGreatDoor
def D4 (tb:DQ):Ctx:={P:=Tryz.prog,tb:=tb,lp:=λ_ _=>none,cut:=λ_ _=>none}
def JU (tb:DQ) (y q:Nat) (S:CV):Ctx:={P:=Tryz.prog,tb:=tb,lp:=λf r=>cond (Nat.beq f y) (cond (Nat.beq r q) (some S) none) none,cut:=λ_ _=>none}
def AZ (z:Int):Bool:=decide (48<=z/\z<=57)
def TV (z:Int):Int:=IntKind.wrap IntKind.u8 (↑(BitVec.toNat (BitVec.ofInt (8:Nat) z|||BitVec.ofInt (8:Nat) (32:Int))):Int)
def BW (z:Int):Bool:=decide (z=95)||decide (97<=TV z/\TV z<=122)
def JR (z:Int):Bool:=decide (z=32)||decide (z=9)||decide (z=10)||decide (z=13)||decide (z=35)
def Ha (z:Int):Bool:=decide (97<=z/\z<=122)||decide (65<=z/\z<=90)||decide (z=95)
def KG (f:Int->Bool):Tr Ac->List AV->Option Ct:=λ_ args=>match args with
 | [.int .u8 z]=>some (.A6 True (.ret (.bool (Ax (f z)))))
 |_=>none
def Kw (l:List UInt8) (c:Int):Nat->Int
 |0=>-1
 |k+1=>if((l.getD k 0).toNat:Int)=c then k else Kw l c k
structure Yd (l:List UInt8) (c:Int) (k:Nat):Prop where
 le:k<=l.length
 V0:Kw l c k=Kw l c l.length
def uH (l:List UInt8) (c:Int):CV:={X:=Nat,T:=λ_ _ k=>[(0,.bv l),(1,.int .u8 c),(5,.int .i64 ((k:Int)-1))],H:=λ_ _ _=>[],nx:=λ_ n0=>n0,I:=λ_=>Yd l c,m:=λk=>k}
def l6:Tr Ac->List AV->Option Ct:=λ_ args=>match args with
 | [.bv l,.int .u8 c]=>some (.A6 (l.length<=1000000) (.ret (.int .i64 (Kw l c l.length))))
 |_=>none
theorem Q2 {g:FuncId} {f:Int->Bool} (h:∀z:Int,(AG (D4 []) 40).call g [.int .u8 z] .leaf 0 (Ch Tryz.prog false (.bool (f z)))):Ci Tryz.prog g (KG f):=by
 refine NG (gl:=[]) (ng:=0) BQ λH args ct q=>?_;unfold KG at q;split at q
 ·rename_i z;injection q with q;subst q;exact⟨BQ,⟨⟨rfl,rfl⟩,trivial⟩,_,_,rfl,λ_=>⟨D4 [],40,rfl,AW,Bc,by rw[DT];exact h z⟩⟩
 ·cases q
def dQ (a:Int):=Ad (!AP a (48:Int)) ((!AP (57:Int) a)=AZ a) (false=AZ a)
theorem Akl:∀(z:Int),dQ z
:=by
 delta dQ;intro z;simp only[FH,AZ,EG,Dt]
 grind
theorem Akk:∀z:Int,(AG (D4 []) 40).call 56 [.int .u8 z] .leaf 0 (Ch Tryz.prog false (.bool (AZ z))):=Eq.mpr (by kernel_rfl) Akl
def qE (a:Int):=IntKind.wrap .u8 (↑(BitVec.toNat (BitVec.ofInt 8 a|||BitVec.ofInt 8 (32:Int))):Int)
theorem Akn:∀(z:Int),Ad (Ak z (95:Int)) (true=BW z) (Ad (!AP (qE z) (97:Int)) ((!AP (122:Int) (qE z))=BW z) (false=BW z))
:=by
 delta qE;intro z;rw[show IntKind.wrap IntKind.u8 (↑(BitVec.toNat (BitVec.ofInt (8:Nat) z|||BitVec.ofInt (8:Nat) (32:Int))):Int)=TV z from rfl];generalize h:TV z=y;simp only[FH,BW,h,EG,Dt]
 grind
theorem Akm:∀z:Int,(AG (D4 []) 40).call 53 [.int .u8 z] .leaf 0 (Ch Tryz.prog false (.bool (BW z))):=Eq.mpr (by kernel_rfl) Akn
theorem Akd:∀(z:Int),Ad (Ak z (32:Int)) (true=JR z) (Ad (Ak z (9:Int)) (true=JR z) (Ad (Ak z (10:Int)) (true=JR z) (Ad (Ak z (13:Int)) (true=JR z) (Ak z (35:Int)=JR z))))
:=by
 intro z;simp only[FH,JR,EG,Dt]
 grind
theorem Akc:∀z:Int,(AG (D4 []) 40).call 27 [.int .u8 z] .leaf 0 (Ch Tryz.prog false (.bool (JR z))):=Eq.mpr (by kernel_rfl) Akd
def pR (a:Int):=Ad (!AP a (48:Int)) ((!AP (57:Int) a)=(BW a||AZ a)) (false=(BW a||AZ a))
theorem Akx:∀(z:Int),Ad (Ak z (95:Int)) (true=(BW z||AZ z)) (Ad (!AP (qE z) (97:Int)) (Ad (!AP (122:Int) (qE z)) (true=(BW z||AZ z)) (pR z)) (pR z))
:=by
 delta qE pR;intro z;rw[show IntKind.wrap IntKind.u8 (↑(BitVec.toNat (BitVec.ofInt (8:Nat) z|||BitVec.ofInt (8:Nat) (32:Int))):Int)=TV z from rfl];generalize h:TV z=y;simp only[FH,BW,AZ,h,EG,Dt]
 grind
theorem Akw:∀z:Int,(AG (D4 []) 40).call 55 [.int .u8 z] .leaf 0 (Ch Tryz.prog false (.bool (BW z||AZ z))):=Eq.mpr (by kernel_rfl) Akx
theorem Akz:∀(z:Int),(!Ak z (10:Int))= !decide (z=(10:Int))
:=by intro z;rw[Dt];rfl
theorem Aky:∀z:Int,(AG (D4 []) 40).call 57 [.int .u8 z] .leaf 0 (Ch Tryz.prog false (.bool (!decide (z=10)))):=Eq.mpr (by kernel_rfl) Akz
def pQ (a:Int):=Ad (!AP a (65:Int)) (Ad (!AP (90:Int) a) (true=Ha a) (Ak a (95:Int)=Ha a)) (Ak a (95:Int)=Ha a)
theorem Akf:∀(z:Int),Ad (!AP z (97:Int)) (Ad (!AP (122:Int) z) (true=Ha z) (pQ z)) (pQ z)
:=by
 delta pQ;intro z;simp only[FH,Ha,EG,Dt]
 grind
theorem Ake:∀z:Int,(AG (D4 []) 40).call 31 [.int .u8 z] .leaf 0 (Ch Tryz.prog false (.bool (Ha z))):=Eq.mpr (by kernel_rfl) Akf
theorem Akh:∀(z:Int),dQ z
:=by
 delta dQ;intro z;simp only[FH,AZ,EG,Dt]
 grind
theorem Akg:∀z:Int,(AG (D4 []) 40).call 32 [.int .u8 z] .leaf 0 (Ch Tryz.prog false (.bool (AZ z))):=Eq.mpr (by kernel_rfl) Akh
def qI (a:List UInt8):=Nat.le a.length 1000000
def qY (a:List UInt8):=Int.ofNat a.length
def M8 (a:Nat):=Nat.le (Nat.succ a)
theorem Akp:∀(l:List UInt8) (c:Int),qI l->Ap (Bo .i64 (qY l-1)) ((∃(C:Nat),Yd l c C/\Aa/\(l=l/\(Aa/\c=c)/\(Aa/\qY l-1=(↑C:Int)-1)/\True)/\True)/\∀(x:Nat),Yd l c x->Ad (!AP ((↑x:Int)-1) (0:Int)) (Ap (Bn ((↑x:Int)-1) l.length) (Ad (Ak (↑(UInt8.toNat (List.getD l (Int.toNat ((↑x:Int)-1)) (0:UInt8))):Int) c) (Aa/\(↑x:Int)-1=Kw l c l.length) (Ap (Bo .i64 ((↑x:Int)-1-1)) (∃(B:Nat),Yd l c B/\M8 B x/\Aa/\(l=l/\(Aa/\c=c)/\(Aa/\(↑x:Int)-1-1=(↑B:Int)-1)/\True)/\True)))) (Aa/\Int.negSucc 0=Kw l c l.length))
:=by
 delta qI qY M8;intro l c E;simp only[Nat.le_eq]at E;refine An (Be.2 (by simp;omega)) ⟨⟨l.length,⟨Nat.le_refl _,rfl⟩,rfl,⟨rfl,⟨rfl,rfl⟩,⟨rfl,rfl⟩,trivial⟩,trivial⟩,λk y=>Aj (λh=>?_) λh=>?_⟩
 ·have J:=y.le;simp only[Bool.not_eq_true',Cg]at h;obtain⟨k,rfl⟩:∃j,k=j+1:=⟨k-1,by omega⟩;have e:Int.toNat (((k+1:Nat):Int)-1)=k:=by omega
  have q:=y.V0;rw[Kw]at q;refine An (BJ.2 (by omega)) (Aj (λh=>?_) λh=>?_)
  ·rw[e,BL]at h;rw[if_pos h]at q;exact⟨rfl,by rw[<-q];omega⟩
  ·rw[e,BU]at h;rw[if_neg h]at q;exact An (Be.2 (by omega)) ⟨k,⟨by omega,q⟩,Nat.le_refl _,rfl,⟨rfl,⟨rfl,rfl⟩,⟨rfl,by omega⟩,trivial⟩,trivial⟩
 ·have J:=y.le;simp only[Bool.not_eq_false',B1]at h;obtain rfl:k=0:=by omega
  exact⟨rfl,y.V0⟩
theorem Ako:∀(l:List UInt8) (c:Int),l.length<=1000000->(AG (JU [] 52 2 (uH l c)) 40).call 52 [.bv l,.int .u8 c] .leaf 0 (Ch Tryz.prog false (.int .i64 (Kw l c l.length))):=Eq.mpr (by kernel_rfl) Akp
theorem AhP:Ci Tryz.prog 52 l6:=by
 refine NG (gl:=[]) (ng:=0) BQ λH args ct q=>?_;unfold l6 at q;split at q
 ·rename_i l c;injection q with q;subst q;exact⟨BQ,⟨rfl,⟨rfl,rfl⟩,trivial⟩,_,_,rfl,λy=>⟨JU [] 52 2 (uH l c),40,rfl,AW,Bc,Ako l c y⟩⟩
 ·cases q
def P6:DQ:=[(56,KG AZ),(53,KG BW),(27,KG JR),(55,KG λz=>BW z||AZ z),(57,KG λz=>!decide (z=10)),(31,KG Ha),(32,KG AZ),(52,l6)]
theorem fb:DP Tryz.prog P6:=Cw (Q2 Akk) <| Cw (Q2 Akm) <| Cw (Q2 Akc) <| Cw (Q2 Akw) <| Cw (Q2 Aky) <| Cw (Q2 Ake) <| Cw (Q2 Akg) <| Cw AhP Bc
def runN (p:Int->Bool):List UInt8->Nat
 | []=>0
 |b::l=>if p (b.toNat:Int)then runN p l+1 else 0
structure Ki (p:Int->Bool) (l:List UInt8) (k:Nat):Prop where
 le:k<=runN p l
def SC (g:Nat) (p:Int->Bool) (l:List UInt8):CV:={X:=Nat,T:=λ_ _ k=>[(0,.bv l),(1,.fn (.func 86) [] [.ptr 0 0]),(7,.int .i64 l.length),(8,.int .i64 k)],H:=λ_ _ _=>[(0,.cells 63 .leaf (.CC [.fn (.func g) [] []]) 1 false)],nx:=λ_ n0=>n0,I:=λ_=>Ki p l,m:=λk=>l.length-k}
theorem RO (p:Int->Bool):∀l,runN p l<=l.length
 | []=>Nat.le_refl _
 |b::l=>by rw[runN,List.length_cons];have:=RO p l;split<;>omega
theorem r8 (p:Int->Bool):∀(l:List UInt8) (k:Nat),k<=runN p l->k<l.length->(k<runN p l/\p ((l.getD k 0).toNat:Int)=true)\/(k=runN p l/\p ((l.getD k 0).toNat:Int)=false)
 | [],k,_,h=>absurd h (Nat.not_lt_zero _)
 |b::l,0,h,_=>by
  simp only[List.getD_cons_zero];rw[runN];cases hb:p (b.toNat:Int)with
  |true=>exact .inl ⟨by simp,rfl⟩
  |false=>exact .inr ⟨by simp,rfl⟩
 |b::l,k+1,h,B=>by
  simp only[List.getD_cons_succ];rw[runN]at h⊢;cases hb:p (b.toNat:Int)with
  |true=>
   rw[hb,if_pos rfl]at h;rw[if_pos rfl];rcases r8 p l k (by omega) (by rw[List.length_cons]at B;omega)with⟨y,q⟩|⟨y,q⟩
   ·exact .inl ⟨by omega,q⟩
   ·exact .inr ⟨by omega,q⟩
  |false=>rw[hb]at h;simp at h
theorem rN (p:Int->Bool):∀(l:List UInt8),Nat.le (List.length l) (1000000:Nat)-> (∃(E:Nat),Ki p l E/\ true=true/\ (l=l/\ (true=true/\True/\(some (0:Nat)=some (0:Nat)/\true=true)/\True)/\ (true=true/\Int.ofNat (List.length l)=(↑(List.length l):Int))/\ (true=true/\(0:Int)=(↑E:Int))/\True)/\ (true=true/\true=true/\true=true/\true=true/\True/\true=true/\True/\True)/\True)/\ ∀(x:Nat),Ki p l x-> Ad (AP (↑x:Int) (↑(List.length l):Int)) (Ap (Bn (↑x:Int) (List.length l)) (True/\ Ad (!Ax (p (↑(UInt8.toNat (List.getD l (Int.toNat (↑x:Int)) (0:UInt8))):Int))) (true=true/\(↑x:Int)=(↑(runN p l):Int)) (Ap (Bo IntKind.i64 ((↑x:Int)+(1:Int))) (∃(B:Nat),Ki p l B/\ Nat.le (Nat.succ (List.length l-B)) (List.length l-x)/\ true=true/\ (l=l/\ (true=true/\True/\(some (0:Nat)=some (0:Nat)/\true=true)/\True)/\ (true=true/\(↑(List.length l):Int)=(↑(List.length l):Int))/\ (true=true/\(↑x:Int)+(1:Int)=(↑B:Int))/\True)/\ (true=true/\ true=true/\true=true/\true=true/\True/\true=true/\True/\True)/\ True)))) (true=true/\Int.ofNat (List.length l)=(↑(runN p l):Int)):=by
 intro l K;simp only[Nat.le_eq]at K;refine⟨⟨0,⟨Nat.zero_le _⟩,rfl,⟨rfl,⟨rfl,trivial,⟨rfl,rfl⟩,trivial⟩,⟨rfl,rfl⟩,⟨rfl,rfl⟩,trivial⟩,⟨rfl,rfl,rfl,rfl,trivial,rfl,trivial,trivial⟩,trivial⟩,λk L=>?_⟩;have C:=L.le;have J:=RO p l;refine Aj (λh=>?_) λh=>?_
 ·rw[B1]at h;refine An (BJ.2 (by omega)) ⟨trivial,?_⟩;rw[DT,show Int.toNat (k:Int)=k from rfl];have y:=r8 p l k C (by omega);refine Aj (λq=>?_) λq=>?_
  ·refine⟨rfl,?_⟩;rw[Bool.not_eq_true']at q;have:k=runN p l:=y.elim (λh=>(by rw[h.2]at q;cases q)) λh=>h.1;omega
  ·rw[Bool.not_eq_false']at q;have:k<runN p l:=y.elim (λh=>h.1) λh=>(by rw[h.2]at q;cases q);exact An (Be.2 (by omega)) ⟨k+1,⟨this⟩,by simp only[Nat.le_eq];omega,rfl,⟨rfl,⟨rfl,trivial,⟨rfl,rfl⟩,trivial⟩,⟨rfl,rfl⟩,⟨rfl,by omega⟩,trivial⟩,⟨rfl,rfl,rfl,rfl,trivial,rfl,trivial,trivial⟩,trivial⟩
 ·rw[Cg]at h;exact⟨rfl,by simp;omega⟩
def qa (a:List UInt8) (b:Nat):=(↑(UInt8.toNat (List.getD a (Int.toNat (↑b:Int)) (0:UInt8))):Int)
def ql (a:Nat) (b:List UInt8):=Ap (Bn (↑a:Int) b.length)
def qC (a:Nat):=Ap (Bo .i64 ((↑a:Int)+1))
def qH:=(Aa/\Aa/\Aa/\Aa/\True/\Aa/\True/\True)
def qP (a:List UInt8) (b:Nat):=(a=a/\(Aa/\True/\(Ab (some 0)/\Aa)/\True)/\(Aa/\Int.ofNat a.length=(↑a.length:Int))/\(Aa/\(0:Int)=(↑b:Int))/\True)
def qS (a:List UInt8) (b:Nat) (c:Nat):=(a=a/\(Aa/\True/\(Ab (some 0)/\Aa)/\True)/\(Aa/\Ab (↑a.length:Int))/\(Aa/\(↑b:Int)+1=(↑c:Int))/\True)
def qX:=(λ(q:Int)=>BW q||AZ q)
def Lt (a:List UInt8) (b:Nat) (c:Nat):=Nat.le (Nat.succ (a.length-b)) (a.length-c)
def Pm (a:Nat) (b:List UInt8):=Ad (AP (↑a:Int) (↑b.length:Int))
theorem Akr:∀(l:List UInt8),qI l->(∃(y:Nat),Ki qX l y/\Aa/\(qP l y)/\qH/\True)/\∀(x:Nat),Ki qX l x->Pm x l (ql x l (True/\Ad (!Ax (BW (qa l x)||AZ (qa l x))) (Aa/\(↑x:Int)=(↑(runN qX l):Int)) (qC x (∃(q:Nat),Ki qX l q/\Lt l q x/\Aa/\(qS l x q)/\qH/\True)))) (Aa/\qY l=(↑(runN qX l):Int))
:=by delta qa ql qC qH qI qP qS qX qY Lt Pm;exact rN _
theorem Akq:∀(l:List UInt8),l.length<=1000000->(AG (JU P6 85 2 (SC 55 (λz=>BW z||AZ z) l)) 60).call 54 [.bv l,.fn (.func 55) [] []] .leaf 0 (Ch Tryz.prog false (.int .i64 (runN (λz=>BW z||AZ z) l))):=Eq.mpr (by kernel_rfl) Akr
theorem Akt:∀(l:List UInt8),qI l->(∃(y:Nat),Ki AZ l y/\Aa/\(qP l y)/\qH/\True)/\∀(x:Nat),Ki AZ l x->Pm x l (ql x l (True/\Ad (!Ax (AZ (qa l x))) (Aa/\(↑x:Int)=(↑(runN AZ l):Int)) (qC x (∃(q:Nat),Ki AZ l q/\Lt l q x/\Aa/\(qS l x q)/\qH/\True)))) (Aa/\qY l=(↑(runN AZ l):Int))
:=by delta qa ql qC qH qI qP qS qY Lt Pm;exact rN _
theorem Aks:∀(l:List UInt8),l.length<=1000000->(AG (JU P6 85 2 (SC 56 AZ l)) 60).call 54 [.bv l,.fn (.func 56) [] []] .leaf 0 (Ch Tryz.prog false (.int .i64 (runN AZ l))):=Eq.mpr (by kernel_rfl) Akt
def qD:=(λ(q:Int)=>!decide (q=(10:Int)))
theorem Akv:∀(l:List UInt8),qI l->(∃(y:Nat),Ki qD l y/\Aa/\(qP l y)/\qH/\True)/\∀(x:Nat),Ki qD l x->Pm x l (ql x l (True/\Ad (!Ax !decide ((↑(UInt8.toNat (List.getD l (Int.toNat (↑x:Int)) (0:UInt8))):Int)=(10:Int))) (Aa/\(↑x:Int)=(↑(runN qD l):Int)) (qC x (∃(q:Nat),Ki qD l q/\Lt l q x/\Aa/\(qS l x q)/\qH/\True)))) (Aa/\qY l=(↑(runN qD l):Int))
:=by delta ql qC qD qH qI qP qS qY Lt Pm;exact rN _
theorem Aku:∀(l:List UInt8),l.length<=1000000->(AG (JU P6 85 2 (SC 57 (λz=>!decide (z=10)) l)) 60).call 54 [.bv l,.fn (.func 57) [] []] .leaf 0 (Ch Tryz.prog false (.int .i64 (runN (λz=>!decide (z=10)) l))):=Eq.mpr (by kernel_rfl) Akv
def l7:Tr Ac->List AV->Option Ct:=λ_ args=>match args with
 | [.bv l,.fn (.func g) [] []]=>cond (Nat.beq g 55) (some (.A6 (l.length<=1000000) (.ret (.int .i64 (runN (λz=>BW z||AZ z) l)))))
  (cond (Nat.beq g 56) (some (.A6 (l.length<=1000000) (.ret (.int .i64 (runN AZ l)))))
  (cond (Nat.beq g 57) (some (.A6 (l.length<=1000000) (.ret (.int .i64 (runN (λz=>!decide (z=10)) l))))) none))
 |_=>none
theorem AhQ:Ci Tryz.prog 54 l7:=by
 refine NG (gl:=[]) (ng:=0) BQ λH args ct q=>?_;unfold l7 at q;split at q
 ·rename_i l g;refine⟨BQ,⟨rfl,⟨Nat.beq_refl g,trivial,trivial⟩,trivial⟩,?_⟩;cases E:Nat.beq g 55 with
  |true=>rw[E]at q;obtain rfl:=Nat.eq_of_beq_eq_true E;injection q with q;subst q;exact⟨_,_,rfl,λy=>⟨JU P6 85 2 (SC 55 (λz=>BW z||AZ z) l),60,rfl,AW,fb,Akq l y⟩⟩
  |false=>
   rw[E]at q;cases C:Nat.beq g 56 with
   |true=>rw[C]at q;obtain rfl:=Nat.eq_of_beq_eq_true C;injection q with q;subst q;exact⟨_,_,rfl,λy=>⟨JU P6 85 2 (SC 56 AZ l),60,rfl,AW,fb,Aks l y⟩⟩
   |false=>
    rw[C]at q;cases B:Nat.beq g 57 with
    |true=>rw[B]at q;obtain rfl:=Nat.eq_of_beq_eq_true B;injection q with q;subst q;exact⟨_,_,rfl,λy=>⟨JU P6 85 2 (SC 57 (λz=>!decide (z=10)) l),60,rfl,AW,fb,Aku l y⟩⟩
    |false=>rw[B]at q;cases q
 ·cases q
def Nn:DQ:=(54,l7)::P6
def NX (z:Int):Bool:=decide (z=61)||decide (z=123)||decide (z=125)||decide (z=40)||decide (z=41)||decide (z=91)||decide (z=93)||decide (z=59)||decide (z=46)||decide (z=43)||decide (z=45)||decide (z=42)||decide (z=60)
def Bi:List UInt8->Int×Nat
 | []=>(0,0)
 |b::t=>if BW (b.toNat:Int)then(1,runN (λz=>BW z||AZ z) (b::t))else if AZ (b.toNat:Int)then(3,runN AZ (b::t))
  else if(b.toNat:Int)=35 then(0,runN (λz=>!decide (z=10)) (b::t))
  else if(b.toNat:Int)=61/\1<=t.length/\((t.getD 0 0).toNat:Int)=61 then(4,2)else if NX (b.toNat:Int)then(4,1)else(0,1)
def H8 (l:List UInt8):Nat->Int:=λk=>if((l.getD k 0).toNat:Int)=61/\k+1<l.length/\((l.getD (k+1) 0).toNat:Int)=61 then 2 else if NX ((l.getD k 0).toNat:Int)then 1 else 0
def lX:Tr Ac->List AV->Option Ct:=λ_ args=>match args with
 | [.bv l,.bv [z]]=>some (.A6 True (.ret (.int .i64 (Lib.countByte l z))))
 |_=>none
def lY:Tr Ac->List AV->Option Ct:=λ_ args=>match args with
 | [.bv l,.int .u8 c]=>some (.A6 (l.length<=1000000) (.ret (.int .i64 (Kw l c l.length))))
 |_=>none
def lZ:Tr Ac->List AV->Option Ct:=λ_ args=>match args with
 | [.bv l]=>some (.A6 (l≠[]/\l.length<=1000000) (.ret (.AL [.int .i64 (AY (Bi l).1),.int .i64 (AY (Bi l).2:Nat)])))
 |_=>none
def l5:Tr Ac->List AV->Option Ct:=λ_ args=>match args with
 | [.bv l,.int .i64 z]=>some (.A6 (0<=z/\z<l.length/\l.length<=1000000) (.ret (.int .i64 (AY (H8 l z.toNat)))))
 |_=>none
theorem Aj5:∀(l:List UInt8) (z:UInt8),Ap (Bo .u8 (↑(UInt8.toNat (List.getD [z] 0 (0:UInt8))):Int)) (Aa/\Int.ofNat (Lib.countByte l (UInt8.ofNat (Int.toNat (↑(UInt8.toNat (List.getD [z] 0 (0:UInt8))):Int))))=(↑(Lib.countByte l z):Int))
:=by intro l z;simp only[List.getD_cons_zero,Int.toNat_natCast,UInt8.ofNat_toNat];refine An (bS.2 ?_) ⟨trivial,rfl⟩;have:=z.toNat_lt;omega
theorem Aj4:∀(l:List UInt8) (z:UInt8),(AG (D4 Nn) 60).call 23 [.bv l,.bv [z]] .leaf 0 (Ch Tryz.prog false (.int .i64 (Lib.countByte l z))):=Eq.mpr (by kernel_rfl) Aj5
theorem Aj7:∀(l:List UInt8) (z:Int),qI l->qI l/\Aa/\Ab (Kw l z l.length)
:=by delta qI;intro l z q;exact⟨q,rfl,rfl⟩
theorem Aj6:∀(l:List UInt8) (z:Int),l.length<=1000000->(AG (D4 Nn) 60).call 24 [.bv l,.int .u8 z] .leaf 0 (Ch Tryz.prog false (.int .i64 (Kw l z l.length))):=Eq.mpr (by kernel_rfl) Aj7
def qd (a:UInt8) (b:List UInt8):=((Aa/\(4:Int)=Prod.fst (Bi (a::b)))/\(Aa/\(1:Int)=(↑(Prod.snd (Bi (a::b))):Int))/\True)
def qj (a:UInt8) (b:List UInt8):=(↑(UInt8.toNat (List.getD (a::b) 0 (0:UInt8))):Int)
def L8 (a:UInt8) (b:List UInt8):=List.length (a::b)
def T3 (a:UInt8) (b:List UInt8):=(↑(Prod.snd (Bi (a::b))):Int)
theorem Aj9:∀(b:UInt8) (t:List UInt8),Nat.le (L8 b t) 1000000->Ap (Bn (0:Int) (L8 b t)) (True/\Ad (Ax (BW (qj b t))) (Nat.le (L8 b t) 1000000/\(Aa/\(1:Int)=Prod.fst (Bi (b::t)))/\(Aa/\(↑(runN qX (b::t)):Int)=(T3 b t))/\True) (Ap (Bn (0:Int) (L8 b t)) (True/\Ad (Ax (AZ (qj b t))) (Nat.le (L8 b t) 1000000/\(Aa/\(3:Int)=Prod.fst (Bi (b::t)))/\(Aa/\(↑(runN AZ (b::t)):Int)=(T3 b t))/\True) (Ap (Bn (0:Int) (L8 b t)) (Ad (Ak (qj b t) (35:Int)) (Nat.le (L8 b t) 1000000/\(Aa/\(0:Int)=Prod.fst (Bi (b::t)))/\(Aa/\(↑(runN qD (b::t)):Int)=(T3 b t))/\True) (Ap (Bn (0:Int) (L8 b t)) (Ad (Ak (qj b t) (61:Int)) (Ad (AP (1:Int) (Int.ofNat (L8 b t))) (Ap (Bn (1:Int) (L8 b t)) (Ad (Ak (↑(UInt8.toNat (List.getD (b::t) 1 (0:UInt8))):Int) (61:Int)) ((Aa/\(4:Int)=Prod.fst (Bi (b::t)))/\(Aa/\(2:Int)=(T3 b t))/\True) (qd b t))) (qd b t)) (Ad (Ak (qj b t) (123:Int)) (qd b t) (Ad (Ak (qj b t) (125:Int)) (qd b t) (Ad (Ak (qj b t) (40:Int)) (qd b t) (Ad (Ak (qj b t) (41:Int)) (qd b t) (Ad (Ak (qj b t) (91:Int)) (qd b t) (Ad (Ak (qj b t) (93:Int)) (qd b t) (Ad (Ak (qj b t) (59:Int)) (qd b t) (Ad (Ak (qj b t) (46:Int)) (qd b t) (Ad (Ak (qj b t) (43:Int)) (qd b t) (Ad (Ak (qj b t) (45:Int)) (qd b t) (Ad (Ak (qj b t) (42:Int)) (qd b t) (Ad (Ak (qj b t) (60:Int)) (qd b t) ((Aa/\(0:Int)=Prod.fst (Bi (b::t)))/\(Aa/\(1:Int)=(T3 b t))/\True))))))))))))))))))))
:=by
 delta qd qj qD qX L8 T3;intro b t B;have hb:Bn (0:Int) (b::t).length=true:=BJ.2 (by simp);have C:AP (1:Int) (Int.ofNat (b::t).length)=decide (1<=t.length):=by rw[EG];simp;omega
 have q:1<=t.length->Bn (1:Int) (b::t).length=true:=λh=>BJ.2 (by simp;omega);rw[C];simp only[List.getD_cons_zero,List.getD_cons_succ,DT,Bi];generalize hz:(b.toNat:Int)=z;generalize hy:((t.getD 0 0).toNat:Int)=y
 repeat' first
  |exact trivial
  |exact(rfl:true=true)
  |refine An ?_ ?_
  |refine Aj (λ_=>?_) (λ_=>?_)
  |refine And.intro ?_ ?_
 all_goals first
  |exact B
  |exact hb
  |(exact q (of_decide_eq_true (by assumption)))
  |(simp_all[NX,EG,Dt];done)
theorem Aj8:∀(b:UInt8) (t:List UInt8),(b::t).length<=1000000->(AG (D4 Nn) 80).call 25 [.bv (b::t)] .leaf 0 (Ch Tryz.prog false (.AL [.int .i64 (Bi (b::t)).1,.int .i64 (Bi (b::t)).2])):=Eq.mpr (by kernel_rfl) Aj9
def qt:=(((True/\True)/\True)/\True)
def qT (a:List UInt8) (b:Nat):=(Aa/\(1:Int)=H8 a b)
@[reducible] def YS:List UInt8->Nat->Prop:=λ(l:List UInt8) (z:Nat)=>qt/\Ad (Ak (qa l z) (123:Int)) (qT l z) (ql z l (qt/\Ad (Ak (qa l z) (125:Int)) (qT l z) (ql z l (qt/\Ad (Ak (qa l z) (40:Int)) (qT l z) (ql z l (qt/\Ad (Ak (qa l z) (41:Int)) (qT l z) (ql z l (qt/\Ad (Ak (qa l z) (91:Int)) (qT l z) (ql z l (qt/\Ad (Ak (qa l z) (93:Int)) (qT l z) (ql z l (qt/\Ad (Ak (qa l z) (59:Int)) (qT l z) (ql z l (qt/\Ad (Ak (qa l z) (46:Int)) (qT l z) (ql z l (qt/\Ad (Ak (qa l z) (61:Int)) (qT l z) (ql z l (qt/\Ad (Ak (qa l z) (43:Int)) (qT l z) (ql z l (qt/\Ad (Ak (qa l z) (45:Int)) (qT l z) (ql z l (qt/\Ad (Ak (qa l z) (42:Int)) (qT l z) (ql z l (qt/\Ad (Ak (qa l z) (60:Int)) (qT l z) (Aa/\(0:Int)=H8 l z)))))))))))))))))))))))))
theorem Akj:∀(l:List UInt8) (z:Nat),M8 z l.length->qI l->qC z (Ad (AP ((↑z:Int)+1) (qY l)) (ql z l (Ad (Ak (qa l z) (61:Int)) (qC z (Ap (Bn ((↑z:Int)+1) l.length) (Ad (Ak (↑(UInt8.toNat (List.getD l (Int.toNat ((↑z:Int)+1)) (0:UInt8))):Int) (61:Int)) (Aa/\(2:Int)=H8 l z) (ql z l (YS l z))))) (ql z l (YS l z)))) (ql z l (YS l z)))
:=by
 delta qa ql qC qI qY M8 YS qt qT;intro l z hz q;simp only[Int.toNat_natCast,show Int.toNat ((z:Int)+1)=z+1 from by omega];have hb:Bn (z:Int) l.length=true:=BJ.2 (by have:z<l.length:=hz;omega);generalize hy:((l.getD z 0).toNat:Int)=y
 repeat' first
  |exact trivial
  |exact(rfl:true=true)
  |refine An ?_ ?_
  |refine Aj (λ_=>?_) (λ_=>?_)
  |refine And.intro ?_ ?_
 all_goals first
  |exact hb
  |(simp_all[H8,NX,EG,Dt,Be,BJ];done)
  |(simp_all[H8,NX,EG,Dt,Be,BJ];omega)
theorem Aki:∀(l:List UInt8) (z:Nat),z<l.length->l.length<=1000000->(AG (D4 Nn) 120).call 35 [.bv l,.int .i64 z] .leaf 0 (Ch Tryz.prog false (.int .i64 (H8 l z))):=Eq.mpr (by kernel_rfl) Akj
theorem XT:DP Tryz.prog Nn:=Cw AhQ fb
theorem AhK:Ci Tryz.prog 23 lX:=by
 refine NG (gl:=[]) (ng:=0) BQ λH args ct q=>?_;unfold lX at q;split at q
 ·rename_i l z;injection q with q;subst q;exact⟨BQ,⟨rfl,rfl,trivial⟩,_,_,rfl,λy=>⟨D4 Nn,60,rfl,AW,XT,Aj4 l z⟩⟩
 ·cases q
theorem AhL:Ci Tryz.prog 24 lY:=by
 refine NG (gl:=[]) (ng:=0) BQ λH args ct q=>?_;unfold lY at q;split at q
 ·rename_i l c;injection q with q;subst q;exact⟨BQ,⟨rfl,⟨rfl,rfl⟩,trivial⟩,_,_,rfl,λy=>⟨D4 Nn,60,rfl,AW,XT,Aj6 l c y⟩⟩
 ·cases q
theorem AhM:Ci Tryz.prog 25 lZ:=by
 refine NG (gl:=[]) (ng:=0) BQ λH args ct q=>?_;unfold lZ at q;split at q
 ·rename_i l;injection q with q;subst q;refine⟨BQ,⟨rfl,trivial⟩,_,_,rfl,λy=>⟨D4 Nn,80,rfl,AW,XT,?_⟩⟩;rw[Du,Du];cases l with
  |nil=>exact absurd rfl y.1
  |cons b t=>exact Aj8 b t y.2
 ·cases q
theorem AhO:Ci Tryz.prog 35 l5:=by
 refine NG (gl:=[]) (ng:=0) BQ λH args ct q=>?_;unfold l5 at q;split at q
 ·rename_i l z;injection q with q;subst q;refine⟨BQ,⟨rfl,⟨rfl,rfl⟩,trivial⟩,_,_,rfl,λy=>⟨D4 Nn,120,rfl,AW,XT,?_⟩⟩;have:=Aki l z.toNat (by omega) y.2.2;rw[Du];rwa[Int.toNat_of_nonneg y.1]at this
 ·cases q
def P7:DQ:=(23,lX)::(24,lY)::(25,lZ)::(35,l5)::Nn
def HB:Int->List UInt8->Int×Bool
 |n,[]=>if n<=2147483647 then(n,true)else(0,false)
 |n,b::t=>if AZ (b.toNat:Int)then HB (10*n+((b.toNat:Int)-48)) t else(0,false)
def E0 (l:List UInt8):Int×Bool:=if l=[]then(0,false)else HB 0 l
structure OG (l:List UInt8) (x:Nat×Int):Prop where
 le:x.1<=l.length
 lo:0<=x.2
 hi:x.2<=1099511627776
 V0:HB x.2 (l.drop x.1)=HB 0 l
def uF (l:List UInt8):CV:={X:=Nat×Int,T:=λ_ _ x=>[(0,.bs l),(4,.int .i64 x.2),(7,.int .i64 l.length),(8,.int .i64 x.1)],H:=λ_ _ _=>[],nx:=λ_ n0=>n0,I:=λ_=>OG l,m:=λx=>l.length-x.1}
def uG (l:List UInt8):CV:={X:=Nat×Int,T:=λ_ _ x=>[(0,.bs l),(4,.int .i64 x.2),(5,.int .i64 x.1)],H:=λ_ _ _=>[],nx:=λ_ n0=>n0,I:=λ_=>OG l,m:=λx=>l.length-x.1}
def S7:Tr Ac->List AV->Option Ct:=λ_ args=>match args with
 | [.bs l]=>some (.A6 (l.length<=1000000) (.ret (.AL [.int .i64 (E0 l).1,.bool (Ax (E0 l).2)])))
 |_=>none
theorem ZL (l:List UInt8) (k:Nat) (h:k<l.length):l.drop k=l.getD k 0::l.drop (k+1):=by rw[List.drop_eq_getElem_cons h,List.getD_eq_getElem?_getD,List.getElem?_eq_getElem h];rfl
theorem lP {z:Int}:AZ z=true↔48<=z/\z<=57:=by unfold AZ;exact decide_eq_true_iff
theorem cf:∀(l:List UInt8) (n:Int),2147483647<n->HB n l=(0,false)
 | [],n,h=>by rw[HB,if_neg (by omega)]
 |b::t,n,h=>by
  rw[HB];by_cases hd:AZ (b.toNat:Int)=true
  ·rw[if_pos hd];have:=lP.1 hd;exact cf t _ (by omega)
  ·rw[if_neg hd]
def qq (a:List UInt8):=((Aa/\(0:Int)=Prod.fst (E0 a))/\false=Prod.snd (E0 a)/\True)
def dO (a:List UInt8) (b:Int):=Ad (decide (a=[])) (qq a) (Ad (AP (2147483647:Int) b) (qq a) ((Aa/\b=Prod.fst (E0 a))/\true=Prod.snd (E0 a)/\True))
theorem AjZ:∀(l:List UInt8),qI l->(∃(C:Nat×Int),OG l C/\Aa/\(l=l/\(Aa/\(0:Int)=C.2)/\(Aa/\qY l=(↑l.length:Int))/\(Aa/\(0:Int)=(↑C.1:Int))/\True)/\True)/\∀(x:Nat×Int),OG l x->Pm x.1 l (ql x.1 l (True/\Ad (!Ax (AZ (qa l x.1))) (qq l) (Ad (AP (2147483647:Int) x.2) (qq l) (Ap (Bo .i64 ((10:Int)*x.2)) (ql x.1 l (Ap (Bo .u8 ((qa l x.1)-48)) (Ap (Bo .i64 ((qa l x.1)-48)) (Ap (Bo .i64 ((10:Int)*x.2+((qa l x.1)-48))) (qC x.1 (∃(y:Nat×Int),OG l y/\Lt l y.1 x.1/\Aa/\(l=l/\(Aa/\(10:Int)*x.2+((qa l x.1)-48)=y.2)/\(Aa/\Ab (↑l.length:Int))/\(Aa/\(↑x.1:Int)+1=(↑y.1:Int))/\True)/\True)))))))))) (dO l x.2)
:=by
 delta qa ql qq qC qI qY Lt dO Pm;intro l J;simp only[Nat.le_eq]at J;simp only[show BC (List.length (Array.toList (ByteArray.data (ByteArray.mk #[])))) (HE (Array.toList (ByteArray.data (ByteArray.mk #[]))))=[]from rfl,DT,eq_self,true_and,and_true,Int.toNat_natCast,Int.ofNat_eq_natCast];refine⟨⟨(0,0),⟨Nat.zero_le _,by decide,by decide,rfl⟩,rfl,rfl⟩,λx E=>?_⟩;obtain⟨k,n⟩:=x;obtain⟨M,L,K,q⟩:=E;simp only at M L K q⊢;refine Aj (λh=>?_) λh=>?_
 ·rw[B1]at h;have hd:=ZL l k (by omega);have hT:E0 l=HB 0 l:=if_neg (by rintro rfl;simp at h;omega);rw[hd,HB]at q;rw[hT];have hb:Bn (k:Int) l.length=true:=BJ.2 (by omega);generalize((l.getD k 0).toNat:Int)=z at q⊢;refine An hb (Aj (λhz=>?_) λhz=>?_)
  ·rw[Bool.not_eq_true']at hz;rw[hz,if_neg (by simp)]at q;rw[<-q];exact⟨rfl,rfl⟩
  ·rw[Bool.not_eq_false']at hz;rw[hz,if_pos rfl]at q;obtain⟨R,O⟩:=lP.1 hz;refine Aj (λhn=>?_) λhn=>?_
   ·rw[B1]at hn;rw[<-q,cf _ _ (by omega)];exact⟨rfl,rfl⟩
   ·rw[Cg]at hn;refine An (Be.2 (by omega)) (An hb (An (bS.2 (by omega)) (An (Be.2 (by omega)) (An (Be.2 (by omega)) (An (Be.2 (by omega)) ?_)))));exact⟨(k+1,10*n+(z-48)),⟨by simp only;omega,by simp only;omega,by simp only;omega,q⟩,by simp only[Nat.le_eq];omega,rfl,by simp⟩
 ·rw[Cg]at h;obtain rfl:k=l.length:=by omega
  rw[List.drop_length,HB]at q;refine Aj (λB=>?_) λB=>?_
  ·rw[decide_eq_true_eq]at B;subst B;exact⟨rfl,rfl⟩
  ·have hT:E0 l=HB 0 l:=if_neg (by simpa using B);rw[hT,<-q];refine Aj (λhn=>?_) λhn=>?_
   ·rw[B1]at hn;rw[if_neg (by omega)];exact⟨rfl,rfl⟩
   ·rw[Cg]at hn;rw[if_pos hn];exact⟨rfl,rfl⟩
theorem AjY:∀(l:List UInt8),l.length<=1000000->(AG (JU P7 58 3 (uF l)) 60).call 58 [.bs l] .leaf 0 (Ch Tryz.prog false (.AL [.int .i64 (E0 l).1,.bool (E0 l).2])):=Eq.mpr (by kernel_rfl) AjZ
theorem Aj1:∀(l:List UInt8),qI l->(∃(C:Nat×Int),OG l C/\Aa/\(l=l/\(Aa/\(0:Int)=C.2)/\(Aa/\(0:Int)=(↑C.1:Int))/\True)/\True)/\∀(x:Nat×Int),OG l x->Ad (AP (↑x.1:Int) (qY l)) (ql x.1 l (True/\Ad (!Ax (AZ (qa l x.1))) (qq l) (Ap (Bo .i64 ((10:Int)*x.2)) (ql x.1 l (Ap (Bo .u8 ((qa l x.1)-48)) (Ap (Bo .i64 ((qa l x.1)-48)) (Ap (Bo .i64 ((10:Int)*x.2+((qa l x.1)-48))) (qC x.1 (∃(y:Nat×Int),OG l y/\Lt l y.1 x.1/\Aa/\(l=l/\(Aa/\(bif AP (1099511627776:Int) ((10:Int)*x.2+((qa l x.1)-48))then(1099511627776:Int)else(10:Int)*x.2+((qa l x.1)-48))=y.2)/\(Aa/\(↑x.1:Int)+1=(↑y.1:Int))/\True)/\True))))))))) (dO l x.2)
:=by
 delta qa ql qq qC qI qY Lt dO;intro l J;simp only[Nat.le_eq]at J;simp only[show BC (List.length (Array.toList (ByteArray.data (ByteArray.mk #[])))) (HE (Array.toList (ByteArray.data (ByteArray.mk #[]))))=[]from rfl,DT,eq_self,true_and,and_true,Int.toNat_natCast,Int.ofNat_eq_natCast];refine⟨⟨(0,0),⟨Nat.zero_le _,by decide,by decide,rfl⟩,rfl,rfl⟩,λx E=>?_⟩;obtain⟨k,n⟩:=x;obtain⟨M,L,K,q⟩:=E;simp only at M L K q⊢;refine Aj (λh=>?_) λh=>?_
 ·rw[B1]at h;have hd:=ZL l k (by omega);have hT:E0 l=HB 0 l:=if_neg (by rintro rfl;simp at h;omega);rw[hd,HB]at q;rw[hT];have hb:Bn (k:Int) l.length=true:=BJ.2 (by omega);generalize((l.getD k 0).toNat:Int)=z at q⊢;refine An hb (Aj (λhz=>?_) λhz=>?_)
  ·rw[Bool.not_eq_true']at hz;rw[hz,if_neg (by simp)]at q;rw[<-q];exact⟨rfl,rfl⟩
  ·rw[Bool.not_eq_false']at hz;rw[hz,if_pos rfl]at q;obtain⟨R,O⟩:=lP.1 hz;refine An (Be.2 (by omega)) (An hb (An (bS.2 (by omega)) (An (Be.2 (by omega)) (An (Be.2 (by omega)) (An (Be.2 (by omega)) ?_)))));cases hc:AP (1099511627776:Int) (10*n+(z-48))with
   |true=>rw[B1]at hc;rw[cf _ _ (by omega)]at q;exact⟨(k+1,1099511627776),⟨by simp only;omega,by simp only;omega,by simp only;omega,by rw[<-q];exact cf _ _ (by simp)⟩,by simp only[Nat.le_eq];omega,rfl,by simp⟩
   |false=>rw[Cg]at hc;exact⟨(k+1,10*n+(z-48)),⟨by simp only;omega,by simp only;omega,by simp only;omega,q⟩,by simp only[Nat.le_eq];omega,rfl,by simp⟩
 ·rw[Cg]at h;obtain rfl:k=l.length:=by omega
  rw[List.drop_length,HB]at q;refine Aj (λB=>?_) λB=>?_
  ·rw[decide_eq_true_eq]at B;subst B;exact⟨rfl,rfl⟩
  ·have hT:E0 l=HB 0 l:=if_neg (by simpa using B);rw[hT,<-q];refine Aj (λhn=>?_) λhn=>?_
   ·rw[B1]at hn;rw[if_neg (by omega)];exact⟨rfl,rfl⟩
   ·rw[Cg]at hn;rw[if_pos hn];exact⟨rfl,rfl⟩
theorem Aj0:∀(l:List UInt8),l.length<=1000000->(AG (JU P7 34 3 (uG l)) 60).call 34 [.bs l] .leaf 0 (Ch Tryz.prog false (.AL [.int .i64 (E0 l).1,.bool (E0 l).2])):=Eq.mpr (by kernel_rfl) Aj1
end Go.Proofs.YtlmmbanfhjaioaaGreatDoor
end
end
