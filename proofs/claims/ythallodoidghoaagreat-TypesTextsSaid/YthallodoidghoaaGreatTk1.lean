/- Laid by program out of its parts: TkA, TkB, TkC, TkD. -/
import Derived.Test.YthallodoidghoaaGreatMe
import Derived.KernelRfl
import Derived.Test.YthallodoidghoaaGreatPa1
noncomputable section
set_option linter.unusedVariables false
set_option linter.unusedSimpArgs false
section
set_option maxRecDepth 100000
set_option linter.unusedSimpArgs false
open Go Go.Ev
namespace Go.Proofs.YthallodoidghoaaGreat
def PH (tb:DQ):Ctx:={P:=Tryz.prog,tb:=tb,lp:=λ_ _=>none,cut:=λ_ _=>none}
def yo (tb:DQ) (y x:Nat) (S:B0):Ctx:={P:=Tryz.prog,tb:=tb,lp:=λf r=>cond (Nat.beq f y) (cond (Nat.beq r x) (some S) none) none,cut:=λ_ _=>none}
def C4 (z:Int):Bool:=decide (48<=z/\z<=57)
def orI (z:Int):Int:=IntKind.wrap IntKind.u8 (↑(BitVec.toNat (BitVec.ofInt (8:Nat) z|||BitVec.ofInt (8:Nat) (32:Int))):Int)
def Ha (z:Int):Bool:=decide (z=95)||decide (97<=orI z/\orI z<=122)
def WN (z:Int):Bool:=decide (z=32)||decide (z=9)||decide (z=10)||decide (z=13)||decide (z=35)
def LW (z:Int):Bool:=decide (97<=z/\z<=122)||decide (65<=z/\z<=90)||decide (z=95)
def eh (f:Int->Bool):Tr Ah->Al->Option Ct:=λ_ args=>match args with
 | [.int .u8 z]=>some (.Bb True (.ret (.bool (Ay (f z)))))
 |_=>none
theorem Ac8 {g:FuncId} {f:Int->Bool} (h:∀z:Int,(A3 (PH []) 40).call g [.int .u8 z] .leaf 0 (BS Tryz.prog false (.bool (f z)))):BC Tryz.prog g (eh f):=by
 refine W6 (gl:=[]) (ng:=0) AS λH args ct r=>?_;unfold eh at r;split at r
 ·rename_i z;injection r with r;subst r;exact⟨AS,⟨⟨rfl,rfl⟩,trivial⟩,_,_,rfl,λ_=>⟨PH [],40,rfl,Dq,Bk,by rw[F2];exact h z⟩⟩
 ·cases r
def qD (a:Int):=Ag (!AP a (65:Int)) (Ag (!AP (90:Int) a) (true=LW a) (Au a (95:Int)=LW a)) (Au a (95:Int)=LW a)
theorem Amk:∀(z:Int),Ag (!AP z (97:Int)) (Ag (!AP (122:Int) z) (true=LW z) (qD z)) (qD z)
:=by
 delta qD;intro z;simp only[GC,LW,EX,DD]
 grind
theorem Amj:∀z:Int,(A3 (PH []) 40).call 53 [.int .u8 z] .leaf 0 (BS Tryz.prog false (.bool (LW z))):=Eq.mpr (by kernel_rfl) Amk
theorem Amm:∀(z:Int),Ag (!AP z (48:Int)) ((!AP (57:Int) z)=C4 z) (false=C4 z)
:=by
 intro z;simp only[GC,C4,EX,DD]
 grind
theorem Aml:∀z:Int,(A3 (PH []) 40).call 54 [.int .u8 z] .leaf 0 (BS Tryz.prog false (.bool (C4 z))):=Eq.mpr (by kernel_rfl) Amm
def tbA:DQ:=[(53,eh LW),(54,eh C4)]
theorem Ap8:EU Tryz.prog tbA:=BD (Ac8 Amj) <| BD (Ac8 Aml) Bk
def runN (p:Int->Bool):Aj->Nat
 | []=>0
 |b::l=>if p (b.toNat:Int)then runN p l+1 else 0
theorem VN (p:Int->Bool):∀l,runN p l<=l.length
 | []=>AH _
 |b::l=>by rw[runN,Dn];have:=VN p l;split<;>omega
theorem AdV (p:Int->Bool):∀(l:Aj) (k:Nat),k<=runN p l->k<l.length->(k<runN p l/\p ((l.getD k 0).toNat:Int)=true)\/(k=runN p l/\p ((l.getD k 0).toNat:Int)=false)
 | [],k,_,h=>absurd h (Nat.not_lt_zero _)
 |b::l,0,h,_=>by
  simp only[List.getD_cons_zero];rw[runN];cases hb:p (b.toNat:Int)with
  |true=>exact .inl ⟨by simp,rfl⟩
  |false=>exact .inr ⟨by simp,rfl⟩
 |b::l,k+1,h,y=>by
  simp only[List.getD_cons_succ];rw[runN]at h⊢;cases hb:p (b.toNat:Int)with
  |true=>
   rw[hb,As rfl]at h;rw[As rfl];rcases AdV p l k (by omega) (by rw[Dn]at y;omega)with⟨x,r⟩|⟨x,r⟩
   ·exact .inl ⟨by omega,r⟩
   ·exact .inr ⟨by omega,r⟩
  |false=>rw[hb]at h;simp at h
def iS:DQ:=tbA
def RW (z:Int):Bool:=decide (z=61)||decide (z=123)||decide (z=125)||decide (z=40)||decide (z=41)||decide (z=91)||decide (z=93)||decide (z=59)||decide (z=46)||decide (z=43)||decide (z=45)||decide (z=42)||decide (z=60)
def Fy:Aj->Int×Nat
 | []=>(0,0)
 |b::t=>if Ha (b.toNat:Int)then(1,runN (λz=>Ha z||C4 z) (b::t))else if C4 (b.toNat:Int)then(3,runN C4 (b::t))
  else if(b.toNat:Int)=35 then(0,runN (λz=>!decide (z=10)) (b::t))
  else if(b.toNat:Int)=61/\1<=t.length/\((t.getD 0 0).toNat:Int)=61 then(4,2)else if RW (b.toNat:Int)then(4,1)else(0,1)
def HR (l:Aj):Nat->Int:=λk=>if((l.getD k 0).toNat:Int)=61/\k+1<l.length/\((l.getD (k+1) 0).toNat:Int)=61 then 2 else if RW ((l.getD k 0).toNat:Int)then 1 else 0
def pM:Tr Ah->Al->Option Ct:=λ_ args=>match args with
 | [.bv l,.int .i64 z]=>some (.Bb (0<=z/\z<l.length/\l.length<=1000000) (.ret (.int .i64 (AF (HR l z.toNat)))))
 |_=>none
def qb (a:Aj) (b:Nat):=(↑(UInt8.toNat (List.getD a (Int.toNat (↑b:Int)) (0:UInt8))):Int)
def qh (a:Nat) (b:Aj):=Ap (AO (↑a:Int) b.length)
def ql:=(((True/\True)/\True)/\True)
def qu (a:Aj) (b:Nat):=(Aa/\(1:Int)=HR a b)
@[reducible] def ZD:Aj->Nat->Prop:=λ(l:Aj) (z:Nat)=>ql/\Ag (Au (qb l z) (123:Int)) (qu l z) (qh z l (ql/\Ag (Au (qb l z) (125:Int)) (qu l z) (qh z l (ql/\Ag (Au (qb l z) (40:Int)) (qu l z) (qh z l (ql/\Ag (Au (qb l z) (41:Int)) (qu l z) (qh z l (ql/\Ag (Au (qb l z) (91:Int)) (qu l z) (qh z l (ql/\Ag (Au (qb l z) (93:Int)) (qu l z) (qh z l (ql/\Ag (Au (qb l z) (59:Int)) (qu l z) (qh z l (ql/\Ag (Au (qb l z) (46:Int)) (qu l z) (qh z l (ql/\Ag (Au (qb l z) (61:Int)) (qu l z) (qh z l (ql/\Ag (Au (qb l z) (43:Int)) (qu l z) (qh z l (ql/\Ag (Au (qb l z) (45:Int)) (qu l z) (qh z l (ql/\Ag (Au (qb l z) (42:Int)) (qu l z) (qh z l (ql/\Ag (Au (qb l z) (60:Int)) (qu l z) (Aa/\(0:Int)=HR l z)))))))))))))))))))))))))
def qw (a:Nat):=Ap (Bf .i64 ((↑a:Int)+1))
theorem Amo:∀(l:Aj) (z:Nat),Nat.le (Nat.succ z) l.length->Nat.le l.length 1000000->qw z (Ag (AP ((↑z:Int)+1) (Int.ofNat l.length)) (qh z l (Ag (Au (qb l z) (61:Int)) (qw z (Ap (AO ((↑z:Int)+1) l.length) (Ag (Au (↑(UInt8.toNat (List.getD l (Int.toNat ((↑z:Int)+1)) (0:UInt8))):Int) (61:Int)) (Aa/\(2:Int)=HR l z) (qh z l (ZD l z))))) (qh z l (ZD l z)))) (qh z l (ZD l z)))
:=by
 delta qb qh qw ZD ql qu;intro l z hz hl;simp only[Int.toNat_natCast,show Int.toNat ((z:Int)+1)=z+1 from by omega];have hb:AO (z:Int) l.length=true:=AK.2 (by have:z<l.length:=hz;omega);generalize hy:((l.getD z 0).toNat:Int)=y
 repeat' first
  |exact trivial
  |exact(rfl:true=true)
  |refine Am ?_ ?_
  |refine Ao (λ_=>?_) (λ_=>?_)
  |refine And.intro ?_ ?_
 all_goals first
  |exact hb
  |(simp_all[HR,RW,EX,DD,AU,AK];done)
  |(simp_all[HR,RW,EX,DD,AU,AK];omega)
theorem Amn:∀(l:Aj) (z:Nat),z<l.length->l.length<=1000000->(A3 (PH iS) 120).call 57 [.bv l,.int .i64 z] .leaf 0 (BS Tryz.prog false (.int .i64 (HR l z))):=Eq.mpr (by kernel_rfl) Amo
theorem AeR:EU Tryz.prog iS:=Ap8
theorem Aka:BC Tryz.prog 57 pM:=by
 refine W6 (gl:=[]) (ng:=0) AS λH args ct r=>?_;unfold pM at r;split at r
 ·rename_i l z;injection r with r;subst r;refine⟨AS,⟨rfl,⟨rfl,rfl⟩,trivial⟩,_,_,rfl,λx=>⟨PH iS,120,rfl,Dq,AeR,?_⟩⟩;have:=Amn l z.toNat (by omega) x.2.2;rw[Et];rwa[Int.toNat_of_nonneg x.1]at this
 ·cases r
def iT:DQ:=(57,pM)::iS
def Mk:Int->Aj->Int×Bool
 |n,[]=>if n<=2147483647 then(n,true)else(0,false)
 |n,b::t=>if C4 (b.toNat:Int)then Mk (10*n+((b.toNat:Int)-48)) t else(0,false)
def Ij (l:Aj):Int×Bool:=if l=[]then(0,false)else Mk 0 l
structure Zb (l:List UInt8) (x:Nat×Int):Prop where
 le:x.1<=l.length
 lo:0<=x.2
 hi:x.2<=1099511627776
 yB:Mk x.2 (l.drop x.1)=Mk 0 l
def x5 (l:Aj):B0:={X:=Nat×Int,T:=λ_ _ x=>[(0,.bs l),(4,.int .i64 x.2),(5,.int .i64 x.1)],H:=λ_ _ _=>[],nx:=λ_ n0=>n0,I:=λ_=>Zb l,m:=λx=>l.length-x.1}
def pK:Tr Ah->Al->Option Ct:=λ_ args=>match args with
 | [.bs l]=>some (.Bb (l.length<=1000000) (.ret (.AM [.int .i64 (Ij l).1,.bool (Ay (Ij l).2)])))
 |_=>none
theorem pH (l:Aj) (k:Nat) (h:k<l.length):l.drop k=l.getD k 0::l.drop (k+1):=by rw[List.drop_eq_getElem_cons h,Bt,Ce h];rfl
theorem zf {z:Int}:C4 z=true↔48<=z/\z<=57:=by unfold C4;exact decide_eq_true_iff
theorem tq:∀(l:Aj) (n:Int),2147483647<n->Mk n l=(0,false)
 | [],n,h=>by rw[Mk,An (by omega)]
 |b::t,n,h=>by
  rw[Mk];by_cases hd:C4 (b.toNat:Int)=true
  ·rw[As hd];have:=zf.1 hd;exact tq t _ (by omega)
  ·rw[An hd]
def qC (a:Aj):=((Aa/\(0:Int)=Prod.fst (Ij a))/\false=Prod.snd (Ij a)/\True)
def qI (a:Nat) (b:Aj):=Ag (AP (↑a:Int) (Int.ofNat b.length))
theorem Amh:∀(l:Aj),Nat.le l.length 1000000->(∃(J:Nat×Int),Zb l J/\Aa/\(l=l/\(Aa/\(0:Int)=J.2)/\(Aa/\(0:Int)=(↑J.1:Int))/\True)/\True)/\∀(x:Nat×Int),Zb l x->qI x.1 l (qh x.1 l (True/\Ag (!Ay (C4 (qb l x.1))) (qC l) (Ap (Bf .i64 ((10:Int)*x.2)) (qh x.1 l (Ap (Bf .u8 ((qb l x.1)-48)) (Ap (Bf .i64 ((qb l x.1)-48)) (Ap (Bf .i64 ((10:Int)*x.2+((qb l x.1)-48))) (qw x.1 (∃(y:Nat×Int),Zb l y/\Nat.le (Nat.succ (l.length-y.1)) (l.length-x.1)/\Aa/\(l=l/\(Aa/\(bif AP (1099511627776:Int) ((10:Int)*x.2+((qb l x.1)-48))then(1099511627776:Int)else(10:Int)*x.2+((qb l x.1)-48))=y.2)/\(Aa/\(↑x.1:Int)+1=(↑y.1:Int))/\True)/\True))))))))) (Ag (decide (l=[])) (qC l) (Ag (AP (2147483647:Int) x.2) (qC l) ((Aa/\x.2=Prod.fst (Ij l))/\true=Prod.snd (Ij l)/\True)))
:=by
 delta qb qh qw qC qI;intro l hl;simp only[Nat.le_eq]at hl;simp only[show BO (List.length (Array.toList (ByteArray.data (ByteArray.mk #[])))) (KB (Array.toList (ByteArray.data (ByteArray.mk #[]))))=[]from rfl,F2,eq_self,true_and,and_true,Int.toNat_natCast,Int.ofNat_eq_natCast];refine⟨⟨(0,0),⟨BL _,by decide,by decide,rfl⟩,rfl,rfl⟩,λx K=>?_⟩;obtain⟨k,n⟩:=x;obtain⟨S,R,L,r⟩:=K;simp only at S R L r⊢;refine Ao (λh=>?_) λh=>?_
 ·rw[Bd]at h;have hd:=pH l k (by omega);have hT:Ij l=Mk 0 l:=An (by rintro rfl;simp at h;omega);rw[hd,Mk]at r;rw[hT];have hb:AO (k:Int) l.length=true:=AK.2 (by omega);generalize((l.getD k 0).toNat:Int)=z at r⊢;refine Am hb (Ao (λhz=>?_) λhz=>?_)
  ·rw[BZ]at hz;rw[hz,An (by simp)]at r;rw[<-r];exact⟨rfl,rfl⟩
  ·rw[BI]at hz;rw[hz,As rfl]at r;obtain⟨V,U⟩:=zf.1 hz;refine Am (AU.2 (by omega)) (Am hb (Am (sy.2 (by omega)) (Am (AU.2 (by omega)) (Am (AU.2 (by omega)) (Am (AU.2 (by omega)) ?_)))));cases hc:AP (1099511627776:Int) (10*n+(z-48))with
   |true=>rw[Bd]at hc;rw[tq _ _ (by omega)]at r;exact⟨(k+1,1099511627776),⟨by simp only;omega,by simp only;omega,by simp only;omega,by rw[<-r];exact tq _ _ (by simp)⟩,by simp only[Nat.le_eq];omega,rfl,by simp⟩
   |false=>rw[Bl]at hc;exact⟨(k+1,10*n+(z-48)),⟨by simp only;omega,by simp only;omega,by simp only;omega,r⟩,by simp only[Nat.le_eq];omega,rfl,by simp⟩
 ·rw[Bl]at h;obtain rfl:k=l.length:=by omega
  rw[List.drop_length,Mk]at r;refine Ao (λB=>?_) λB=>?_
  ·rw[Bn]at B;subst B;exact⟨rfl,rfl⟩
  ·have hT:Ij l=Mk 0 l:=An (by simpa using B);rw[hT,<-r];refine Ao (λhn=>?_) λhn=>?_
   ·rw[Bd]at hn;rw[An (by omega)];exact⟨rfl,rfl⟩
   ·rw[Bl]at hn;rw[As hn];exact⟨rfl,rfl⟩
theorem Amg:∀(l:Aj),l.length<=1000000->(A3 (yo iT 56 3 (x5 l)) 60).call 56 [.bs l] .leaf 0 (BS Tryz.prog false (.AM [.int .i64 (Ij l).1,.bool (Ij l).2])):=Eq.mpr (by kernel_rfl) Amh
end Go.Proofs.YthallodoidghoaaGreat
end
end
