/- Laid by program out of its parts: TkA, TkB, TkC, TkD. -/
import Derived.Test.YtlmmbanfhjaioaaDoorMe
import Derived.KernelRfl
import Derived.Test.YtlmmbanfhjaioaaDoorPa1
set_option linter.unusedVariables false
set_option linter.unusedSimpArgs false
section
set_option maxRecDepth 100000
set_option linter.unusedSimpArgs false
open Go Go.Ev
namespace Go.Proofs.YtlmmbanfhjaioaaDoor
noncomputable def cxA (tb:Tbl):Ctx:={ P:=Tryd.prog,tb:=tb,lp:=fun _ _=>none,cut:=fun _ _=>none }
noncomputable def cx1 (tb:Tbl) (f0 r0:Nat) (S:Stn):Ctx:={ P:=Tryd.prog,tb:=tb,lp:=fun f r=>cond (Nat.beq f f0) (cond (Nat.beq r r0) (some S) none) none,cut:=fun _ _=>none }
def digI (z:Int):Bool:=decide (48≤z∧z≤57)
def orI (z:Int):Int:=IntKind.wrap IntKind.u8 (↑(BitVec.toNat (BitVec.ofInt (8:Nat) z ||| BitVec.ofInt (8:Nat) (32:Int))):Int)
def letrI (z:Int):Bool:=decide (z=95) || decide (97≤orI z∧orI z≤122)
def blankI (z:Int):Bool:=decide (z=32) || decide (z=9) || decide (z=10) || decide (z=13) || decide (z=35)
def LetrI (z:Int):Bool:=decide (97≤z∧z≤122) || decide (65≤z∧z≤90) || decide (z=95)
noncomputable def oneB (f:Int→Bool):Tr AObj→List AV→Option Ct:=fun _ args=>match args with
 | [.int .u8 z]=>some (.need True (.ret (.bool (bar (f z)))))
 | _=>none
def lastI (l:List UInt8) (c:Int):Nat→Int
 | 0=>-1
 | k + 1=>if ((l.getD k 0).toNat:Int)=c then k else lastI l c k
structure I43 (l:List UInt8) (c:Int) (k:Nat):Prop where
 le:k≤l.length
 ans:lastI l c k=lastI l c l.length
def S43 (l:List UInt8) (c:Int):Stn:={ X:=Nat,T:=fun _ _ k=>[(0,.bv l),(1,.int .u8 c),(5,.int .i64 ((k:Int) - 1))],H:=fun _ _ _=>[],nx:=fun _ n0=>n0,I:=fun _=>I43 l c,m:=fun k=>k }
def e43:Tr AObj→List AV→Option Ct:=fun _ args=>match args with
 | [.bv l,.int .u8 c]=>some (.need (l.length≤1000000) (.ret (.int .i64 (lastI l c l.length))))
 | _=>none
theorem Qf {g:FuncId} {f:Int→Bool} (h:∀ z:Int,(cRun (cxA []) 40).call g [.int .u8 z] .leaf 0 (ResM Tryd.prog false (.bool (f z)))):EntOK Tryd.prog g (oneB f):=by
 refine QW (gl:=[]) (ng:=0) gl0 fun H args ct hct=>?_
 unfold oneB at hct
 split at hct
 ·rename_i z
  injection hct with hct;subst hct
  exact ⟨gl0,⟨⟨rfl,rfl⟩,trivial⟩,_,_,rfl,fun _=>⟨cxA [],40,rfl,fol,ZN,by rw [Zs];exact h z⟩⟩
 ·cases hct
noncomputable def qcN (a:Int):=brP (!ilt a (48:Int)) ((!ilt (57:Int) a)=digI a) (false=digI a)
theorem run37_r:∀ (z:Int),qcN z
:= by
 delta qcN
 intro z
 simp only [Xb,digI,YL,Yc]
 grind
theorem run37:∀ z:Int,(cRun (cxA []) 40).call 46 [.int .u8 z] .leaf 0 (ResM Tryd.prog false (.bool (digI z))) :=
 Eq.mpr (by kernel_rfl) run37_r
noncomputable def qav (a:Int):=IntKind.wrap .u8 (↑(BitVec.toNat (BitVec.ofInt 8 a ||| BitVec.ofInt 8 (32:Int))):Int)
theorem run38_r:∀ (z:Int),brP (ieq z (95:Int)) (true=letrI z) (brP (!ilt (qav z) (97:Int)) ((!ilt (122:Int) (qav z))=letrI z) (false=letrI z))
:= by
 delta qav
 intro z
 rw [show IntKind.wrap IntKind.u8 (↑(BitVec.toNat (BitVec.ofInt (8:Nat) z ||| BitVec.ofInt (8:Nat) (32:Int))):Int)=orI z from rfl]
 generalize h:orI z=y
 simp only [Xb,letrI,h,YL,Yc]
 grind
theorem run38:∀ z:Int,(cRun (cxA []) 40).call 43 [.int .u8 z] .leaf 0 (ResM Tryd.prog false (.bool (letrI z))) :=
 Eq.mpr (by kernel_rfl) run38_r
theorem run30_r:∀ (z:Int),brP (ieq z (32:Int)) (true=blankI z) (brP (ieq z (9:Int)) (true=blankI z) (brP (ieq z (10:Int)) (true=blankI z) (brP (ieq z (13:Int)) (true=blankI z) (ieq z (35:Int)=blankI z))))
:= by
 intro z
 simp only [Xb,blankI,YL,Yc]
 grind
theorem run30:∀ z:Int,(cRun (cxA []) 40).call 29 [.int .u8 z] .leaf 0 (ResM Tryd.prog false (.bool (blankI z))) :=
 Eq.mpr (by kernel_rfl) run30_r
noncomputable def qbW (a:Int):=brP (!ilt a (48:Int)) ((!ilt (57:Int) a)=(letrI a || digI a)) (false=(letrI a || digI a))
theorem run45_r:∀ (z:Int),brP (ieq z (95:Int)) (true=(letrI z || digI z)) (brP (!ilt (qav z) (97:Int)) (brP (!ilt (122:Int) (qav z)) (true=(letrI z || digI z)) (qbW z)) (qbW z))
:= by
 delta qav qbW
 intro z
 rw [show IntKind.wrap IntKind.u8 (↑(BitVec.toNat (BitVec.ofInt (8:Nat) z ||| BitVec.ofInt (8:Nat) (32:Int))):Int)=orI z from rfl]
 generalize h:orI z=y
 simp only [Xb,letrI,digI,h,YL,Yc]
 grind
theorem run45:∀ z:Int,(cRun (cxA []) 40).call 45 [.int .u8 z] .leaf 0 (ResM Tryd.prog false (.bool (letrI z || digI z))) :=
 Eq.mpr (by kernel_rfl) run45_r
theorem run46_r:∀ (z:Int),(!ieq z (10:Int)) = !decide (z=(10:Int))
:= by
 intro z
 rw [Yc];rfl
theorem run46:∀ z:Int,(cRun (cxA []) 40).call 47 [.int .u8 z] .leaf 0 (ResM Tryd.prog false (.bool (!decide (z=10)))) :=
 Eq.mpr (by kernel_rfl) run46_r
noncomputable def qbz (a:Int):=brP (!ilt a (65:Int)) (brP (!ilt (90:Int) a) (true=LetrI a) (ieq a (95:Int)=LetrI a)) (ieq a (95:Int)=LetrI a)
theorem run31_r:∀ (z:Int),brP (!ilt z (97:Int)) (brP (!ilt (122:Int) z) (true=LetrI z) (qbz z)) (qbz z)
:= by
 delta qbz
 intro z
 simp only [Xb,LetrI,YL,Yc]
 grind
theorem run31:∀ z:Int,(cRun (cxA []) 40).call 11 [.int .u8 z] .leaf 0 (ResM Tryd.prog false (.bool (LetrI z))) :=
 Eq.mpr (by kernel_rfl) run31_r
theorem run32_r:∀ (z:Int),qcN z
:= by
 delta qcN
 intro z
 simp only [Xb,digI,YL,Yc]
 grind
theorem run32:∀ z:Int,(cRun (cxA []) 40).call 12 [.int .u8 z] .leaf 0 (ResM Tryd.prog false (.bool (digI z))) :=
 Eq.mpr (by kernel_rfl) run32_r
noncomputable def qN (a:Nat):=Nat.le (Nat.succ a)
noncomputable def qak (a:List UInt8):=Nat.le a.length 1000000
noncomputable def qaT (a:List UInt8):=Int.ofNat a.length
theorem run43_r:∀ (l:List UInt8) (c:Int),qak l→sdA (inR .i64 (qaT l - 1)) ((∃ (x0:Nat),I43 l c x0∧true=true∧(l=l∧(true=true∧c=c)∧(true=true∧qaT l - 1=(↑x0:Int) - 1)∧True)∧True)∧∀ (x:Nat),I43 l c x→brP (!ilt ((↑x:Int) - 1) (0:Int)) (sdA (inB ((↑x:Int) - 1) l.length) (brP (ieq (↑(UInt8.toNat (List.getD l (Int.toNat ((↑x:Int) - 1)) (0:UInt8))):Int) c) (true=true∧(↑x:Int) - 1=lastI l c l.length) (sdA (inR .i64 ((↑x:Int) - 1 - 1)) (∃ (x':Nat),I43 l c x'∧qN x' x∧true=true∧(l=l∧(true=true∧c=c)∧(true=true∧(↑x:Int) - 1 - 1=(↑x':Int) - 1)∧True)∧True)))) (true=true∧Int.negSucc 0=lastI l c l.length))
:= by
 delta qN qak qaT
 intro l c hl
 simp only [Nat.le_eq] at hl
 refine Zd (Zv.2 (by simp;omega)) ⟨⟨l.length,⟨Nat.le_refl _,rfl⟩,rfl,⟨rfl,⟨rfl,rfl⟩,⟨rfl,rfl⟩,trivial⟩,trivial⟩,fun k hk=>Zc (fun h=>?_) fun h=>?_⟩
 ·have h1:=hk.le
  simp only [Bool.not_eq_true',ZF] at h
  obtain ⟨k,rfl⟩:∃ j,k=j + 1:=⟨k - 1,by omega⟩
  have e:Int.toNat (((k + 1:Nat):Int) - 1)=k:=by omega
  have h2:=hk.ans
  rw [lastI] at h2
  refine Zd (ZD.2 (by omega)) (Zc (fun h=>?_) fun h=>?_)
  ·rw [e,ZC] at h
   rw [if_pos h] at h2
   exact ⟨rfl,by rw [← h2];omega⟩
  ·rw [e,Zu] at h
   rw [if_neg h] at h2
   exact Zd (Zv.2 (by omega)) ⟨k,⟨by omega,h2⟩,Nat.le_refl _,rfl,⟨rfl,⟨rfl,rfl⟩,⟨rfl,by omega⟩,trivial⟩,trivial⟩
 ·have h1:=hk.le
  simp only [Bool.not_eq_false',ZR] at h
  obtain rfl:k=0:=by omega
  exact ⟨rfl,hk.ans⟩
theorem run43:∀ (l:List UInt8) (c:Int),l.length≤1000000→(cRun (cx1 [] 42 2 (S43 l c)) 40).call 42 [.bv l,.int .u8 c] .leaf 0 (ResM Tryd.prog false (.int .i64 (lastI l c l.length))) :=
 Eq.mpr (by kernel_rfl) run43_r
theorem ok43:EntOK Tryd.prog 42 e43:=by
 refine QW (gl:=[]) (ng:=0) gl0 fun H args ct hct=>?_
 unfold e43 at hct
 split at hct
 ·rename_i l c
  injection hct with hct;subst hct
  exact ⟨gl0,⟨rfl,⟨rfl,rfl⟩,trivial⟩,_,_,rfl,fun hp=>⟨cx1 [] 42 2 (S43 l c),40,rfl,fol,ZN,run43 l c hp⟩⟩
 ·cases hct
noncomputable def tbA:Tbl:=[(46,oneB digI),(43,oneB letrI),(29,oneB blankI),(45,oneB fun z=>letrI z || digI z),(47,oneB fun z=>!decide (z=10)),(11,oneB LetrI),(12,oneB digI),(42,e43)]
theorem Zfn:TbOK Tryd.prog tbA :=
 ZT (Qf run37) <| ZT (Qf run38) <| ZT (Qf run30) <| ZT (Qf run45) <| ZT (Qf run46) <| ZT (Qf run31) <| ZT (Qf run32) <| ZT ok43 ZN
end Go.Proofs.YtlmmbanfhjaioaaDoor
end
section
set_option maxRecDepth 100000
set_option linter.unusedSimpArgs false
open Go Go.Ev
namespace Go.Proofs.YtlmmbanfhjaioaaDoor
def runN (p:Int→Bool):List UInt8→Nat
 | []=>0
 | b :: l=>if p (b.toNat:Int) then runN p l + 1 else 0
structure I61 (p:Int→Bool) (l:List UInt8) (k:Nat):Prop where
 le:k≤runN p l
def S61 (g:Nat) (p:Int→Bool) (l:List UInt8):Stn:={ X:=Nat,T:=fun _ _ k=>[(0,.bv l),(1,.fn (.func 66) [] [.ptr 0 0]),(7,.int .i64 l.length),(8,.int .i64 k)],H:=fun _ _ _=>[(0,.cells 46 .leaf (.per [.fn (.func g) [] []]) 1 false)],nx:=fun _ n0=>n0,I:=fun _=>I61 p l,m:=fun k=>l.length - k }
theorem UK (p:Int→Bool):∀ l,runN p l≤l.length
 | []=>Nat.le_refl _
 | b :: l=>by
  rw [runN,List.length_cons]
  have:=UK p l
  split <;> omega
theorem Ze0 (p:Int→Bool):∀ (l:List UInt8) (k:Nat),k≤runN p l→k < l.length→(k < runN p l∧p ((l.getD k 0).toNat:Int)=true)∨(k=runN p l∧p ((l.getD k 0).toNat:Int)=false)
 | [],k,_,h=>absurd h (Nat.not_lt_zero _)
 | b :: l,0,h,_=>by
  simp only [List.getD_cons_zero]
  rw [runN]
  cases hb:p (b.toNat:Int) with
  | true=>exact .inl ⟨by simp,rfl⟩
  | false=>exact .inr ⟨by simp,rfl⟩
 | b :: l,k + 1,h,h2=>by
  simp only [List.getD_cons_succ]
  rw [runN] at h ⊢
  cases hb:p (b.toNat:Int) with
  | true =>
   rw [hb,if_pos rfl] at h
   rw [if_pos rfl]
   rcases Ze0 p l k (by omega) (by rw [List.length_cons] at h2;omega) with ⟨h3,h4⟩ | ⟨h3,h4⟩
   ·exact .inl ⟨by omega,h4⟩
   ·exact .inr ⟨by omega,h4⟩
  | false=>rw [hb] at h;simp at h
theorem Zj3 (p:Int→Bool):∀ (l:List UInt8),
 Nat.le (List.length l) (1000000:Nat) →
  (∃ (x0:Nat),
    I61 p l x0 ∧
     true=true ∧
      (l=l ∧
        (true=true∧True∧(some (0:Nat)=some (0:Nat)∧true=true)∧True) ∧
         (true=true∧Int.ofNat (List.length l)=(↑(List.length l):Int)) ∧
          (true=true∧(0:Int)=(↑x0:Int))∧True) ∧
       (true=true∧true=true∧true=true∧true=true∧True∧true=true∧True∧True)∧True) ∧
   ∀ (x:Nat),
    I61 p l x →
     brP (ilt (↑x:Int) (↑(List.length l):Int))
      (sdA (inB (↑x:Int) (List.length l))
       (True ∧
        brP (!bar (p (↑(UInt8.toNat (List.getD l (Int.toNat (↑x:Int)) (0:UInt8))):Int)))
         (true=true∧(↑x:Int)=(↑(runN p l):Int))
         (sdA (inR IntKind.i64 ((↑x:Int) + (1:Int)))
          (∃ (x':Nat),
           I61 p l x' ∧
            Nat.le (Nat.succ (List.length l - x')) (List.length l - x) ∧
             true=true ∧
              (l=l ∧
                (true=true∧True∧(some (0:Nat)=some (0:Nat)∧true=true)∧True) ∧
                 (true=true∧(↑(List.length l):Int)=(↑(List.length l):Int)) ∧
                  (true=true∧(↑x:Int) + (1:Int)=(↑x':Int))∧True) ∧
               (true=true ∧
                 true=true∧true=true∧true=true∧True∧true=true∧True∧True) ∧
                True))))
      (true=true∧Int.ofNat (List.length l)=(↑(runN p l):Int)):=by
 intro l hl
 simp only [Nat.le_eq] at hl
 refine ⟨⟨0,⟨Nat.zero_le _⟩,rfl,⟨rfl,⟨rfl,trivial,⟨rfl,rfl⟩,trivial⟩,⟨rfl,rfl⟩,⟨rfl,rfl⟩,trivial⟩,⟨rfl,rfl,rfl,rfl,trivial,rfl,trivial,trivial⟩,trivial⟩,fun k hk=>?_⟩
 have hle:=hk.le
 have hlen:=UK p l
 refine Zc (fun h=>?_) fun h=>?_
 ·rw [ZR] at h
  refine Zd (ZD.2 (by omega)) ⟨trivial,?_⟩
  rw [Zs,show Int.toNat (k:Int)=k from rfl]
  have hat:=Ze0 p l k hle (by omega)
  refine Zc (fun h1=>?_) fun h1=>?_
  ·refine ⟨rfl,?_⟩
   rw [Bool.not_eq_true'] at h1
   have:k=runN p l:=hat.elim (fun h=>(by rw [h.2] at h1;cases h1)) fun h=>h.1
   omega
  ·rw [Bool.not_eq_false'] at h1
   have:k < runN p l:=hat.elim (fun h=>h.1) fun h=>(by rw [h.2] at h1;cases h1)
   exact Zd (Zv.2 (by omega)) ⟨k + 1,⟨this⟩,by simp only [Nat.le_eq];omega,rfl,⟨rfl,⟨rfl,trivial,⟨rfl,rfl⟩,trivial⟩,⟨rfl,rfl⟩,⟨rfl,by omega⟩,trivial⟩,⟨rfl,rfl,rfl,rfl,trivial,rfl,trivial,trivial⟩,trivial⟩
 ·rw [ZF] at h
  exact ⟨rfl,by simp;omega⟩
noncomputable def qo (a:List UInt8) (b:Nat):=(↑(UInt8.toNat (List.getD a (Int.toNat (↑b:Int)) (0:UInt8))):Int)
noncomputable def qZ:=(true=true∧true=true∧true=true∧true=true∧True∧true=true∧True∧True)
noncomputable def q3 (a:Nat):=sdA (inR .i64 ((↑a:Int) + 1))
noncomputable def qaf (a:Nat) (b:List UInt8):=sdA (inB (↑a:Int) b.length)
noncomputable def qal (a:List UInt8) (b:Nat):=(a=a∧(true=true∧True∧(some 0=some 0∧true=true)∧True)∧(true=true∧Int.ofNat a.length=(↑a.length:Int))∧(true=true∧(0:Int)=(↑b:Int))∧True)
noncomputable def qan (a:List UInt8) (b:Nat) (c:Nat):=(a=a∧(true=true∧True∧(some 0=some 0∧true=true)∧True)∧(true=true∧(↑a.length:Int)=(↑a.length:Int))∧(true=true∧(↑b:Int) + 1=(↑c:Int))∧True)
noncomputable def qaL:=(fun (v1:Int)=>letrI v1 || digI v1)
noncomputable def qbs (a:List UInt8) (b:Nat) (c:Nat):=Nat.le (Nat.succ (a.length - b)) (a.length - c)
noncomputable def qcu (a:Nat) (b:List UInt8):=brP (ilt (↑a:Int) (↑b.length:Int))
theorem run44a_r:∀ (l:List UInt8),qak l→(∃ (x0:Nat),I61 qaL l x0∧true=true∧(qal l x0)∧qZ∧True)∧∀ (x:Nat),I61 qaL l x→qcu x l (qaf x l (True∧brP (!bar (letrI (qo l x) || digI (qo l x))) (true=true∧(↑x:Int)=(↑(runN qaL l):Int)) (q3 x (∃ (x':Nat),I61 qaL l x'∧qbs l x' x∧true=true∧(qan l x x')∧qZ∧True)))) (true=true∧qaT l=(↑(runN qaL l):Int))
:=by
 delta qo qZ q3 qaf qak qal qan qaL qaT qbs qcu
 exact Zj3 _
theorem run44a:∀ (l:List UInt8),l.length≤1000000→(cRun (cx1 tbA 65 2 (S61 45 (fun z=>letrI z || digI z) l)) 60).call 44 [.bv l,.fn (.func 45) [] []] .leaf 0 (ResM Tryd.prog false (.int .i64 (runN (fun z=>letrI z || digI z) l))) :=
 Eq.mpr (by kernel_rfl) run44a_r
theorem run44b_r:∀ (l:List UInt8),qak l→(∃ (x0:Nat),I61 digI l x0∧true=true∧(qal l x0)∧qZ∧True)∧∀ (x:Nat),I61 digI l x→qcu x l (qaf x l (True∧brP (!bar (digI (qo l x))) (true=true∧(↑x:Int)=(↑(runN digI l):Int)) (q3 x (∃ (x':Nat),I61 digI l x'∧qbs l x' x∧true=true∧(qan l x x')∧qZ∧True)))) (true=true∧qaT l=(↑(runN digI l):Int))
:=by
 delta qo qZ q3 qaf qak qal qan qaT qbs qcu
 exact Zj3 _
theorem run44b:∀ (l:List UInt8),l.length≤1000000→(cRun (cx1 tbA 65 2 (S61 46 digI l)) 60).call 44 [.bv l,.fn (.func 46) [] []] .leaf 0 (ResM Tryd.prog false (.int .i64 (runN digI l))) :=
 Eq.mpr (by kernel_rfl) run44b_r
noncomputable def qar:=(fun (v1:Int)=>!decide (v1=(10:Int)))
theorem run44c_r:∀ (l:List UInt8),qak l→(∃ (x0:Nat),I61 qar l x0∧true=true∧(qal l x0)∧qZ∧True)∧∀ (x:Nat),I61 qar l x→qcu x l (qaf x l (True∧brP (!bar !decide ((qo l x)=(10:Int))) (true=true∧(↑x:Int)=(↑(runN qar l):Int)) (q3 x (∃ (x':Nat),I61 qar l x'∧qbs l x' x∧true=true∧(qan l x x')∧qZ∧True)))) (true=true∧qaT l=(↑(runN qar l):Int))
:=by
 delta qo qZ q3 qaf qak qal qan qar qaT qbs qcu
 exact Zj3 _
theorem run44c:∀ (l:List UInt8),l.length≤1000000→(cRun (cx1 tbA 65 2 (S61 47 (fun z=>!decide (z=10)) l)) 60).call 44 [.bv l,.fn (.func 47) [] []] .leaf 0 (ResM Tryd.prog false (.int .i64 (runN (fun z=>!decide (z=10)) l))) :=
 Eq.mpr (by kernel_rfl) run44c_r
def e44:Tr AObj→List AV→Option Ct:=fun _ args=>match args with
 | [.bv l,.fn (.func g) [] []]=>cond (Nat.beq g 45) (some (.need (l.length≤1000000) (.ret (.int .i64 (runN (fun z=>letrI z || digI z) l)))))
  (cond (Nat.beq g 46) (some (.need (l.length≤1000000) (.ret (.int .i64 (runN digI l)))))
  (cond (Nat.beq g 47) (some (.need (l.length≤1000000) (.ret (.int .i64 (runN (fun z=>!decide (z=10)) l))))) none))
 | _=>none
theorem ok44:EntOK Tryd.prog 44 e44:=by
 refine QW (gl:=[]) (ng:=0) gl0 fun H args ct hct=>?_
 unfold e44 at hct
 split at hct
 ·rename_i l g
  refine ⟨gl0,⟨rfl,⟨Nat.beq_refl g,trivial,trivial⟩,trivial⟩,?_⟩
  cases h1:Nat.beq g 45 with
  | true =>
   rw [h1] at hct
   obtain rfl:=Nat.eq_of_beq_eq_true h1
   injection hct with hct;subst hct
   exact ⟨_,_,rfl,fun hp=>⟨cx1 tbA 65 2 (S61 45 (fun z=>letrI z || digI z) l),60,rfl,fol,Zfn,run44a l hp⟩⟩
  | false =>
   rw [h1] at hct
   cases h2:Nat.beq g 46 with
   | true =>
    rw [h2] at hct
    obtain rfl:=Nat.eq_of_beq_eq_true h2
    injection hct with hct;subst hct
    exact ⟨_,_,rfl,fun hp=>⟨cx1 tbA 65 2 (S61 46 digI l),60,rfl,fol,Zfn,run44b l hp⟩⟩
   | false =>
    rw [h2] at hct
    cases h3:Nat.beq g 47 with
    | true =>
     rw [h3] at hct
     obtain rfl:=Nat.eq_of_beq_eq_true h3
     injection hct with hct;subst hct
     exact ⟨_,_,rfl,fun hp=>⟨cx1 tbA 65 2 (S61 47 (fun z=>!decide (z=10)) l),60,rfl,fol,Zfn,run44c l hp⟩⟩
    | false=>rw [h3] at hct;cases hct
 ·cases hct
end Go.Proofs.YtlmmbanfhjaioaaDoor
end
section
set_option maxRecDepth 100000
set_option linter.unusedSimpArgs false
open Go Go.Ev
namespace Go.Proofs.YtlmmbanfhjaioaaDoor
noncomputable def tbB:Tbl:=(44,e44) :: tbA
def markI (z:Int):Bool:=decide (z=61) || decide (z=123) || decide (z=125) || decide (z=40) || decide (z=41) || decide (z=91) || decide (z=93) || decide (z=59) || decide (z=46) || decide (z=43) || decide (z=45) || decide (z=42) || decide (z=60)
def nxT:List UInt8→Int×Nat
 | []=>(0,0)
 | b :: t=>if letrI (b.toNat:Int) then (1,runN (fun z=>letrI z || digI z) (b :: t)) else if digI (b.toNat:Int) then (3,runN digI (b :: t))
  else if (b.toNat:Int)=35 then (0,runN (fun z=>!decide (z=10)) (b :: t))
  else if (b.toNat:Int)=61∧1≤t.length∧((t.getD 0 0).toNat:Int)=61 then (4,2) else if markI (b.toNat:Int) then (4,1) else (0,1)
def mkT' (l:List UInt8):Nat→Int:=fun k=>if ((l.getD k 0).toNat:Int)=61∧k + 1 < l.length∧((l.getD (k + 1) 0).toNat:Int)=61 then 2 else if markI ((l.getD k 0).toNat:Int) then 1 else 0
noncomputable def e26:Tr AObj→List AV→Option Ct:=fun _ args=>match args with
 | [.bv l,.bv [z]]=>some (.need True (.ret (.int .i64 (Lib.countByte l z))))
 | _=>none
noncomputable def e27:Tr AObj→List AV→Option Ct:=fun _ args=>match args with
 | [.bv l,.int .u8 c]=>some (.need (l.length≤1000000) (.ret (.int .i64 (lastI l c l.length))))
 | _=>none
noncomputable def e28:Tr AObj→List AV→Option Ct:=fun _ args=>match args with
 | [.bv l]=>some (.need (l≠[]∧l.length≤1000000) (.ret (.tup [.int .i64 (barr (nxT l).1),.int .i64 (barr (nxT l).2:Nat)])))
 | _=>none
noncomputable def e33:Tr AObj→List AV→Option Ct:=fun _ args=>match args with
 | [.bv l,.int .i64 z]=>some (.need (0≤z∧z < l.length∧l.length≤1000000) (.ret (.int .i64 (barr (mkT' l z.toNat)))))
 | _=>none
theorem run26_r:∀ (l:List UInt8) (z:UInt8),sdA (inR .u8 (↑(UInt8.toNat (List.getD [z] 0 (0:UInt8))):Int)) (true=true∧Int.ofNat (Lib.countByte l (UInt8.ofNat (Int.toNat (↑(UInt8.toNat (List.getD [z] 0 (0:UInt8))):Int))))=(↑(Lib.countByte l z):Int))
:= by
 intro l z
 simp only [List.getD_cons_zero,Int.toNat_natCast,UInt8.ofNat_toNat]
 refine Zd (Zf6.2 ?_) ⟨trivial,rfl⟩
 have:=z.toNat_lt
 omega
theorem run26:∀ (l:List UInt8) (z:UInt8),(cRun (cxA tbB) 60).call 25 [.bv l,.bv [z]] .leaf 0 (ResM Tryd.prog false (.int .i64 (Lib.countByte l z))) :=
 Eq.mpr (by kernel_rfl) run26_r
theorem run27_r:∀ (l:List UInt8) (z:Int),qak l→qak l∧true=true∧lastI l z l.length=lastI l z l.length
:= by
 delta qak
 intro l z hl
 exact ⟨hl,rfl,rfl⟩
theorem run27:∀ (l:List UInt8) (z:Int),l.length≤1000000→(cRun (cxA tbB) 60).call 26 [.bv l,.int .u8 z] .leaf 0 (ResM Tryd.prog false (.int .i64 (lastI l z l.length))) :=
 Eq.mpr (by kernel_rfl) run27_r
noncomputable def qj (a:UInt8) (b:List UInt8):=((true=true∧(4:Int)=Prod.fst (nxT (a :: b)))∧(true=true∧(1:Int)=(↑(Prod.snd (nxT (a :: b))):Int))∧True)
noncomputable def qD (a:UInt8) (b:List UInt8):=(↑(UInt8.toNat (List.getD (a :: b) 0 (0:UInt8))):Int)
noncomputable def qbB (a:UInt8) (b:List UInt8):=List.length (a :: b)
noncomputable def qb7 (a:UInt8) (b:List UInt8):=(↑(Prod.snd (nxT (a :: b))):Int)
theorem run28_r:∀ (b:UInt8) (t:List UInt8),Nat.le (qbB b t) 1000000→sdA (inB (0:Int) (qbB b t)) (True∧brP (bar (letrI (qD b t))) (Nat.le (qbB b t) 1000000∧(true=true∧(1:Int)=Prod.fst (nxT (b :: t)))∧(true=true∧(↑(runN qaL (b :: t)):Int)=(qb7 b t))∧True) (sdA (inB (0:Int) (qbB b t)) (True∧brP (bar (digI (qD b t))) (Nat.le (qbB b t) 1000000∧(true=true∧(3:Int)=Prod.fst (nxT (b :: t)))∧(true=true∧(↑(runN digI (b :: t)):Int)=(qb7 b t))∧True) (sdA (inB (0:Int) (qbB b t)) (brP (ieq (qD b t) (35:Int)) (Nat.le (qbB b t) 1000000∧(true=true∧(0:Int)=Prod.fst (nxT (b :: t)))∧(true=true∧(↑(runN qar (b :: t)):Int)=(qb7 b t))∧True) (sdA (inB (0:Int) (qbB b t)) (brP (ieq (qD b t) (61:Int)) (brP (ilt (1:Int) (Int.ofNat (qbB b t))) (sdA (inB (1:Int) (qbB b t)) (brP (ieq (↑(UInt8.toNat (List.getD (b :: t) 1 (0:UInt8))):Int) (61:Int)) ((true=true∧(4:Int)=Prod.fst (nxT (b :: t)))∧(true=true∧(2:Int)=(qb7 b t))∧True) (qj b t))) (qj b t)) (brP (ieq (qD b t) (123:Int)) (qj b t) (brP (ieq (qD b t) (125:Int)) (qj b t) (brP (ieq (qD b t) (40:Int)) (qj b t) (brP (ieq (qD b t) (41:Int)) (qj b t) (brP (ieq (qD b t) (91:Int)) (qj b t) (brP (ieq (qD b t) (93:Int)) (qj b t) (brP (ieq (qD b t) (59:Int)) (qj b t) (brP (ieq (qD b t) (46:Int)) (qj b t) (brP (ieq (qD b t) (43:Int)) (qj b t) (brP (ieq (qD b t) (45:Int)) (qj b t) (brP (ieq (qD b t) (42:Int)) (qj b t) (brP (ieq (qD b t) (60:Int)) (qj b t) ((true=true∧(0:Int)=Prod.fst (nxT (b :: t)))∧(true=true∧(1:Int)=(qb7 b t))∧True))))))))))))))))))))
:= by
 delta qj qD qar qaL qbB qb7
 intro b t hl
 have hb:inB (0:Int) (b :: t).length=true:=ZD.2 (by simp)
 have h1:ilt (1:Int) (Int.ofNat (b :: t).length)=decide (1≤t.length):=by rw [YL];simp;omega
 have hb1:1≤t.length→inB (1:Int) (b :: t).length=true:=fun h=>ZD.2 (by simp;omega)
 rw [h1]
 simp only [List.getD_cons_zero,List.getD_cons_succ,Zs,nxT]
 generalize hz:(b.toNat:Int)=z
 generalize hy:((t.getD 0 0).toNat:Int)=y
 repeat' first
  | exact trivial
  | exact (rfl:true=true)
  | refine Zd ?_ ?_
  | refine Zc (fun _=>?_) (fun _=>?_)
  | refine And.intro ?_ ?_
 all_goals first
  | exact hl
  | exact hb
  | (exact hb1 (of_decide_eq_true (by assumption)))
  | (simp_all [markI,YL,Yc];done)
theorem run28:∀ (b:UInt8) (t:List UInt8),(b :: t).length≤1000000→(cRun (cxA tbB) 80).call 27 [.bv (b :: t)] .leaf 0 (ResM Tryd.prog false (.tup [.int .i64 (nxT (b :: t)).1,.int .i64 (nxT (b :: t)).2])) :=
 Eq.mpr (by kernel_rfl) run28_r
@[reducible] def UR:List UInt8→Nat→Prop:=fun (l:List UInt8) (z:Nat)=>(((True∧True)∧True)∧True)∧brP (ieq (↑(UInt8.toNat (List.getD l (Int.toNat (↑z:Int)) (0:UInt8))):Int) (123:Int)) (true=true∧(1:Int)=mkT' l z) (sdA (inB (↑z:Int) l.length) ((((True∧True)∧True)∧True)∧brP (ieq (↑(UInt8.toNat (List.getD l (Int.toNat (↑z:Int)) (0:UInt8))):Int) (125:Int)) (true=true∧(1:Int)=mkT' l z) (sdA (inB (↑z:Int) l.length) ((((True∧True)∧True)∧True)∧brP (ieq (↑(UInt8.toNat (List.getD l (Int.toNat (↑z:Int)) (0:UInt8))):Int) (40:Int)) (true=true∧(1:Int)=mkT' l z) (sdA (inB (↑z:Int) l.length) ((((True∧True)∧True)∧True)∧brP (ieq (↑(UInt8.toNat (List.getD l (Int.toNat (↑z:Int)) (0:UInt8))):Int) (41:Int)) (true=true∧(1:Int)=mkT' l z) (sdA (inB (↑z:Int) l.length) ((((True∧True)∧True)∧True)∧brP (ieq (↑(UInt8.toNat (List.getD l (Int.toNat (↑z:Int)) (0:UInt8))):Int) (91:Int)) (true=true∧(1:Int)=mkT' l z) (sdA (inB (↑z:Int) l.length) ((((True∧True)∧True)∧True)∧brP (ieq (↑(UInt8.toNat (List.getD l (Int.toNat (↑z:Int)) (0:UInt8))):Int) (93:Int)) (true=true∧(1:Int)=mkT' l z) (sdA (inB (↑z:Int) l.length) ((((True∧True)∧True)∧True)∧brP (ieq (↑(UInt8.toNat (List.getD l (Int.toNat (↑z:Int)) (0:UInt8))):Int) (59:Int)) (true=true∧(1:Int)=mkT' l z) (sdA (inB (↑z:Int) l.length) ((((True∧True)∧True)∧True)∧brP (ieq (↑(UInt8.toNat (List.getD l (Int.toNat (↑z:Int)) (0:UInt8))):Int) (46:Int)) (true=true∧(1:Int)=mkT' l z) (sdA (inB (↑z:Int) l.length) ((((True∧True)∧True)∧True)∧brP (ieq (↑(UInt8.toNat (List.getD l (Int.toNat (↑z:Int)) (0:UInt8))):Int) (61:Int)) (true=true∧(1:Int)=mkT' l z) (sdA (inB (↑z:Int) l.length) ((((True∧True)∧True)∧True)∧brP (ieq (↑(UInt8.toNat (List.getD l (Int.toNat (↑z:Int)) (0:UInt8))):Int) (43:Int)) (true=true∧(1:Int)=mkT' l z) (sdA (inB (↑z:Int) l.length) ((((True∧True)∧True)∧True)∧brP (ieq (↑(UInt8.toNat (List.getD l (Int.toNat (↑z:Int)) (0:UInt8))):Int) (45:Int)) (true=true∧(1:Int)=mkT' l z) (sdA (inB (↑z:Int) l.length) ((((True∧True)∧True)∧True)∧brP (ieq (↑(UInt8.toNat (List.getD l (Int.toNat (↑z:Int)) (0:UInt8))):Int) (42:Int)) (true=true∧(1:Int)=mkT' l z) (sdA (inB (↑z:Int) l.length) ((((True∧True)∧True)∧True)∧brP (ieq (↑(UInt8.toNat (List.getD l (Int.toNat (↑z:Int)) (0:UInt8))):Int) (60:Int)) (true=true∧(1:Int)=mkT' l z) (true=true∧(0:Int)=mkT' l z)))))))))))))))))))))))))
theorem run33_r:∀ (l:List UInt8) (z:Nat),qN z l.length→qak l→q3 z (brP (ilt ((↑z:Int) + 1) (qaT l)) (qaf z l (brP (ieq (qo l z) (61:Int)) (q3 z (sdA (inB ((↑z:Int) + 1) l.length) (brP (ieq (↑(UInt8.toNat (List.getD l (Int.toNat ((↑z:Int) + 1)) (0:UInt8))):Int) (61:Int)) (true=true∧(2:Int)=mkT' l z) (qaf z l (UR l z))))) (qaf z l (UR l z)))) (qaf z l (UR l z)))
:= by
 delta qo qN q3 qaf qak qaT
 intro l z hz hl
 simp only [Int.toNat_natCast,show Int.toNat ((z:Int) + 1)=z + 1 from by omega]
 have hb:inB (z:Int) l.length=true:=ZD.2 (by have:z < l.length:=hz;omega)
 generalize hy:((l.getD z 0).toNat:Int)=y
 repeat' first
  | exact trivial
  | exact (rfl:true=true)
  | refine Zd ?_ ?_
  | refine Zc (fun _=>?_) (fun _=>?_)
  | refine And.intro ?_ ?_
 all_goals first
  | exact hb
  | (simp_all [mkT',markI,YL,Yc,Zv,ZD];done)
  | (simp_all [mkT',markI,YL,Yc,Zv,ZD];omega)
theorem run33:∀ (l:List UInt8) (z:Nat),z < l.length→l.length≤1000000→(cRun (cxA tbB) 120).call 15 [.bv l,.int .i64 z] .leaf 0 (ResM Tryd.prog false (.int .i64 (mkT' l z))) :=
 Eq.mpr (by kernel_rfl) run33_r
theorem Zcm:TbOK Tryd.prog tbB:=ZT ok44 Zfn
theorem ok26:EntOK Tryd.prog 25 e26:=by
 refine QW (gl:=[]) (ng:=0) gl0 fun H args ct hct=>?_
 unfold e26 at hct
 split at hct
 ·rename_i l z
  injection hct with hct;subst hct
  exact ⟨gl0,⟨rfl,rfl,trivial⟩,_,_,rfl,fun hp=>⟨cxA tbB,60,rfl,fol,Zcm,run26 l z⟩⟩
 ·cases hct
theorem ok27:EntOK Tryd.prog 26 e27:=by
 refine QW (gl:=[]) (ng:=0) gl0 fun H args ct hct=>?_
 unfold e27 at hct
 split at hct
 ·rename_i l c
  injection hct with hct;subst hct
  exact ⟨gl0,⟨rfl,⟨rfl,rfl⟩,trivial⟩,_,_,rfl,fun hp=>⟨cxA tbB,60,rfl,fol,Zcm,run27 l c hp⟩⟩
 ·cases hct
theorem ok28:EntOK Tryd.prog 27 e28:=by
 refine QW (gl:=[]) (ng:=0) gl0 fun H args ct hct=>?_
 unfold e28 at hct
 split at hct
 ·rename_i l
  injection hct with hct;subst hct
  refine ⟨gl0,⟨rfl,trivial⟩,_,_,rfl,fun hp=>⟨cxA tbB,80,rfl,fol,Zcm,?_⟩⟩
  rw [Zi,Zi]
  cases l with
  | nil=>exact absurd rfl hp.1
  | cons b t=>exact run28 b t hp.2
 ·cases hct
theorem ok33:EntOK Tryd.prog 15 e33:=by
 refine QW (gl:=[]) (ng:=0) gl0 fun H args ct hct=>?_
 unfold e33 at hct
 split at hct
 ·rename_i l z
  injection hct with hct;subst hct
  refine ⟨gl0,⟨rfl,⟨rfl,rfl⟩,trivial⟩,_,_,rfl,fun hp=>⟨cxA tbB,120,rfl,fol,Zcm,?_⟩⟩
  have:=run33 l z.toNat (by omega) hp.2.2
  rw [Zi]
  rwa [Int.toNat_of_nonneg hp.1] at this
 ·cases hct
end Go.Proofs.YtlmmbanfhjaioaaDoor
end
section
set_option maxRecDepth 100000
set_option linter.unusedSimpArgs false
open Go Go.Ev
namespace Go.Proofs.YtlmmbanfhjaioaaDoor
noncomputable def tbC:Tbl:=(25,e26) :: (26,e27) :: (27,e28) :: (15,e33) :: tbB
def numG:Int→List UInt8→Int×Bool
 | n,[]=>if n≤2147483647 then (n,true) else (0,false)
 | n,b :: t=>if digI (b.toNat:Int) then numG (10 * n + ((b.toNat:Int) - 48)) t else (0,false)
def numT (l:List UInt8):Int×Bool:=if l=[] then (0,false) else numG 0 l
structure I20 (l:List UInt8) (x:Nat×Int):Prop where
 le:x.1≤l.length
 lo:0≤x.2
 hi:x.2≤1099511627776
 ans:numG x.2 (l.drop x.1)=numG 0 l
def S20 (l:List UInt8):Stn:={ X:=Nat×Int,T:=fun _ _ x=>[(0,.bs l),(4,.int .i64 x.2),(7,.int .i64 l.length),(8,.int .i64 x.1)],H:=fun _ _ _=>[],nx:=fun _ n0=>n0,I:=fun _=>I20 l,m:=fun x=>l.length - x.1 }
def S21 (l:List UInt8):Stn:={ X:=Nat×Int,T:=fun _ _ x=>[(0,.bs l),(4,.int .i64 x.2),(5,.int .i64 x.1)],H:=fun _ _ _=>[],nx:=fun _ n0=>n0,I:=fun _=>I20 l,m:=fun x=>l.length - x.1 }
noncomputable def e20:Tr AObj→List AV→Option Ct:=fun _ args=>match args with
 | [.bs l]=>some (.need (l.length≤1000000) (.ret (.tup [.int .i64 (numT l).1,.bool (bar (numT l).2)])))
 | _=>none
theorem Jj (l:List UInt8) (k:Nat) (h:k < l.length):l.drop k=l.getD k 0 :: l.drop (k + 1):=by
 rw [List.drop_eq_getElem_cons h,List.getD_eq_getElem?_getD,List.getElem?_eq_getElem h];rfl
theorem Zbo {z:Int}:digI z=true↔48≤z∧z≤57:=by unfold digI;exact decide_eq_true_iff
theorem KJ:∀ (l:List UInt8) (n:Int),2147483647 < n→numG n l=(0,false)
 | [],n,h=>by rw [numG,if_neg (by omega)]
 | b :: t,n,h=>by
  rw [numG]
  by_cases hd:digI (b.toNat:Int)=true
  ·rw [if_pos hd]
   have:=Zbo.1 hd
   exact KJ t _ (by omega)
  ·rw [if_neg hd]
noncomputable def qV (a:List UInt8):=((true=true∧(0:Int)=Prod.fst (numT a))∧false=Prod.snd (numT a)∧True)
noncomputable def qbt (a:Nat):=(true=true∧(0:Int)=(↑a:Int))
noncomputable def qbx (a:List UInt8) (b:Int):=brP (decide (a=[])) (qV a) (brP (ilt (2147483647:Int) b) (qV a) ((true=true∧b=Prod.fst (numT a))∧true=Prod.snd (numT a)∧True))
noncomputable def qbK (a:Nat) (b:Nat):=(true=true∧(↑a:Int) + 1=(↑b:Int))
theorem run20_r:∀ (l:List UInt8),qak l→(∃ (x0:Nat×Int),I20 l x0∧true=true∧(l=l∧(true=true∧(0:Int)=x0.2)∧(true=true∧qaT l=(↑l.length:Int))∧(qbt x0.1)∧True)∧True)∧∀ (x:Nat×Int),I20 l x→qcu x.1 l (qaf x.1 l (True∧brP (!bar (digI (qo l x.1))) (qV l) (brP (ilt (2147483647:Int) x.2) (qV l) (sdA (inR .i64 ((10:Int) * x.2)) (qaf x.1 l (sdA (inR .u8 ((qo l x.1) - 48)) (sdA (inR .i64 ((qo l x.1) - 48)) (sdA (inR .i64 ((10:Int) * x.2 + ((qo l x.1) - 48))) (q3 x.1 (∃ (x':Nat×Int),I20 l x'∧qbs l x'.1 x.1∧true=true∧(l=l∧(true=true∧(10:Int) * x.2 + ((qo l x.1) - 48)=x'.2)∧(true=true∧(↑l.length:Int)=(↑l.length:Int))∧(qbK x.1 x'.1)∧True)∧True)))))))))) (qbx l x.2)
:= by
 delta qo qV q3 qaf qak qaT qbs qbt qbx qbK qcu
 intro l hl
 simp only [Nat.le_eq] at hl
 simp only [show bytesL (List.length (Array.toList (ByteArray.data (ByteArray.mk #[])))) (packL (Array.toList (ByteArray.data (ByteArray.mk #[]))))=[] from rfl,Zs,eq_self,true_and,and_true,Int.toNat_natCast,Int.ofNat_eq_natCast]
 refine ⟨⟨(0,0),⟨Nat.zero_le _,by decide,by decide,rfl⟩,rfl,rfl⟩,fun x hx=>?_⟩
 obtain ⟨k,n⟩:=x
 obtain ⟨h1,h2,h3,h4⟩:=hx
 simp only at h1 h2 h3 h4 ⊢
 refine Zc (fun h=>?_) fun h=>?_
 ·rw [ZR] at h
  have hd:=Jj l k (by omega)
  have hT:numT l=numG 0 l:=if_neg (by rintro rfl;simp at h;omega)
  rw [hd,numG] at h4
  rw [hT]
  have hb:inB (k:Int) l.length=true:=ZD.2 (by omega)
  generalize ((l.getD k 0).toNat:Int)=z at h4 ⊢
  refine Zd hb (Zc (fun hz=>?_) fun hz=>?_)
  ·rw [Bool.not_eq_true'] at hz
   rw [hz,if_neg (by simp)] at h4
   rw [← h4]
   exact ⟨rfl,rfl⟩
  ·rw [Bool.not_eq_false'] at hz
   rw [hz,if_pos rfl] at h4
   obtain ⟨hz1,hz2⟩:=Zbo.1 hz
   refine Zc (fun hn=>?_) fun hn=>?_
   ·rw [ZR] at hn
    rw [← h4,KJ _ _ (by omega)]
    exact ⟨rfl,rfl⟩
   ·rw [ZF] at hn
    refine Zd (Zv.2 (by omega)) (Zd hb (Zd (Zf6.2 (by omega)) (Zd (Zv.2 (by omega)) (Zd (Zv.2 (by omega)) (Zd (Zv.2 (by omega)) ?_)))))
    exact ⟨(k + 1,10 * n + (z - 48)),⟨by simp only;omega,by simp only;omega,by simp only;omega,h4⟩,by simp only [Nat.le_eq];omega,rfl,by simp⟩
 ·rw [ZF] at h
  obtain rfl:k=l.length:=by omega
  rw [List.drop_length,numG] at h4
  refine Zc (fun he=>?_) fun he=>?_
  ·rw [decide_eq_true_eq] at he
   subst he
   exact ⟨rfl,rfl⟩
  ·have hT:numT l=numG 0 l:=if_neg (by simpa using he)
   rw [hT,← h4]
   refine Zc (fun hn=>?_) fun hn=>?_
   ·rw [ZR] at hn
    rw [if_neg (by omega)]
    exact ⟨rfl,rfl⟩
   ·rw [ZF] at hn
    rw [if_pos hn]
    exact ⟨rfl,rfl⟩
theorem run20:∀ (l:List UInt8),l.length≤1000000→(cRun (cx1 tbC 48 3 (S20 l)) 60).call 48 [.bs l] .leaf 0 (ResM Tryd.prog false (.tup [.int .i64 (numT l).1,.bool (numT l).2])) :=
 Eq.mpr (by kernel_rfl) run20_r
theorem run21_r:∀ (l:List UInt8),qak l→(∃ (x0:Nat×Int),I20 l x0∧true=true∧(l=l∧(true=true∧(0:Int)=x0.2)∧(qbt x0.1)∧True)∧True)∧∀ (x:Nat×Int),I20 l x→brP (ilt (↑x.1:Int) (qaT l)) (qaf x.1 l (True∧brP (!bar (digI (qo l x.1))) (qV l) (sdA (inR .i64 ((10:Int) * x.2)) (qaf x.1 l (sdA (inR .u8 ((qo l x.1) - 48)) (sdA (inR .i64 ((qo l x.1) - 48)) (sdA (inR .i64 ((10:Int) * x.2 + ((qo l x.1) - 48))) (q3 x.1 (∃ (x':Nat×Int),I20 l x'∧qbs l x'.1 x.1∧true=true∧(l=l∧(true=true∧(bif ilt (1099511627776:Int) ((10:Int) * x.2 + ((qo l x.1) - 48)) then (1099511627776:Int) else (10:Int) * x.2 + ((qo l x.1) - 48))=x'.2)∧(qbK x.1 x'.1)∧True)∧True))))))))) (qbx l x.2)
:= by
 delta qo qV q3 qaf qak qaT qbs qbt qbx qbK
 intro l hl
 simp only [Nat.le_eq] at hl
 simp only [show bytesL (List.length (Array.toList (ByteArray.data (ByteArray.mk #[])))) (packL (Array.toList (ByteArray.data (ByteArray.mk #[]))))=[] from rfl,Zs,eq_self,true_and,and_true,Int.toNat_natCast,Int.ofNat_eq_natCast]
 refine ⟨⟨(0,0),⟨Nat.zero_le _,by decide,by decide,rfl⟩,rfl,rfl⟩,fun x hx=>?_⟩
 obtain ⟨k,n⟩:=x
 obtain ⟨h1,h2,h3,h4⟩:=hx
 simp only at h1 h2 h3 h4 ⊢
 refine Zc (fun h=>?_) fun h=>?_
 ·rw [ZR] at h
  have hd:=Jj l k (by omega)
  have hT:numT l=numG 0 l:=if_neg (by rintro rfl;simp at h;omega)
  rw [hd,numG] at h4
  rw [hT]
  have hb:inB (k:Int) l.length=true:=ZD.2 (by omega)
  generalize ((l.getD k 0).toNat:Int)=z at h4 ⊢
  refine Zd hb (Zc (fun hz=>?_) fun hz=>?_)
  ·rw [Bool.not_eq_true'] at hz
   rw [hz,if_neg (by simp)] at h4
   rw [← h4]
   exact ⟨rfl,rfl⟩
  ·rw [Bool.not_eq_false'] at hz
   rw [hz,if_pos rfl] at h4
   obtain ⟨hz1,hz2⟩:=Zbo.1 hz
   refine Zd (Zv.2 (by omega)) (Zd hb (Zd (Zf6.2 (by omega)) (Zd (Zv.2 (by omega)) (Zd (Zv.2 (by omega)) (Zd (Zv.2 (by omega)) ?_)))))
   cases hc:ilt (1099511627776:Int) (10 * n + (z - 48)) with
   | true =>
    rw [ZR] at hc
    rw [KJ _ _ (by omega)] at h4
    exact ⟨(k + 1,1099511627776),⟨by simp only;omega,by simp only;omega,by simp only;omega,by rw [← h4];exact KJ _ _ (by simp)⟩,by simp only [Nat.le_eq];omega,rfl,by simp⟩
   | false =>
    rw [ZF] at hc
    exact ⟨(k + 1,10 * n + (z - 48)),⟨by simp only;omega,by simp only;omega,by simp only;omega,h4⟩,by simp only [Nat.le_eq];omega,rfl,by simp⟩
 ·rw [ZF] at h
  obtain rfl:k=l.length:=by omega
  rw [List.drop_length,numG] at h4
  refine Zc (fun he=>?_) fun he=>?_
  ·rw [decide_eq_true_eq] at he
   subst he
   exact ⟨rfl,rfl⟩
  ·have hT:numT l=numG 0 l:=if_neg (by simpa using he)
   rw [hT,← h4]
   refine Zc (fun hn=>?_) fun hn=>?_
   ·rw [ZR] at hn
    rw [if_neg (by omega)]
    exact ⟨rfl,rfl⟩
   ·rw [ZF] at hn
    rw [if_pos hn]
    exact ⟨rfl,rfl⟩
theorem run21:∀ (l:List UInt8),l.length≤1000000→(cRun (cx1 tbC 14 3 (S21 l)) 60).call 14 [.bs l] .leaf 0 (ResM Tryd.prog false (.tup [.int .i64 (numT l).1,.bool (numT l).2])) :=
 Eq.mpr (by kernel_rfl) run21_r
end Go.Proofs.YtlmmbanfhjaioaaDoor
end
