/- Laid by program out of its parts: TyH. -/
import Derived.Test.YthallodoidghoaaTyG
set_option linter.unusedVariables false
set_option linter.unusedSimpArgs false
set_option maxRecDepth 100000
set_option maxHeartbeats 2000000
open Go Go.Ev
namespace Go.Proofs.Ythallodoidghoaa
noncomputable def rMean:REnt:=fun _ args=>match args with
 | [.agg [.vec 6 n f],.vec 1 m g,.int .i64 a]=>some ⟨Int×Int×Bool,(∃ (L:List LT) (U:List Int),n=L.length∧f=rowT L∧m=U.length∧g=rI U∧TU L U∧0≤a∧a < L.length),fun x=>∀ L:List LT,n=L.length→f=rowT L→0≤x.2.1∧x.2.1≤L.length∧(x.1=2→x.2.1 < countN L 6 L.length),fun x=>.tup [.agg [.int .i64 x.1,.int .i64 x.2.1],.bool x.2.2]⟩
 | _=>none
structure MQ (L:List LT) (x:Int×Int×Bool):Prop where
 lo:0≤x.2.1
 hi:x.2.1≤L.length
 gl:x.1=2→x.2.1 < countN L 6 L.length
noncomputable def SMn (L:List LT):Stn:=thin (Nat×Nat) [3,6,12] (fun x=>[(14,.int .i64 x.2),(15,.int .i64 x.1)]) (fun s x=>x.2≤x.1∧x.1≤L.length∧∀ d,s.T.get 12=some (.int .i64 d)→x.1≤d.toNat) fun x=>L.length - x.1
noncomputable def rtM:RTbl:=[(28,rDecl),(29,rLocal)]
theorem rtM_ok:RtOK Try.prog rtM:=rt_cons okDecl (rt_cons okLocal (rt_nil _))
noncomputable def cxM (L:List LT):Ctx:={ P:=Try.prog,tb:=[(30,oneI64 opensB),(11,eCount)],rt:=rtM,rok:=rtM_ok,lp:=fun f r=>cond (Nat.beq f 14) (cond (Nat.beq r 40) (some (SMn L)) none) none,cut:=fun _ _=>none }
theorem count_le (L:List LT) (k:Int):∀ n,countN L k n≤n
 | 0=>Nat.le_refl _
 | n + 1=>by
  have:=count_le L k n
  unfold countN;split <;> omega
theorem count_mono (L:List LT) (k:Int):∀ {m n},m≤n→countN L k m≤countN L k n
 | m,0,h=>by rw [show m=0 by omega];exact Nat.le_refl _
 | m,n + 1,h=>by
  rcases Nat.lt_or_ge n m with h1 | h1
  ·rw [show m=n + 1 by omega];exact Nat.le_refl _
  ·have:=count_mono L k h1
   rw [countN];omega
theorem count_lt {L:List LT} {k:Int} {d n:Nat} (h:d < n) (hk:(L.getD d LT.none).kind=k):countN L k d < countN L k n:=by
 have:=count_mono L k (show d + 1≤n from h)
 rw [countN,if_pos hk] at this
 omega
theorem kids_pos {L:List LT} (hG:Good L) {i:Nat} (hi:i < L.length) (hk:(L.getD i LT.none).kind=8∨(L.getD i LT.none).kind=10):0 < (L.getD i LT.none).kids.length:=by
 have h:=hG.kinds i hi
 rcases Nat.eq_zero_or_pos (L.getD i LT.none).kids.length with h0 | h0
 ·rw [List.length_eq_zero_iff] at h0
  rw [h0,List.map_nil] at h
  rcases hk with hk | hk
  ·rw [hk,show lettersL 8=[117,42,108] by decide,km_none _ (by decide) (by decide)] at h;cases h
  ·rw [hk,show lettersL 10=[117,98] by decide,km_none _ (by decide) (by decide)] at h;cases h
 ·exact h0
@[reducible] def TyH_runMean_k0:Int→Nat×Nat→Nat×Nat→Prop:=fun (a:Int) (a_1 a_2:Nat×Nat)=>(true=true∧(↑a_1.1:Int) + 1=(↑a_2.1:Int))∧(some 0=some 0∧true=true)∧(some 1=some 1∧true=true)∧(true=true∧a=a)∧True
@[reducible] def TyH_runMean_k1:List LT→Prop:=fun (L:List LT)=>(true=true∧true=true∧true=true∧true=true∧True∧true=true∧L.length=L.length∧AllI fun (i:Nat)=>Nat.le (Nat.succ i) L.length→(true=true∧LT.kind (List.getD L i LT.none)=LT.kind (List.getD L i LT.none))∧LT.text (List.getD L i LT.none)=LT.text (List.getD L i LT.none)∧(true=true∧LT.n (List.getD L i LT.none)=LT.n (List.getD L i LT.none))∧(true=true∧LT.line (List.getD L i LT.none)=LT.line (List.getD L i LT.none))∧(true=true∧LT.col (List.getD L i LT.none)=LT.col (List.getD L i LT.none))∧(true=true∧List.length (LT.kids (List.getD L i LT.none))=List.length (LT.kids (List.getD L i LT.none))∧AllI fun (i_1:Nat)=>Nat.le (Nat.succ i_1) (List.length (LT.kids (List.getD L i LT.none)))→(true=true∧List.getD (LT.kids (List.getD L i LT.none)) i_1 (0:Int)=List.getD (LT.kids (List.getD L i LT.none)) i_1 (0:Int))∧True)∧True)∧(true=true∧true=true∧true=true∧true=true∧(True∧true=true∧(0:Int)=(0:Int))∧true=true∧(0:Int)=(0:Int))∧(true=true∧True)∧(true=true∧True)∧True
@[reducible] def TyH_runMean_k2:List LT→Prop:=fun (L:List LT)=>(∃ (L_1:List LT),L.length=L_1.length∧rowT L=rowT L_1∧Nat.le L_1.length 1000000)∧∀ (x:Int),x=Int.negSucc 0∨(0:Int)≤x∧x < (↑L.length:Int)→brP (!ilt x (0:Int)) (sdA (inB x L.length) ((((True∧True∧True∧True)∧True)∧True)∧brP (!ieq (LT.kind (List.getD L (Int.toNat x) LT.none)) (10:Int)) (∃ (x:Int×Int×Bool),MQ L x∧((true=true∧(0:Int)=x.1)∧(true=true∧(0:Int)=x.2.1)∧True)∧false=x.2.2∧True) ((∃ (L_1:List LT),L.length=L_1.length∧rowT L=rowT L_1∧Nat.le L_1.length 1000000∧Int.NonNeg (x - 0)∧Int.NonNeg ((↑L_1.length:Int) - x))∧∃ (x_1:Int×Int×Bool),MQ L x_1∧((true=true∧(6:Int)=x_1.1)∧(true=true∧barr (↑(countN (rowTs L.length (rowT L)) (10:Int) (Int.toNat x)):Int)=x_1.2.1)∧True)∧true=x_1.2.2∧True))) (∃ (x:Int×Int×Bool),MQ L x∧((true=true∧(0:Int)=x.1)∧(true=true∧(0:Int)=x.2.1)∧True)∧false=x.2.2∧True)
@[reducible] def TyH_runMean_k3:List LT→Prop:=fun (L:List LT)=>(∃ (L_1:List LT),L.length=L_1.length∧rowT L=rowT L_1∧Nat.le L_1.length 1000000)∧∀ (x:Int),x=Int.negSucc 0∨(0:Int)≤x∧x < (↑L.length:Int)→brP (!ilt x (0:Int)) (sdA (inB x L.length) ((((True∧True∧True∧True)∧True)∧True)∧brP (!ieq (LT.kind (List.getD L (Int.toNat x) LT.none)) (3:Int)) (∃ (x:Int×Int×Bool),MQ L x∧((true=true∧(0:Int)=x.1)∧(true=true∧(0:Int)=x.2.1)∧True)∧false=x.2.2∧True) ((∃ (L_1:List LT),L.length=L_1.length∧rowT L=rowT L_1∧Nat.le L_1.length 1000000∧Int.NonNeg (x - 0)∧Int.NonNeg ((↑L_1.length:Int) - x))∧∃ (x_1:Int×Int×Bool),MQ L x_1∧((true=true∧(5:Int)=x_1.1)∧(true=true∧barr (↑(countN (rowTs L.length (rowT L)) (3:Int) (Int.toNat x)):Int)=x_1.2.1)∧True)∧true=x_1.2.2∧True))) (∃ (x:Int×Int×Bool),MQ L x∧((true=true∧(0:Int)=x.1)∧(true=true∧(0:Int)=x.2.1)∧True)∧false=x.2.2∧True)
@[reducible] def TyH_runMean_k4:List LT→Prop:=fun (L:List LT)=>(∃ (L_1:List LT),L.length=L_1.length∧rowT L=rowT L_1∧Nat.le L_1.length 1000000)∧∀ (x:Int),x=Int.negSucc 0∨(0:Int)≤x∧x < (↑L.length:Int)→brP (!ilt x (0:Int)) (sdA (inB x L.length) ((((True∧True∧True∧True)∧True)∧True)∧brP (!ieq (LT.kind (List.getD L (Int.toNat x) LT.none)) (2:Int)) (∃ (x:Int×Int×Bool),MQ L x∧((true=true∧(0:Int)=x.1)∧(true=true∧(0:Int)=x.2.1)∧True)∧false=x.2.2∧True) ((∃ (L_1:List LT),L.length=L_1.length∧rowT L=rowT L_1∧Nat.le L_1.length 1000000∧Int.NonNeg (x - 0)∧Int.NonNeg ((↑L_1.length:Int) - x))∧∃ (x_1:Int×Int×Bool),MQ L x_1∧((true=true∧(4:Int)=x_1.1)∧(true=true∧barr (↑(countN (rowTs L.length (rowT L)) (2:Int) (Int.toNat x)):Int)=x_1.2.1)∧True)∧true=x_1.2.2∧True))) (∃ (x:Int×Int×Bool),MQ L x∧((true=true∧(0:Int)=x.1)∧(true=true∧(0:Int)=x.2.1)∧True)∧false=x.2.2∧True)
@[reducible] def TyH_runMean_k5:List LT→List Int→Nat→Prop:=fun (L:List LT) (U:List Int) (a:Nat)=>(∃ (L_1:List LT),∃ (U_1:List Int),L.length=L_1.length∧rowT L=rowT L_1∧U.length=U_1.length∧rI U=rI U_1∧TU L_1 U_1∧Int.NonNeg ((↑a:Int) - 0)∧Int.NonNeg ((↑L_1.length:Int) - ((↑a:Int) + 1)))∧∀ (x:Int),x=Int.negSucc 0∨(0:Int)≤x∧x < (↑L.length:Int)→brP (!ilt x (0:Int)) (∃ (x_1:Int×Int×Bool),MQ L x_1∧((true=true∧(1:Int)=x_1.1)∧(true=true∧x=x_1.2.1)∧True)∧true=x_1.2.2∧True) ((∃ (L_1:List LT),L.length=L_1.length∧rowT L=rowT L_1∧Nat.le L_1.length 1000000)∧∀ (x:Int),x=Int.negSucc 0∨(0:Int)≤x∧x < (↑L.length:Int)→brP (!ilt x (0:Int)) (sdA (inB x L.length) ((((True∧True∧True∧True)∧True)∧True)∧brP (!ieq (LT.kind (List.getD L (Int.toNat x) LT.none)) (6:Int)) (brP (!ilt x (0:Int)) (sdA (inB x L.length) ((((True∧True∧True∧True)∧True)∧True)∧brP (!ieq (LT.kind (List.getD L (Int.toNat x) LT.none)) (7:Int)) (∃ (x:Int×Int×Bool),MQ L x∧((true=true∧(0:Int)=x.1)∧(true=true∧(0:Int)=x.2.1)∧True)∧false=x.2.2∧True) ((∃ (x0:Nat×Nat),(Nat.le x0.2 x0.1∧Nat.le x0.1 L.length∧∀ (d:Int),some (AV.int .i64 x)=some (AV.int .i64 d)→Nat.le x0.1 (Int.toNat d))∧true=true∧((true=true∧(0:Int)=(↑x0.2:Int))∧(true=true∧(0:Int)=(↑x0.1:Int))∧(some 0=some 0∧true=true)∧(some 1=some 1∧true=true)∧(true=true∧x=x)∧True)∧TyH_runMean_k1 L)∧∀ (x_1:Nat×Nat),(Nat.le x_1.2 x_1.1∧Nat.le x_1.1 L.length∧∀ (d:Int),some (AV.int .i64 x)=some (AV.int .i64 d)→Nat.le x_1.1 (Int.toNat d))→brP (ilt (↑x_1.1:Int) x) (sdA (inB (↑x_1.1:Int) L.length) (True∧brP (bar (opensB (LT.kind (List.getD L (Int.toNat (↑x_1.1:Int)) LT.none)))) (sdA (inR .i64 ((↑x_1.2:Int) + 1)) (sdA (inR .i64 ((↑x_1.1:Int) + 1)) (∃ (x':Nat×Nat),(Nat.le x'.2 x'.1∧Nat.le x'.1 L.length∧∀ (d:Int),some (AV.int .i64 x)=some (AV.int .i64 d)→Nat.le x'.1 (Int.toNat d))∧Nat.le (Nat.succ (L.length - x'.1)) (L.length - x_1.1)∧true=true∧((true=true∧(↑x_1.2:Int) + 1=(↑x'.2:Int))∧TyH_runMean_k0 x x_1 x')∧TyH_runMean_k1 L))) (sdA (inR .i64 ((↑x_1.1:Int) + 1)) (∃ (x':Nat×Nat),(Nat.le x'.2 x'.1∧Nat.le x'.1 L.length∧∀ (d:Int),some (AV.int .i64 x)=some (AV.int .i64 d)→Nat.le x'.1 (Int.toNat d))∧Nat.le (Nat.succ (L.length - x'.1)) (L.length - x_1.1)∧true=true∧((true=true∧(↑x_1.2:Int)=(↑x'.2:Int))∧TyH_runMean_k0 x x_1 x')∧TyH_runMean_k1 L)))) (∃ (x:Int×Int×Bool),MQ L x∧((true=true∧(3:Int)=x.1)∧(true=true∧(↑x_1.2:Int)=x.2.1)∧True)∧true=x.2.2∧True)))) (∃ (x:Int×Int×Bool),MQ L x∧((true=true∧(0:Int)=x.1)∧(true=true∧(0:Int)=x.2.1)∧True)∧false=x.2.2∧True)) ((∃ (L_1:List LT),L.length=L_1.length∧rowT L=rowT L_1∧Nat.le L_1.length 1000000∧Int.NonNeg (x - 0)∧Int.NonNeg ((↑L_1.length:Int) - x))∧∃ (x_1:Int×Int×Bool),MQ L x_1∧((true=true∧(2:Int)=x_1.1)∧(true=true∧barr (↑(countN (rowTs L.length (rowT L)) (6:Int) (Int.toNat x)):Int)=x_1.2.1)∧True)∧true=x_1.2.2∧True))) (∃ (x:Int×Int×Bool),MQ L x∧((true=true∧(0:Int)=x.1)∧(true=true∧(0:Int)=x.2.1)∧True)∧false=x.2.2∧True))
theorem runMean_r:∀ (L:List LT) (U:List Int) (a:Nat),TU L U→Nat.le (Nat.succ a) L.length→sdA (inB (↑a:Int) L.length) (sdA (inB (↑a:Int) U.length) (brP (ieq (LT.kind (List.getD L (Int.toNat (↑a:Int)) LT.none)) (29:Int)) (sdA (inB (List.getD U (Int.toNat (↑a:Int)) (0:Int)) L.length) (brP (ieq (LT.kind (List.getD L (Int.toNat (List.getD U (Int.toNat (↑a:Int)) (0:Int))) LT.none)) (8:Int)) (sdA (inB (List.getD U (Int.toNat (↑a:Int)) (0:Int)) L.length) (sdA (inB (0:Int) (List.length (LT.kids (List.getD L (Int.toNat (List.getD U (Int.toNat (↑a:Int)) (0:Int))) LT.none)))) (brP (ieq (List.getD (LT.kids (List.getD L (Int.toNat (List.getD U (Int.toNat (↑a:Int)) (0:Int))) LT.none)) 0 (0:Int)) (↑a:Int)) (TyH_runMean_k4 L) (TyH_runMean_k5 L U a)))) (sdA (inB (List.getD U (Int.toNat (↑a:Int)) (0:Int)) L.length) (brP (ieq (LT.kind (List.getD L (Int.toNat (List.getD U (Int.toNat (↑a:Int)) (0:Int))) LT.none)) (10:Int)) (sdA (inB (List.getD U (Int.toNat (↑a:Int)) (0:Int)) L.length) (sdA (inB (0:Int) (List.length (LT.kids (List.getD L (Int.toNat (List.getD U (Int.toNat (↑a:Int)) (0:Int))) LT.none)))) (brP (ieq (List.getD (LT.kids (List.getD L (Int.toNat (List.getD U (Int.toNat (↑a:Int)) (0:Int))) LT.none)) 0 (0:Int)) (↑a:Int)) (TyH_runMean_k4 L) (TyH_runMean_k5 L U a)))) (TyH_runMean_k5 L U a))))) (brP (ieq (LT.kind (List.getD L (Int.toNat (↑a:Int)) LT.none)) (19:Int)) (TyH_runMean_k4 L) (brP (ieq (LT.kind (List.getD L (Int.toNat (↑a:Int)) LT.none)) (21:Int)) (TyH_runMean_k2 L) (brP (ieq (LT.kind (List.getD L (Int.toNat (↑a:Int)) LT.none)) (22:Int)) (TyH_runMean_k2 L) (brP (ieq (LT.kind (List.getD L (Int.toNat (↑a:Int)) LT.none)) (33:Int)) (TyH_runMean_k3 L) (brP (ieq (LT.kind (List.getD L (Int.toNat (↑a:Int)) LT.none)) (5:Int)) (brP (decide (LT.text (List.getD L (Int.toNat (↑a:Int)) LT.none)=[(105:UInt8),(110:UInt8),(116:UInt8)])) (∃ (x:Int×Int×Bool),MQ L x∧((true=true∧(0:Int)=x.1)∧(true=true∧(0:Int)=x.2.1)∧True)∧true=x.2.2∧True) (brP (decide (LT.text (List.getD L (Int.toNat (↑a:Int)) LT.none)=[(102:UInt8),(110:UInt8)])) (∃ (x:Int×Int×Bool),MQ L x∧((true=true∧(0:Int)=x.1)∧(true=true∧(0:Int)=x.2.1)∧True)∧true=x.2.2∧True) (brP (decide (LT.text (List.getD L (Int.toNat (↑a:Int)) LT.none)=[(116:UInt8),(111:UInt8),(107:UInt8)])) (∃ (x:Int×Int×Bool),MQ L x∧((true=true∧(0:Int)=x.1)∧(true=true∧(0:Int)=x.2.1)∧True)∧true=x.2.2∧True) (brP (decide (LT.text (List.getD L (Int.toNat (↑a:Int)) LT.none)=[(104:UInt8),(97:UInt8),(110:UInt8),(100:UInt8)])) (∃ (x:Int×Int×Bool),MQ L x∧((true=true∧(0:Int)=x.1)∧(true=true∧(0:Int)=x.2.1)∧True)∧true=x.2.2∧True) (brP (decide (LT.text (List.getD L (Int.toNat (↑a:Int)) LT.none)=[(97:UInt8),(114:UInt8),(114:UInt8)])) (∃ (x:Int×Int×Bool),MQ L x∧((true=true∧(0:Int)=x.1)∧(true=true∧(0:Int)=x.2.1)∧True)∧true=x.2.2∧True) (TyH_runMean_k3 L)))))) (∃ (x:Int×Int×Bool),MQ L x∧((true=true∧(0:Int)=x.1)∧(true=true∧(0:Int)=x.2.1)∧True)∧true=x.2.2∧True))))))))
:= by
 intro L U a hT ha
 have ha:a < L.length:=ha
 have hL:=hT.len
 have hUl:=hT.ups.len
 simp only [barr_eq,bar_eq,true_and,and_true,eq_self,implies_true,Nat.le_eq,cond_tf,cond_cf,nif_tf,Int.toNat_natCast,Int.ofNat_eq_natCast,Nat.ble_eq,Nat.ble_self_eq_true,Bool.true_and,Bool.and_true,Bool.and_self,Option.some.injEq,AV.int.injEq,rowB_self,allBR_self,Nat.mul_one,Nat.beq_refl,allI_true,cond_true,cond_false,ieq_self,Bool.not_true,Bool.not_false,decide_true,brP_f,brP_t,sdA_t,bytesL_packL,List.nil_append,TyH_runMean_k0,TyH_runMean_k1,TyH_runMean_k2,TyH_runMean_k3,TyH_runMean_k4,TyH_runMean_k5]
 simp only [rowTs_rowT]
 have h0:∃ x:Int×Int×Bool,MQ L x∧(0=x.fst∧0=x.snd.fst)∧false=x.snd.snd:=⟨(0,0,false),⟨by simp,by simp,fun h=>by simp at h⟩,⟨rfl,rfl⟩,rfl⟩
 have h1:∀ d:Int,0≤d→d < L.length→∃ x:Int×Int×Bool,MQ L x∧(1=x.fst∧d=x.snd.fst)∧true=x.snd.snd:=fun d g1 g2=>⟨(1,d,true),⟨g1,by simp only;omega,fun h=>by simp at h⟩,⟨rfl,rfl⟩,rfl⟩
 have hc:∀ (c k d:Int),c≠2→0≤d→d < L.length→∃ x:Int×Int×Bool,MQ L x∧(c=x.fst∧((countN L k d.toNat:Nat):Int)=x.snd.fst)∧true=x.snd.snd:=fun c k d g0 g1 g2=>by
  have:=count_le L k d.toNat
  exact ⟨(c,(countN L k d.toNat:Nat),true),⟨by simp only;omega,by simp only;omega,fun h=>absurd h g0⟩,⟨rfl,rfl⟩,rfl⟩
 have hg:∀ d:Int,0≤d→d < L.length→(L.getD d.toNat LT.none).kind=6→∃ x:Int×Int×Bool,MQ L x∧(2=x.fst∧((countN L 6 d.toNat:Nat):Int)=x.snd.fst)∧true=x.snd.snd:=fun d g1 g2 g3=>by
  have:=count_le L 6 d.toNat
  have h:=count_lt (n:=L.length) (show d.toNat < L.length by omega) g3
  exact ⟨(2,(countN L 6 d.toNat:Nat),true),⟨by simp only;omega,by simp only;omega,fun _=>by simp only;omega⟩,⟨rfl,rfl⟩,rfl⟩
 have hD:∃ L_1:List LT,L.length=L_1.length∧rowT L=rowT L_1∧L_1.length≤1000000:=⟨L,rfl,rfl,hL⟩
 have hLoc:∃ (L_1:List LT) (U_1:List Int),L.length=L_1.length∧rowT L=rowT L_1∧U.length=U_1.length∧rI U=rI U_1∧TU L_1 U_1∧((0:Int)≤(a:Int))∧(a:Int) < (L_1.length:Int):=⟨L,U,rfl,rfl,rfl,rfl,hT,by omega,by omega⟩
 have hC:∀ d:Int,0≤d→d < L.length→∃ L_1:List LT,L.length=L_1.length∧rowT L=rowT L_1∧L_1.length≤1000000∧(0:Int)≤d∧d≤(L_1.length:Int):=fun d g1 g2=>⟨L,rfl,rfl,hL,g1,by omega⟩
 have hs0:∀ d:Int,∃ x0:Nat×Nat,(x0.snd≤x0.fst∧x0.fst≤L.length∧∀ d_1:Int,d=d_1→x0.fst≤d_1.toNat)∧0=(x0.snd:Int)∧0=(x0.fst:Int):=fun d=>⟨(0,0),⟨Nat.le_refl _,Nat.zero_le _,fun _ _=>Nat.zero_le _⟩,rfl,rfl⟩
 have hbA:inB (a:Int) L.length=true:=inB_iff.2 (by omega)
 have hbU:inB (a:Int) U.length=true:=inB_iff.2 (by omega)
 refine sdA_of hbA (sdA_of hbU ?_)
 have hup:(L.getD a LT.none).kind=29→∃ u:Nat,U.getD a 0=u∧u < L.length:=fun h=>by
  have ha0:a≠0:=fun e=>by
   rw [e,hT.good.root] at h;cases h
  obtain ⟨g1,g2⟩:=hT.ups.lo a (by omega) ha
  exact ⟨(U.getD a 0).toNat,by omega,by omega⟩
 have hkp:(L.getD a LT.none).kind=29→((L.getD (U.getD a 0).toNat LT.none).kind=8∨(L.getD (U.getD a 0).toNat LT.none).kind=10)→inB 0 (L.getD (U.getD a 0).toNat LT.none).kids.length=true:=fun g1 g2=>by
  obtain ⟨u,hu,hul⟩:=hup g1
  rw [hu,Int.toNat_natCast] at g2 ⊢
  have:=kids_pos hT.good hul g2
  exact inB_iff.2 (by omega)
 have h00:∃ x:Int×Int×Bool,MQ L x∧(0=x.fst∧0=x.snd.fst)∧true=x.snd.snd:=⟨(0,0,true),⟨by simp,by simp,fun h=>by simp at h⟩,⟨rfl,rfl⟩,rfl⟩
 have hS1:∀ (d:Int) (y:Nat×Nat),(y.snd≤y.fst∧y.fst≤L.length∧∀ d_1:Int,d=d_1→y.fst≤d_1.toNat)→(y.fst:Int) < d→d < L.length→∃ x':Nat×Nat,(x'.snd≤x'.fst∧x'.fst≤L.length∧∀ d_1:Int,d=d_1→x'.fst≤d_1.toNat)∧(L.length - x'.fst).succ≤L.length - y.fst∧(y.snd:Int) + 1=(x'.snd:Int)∧(y.fst:Int) + 1=(x'.fst:Int):=fun d y g1 g2 g3 =>
  ⟨(y.1 + 1,y.2 + 1),⟨by simp only;omega,by simp only;omega,fun e he=>by subst he;simp only;omega⟩,by simp only;omega,by simp only;omega,by simp only;omega⟩
 have hS2:∀ (d:Int) (y:Nat×Nat),(y.snd≤y.fst∧y.fst≤L.length∧∀ d_1:Int,d=d_1→y.fst≤d_1.toNat)→(y.fst:Int) < d→d < L.length→∃ x':Nat×Nat,(x'.snd≤x'.fst∧x'.fst≤L.length∧∀ d_1:Int,d=d_1→x'.fst≤d_1.toNat)∧(L.length - x'.fst).succ≤L.length - y.fst∧(y.snd:Int)=(x'.snd:Int)∧(y.fst:Int) + 1=(x'.fst:Int):=fun d y g1 g2 g3 =>
  ⟨(y.1 + 1,y.2),⟨by simp only;omega,by simp only;omega,fun e he=>by subst he;simp only;omega⟩,by simp only;omega,rfl,by simp only;omega⟩
 have hS3:∀ (d:Int) (y:Nat×Nat),(y.snd≤y.fst∧y.fst≤L.length∧∀ d_1:Int,d=d_1→y.fst≤d_1.toNat)→∃ x:Int×Int×Bool,MQ L x∧(3=x.fst∧(y.snd:Int)=x.snd.fst)∧true=x.snd.snd:=fun d y g1 =>
  ⟨(3,(y.2:Int),true),⟨by simp only;omega,by simp only;omega,fun h=>by simp at h⟩,⟨rfl,rfl⟩,rfl⟩
 have hdd:∀ d:Int,d = -1∨0≤d∧d < (L.length:Int)→¬ d < 0→0≤d∧d < (L.length:Int):=fun d g1 g2=>by omega
 repeat' first
  | with_reducible refine brP_of (fun _=>?_) (fun _=>?_)
  | with_reducible refine sdA_of ?_ ?_
  | with_reducible refine And.intro ?_ ?_
  | intro _ _
 all_goals first
  | exact h0
  | exact h00
  | exact hD
  | exact hLoc
  | exact hs0 _
  | skip
 all_goals simp only [Bool.not_eq_true',Bool.not_eq_false',ilt_iff,ilt_iffn,ieq_iff,ieq_iffn,show Int.negSucc 0 = -1 from rfl] at *
 all_goals first
  | (with_reducible refine inB_iff.2 ?_;omega)
  | (with_reducible refine inR_i64.2 ?_;omega)
  | (obtain ⟨u,hu,hul⟩:=hup ‹_›;with_reducible refine inB_iff.2 ?_;omega)
  | exact hkp (by assumption) (by first | exact .inl ‹_› | exact .inr ‹_›)
  | exact h1 _ (by omega) (by omega)
  | exact hc 4 _ _ (by decide) (by omega) (by omega)
  | exact hc 5 _ _ (by decide) (by omega) (by omega)
  | exact hc 6 _ _ (by decide) (by omega) (by omega)
  | exact hg _ (by omega) (by omega) (by assumption)
  | exact hC _ (by omega) (by omega)
  | exact hS1 _ _ (by assumption) (by omega) (by omega)
  | exact hS2 _ _ (by assumption) (by omega) (by omega)
  | exact hS3 _ _ (by assumption)
theorem runMean:∀ (L:List LT) (U:List Int) (a:Nat),TU L U→a < L.length→(cRun (cxM L) 60).call 14 [tree L,.vec 1 U.length (rI U),.int .i64 a] .leaf 0 (ResR (fun x:Int×Int×Bool=>MQ L x) fun x=>.tup [.agg [.int .i64 x.1,.int .i64 x.2.1],.bool x.2.2]) :=
 Eq.mpr (by kernel_rfl) runMean_r
end Go.Proofs.Ythallodoidghoaa
