/- Laid by program out of its parts: TyG. -/
import Derived.Test.YthallodoidghoaaTyF
set_option linter.unusedVariables false
set_option linter.unusedSimpArgs false
set_option maxRecDepth 100000
open Go Go.Ev
namespace Go.Proofs.Ythallodoidghoaa
structure TU (L:List LT) (U:List Int):Prop where
 len:L.length≤1000000
 good:Good L
 ups:UpsOK L U
noncomputable def rLocal:REnt:=fun _ args=>match args with
 | [.agg [.vec 6 n f],.vec 1 m g,.int .i64 a]=>some ⟨Int,(∃ (L:List LT) (U:List Int),n=L.length∧f=rowT L∧m=U.length∧g=rI U∧TU L U∧0≤a∧a < L.length),fun d=>d = -1∨0≤d∧d < n,fun d=>.int .i64 d⟩
 | _=>none
noncomputable def SLo (L:List LT) (U:List Int):Stn:=thin Int [0,1,2,3,6,7] (fun x=>[(8,.int .i64 x)]) (fun _ x=>-1≤x∧x < L.length) fun x=>(x + 1).toNat
noncomputable def SLi (L:List LT) (U:List Int):Stn:=thin Nat [0,1,2,3,6,7,8,9] (fun k=>[(10,.int .i64 k)]) (fun s k=>∀ x,s.T.get 8=some (.int .i64 x)→k≤L.length∧0 < x∧x < L.length∧k≤(L.getD (U.getD x.toNat 0).toNat LT.none).kids.length) fun k=>L.length - k
noncomputable def cxL (L:List LT) (U:List Int):Ctx:={ P:=Try.prog,tb:=[],lp:=fun f r=>cond (Nat.beq f 29) (cond (Nat.beq r 3) (some (SLo L U)) (cond (Nat.beq r 8) (some (SLi L U)) none)) none,cut:=fun _ _=>none }
noncomputable def rTwice:REnt:=fun _ args=>match args with
 | [.agg [.vec 6 n f],.vec 1 m g,.int .i64 a]=>some ⟨Bool,(∃ (L:List LT) (U:List Int),n=L.length∧f=rowT L∧m=U.length∧g=rI U∧TU L U∧0≤a∧a < L.length),fun _=>True,fun d=>.bool d⟩
 | _=>none
noncomputable def STw (L:List LT) (U:List Int):Stn:=thin Nat [0,1,2,3,6,7,8] (fun k=>[(9,.int .i64 k)]) (fun _ k=>k≤L.length) fun k=>L.length - k
noncomputable def cxT (L:List LT) (U:List Int):Ctx:={ P:=Try.prog,tb:=[(27,oneI64 namedB),(11,eCount)],rt:=[(28,rDecl)],rok:=rt_cons okDecl (rt_nil _),lp:=fun f r=>cond (Nat.beq f 13) (cond (Nat.beq r 10) (some (STw L U)) none) none,cut:=fun _ _=>none }
@[reducible] def TyG_runLocal_k0:List LT→Prop:=fun (L:List LT)=>true=true∧L.length=L.length∧AllI fun (i:Nat)=>Nat.le (Nat.succ i) L.length→(true=true∧LT.kind (List.getD L i LT.none)=LT.kind (List.getD L i LT.none))∧LT.text (List.getD L i LT.none)=LT.text (List.getD L i LT.none)∧(true=true∧LT.n (List.getD L i LT.none)=LT.n (List.getD L i LT.none))∧(true=true∧LT.line (List.getD L i LT.none)=LT.line (List.getD L i LT.none))∧(true=true∧LT.col (List.getD L i LT.none)=LT.col (List.getD L i LT.none))∧(true=true∧List.length (LT.kids (List.getD L i LT.none))=List.length (LT.kids (List.getD L i LT.none))∧AllI fun (i_1:Nat)=>Nat.le (Nat.succ i_1) (List.length (LT.kids (List.getD L i LT.none)))→(true=true∧List.getD (LT.kids (List.getD L i LT.none)) i_1 (0:Int)=List.getD (LT.kids (List.getD L i LT.none)) i_1 (0:Int))∧True)∧True
@[reducible] def TyG_runLocal_k1:List LT→Prop:=fun (L:List LT)=>TyG_runLocal_k0 L∧True
@[reducible] def TyG_runLocal_k2:List LT→Prop:=fun (L:List LT)=>true=true∧true=true∧true=true∧true=true∧True∧TyG_runLocal_k0 L
@[reducible] def TyG_runLocal_k3:List LT→Prop:=fun (L:List LT)=>TyG_runLocal_k2 L∧True
@[reducible] def TyG_runLocal_k4:List LT→List Int→Nat→Prop:=fun (L:List LT) (U:List Int) (a:Nat)=>TyG_runLocal_k1 L∧(true=true∧U.length=U.length∧AllI fun (i:Nat)=>Nat.le (Nat.succ i) U.length→(true=true∧List.getD U i (0:Int)=List.getD U i (0:Int))∧True)∧(true=true∧(↑a:Int)=(↑a:Int))∧(some 0=some 0∧true=true)∧(true=true∧(0:Int)=(0:Int))∧LT.text (List.getD L (Int.toNat (↑a:Int)) LT.none)=LT.text (List.getD L (Int.toNat (↑a:Int)) LT.none)∧True
@[reducible] def TyG_runLocal_k5:List LT→List Int→Nat→Int→Prop:=fun (L:List LT) (U:List Int) (a:Nat) (a_1:Int)=>TyG_runLocal_k1 L∧(true=true∧U.length=U.length∧AllI fun (i:Nat)=>Nat.le (Nat.succ i) U.length→(true=true∧List.getD U i (0:Int)=List.getD U i (0:Int))∧True)∧(true=true∧(↑a:Int)=(↑a:Int))∧(some 0=some 0∧true=true)∧(true=true∧(0:Int)=(0:Int))∧LT.text (List.getD L (Int.toNat (↑a:Int)) LT.none)=LT.text (List.getD L (Int.toNat (↑a:Int)) LT.none)∧(true=true∧a_1=a_1)∧(some 9=some 9∧true=true)∧True
@[reducible] def TyG_runLocal_k6:List LT→List Int→Int→Prop:=fun (L:List LT) (U:List Int) (a:Int)=>TyG_runLocal_k2 L∧(true=true∧true=true∧true=true∧true=true∧(((((True∧true=true∧LT.kind (List.getD L (Int.toNat (List.getD U (Int.toNat a) (0:Int))) LT.none)=LT.kind (List.getD L (Int.toNat (List.getD U (Int.toNat a) (0:Int))) LT.none))∧LT.text (List.getD L (Int.toNat (List.getD U (Int.toNat a) (0:Int))) LT.none)=LT.text (List.getD L (Int.toNat (List.getD U (Int.toNat a) (0:Int))) LT.none))∧true=true∧LT.n (List.getD L (Int.toNat (List.getD U (Int.toNat a) (0:Int))) LT.none)=LT.n (List.getD L (Int.toNat (List.getD U (Int.toNat a) (0:Int))) LT.none))∧true=true∧LT.line (List.getD L (Int.toNat (List.getD U (Int.toNat a) (0:Int))) LT.none)=LT.line (List.getD L (Int.toNat (List.getD U (Int.toNat a) (0:Int))) LT.none))∧true=true∧LT.col (List.getD L (Int.toNat (List.getD U (Int.toNat a) (0:Int))) LT.none)=LT.col (List.getD L (Int.toNat (List.getD U (Int.toNat a) (0:Int))) LT.none))∧true=true∧List.length (LT.kids (List.getD L (Int.toNat (List.getD U (Int.toNat a) (0:Int))) LT.none))=List.length (LT.kids (List.getD L (Int.toNat (List.getD U (Int.toNat a) (0:Int))) LT.none))∧AllI fun (i:Nat)=>Nat.le (Nat.succ i) (List.length (LT.kids (List.getD L (Int.toNat (List.getD U (Int.toNat a) (0:Int))) LT.none)))→(true=true∧List.getD (LT.kids (List.getD L (Int.toNat (List.getD U (Int.toNat a) (0:Int))) LT.none)) i (0:Int)=List.getD (LT.kids (List.getD L (Int.toNat (List.getD U (Int.toNat a) (0:Int))) LT.none)) i (0:Int))∧True)∧True
@[reducible] def TyG_runLocal_k7:List LT→List Int→Nat→Int→Int→Prop:=fun (L:List LT) (U:List Int) (a:Nat) (a_1 a_2:Int)=>(Int.NonNeg (a_2 - Int.negSucc 0)∧Int.NonNeg ((↑L.length:Int) - (a_2 + 1)))∧Nat.le (Nat.succ (Int.toNat (a_2 + 1))) (Int.toNat (a_1 + 1))∧true=true∧((true=true∧List.getD U (Int.toNat a_1) (0:Int)=a_2)∧TyG_runLocal_k4 L U a)∧TyG_runLocal_k3 L
@[reducible] def TyG_runLocal_k8:List LT→List Int→Nat→Int→Nat→Nat→Prop:=fun (L:List LT) (U:List Int) (a:Nat) (a_1:Int) (a_2 a_3:Nat)=>(∀ (x:Int),some (AV.int .i64 a_1)=some (AV.int .i64 x)→Nat.le a_3 L.length∧Int.NonNeg (x - 1)∧Int.NonNeg ((↑L.length:Int) - (x + 1))∧Nat.le a_3 (List.length (LT.kids (List.getD L (Int.toNat (List.getD U (Int.toNat x) (0:Int))) LT.none))))∧Nat.le (Nat.succ (L.length - a_3)) (L.length - a_2)∧true=true∧((true=true∧(↑a_2:Int) + 1=(↑a_3:Int))∧TyG_runLocal_k5 L U a a_1)∧TyG_runLocal_k6 L U a_1
theorem runLocal_r:∀ (L:List LT) (U:List Int) (a:Nat),TU L U→Nat.le (Nat.succ a) L.length→sdA (inB (↑a:Int) L.length) ((∃ (x0:Int),(Int.NonNeg (x0 - Int.negSucc 0)∧Int.NonNeg ((↑L.length:Int) - (x0 + 1)))∧true=true∧((true=true∧(↑a:Int)=x0)∧TyG_runLocal_k4 L U a)∧TyG_runLocal_k3 L)∧∀ (x:Int),Int.NonNeg (x - Int.negSucc 0)∧Int.NonNeg ((↑L.length:Int) - (x + 1))→brP (ilt (0:Int) x) (sdA (inB x U.length) (sdA (inB (List.getD U (Int.toNat x) (0:Int)) L.length) ((((True∧True∧True∧True)∧True)∧((True∧True∧True∧True)∧True)∧True)∧brP (!ieq (LT.kind (List.getD L (Int.toNat (List.getD U (Int.toNat x) (0:Int))) LT.none)) (12:Int)) (sdA (inB x U.length) (∃ (x':Int),TyG_runLocal_k7 L U a x x')) ((∃ (x0:Nat),(∀ (x_1:Int),some (AV.int .i64 x)=some (AV.int .i64 x_1)→Nat.le x0 L.length∧Int.NonNeg (x_1 - 1)∧Int.NonNeg ((↑L.length:Int) - (x_1 + 1))∧Nat.le x0 (List.length (LT.kids (List.getD L (Int.toNat (List.getD U (Int.toNat x_1) (0:Int))) LT.none))))∧true=true∧((true=true∧(0:Int)=(↑x0:Int))∧TyG_runLocal_k5 L U a x)∧TyG_runLocal_k6 L U x)∧∀ (x_1:Nat),(∀ (x_2:Int),some (AV.int .i64 x)=some (AV.int .i64 x_2)→Nat.le x_1 L.length∧Int.NonNeg (x_2 - 1)∧Int.NonNeg ((↑L.length:Int) - (x_2 + 1))∧Nat.le x_1 (List.length (LT.kids (List.getD L (Int.toNat (List.getD U (Int.toNat x_2) (0:Int))) LT.none))))→brP (ilt (↑x_1:Int) (Int.ofNat (List.length (LT.kids (List.getD L (Int.toNat (List.getD U (Int.toNat x) (0:Int))) LT.none))))) (sdA (inB (↑x_1:Int) (List.length (LT.kids (List.getD L (Int.toNat (List.getD U (Int.toNat x) (0:Int))) LT.none)))) (brP (ilt (List.getD (LT.kids (List.getD L (Int.toNat (List.getD U (Int.toNat x) (0:Int))) LT.none)) (Int.toNat (↑x_1:Int)) (0:Int)) x) (sdA (inB (↑x_1:Int) (List.length (LT.kids (List.getD L (Int.toNat (List.getD U (Int.toNat x) (0:Int))) LT.none)))) (sdA (inB (List.getD (LT.kids (List.getD L (Int.toNat (List.getD U (Int.toNat x) (0:Int))) LT.none)) (Int.toNat (↑x_1:Int)) (0:Int)) L.length) ((((True∧True∧True∧True∧True)∧True)∧((True∧True∧True∧True∧True)∧True)∧True)∧brP (ieq (LT.kind (List.getD L (Int.toNat (List.getD (LT.kids (List.getD L (Int.toNat (List.getD U (Int.toNat x) (0:Int))) LT.none)) (Int.toNat (↑x_1:Int)) (0:Int))) LT.none)) (13:Int)) (brP (decide (LT.text (List.getD L (Int.toNat (List.getD (LT.kids (List.getD L (Int.toNat (List.getD U (Int.toNat x) (0:Int))) LT.none)) (Int.toNat (↑x_1:Int)) (0:Int))) LT.none)=LT.text (List.getD L (Int.toNat (↑a:Int)) LT.none))) (sdA (inB (↑x_1:Int) (List.length (LT.kids (List.getD L (Int.toNat (List.getD U (Int.toNat x) (0:Int))) LT.none)))) (∃ (x_2:Int),(x_2=Int.negSucc 0∨(0:Int)≤x_2∧x_2 < (↑L.length:Int))∧true=true∧List.getD (LT.kids (List.getD L (Int.toNat (List.getD U (Int.toNat x) (0:Int))) LT.none)) (Int.toNat (↑x_1:Int)) (0:Int)=x_2)) (sdA (inR .i64 ((↑x_1:Int) + 1)) (∃ (x':Nat),TyG_runLocal_k8 L U a x x_1 x'))) (sdA (inR .i64 ((↑x_1:Int) + 1)) (∃ (x':Nat),TyG_runLocal_k8 L U a x x_1 x'))))) (sdA (inB x U.length) (∃ (x':Int),TyG_runLocal_k7 L U a x x')))) (sdA (inB x U.length) (∃ (x':Int),TyG_runLocal_k7 L U a x x')))))) (∃ (x:Int),(x=Int.negSucc 0∨(0:Int)≤x∧x < (↑L.length:Int))∧true=true∧Int.negSucc 0=x))
:= by
 intro L U a hT ha
 have ha:a < L.length:=ha
 have hL:=hT.len
 have hUl:=hT.ups.len
 simp only [barr_eq,bar_eq,true_and,and_true,eq_self,implies_true,Nat.le_eq,cond_tf,cond_cf,nif_tf,Int.toNat_natCast,Int.ofNat_eq_natCast,Nat.ble_eq,Nat.ble_self_eq_true,Bool.true_and,Bool.and_true,Bool.and_self,Option.some.injEq,AV.int.injEq,rowB_self,allBR_self,Nat.mul_one,Nat.beq_refl,allI_true,cond_true,cond_false,ieq_self,Bool.not_true,Bool.not_false,decide_true,brP_f,brP_t,sdA_t,bytesL_packL,List.nil_append,TyG_runLocal_k0,TyG_runLocal_k1,TyG_runLocal_k2,TyG_runLocal_k3,TyG_runLocal_k4,TyG_runLocal_k5,TyG_runLocal_k6,TyG_runLocal_k7,TyG_runLocal_k8]
 refine sdA_of (inB_iff.2 (by omega)) ⟨⟨a,⟨(show (-1:Int)≤(a:Int) by omega),(show (a:Int) < (L.length:Int) by omega)⟩,rfl⟩,fun x hx=>brP_of (fun h=>?_) fun h=>⟨-1,.inl rfl,rfl⟩⟩
 obtain ⟨hx1,hx2⟩:-1≤x∧x < (L.length:Int):=hx
 rw [ilt_iff] at h
 obtain ⟨y,rfl⟩:∃ y:Nat,x=y:=⟨x.toNat,by omega⟩
 obtain ⟨hu1,hu2⟩:=hT.ups.lo y (by omega) (by omega)
 obtain ⟨u,hu⟩:∃ u:Nat,U.getD y 0=u:=⟨(U.getD y 0).toNat,by omega⟩
 have hS:∃ x':Int,(-1≤x'∧x' < (L.length:Int))∧(x' + 1).toNat.succ≤((y:Int) + 1).toNat∧(u:Int)=x':=⟨u,by omega,by omega,rfl⟩
 have hBy:inB (y:Int) U.length=true:=inB_iff.2 (by omega)
 simp only [Int.toNat_natCast,hu]
 refine sdA_of hBy (sdA_of (inB_iff.2 (by omega)) (brP_of (fun _=>sdA_of hBy hS) fun _=>⟨⟨0,fun z hz=>⟨Nat.zero_le _,(show (0:Int) < z by omega),(show z < (L.length:Int) by omega),Nat.zero_le _⟩,rfl⟩,fun k hk=>?_⟩))
 obtain ⟨hk1,_,_,hk2⟩:=hk _ rfl
 rw [Int.toNat_natCast,hu,Int.toNat_natCast] at hk2
 have hkl:=hT.good.klen u (by omega)
 refine brP_of (fun h1=>?_) fun h1=>sdA_of hBy hS
 rw [ilt_iff] at h1
 have hlt:k < (L.getD u LT.none).kids.length:=by omega
 have hBk:inB (k:Int) (L.getD u LT.none).kids.length=true:=inB_iff.2 (by omega)
 have hc:=hT.good.kid u (by omega) _ (getD_memI hlt)
 have hN:∃ x':Nat,(∀ x_2:Int,(y:Int)=x_2→x'≤L.length∧(0:Int) < x_2∧x_2 < (L.length:Int)∧x'≤(L.getD (U.getD x_2.toNat 0).toNat LT.none).kids.length)∧(L.length - x').succ≤L.length - k∧(k:Int) + 1=(x':Int):=⟨k + 1,fun z hz=>by
  subst hz
  rw [Int.toNat_natCast,hu,Int.toNat_natCast]
  exact ⟨by omega,by omega,by omega,hlt⟩,by omega,by omega⟩
 have hR:inR .i64 ((k:Int) + 1)=true:=inR_i64.2 (by omega)
 exact sdA_of hBk (brP_of (fun h2=>sdA_of hBk (sdA_of (inB_iff.2 (by omega)) (brP_of (fun _=>brP_of (fun _=>sdA_of hBk ⟨_,.inr (by omega),rfl⟩) fun _=>sdA_of hR hN) fun _=>sdA_of hR hN))) fun _=>sdA_of hBy hS)
theorem runLocal:∀ (L:List LT) (U:List Int) (a:Nat),TU L U→a < L.length→(cRun (cxL L U) 60).call 29 [tree L,.vec 1 U.length (rI U),.int .i64 a] .leaf 0 (ResR (fun d:Int=>d = -1∨0≤d∧d < L.length) fun d=>.int .i64 d) :=
 Eq.mpr (by kernel_rfl) runLocal_r
@[reducible] def TyG_runTwice_k0:List LT→Prop:=fun (L:List LT)=>true=true∧L.length=L.length∧AllI fun (i:Nat)=>Nat.le (Nat.succ i) L.length→(true=true∧LT.kind (List.getD L i LT.none)=LT.kind (List.getD L i LT.none))∧LT.text (List.getD L i LT.none)=LT.text (List.getD L i LT.none)∧(true=true∧LT.n (List.getD L i LT.none)=LT.n (List.getD L i LT.none))∧(true=true∧LT.line (List.getD L i LT.none)=LT.line (List.getD L i LT.none))∧(true=true∧LT.col (List.getD L i LT.none)=LT.col (List.getD L i LT.none))∧(true=true∧List.length (LT.kids (List.getD L i LT.none))=List.length (LT.kids (List.getD L i LT.none))∧AllI fun (i_1:Nat)=>Nat.le (Nat.succ i_1) (List.length (LT.kids (List.getD L i LT.none)))→(true=true∧List.getD (LT.kids (List.getD L i LT.none)) i_1 (0:Int)=List.getD (LT.kids (List.getD L i LT.none)) i_1 (0:Int))∧True)∧True
@[reducible] def TyG_runTwice_k1:List LT→List Int→Nat→Prop:=fun (L:List LT) (U:List Int) (a:Nat)=>(TyG_runTwice_k0 L∧True)∧(true=true∧U.length=U.length∧AllI fun (i:Nat)=>Nat.le (Nat.succ i) U.length→(true=true∧List.getD U i (0:Int)=List.getD U i (0:Int))∧True)∧(true=true∧(↑a:Int)=(↑a:Int))∧(some 0=some 0∧true=true)∧false=false∧(some 1=some 1∧true=true)∧(true=true∧List.length (LT.kids (List.getD L (Int.toNat (List.getD U (Int.toNat (↑a:Int)) (0:Int))) LT.none))=List.length (LT.kids (List.getD L (Int.toNat (List.getD U (Int.toNat (↑a:Int)) (0:Int))) LT.none))∧AllI fun (i:Nat)=>Nat.le (Nat.succ i) (List.length (LT.kids (List.getD L (Int.toNat (List.getD U (Int.toNat (↑a:Int)) (0:Int))) LT.none)))→(true=true∧List.getD (LT.kids (List.getD L (Int.toNat (List.getD U (Int.toNat (↑a:Int)) (0:Int))) LT.none)) i (0:Int)=List.getD (LT.kids (List.getD L (Int.toNat (List.getD U (Int.toNat (↑a:Int)) (0:Int))) LT.none)) i (0:Int))∧True)∧True
@[reducible] def TyG_runTwice_k2:List LT→Nat→Prop:=fun (L:List LT) (a:Nat)=>(true=true∧true=true∧true=true∧true=true∧True∧TyG_runTwice_k0 L)∧(true=true∧true=true∧true=true∧true=true∧(((((True∧true=true∧LT.kind (List.getD L (Int.toNat (↑a:Int)) LT.none)=LT.kind (List.getD L (Int.toNat (↑a:Int)) LT.none))∧LT.text (List.getD L (Int.toNat (↑a:Int)) LT.none)=LT.text (List.getD L (Int.toNat (↑a:Int)) LT.none))∧true=true∧LT.n (List.getD L (Int.toNat (↑a:Int)) LT.none)=LT.n (List.getD L (Int.toNat (↑a:Int)) LT.none))∧true=true∧LT.line (List.getD L (Int.toNat (↑a:Int)) LT.none)=LT.line (List.getD L (Int.toNat (↑a:Int)) LT.none))∧true=true∧LT.col (List.getD L (Int.toNat (↑a:Int)) LT.none)=LT.col (List.getD L (Int.toNat (↑a:Int)) LT.none))∧true=true∧List.length (LT.kids (List.getD L (Int.toNat (↑a:Int)) LT.none))=List.length (LT.kids (List.getD L (Int.toNat (↑a:Int)) LT.none))∧AllI fun (i:Nat)=>Nat.le (Nat.succ i) (List.length (LT.kids (List.getD L (Int.toNat (↑a:Int)) LT.none)))→(true=true∧List.getD (LT.kids (List.getD L (Int.toNat (↑a:Int)) LT.none)) i (0:Int)=List.getD (LT.kids (List.getD L (Int.toNat (↑a:Int)) LT.none)) i (0:Int))∧True)∧True
@[reducible] def TyG_runTwice_k3:List LT→List Int→Nat→Nat→Nat→Prop:=fun (L:List LT) (U:List Int) (a a_1 a_2:Nat)=>Nat.le a_2 L.length∧Nat.le (Nat.succ (L.length - a_2)) (L.length - a_1)∧true=true∧((true=true∧(↑a_1:Int) + 1=(↑a_2:Int))∧TyG_runTwice_k1 L U a)∧TyG_runTwice_k2 L a
@[reducible] def TyG_runTwice_k4:List LT→List Int→Nat→Prop:=fun (L:List LT) (U:List Int) (a:Nat)=>(((True∧True∧True∧True)∧True)∧True)∧(∃ (x0:Nat),Nat.le x0 L.length∧true=true∧((true=true∧(0:Int)=(↑x0:Int))∧TyG_runTwice_k1 L U a)∧TyG_runTwice_k2 L a)∧∀ (x:Nat),Nat.le x L.length→brP (ilt (↑x:Int) (Int.ofNat (List.length (LT.kids (List.getD L (Int.toNat (List.getD U (Int.toNat (↑a:Int)) (0:Int))) LT.none))))) (sdA (inB (↑x:Int) (List.length (LT.kids (List.getD L (Int.toNat (List.getD U (Int.toNat (↑a:Int)) (0:Int))) LT.none)))) (brP (ilt (List.getD (LT.kids (List.getD L (Int.toNat (List.getD U (Int.toNat (↑a:Int)) (0:Int))) LT.none)) (Int.toNat (↑x:Int)) (0:Int)) (↑a:Int)) (sdA (inB (↑x:Int) (List.length (LT.kids (List.getD L (Int.toNat (List.getD U (Int.toNat (↑a:Int)) (0:Int))) LT.none)))) (sdA (inB (List.getD (LT.kids (List.getD L (Int.toNat (List.getD U (Int.toNat (↑a:Int)) (0:Int))) LT.none)) (Int.toNat (↑x:Int)) (0:Int)) L.length) ((((True∧True∧True∧True)∧True)∧((True∧True∧True∧True)∧True)∧True)∧brP (ieq (LT.kind (List.getD L (Int.toNat (List.getD (LT.kids (List.getD L (Int.toNat (List.getD U (Int.toNat (↑a:Int)) (0:Int))) LT.none)) (Int.toNat (↑x:Int)) (0:Int))) LT.none)) (LT.kind (List.getD L (Int.toNat (↑a:Int)) LT.none))) (brP (decide (LT.text (List.getD L (Int.toNat (List.getD (LT.kids (List.getD L (Int.toNat (List.getD U (Int.toNat (↑a:Int)) (0:Int))) LT.none)) (Int.toNat (↑x:Int)) (0:Int))) LT.none)=LT.text (List.getD L (Int.toNat (↑a:Int)) LT.none))) (brP (ieq (LT.n (List.getD L (Int.toNat (List.getD (LT.kids (List.getD L (Int.toNat (List.getD U (Int.toNat (↑a:Int)) (0:Int))) LT.none)) (Int.toNat (↑x:Int)) (0:Int))) LT.none)) (LT.n (List.getD L (Int.toNat (↑a:Int)) LT.none))) (∃ (x:Bool),True∧true=x) (sdA (inR .i64 ((↑x:Int) + 1)) (∃ (x':Nat),TyG_runTwice_k3 L U a x x'))) (sdA (inR .i64 ((↑x:Int) + 1)) (∃ (x':Nat),TyG_runTwice_k3 L U a x x'))) (sdA (inR .i64 ((↑x:Int) + 1)) (∃ (x':Nat),TyG_runTwice_k3 L U a x x'))))) (∃ (x:Bool),True∧false=x))) (∃ (x:Bool),True∧false=x)
theorem runTwice_r:∀ (L:List LT) (U:List Int) (a:Nat),TU L U→Nat.le (Nat.succ a) L.length→sdA (inB (↑a:Int) L.length) (True∧brP (bar (namedB (LT.kind (List.getD L (Int.toNat (↑a:Int)) LT.none)))) ((∃ (L_1:List LT),L.length=L_1.length∧rowT L=rowT L_1∧Nat.le L_1.length 1000000)∧∀ (x:Int),x=Int.negSucc 0∨(0:Int)≤x∧x < (↑L.length:Int)→∃ (x_1:Bool),True∧ilt x (↑a:Int)=x_1) (brP (ieq (LT.kind (List.getD L (Int.toNat (↑a:Int)) LT.none)) (11:Int)) ((∃ (L_1:List LT),L.length=L_1.length∧rowT L=rowT L_1∧Nat.le L_1.length 1000000∧Int.NonNeg ((↑a:Int) - 0)∧Int.NonNeg ((↑L_1.length:Int) - (↑a:Int)))∧∃ (x:Bool),True∧ilt (0:Int) (barr (↑(countN (rowTs L.length (rowT L)) (11:Int) (Int.toNat (↑a:Int))):Int))=x) (brP (!ieq (LT.kind (List.getD L (Int.toNat (↑a:Int)) LT.none)) (4:Int)) (brP (!ieq (LT.kind (List.getD L (Int.toNat (↑a:Int)) LT.none)) (9:Int)) (brP (!ieq (LT.kind (List.getD L (Int.toNat (↑a:Int)) LT.none)) (13:Int)) (∃ (x:Bool),True∧false=x) (sdA (inB (↑a:Int) U.length) (sdA (inB (List.getD U (Int.toNat (↑a:Int)) (0:Int)) L.length) (TyG_runTwice_k4 L U a)))) (sdA (inB (↑a:Int) U.length) (sdA (inB (List.getD U (Int.toNat (↑a:Int)) (0:Int)) L.length) (TyG_runTwice_k4 L U a)))) (sdA (inB (↑a:Int) U.length) (sdA (inB (List.getD U (Int.toNat (↑a:Int)) (0:Int)) L.length) (TyG_runTwice_k4 L U a))))))
:= by
 intro L U a hT ha
 have ha:a < L.length:=ha
 have hL:=hT.len
 have hUl:=hT.ups.len
 simp only [barr_eq,bar_eq,true_and,and_true,eq_self,implies_true,Nat.le_eq,cond_tf,cond_cf,nif_tf,Int.toNat_natCast,Int.ofNat_eq_natCast,Nat.ble_eq,Nat.ble_self_eq_true,Bool.true_and,Bool.and_true,Bool.and_self,Option.some.injEq,AV.int.injEq,rowB_self,allBR_self,Nat.mul_one,Nat.beq_refl,allI_true,cond_true,cond_false,ieq_self,Bool.not_true,Bool.not_false,decide_true,brP_f,brP_t,sdA_t,bytesL_packL,List.nil_append,TyG_runTwice_k0,TyG_runTwice_k1,TyG_runTwice_k2,TyG_runTwice_k3,TyG_runTwice_k4]
 refine sdA_of (inB_iff.2 (by omega)) (brP_of (fun _=>⟨⟨L,rfl,rfl,hL⟩,fun x hx=>⟨_,rfl⟩⟩) fun h0=>brP_of (fun _=>⟨⟨L,rfl,rfl,hL,(show (0:Int)≤(a:Int) by omega),(show (a:Int)≤(L.length:Int) by omega)⟩,⟨_,rfl⟩⟩) fun h1=>?_)
 have key:(L.getD a LT.none).kind≠1→sdA (inB (a:Int) U.length) (sdA (inB (U.getD a 0) L.length) ((∃ x0:Nat,x0≤L.length∧(0:Int)=(x0:Int))∧∀ x:Nat,x≤L.length→brP (ilt (x:Int) ((L.getD (U.getD a 0).toNat LT.none).kids.length:Int))
   (sdA (inB (x:Int) (L.getD (U.getD a 0).toNat LT.none).kids.length) (brP (ilt ((L.getD (U.getD a 0).toNat LT.none).kids.getD x 0) (a:Int)) (sdA (inB (x:Int) (L.getD (U.getD a 0).toNat LT.none).kids.length) (sdA (inB ((L.getD (U.getD a 0).toNat LT.none).kids.getD x 0) L.length)
    (brP (ieq (L.getD ((L.getD (U.getD a 0).toNat LT.none).kids.getD x 0).toNat LT.none).kind (L.getD a LT.none).kind) (brP (decide ((L.getD ((L.getD (U.getD a 0).toNat LT.none).kids.getD x 0).toNat LT.none).text=(L.getD a LT.none).text)) (brP (ieq (L.getD ((L.getD (U.getD a 0).toNat LT.none).kids.getD x 0).toNat LT.none).n (L.getD a LT.none).n) (∃ x:Bool,true=x)
     (sdA (inR IntKind.i64 ((x:Int) + 1)) (∃ x':Nat,x'≤L.length∧(L.length - x').succ≤L.length - x∧(x:Int) + 1=(x':Int)))) (sdA (inR IntKind.i64 ((x:Int) + 1)) (∃ x':Nat,x'≤L.length∧(L.length - x').succ≤L.length - x∧(x:Int) + 1=(x':Int))))
     (sdA (inR IntKind.i64 ((x:Int) + 1)) (∃ x':Nat,x'≤L.length∧(L.length - x').succ≤L.length - x∧(x:Int) + 1=(x':Int)))))) (∃ x:Bool,false=x))) (∃ x:Bool,false=x))):=fun hne=>by
  have ha0:a≠0:=fun e=>hne (by rw [e];exact hT.good.root)
  obtain ⟨hu1,hu2⟩:=hT.ups.lo a (by omega) ha
  obtain ⟨u,hu⟩:∃ u:Nat,U.getD a 0=u:=⟨(U.getD a 0).toNat,by omega⟩
  simp only [hu,Int.toNat_natCast]
  refine sdA_of (inB_iff.2 (by omega)) (sdA_of (inB_iff.2 (by omega)) ⟨⟨0,Nat.zero_le _,rfl⟩,fun x hx=>brP_of (fun h2=>?_) fun h2=>⟨_,rfl⟩⟩)
  rw [ilt_iff] at h2
  have hlt:x < (L.getD u LT.none).kids.length:=by omega
  have hkl:=hT.good.klen u (by omega)
  have hBk:inB (x:Int) (L.getD u LT.none).kids.length=true:=inB_iff.2 (by omega)
  have hc:=hT.good.kid u (by omega) _ (getD_memI hlt)
  have hN:∃ x':Nat,x'≤L.length∧(L.length - x').succ≤L.length - x∧(x:Int) + 1=(x':Int):=⟨x + 1,by omega,by omega,by omega⟩
  have hR:inR .i64 ((x:Int) + 1)=true:=inR_i64.2 (by omega)
  exact sdA_of hBk (brP_of (fun _=>sdA_of hBk (sdA_of (inB_iff.2 (by omega)) (brP_of (fun _=>brP_of (fun _=>brP_of (fun _=>⟨_,rfl⟩) fun _=>sdA_of hR hN) fun _=>sdA_of hR hN) fun _=>sdA_of hR hN))) fun _=>⟨_,rfl⟩)
 refine brP_of (fun h4=>brP_of (fun h9=>brP_of (fun _=>⟨_,rfl⟩) fun h13=>key ?_) fun h9=>key ?_) fun h4=>key ?_
 ·rw [Bool.not_eq_false',ieq_iff] at h13;omega
 ·rw [Bool.not_eq_false',ieq_iff] at h9;omega
 ·rw [Bool.not_eq_false',ieq_iff] at h4;omega
theorem runTwice:∀ (L:List LT) (U:List Int) (a:Nat),TU L U→a < L.length→(cRun (cxT L U) 60).call 13 [tree L,.vec 1 U.length (rI U),.int .i64 a] .leaf 0 (ResR (fun _:Bool=>True) fun d=>.bool d) :=
 Eq.mpr (by kernel_rfl) runTwice_r
theorem okLocal:REntOK Try.prog 29 rLocal:=by
 refine rent_of (gl:=[]) (ng:=0) gl0 fun H args rc hrc hp=>?_
 unfold rLocal at hrc
 split at hrc
 ·rename_i n f m g a
  injection hrc with hrc;subst hrc
  obtain ⟨L,U,rfl,rfl,rfl,rfl,hT,h0,h1⟩:=hp
  obtain ⟨b,rfl⟩:∃ b:Nat,a=b:=⟨a.toNat,by omega⟩
  exact ⟨gl0,⟨vm_tree L,⟨rfl,rfl,⟨fun i _=>vm_rI _ i⟩⟩,⟨rfl,rfl⟩,trivial⟩,cxL L U,60,rfl,fol,tb_nil,runLocal L U b hT (by omega)⟩
 ·cases hrc
theorem okTwice:REntOK Try.prog 13 rTwice:=by
 refine rent_of (gl:=[]) (ng:=0) gl0 fun H args rc hrc hp=>?_
 unfold rTwice at hrc
 split at hrc
 ·rename_i n f m g a
  injection hrc with hrc;subst hrc
  obtain ⟨L,U,rfl,rfl,rfl,rfl,hT,h0,h1⟩:=hp
  obtain ⟨b,rfl⟩:∃ b:Nat,a=b:=⟨a.toNat,by omega⟩
  exact ⟨gl0,⟨vm_tree L,⟨rfl,rfl,⟨fun i _=>vm_rI _ i⟩⟩,⟨rfl,rfl⟩,trivial⟩,cxT L U,60,rfl,fol,tb_cons okNamed (tb_cons okCount tb_nil),runTwice L U b hT (by omega)⟩
 ·cases hrc
end Go.Proofs.Ythallodoidghoaa
