/- Laid by program out of its parts: TyI. -/
import Derived.Test.YthallodoidghoaaTyH
set_option linter.unusedVariables false
set_option linter.unusedSimpArgs false
set_option maxRecDepth 100000
set_option maxHeartbeats 2000000
open Go Go.Ev
namespace Go.Proofs.Ythallodoidghoaa
structure FunOK (L:List LT) (F:List Int):Prop where
 len:F.length≤L.length
 al:∀ x∈F,0≤x∧x < L.length∧opensB (L.getD x.toNat LT.none).kind=true
structure FI (L:List LT) (i:Nat) (F:List Int):Prop where
 le:i≤L.length
 len:F.length≤i
 al:∀ x∈F,0≤x∧x < L.length∧opensB (L.getD x.toNat LT.none).kind=true
noncomputable def rFuncs:REnt:=fun _ args=>match args with
 | [.agg [.vec 6 n f]]=>some ⟨List Int,(∃ L:List LT,n=L.length∧f=rowT L∧L.length≤1000000),fun F=>∀ L:List LT,n=L.length→f=rowT L→FunOK L F,fun F=>.vec 1 F.length (rI F)⟩
 | _=>none
noncomputable def SFu (L:List LT):Stn:={ X:=Nat×List Int,T:=fun s _ x=>(3,.slg s.nx x.2.length 1) :: (4,.int .i64 x.1) :: keepT s [0,1],H:=fun s n0 x=>(s.nx,upRow x.2) :: keepIds s [0],nx:=fun s _=>s.nx + 1,I:=fun _ x=>FI L x.1 x.2,m:=fun x=>L.length - x.1 }
noncomputable def eHas:Tr AObj→List AV→Option Ct:=fun _ args=>match args with
 | [.vec 1 n f,.int .i64 z]=>some (.need (∃ S:List Int,n=S.length∧f=rI S∧S.length≤1000000) (.ret (.bool (bar (decide (z∈rowL n f))))))
 | _=>none
structure HI (S:List Int) (z:Int) (k:Nat):Prop where
 le:k≤S.length
 al:∀ j,j < k→S.getD j 0≠z
noncomputable def SHas (S:List Int) (z:Int):Stn:=thin Nat [0,1] (fun k=>[(5,.int .i64 k)]) (fun _ k=>HI S z k) fun k=>S.length - k
def endW (L:List LT) (a:Nat):Nat :=
 match (L.getD a LT.none).kids.getLast? with
 | none=>a + 1
 | some c=>if h:(a:Int) < c∧c < L.length then endW L c.toNat else a + 1
termination_by L.length - a
decreasing_by omega
noncomputable def eEndN (N:Nat):Tr AObj→List AV→Option Ct:=fun _ args=>match args with
 | [.agg [.vec 6 n f],.int .i64 a]=>some (.need (∃ L:List LT,n=L.length∧f=rowT L∧L.length≤1000000∧Good L∧0≤a∧a < L.length∧L.length - a.toNat < N) (.ret (.int .i64 (barr (endW (rowTs n f) a.toNat:Nat)))))
 | _=>none
def endTo (L:List LT) (a i:Nat):Nat:=if i=0 then a + 1 else endW L ((L.getD a LT.none).kids.getD (i - 1) 0).toNat
noncomputable def SEnd (L:List LT) (a:Nat):Stn:=thin Nat [0,1,2] (fun i=>[(5,.int .i64 (endTo L a i)),(6,.int .i64 i)]) (fun _ i=>i≤(L.getD a LT.none).kids.length) fun i=>(L.getD a LT.none).kids.length - i
noncomputable def cxE (N:Nat) (L:List LT) (a:Nat):Ctx:=cx1 [(34,eEndN N)] 34 3 (SEnd L a)
@[reducible] def TyI_runFuncs_k0:List LT→Prop:=fun (L:List LT)=>true=true∧L.length=L.length∧AllI fun (i:Nat)=>Nat.le (Nat.succ i) L.length→(true=true∧LT.kind (List.getD L i LT.none)=LT.kind (List.getD L i LT.none))∧LT.text (List.getD L i LT.none)=LT.text (List.getD L i LT.none)∧(true=true∧LT.n (List.getD L i LT.none)=LT.n (List.getD L i LT.none))∧(true=true∧LT.line (List.getD L i LT.none)=LT.line (List.getD L i LT.none))∧(true=true∧LT.col (List.getD L i LT.none)=LT.col (List.getD L i LT.none))∧(true=true∧List.length (LT.kids (List.getD L i LT.none))=List.length (LT.kids (List.getD L i LT.none))∧AllI fun (i_1:Nat)=>Nat.le (Nat.succ i_1) (List.length (LT.kids (List.getD L i LT.none)))→(true=true∧List.getD (LT.kids (List.getD L i LT.none)) i_1 (0:Int)=List.getD (LT.kids (List.getD L i LT.none)) i_1 (0:Int))∧True)∧True
@[reducible] def TyI_runFuncs_k1:List LT→Prop:=fun (L:List LT)=>(true=true∧true=true∧true=true∧true=true∧True∧TyI_runFuncs_k0 L)∧True
@[reducible] def TyI_runFuncs_k2:List LT→Prop:=fun (L:List LT)=>(TyI_runFuncs_k0 L∧True)∧(some 0=some 0∧true=true)∧True
@[reducible] def TyI_runFuncs_k3:List LT→Nat×List Int→Nat×List Int→Prop:=fun (L:List LT) (a a_1:Nat×List Int)=>(true=true∧(↑a.1:Int) + 1=(↑a_1.1:Int))∧TyI_runFuncs_k2 L
theorem runFuncs_r:∀ (L:List LT),Nat.le L.length 1000000→(∃ (x0:Nat×List Int),FI L x0.1 x0.2∧true=true∧(x0.2.length=0∧(true=true∧(0:Int)=(↑x0.1:Int))∧TyI_runFuncs_k2 L)∧(true=true∧True)∧TyI_runFuncs_k1 L)∧∀ (x:Nat×List Int),FI L x.1 x.2→brP (ilt (↑x.1:Int) (Int.ofNat L.length)) (sdA (inB (↑x.1:Int) L.length) (True∧brP (bar (opensB (LT.kind (List.getD L (Int.toNat (↑x.1:Int)) LT.none)))) (sdA (bif bif Nat.ble (x.2.length * 1) x.2.length then true else false then decide (x.2.length + 1≤9223372036854775807∧(x.2.length + 1) * 8≤140737488355328) else false) (sdA (inR .i64 ((↑x.1:Int) + 1)) (∃ (x':Nat×List Int),FI L x'.1 x'.2∧Nat.le (Nat.succ (L.length - x'.1)) (L.length - x.1)∧true=true∧((some 5=some 5∧x.2.length + 1=x'.2.length∧true=true)∧TyI_runFuncs_k3 L x x')∧(true=true∧true=true∧true=true∧true=true∧(x.2.length + 1) * 1=x'.2.length∧AllI fun (i:Nat)=>Nat.le (Nat.succ (i * 1)) ((x.2.length + 1) * 1)→vmL [(0,0),(1,5)] (rI x'.2 i) (appF x.2.length (rI x.2) (fun (x_1:Nat)=>[AV.int .i64 (↑x.1:Int)]) i))∧TyI_runFuncs_k1 L))) (sdA (inR .i64 ((↑x.1:Int) + 1)) (∃ (x':Nat×List Int),FI L x'.1 x'.2∧Nat.le (Nat.succ (L.length - x'.1)) (L.length - x.1)∧true=true∧((some 1=some 1∧x.2.length=x'.2.length∧true=true)∧TyI_runFuncs_k3 L x x')∧(true=true∧true=true∧true=true∧true=true∧x.2.length=x'.2.length∧AllI fun (i:Nat)=>Nat.le (Nat.succ (i * 1)) x.2.length→(true=true∧List.getD x.2 i (0:Int)=List.getD x'.2 i (0:Int))∧True)∧TyI_runFuncs_k1 L)))) (∃ (x_1:List Int),FunOK L x_1∧sdA (bif Nat.ble (x.2.length * 1) x.2.length then goodR 1 x.2.length (rI x.2) else false) (true=true∧x.2.length=x_1.length∧AllI fun (i:Nat)=>Nat.le (Nat.succ i) x.2.length→(true=true∧List.getD x.2 i (0:Int)=List.getD x_1 i (0:Int))∧True))
:= by
 intro L hL
 have hL:L.length≤1000000:=hL
 simp only [barr_eq,bar_eq,true_and,and_true,eq_self,implies_true,Nat.le_eq,cond_tf,cond_cf,nif_tf,Int.toNat_natCast,Int.ofNat_eq_natCast,Nat.ble_eq,Nat.ble_self_eq_true,Bool.true_and,Bool.and_true,Bool.and_self,Option.some.injEq,AV.int.injEq,rowB_self,allBR_self,Nat.mul_one,Nat.beq_refl,allI_true,cond_true,cond_false,ieq_self,Bool.not_true,Bool.not_false,decide_true,brP_f,brP_t,sdA_t,bytesL_packL,List.nil_append,TyI_runFuncs_k0,TyI_runFuncs_k1,TyI_runFuncs_k2,TyI_runFuncs_k3]
 refine ⟨⟨(0,[]),⟨Nat.zero_le _,Nat.le_refl _,fun x hx=>by simp at hx⟩,rfl,rfl⟩,fun x hx=>?_⟩
 obtain ⟨i,F⟩:=x
 have hlen:=hx.len
 have hle:=hx.le
 have hal:=hx.al
 simp only at hlen hle hal ⊢
 refine brP_of (fun h=>?_) fun h=>⟨F,⟨by omega,hal⟩,sdA_of (goodR_of fun _ _=>rfl) ⟨rfl,⟨fun _ _=>rfl⟩⟩⟩
 rw [ilt_iff] at h
 refine sdA_of (inB_iff.2 (by omega)) (brP_of (fun h1=>sdA_of (decide_eq_true (by omega)) (sdA_of (inR_i64.2 (by omega)) ⟨(i + 1,F ++ [(i:Int)]),⟨by simp only;omega,by simp;omega,fun x hx=>?_⟩,by simp only;omega,⟨by simp,by simp⟩,by simp,?_⟩)) fun h1=>sdA_of (inR_i64.2 (by omega)) ⟨(i + 1,F),⟨by simp only;omega,by simp only;omega,hal⟩,by simp only;omega,⟨rfl,by simp⟩,rfl,⟨fun _ _=>rfl⟩⟩)
 ·rcases List.mem_append.1 hx with hx | hx
  ·exact hal x hx
  ·simp only [List.mem_singleton] at hx
   subst hx
   rw [Int.toNat_natCast]
   exact ⟨by omega,by omega,h1⟩
 ·exact ⟨fun j hj=>(rows_app (row:=fun z:Int=>[AV.int .i64 z]) (d:=0) (e:=1) (n:=F.length + 1) (out:=F) (t:=(i:Int)) (g:=fun _=>[AV.int .i64 (i:Int)]) (fun t=>⟨⟨rfl,rfl⟩,trivial⟩) rfl rfl).h j (by have:j < F.length + 1:=hj;omega)⟩
theorem runFuncs:∀ (L:List LT),L.length≤1000000→(cRun (cx1 [(30,oneI64 opensB)] 31 3 (SFu L)) 60).call 31 [tree L] .leaf 0 (ResR (fun F:List Int=>FunOK L F) fun F=>.vec 1 F.length (rI F)) :=
 Eq.mpr (by kernel_rfl) runFuncs_r
theorem runHas_r:∀ (S:List Int) (z:Int),Nat.le S.length 1000000→(∃ (x0:Nat),HI S z x0∧true=true∧((true=true∧(0:Int)=(↑x0:Int))∧(true=true∧S.length=S.length∧AllI fun (i:Nat)=>Nat.le (Nat.succ i) S.length→(true=true∧List.getD S i (0:Int)=List.getD S i (0:Int))∧True)∧(true=true∧z=z)∧True)∧True)∧∀ (x:Nat),HI S z x→brP (ilt (↑x:Int) (Int.ofNat S.length)) (sdA (inB (↑x:Int) S.length) (brP (ieq (List.getD S (Int.toNat (↑x:Int)) (0:Int)) z) (true=decide (z∈S)) (sdA (inR .i64 ((↑x:Int) + 1)) (∃ (x':Nat),HI S z x'∧Nat.le (Nat.succ (S.length - x')) (S.length - x)∧true=true∧((true=true∧(↑x:Int) + 1=(↑x':Int))∧(true=true∧S.length=S.length∧AllI fun (i:Nat)=>Nat.le (Nat.succ i) S.length→(true=true∧List.getD S i (0:Int)=List.getD S i (0:Int))∧True)∧(true=true∧z=z)∧True)∧True)))) (false=decide (z∈S))
:= by
 intro S z hS
 have hS:S.length≤1000000:=hS
 simp only [barr_eq,bar_eq,true_and,and_true,eq_self,implies_true,Nat.le_eq,cond_tf,cond_cf,nif_tf,Int.toNat_natCast,Int.ofNat_eq_natCast,Nat.ble_eq,Nat.ble_self_eq_true,Bool.true_and,Bool.and_true,Bool.and_self,Option.some.injEq,AV.int.injEq,rowB_self,allBR_self,Nat.mul_one,Nat.beq_refl,allI_true,cond_true,cond_false,ieq_self,Bool.not_true,Bool.not_false,decide_true,brP_f,brP_t,sdA_t,bytesL_packL,List.nil_append]
 refine ⟨⟨0,⟨Nat.zero_le _,fun j hj=>by omega⟩,rfl⟩,fun x hx=>brP_of (fun h=>?_) fun h=>?_⟩
 ·rw [ilt_iff] at h
  have hlt:x < S.length:=by omega
  refine sdA_of (inB_iff.2 (by omega)) (brP_of (fun h1=>?_) fun h1=>sdA_of (inR_i64.2 (by omega)) ⟨x + 1,⟨hlt,fun j hj=>?_⟩,by omega,by omega⟩)
  ·rw [ieq_iff] at h1
   rw [decide_eq_true (h1 ▸ getD_memI hlt)]
  ·rw [ieq_iffn] at h1
   rcases Nat.lt_or_ge j x with h2 | h2
   ·exact hx.al j h2
   ·rw [show j=x by omega];exact h1
 ·rw [ilt_iffn] at h
  rw [decide_eq_false]
  intro hm
  obtain ⟨j,hj,he⟩:=List.getElem_of_mem hm
  refine hx.al j (by omega) ?_
  rw [List.getD_eq_getElem?_getD,List.getElem?_eq_getElem hj]
  exact he
theorem runHas:∀ (S:List Int) (z:Int),S.length≤1000000→(cRun (cx1 [] 35 2 (SHas S z)) 60).call 35 [.vec 1 S.length (rI S),.int .i64 z] .leaf 0 (ResM Try.prog false (.bool (decide (z∈S)))) :=
 Eq.mpr (by kernel_rfl) runHas_r
theorem getLast_getD {l:List Int} (h:0 < l.length):l.getLast? = some (l.getD (l.length - 1) 0):=by
 rw [List.getLast?_eq_getElem?,List.getD_eq_getElem?_getD,List.getElem?_eq_getElem (by omega)];rfl
theorem endW_nil {L:List LT} {a:Nat} (h:(L.getD a LT.none).kids.length=0):endW L a=a + 1:=by
 rw [endW]
 split
 ·rfl
 ·rename_i c hc
  rw [List.length_eq_zero_iff] at h
  rw [h] at hc;cases hc
theorem endW_last {L:List LT} {a:Nat} (hG:Good L) (ha:a < L.length) (h:0 < (L.getD a LT.none).kids.length):endW L a=endW L ((L.getD a LT.none).kids.getD ((L.getD a LT.none).kids.length - 1) 0).toNat:=by
 have hk:=hG.kid a ha _ (getD_memI (show (L.getD a LT.none).kids.length - 1 < (L.getD a LT.none).kids.length by omega))
 rw [endW]
 split
 ·rename_i hc
  rw [getLast_getD h] at hc;cases hc
 ·rename_i c hc
  rw [getLast_getD h] at hc
  injection hc with hc
  subst hc
  rw [dif_pos hk]
theorem endW_in {L:List LT} (hG:Good L):∀ (d a:Nat),L.length - a≤d→a < L.length→a < endW L a∧endW L a≤L.length:=by
 intro d
 induction d with
 | zero=>intro a h1 h2;omega
 | succ d ih =>
  intro a h1 h2
  rcases Nat.eq_zero_or_pos (L.getD a LT.none).kids.length with h | h
  ·rw [endW_nil h];omega
  ·have hk:=hG.kid a h2 _ (getD_memI (show (L.getD a LT.none).kids.length - 1 < (L.getD a LT.none).kids.length by omega))
   rw [endW_last hG h2 h]
   have:=ih ((L.getD a LT.none).kids.getD ((L.getD a LT.none).kids.length - 1) 0).toNat (by omega) (by omega)
   omega
@[reducible] def TyI_runEnd_k0:List LT→Prop:=fun (L:List LT)=>true=true∧L.length=L.length∧AllI fun (i:Nat)=>Nat.le (Nat.succ i) L.length→(true=true∧LT.kind (List.getD L i LT.none)=LT.kind (List.getD L i LT.none))∧LT.text (List.getD L i LT.none)=LT.text (List.getD L i LT.none)∧(true=true∧LT.n (List.getD L i LT.none)=LT.n (List.getD L i LT.none))∧(true=true∧LT.line (List.getD L i LT.none)=LT.line (List.getD L i LT.none))∧(true=true∧LT.col (List.getD L i LT.none)=LT.col (List.getD L i LT.none))∧(true=true∧List.length (LT.kids (List.getD L i LT.none))=List.length (LT.kids (List.getD L i LT.none))∧AllI fun (i_1:Nat)=>Nat.le (Nat.succ i_1) (List.length (LT.kids (List.getD L i LT.none)))→(true=true∧List.getD (LT.kids (List.getD L i LT.none)) i_1 (0:Int)=List.getD (LT.kids (List.getD L i LT.none)) i_1 (0:Int))∧True)∧True
@[reducible] def TyI_runEnd_k1:List LT→Prop:=fun (L:List LT)=>(true=true∧true=true∧true=true∧true=true∧True∧TyI_runEnd_k0 L)∧True
@[reducible] def TyI_runEnd_k2:List LT→Nat→Prop:=fun (L:List LT) (a:Nat)=>(TyI_runEnd_k0 L∧True)∧(true=true∧(↑a:Int)=(↑a:Int))∧(some 0=some 0∧true=true)∧True
theorem runEnd_r:∀ (N:Nat) (L:List LT) (a:Nat),Nat.le L.length 1000000→Good L→Nat.le (Nat.succ a) L.length→Nat.le (Nat.succ (L.length - a)) (N + 1)→sdA (inR .i64 ((↑a:Int) + 1)) ((∃ (x0:Nat),Nat.le x0 (List.length (LT.kids (List.getD L a LT.none)))∧true=true∧((true=true∧(↑a:Int) + 1=(↑(endTo L a x0):Int))∧(true=true∧(0:Int)=(↑x0:Int))∧TyI_runEnd_k2 L a)∧TyI_runEnd_k1 L)∧∀ (x:Nat),Nat.le x (List.length (LT.kids (List.getD L a LT.none)))→sdA (inB (↑a:Int) L.length) (brP (ilt (↑x:Int) (Int.ofNat (List.length (LT.kids (List.getD L (Int.toNat (↑a:Int)) LT.none))))) (sdA (inB (↑a:Int) L.length) (sdA (inB (↑x:Int) (List.length (LT.kids (List.getD L (Int.toNat (↑a:Int)) LT.none)))) ((∃ (L_1:List LT),L.length=L_1.length∧rowT L=rowT L_1∧Nat.le L_1.length 1000000∧Good L_1∧Int.NonNeg (List.getD (LT.kids (List.getD L (Int.toNat (↑a:Int)) LT.none)) (Int.toNat (↑x:Int)) (0:Int) - 0)∧Int.NonNeg ((↑L_1.length:Int) - (List.getD (LT.kids (List.getD L (Int.toNat (↑a:Int)) LT.none)) (Int.toNat (↑x:Int)) (0:Int) + 1))∧Nat.le (Nat.succ (L_1.length - Int.toNat (List.getD (LT.kids (List.getD L (Int.toNat (↑a:Int)) LT.none)) (Int.toNat (↑x:Int)) (0:Int)))) N)∧(((True∧True∧True∧True∧True)∧True)∧((True∧True∧True∧True∧True)∧True)∧True)∧sdA (inR .i64 ((↑x:Int) + 1)) (∃ (x':Nat),Nat.le x' (List.length (LT.kids (List.getD L a LT.none)))∧Nat.le (Nat.succ (List.length (LT.kids (List.getD L a LT.none)) - x')) (List.length (LT.kids (List.getD L a LT.none)) - x)∧true=true∧((true=true∧barr (↑(endW (rowTs L.length (rowT L)) (Int.toNat (List.getD (LT.kids (List.getD L (Int.toNat (↑a:Int)) LT.none)) (Int.toNat (↑x:Int)) (0:Int)))):Int)=(↑(endTo L a x'):Int))∧(true=true∧(↑x:Int) + 1=(↑x':Int))∧TyI_runEnd_k2 L a)∧TyI_runEnd_k1 L)))) (true=true∧(↑(endTo L a x):Int)=(↑(endW L a):Int))))
:= by
 intro N L a hL hG ha hN
 have hL:L.length≤1000000:=hL
 have ha:a < L.length:=ha
 have hN:L.length - a < N + 1:=hN
 have hkl:=hG.klen a ha
 simp only [barr_eq,bar_eq,true_and,and_true,eq_self,implies_true,Nat.le_eq,cond_tf,cond_cf,nif_tf,Int.toNat_natCast,Int.ofNat_eq_natCast,Nat.ble_eq,Nat.ble_self_eq_true,Bool.true_and,Bool.and_true,Bool.and_self,Option.some.injEq,AV.int.injEq,rowB_self,allBR_self,Nat.mul_one,Nat.beq_refl,allI_true,cond_true,cond_false,ieq_self,Bool.not_true,Bool.not_false,decide_true,brP_f,brP_t,sdA_t,bytesL_packL,List.nil_append,TyI_runEnd_k0,TyI_runEnd_k1,TyI_runEnd_k2]
 simp only [rowTs_rowT]
 have hB:inB (a:Int) L.length=true:=inB_iff.2 (by omega)
 refine sdA_of (inR_i64.2 (by omega)) ⟨⟨0,Nat.zero_le _,by unfold endTo;simp,rfl⟩,fun x hx=>sdA_of hB (brP_of (fun h=>?_) fun h=>?_)⟩
 ·rw [ilt_iff] at h
  have hlt:x < (L.getD a LT.none).kids.length:=by omega
  have hk:=hG.kid a ha _ (getD_memI hlt)
  refine sdA_of hB (sdA_of (inB_iff.2 (by omega)) ⟨⟨L,rfl,rfl,hL,hG,(show (0:Int)≤(L.getD a LT.none).kids.getD x 0 by omega),(show (L.getD a LT.none).kids.getD x 0 < (L.length:Int) by omega),(show L.length - ((L.getD a LT.none).kids.getD x 0).toNat < N by omega)⟩,sdA_of (inR_i64.2 (by omega)) ⟨x + 1,hlt,by omega,?_,by omega⟩⟩)
  unfold endTo
  rw [if_neg (by omega),Nat.add_sub_cancel]
 ·rw [ilt_iffn] at h
  obtain rfl:x=(L.getD a LT.none).kids.length:=by omega
  unfold endTo
  split
  ·rename_i h0
   rw [endW_nil h0]
  ·rename_i h0
   rw [endW_last hG ha (by omega)]
theorem runEnd:∀ (N:Nat) (L:List LT) (a:Nat),L.length≤1000000→Good L→a < L.length→L.length - a < N + 1→(cRun (cxE N L a) 60).call 34 [tree L,.int .i64 a] .leaf 0 (ResM Try.prog false (.int .i64 (endW L a))) :=
 Eq.mpr (by kernel_rfl) runEnd_r
theorem okHas:EntOK Try.prog 35 eHas:=by
 refine ent_of2 (gl:=[]) (ng:=0) gl0 fun H args ct hct=>?_
 unfold eHas at hct
 split at hct
 ·rename_i n f z
  injection hct with hct;subst hct
  refine ⟨gl0,_,_,rfl,?_⟩
  rintro ⟨S,rfl,rfl,hS⟩
  rw [bar_eq,rowL_rI]
  exact ⟨⟨⟨rfl,rfl,⟨fun i _=>vm_rI _ i⟩⟩,⟨rfl,rfl⟩,trivial⟩,_,60,rfl,fol,tb_nil,runHas S z hS⟩
 ·cases hct
theorem okEndN:∀ N:Nat,EntOK Try.prog 34 (eEndN N):=by
 intro N
 induction N with
 | zero =>
  refine ent_of2 (gl:=[]) (ng:=0) gl0 fun H args ct hct=>?_
  unfold eEndN at hct
  split at hct
  ·injection hct with hct;subst hct
   refine ⟨gl0,_,_,rfl,?_⟩
   rintro ⟨L,rfl,rfl,hL,hG,h0,h1,hN⟩
   omega
  ·cases hct
 | succ N ih =>
  refine ent_of2 (gl:=[]) (ng:=0) gl0 fun H args ct hct=>?_
  unfold eEndN at hct
  split at hct
  ·rename_i n f a
   injection hct with hct;subst hct
   refine ⟨gl0,_,_,rfl,?_⟩
   rintro ⟨L,rfl,rfl,hL,hG,h0,h1,hN⟩
   obtain ⟨b,rfl⟩:∃ b:Nat,a=b:=⟨a.toNat,by omega⟩
   rw [barr_eq,rowTs_rowT]
   exact ⟨⟨vm_tree L,⟨rfl,rfl⟩,trivial⟩,cxE N L b,60,rfl,fol,tb_cons ih tb_nil,runEnd N L b hL hG (by omega) hN⟩
  ·cases hct
theorem okFuncs:REntOK Try.prog 31 rFuncs:=by
 refine rent_of (gl:=[]) (ng:=0) gl0 fun H args rc hrc hp=>?_
 unfold rFuncs at hrc
 split at hrc
 ·rename_i n f
  injection hrc with hrc;subst hrc
  obtain ⟨L,rfl,rfl,hL⟩:=hp
  refine ⟨gl0,⟨vm_tree L,trivial⟩,cx1 [(30,oneI64 opensB)] 31 3 (SFu L),60,rfl,fol,tb_cons okOpens tb_nil,?_⟩
  have:=runFuncs L hL
  have e:(fun F:List Int=>FunOK L F)=fun F=>∀ M:List LT,L.length=M.length→rowT L=rowT M→FunOK M F:=by
   funext F
   exact propext ⟨fun h M h1 h2=>rowT_inj h1 h2 ▸ h,fun h=>h L rfl rfl⟩
  rw [e] at this
  exact this
 ·cases hrc
theorem okMean:REntOK Try.prog 14 rMean:=by
 refine rent_of (gl:=[]) (ng:=0) gl0 fun H args rc hrc hp=>?_
 unfold rMean at hrc
 split at hrc
 ·rename_i n f m g a
  injection hrc with hrc;subst hrc
  obtain ⟨L,U,rfl,rfl,rfl,rfl,hT,h0,h1⟩:=hp
  obtain ⟨b,rfl⟩:∃ b:Nat,a=b:=⟨a.toNat,by omega⟩
  refine ⟨gl0,⟨vm_tree L,⟨rfl,rfl,⟨fun i _=>vm_rI _ i⟩⟩,⟨rfl,rfl⟩,trivial⟩,cxM L,60,rfl,fol,tb_cons okOpens (tb_cons okCount tb_nil),?_⟩
  have:=runMean L U b hT (by omega)
  have e:(fun x:Int×Int×Bool=>MQ L x)=fun x:Int×Int×Bool=>∀ M:List LT,L.length=M.length→rowT L=rowT M→(0:Int)≤x.2.1∧x.2.1≤(M.length:Int)∧(x.1=2→x.2.1 < ((countN M 6 M.length:Nat):Int)):=by
   funext x
   exact propext ⟨fun h M h1 h2=>by
    have e:=rowT_inj h1 h2
    subst e
    exact ⟨h.lo,h.hi,h.gl⟩,fun h=>⟨(h L rfl rfl).1,(h L rfl rfl).2.1,(h L rfl rfl).2.2⟩⟩
  rw [e] at this
  exact this
 ·cases hrc
end Go.Proofs.Ythallodoidghoaa
