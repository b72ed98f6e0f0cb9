/- Laid by program out of its parts: JrH. -/
import Derived.Test.YtedpjdkikbgojaaGreatDoorJrF
set_option linter.unusedVariables false
set_option linter.unusedSimpArgs false
set_option maxRecDepth 100000
open Go Go.Ev
namespace Go.Proofs.YtedpjdkikbgojaaGreatDoor
noncomputable def cxReg (k:Nat):Ctx:={ P:=Tryz.prog,tb:=[(210,eParts k),(113,eBad2)],ht:=htC,hok:=htC_ok,lp:=fun _ _=>none,cut:=fun _ _=>none }
theorem runReg0_r:∀ (x:LI) (f:LF),Nat.le (List.length (LI.l x)) 1999990→Int.NonNeg (LI.op x - (1:Int))→Int.NonNeg ((33:Int) - LI.op x)→named (LI.op x)=(0:Int)→((∃ (S:List Int),List.length (LI.l x)=List.length S∧rI (LI.l x)=fun (i:Nat)=>[AV.int IntKind.i64 (List.getD S i (0:Int))])∧Nat.le (List.length (LI.l x)) 2000000)∧((Int.NonNeg (LI.op x - (1:Int))∧Int.NonNeg ((33:Int) - LI.op x))∧named (LI.op x)=(0:Int))∧sdA (bif bif Nat.ble (List.length (LI.l x) * 1) (List.length (LI.l x)) then goodR 1 (List.length (LI.l x)) (rI (LI.l x)) else false then true else false) (sdA (bif bif Nat.beq (List.length (LI.l x)) (List.length (LI.l x)) then bif bif Nat.beq (List.length (LI.l x)) (List.length (LI.l x)) then true else false then true else false else false then bif Nat.beq (List.length (LI.l x)) (List.length (LI.l x)) then true else false else false) ((allI1 (List.length (LI.l x)) (rI (LI.l x))=true∧Nat.le (List.length (LI.l x)) 2000000∧∃ (code:List LI),List.length (LF.code f)=List.length code∧rLI (LF.code f)=rLI code)∧(!bar (badR (LF.regs f) (rowL (List.length (LI.l x)) (rI (LI.l x)))))=regsS f x))
:= by
 intro x f h1 h2 h3 h4
 simp only [barr_eq,bar_eq,true_and,and_true,eq_self,implies_true,Nat.le_eq,cond_tf,cond_cf,nif_tf,Int.toNat_natCast,Int.ofNat_eq_natCast,Nat.ble_eq,Nat.ble_self_eq_true,Bool.true_and,Bool.and_true,Bool.and_self,Option.some.injEq,AV.int.injEq,rowB_self,allBR_self,Nat.mul_one,Nat.beq_refl,allI_true,cond_true,cond_false,ieq_self,Bool.not_true,Bool.not_false,decide_true,brP_f,brP_t,sdA_t,bytesL_packL,List.nil_append]
 have h1:x.l.length≤1999990:=h1
 have hr:=(rowsI_self x.l)
 refine ⟨⟨⟨x.l,rfl,rfl⟩,by omega⟩,⟨⟨h2,h3⟩,h4⟩,sdA_of hr.good ⟨⟨hr.all,by omega,f.code,rfl,rfl⟩,?_⟩⟩
 rw [hr.rowL,bad_all]
 unfold regsS
 rw [h4]
 simp [List.all_append,Bool.and_assoc]
theorem runReg0:∀ (x:LI) (f:LF),x.l.length≤1999990→1≤x.op→x.op≤33→named x.op=0→(cRun (cxReg 0) 100).call 175 [.agg (LI.row x),.agg (LF.row f)] .leaf 0 (ResM Tryz.prog false (.bool (regsS f x))) :=
 Eq.mpr (by kernel_rfl) runReg0_r
theorem runReg1_r:∀ (x:LI) (f:LF),Nat.le (List.length (LI.l x)) 1999990→Int.NonNeg (LI.op x - (1:Int))→Int.NonNeg ((33:Int) - LI.op x)→named (LI.op x)=(1:Int)→((∃ (S:List Int),List.length (LI.l x)=List.length S∧rI (LI.l x)=fun (i:Nat)=>[AV.int IntKind.i64 (List.getD S i (0:Int))])∧Nat.le (List.length (LI.l x)) 2000000)∧((Int.NonNeg (LI.op x - (1:Int))∧Int.NonNeg ((33:Int) - LI.op x))∧named (LI.op x)=(1:Int))∧sdA (bif bif Nat.ble (List.length (LI.l x) * 1) (List.length (LI.l x)) then true else false then decide (List.length (LI.l x) + 1≤9223372036854775807∧(List.length (LI.l x) + 1) * 8≤140737488355328) else false) (sdA (bif bif Nat.ble ((List.length (LI.l x) + 1) * 1) ((List.length (LI.l x) + 1) * 1) then goodR 1 (List.length (LI.l x) + 1) (appF (List.length (LI.l x)) (rI (LI.l x)) fun (x_1:Nat)=>[AV.int IntKind.i64 (LI.a x)]) else false then true else false) (sdA (bif bif Nat.beq (List.length (LI.l x) + 1) (List.length (LI.l x) + 1) then bif Nat.beq (List.length (LI.l x) + 1) (List.length (LI.l x) + 1) then true else false else false then bif Nat.beq (List.length (LI.l x) + 1) (List.length (LI.l x) + 1) then true else false else false) ((allI1 (List.length (LI.l x) + 1) (appF (List.length (LI.l x)) (rI (LI.l x)) fun (x_1:Nat)=>[AV.int IntKind.i64 (LI.a x)])=true∧Nat.le (List.length (LI.l x) + 1) 2000000∧∃ (code:List LI),List.length (LF.code f)=List.length code∧rLI (LF.code f)=rLI code)∧(!bar (badR (LF.regs f) (rowL (List.length (LI.l x) + 1) (appF (List.length (LI.l x)) (rI (LI.l x)) fun (x_1:Nat)=>[AV.int IntKind.i64 (LI.a x)]))))=regsS f x)))
:= by
 intro x f h1 h2 h3 h4
 simp only [barr_eq,bar_eq,true_and,and_true,eq_self,implies_true,Nat.le_eq,cond_tf,cond_cf,nif_tf,Int.toNat_natCast,Int.ofNat_eq_natCast,Nat.ble_eq,Nat.ble_self_eq_true,Bool.true_and,Bool.and_true,Bool.and_self,Option.some.injEq,AV.int.injEq,rowB_self,allBR_self,Nat.mul_one,Nat.beq_refl,allI_true,cond_true,cond_false,ieq_self,Bool.not_true,Bool.not_false,decide_true,brP_f,brP_t,sdA_t,bytesL_packL,List.nil_append]
 have h1:x.l.length≤1999990:=h1
 have hr:=((rowsI_self x.l).app x.a)
 refine ⟨⟨⟨x.l,rfl,rfl⟩,by omega⟩,⟨⟨h2,h3⟩,h4⟩,sdA_of (decide_eq_true ⟨by omega,by omega⟩) (sdA_of hr.good ⟨⟨hr.all,by omega,f.code,rfl,rfl⟩,?_⟩)⟩
 rw [hr.rowL,bad_all]
 unfold regsS
 rw [h4]
 simp [List.all_append,Bool.and_assoc]
theorem runReg1:∀ (x:LI) (f:LF),x.l.length≤1999990→1≤x.op→x.op≤33→named x.op=1→(cRun (cxReg 1) 100).call 175 [.agg (LI.row x),.agg (LF.row f)] .leaf 0 (ResM Tryz.prog false (.bool (regsS f x))) :=
 Eq.mpr (by kernel_rfl) runReg1_r
theorem runReg2_r:∀ (x:LI) (f:LF),Nat.le (List.length (LI.l x)) 1999990→Int.NonNeg (LI.op x - (1:Int))→Int.NonNeg ((33:Int) - LI.op x)→named (LI.op x)=(2:Int)→((∃ (S:List Int),List.length (LI.l x)=List.length S∧rI (LI.l x)=fun (i:Nat)=>[AV.int IntKind.i64 (List.getD S i (0:Int))])∧Nat.le (List.length (LI.l x)) 2000000)∧((Int.NonNeg (LI.op x - (1:Int))∧Int.NonNeg ((33:Int) - LI.op x))∧named (LI.op x)=(2:Int))∧sdA (bif bif Nat.ble (List.length (LI.l x) * 1) (List.length (LI.l x)) then true else false then decide (List.length (LI.l x) + 1≤9223372036854775807∧(List.length (LI.l x) + 1) * 8≤140737488355328) else false) (sdA (bif bif Nat.ble ((List.length (LI.l x) + 1) * 1) ((List.length (LI.l x) + 1) * 1) then true else false then decide (List.length (LI.l x) + 1 + 1≤9223372036854775807∧(List.length (LI.l x) + 1 + 1) * 8≤140737488355328) else false) (sdA (bif bif Nat.ble ((List.length (LI.l x) + 1 + 1) * 1) ((List.length (LI.l x) + 1 + 1) * 1) then goodR 1 (List.length (LI.l x) + 1 + 1) (appF (List.length (LI.l x) + 1) (appF (List.length (LI.l x)) (rI (LI.l x)) fun (x_1:Nat)=>[AV.int IntKind.i64 (LI.a x)]) fun (x_1:Nat)=>[AV.int IntKind.i64 (LI.b x)]) else false then true else false) (sdA (bif bif Nat.beq (List.length (LI.l x) + 1 + 1) (List.length (LI.l x) + 1 + 1) then bif Nat.beq (List.length (LI.l x) + 1 + 1) (List.length (LI.l x) + 1 + 1) then true else false else false then bif Nat.beq (List.length (LI.l x) + 1 + 1) (List.length (LI.l x) + 1 + 1) then true else false else false) ((allI1 (List.length (LI.l x) + 1 + 1) (appF (List.length (LI.l x) + 1) (appF (List.length (LI.l x)) (rI (LI.l x)) fun (x_1:Nat)=>[AV.int IntKind.i64 (LI.a x)]) fun (x_1:Nat)=>[AV.int IntKind.i64 (LI.b x)])=true∧Nat.le (List.length (LI.l x) + 1 + 1) 2000000∧∃ (code:List LI),List.length (LF.code f)=List.length code∧rLI (LF.code f)=rLI code)∧(!bar (badR (LF.regs f) (rowL (List.length (LI.l x) + 1 + 1) (appF (List.length (LI.l x) + 1) (appF (List.length (LI.l x)) (rI (LI.l x)) fun (x_1:Nat)=>[AV.int IntKind.i64 (LI.a x)]) fun (x_1:Nat)=>[AV.int IntKind.i64 (LI.b x)]))))=regsS f x))))
:= by
 intro x f h1 h2 h3 h4
 simp only [barr_eq,bar_eq,true_and,and_true,eq_self,implies_true,Nat.le_eq,cond_tf,cond_cf,nif_tf,Int.toNat_natCast,Int.ofNat_eq_natCast,Nat.ble_eq,Nat.ble_self_eq_true,Bool.true_and,Bool.and_true,Bool.and_self,Option.some.injEq,AV.int.injEq,rowB_self,allBR_self,Nat.mul_one,Nat.beq_refl,allI_true,cond_true,cond_false,ieq_self,Bool.not_true,Bool.not_false,decide_true,brP_f,brP_t,sdA_t,bytesL_packL,List.nil_append]
 have h1:x.l.length≤1999990:=h1
 have hr:=(((rowsI_self x.l).app x.a).app x.b)
 refine ⟨⟨⟨x.l,rfl,rfl⟩,by omega⟩,⟨⟨h2,h3⟩,h4⟩,sdA_of (decide_eq_true ⟨by omega,by omega⟩) (sdA_of (decide_eq_true ⟨by omega,by omega⟩) (sdA_of hr.good ⟨⟨hr.all,by omega,f.code,rfl,rfl⟩,?_⟩))⟩
 rw [hr.rowL,bad_all]
 unfold regsS
 rw [h4]
 simp [List.all_append,Bool.and_assoc]
theorem runReg2:∀ (x:LI) (f:LF),x.l.length≤1999990→1≤x.op→x.op≤33→named x.op=2→(cRun (cxReg 2) 100).call 175 [.agg (LI.row x),.agg (LF.row f)] .leaf 0 (ResM Tryz.prog false (.bool (regsS f x))) :=
 Eq.mpr (by kernel_rfl) runReg2_r
theorem runReg3_r:∀ (x:LI) (f:LF),Nat.le (List.length (LI.l x)) 1999990→Int.NonNeg (LI.op x - (1:Int))→Int.NonNeg ((33:Int) - LI.op x)→named (LI.op x)=(3:Int)→((∃ (S:List Int),List.length (LI.l x)=List.length S∧rI (LI.l x)=fun (i:Nat)=>[AV.int IntKind.i64 (List.getD S i (0:Int))])∧Nat.le (List.length (LI.l x)) 2000000)∧((Int.NonNeg (LI.op x - (1:Int))∧Int.NonNeg ((33:Int) - LI.op x))∧named (LI.op x)=(3:Int))∧sdA (bif bif Nat.ble (List.length (LI.l x) * 1) (List.length (LI.l x)) then true else false then decide (List.length (LI.l x) + 1≤9223372036854775807∧(List.length (LI.l x) + 1) * 8≤140737488355328) else false) (sdA (bif bif Nat.ble ((List.length (LI.l x) + 1) * 1) ((List.length (LI.l x) + 1) * 1) then true else false then decide (List.length (LI.l x) + 1 + 1≤9223372036854775807∧(List.length (LI.l x) + 1 + 1) * 8≤140737488355328) else false) (sdA (bif bif Nat.ble ((List.length (LI.l x) + 1 + 1) * 1) ((List.length (LI.l x) + 1 + 1) * 1) then true else false then decide (List.length (LI.l x) + 1 + 1 + 1≤9223372036854775807∧(List.length (LI.l x) + 1 + 1 + 1) * 8≤140737488355328) else false) (sdA (bif bif Nat.ble ((List.length (LI.l x) + 1 + 1 + 1) * 1) ((List.length (LI.l x) + 1 + 1 + 1) * 1) then goodR 1 (List.length (LI.l x) + 1 + 1 + 1) (appF (List.length (LI.l x) + 1 + 1) (appF (List.length (LI.l x) + 1) (appF (List.length (LI.l x)) (rI (LI.l x)) fun (x_1:Nat)=>[AV.int IntKind.i64 (LI.a x)]) fun (x_1:Nat)=>[AV.int IntKind.i64 (LI.b x)]) fun (x_1:Nat)=>[AV.int IntKind.i64 (LI.c x)]) else false then true else false) (sdA (bif bif Nat.beq (List.length (LI.l x) + 1 + 1 + 1) (List.length (LI.l x) + 1 + 1 + 1) then bif Nat.beq (List.length (LI.l x) + 1 + 1 + 1) (List.length (LI.l x) + 1 + 1 + 1) then true else false else false then bif Nat.beq (List.length (LI.l x) + 1 + 1 + 1) (List.length (LI.l x) + 1 + 1 + 1) then true else false else false) ((allI1 (List.length (LI.l x) + 1 + 1 + 1) (appF (List.length (LI.l x) + 1 + 1) (appF (List.length (LI.l x) + 1) (appF (List.length (LI.l x)) (rI (LI.l x)) fun (x_1:Nat)=>[AV.int IntKind.i64 (LI.a x)]) fun (x_1:Nat)=>[AV.int IntKind.i64 (LI.b x)]) fun (x_1:Nat)=>[AV.int IntKind.i64 (LI.c x)])=true∧Nat.le (List.length (LI.l x) + 1 + 1 + 1) 2000000∧∃ (code:List LI),List.length (LF.code f)=List.length code∧rLI (LF.code f)=rLI code)∧(!bar (badR (LF.regs f) (rowL (List.length (LI.l x) + 1 + 1 + 1) (appF (List.length (LI.l x) + 1 + 1) (appF (List.length (LI.l x) + 1) (appF (List.length (LI.l x)) (rI (LI.l x)) fun (x_1:Nat)=>[AV.int IntKind.i64 (LI.a x)]) fun (x_1:Nat)=>[AV.int IntKind.i64 (LI.b x)]) fun (x_1:Nat)=>[AV.int IntKind.i64 (LI.c x)]))))=regsS f x)))))
:= by
 intro x f h1 h2 h3 h4
 simp only [barr_eq,bar_eq,true_and,and_true,eq_self,implies_true,Nat.le_eq,cond_tf,cond_cf,nif_tf,Int.toNat_natCast,Int.ofNat_eq_natCast,Nat.ble_eq,Nat.ble_self_eq_true,Bool.true_and,Bool.and_true,Bool.and_self,Option.some.injEq,AV.int.injEq,rowB_self,allBR_self,Nat.mul_one,Nat.beq_refl,allI_true,cond_true,cond_false,ieq_self,Bool.not_true,Bool.not_false,decide_true,brP_f,brP_t,sdA_t,bytesL_packL,List.nil_append]
 have h1:x.l.length≤1999990:=h1
 have hr:=((((rowsI_self x.l).app x.a).app x.b).app x.c)
 refine ⟨⟨⟨x.l,rfl,rfl⟩,by omega⟩,⟨⟨h2,h3⟩,h4⟩,sdA_of (decide_eq_true ⟨by omega,by omega⟩) (sdA_of (decide_eq_true ⟨by omega,by omega⟩) (sdA_of (decide_eq_true ⟨by omega,by omega⟩) (sdA_of hr.good ⟨⟨hr.all,by omega,f.code,rfl,rfl⟩,?_⟩)))⟩
 rw [hr.rowL,bad_all]
 unfold regsS
 rw [h4]
 simp [List.all_append,Bool.and_assoc]
theorem runReg3:∀ (x:LI) (f:LF),x.l.length≤1999990→1≤x.op→x.op≤33→named x.op=3→(cRun (cxReg 3) 100).call 175 [.agg (LI.row x),.agg (LF.row f)] .leaf 0 (ResM Tryz.prog false (.bool (regsS f x))) :=
 Eq.mpr (by kernel_rfl) runReg3_r
theorem named_cases (o:Int):named o=0∨named o=1∨named o=2∨named o=3:=by
 unfold named
 repeat' split
 all_goals simp
theorem okPartsK {k:Nat} (h:∀ o:Int,1≤o∧o≤33→named o=k→(cRun cx0 60).call 210 [.int .i64 o] .leaf 0 (ResM Tryz.prog false (.str k (letsN k)))):EntOK Tryz.prog 210 (eParts k):=by
 refine ent_of2 (gl:=[]) (ng:=0) gl0 fun H args ct hct=>?_
 unfold eParts at hct
 split at hct
 ·rename_i o
  injection hct with hct;subst hct
  exact ⟨gl0,_,_,rfl,fun hp=>⟨⟨⟨rfl,rfl⟩,trivial⟩,cx0,60,rfl,fol,tb_nil,h o hp.1 hp.2⟩⟩
 ·cases hct
theorem okReg:EntOK Tryz.prog 175 eReg:=by
 refine ent_of2 (gl:=[]) (ng:=0) gl0 fun H args ct hct=>?_
 unfold eReg at hct
 split at hct
 ·rename_i l m
  injection hct with hct;subst hct
  refine ⟨gl0,_,_,rfl,?_⟩
  rintro ⟨x,f,rfl,rfl,h1,h2,h3⟩
  rw [dLF_row,dLI_row,bar_eq]
  rcases named_cases x.op with h | h | h | h
  ·exact ⟨⟨vm_LIr x,vm_LF f,trivial⟩,cxReg 0,100,rfl,fol,tb_cons (okPartsK runParts0) (tb_cons okBad2 tb_nil),runReg0 x f h1 h2 h3 h⟩
  ·exact ⟨⟨vm_LIr x,vm_LF f,trivial⟩,cxReg 1,100,rfl,fol,tb_cons (okPartsK runParts1) (tb_cons okBad2 tb_nil),runReg1 x f h1 h2 h3 h⟩
  ·exact ⟨⟨vm_LIr x,vm_LF f,trivial⟩,cxReg 2,100,rfl,fol,tb_cons (okPartsK runParts2) (tb_cons okBad2 tb_nil),runReg2 x f h1 h2 h3 h⟩
  ·exact ⟨⟨vm_LIr x,vm_LF f,trivial⟩,cxReg 3,100,rfl,fol,tb_cons (okPartsK runParts3) (tb_cons okBad2 tb_nil),runReg3 x f h1 h2 h3 h⟩
 ·cases hct
end Go.Proofs.YtedpjdkikbgojaaGreatDoor
