/- Laid by program out of its parts: JrF. -/
import Derived.Test.YtedpjdkikbgojaaGreatDoorJrE
import Derived.Test.YtedpjdkikbgojaaGreatDoorMn
import Derived.Test.YtedpjdkikbgojaaGreatDoorJrT
set_option linter.unusedVariables false
set_option linter.unusedSimpArgs false
set_option maxRecDepth 100000
open Go Go.Ev
namespace Go.Proofs.YtedpjdkikbgojaaGreatDoor
def baseN (p:LP):Nat:=p.loopers.length + p.classes.length + p.globals.length + p.comps.length + p.events.length + p.funcs.length + p.sites.length
def sumL (code:List LI):Nat→Nat
 | 0=>0
 | k + 1=>sumL code k + (code.getD k LI.none).l.length
def sumF (p:LP):Nat→Nat
 | 0=>0
 | i + 1=>sumF p i + ((p.funcs.getD i LF.none).code.length + sumL (p.funcs.getD i LF.none).code (min (p.funcs.getD i LF.none).code.length 3000))
def muchN (p:LP):Nat:=baseN p + sumF p (min p.funcs.length 200)
structure Mu1 (p:LP) (i:Nat) (n:Int):Prop where
 le:i≤min p.funcs.length 200
 n:n=((baseN p + sumF p i:Nat):Int)
structure Mu2 (p:LP) (i k:Nat) (n:Int):Prop where
 le:k≤min (p.funcs.getD i LF.none).code.length 3000
 n:n=((baseN p + sumF p i + ((p.funcs.getD i LF.none).code.length + sumL (p.funcs.getD i LF.none).code k):Nat):Int)
noncomputable def SU1 (p:LP):Stn:=thin (Nat×Int) [1] (fun x=>[(3,.int .i64 x.2),(4,.int .i64 x.1)]) (fun _ x=>Mu1 p x.1 x.2) fun x=>200 - x.1
noncomputable def SU2 (p:LP):Stn:=thin (Nat×Int) [1,4] (fun x=>[(3,.int .i64 x.2),(5,.int .i64 x.1)]) (fun s x=>∀ a,s.T.get 4=some (.int .i64 a)→Mu2 p a.toNat x.1 x.2) fun x=>3000 - x.1
noncomputable def cxU (p:LP):Ctx:={ P:=Tryz.prog,tb:=[],lp:=fun g r=>cond (Nat.beq g 4) (cond (Nat.beq r 3) (some (SU1 p)) (cond (Nat.beq r 7) (some (SU2 p)) none)) none,cut:=fun _ _=>none }
theorem sumL_mono (code:List LI):∀ a b,a≤b→sumL code a≤sumL code b
 | a,0,h=>by rw [show a=0 by omega];exact Nat.le_refl _
 | a,b + 1,h=>by
  rcases Nat.lt_or_ge a (b + 1) with h1 | h1
  ·have:=sumL_mono code a b (by omega);rw [sumL];omega
  ·rw [show a=b + 1 by omega];exact Nat.le_refl _
theorem sumF_mono (p:LP):∀ a b,a≤b→sumF p a≤sumF p b
 | a,0,h=>by rw [show a=0 by omega];exact Nat.le_refl _
 | a,b + 1,h=>by
  rcases Nat.lt_or_ge a (b + 1) with h1 | h1
  ·have:=sumF_mono p a b (by omega);rw [sumF];omega
  ·rw [show a=b + 1 by omega];exact Nat.le_refl _
@[reducible] def JrF_runMuch_k0:LP→Prop:=fun (p:LP)=>(true=true∧true=true∧true=true∧true=true∧(((((((True∧true=true∧List.length (LP.loopers p)=List.length (LP.loopers p)∧AllI fun (i:Nat)=>Nat.le (Nat.succ i) (List.length (LP.loopers p))→List.getD (LP.loopers p) i []=List.getD (LP.loopers p) i []∧True)∧true=true∧List.length (LP.classes p)=List.length (LP.classes p)∧AllI fun (i:Nat)=>Nat.le (Nat.succ i) (List.length (LP.classes p))→LC.name (List.getD (LP.classes p) i (LC.mk [] [] []))=LC.name (List.getD (LP.classes p) i (LC.mk [] [] []))∧(true=true∧List.length (LC.names (List.getD (LP.classes p) i (LC.mk [] [] [])))=List.length (LC.names (List.getD (LP.classes p) i (LC.mk [] [] [])))∧AllI fun (i_1:Nat)=>Nat.le (Nat.succ i_1) (List.length (LC.names (List.getD (LP.classes p) i (LC.mk [] [] []))))→List.getD (LC.names (List.getD (LP.classes p) i (LC.mk [] [] []))) i_1 []=List.getD (LC.names (List.getD (LP.classes p) i (LC.mk [] [] []))) i_1 []∧True)∧(true=true∧List.length (LC.fields (List.getD (LP.classes p) i (LC.mk [] [] [])))=List.length (LC.fields (List.getD (LP.classes p) i (LC.mk [] [] [])))∧AllI fun (i_1:Nat)=>Nat.le (Nat.succ i_1) (List.length (LC.fields (List.getD (LP.classes p) i (LC.mk [] [] []))))→(true=true∧List.getD (LC.fields (List.getD (LP.classes p) i (LC.mk [] [] []))) i_1 (0:Int)=List.getD (LC.fields (List.getD (LP.classes p) i (LC.mk [] [] []))) i_1 (0:Int))∧True)∧True)∧true=true∧List.length (LP.globals p)=List.length (LP.globals p)∧AllI fun (i:Nat)=>Nat.le (Nat.succ i) (List.length (LP.globals p))→LG.name (List.getD (LP.globals p) i (LG.mk [] (0:Int)))=LG.name (List.getD (LP.globals p) i (LG.mk [] (0:Int)))∧(true=true∧LG.type (List.getD (LP.globals p) i (LG.mk [] (0:Int)))=LG.type (List.getD (LP.globals p) i (LG.mk [] (0:Int))))∧True)∧true=true∧List.length (LP.funcs p)=List.length (LP.funcs p)∧AllI fun (i:Nat)=>Nat.le (Nat.succ i) (List.length (LP.funcs p))→LF.name (List.getD (LP.funcs p) i (LF.mk [] (0:Int) (0:Int) []))=LF.name (List.getD (LP.funcs p) i (LF.mk [] (0:Int) (0:Int) []))∧(true=true∧LF.cap (List.getD (LP.funcs p) i (LF.mk [] (0:Int) (0:Int) []))=LF.cap (List.getD (LP.funcs p) i (LF.mk [] (0:Int) (0:Int) [])))∧(true=true∧LF.regs (List.getD (LP.funcs p) i (LF.mk [] (0:Int) (0:Int) []))=LF.regs (List.getD (LP.funcs p) i (LF.mk [] (0:Int) (0:Int) [])))∧(true=true∧List.length (LF.code (List.getD (LP.funcs p) i (LF.mk [] (0:Int) (0:Int) [])))=List.length (LF.code (List.getD (LP.funcs p) i (LF.mk [] (0:Int) (0:Int) [])))∧AllI fun (i_1:Nat)=>Nat.le (Nat.succ i_1) (List.length (LF.code (List.getD (LP.funcs p) i (LF.mk [] (0:Int) (0:Int) []))))→(true=true∧LI.op (List.getD (LF.code (List.getD (LP.funcs p) i (LF.mk [] (0:Int) (0:Int) []))) i_1 LI.none)=LI.op (List.getD (LF.code (List.getD (LP.funcs p) i (LF.mk [] (0:Int) (0:Int) []))) i_1 LI.none))∧(true=true∧LI.a (List.getD (LF.code (List.getD (LP.funcs p) i (LF.mk [] (0:Int) (0:Int) []))) i_1 LI.none)=LI.a (List.getD (LF.code (List.getD (LP.funcs p) i (LF.mk [] (0:Int) (0:Int) []))) i_1 LI.none))∧(true=true∧LI.b (List.getD (LF.code (List.getD (LP.funcs p) i (LF.mk [] (0:Int) (0:Int) []))) i_1 LI.none)=LI.b (List.getD (LF.code (List.getD (LP.funcs p) i (LF.mk [] (0:Int) (0:Int) []))) i_1 LI.none))∧(true=true∧LI.c (List.getD (LF.code (List.getD (LP.funcs p) i (LF.mk [] (0:Int) (0:Int) []))) i_1 LI.none)=LI.c (List.getD (LF.code (List.getD (LP.funcs p) i (LF.mk [] (0:Int) (0:Int) []))) i_1 LI.none))∧(true=true∧LI.n (List.getD (LF.code (List.getD (LP.funcs p) i (LF.mk [] (0:Int) (0:Int) []))) i_1 LI.none)=LI.n (List.getD (LF.code (List.getD (LP.funcs p) i (LF.mk [] (0:Int) (0:Int) []))) i_1 LI.none))∧(true=true∧List.length (LI.l (List.getD (LF.code (List.getD (LP.funcs p) i (LF.mk [] (0:Int) (0:Int) []))) i_1 LI.none))=List.length (LI.l (List.getD (LF.code (List.getD (LP.funcs p) i (LF.mk [] (0:Int) (0:Int) []))) i_1 LI.none))∧AllI fun (i_2:Nat)=>Nat.le (Nat.succ i_2) (List.length (LI.l (List.getD (LF.code (List.getD (LP.funcs p) i (LF.mk [] (0:Int) (0:Int) []))) i_1 LI.none)))→(true=true∧List.getD (LI.l (List.getD (LF.code (List.getD (LP.funcs p) i (LF.mk [] (0:Int) (0:Int) []))) i_1 LI.none)) i_2 (0:Int)=List.getD (LI.l (List.getD (LF.code (List.getD (LP.funcs p) i (LF.mk [] (0:Int) (0:Int) []))) i_1 LI.none)) i_2 (0:Int))∧True)∧(true=true∧LI.site (List.getD (LF.code (List.getD (LP.funcs p) i (LF.mk [] (0:Int) (0:Int) []))) i_1 LI.none)=LI.site (List.getD (LF.code (List.getD (LP.funcs p) i (LF.mk [] (0:Int) (0:Int) []))) i_1 LI.none))∧(true=true∧LI.line (List.getD (LF.code (List.getD (LP.funcs p) i (LF.mk [] (0:Int) (0:Int) []))) i_1 LI.none)=LI.line (List.getD (LF.code (List.getD (LP.funcs p) i (LF.mk [] (0:Int) (0:Int) []))) i_1 LI.none))∧True)∧True)∧true=true∧List.length (LP.comps p)=List.length (LP.comps p)∧AllI fun (i:Nat)=>Nat.le (Nat.succ i) (List.length (LP.comps p))→LM.name (List.getD (LP.comps p) i (LM.mk [] (0:Int) (0:Int) (0:Int) (0:Int) (0:Int)))=LM.name (List.getD (LP.comps p) i (LM.mk [] (0:Int) (0:Int) (0:Int) (0:Int) (0:Int)))∧(true=true∧LM.looper (List.getD (LP.comps p) i (LM.mk [] (0:Int) (0:Int) (0:Int) (0:Int) (0:Int)))=LM.looper (List.getD (LP.comps p) i (LM.mk [] (0:Int) (0:Int) (0:Int) (0:Int) (0:Int))))∧(true=true∧LM.f0 (List.getD (LP.comps p) i (LM.mk [] (0:Int) (0:Int) (0:Int) (0:Int) (0:Int)))=LM.f0 (List.getD (LP.comps p) i (LM.mk [] (0:Int) (0:Int) (0:Int) (0:Int) (0:Int))))∧(true=true∧LM.f1 (List.getD (LP.comps p) i (LM.mk [] (0:Int) (0:Int) (0:Int) (0:Int) (0:Int)))=LM.f1 (List.getD (LP.comps p) i (LM.mk [] (0:Int) (0:Int) (0:Int) (0:Int) (0:Int))))∧(true=true∧LM.f2 (List.getD (LP.comps p) i (LM.mk [] (0:Int) (0:Int) (0:Int) (0:Int) (0:Int)))=LM.f2 (List.getD (LP.comps p) i (LM.mk [] (0:Int) (0:Int) (0:Int) (0:Int) (0:Int))))∧(true=true∧LM.f3 (List.getD (LP.comps p) i (LM.mk [] (0:Int) (0:Int) (0:Int) (0:Int) (0:Int)))=LM.f3 (List.getD (LP.comps p) i (LM.mk [] (0:Int) (0:Int) (0:Int) (0:Int) (0:Int))))∧True)∧true=true∧List.length (LP.events p)=List.length (LP.events p)∧AllI fun (i:Nat)=>Nat.le (Nat.succ i) (List.length (LP.events p))→LE.name (List.getD (LP.events p) i (LE.mk [] (0:Int) false (0:Int)))=LE.name (List.getD (LP.events p) i (LE.mk [] (0:Int) false (0:Int)))∧(true=true∧LE.looper (List.getD (LP.events p) i (LE.mk [] (0:Int) false (0:Int)))=LE.looper (List.getD (LP.events p) i (LE.mk [] (0:Int) false (0:Int))))∧LE.on (List.getD (LP.events p) i (LE.mk [] (0:Int) false (0:Int)))=LE.on (List.getD (LP.events p) i (LE.mk [] (0:Int) false (0:Int)))∧(true=true∧LE.func (List.getD (LP.events p) i (LE.mk [] (0:Int) false (0:Int)))=LE.func (List.getD (LP.events p) i (LE.mk [] (0:Int) false (0:Int))))∧True)∧true=true∧LP.main p=LP.main p)∧true=true∧List.length (LP.sites p)=List.length (LP.sites p)∧AllI fun (i:Nat)=>Nat.le (Nat.succ i) (List.length (LP.sites p))→(true=true∧LS.func (List.getD (LP.sites p) i (LS.mk (0:Int) (0:Int)))=LS.func (List.getD (LP.sites p) i (LS.mk (0:Int) (0:Int))))∧(true=true∧LS.at_ (List.getD (LP.sites p) i (LS.mk (0:Int) (0:Int)))=LS.at_ (List.getD (LP.sites p) i (LS.mk (0:Int) (0:Int))))∧True)∧True
@[reducible] def JrF_runMuch_k1:LP→Nat×Int→Nat×Int→Nat×Int→Prop:=fun (p:LP) (a a_1 a_2:Nat×Int)=>Mu1 p (Prod.fst a_2) (Prod.snd a_2)∧Nat.le (Nat.succ (200 - Prod.fst a_2)) (200 - Prod.fst a)∧true=true∧((true=true∧Prod.snd a_1=Prod.snd a_2)∧(true=true∧(↑(Prod.fst a):Int) + (1:Int)=(↑(Prod.fst a_2):Int))∧(some 0=some 0∧true=true)∧True)∧JrF_runMuch_k0 p
theorem runMuch_r:∀ (p:LP),Nat.le (muchN p) 2000000→sdA (inR IntKind.i64 (Int.ofNat (List.length (LP.loopers p)) + Int.ofNat (List.length (LP.classes p)))) (sdA (inR IntKind.i64 (Int.ofNat (List.length (LP.loopers p)) + Int.ofNat (List.length (LP.classes p)) + Int.ofNat (List.length (LP.globals p)))) (sdA (inR IntKind.i64 (Int.ofNat (List.length (LP.loopers p)) + Int.ofNat (List.length (LP.classes p)) + Int.ofNat (List.length (LP.globals p)) + Int.ofNat (List.length (LP.comps p)))) (sdA (inR IntKind.i64 (Int.ofNat (List.length (LP.loopers p)) + Int.ofNat (List.length (LP.classes p)) + Int.ofNat (List.length (LP.globals p)) + Int.ofNat (List.length (LP.comps p)) + Int.ofNat (List.length (LP.events p)))) (sdA (inR IntKind.i64 (Int.ofNat (List.length (LP.loopers p)) + Int.ofNat (List.length (LP.classes p)) + Int.ofNat (List.length (LP.globals p)) + Int.ofNat (List.length (LP.comps p)) + Int.ofNat (List.length (LP.events p)) + Int.ofNat (List.length (LP.funcs p)))) (sdA (inR IntKind.i64 (Int.ofNat (List.length (LP.loopers p)) + Int.ofNat (List.length (LP.classes p)) + Int.ofNat (List.length (LP.globals p)) + Int.ofNat (List.length (LP.comps p)) + Int.ofNat (List.length (LP.events p)) + Int.ofNat (List.length (LP.funcs p)) + Int.ofNat (List.length (LP.sites p)))) ((∃ (x0:Nat×Int),Mu1 p x0.1 x0.2∧true=true∧((true=true∧Int.ofNat (List.length (LP.loopers p)) + Int.ofNat (List.length (LP.classes p)) + Int.ofNat (List.length (LP.globals p)) + Int.ofNat (List.length (LP.comps p)) + Int.ofNat (List.length (LP.events p)) + Int.ofNat (List.length (LP.funcs p)) + Int.ofNat (List.length (LP.sites p))=x0.2)∧(true=true∧(0:Int)=(↑x0.1:Int))∧(some 0=some 0∧true=true)∧True)∧JrF_runMuch_k0 p)∧∀ (x:Nat×Int),Mu1 p x.1 x.2→brP (ilt (↑x.1:Int) (Int.ofNat (List.length (LP.funcs p)))) (brP (ilt (↑x.1:Int) (200:Int)) (sdA (inB (↑x.1:Int) (List.length (LP.funcs p))) (sdA (inR IntKind.i64 (x.2 + Int.ofNat (List.length (LF.code (List.getD (LP.funcs p) (Int.toNat (↑x.1:Int)) (LF.mk [] (0:Int) (0:Int) [])))))) ((∃ (x0:Nat×Int),(∀ (a:Int),some (AV.int IntKind.i64 (↑x.1:Int))=some (AV.int IntKind.i64 a)→Mu2 p (Int.toNat a) x0.1 x0.2)∧true=true∧((true=true∧x.2 + Int.ofNat (List.length (LF.code (List.getD (LP.funcs p) (Int.toNat (↑x.1:Int)) (LF.mk [] (0:Int) (0:Int) []))))=x0.2)∧(true=true∧(0:Int)=(↑x0.1:Int))∧(some 0=some 0∧true=true)∧(true=true∧(↑x.1:Int)=(↑x.1:Int))∧True)∧JrF_runMuch_k0 p)∧∀ (x_1:Nat×Int),(∀ (a:Int),some (AV.int IntKind.i64 (↑x.1:Int))=some (AV.int IntKind.i64 a)→Mu2 p (Int.toNat a) x_1.1 x_1.2)→sdA (inB (↑x.1:Int) (List.length (LP.funcs p))) (brP (ilt (↑x_1.1:Int) (Int.ofNat (List.length (LF.code (List.getD (LP.funcs p) (Int.toNat (↑x.1:Int)) (LF.mk [] (0:Int) (0:Int) [])))))) (brP (ilt (↑x_1.1:Int) (3000:Int)) (sdA (inB (↑x.1:Int) (List.length (LP.funcs p))) (sdA (inB (↑x_1.1:Int) (List.length (LF.code (List.getD (LP.funcs p) (Int.toNat (↑x.1:Int)) (LF.mk [] (0:Int) (0:Int) []))))) (sdA (inR IntKind.i64 (x_1.2 + Int.ofNat (List.length (LI.l (List.getD (LF.code (List.getD (LP.funcs p) (Int.toNat (↑x.1:Int)) (LF.mk [] (0:Int) (0:Int) []))) (Int.toNat (↑x_1.1:Int)) LI.none))))) (sdA (inR IntKind.i64 ((↑x_1.1:Int) + (1:Int))) (∃ (x':Nat×Int),(∀ (a:Int),some (AV.int IntKind.i64 (↑x.1:Int))=some (AV.int IntKind.i64 a)→Mu2 p (Int.toNat a) x'.1 x'.2)∧Nat.le (Nat.succ (3000 - x'.1)) (3000 - x_1.1)∧true=true∧((true=true∧x_1.2 + Int.ofNat (List.length (LI.l (List.getD (LF.code (List.getD (LP.funcs p) (Int.toNat (↑x.1:Int)) (LF.mk [] (0:Int) (0:Int) []))) (Int.toNat (↑x_1.1:Int)) LI.none)))=x'.2)∧(true=true∧(↑x_1.1:Int) + (1:Int)=(↑x'.1:Int))∧(some 0=some 0∧true=true)∧(true=true∧(↑x.1:Int)=(↑x.1:Int))∧True)∧JrF_runMuch_k0 p))))) (sdA (inR IntKind.i64 ((↑x.1:Int) + (1:Int))) (∃ (x':Nat×Int),JrF_runMuch_k1 p x x_1 x'))) (sdA (inR IntKind.i64 ((↑x.1:Int) + (1:Int))) (∃ (x':Nat×Int),JrF_runMuch_k1 p x x_1 x')))))) (ilt (3000:Int) x.2=decide (3000 < muchN p))) (ilt (3000:Int) x.2=decide (3000 < muchN p))))))))
:= by
 intro p hs
 simp only [barr_eq,bar_eq,true_and,and_true,eq_self,implies_true,Nat.le_eq,cond_tf,cond_cf,nif_tf,Int.toNat_natCast,Int.ofNat_eq_natCast,Nat.ble_eq,Nat.ble_self_eq_true,Bool.true_and,Bool.and_true,Bool.and_self,Option.some.injEq,AV.int.injEq,rowB_self,allBR_self,Nat.mul_one,Nat.beq_refl,allI_true,cond_true,cond_false,ieq_self,Bool.not_true,Bool.not_false,decide_true,brP_f,brP_t,sdA_t,bytesL_packL,List.nil_append,JrF_runMuch_k0,JrF_runMuch_k1]
 have hz:(⟨[],0,0,[]⟩:LF)=LF.none:=rfl
 simp only [hz]
 have hb:baseN p≤muchN p:=Nat.le_add_right _ _
 have hb2:baseN p=p.loopers.length + p.classes.length + p.globals.length + p.comps.length + p.events.length + p.funcs.length + p.sites.length:=rfl
 have hs:muchN p≤2000000:=hs
 refine sdA_of (inR_i64.2 (by omega)) (sdA_of (inR_i64.2 (by omega)) (sdA_of (inR_i64.2 (by omega)) (sdA_of (inR_i64.2 (by omega)) (sdA_of (inR_i64.2 (by omega)) (sdA_of (inR_i64.2 (by omega)) ⟨⟨(0,_),⟨Nat.zero_le _,?_⟩,rfl,rfl⟩,fun x hx=>?_⟩)))))
 ·simp only [sumF,hb2];omega
 obtain ⟨i,m⟩:=x
 simp only at hx ⊢
 have hle:=hx.le
 have hm:=hx.n
 have mono:=sumF_mono p i (min p.funcs.length 200) hle
 have hM:muchN p=baseN p + sumF p (min p.funcs.length 200):=rfl
 have fin:∀ h:i=min p.funcs.length 200,ilt 3000 m=decide (3000 < muchN p):=fun h=>by
  rw [ilt_eq,hM,← h]
  congr 1
  exact propext ⟨fun _=>by omega,fun _=>by omega⟩
 refine brP_of (fun h=>?_) fun h=>?_
 ·rw [ilt_iff] at h
  refine brP_of (fun h2=>?_) fun h2=>?_
  ·rw [ilt_iff] at h2
   have hin:inB (i:Int) p.funcs.length=true:=inB_iff.2 (by omega)
   have mono1:=sumF_mono p (i + 1) (min p.funcs.length 200) (by omega)
   have hF:sumF p (i + 1)=sumF p i + ((p.funcs.getD i LF.none).code.length + sumL (p.funcs.getD i LF.none).code (min (p.funcs.getD i LF.none).code.length 3000)):=rfl
   refine sdA_of hin (sdA_of (inR_i64.2 (by omega)) ⟨⟨(0,_),fun a ha=>by subst ha;exact ⟨Nat.zero_le _,by simp only [sumL,Int.toNat_natCast];omega⟩,rfl,rfl⟩,fun y hy=>?_⟩)
   obtain ⟨k,n⟩:=y
   have hJ:Mu2 p i k n:=hy _ rfl
   clear hy
   simp only
   have hk:=hJ.le
   have hn:=hJ.n
   have monoL:=sumL_mono (p.funcs.getD i LF.none).code k (min (p.funcs.getD i LF.none).code.length 3000) hk
   have nxt:∀ h:k=min (p.funcs.getD i LF.none).code.length 3000,Mu1 p (i + 1) n:=fun h=>⟨by omega,by rw [hF,← h];omega⟩
   refine sdA_of hin (brP_of (fun h3=>?_) fun h3=>?_)
   ·rw [ilt_iff] at h3
    refine brP_of (fun h4=>?_) fun h4=>?_
    ·rw [ilt_iff] at h4
     have monoL1:=sumL_mono (p.funcs.getD i LF.none).code (k + 1) (min (p.funcs.getD i LF.none).code.length 3000) (by omega)
     have hL:sumL (p.funcs.getD i LF.none).code (k + 1)=sumL (p.funcs.getD i LF.none).code k + ((p.funcs.getD i LF.none).code.getD k LI.none).l.length:=rfl
     exact sdA_of hin (sdA_of (inB_iff.2 (by omega)) (sdA_of (inR_i64.2 (by omega)) (sdA_of (inR_i64.2 (by omega)) ⟨(k + 1,_),fun a ha=>by subst ha;exact ⟨by simp only [Int.toNat_natCast];omega,by simp only [Int.toNat_natCast];omega⟩,by simp only;omega,rfl,by simp⟩)))
    ·rw [ilt_iffn] at h4
     exact sdA_of (inR_i64.2 (by omega)) ⟨(i + 1,n),nxt (by omega),by simp only;omega,rfl,by simp⟩
   ·rw [ilt_iffn] at h3
    exact sdA_of (inR_i64.2 (by omega)) ⟨(i + 1,n),nxt (by omega),by simp only;omega,rfl,by simp⟩
  ·rw [ilt_iffn] at h2
   exact fin (by omega)
 ·rw [ilt_iffn] at h
  exact fin (by omega)
theorem runMuch:∀ (p:LP),muchN p≤2000000→(cRun (cxU p) 100).call 4 [.agg (LP.row p)] .leaf 0 (ResM Tryz.prog false (.bool (decide (3000 < muchN p)))) :=
 Eq.mpr (by kernel_rfl) runMuch_r
noncomputable def eMuch:Tr AObj→List AV→Option Ct:=fun _ args=>match args with
 | [.agg l]=>some (.need (∃ p,l=LP.row p∧muchN p≤2000000) (.ret (.bool (bar (decide (3000 < muchN (dLP l)))))))
 | _=>none
theorem okMuch:EntOK Tryz.prog 4 eMuch:=by
 refine ent_of2 (gl:=[]) (ng:=0) gl0 fun H args ct hct=>?_
 unfold eMuch at hct
 split at hct
 ·rename_i l
  injection hct with hct;subst hct
  refine ⟨gl0,_,_,rfl,?_⟩
  rintro ⟨p,rfl,hs⟩
  rw [dLP_row,bar_eq]
  exact ⟨⟨vm_LP p,trivial⟩,cxU p,100,rfl,fol,tb_nil,runMuch p hs⟩
 ·cases hct
end Go.Proofs.YtedpjdkikbgojaaGreatDoor
section
set_option linter.unusedVariables false
set_option linter.unusedSimpArgs false
set_option maxRecDepth 100000
open Go Go.Ev
namespace Go.Proofs.YtedpjdkikbgojaaGreatDoor
def regsS (f:LF) (x:LI):Bool:=(x.l.all fun r=>inb r f.regs) && (inb x.a f.regs || !decide (0 < named x.op)) && (inb x.b f.regs || !decide (1 < named x.op)) && (inb x.c f.regs || !decide (2 < named x.op))
noncomputable def eReg:Tr AObj→List AV→Option Ct:=fun _ args=>match args with
 | [.agg l,.agg m]=>some (.need (∃ x f,l=LI.row x∧m=LF.row f∧x.l.length≤1999990∧1≤x.op∧x.op≤33) (.ret (.bool (bar (regsS (dLF m) (dLI l))))))
 | _=>none
def isI1 (l:List AV):Bool:=match l with
 | [.int .i64 _]=>true
 | _=>false
def allI1 (n:Nat) (f:Nat→List AV):Bool:=decide (∀ i,i < n→isI1 (f i)=true)
noncomputable def eBad2:Tr AObj→List AV→Option Ct:=fun _ args=>match args with
 | [.vec 1 m g,.fn (.func 211) [] [.pv [.bs nm,.int .i64 cap,.int .i64 regs,.vec 8 n h]]]=>some (.need (allI1 m g=true∧m≤2000000∧∃ code:List LI,n=code.length∧h=rLI code) (.ret (.bool (bar (badR regs (rowL m g))))))
 | _=>none
noncomputable def htC:HTbl:=[(44,cloneI 3)]
theorem htC_ok:HtOK Tryz.prog htC:=ht_cons (hent_cloneI ⟨_,_,Tryz.func44,by kernel_rfl,rfl⟩ (fun b off n c zs w=>Tryz.slices_Clone_int b off n c zs w) Tryz.slices_Clone_int_nil Tryz.slices_Clone_int_zero) (ht_nil _)
theorem runBelow_r:∀ (n m:Int),brP (!ilt n (0:Int)) (ilt n m=inb n m) (false=inb n m)
:= by
 intro n m
 unfold inb
 refine brP_of (fun h=>?_) (fun h=>?_)
 ·have h3:=ilt_iffn.1 (show ilt n 0=false by simpa using h)
  rw [decide_eq_true h3,Bool.true_and,ilt_eq]
 ·rw [decide_eq_false (show ¬ 0≤n by have:=ilt_iff.1 (show ilt n 0=true by simpa using h);omega)]
  simp
theorem runBelow:∀ n m:Int,(cRun cx0 60).call 112 [.int .i64 n,.int .i64 m] .leaf 0 (ResM Tryz.prog false (.bool (inb n m))) :=
 Eq.mpr (by kernel_rfl) runBelow_r
theorem okBelow:EntOK Tryz.prog 112 eB2:=by
 refine ent_of (gl:=[]) (ng:=0) gl0 fun H args ct hct=>?_
 unfold eB2 at hct
 split at hct
 ·rename_i n m
  injection hct with hct;subst hct
  exact ⟨gl0,⟨⟨rfl,rfl⟩,⟨rfl,rfl⟩,trivial⟩,_,_,rfl,fun _=>⟨cx0,60,rfl,fol,tb_nil,by rw [bar_eq];exact runBelow n m⟩⟩
 ·cases hct
theorem rowL_len (n:Nat) (f:Nat→List AV):(rowL n f).length=n:=by simp [rowL]
theorem rowL_get {n:Nat} {f:Nat→List AV} (h:allI1 n f=true) {i:Nat} (hi:i < n):f i=rI (rowL n f) i:=by
 unfold allI1 at h
 have h5:=of_decide_eq_true h i hi
 have h1:(rowL n f).getD i 0=oneI (f i):=by simp [rowL,List.getD_eq_getElem?_getD,hi]
 unfold rI intRow
 rw [h1]
 unfold isI1 at h5
 split at h5
 ·rename_i z hz;rw [hz];rfl
 ·cases h5
theorem okBad2:EntOK Tryz.prog 113 eBad2:=by
 refine ent_any (gl:=[]) (ng:=0) gl0 fun H args ct hct=>?_
 unfold eBad2 at hct
 split at hct
 ·rename_i m g nm cap regs n h
  injection hct with hct;subst hct
  refine ⟨gl0,_,_,rfl,?_⟩
  rintro ⟨hall,hs,code,rfl,rfl⟩
  have hl:=rowL_len m g
  rw [bar_eq]
  refine ⟨[.vec 1 (rowL m g).length (rI (rowL m g)),.fn (.func 211) [] [.pv (LF.row ⟨nm,cap,regs,code⟩)]],val_cons (va_vecE hl.symm fun i hi=>rowL_get hall hi) (val_refl _),?_⟩
  refine ⟨⟨⟨rfl,rfl,⟨fun i _=>vm_rI _ i⟩⟩,⟨rfl,trivial,⟨⟨rfl,⟨rfl,rfl⟩,⟨rfl,rfl⟩,⟨rfl,rfl,⟨fun i _=>vm_LI code i⟩⟩,trivial⟩,trivial⟩⟩,trivial⟩,_,60,rfl,fol,tb_nil,runBad ⟨nm,cap,regs,code⟩ (rowL m g) (by rw [hl];exact hs)⟩
 ·cases hct
structure RowsI (g:Nat→List AV) (m:Nat) (S:List Int):Prop where
 len:m=S.length
 row:∀ i,i < m→g i=[.int .i64 (S.getD i 0)]
theorem RowsI.app {g:Nat→List AV} {m:Nat} {S:List Int} (h:RowsI g m S) (a:Int):RowsI (appF m g fun _=>[.int .i64 a]) (m + 1) (S ++ [a]) :=
 ⟨by rw [List.length_append,← h.len];rfl,fun i hi=>appF_row (fun h1=>by
   rw [h.row i h1,List.getD_eq_getElem?_getD,List.getD_eq_getElem?_getD,List.getElem?_append_left (by have:=h.len;omega)]) fun h1=>by
   rw [show i=S.length by have:=h.len;omega];simp⟩
theorem RowsI.all {g:Nat→List AV} {m:Nat} {S:List Int} (h:RowsI g m S):allI1 m g=true:=decide_eq_true fun i hi=>by rw [h.row i hi];rfl
theorem RowsI.good {g:Nat→List AV} {m:Nat} {S:List Int} (h:RowsI g m S):goodR 1 m g=true:=goodR_of fun i hi=>by rw [h.row i hi];rfl
theorem RowsI.rowL {g:Nat→List AV} {m:Nat} {S:List Int} (h:RowsI g m S):rowL m g=S:=by
 apply List.ext_getElem
 ·rw [rowL_len];exact h.len
 ·intro i h1 h2
  have hi:i < m:=by rw [h.len];exact h2
  simp [Go.Proofs.YtedpjdkikbgojaaGreatDoor.rowL,h.row i hi,oneI,List.getD_eq_getElem?_getD,List.getElem?_eq_getElem h2]
theorem rowsI_self (S:List Int):RowsI (rI S) S.length S:=⟨rfl,fun _ _=>rfl⟩
theorem bad_all (regs:Int) (S:List Int):(!badR regs S)=S.all fun r=>inb r regs:=by
 unfold badR
 rw [List.not_any_eq_all_not]
 congr 1
 funext r
 unfold inb
 rw [Bool.not_not,Bool.decide_and]
end Go.Proofs.YtedpjdkikbgojaaGreatDoor
end
