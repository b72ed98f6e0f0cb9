/- Laid by program out of its parts: TyB. -/
import Derived.Test.YthallodoidghoaaTyA
set_option linter.unusedVariables false
set_option linter.unusedSimpArgs false
set_option maxRecDepth 100000
open Go Go.Ev
namespace Go.Proofs.Ythallodoidghoaa
def wordL:List (List UInt8):=[[97,102,116,101,114],[97,114,114],[99,97,108,108],[99,97,110,99,101,108],[99,108,97,115,115],[99,111,109,112],[99,114,101,97,116,101],[100,101,115,116,114,111,121],[100,105,115,97,98,108,101],[101,108,115,101],[101,110,97,98,108,101],[101,118,101,110,116],[102,110],[102,114,111,110,116],[104,97,110,100],[105,102],[105,110,116],[105,116],[106,111,105,110],[108,101,110],[108,111,103],[108,111,111,112,101,114],[109,97,105,110],[110,101,119],[110,117,108,108],[111,102,102],[111,110],[112,111,115,116],[114,101,116,117,114,110],[115,112,97,119,110],[115,116,97,114,116],[115,116,111,112],[116,111],[116,111,107],[118,97,114],[119,104,105,108,101]]
def isWordT (l:List UInt8):Bool:=wordL.any fun w=>decide (l=w)
def digI (z:Int):Bool:=decide (48≤z∧z≤57)
def LetrI (z:Int):Bool:=decide (97≤z∧z≤122) || decide (65≤z∧z≤90) || decide (z=95)
def chB (i:Nat) (b:UInt8):Bool:=LetrI (b.toNat:Int) || (!decide (i=0) && digI (b.toNat:Int))
def nameT (l:List UInt8):Bool:=(List.range l.length).all (fun i=>chB i (l.getD i 0)) && (decide (l≠[]) && (decide (l.length≤32) && !isWordT l))
structure NR (l:List UInt8) (k:Nat):Prop where
 le:k≤l.length
 all:∀ j,j < k→chB j (l.getD j 0)=true
noncomputable def SName (l:List UInt8):Stn:=thin Nat [0,2] (fun k=>[(3,.int .i64 k)]) (fun _ k=>NR l k) fun k=>l.length - k
noncomputable def oneB (f:Int→Bool):Tr AObj→List AV→Option Ct:=fun _ args=>match args with
 | [.int .u8 z]=>some (.need True (.ret (.bool (bar (f z)))))
 | _=>none
noncomputable def eWord:Tr AObj→List AV→Option Ct:=fun _ args=>match args with
 | [.bs s]=>some (.need True (.ret (.bool (bar (isWordT s)))))
 | _=>none
noncomputable def eName:Tr AObj→List AV→Option Ct:=fun _ args=>match args with
 | [.bs l]=>some (.need (l.length≤1000000) (.ret (.bool (bar (nameT l)))))
 | _=>none
noncomputable def tbN1:Tbl:=[(53,oneB LetrI),(54,oneB digI),(55,eWord)]
def typeT (s:List UInt8):Bool:=decide (s=[105,110,116]∨s=[102,110]∨s=[116,111,107]∨s=[104,97,110,100]∨s=[97,114,114]) || nameT s
def opT (s:List UInt8):Bool:=decide (s=[43]∨s=[45]∨s=[42]∨s=[60]∨s=[61,61])
def textB (k:Int) (s:List UInt8):Bool:=if k=5 then typeT s else if k=32 then opT s else if k=2∨k=3∨k=4∨k=6∨k=7∨k=8∨k=10∨k=13∨k=19∨k=21∨k=22∨k=29∨k=30∨k=33 then nameT s else decide (s=[])
def numB (k n:Int):Bool:=if k=9 then decide (0≤n∧n≤3) else if k=10 then decide (n=0∨n=1) else if k=19 then decide (-1≤n∧n≤2147483647) else if k=26 then decide (0≤n∧n≤2147483647) else decide (n=0)
noncomputable def eText:Tr AObj→List AV→Option Ct:=fun _ args=>match args with
 | [.int .i64 k,.bs s]=>some (.need (s.length≤1000000) (.ret (.bool (bar (textB k s)))))
 | _=>none
noncomputable def eNum:Tr AObj→List AV→Option Ct:=fun _ args=>match args with
 | [.int .i64 k,.int .i64 n]=>some (.need True (.ret (.bool (bar (numB k n)))))
 | _=>none
noncomputable def eType:Tr AObj→List AV→Option Ct:=fun _ args=>match args with
 | [.bs s]=>some (.need (s.length≤1000000) (.ret (.bool (bar (typeT s)))))
 | _=>none
noncomputable def chainP (s:List UInt8) (x:Bool):List (List UInt8)→Prop
 | []=>false=x
 | w :: ws=>brP (decide (w=s)) (true=x) (chainP s x ws)
theorem chain_ok (s:List UInt8) (x:Bool):∀ ws:List (List UInt8),(x=ws.any fun w=>decide (s=w))→chainP s x ws
 | [],h=>h.symm
 | w :: ws,h=>by
  rw [List.any_cons] at h
  refine brP_of (fun h1=>?_) fun h1=>?_
  ·rw [decide_eq_true_eq] at h1
   subst h1
   rw [h];simp
  ·refine chain_ok s x ws ?_
   rw [decide_eq_false_iff_not] at h1
   rw [h,decide_eq_false (fun e=>h1 e.symm),Bool.false_or]
def RWord (s:List UInt8):Prop:=(cRun cx0 200).call 55 [.bs s] .leaf 0 (ResM Try.prog false (.bool (isWordT s)))
theorem runWord (s:List UInt8):RWord s:=Eq.mpr (show RWord s=chainP s (isWordT s) wordL by kernel_rfl) (chain_ok s _ wordL rfl)
theorem okWord:EntOK Try.prog 55 eWord:=by
 refine ent_of2 (gl:=[]) (ng:=0) gl0 fun H args ct hct=>?_
 unfold eWord at hct
 split at hct
 ·rename_i l
  injection hct with hct;subst hct
  exact ⟨gl0,_,_,rfl,fun _=>⟨⟨rfl,trivial⟩,cx0,200,rfl,fol,tb_nil,by rw [bar_eq];exact runWord l⟩⟩
 ·cases hct
theorem oneB_ok {g:FuncId} {f:Int→Bool} (h:∀ z:Int,(cRun cx0 40).call g [.int .u8 z] .leaf 0 (ResM Try.prog false (.bool (f z)))):EntOK Try.prog g (oneB f):=by
 refine ent_of (gl:=[]) (ng:=0) gl0 fun H args ct hct=>?_
 unfold oneB at hct
 split at hct
 ·rename_i z
  injection hct with hct;subst hct
  exact ⟨gl0,⟨⟨rfl,rfl⟩,trivial⟩,_,_,rfl,fun _=>⟨cx0,40,rfl,fol,tb_nil,by rw [bar_eq];exact h z⟩⟩
 ·cases hct
theorem runLetr_r:∀ (z:Int),brP (!ilt z (97:Int)) (brP (!ilt (122:Int) z) (true=LetrI z) (brP (!ilt z (65:Int)) (brP (!ilt (90:Int) z) (true=LetrI z) (ieq z (95:Int)=LetrI z)) (ieq z (95:Int)=LetrI z))) (brP (!ilt z (65:Int)) (brP (!ilt (90:Int) z) (true=LetrI z) (ieq z (95:Int)=LetrI z)) (ieq z (95:Int)=LetrI z))
:= by
 intro z
 simp only [brP_iff,ilt_eq,ieq_eq,Bool.not_eq_true',Bool.not_eq_false',decide_eq_true_eq,decide_eq_false_iff_not]
 unfold LetrI
 grind
theorem runLetr:∀ z:Int,(cRun cx0 40).call 53 [.int .u8 z] .leaf 0 (ResM Try.prog false (.bool (LetrI z))) :=
 Eq.mpr (by kernel_rfl) runLetr_r
theorem runDig_r:∀ (z:Int),brP (!ilt z (48:Int)) ((!ilt (57:Int) z)=digI z) (false=digI z)
:= by
 intro z
 simp only [brP_iff,ilt_eq,ieq_eq,Bool.not_eq_true',Bool.not_eq_false',decide_eq_true_eq,decide_eq_false_iff_not]
 unfold digI
 grind
theorem runDig:∀ z:Int,(cRun cx0 40).call 54 [.int .u8 z] .leaf 0 (ResM Try.prog false (.bool (digI z))) :=
 Eq.mpr (by kernel_rfl) runDig_r
theorem tbN1_ok:TbOK Try.prog tbN1:=tb_cons (oneB_ok runLetr) (tb_cons (oneB_ok runDig) (tb_cons okWord tb_nil))
theorem nr_step {l:List UInt8} {k:Nat} (h:NR l k) (hk:k < l.length) (hb:chB k (l.getD k 0)=true):NR l (k + 1) :=
 ⟨hk,fun j hj=>by
  rcases Nat.lt_or_ge j k with h1 | h1
  ·exact h.all j h1
  ·rw [show j=k by omega];exact hb⟩
theorem nameT_bad {l:List UInt8} {k:Nat} (h:k < l.length) (hb:chB k (l.getD k 0)=false):nameT l=false:=by
 have:((List.range l.length).all fun i=>chB i (l.getD i 0))=false:=by
  rw [List.all_eq_false]
  exact ⟨k,List.mem_range.2 h,by rw [hb];simp⟩
 unfold nameT;rw [this];rfl
theorem nameT_all {l:List UInt8} (h:NR l l.length):nameT l=(decide (l≠[]) && (decide (l.length≤32) && !isWordT l)):=by
 have:((List.range l.length).all fun i=>chB i (l.getD i 0))=true:=by
  rw [List.all_eq_true]
  intro i hi
  exact h.all i (List.mem_range.1 hi)
 unfold nameT;rw [this];rfl
@[reducible] def TyB_runName_k0:List UInt8→Nat→Nat→Prop:=fun (l:List UInt8) (a a_1:Nat)=>NR l a_1∧Nat.le (Nat.succ (l.length - a_1)) (l.length - a)∧true=true∧((true=true∧(↑a:Int) + 1=(↑a_1:Int))∧l=l∧false=false∧True)∧True
theorem runName_r:∀ (l:List UInt8),Nat.le l.length 1000000→(∃ (x0:Nat),NR l x0∧true=true∧((true=true∧(0:Int)=(↑x0:Int))∧l=l∧false=false∧True)∧True)∧∀ (x:Nat),NR l x→brP (ilt (↑x:Int) (Int.ofNat l.length)) (sdA (inB (↑x:Int) l.length) (True∧brP (!bar (LetrI (↑(UInt8.toNat (List.getD l (Int.toNat (↑x:Int)) (0:UInt8))):Int))) (brP (ieq (↑x:Int) (0:Int)) (false=nameT l) (sdA (inB (↑x:Int) l.length) (True∧brP (!bar (digI (↑(UInt8.toNat (List.getD l (Int.toNat (↑x:Int)) (0:UInt8))):Int))) (false=nameT l) (sdA (inR .i64 ((↑x:Int) + 1)) (∃ (x':Nat),TyB_runName_k0 l x x'))))) (sdA (inR .i64 ((↑x:Int) + 1)) (∃ (x':Nat),TyB_runName_k0 l x x')))) (brP (!decide (l=[])) (brP (!ilt (32:Int) (Int.ofNat l.length)) (True∧(!bar (isWordT l))=nameT l) (false=nameT l)) (false=nameT l))
:= by
 intro l hl
 have hl:l.length≤1000000:=hl
 simp only [barr_eq,bar_eq,true_and,and_true,eq_self,implies_true,Nat.le_eq,cond_tf,cond_cf,nif_tf,Int.toNat_natCast,Int.ofNat_eq_natCast,Nat.ble_eq,Nat.ble_self_eq_true,Bool.true_and,Bool.and_true,Bool.and_self,Option.some.injEq,AV.int.injEq,rowB_self,allBR_self,Nat.mul_one,Nat.beq_refl,allI_true,cond_true,cond_false,ieq_self,Bool.not_true,Bool.not_false,decide_true,brP_f,brP_t,sdA_t,bytesL_packL,List.nil_append,TyB_runName_k0]
 refine ⟨⟨0,⟨Nat.zero_le _,fun j hj=>by omega⟩,by trivial⟩,fun x hx=>brP_of (fun h=>?_) fun h=>?_⟩
 ·rw [ilt_iff] at h
  have hlt:x < l.length:=by omega
  have hb:inB (x:Int) l.length=true:=inB_iff.2 (by omega)
  have hR:inR .i64 ((x:Int) + 1)=true:=inR_i64.2 (by omega)
  have hstep:chB x (l.getD x 0)=true→∃ x',NR l x'∧l.length - x' < l.length - x∧(x':Int)=(x:Int) + 1:=fun h=>⟨x + 1,nr_step hx hlt h,by omega,by omega⟩
  refine sdA_of hb (brP_of (fun h1=>brP_of (fun h2=>?_) fun h2=>?_) fun h1=>?_)
  ·rw [ieq_iff] at h2
   have hx0:x=0:=by omega
   exact (nameT_bad hlt (by unfold chB;rw [nf h1,decide_eq_true hx0];rfl)).symm
  ·rw [ieq_iffn] at h2
   have hx0:¬ x=0:=by omega
   refine sdA_of hb (brP_of (fun h3=>?_) fun h3=>?_)
   ·exact (nameT_bad hlt (by unfold chB;rw [nf h1,nf h3];simp)).symm
   ·refine sdA_of hR ?_
    obtain ⟨x',g1,g2,g3⟩:=hstep (by unfold chB;rw [nt h3,decide_eq_false hx0];simp)
    exact ⟨x',g1,g2,by rw [g3]⟩
  ·refine sdA_of hR ?_
   obtain ⟨x',g1,g2,g3⟩:=hstep (by unfold chB;rw [nt h1];rfl)
   exact ⟨x',g1,g2,by rw [g3]⟩
 ·rw [ilt_iffn] at h
  have hle:=hx.le
  obtain rfl:x=l.length:=by omega
  rw [nameT_all hx]
  refine brP_of (fun h0=>brP_of (fun h1=>?_) fun h1=>?_) fun h0=>?_
  ·rw [Bool.not_eq_true',ilt_iffn] at h1
   have h0:=of_decide_eq_false (nf h0)
   rw [decide_eq_true h0,decide_eq_true (show l.length≤32 by omega)];rfl
  ·rw [Bool.not_eq_false',ilt_iff] at h1
   rw [decide_eq_false (show ¬ l.length≤32 by omega)];simp
  ·rw [decide_eq_false (show ¬ l≠[] from fun h=>h (of_decide_eq_true (nt h0)))];rfl
theorem runName:∀ (l:List UInt8),l.length≤1000000→(cRun (cx1 tbN1 62 2 (SName l)) 60).call 62 [.bs l] .leaf 0 (ResM Try.prog false (.bool (nameT l))) :=
 Eq.mpr (by kernel_rfl) runName_r
theorem okName:EntOK Try.prog 62 eName:=by
 refine ent_of2 (gl:=[]) (ng:=0) gl0 fun H args ct hct=>?_
 unfold eName at hct
 split at hct
 ·rename_i l
  injection hct with hct;subst hct
  exact ⟨gl0,_,_,rfl,fun hp=>⟨⟨rfl,trivial⟩,cx1 tbN1 62 2 (SName l),60,rfl,fol,tbN1_ok,by rw [bar_eq];exact runName l hp⟩⟩
 ·cases hct
theorem runType_r:∀ (s:List UInt8),Nat.le s.length 1000000→brP (decide (s=[(105:UInt8),(110:UInt8),(116:UInt8)])) (true=typeT s) (brP (decide (s=[(102:UInt8),(110:UInt8)])) (true=typeT s) (brP (decide (s=[(116:UInt8),(111:UInt8),(107:UInt8)])) (true=typeT s) (brP (decide (s=[(104:UInt8),(97:UInt8),(110:UInt8),(100:UInt8)])) (true=typeT s) (brP (decide (s=[(97:UInt8),(114:UInt8),(114:UInt8)])) (true=typeT s) (Nat.le s.length 1000000∧bar (nameT s)=typeT s)))))
:= by
 intro s hs
 have hs:s.length≤1000000:=hs
 simp only [barr_eq,bar_eq,true_and,and_true,eq_self,implies_true,Nat.le_eq,cond_tf,cond_cf,nif_tf,Int.toNat_natCast,Int.ofNat_eq_natCast,Nat.ble_eq,Nat.ble_self_eq_true,Bool.true_and,Bool.and_true,Bool.and_self,Option.some.injEq,AV.int.injEq,rowB_self,allBR_self,Nat.mul_one,Nat.beq_refl,allI_true,cond_true,cond_false,ieq_self,Bool.not_true,Bool.not_false,decide_true,brP_f,brP_t,sdA_t,bytesL_packL,List.nil_append]
 simp only [hs,true_and,brP_iff,Bool.not_eq_true',Bool.not_eq_false',decide_eq_true_eq,decide_eq_false_iff_not]
 unfold typeT
 grind
theorem runType:∀ (s:List UInt8),s.length≤1000000→(cRun (cxA [(62,eName)]) 60).call 60 [.bs s] .leaf 0 (ResM Try.prog false (.bool (typeT s))) :=
 Eq.mpr (by kernel_rfl) runType_r
theorem okType:EntOK Try.prog 60 eType:=by
 refine ent_of2 (gl:=[]) (ng:=0) gl0 fun H args ct hct=>?_
 unfold eType at hct
 split at hct
 ·rename_i l
  injection hct with hct;subst hct
  exact ⟨gl0,_,_,rfl,fun hp=>⟨⟨rfl,trivial⟩,_,60,rfl,fol,tb_cons okName tb_nil,by rw [bar_eq];exact runType l hp⟩⟩
 ·cases hct
theorem runText_r:∀ (k:Int) (s:List UInt8),Nat.le s.length 1000000→brP (ieq k (5:Int)) (Nat.le s.length 1000000∧bar (typeT s)=textB k s) (brP (ieq k (32:Int)) (brP (decide (s=[(43:UInt8)])) (true=textB k s) (brP (decide (s=[(45:UInt8)])) (true=textB k s) (brP (decide (s=[(42:UInt8)])) (true=textB k s) (brP (decide (s=[(60:UInt8)])) (true=textB k s) (decide (s=[(61:UInt8),(61:UInt8)])=textB k s))))) (brP (ieq k (2:Int)) (Nat.le s.length 1000000∧bar (nameT s)=textB k s) (brP (ieq k (3:Int)) (Nat.le s.length 1000000∧bar (nameT s)=textB k s) (brP (ieq k (4:Int)) (Nat.le s.length 1000000∧bar (nameT s)=textB k s) (brP (ieq k (6:Int)) (Nat.le s.length 1000000∧bar (nameT s)=textB k s) (brP (ieq k (7:Int)) (Nat.le s.length 1000000∧bar (nameT s)=textB k s) (brP (ieq k (8:Int)) (Nat.le s.length 1000000∧bar (nameT s)=textB k s) (brP (ieq k (10:Int)) (Nat.le s.length 1000000∧bar (nameT s)=textB k s) (brP (ieq k (13:Int)) (Nat.le s.length 1000000∧bar (nameT s)=textB k s) (brP (ieq k (19:Int)) (Nat.le s.length 1000000∧bar (nameT s)=textB k s) (brP (ieq k (21:Int)) (Nat.le s.length 1000000∧bar (nameT s)=textB k s) (brP (ieq k (22:Int)) (Nat.le s.length 1000000∧bar (nameT s)=textB k s) (brP (ieq k (29:Int)) (Nat.le s.length 1000000∧bar (nameT s)=textB k s) (brP (ieq k (30:Int)) (Nat.le s.length 1000000∧bar (nameT s)=textB k s) (brP (ieq k (33:Int)) (Nat.le s.length 1000000∧bar (nameT s)=textB k s) (decide (s=[])=textB k s))))))))))))))))
:= by
 intro k s hs
 have hs:s.length≤1000000:=hs
 simp only [barr_eq,bar_eq,true_and,and_true,eq_self,implies_true,Nat.le_eq,cond_tf,cond_cf,nif_tf,Int.toNat_natCast,Int.ofNat_eq_natCast,Nat.ble_eq,Nat.ble_self_eq_true,Bool.true_and,Bool.and_true,Bool.and_self,Option.some.injEq,AV.int.injEq,rowB_self,allBR_self,Nat.mul_one,Nat.beq_refl,allI_true,cond_true,cond_false,ieq_self,Bool.not_true,Bool.not_false,decide_true,brP_f,brP_t,sdA_t,bytesL_packL,List.nil_append]
 simp only [hs,true_and,brP_iff,ieq_eq,Bool.not_eq_true',Bool.not_eq_false',decide_eq_true_eq,decide_eq_false_iff_not]
 unfold textB opT
 grind
theorem runText:∀ (k:Int) (s:List UInt8),s.length≤1000000→(cRun (cxA [(62,eName),(60,eType)]) 60).call 46 [.int .i64 k,.bs s] .leaf 0 (ResM Try.prog false (.bool (textB k s))) :=
 Eq.mpr (by kernel_rfl) runText_r
theorem okText:EntOK Try.prog 46 eText:=by
 refine ent_of2 (gl:=[]) (ng:=0) gl0 fun H args ct hct=>?_
 unfold eText at hct
 split at hct
 ·rename_i k l
  injection hct with hct;subst hct
  exact ⟨gl0,_,_,rfl,fun hp=>⟨⟨⟨rfl,rfl⟩,rfl,trivial⟩,_,60,rfl,fol,tb_cons okName (tb_cons okType tb_nil),by rw [bar_eq];exact runText k l hp⟩⟩
 ·cases hct
theorem runNum_r:∀ (k n:Int),brP (ieq k (9:Int)) (brP (!ilt n (0:Int)) ((!ilt (3:Int) n)=numB k n) (false=numB k n)) (brP (ieq k (10:Int)) (brP (ieq n (0:Int)) (true=numB k n) (ieq n (1:Int)=numB k n)) (brP (ieq k (19:Int)) (brP (!ilt n (Int.negSucc 0)) ((!ilt (2147483647:Int) n)=numB k n) (false=numB k n)) (brP (ieq k (26:Int)) (brP (!ilt n (0:Int)) ((!ilt (2147483647:Int) n)=numB k n) (false=numB k n)) (ieq n (0:Int)=numB k n))))
:= by
 intro k n
 simp only [brP_iff,ieq_eq,ilt_eq,Bool.not_eq_true',Bool.not_eq_false',decide_eq_true_eq,decide_eq_false_iff_not]
 unfold numB
 grind
theorem runNum:∀ (k n:Int),(cRun cx0 60).call 47 [.int .i64 k,.int .i64 n] .leaf 0 (ResM Try.prog false (.bool (numB k n))) :=
 Eq.mpr (by kernel_rfl) runNum_r
theorem okNum:EntOK Try.prog 47 eNum:=by
 refine ent_of2 (gl:=[]) (ng:=0) gl0 fun H args ct hct=>?_
 unfold eNum at hct
 split at hct
 ·rename_i k n
  injection hct with hct;subst hct
  exact ⟨gl0,_,_,rfl,fun hp=>⟨⟨⟨rfl,rfl⟩,⟨rfl,rfl⟩,trivial⟩,cx0,60,rfl,fol,tb_nil,by rw [bar_eq];exact runNum k n⟩⟩
 ·cases hct
end Go.Proofs.Ythallodoidghoaa
