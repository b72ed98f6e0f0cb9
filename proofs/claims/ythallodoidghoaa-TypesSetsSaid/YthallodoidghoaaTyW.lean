/- Laid by program out of its parts: TyW. -/
import Derived.Test.YthallodoidghoaaTyV
set_option linter.unusedVariables false
set_option linter.unusedSimpArgs false
set_option maxRecDepth 100000
set_option maxHeartbeats 2000000
open Go Go.Ev
namespace Go.Proofs.Ythallodoidghoaa
noncomputable def needsM:AV:=.mapv needsH needsVal .sl0
noncomputable def pvC (L:List LT) (x:LN) (X:List Int):List AV:=[.vec 6 L.length (rowT L),.vec 2 x.M.length (rM x.M),vI x.O,vI x.Lo,vI x.C,vI x.G,vI x.Co,vI x.E,.vec 4 x.Fs.length (rFn x.Fs),.int .i64 x.main,vI X,needsM]
def cT (cs:List AV):List Int:=match cs with
 | [_,_,_,_,_,_,_,_,_,_,.vec 1 n f,_]=>rowL n f
 | _=>[]
def noT:Int:=1073741824
def fitsN (a b:Int):Bool:=decide (a=noT) || decide (b=noT) || fits5 a b
def useT (L:List LT) (M:List (Int×Int)) (G:List Int) (k n:Int):Int:=if k=1 then ofT L M n else if k=2 then ofT L M (G.getD n.toNat 0) else if k=3 then 2 else 0
structure RTOK (L:List LT) (x:LN) (X:List Int):Prop where
 good:Good L
 m:MOK L x.M
 c:COK L x.C
 g:T5OK L x
 xl:X.length=L.length
 b:∀ j,-1000000000≤X.getD j 0∧X.getD j 0≤2000000000
def kidX (X S:List Int) (i:Int):Int:=X.getD (S.getD i.toNat 0).toNat 0
def setM (M:List (Int×Int)) (S:List Int) (i:Int):Bool:=decide ((S.length:Int)≤i) || freeM M (S.getD i.toNat 0).toNat
structure inL (L:List LT) (S:List Int):Prop where
 len:S.length≤L.length
 al:∀ c∈S,0≤c∧c < L.length
noncomputable def eKid:Tr AObj→List AV→Option Ct:=fun _ args=>match args with
 | [.pv cs,.agg [.int .i64 k,.bs s,.int .i64 n,.int .i64 a,.int .i64 b,.vec 1 m f],.int .i64 i]=>some (.need (∃ (L:List LT) (x:LN) (X S:List Int),cs=pvC L x X∧RTOK L x X∧m=S.length∧f=rI S∧inL L S∧0≤i∧i < S.length) (.ret (.int .i64 (barr (kidX (cT cs) (rowL m f) i)))))
 | _=>none
noncomputable def eSet:Tr AObj→List AV→Option Ct:=fun _ args=>match args with
 | [.pv cs,.agg [.int .i64 k,.bs s,.int .i64 n,.int .i64 a,.int .i64 b,.vec 1 m f],.int .i64 i]=>some (.need (∃ (L:List LT) (x:LN) (X S:List Int),cs=pvC L x X∧RTOK L x X∧m=S.length∧f=rI S∧inL L S∧0≤i) (.ret (.bool (bar (setM (cM cs) (rowL m f) i)))))
 | _=>none
noncomputable def eFitsC:Tr AObj→List AV→Option Ct:=fun _ args=>match args with
 | [.pv cs,.agg [.int .i64 k,.bs s,.int .i64 n,.int .i64 a,.int .i64 b,.vec 1 m f],.int .i64 i,.int .i64 j]=>some (.need (∃ (L:List LT) (x:LN) (X S:List Int),cs=pvC L x X∧RTOK L x X∧m=S.length∧f=rI S∧inL L S∧0≤i∧i < S.length∧0≤j∧j < S.length) (.ret (.bool (bar (fitsN (kidX (cT cs) (rowL m f) i) (kidX (cT cs) (rowL m f) j))))))
 | _=>none
noncomputable def eUse:Tr AObj→List AV→Option Ct:=fun _ args=>match args with
 | [.pv cs,.agg [.int .i64 k,.int .i64 n]]=>some (.need (∃ (L:List LT) (x:LN) (X:List Int),cs=pvC L x X∧RTOK L x X∧0≤n∧(k=2→n < x.G.length)) (.ret (.int .i64 (barr (useT (cL cs) (cM cs) (cG cs) k n)))))
 | _=>none
def noneK (X S:List Int):Bool:=S.any fun c=>decide (X.getD c.toNat 0=noT)
def noneC (cs:List AV) (S:List Int):Bool:=noneK (cT cs) S
noncomputable def eCF:Tr AObj→List AV→Option Ct:=fun _ args=>match args with
 | [.vec 1 m f,.fn (.func 22) [] [.pv [.pv cs]]]=>some (.need (∃ (L:List LT) (x:LN) (X S:List Int),cs=pvC L x X∧RTOK L x X∧m=S.length∧f=rI S∧inL L S) (.ret (.bool (bar (noneC cs (rowL m f))))))
 | _=>none
structure CfI (X S:List Int) (i:Nat):Prop where
 le:i≤S.length
 al:∀ k,k < i→X.getD (S.getD k 0).toNat 0≠noT
noncomputable def SCf (X S:List Int):Stn:=thin Nat [0,1,7] (fun i=>[(8,.int .i64 i)]) (fun _ i=>CfI X S i) fun i=>S.length - i
noncomputable def cxCf (X S:List Int):Ctx:={ P:=Try.prog,tb:=[],lp:=fun f r=>cond (Nat.beq f 42) (cond (Nat.beq r 2) (some (SCf X S)) none) none,cut:=fun _ _=>none }
noncomputable def cxFc:Ctx:={ P:=Try.prog,tb:=[(51,eFits5),(41,eKid)],lp:=fun _ _=>none,cut:=fun _ _=>none }
noncomputable def cxOf1':Ctx:={ P:=Try.prog,tb:=[(20,eOf1)],lp:=fun _ _=>none,cut:=fun _ _=>none }
theorem needs_no (k:SKey) (h:needsH k=false):needsK k=[]:=by
 rw [needsH_eq] at h
 cases k with
 | str l=>rfl
 | int n =>
  refine needs_none ?_
  cases e:lookI needsKV n with
  | none=>rfl
  | some a=>simp [hasI,e] at h
theorem needs_z:∀ k:SKey,needsH k=false→needsVal k=AV.sl0∨∃ e f,needsVal k=AV.vec e 0 f:=fun k hk=>.inr ⟨1,rI [],by rw [needsVal_eq,needs_no k hk];rfl⟩
theorem vm_needs:vmP [] needsM needsM:=⟨fun _=>rfl,fun k=>⟨rfl,rfl,⟨fun _ _=>vm_rI' [] _ _⟩⟩,fun k hk=>.inr ⟨rfl,1,rI [],by rw [needsVal_eq,needs_no k hk];rfl⟩⟩
theorem vm_pvC (L:List LT) (x:LN) (X:List Int):vmP [] (.pv (pvC L x X)) (.pv (pvC L x X)):=⟨⟨rfl,rfl,⟨fun _ _=>vm_LT _⟩⟩,⟨rfl,rfl,⟨fun _ _=>vm_rM [] _⟩⟩,⟨rfl,rfl,⟨fun _ _=>vm_rI' [] _ _⟩⟩,⟨rfl,rfl,⟨fun _ _=>vm_rI' [] _ _⟩⟩,⟨rfl,rfl,⟨fun _ _=>vm_rI' [] _ _⟩⟩,⟨rfl,rfl,⟨fun _ _=>vm_rI' [] _ _⟩⟩,⟨rfl,rfl,⟨fun _ _=>vm_rI' [] _ _⟩⟩,⟨rfl,rfl,⟨fun _ _=>vm_rI' [] _ _⟩⟩,⟨rfl,rfl,⟨fun _ _=>⟨⟨rfl,rfl⟩,⟨rfl,rfl⟩,rfl,⟨rfl,rfl,⟨fun _ _=>vm_rI' [] _ _⟩⟩,trivial⟩⟩⟩,⟨rfl,rfl⟩,⟨rfl,rfl,⟨fun _ _=>vm_rI' [] _ _⟩⟩,vm_needs,trivial⟩
theorem cL_pc (L:List LT) (x:LN) (X:List Int):cL (pvC L x X)=L:=rowTs_rowT L
theorem cM_pc (L:List LT) (x:LN) (X:List Int):cM (pvC L x X)=x.M:=rowMs_rM x.M
theorem cC_pc (L:List LT) (x:LN) (X:List Int):cC (pvC L x X)=x.C:=rowL_rI x.C
theorem cG_pc (L:List LT) (x:LN) (X:List Int):cG (pvC L x X)=x.G:=rowL_rI x.G
theorem cT_pc (L:List LT) (x:LN) (X:List Int):cT (pvC L x X)=X:=rowL_rI X
theorem in_at {L:List LT} {S:List Int} (h:inL L S) {i:Nat} (hi:i < S.length):0≤S.getD i 0∧S.getD i 0 < L.length:=h.al _ (getD_memI hi)
theorem runFitsT_r:∀ (a b:Int),brP (ieq a b) (true=bar (fits5 a b)) (brP (ieq a (0:Int)) ((!ieq b (1:Int))=bar (fits5 a b)) (false=bar (fits5 a b)))
:= by
 intro a b
 simp only [barr_eq,bar_eq,true_and,and_true,eq_self,implies_true,Nat.le_eq,cond_tf,cond_cf,nif_tf,Int.toNat_natCast,Int.ofNat_eq_natCast,Nat.ble_eq,Nat.ble_self_eq_true,Bool.true_and,Bool.and_true,Bool.and_self,Option.some.injEq,AV.int.injEq,rowB_self,allBR_self,Nat.mul_one,Nat.beq_refl,allI_true,cond_true,cond_false,ieq_self,Bool.not_true,Bool.not_false,decide_true,brP_f,brP_t,sdA_t,bytesL_packL,List.nil_append]
 unfold fits5
 refine brP_of (fun h=>?_) fun h=>brP_of (fun g=>?_) fun g=>?_
 ·rw [ieq_iff] at h;subst h
  by_cases h0:a=0 <;> simp [h0]
 ·rw [ieq_iff] at g;subst g
  rw [if_pos rfl,ieq_eq]
  by_cases hb:b=1 <;> simp [hb]
 ·rw [ieq_iffn] at h g
  rw [if_neg g];simp [h]
theorem runFitsT:∀ (a b:Int),(cRun cxN0 60).call 51 [.int .i64 a,.int .i64 b] .leaf 0 (ResM Try.prog false (.bool (bar (fits5 a b)))) :=
 Eq.mpr (by kernel_rfl) runFitsT_r
theorem runTermT_r:∀ (k:Int),brP (!ilt k (26:Int)) ((!ilt (36:Int) k)=termB k) (false=termB k)
:= by
 intro k
 unfold termB
 refine brP_of (fun h=>?_) fun h=>?_
 ·rw [Bool.not_eq_true',ilt_iffn] at h
  by_cases h2:36 < k
  ·rw [ilt_iff.2 h2];exact (decide_eq_false (by omega)).symm
  ·rw [ilt_iffn.2 (by omega)];exact (decide_eq_true (by omega)).symm
 ·rw [Bool.not_eq_false',ilt_iff] at h
  exact (decide_eq_false (by omega)).symm
theorem runTermT:∀ (k:Int),(cRun cx0 60).call 19 [.int .i64 k] .leaf 0 (ResM Try.prog false (.bool (termB k))) :=
 Eq.mpr (by kernel_rfl) runTermT_r
theorem runKid_r:∀ (L:List LT) (x:LN) (X S:List Int) (k:Int) (s:List UInt8) (n a b i:Int),RTOK L x X→inL L S→Int.NonNeg (i - 0)→Int.NonNeg ((↑S.length:Int) - (i + 1))→sdA (inB i S.length) (sdA (inB (List.getD S (Int.toNat i) (0:Int)) X.length) ((((True∧True∧True∧True∧True)∧True)∧True)∧true=true∧List.getD X (Int.toNat (List.getD S (Int.toNat i) (0:Int))) (0:Int)=barr (kidX X S i)))
:= by
 intro L x X S k s n a b i hR hS h1 h2
 simp only [barr_eq,bar_eq,true_and,and_true,eq_self,implies_true,Nat.le_eq,cond_tf,cond_cf,nif_tf,Int.toNat_natCast,Int.ofNat_eq_natCast,Nat.ble_eq,Nat.ble_self_eq_true,Bool.true_and,Bool.and_true,Bool.and_self,Option.some.injEq,AV.int.injEq,rowB_self,allBR_self,Nat.mul_one,Nat.beq_refl,allI_true,cond_true,cond_false,ieq_self,Bool.not_true,Bool.not_false,decide_true,brP_f,brP_t,sdA_t,bytesL_packL,List.nil_append]
 have h1:0≤i:=h1
 have h2:i < S.length:=h2
 have hx:=hR.xl
 have hk:=in_at hS (i:=i.toNat) (by omega)
 exact sdA_of (inB_iff.2 (by omega)) (sdA_of (inB_iff.2 (by omega)) rfl)
theorem runKid:∀ (L:List LT) (x:LN) (X S:List Int) (k:Int) (s:List UInt8) (n a b i:Int),RTOK L x X→inL L S→0≤i→i < S.length→(cRun cxN0 60).call 41 [.pv (pvC L x X),.agg [.int .i64 k,.bs s,.int .i64 n,.int .i64 a,.int .i64 b,.vec 1 S.length (rI S)],.int .i64 i] .leaf 0 (ResM Try.prog false (.int .i64 (barr (kidX X S i)))) :=
 Eq.mpr (by kernel_rfl) runKid_r
theorem runSet_r:∀ (L:List LT) (x:LN) (X S:List Int) (k:Int) (s:List UInt8) (n a b i:Int),RTOK L x X→inL L S→Int.NonNeg (i - 0)→brP (!ilt i (Int.ofNat S.length)) ((((True∧True∧True)∧True)∧True)∧true=bar (setM x.M S i)) (sdA (inB i S.length) (sdA (inB (List.getD S (Int.toNat i) (0:Int)) x.M.length) ((((True∧True∧True∧True∧True∧True∧True)∧True)∧True)∧(!ieq (Prod.fst (List.getD x.M (Int.toNat (List.getD S (Int.toNat i) (0:Int))) ((0:Int),(0:Int)))) (3:Int))=bar (setM x.M S i))))
:= by
 intro L x X S k s n a b i hR hS h1
 simp only [barr_eq,bar_eq,true_and,and_true,eq_self,implies_true,Nat.le_eq,cond_tf,cond_cf,nif_tf,Int.toNat_natCast,Int.ofNat_eq_natCast,Nat.ble_eq,Nat.ble_self_eq_true,Bool.true_and,Bool.and_true,Bool.and_self,Option.some.injEq,AV.int.injEq,rowB_self,allBR_self,Nat.mul_one,Nat.beq_refl,allI_true,cond_true,cond_false,ieq_self,Bool.not_true,Bool.not_false,decide_true,brP_f,brP_t,sdA_t,bytesL_packL,List.nil_append]
 have h1:0≤i:=h1
 have hm:=hR.m.mlen
 unfold setM freeM
 refine brP_of (fun h=>?_) fun h=>?_
 ·rw [Bool.not_eq_true',ilt_iffn] at h
  rw [decide_eq_true h];rfl
 ·rw [Bool.not_eq_false',ilt_iff] at h
  have hk:=in_at hS (i:=i.toNat) (by omega)
  refine sdA_of (inB_iff.2 (by omega)) (sdA_of (inB_iff.2 (by omega)) ?_)
  rw [decide_eq_false (by omega),Bool.false_or,ieq_eq]
  generalize (x.M.getD (S.getD i.toNat 0).toNat (0,0)).1=u
  by_cases hb:u=3 <;> simp [hb]
theorem runSet:∀ (L:List LT) (x:LN) (X S:List Int) (k:Int) (s:List UInt8) (n a b i:Int),RTOK L x X→inL L S→0≤i→(cRun cxN0 60).call 39 [.pv (pvC L x X),.agg [.int .i64 k,.bs s,.int .i64 n,.int .i64 a,.int .i64 b,.vec 1 S.length (rI S)],.int .i64 i] .leaf 0 (ResM Try.prog false (.bool (bar (setM x.M S i)))) :=
 Eq.mpr (by kernel_rfl) runSet_r
theorem runFitsC_r:∀ (L:List LT) (x:LN) (X S:List Int) (k:Int) (s:List UInt8) (n a b i j:Int),RTOK L x X→inL L S→Int.NonNeg (i - 0)→Int.NonNeg ((↑S.length:Int) - (i + 1))→Int.NonNeg (j - 0)→Int.NonNeg ((↑S.length:Int) - (j + 1))→(∃ (L_1:List LT),∃ (x_1:LN),∃ (X_1:List Int),∃ (S_1:List Int),pvC L x X=pvC L_1 x_1 X_1∧RTOK L_1 x_1 X_1∧S.length=S_1.length∧rI S=rI S_1∧inL L_1 S_1∧Int.NonNeg (i - 0)∧Int.NonNeg ((↑S_1.length:Int) - (i + 1)))∧(∃ (L_1:List LT),∃ (x_1:LN),∃ (X_1:List Int),∃ (S_1:List Int),pvC L x X=pvC L_1 x_1 X_1∧RTOK L_1 x_1 X_1∧S.length=S_1.length∧rI S=rI S_1∧inL L_1 S_1∧Int.NonNeg (j - 0)∧Int.NonNeg ((↑S_1.length:Int) - (j + 1)))∧(((AV.agg [AV.int .i64 k,AV.bs s,AV.int .i64 n,AV.int .i64 a,AV.int .i64 b,AV.vec 1 S.length (rI S)]=AV.agg [AV.int .i64 k,AV.bs s,AV.int .i64 n,AV.int .i64 a,AV.int .i64 b,AV.vec 1 S.length (rI S)]∧True∧True)∧True)∧((True∧True∧True)∧True)∧((True∧True∧True)∧True)∧True)∧brP (ieq (barr (kidX (cT (pvC L x X)) (rowL S.length (rI S)) i)) (1073741824:Int)) (true=bar (fitsN (kidX X S i) (kidX X S j))) (brP (ieq (barr (kidX (cT (pvC L x X)) (rowL S.length (rI S)) j)) (1073741824:Int)) (true=bar (fitsN (kidX X S i) (kidX X S j))) (True∧bar (fits5 (barr (kidX (cT (pvC L x X)) (rowL S.length (rI S)) i)) (barr (kidX (cT (pvC L x X)) (rowL S.length (rI S)) j)))=bar (fitsN (kidX X S i) (kidX X S j))))
:= by
 intro L x X S k s n a b i j hR hS h1 h2 h3 h4
 simp only [barr_eq,bar_eq,true_and,and_true,eq_self,implies_true,Nat.le_eq,cond_tf,cond_cf,nif_tf,Int.toNat_natCast,Int.ofNat_eq_natCast,Nat.ble_eq,Nat.ble_self_eq_true,Bool.true_and,Bool.and_true,Bool.and_self,Option.some.injEq,AV.int.injEq,rowB_self,allBR_self,Nat.mul_one,Nat.beq_refl,allI_true,cond_true,cond_false,ieq_self,Bool.not_true,Bool.not_false,decide_true,brP_f,brP_t,sdA_t,bytesL_packL,List.nil_append]
 simp only [cT_pc,rowL_rI]
 refine ⟨⟨L,x,X,S,rfl,hR,rfl,rfl,hS,h1,h2⟩,⟨L,x,X,S,rfl,hR,rfl,rfl,hS,h3,h4⟩,?_⟩
 unfold fitsN noT
 generalize kidX X S i=u
 generalize kidX X S j=v
 refine brP_of (fun h=>?_) fun h=>brP_of (fun g=>?_) fun g=>?_
 ·rw [ieq_iff] at h;simp [h]
 ·rw [ieq_iff] at g;simp [g]
 ·rw [ieq_iffn] at h g;simp [h,g]
theorem runFitsC:∀ (L:List LT) (x:LN) (X S:List Int) (k:Int) (s:List UInt8) (n a b i j:Int),RTOK L x X→inL L S→0≤i→i < S.length→0≤j→j < S.length→(cRun cxFc 60).call 38 [.pv (pvC L x X),.agg [.int .i64 k,.bs s,.int .i64 n,.int .i64 a,.int .i64 b,.vec 1 S.length (rI S)],.int .i64 i,.int .i64 j] .leaf 0 (ResM Try.prog false (.bool (bar (fitsN (kidX X S i) (kidX X S j))))) :=
 Eq.mpr (by kernel_rfl) runFitsC_r
@[reducible] def TyW_runUse_k0:List LT→LN→List Int→List LT→LN→Prop:=fun (L:List LT) (x:LN) (X:List Int) (a:List LT) (a_1:LN)=>L.length=a.length∧rowT L=rowT a∧x.M.length=a_1.M.length∧rM x.M=rM a_1.M∧List.take._f 8 ⟨List.take._f 7 ⟨List.take._f 6 ⟨List.take._f 5 ⟨List.take._f 4 ⟨List.take._f 3 ⟨List.take._f 2 ⟨List.take._f 1 ⟨List.take._f 0 PUnit.unit,PUnit.unit⟩,List.take._f 0 PUnit.unit,PUnit.unit⟩,List.take._f 1 ⟨List.take._f 0 PUnit.unit,PUnit.unit⟩,List.take._f 0 PUnit.unit,PUnit.unit⟩,List.take._f 2 ⟨List.take._f 1 ⟨List.take._f 0 PUnit.unit,PUnit.unit⟩,List.take._f 0 PUnit.unit,PUnit.unit⟩,List.take._f 1 ⟨List.take._f 0 PUnit.unit,PUnit.unit⟩,List.take._f 0 PUnit.unit,PUnit.unit⟩,List.take._f 3 ⟨List.take._f 2 ⟨List.take._f 1 ⟨List.take._f 0 PUnit.unit,PUnit.unit⟩,List.take._f 0 PUnit.unit,PUnit.unit⟩,List.take._f 1 ⟨List.take._f 0 PUnit.unit,PUnit.unit⟩,List.take._f 0 PUnit.unit,PUnit.unit⟩,List.take._f 2 ⟨List.take._f 1 ⟨List.take._f 0 PUnit.unit,PUnit.unit⟩,List.take._f 0 PUnit.unit,PUnit.unit⟩,List.take._f 1 ⟨List.take._f 0 PUnit.unit,PUnit.unit⟩,List.take._f 0 PUnit.unit,PUnit.unit⟩,List.take._f 4 ⟨List.take._f 3 ⟨List.take._f 2 ⟨List.take._f 1 ⟨List.take._f 0 PUnit.unit,PUnit.unit⟩,List.take._f 0 PUnit.unit,PUnit.unit⟩,List.take._f 1 ⟨List.take._f 0 PUnit.unit,PUnit.unit⟩,List.take._f 0 PUnit.unit,PUnit.unit⟩,List.take._f 2 ⟨List.take._f 1 ⟨List.take._f 0 PUnit.unit,PUnit.unit⟩,List.take._f 0 PUnit.unit,PUnit.unit⟩,List.take._f 1 ⟨List.take._f 0 PUnit.unit,PUnit.unit⟩,List.take._f 0 PUnit.unit,PUnit.unit⟩,List.take._f 3 ⟨List.take._f 2 ⟨List.take._f 1 ⟨List.take._f 0 PUnit.unit,PUnit.unit⟩,List.take._f 0 PUnit.unit,PUnit.unit⟩,List.take._f 1 ⟨List.take._f 0 PUnit.unit,PUnit.unit⟩,List.take._f 0 PUnit.unit,PUnit.unit⟩,List.take._f 2 ⟨List.take._f 1 ⟨List.take._f 0 PUnit.unit,PUnit.unit⟩,List.take._f 0 PUnit.unit,PUnit.unit⟩,List.take._f 1 ⟨List.take._f 0 PUnit.unit,PUnit.unit⟩,List.take._f 0 PUnit.unit,PUnit.unit⟩,List.take._f 5 ⟨List.take._f 4 ⟨List.take._f 3 ⟨List.take._f 2 ⟨List.take._f 1 ⟨List.take._f 0 PUnit.unit,PUnit.unit⟩,List.take._f 0 PUnit.unit,PUnit.unit⟩,List.take._f 1 ⟨List.take._f 0 PUnit.unit,PUnit.unit⟩,List.take._f 0 PUnit.unit,PUnit.unit⟩,List.take._f 2 ⟨List.take._f 1 ⟨List.take._f 0 PUnit.unit,PUnit.unit⟩,List.take._f 0 PUnit.unit,PUnit.unit⟩,List.take._f 1 ⟨List.take._f 0 PUnit.unit,PUnit.unit⟩,List.take._f 0 PUnit.unit,PUnit.unit⟩,List.take._f 3 ⟨List.take._f 2 ⟨List.take._f 1 ⟨List.take._f 0 PUnit.unit,PUnit.unit⟩,List.take._f 0 PUnit.unit,PUnit.unit⟩,List.take._f 1 ⟨List.take._f 0 PUnit.unit,PUnit.unit⟩,List.take._f 0 PUnit.unit,PUnit.unit⟩,List.take._f 2 ⟨List.take._f 1 ⟨List.take._f 0 PUnit.unit,PUnit.unit⟩,List.take._f 0 PUnit.unit,PUnit.unit⟩,List.take._f 1 ⟨List.take._f 0 PUnit.unit,PUnit.unit⟩,List.take._f 0 PUnit.unit,PUnit.unit⟩,List.take._f 4 ⟨List.take._f 3 ⟨List.take._f 2 ⟨List.take._f 1 ⟨List.take._f 0 PUnit.unit,PUnit.unit⟩,List.take._f 0 PUnit.unit,PUnit.unit⟩,List.take._f 1 ⟨List.take._f 0 PUnit.unit,PUnit.unit⟩,List.take._f 0 PUnit.unit,PUnit.unit⟩,List.take._f 2 ⟨List.take._f 1 ⟨List.take._f 0 PUnit.unit,PUnit.unit⟩,List.take._f 0 PUnit.unit,PUnit.unit⟩,List.take._f 1 ⟨List.take._f 0 PUnit.unit,PUnit.unit⟩,List.take._f 0 PUnit.unit,PUnit.unit⟩,List.take._f 3 ⟨List.take._f 2 ⟨List.take._f 1 ⟨List.take._f 0 PUnit.unit,PUnit.unit⟩,List.take._f 0 PUnit.unit,PUnit.unit⟩,List.take._f 1 ⟨List.take._f 0 PUnit.unit,PUnit.unit⟩,List.take._f 0 PUnit.unit,PUnit.unit⟩,List.take._f 2 ⟨List.take._f 1 ⟨List.take._f 0 PUnit.unit,PUnit.unit⟩,List.take._f 0 PUnit.unit,PUnit.unit⟩,List.take._f 1 ⟨List.take._f 0 PUnit.unit,PUnit.unit⟩,List.take._f 0 PUnit.unit,PUnit.unit⟩,List.take._f 6 ⟨List.take._f 5 ⟨List.take._f 4 ⟨List.take._f 3 ⟨List.take._f 2 ⟨List.take._f 1 ⟨List.take._f 0 PUnit.unit,PUnit.unit⟩,List.take._f 0 PUnit.unit,PUnit.unit⟩,List.take._f 1 ⟨List.take._f 0 PUnit.unit,PUnit.unit⟩,List.take._f 0 PUnit.unit,PUnit.unit⟩,List.take._f 2 ⟨List.take._f 1 ⟨List.take._f 0 PUnit.unit,PUnit.unit⟩,List.take._f 0 PUnit.unit,PUnit.unit⟩,List.take._f 1 ⟨List.take._f 0 PUnit.unit,PUnit.unit⟩,List.take._f 0 PUnit.unit,PUnit.unit⟩,List.take._f 3 ⟨List.take._f 2 ⟨List.take._f 1 ⟨List.take._f 0 PUnit.unit,PUnit.unit⟩,List.take._f 0 PUnit.unit,PUnit.unit⟩,List.take._f 1 ⟨List.take._f 0 PUnit.unit,PUnit.unit⟩,List.take._f 0 PUnit.unit,PUnit.unit⟩,List.take._f 2 ⟨List.take._f 1 ⟨List.take._f 0 PUnit.unit,PUnit.unit⟩,List.take._f 0 PUnit.unit,PUnit.unit⟩,List.take._f 1 ⟨List.take._f 0 PUnit.unit,PUnit.unit⟩,List.take._f 0 PUnit.unit,PUnit.unit⟩,List.take._f 4 ⟨List.take._f 3 ⟨List.take._f 2 ⟨List.take._f 1 ⟨List.take._f 0 PUnit.unit,PUnit.unit⟩,List.take._f 0 PUnit.unit,PUnit.unit⟩,List.take._f 1 ⟨List.take._f 0 PUnit.unit,PUnit.unit⟩,List.take._f 0 PUnit.unit,PUnit.unit⟩,List.take._f 2 ⟨List.take._f 1 ⟨List.take._f 0 PUnit.unit,PUnit.unit⟩,List.take._f 0 PUnit.unit,PUnit.unit⟩,List.take._f 1 ⟨List.take._f 0 PUnit.unit,PUnit.unit⟩,List.take._f 0 PUnit.unit,PUnit.unit⟩,List.take._f 3 ⟨List.take._f 2 ⟨List.take._f 1 ⟨List.take._f 0 PUnit.unit,PUnit.unit⟩,List.take._f 0 PUnit.unit,PUnit.unit⟩,List.take._f 1 ⟨List.take._f 0 PUnit.unit,PUnit.unit⟩,List.take._f 0 PUnit.unit,PUnit.unit⟩,List.take._f 2 ⟨List.take._f 1 ⟨List.take._f 0 PUnit.unit,PUnit.unit⟩,List.take._f 0 PUnit.unit,PUnit.unit⟩,List.take._f 1 ⟨List.take._f 0 PUnit.unit,PUnit.unit⟩,List.take._f 0 PUnit.unit,PUnit.unit⟩,List.take._f 5 ⟨List.take._f 4 ⟨List.take._f 3 ⟨List.take._f 2 ⟨List.take._f 1 ⟨List.take._f 0 PUnit.unit,PUnit.unit⟩,List.take._f 0 PUnit.unit,PUnit.unit⟩,List.take._f 1 ⟨List.take._f 0 PUnit.unit,PUnit.unit⟩,List.take._f 0 PUnit.unit,PUnit.unit⟩,List.take._f 2 ⟨List.take._f 1 ⟨List.take._f 0 PUnit.unit,PUnit.unit⟩,List.take._f 0 PUnit.unit,PUnit.unit⟩,List.take._f 1 ⟨List.take._f 0 PUnit.unit,PUnit.unit⟩,List.take._f 0 PUnit.unit,PUnit.unit⟩,List.take._f 3 ⟨List.take._f 2 ⟨List.take._f 1 ⟨List.take._f 0 PUnit.unit,PUnit.unit⟩,List.take._f 0 PUnit.unit,PUnit.unit⟩,List.take._f 1 ⟨List.take._f 0 PUnit.unit,PUnit.unit⟩,List.take._f 0 PUnit.unit,PUnit.unit⟩,List.take._f 2 ⟨List.take._f 1 ⟨List.take._f 0 PUnit.unit,PUnit.unit⟩,List.take._f 0 PUnit.unit,PUnit.unit⟩,List.take._f 1 ⟨List.take._f 0 PUnit.unit,PUnit.unit⟩,List.take._f 0 PUnit.unit,PUnit.unit⟩,List.take._f 4 ⟨List.take._f 3 ⟨List.take._f 2 ⟨List.take._f 1 ⟨List.take._f 0 PUnit.unit,PUnit.unit⟩,List.take._f 0 PUnit.unit,PUnit.unit⟩,List.take._f 1 ⟨List.take._f 0 PUnit.unit,PUnit.unit⟩,List.take._f 0 PUnit.unit,PUnit.unit⟩,List.take._f 2 ⟨List.take._f 1 ⟨List.take._f 0 PUnit.unit,PUnit.unit⟩,List.take._f 0 PUnit.unit,PUnit.unit⟩,List.take._f 1 ⟨List.take._f 0 PUnit.unit,PUnit.unit⟩,List.take._f 0 PUnit.unit,PUnit.unit⟩,List.take._f 3 ⟨List.take._f 2 ⟨List.take._f 1 ⟨List.take._f 0 PUnit.unit,PUnit.unit⟩,List.take._f 0 PUnit.unit,PUnit.unit⟩,List.take._f 1 ⟨List.take._f 0 PUnit.unit,PUnit.unit⟩,List.take._f 0 PUnit.unit,PUnit.unit⟩,List.take._f 2 ⟨List.take._f 1 ⟨List.take._f 0 PUnit.unit,PUnit.unit⟩,List.take._f 0 PUnit.unit,PUnit.unit⟩,List.take._f 1 ⟨List.take._f 0 PUnit.unit,PUnit.unit⟩,List.take._f 0 PUnit.unit,PUnit.unit⟩ [vI x.O,vI x.Lo,vI x.C,vI x.G,vI x.Co,vI x.E,AV.vec 4 x.Fs.length (rFn x.Fs),AV.int .i64 x.main,vI X,needsM]=LN.rest a_1∧MOK a a_1.M∧Good a
theorem runUse_r:∀ (L:List LT) (x:LN) (X:List Int) (k n:Int),RTOK L x X→Int.NonNeg (n - 0)→(k=(2:Int)→Int.NonNeg ((↑x.G.length:Int) - (n + 1)))→brP (ieq k (1:Int)) ((∃ (L_1:List LT),∃ (x_1:LN),TyW_runUse_k0 L x X L_1 x_1)∧(((True∧True∧True∧True)∧True)∧((True∧True∧True∧True)∧True)∧True)∧true=true∧barr (ofT (rowTs L.length (rowT L)) (rowMs x.M.length (rM x.M)) n)=barr (useT L x.M x.G k n)) (brP (ieq k (2:Int)) (sdA (inB n x.G.length) ((∃ (L_1:List LT),∃ (x_1:LN),TyW_runUse_k0 L x X L_1 x_1)∧(((True∧True∧True∧True∧True∧True)∧True)∧((True∧True∧True∧True∧True∧True)∧True)∧True)∧true=true∧barr (ofT (rowTs L.length (rowT L)) (rowMs x.M.length (rM x.M)) (List.getD x.G (Int.toNat n) (0:Int)))=barr (useT L x.M x.G k n))) (brP (ieq k (3:Int)) (true=true∧(2:Int)=barr (useT L x.M x.G k n)) (true=true∧(0:Int)=barr (useT L x.M x.G k n))))
:= by
 intro L x X k n hR h1 h2
 simp only [barr_eq,bar_eq,true_and,and_true,eq_self,implies_true,Nat.le_eq,cond_tf,cond_cf,nif_tf,Int.toNat_natCast,Int.ofNat_eq_natCast,Nat.ble_eq,Nat.ble_self_eq_true,Bool.true_and,Bool.and_true,Bool.and_self,Option.some.injEq,AV.int.injEq,rowB_self,allBR_self,Nat.mul_one,Nat.beq_refl,allI_true,cond_true,cond_false,ieq_self,Bool.not_true,Bool.not_false,decide_true,brP_f,brP_t,sdA_t,bytesL_packL,List.nil_append,TyW_runUse_k0]
 have h1:0≤n:=h1
 have oM:∃ L_1 x_1,L.length=List.length L_1∧rowT L=rowT L_1∧x.M.length=x_1.M.length∧rM x.M=rM x_1.M∧x.rest=LN.rest x_1∧MOK L_1 x_1.M∧Good L_1:=⟨L,x,rfl,rfl,rfl,rfl,rfl,hR.m,hR.good⟩
 simp only [rowTs_rowT,rowMs_rM]
 unfold useT
 refine brP_of (fun h=>⟨oM,?_⟩) fun h=>brP_of (fun g=>sdA_of (inB_iff.2 ⟨h1,?_⟩) ⟨oM,?_⟩) fun g=>brP_of (fun e=>?_) fun e=>?_
 ·rw [ieq_iff] at h;rw [if_pos h]
 ·rw [ieq_iff] at g
  have:n < x.G.length:=h2 g
  omega
 ·rw [ieq_iffn] at h;rw [ieq_iff] at g;rw [if_neg h,if_pos g]
 ·rw [ieq_iffn] at h g;rw [ieq_iff] at e;rw [if_neg h,if_neg g,if_pos e]
 ·rw [ieq_iffn] at h g e;rw [if_neg h,if_neg g,if_neg e]
theorem runUse:∀ (L:List LT) (x:LN) (X:List Int) (k n:Int),RTOK L x X→0≤n→(k=2→n < x.G.length)→(cRun cxOf1' 60).call 43 [.pv (pvC L x X),.agg [.int .i64 k,.int .i64 n]] .leaf 0 (ResM Try.prog false (.int .i64 (barr (useT L x.M x.G k n)))) :=
 Eq.mpr (by kernel_rfl) runUse_r
@[reducible] def TyW_runCF_k0:List LT→LN→List Int→List Int→Prop:=fun (L:List LT) (x:LN) (X S:List Int)=>(true=true∧S.length=S.length∧AllI fun (i:Nat)=>Nat.le (Nat.succ i) S.length→(true=true∧List.getD S i (0:Int)=List.getD S i (0:Int))∧True)∧(true=true∧True∧(((true=true∧L.length=L.length∧AllI fun (i:Nat)=>Nat.le (Nat.succ i) L.length→(true=true∧LT.kind (List.getD L i LT.none)=LT.kind (List.getD L i LT.none))∧LT.text (List.getD L i LT.none)=LT.text (List.getD L i LT.none)∧(true=true∧LT.n (List.getD L i LT.none)=LT.n (List.getD L i LT.none))∧(true=true∧LT.line (List.getD L i LT.none)=LT.line (List.getD L i LT.none))∧(true=true∧LT.col (List.getD L i LT.none)=LT.col (List.getD L i LT.none))∧(true=true∧List.length (LT.kids (List.getD L i LT.none))=List.length (LT.kids (List.getD L i LT.none))∧AllI fun (i_1:Nat)=>Nat.le (Nat.succ i_1) (List.length (LT.kids (List.getD L i LT.none)))→(true=true∧List.getD (LT.kids (List.getD L i LT.none)) i_1 (0:Int)=List.getD (LT.kids (List.getD L i LT.none)) i_1 (0:Int))∧True)∧True)∧(true=true∧x.M.length=x.M.length∧AllI fun (i:Nat)=>Nat.le (Nat.succ i) x.M.length→(true=true∧Prod.fst (List.getD x.M i ((0:Int),(0:Int)))=Prod.fst (List.getD x.M i ((0:Int),(0:Int))))∧(true=true∧Prod.snd (List.getD x.M i ((0:Int),(0:Int)))=Prod.snd (List.getD x.M i ((0:Int),(0:Int))))∧True)∧(true=true∧x.O.length=x.O.length∧AllI fun (i:Nat)=>Nat.le (Nat.succ i) x.O.length→(true=true∧List.getD x.O i (0:Int)=List.getD x.O i (0:Int))∧True)∧(true=true∧x.Lo.length=x.Lo.length∧AllI fun (i:Nat)=>Nat.le (Nat.succ i) x.Lo.length→(true=true∧List.getD x.Lo i (0:Int)=List.getD x.Lo i (0:Int))∧True)∧(true=true∧x.C.length=x.C.length∧AllI fun (i:Nat)=>Nat.le (Nat.succ i) x.C.length→(true=true∧List.getD x.C i (0:Int)=List.getD x.C i (0:Int))∧True)∧(true=true∧x.G.length=x.G.length∧AllI fun (i:Nat)=>Nat.le (Nat.succ i) x.G.length→(true=true∧List.getD x.G i (0:Int)=List.getD x.G i (0:Int))∧True)∧(true=true∧x.Co.length=x.Co.length∧AllI fun (i:Nat)=>Nat.le (Nat.succ i) x.Co.length→(true=true∧List.getD x.Co i (0:Int)=List.getD x.Co i (0:Int))∧True)∧(true=true∧x.E.length=x.E.length∧AllI fun (i:Nat)=>Nat.le (Nat.succ i) x.E.length→(true=true∧List.getD x.E i (0:Int)=List.getD x.E i (0:Int))∧True)∧(true=true∧x.Fs.length=x.Fs.length∧AllI fun (i:Nat)=>Nat.le (Nat.succ i) x.Fs.length→(true=true∧LFn.twig (List.getD x.Fs i LFn.none)=LFn.twig (List.getD x.Fs i LFn.none))∧(true=true∧LFn.up (List.getD x.Fs i LFn.none)=LFn.up (List.getD x.Fs i LFn.none))∧LFn.name (List.getD x.Fs i LFn.none)=LFn.name (List.getD x.Fs i LFn.none)∧(true=true∧List.length (LFn.caps (List.getD x.Fs i LFn.none))=List.length (LFn.caps (List.getD x.Fs i LFn.none))∧AllI fun (i_1:Nat)=>Nat.le (Nat.succ i_1) (List.length (LFn.caps (List.getD x.Fs i LFn.none)))→(true=true∧List.getD (LFn.caps (List.getD x.Fs i LFn.none)) i_1 (0:Int)=List.getD (LFn.caps (List.getD x.Fs i LFn.none)) i_1 (0:Int))∧True)∧True)∧(true=true∧x.main=x.main)∧(true=true∧X.length=X.length∧AllI fun (i:Nat)=>Nat.le (Nat.succ i) X.length→(true=true∧List.getD X i (0:Int)=List.getD X i (0:Int))∧True)∧((∀ (k:SKey),needsH k=needsH k)∧(∀ (k:SKey),true=true∧List.length (barr (needsK k))=List.length (barr (needsK k))∧AllI fun (i:Nat)=>Nat.le (Nat.succ i) (List.length (barr (needsK k)))→(true=true∧List.getD (barr (needsK k)) i (0:Int)=List.getD (barr (needsK k)) i (0:Int))∧True)∧∀ (k:SKey),needsH k=false→needsVal k=AV.sl0∨AV.sl0=AV.sl0∧∃ (e:Nat),∃ (f:Nat→List AV),needsVal k=AV.vec e 0 f)∧True)∧True)∧True)∧(true=true∧Int.ofNat S.length=Int.ofNat S.length)∧True
theorem runCF_r:∀ (L:List LT) (x:LN) (X S:List Int),RTOK L x X→inL L S→(∃ (x0:Nat),CfI X S x0∧true=true∧((true=true∧(0:Int)=(↑x0:Int))∧TyW_runCF_k0 L x X S)∧True)∧∀ (x_1:Nat),CfI X S x_1→brP (ilt (↑x_1:Int) (Int.ofNat S.length)) (sdA (inB (↑x_1:Int) S.length) (sdA (inB (List.getD S (Int.toNat (↑x_1:Int)) (0:Int)) X.length) (brP (ieq (List.getD X (Int.toNat (List.getD S (Int.toNat (↑x_1:Int)) (0:Int))) (0:Int)) (1073741824:Int)) ((!ilt (↑x_1:Int) (0:Int))=bar (noneK X S)) (sdA (inR .i64 ((↑x_1:Int) + 1)) (∃ (x':Nat),CfI X S x'∧Nat.le (Nat.succ (S.length - x')) (S.length - x_1)∧true=true∧((true=true∧(↑x_1:Int) + 1=(↑x':Int))∧TyW_runCF_k0 L x X S)∧True))))) (false=bar (noneK X S))
:= by
 intro L x X S hR hS
 simp only [barr_eq,bar_eq,true_and,and_true,eq_self,implies_true,Nat.le_eq,cond_tf,cond_cf,nif_tf,Int.toNat_natCast,Int.ofNat_eq_natCast,Nat.ble_eq,Nat.ble_self_eq_true,Bool.true_and,Bool.and_true,Bool.and_self,Option.some.injEq,AV.int.injEq,rowB_self,allBR_self,Nat.mul_one,Nat.beq_refl,allI_true,cond_true,cond_false,ieq_self,Bool.not_true,Bool.not_false,decide_true,brP_f,brP_t,sdA_t,bytesL_packL,List.nil_append,TyW_runCF_k0]
 have hx:=hR.xl
 have hln:=hS.len
 have hLn:=hR.m.len
 refine ⟨⟨0,⟨Nat.zero_le _,fun k hk=>by omega⟩,rfl,needs_z⟩,fun i hi=>brP_of (fun h=>?_) fun h=>?_⟩
 ·rw [ilt_iff] at h
  have h':i < S.length:=by omega
  have hk:=in_at hS h'
  refine sdA_of (inB_iff.2 (by omega)) (sdA_of (inB_iff.2 (by omega)) (brP_of (fun g=>?_) fun g=>sdA_of (inR_i64.2 (by omega)) ⟨i + 1,⟨h',fun k hk2=>?_⟩,by omega,by omega,needs_z⟩))
  ·rw [ieq_iff] at g
   rw [ilt_iffn.2 (by omega)]
   refine Eq.symm (show noneK X S=true from ?_)
   unfold noneK
   rw [List.any_eq_true]
   exact ⟨_,getD_memI h',by rw [g];rfl⟩
  ·rw [ieq_iffn] at g
   rcases Nat.lt_or_ge k i with e | e
   ·exact hi.al k e
   ·obtain rfl:k=i:=by omega
    exact g
 ·rw [ilt_iffn] at h
  have:=hi.le
  refine Eq.symm ?_
  unfold noneK
  rw [List.any_eq_false]
  intro c hc
  obtain ⟨k,hk,rfl⟩:=List.getElem_of_mem hc
  have:=hi.al k (by omega)
  rw [List.getD_eq_getElem?_getD (l:=S),List.getElem?_eq_getElem hk] at this
  simpa using this
theorem runCF:∀ (L:List LT) (x:LN) (X S:List Int),RTOK L x X→inL L S→(cRun (cxCf X S) 60).call 21 [.vec 1 S.length (rI S),.fn (.func 22) [] [.pv [.pv (pvC L x X)]]] .leaf 0 (ResM Try.prog false (.bool (bar (noneK X S)))) :=
 Eq.mpr (by kernel_rfl) runCF_r
end Go.Proofs.Ythallodoidghoaa
