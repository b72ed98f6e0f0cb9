/- Laid by program out of its parts: TyA. -/
import Derived.Test.YthallodoidghoaaMh
import Derived.KernelRfl
import Derived.Test.YthallodoidghoaaProg
set_option linter.unusedVariables false
set_option linter.unusedSimpArgs false
set_option maxRecDepth 100000
open Go Go.Ev
namespace Go.Proofs.Ythallodoidghoaa
theorem fol:Try.prog.follows .mixedOrders=true:=by rfl
noncomputable def cx0:Ctx:={ P:=Try.prog,tb:=[],lp:=fun _ _=>none,cut:=fun _ _=>none }
noncomputable def cxA (tb:Tbl):Ctx:={ P:=Try.prog,tb:=tb,lp:=fun _ _=>none,cut:=fun _ _=>none }
noncomputable def cx1 (tb:Tbl) (f0 r0:Nat) (S:Stn):Ctx:={ P:=Try.prog,tb:=tb,lp:=fun f r=>cond (Nat.beq f f0) (cond (Nat.beq r r0) (some S) none) none,cut:=fun _ _=>none }
structure LT where
 kind:Int
 text:List UInt8
 n:Int
 line:Int
 col:Int
 kids:List Int
def LT.none:LT:=⟨0,[],0,0,0,[]⟩
def rI (L:List Int):Nat→List AV:=fun i=>[.int .i64 (L.getD i 0)]
def LT.row (x:LT):List AV:=[.int .i64 x.kind,.bs x.text,.int .i64 x.n,.int .i64 x.line,.int .i64 x.col,.vec 1 x.kids.length (rI x.kids)]
def rowT (L:List LT):Nat→List AV:=fun i=>(L.getD i LT.none).row
def tree (L:List LT):AV:=.agg [.vec 6 L.length (rowT L)]
def oneI (l:List AV):Int:=match l with
 | [.int _ z]=>z
 | _=>0
def rowL (n:Nat) (f:Nat→List AV):List Int:=(List.range n).map fun i=>oneI (f i)
def dLT (l:List AV):LT:=match l with
 | [.int _ k,.bs t,.int _ n,.int _ a,.int _ b,.vec _ m f]=>⟨k,t,n,a,b,rowL m f⟩
 | _=>LT.none
def rowTs (n:Nat) (f:Nat→List AV):List LT:=(List.range n).map fun i=>dLT (f i)
def termB (k:Int):Bool:=decide (26≤k∧k≤36)
def stmtB (k:Int):Bool:=decide (13≤k∧k≤25)
def declB (k:Int):Bool:=decide (k=2∨k=3∨k=6∨k=7∨k=8∨k=10∨k=11)
def varB (k:Int):Bool:=decide (k=29∨k=30∨k=31)
def bindsI (k:Int) (s:List UInt8):Int:=if termB k then (if k=32 then (if s=[60]∨s=[61,61] then 1 else if s=[43]∨s=[45] then 2 else 3) else if k=34∨k=35 then 4 else 5) else 0
def mustI (k:Int) (s:List UInt8) (i:Int):Int:=if k=32 then (if s=[60]∨s=[61,61] then 2 else if s=[43]∨s=[45] then 2 + i else 3 + i) else if k=34∨k=35 then 4 else if k=30 then 5 else if k=31 then 5 - 5 * i else 0
noncomputable def eBinds:Tr AObj→List AV→Option Ct:=fun _ args=>match args with
 | [.agg [.int .i64 k,.bs s,.int .i64 n,.int .i64 a,.int .i64 b,.vec 1 m f]]=>some (.need (∃ S:List Int,m=S.length∧f=rI S) (.ret (.int .i64 (bindsI k s))))
 | _=>none
noncomputable def eBindsB:Tr AObj→List AV→Option Ct:=fun _ args=>match args with
 | [.agg [.int .i64 k,.bs s,.int .i64 n,.int .i64 a,.int .i64 b,.vec 1 m f]]=>some (.need (∃ S:List Int,m=S.length∧f=rI S) (.br (bar (termB k)) (.br (bar (decide (k=32))) (.br (bar (decide (s=[60]∨s=[61,61]))) (.ret (.int .i64 1)) (.br (bar (decide (s=[43]∨s=[45]))) (.ret (.int .i64 2)) (.ret (.int .i64 3))))
   (.br (bar (decide (k=34∨k=35))) (.ret (.int .i64 4)) (.ret (.int .i64 5)))) (.ret (.int .i64 0))))
 | _=>none
noncomputable def eMust:Tr AObj→List AV→Option Ct:=fun _ args=>match args with
 | [.agg [.int .i64 k,.bs s,.int .i64 n,.int .i64 a,.int .i64 b,.vec 1 m f],.int .i64 i]=>some (.need ((∃ S:List Int,m=S.length∧f=rI S)∧0≤i∧i≤100000000) (.ret (.int .i64 (barr (mustI k s i)))))
 | _=>none
noncomputable def eTerm:Tr AObj→List AV→Option Ct:=fun _ args=>match args with
 | [.int .i64 k]=>some (.need True (.ret (.bool (bar (termB k)))))
 | _=>none
theorem ent_out {P:Program} {g:FuncId} {ent ent':Tr AObj→List AV→Option Ct} (h:EntOK P g ent) (h2:∀ H args ct,ent' H args=some ct→∃ ct',ent H args=some ct'∧∀ p v,ctOut ct=some (p,v)→ctOut ct'=some (p,v)):EntOK P g ent':=by
 intro H args ct hct p v hout
 obtain ⟨ct',h3,h4⟩:=h2 H args ct hct
 exact h H _ ct' h3 p v (h4 p v hout)
theorem vm_rI (S:List Int) (i:Nat):vmL [] (rI S i) (rI S i):=⟨⟨rfl,rfl⟩,trivial⟩
theorem vm_LT (x:LT):vmL [] x.row x.row:=⟨⟨rfl,rfl⟩,rfl,⟨rfl,rfl⟩,⟨rfl,rfl⟩,⟨rfl,rfl⟩,⟨rfl,rfl,⟨fun i _=>vm_rI _ i⟩⟩,trivial⟩
theorem vm_tree (L:List LT):vmP [] (tree L) (tree L):=⟨⟨rfl,rfl,⟨fun i _=>vm_LT _⟩⟩,trivial⟩
theorem rowL_rI (S:List Int):rowL S.length (rI S)=S:=by
 apply List.ext_getElem
 ·simp [rowL]
 ·intro i h1 h2
  simp [rowL,rI,oneI,List.getD_eq_getElem?_getD,List.getElem?_eq_getElem h2]
theorem dLT_row (x:LT):dLT x.row=x:=by cases x;simp only [LT.row,dLT,rowL_rI]
theorem rowTs_rowT (L:List LT):rowTs L.length (rowT L)=L:=by
 apply List.ext_getElem
 ·simp [rowTs]
 ·intro i h1 h2
  simp [rowTs,rowT,dLT_row,List.getD_eq_getElem?_getD,List.getElem?_eq_getElem h2]
theorem nt {b:Bool} (h:(!b)=false):b=true:=by simpa using h
theorem nf {b:Bool} (h:(!b)=true):b=false:=by simpa using h
theorem runBinds_r:∀ (x:LT),brP (!ilt x.kind (26:Int)) (brP (!!ilt (36:Int) x.kind) (true=true∧(0:Int)=bindsI x.kind x.text) (brP (ieq x.kind (32:Int)) (brP (decide (x.text=[(60:UInt8)])) (true=true∧(1:Int)=bindsI x.kind x.text) (brP (decide (x.text=[(61:UInt8),(61:UInt8)])) (true=true∧(1:Int)=bindsI x.kind x.text) (brP (decide (x.text=[(43:UInt8)])) (true=true∧(2:Int)=bindsI x.kind x.text) (brP (decide (x.text=[(45:UInt8)])) (true=true∧(2:Int)=bindsI x.kind x.text) (true=true∧(3:Int)=bindsI x.kind x.text))))) (brP (ieq x.kind (34:Int)) (true=true∧(4:Int)=bindsI x.kind x.text) (brP (ieq x.kind (35:Int)) (true=true∧(4:Int)=bindsI x.kind x.text) (true=true∧(5:Int)=bindsI x.kind x.text))))) (true=true∧(0:Int)=bindsI x.kind x.text)
:= by
 intro x
 simp only [barr_eq,bar_eq,true_and,and_true,eq_self,implies_true,Nat.le_eq,cond_tf,cond_cf,nif_tf,Int.toNat_natCast,Int.ofNat_eq_natCast,Nat.ble_eq,Nat.ble_self_eq_true,Bool.true_and,Bool.and_true,Bool.and_self,Option.some.injEq,AV.int.injEq,rowB_self,allBR_self,Nat.mul_one,Nat.beq_refl,allI_true,cond_true,cond_false,ieq_self,Bool.not_true,Bool.not_false,decide_true,brP_f,brP_t,sdA_t,bytesL_packL,List.nil_append]
 simp only [brP_iff,ilt_eq,ieq_eq,Bool.not_eq_true',Bool.not_eq_false',decide_eq_true_eq,decide_eq_false_iff_not]
 unfold bindsI termB
 simp only [decide_eq_true_eq]
 repeat' first
  | exact trivial
  | (refine And.intro ?_ ?_)
  | (intro h;simp only [h,if_true,if_false];done)
  | intro h
 all_goals grind
theorem runBinds:∀ (x:LT),(cRun cx0 60).call 63 [.agg x.row] .leaf 0 (ResM Try.prog false (.int .i64 (bindsI x.kind x.text))) :=
 Eq.mpr (by kernel_rfl) runBinds_r
theorem okBinds:EntOK Try.prog 63 eBinds:=by
 refine ent_of2 (gl:=[]) (ng:=0) gl0 fun H args ct hct=>?_
 unfold eBinds at hct
 split at hct
 ·rename_i k s n a b m f
  injection hct with hct;subst hct
  refine ⟨gl0,_,_,rfl,?_⟩
  rintro ⟨S,rfl,rfl⟩
  exact ⟨⟨vm_LT ⟨k,s,n,a,b,S⟩,trivial⟩,cx0,60,rfl,fol,tb_nil,runBinds ⟨k,s,n,a,b,S⟩⟩
 ·cases hct
theorem okBindsB:EntOK Try.prog 63 eBindsB:=by
 refine ent_out okBinds fun H args ct hct=>?_
 unfold eBindsB at hct
 split at hct
 ·rename_i k s n a b m f
  injection hct with hct;subst hct
  refine ⟨_,rfl,fun p v h=>?_⟩
  have h':(open Classical in if (∃ S:List Int,m=S.length∧f=rI S) then ctOut (Ct.br (bar (termB k)) (.br (bar (decide (k=32))) (.br (bar (decide (s=[60]∨s=[61,61]))) (.ret (.int .i64 1)) (.br (bar (decide (s=[43]∨s=[45]))) (.ret (.int .i64 2)) (.ret (.int .i64 3))))
   (.br (bar (decide (k=34∨k=35))) (.ret (.int .i64 4)) (.ret (.int .i64 5)))) (.ret (.int .i64 0))) else none)=some (p,v):=h
  split at h'
  case isFalse=>cases h'
  rename_i hp
  refine (if_pos hp).trans ?_
  rw [← h']
  show some (false,AV.int .i64 (bindsI k s))=cond (bar (termB k)) (cond (bar (decide (k=32))) (cond (bar (decide (s=[60]∨s=[61,61]))) (some (false,AV.int .i64 1)) (cond (bar (decide (s=[43]∨s=[45]))) (some (false,AV.int .i64 2)) (some (false,AV.int .i64 3))))
   (cond (bar (decide (k=34∨k=35))) (some (false,AV.int .i64 4)) (some (false,AV.int .i64 5)))) (some (false,AV.int .i64 0))
  simp only [bar_eq]
  unfold bindsI
  cases termB k with
  | false=>rfl
  | true =>
   by_cases h1:k=32
   ·by_cases h2:s=[60]∨s=[61,61]
    ·simp [h1,h2]
    ·by_cases h3:s=[43]∨s=[45] <;> simp [h1,h2,h3]
   ·by_cases h2:k=34∨k=35 <;> simp [h1,h2]
 ·cases hct
@[reducible] def TyA_runMust_k0:LT→Prop:=fun (x:LT)=>(True∧AV.agg [AV.int .i64 x.kind,AV.bs x.text,AV.int .i64 x.n,AV.int .i64 x.line,AV.int .i64 x.col,AV.vec 1 x.kids.length (rI x.kids)]=AV.agg [AV.int .i64 x.kind,AV.bs x.text,AV.int .i64 x.n,AV.int .i64 x.line,AV.int .i64 x.col,AV.vec 1 x.kids.length (rI x.kids)]∧True∧True∧True)∧True
@[reducible] def TyA_runMust_k1:LT→Prop:=fun (x:LT)=>TyA_runMust_k0 x∧((True∧True∧AV.int .i64 (3:Int)=AV.int .i64 (3:Int)∧True∧True)∧True)∧((True∧True∧True∧True∧True)∧True)∧True
@[reducible] def TyA_runMust_k2:LT→Prop:=fun (x:LT)=>TyA_runMust_k0 x∧((True∧True∧AV.int .i64 (2:Int)=AV.int .i64 (2:Int)∧True∧True)∧True)∧((True∧True∧True∧True∧True)∧True)∧True
@[reducible] def TyA_runMust_k3:LT→Prop:=fun (x:LT)=>TyA_runMust_k0 x∧((True∧True∧AV.int .i64 (0:Int)=AV.int .i64 (0:Int)∧True∧True)∧True)∧((True∧True∧True∧True∧True)∧True)∧True
@[reducible] def TyA_runMust_k4:LT→Int→Prop:=fun (x:LT) (i:Int)=>TyA_runMust_k1 x∧true=true∧(3:Int)=mustI x.kind x.text i
@[reducible] def TyA_runMust_k5:LT→Int→Prop:=fun (x:LT) (i:Int)=>TyA_runMust_k2 x∧true=true∧(2:Int)=mustI x.kind x.text i
@[reducible] def TyA_runMust_k6:LT→Int→Prop:=fun (x:LT) (i:Int)=>TyA_runMust_k3 x∧true=true∧(0:Int)=mustI x.kind x.text i
@[reducible] def TyA_runMust_k7:LT→Int→Prop:=fun (x:LT) (i:Int)=>TyA_runMust_k3 x∧true=true∧(0:Int) + i=mustI x.kind x.text i
@[reducible] def TyA_runMust_k8:LT→Int→Prop:=fun (x:LT) (i:Int)=>TyA_runMust_k2 x∧true=true∧(2:Int) + i=mustI x.kind x.text i
@[reducible] def TyA_runMust_k9:LT→Int→Prop:=fun (x:LT) (i:Int)=>TyA_runMust_k1 x∧true=true∧(3:Int) + i=mustI x.kind x.text i
@[reducible] def TyA_runMust_k10:LT→Int→Prop:=fun (x:LT) (i:Int)=>(∃ (S:List Int),x.kids.length=S.length∧rI x.kids=rI S)∧brP (bar (termB x.kind)) (brP (bar (decide (x.kind=(32:Int)))) (brP (bar (decide (x.text=[(60:UInt8)]∨x.text=[(61:UInt8),(61:UInt8)]))) (TyA_runMust_k5 x i) (brP (bar (decide (x.text=[(43:UInt8)]∨x.text=[(45:UInt8)]))) (sdA (inR .i64 ((2:Int) + i)) (TyA_runMust_k8 x i)) (sdA (inR .i64 ((2:Int) + i)) (TyA_runMust_k8 x i)))) (sdA (bar (decide (x.kind=(34:Int)∨x.kind=(35:Int)))) False)) (TyA_runMust_k5 x i)
theorem runMust_r:∀ (x:LT) (i:Int),Int.NonNeg (i - 0)→Int.NonNeg ((100000000:Int) - i)→brP (ieq x.kind (32:Int)) ((∃ (S:List Int),x.kids.length=S.length∧rI x.kids=rI S)∧brP (bar (termB x.kind)) (brP (bar (decide (x.kind=(32:Int)))) (brP (bar (decide (x.text=[(60:UInt8)]∨x.text=[(61:UInt8),(61:UInt8)]))) (TyA_runMust_k10 x i) (brP (bar (decide (x.text=[(43:UInt8)]∨x.text=[(45:UInt8)]))) (TyA_runMust_k10 x i) ((∃ (S:List Int),x.kids.length=S.length∧rI x.kids=rI S)∧brP (bar (termB x.kind)) (brP (bar (decide (x.kind=(32:Int)))) (brP (bar (decide (x.text=[(60:UInt8)]∨x.text=[(61:UInt8),(61:UInt8)]))) (TyA_runMust_k4 x i) (brP (bar (decide (x.text=[(43:UInt8)]∨x.text=[(45:UInt8)]))) (sdA (inR .i64 ((3:Int) + i)) (TyA_runMust_k9 x i)) (sdA (inR .i64 ((3:Int) + i)) (TyA_runMust_k9 x i)))) (sdA (bar (decide (x.kind=(34:Int)∨x.kind=(35:Int)))) False)) (TyA_runMust_k4 x i)))) (sdA (bar (decide (x.kind=(34:Int)∨x.kind=(35:Int)))) False)) ((∃ (S:List Int),x.kids.length=S.length∧rI x.kids=rI S)∧brP (bar (termB x.kind)) (brP (bar (decide (x.kind=(32:Int)))) (brP (bar (decide (x.text=[(60:UInt8)]∨x.text=[(61:UInt8),(61:UInt8)]))) (TyA_runMust_k6 x i) (brP (bar (decide (x.text=[(43:UInt8)]∨x.text=[(45:UInt8)]))) (sdA (inR .i64 ((0:Int) + i)) (TyA_runMust_k7 x i)) (sdA (inR .i64 ((0:Int) + i)) (TyA_runMust_k7 x i)))) (sdA (bar (decide (x.kind=(34:Int)∨x.kind=(35:Int)))) False)) (TyA_runMust_k6 x i))) (brP (ieq x.kind (34:Int)) (true=true∧(4:Int)=mustI x.kind x.text i) (brP (ieq x.kind (35:Int)) (true=true∧(4:Int)=mustI x.kind x.text i) (brP (ieq x.kind (30:Int)) (true=true∧(5:Int)=mustI x.kind x.text i) (brP (ieq x.kind (31:Int)) (sdA (inR .i64 ((5:Int) * i)) (sdA (inR .i64 ((5:Int) - 5 * i)) (true=true∧(5:Int) - 5 * i=mustI x.kind x.text i))) (true=true∧(0:Int)=mustI x.kind x.text i)))))
:= by
 intro x i h0 h1
 have h0:0≤i:=h0
 have h1:i≤100000000:=h1
 have hS:∃ S:List Int,x.kids.length=S.length∧rI x.kids=rI S:=⟨_,rfl,rfl⟩
 simp only [barr_eq,bar_eq,true_and,and_true,eq_self,implies_true,Nat.le_eq,cond_tf,cond_cf,nif_tf,Int.toNat_natCast,Int.ofNat_eq_natCast,Nat.ble_eq,Nat.ble_self_eq_true,Bool.true_and,Bool.and_true,Bool.and_self,Option.some.injEq,AV.int.injEq,rowB_self,allBR_self,Nat.mul_one,Nat.beq_refl,allI_true,cond_true,cond_false,ieq_self,Bool.not_true,Bool.not_false,decide_true,brP_f,brP_t,sdA_t,bytesL_packL,List.nil_append,TyA_runMust_k0,TyA_runMust_k1,TyA_runMust_k2,TyA_runMust_k3,TyA_runMust_k4,TyA_runMust_k5,TyA_runMust_k6,TyA_runMust_k7,TyA_runMust_k8,TyA_runMust_k9,TyA_runMust_k10]
 simp only [hS,true_and,brP_iff,sdA_iff,ilt_eq,ieq_eq,inR_i64,Bool.not_eq_true',Bool.not_eq_false',decide_eq_true_eq,decide_eq_false_iff_not]
 unfold mustI termB
 simp only [decide_eq_true_eq,decide_eq_false_iff_not]
 generalize x.kind=k
 generalize x.text=s
 clear hS
 repeat' first
  | exact trivial
  | (refine And.intro ?_ ?_)
  | intro h
 all_goals grind
theorem runMust:∀ (x:LT) (i:Int),0≤i→i≤100000000→(cRun (cxA [(63,eBindsB)]) 60).call 64 [.agg x.row,.int .i64 i] .leaf 0 (ResM Try.prog false (.int .i64 (mustI x.kind x.text i))) :=
 Eq.mpr (by kernel_rfl) runMust_r
theorem runTerm_r:∀ (k:Int),brP (!ilt k (26:Int)) ((!ilt (36:Int) k)=termB k) (false=termB k)
:= by
 intro k
 simp only [brP_iff,ilt_eq,ieq_eq,Bool.not_eq_true',Bool.not_eq_false',decide_eq_true_eq,decide_eq_false_iff_not]
 unfold termB
 grind
theorem runTerm:∀ (k:Int),(cRun cx0 60).call 75 [.int .i64 k] .leaf 0 (ResM Try.prog false (.bool (termB k))) :=
 Eq.mpr (by kernel_rfl) runTerm_r
theorem okMust:EntOK Try.prog 64 eMust:=by
 refine ent_of2 (gl:=[]) (ng:=0) gl0 fun H args ct hct=>?_
 unfold eMust at hct
 split at hct
 ·rename_i k s n a b m f i
  injection hct with hct;subst hct
  refine ⟨gl0,_,_,rfl,?_⟩
  rintro ⟨⟨S,rfl,rfl⟩,h0,h1⟩
  exact ⟨⟨vm_LT ⟨k,s,n,a,b,S⟩,⟨rfl,rfl⟩,trivial⟩,_,60,rfl,fol,tb_cons okBindsB tb_nil,by rw [barr_eq];exact runMust ⟨k,s,n,a,b,S⟩ i h0 h1⟩
 ·cases hct
theorem okTermR:EntOK Try.prog 75 eTerm:=by
 refine ent_of2 (gl:=[]) (ng:=0) gl0 fun H args ct hct=>?_
 unfold eTerm at hct
 split at hct
 ·rename_i k
  injection hct with hct;subst hct
  exact ⟨gl0,_,_,rfl,fun _=>⟨⟨⟨rfl,rfl⟩,trivial⟩,cx0,60,rfl,fol,tb_nil,by rw [bar_eq];exact runTerm k⟩⟩
 ·cases hct
end Go.Proofs.Ythallodoidghoaa
