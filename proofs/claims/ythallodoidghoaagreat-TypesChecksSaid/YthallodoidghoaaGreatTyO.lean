/- Laid by program out of its parts: TyO. -/
import Derived.Test.YthallodoidghoaaGreatTyN
set_option linter.unusedVariables false
set_option linter.unusedSimpArgs false
set_option maxRecDepth 100000
set_option maxHeartbeats 2000000
open Go Go.Ev
namespace Go.Proofs.YthallodoidghoaaGreat
def rB (l:List Bool):Nat→List AV:=fun i=>[.bool (l.getD i false)]
def vB (l:List Bool):AV:=.vec 1 l.length (rB l)
def oneBB (l:List AV):Bool:=match l with
 | [.bool b]=>b
 | _=>false
def rowBs (n:Nat) (f:Nat→List AV):List Bool:=(List.range n).map fun i=>oneBB (f i)
def pvR (L:List LT) (x:LN) (X:List Int) (H R:List Bool):List AV:=[.vec 6 L.length (rowT L),.vec 2 x.M.length (rM x.M),vI x.O,vI x.Lo,vI x.C,vI x.G,vI x.Co,vI x.E,.vec 4 x.Fs.length (rFn x.Fs),.int .i64 x.main,vI X,vB H,vB R]
def cL (cs:List AV):List LT:=match cs with
 | .vec 6 n f :: _=>rowTs n f
 | _=>[]
def cM (cs:List AV):List (Int×Int):=match cs with
 | _ :: .vec 2 n f :: _=>rowMs n f
 | _=>[]
def cC (cs:List AV):List Int:=match cs with
 | _ :: _ :: _ :: _ :: .vec 1 n f :: _=>rowL n f
 | _=>[]
def cG (cs:List AV):List Int:=match cs with
 | _ :: _ :: _ :: _ :: _ :: .vec 1 n f :: _=>rowL n f
 | _=>[]
def cX (cs:List AV):List Int:=match cs with
 | [_,_,_,_,_,_,_,_,_,_,.vec 1 n f,_,_]=>rowL n f
 | _=>[]
def cH (cs:List AV):List Bool:=match cs with
 | [_,_,_,_,_,_,_,_,_,_,_,.vec 1 n f,_]=>rowBs n f
 | _=>[]
def cR (cs:List AV):List Bool:=match cs with
 | [_,_,_,_,_,_,_,_,_,_,_,_,.vec 1 n f]=>rowBs n f
 | _=>[]
def fits5 (a b:Int):Bool:=if a=0 then decide (b≠1) else decide (a=b)
def fitsH (X:List Int) (H:List Bool) (i:Nat) (to:Int):Bool:=!H.getD i false || fits5 (X.getD i 0) to
def isH (X:List Int) (H:List Bool) (i:Nat) (want:Int):Bool:=!H.getD i false || decide (X.getD i 0=want)
def freeM (M:List (Int×Int)) (i:Nat):Bool:=decide ((M.getD i (0,0)).1≠3)
def kidN (L:List LT) (i j:Nat):Nat:=((L.getD i LT.none).kids.getD j 0).toNat
def right5 (L:List LT) (M:List (Int×Int)) (C:List Int) (X:List Int) (H:List Bool) (i:Nat):Bool :=
 let k:=(L.getD i LT.none).kind
 let n:=(L.getD i LT.none).kids.length
 let a:=kidN L i 0
 let b:=kidN L i 1
 if k=13 then fitsH X H b (ofT L M ((L.getD i LT.none).kids.getD 0 0))
 else if k=14 then freeM M a && (!H.getD a false || fitsH X H b (X.getD a 0))
 else if k=15 then isH X H a 2
 else if k=19 then isH X H a 2 && (decide (n=1) || freeM M b && isH X H b 3)
 else if k=20 then isH X H a 2 && (decide (n=1) || freeM M b && isH X H b 4)
 else if k=16 then isH X H a 3
 else if k=17 then isH X H a 4
 else if k=18∨k=23∨k=24∨k=34 then isH X H a 1
 else if k=35 then isH X H a 5
 else if k=31 then isH X H a 5 && isH X H b 1
 else if k=30 then !H.getD a false || decide (0≤(memT L M C (X.getD a 0) (L.getD i LT.none).text).1)
 else if k=32 then (if (L.getD i LT.none).text≠[61,61] then isH X H a 1 && isH X H b 1 else !H.getD a false || !H.getD b false || fits5 (X.getD a 0) (X.getD b 0) || fits5 (X.getD b 0) (X.getD a 0))
 else true
def right5c (cs:List AV) (i:Nat):Bool:=right5 (cL cs) (cM cs) (cC cs) (cX cs) (cH cs) i
structure R5OK (L:List LT) (x:LN) (X:List Int) (H R:List Bool):Prop where
 good:Good L
 m:MOK L x.M
 c:COK L x.C
 xl:X.length=L.length
 hl:H.length=L.length
 rl:R.length=L.length
 b:∀ j,-1000000000≤X.getD j 0∧X.getD j 0≤9000000000
noncomputable def eFits5:Tr AObj→List AV→Option Ct:=fun _ args=>match args with
 | [.int .i64 a,.int .i64 b]=>some (.need True (.ret (.bool (bar (fits5 a b)))))
 | _=>none
noncomputable def eFitsR:Tr AObj→List AV→Option Ct:=fun _ args=>match args with
 | [.pv cs,.int .i64 i,.int .i64 to]=>some (.need (∃ (L:List LT) (x:LN) (X:List Int) (H R:List Bool),cs=pvR L x X H R∧R5OK L x X H R∧0≤i∧i < L.length) (.ret (.bool (bar (fitsH (cX cs) (cH cs) i.toNat to)))))
 | _=>none
noncomputable def eFree:Tr AObj→List AV→Option Ct:=fun _ args=>match args with
 | [.pv cs,.int .i64 i]=>some (.need (∃ (L:List LT) (x:LN) (X:List Int) (H R:List Bool),cs=pvR L x X H R∧R5OK L x X H R∧0≤i∧i < L.length) (.ret (.bool (bar (freeM (cM cs) i.toNat)))))
 | _=>none
noncomputable def eRight5:Tr AObj→List AV→Option Ct:=fun _ args=>match args with
 | [.pv cs,.int .i64 i]=>some (.need (∃ (L:List LT) (x:LN) (X:List Int) (H R:List Bool),cs=pvR L x X H R∧R5OK L x X H R∧0≤i∧i < L.length) (.ret (.bool (bar (right5c cs i.toNat)))))
 | _=>none
noncomputable def cxN0:Ctx:={ P:=Tryz.prog,tb:=[],lp:=fun _ _=>none,cut:=fun _ _=>none }
noncomputable def cxF5:Ctx:={ P:=Tryz.prog,tb:=[(71,eFits5)],lp:=fun _ _=>none,cut:=fun _ _=>none }
noncomputable def cxR5:Ctx:={ P:=Tryz.prog,tb:=[(30,eOf1),(71,eFits5),(67,eFitsR),(68,eFree),(70,eMem)],lp:=fun _ _=>none,cut:=fun _ _=>none }
theorem rowBs_rB (l:List Bool):rowBs l.length (rB l)=l:=by
 apply List.ext_getElem
 ·simp [rowBs]
 ·intro i h1 h2
  simp [rowBs,rB,oneBB,List.getD_eq_getElem?_getD,List.getElem?_eq_getElem h2]
theorem cL_pv (L:List LT) (x:LN) (X:List Int) (H R:List Bool):cL (pvR L x X H R)=L:=rowTs_rowT L
theorem cM_pv (L:List LT) (x:LN) (X:List Int) (H R:List Bool):cM (pvR L x X H R)=x.M:=rowMs_rM x.M
theorem cC_pv (L:List LT) (x:LN) (X:List Int) (H R:List Bool):cC (pvR L x X H R)=x.C:=rowL_rI x.C
theorem cG_pv (L:List LT) (x:LN) (X:List Int) (H R:List Bool):cG (pvR L x X H R)=x.G:=rowL_rI x.G
theorem cX_pv (L:List LT) (x:LN) (X:List Int) (H R:List Bool):cX (pvR L x X H R)=X:=rowL_rI X
theorem cH_pv (L:List LT) (x:LN) (X:List Int) (H R:List Bool):cH (pvR L x X H R)=H:=rowBs_rB H
theorem cR_pv (L:List LT) (x:LN) (X:List Int) (H R:List Bool):cR (pvR L x X H R)=R:=rowBs_rB R
theorem vm_rB (l:List Bool) (i:Nat):vmL [] (rB l i) (rB l i):=⟨rfl,trivial⟩
theorem okMem:EntOK Tryz.prog 47 eMem:=by
 refine ent_of2 (gl:=[]) (ng:=0) gl0 fun H args ct hct=>?_
 unfold eMem at hct
 split at hct
 ·rename_i n f m g o lo nc fc q c s
  injection hct with hct;subst hct
  refine ⟨gl0,_,_,rfl,?_⟩
  rintro ⟨L,x,rfl,rfl,rfl,rfl,rfl,rfl,rfl,rfl,rfl,hM,hG,hC,h1,h2⟩
  rw [rowTs_rowT,rowMs_rM,rowL_rI]
  exact ⟨⟨vm_tree L,vm_names x,⟨rfl,rfl⟩,rfl,trivial⟩,cxMem L s (kidsC L x.C c),60,rfl,fol,tb_cons okOf1 tb_nil,runMem L x c s hM hG hC h1 h2⟩
 ·cases hct
theorem okMem5:EntOK Tryz.prog 70 eMem:=by
 refine ent_of2 (gl:=[]) (ng:=0) gl0 fun H args ct hct=>?_
 unfold eMem at hct
 split at hct
 ·rename_i n f m g o lo nc fc q c s
  injection hct with hct;subst hct
  refine ⟨gl0,_,_,rfl,?_⟩
  rintro ⟨L,x,rfl,rfl,rfl,rfl,rfl,rfl,rfl,rfl,rfl,hM,hG,hC,h1,h2⟩
  rw [rowTs_rowT,rowMs_rM,rowL_rI]
  exact ⟨⟨vm_tree L,vm_names x,⟨rfl,rfl⟩,rfl,trivial⟩,cxMem5 L s (kidsC L x.C c),60,rfl,fol,tb_cons okOf51 tb_nil,runMem5 L x c s hM hG hC h1 h2⟩
 ·cases hct
theorem beq_dec (a b:Int):(a == b)=decide (a=b):=by by_cases h:a=b <;> simp [h]
theorem cast1 (n:Nat):((n:Int)=1)=(n=1):=propext (by omega)
theorem km_len1 {c:UInt8} {s:List UInt8} {l:List Int} (h1:c≠42) (h2:c≠63) (h:kidsM (c :: s) l=true):0 < l.length:=by
 cases l with
 | nil=>rw [km_none _ h1 h2] at h;cases h
 | cons x l=>simp
theorem km_len2 {c d:UInt8} {s:List UInt8} {l:List Int} (h1:c≠42) (h2:c≠63) (h3:d≠42) (h4:d≠63) (h:kidsM (c :: d :: s) l=true):1 < l.length:=by
 cases l with
 | nil=>rw [km_none _ h1 h2] at h;cases h
 | cons x l =>
  rw [km_one _ _ _ h1 h2,Bool.and_eq_true] at h
  have:=km_len1 h3 h4 h.2
  simp only [List.length_cons];omega
theorem kids1 {L:List LT} (hG:Good L) {i:Nat} (hi:i < L.length) (hk:(L.getD i LT.none).kind=15∨(L.getD i LT.none).kind=16∨(L.getD i LT.none).kind=17∨(L.getD i LT.none).kind=18∨(L.getD i LT.none).kind=19∨(L.getD i LT.none).kind=20∨(L.getD i LT.none).kind=23∨(L.getD i LT.none).kind=24∨(L.getD i LT.none).kind=30∨(L.getD i LT.none).kind=34∨(L.getD i LT.none).kind=35):0 < (L.getD i LT.none).kids.length:=by
 have h:=hG.kinds i hi
 have hl:∃ s,lettersL (L.getD i LT.none).kind=101 :: s:=by
  rcases hk with hk | hk | hk | hk | hk | hk | hk | hk | hk | hk | hk <;> rw [hk] <;> exact ⟨_,rfl⟩
 obtain ⟨s,hs⟩:=hl
 rw [hs] at h
 have:=km_len1 (by decide) (by decide) h
 rwa [List.length_map] at this
theorem kids2 {L:List LT} (hG:Good L) {i:Nat} (hi:i < L.length) (hk:(L.getD i LT.none).kind=13∨(L.getD i LT.none).kind=14∨(L.getD i LT.none).kind=31∨(L.getD i LT.none).kind=32):1 < (L.getD i LT.none).kids.length:=by
 have h:=hG.kinds i hi
 have hl:∃ c s,lettersL (L.getD i LT.none).kind=c :: 101 :: s∧c≠42∧c≠63:=by
  rcases hk with hk | hk | hk | hk <;> rw [hk] <;> exact ⟨_,_,rfl,by decide,by decide⟩
 obtain ⟨c,s,hs,h1,h2⟩:=hl
 rw [hs] at h
 have:=km_len2 h1 h2 (by decide) (by decide) h
 rwa [List.length_map] at this
theorem kid_in {L:List LT} (hG:Good L) {i j:Nat} (hi:i < L.length) (hj:j < (L.getD i LT.none).kids.length):0≤(L.getD i LT.none).kids.getD j 0∧(L.getD i LT.none).kids.getD j 0 < L.length:=by
 obtain ⟨h1,h2⟩:=hG.kid i hi _ (getD_memI hj)
 exact ⟨by omega,h2⟩
theorem runFits5_r:∀ (a b:Int),brP (ieq a (0:Int)) ((!ieq b (1:Int))=bar (fits5 a b)) (ieq a b=bar (fits5 a b))
:= by
 intro a b
 simp only [barr_eq,bar_eq,true_and,and_true,eq_self,implies_true,Nat.le_eq,cond_tf,cond_cf,nif_tf,Int.toNat_natCast,Int.ofNat_eq_natCast,Nat.ble_eq,Nat.ble_self_eq_true,Bool.true_and,Bool.and_true,Bool.and_self,Option.some.injEq,AV.int.injEq,rowB_self,allBR_self,Nat.mul_one,Nat.beq_refl,allI_true,cond_true,cond_false,ieq_self,Bool.not_true,Bool.not_false,decide_true,brP_f,brP_t,sdA_t,bytesL_packL,List.nil_append]
 unfold fits5
 simp only [ieq_eq]
 refine brP_of (fun h=>?_) fun h=>?_
 ·rw [if_pos (by simpa using h)]
  by_cases hb:b=1 <;> simp [hb]
 ·rw [if_neg (by simpa using h)]
  by_cases hb:a=b <;> simp [hb]
theorem runFits5:∀ (a b:Int),(cRun cxN0 60).call 71 [.int .i64 a,.int .i64 b] .leaf 0 (ResM Tryz.prog false (.bool (bar (fits5 a b)))) :=
 Eq.mpr (by kernel_rfl) runFits5_r
theorem runFitsR_r:∀ (L:List LT) (x:LN) (X:List Int) (H R:List Bool) (i to:Int),R5OK L x X H R→Int.NonNeg (i - 0)→Int.NonNeg ((↑L.length:Int) - (i + 1))→sdA (inB i H.length) (brP (!List.getD H (Int.toNat i) false) (true=bar (fitsH X H (Int.toNat i) to)) (sdA (inB i X.length) (True∧bar (fits5 (List.getD X (Int.toNat i) (0:Int)) to)=bar (fitsH X H (Int.toNat i) to))))
:= by
 intro L x X H R i to hR h1 h2
 have h1:0≤i:=h1
 have h2:i < L.length:=h2
 have hx:=hR.xl
 have hh:=hR.hl
 simp only [barr_eq,bar_eq,true_and,and_true,eq_self,implies_true,Nat.le_eq,cond_tf,cond_cf,nif_tf,Int.toNat_natCast,Int.ofNat_eq_natCast,Nat.ble_eq,Nat.ble_self_eq_true,Bool.true_and,Bool.and_true,Bool.and_self,Option.some.injEq,AV.int.injEq,rowB_self,allBR_self,Nat.mul_one,Nat.beq_refl,allI_true,cond_true,cond_false,ieq_self,Bool.not_true,Bool.not_false,decide_true,brP_f,brP_t,sdA_t,bytesL_packL,List.nil_append]
 unfold fitsH
 refine sdA_of (inB_iff.2 (by omega)) (brP_of (fun h=>?_) fun h=>sdA_of (inB_iff.2 (by omega)) ?_)
 ·rw [h];rfl
 ·rw [h];rfl
theorem runFitsR:∀ (L:List LT) (x:LN) (X:List Int) (H R:List Bool) (i to:Int),R5OK L x X H R→0≤i→i < L.length→(cRun cxF5 60).call 67 [.pv (pvR L x X H R),.int .i64 i,.int .i64 to] .leaf 0 (ResM Tryz.prog false (.bool (bar (fitsH X H i.toNat to)))) :=
 Eq.mpr (by kernel_rfl) runFitsR_r
theorem runFree_r:∀ (L:List LT) (x:LN) (X:List Int) (H R:List Bool) (i:Int),R5OK L x X H R→Int.NonNeg (i - 0)→Int.NonNeg ((↑L.length:Int) - (i + 1))→sdA (inB i x.M.length) ((!ieq (Prod.fst (List.getD x.M (Int.toNat i) ((0:Int),(0:Int)))) (3:Int))=bar (freeM x.M (Int.toNat i)))
:= by
 intro L x X H R i hR h1 h2
 have h1:0≤i:=h1
 have h2:i < L.length:=h2
 have hm:=hR.m.mlen
 simp only [barr_eq,bar_eq,true_and,and_true,eq_self,implies_true,Nat.le_eq,cond_tf,cond_cf,nif_tf,Int.toNat_natCast,Int.ofNat_eq_natCast,Nat.ble_eq,Nat.ble_self_eq_true,Bool.true_and,Bool.and_true,Bool.and_self,Option.some.injEq,AV.int.injEq,rowB_self,allBR_self,Nat.mul_one,Nat.beq_refl,allI_true,cond_true,cond_false,ieq_self,Bool.not_true,Bool.not_false,decide_true,brP_f,brP_t,sdA_t,bytesL_packL,List.nil_append]
 unfold freeM
 refine sdA_of (inB_iff.2 (by omega)) ?_
 rw [ieq_eq]
 generalize (x.M.getD i.toNat (0,0)).1=a
 by_cases hb:a=3 <;> simp [hb]
theorem runFree:∀ (L:List LT) (x:LN) (X:List Int) (H R:List Bool) (i:Int),R5OK L x X H R→0≤i→i < L.length→(cRun cxN0 60).call 68 [.pv (pvR L x X H R),.int .i64 i] .leaf 0 (ResM Tryz.prog false (.bool (bar (freeM x.M i.toNat)))) :=
 Eq.mpr (by kernel_rfl) runFree_r
@[reducible] def TyO_runRight5_k0:List LT→LN→List Int→List Bool→List Bool→Nat→List LT→LN→List Int→List Bool→List Bool→Prop:=fun (L:List LT) (x:LN) (X:List Int) (H R:List Bool) (i:Nat) (a:List LT) (a_1:LN) (a_2:List Int) (a_3 a_4:List Bool)=>pvR L x X H R=pvR a a_1 a_2 a_3 a_4∧R5OK a a_1 a_2 a_3 a_4∧Int.NonNeg (List.getD (LT.kids (List.getD L (Int.toNat (↑i:Int)) LT.none)) 1 (0:Int) - 0)∧Int.NonNeg ((↑a.length:Int) - (List.getD (LT.kids (List.getD L (Int.toNat (↑i:Int)) LT.none)) 1 (0:Int) + 1))
@[reducible] def TyO_runRight5_k1:List LT→LN→List Int→List Bool→List Bool→Nat→Prop:=fun (L:List LT) (x:LN) (X:List Int) (H R:List Bool) (i:Nat)=>(∃ (L_1:List LT),∃ (x_1:LN),∃ (X_1:List Int),∃ (H_1:List Bool),∃ (R_1:List Bool),TyO_runRight5_k0 L x X H R i L_1 x_1 X_1 H_1 R_1)∧brP (bar (freeM (cM (pvR L x X H R)) (Int.toNat (List.getD (LT.kids (List.getD L (Int.toNat (↑i:Int)) LT.none)) 1 (0:Int))))) (sdA (inB (1:Int) (List.length (LT.kids (List.getD L (Int.toNat (↑i:Int)) LT.none)))) (sdA (inB (List.getD (LT.kids (List.getD L (Int.toNat (↑i:Int)) LT.none)) 1 (0:Int)) H.length) (brP (!List.getD H (Int.toNat (List.getD (LT.kids (List.getD L (Int.toNat (↑i:Int)) LT.none)) 1 (0:Int))) false) (true=bar (right5 L x.M x.C X H i)) (sdA (inB (List.getD (LT.kids (List.getD L (Int.toNat (↑i:Int)) LT.none)) 1 (0:Int)) X.length) (ieq (List.getD X (Int.toNat (List.getD (LT.kids (List.getD L (Int.toNat (↑i:Int)) LT.none)) 1 (0:Int))) (0:Int)) (3:Int)=bar (right5 L x.M x.C X H i)))))) (false=bar (right5 L x.M x.C X H i))
@[reducible] def TyO_runRight5_k2:List LT→LN→List Int→List Bool→List Bool→Nat→Prop:=fun (L:List LT) (x:LN) (X:List Int) (H R:List Bool) (i:Nat)=>(∃ (L_1:List LT),∃ (x_1:LN),∃ (X_1:List Int),∃ (H_1:List Bool),∃ (R_1:List Bool),TyO_runRight5_k0 L x X H R i L_1 x_1 X_1 H_1 R_1)∧brP (bar (freeM (cM (pvR L x X H R)) (Int.toNat (List.getD (LT.kids (List.getD L (Int.toNat (↑i:Int)) LT.none)) 1 (0:Int))))) (sdA (inB (1:Int) (List.length (LT.kids (List.getD L (Int.toNat (↑i:Int)) LT.none)))) (sdA (inB (List.getD (LT.kids (List.getD L (Int.toNat (↑i:Int)) LT.none)) 1 (0:Int)) H.length) (brP (!List.getD H (Int.toNat (List.getD (LT.kids (List.getD L (Int.toNat (↑i:Int)) LT.none)) 1 (0:Int))) false) (true=bar (right5 L x.M x.C X H i)) (sdA (inB (List.getD (LT.kids (List.getD L (Int.toNat (↑i:Int)) LT.none)) 1 (0:Int)) X.length) (ieq (List.getD X (Int.toNat (List.getD (LT.kids (List.getD L (Int.toNat (↑i:Int)) LT.none)) 1 (0:Int))) (0:Int)) (4:Int)=bar (right5 L x.M x.C X H i)))))) (false=bar (right5 L x.M x.C X H i))
theorem runRight5_r:∀ (L:List LT) (x:LN) (X:List Int) (H R:List Bool) (i:Nat),R5OK L x X H R→Nat.le (Nat.succ i) L.length→sdA (inB (↑i:Int) L.length) (brP (ieq (LT.kind (List.getD L (Int.toNat (↑i:Int)) LT.none)) (13:Int)) (sdA (inB (1:Int) (List.length (LT.kids (List.getD L (Int.toNat (↑i:Int)) LT.none)))) (sdA (inB (0:Int) (List.length (LT.kids (List.getD L (Int.toNat (↑i:Int)) LT.none)))) ((∃ (L_1:List LT),∃ (x_1:LN),L.length=L_1.length∧rowT L=rowT L_1∧x.M.length=x_1.M.length∧rM x.M=rM x_1.M∧List.take._f 8 ⟨List.take._f 7 ⟨List.take._f 6 ⟨List.take._f 5 ⟨List.take._f 4 ⟨List.take._f 3 ⟨List.take._f 2 ⟨List.take._f 1 ⟨List.take._f 0 PUnit.unit,PUnit.unit⟩,List.take._f 0 PUnit.unit,PUnit.unit⟩,List.take._f 1 ⟨List.take._f 0 PUnit.unit,PUnit.unit⟩,List.take._f 0 PUnit.unit,PUnit.unit⟩,List.take._f 2 ⟨List.take._f 1 ⟨List.take._f 0 PUnit.unit,PUnit.unit⟩,List.take._f 0 PUnit.unit,PUnit.unit⟩,List.take._f 1 ⟨List.take._f 0 PUnit.unit,PUnit.unit⟩,List.take._f 0 PUnit.unit,PUnit.unit⟩,List.take._f 3 ⟨List.take._f 2 ⟨List.take._f 1 ⟨List.take._f 0 PUnit.unit,PUnit.unit⟩,List.take._f 0 PUnit.unit,PUnit.unit⟩,List.take._f 1 ⟨List.take._f 0 PUnit.unit,PUnit.unit⟩,List.take._f 0 PUnit.unit,PUnit.unit⟩,List.take._f 2 ⟨List.take._f 1 ⟨List.take._f 0 PUnit.unit,PUnit.unit⟩,List.take._f 0 PUnit.unit,PUnit.unit⟩,List.take._f 1 ⟨List.take._f 0 PUnit.unit,PUnit.unit⟩,List.take._f 0 PUnit.unit,PUnit.unit⟩,List.take._f 4 ⟨List.take._f 3 ⟨List.take._f 2 ⟨List.take._f 1 ⟨List.take._f 0 PUnit.unit,PUnit.unit⟩,List.take._f 0 PUnit.unit,PUnit.unit⟩,List.take._f 1 ⟨List.take._f 0 PUnit.unit,PUnit.unit⟩,List.take._f 0 PUnit.unit,PUnit.unit⟩,List.take._f 2 ⟨List.take._f 1 ⟨List.take._f 0 PUnit.unit,PUnit.unit⟩,List.take._f 0 PUnit.unit,PUnit.unit⟩,List.take._f 1 ⟨List.take._f 0 PUnit.unit,PUnit.unit⟩,List.take._f 0 PUnit.unit,PUnit.unit⟩,List.take._f 3 ⟨List.take._f 2 ⟨List.take._f 1 ⟨List.take._f 0 PUnit.unit,PUnit.unit⟩,List.take._f 0 PUnit.unit,PUnit.unit⟩,List.take._f 1 ⟨List.take._f 0 PUnit.unit,PUnit.unit⟩,List.take._f 0 PUnit.unit,PUnit.unit⟩,List.take._f 2 ⟨List.take._f 1 ⟨List.take._f 0 PUnit.unit,PUnit.unit⟩,List.take._f 0 PUnit.unit,PUnit.unit⟩,List.take._f 1 ⟨List.take._f 0 PUnit.unit,PUnit.unit⟩,List.take._f 0 PUnit.unit,PUnit.unit⟩,List.take._f 5 ⟨List.take._f 4 ⟨List.take._f 3 ⟨List.take._f 2 ⟨List.take._f 1 ⟨List.take._f 0 PUnit.unit,PUnit.unit⟩,List.take._f 0 PUnit.unit,PUnit.unit⟩,List.take._f 1 ⟨List.take._f 0 PUnit.unit,PUnit.unit⟩,List.take._f 0 PUnit.unit,PUnit.unit⟩,List.take._f 2 ⟨List.take._f 1 ⟨List.take._f 0 PUnit.unit,PUnit.unit⟩,List.take._f 0 PUnit.unit,PUnit.unit⟩,List.take._f 1 ⟨List.take._f 0 PUnit.unit,PUnit.unit⟩,List.take._f 0 PUnit.unit,PUnit.unit⟩,List.take._f 3 ⟨List.take._f 2 ⟨List.take._f 1 ⟨List.take._f 0 PUnit.unit,PUnit.unit⟩,List.take._f 0 PUnit.unit,PUnit.unit⟩,List.take._f 1 ⟨List.take._f 0 PUnit.unit,PUnit.unit⟩,List.take._f 0 PUnit.unit,PUnit.unit⟩,List.take._f 2 ⟨List.take._f 1 ⟨List.take._f 0 PUnit.unit,PUnit.unit⟩,List.take._f 0 PUnit.unit,PUnit.unit⟩,List.take._f 1 ⟨List.take._f 0 PUnit.unit,PUnit.unit⟩,List.take._f 0 PUnit.unit,PUnit.unit⟩,List.take._f 4 ⟨List.take._f 3 ⟨List.take._f 2 ⟨List.take._f 1 ⟨List.take._f 0 PUnit.unit,PUnit.unit⟩,List.take._f 0 PUnit.unit,PUnit.unit⟩,List.take._f 1 ⟨List.take._f 0 PUnit.unit,PUnit.unit⟩,List.take._f 0 PUnit.unit,PUnit.unit⟩,List.take._f 2 ⟨List.take._f 1 ⟨List.take._f 0 PUnit.unit,PUnit.unit⟩,List.take._f 0 PUnit.unit,PUnit.unit⟩,List.take._f 1 ⟨List.take._f 0 PUnit.unit,PUnit.unit⟩,List.take._f 0 PUnit.unit,PUnit.unit⟩,List.take._f 3 ⟨List.take._f 2 ⟨List.take._f 1 ⟨List.take._f 0 PUnit.unit,PUnit.unit⟩,List.take._f 0 PUnit.unit,PUnit.unit⟩,List.take._f 1 ⟨List.take._f 0 PUnit.unit,PUnit.unit⟩,List.take._f 0 PUnit.unit,PUnit.unit⟩,List.take._f 2 ⟨List.take._f 1 ⟨List.take._f 0 PUnit.unit,PUnit.unit⟩,List.take._f 0 PUnit.unit,PUnit.unit⟩,List.take._f 1 ⟨List.take._f 0 PUnit.unit,PUnit.unit⟩,List.take._f 0 PUnit.unit,PUnit.unit⟩,List.take._f 6 ⟨List.take._f 5 ⟨List.take._f 4 ⟨List.take._f 3 ⟨List.take._f 2 ⟨List.take._f 1 ⟨List.take._f 0 PUnit.unit,PUnit.unit⟩,List.take._f 0 PUnit.unit,PUnit.unit⟩,List.take._f 1 ⟨List.take._f 0 PUnit.unit,PUnit.unit⟩,List.take._f 0 PUnit.unit,PUnit.unit⟩,List.take._f 2 ⟨List.take._f 1 ⟨List.take._f 0 PUnit.unit,PUnit.unit⟩,List.take._f 0 PUnit.unit,PUnit.unit⟩,List.take._f 1 ⟨List.take._f 0 PUnit.unit,PUnit.unit⟩,List.take._f 0 PUnit.unit,PUnit.unit⟩,List.take._f 3 ⟨List.take._f 2 ⟨List.take._f 1 ⟨List.take._f 0 PUnit.unit,PUnit.unit⟩,List.take._f 0 PUnit.unit,PUnit.unit⟩,List.take._f 1 ⟨List.take._f 0 PUnit.unit,PUnit.unit⟩,List.take._f 0 PUnit.unit,PUnit.unit⟩,List.take._f 2 ⟨List.take._f 1 ⟨List.take._f 0 PUnit.unit,PUnit.unit⟩,List.take._f 0 PUnit.unit,PUnit.unit⟩,List.take._f 1 ⟨List.take._f 0 PUnit.unit,PUnit.unit⟩,List.take._f 0 PUnit.unit,PUnit.unit⟩,List.take._f 4 ⟨List.take._f 3 ⟨List.take._f 2 ⟨List.take._f 1 ⟨List.take._f 0 PUnit.unit,PUnit.unit⟩,List.take._f 0 PUnit.unit,PUnit.unit⟩,List.take._f 1 ⟨List.take._f 0 PUnit.unit,PUnit.unit⟩,List.take._f 0 PUnit.unit,PUnit.unit⟩,List.take._f 2 ⟨List.take._f 1 ⟨List.take._f 0 PUnit.unit,PUnit.unit⟩,List.take._f 0 PUnit.unit,PUnit.unit⟩,List.take._f 1 ⟨List.take._f 0 PUnit.unit,PUnit.unit⟩,List.take._f 0 PUnit.unit,PUnit.unit⟩,List.take._f 3 ⟨List.take._f 2 ⟨List.take._f 1 ⟨List.take._f 0 PUnit.unit,PUnit.unit⟩,List.take._f 0 PUnit.unit,PUnit.unit⟩,List.take._f 1 ⟨List.take._f 0 PUnit.unit,PUnit.unit⟩,List.take._f 0 PUnit.unit,PUnit.unit⟩,List.take._f 2 ⟨List.take._f 1 ⟨List.take._f 0 PUnit.unit,PUnit.unit⟩,List.take._f 0 PUnit.unit,PUnit.unit⟩,List.take._f 1 ⟨List.take._f 0 PUnit.unit,PUnit.unit⟩,List.take._f 0 PUnit.unit,PUnit.unit⟩,List.take._f 5 ⟨List.take._f 4 ⟨List.take._f 3 ⟨List.take._f 2 ⟨List.take._f 1 ⟨List.take._f 0 PUnit.unit,PUnit.unit⟩,List.take._f 0 PUnit.unit,PUnit.unit⟩,List.take._f 1 ⟨List.take._f 0 PUnit.unit,PUnit.unit⟩,List.take._f 0 PUnit.unit,PUnit.unit⟩,List.take._f 2 ⟨List.take._f 1 ⟨List.take._f 0 PUnit.unit,PUnit.unit⟩,List.take._f 0 PUnit.unit,PUnit.unit⟩,List.take._f 1 ⟨List.take._f 0 PUnit.unit,PUnit.unit⟩,List.take._f 0 PUnit.unit,PUnit.unit⟩,List.take._f 3 ⟨List.take._f 2 ⟨List.take._f 1 ⟨List.take._f 0 PUnit.unit,PUnit.unit⟩,List.take._f 0 PUnit.unit,PUnit.unit⟩,List.take._f 1 ⟨List.take._f 0 PUnit.unit,PUnit.unit⟩,List.take._f 0 PUnit.unit,PUnit.unit⟩,List.take._f 2 ⟨List.take._f 1 ⟨List.take._f 0 PUnit.unit,PUnit.unit⟩,List.take._f 0 PUnit.unit,PUnit.unit⟩,List.take._f 1 ⟨List.take._f 0 PUnit.unit,PUnit.unit⟩,List.take._f 0 PUnit.unit,PUnit.unit⟩,List.take._f 4 ⟨List.take._f 3 ⟨List.take._f 2 ⟨List.take._f 1 ⟨List.take._f 0 PUnit.unit,PUnit.unit⟩,List.take._f 0 PUnit.unit,PUnit.unit⟩,List.take._f 1 ⟨List.take._f 0 PUnit.unit,PUnit.unit⟩,List.take._f 0 PUnit.unit,PUnit.unit⟩,List.take._f 2 ⟨List.take._f 1 ⟨List.take._f 0 PUnit.unit,PUnit.unit⟩,List.take._f 0 PUnit.unit,PUnit.unit⟩,List.take._f 1 ⟨List.take._f 0 PUnit.unit,PUnit.unit⟩,List.take._f 0 PUnit.unit,PUnit.unit⟩,List.take._f 3 ⟨List.take._f 2 ⟨List.take._f 1 ⟨List.take._f 0 PUnit.unit,PUnit.unit⟩,List.take._f 0 PUnit.unit,PUnit.unit⟩,List.take._f 1 ⟨List.take._f 0 PUnit.unit,PUnit.unit⟩,List.take._f 0 PUnit.unit,PUnit.unit⟩,List.take._f 2 ⟨List.take._f 1 ⟨List.take._f 0 PUnit.unit,PUnit.unit⟩,List.take._f 0 PUnit.unit,PUnit.unit⟩,List.take._f 1 ⟨List.take._f 0 PUnit.unit,PUnit.unit⟩,List.take._f 0 PUnit.unit,PUnit.unit⟩ [vI x.O,vI x.Lo,vI x.C,vI x.G,vI x.Co,vI x.E,AV.vec 4 x.Fs.length (rFn x.Fs),AV.int .i64 x.main,vI X,vB H,vB R]=LN.rest x_1∧MOK L_1 x_1.M∧Good L_1)∧(∃ (L_1:List LT),∃ (x_1:LN),∃ (X_1:List Int),∃ (H_1:List Bool),∃ (R_1:List Bool),TyO_runRight5_k0 L x X H R i L_1 x_1 X_1 H_1 R_1)∧(((True∧True∧True∧True∧True∧True∧True)∧True)∧((True∧True∧True∧True∧True∧True∧True)∧True)∧((True∧True∧True∧True∧AV.int .i64 (List.getD (LT.kids (List.getD L (Int.toNat (↑i:Int)) LT.none)) 1 (0:Int))=AV.int .i64 (List.getD (LT.kids (List.getD L (Int.toNat (↑i:Int)) LT.none)) 1 (0:Int))∧AV.vec 1 (List.length (LT.kids (List.getD L (Int.toNat (↑i:Int)) LT.none))) (rI (LT.kids (List.getD L (Int.toNat (↑i:Int)) LT.none)))=AV.vec 1 (List.length (LT.kids (List.getD L (Int.toNat (↑i:Int)) LT.none))) (rI (LT.kids (List.getD L (Int.toNat (↑i:Int)) LT.none)))∧True)∧True)∧True)∧bar (fitsH (cX (pvR L x X H R)) (cH (pvR L x X H R)) (Int.toNat (List.getD (LT.kids (List.getD L (Int.toNat (↑i:Int)) LT.none)) 1 (0:Int))) (barr (ofT (rowTs L.length (rowT L)) (rowMs x.M.length (rM x.M)) (List.getD (LT.kids (List.getD L (Int.toNat (↑i:Int)) LT.none)) 0 (0:Int)))))=bar (right5 L x.M x.C X H i)))) (brP (ieq (LT.kind (List.getD L (Int.toNat (↑i:Int)) LT.none)) (14:Int)) (sdA (inB (0:Int) (List.length (LT.kids (List.getD L (Int.toNat (↑i:Int)) LT.none)))) ((∃ (L_1:List LT),∃ (x_1:LN),∃ (X_1:List Int),∃ (H_1:List Bool),∃ (R_1:List Bool),pvR L x X H R=pvR L_1 x_1 X_1 H_1 R_1∧R5OK L_1 x_1 X_1 H_1 R_1∧Int.NonNeg (List.getD (LT.kids (List.getD L (Int.toNat (↑i:Int)) LT.none)) 0 (0:Int) - 0)∧Int.NonNeg ((↑L_1.length:Int) - (List.getD (LT.kids (List.getD L (Int.toNat (↑i:Int)) LT.none)) 0 (0:Int) + 1)))∧brP (bar (freeM (cM (pvR L x X H R)) (Int.toNat (List.getD (LT.kids (List.getD L (Int.toNat (↑i:Int)) LT.none)) 0 (0:Int))))) (sdA (inB (List.getD (LT.kids (List.getD L (Int.toNat (↑i:Int)) LT.none)) 0 (0:Int)) H.length) (brP (!List.getD H (Int.toNat (List.getD (LT.kids (List.getD L (Int.toNat (↑i:Int)) LT.none)) 0 (0:Int))) false) ((((True∧True∧True)∧True)∧((True∧True∧True)∧True)∧True)∧true=bar (right5 L x.M x.C X H i)) (sdA (inB (1:Int) (List.length (LT.kids (List.getD L (Int.toNat (↑i:Int)) LT.none)))) (sdA (inB (List.getD (LT.kids (List.getD L (Int.toNat (↑i:Int)) LT.none)) 0 (0:Int)) X.length) ((∃ (L_1:List LT),∃ (x_1:LN),∃ (X_1:List Int),∃ (H_1:List Bool),∃ (R_1:List Bool),TyO_runRight5_k0 L x X H R i L_1 x_1 X_1 H_1 R_1)∧(((True∧True∧True∧True∧True∧True∧True)∧True)∧((True∧True∧True∧True∧True∧True∧True)∧True)∧((True∧True∧True∧True∧True∧True∧True)∧True)∧True)∧bar (fitsH (cX (pvR L x X H R)) (cH (pvR L x X H R)) (Int.toNat (List.getD (LT.kids (List.getD L (Int.toNat (↑i:Int)) LT.none)) 1 (0:Int))) (List.getD X (Int.toNat (List.getD (LT.kids (List.getD L (Int.toNat (↑i:Int)) LT.none)) 0 (0:Int))) (0:Int)))=bar (right5 L x.M x.C X H i)))))) (((True∧True)∧(True∧True)∧True)∧false=bar (right5 L x.M x.C X H i)))) (brP (ieq (LT.kind (List.getD L (Int.toNat (↑i:Int)) LT.none)) (15:Int)) (sdA (inB (0:Int) (List.length (LT.kids (List.getD L (Int.toNat (↑i:Int)) LT.none)))) (sdA (inB (List.getD (LT.kids (List.getD L (Int.toNat (↑i:Int)) LT.none)) 0 (0:Int)) H.length) (brP (!List.getD H (Int.toNat (List.getD (LT.kids (List.getD L (Int.toNat (↑i:Int)) LT.none)) 0 (0:Int))) false) (true=bar (right5 L x.M x.C X H i)) (sdA (inB (List.getD (LT.kids (List.getD L (Int.toNat (↑i:Int)) LT.none)) 0 (0:Int)) X.length) (ieq (List.getD X (Int.toNat (List.getD (LT.kids (List.getD L (Int.toNat (↑i:Int)) LT.none)) 0 (0:Int))) (0:Int)) (2:Int)=bar (right5 L x.M x.C X H i)))))) (brP (ieq (LT.kind (List.getD L (Int.toNat (↑i:Int)) LT.none)) (19:Int)) (sdA (inB (0:Int) (List.length (LT.kids (List.getD L (Int.toNat (↑i:Int)) LT.none)))) (sdA (inB (List.getD (LT.kids (List.getD L (Int.toNat (↑i:Int)) LT.none)) 0 (0:Int)) H.length) (brP (!List.getD H (Int.toNat (List.getD (LT.kids (List.getD L (Int.toNat (↑i:Int)) LT.none)) 0 (0:Int))) false) (brP (ieq (Int.ofNat (List.length (LT.kids (List.getD L (Int.toNat (↑i:Int)) LT.none)))) (1:Int)) (true=bar (right5 L x.M x.C X H i)) (sdA (inB (1:Int) (List.length (LT.kids (List.getD L (Int.toNat (↑i:Int)) LT.none)))) (TyO_runRight5_k1 L x X H R i))) (sdA (inB (List.getD (LT.kids (List.getD L (Int.toNat (↑i:Int)) LT.none)) 0 (0:Int)) X.length) (brP (ieq (List.getD X (Int.toNat (List.getD (LT.kids (List.getD L (Int.toNat (↑i:Int)) LT.none)) 0 (0:Int))) (0:Int)) (2:Int)) (brP (ieq (Int.ofNat (List.length (LT.kids (List.getD L (Int.toNat (↑i:Int)) LT.none)))) (1:Int)) (true=bar (right5 L x.M x.C X H i)) (sdA (inB (1:Int) (List.length (LT.kids (List.getD L (Int.toNat (↑i:Int)) LT.none)))) (TyO_runRight5_k1 L x X H R i))) (false=bar (right5 L x.M x.C X H i))))))) (brP (ieq (LT.kind (List.getD L (Int.toNat (↑i:Int)) LT.none)) (20:Int)) (sdA (inB (0:Int) (List.length (LT.kids (List.getD L (Int.toNat (↑i:Int)) LT.none)))) (sdA (inB (List.getD (LT.kids (List.getD L (Int.toNat (↑i:Int)) LT.none)) 0 (0:Int)) H.length) (brP (!List.getD H (Int.toNat (List.getD (LT.kids (List.getD L (Int.toNat (↑i:Int)) LT.none)) 0 (0:Int))) false) (brP (ieq (Int.ofNat (List.length (LT.kids (List.getD L (Int.toNat (↑i:Int)) LT.none)))) (1:Int)) (true=bar (right5 L x.M x.C X H i)) (sdA (inB (1:Int) (List.length (LT.kids (List.getD L (Int.toNat (↑i:Int)) LT.none)))) (TyO_runRight5_k2 L x X H R i))) (sdA (inB (List.getD (LT.kids (List.getD L (Int.toNat (↑i:Int)) LT.none)) 0 (0:Int)) X.length) (brP (ieq (List.getD X (Int.toNat (List.getD (LT.kids (List.getD L (Int.toNat (↑i:Int)) LT.none)) 0 (0:Int))) (0:Int)) (2:Int)) (brP (ieq (Int.ofNat (List.length (LT.kids (List.getD L (Int.toNat (↑i:Int)) LT.none)))) (1:Int)) (true=bar (right5 L x.M x.C X H i)) (sdA (inB (1:Int) (List.length (LT.kids (List.getD L (Int.toNat (↑i:Int)) LT.none)))) (TyO_runRight5_k2 L x X H R i))) (false=bar (right5 L x.M x.C X H i))))))) (brP (ieq (LT.kind (List.getD L (Int.toNat (↑i:Int)) LT.none)) (16:Int)) (sdA (inB (0:Int) (List.length (LT.kids (List.getD L (Int.toNat (↑i:Int)) LT.none)))) (sdA (inB (List.getD (LT.kids (List.getD L (Int.toNat (↑i:Int)) LT.none)) 0 (0:Int)) H.length) (brP (!List.getD H (Int.toNat (List.getD (LT.kids (List.getD L (Int.toNat (↑i:Int)) LT.none)) 0 (0:Int))) false) (true=bar (right5 L x.M x.C X H i)) (sdA (inB (List.getD (LT.kids (List.getD L (Int.toNat (↑i:Int)) LT.none)) 0 (0:Int)) X.length) (ieq (List.getD X (Int.toNat (List.getD (LT.kids (List.getD L (Int.toNat (↑i:Int)) LT.none)) 0 (0:Int))) (0:Int)) (3:Int)=bar (right5 L x.M x.C X H i)))))) (brP (ieq (LT.kind (List.getD L (Int.toNat (↑i:Int)) LT.none)) (17:Int)) (sdA (inB (0:Int) (List.length (LT.kids (List.getD L (Int.toNat (↑i:Int)) LT.none)))) (sdA (inB (List.getD (LT.kids (List.getD L (Int.toNat (↑i:Int)) LT.none)) 0 (0:Int)) H.length) (brP (!List.getD H (Int.toNat (List.getD (LT.kids (List.getD L (Int.toNat (↑i:Int)) LT.none)) 0 (0:Int))) false) (true=bar (right5 L x.M x.C X H i)) (sdA (inB (List.getD (LT.kids (List.getD L (Int.toNat (↑i:Int)) LT.none)) 0 (0:Int)) X.length) (ieq (List.getD X (Int.toNat (List.getD (LT.kids (List.getD L (Int.toNat (↑i:Int)) LT.none)) 0 (0:Int))) (0:Int)) (4:Int)=bar (right5 L x.M x.C X H i)))))) (brP (ieq (LT.kind (List.getD L (Int.toNat (↑i:Int)) LT.none)) (18:Int)) (sdA (inB (0:Int) (List.length (LT.kids (List.getD L (Int.toNat (↑i:Int)) LT.none)))) (sdA (inB (List.getD (LT.kids (List.getD L (Int.toNat (↑i:Int)) LT.none)) 0 (0:Int)) H.length) (brP (!List.getD H (Int.toNat (List.getD (LT.kids (List.getD L (Int.toNat (↑i:Int)) LT.none)) 0 (0:Int))) false) (true=bar (right5 L x.M x.C X H i)) (sdA (inB (List.getD (LT.kids (List.getD L (Int.toNat (↑i:Int)) LT.none)) 0 (0:Int)) X.length) (ieq (List.getD X (Int.toNat (List.getD (LT.kids (List.getD L (Int.toNat (↑i:Int)) LT.none)) 0 (0:Int))) (0:Int)) (1:Int)=bar (right5 L x.M x.C X H i)))))) (brP (ieq (LT.kind (List.getD L (Int.toNat (↑i:Int)) LT.none)) (23:Int)) (sdA (inB (0:Int) (List.length (LT.kids (List.getD L (Int.toNat (↑i:Int)) LT.none)))) (sdA (inB (List.getD (LT.kids (List.getD L (Int.toNat (↑i:Int)) LT.none)) 0 (0:Int)) H.length) (brP (!List.getD H (Int.toNat (List.getD (LT.kids (List.getD L (Int.toNat (↑i:Int)) LT.none)) 0 (0:Int))) false) (true=bar (right5 L x.M x.C X H i)) (sdA (inB (List.getD (LT.kids (List.getD L (Int.toNat (↑i:Int)) LT.none)) 0 (0:Int)) X.length) (ieq (List.getD X (Int.toNat (List.getD (LT.kids (List.getD L (Int.toNat (↑i:Int)) LT.none)) 0 (0:Int))) (0:Int)) (1:Int)=bar (right5 L x.M x.C X H i)))))) (brP (ieq (LT.kind (List.getD L (Int.toNat (↑i:Int)) LT.none)) (24:Int)) (sdA (inB (0:Int) (List.length (LT.kids (List.getD L (Int.toNat (↑i:Int)) LT.none)))) (sdA (inB (List.getD (LT.kids (List.getD L (Int.toNat (↑i:Int)) LT.none)) 0 (0:Int)) H.length) (brP (!List.getD H (Int.toNat (List.getD (LT.kids (List.getD L (Int.toNat (↑i:Int)) LT.none)) 0 (0:Int))) false) (true=bar (right5 L x.M x.C X H i)) (sdA (inB (List.getD (LT.kids (List.getD L (Int.toNat (↑i:Int)) LT.none)) 0 (0:Int)) X.length) (ieq (List.getD X (Int.toNat (List.getD (LT.kids (List.getD L (Int.toNat (↑i:Int)) LT.none)) 0 (0:Int))) (0:Int)) (1:Int)=bar (right5 L x.M x.C X H i)))))) (brP (ieq (LT.kind (List.getD L (Int.toNat (↑i:Int)) LT.none)) (34:Int)) (sdA (inB (0:Int) (List.length (LT.kids (List.getD L (Int.toNat (↑i:Int)) LT.none)))) (sdA (inB (List.getD (LT.kids (List.getD L (Int.toNat (↑i:Int)) LT.none)) 0 (0:Int)) H.length) (brP (!List.getD H (Int.toNat (List.getD (LT.kids (List.getD L (Int.toNat (↑i:Int)) LT.none)) 0 (0:Int))) false) (true=bar (right5 L x.M x.C X H i)) (sdA (inB (List.getD (LT.kids (List.getD L (Int.toNat (↑i:Int)) LT.none)) 0 (0:Int)) X.length) (ieq (List.getD X (Int.toNat (List.getD (LT.kids (List.getD L (Int.toNat (↑i:Int)) LT.none)) 0 (0:Int))) (0:Int)) (1:Int)=bar (right5 L x.M x.C X H i)))))) (brP (ieq (LT.kind (List.getD L (Int.toNat (↑i:Int)) LT.none)) (35:Int)) (sdA (inB (0:Int) (List.length (LT.kids (List.getD L (Int.toNat (↑i:Int)) LT.none)))) (sdA (inB (List.getD (LT.kids (List.getD L (Int.toNat (↑i:Int)) LT.none)) 0 (0:Int)) H.length) (brP (!List.getD H (Int.toNat (List.getD (LT.kids (List.getD L (Int.toNat (↑i:Int)) LT.none)) 0 (0:Int))) false) (true=bar (right5 L x.M x.C X H i)) (sdA (inB (List.getD (LT.kids (List.getD L (Int.toNat (↑i:Int)) LT.none)) 0 (0:Int)) X.length) (ieq (List.getD X (Int.toNat (List.getD (LT.kids (List.getD L (Int.toNat (↑i:Int)) LT.none)) 0 (0:Int))) (0:Int)) (5:Int)=bar (right5 L x.M x.C X H i)))))) (brP (ieq (LT.kind (List.getD L (Int.toNat (↑i:Int)) LT.none)) (31:Int)) (sdA (inB (0:Int) (List.length (LT.kids (List.getD L (Int.toNat (↑i:Int)) LT.none)))) (sdA (inB (List.getD (LT.kids (List.getD L (Int.toNat (↑i:Int)) LT.none)) 0 (0:Int)) H.length) (brP (!List.getD H (Int.toNat (List.getD (LT.kids (List.getD L (Int.toNat (↑i:Int)) LT.none)) 0 (0:Int))) false) (sdA (inB (1:Int) (List.length (LT.kids (List.getD L (Int.toNat (↑i:Int)) LT.none)))) (sdA (inB (List.getD (LT.kids (List.getD L (Int.toNat (↑i:Int)) LT.none)) 1 (0:Int)) H.length) (brP (!List.getD H (Int.toNat (List.getD (LT.kids (List.getD L (Int.toNat (↑i:Int)) LT.none)) 1 (0:Int))) false) (true=bar (right5 L x.M x.C X H i)) (sdA (inB (List.getD (LT.kids (List.getD L (Int.toNat (↑i:Int)) LT.none)) 1 (0:Int)) X.length) (ieq (List.getD X (Int.toNat (List.getD (LT.kids (List.getD L (Int.toNat (↑i:Int)) LT.none)) 1 (0:Int))) (0:Int)) (1:Int)=bar (right5 L x.M x.C X H i)))))) (sdA (inB (List.getD (LT.kids (List.getD L (Int.toNat (↑i:Int)) LT.none)) 0 (0:Int)) X.length) (brP (ieq (List.getD X (Int.toNat (List.getD (LT.kids (List.getD L (Int.toNat (↑i:Int)) LT.none)) 0 (0:Int))) (0:Int)) (5:Int)) (sdA (inB (1:Int) (List.length (LT.kids (List.getD L (Int.toNat (↑i:Int)) LT.none)))) (sdA (inB (List.getD (LT.kids (List.getD L (Int.toNat (↑i:Int)) LT.none)) 1 (0:Int)) H.length) (brP (!List.getD H (Int.toNat (List.getD (LT.kids (List.getD L (Int.toNat (↑i:Int)) LT.none)) 1 (0:Int))) false) (true=bar (right5 L x.M x.C X H i)) (sdA (inB (List.getD (LT.kids (List.getD L (Int.toNat (↑i:Int)) LT.none)) 1 (0:Int)) X.length) (ieq (List.getD X (Int.toNat (List.getD (LT.kids (List.getD L (Int.toNat (↑i:Int)) LT.none)) 1 (0:Int))) (0:Int)) (1:Int)=bar (right5 L x.M x.C X H i)))))) (false=bar (right5 L x.M x.C X H i))))))) (brP (ieq (LT.kind (List.getD L (Int.toNat (↑i:Int)) LT.none)) (30:Int)) (sdA (inB (0:Int) (List.length (LT.kids (List.getD L (Int.toNat (↑i:Int)) LT.none)))) (sdA (inB (List.getD (LT.kids (List.getD L (Int.toNat (↑i:Int)) LT.none)) 0 (0:Int)) X.length) ((∃ (L_1:List LT),∃ (x_1:LN),L.length=L_1.length∧rowT L=rowT L_1∧x.M.length=x_1.M.length∧rM x.M=rM x_1.M∧vI x.O=vI x_1.O∧vI x.Lo=vI x_1.Lo∧x.C.length=x_1.C.length∧rI x.C=rI x_1.C∧List.take._f 5 ⟨List.take._f 4 ⟨List.take._f 3 ⟨List.take._f 2 ⟨List.take._f 1 ⟨List.take._f 0 PUnit.unit,PUnit.unit⟩,List.take._f 0 PUnit.unit,PUnit.unit⟩,List.take._f 1 ⟨List.take._f 0 PUnit.unit,PUnit.unit⟩,List.take._f 0 PUnit.unit,PUnit.unit⟩,List.take._f 2 ⟨List.take._f 1 ⟨List.take._f 0 PUnit.unit,PUnit.unit⟩,List.take._f 0 PUnit.unit,PUnit.unit⟩,List.take._f 1 ⟨List.take._f 0 PUnit.unit,PUnit.unit⟩,List.take._f 0 PUnit.unit,PUnit.unit⟩,List.take._f 3 ⟨List.take._f 2 ⟨List.take._f 1 ⟨List.take._f 0 PUnit.unit,PUnit.unit⟩,List.take._f 0 PUnit.unit,PUnit.unit⟩,List.take._f 1 ⟨List.take._f 0 PUnit.unit,PUnit.unit⟩,List.take._f 0 PUnit.unit,PUnit.unit⟩,List.take._f 2 ⟨List.take._f 1 ⟨List.take._f 0 PUnit.unit,PUnit.unit⟩,List.take._f 0 PUnit.unit,PUnit.unit⟩,List.take._f 1 ⟨List.take._f 0 PUnit.unit,PUnit.unit⟩,List.take._f 0 PUnit.unit,PUnit.unit⟩ [vI x.G,vI x.Co,vI x.E,AV.vec 4 x.Fs.length (rFn x.Fs),AV.int .i64 x.main,vI X,vB H,vB R]=LN.rest2 x_1∧MOK L_1 x_1.M∧Good L_1∧(∀ (c:Int),List.Mem c x_1.C→Int.NonNeg (c - 0)∧Int.NonNeg ((↑L_1.length:Int) - (c + 1)))∧Int.NonNeg (List.getD X (Int.toNat (List.getD (LT.kids (List.getD L (Int.toNat (↑i:Int)) LT.none)) 0 (0:Int))) (0:Int) - Int.negSucc 999999999)∧Int.NonNeg ((9223372036854775807:Int) - List.getD X (Int.toNat (List.getD (LT.kids (List.getD L (Int.toNat (↑i:Int)) LT.none)) 0 (0:Int))) (0:Int)))∧(((True∧True∧True∧True∧True∧True∧True∧True)∧True)∧((True∧True∧True∧True∧True∧True∧True∧True)∧True)∧True)∧sdA (inB (0:Int) (List.length (LT.kids (List.getD L (Int.toNat (↑i:Int)) LT.none)))) (sdA (inB (List.getD (LT.kids (List.getD L (Int.toNat (↑i:Int)) LT.none)) 0 (0:Int)) H.length) (brP (!List.getD H (Int.toNat (List.getD (LT.kids (List.getD L (Int.toNat (↑i:Int)) LT.none)) 0 (0:Int))) false) ((((True∧True∧True∧True∧True)∧True)∧True)∧true=bar (right5 L x.M x.C X H i)) ((((True∧True∧True∧True∧True)∧True)∧True)∧(!ilt (barr (Prod.fst (memT (rowTs L.length (rowT L)) (rowMs x.M.length (rM x.M)) (rowL x.C.length (rI x.C)) (List.getD X (Int.toNat (List.getD (LT.kids (List.getD L (Int.toNat (↑i:Int)) LT.none)) 0 (0:Int))) (0:Int)) (LT.text (List.getD L (Int.toNat (↑i:Int)) LT.none))))) (0:Int))=bar (right5 L x.M x.C X H i))))))) (brP (ieq (LT.kind (List.getD L (Int.toNat (↑i:Int)) LT.none)) (32:Int)) (sdA (inB (0:Int) (List.length (LT.kids (List.getD L (Int.toNat (↑i:Int)) LT.none)))) (sdA (inB (1:Int) (List.length (LT.kids (List.getD L (Int.toNat (↑i:Int)) LT.none)))) ((((True∧True∧True∧True∧True)∧True)∧True)∧brP (!decide (LT.text (List.getD L (Int.toNat (↑i:Int)) LT.none)=[(61:UInt8),(61:UInt8)])) (sdA (inB (List.getD (LT.kids (List.getD L (Int.toNat (↑i:Int)) LT.none)) 0 (0:Int)) H.length) (brP (!List.getD H (Int.toNat (List.getD (LT.kids (List.getD L (Int.toNat (↑i:Int)) LT.none)) 0 (0:Int))) false) (sdA (inB (List.getD (LT.kids (List.getD L (Int.toNat (↑i:Int)) LT.none)) 1 (0:Int)) H.length) (brP (!List.getD H (Int.toNat (List.getD (LT.kids (List.getD L (Int.toNat (↑i:Int)) LT.none)) 1 (0:Int))) false) (true=bar (right5 L x.M x.C X H i)) (sdA (inB (List.getD (LT.kids (List.getD L (Int.toNat (↑i:Int)) LT.none)) 1 (0:Int)) X.length) (ieq (List.getD X (Int.toNat (List.getD (LT.kids (List.getD L (Int.toNat (↑i:Int)) LT.none)) 1 (0:Int))) (0:Int)) (1:Int)=bar (right5 L x.M x.C X H i))))) (sdA (inB (List.getD (LT.kids (List.getD L (Int.toNat (↑i:Int)) LT.none)) 0 (0:Int)) X.length) (brP (ieq (List.getD X (Int.toNat (List.getD (LT.kids (List.getD L (Int.toNat (↑i:Int)) LT.none)) 0 (0:Int))) (0:Int)) (1:Int)) (sdA (inB (List.getD (LT.kids (List.getD L (Int.toNat (↑i:Int)) LT.none)) 1 (0:Int)) H.length) (brP (!List.getD H (Int.toNat (List.getD (LT.kids (List.getD L (Int.toNat (↑i:Int)) LT.none)) 1 (0:Int))) false) (true=bar (right5 L x.M x.C X H i)) (sdA (inB (List.getD (LT.kids (List.getD L (Int.toNat (↑i:Int)) LT.none)) 1 (0:Int)) X.length) (ieq (List.getD X (Int.toNat (List.getD (LT.kids (List.getD L (Int.toNat (↑i:Int)) LT.none)) 1 (0:Int))) (0:Int)) (1:Int)=bar (right5 L x.M x.C X H i))))) (false=bar (right5 L x.M x.C X H i)))))) (sdA (inB (List.getD (LT.kids (List.getD L (Int.toNat (↑i:Int)) LT.none)) 0 (0:Int)) H.length) (brP (!List.getD H (Int.toNat (List.getD (LT.kids (List.getD L (Int.toNat (↑i:Int)) LT.none)) 0 (0:Int))) false) ((((True∧True∧True)∧True)∧True)∧true=bar (right5 L x.M x.C X H i)) (sdA (inB (List.getD (LT.kids (List.getD L (Int.toNat (↑i:Int)) LT.none)) 1 (0:Int)) H.length) (brP (!List.getD H (Int.toNat (List.getD (LT.kids (List.getD L (Int.toNat (↑i:Int)) LT.none)) 1 (0:Int))) false) ((((True∧True∧True∧True∧True)∧True)∧True)∧true=bar (right5 L x.M x.C X H i)) (sdA (inB (List.getD (LT.kids (List.getD L (Int.toNat (↑i:Int)) LT.none)) 0 (0:Int)) X.length) (sdA (inB (List.getD (LT.kids (List.getD L (Int.toNat (↑i:Int)) LT.none)) 1 (0:Int)) X.length) (True∧brP (bar (fits5 (List.getD X (Int.toNat (List.getD (LT.kids (List.getD L (Int.toNat (↑i:Int)) LT.none)) 0 (0:Int))) (0:Int)) (List.getD X (Int.toNat (List.getD (LT.kids (List.getD L (Int.toNat (↑i:Int)) LT.none)) 1 (0:Int))) (0:Int)))) ((((True∧True∧True∧True∧True∧True∧True∧True∧True)∧True)∧((True∧True∧True∧True∧True∧True∧True∧True∧True)∧True)∧True)∧true=bar (right5 L x.M x.C X H i)) (sdA (inB (List.getD (LT.kids (List.getD L (Int.toNat (↑i:Int)) LT.none)) 1 (0:Int)) X.length) (sdA (inB (List.getD (LT.kids (List.getD L (Int.toNat (↑i:Int)) LT.none)) 0 (0:Int)) X.length) (True∧(((True∧True∧True∧True∧True∧True∧True∧True∧True∧True∧True∧True∧True)∧True)∧((True∧True∧True∧True∧True∧True∧True∧True∧True∧True∧True∧True∧True)∧True)∧((True∧True∧True∧True∧True∧True∧True∧True∧True∧True∧True∧True∧True)∧True)∧True)∧bar (fits5 (List.getD X (Int.toNat (List.getD (LT.kids (List.getD L (Int.toNat (↑i:Int)) LT.none)) 1 (0:Int))) (0:Int)) (List.getD X (Int.toNat (List.getD (LT.kids (List.getD L (Int.toNat (↑i:Int)) LT.none)) 0 (0:Int))) (0:Int)))=bar (right5 L x.M x.C X H i)))))))))))))) (true=bar (right5 L x.M x.C X H i)))))))))))))))))
:= by
 intro L x X H R i hR h2
 have hi:i < L.length:=h2
 have hx:=hR.xl
 have hh:=hR.hl
 have hm:=hR.m.mlen
 have hG:=hR.good
 have n1:=kids1 hG hi
 have n2:=kids2 hG hi
 have r0:=kid_in (j:=0) hG hi
 have r1:=kid_in (j:=1) hG hi
 have hb:=hR.b
 simp only [barr_eq,bar_eq,true_and,and_true,eq_self,implies_true,Nat.le_eq,cond_tf,cond_cf,nif_tf,Int.toNat_natCast,Int.ofNat_eq_natCast,Nat.ble_eq,Nat.ble_self_eq_true,Bool.true_and,Bool.and_true,Bool.and_self,Option.some.injEq,AV.int.injEq,rowB_self,allBR_self,Nat.mul_one,Nat.beq_refl,allI_true,cond_true,cond_false,ieq_self,Bool.not_true,Bool.not_false,decide_true,brP_f,brP_t,sdA_t,bytesL_packL,List.nil_append,TyO_runRight5_k0,TyO_runRight5_k1,TyO_runRight5_k2]
 simp only [cX_pv,cH_pv,cM_pv,rowTs_rowT,rowMs_rM,rowL_rI]
 refine sdA_of (inB_iff.2 (by omega)) ?_
 have pr:∀ k:Int,0≤k→k < L.length→∃ (L_1:List LT) (x_1:LN) (X_1:List Int) (H_1 R_1:List Bool),pvR L x X H R=pvR L_1 x_1 X_1 H_1 R_1∧R5OK L_1 x_1 X_1 H_1 R_1∧(k - 0).NonNeg∧((L_1.length:Int) - (k + 1)).NonNeg:=fun k k1 k2=>⟨L,x,X,H,R,rfl,hR,k1,k2⟩
 repeat' with_reducible first
  | refine brP_of (fun hk=>?_) fun hk=>?_
  | refine sdA_of ?_ ?_
  | refine And.intro ?_ ?_
 all_goals simp only [ieq_iff,ieq_iffn,inB_iff,Bool.not_eq_true',Bool.not_eq_false',decide_eq_true_eq,decide_eq_false_iff_not,ilt_iff,ilt_iffn] at *
 all_goals first
  | omega
  | exact pr _ (by omega) (by omega)
  | exact ⟨L,x,rfl,rfl,rfl,rfl,rfl,hR.m,hR.good⟩
  | exact ⟨L,x,rfl,rfl,rfl,rfl,rfl,rfl,rfl,rfl,rfl,hR.m,hR.good,hR.c,(hb _).1,Int.le_trans (hb _).2 (by decide)⟩
  | skip
 all_goals unfold right5 kidN isH fitsH
 all_goals clear n1 n2 r0 r1 hb pr hR h2 hx hh hm hG
 all_goals simp only [ieq_eq,ilt_eq,beq_dec,cast1] at *
 all_goals (try generalize (memT L x.M x.C (X.getD ((L.getD i LT.none).kids.getD 0 0).toNat 0) (L.getD i LT.none).text).1=me at *)
 all_goals (try generalize (L.getD i LT.none).text=tx at *)
 all_goals (try generalize (L.getD i LT.none).kind=k at *)
 all_goals (try generalize (L.getD i LT.none).kids.length=n at *)
 all_goals (try generalize (L.getD i LT.none).kids.getD 0 0=a at *)
 all_goals (try generalize (L.getD i LT.none).kids.getD 1 0=b at *)
 all_goals (try generalize ofT L x.M a=oa at *)
 all_goals (try generalize X.getD a.toNat 0=xa at *)
 all_goals (try generalize X.getD b.toNat 0=xb at *)
 all_goals (try generalize H.getD a.toNat false=ha at *)
 all_goals (try generalize H.getD b.toNat false=hb at *)
 all_goals (try generalize freeM x.M a.toNat=fa at *)
 all_goals (try generalize freeM x.M b.toNat=fb at *)
 all_goals first
  | (subst_vars;simp_all;done)
  | (subst_vars;simp_all;rw [← decide_not];exact decide_eq_decide.2 (by omega))
theorem runRight5:∀ (L:List LT) (x:LN) (X:List Int) (H R:List Bool) (i:Nat),R5OK L x X H R→i < L.length→(cRun cxR5 60).call 51 [.pv (pvR L x X H R),.int .i64 i] .leaf 0 (ResM Tryz.prog false (.bool (bar (right5 L x.M x.C X H i)))) :=
 Eq.mpr (by kernel_rfl) runRight5_r
end Go.Proofs.YthallodoidghoaaGreat
