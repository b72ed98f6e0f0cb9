/- Laid by program out of its parts: TyO. -/
import Derived.Test.YthallodoidghoaaTyN
set_option linter.unusedVariables false
set_option linter.unusedSimpArgs false
set_option maxRecDepth 100000
set_option maxHeartbeats 2000000
open Go Go.Ev
namespace Go.Proofs.Ythallodoidghoaa
def rB (l:List Bool):Nat→List AV:=fun i=>[.bool (l.getD i false)]
def vB (l:List Bool):AV:=.vec 1 l.length (rB l)
def oneBB (l:List AV):Bool:=match l with
 | [.bool b]=>b
 | _=>false
def rowBs (n:Nat) (f:Nat→List AV):List Bool:=(List.range n).map fun i=>oneBB (f i)
def pvR (L:List LT) (x:LN) (X:List Int) (H R:List Bool):List AV:=[.vec 6 L.length (rowT L),.vec 2 x.M.length (rM x.M),vI x.O,vI x.Lo,vI x.C,vI x.G,vI x.Co,vI x.E,.vec 4 x.Fs.length (rFn x.Fs),.int .i64 x.main,vI X,vB H,vB R]
def cL (cs:List AV):List LT:=match cs with
 | .vec 6 n f :: _=>rowTs n f
 | _=>[]
def cM (cs:List AV):List (Int×Int):=match cs with
 | _ :: .vec 2 n f :: _=>rowMs n f
 | _=>[]
def cC (cs:List AV):List Int:=match cs with
 | _ :: _ :: _ :: _ :: .vec 1 n f :: _=>rowL n f
 | _=>[]
def cG (cs:List AV):List Int:=match cs with
 | _ :: _ :: _ :: _ :: _ :: .vec 1 n f :: _=>rowL n f
 | _=>[]
def cX (cs:List AV):List Int:=match cs with
 | [_,_,_,_,_,_,_,_,_,_,.vec 1 n f,_,_]=>rowL n f
 | _=>[]
def cH (cs:List AV):List Bool:=match cs with
 | [_,_,_,_,_,_,_,_,_,_,_,.vec 1 n f,_]=>rowBs n f
 | _=>[]
def cR (cs:List AV):List Bool:=match cs with
 | [_,_,_,_,_,_,_,_,_,_,_,_,.vec 1 n f]=>rowBs n f
 | _=>[]
def fits5 (a b:Int):Bool:=if a=0 then decide (b≠1) else decide (a=b)
def fitsH (X:List Int) (H:List Bool) (i:Nat) (to:Int):Bool:=!H.getD i false || fits5 (X.getD i 0) to
def isH (X:List Int) (H:List Bool) (i:Nat) (want:Int):Bool:=!H.getD i false || decide (X.getD i 0=want)
def freeM (M:List (Int×Int)) (i:Nat):Bool:=decide ((M.getD i (0,0)).1≠3)
def kidN (L:List LT) (i j:Nat):Nat:=((L.getD i LT.none).kids.getD j 0).toNat
def right5 (L:List LT) (M:List (Int×Int)) (C:List Int) (X:List Int) (H:List Bool) (i:Nat):Bool :=
 let k:=(L.getD i LT.none).kind
 let n:=(L.getD i LT.none).kids.length
 let a:=kidN L i 0
 let b:=kidN L i 1
 if k=13 then fitsH X H b (ofT L M ((L.getD i LT.none).kids.getD 0 0))
 else if k=14 then freeM M a && (!H.getD a false || fitsH X H b (X.getD a 0))
 else if k=15 then isH X H a 2
 else if k=19 then isH X H a 2 && (decide (n=1) || freeM M b && isH X H b 3)
 else if k=20 then isH X H a 2 && (decide (n=1) || freeM M b && isH X H b 4)
 else if k=16 then isH X H a 3
 else if k=17 then isH X H a 4
 else if k=18∨k=23∨k=24∨k=34 then isH X H a 1
 else if k=35 then isH X H a 5
 else if k=31 then isH X H a 5 && isH X H b 1
 else if k=30 then !H.getD a false || decide (0≤(memT L M C (X.getD a 0) (L.getD i LT.none).text).1)
 else if k=32 then (if (L.getD i LT.none).text≠[61,61] then isH X H a 1 && isH X H b 1 else !H.getD a false || !H.getD b false || fits5 (X.getD a 0) (X.getD b 0) || fits5 (X.getD b 0) (X.getD a 0))
 else true
def right5c (cs:List AV) (i:Nat):Bool:=right5 (cL cs) (cM cs) (cC cs) (cX cs) (cH cs) i
structure R5OK (L:List LT) (x:LN) (X:List Int) (H R:List Bool):Prop where
 good:Good L
 m:MOK L x.M
 c:COK L x.C
 xl:X.length=L.length
 hl:H.length=L.length
 rl:R.length=L.length
 b:∀ j,-1000000000≤X.getD j 0∧X.getD j 0≤9000000000
noncomputable def eFits5:Tr AObj→List AV→Option Ct:=fun _ args=>match args with
 | [.int .i64 a,.int .i64 b]=>some (.need True (.ret (.bool (bar (fits5 a b)))))
 | _=>none
noncomputable def eFitsR:Tr AObj→List AV→Option Ct:=fun _ args=>match args with
 | [.pv cs,.int .i64 i,.int .i64 to]=>some (.need (∃ (L:List LT) (x:LN) (X:List Int) (H R:List Bool),cs=pvR L x X H R∧R5OK L x X H R∧0≤i∧i < L.length) (.ret (.bool (bar (fitsH (cX cs) (cH cs) i.toNat to)))))
 | _=>none
noncomputable def eFree:Tr AObj→List AV→Option Ct:=fun _ args=>match args with
 | [.pv cs,.int .i64 i]=>some (.need (∃ (L:List LT) (x:LN) (X:List Int) (H R:List Bool),cs=pvR L x X H R∧R5OK L x X H R∧0≤i∧i < L.length) (.ret (.bool (bar (freeM (cM cs) i.toNat)))))
 | _=>none
noncomputable def eRight5:Tr AObj→List AV→Option Ct:=fun _ args=>match args with
 | [.pv cs,.int .i64 i]=>some (.need (∃ (L:List LT) (x:LN) (X:List Int) (H R:List Bool),cs=pvR L x X H R∧R5OK L x X H R∧0≤i∧i < L.length) (.ret (.bool (bar (right5c cs i.toNat)))))
 | _=>none
noncomputable def cxN0:Ctx:={ P:=Try.prog,tb:=[],lp:=fun _ _=>none,cut:=fun _ _=>none }
noncomputable def cxF5:Ctx:={ P:=Try.prog,tb:=[(8,eFits5)],lp:=fun _ _=>none,cut:=fun _ _=>none }
noncomputable def cxR5:Ctx:={ P:=Try.prog,tb:=[(424242,eOf1),(8,eFits5),(424242,eFitsR),(424242,eFree),(424242,eMem)],lp:=fun _ _=>none,cut:=fun _ _=>none }
theorem rowBs_rB (l:List Bool):rowBs l.length (rB l)=l:=by
 apply List.ext_getElem
 ·simp [rowBs]
 ·intro i h1 h2
  simp [rowBs,rB,oneBB,List.getD_eq_getElem?_getD,List.getElem?_eq_getElem h2]
theorem cL_pv (L:List LT) (x:LN) (X:List Int) (H R:List Bool):cL (pvR L x X H R)=L:=rowTs_rowT L
theorem cM_pv (L:List LT) (x:LN) (X:List Int) (H R:List Bool):cM (pvR L x X H R)=x.M:=rowMs_rM x.M
theorem cC_pv (L:List LT) (x:LN) (X:List Int) (H R:List Bool):cC (pvR L x X H R)=x.C:=rowL_rI x.C
theorem cG_pv (L:List LT) (x:LN) (X:List Int) (H R:List Bool):cG (pvR L x X H R)=x.G:=rowL_rI x.G
theorem cX_pv (L:List LT) (x:LN) (X:List Int) (H R:List Bool):cX (pvR L x X H R)=X:=rowL_rI X
theorem cH_pv (L:List LT) (x:LN) (X:List Int) (H R:List Bool):cH (pvR L x X H R)=H:=rowBs_rB H
theorem cR_pv (L:List LT) (x:LN) (X:List Int) (H R:List Bool):cR (pvR L x X H R)=R:=rowBs_rB R
theorem vm_rB (l:List Bool) (i:Nat):vmL [] (rB l i) (rB l i):=⟨rfl,trivial⟩
theorem okMem:EntOK Try.prog 40 eMem:=by
 refine ent_of2 (gl:=[]) (ng:=0) gl0 fun H args ct hct=>?_
 unfold eMem at hct
 split at hct
 ·rename_i n f m g o lo nc fc q c s
  injection hct with hct;subst hct
  refine ⟨gl0,_,_,rfl,?_⟩
  rintro ⟨L,x,rfl,rfl,rfl,rfl,rfl,rfl,rfl,rfl,rfl,hM,hG,hC,h1,h2⟩
  rw [rowTs_rowT,rowMs_rM,rowL_rI]
  exact ⟨⟨vm_tree L,vm_names x,⟨rfl,rfl⟩,rfl,trivial⟩,cxMem L s (kidsC L x.C c),60,rfl,fol,tb_cons okOf1 tb_nil,runMem L x c s hM hG hC h1 h2⟩
 ·cases hct
theorem beq_dec (a b:Int):(a == b)=decide (a=b):=by by_cases h:a=b <;> simp [h]
theorem cast1 (n:Nat):((n:Int)=1)=(n=1):=propext (by omega)
theorem km_len1 {c:UInt8} {s:List UInt8} {l:List Int} (h1:c≠42) (h2:c≠63) (h:kidsM (c :: s) l=true):0 < l.length:=by
 cases l with
 | nil=>rw [km_none _ h1 h2] at h;cases h
 | cons x l=>simp
theorem km_len2 {c d:UInt8} {s:List UInt8} {l:List Int} (h1:c≠42) (h2:c≠63) (h3:d≠42) (h4:d≠63) (h:kidsM (c :: d :: s) l=true):1 < l.length:=by
 cases l with
 | nil=>rw [km_none _ h1 h2] at h;cases h
 | cons x l =>
  rw [km_one _ _ _ h1 h2,Bool.and_eq_true] at h
  have:=km_len1 h3 h4 h.2
  simp only [List.length_cons];omega
theorem kids1 {L:List LT} (hG:Good L) {i:Nat} (hi:i < L.length) (hk:(L.getD i LT.none).kind=15∨(L.getD i LT.none).kind=16∨(L.getD i LT.none).kind=17∨(L.getD i LT.none).kind=18∨(L.getD i LT.none).kind=19∨(L.getD i LT.none).kind=20∨(L.getD i LT.none).kind=23∨(L.getD i LT.none).kind=24∨(L.getD i LT.none).kind=30∨(L.getD i LT.none).kind=34∨(L.getD i LT.none).kind=35):0 < (L.getD i LT.none).kids.length:=by
 have h:=hG.kinds i hi
 have hl:∃ s,lettersL (L.getD i LT.none).kind=101 :: s:=by
  rcases hk with hk | hk | hk | hk | hk | hk | hk | hk | hk | hk | hk <;> rw [hk] <;> exact ⟨_,rfl⟩
 obtain ⟨s,hs⟩:=hl
 rw [hs] at h
 have:=km_len1 (by decide) (by decide) h
 rwa [List.length_map] at this
theorem kids2 {L:List LT} (hG:Good L) {i:Nat} (hi:i < L.length) (hk:(L.getD i LT.none).kind=13∨(L.getD i LT.none).kind=14∨(L.getD i LT.none).kind=31∨(L.getD i LT.none).kind=32):1 < (L.getD i LT.none).kids.length:=by
 have h:=hG.kinds i hi
 have hl:∃ c s,lettersL (L.getD i LT.none).kind=c :: 101 :: s∧c≠42∧c≠63:=by
  rcases hk with hk | hk | hk | hk <;> rw [hk] <;> exact ⟨_,_,rfl,by decide,by decide⟩
 obtain ⟨c,s,hs,h1,h2⟩:=hl
 rw [hs] at h
 have:=km_len2 h1 h2 (by decide) (by decide) h
 rwa [List.length_map] at this
theorem kid_in {L:List LT} (hG:Good L) {i j:Nat} (hi:i < L.length) (hj:j < (L.getD i LT.none).kids.length):0≤(L.getD i LT.none).kids.getD j 0∧(L.getD i LT.none).kids.getD j 0 < L.length:=by
 obtain ⟨h1,h2⟩:=hG.kid i hi _ (getD_memI hj)
 exact ⟨by omega,h2⟩
theorem runFits5_r:∀ (a b:Int),brP (ieq a (0:Int)) ((!ieq b (1:Int))=bar (fits5 a b)) (ieq a b=bar (fits5 a b))
:= by
 intro a b
 simp only [barr_eq,bar_eq,true_and,and_true,eq_self,implies_true,Nat.le_eq,cond_tf,cond_cf,nif_tf,Int.toNat_natCast,Int.ofNat_eq_natCast,Nat.ble_eq,Nat.ble_self_eq_true,Bool.true_and,Bool.and_true,Bool.and_self,Option.some.injEq,AV.int.injEq,rowB_self,allBR_self,Nat.mul_one,Nat.beq_refl,allI_true,cond_true,cond_false,ieq_self,Bool.not_true,Bool.not_false,decide_true,brP_f,brP_t,sdA_t,bytesL_packL,List.nil_append]
 unfold fits5
 simp only [ieq_eq]
 refine brP_of (fun h=>?_) fun h=>?_
 ·rw [if_pos (by simpa using h)]
  by_cases hb:b=1 <;> simp [hb]
 ·rw [if_neg (by simpa using h)]
  by_cases hb:a=b <;> simp [hb]
theorem runFits5:∀ (a b:Int),(cRun cxN0 60).call 8 [.int .i64 a,.int .i64 b] .leaf 0 (ResM Try.prog false (.bool (bar (fits5 a b)))) :=
 Eq.mpr (by kernel_rfl) runFits5_r
end Go.Proofs.Ythallodoidghoaa
