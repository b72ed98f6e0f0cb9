/- Laid by program out of its parts: TyY. -/
import Derived.Test.YthallodoidghoaaTyX
set_option linter.unusedVariables false
set_option linter.unusedSimpArgs false
set_option maxRecDepth 100000
set_option maxHeartbeats 2000000
open Go Go.Ev
namespace Go.Proofs.Ythallodoidghoaa
def rightT (L:List LT) (M:List (Int×Int)) (C X:List Int) (j:Nat):Bool:=rightW L M C X (L.getD j LT.none)
def typT (L:List LT) (M:List (Int×Int)) (C G X:List Int) (j:Nat):Int :=
 if termB (L.getD j LT.none).kind=false then ofT L M j
 else if rightT L M C X j=false∨((L.getD j LT.none).kind≠36∧noneK X (L.getD j LT.none).kids=true) then noT
 else termT L M C G X j
def dgT (L:List LT) (j:Nat):Int×Int×Int:=((L.getD j LT.none).line,(L.getD j LT.none).col,8)
def badT (L:List LT) (M:List (Int×Int)) (C X:List Int) (j:Nat):Option (Int×Int×Int):=if rightT L M C X j=true then none else some (dgT L j)
structure TCI (L:List LT) (x:LN) (i:Nat) (X:List Int) (W:List (Int×Int×Int)):Prop where
 le:i≤L.length
 ok:RTOK L x X
 eq:∀ j,i≤j→j < L.length→X.getD j 0=typT L x.M x.C x.G X j
 w:W=(((List.range L.length).drop i).filterMap (badT L x.M x.C X)).reverse
 wl:W.length + i≤L.length
 no:∀ j,j < i→X.getD j 0=0
theorem okRightT:EntOK Try.prog 18 eRightT:=by
 refine ent_of2 (gl:=[]) (ng:=0) gl0 fun H args ct hct=>?_
 unfold eRightT at hct
 split at hct
 ·rename_i cs w
  injection hct with hct;subst hct
  refine ⟨gl0,_,_,rfl,?_⟩
  rintro ⟨L,x,X,j,rfl,hR,hj,rfl⟩
  rw [rightC,cL_pc,cM_pc,cC_pc,cT_pc,dLT_row]
  exact ⟨⟨vm_pvC L x X,vm_LT _,trivial⟩,cxRt X (L.getD j LT.none).kids (L.getD j LT.none).kind,60,rfl,fol,tb_cons okFitsC (tb_cons okSet (tb_cons okKid (tb_cons okMem tb_nil))),runRightT L x X j hR hj⟩
 ·cases hct
theorem okTermT:EntOK Try.prog 23 eTermT:=by
 refine ent_of2 (gl:=[]) (ng:=0) gl0 fun H args ct hct=>?_
 unfold eTermT at hct
 split at hct
 ·rename_i cs i
  injection hct with hct;subst hct
  refine ⟨gl0,_,_,rfl,?_⟩
  rintro ⟨L,x,X,rfl,hR,h1,h2⟩
  obtain ⟨j,rfl⟩:∃ j:Nat,i=j:=⟨i.toNat,by omega⟩
  rw [termC,cL_pc,cM_pc,cC_pc,cG_pc,cT_pc,Int.toNat_natCast]
  exact ⟨⟨vm_pvC L x X,⟨rfl,rfl⟩,trivial⟩,cxTm,60,rfl,fol,tb_cons okKid (tb_cons okUse (tb_cons okMem tb_nil)),runTermTT L x X j hR (by omega)⟩
 ·cases hct
theorem kidX_congr {L:List LT} {X X':List Int} {i:Nat} (h:∀ q,X.getD (kidN L i q) 0=X'.getD (kidN L i q) 0) (q:Int):kidX X (L.getD i LT.none).kids q=kidX X' (L.getD i LT.none).kids q:=h q.toNat
theorem rightT_congr {L:List LT} {M:List (Int×Int)} {C X X':List Int} {i:Nat} (h:∀ q,X.getD (kidN L i q) 0=X'.getD (kidN L i q) 0):rightT L M C X i=rightT L M C X' i:=by
 unfold rightT rightW
 simp only [kidX_congr h]
theorem noneK_congr {L:List LT} {X X':List Int} {i:Nat} (h:∀ q,X.getD (kidN L i q) 0=X'.getD (kidN L i q) 0):noneK X (L.getD i LT.none).kids=noneK X' (L.getD i LT.none).kids:=by
 unfold noneK
 rw [Bool.eq_iff_iff,List.any_eq_true,List.any_eq_true]
 have key:∀ c∈(L.getD i LT.none).kids,X.getD c.toNat 0=X'.getD c.toNat 0:=fun c hc=>by
  obtain ⟨q,hq,rfl⟩:=List.getElem_of_mem hc
  have:=h q
  unfold kidN at this
  rwa [List.getD_eq_getElem?_getD (l:=(L.getD i LT.none).kids),List.getElem?_eq_getElem hq] at this
 exact ⟨fun ⟨c,h1,h2⟩=>⟨c,h1,by rw [← key c h1];exact h2⟩,fun ⟨c,h1,h2⟩=>⟨c,h1,by rw [key c h1];exact h2⟩⟩
theorem typT_congr {L:List LT} {M:List (Int×Int)} {C G X X':List Int} {i:Nat} (h:∀ q,X.getD (kidN L i q) 0=X'.getD (kidN L i q) 0):typT L M C G X i=typT L M C G X' i:=by
 unfold typT termT
 simp only [rightT_congr h,noneK_congr h,kidX_congr h]
theorem useT_in {L:List LT} {M:List (Int×Int)} (hM:MOK L M) (G:List Int) (k n:Int):inT (useT L M G k n):=by
 unfold useT
 repeat' split
 all_goals first
  | exact ofT_in hM _
  | (unfold inT;omega)
theorem termT_in {L:List LT} {M:List (Int×Int)} (hM:MOK L M) (C G X:List Int) {i:Nat} (hi:i < L.length):inT (termT L M C G X i):=by
 have hn:=hM.n i hi
 unfold termT
 repeat' split
 all_goals first
  | exact useT_in hM _ _ _
  | exact memT_in hM _ _ _
  | (unfold inT;omega)
theorem fm_congr {α β:Type} {f g:α→Option β}:∀ {l:List α},(∀ a∈l,f a=g a)→l.filterMap f=l.filterMap g
 | [],_=>rfl
 | a :: l,h=>by rw [List.filterMap_cons,List.filterMap_cons,h a (List.mem_cons_self ..),fm_congr fun b hb=>h b (List.mem_cons_of_mem _ hb)]
theorem ti_init {L:List LT} {x:LN} (hG:Good L) (hM:MOK L x.M) (hC:COK L x.C) (hT:T5OK L x):TCI L x L.length (List.replicate L.length 0) []:=by
 have e0:∀ j,(List.replicate L.length (0:Int)).getD j 0=0:=fun j=>by
  rw [List.getD_eq_getElem?_getD,List.getElem?_replicate];split <;> rfl
 exact ⟨Nat.le_refl _,⟨hG,hM,hC,hT,by simp,fun j=>by rw [e0];omega⟩,fun j h1 h2=>by omega,by rw [List.drop_eq_nil_of_le (by simp)];rfl,by simp,fun j _=>e0 j⟩
theorem ti_step {L:List LT} {x:LN} {i:Nat} {X:List Int} {W:List (Int×Int×Int)} (h:TCI L x (i + 1) X W):TCI L x i (X.set i (typT L x.M x.C x.G X i)) (if rightT L x.M x.C X i=true then W else W ++ [dgT L i]):=by
 have hi:i < L.length:=h.le
 have ok:=h.ok
 have hxl:=ok.xl
 have hroot:i=0→typT L x.M x.C x.G X i=0:=fun e=>by
  subst e
  unfold typT
  rw [ok.good.root,if_pos (by decide)]
  rw [show ((0:Nat):Int)=((0:Nat):Int) from rfl,ofT_leaf (by rw [ok.good.root];decide),ofL_no (by rw [ok.good.root];decide)]
 have hin:-1000000000≤typT L x.M x.C x.G X i∧typT L x.M x.C x.G X i≤2000000000:=by
  have h1:=ofT_in ok.m i
  have h2:=termT_in ok.m x.C x.G X hi
  unfold inT at h1 h2
  unfold typT noT
  repeat' split
  all_goals omega
 generalize hv:typT L x.M x.C x.G X i=v at *
 have same:∀ j q,i≤j→j < L.length→(X.set i v).getD (kidN L j q) 0=X.getD (kidN L j q) 0:=fun j q h1 h2=>by
  by_cases e:kidN L j q=i
  ·rcases Nat.eq_zero_or_pos i with e0 | e0
   ·rw [e,getD_set_eq (by omega),hroot e0,h.no i (by omega)]
   ·rcases Nat.eq_or_lt_of_le h1 with e1 | e1
    ·subst e1;exact absurd e (kid_ge ok.good h2 e0)
    ·exact absurd e (kid_ne ok.good h2 e1 e0)
  ·rw [getD_set_ne (Ne.symm e)]
 have hbad:∀ j,i≤j→j < L.length→badT L x.M x.C (X.set i v) j=badT L x.M x.C X j:=fun j h1 h2=>by
  unfold badT
  rw [rightT_congr fun q=>same j q h1 h2]
 refine ⟨by omega,⟨ok.good,ok.m,ok.c,ok.g,by rw [List.length_set];exact ok.xl,fun j=>?_⟩,fun j h1 h2=>?_,?_,?_,fun j hj=>?_⟩
 ·by_cases e:i=j
  ·subst e;rw [getD_set_eq (by omega)];exact hin
  ·rw [getD_set_ne e];exact ok.b j
 ·rw [typT_congr fun q=>same j q h1 h2]
  rcases Nat.eq_or_lt_of_le h1 with e | h1
  ·subst e;rw [getD_set_eq (by omega),hv]
  ·rw [getD_set_ne (by omega)];exact h.eq j h1 h2
 ·have hd:(List.range L.length).drop i=i :: (List.range L.length).drop (i + 1):=by
   rw [List.drop_eq_getElem_cons (by simpa using hi)]
   simp
  have hf:((List.range L.length).drop (i + 1)).filterMap (badT L x.M x.C (X.set i v))=((List.range L.length).drop (i + 1)).filterMap (badT L x.M x.C X):=by
   refine fm_congr fun j hj=>?_
   obtain ⟨q,hq,rfl⟩:=List.getElem_of_mem hj
   have hq':q < L.length - (i + 1):=by simpa using hq
   refine hbad _ ?_ ?_ <;> simp <;> omega
  rw [hd,List.filterMap_cons,hbad i (Nat.le_refl _) hi]
  by_cases hr:rightT L x.M x.C X i=true
  ·rw [show badT L x.M x.C X i=none from if_pos hr,if_pos hr]
   simp only
   rw [hf];exact h.w
  ·rw [show badT L x.M x.C X i=some (dgT L i) from if_neg hr,if_neg hr]
   simp only
   rw [hf,List.reverse_cons,← h.w]
 ·have:=h.wl
  split
  ·omega
  ·rw [List.length_append];simp;omega
 ·rw [getD_set_ne (by omega)];exact h.no j (by omega)
end Go.Proofs.Ythallodoidghoaa
