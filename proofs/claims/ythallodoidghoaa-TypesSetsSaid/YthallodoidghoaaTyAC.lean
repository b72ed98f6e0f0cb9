/- Laid by program out of its parts: TyAC. -/
import Derived.Test.YthallodoidghoaaTyAB
set_option linter.unusedVariables false
set_option linter.unusedSimpArgs false
set_option maxRecDepth 100000
set_option maxHeartbeats 2000000
open Go Go.Ev
namespace Go.Proofs.Ythallodoidghoaa
noncomputable def rCk:REnt:=fun _ args=>match args with
 | [.agg [.vec 6 n f],.agg q]=>some ⟨List Int×List (Int×Int×Int),(∃ (L:List LT) (x:LN),n=L.length∧f=rowT L∧q=x.row∧Good L∧MOK L x.M∧COK L x.C∧T5OK L x),fun y=>∀ (L:List LT) (x:LN),n=L.length→f=rowT L→q=x.row→QT L x y.1 y.2,fun y=>.tup [.vec 1 y.1.length (rI y.1),.vec 3 y.2.length (rD y.2)]⟩
 | _=>none
noncomputable def rC5:REnt:=fun _ args=>match args with
 | [.agg [.vec 6 n f],.agg q]=>some ⟨List Int×List (Int×Int×Int),(∃ (L:List LT) (x:LN),n=L.length∧f=rowT L∧q=x.row∧Good L∧MOK L x.M∧COK L x.C∧T5OK L x),fun y=>∀ (L:List LT) (x:LN),n=L.length→f=rowT L→q=x.row→Q5 L x y.1 y.2,fun y=>.tup [.vec 1 y.1.length (rI y.1),.vec 3 y.2.length (rD y.2)]⟩
 | _=>none
theorem okCk:REntOK Try.prog 7 rCk:=by
 refine rent_of (gl:=[]) (ng:=0) gl0 fun H args rc hrc hp=>?_
 unfold rCk at hrc
 split at hrc
 ·rename_i n f q
  injection hrc with hrc;subst hrc
  obtain ⟨L,x,rfl,rfl,rfl,hG,hM,hC,hT⟩:=hp
  refine ⟨gl0,⟨vm_tree L,vm_names x,trivial⟩,cxCk L x,60,rfl,fol,tb_cons okOf1 (tb_cons okTermTr (tb_cons okNeeds tb_nil)),?_⟩
  have:=runCk L x hG hM hC hT
  have e:(fun y:List Int×List (Int×Int×Int)=>QT L x y.1 y.2)=fun y=>∀ (L':List LT) (x':LN),L.length=L'.length→rowT L=rowT L'→x.row=x'.row→QT L' x' y.1 y.2:=by
   funext y
   exact propext ⟨fun h L' x' h1 h2 h3=>by
    have e1:=rowT_inj h1 h2
    have e2:=row_inj h3
    subst e1;subst e2
    exact h,fun h=>h L x rfl rfl rfl⟩
  rw [e] at this
  exact this
 ·cases hrc
theorem agree {L:List LT} {x:LN} {X X5:List Int} {W:List (Int×Int×Int)} {H R:List Bool} (h1:TCI L x 0 X W) (h2:A5I L x 0 X5 H R):∀ m j,j < L.length→L.length - j≤m →
  (termB (L.getD j LT.none).kind=true→RelV (X.getD j 0) (X5.getD j 0) (H.getD j false))∧(termB (L.getD j LT.none).kind=false→X.getD j 0=ofT L x.M j)∧rightT L x.M x.C X j=R.getD j false:=by
 have ok:=h1.ok
 intro m
 induction m with
 | zero=>intro j hj hm;omega
 | succ m ih =>
  intro j hj hm
  have kd:∀ q,q < (L.getD j LT.none).kids.length→j < kidN L j q∧kidN L j q < L.length:=fun q hq=>by
   obtain ⟨a,b⟩:=ok.good.kid j hj _ (getD_memI hq)
   unfold kidN;omega
  have hr:rightT L x.M x.C X j=right5 L x.M x.C X5 H j:=right_agree ok.good ok.m hj
   (fun hq ht=>(ih _ (kd 0 hq).2 (by have:=kd 0 hq;omega)).1 ht)
   (fun hq ht=>(ih _ (kd 0 hq).2 (by have:=kd 0 hq;omega)).2.1 ht)
   (fun hq ht=>(ih _ (kd 1 hq).2 (by have:=kd 1 hq;omega)).1 ht)
  have hr2:rightT L x.M x.C X j=R.getD j false:=by rw [hr,h2.right j (Nat.zero_le _) hj]
  refine ⟨fun ht=>?_,fun ht=>?_,hr2⟩
  ·have h5:=h2.term j (Nat.zero_le _) hj ht
   have:=term_agree (G:=x.G) ok.good ok.m hj ht (fun q hq hk=>(ih _ (kd q hq).2 (by have:=kd q hq;omega)).1 hk) hr2
   rw [← h5] at this
   rw [h1.eq j (Nat.zero_le _) hj];exact this
  ·rw [h1.eq j (Nat.zero_le _) hj]
   unfold typT
   rw [if_pos ht]
theorem wrongs_fm (L:List LT) (R:List Bool):∀ k,wrongs L R k=(List.range k).filterMap fun j=>if R.getD j false=true then none else some (dgT L j)
 | 0=>rfl
 | k + 1=>by
  rw [wrongs,List.range_succ,List.filterMap_append,← wrongs_fm L R k]
  by_cases h:R.getD k false=true
  ·rw [if_pos h];simp only [List.filterMap_cons,h,if_true,List.filterMap_nil,List.append_nil]
  ·rw [if_neg h];simp only [List.filterMap_cons,h,if_false,List.filterMap_nil];rfl
theorem w_agree {L:List LT} {x:LN} {X X5:List Int} {W:List (Int×Int×Int)} {H R:List Bool} (h1:TCI L x 0 X W) (h2:A5I L x 0 X5 H R):W.reverse=wrongs L R L.length:=by
 rw [h1.w,List.reverse_reverse,List.drop_zero,wrongs_fm]
 refine fm_congr fun j hj=>?_
 have hj:j < L.length:=List.mem_range.1 hj
 unfold badT
 rw [(agree h1 h2 _ j hj (Nat.le_refl _)).2.2]
theorem all_typed {L:List LT} {x:LN} {X:List Int} {W:List (Int×Int×Int)} (h1:TCI L x 0 X W) (hw:W=[]):∀ m j,j < L.length→L.length - j≤m→inT (X.getD j 0)∧rightT L x.M x.C X j=true:=by
 have ok:=h1.ok
 have hall:∀ j,j < L.length→rightT L x.M x.C X j=true:=fun j hj=>by
  have h3:((List.range L.length).filterMap (badT L x.M x.C X))=[]:=by
   have:=h1.w
   rw [hw,List.drop_zero] at this
   exact List.reverse_eq_nil_iff.1 this.symm
  have h4:=(List.filterMap_eq_nil_iff.1 h3) j (List.mem_range.2 hj)
  unfold badT at h4
  by_cases h:rightT L x.M x.C X j=true
  ·exact h
  ·rw [if_neg h] at h4;cases h4
 intro m
 induction m with
 | zero=>intro j hj hm;omega
 | succ m ih =>
  intro j hj hm
  refine ⟨?_,hall j hj⟩
  rw [h1.eq j (Nat.zero_le _) hj]
  unfold typT
  by_cases ht:termB (L.getD j LT.none).kind=false
  ·rw [if_pos ht];exact ofT_in ok.m _
  ·rw [if_neg ht,if_neg]
   ·exact termT_in ok.m _ _ _ hj
   rintro (q | ⟨q1,q2⟩)
   ·rw [hall j hj] at q;cases q
   ·unfold noneK at q2
    rw [List.any_eq_true] at q2
    obtain ⟨c,h3,h4⟩:=q2
    obtain ⟨a,b⟩:=ok.good.kid j hj c h3
    rw [decide_eq_true_eq] at h4
    exact inT_ne (ih c.toNat (by omega) (by omega)).1 h4
theorem same_check {L:List LT} {x:LN} {o o':List Int} {w w':List (Int×Int×Int)} (h1:QT L x o w) (h2:Q5 L x o' w'):o=o'∧w=w':=by
 obtain ⟨X,W,hT,a1,a2⟩:=h1.q
 obtain ⟨X5,H,R,hA,b1,b2⟩:=h2.q
 have hw:=w_agree hT hA
 by_cases h:W=[]
 ·obtain ⟨rfl,rfl⟩:=a2 h
  have h0:wrongs L R L.length=[]:=by rw [← hw,h];rfl
  obtain ⟨rfl,c1,c2⟩:=b2 h0
  refine ⟨ext_getD (d:=(0:Int)) (by rw [c1];exact hT.ok.xl) fun j=>?_,rfl⟩
  rcases Nat.lt_or_ge j L.length with hj | hj
  ·rw [c2 j hj]
   obtain ⟨g1,g2,g3⟩:=agree hT hA _ j hj (Nat.le_refl _)
   unfold typ5
   by_cases ht:termB (L.getD j LT.none).kind=true
   ·rw [if_pos ht]
    rcases g1 ht with ⟨q1,q2⟩ | ⟨q1,q2,q3⟩
    ·exact absurd q2 (inT_ne (all_typed hT h _ j hj (Nat.le_refl _)).1)
    ·exact q2
   ·rw [if_neg ht]
    exact g2 (by simpa using ht)
  ·have:=hT.ok.xl
   rw [List.getD_eq_getElem?_getD,List.getD_eq_getElem?_getD,List.getElem?_eq_none (by omega),List.getElem?_eq_none (by omega)]
 ·obtain ⟨rfl,rfl⟩:=a1 h
  have h0:wrongs L R L.length≠[]:=fun e=>h (by rw [← hw] at e;exact List.reverse_eq_nil_iff.1 e)
  obtain ⟨rfl,rfl⟩:=b1 h0
  exact ⟨rfl,hw⟩
end Go.Proofs.Ythallodoidghoaa
