/- Laid by program out of its parts: TyAB. -/
import Derived.Test.YthallodoidghoaaTyAA
set_option linter.unusedVariables false
set_option linter.unusedSimpArgs false
set_option maxRecDepth 100000
set_option maxHeartbeats 2000000
open Go Go.Ev
namespace Go.Proofs.Ythallodoidghoaa
theorem needsL_nil {k:Int} (h:k≠31∧k≠34∧k≠35∧k≠15∧k≠19∧k≠20∧k≠16∧k≠17∧k≠18∧k≠23∧k≠24∧k≠32):needsL k=[]:=by
 unfold needsL needsN
 simp only [lookI]
 repeat rw [if_neg (by omega)]
 rfl
theorem rw_need {L:List LT} {M:List (Int×Int)} {C X:List Int} {t:LT} (h:t.kind≠13∧t.kind≠14∧(t.kind≠32∨t.text≠[61,61])∧t.kind≠30∧(t.kind≠19∧t.kind≠20∨setM M t.kids 1=true)) :
  rightW L M C X t=decide (∀ i:Nat,i < (needsL t.kind).length→i < t.kids.length→kidX X t.kids i=(needsL t.kind).getD i 0∨kidX X t.kids i=noT):=by
 unfold rightW
 rw [if_neg h.1,if_neg h.2.1,if_neg (by rintro ⟨a,b⟩;rcases h.2.2.1 with g | g;exact g a;exact g b),if_neg h.2.2.2.1,if_neg (by
  rintro ⟨a,b⟩
  rcases h.2.2.2.2 with g | g
  ·rcases a with a | a
   ·exact g.1 a
   ·exact g.2 a
  ·rw [g] at b;cases b)]
theorem right_agree {L:List LT} {M:List (Int×Int)} {C X X5:List Int} {H:List Bool} {i:Nat} (hG:Good L) (hM:MOK L M) (hi:i < L.length)
  (r0:0 < (L.getD i LT.none).kids.length→termB (L.getD (kidN L i 0) LT.none).kind=true→RelV (X.getD (kidN L i 0) 0) (X5.getD (kidN L i 0) 0) (H.getD (kidN L i 0) false))
  (v0:0 < (L.getD i LT.none).kids.length→termB (L.getD (kidN L i 0) LT.none).kind=false→X.getD (kidN L i 0) 0=ofT L M (kidN L i 0))
  (r1:1 < (L.getD i LT.none).kids.length→termB (L.getD (kidN L i 1) LT.none).kind=true→RelV (X.getD (kidN L i 1) 0) (X5.getD (kidN L i 1) 0) (H.getD (kidN L i 1) false)) :
  rightT L M C X i=right5 L M C X5 H i:=by
 have k0:kidX X (L.getD i LT.none).kids 0=X.getD (kidN L i 0) 0:=rfl
 have k1:kidX X (L.getD i LT.none).kids 1=X.getD (kidN L i 1) 0:=rfl
 have z:∀ {w:Int},w≤5→w≠noT:=fun h=>by unfold noT;omega
 have one:∀ {w:Int},needsL (L.getD i LT.none).kind=[w]→w≤5→0 < (L.getD i LT.none).kids.length∧termB (L.getD (kidN L i 0) LT.none).kind=true →
   decide (∀ q:Nat,q < (needsL (L.getD i LT.none).kind).length→q < (L.getD i LT.none).kids.length→kidX X (L.getD i LT.none).kids q=(needsL (L.getD i LT.none).kind).getD q 0∨kidX X (L.getD i LT.none).kids q=noT)=isH X5 H (kidN L i 0) w:=fun hN hw h=>by
  rw [need1 hN h.1,k0,rel_is (r0 h.1 h.2) (z hw)];rfl
 have two:∀ {w v:Int},needsL (L.getD i LT.none).kind=[w,v]→w≤5→v≤5→termB (L.getD (kidN L i 0) LT.none).kind=true→1 < (L.getD i LT.none).kids.length∧termB (L.getD (kidN L i 1) LT.none).kind=true →
   decide (∀ q:Nat,q < (needsL (L.getD i LT.none).kind).length→q < (L.getD i LT.none).kids.length→kidX X (L.getD i LT.none).kids q=(needsL (L.getD i LT.none).kind).getD q 0∨kidX X (L.getD i LT.none).kids q=noT)=(isH X5 H (kidN L i 0) w && isH X5 H (kidN L i 1) v):=fun hN hw hv h0 h=>by
  rw [need2 hN h.1,k0,k1,rel_is (r0 (by omega) h0) (z hw),rel_is (r1 h.1 h.2) (z hv)];rfl
 have sgl:∀ {w v:Int},needsL (L.getD i LT.none).kind=[w,v]→w≤5→termB (L.getD (kidN L i 0) LT.none).kind=true→(L.getD i LT.none).kids.length=1 →
   decide (∀ q:Nat,q < (needsL (L.getD i LT.none).kind).length→q < (L.getD i LT.none).kids.length→kidX X (L.getD i LT.none).kids q=(needsL (L.getD i LT.none).kind).getD q 0∨kidX X (L.getD i LT.none).kids q=noT)=isH X5 H (kidN L i 0) w:=fun hN hw h0 h=>by
  rw [need2s hN h,k0,rel_is (r0 (by omega) h0) (z hw)];rfl
 have post:∀ {w v:Int},needsL (L.getD i LT.none).kind=[w,v]→w≤5→v≤5→((L.getD i LT.none).kind=19∨(L.getD i LT.none).kind=20)→rightT L M C X i=(isH X5 H (kidN L i 0) w && (decide ((L.getD i LT.none).kids.length=1) || freeM M (kidN L i 1) && isH X5 H (kidN L i 1) v)):=fun hN hw hv hk=>by
  have h0:=kterm0 hG hi (by omega)
  have hS:setM M (L.getD i LT.none).kids 1=(decide ((L.getD i LT.none).kids.length≤1) || freeM M (kidN L i 1)):=by
   unfold setM
   congr 1
   exact decide_eq_decide.2 (by omega)
  rcases kpost hG hi hk with h1 | ⟨h1,h2⟩
  ·rw [show rightT L M C X i=_ from rw_need (t:=L.getD i LT.none) ⟨by omega,by omega,.inl (by omega),by omega,.inr (by rw [hS,h1];rfl)⟩,sgl hN hw h0.2 h1,h1]
   simp
  ·rw [h1,show decide (2≤1)=false from rfl,Bool.false_or] at hS
   rw [h1,show decide (2=1)=false from rfl,Bool.false_or]
   cases hf:freeM M (kidN L i 1) with
   | true =>
    rw [show rightT L M C X i=_ from rw_need (t:=L.getD i LT.none) ⟨by omega,by omega,.inl (by omega),by omega,.inr (by rw [hS,hf])⟩,two hN hw hv h0.2 ⟨by omega,h2⟩,Bool.true_and]
   | false =>
    unfold rightT rightW
    rw [if_neg (by omega),if_neg (by omega),if_neg (by rintro ⟨a,b⟩;omega),if_neg (by omega),if_pos ⟨hk,by rw [hS,hf]⟩]
    simp
 have dflt:(L.getD i LT.none).kind≠13→(L.getD i LT.none).kind≠14→(L.getD i LT.none).kind≠32→(L.getD i LT.none).kind≠30→(L.getD i LT.none).kind≠19→(L.getD i LT.none).kind≠20 →
   rightT L M C X i=decide (∀ q:Nat,q < (needsL (L.getD i LT.none).kind).length→q < (L.getD i LT.none).kids.length→kidX X (L.getD i LT.none).kids q=(needsL (L.getD i LT.none).kind).getD q 0∨kidX X (L.getD i LT.none).kids q=noT) :=
  fun h1 h2 h3 h4 h5 h6=>rw_need (t:=L.getD i LT.none) ⟨h1,h2,.inl h3,h4,.inl ⟨h5,h6⟩⟩
 generalize hk:(L.getD i LT.none).kind=k at *
 by_cases h13:k=13
 ·subst h13
  have ht:=kterm1 hG hi (.inl hk)
  have hv:=kvar hG hi hk
  have e5:right5 L M C X5 H i=fitsH X5 H (kidN L i 1) (ofT L M ((L.getD i LT.none).kids.getD 0 0)):=by unfold right5;dsimp only;rw [hk];rfl
  have eT:rightT L M C X i=fitsN (kidX X (L.getD i LT.none).kids 1) (kidX X (L.getD i LT.none).kids 0):=by unfold rightT rightW;rw [hk];rfl
  have hc:((kidN L i 0:Nat):Int)=(L.getD i LT.none).kids.getD 0 0:=by
   have:=kid_in hG hi (j:=0) (by omega)
   unfold kidN;omega
  rw [eT,e5,k0,k1,v0 (by omega) hv,hc,rel_fit (r1 (by omega) ht.2) (inT_ne (ofT_in hM _))];rfl
 by_cases h14:k=14
 ·subst h14
  have ht:=kterm1 hG hi (.inr (.inl hk))
  have h0:=kterm0 hG hi (.inl hk)
  have e5:right5 L M C X5 H i=(freeM M (kidN L i 0) && (!H.getD (kidN L i 0) false || fitsH X5 H (kidN L i 1) (X5.getD (kidN L i 0) 0))):=by unfold right5;dsimp only;rw [hk];rfl
  have eT:rightT L M C X i=(setM M (L.getD i LT.none).kids 0 && fitsN (kidX X (L.getD i LT.none).kids 1) (kidX X (L.getD i LT.none).kids 0)):=by unfold rightT rightW;rw [hk];rfl
  have hS:setM M (L.getD i LT.none).kids 0=freeM M (kidN L i 0):=by
   unfold setM
   rw [decide_eq_false (by omega),Bool.false_or];rfl
  rw [eT,e5,hS,k0,k1,rel_fit2 (r1 (by omega) ht.2) (r0 h0.1 h0.2)]
  unfold fitsH
  cases H.getD (kidN L i 0) false <;> cases H.getD (kidN L i 1) false <;> rfl
 by_cases h32:k=32
 ·subst h32
  have ht:=kterm1 hG hi (.inr (.inr (.inr hk)))
  have h0:=kterm0 hG hi (by omega)
  by_cases htx:(L.getD i LT.none).text=[61,61]
  ·have e5:right5 L M C X5 H i=(!H.getD (kidN L i 0) false || !H.getD (kidN L i 1) false || fits5 (X5.getD (kidN L i 0) 0) (X5.getD (kidN L i 1) 0) || fits5 (X5.getD (kidN L i 1) 0) (X5.getD (kidN L i 0) 0)):=by unfold right5;dsimp only;rw [hk,htx];rfl
   have eT:rightT L M C X i=(fitsN (kidX X (L.getD i LT.none).kids 0) (kidX X (L.getD i LT.none).kids 1) || fitsN (kidX X (L.getD i LT.none).kids 1) (kidX X (L.getD i LT.none).kids 0)):=by unfold rightT rightW;rw [hk,htx];rfl
   rw [eT,e5,k0,k1,rel_fit2 (r1 (by omega) ht.2) (r0 h0.1 h0.2),rel_fit2 (r0 h0.1 h0.2) (r1 (by omega) ht.2)]
   cases H.getD (kidN L i 0) false <;> cases H.getD (kidN L i 1) false <;> simp
  ·have e5:right5 L M C X5 H i=(isH X5 H (kidN L i 0) 1 && isH X5 H (kidN L i 1) 1):=by
    unfold right5;dsimp only;rw [hk]
    exact (if_pos (c:=(L.getD i LT.none).text≠[61,61]) htx)
   rw [e5,← two rfl (by decide) (by decide) h0.2 ⟨by omega,ht.2⟩,← hk]
   exact rw_need (t:=L.getD i LT.none) ⟨by omega,by omega,.inr htx,by omega,.inl ⟨by omega,by omega⟩⟩
 by_cases h30:k=30
 ·subst h30
  have h0:=kterm0 hG hi (by omega)
  have e5:right5 L M C X5 H i=(!H.getD (kidN L i 0) false || decide (0≤(memT L M C (X5.getD (kidN L i 0) 0) (L.getD i LT.none).text).1)):=by unfold right5;dsimp only;rw [hk];rfl
  have eT:rightT L M C X i=(decide (kidX X (L.getD i LT.none).kids 0=noT) || decide (0≤(memT L M C (kidX X (L.getD i LT.none).kids 0) (L.getD i LT.none).text).1)):=by unfold rightT rightW;rw [hk];rfl
  rw [eT,e5,k0]
  rcases r0 h0.1 h0.2 with ⟨a,b⟩ | ⟨a,b,c⟩
  ·rw [a,b];simp
  ·rw [a,decide_eq_false c,b];rfl
 by_cases h19:k=19
 ·subst h19
  rw [post rfl (by decide) (by decide) (.inl rfl)]
  unfold right5;dsimp only;rw [hk];rfl
 by_cases h20:k=20
 ·subst h20
  rw [post rfl (by decide) (by decide) (.inr rfl)]
  unfold right5;dsimp only;rw [hk];rfl
 rw [dflt h13 h14 h32 h30 h19 h20]
 by_cases h15:k=15
 ·subst h15;rw [one rfl (by decide) (kterm0 hG hi (by omega))];unfold right5;dsimp only;rw [hk];rfl
 by_cases h16:k=16
 ·subst h16;rw [one rfl (by decide) (kterm0 hG hi (by omega))];unfold right5;dsimp only;rw [hk];rfl
 by_cases h17:k=17
 ·subst h17;rw [one rfl (by decide) (kterm0 hG hi (by omega))];unfold right5;dsimp only;rw [hk];rfl
 by_cases h18:k=18
 ·subst h18;rw [one rfl (by decide) (kterm0 hG hi (by omega))];unfold right5;dsimp only;rw [hk];rfl
 by_cases h23:k=23
 ·subst h23;rw [one rfl (by decide) (kterm0 hG hi (by omega))];unfold right5;dsimp only;rw [hk];rfl
 by_cases h24:k=24
 ·subst h24;rw [one rfl (by decide) (kterm0 hG hi (by omega))];unfold right5;dsimp only;rw [hk];rfl
 by_cases h34:k=34
 ·subst h34;rw [one rfl (by decide) (kterm0 hG hi (by omega))];unfold right5;dsimp only;rw [hk];rfl
 by_cases h35:k=35
 ·subst h35;rw [one rfl (by decide) (kterm0 hG hi (by omega))];unfold right5;dsimp only;rw [hk];rfl
 by_cases h31:k=31
 ·subst h31
  have ht:=kterm1 hG hi (.inr (.inr (.inl hk)))
  rw [two rfl (by decide) (by decide) (kterm0 hG hi (by omega)).2 ⟨by omega,ht.2⟩];unfold right5;dsimp only;rw [hk];rfl
 rw [need0 (needsL_nil ⟨h31,h34,h35,h15,h19,h20,h16,h17,h18,h23,h24,h32⟩)]
 unfold right5;dsimp only;rw [hk]
 repeat rw [if_neg (by omega)]
theorem term_agree {L:List LT} {M:List (Int×Int)} {C G X X5:List Int} {H R:List Bool} {i:Nat} (hG:Good L) (hM:MOK L M) (hi:i < L.length) (ht:termB (L.getD i LT.none).kind=true)
  (rk:∀ q,q < (L.getD i LT.none).kids.length→termB (L.getD (kidN L i q) LT.none).kind=true→RelV (X.getD (kidN L i q) 0) (X5.getD (kidN L i q) 0) (H.getD (kidN L i q) false))
  (hr:rightT L M C X i=R.getD i false) :
  RelV (typT L M C G X i) (term5 L M C G X5 H R i).1 (term5 L M C G X5 H R i).2:=by
 have hin:=termT_in (C:=C) (G:=G) (X:=X) hM hi
 have k0:kidX X (L.getD i LT.none).kids 0=X.getD (kidN L i 0) 0:=rfl
 have leaf:(L.getD i LT.none).kind=26∨(L.getD i LT.none).kind=27∨(L.getD i LT.none).kind=28∨(L.getD i LT.none).kind=29∨(L.getD i LT.none).kind=33∨(L.getD i LT.none).kind=36→typT L M C G X i=termT L M C G X i:=fun hk=>by
  have hright:rightT L M C X i=true:=by
   rw [show rightT L M C X i=_ from rw_need (t:=L.getD i LT.none) ⟨by omega,by omega,.inl (by omega),by omega,.inl ⟨by omega,by omega⟩⟩]
   exact need0 (needsL_nil (by omega))
  unfold typT
  rw [if_neg (by rw [ht];decide),if_neg]
  rintro (q | ⟨q1,q2⟩)
  ·rw [hright] at q;cases q
  ·rw [kleaf hG hi (by omega)] at q2;cases q2
 have use:∀ {v:Int},termT L M C G X i=v→typT L M C G X i=termT L M C G X i→RelV (typT L M C G X i) v true:=fun h1 h2=>.inr ⟨rfl,h2.trans h1,by rw [h2];exact inT_ne hin⟩
 generalize hk:(L.getD i LT.none).kind=k at *
 by_cases h26:k=26
 ·subst h26
  rw [show term5 L M C G X5 H R i=(1,true) by unfold term5;dsimp only;rw [hk];rfl]
  exact use (by unfold termT;rw [hk];rfl) (leaf (by omega))
 by_cases h28:k=28
 ·subst h28
  rw [show term5 L M C G X5 H R i=(1,true) by unfold term5;dsimp only;rw [hk];rfl]
  exact use (by unfold termT;rw [hk];rfl) (leaf (by omega))
 by_cases h27:k=27
 ·subst h27
  rw [show term5 L M C G X5 H R i=(0,true) by unfold term5;dsimp only;rw [hk];rfl]
  exact use (by unfold termT;rw [hk];rfl) (leaf (by omega))
 by_cases h36:k=36
 ·subst h36
  rw [show term5 L M C G X5 H R i=(2,true) by unfold term5;dsimp only;rw [hk];rfl]
  exact use (by unfold termT;rw [hk];rfl) (leaf (by omega))
 by_cases h33:k=33
 ·subst h33
  rw [show term5 L M C G X5 H R i=(-1 - (M.getD i (0,0)).2,true) by unfold term5;dsimp only;rw [hk];rfl]
  exact use (by unfold termT;rw [hk];rfl) (leaf (by omega))
 by_cases h29:k=29
 ·subst h29
  rw [show term5 L M C G X5 H R i=(useT L M G (M.getD i (0,0)).1 (M.getD i (0,0)).2,true) by
   rw [term5_use hk];unfold useT
   repeat' split
   all_goals rfl]
  exact use (by unfold termT;rw [hk];rfl) (leaf (by omega))
 have late:k=30∨k=31∨k=32∨k=34∨k=35:=by
  unfold termB at ht;rw [decide_eq_true_eq] at ht;omega
 rw [term5_late (by omega) (by omega) (by omega) (by omega) (by omega) (by omega)]
 have h0:=kterm0 hG hi (by omega)
 have allT:∀ q,q < (L.getD i LT.none).kids.length→termB (L.getD (kidN L i q) LT.none).kind=true:=fun q hq=>by
  have hl:(L.getD i LT.none).kids.length=1∨((L.getD i LT.none).kids.length=2∧termB (L.getD (kidN L i 1) LT.none).kind=true):=by
   by_cases h2:k=31∨k=32
   ·exact .inr (kterm1 hG hi (by omega))
   ·exact .inl (kone hG hi (by omega))
  rcases q with _ | _ | q
  ·exact h0.2
  ·rcases hl with hl | hl
   ·omega
   ·exact hl.2
  ·omega
 have nk:noneK X (L.getD i LT.none).kids=true↔∃ j,j < (L.getD i LT.none).kids.length∧H.getD ((L.getD i LT.none).kids.getD j 0).toNat false=false:=by
  unfold noneK
  rw [List.any_eq_true]
  constructor
  ·rintro ⟨c,h1,h2⟩
   obtain ⟨q,hq,rfl⟩:=List.getElem_of_mem h1
   refine ⟨q,hq,?_⟩
   rw [decide_eq_true_eq] at h2
   have e:(L.getD i LT.none).kids.getD q 0=(L.getD i LT.none).kids[q]:=by rw [List.getD_eq_getElem?_getD,List.getElem?_eq_getElem hq];rfl
   rcases rk q hq (allT q hq) with ⟨a,b⟩ | ⟨a,b,c⟩
   ·exact a
   ·unfold kidN at c
    rw [e] at c
    exact absurd h2 c
  ·rintro ⟨q,hq,h2⟩
   have e:(L.getD i LT.none).kids.getD q 0=(L.getD i LT.none).kids[q]:=by rw [List.getD_eq_getElem?_getD,List.getElem?_eq_getElem hq];rfl
   refine ⟨_,List.getElem_mem hq,?_⟩
   rcases rk q hq (allT q hq) with ⟨a,b⟩ | ⟨a,b,c⟩
   ·unfold kidN at b
    rw [e] at b
    rw [b];exact decide_eq_true rfl
   ·unfold kidN at a
    rw [h2] at a;cases a
 by_cases hR:R.getD i false=false
 ·rw [if_pos hR]
  refine .inl ⟨rfl,?_⟩
  unfold typT
  rw [if_neg (by rw [hk,ht];decide),if_pos (.inl (hr.trans hR))]
 rw [if_neg hR]
 by_cases hN:∃ j,j < (L.getD i LT.none).kids.length∧H.getD ((L.getD i LT.none).kids.getD j 0).toNat false=false
 ·rw [if_pos hN]
  refine .inl ⟨rfl,?_⟩
  unfold typT
  rw [if_neg (by rw [hk,ht];decide),if_pos (.inr ⟨by omega,nk.2 hN⟩)]
 rw [if_neg hN]
 have et:typT L M C G X i=termT L M C G X i:=by
  unfold typT
  rw [if_neg (by rw [hk,ht];decide),if_neg]
  rintro (q | ⟨q1,q2⟩)
  ·exact hR (hr.symm.trans q)
  ·exact hN (nk.1 q2)
 have a0:X.getD (kidN L i 0) 0=X5.getD (kidN L i 0) 0:=by
  rcases rk 0 h0.1 h0.2 with ⟨a,b⟩ | ⟨a,b,c⟩
  ·exact absurd ⟨0,h0.1,a⟩ hN
  ·exact b
 rw [hk]
 by_cases h34:k=34
 ·subst h34
  rw [if_pos rfl]
  exact use (by unfold termT;rw [hk];rfl) et
 rw [if_neg h34]
 by_cases h30:k=30
 ·subst h30
  rw [if_pos rfl]
  exact use (by unfold termT;rw [hk,k0,a0];rfl) et
 rw [if_neg h30]
 exact use (by unfold termT;rw [hk,if_neg (by omega),if_neg (by omega),if_neg (by omega),if_neg (by omega),if_neg (by omega),if_neg (by omega)]) et
end Go.Proofs.Ythallodoidghoaa
