/- Laid by program out of its parts: TyQa. -/
import Derived.Test.YthallodoidghoaaTyQ
set_option linter.unusedVariables false
set_option linter.unusedSimpArgs false
set_option maxRecDepth 100000
set_option maxHeartbeats 2000000
open Go Go.Ev
namespace Go.Proofs.Ythallodoidghoaa
def inT (z:Int):Prop:=-1000001≤z∧z≤5
theorem tyT_in {s:List UInt8} {n:Int} (h:0≤n∧n≤1000000):inT (tyT s n):=by
 unfold tyT inT
 repeat' split
 all_goals omega
theorem ofL_in' {L:List LT} {M:List (Int×Int)} (hM:MOK L M) (i:Int):inT (ofL L M i):=by
 unfold ofL
 split
 ·unfold inT;omega
 ·rename_i h
  split
  ·exact tyT_in (hM.n i.toNat (by omega))
  ·unfold inT;omega
theorem ofT_in {L:List LT} {M:List (Int×Int)} (hM:MOK L M) (i:Int):inT (ofT L M i):=by
 unfold ofT
 split <;> exact ofL_in' hM _
theorem memT_in {L:List LT} {M:List (Int×Int)} (hM:MOK L M) (C:List Int) (c:Int) (s:List UInt8):inT (memT L M C c s).2:=by
 unfold memT
 split
 ·unfold inT;simp only;omega
 ·split
  ·unfold inT;simp only;omega
  ·exact ofT_in hM _
theorem term5_in {L:List LT} {M:List (Int×Int)} (hM:MOK L M) (C G X:List Int) (H R:List Bool) {i:Nat} (hi:i < L.length):inT (term5 L M C G X H R i).1:=by
 have hn:=hM.n i hi
 unfold term5
 dsimp only
 repeat' split
 all_goals first
  | exact ofT_in hM _
  | exact memT_in hM _ _ _
  | (unfold inT;simp only;omega)
theorem getD_set_ne {α:Type} {d v:α} {l:List α} {i j:Nat} (h:i≠j):(l.set i v).getD j d=l.getD j d:=by
 simp [List.getD_eq_getElem?_getD,List.getElem?_set_ne h]
theorem getD_set_eq {α:Type} {d v:α} {l:List α} {i:Nat} (h:i < l.length):(l.set i v).getD i d=v:=by
 simp [List.getD_eq_getElem?_getD,h]
theorem upd_rB (U:List Bool) (c:Nat) (z:Bool) (h:c < U.length):updRow (rB U) c 0 [AV.bool z]=rB (U.set c z):=by
 funext j
 unfold updRow rB
 cases hb:Nat.beq j c with
 | true =>
  have:=Nat.eq_of_beq_eq_true hb
  subst this
  simp [splice,h,List.getD_eq_getElem?_getD]
 | false =>
  have hne:c≠j:=fun e=>by subst e;simp at hb
  simp [List.getD_eq_getElem?_getD,List.getElem?_set_ne hne]
theorem upd_rI' (U:List Int) (c:Nat) (z:Int) (h:c < U.length):updRow (rI U) c 0 [AV.int .i64 z]=rI (U.set c z):=funext fun j=>upd_rI U c z h j
theorem right5_congr {L:List LT} {M:List (Int×Int)} {C X X':List Int} {H H':List Bool} {i:Nat} (hX0:X.getD (kidN L i 0) 0=X'.getD (kidN L i 0) 0) (hX1:X.getD (kidN L i 1) 0=X'.getD (kidN L i 1) 0) (hH0:H.getD (kidN L i 0) false=H'.getD (kidN L i 0) false) (hH1:H.getD (kidN L i 1) false=H'.getD (kidN L i 1) false):right5 L M C X H i=right5 L M C X' H' i:=by
 unfold right5 isH fitsH
 dsimp only
 rw [hX0,hX1,hH0,hH1]
theorem term5_congr {L:List LT} {M:List (Int×Int)} {C G X X':List Int} {H H' R R':List Bool} {i:Nat} (hX0:X.getD (kidN L i 0) 0=X'.getD (kidN L i 0) 0) (hH:∀ k,k < (L.getD i LT.none).kids.length→H.getD (kidN L i k) false=H'.getD (kidN L i k) false) (hR:R.getD i false=R'.getD i false):term5 L M C G X H R i=term5 L M C G X' H' R' i:=by
 have e:(∃ j,j < (L.getD i LT.none).kids.length∧H.getD ((L.getD i LT.none).kids.getD j 0).toNat false=false)=(∃ j,j < (L.getD i LT.none).kids.length∧H'.getD ((L.getD i LT.none).kids.getD j 0).toNat false=false) :=
  propext ⟨fun ⟨j,h1,h2⟩=>⟨j,h1,(hH j h1).symm.trans h2⟩,fun ⟨j,h1,h2⟩=>⟨j,h1,(hH j h1).trans h2⟩⟩
 unfold term5
 dsimp only
 simp only [e,hR,hX0]
theorem kid_ne {L:List LT} (hG:Good L) {i j k:Nat} (hi:i < L.length) (hj:j < i) (hj0:0 < j):kidN L i k≠j:=by
 unfold kidN
 rcases Nat.lt_or_ge k (L.getD i LT.none).kids.length with h | h
 ·obtain ⟨h1,h2⟩:=hG.kid i hi _ (getD_memI h)
  omega
 ·rw [show (L.getD i LT.none).kids.getD k 0=0 by rw [List.getD_eq_getElem?_getD,List.getElem?_eq_none h];rfl]
  simp;omega
theorem kid_ge {L:List LT} (hG:Good L) {i k:Nat} (hi:i < L.length) (hi0:0 < i):kidN L i k≠i:=by
 unfold kidN
 rcases Nat.lt_or_ge k (L.getD i LT.none).kids.length with h | h
 ·obtain ⟨h1,h2⟩:=hG.kid i hi _ (getD_memI h)
  omega
 ·rw [show (L.getD i LT.none).kids.getD k 0=0 by rw [List.getD_eq_getElem?_getD,List.getElem?_eq_none h];rfl]
  simp;omega
theorem a5_init {L:List LT} {x:LN} (hG:Good L) (hM:MOK L x.M) (hC:COK L x.C):A5I L x L.length (List.replicate L.length 0) (List.replicate L.length false) (List.replicate L.length false):=by
 have e0:∀ j,(List.replicate L.length (0:Int)).getD j 0=0:=fun j=>by
  rw [List.getD_eq_getElem?_getD,List.getElem?_replicate];split <;> rfl
 have e1:∀ j,(List.replicate L.length false).getD j false=false:=fun j=>by
  rw [List.getD_eq_getElem?_getD,List.getElem?_replicate];split <;> rfl
 exact ⟨Nat.le_refl _,⟨hG,hM,hC,by simp,by simp,by simp,fun j=>by rw [e0];omega⟩,fun j h1 h2=>by omega,fun j h1 h2=>by omega,fun j _=>⟨e0 j,e1 j⟩⟩
theorem a5_no {L:List LT} {x:LN} {j:Nat} {X:List Int} {H R:List Bool} (h:A5I L x (j + 1) X H R) (ht:termB (L.getD j LT.none).kind=false):A5I L x j X H (R.set j (right5 L x.M x.C X H j)):=by
 have hj:j < L.length:=h.le
 have ok:=h.ok
 refine ⟨by omega,⟨ok.good,ok.m,ok.c,ok.xl,ok.hl,by rw [List.length_set];exact ok.rl,ok.b⟩,fun i h1 h2=>?_,fun i h1 h2 h3=>?_,fun i hi=>?_⟩
 ·rcases Nat.eq_or_lt_of_le h1 with e | h1
  ·subst e
   rw [getD_set_eq (by rw [ok.rl];exact hj)]
  ·rw [getD_set_ne (by omega)]
   exact h.right i h1 h2
 ·rcases Nat.eq_or_lt_of_le h1 with e | h1
  ·subst e
   rw [ht] at h3;cases h3
  ·rw [h.term i h1 h2 h3]
   exact term5_congr rfl (fun _ _=>rfl) (getD_set_ne (by omega)).symm
 ·exact h.no i (by rcases hi with hi | hi;exact .inl (by omega);exact .inr hi)
theorem a5_term {L:List LT} {x:LN} {j:Nat} {X:List Int} {H R:List Bool} (h:A5I L x (j + 1) X H R) (ht:termB (L.getD j LT.none).kind=true):A5I L x j (X.set j (term5 L x.M x.C x.G X H (R.set j (right5 L x.M x.C X H j)) j).1) (H.set j (term5 L x.M x.C x.G X H (R.set j (right5 L x.M x.C X H j)) j).2) (R.set j (right5 L x.M x.C X H j)):=by
 have hj:j < L.length:=h.le
 have ok:=h.ok
 have hj0:0 < j:=by
  rcases Nat.eq_zero_or_pos j with e | e
  ·subst e
   rw [ok.good.root] at ht;cases ht
  ·exact e
 have hin:=term5_in ok.m x.C x.G X H (R.set j (right5 L x.M x.C X H j)) hj
 generalize hR':R.set j (right5 L x.M x.C X H j)=R' at *
 generalize ht5:term5 L x.M x.C x.G X H R' j=t at *
 have rc:∀ i,j≤i→i < L.length→right5 L x.M x.C (X.set j t.1) (H.set j t.2) i=right5 L x.M x.C X H i:=fun i h1 h2=>by
  have hk:∀ k,j≠kidN L i k:=fun k=>by
   rcases Nat.eq_or_lt_of_le h1 with e | h1
   ·subst e;exact (kid_ge ok.good h2 hj0).symm
   ·exact (kid_ne ok.good h2 h1 hj0).symm
  exact right5_congr (getD_set_ne (hk 0)) (getD_set_ne (hk 1)) (getD_set_ne (hk 0)) (getD_set_ne (hk 1))
 have tc:∀ i,j≤i→i < L.length→∀ R'',R''.getD i false=R'.getD i false→term5 L x.M x.C x.G X H R'' i=term5 L x.M x.C x.G (X.set j t.1) (H.set j t.2) R' i:=fun i h1 h2 R'' hr=>by
  have hk:∀ k,j≠kidN L i k:=fun k=>by
   rcases Nat.eq_or_lt_of_le h1 with e | h1
   ·subst e;exact (kid_ge ok.good h2 hj0).symm
   ·exact (kid_ne ok.good h2 h1 hj0).symm
  exact term5_congr (getD_set_ne (hk 0)).symm (fun k _=>(getD_set_ne (hk k)).symm) hr
 refine ⟨by omega,⟨ok.good,ok.m,ok.c,by rw [List.length_set];exact ok.xl,by rw [List.length_set];exact ok.hl,by rw [← hR',List.length_set];exact ok.rl,fun i=>?_⟩,fun i h1 h2=>?_,fun i h1 h2 h3=>?_,fun i hi=>?_⟩
 ·by_cases e:j=i
  ·subst e
   rw [getD_set_eq (by rw [ok.xl];exact hj)]
   unfold inT at hin;omega
  ·rw [getD_set_ne e];exact ok.b i
 ·rw [rc i h1 h2,← hR']
  rcases Nat.eq_or_lt_of_le h1 with e | h1
  ·subst e
   rw [getD_set_eq (by rw [ok.rl];exact hj)]
  ·rw [getD_set_ne (by omega)]
   exact h.right i h1 h2
 ·rcases Nat.eq_or_lt_of_le h1 with e | h1'
  ·subst e
   rw [getD_set_eq (by rw [ok.xl];exact hj),getD_set_eq (by rw [ok.hl];exact hj),← tc j (Nat.le_refl _) hj R' rfl,ht5]
  ·rw [getD_set_ne (by omega),getD_set_ne (by omega),h.term i h1' h2 h3]
   exact tc i h1 h2 R (by rw [← hR',getD_set_ne (by omega)])
 ·have e:j≠i:=by
   rcases hi with hi | hi
   ·omega
   ·intro e;subst e;rw [ht] at hi;cases hi
  rw [getD_set_ne e,getD_set_ne e]
  exact h.no i (by rcases hi with hi | hi;exact .inl (by omega);exact .inr hi)
end Go.Proofs.Ythallodoidghoaa
