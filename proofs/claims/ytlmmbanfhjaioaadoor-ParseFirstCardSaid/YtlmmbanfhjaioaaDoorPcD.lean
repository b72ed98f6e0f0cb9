/- Laid by program out of its parts: PcD. -/
import Derived.Test.YtlmmbanfhjaioaaDoorPcC
set_option linter.unusedVariables false
set_option linter.unusedSimpArgs false
set_option maxRecDepth 100000
set_option maxHeartbeats 2000000
open Go Go.Ev
namespace Go.Proofs.YtlmmbanfhjaioaaDoor
def Bf (a b:Tok):Prop:=a.line < b.line∨(a.line=b.line∧a.col < b.col)
theorem Zgm (b:UInt8) (t:List UInt8) (L C:Int):(oneT b t L C).1=[]∨∃ k,(oneT b t L C).1=[k]∧k.text=(b :: t).take (nxT (b :: t)).2∧k.line=L∧k.col=C:=by
 unfold oneT
 dsimp only
 split
 ·exact .inr ⟨_,rfl,rfl,rfl,rfl⟩
 ·exact .inl rfl
theorem oneT_dg (b:UInt8) (t:List UInt8) (L C:Int):(oneT b t L C).2=[]∨∃ k,(oneT b t L C).2=[k]∧k.line=L∧k.col=C:=by
 unfold oneT
 dsimp only
 split
 ·dsimp only
  split
  ·exact .inl rfl
  ·exact .inr ⟨_,rfl,rfl,rfl⟩
 ·dsimp only
  split
  ·exact .inl rfl
  ·exact .inr ⟨_,rfl,rfl,rfl⟩
theorem Zi6:∀ (n:Nat) (l:List UInt8) (L C:Int),l.length≤n→(∀ t∈(scn l L C).1,L < t.line∨(L=t.line∧C≤t.col))∧∀ t∈(scn l L C).2,L < t.line∨(L=t.line∧C≤t.col)
 | _,[],_,_,_=>⟨fun t h=>by rw [Kq] at h;simp at h,fun t h=>by rw [Kq] at h;simp at h⟩
 | 0,b :: t,_,_,h=>by simp at h
 | n + 1,b :: t,L,C,h=>by
  have hn:=Va b t
  have hl:((b :: t).drop (nxT (b :: t)).2).length=t.length + 1 - (nxT (b :: t)).2:=by rw [List.length_drop,List.length_cons]
  simp only [List.length_cons] at h
  obtain ⟨i1,i2⟩:=Zi6 n ((b :: t).drop (nxT (b :: t)).2) (if b=10 then L + 1 else L) (if b=10 then 1 else C + (nxT (b :: t)).2) (by omega)
  have fin:∀ l c:Int,((if b=10 then L + 1 else L) < l∨((if b=10 then L + 1 else L)=l∧(if b=10 then 1 else C + (nxT (b :: t)).2)≤c))→L < l∨(L=l∧C≤c):=fun l c h=>by
   split at h
   ·omega
   ·omega
  rw [Qo]
  refine ⟨fun k hk=>?_,fun k hk=>?_⟩
  ·rcases List.mem_append.1 hk with hk | hk
   ·rcases Zgm b t L C with h0 | ⟨k',h0,_,h1,h2⟩
    ·rw [h0] at hk;simp at hk
    ·rw [h0,List.mem_singleton] at hk;subst hk;omega
   ·exact fin _ _ (i1 k hk)
  ·rcases List.mem_append.1 hk with hk | hk
   ·rcases oneT_dg b t L C with h0 | ⟨k',h0,h1,h2⟩
    ·rw [h0] at hk;simp at hk
    ·rw [h0,List.mem_singleton] at hk;subst hk;omega
   ·exact fin _ _ (i2 k hk)
theorem scn_pw:∀ (n:Nat) (l:List UInt8) (L C:Int),l.length≤n→(scn l L C).1.Pairwise Bf
 | _,[],_,_,_=>by rw [Kq];exact .nil
 | 0,b :: t,_,_,h=>by simp at h
 | n + 1,b :: t,L,C,h=>by
  have hn:=Va b t
  have hl:((b :: t).drop (nxT (b :: t)).2).length=t.length + 1 - (nxT (b :: t)).2:=by rw [List.length_drop,List.length_cons]
  simp only [List.length_cons] at h
  have ih:=scn_pw n ((b :: t).drop (nxT (b :: t)).2) (if b=10 then L + 1 else L) (if b=10 then 1 else C + (nxT (b :: t)).2) (by omega)
  obtain ⟨g,_⟩:=Zi6 _ ((b :: t).drop (nxT (b :: t)).2) (if b=10 then L + 1 else L) (if b=10 then 1 else C + (nxT (b :: t)).2) (Nat.le_refl _)
  rw [Qo]
  rcases Zgm b t L C with h0 | ⟨k,h0,_,h1,h2⟩
  ·rw [h0];exact ih
  ·rw [h0]
   refine .cons (fun k' hk=>?_) ih
   have:=g k' hk
   show k.line < k'.line∨_
   split at this <;> (show k.line < k'.line∨(k.line=k'.line∧k.col < k'.col)) <;> omega
theorem scan_pw (b:List UInt8):(scanR b).1.Pairwise Bf:=scn_pw _ b 1 1 (Nat.le_refl _)
theorem scan_lo (b:List UInt8) {t:Tok} (h:t∈(scanR b).1):1≤t.line:=by
 have:=(Zi6 _ b 1 1 (Nat.le_refl _)).1 t h
 omega
theorem pw_at {T:List Tok} (h:T.Pairwise Bf) {i j:Nat} (hij:i < j) (hj:j < T.length):¬ ((T.getD i t0).line=(T.getD j t0).line∧(T.getD i t0).col=(T.getD j t0).col):=by
 have:=List.pairwise_iff_getElem.1 h i j (by omega) hj hij
 rw [List.getD_eq_getElem?_getD,List.getElem?_eq_getElem (show i < T.length by omega),List.getD_eq_getElem?_getD,List.getElem?_eq_getElem hj]
 show ¬ (T[i].line=T[j].line∧T[i].col=T[j].col)
 unfold Bf at this
 omega
theorem Gc (T:List Tok) (i:Nat):(T.map tkOf).getD i TK.zero=tkOf (T.getD i t0):=by
 by_cases h:i < T.length
 ·rw [List.getD_eq_getElem?_getD,List.getElem?_map,List.getD_eq_getElem?_getD,List.getElem?_eq_getElem h];rfl
 ·rw [List.getD_eq_getElem?_getD,List.getElem?_map,List.getD_eq_getElem?_getD,List.getElem?_eq_none (by omega)];rfl
theorem tok_mv (L:List TK):Mv L rs0 (tokM L).2:=by
 rw [KH]
 exact Ui (Zf2 (Jp L 100001).b) _ _ _
theorem tok_iv (L:List TK):Iv L (tokM L).2:=(tok_mv L).i (.inl rfl)
theorem Zk6 {m:Nat} {L M:List TK} (hP:Pf m L M):Lo m (tokM L) (tokM M):=by rw [KH,KH];exact lo_tok hP _
structure Fst (T:List Tok) (w:Nat) (e:Int):Prop where
 lt:w < T.length
 v:e=4∨e=5
 d:tokD (T.map tkOf) (tokM (T.map tkOf)).2=[⟨(T.getD w t0).line,(T.getD w t0).col,e⟩]
 r:(tokM (T.map tkOf)).2.err=e∧(tokM (T.map tkOf)).2.whr=w
theorem fst_of {T:List Tok} (hl:∀ t∈T,1≤t.line):tokD (T.map tkOf) (tokM (T.map tkOf)).2=[]∨(∃ e,tokD (T.map tkOf) (tokM (T.map tkOf)).2=[⟨0,0,e⟩])∨∃ w e,Fst T w e:=by
 have hm:=tok_mv (T.map tkOf)
 have hi:=tok_iv (T.map tkOf)
 generalize hr:(tokM (T.map tkOf)).2=r at hm hi
 by_cases c:r.err=0
 ·exact .inl (by unfold tokD;rw [if_pos c])
 ·have h0:0≤r.whr:=hm.w rfl c
  unfold tokD
  rw [if_neg c]
  by_cases c1:r.whr < (T.map tkOf).length
  ·refine .inr (.inr ⟨r.whr.toNat,r.err,by rw [List.length_map] at c1;omega,?_,?_,by rw [hr];exact ⟨rfl,by omega⟩⟩)
   ·rcases hi with h | h | h
    ·exact absurd h c
    ·exact .inl h
    ·exact .inr h.1
   ·unfold tokD
    rw [hr,if_neg c]
    unfold lnAt clAt
    rw [if_pos c1,if_pos c1,Gc];rfl
  ·refine .inr (.inl ⟨r.err,?_⟩)
   unfold lnAt clAt
   rw [if_neg c1,if_neg c1]
theorem fst_ext {T U:List Tok} {w:Nat} {e:Int} (h:Fst T w e):tokD ((T.take (w + 1) ++ U).map tkOf) (tokM ((T.take (w + 1) ++ U).map tkOf)).2=[⟨(T.getD w t0).line,(T.getD w t0).col,e⟩]:=by
 have hlt:=h.lt
 obtain ⟨h1,h2⟩:=h.r
 have he:e≠0:=by rcases h.v with h | h <;> rw [h] <;> decide
 have hP:Pf (w + 1) (T.map tkOf) ((T.take (w + 1) ++ U).map tkOf):=⟨by rw [List.length_map];omega,by rw [List.length_map,List.length_append,List.length_take];omega,fun i hi=>by
  rw [Gc,Gc,Uo (by rw [List.length_take];omega),List.getD_eq_getElem?_getD,List.getD_eq_getElem?_getD,List.getElem?_take,if_pos hi]⟩
 rcases Zk6 hP with q | ⟨q,_⟩
 ·rw [← q]
  unfold tokD
  rw [h1,if_neg he]
  unfold lnAt clAt
  rw [h2]
  have:(w:Int) < ((T.take (w + 1) ++ U).map tkOf).length:=by rw [List.length_map,List.length_append,List.length_take];omega
  rw [if_pos this,if_pos this,Int.toNat_natCast,Gc,Uo (by rw [List.length_take];omega),List.getD_eq_getElem?_getD,List.getElem?_take,if_pos (Nat.lt_succ_self w),← List.getD_eq_getElem?_getD]
  rfl
 ·rcases q with ⟨q,_⟩ | ⟨_,q⟩
  ·rw [h1] at q;exact absurd q he
  ·rw [h2] at q;omega
theorem Zmv {T:List Tok} {w:Nat} {e:Int} (h:Fst T w e):tokD ((T.take w).map tkOf) (tokM ((T.take w).map tkOf)).2=[]∨tokD ((T.take w).map tkOf) (tokM ((T.take w).map tkOf)).2=[⟨0,0,4⟩]:=by
 have hlt:=h.lt
 obtain ⟨h1,h2⟩:=h.r
 have hlen:((T.take w).map tkOf).length=w:=by rw [List.length_map,List.length_take];omega
 have hP:Pf w (T.map tkOf) ((T.take w).map tkOf):=⟨by rw [List.length_map];omega,by rw [hlen];exact Nat.le_refl _,fun i hi=>by
  rw [Gc,Gc,List.getD_eq_getElem?_getD,List.getD_eq_getElem?_getD,List.getElem?_take,if_pos hi]⟩
 have hi:=tok_iv ((T.take w).map tkOf)
 have key:(tokM ((T.take w).map tkOf)).2.err=0∨(w:Int)≤(tokM ((T.take w).map tkOf)).2.whr:=by
  rcases Zk6 hP with q | ⟨_,q⟩
  ·rw [← q];right;rw [h2];exact Int.le_refl _
  ·rcases q with ⟨q,_⟩ | ⟨_,q⟩
   ·exact .inl q
   ·exact .inr q
 generalize (tokM ((T.take w).map tkOf)).2=r at hi key
 unfold tokD
 by_cases c:r.err=0
 ·left;rw [if_pos c]
 ·right
  rw [if_neg c]
  have hw:¬ r.whr < ((T.take w).map tkOf).length:=by
   rcases key with k | k
   ·exact absurd k c
   ·rw [hlen];omega
  unfold lnAt clAt
  rw [if_neg hw,if_neg hw]
  rcases hi with k | k | k
  ·exact absurd k c
  ·rw [k]
  ·exact absurd k.2 hw
theorem Zmh (T U:List Tok) {a:Nat} (ha:a≤T.length):rowKs (a + U.length) (appF a (fun k=>tokRow (T.getD k t0)) (fun k=>tokRow (U.getD k t0)))=(T.take a ++ U).map tkOf:=by
 apply List.ext_getElem
 ·simp [rowKs];omega
 ·intro i h1 h2
  have hi:i < a + U.length:=by simpa [rowKs] using h1
  simp only [rowKs,List.getElem_map,List.getElem_range]
  by_cases c:i < a
  ·rw [Xx (r:=tokRow (T.getD i t0)) (fun _=>rfl) fun h=>absurd c h,List.getElem_append_left (by rw [List.length_take];omega),List.getElem_take,List.getD_eq_getElem?_getD,List.getElem?_eq_getElem (by omega)]
   rfl
  ·rw [Xx (r:=tokRow (U.getD (i - a) t0)) (fun h=>absurd h c) fun _=>rfl,List.getElem_append_right (by rw [List.length_take];omega),List.getD_eq_getElem?_getD,List.getElem?_eq_getElem (by omega)]
   simp only [List.length_take,Nat.min_eq_left ha]
   rfl
theorem Zi1 (T:List Tok) {a:Nat} (ha:a≤T.length):rowKs a (fun k=>tokRow (T.getD k t0))=(T.take a).map tkOf:=by
 apply List.ext_getElem
 ·simp [rowKs];omega
 ·intro i h1 h2
  have hi:i < a:=by simpa [rowKs] using h1
  simp only [rowKs,List.getElem_map,List.getElem_range]
  rw [List.getElem_take,List.getD_eq_getElem?_getD,List.getElem?_eq_getElem (by omega)]
  rfl
end Go.Proofs.YtlmmbanfhjaioaaDoor
