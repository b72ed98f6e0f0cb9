/- Laid by program out of its parts: EvS. -/
import Derived.Test.YtfnieibeimklcaaGreatDoorEvR
set_option linter.unusedVariables false
set_option linter.unusedSimpArgs false
/- The evaluator, part S: the region's table from its run: the still part. -/
namespace Go.Ev
theorem tb_eq (m i:Nat):tb m i=m.testBit i:=by
 unfold tb Nat.testBit
 have h:Nat.land (Nat.shiftRight m i) 1=(m >>> i) &&& 1:=rfl
 rw [h,Nat.and_one_is_mod]
 rcases Nat.mod_two_eq_zero_or_one (m >>> i) with e | e
 ·rw [e,Nat.and_comm,Nat.and_one_is_mod,e];rfl
 ·rw [e,Nat.and_comm,Nat.and_one_is_mod,e];rfl
theorem allL_cons {α:Type} (f:α→Bool) (a:α) (l:List α):allL f (a :: l)=cond (f a) (allL f l) false:=rfl
theorem allL_all {α:Type} {f:α→Bool}:∀ {l:List α},allL f l=true→∀ x∈l,f x=true
 | [],_,x,h=>by cases h
 | a :: l,h,x,hx=>by
  rw [allL_cons] at h
  cases hf:f a with
  | false=>rw [hf] at h;cases h
  | true =>
   rw [hf] at h
   rcases List.mem_cons.1 hx with rfl | hx
   ·exact hf
   ·exact allL_all h x hx
theorem maskOf_sound {AT:Tr Nat} {p:Nat}:∀ (l:List Edge) (m A:Nat),maskOf AT p l m=some A →
  (∀ j,A.testBit j=true→m.testBit j=true∨∃ e∈l,Region.binds .any e=true∧(e.on=j∨∃ B,AT.get e.on=some B∧B.testBit j=true)) ∧
  ∀ e∈l,Region.binds .any e=true→e.on < p
 | [],m,A,h=>by
  injection h with h;subst h
  exact ⟨fun j hj=>.inl hj,fun e he=>by cases he⟩
 | e :: l,m,A,h=>by
  have h':cond (Region.binds .any e) (gd (Nat.blt e.on p) (ob (AT.get e.on) fun b=>fN (Nat.lor (Nat.lor m (2 ^ e.on)) b) (maskOf AT p l))) (maskOf AT p l m)=some A:=h
  cases hb:Region.binds .any e with
  | false =>
   rw [hb,cond_false] at h'
   obtain ⟨h1,h2⟩:=maskOf_sound l m A h'
   refine ⟨fun j hj=>?_,fun e' he' hb'=>?_⟩
   ·rcases h1 j hj with h | ⟨e',he',h⟩
    ·exact .inl h
    ·exact .inr ⟨e',List.mem_cons_of_mem _ he',h⟩
   ·rcases List.mem_cons.1 he' with rfl | he'
    ·rw [hb] at hb';cases hb'
    ·exact h2 e' he' hb'
  | true =>
   rw [hb,cond_true] at h'
   obtain ⟨h1,h2⟩:=gd_some.1 h'
   obtain ⟨b,h3,h4⟩:=ob_some.1 h2
   rw [fN_eq] at h4
   rw [Nat.blt_eq] at h1
   obtain ⟨h5,h6⟩:=maskOf_sound l _ A h4
   refine ⟨fun j hj=>?_,fun e' he' hb'=>?_⟩
   ·rcases h5 j hj with h | ⟨e',he',h⟩
    ·rw [show Nat.lor (Nat.lor m (2 ^ e.on)) b=(m ||| 2 ^ e.on) ||| b from rfl,Nat.testBit_or,Nat.testBit_or,Bool.or_eq_true,Bool.or_eq_true] at h
     rcases h with (h | h) | h
     ·exact .inl h
     ·rw [Nat.testBit_two_pow] at h
      exact .inr ⟨e,List.mem_cons_self ..,hb,.inl (by simpa using h)⟩
     ·exact .inr ⟨e,List.mem_cons_self ..,hb,.inr ⟨b,h3,h⟩⟩
    ·exact .inr ⟨e',List.mem_cons_of_mem _ he',h⟩
   ·rcases List.mem_cons.1 he' with rfl | he'
    ·exact h1
    ·exact h6 e' he' hb'
structure MOK (oo:Nat→Oper) (AT:Tr Nat) (p:Nat):Prop where
 lt:∀ i A,AT.get i=some A→i < p
 anc:∀ i A,AT.get i=some A→∀ j,A.testBit j=true→j < i∧∃ e∈(oo i).after,Region.binds .any e=true∧(e.on=j∨∃ B,AT.get e.on=some B∧B.testBit j=true)
 edge:∀ i,i < p→∀ e∈(oo i).after,Region.binds .any e=true→e.on < i
theorem mkMasks_sound {oo:Nat→Oper}:∀ (l:List Oper) (p:Nat) (AT AT':Tr Nat),(∀ i o,l[i]? = some o→oo (p + i)=o)→mkMasks l p AT=some AT'→MOK oo AT p→MOK oo AT' (p + l.length)
 | [],p,AT,AT',_,h,hm=>by injection h with h;subst h;exact hm
 | o :: l,p,AT,AT',hl,h,hm=>by
  obtain ⟨A,h1,h2⟩:=ob_some.1 (show (ob (maskOf AT p o.after.toList 0) fun A=>fN (p + 1) fun q=>mkMasks l q (AT.set p A))=some AT' from h)
  rw [fN_eq] at h2
  obtain ⟨h3,h4⟩:=maskOf_sound _ _ _ h1
  have hoo:oo p=o:=by have:=hl 0 o rfl;simpa using this
  have hnone:∀ B,AT.get p≠some B:=fun B hB=>absurd (hm.lt p B hB) (Nat.lt_irrefl p)
  have hkeep:∀ {i B},AT.get i=some B→(AT.set p A).get i=some B:=fun {i B} hB=>by
   rw [Tr.get_set_ne _ (fun e=>by subst e;exact hnone B hB)];exact hB
  have:=mkMasks_sound (oo:=oo) l (p + 1) (AT.set p A) AT' (fun i o' hi=>by
   have:=hl (i + 1) o' (by simpa using hi)
   rwa [show p + (i + 1)=p + 1 + i by omega] at this) h2 ⟨?_,?_,?_⟩
  ·rwa [show p + 1 + l.length=p + (o :: l).length by simp;omega] at this
  ·intro i B hB
   rw [Tr.get_set] at hB
   split at hB
   ·omega
   ·have:=hm.lt i B hB;omega
  ·intro i B hB j hj
   rw [Tr.get_set] at hB
   split at hB
   ·rename_i hpi
    subst hpi
    injection hB with hB;subst hB
    rcases h3 j hj with h | ⟨e,he,hb,hor⟩
    ·simp at h
    ·have he':e∈o.after:=by simpa using he
     have hlt:=h4 e he hb
     rw [hoo]
     rcases hor with hor | ⟨B,hB,hBj⟩
     ·exact ⟨by omega,e,he',hb,.inl hor⟩
     ·have:=(hm.anc e.on B hB j hBj).1
      exact ⟨by omega,e,he',hb,.inr ⟨B,hkeep hB,hBj⟩⟩
   ·obtain ⟨h5,e,he,hb,hor⟩:=hm.anc i B hB j hj
    refine ⟨h5,e,he,hb,?_⟩
    rcases hor with hor | ⟨B,hB,hBj⟩
    ·exact .inl hor
    ·exact .inr ⟨B,hkeep hB,hBj⟩
  ·intro i hi e he hb
   by_cases hip:i=p
   ·subst hip
    rw [hoo] at he
    exact h4 e (by simpa using he) hb
   ·exact hm.edge i (by omega) e he hb
theorem mkProd_sound {oo:Nat→Oper}:∀ (l:List Oper) (p:Nat) (D D':Tr Nat),(∀ i o,l[i]? = some o→oo (p + i)=o)→mkProd l p D=some D' →
  (∀ i d,i < p→(oo i).dst=some d→D.get d=some i)→∀ i d,i < p + l.length→(oo i).dst=some d→D'.get d=some i
 | [],p,D,D',_,h,hm=>by injection h with h;subst h;exact hm
 | o :: l,p,D,D',hl,h,hm=>by
  have h1:(fN (p + 1) fun q=>match o.dst with
   | none=>mkProd l q D
   | some d=>gd (D.get d).isNone (mkProd l q (D.set d p)))=some D':=h
  rw [fN_eq] at h1
  have hoo:oo p=o:=by have:=hl 0 o rfl;simpa using this
  have hl':∀ i o',l[i]? = some o'→oo (p + 1 + i)=o':=fun i o' hi=>by
   have:=hl (i + 1) o' (by simpa using hi)
   rwa [show p + (i + 1)=p + 1 + i by omega] at this
  rw [show p + (o :: l).length=p + 1 + l.length by simp;omega]
  cases hd:o.dst with
  | none =>
   rw [hd] at h1
   refine mkProd_sound l (p + 1) D D' hl' h1 fun i d hi hdi=>?_
   by_cases hip:i=p
   ·subst hip;rw [hoo,hd] at hdi;cases hdi
   ·exact hm i d (by omega) hdi
  | some d0 =>
   rw [hd] at h1
   obtain ⟨h2,h3⟩:=gd_some.1 h1
   refine mkProd_sound l (p + 1) _ D' hl' h3 fun i d hi hdi=>?_
   by_cases hip:i=p
   ·subst hip
    rw [hoo,hd] at hdi;injection hdi with hdi;subst hdi
    rw [Tr.get_set_same]
   ·have:=hm i d (by omega) hdi
    rw [Tr.get_set_ne _ (fun e=>by subst e;rw [this] at h2;cases h2)]
    exact this
theorem opsL_sound {op:Op} {l:List Operand} (h:opsL op=some l):∀ x∈op.operands,x∈l:=by
 cases op <;> simp only [opsL] at h <;> first | (cases h;done) | skip
 case call c =>
  obtain ⟨callee,args,ts⟩:=c
  cases callee with
  | value f=>injection h with h;subst h;intro x hx;simpa [Op.operands,Call.operands] using hx
  | builtin b=>injection h with h;subst h;intro x hx;simpa [Op.operands,Call.operands] using hx
  | invoke _ _=>cases h
 all_goals (injection h with h;subst h;intro x hx;simp [Op.operands] at hx ⊢;try exact hx)
theorem lookOp_sound {D AT:Tr Nat} {i A d k:Nat} (h:lookOp D AT i A d=true) (hk:D.get d=some k) (hne:k≠i):A.testBit k=true∨∃ B,AT.get k=some B∧B.testBit i=true:=by
 unfold lookOp at h
 rw [hk] at h
 simp only at h
 cases h1:Nat.beq k i with
 | true=>exact absurd (Nat.eq_of_beq_eq_true h1) hne
 | false =>
  rw [h1,cond_false] at h
  cases h2:tb A k with
  | true=>exact .inl (by rw [← tb_eq];exact h2)
  | false =>
   rw [h2,cond_false] at h
   cases h3:AT.get k with
   | none=>rw [h3] at h;cases h
   | some B =>
    rw [h3] at h
    exact .inr ⟨B,rfl,by rw [← tb_eq];exact h⟩
theorem lookOne_sound {ops:Array Oper} {D AT:Tr Nat} {i:Nat} {o:Oper} (h:lookOne ops D AT i o=true) {d k:Nat} (hl:looks ops o d) (hk:D.get d=some k) (hne:k≠i) :
  (∃ A,AT.get i=some A∧A.testBit k=true)∨∃ B,AT.get k=some B∧B.testBit i=true:=by
 unfold lookOne at h
 cases hA:AT.get i with
 | none=>rw [hA] at h;cases h
 | some A =>
  rw [hA] at h
  simp only at h
  cases hL:opsL o.op with
  | none=>rw [hL] at h;cases h
  | some l =>
   rw [hL] at h
   simp only at h
   obtain ⟨h1,h⟩:=cond_and h
   have key:lookOp D AT i A d=true:=by
    rcases hl with hl | ⟨j,want,oj,hg,hj,hd⟩
    ·have:=allL_all h1 _ (opsL_sound hL _ hl)
     exact this
    ·rw [hg] at h
     simp only [hj,hd] at h
     exact h
   rcases lookOp_sound key hk hne with h | h
   ·exact .inl ⟨A,rfl,h⟩
   ·exact .inr h
theorem lookAll_sound {ops:Array Oper} {D AT:Tr Nat}:∀ (l:List Oper) (p:Nat),lookAll ops D AT l p=true→∀ i o,l[i]? = some o→lookOne ops D AT (p + i) o=true
 | [],p,_,i,o,hi=>by simp at hi
 | a :: l,p,h,i,o,hi=>by
  have h':cond (lookOne ops D AT p a) (fN (p + 1) (lookAll ops D AT l)) false=true:=h
  cases h1:lookOne ops D AT p a with
  | false=>rw [h1] at h';cases h'
  | true =>
   rw [h1,cond_true,fN_eq] at h'
   cases i with
   | zero=>simp at hi;subst hi;exact h1
   | succ i =>
    have:=lookAll_sound l (p + 1) h' i o (by simpa using hi)
    rwa [show p + 1 + i=p + (i + 1) by omega] at this
noncomputable def maskAt (AT:Tr Nat) (i:Nat):Nat:=(AT.get i).getD 0
theorem maskAt_bit {AT:Tr Nat} {i j:Nat}:(maskAt AT i).testBit j=true↔∃ A,AT.get i=some A∧A.testBit j=true:=by
 unfold maskAt
 cases AT.get i with
 | none=>simp
 | some A=>simp
structure StatOK (ops:Array Oper) (oo:Nat→Oper) (AT:Tr Nat):Prop where
 anc:∀ i j,i < ops.size→(maskAt AT i).testBit j=true→j < i∧∃ e∈(oo i).after,Region.binds .any e=true∧(e.on=j∨(maskAt AT e.on).testBit j=true)
 edge:∀ i e,i < ops.size→e∈(oo i).after→Region.binds .any e=true→e.on < i
 dst:∀ i j d,i < ops.size→j < ops.size→(oo i).dst=some d→(oo j).dst=some d→i=j
 look:∀ i d k,i < ops.size→k < ops.size→looks ops (oo i) d→(oo k).dst=some d→k≠i→(maskAt AT i).testBit k=true∨(maskAt AT k).testBit i=true
theorem dstat_sound {ops:Array Oper} {oo:Nat→Oper} {AT:Tr Nat} (hoo:∀ i,i < ops.size→ops[i]? = some (oo i)) (h:dstat ops=some AT):StatOK ops oo AT:=by
 obtain ⟨AT',h1,h2⟩:=ob_some.1 h
 obtain ⟨D,h3,h4⟩:=ob_some.1 h2
 obtain ⟨h5,h6⟩:=gd_some.1 h4
 injection h6 with h6;subst h6
 have hlist:∀ i o,ops.toList[i]? = some o→oo (0 + i)=o:=fun i o hi=>by
  rw [Array.getElem?_toList] at hi
  have hlt:i < ops.size:=(Array.getElem?_eq_some_iff.1 hi).1
  have:=hoo i hlt
  rw [hi] at this
  rw [Nat.zero_add];exact (Option.some.inj this).symm
 have hm:=mkMasks_sound (oo:=oo) _ _ _ _ hlist h1 ⟨fun i A hi=>(by rw [Tr.get_leaf] at hi;cases hi),fun i A hi=>(by rw [Tr.get_leaf] at hi;cases hi),fun i hi=>absurd hi (Nat.not_lt_zero i)⟩
 have hp:=mkProd_sound (oo:=oo) _ _ _ _ hlist h3 (fun i d hi=>absurd hi (Nat.not_lt_zero i))
 have hlen:0 + ops.toList.length=ops.size:=by simp
 rw [hlen] at hm hp
 refine ⟨fun i j hi hj=>?_,fun i e hi he hb=>hm.edge i hi e he hb,fun i j d hi hj h1 h2=>?_,fun i d k hi hk hl hd hne=>?_⟩
 ·obtain ⟨A,hA,hAj⟩:=maskAt_bit.1 hj
  obtain ⟨h1,e,he,hb,hor⟩:=hm.anc i A hA j hAj
  refine ⟨h1,e,he,hb,?_⟩
  rcases hor with h | h
  ·exact .inl h
  ·exact .inr (maskAt_bit.2 h)
 ·have a:=hp i d hi h1
  have b:=hp j d hj h2
  rw [a] at b;injection b
 ·have hlk:=lookAll_sound _ _ h5 i (oo i) (by rw [Array.getElem?_toList];exact hoo i hi)
  rw [Nat.zero_add] at hlk
  rcases lookOne_sound hlk hl (hp k d hk hd) hne with h | h
  ·exact .inl (maskAt_bit.2 h)
  ·exact .inr (maskAt_bit.2 h)
end Go.Ev
