/- Laid by program out of its parts: EvS. -/
import Derived.Test.YtlmmbanfhjaioaaGreatDoorEvR
noncomputable section
set_option linter.unusedVariables false
set_option linter.unusedSimpArgs false
namespace Go.Ev
theorem LI (m i:Nat):tb m i=m.testBit i:=by
 unfold tb Nat.testBit;have h:Nat.land (Nat.shiftRight m i) 1=(m>>>i)&&& 1:=rfl;rw[h,Nat.and_one_is_mod];rcases Nat.mod_two_eq_zero_or_one (m>>>i)with e|e
 ·rw[e,Nat.and_comm,Nat.and_one_is_mod,e];rfl
 ·rw[e,Nat.and_comm,Nat.and_one_is_mod,e];rfl
theorem o9 {α:Type} (f:α->Bool) (a:α) (l:List α):FA f (a::l)=cond (f a) (FA f l) false:=rfl
theorem JX {α:Type} {f:α->Bool}:∀ {l:List α},FA f l=true->∀x∈l,f x=true
 | [],_,x,h=>by cases h
 |a::l,h,x,q=>by
  rw[o9]at h;cases y:f a with
  |false=>rw[y]at h;cases h
  |true=>
   rw[y]at h;rcases CS.1 q with rfl|q
   ·exact y
   ·exact JX h x q
theorem kF {K:Tr Nat} {p:Nat}:∀(l:List Edge) (m A:Nat),V1 K p l m=some A-> (∀j,A.testBit j=true->m.testBit j=true\/∃e∈l,Region.binds .any e=true/\(e.on=j\/∃B,K.get e.on=some B/\B.testBit j=true))/\ ∀e∈l,Region.binds .any e=true->e.on<p
 | [],m,A,h=>by injection h with h;subst h;exact⟨λj E=>.inl E,λe R=>by cases R⟩
 |e::l,m,A,h=>by
  have h':cond (Region.binds .any e) (gd (Nat.blt e.on p) (ob (K.get e.on) λb=>fN (Nat.lor (Nat.lor m (2^e.on)) b) (V1 K p l))) (V1 K p l m)=some A:=h;cases J:Region.binds .any e with
  |false=>
   rw[J,cond_false]at h';obtain⟨L,M⟩:=kF l m A h';refine⟨λj E=>?_,λC q y=>?_⟩
   ·rcases L j E with h|⟨C,q,h⟩
    ·exact .inl h
    ·exact .inr ⟨C,Ca _ q,h⟩
   ·rcases CS.1 q with rfl|q
    ·rw[J]at y;cases y
    ·exact M C q y
  |true=>
   rw[J,cond_true]at h';obtain⟨L,M⟩:=AL.1 h';obtain⟨b,V,O⟩:=Ag.1 M;rw[Bv]at O;rw[Co]at L;obtain⟨U,S⟩:=kF l _ A O;refine⟨λj E=>?_,λC q y=>?_⟩
   ·rcases U j E with h|⟨C,q,h⟩
    ·rw[show Nat.lor (Nat.lor m (2^e.on)) b=(m|||2^e.on)|||b from rfl,Nat.testBit_or,Nat.testBit_or,Bool.or_eq_true,Bool.or_eq_true]at h;rcases h with(h|h)|h
     ·exact .inl h
     ·rw[Nat.testBit_two_pow]at h;exact .inr ⟨e,BN ..,J,.inl (by simpa using h)⟩
     ·exact .inr ⟨e,BN ..,J,.inr ⟨b,V,h⟩⟩
    ·exact .inr ⟨C,Ca _ q,h⟩
   ·rcases CS.1 q with rfl|q
    ·exact L
    ·exact S C q y
structure n6 (oo:Nat->Oper) (AT:Tr Nat) (p:Nat):Prop where
 lt:∀i A,AT.get i=some A->i<p
 Cp:∀i A,AT.get i=some A->∀j,A.testBit j=true->j<i/\∃e∈(oo i).after,Region.binds .any e=true/\(e.on=j\/∃B,AT.get e.on=some B/\B.testBit j=true)
 Lg:∀i,i<p->∀e∈(oo i).after,Region.binds .any e=true->e.on<i
theorem v7 {oo:Nat->Oper}:∀(l:List Oper) (p:Nat) (K E:Tr Nat),(∀i o,l[i]? =some o->oo (p+i)=o)->kH l p K=some E->n6 oo K p->n6 oo E (p+l.length)
 | [],p,K,E,_,h,O=>by injection h with h;subst h;exact O
 |o::l,p,K,E,Y,h,O=>by
  obtain⟨A,h1,h2⟩:=Ag.1 (show(ob (V1 K p o.after.toList 0) λA=>fN (p+1) λq=>kH l q (K.set p A))=some E from h);rw[Bv]at h2;obtain⟨h3,h4⟩:=kF _ _ _ h1;have S:oo p=o:=by have:=Y 0 o rfl;simpa using this
  have R:∀B,K.get p≠some B:=λB y=>absurd (O.lt p B y) (Nat.lt_irrefl p);have J:∀ {i B},K.get i=some B->(K.set p A).get i=some B:=λ{i B} y=>by rw[Tr.KE _ (λe=>by subst e;exact R B y)];exact y
  have:=v7 (oo:=oo) l (p+1) (K.set p A) E (λi o' hi=>by have:=Y (i+1) o' (by simpa using hi);rwa[show p+(i+1)=p+1+i by omega]at this) h2 ⟨?_,?_,?_⟩
  ·rwa[show p+1+l.length=p+(o::l).length by simp;omega]at this
  ·intro i B y;rw[Tr.Hl]at y;split at y
   ·omega
   ·have:=O.lt i B y;omega
  ·intro i B y j Z;rw[Tr.Hl]at y;split at y
   ·rename_i V;subst V;injection y with y;subst y;rcases h3 j Z with h|⟨e,he,M,C⟩
    ·simp at h
    ·have U:e∈o.after:=by simpa using he
     have aa:=h4 e he M;rw[S];rcases C with C|⟨B,y,L⟩
     ·exact⟨by omega,e,U,M,.inl C⟩
     ·have:=(O.Cp e.on B y j L).1;exact⟨by omega,e,U,M,.inr ⟨B,J y,L⟩⟩
   ·obtain⟨h5,e,he,M,C⟩:=O.Cp i B y j Z;refine⟨h5,e,he,M,?_⟩;rcases C with C|⟨B,y,L⟩
    ·exact .inl C
    ·exact .inr ⟨B,J y,L⟩
  ·intro i hi e he M;by_cases W:i=p
   ·subst W;rw[S]at he;exact h4 e (by simpa using he) M
   ·exact O.Lg i (by omega) e he M
theorem kI {oo:Nat->Oper}:∀(l:List Oper) (p:Nat) (D B:Tr Nat),(∀i o,l[i]? =some o->oo (p+i)=o)->Za l p D=some B-> (∀i d,i<p->(oo i).dst=some d->D.get d=some i)->∀i d,i<p+l.length->(oo i).dst=some d->B.get d=some i
 | [],p,D,B,_,h,M=>by injection h with h;subst h;exact M
 |o::l,p,D,B,O,h,M=>by
  have E:(fN (p+1) λq=>match o.dst with
   |none=>Za l q D
   |some d=>gd (D.get d).isNone (Za l q (D.set d p)))=some B:=h
  rw[Bv]at E;have J:oo p=o:=by have:=O 0 o rfl;simpa using this
  have K:∀i L,l[i]? =some L->oo (p+1+i)=L:=λi L hi=>by have:=O (i+1) L (by simpa using hi);rwa[show p+(i+1)=p+1+i by omega]at this
  rw[show p+(o::l).length=p+1+l.length by simp;omega];cases hd:o.dst with
  |none=>
   rw[hd]at E;refine kI l (p+1) D B K E λi d hi y=>?_;by_cases C:i=p
   ·subst C;rw[J,hd]at y;cases y
   ·exact M i d (by omega) y
  |some d0=>
   rw[hd]at E;obtain⟨R,S⟩:=AL.1 E;refine kI l (p+1) _ B K S λi d hi y=>?_;by_cases C:i=p
   ·subst C;rw[J,hd]at y;injection y with y;subst y;rw[Tr.GG]
   ·have:=M i d (by omega) y;rw[Tr.KE _ (λe=>by subst e;rw[this]at R;cases R)];exact this
theorem Agb {op:Op} {l:List Operand} (h:opsL op=some l):∀x∈op.operands,x∈l:=by
 cases op<;>simp only[opsL]at h<;>first|(cases h;done)|skip
 case call c=>
  obtain⟨q,args,B⟩:=c;cases q with
  |value f=>injection h with h;subst h;intro x y;simpa[Op.operands,Call.operands]using y
  |builtin b=>injection h with h;subst h;intro x y;simpa[Op.operands,Call.operands]using y
  |invoke _ _=>cases h
 all_goals (injection h with h;subst h;intro x y;simp[Op.operands]at y⊢;try exact y)
theorem Aev {D q:Tr Nat} {i A d k:Nat} (h:VZ D q i A d=true) (K:D.get d=some k) (y:k≠i):A.testBit k=true\/∃B,q.get k=some B/\B.testBit i=true:=by
 unfold VZ at h;rw[K]at h;simp only at h;cases J:Nat.beq k i with
 |true=>exact absurd (DP J) y
 |false=>
  rw[J,cond_false]at h;cases E:tb A k with
  |true=>exact .inl (by rw[<-LI];exact E)
  |false=>
   rw[E,cond_false]at h;cases C:q.get k with
   |none=>rw[C]at h;cases h
   |some B=>rw[C]at h;exact .inr ⟨B,rfl,by rw[<-LI];exact h⟩
theorem Aeu {ops:Array Oper} {D q:Tr Nat} {i:Nat} {o:Oper} (h:SP ops D q i o=true) {d k:Nat} (y:looks ops o d) (K:D.get d=some k) (E:k≠i): (∃A,q.get i=some A/\A.testBit k=true)\/∃B,q.get k=some B/\B.testBit i=true:=by
 unfold SP at h;cases J:q.get i with
 |none=>rw[J]at h;cases h
 |some A=>
  rw[J]at h;simp only at h;cases C:opsL o.op with
  |none=>rw[C]at h;cases h
  |some l=>
   rw[C]at h;simp only at h;obtain⟨O,h⟩:=Bf h;have key:VZ D q i A d=true:=by
    rcases y with y|⟨j,want,R,M,L,hd⟩
    ·have:=JX O _ (Agb C _ y);exact this
    ·rw[M]at h;simp only[L,hd]at h;exact h
   rcases Aev key K E with h|h
   ·exact .inl ⟨A,rfl,h⟩
   ·exact .inr h
theorem vA {ops:Array Oper} {D q:Tr Nat}:∀(l:List Oper) (p:Nat),jw ops D q l p=true->∀i o,l[i]? =some o->SP ops D q (p+i) o=true
 | [],p,_,i,o,hi=>by simp at hi
 |a::l,p,h,i,o,hi=>by
  have h':cond (SP ops D q p a) (fN (p+1) (jw ops D q l)) false=true:=h;cases y:SP ops D q p a with
  |false=>rw[y]at h';cases h'
  |true=>
   rw[y,cond_true,Bv]at h';cases i with
   |zero=>simp at hi;subst hi;exact y
   |succ i=>have:=vA l (p+1) h' i o (by simpa using hi);rwa[show p+1+i=p+(i+1) by omega]at this
def maskAt (q:Tr Nat) (i:Nat):Nat:=(q.get i).getD 0
theorem Y7 {q:Tr Nat} {i j:Nat}:(maskAt q i).testBit j=true↔∃A,q.get i=some A/\A.testBit j=true:=by
 unfold maskAt;cases q.get i with
 |none=>simp
 |some A=>simp
structure AaE (ops:Array Oper) (oo:Nat->Oper) (AT:Tr Nat):Prop where
 Cp:∀i j,i<ops.size->(maskAt AT i).testBit j=true->j<i/\∃e∈(oo i).after,Region.binds .any e=true/\(e.on=j\/(maskAt AT e.on).testBit j=true)
 Lg:∀i e,i<ops.size->e∈(oo i).after->Region.binds .any e=true->e.on<i
 dst:∀i j d,i<ops.size->j<ops.size->(oo i).dst=some d->(oo j).dst=some d->i=j
 look:∀i d k,i<ops.size->k<ops.size->looks ops (oo i) d->(oo k).dst=some d->k≠i->(maskAt AT i).testBit k=true\/(maskAt AT k).testBit i=true
theorem rb {ops:Array Oper} {oo:Nat->Oper} {Y:Tr Nat} (B:∀i,i<ops.size->ops[i]? =some (oo i)) (h:Vl ops=some Y):AaE ops oo Y:=by
 obtain⟨aa,y,R⟩:=Ag.1 h;obtain⟨D,h3,h4⟩:=Ag.1 R;obtain⟨h5,O⟩:=AL.1 h4;injection O with O;subst O;have q:∀i o,ops.toList[i]? =some o->oo (0+i)=o:=λi o hi=>by rw[Array.getElem?_toList]at hi;have V:i<ops.size:=(Array.getElem?_eq_some_iff.1 hi).1;have:=B i V;rw[hi]at this;rw[Nat.zero_add];exact(Option.some.inj this).symm
 have K:=v7 (oo:=oo) _ _ _ _ q y ⟨λi A hi=>(by rw[Tr.EK]at hi;cases hi),λi A hi=>(by rw[Tr.EK]at hi;cases hi),λi hi=>absurd hi (Nat.not_lt_zero i)⟩;have J:=kI (oo:=oo) _ _ _ _ q h3 (λi d hi=>absurd hi (Nat.not_lt_zero i));have E:0+ops.toList.length=ops.size:=by simp
 rw[E]at K J;refine⟨λi j hi L=>?_,λi e hi he M=>K.Lg i hi e he M,λi j d hi L y R=>?_,λi d k hi hk Z hd U=>?_⟩
 ·obtain⟨A,hA,W⟩:=Y7.1 L;obtain⟨y,e,he,M,S⟩:=K.Cp i A hA j W;refine⟨y,e,he,M,?_⟩;rcases S with h|h
  ·exact .inl h
  ·exact .inr (Y7.2 h)
 ·have a:=J i d hi y;have b:=J j d L R;rw[a]at b;injection b
 ·have C:=vA _ _ h5 i (oo i) (by rw[Array.getElem?_toList];exact B i hi);rw[Nat.zero_add]at C;rcases Aeu C Z (J k d hk hd) U with h|h
  ·exact .inl (Y7.2 h)
  ·exact .inr (Y7.2 h)
end Go.Ev
end
