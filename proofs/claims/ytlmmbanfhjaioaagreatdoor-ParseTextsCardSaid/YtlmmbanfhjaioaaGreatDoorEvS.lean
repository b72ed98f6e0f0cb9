/- Laid by program out of its parts: EvS. -/
import Derived.Test.YtlmmbanfhjaioaaGreatDoorEvR
noncomputable section
set_option linter.unusedVariables false
set_option linter.unusedSimpArgs false
/- The evaluator, part S: the region's table from its run: the still part. -/
namespace Go.Ev
theorem LF (m i:Nat):tb m i=m.testBit i:=by
 unfold tb Nat.testBit;have h:Nat.land (Nat.shiftRight m i) 1=(m>>>i)&&& 1:=rfl;rw[h,Nat.and_one_is_mod];rcases Nat.mod_two_eq_zero_or_one (m>>>i)with e|e
 ·rw[e,Nat.and_comm,Nat.and_one_is_mod,e];rfl
 ·rw[e,Nat.and_comm,Nat.and_one_is_mod,e];rfl
theorem uV {α:Type} (f:α->Bool) (a:α) (l:List α):Fu f (a::l)=cond (f a) (Fu f l) false:=rfl
theorem JP {α:Type} {f:α->Bool}:∀ {l:List α},Fu f l=true->∀x∈l,f x=true
 | [],_,x,h=>by cases h
 |a::l,h,x,q=>by
  rw[uV]at h;cases y:f a with
  |false=>rw[y]at h;cases h
  |true=>
   rw[y]at h;rcases List.mem_cons.1 q with rfl|q
   ·exact y
   ·exact JP h x q
theorem oV {J:Tr Nat} {p:Nat}:∀(l:List Edge) (m A:Nat),W3 J p l m=some A-> (∀j,A.testBit j=true->m.testBit j=true\/∃e∈l,Region.binds .any e=true/\(e.on=j\/∃B,J.get e.on=some B/\B.testBit j=true))/\ ∀e∈l,Region.binds .any e=true->e.on<p
 | [],m,A,h=>by injection h with h;subst h;exact⟨λj E=>.inl E,λe O=>by cases O⟩
 |e::l,m,A,h=>by
  have h':cond (Region.binds .any e) (gd (Nat.blt e.on p) (ob (J.get e.on) λb=>fN (Nat.lor (Nat.lor m (2^e.on)) b) (W3 J p l))) (W3 J p l m)=some A:=h;cases hb:Region.binds .any e with
  |false=>
   rw[hb,cond_false]at h';obtain⟨K,L⟩:=oV l m A h';refine⟨λj E=>?_,λC q y=>?_⟩
   ·rcases K j E with h|⟨C,q,h⟩
    ·exact .inl h
    ·exact .inr ⟨C,List.mem_cons_of_mem _ q,h⟩
   ·rcases List.mem_cons.1 q with rfl|q
    ·rw[hb]at y;cases y
    ·exact L C q y
  |true=>
   rw[hb,cond_true]at h';obtain⟨K,L⟩:=AK.1 h';obtain⟨b,U,M⟩:=Ae.1 L;rw[Bu]at M;rw[Nat.blt_eq]at K;obtain⟨S,R⟩:=oV l _ A M;refine⟨λj E=>?_,λC q y=>?_⟩
   ·rcases S j E with h|⟨C,q,h⟩
    ·rw[show Nat.lor (Nat.lor m (2^e.on)) b=(m|||2^e.on)|||b from rfl,Nat.testBit_or,Nat.testBit_or,Bool.or_eq_true,Bool.or_eq_true]at h;rcases h with(h|h)|h
     ·exact .inl h
     ·rw[Nat.testBit_two_pow]at h;exact .inr ⟨e,List.mem_cons_self ..,hb,.inl (by simpa using h)⟩
     ·exact .inr ⟨e,List.mem_cons_self ..,hb,.inr ⟨b,U,h⟩⟩
    ·exact .inr ⟨C,List.mem_cons_of_mem _ q,h⟩
   ·rcases List.mem_cons.1 q with rfl|q
    ·exact K
    ·exact R C q y
structure tY (oo:Nat->Oper) (AT:Tr Nat) (p:Nat):Prop where
 lt:∀i A,AT.get i=some A->i<p
 Cj:∀i A,AT.get i=some A->∀j,A.testBit j=true->j<i/\∃e∈(oo i).after,Region.binds .any e=true/\(e.on=j\/∃B,AT.get e.on=some B/\B.testBit j=true)
 K8:∀i,i<p->∀e∈(oo i).after,Region.binds .any e=true->e.on<i
theorem zl {oo:Nat->Oper}:∀(l:List Oper) (p:Nat) (K E:Tr Nat),(∀i o,l[i]? =some o->oo (p+i)=o)->oW l p K=some E->tY oo K p->tY oo E (p+l.length)
 | [],p,K,E,_,h,M=>by injection h with h;subst h;exact M
 |o::l,p,K,E,W,h,M=>by
  obtain⟨A,h1,h2⟩:=Ae.1 (show(ob (W3 K p o.after.toList 0) λA=>fN (p+1) λq=>oW l q (K.set p A))=some E from h);rw[Bu]at h2;obtain⟨h3,Z⟩:=oV _ _ _ h1;have R:oo p=o:=by have:=W 0 o rfl;simpa using this
  have O:∀B,K.get p≠some B:=λB y=>absurd (M.lt p B y) (Nat.lt_irrefl p);have J:∀ {i B},K.get i=some B->(K.set p A).get i=some B:=λ{i B} y=>by rw[Tr.Ks _ (λe=>by subst e;exact O B y)];exact y
  have:=zl (oo:=oo) l (p+1) (K.set p A) E (λi o' hi=>by have:=W (i+1) o' (by simpa using hi);rwa[show p+(i+1)=p+1+i by omega]at this) h2 ⟨?_,?_,?_⟩
  ·rwa[show p+1+l.length=p+(o::l).length by simp;omega]at this
  ·intro i B y;rw[Tr.F6]at y;split at y
   ·omega
   ·have:=M.lt i B y;omega
  ·intro i B y j Y;rw[Tr.F6]at y;split at y
   ·rename_i U;subst U;injection y with y;subst y;rcases h3 j Y with h|⟨e,he,hb,C⟩
    ·simp at h
    ·have S:e∈o.after:=by simpa using he
     have aa:=Z e he hb;rw[R];rcases C with C|⟨B,y,L⟩
     ·exact⟨by omega,e,S,hb,.inl C⟩
     ·have:=(M.Cj e.on B y j L).1;exact⟨by omega,e,S,hb,.inr ⟨B,J y,L⟩⟩
   ·obtain⟨h5,e,he,hb,C⟩:=M.Cj i B y j Y;refine⟨h5,e,he,hb,?_⟩;rcases C with C|⟨B,y,L⟩
    ·exact .inl C
    ·exact .inr ⟨B,J y,L⟩
  ·intro i hi e he hb;by_cases V:i=p
   ·subst V;rw[R]at he;exact Z e (by simpa using he) hb
   ·exact M.K8 i (by omega) e he hb
theorem oX {oo:Nat->Oper}:∀(l:List Oper) (p:Nat) (D B:Tr Nat),(∀i o,l[i]? =some o->oo (p+i)=o)->cX l p D=some B-> (∀i d,i<p->(oo i).dst=some d->D.get d=some i)->∀i d,i<p+l.length->(oo i).dst=some d->B.get d=some i
 | [],p,D,B,_,h,L=>by injection h with h;subst h;exact L
 |o::l,p,D,B,M,h,L=>by
  have E:(fN (p+1) λq=>match o.dst with
   |none=>cX l q D
   |some d=>gd (D.get d).isNone (cX l q (D.set d p)))=some B:=h
  rw[Bu]at E;have J:oo p=o:=by have:=M 0 o rfl;simpa using this
  have K:∀i o',l[i]? =some o'->oo (p+1+i)=o':=λi o' hi=>by have:=M (i+1) o' (by simpa using hi);rwa[show p+(i+1)=p+1+i by omega]at this
  rw[show p+(o::l).length=p+1+l.length by simp;omega];cases hd:o.dst with
  |none=>
   rw[hd]at E;refine oX l (p+1) D B K E λi d hi y=>?_;by_cases C:i=p
   ·subst C;rw[J,hd]at y;cases y
   ·exact L i d (by omega) y
  |some d0=>
   rw[hd]at E;obtain⟨O,R⟩:=AK.1 E;refine oX l (p+1) _ B K R λi d hi y=>?_;by_cases C:i=p
   ·subst C;rw[J,hd]at y;injection y with y;subst y;rw[Tr.F7]
   ·have:=L i d (by omega) y;rw[Tr.Ks _ (λe=>by subst e;rw[this]at O;cases O)];exact this
theorem Ajj {op:Op} {l:List Operand} (h:opsL op=some l):∀x∈op.operands,x∈l:=by
 cases op<;>simp only[opsL]at h<;>first|(cases h;done)|skip
 case call c=>
  obtain⟨q,args,B⟩:=c;cases q with
  |value f=>injection h with h;subst h;intro x y;simpa[Op.operands,Call.operands]using y
  |builtin b=>injection h with h;subst h;intro x y;simpa[Op.operands,Call.operands]using y
  |invoke _ _=>cases h
 all_goals (injection h with h;subst h;intro x y;simp[Op.operands]at y⊢;try exact y)
theorem Ag5 {D q:Tr Nat} {i A d k:Nat} (h:WY D q i A d=true) (K:D.get d=some k) (y:k≠i):A.testBit k=true\/∃B,q.get k=some B/\B.testBit i=true:=by
 unfold WY at h;rw[K]at h;simp only at h;cases J:Nat.beq k i with
 |true=>exact absurd (Nat.eq_of_beq_eq_true J) y
 |false=>
  rw[J,cond_false]at h;cases E:tb A k with
  |true=>exact .inl (by rw[<-LF];exact E)
  |false=>
   rw[E,cond_false]at h;cases C:q.get k with
   |none=>rw[C]at h;cases h
   |some B=>rw[C]at h;exact .inr ⟨B,rfl,by rw[<-LF];exact h⟩
theorem Ag4 {ops:Array Oper} {D q:Tr Nat} {i:Nat} {o:Oper} (h:TF ops D q i o=true) {d k:Nat} (y:looks ops o d) (K:D.get d=some k) (E:k≠i): (∃A,q.get i=some A/\A.testBit k=true)\/∃B,q.get k=some B/\B.testBit i=true:=by
 unfold TF at h;cases J:q.get i with
 |none=>rw[J]at h;cases h
 |some A=>
  rw[J]at h;simp only at h;cases C:opsL o.op with
  |none=>rw[C]at h;cases h
  |some l=>
   rw[C]at h;simp only at h;obtain⟨O,h⟩:=A4 h;have key:WY D q i A d=true:=by
    rcases y with y|⟨j,want,R,M,L,hd⟩
    ·have:=JP O _ (Ajj C _ y);exact this
    ·rw[M]at h;simp only[L,hd]at h;exact h
   rcases Ag5 key K E with h|h
   ·exact .inl ⟨A,rfl,h⟩
   ·exact .inr h
theorem zW {ops:Array Oper} {D q:Tr Nat}:∀(l:List Oper) (p:Nat),oP ops D q l p=true->∀i o,l[i]? =some o->TF ops D q (p+i) o=true
 | [],p,_,i,o,hi=>by simp at hi
 |a::l,p,h,i,o,hi=>by
  have h':cond (TF ops D q p a) (fN (p+1) (oP ops D q l)) false=true:=h;cases y:TF ops D q p a with
  |false=>rw[y]at h';cases h'
  |true=>
   rw[y,cond_true,Bu]at h';cases i with
   |zero=>simp at hi;subst hi;exact y
   |succ i=>have:=zW l (p+1) h' i o (by simpa using hi);rwa[show p+1+i=p+(i+1) by omega]at this
def maskAt (q:Tr Nat) (i:Nat):Nat:=(q.get i).getD 0
theorem cS {q:Tr Nat} {i j:Nat}:(maskAt q i).testBit j=true↔∃A,q.get i=some A/\A.testBit j=true:=by
 unfold maskAt;cases q.get i with
 |none=>simp
 |some A=>simp
structure AdA (ops:Array Oper) (oo:Nat->Oper) (AT:Tr Nat):Prop where
 Cj:∀i j,i<ops.size->(maskAt AT i).testBit j=true->j<i/\∃e∈(oo i).after,Region.binds .any e=true/\(e.on=j\/(maskAt AT e.on).testBit j=true)
 K8:∀i e,i<ops.size->e∈(oo i).after->Region.binds .any e=true->e.on<i
 dst:∀i j d,i<ops.size->j<ops.size->(oo i).dst=some d->(oo j).dst=some d->i=j
 look:∀i d k,i<ops.size->k<ops.size->looks ops (oo i) d->(oo k).dst=some d->k≠i->(maskAt AT i).testBit k=true\/(maskAt AT k).testBit i=true
theorem wZ {ops:Array Oper} {oo:Nat->Oper} {W:Tr Nat} (B:∀i,i<ops.size->ops[i]? =some (oo i)) (h:Wc ops=some W):AdA ops oo W:=by
 obtain⟨aa,y,O⟩:=Ae.1 h;obtain⟨D,h3,h4⟩:=Ae.1 O;obtain⟨h5,M⟩:=AK.1 h4;injection M with M;subst M;have q:∀i o,ops.toList[i]? =some o->oo (0+i)=o:=λi o hi=>by rw[Array.getElem?_toList]at hi;have U:i<ops.size:=(Array.getElem?_eq_some_iff.1 hi).1;have:=B i U;rw[hi]at this;rw[Nat.zero_add];exact(Option.some.inj this).symm
 have K:=zl (oo:=oo) _ _ _ _ q y ⟨λi A hi=>(by rw[Tr.Em]at hi;cases hi),λi A hi=>(by rw[Tr.Em]at hi;cases hi),λi hi=>absurd hi (Nat.not_lt_zero i)⟩;have J:=oX (oo:=oo) _ _ _ _ q h3 (λi d hi=>absurd hi (Nat.not_lt_zero i));have E:0+ops.toList.length=ops.size:=by simp
 rw[E]at K J;refine⟨λi j hi L=>?_,λi e hi he hb=>K.K8 i hi e he hb,λi j d hi L y O=>?_,λi d k hi Z Y hd S=>?_⟩
 ·obtain⟨A,hA,V⟩:=cS.1 L;obtain⟨y,e,he,hb,R⟩:=K.Cj i A hA j V;refine⟨y,e,he,hb,?_⟩;rcases R with h|h
  ·exact .inl h
  ·exact .inr (cS.2 h)
 ·have a:=J i d hi y;have b:=J j d L O;rw[a]at b;injection b
 ·have C:=zW _ _ h5 i (oo i) (by rw[Array.getElem?_toList];exact B i hi);rw[Nat.zero_add]at C;rcases Ag4 C Y (J k d Z hd) S with h|h
  ·exact .inl (cS.2 h)
  ·exact .inr (cS.2 h)
end Go.Ev
end
