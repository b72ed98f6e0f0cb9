/- Laid by program out of its parts: EvS. -/
import Derived.Test.YthallodoidghoaaGreatEvR
noncomputable section
set_option linter.unusedVariables false
set_option linter.unusedSimpArgs false
namespace Go.Ev
theorem LK (m i:Nat):tb m i=m.testBit i:=by
 unfold tb Nat.testBit;have h:Nat.land (Nat.shiftRight m i) 1=(m>>>i)&&& 1:=rfl;rw[h,Nat.and_one_is_mod];rcases Nat.mod_two_eq_zero_or_one (m>>>i)with e|e
 ·rw[e,Nat.and_comm,Nat.and_one_is_mod,e];rfl
 ·rw[e,Nat.and_comm,Nat.and_one_is_mod,e];rfl
theorem nv {α:Type} (f:α->Bool) (a:α) (l:List α):EH f (a::l)=cond (f a) (EH f l) false:=rfl
theorem JH {α:Type} {f:α->Bool}:∀ {l:List α},EH f l=true->∀x∈l,f x=true
 | [],_,x,h=>by cases h
 |a::l,h,x,r=>by
  rw[nv]at h;cases y:f a with
  |false=>rw[y]at h;cases h
  |true=>
   rw[y]at h;rcases Dp.1 r with rfl|r
   ·exact y
   ·exact JH h x r
theorem tX {J:Tr Nat} {p:Nat}:∀(l:List Edge) (m A:Nat),XE J p l m=some A-> (∀j,A.testBit j=true->m.testBit j=true\/∃e∈l,Region.binds .any e=true/\(e.on=j\/∃B,J.get e.on=some B/\B.testBit j=true))/\ ∀e∈l,Region.binds .any e=true->e.on<p
 | [],m,A,h=>by injection h with h;subst h;exact⟨λj z=>.inl z,λe S=>by cases S⟩
 |e::l,m,A,h=>by
  have h':cond (Region.binds .any e) (gd (Nat.blt e.on p) (ob (J.get e.on) λb=>fN (Nat.lor (Nat.lor m (2^e.on)) b) (XE J p l))) (XE J p l m)=some A:=h;cases hb:Region.binds .any e with
  |false=>
   rw[hb,cond_false]at h';obtain⟨K,L⟩:=tX l m A h';refine⟨λj z=>?_,λy r x=>?_⟩
   ·rcases K j z with h|⟨y,r,h⟩
    ·exact .inl h
    ·exact .inr ⟨y,EF _ r,h⟩
   ·rcases Dp.1 r with rfl|r
    ·rw[hb]at x;cases x
    ·exact L y r x
  |true=>
   rw[hb,cond_true]at h';obtain⟨K,L⟩:=AQ.1 h';obtain⟨b,W,R⟩:=Ai.1 L;rw[Bv]at R;rw[CE]at K;obtain⟨V,U⟩:=tX l _ A R;refine⟨λj z=>?_,λy r x=>?_⟩
   ·rcases V j z with h|⟨y,r,h⟩
    ·rw[show Nat.lor (Nat.lor m (2^e.on)) b=(m|||2^e.on)|||b from rfl,Nat.testBit_or,Nat.testBit_or,Bool.or_eq_true,Bool.or_eq_true]at h;rcases h with(h|h)|h
     ·exact .inl h
     ·rw[Nat.testBit_two_pow]at h;exact .inr ⟨e,EG ..,hb,.inl (by simpa using h)⟩
     ·exact .inr ⟨e,EG ..,hb,.inr ⟨b,W,h⟩⟩
    ·exact .inr ⟨y,EF _ r,h⟩
   ·rcases Dp.1 r with rfl|r
    ·exact K
    ·exact U y r x
structure BM (oo:Nat->Oper) (AT:Tr Nat) (p:Nat):Prop where
 lt:∀i A,AT.get i=some A->i<p
 Cj:∀i A,AT.get i=some A->∀j,A.testBit j=true->j<i/\∃e∈(oo i).after,Region.binds .any e=true/\(e.on=j\/∃B,AT.get e.on=some B/\B.testBit j=true)
 K8:∀i,i<p->∀e∈(oo i).after,Region.binds .any e=true->e.on<i
theorem Aco {oo:Nat->Oper}:∀(l:List Oper) (p:Nat) (J y:Tr Nat),(∀i o,l[i]? =some o->oo (p+i)=o)->tY l p J=some y->BM oo J p->BM oo y (p+l.length)
 | [],p,J,y,_,h,L=>by injection h with h;subst h;exact L
 |o::l,p,J,y,hl,h,L=>by
  obtain⟨A,h1,h2⟩:=Ai.1 (show(ob (XE J p o.after.toList 0) λA=>fN (p+1) λq=>tY l q (J.set p A))=some y from h);rw[Bv]at h2;obtain⟨h3,Z⟩:=tX _ _ _ h1;have S:oo p=o:=by have:=hl 0 o rfl;simpa using this
  have R:∀B,J.get p≠some B:=λB r=>absurd (L.lt p B r) (Nat.lt_irrefl p);have z:∀ {i B},J.get i=some B->(J.set p A).get i=some B:=λ{i B} r=>by rw[Tr.Uv _ (λe=>by subst e;exact R B r)];exact r
  have:=Aco (oo:=oo) l (p+1) (J.set p A) y (λi o' hi=>by have:=hl (i+1) o' (by simpa using hi);rwa[show p+(i+1)=p+1+i by omega]at this) h2 ⟨?_,?_,?_⟩
  ·rwa[show p+1+l.length=p+(o::l).length by simp;omega]at this
  ·intro i B r;rw[Tr.Gm]at r;split at r
   ·omega
   ·have:=L.lt i B r;omega
  ·intro i B r j Y;rw[Tr.Gm]at r;split at r
   ·rename_i V;subst V;injection r with r;subst r;rcases h3 j Y with h|⟨e,he,hb,x⟩
    ·simp at h
    ·have U:e∈o.after:=by simpa using he
     have aa:=Z e he hb;rw[S];rcases x with x|⟨B,r,K⟩
     ·exact⟨by omega,e,U,hb,.inl x⟩
     ·have:=(L.Cj e.on B r j K).1;exact⟨by omega,e,U,hb,.inr ⟨B,z r,K⟩⟩
   ·obtain⟨h5,e,he,hb,x⟩:=L.Cj i B r j Y;refine⟨h5,e,he,hb,?_⟩;rcases x with x|⟨B,r,K⟩
    ·exact .inl x
    ·exact .inr ⟨B,z r,K⟩
  ·intro i hi e he hb;by_cases W:i=p
   ·subst W;rw[S]at he;exact Z e (by simpa using he) hb
   ·exact L.K8 i (by omega) e he hb
theorem tZ {oo:Nat->Oper}:∀(l:List Oper) (p:Nat) (D x:Tr Nat),(∀i o,l[i]? =some o->oo (p+i)=o)->eL l p D=some x-> (∀i d,i<p->(oo i).dst=some d->D.get d=some i)->∀i d,i<p+l.length->(oo i).dst=some d->x.get d=some i
 | [],p,D,x,_,h,K=>by injection h with h;subst h;exact K
 |o::l,p,D,x,hl,h,K=>by
  have z:(fN (p+1) λq=>match o.dst with
   |none=>eL l q D
   |some d=>gd (D.get d).isNone (eL l q (D.set d p)))=some x:=h
  rw[Bv]at z;have B:oo p=o:=by have:=hl 0 o rfl;simpa using this
  have J:∀i o',l[i]? =some o'->oo (p+1+i)=o':=λi o' hi=>by have:=hl (i+1) o' (by simpa using hi);rwa[show p+(i+1)=p+1+i by omega]at this
  rw[show p+(o::l).length=p+1+l.length by simp;omega];cases hd:o.dst with
  |none=>
   rw[hd]at z;refine tZ l (p+1) D x J z λi d hi r=>?_;by_cases y:i=p
   ·subst y;rw[B,hd]at r;cases r
   ·exact K i d (by omega) r
  |some d0=>
   rw[hd]at z;obtain⟨L,R⟩:=AQ.1 z;refine tZ l (p+1) _ x J R λi d hi r=>?_;by_cases y:i=p
   ·subst y;rw[B,hd]at r;injection r with r;subst r;rw[Tr.PS]
   ·have:=K i d (by omega) r;rw[Tr.Uv _ (λe=>by subst e;rw[this]at L;cases L)];exact this
theorem Alu {op:Op} {l:List Operand} (h:opsL op=some l):∀x∈op.operands,x∈l:=by
 cases op<;>simp only[opsL]at h<;>first|(cases h;done)|skip
 case call c=>
  obtain⟨r,args,z⟩:=c;cases r with
  |value f=>injection h with h;subst h;intro x y;simpa[Op.operands,Call.operands]using y
  |builtin b=>injection h with h;subst h;intro x y;simpa[Op.operands,Call.operands]using y
  |invoke _ _=>cases h
 all_goals (injection h with h;subst h;intro x y;simp[Op.operands]at y⊢;try exact y)
theorem Ajk {D r:Tr Nat} {i A d k:Nat} (h:XC D r i A d=true) (K:D.get d=some k) (x:k≠i):A.testBit k=true\/∃B,r.get k=some B/\B.testBit i=true:=by
 unfold XC at h;rw[K]at h;simp only at h;cases J:Nat.beq k i with
 |true=>exact absurd (D4 J) x
 |false=>
  rw[J,cond_false]at h;cases z:tb A k with
  |true=>exact .inl (by rw[<-LK];exact z)
  |false=>
   rw[z,cond_false]at h;cases y:r.get k with
   |none=>rw[y]at h;cases h
   |some B=>rw[y]at h;exact .inr ⟨B,rfl,by rw[<-LK];exact h⟩
theorem Ajj {ops:Array Oper} {D r:Tr Nat} {i:Nat} {o:Oper} (h:UH ops D r i o=true) {d k:Nat} (hl:looks ops o d) (J:D.get d=some k) (y:k≠i): (∃A,r.get i=some A/\A.testBit k=true)\/∃B,r.get k=some B/\B.testBit i=true:=by
 unfold UH at h;cases z:r.get i with
 |none=>rw[z]at h;cases h
 |some A=>
  rw[z]at h;simp only at h;cases x:opsL o.op with
  |none=>rw[x]at h;cases h
  |some l=>
   rw[x]at h;simp only at h;obtain⟨R,h⟩:=BG h;have key:XC D r i A d=true:=by
    rcases hl with hl|⟨j,want,S,L,K,hd⟩
    ·have:=JH R _ (Alu x _ hl);exact this
    ·rw[L]at h;simp only[K,hd]at h;exact h
   rcases Ajk key J y with h|h
   ·exact .inl ⟨A,rfl,h⟩
   ·exact .inr h
theorem Ab9 {ops:Array Oper} {D r:Tr Nat}:∀(l:List Oper) (p:Nat),tT ops D r l p=true->∀i o,l[i]? =some o->UH ops D r (p+i) o=true
 | [],p,_,i,o,hi=>by simp at hi
 |a::l,p,h,i,o,hi=>by
  have h':cond (UH ops D r p a) (fN (p+1) (tT ops D r l)) false=true:=h;cases x:UH ops D r p a with
  |false=>rw[x]at h';cases h'
  |true=>
   rw[x,cond_true,Bv]at h';cases i with
   |zero=>simp at hi;subst hi;exact x
   |succ i=>have:=Ab9 l (p+1) h' i o (by simpa using hi);rwa[show p+1+i=p+(i+1) by omega]at this
def EL (r:Tr Nat) (i:Nat):Nat:=(r.get i).getD 0
theorem eF {r:Tr Nat} {i j:Nat}:(EL r i).testBit j=true↔∃A,r.get i=some A/\A.testBit j=true:=by
 unfold EL;cases r.get i with
 |none=>simp
 |some A=>simp
structure Agn (ops:Array Oper) (oo:Nat->Oper) (AT:Tr Nat):Prop where
 Cj:∀i j,i<ops.size->(EL AT i).testBit j=true->j<i/\∃e∈(oo i).after,Region.binds .any e=true/\(e.on=j\/(EL AT e.on).testBit j=true)
 K8:∀i e,i<ops.size->e∈(oo i).after->Region.binds .any e=true->e.on<i
 dst:∀i j d,i<ops.size->j<ops.size->(oo i).dst=some d->(oo j).dst=some d->i=j
 look:∀i d k,i<ops.size->k<ops.size->looks ops (oo i) d->(oo k).dst=some d->k≠i->(EL AT i).testBit k=true\/(EL AT k).testBit i=true
theorem zk {ops:Array Oper} {oo:Nat->Oper} {Z:Tr Nat} (y:∀i,i<ops.size->ops[i]? =some (oo i)) (h:WZ ops=some Z):Agn ops oo Z:=by
 obtain⟨aa,x,S⟩:=Ai.1 h;obtain⟨D,h3,h4⟩:=Ai.1 S;obtain⟨h5,R⟩:=AQ.1 h4;injection R with R;subst R;have r:∀i o,ops.toList[i]? =some o->oo (0+i)=o:=λi o hi=>by rw[Array.getElem?_toList]at hi;have W:i<ops.size:=(Array.getElem?_eq_some_iff.1 hi).1;have:=y i W;rw[hi]at this;rw[Nat.zero_add];exact(Option.some.inj this).symm
 have K:=Aco (oo:=oo) _ _ _ _ r x ⟨λi A hi=>(by rw[Tr.Cy]at hi;cases hi),λi A hi=>(by rw[Tr.Cy]at hi;cases hi),λi hi=>absurd hi (Nat.not_lt_zero i)⟩;have J:=tZ (oo:=oo) _ _ _ _ r h3 (λi d hi=>absurd hi (Nat.not_lt_zero i));have B:0+ops.toList.length=ops.size:=by simp
 rw[B]at K J;refine⟨λi j hi L=>?_,λi e hi he hb=>K.K8 i hi e he hb,λi j d hi L x S=>?_,λi d k hi hk hl hd V=>?_⟩
 ·obtain⟨A,hA,Y⟩:=eF.1 L;obtain⟨x,e,he,hb,U⟩:=K.Cj i A hA j Y;refine⟨x,e,he,hb,?_⟩;rcases U with h|h
  ·exact .inl h
  ·exact .inr (eF.2 h)
 ·have a:=J i d hi x;have b:=J j d L S;rw[a]at b;injection b
 ·have z:=Ab9 _ _ h5 i (oo i) (by rw[Array.getElem?_toList];exact y i hi);rw[Nat.zero_add]at z;rcases Ajj z hl (J k d hk hd) V with h|h
  ·exact .inl (eF.2 h)
  ·exact .inr (eF.2 h)
end Go.Ev
end
