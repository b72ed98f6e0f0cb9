/- Laid by program out of its parts: EcT. -/
import Derived.Test.YtfnieibeimklcaaGreatDoorEcS
set_option linter.unusedVariables false
set_option linter.unusedSimpArgs false
/- The evaluator, part T: the region's table from its run. -/
namespace Go.EvC
structure DStep (P:Program) (call:CallF) (ops:Array Oper) (N r0:Nat) (A p:Nat) (o:Oper) (σ σ':DS) (r:DRec):Prop where
 ei:r.i=p
 eo:r.o=o
 eA:r.A=A
 eT:r.T=σ.T
 eH:r.H=σ'.H
 ec:r.cc=σ'.cc
 put:evPut N σ.T o.dst r.v=some σ'.T
 hv:r.k = .heavy→r∈σ'.hvs
 hvk:∀ x∈σ.hvs,x∈σ'.hvs
 hvS:∀ x∈σ'.hvs,x∈σ.hvs∨(x=r∧r.k = .heavy)
 nw:∀ b,r.k = .new b→r∈σ'.news
 nwk:∀ x∈σ.news,x∈σ'.news
 nwS:∀ x∈σ'.news,x∈σ.news∨(x=r∧∃ b,r.k = .new b)
 rd:r.k = .pure→readsH o.op=true→r∈σ'.reads
 rdk:∀ x∈σ.reads,x∈σ'.reads
 kind:match r.k with
  | .off=>evWanted ops σ.T o=some false∧r.v = .tup []∧σ'.H=σ.H∧σ'.nx=σ.nx∧σ'.cc=σ.cc
  | .pure=>evWanted ops σ.T o=some true∧σ'.H=σ.H∧σ'.nx=σ.nx∧σ'.cc=σ.cc∧evPure2 P (viewF σ.news σ.hvs A p r0 σ.H) (opd σ.T) o.op=some r.v
  | .new b=>evWanted ops σ.T o=some true∧σ'.H=σ.H∧σ'.nx=σ.nx∧σ'.cc=σ.cc∧evNew P (opd σ.T) (r0 + p) o.op=some (r.v,b)
  | .heavy=>evWanted ops σ.T o=some true∧σ'.cc=p + 1∧(∀ h∈σ.hvs,A.testBit h.i=true) ∧
    evHeavy P call (opd σ.T) (viewF σ.news σ.hvs A p r0 σ.H) (r0 + p) σ.nx o.op=some (.mk r.v σ'.H σ'.nx)∧σ.pn=none
  | .dead=>isDead σ.pn A=true∧r.v = .tup []∧σ'.H=σ.H∧σ'.nx=σ.nx∧σ'.cc=σ.cc
  | .pan v H nx=>evWanted ops σ.T o=some true∧σ'.H=σ.H∧σ'.nx=σ.nx∧σ'.cc=σ.cc∧(∀ h∈σ.hvs,A.testBit h.i=true) ∧
    evHeavy P call (opd σ.T) (viewF σ.news σ.hvs A p r0 σ.H) (r0 + p) σ.nx o.op=some (.pan v H nx)∧σ.pn=none
 pk:σ'.pn=match r.k with
  | .pan v H nx=>some ⟨p,A,v,H,nx⟩
  | _=>σ.pn
theorem dput_sound {N p:Nat} {o:Oper} {A:Nat} {σ σ':DS} {k:DK} {v:AV} {H:Tr AObj} {nx cc:Nat} (h:dput N p o A σ k v H nx cc=some σ') :
  evPut N σ.T o.dst v=some σ'.T∧σ'.H=H∧σ'.nx=nx∧σ'.cc=cc ∧
   σ'.hvs=(match k with | .heavy=>⟨p,o,A,σ.T,k,v,H,cc⟩ :: σ.hvs | _=>σ.hvs) ∧
   σ'.news=(match k with | .new _=>⟨p,o,A,σ.T,k,v,H,cc⟩ :: σ.news | _=>σ.news) ∧
   σ'.reads=(match k with | .pure=>cond (readsH o.op) (⟨p,o,A,σ.T,k,v,H,cc⟩ :: σ.reads) σ.reads | _=>σ.reads) ∧
   σ'.pn=(match k with | .pan v H nx=>some ⟨p,A,v,H,nx⟩ | _=>σ.pn):=by
 obtain ⟨T,hT,h1⟩:=ob_some.1 h
 injection h1 with h1
 cases k with
 | off=>subst h1;exact ⟨hT,rfl,rfl,rfl,rfl,rfl,rfl,rfl⟩
 | dead=>subst h1;exact ⟨hT,rfl,rfl,rfl,rfl,rfl,rfl,rfl⟩
 | pan _ _ _=>subst h1;exact ⟨hT,rfl,rfl,rfl,rfl,rfl,rfl,rfl⟩
 | pure =>
  simp only at h1
  by_cases hr:readsH o.op=true
  ·rw [hr,cond_true] at h1
   subst h1
   simp only [hr,cond_true]
   exact ⟨hT,trivial,trivial,trivial,trivial,trivial,trivial,trivial⟩
  ·rw [Bool.not_eq_true] at hr
   rw [hr,cond_false] at h1
   subst h1
   simp only [hr,cond_false]
   exact ⟨hT,trivial,trivial,trivial,trivial,trivial,trivial,trivial⟩
 | new b=>subst h1;exact ⟨hT,rfl,rfl,rfl,rfl,rfl,rfl,rfl⟩
 | heavy=>subst h1;exact ⟨hT,rfl,rfl,rfl,rfl,rfl,rfl,rfl⟩
theorem dstep_of_put {P:Program} {call:CallF} {ops:Array Oper} {N r0 p:Nat} {o:Oper} {A:Nat} {σ σ':DS} {k:DK} {v:AV} {H:Tr AObj} {nx cc:Nat} (h:dput N p o A σ k v H nx cc=some σ')
  (hk:match k with
  | .off=>evWanted ops σ.T o=some false∧v = .tup []∧H=σ.H∧nx=σ.nx∧cc=σ.cc
  | .pure=>evWanted ops σ.T o=some true∧H=σ.H∧nx=σ.nx∧cc=σ.cc∧evPure2 P (viewF σ.news σ.hvs A p r0 σ.H) (opd σ.T) o.op=some v
  | .new b=>evWanted ops σ.T o=some true∧H=σ.H∧nx=σ.nx∧cc=σ.cc∧evNew P (opd σ.T) (r0 + p) o.op=some (v,b)
  | .heavy=>evWanted ops σ.T o=some true∧cc=p + 1∧(∀ h∈σ.hvs,A.testBit h.i=true) ∧
    evHeavy P call (opd σ.T) (viewF σ.news σ.hvs A p r0 σ.H) (r0 + p) σ.nx o.op=some (.mk v H nx)∧σ.pn=none
  | .dead=>isDead σ.pn A=true∧v = .tup []∧H=σ.H∧nx=σ.nx∧cc=σ.cc
  | .pan v' H' nx'=>evWanted ops σ.T o=some true∧H=σ.H∧nx=σ.nx∧cc=σ.cc∧(∀ h∈σ.hvs,A.testBit h.i=true) ∧
    evHeavy P call (opd σ.T) (viewF σ.news σ.hvs A p r0 σ.H) (r0 + p) σ.nx o.op=some (.pan v' H' nx')∧σ.pn=none):DStep P call ops N r0 A p o σ σ' ⟨p,o,A,σ.T,k,v,H,cc⟩:=by
 obtain ⟨h1,h2,h3,h4,h5,h6,h7,h8⟩:=dput_sound h
 refine ⟨rfl,rfl,rfl,rfl,h2.symm,h4.symm,h1,?_,?_,?_,?_,?_,?_,?_,?_,?_,by rw [h8];cases k <;> rfl⟩
 ·rintro rfl;rw [h5];exact List.mem_cons_self ..
 ·intro x hx;rw [h5];cases k <;> first | exact hx | exact List.mem_cons_of_mem _ hx
 ·intro x hx;rw [h5] at hx
  cases k <;> first | exact .inl hx | (rcases List.mem_cons.1 hx with rfl | hx;exact .inr ⟨rfl,rfl⟩;exact .inl hx)
 ·rintro b rfl;rw [h6];exact List.mem_cons_self ..
 ·intro x hx;rw [h6];cases k <;> first | exact hx | exact List.mem_cons_of_mem _ hx
 ·intro x hx;rw [h6] at hx
  cases k <;> first | exact .inl hx | (rcases List.mem_cons.1 hx with rfl | hx;exact .inr ⟨rfl,_,rfl⟩;exact .inl hx)
 ·rintro rfl hr;rw [h7];simp only [hr,cond_true];exact List.mem_cons_self ..
 ·intro x hx;rw [h7]
  cases k <;> first | exact hx | (simp only;cases readsH o.op;exact hx;exact List.mem_cons_of_mem _ hx)
 ·subst h2;subst h3;subst h4
  cases k <;> exact hk
theorem dstep_sound {P:Program} {call:CallF} {ops:Array Oper} {N r0:Nat} {AT:Tr Nat} {p:Nat} {o:Oper} {σ σ':DS} (h:dstep P call ops N r0 AT p o σ=some σ') :
  ∃ r,DStep P call ops N r0 (maskAt AT p) p o σ σ' r:=by
 obtain ⟨A,hA,h1⟩:=ob_some.1 h
 have hAA:maskAt AT p=A:=by unfold maskAt;rw [hA];rfl
 rw [hAA]
 clear h
 cases hdd:isDead σ.pn A with
 | true =>
  rw [hdd,cond_true] at h1
  exact ⟨_,dstep_of_put h1 ⟨hdd,rfl,rfl,rfl,rfl⟩⟩
 | false =>
 rw [hdd,cond_false] at h1
 obtain ⟨wd,hw,h2⟩:=ob_some.1 h1
 clear h1
 cases wd with
 | false =>
  rw [cond_false] at h2
  exact ⟨_,dstep_of_put h2 ⟨hw,rfl,rfl,rfl,rfl⟩⟩
 | true =>
  rw [cond_true] at h2
  cases hp:evPure2 P (viewF σ.news σ.hvs A p r0 σ.H) (opd σ.T) o.op with
  | some v =>
   rw [hp] at h2
   exact ⟨_,dstep_of_put h2 ⟨hw,rfl,rfl,rfl,hp⟩⟩
  | none =>
   rw [hp] at h2
   simp only [fN_eq] at h2
   cases hn:evNew P (opd σ.T) (r0 + p) o.op with
   | some q =>
    rw [hn] at h2
    exact ⟨_,dstep_of_put h2 ⟨hw,rfl,rfl,rfl,hn⟩⟩
   | none =>
    rw [hn] at h2
    obtain ⟨h3,h4⟩:=gd_some.1 h2
    obtain ⟨hpn,h4⟩:=gd_some.1 h4
    obtain ⟨r,h5,h6⟩:=ob_some.1 h4
    have hpn':σ.pn=none:=by simpa using hpn
    cases r with
    | pan v H nx =>
     exact ⟨_,dstep_of_put (show dput N p o A σ (.pan v H nx) (.tup []) σ.H σ.nx σ.cc=some σ' from h6) ⟨hw,rfl,rfl,rfl,fun h hh=>by rw [← tb_eq];exact allL_all h3 h hh,h5,hpn'⟩⟩
    | dfr _ _ _ _=>cases h6
    | mk v H nx =>
    exact ⟨_,dstep_of_put (show dput N p o A σ .heavy v H nx (p + 1)=some σ' from h6) ⟨hw,rfl,fun h hh=>by rw [← tb_eq];exact allL_all h3 h hh,h5,hpn'⟩⟩
theorem cutT_get {A:Nat}:∀ (l:List Oper) (k:Nat) (T:Tr AV) (d:Nat) (b:AV),(cutT A l k T).get d=some b→T.get d=some b∧∀ j o,l[j]? = some o→o.dst=some d→A.testBit (k + j)=true
 | [],_,_,_,_,h=>⟨h,fun j o hj=>by simp at hj⟩
 | o :: l,k,T,d,b,h=>by
  have h':(match o.dst with
   | none=>cutT A l (k + 1) T
   | some d=>cond (tb A k) (cutT A l (k + 1) T) (cutT A l (k + 1) (T.del d))).get d=some b:=by
   have h0:(fN (k + 1) fun k'=>match o.dst with
    | none=>cutT A l k' T
    | some d=>cond (tb A k) (cutT A l k' T) (cutT A l k' (T.del d))).get d=some b:=h
   rwa [fN_eq] at h0
  have rest:∀ T',(cutT A l (k + 1) T').get d=some b→T'.get d=some b∧∀ j o,l[j]? = some o→o.dst=some d→A.testBit (k + 1 + j)=true:=fun T' h=>cutT_get l (k + 1) T' d b h
  have fin:(T.get d=some b∧∀ j o,l[j]? = some o→o.dst=some d→A.testBit (k + 1 + j)=true)→(o.dst=some d→A.testBit k=true)→T.get d=some b∧∀ j o',(o :: l)[j]? = some o'→o'.dst=some d→A.testBit (k + j)=true:=fun h1 h2=>by
   refine ⟨h1.1,fun j o' hj hd=>?_⟩
   cases j with
   | zero=>simp at hj;subst hj;exact h2 hd
   | succ j=>rw [show k + (j + 1)=k + 1 + j by omega];exact h1.2 j o' (by simpa using hj) hd
  split at h'
  ·rename_i hd
   exact fin (rest _ h') fun e=>by rw [hd] at e;cases e
  ·rename_i d' hd
   cases ht:tb A k with
   | true =>
    rw [ht,cond_true] at h'
    exact fin (rest _ h') fun _=>by rw [← tb_eq];exact ht
   | false =>
    rw [ht,cond_false] at h'
    obtain ⟨h1,h2⟩:=rest _ h'
    rw [Tr.get_del] at h1
    by_cases hdd:d'=d
    ·rw [if_pos hdd] at h1;cases h1
    ·rw [if_neg hdd] at h1
     exact fin ⟨h1,h2⟩ fun e=>by rw [hd] at e;exact absurd (Option.some.inj e) hdd
theorem drun_sound {P:Program} {call:CallF} {ops:Array Oper} {N r0:Nat} {AT:Tr Nat}:∀ (l:List Oper) (p:Nat) (σ σ':DS),drun P call ops N r0 AT l p σ=some σ' →
  ∃ (f:Nat→DS) (g:Nat→DRec),f p=σ∧f (p + l.length)=σ'∧∀ i o,l[i]? = some o→DStep P call ops N r0 (maskAt AT (p + i)) (p + i) o (f (p + i)) (f (p + i + 1)) (g (p + i))
 | [],p,σ,σ',h=>by
  injection h with h;subst h
  exact ⟨fun _=>σ,fun _=>⟨0,default,0,.leaf,.off,.bool true,.leaf,0⟩,rfl,rfl,fun i o hi=>by simp at hi⟩
 | o :: l,p,σ,σ',h=>by
  obtain ⟨σ1,h1,h2⟩:=ob_some.1 (show (ob (dstep P call ops N r0 AT p o σ) fun σ'=>fN (p + 1) fun q=>drun P call ops N r0 AT l q σ')=some σ' from h)
  rw [fN_eq] at h2
  obtain ⟨r,hr⟩:=dstep_sound h1
  obtain ⟨f,g,e1,e2,e3⟩:=drun_sound l (p + 1) σ1 σ' h2
  refine ⟨fun i=>if i=p then σ else f i,fun i=>if i=p then r else g i,by simp,?_,fun i o' hi=>?_⟩
  ·simp only [List.length_cons]
   rw [if_neg (by omega),show p + (l.length + 1)=p + 1 + l.length by omega];exact e2
  ·cases i with
   | zero =>
    simp at hi;subst hi
    simp only [Nat.add_zero,if_true]
    rw [if_neg (by omega),e1];exact hr
   | succ i =>
    simp only [if_neg (show ¬ p + (i + 1)=p by omega),if_neg (show ¬ p + (i + 1) + 1=p by omega)]
    have:=e3 i o' (by simpa using hi)
    rwa [show p + 1 + i=p + (i + 1) by omega] at this
theorem viewF_some {news hvs:List DRec} {A c r0:Nat} {H:Tr AObj} {x:Nat} {o:AObj}:(viewF news hvs A c r0 H).get x=some o →
  (∃ r∈news,r.k = .new o∧A.testBit r.i=true∧lateB hvs c r.i=true∧x=r0 + r.i)∨H.get x=some o:=by
 induction news with
 | nil=>exact .inr
 | cons r news ih =>
  intro h
  have h':(match r.k with
   | .new o=>cond (tb A r.i) (cond (lateB hvs c r.i) (fN (r0 + r.i) fun x=>(viewF news hvs A c r0 H).set x o) (viewF news hvs A c r0 H)) (viewF news hvs A c r0 H)
   | _=>viewF news hvs A c r0 H).get x=some o:=h
  have rest:(viewF news hvs A c r0 H).get x=some o→(∃ r'∈r :: news,r'.k = .new o∧A.testBit r'.i=true∧lateB hvs c r'.i=true∧x=r0 + r'.i)∨H.get x=some o:=fun h=>by
   rcases ih h with ⟨r',h1,h2⟩ | h
   ·exact .inl ⟨r',List.mem_cons_of_mem _ h1,h2⟩
   ·exact .inr h
  split at h'
  ·rename_i b hb
   cases h1:tb A r.i with
   | false=>rw [h1,cond_false] at h';exact rest h'
   | true =>
    rw [h1,cond_true] at h'
    cases h2:lateB hvs c r.i with
    | false=>rw [h2,cond_false] at h';exact rest h'
    | true =>
     rw [h2,cond_true,fN_eq,Tr.get_set] at h'
     split at h'
     ·rename_i e
      injection h' with h';subst h'
      exact .inl ⟨r,List.mem_cons_self ..,hb,by rw [← tb_eq];exact h1,h2,e.symm⟩
     ·exact rest h'
  ·exact rest h'
theorem viewAll_some {news hvs:List DRec} {n r0:Nat} {H:Tr AObj} {x:Nat} {o:AObj}:(viewAll news hvs n r0 H).get x=some o →
  (∃ r∈news,r.k = .new o∧lateB hvs n r.i=true∧x=r0 + r.i)∨H.get x=some o:=by
 induction news with
 | nil=>exact .inr
 | cons r news ih =>
  intro h
  have h':(match r.k with
   | .new o=>cond (lateB hvs n r.i) (fN (r0 + r.i) fun x=>(viewAll news hvs n r0 H).set x o) (viewAll news hvs n r0 H)
   | _=>viewAll news hvs n r0 H).get x=some o:=h
  have rest:(viewAll news hvs n r0 H).get x=some o→(∃ r'∈r :: news,r'.k = .new o∧lateB hvs n r'.i=true∧x=r0 + r'.i)∨H.get x=some o:=fun h=>by
   rcases ih h with ⟨r',h1,h2⟩ | h
   ·exact .inl ⟨r',List.mem_cons_of_mem _ h1,h2⟩
   ·exact .inr h
  split at h'
  ·rename_i b hb
   cases h2:lateB hvs n r.i with
   | false=>rw [h2,cond_false] at h';exact rest h'
   | true =>
    rw [h2,cond_true,fN_eq,Tr.get_set] at h'
    split at h'
    ·rename_i e
     injection h' with h';subst h'
     exact .inl ⟨r,List.mem_cons_self ..,hb,h2,e.symm⟩
    ·exact rest h'
  ·exact rest h'
theorem lateB_iff {hvs:List DRec} {c j:Nat} (h:lateB hvs c j=true):∀ x∈hvs,x.i < c→x.A.testBit j=false:=fun x hx hc=>by
 have:=allL_all h x hx
 rw [show Nat.blt x.i c=true from (by rw [Nat.blt_eq];exact hc),cond_true] at this
 rw [← tb_eq];simpa using this
theorem allL_of {α:Type} {f:α→Bool}:∀ {l:List α},(∀ x∈l,f x=true)→allL f l=true
 | [],_=>rfl
 | a :: l,h=>by
  rw [allL_cons,h a (List.mem_cons_self ..),cond_true]
  exact allL_of fun x hx=>h x (List.mem_cons_of_mem _ hx)
theorem lateB_of {hvs:List DRec} {c j:Nat} (h:∀ x∈hvs,x.i < c→x.A.testBit j=false):lateB hvs c j=true:=by
 apply allL_of
 intro x hx
 cases hb:Nat.blt x.i c with
 | false=>rfl
 | true=>rw [cond_true,tb_eq,h x hx (by rw [Nat.blt_eq] at hb;exact hb)];rfl
end Go.EvC
