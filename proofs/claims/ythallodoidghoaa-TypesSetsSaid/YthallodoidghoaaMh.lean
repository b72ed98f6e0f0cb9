/- Laid by program out of its parts: SxT, SxU, SxX, Sx4. -/
import Derived.Test.YthallodoidghoaaMf
import Derived.ChangeSlices
import Derived.Test.YthallodoidghoaaMe
set_option linter.unusedVariables false
set_option linter.unusedSimpArgs false
section
/- The symbolic layer, part T: a contract out of a statement on calls, tables of the library in it. -/
namespace Go.Ev
open Go.RowKit
end Go.Ev
end
section
/- The symbolic layer, part U: slices from outside whose rows are contents in their turn; slices of which only the length is told. -/
namespace Go.Ev
theorem vec_argR {α:Type} {row:α→List AV} {d:α} {esz:Nat} (he:0 < esz) {H:Type} {enc:TypeId×Value→H} {P:Program} {w:World} {t e n:Nat} {v:Value} {x:DataW H×List MemPlace}
  (ht:P.underlying t=some (.slice e)) (hc:P.cellsOf e=esz) (hrow:∀ cs m x,DataW.trod enc P w 0 (fun _=>true) true m e cs=some x→∃ a:α,VRL (wRen w) (row a) cs)
  (h:DataW.trod enc P w 0 (fun _=>true) true n t [v]=some x):∃ l:List α,VR (wRen w) (.vec esz l.length fun k=>row (l.getD k d)) v:=by
 rcases DataW.trod_slice ht h with ⟨hcs,rfl⟩ | ⟨a,len,cap,elems,rest,m,_,hcs,rfl,_,hl,hm,hel,hget,_,_⟩
 ·injection hcs with hv _
  subst hv
  exact ⟨[],.vecz _ _ _ rfl _ _⟩
 ·injection hcs with hv _
  subst hv
  by_cases h0:len=0
  ·subst h0;exact ⟨[],.vecz _ _ _ rfl _ _⟩
  ·have key:∀ i,∃ y:α×List Value,i < len→w.cells? 0 (a.add (i * esz)) esz=some y.2∧VRL (wRen w) (row y.1) y.2:=fun i=>by
    by_cases hi:i < len
    ·have h1:=hget i hi
     rw [hc,List.getElem?_eq_getElem (by omega)] at h1
     obtain ⟨cs,h2,h3⟩:=Option.bind_eq_some_iff.1 h1
     obtain ⟨y,hy⟩:=hrow cs _ _ h3
     exact ⟨(y,cs),fun _=>⟨h2,hy⟩⟩
    ·exact ⟨(d,[]),fun h=>absurd h hi⟩
   let fn:Nat→α:=fun i=>(Classical.choose (key i)).1
   let gn:Nat→List Value:=fun i=>(Classical.choose (key i)).2
   have hfn:∀ i,i < len→w.cells? 0 (a.add (i * esz)) esz=some (gn i):=fun i hi=>(Classical.choose_spec (key i) hi).1
   have hrn:∀ i,i < len→VRL (wRen w) (row (fn i)) (gn i):=fun i hi=>(Classical.choose_spec (key i) hi).2
   have hlen:∀ i,i < len→(gn i).length=esz:=fun i hi=>(World.cells?_some (hfn i hi)).2.1
   have hcell:∀ i,i < len→∀ j,j < esz→w.cell? ((a.add (i * esz)).add j)=(gn i)[j]?:=fun i hi j hj=>(World.cells?_some (hfn i hi)).2.2 j hj
   have h00:=hcell 0 (by omega) 0 he
   rw [Nat.zero_mul] at h00
   have hv0:(gn 0)[0]? = some ((gn 0)[0]'(by rw [hlen 0 (by omega)];exact he)):=List.getElem?_eq_getElem _
   rw [hv0] at h00
   have hs:a.spot=none:=by simpa [Addr.add] using World.cell?_spot h00
   obtain ⟨b,o,s⟩:=a
   simp only at hs
   subst hs
   rw [addr_off,addr_off] at h00
   have hob:∃ cs el fz,w.heap[b]? = some (.cells cs el fz):=by
    simp only [World.cell?] at h00
    split at h00
    ·exact ⟨_,_,_,by assumption⟩
    ·cases h00
   obtain ⟨cs,el,fz,hh⟩:=hob
   have hll:((List.range len).map fn).length=len:=by simp
   have hgd:∀ i,i < len→((List.range len).map fn).getD i d=fn i:=fun i hi=>by simp [List.getD_eq_getElem?_getD,hi]
   refine ⟨(List.range len).map fn,?_⟩
   rw [hll]
   refine .vec esz len _ b o cap cs el fz gn hh he hl (fun i hi=>?_) fun i hi j u hj=>?_
   ·rw [hgd i hi];exact hrn i hi
   ·have hj':j < esz:=by rw [← hlen i hi];exact (List.getElem?_eq_some_iff.1 hj).1
    have h1:=hcell i hi j hj'
    rw [hj,addr_off,addr_off] at h1
    simp only [World.cell?,hh] at h1
    simpa using h1
def intRow (k:IntKind) (z:Int):List AV:=[.int k z]
theorem ints_arg {k:IntKind} {H:Type} {enc:TypeId×Value→H} {P:Program} {w:World} {t e n:Nat} {v:Value} {x:DataW H×List MemPlace} (ht:P.underlying t=some (.slice e)) (he:P.underlying e=some (.int k)) (hc:P.cellsOf e=1)
  (h:DataW.trod enc P w 0 (fun _=>true) true n t [v]=some x):∃ l:List Int,VR (wRen w) (.vec 1 l.length fun i=>intRow k (l.getD i 0)) v :=
 vec_argR (row:=intRow k) (d:=0) (by decide) ht hc (fun cs m x h=>by
  obtain ⟨z,rfl,_,_⟩:=DataW.trod_int he h
  exact ⟨z,.cons _ _ _ _ (.int _ _) .nil⟩) h
end Go.Ev
end
section
/- The symbolic layer, part X: small tools for proofs about residual sentences; barriers. -/
namespace Go.Ev
noncomputable def bar (b:Bool):Bool:=@decide (b=true) (Classical.propDecidable _)
theorem bar_eq (b:Bool):bar b=b:=by unfold bar;cases b <;> simp
noncomputable def barr {α:Type} (a:α):α:=Classical.choose (⟨a,rfl⟩:∃ y,y=a)
theorem barr_eq {α:Type} (a:α):barr a=a:=Classical.choose_spec (⟨a,rfl⟩:∃ y,y=a)
theorem gl0 {q:Nat×AObj→Prop}:∀ p∈([]:List (Nat×AObj)),q p:=fun _ h=>by cases h
theorem cond_tf (b:Bool):(bif b then true else false)=b:=by cases b <;> rfl
theorem cond_cf (b c:Bool):(bif b then c else false)=(b && c):=by cases b <;> rfl
theorem nif_tf (b:Bool):(bif b then false else true) = !b:=by cases b <;> rfl
theorem rows_app {α:Type} {row:α→List AV} {d:α} {σ:List (Nat×Nat)} (hv:∀ t,vmL σ (row t) (row t)) {out:List α} {t:α} {g:Nat→List AV} (hg:g 0=row t) {e n:Nat} (hn:n=out.length + 1) :
  AllI fun i=>i * e < n * e→vmL σ (row ((out ++ [t]).getD i d)) (appF out.length (fun k=>row (out.getD k d)) g i):=⟨fun i hi=>by
 have hi:i < n:=Nat.lt_of_mul_lt_mul_right hi
 unfold appF
 by_cases h:i < out.length
 ·rw [show Nat.blt i out.length=true by simpa [Nat.blt_eq] using h,cond_true,show (out ++ [t]).getD i d=out.getD i d by simp [List.getD_eq_getElem?_getD,List.getElem?_append_left h]]
  exact hv _
 ·obtain rfl:i=out.length:=by omega
  rw [show Nat.blt out.length out.length=false by exact Bool.eq_false_iff.2 fun hb=>h (by simp [Nat.blt_eq] at hb),cond_false,Nat.sub_self,hg,show (out ++ [t]).getD out.length d=t by simp [List.getD_eq_getElem?_getD]]
  exact hv _⟩
theorem rowB_self (l:List UInt8):rowB l.length (byteRow l)=l:=by
 unfold rowB byteRow byteO
 apply List.ext_getElem
 ·simp
 ·intro i h1 h2
  simp at h1 ⊢
  simp [h1]
theorem allBR_self (l:List UInt8):allBR l.length (byteRow l)=true:=decide_eq_true fun i _=>by
 unfold byteRow isBR
 exact inR_u8.2 (by have:=(l.getD i 0).toNat_lt;omega)
theorem brP_f {K L:Prop}:brP false K L=L:=rfl
theorem brP_t {K L:Prop}:brP true K L=K:=rfl
theorem sdA_t {K:Prop}:sdA true K=K:=rfl
theorem allI_true:(AllI fun _=>True)=True:=eq_true ⟨fun _=>trivial⟩
theorem ieq_self (z:Int):ieq z z=true:=by rw [ieq_eq];simp
end Go.Ev
end
section
/- The symbolic layer, part 4: contracts of contents where own rows are handed on (they stay as they are); maps of whole numbers, rows in them, by content. -/
namespace Go.Ev
open Go.RowKit
def scl1:AV→Bool
 | .bool _=>true
 | .int _ _=>true
 | .str _ _=>true
 | .bs _=>true
 | _=>false
def sclB:AV→Bool
 | .tup l=>l.all scl1
 | a=>scl1 a
theorem scl1_vr {ρ ρ':Ren} {a:AV} (h:scl1 a=true) {u:Value} (hv:VR ρ a u):VR ρ' a u:=by
 cases a <;> first | (cases h;done) | skip
 all_goals cases hv
 ·exact .bool _
 ·exact .int _ _
 ·exact .str _ _ ‹_›
 ·exact .bs _
theorem scl_vrl {ρ ρ':Ren}:∀ {l:List AV} {us:List Value},l.all scl1=true→VRL ρ l us→VRL ρ' l us
 | [],_,_,h=>by cases h;exact .nil
 | a :: l,_,hs,h=>by
  cases h with
  | cons _ u _ us h1 h2 =>
   simp only [List.all_cons,Bool.and_eq_true] at hs
   exact .cons _ _ _ _ (scl1_vr hs.1 h1) (scl_vrl hs.2 h2)
theorem scl_vr {ρ ρ':Ren} {a:AV} (h:sclB a=true) {u:Value} (hv:VR ρ a u):VR ρ' a u:=by
 cases a with
 | tup l=>cases hv with
  | tup _ us hus=>exact .tup _ _ (scl_vrl h hus)
 | _=>exact scl1_vr (by simpa [sclB] using h) hv
noncomputable def ctH (nx:Nat) (ct:Ct):HCt :=
 Ct.rec (motive:=fun _=>HCt) (fun v=>.need (sclB v=true) (.ret v [] (nx + 1))) (fun v=>.need False (.ret v [] (nx + 1))) (fun b _ _ it ie=>.br b it ie) (fun p _ it=>.need p it) ct
noncomputable def readE (P:Program) (ent:Tr AObj→List AV→Option Ct):HEnt:=fun H nx args =>
 ob (frzL P H args) fun r=>ob (ent .leaf r.2.1) fun ct=>some (.need (r.1=true∧vmL [] r.2.1 r.2.1) (ctH nx ct))
theorem hOut_need {pre:Prop} {t:HCt} {x:Bool×AV×List (Nat×AObj)×Nat} (h:hOut (.need pre t)=some x):pre∧hOut t=some x:=by
 have ho:(open Classical in if pre then hOut t else none)=some x:=h
 by_cases hp:pre
 ·rw [if_pos hp] at ho;exact ⟨hp,ho⟩
 ·rw [if_neg hp] at ho;cases ho
theorem ctH_out {nx:Nat}:∀ {ct:Ct} {p:Bool} {v:AV} {up:List (Nat×AObj)} {nx':Nat},hOut (ctH nx ct)=some (p,v,up,nx')→ctOut ct=some (false,v)∧p=false∧sclB v=true∧up=[]∧nx'=nx + 1
 | .ret v0,p,v,up,nx',h=>by
  obtain ⟨h1,h2⟩:=hOut_need (show hOut (.need (sclB v0=true) (.ret v0 [] (nx + 1)))=_ from h)
  have h2:some (false,v0,[],nx + 1)=some (p,v,up,nx'):=h2
  injection h2 with h2;injection h2 with e1 h2;injection h2 with e2 h2;injection h2 with e3 e4
  subst e1;subst e2;subst e3;subst e4
  exact ⟨rfl,rfl,h1,rfl,rfl⟩
 | .pan v0,p,v,up,nx',h=>(hOut_need (show hOut (.need False (.ret v0 [] (nx + 1)))=_ from h)).1.elim
 | .br b t e,p,v,up,nx',h=>by
  have h':cond b (hOut (ctH nx t)) (hOut (ctH nx e))=some (p,v,up,nx'):=h
  show cond b (ctOut t) (ctOut e)=some (false,v)∧_
  cases b with
  | true=>exact ctH_out (ct:=t) h'
  | false=>exact ctH_out (ct:=e) h'
 | .need q t,p,v,up,nx',h=>by
  obtain ⟨h1,h2⟩:=hOut_need (show hOut (.need q (ctH nx t))=_ from h)
  obtain ⟨h3,h4⟩:=ctH_out (ct:=t) h2
  exact ⟨(if_pos h1).trans h3,h4⟩
theorem ent_callsR {P:Program} {g:FuncId} {ent:Tr AObj→List AV→Option Ct} (hent:EntOK P g ent) {args:List AV} {ct:Ct} {v:AV} (hct:ent .leaf args=some ct)
  (hout:ctOut ct=some (false,v)) {W:World} {vs:List Value} (hvs:VRL (wRen W) args vs) :
  Calls P g vs.toArray W fun e w'=>∃ u ρ',e = .returned u∧VR ρ' v u∧Below W.heap.size W w':=by
 have r:Rel ⟨W.tape,W.os,W.output,fun b=>W.heap[b]?,fun _=>true⟩ (fun b=>W.heap[b]?) 0 (wRen W) (Tr.leaf:Tr AObj).get W :=
  ⟨rfl,rfl,rfl,fun b o hb=>hb,fun i o b hi=>(by rw [Tr.get_leaf] at hi;cases hi),fun i o b hi=>(by rw [Tr.get_leaf] at hi;cases hi),
   fun i j o o' b b' hi=>(by rw [Tr.get_leaf] at hi;cases hi),fun _ _=>rfl,fun i o hi=>(by rw [Tr.get_leaf] at hi;cases hi),fun _ _ h=>h,fun _ _ h=>h,fun i o b hi=>(by rw [Tr.get_leaf] at hi;cases hi),fun _ _ _ _ _=>rfl⟩
 have hcall:=hent .leaf args ct hct false v hout ⟨W.tape,W.os,W.output,fun b=>W.heap[b]?,fun _=>true⟩ _ _ W 0 .leaf (fun g l h=>by rw [Tr.get_leaf] at h;cases h) r
 have hc':Calls P g vs.toArray W _:=callsIn_wide.1 (hcall.2 vs hvs)
 refine hc'.mono fun e w' hE=>?_
 obtain ⟨u,ρ',he,_,hr,hv⟩:=hE
 refine ⟨u,ρ',he,hv,hr.os,hr.tape,hr.output,?_,fun k hk=>?_⟩
 ·by_cases h0:W.heap.size=0
  ·omega
  ·have hlt:W.heap.size - 1 < W.heap.size:=by omega
   have:=hr.fr (W.heap.size - 1) _ (Array.getElem?_eq_getElem hlt)
   have:=lt_of_heap this
   omega
 ·rw [Array.getElem?_eq_getElem hk]
  exact hr.fr k _ (Array.getElem?_eq_getElem hk)
theorem rel_belowR {E:Env} {F:Nat→Option Obj} {nx:Nat} {ρ:Ren} {h:Nat→Option AObj} {w w':World} (r:Rel E F nx ρ h w) (hb:RowKit.Below w.heap.size w w'):Rel E F (nx + 1) ρ h w':=by
 have hp:∀ b o,w.heap[b]? = some o→w'.heap[b]? = some o:=fun b o hbo=>by rw [hb.block b (lt_of_heap hbo)];exact hbo
 exact ⟨hb.tape.trans r.tape,hb.os.trans r.os,hb.output.trans r.output,fun b o h=>hp b o (r.fr b o h),fun i o b hi h=>let ⟨c,h1,h2⟩:=r.ob i o b hi h;⟨c,hp _ _ h1,h2⟩,r.dj,r.inj,
  fun i hi=>r.new i (Nat.le_of_succ_le hi),r.gl,r.bs,fun b o h=>hp b o (r.st b o h),r.sd,r.sf⟩
theorem hent_read {P:Program} {g:FuncId} {ent:Tr AObj→List AV→Option Ct} (hent:EntOK P g ent):HEntOK P g (readE P ent):=by
 intro H nx args hc he p v up nx' hout E F ρ w r
 obtain ⟨⟨s,args',fz,ids⟩,hfr,h1⟩:=ob_some.1 he
 obtain ⟨ct,hct,h2⟩:=ob_some.1 h1
 injection h2 with h2;subst h2
 obtain ⟨⟨hs,hvm⟩,h3⟩:=hOut_need hout
 simp only at hs hvm;subst hs
 obtain ⟨ho,rfl,hscl,rfl,rfl⟩:=ctH_out h3
 obtain ⟨hids,_,hval⟩:=frzL_sound r args args' fz ids hfr
 obtain ⟨hx0,hrel0⟩:=frzR_rel r hids
 refine ⟨(hent .leaf args' ct hct false v ho E F ρ w nx H (fun g l h=>by rw [Tr.get_leaf] at h;cases h) r).1,fun vs hvs=>callsIn_wide.2 ?_⟩
 have hvs2:VRL (wRen w) args' vs:=vmL_rel (ρ:=frzR ρ w ids) (ρ2:=wRen w) (vm_free fun b o h=>hrel0.st b o h) args' args' vs hvm (hval ids hids (fun _ h=>h) vs hvs)
 refine (ent_callsR hent hct ho hvs2).mono fun e w' ⟨u,ρ',he,hu,hb⟩=>?_
 subst he
 exact ⟨u,ρ,rfl,⟨Ren.le_refl _,fun _ _=>rfl,Nat.le_succ _⟩,rel_belowR r hb,scl_vr hscl hu⟩
def lookI {α:Type} (kv:List (Int×α)) (n:Int):Option α:=match kv with
 | []=>none
 | p :: kv=>if p.1=n then some p.2 else lookI kv n
noncomputable def hasI (ik:IntKind) (kv:List (Int×AV)):SKey→Bool
 | .int n=>(lookI kv n).isSome || decide (n=sentN) || decide (n=sentK ik)
 | .str _=>false
noncomputable def keysP (ik:IntKind):List AEnt→List (Int×AV)→Prop
 | [],l=>match l with
  | []=>True
  | _=>False
 | e :: es,l=>match l with
  | p :: kv=>e.key = .int ik p.1∧keysP ik es kv
  | []=>False
noncomputable def ResMapI (P:Program) (ik:IntKind) (kv:List (Int×AV)) (r:CR):Prop :=
 match r with
 | .mk (.map id) H _=>okP (H.get id) fun o=>match o with
  | .map es _=>keysP ik es kv∧okP (frzA (frz P H) (es.map AEnt.val)) fun q=>sdA q.1 (vmL [] (kv.map Prod.snd) q.2.1)
  | _=>False
 | _=>False
theorem findI {ρ ρ2:Ren} {ik:IntKind} {n:Int}:∀ {es:List AEnt} {l:List MapEntry} {kv:List (Int×AV)} (i:Nat),ERL ρ es l→keysP ik es kv→VRL ρ2 (kv.map Prod.snd) (l.map MapEntry.val) →
  match lookI kv n with
  | none=>Instr.findNow (.int ik) (.int ik n) l i=some none
  | some a=>∃ j v,Instr.findNow (.int ik) (.int ik n) l i=some (some (j,v))∧VR ρ2 a v
 | [],_,[],i,.nil,_,_=>by simp [lookI,Instr.findNow]
 | [],_,_ :: _,i,.nil,hk,_=>hk.elim
 | _ :: _,_,[],i,.cons _ _ _ _ _ _,hk,_=>hk.elim
 | e :: es,_,p :: kv,i,.cons _ m _ l he hs,hk,hv=>by
  obtain ⟨hk1,hk2⟩:=hk
  have hv':VRL ρ2 (p.2 :: kv.map Prod.snd) (m.val :: l.map MapEntry.val):=hv
  cases hv' with
  | cons _ _ _ _ hv1 hv2 =>
  have hmk:m.key = .int ik p.1:=by
   have:=he.1
   rw [hk1] at this
   generalize m.key=x at this
   cases this;rfl
  have ih:=findI (n:=n) (i + 1) hs hk2 hv2
  unfold lookI
  by_cases h:p.1=n
  ·rw [if_pos h]
   exact ⟨i,m.val,by simp [Instr.findNow,hmk,Instr.sameNow,h],hv1⟩
  ·rw [if_neg h]
   have hne:Instr.findNow (.int ik) (.int ik n) (m :: l) i=Instr.findNow (.int ik) (.int ik n) l (i + 1):=by
    have:(n == p.1)=false:=by simpa using fun e:n=p.1=>h e.symm
    simp only [Instr.findNow,hmk,Instr.sameNow,if_true,this]
   rw [hne];exact ih
theorem sentK_inj {a b:IntKind} (h:sentK a=sentK b):a=b:=by cases a <;> cases b <;> first | rfl | (exact absurd h (by decide))
theorem sentK_ne {a:IntKind}:sentK a≠sentN:=by cases a <;> decide
theorem sentK_lt {a:IntKind}:sentN < sentK a:=by cases a <;> decide
theorem ent_mapI {P:Program} {call:FuncId→List AV→Tr AObj→Nat→KC→Prop} (hcall:CallKOK P call) {g:FuncId} {ik:IntKind} {kv:List (Int×AV)} {val:SKey→AV} {z:AV} {gl:List (Nat×AObj)} {ng:Nat}
  (hz:∃ zv,∀ ρ,VR ρ z zv) (hv1:∀ n a,lookI kv n=some a→val (.int n)=a) (hv2:∀ n,lookI kv n=none→zOK z (val (.int n))) (hv3:∀ l,zOK z (val (.str l)))
  (hs:∀ n,sentN≤n→lookI kv n=none) (hvk:∀ k,vmP [] (val k) (val k))
  {ent:Tr AObj→List AV→Option Ct} (hent:∀ H args ct,ent H args=some ct→args=[]∧(∀ p∈gl,H.get p.1=some p.2)∧ct = .need True (.ret (.mapv (hasI ik kv) val z)))
  (hrun:call g [] (mkH gl) ng (ResMapI P ik kv)):EntOK P g ent:=by
 intro H args ct hct p v hout E F ρ w nx H' hG r
 obtain ⟨rfl,hH,rfl⟩:=hent H args ct hct
 obtain ⟨_,rfl,rfl⟩:=ctOut_need hout
 have r0:Rel (guardE E ρ) (fun b=>w.heap[b]?) ng ⟨fun _=>none,ρ.st⟩ (mkH gl).get w :=
  ⟨r.tape,r.os,r.output,fun _ _ h=>h,fun _ _ _ _ h=>(by cases h),fun _ _ _ _ h=>(by cases h),fun _ _ _ _ _ _ _ _ h=>(by cases h),fun _ _=>rfl,
   fun g l hg=>hG g l (hH _ (mkH_get hg)),fun b o hb=>r.fr b o (r.bs b o hb),r.st,fun _ _ _ _ h=>(by cases h),fun b o o' _ hs=>(by simp [guardE];exact fun e=>by rw [show ρ.st b=some o' from hs] at e;cases e)⟩
 have hok:=hcall g [] (mkH gl) ng _ hrun _ _ _ w r0
 refine ⟨hok.1,fun vs hvs=>CallsIn.mono (hok.2 vs (by cases hvs;exact .nil)) fun e w' he=>?_⟩
 obtain ⟨res,hres,hend⟩:=he
 cases res with
 | mk v' H1 n1 =>
  obtain ⟨u,ρ1,rfl,hx,r1,hv⟩:=hend
  cases v' <;> first | exact hres.elim | skip
  rename_i id
  obtain ⟨o,ho,h1⟩:=okP_some (show okP (H1.get id) _ from hres)
  split at h1
  ·rename_i es ck
   obtain ⟨hkeys,h2⟩:=h1
   obtain ⟨⟨s,vals,fz,ids0⟩,hf,h3⟩:=okP_some h2
   obtain ⟨hs1,hvm⟩:=sdA_iff.1 h3
   simp only at hs1 hvm;subst hs1
   obtain ⟨hi0,_,hval⟩:=frzA_sound (frz_sound r1) _ _ _ _ hf
   have hids:idsOK H1 (id :: ids0):=fun i hi=>by
    rcases List.mem_cons.1 hi with rfl | hi
    ·exact ⟨_,ho⟩
    ·exact hi0 i hi
   cases hv with
   | map _ b hb =>
   obtain ⟨c,hc,hor⟩:=r1.ob _ _ b ho hb
   cases hor with
   | map _ _ l hl =>
    have hst:(frzR ρ1 w' (id :: ids0)).st b.b=some (.map l.toArray ck):=(frzR_block (List.mem_cons.2 (.inl rfl)) hb).trans hc
    obtain ⟨zv,hzv⟩:=hz
    have hERv:∀ {es:List AEnt} {l:List MapEntry},ERL ρ1 es l→VRL ρ1 (es.map AEnt.val) (l.map MapEntry.val):=by
     intro es l h
     induction es generalizing l with
     | nil=>cases h;exact .nil
     | cons e es ih=>cases h with
      | cons _ m _ l h1 h2=>exact .cons _ _ _ _ h1.2.1 (ih h2)
    have hvals:VRL (frzR ρ1 w' (id :: ids0)) (kv.map Prod.snd) (l.map MapEntry.val) :=
     vmL_rel (ρ:=frzR ρ1 w' (id :: ids0)) (ρ2:=frzR ρ1 w' (id :: ids0)) (vm_free fun _ _ h=>h) _ _ _ hvm (hval _ hids (fun i hi=>List.mem_cons.2 (.inr hi)) _ (hERv hl))
    have key:=fun n=>findI (n:=n) 0 hl hkeys hvals
    have hv':VR (frzR ρ1 w' (id :: ids0)) (.mapv (hasI ik kv) val z) (.map (some b.b)):=by
     have hkd:∀ kd (k:SKey) u,KR kd k u→kOK (hasI ik kv) kd k→∃ n,kd = .int ik∧k = .int n∧u = .int ik n∧n < sentN:=fun kd k u hk hko=>by
      cases hk with
      | str l =>
       have:hasI ik kv (.int sentN)=false:=hko
       simp [hasI] at this
      | int q n =>
       obtain ⟨h5,h6⟩:hasI ik kv (.int (sentK q))=true∧n < sentN:=hko
       have h7:sentK q=sentK ik:=by
        simp only [hasI,Bool.or_eq_true,decide_eq_true_eq] at h5
        rcases h5 with (h5 | h5) | h5
        ·rw [hs _ (Int.le_of_lt sentK_lt)] at h5;cases h5
        ·exact absurd h5 sentK_ne
        ·exact h5
       have:=sentK_inj h7;subst this
       exact ⟨n,rfl,rfl,rfl,h6⟩
     refine .mapv _ val z b.b l.toArray ck (fun k=>match k with
      | .int n=>(match lookI kv n with
       | some _=>(match Instr.findNow (.int ik) (.int ik n) l 0 with
        | some (some (_,v))=>v
        | _=>zv)
       | none=>zv)
      | .str _=>zv) hst (fun kd k u hk hko hf=>?_) (fun kd k u hk hko hf=>?_) (fun k hf=>?_) fun k hk=>?_
     ·obtain ⟨n,rfl,rfl,rfl,hn⟩:=hkd kd k u hk hko
      have h5:=key n
      cases hlk:lookI kv n with
      | none=>rw [hlk] at h5;exact h5
      | some a=>simp [hasI,hlk] at hf
     ·obtain ⟨n,rfl,rfl,rfl,hn⟩:=hkd kd k u hk hko
      have h5:=key n
      cases hlk:lookI kv n with
      | none =>
       have h6:=sentK_lt (a:=ik)
       simp only [hasI,hlk,Option.isSome_none,Bool.false_or,Bool.or_eq_true,decide_eq_true_eq] at hf
       omega
      | some a =>
       rw [hlk] at h5
       obtain ⟨j,v,h6,_⟩:=h5
       refine ⟨j,?_⟩
       simp only [hlk,h6]
     ·cases k with
      | str l=>exact hv3 l
      | int n =>
       refine hv2 n ?_
       cases hlk:lookI kv n with
       | none=>rfl
       | some a=>simp [hasI,hlk] at hf
     ·cases k with
      | str l=>cases hk
      | int n =>
       have h5:=key n
       cases hlk:lookI kv n with
       | none=>simp only [hlk];exact zOK_vr (hv2 n hlk) (hzv _)
       | some a =>
        rw [hlk] at h5
        obtain ⟨j,v,h6,h7⟩:=h5
        simp only [hlk,h6,hv1 n a hlk]
        exact h7
    obtain ⟨ρ',g1,g2,g3⟩:=frz_end r hx.le.st r1 hids hv' (by rw [vmP];exact ⟨fun _=>rfl,hvk,fun k hf=>by
     cases k with
     | str l=>exact hv3 l
     | int n =>
      refine hv2 n ?_
      cases hlk:lookI kv n with
      | none=>rfl
      | some a=>simp [hasI,hlk] at hf⟩)
    exact ⟨_,ρ',rfl,g1,g2,g3⟩
  ·exact h1.elim
 | pan _ _ _=>exact hres.elim
 | dfr _ _ _ _=>exact hres.elim
end Go.Ev
end
