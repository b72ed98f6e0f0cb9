/- Laid by program out of its parts: EcV. -/
import Derived.Test.YtfnieibeimklcaaGreatDoorEcU
import Derived.Below
import Derived.ChangeSame
set_option linter.unusedVariables false
set_option linter.unusedSimpArgs false
/- The evaluator, part V: a closed call by evaluation: from every world it ends as evaluated, and leaves what was there as it was. -/
namespace Go.EvC
open Go.RowKit Go.ChangeShapes
noncomputable def says (x:Option CR) (b:Bool):Bool :=
 Option.rec (motive:=fun _=>Bool) false (fun r=>CR.rec (motive:=fun _=>Bool) (fun v _ _=>match v with
  | .bool c=>cond c b (!b)
  | _=>false) (fun _ _ _=>false) (fun _ _ _ _=>false) r) x
theorem says_some {x:Option CR} {b:Bool} (h:says x b=true):∃ H nx,x=some (.mk (.bool b) H nx):=by
 cases x with
 | none=>cases h
 | some r =>
  cases r with
  | mk v H nx =>
   cases v with
   | bool c=>refine ⟨H,nx,?_⟩;cases b <;> cases c <;> first | rfl | cases h
   | _=>cases h
  | _=>cases h
noncomputable def rho0:Ren:=fun _=>none
theorem post_of_below {P:Program} {H:Type} {enc:TypeId×Value→H} {f:Func} {s:ChangeSpec} {apart fresh handsOn again:Bool} {W W':World} {args:Array Value} {v:Value} {ds gs:List (DataW H)} {before pa pv:List MemPlace}
  (hW:DataW.Whole enc P f.params.toList s.vars apart W args.toList ds gs before)
  (hres:∀ (b:Nat) (sp:Nat→Bool) (hd:Bool),DataW.TrodAll enc P W' b sp hd f.resultTypes.toList (v.resultList f.resultTypes.size) (s.fn H (ds ++ gs)).results [])
  (hargs:∀ sp:Nat→Bool,(∀ p∈before,sp p.block=true)→DataW.TrodAll enc P W' 0 sp true f.params.toList args.toList (s.fn H (ds ++ gs)).args pa)
  (hvars:∀ sp:Nat→Bool,(∀ p∈before,sp p.block=true)→DataW.TrodVars enc P W' sp s.vars (s.fn H (ds ++ gs)).vars pv)
  (hps:before=pa ++ pv) (hb:RowKit.Below W.heap.size W W')
  (hok:∀ (j:Nat) (t:TypeId) (r:Value),f.resultTypes[j]? = some t→(v.resultList f.resultTypes.size)[j]? = some r→Value.okWide P W' .any 0 t r) :
  s.post enc P f apart fresh handsOn again W args v W':=by
 have hlt:∀ p∈before,p.block < W.heap.size:=fun p hp=>by simpa using hW.lt p hp
 have hold:∀ p∈before,(fun b=>decide (b < W.heap.size)) p.block=true:=fun p hp=>by simpa using hlt p hp
 obtain ⟨_,_,_,_,_,hz,hn⟩:=id hW
 refine ⟨ds,gs,before,[],pa,pv,hW,hres _ _ _,hargs _ hold,hvars _ hold,hb.frame _,fun _=>⟨hok,_,_,([] ++ pa) ++ pv,⟨[] ++ pa,pv,trodAll_append (hargs _ fun _ _=>rfl) (hres _ _ _),hvars _ fun _ _=>rfl,rfl,fun b off hp=>?_,fun ha=>?_⟩,fun p hp _=>?_⟩⟩
 ·have hp':MemPlace.cell b off∈before:=by rw [hps];simpa using hp
  rw [hb.frozen (p:=⟨b,off,none⟩) (hlt _ hp')]
  exact hz b off hp'
 ·have:=hn ha
  rw [hps] at this
  simpa using this
 ·rw [hps]
  simpa using hp
end Go.EvC
section
set_option linter.unusedVariables false
set_option linter.unusedSimpArgs false
section
/- The evaluator, part W: calls that were evaluated apart. -/
namespace Go.EvC
def AV.scal:AV→Bool
 | .bool _=>true
 | .int _ _=>true
 | .str _ _=>true
 | _=>false
theorem VR.scal {ρ ρ':Ren} {a:AV} {v:Value} (h:VR ρ a v) (hs:a.scal=true):VR ρ' a v:=by
 cases h <;> first | (cases hs;done) | skip
 ·exact .bool _
 ·exact .int _ _
 ·exact .str _ _ ‹_›
theorem VRL.scal {ρ ρ':Ren}:∀ {l:List AV} {vs:List Value},VRL ρ l vs→allL AV.scal l=true→VRL ρ' l vs
 | _,_,.nil,_=>.nil
 | _,_,.cons a v l vs h hs,hl=>by
  rw [allL_cons] at hl
  obtain ⟨h1,h2⟩:=cond_and hl
  exact .cons _ _ _ _ (h.scal h1) (hs.scal h2)
end Go.EvC
end
section
/- The evaluator, part X: calls cut out: evaluated apart, over a part of the heap; all else is as it was. -/
namespace Go.EvC
noncomputable def optEq (a b:Option AV):Bool:=Option.rec (motive:=fun _=>Bool) (Option.rec (motive:=fun _=>Bool) true (fun _=>false) b) (fun x=>Option.rec (motive:=fun _=>Bool) false (fun y=>avEq x y) b) a
noncomputable def trEq (t:Tr AV):Tr AV→Bool :=
 Tr.rec (motive:=fun _=>Tr AV→Bool) (fun u=>Tr.rec (motive:=fun _=>Bool) true (fun _ _ _ _ _=>false) u)
  (fun v _ _ il ir u=>Tr.rec (motive:=fun _=>Bool) false (fun v' l' r' _ _=>cond (optEq v v') (cond (il l') (ir r') false) false) u) t
noncomputable def esEq (l:List AEnt):List AEnt→Bool :=
 List.rec (motive:=fun _=>List AEnt→Bool) (fun m=>List.rec (motive:=fun _=>Bool) true (fun _ _ _=>false) m)
  (fun e _ ih m=>List.rec (motive:=fun _=>Bool) false (fun d m' _=>cond (cond (avEq e.key d.key) (cond (avEq e.val d.val) (Nat.beq e.born d.born) false) false) (ih m') false) m) l
noncomputable def objEq (a b:AObj):Bool :=
 match a with
 | .cells el c z n op=>match b with
  | .cells el' c' z' n' op'=>cond (Nat.beq el el') (cond (Nat.beq n n') (cond (cond op op' (!op')) (cond (avEqL z z') (trEq c c') false) false) false) false
  | _=>false
 | .map es ck=>match b with
  | .map es' ck'=>cond (Nat.beq ck ck') (esEq es es') false
  | _=>false
 | .dfr p=>match b with
  | .dfr q=>cond p q (!q)
  | _=>false
 | .glob l=>match b with
  | .glob m=>avEqL l m
  | _=>false
 | _=>false
theorem optEq_eq {a b:Option AV} (h:optEq a b=true):a=b:=by
 cases a with
 | none=>cases b with
  | none=>rfl
  | some y=>cases h
 | some x=>cases b with
  | none=>cases h
  | some y=>rw [avEq_eq x y h]
theorem trEq_eq:∀ {t u:Tr AV},trEq t u=true→t=u
 | .leaf,.leaf,_=>rfl
 | .leaf,.node _ _ _,h=>by cases h
 | .node _ _ _,.leaf,h=>by cases h
 | .node v l r,.node v' l' r',h=>by
  obtain ⟨h1,h2⟩:=cond_and (show cond (optEq v v') (cond (trEq l l') (trEq r r') false) false=true from h)
  obtain ⟨h3,h4⟩:=cond_and h2
  rw [optEq_eq h1,trEq_eq h3,trEq_eq h4]
theorem esEq_eq:∀ {l m:List AEnt},esEq l m=true→l=m
 | [],[],_=>rfl
 | [],_ :: _,h=>by cases h
 | _ :: _,[],h=>by cases h
 | e :: l,d :: m,h=>by
  obtain ⟨h1,h2⟩:=cond_and (show cond (cond (avEq e.key d.key) (cond (avEq e.val d.val) (Nat.beq e.born d.born) false) false) (esEq l m) false=true from h)
  obtain ⟨h3,h4⟩:=cond_and h1
  obtain ⟨h5,h6⟩:=cond_and h4
  obtain ⟨k,v,b⟩:=e
  obtain ⟨k',v',b'⟩:=d
  rw [esEq_eq h2]
  have e1:k=k':=avEq_eq _ _ h3
  have e2:v=v':=avEq_eq _ _ h5
  have e3:b=b':=Nat.eq_of_beq_eq_true h6
  subst e1;subst e2;subst e3;rfl
theorem boolEq_eq {p q:Bool} (h:cond p q (!q)=true):p=q:=by cases p <;> cases q <;> first | rfl | cases h
theorem objEq_eq {a b:AObj} (h:objEq a b=true):a=b:=by
 unfold objEq at h
 split at h
 ·split at h
  ·obtain ⟨h1,h2⟩:=cond_and h
   obtain ⟨h3,h4⟩:=cond_and h2
   obtain ⟨h5,h6⟩:=cond_and h4
   obtain ⟨h7,h8⟩:=cond_and h6
   rw [Nat.eq_of_beq_eq_true h1,Nat.eq_of_beq_eq_true h3,boolEq_eq h5,avEqL_eq _ _ h7,trEq_eq h8]
  ·cases h
 ·split at h
  ·obtain ⟨h1,h2⟩:=cond_and h
   rw [Nat.eq_of_beq_eq_true h1,esEq_eq h2]
  ·cases h
 ·split at h
  ·rw [boolEq_eq h]
  ·cases h
 ·split at h
  ·rw [avEqL_eq _ _ h]
  ·cases h
 ·cases h
noncomputable def trH (l:List (Nat×AObj)) (t:Tr AObj):Tr AObj:=List.rec (motive:=fun _=>Tr AObj) t (fun p _ ih=>ih.set p.1 p.2) l
theorem trH_get {t:Tr AObj}:∀ {l:List (Nat×AObj)} {i:Nat} {o:AObj},(trH l t).get i=some o→(trH l .leaf).get i=some o∨((trH l .leaf).get i=none∧t.get i=some o)
 | [],i,o,h=>.inr ⟨Tr.get_leaf _,h⟩
 | p :: l,i,o,h=>by
  have h':((trH l t).set p.1 p.2).get i=some o:=h
  rw [Tr.get_set] at h'
  show ((trH l .leaf).set p.1 p.2).get i=some o∨(((trH l .leaf).set p.1 p.2).get i=none∧_)
  rw [Tr.get_set]
  by_cases hi:p.1=i
  ·rw [if_pos hi] at h' ⊢;exact .inl h'
  ·rw [if_neg hi] at h' ⊢;exact trH_get h'
theorem trH_mem:∀ {l:List (Nat×AObj)} {i:Nat} {o:AObj},(trH l .leaf).get i=some o→(i,o)∈l
 | [],i,o,h=>by rw [show trH [] .leaf = .leaf from rfl,Tr.get_leaf] at h;cases h
 | p :: l,i,o,h=>by
  have h':((trH l .leaf).set p.1 p.2).get i=some o:=h
  rw [Tr.get_set] at h'
  by_cases hi:p.1=i
  ·rw [if_pos hi] at h'
   injection h' with h'
   rw [← hi,← h'];exact List.mem_cons_self ..
  ·rw [if_neg hi] at h';exact List.mem_cons_of_mem _ (trH_mem h')
noncomputable def covers (H:Tr AObj) (l:List (Nat×AObj)):Bool:=allL (fun p=>Option.rec (motive:=fun _=>Bool) false (fun o=>objEq o p.2) (H.get p.1)) l
theorem allL_mem {α:Type} {f:α→Bool}:∀ {l:List α},allL f l=true→∀ a∈l,f a=true
 | [],_,a,h=>by cases h
 | b :: l,h,a,ha=>by
  rw [allL_cons] at h
  obtain ⟨h1,h2⟩:=cond_and h
  rcases List.mem_cons.1 ha with rfl | ha
  ·exact h1
  ·exact allL_mem h2 a ha
theorem covers_get {H:Tr AObj} {l:List (Nat×AObj)} (h:covers H l=true):∀ p∈l,H.get p.1=some p.2:=fun p hp=>by
 have:=allL_mem h p hp
 cases hg:H.get p.1 with
 | none=>rw [hg] at this;cases this
 | some o=>rw [hg] at this;rw [objEq_eq this]
noncomputable def flt (t:Tr AObj):Nat→Tr AObj :=
 Tr.rec (motive:=fun _=>Nat→Tr AObj) (fun _=>.leaf)
  (fun v _ _ il ir n=>cond (Nat.beq n 0) .leaf (.node v (fN (n / 2) il) (fN ((n - 1) / 2) ir))) t
theorem flt_gp:∀ (f:Nat) (i:Nat),i≤f→∀ (t:Tr AObj) (n:Nat) (o:AObj),Tr.gp (pathF f i) (flt t n)=some o→Tr.gp (pathF f i) t=some o∧i < n
 | f,i,_,.leaf,n,o,h=>by
  rw [show flt .leaf n = .leaf from rfl,Tr.gp_leaf] at h;cases h
 | f,i,hf,.node v l r,n,o,h=>by
  have hn:flt (.node v l r) n=cond (Nat.beq n 0) .leaf (.node v (fN (n / 2) (flt l)) (fN ((n - 1) / 2) (flt r))):=rfl
  rw [hn] at h
  cases hb:Nat.beq n 0 with
  | true=>rw [hb,cond_true,Tr.gp_leaf] at h;cases h
  | false =>
   have hn0:n≠0:=fun e=>by subst e;cases hb
   rw [hb,cond_false,fN_eq,fN_eq] at h
   cases f with
   | zero =>
    have:i=0:=by omega
    subst this
    exact ⟨h,by omega⟩
   | succ f =>
    rw [pathF_succ] at h ⊢
    cases hi:Nat.beq i 0 with
    | true =>
     have:=Nat.eq_of_beq_eq_true hi
     subst this
     rw [hi,cond_true] at h
     exact ⟨h,by omega⟩
    | false =>
     rw [hi,cond_false] at h
     rw [cond_false]
     have hi0:i≠0:=fun e=>by subst e;cases hi
     cases hm:Nat.beq (i % 2) 1 with
     | true =>
      rw [hm] at h
      have:=Nat.eq_of_beq_eq_true hm
      obtain ⟨h1,h2⟩:=flt_gp f ((i - 1) / 2) (by omega) l (n / 2) o h
      exact ⟨h1,by omega⟩
     | false =>
      rw [hm] at h
      have:i % 2≠1:=fun e=>by rw [e] at hm;cases hm
      obtain ⟨h1,h2⟩:=flt_gp f ((i - 1) / 2) (by omega) r ((n - 1) / 2) o h
      exact ⟨h1,by omega⟩
theorem flt_get {t:Tr AObj} {n i:Nat} {o:AObj} (h:(flt t n).get i=some o):t.get i=some o∧i < n:=flt_gp i i (Nat.le_refl _) t n o h
structure Cut where
 g:FuncId
 args:List AV
 nx0:Nat
 hin:List (Nat×AObj)
 v:AV
 hout:List (Nat×AObj)
 nx1:Nat
structure CutOK (P:Program) (c:Cut):Prop where
 keys:∀ i o,(trH c.hin .leaf).get i=some o→(trH c.hout .leaf).get i≠none
 call:∀ E F ρ w,Rel E F c.nx0 ρ (trH c.hin .leaf).get w→TgtOK P (.fn c.g c.args) w ρ (EndsR E F c.nx0 ρ (.mk c.v (trH c.hout .leaf) c.nx1))
theorem cut_frame {P:Program} {c:Cut} (hc:CutOK P c) {E:Env} {F:Nat→Option Obj} {ρ:Ren} {w:World} {H:Tr AObj} (r:Rel E F c.nx0 ρ H.get w) (hcov:∀ p∈c.hin,H.get p.1=some p.2) :
  TgtOK P (.fn c.g c.args) w ρ (EndsR E F c.nx0 ρ (.mk c.v (trH c.hout (flt H c.nx0)) c.nx1)):=by
 classical
 have hsub:∀ i o,(trH c.hin .leaf).get i=some o→H.get i=some o:=fun i o h=>hcov (i,o) (trH_mem h)
 have rl:=r.less hsub
 let Q:Nat→Prop:=fun b=>∃ i o blk,H.get i=some o∧(trH c.hin .leaf).get i=none∧ρ i=some blk∧blk.b=b
 let F1:Nat→Option Obj:=fun b=>if F b=none∧Q b then w.heap[b]? else F b
 have hF1:∀ b o,F b=some o→F1 b=some o:=fun b o hb=>by
  show (if _ then _ else _)=_
  rw [if_neg (fun h=>by rw [hb] at h;cases h.1)];exact hb
 have hF2:∀ i o blk,H.get i=some o→(trH c.hin .leaf).get i=none→ρ i=some blk→F1 blk.b=w.heap[blk.b]?:=fun i o blk h1 h2 h3=>if_pos ⟨r.dj i o blk h1 h3,i,o,blk,h1,h2,h3,rfl⟩
 have r1:Rel E F1 c.nx0 ρ (trH c.hin .leaf).get w:=⟨r.tape,r.os,r.output,(fun b o hb=>by
   have hb':(if F b=none∧Q b then w.heap[b]? else F b)=some o:=hb
   split at hb'
   ·exact hb'
   ·exact r.fr b o hb'),rl.ob,(fun i o b hi hb=>by
   show (if _ then _ else _)=_
   rw [if_neg]
   ·exact rl.dj i o b hi hb
   ·rintro ⟨_,j,o',blk,h1,h2,h3,h4⟩
    have:=r.inj i j o o' b blk (hsub i o hi) h1 hb h3 h4.symm
    subst this;rw [hi] at h2;cases h2),rl.inj,r.new,rl.gl,fun b o hb=>hF1 b o (r.bs b o hb)⟩
 obtain ⟨hfn,hcall⟩:=hc.call E F1 ρ w r1
 refine ⟨hfn,fun vs hvs=>CallsIn.mono (hcall vs hvs) fun e w' he=>?_⟩
 obtain ⟨u,ρ',he,hx,hr,hv⟩:=he
 have hold:∀ i o b,(trH c.hout .leaf).get i=none→(flt H c.nx0).get i=some o→ρ' i=some b→H.get i=some o∧ρ i=some b∧(trH c.hin .leaf).get i=none:=fun i o b h1 h2 h3=>by
  obtain ⟨h4,h5⟩:=flt_get h2
  rw [hx.lo i h5] at h3
  refine ⟨h4,h3,?_⟩
  cases h6:(trH c.hin .leaf).get i with
  | none=>rfl
  | some o'=>exact absurd h1 (hc.keys i o' h6)
 refine ⟨u,ρ',he,hx,⟨hr.tape,hr.os,hr.output,fun b o hb=>hr.fr b o (hF1 b o hb),fun i o b hi hb=>?_,fun i o b hi hb=>?_,fun i j o o' b b' hi hj hb hb' e=>?_,hr.new,fun g l hg=>?_,r.bs⟩,hv⟩
 ·rcases trH_get hi with hi | ⟨h1,h2⟩
  ·exact hr.ob i o b hi hb
  ·obtain ⟨h3,h4,h5⟩:=hold i o b h1 h2 hb
   obtain ⟨c',h6,h7⟩:=r.ob i o b h3 h4
   exact ⟨c',hr.fr _ _ ((hF2 i o b h3 h5 h4).trans h6),h7.mono hx.le⟩
 ·rcases trH_get hi with hi | ⟨h1,h2⟩
  ·have h3:=hr.dj i o b hi hb
   cases hF:F b.b with
   | none=>rfl
   | some x=>rw [hF1 _ _ hF] at h3;cases h3
  ·obtain ⟨h3,h4,h5⟩:=hold i o b h1 h2 hb
   exact r.dj i o b h3 h4
 ·have mix:∀ i j o o' b b',(trH c.hout .leaf).get i=some o→(trH c.hout .leaf).get j=none→(flt H c.nx0).get j=some o'→ρ' i=some b→ρ' j=some b'→b.b=b'.b→False:=fun i j o o' b b' h1 h2 h3 h4 h5 h6=>by
   obtain ⟨h7,h8,h9⟩:=hold j o' b' h2 h3 h5
   obtain ⟨c',h10,_⟩:=r.ob j o' b' h7 h8
   have h11:=hr.dj i o b h1 h4
   rw [h6,hF2 j o' b' h7 h9 h8,h10] at h11;cases h11
  rcases trH_get hi with hi | ⟨h1,h2⟩
  ·rcases trH_get hj with hj | ⟨h3,h4⟩
   ·exact hr.inj i j o o' b b' hi hj hb hb' e
   ·exact (mix i j o o' b b' hi h3 h4 hb hb' e).elim
  ·rcases trH_get hj with hj | ⟨h3,h4⟩
   ·exact (mix j i o' o b' b hj h1 h2 hb' hb e.symm).elim
   ·obtain ⟨h5,h6,_⟩:=hold i o b h1 h2 hb
    obtain ⟨h7,h8,_⟩:=hold j o' b' h3 h4 hb'
    exact r.inj i j o o' b b' h5 h7 h6 h8 e
 ·rcases trH_get hg with hg | ⟨h1,h2⟩
  ·exact hr.gl g l hg
  ·exact r.gl g l (flt_get h2).1
noncomputable def scal2 (a:AV):Bool:=match a with
 | .agg l=>allL AV.scal l
 | a=>a.scal
theorem VR.scal2 {ρ ρ':Ren} {a:AV} {v:Value} (h:VR ρ a v) (hs:scal2 a=true):VR ρ' a v:=by
 cases h <;> first | (cases hs;done) | skip
 ·exact .bool _
 ·exact .int _ _
 ·exact .str _ _ ‹_›
 ·rename_i l vs h
  exact .agg _ _ (h.scal hs)
theorem VRL.scal2 {ρ ρ':Ren}:∀ {l:List AV} {vs:List Value},VRL ρ l vs→allL Go.EvC.scal2 l=true→VRL ρ' l vs
 | _,_,.nil,_=>.nil
 | _,_,.cons a v l vs h hs,hl=>by
  rw [allL_cons] at hl
  obtain ⟨h1,h2⟩:=cond_and hl
  exact .cons _ _ _ _ (h.scal2 h1) (hs.scal2 h2)
abbrev Pures:=List (FuncId×List (List AV×AV))
noncomputable def findA (l:List (List AV×AV)) (args:List AV):Option AV:=List.rec (motive:=fun _=>Option AV) none (fun p _ ih=>cond (avEqL args p.1) (some p.2) ih) l
noncomputable def findP (pt:Pures) (g:FuncId) (args:List AV):Option AV:=List.rec (motive:=fun _=>Option AV) none (fun p _ ih=>cond (Nat.beq p.1 g) (findA p.2 args) ih) pt
noncomputable def findC (tab:List Cut) (g:FuncId) (args:List AV) (H:Tr AObj) (nx:Nat):Option Cut :=
 List.rec (motive:=fun _=>Option Cut) none (fun c _ ih=>cond (cond (Nat.beq c.nx0 nx) (cond (Nat.beq c.g g) (cond (avEqL args c.args) (covers H c.hin) false) false) false) (some c) ih) tab
def CutsOK (P:Program) (tab:List Cut):Prop:=∀ c∈tab,CutOK P c
theorem findA_mem:∀ {l:List (List AV×AV)} {args:List AV} {v:AV},findA l args=some v→(args,v)∈l
 | [],_,_,h=>by cases h
 | p :: l,args,v,h=>by
  have h':cond (avEqL args p.1) (some p.2) (findA l args)=some v:=h
  cases hb:avEqL args p.1 with
  | true =>
   rw [hb] at h';injection h' with h'
   rw [avEqL_eq _ _ hb,← h'];exact List.mem_cons_self ..
  | false=>rw [hb] at h';exact List.mem_cons_of_mem _ (findA_mem h')
theorem findP_mem:∀ {pt:Pures} {g:FuncId} {args:List AV} {v:AV},findP pt g args=some v→∃ l,(g,l)∈pt∧(args,v)∈l
 | [],_,_,_,h=>by cases h
 | p :: pt,g,args,v,h=>by
  have h':cond (Nat.beq p.1 g) (findA p.2 args) (findP pt g args)=some v:=h
  cases hb:Nat.beq p.1 g with
  | true =>
   rw [hb] at h'
   refine ⟨p.2,?_,findA_mem h'⟩
   rw [← Nat.eq_of_beq_eq_true hb];exact List.mem_cons_self ..
  | false =>
   rw [hb] at h'
   obtain ⟨l,h1,h2⟩:=findP_mem h'
   exact ⟨l,List.mem_cons_of_mem _ h1,h2⟩
theorem findC_mem {g:FuncId} {args:List AV} {H:Tr AObj} {nx:Nat}:∀ {tab:List Cut} {c:Cut},findC tab g args H nx=some c→c∈tab∧c.nx0=nx∧c.g=g∧args=c.args∧covers H c.hin=true
 | [],_,h=>by cases h
 | d :: tab,c,h=>by
  have h':cond (cond (Nat.beq d.nx0 nx) (cond (Nat.beq d.g g) (cond (avEqL args d.args) (covers H d.hin) false) false) false) (some d) (findC tab g args H nx)=some c:=h
  cases hb:cond (Nat.beq d.nx0 nx) (cond (Nat.beq d.g g) (cond (avEqL args d.args) (covers H d.hin) false) false) false with
  | true =>
   rw [hb] at h';injection h' with h';subst h'
   obtain ⟨h1,h2⟩:=cond_and hb
   obtain ⟨h3,h4⟩:=cond_and h2
   obtain ⟨h5,h6⟩:=cond_and h4
   exact ⟨List.mem_cons_self ..,Nat.eq_of_beq_eq_true h1,Nat.eq_of_beq_eq_true h3,avEqL_eq _ _ h5,h6⟩
  | false =>
   rw [hb] at h'
   obtain ⟨h1,h2⟩:=findC_mem h'
   exact ⟨List.mem_cons_of_mem _ h1,h2⟩
theorem cuts_nil {P:Program}:CutsOK P []:=fun _ h=>by cases h
noncomputable def valB (r:Option CR) (v:AV):Bool:=Option.rec (motive:=fun _=>Bool) false (fun r=>CR.rec (motive:=fun _=>Bool) (fun u _ _=>avEq u v) (fun _ _ _=>false) (fun _ _ _ _=>false) r) r
noncomputable def cutB (r:Option CR) (c:Cut):Bool :=
 cond (allL (fun p=>Option.rec (motive:=fun _=>Bool) false (fun _=>true) ((trH c.hout .leaf).get p.1)) c.hin)
  (Option.rec (motive:=fun _=>Bool) false (fun r=>CR.rec (motive:=fun _=>Bool) (fun u H nx=>cond (avEq u c.v) (cond (Nat.beq nx c.nx1) (covers H c.hout) false) false) (fun _ _ _=>false) (fun _ _ _ _=>false) r) r) false
theorem cuts_cons {P:Program} {tab:List Cut} {c:Cut} (hc:CutOK P c) (ht:CutsOK P tab):CutsOK P (c :: tab):=fun d hd=>by
 rcases List.mem_cons.1 hd with rfl | hd
 ·exact hc
 ·exact ht d hd
end Go.EvC
end
section
/- The evaluator, part Z: tables of numbers of the library. -/
namespace Go.EvC
abbrev GZ:=List (Nat×IntKind×List Int)
def tabG (gz:GZ):List (Nat×AObj):=gz.map fun p=>(p.1,.glob (p.2.2.map fun z=>.int p.2.1 z))
theorem ints_relZ {ρ:Ren} (k:IntKind):∀ zs:List Int,VRL ρ (zs.map fun z=>.int k z) (zs.map fun z=>.int k z)
 | []=>.nil
 | z :: zs=>.cons _ _ _ _ (.int k z) (ints_relZ k zs)
def TabsIn (gz:GZ) (w:World):Prop:=∀ p∈gz,∃ cs e fz,w.heap[p.1]? = some (.cells cs e fz)∧cs.toList=p.2.2.map fun z=>.int p.2.1 z
theorem tabs_glob {gz:GZ} {w:World} (h:TabsIn gz w):∀ g o,(g,o)∈tabG gz→∀ l,o = .glob l→∃ cs e fz,w.heap[g]? = some (.cells cs e fz)∧∀ ρ',VRL ρ' l cs.toList:=by
 intro g o hm l ho
 obtain ⟨p,hp,he⟩:=List.mem_map.1 hm
 injection he with h1 h2
 subst h1
 rw [← h2] at ho
 injection ho with ho
 obtain ⟨cs,e,fz,h3,h4⟩:=h p hp
 refine ⟨cs,e,fz,h3,fun ρ'=>?_⟩
 rw [h4,← ho]
 exact ints_relZ _ _
theorem tabs_nil {w:World}:TabsIn [] w:=fun _ h=>by cases h
theorem tabs_cons {w:World} {gz:GZ} {g:Nat} {k:IntKind} {zs:List Int} (h:∃ cs e fz,w.heap[g]? = some (.cells cs e fz)∧cs.toList=zs.map fun z=>.int k z) (ht:TabsIn gz w):TabsIn ((g,k,zs) :: gz) w:=fun p hp=>by
 rcases List.mem_cons.1 hp with rfl | hp
 ·exact h
 ·exact ht p hp
noncomputable def findPG (gl:List (Nat×AObj)) (pt:Pures) (H:Tr AObj) (g:FuncId) (args:List AV):Option AV :=
 Option.rec (motive:=fun _=>Option AV) none (fun v=>cond (covers H gl) (some v) none) (findP pt g args)
theorem findPG_mem {gl:List (Nat×AObj)} {pt:Pures} {H:Tr AObj} {g:FuncId} {args:List AV} {v:AV} (h:findPG gl pt H g args=some v):findP pt g args=some v∧covers H gl=true:=by
 unfold findPG at h
 cases h1:findP pt g args with
 | none=>rw [h1] at h;cases h
 | some u =>
  rw [h1] at h
  have h':cond (covers H gl) (some u) none=some v:=h
  cases hc:covers H gl with
  | true=>rw [hc] at h';exact ⟨h',rfl⟩
  | false=>rw [hc] at h';cases h'
noncomputable def cutG (gl:List (Nat×AObj)) (pt:Pures) (tab:List Cut) (call:CallF):CallF:=fun t H nx =>
 match t with
 | .fn g args=>Option.rec (motive:=fun _=>Option CR) (Option.rec (motive:=fun _=>Option CR) (call (.fn g args) H nx) (fun c=>some (.mk c.v (trH c.hout (flt H c.nx0)) c.nx1)) (findC tab g args H nx))
   (fun v=>some (.mk v H nx)) (findPG gl pt H g args)
 | .yld id args=>call (.yld id args) H nx
noncomputable def evsG (gl:List (Nat×AObj)) (P:Program) (pt:Pures) (tab:List Cut) (rounds n:Nat):Evs :=
 Nat.rec (motive:=fun _=>Evs) ⟨fun _ _=>none,fun _ _ _=>none,fun _ _ _=>none⟩ (fun _ E=>⟨codeF P rounds E,cutG gl pt tab (callF P E),dcodeF P rounds E⟩) n
def PureG (gl:List (Nat×AObj)) (P:Program) (g:FuncId) (args:List AV) (v:AV):Prop :=
 ∀ E F nx ρ (H:Tr AObj) w,Rel E F nx ρ H.get w→covers H gl=true→TgtOK P (.fn g args) w ρ (Ends E F nx ρ v H nx)
def PuresG (gl:List (Nat×AObj)) (P:Program) (pt:Pures):Prop:=∀ g l,(g,l)∈pt→∀ p∈l,PureG gl P g p.1 p.2
theorem cutG_sound {gl:List (Nat×AObj)} {P:Program} {pt:Pures} (hp:PuresG gl P pt) {tab:List Cut} (ht:CutsOK P tab) {call:CallF} (hc:CallOK P call):CallOK P (cutG gl pt tab call):=by
 intro t H nx res h E F ρ w r
 cases t with
 | yld id args=>exact hc _ _ _ _ h E F ρ w r
 | fn g args =>
  have h':Option.rec (motive:=fun _=>Option CR) (Option.rec (motive:=fun _=>Option CR) (call (.fn g args) H nx) (fun c=>some (.mk c.v (trH c.hout (flt H c.nx0)) c.nx1)) (findC tab g args H nx))
   (fun v=>some (.mk v H nx)) (findPG gl pt H g args)=some res:=h
  cases h1:findPG gl pt H g args with
  | some v =>
   rw [h1] at h'
   injection h' with h';subst h'
   obtain ⟨h0,hcv⟩:=findPG_mem h1
   obtain ⟨l,h2,h3⟩:=findP_mem h0
   exact hp g l h2 _ h3 E F nx ρ H w r hcv
  | none =>
   rw [h1] at h'
   cases h2:findC tab g args H nx with
   | none=>rw [h2] at h';exact hc _ _ _ _ h' E F ρ w r
   | some c =>
    rw [h2] at h'
    injection h' with h';subst h'
    obtain ⟨h3,rfl,rfl,rfl,h4⟩:=findC_mem h2
    exact cut_frame (ht c h3) r (covers_get h4)
theorem evsG_sound {gl:List (Nat×AObj)} {P:Program} (hm:P.follows .mixedOrders=true) {pt:Pures} (hp:PuresG gl P pt) {tab:List Cut} (ht:CutsOK P tab) (rounds:Nat) :
  ∀ n,CodeOK P (evsG gl P pt tab rounds n).code∧CallOK P (evsG gl P pt tab rounds n).call∧DCodeOK P (evsG gl P pt tab rounds n).dcode
 | 0=>⟨(fun _ _ _ _ h=>by cases h),(fun _ _ _ _ h=>by cases h),(fun _ _ _ _ _ _ h=>by cases h)⟩
 | n + 1=>by
  obtain ⟨h1,h2,h3⟩:=evsG_sound hm hp ht rounds n
  have h4:=codeF_sound (rounds:=rounds) (drawOK hm) h1 h2
  refine ⟨h4,cutG_sound hp ht fun t H nx res h E F ρ w r=>?_,dcodeF_sound h4 h3⟩
  cases t with
  | fn f args=>exact evFunc_sound h1 h3 h r
  | yld id args=>exact evYield_sound h1 h r
theorem puresG_nil {gl:List (Nat×AObj)} {P:Program}:PuresG gl P []:=fun _ _ h=>by cases h
theorem allL_mk {α:Type} {f:α→Bool} {a:α} {l:List α} (h:f a=true) (hl:allL f l=true):allL f (a :: l)=true:=by
 rw [allL_cons,h];exact hl
theorem puresG_cons {gl:List (Nat×AObj)} {ng:Nat} {P:Program} (hm:P.follows .mixedOrders=true) {pt pt':Pures} (hp:PuresG gl P pt) (hp':PuresG gl P pt') {tab:List Cut} (ht:CutsOK P tab) {g:FuncId} {l:List (List AV×AV)} {rounds n:Nat}
  (h:allL (fun p=>cond (allL scal2 p.1) (cond (scal2 p.2) (valB ((evsG gl P pt' tab rounds n).call (.fn g p.1) (trH gl .leaf) ng) p.2) false) false) l=true):PuresG gl P ((g,l) :: pt):=by
 intro g' l' hm' p hpl
 rcases List.mem_cons.1 hm' with e | hm'
 ·injection e with e1 e2
  subst e1;subst e2
  obtain ⟨h1,h2⟩:=cond_and (allL_mem h p hpl)
  obtain ⟨h3,h4⟩:=cond_and h2
  obtain ⟨a,v⟩:=p
  simp only at h1 h3 h4
  cases hx:(evsG gl P pt' tab rounds n).call (.fn g' a) (trH gl .leaf) ng with
  | none=>rw [hx] at h4;cases h4
  | some res =>
   cases res with
   | pan _ _ _=>rw [hx] at h4;cases h4
   | dfr _ _ _ _=>rw [hx] at h4;cases h4
   | mk u H0 nx0 =>
    rw [hx] at h4
    have:=avEq_eq _ _ (show avEq u v=true from h4)
    subst this
    intro E F nx ρ H w r hcv
    have hcall:=(evsG_sound hm hp' ht rounds n).2.1 _ _ _ _ hx ⟨w.tape,w.os,w.output,fun b=>w.heap[b]?⟩ (fun b=>w.heap[b]?) rho0 w
     ⟨rfl,rfl,rfl,fun b o hb=>hb,fun i o b _ hb=>(by cases hb),fun i o b _ hb=>(by cases hb),
      fun i j o o' b b' _ _ hb=>(by cases hb),fun _ _=>rfl,fun g2 l2 hg=>?_,fun _ _ h=>h⟩
    ·refine ⟨hcall.1,fun vs hvs=>?_⟩
     refine CallsIn.mono (hcall.2 vs (hvs.scal2 h1)) fun e w' he=>?_
     obtain ⟨v',ρ',he,_,hr,hv⟩:=he
     exact ⟨v',ρ,he,RX.refl _ _,⟨hr.tape.trans r.tape,hr.os.trans r.os,hr.output.trans r.output,fun b o hb=>hr.fr b o (r.fr b o hb),fun i o b hi hb=>(let ⟨c,g1,g2⟩:=r.ob i o b hi hb;⟨c,hr.fr _ _ g1,g2⟩),r.dj,r.inj,r.new,r.gl,r.bs⟩,hv.scal2 h3⟩
    ·obtain ⟨cs,e,fz,h5,h6⟩:=r.gl g2 l2 (covers_get hcv (g2,_) (trH_mem hg))
     exact ⟨cs,e,fz,r.fr _ _ (r.bs _ _ h5),h6⟩
 ·exact hp g' l' hm' p hpl
theorem cut_ofG {gl:List (Nat×AObj)} {P:Program} (hm:P.follows .mixedOrders=true) {pt:Pures} (hp:PuresG gl P pt) {tab:List Cut} (ht:CutsOK P tab) {c:Cut} {rounds n:Nat}
  (h:cutB ((evsG gl P pt tab rounds n).call (.fn c.g c.args) (trH c.hin .leaf) c.nx0) c=true):CutOK P c:=by
 obtain ⟨h1,h2⟩:=cond_and h
 cases hx:(evsG gl P pt tab rounds n).call (.fn c.g c.args) (trH c.hin .leaf) c.nx0 with
 | none=>rw [hx] at h2;cases h2
 | some res =>
  cases res with
  | pan _ _ _=>rw [hx] at h2;cases h2
  | dfr _ _ _ _=>rw [hx] at h2;cases h2
  | mk u H nx =>
   rw [hx] at h2
   obtain ⟨h3,h4⟩:=cond_and (show cond (avEq u c.v) (cond (Nat.beq nx c.nx1) (covers H c.hout) false) false=true from h2)
   obtain ⟨h5,h6⟩:=cond_and h4
   have e1:=avEq_eq _ _ h3
   have e2:=Nat.eq_of_beq_eq_true h5
   refine ⟨fun i o hi=>?_,fun E F ρ w r=>?_⟩
   ·have:=allL_mem h1 (i,o) (trH_mem hi)
    intro hn
    rw [show (trH c.hout .leaf).get (i,o).1=none from hn] at this;cases this
   ·have hcall:=(evsG_sound hm hp ht rounds n).2.1 _ _ _ _ hx E F ρ w r
    refine ⟨hcall.1,fun vs hvs=>CallsIn.mono (hcall.2 vs hvs) fun e w' he=>?_⟩
    obtain ⟨v',ρ',he,hX,hr,hv⟩:=he
    rw [e1] at hv
    rw [e2] at hX hr
    exact ⟨v',ρ',he,hX,hr.less fun i o hi=>covers_get h6 (i,o) (trH_mem hi),hv⟩
theorem ev_cutG {gp:List (Nat×AObj)} {P:Program} (hm:P.follows .mixedOrders=true) {pt:Pures} (hp:PuresG gp P pt) {tab:List Cut} (ht:CutsOK P tab) {rounds n:Nat} {f:FuncId} {args:List AV} {b:Bool} {gl:List (Nat×AObj)} {ng:Nat}
  (h:says ((evsG gp P pt tab rounds n).call (.fn f args) (trH gl .leaf) ng) b=true) {vs:List Value} (hvs:VRL rho0 args vs) (w:World)
  (hG:∀ g o,(g,o)∈gl→∀ l,o = .glob l→∃ cs e fz,w.heap[g]? = some (.cells cs e fz)∧∀ ρ',VRL ρ' l cs.toList) :
  Calls P f vs.toArray w fun e w'=>e = .returned (.bool b)∧RowKit.Below w.heap.size w w':=by
 obtain ⟨H,nx,hx⟩:=says_some h
 have hcall:=(evsG_sound hm hp ht rounds n).2.1 _ _ _ _ hx ⟨w.tape,w.os,w.output,fun b=>w.heap[b]?⟩ (fun b=>w.heap[b]?) rho0 w
  ⟨rfl,rfl,rfl,fun b o hb=>hb,fun i o b _ hb=>(by cases hb),fun i o b _ hb=>(by cases hb),
   fun i j o o' b b' _ _ hb=>(by cases hb),fun _ _=>rfl,fun g l hg=>hG g _ (trH_mem hg) l rfl,fun _ _ h=>h⟩
 have hc':Calls P f vs.toArray w (Ends ⟨w.tape,w.os,w.output,fun b=>w.heap[b]?⟩ (fun b=>w.heap[b]?) ng rho0 (.bool b) H nx):=callsIn_wide.1 (hcall.2 vs hvs)
 refine hc'.mono fun e w' ⟨u,ρ',he,_,hr,hv⟩=>?_
 cases hv
 refine ⟨he,hr.os,hr.tape,hr.output,?_,fun k hk=>?_⟩
 ·by_cases h0:w.heap.size=0
  ·omega
  ·have hlt:w.heap.size - 1 < w.heap.size:=by omega
   have:=lt_of_heap (hr.fr (w.heap.size - 1) _ (Array.getElem?_eq_getElem hlt))
   omega
 ·rw [Array.getElem?_eq_getElem hk]
  exact hr.fr k _ (Array.getElem?_eq_getElem hk)
end Go.EvC
end
end
