/- Laid by program out of its parts: EvV, EvW. -/
import Derived.Test.YthallodoidghoaaEvU
import Derived.Below
import Derived.ChangeSame
set_option linter.unusedVariables false
set_option linter.unusedSimpArgs false
section
/- The evaluator, part V: a closed call by evaluation: from every world it ends as evaluated, and leaves what was there as it was. -/
namespace Go.Ev
open Go.RowKit Go.ChangeShapes
noncomputable def says (x:Option CR) (b:Bool):Bool :=
 Option.rec (motive:=fun _=>Bool) false (fun r=>CR.rec (motive:=fun _=>Bool) (fun v _ _=>match v with
  | .bool c=>cond c b (!b)
  | _=>false) (fun _ _ _=>false) (fun _ _ _ _=>false) r) x
theorem says_some {x:Option CR} {b:Bool} (h:says x b=true):∃ H nx,x=some (.mk (.bool b) H nx):=by
 cases x with
 | none=>cases h
 | some r =>
  cases r with
  | mk v H nx =>
   cases v with
   | bool c=>refine ⟨H,nx,?_⟩;cases b <;> cases c <;> first | rfl | cases h
   | _=>cases h
  | _=>cases h
noncomputable def rho0:Ren:=⟨fun _=>none,fun _=>none⟩
theorem post_of_below {P:Program} {H:Type} {enc:TypeId×Value→H} {f:Func} {s:ChangeSpec} {apart fresh handsOn again:Bool} {W W':World} {args:Array Value} {v:Value} {ds gs:List (DataW H)} {before pa pv:List MemPlace}
  (hW:DataW.Whole enc P f.params.toList s.vars apart W args.toList ds gs before)
  (hres:∀ (b:Nat) (sp:Nat→Bool) (hd:Bool),DataW.TrodAll enc P W' b sp hd f.resultTypes.toList (v.resultList f.resultTypes.size) (s.fn H (ds ++ gs)).results [])
  (hargs:∀ sp:Nat→Bool,(∀ p∈before,sp p.block=true)→DataW.TrodAll enc P W' 0 sp true f.params.toList args.toList (s.fn H (ds ++ gs)).args pa)
  (hvars:∀ sp:Nat→Bool,(∀ p∈before,sp p.block=true)→DataW.TrodVars enc P W' sp s.vars (s.fn H (ds ++ gs)).vars pv)
  (hps:before=pa ++ pv) (hb:RowKit.Below W.heap.size W W')
  (hok:∀ (j:Nat) (t:TypeId) (r:Value),f.resultTypes[j]? = some t→(v.resultList f.resultTypes.size)[j]? = some r→Value.okWide P W' .any 0 t r) :
  s.post enc P f apart fresh handsOn again W args v W':=by
 have hlt:∀ p∈before,p.block < W.heap.size:=fun p hp=>by simpa using hW.lt p hp
 have hold:∀ p∈before,(fun b=>decide (b < W.heap.size)) p.block=true:=fun p hp=>by simpa using hlt p hp
 obtain ⟨_,_,_,_,_,hz,hn⟩:=id hW
 refine ⟨ds,gs,before,[],pa,pv,hW,hres _ _ _,hargs _ hold,hvars _ hold,hb.frame _,fun _=>⟨hok,_,_,([] ++ pa) ++ pv,⟨[] ++ pa,pv,trodAll_append (hargs _ fun _ _=>rfl) (hres _ _ _),hvars _ fun _ _=>rfl,rfl,fun b off hp=>?_,fun ha=>?_⟩,fun p hp _=>?_⟩⟩
 ·have hp':MemPlace.cell b off∈before:=by rw [hps];simpa using hp
  rw [hb.frozen (p:=⟨b,off,none⟩) (hlt _ hp')]
  exact hz b off hp'
 ·have:=hn ha
  rw [hps] at this
  simpa using this
 ·rw [hps]
  simpa using hp
end Go.Ev
end
section
/- The evaluator, part W: calls that were evaluated apart. -/
namespace Go.Ev
def AV.scal:AV→Bool
 | .bool _=>true
 | .int _ _=>true
 | .str _ _=>true
 | _=>false
theorem VR.scal {ρ ρ':Ren} {a:AV} {v:Value} (h:VR ρ a v) (hs:a.scal=true):VR ρ' a v:=by
 cases h <;> first | (cases hs;done) | skip
 ·exact .bool _
 ·exact .int _ _
 ·exact .str _ _ ‹_›
theorem VRL.scal {ρ ρ':Ren}:∀ {l:List AV} {vs:List Value},VRL ρ l vs→allL AV.scal l=true→VRL ρ' l vs
 | _,_,.nil,_=>.nil
 | _,_,.cons a v l vs h hs,hl=>by
  rw [allL_cons] at hl
  obtain ⟨h1,h2⟩:=cond_and hl
  exact .cons _ _ _ _ (h.scal h1) (hs.scal h2)
noncomputable def isIn (tab:List (List AV)) (args:List AV):Bool :=
 List.rec (motive:=fun _=>Bool) false (fun a _ ih=>cond (avEqL args a) true ih) tab
theorem isIn_mem:∀ {tab:List (List AV)} {args:List AV},isIn tab args=true→args∈tab
 | [],_,h=>by cases h
 | a :: tab,args,h=>by
  have h':cond (avEqL args a) true (isIn tab args)=true:=h
  cases hb:avEqL args a with
  | true=>rw [avEqL_eq _ _ hb];exact List.mem_cons_self ..
  | false=>rw [hb] at h';exact List.mem_cons_of_mem _ (isIn_mem h')
noncomputable def tabF (g:FuncId) (tab:List (List AV)) (call:CallF):CallF:=fun t H nx =>
 match t with
 | .fn f args=>cond (cond (Nat.beq f g) (isIn tab args) false) (some (.mk (.bool true) H nx)) (call (.fn f args) H nx)
 | .yld id args=>call (.yld id args) H nx
noncomputable def evsT (P:Program) (g:FuncId) (tab:List (List AV)) (rounds n:Nat):Evs :=
 Nat.rec (motive:=fun _=>Evs) ⟨fun _ _=>none,fun _ _ _=>none,fun _ _ _=>none⟩ (fun _ E=>⟨codeF P rounds E,tabF g tab (callF P E),dcodeF P rounds E⟩) n
def TabOK (P:Program) (g:FuncId) (tab:List (List AV)):Prop :=
 ∀ a∈tab,allL AV.scal a=true∧∃ rounds n,says ((evs P rounds n).call (.fn g a) .leaf 0) true=true
theorem tab_call {P:Program} (hm:P.follows .mixedOrders=true) {rounds n:Nat} {g:FuncId} {a:List AV} (hsc:allL AV.scal a=true) (h:says ((evs P rounds n).call (.fn g a) .leaf 0) true=true)
  {E:Env} {F:Nat→Option Obj} {ρ:Ren} {w:World} {H:Tr AObj} {nx:Nat} (r:Rel E F nx ρ H.get w):TgtOK P (.fn g a) w ρ (Ends E F nx ρ (.bool true) H nx):=by
 obtain ⟨H0,nx0,hx⟩:=says_some h
 have hcall:=(evs_sound (drawOK hm) rounds n).2.1 _ _ _ _ hx E (fun b=>w.heap[b]?) rho0 w
  ⟨r.tape,r.os,r.output,fun b o hb=>hb,fun i o b hi=>(by rw [Tr.get_leaf] at hi;cases hi),fun i o b hi=>(by rw [Tr.get_leaf] at hi;cases hi),
   fun i j o o' b b' hi=>(by rw [Tr.get_leaf] at hi;cases hi),fun _ _=>rfl,fun i o hi=>(by rw [Tr.get_leaf] at hi;cases hi),(fun b o hb=>r.fr b o (r.bs b o hb)),(fun _ _ h=>by cases h),(fun i o b hi=>by rw [Tr.get_leaf] at hi;cases hi),(fun _ _ _ _ h=>by cases h)⟩
 refine ⟨hcall.1,fun vs hvs=>?_⟩
 refine CallsIn.mono (hcall.2 vs (hvs.scal hsc)) fun e w' he=>?_
 obtain ⟨u,ρ',he,_,hr,hv⟩:=he
 cases hv
 refine ⟨.bool true,ρ,he,RX.refl _ _,⟨hr.tape,hr.os,hr.output,fun b o hb=>hr.fr b o (r.fr b o hb),fun i o b hi hb=>?_,r.dj,r.inj,r.new,r.gl,r.bs,fun b o hb=>hr.fr b o (r.st b o hb),r.sd,r.sf⟩,.bool _⟩
 obtain ⟨c,h1,h2⟩:=r.ob i o b hi hb
 exact ⟨c,hr.fr _ _ h1,h2⟩
theorem tabF_sound {P:Program} (hm:P.follows .mixedOrders=true) {g:FuncId} {tab:List (List AV)} (ht:TabOK P g tab) {call:CallF} (hc:CallOK P call):CallOK P (tabF g tab call):=by
 intro t H nx res h E F ρ w r
 cases t with
 | yld id args=>exact hc _ _ _ _ h E F ρ w r
 | fn f args =>
  have h':cond (cond (Nat.beq f g) (isIn tab args) false) (some (CR.mk (.bool true) H nx)) (call (.fn f args) H nx)=some res:=h
  cases hb:cond (Nat.beq f g) (isIn tab args) false with
  | false=>rw [hb] at h';exact hc _ _ _ _ h' E F ρ w r
  | true =>
   rw [hb,cond_true] at h'
   injection h' with h';subst h'
   obtain ⟨hf,hi⟩:=cond_and hb
   have hf:=Nat.eq_of_beq_eq_true hf
   subst hf
   obtain ⟨hs,rounds,n,hsay⟩:=ht args (isIn_mem hi)
   exact tab_call hm hs hsay r
theorem evsT_sound {P:Program} (hm:P.follows .mixedOrders=true) {g:FuncId} {tab:List (List AV)} (ht:TabOK P g tab) (rounds:Nat):∀ n,CodeOK P (evsT P g tab rounds n).code∧CallOK P (evsT P g tab rounds n).call∧DCodeOK P (evsT P g tab rounds n).dcode
 | 0=>⟨(fun _ _ _ _ h=>by cases h),(fun _ _ _ _ h=>by cases h),(fun _ _ _ _ _ _ h=>by cases h)⟩
 | n + 1=>by
  obtain ⟨h1,h2,h3⟩:=evsT_sound hm ht rounds n
  have h4:=codeF_sound (rounds:=rounds) (drawOK hm) h1 h2
  refine ⟨h4,tabF_sound hm ht fun t H nx res h E F ρ w r=>?_,dcodeF_sound h4 h3⟩
  cases t with
  | fn f args=>exact evFunc_sound h1 h3 h r
  | yld id args=>exact evYield_sound h1 h r
theorem ev_table {P:Program} (hm:P.follows .mixedOrders=true) {g:FuncId} {tab:List (List AV)} (ht:TabOK P g tab) {rounds n:Nat} {f:FuncId} {args:List AV} {b:Bool}
  (h:says ((evsT P g tab rounds n).call (.fn f args) .leaf 0) b=true) {vs:List Value} (hvs:VRL rho0 args vs) (w:World) :
  Calls P f vs.toArray w fun e w'=>e = .returned (.bool b)∧RowKit.Below w.heap.size w w':=by
 obtain ⟨H,nx,hx⟩:=says_some h
 have hcall:=(evsT_sound hm ht rounds n).2.1 _ _ _ _ hx ⟨w.tape,w.os,w.output,fun _=>none,fun _=>true⟩ (fun b=>w.heap[b]?) rho0 w
  ⟨rfl,rfl,rfl,fun b o hb=>hb,fun i o b hi=>(by rw [Tr.get_leaf] at hi;cases hi),fun i o b hi=>(by rw [Tr.get_leaf] at hi;cases hi),
   fun i j o o' b b' hi=>(by rw [Tr.get_leaf] at hi;cases hi),fun _ _=>rfl,fun i o hi=>(by rw [Tr.get_leaf] at hi;cases hi),(fun _ _ h=>by cases h),(fun _ _ h=>by cases h),(fun i o b hi=>by rw [Tr.get_leaf] at hi;cases hi),fun _ _ _ _ _=>rfl⟩
 have hc':Calls P f vs.toArray w (Ends ⟨w.tape,w.os,w.output,fun _=>none,fun _=>true⟩ (fun b=>w.heap[b]?) 0 rho0 (.bool b) H nx):=callsIn_wide.1 (hcall.2 vs hvs)
 refine hc'.mono fun e w' ⟨u,ρ',he,_,hr,hv⟩=>?_
 cases hv
 refine ⟨he,hr.os,hr.tape,hr.output,?_,fun k hk=>?_⟩
 ·by_cases h0:w.heap.size=0
  ·omega
  ·have hlt:w.heap.size - 1 < w.heap.size:=by omega
   have:=lt_of_heap (hr.fr (w.heap.size - 1) _ (Array.getElem?_eq_getElem hlt))
   omega
 ·rw [Array.getElem?_eq_getElem hk]
  exact hr.fr k _ (Array.getElem?_eq_getElem hk)
end Go.Ev
end
