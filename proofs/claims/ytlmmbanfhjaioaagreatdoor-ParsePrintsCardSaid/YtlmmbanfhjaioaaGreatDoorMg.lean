/- Laid by program out of its parts: EvV. -/
import Derived.Test.YtlmmbanfhjaioaaGreatDoorEvU
import Derived.Below
import Derived.ChangeSame
noncomputable section
set_option linter.unusedVariables false
set_option linter.unusedSimpArgs false
namespace Go.Ev
open Go.RowKit Go.ChangeShapes
def says (x:Option CR) (b:Bool):Bool:=Option.rec (motive:=λ_=>Bool) false (λr=>CR.rec (motive:=λ_=>Bool) (λv _ _=>match v with
  |.bool c=>cond c b (!b)
  |_=>false) (λ_ _ _=>false) (λ_ _ _ _=>false) r) x
theorem Agi {P:Program} {H:Type} {enc:TypeId×Value->H} {f:Func} {s:ChangeSpec} {B fresh C M:Bool} {W O:World} {args:Array Value} {v:Value} {R gs:List (DataW H)} {before pa pv:List MemPlace} (hW:DataW.Whole enc P f.params.toList s.vars B W args.toList R gs before) (E:∀(b:Nat) (sp:Nat->Bool) (hd:Bool),DataW.TrodAll enc P O b sp hd f.resultTypes.toList (v.resultList f.resultTypes.size) (s.fn H (R++gs)).results []) (y:∀sp:Nat->Bool,(∀p∈before,sp p.block=true)->DataW.TrodAll enc P O 0 sp true f.params.toList args.toList (s.fn H (R++gs)).args pa) (q:∀sp:Nat->Bool,(∀p∈before,sp p.block=true)->DataW.TrodVars enc P O sp s.vars (s.fn H (R++gs)).vars pv) (L:before=pa++pv) (V:RowKit.Below W.heap.size W O) (AA:∀(j:Nat) (t:TypeId) (r:Value),f.resultTypes[j]? =some t->(v.resultList f.resultTypes.size)[j]? =some r->Value.okWide P O .any 0 t r): s.post enc P f B fresh C M W args v O:=by
 have U:∀p∈before,p.block<W.heap.size:=λp K=>by simpa using hW.lt p K
 have J:∀p∈before,(λb=>decide (b<W.heap.size)) p.block=true:=λp K=>by simpa using U p K
 obtain⟨_,_,_,_,_,hz,hn⟩:=id hW;refine⟨R,gs,before,[],pa,pv,hW,E _ _ _,y _ J,q _ J,V.frame _,λ_=>⟨AA,_,_,([]++pa)++pv,⟨[]++pa,pv,trodAll_append (y _ λ_ _=>rfl) (E _ _ _),q _ λ_ _=>rfl,rfl,λb off K=>?_,λY=>?_⟩,λp K _=>?_⟩⟩
 ·have S:MemPlace.cell b off∈before:=by rw[L];simpa using K
  rw[V.frozen (p:=⟨b,off,none⟩) (U _ S)];exact hz b off S
 ·have:=hn Y;rw[L]at this;simpa using this
 ·rw[L];simpa using K
end Go.Ev
end
