/- Laid by program out of its parts: EvV, EvW. -/
import Derived.Test.YthallodoidghoaaGreatEvU
import Derived.Below
import Derived.ChangeSame
noncomputable section
set_option linter.unusedVariables false
set_option linter.unusedSimpArgs false
section
namespace Go.Ev
open Go.RowKit Go.ChangeShapes
def says (x:Option CR) (b:Bool):Bool:=Option.rec (motive:=λ_=>Bool) false (λr=>CR.rec (motive:=λ_=>Bool) (λv _ _=>match v with
  |.bool c=>cond c b (!b)
  |_=>false) (λ_ _ _=>false) (λ_ _ _ _=>false) r) x
theorem Aem {x:Option CR} {b:Bool} (h:says x b=true):∃H nx,x=some (.mk (.bool b) H nx):=by
 cases x with
 |none=>cases h
 |some r=>
  cases r with
  |mk v H nx=>
   cases v with
   |bool c=>refine⟨H,nx,?_⟩;cases b<;>cases c<;>first|rfl|cases h
   |_=>cases h
  |_=>cases h
def gk:Ak:=⟨λ_=>none,λ_=>none⟩
theorem Alz {P:Program} {H:Type} {enc:TypeId×Value->H} {f:Func} {s:ChangeSpec} {z fresh B S:Bool} {W U:World} {args:Array Value} {v:Value} {V gs:List (DataW H)} {before pa pv:List MemPlace} (hW:DataW.Whole enc P f.params.toList s.vars z W args.toList V gs before) (J:∀(b:Nat) (sp:Nat->Bool) (hd:Bool),DataW.TrodAll enc P U b sp hd f.resultTypes.toList (v.resultList f.resultTypes.size) (s.fn H (V++gs)).results []) (y:∀sp:Nat->Bool,(∀p∈before,sp p.block=true)->DataW.TrodAll enc P U 0 sp true f.params.toList args.toList (s.fn H (V++gs)).args pa) (x:∀sp:Nat->Bool,(∀p∈before,sp p.block=true)->DataW.TrodVars enc P U sp s.vars (s.fn H (V++gs)).vars pv) (R:before=pa++pv) (hb:RowKit.Below W.heap.size W U) (AA:∀(j:Nat) (t:TypeId) (r:Value),f.resultTypes[j]? =some t->(v.resultList f.resultTypes.size)[j]? =some r->Value.okWide P U .any 0 t r): s.post enc P f z fresh B S W args v U:=by
 have Z:∀p∈before,p.block<W.heap.size:=λp L=>by simpa using hW.lt p L
 have K:∀p∈before,(λb=>decide (b<W.heap.size)) p.block=true:=λp L=>by simpa using Z p L
 obtain⟨_,_,_,_,_,hz,hn⟩:=id hW;refine⟨V,gs,before,[],pa,pv,hW,J _ _ _,y _ K,x _ K,hb.frame _,λ_=>⟨AA,_,_,([]++pa)++pv,⟨[]++pa,pv,trodAll_append (y _ λ_ _=>rfl) (J _ _ _),x _ λ_ _=>rfl,rfl,λb off L=>?_,λha=>?_⟩,λp L _=>?_⟩⟩
 ·have Y:MemPlace.cell b off∈before:=by rw[R];simpa using L
  rw[hb.frozen (p:=⟨b,off,none⟩) (Z _ Y)];exact hz b off Y
 ·have:=hn ha;rw[R]at this;simpa using this
 ·rw[R];simpa using L
end Go.Ev
end
section
namespace Go.Ev
def AV.Pa:AV->Bool
 |.bool _=>true
 |.int _ _=>true
 |.str _ _=>true
 |_=>false
theorem VR.Pa {ρ r:Ak} {a:AV} {v:Value} (h:VR ρ a v) (x:a.Pa=true):VR r a v:=by
 cases h<;>first|(cases x;done)|skip
 ·exact .bool _
 ·exact .int _ _
 ·exact .str _ _ ‹_›
theorem AL.Pa {ρ r:Ak}:∀ {l:Al} {vs:List Value},AL ρ l vs->EH AV.Pa l=true->AL r l vs
 |_,_,.nil,_=>.nil
 |_,_,.cons a v l vs h x,hl=>by rw[nv]at hl;obtain⟨z,y⟩:=BG hl;exact .cons _ _ _ _ (h.Pa z) (x.Pa y)
def Xp (r:List Al) (args:Al):Bool:=List.rec (motive:=λ_=>Bool) false (λa _ x=>cond (Km args a) true x) r
theorem AbF:∀ {r:List Al} {args:Al},Xp r args=true->args∈r
 | [],_,h=>by cases h
 |a::r,args,h=>by
  have h':cond (Km args a) true (Xp r args)=true:=h;cases hb:Km args a with
  |true=>rw[Rm _ _ hb];exact EG ..
  |false=>rw[hb]at h';exact EF _ (AbF h')
def AeN (g:FuncId) (r:List Al) (call:Da):Da:=λt H nx=>
 match t with
 |.fn f args=>cond (cond (Nat.beq f g) (Xp r args) false) (some (.mk (.bool true) H nx)) (call (.fn f args) H nx)
 |.Cv id args=>call (.Cv id args) H nx
def Xe (P:Program) (g:FuncId) (r:List Al) (rounds n:Nat):GA:=Nat.rec (motive:=λ_=>GA) ⟨λ_ _=>none,λ_ _ _=>none,λ_ _ _=>none⟩ (λ_ E=>⟨codeF P rounds E,AeN g r (y9 P E),pA P rounds E⟩) n
def ZC (P:Program) (g:FuncId) (r:List Al):Prop:=∀a∈r,EH AV.Pa a=true/\∃rounds n,says ((RE P rounds n).call (.fn g a) .leaf 0) true=true
theorem Ap5 {P:Program} (J:P.follows .mixedOrders=true) {rounds n:Nat} {g:FuncId} {a:Al} (z:EH AV.Pa a=true) (h:says ((RE P rounds n).call (.fn g a) .leaf 0) true=true) {E:Env} {F:Nat->Option Obj} {ρ:Ak} {w:World} {H:Tr Ah} {nx:Nat} (r:Rel E F nx ρ H.get w):Kl P (.fn g a) w ρ (Ends E F nx ρ (.bool true) H nx):=by obtain⟨V,S,B⟩:=Aem h;have x:=(AaI (pE J) rounds n).2.1 _ _ _ _ B E (λb=>w.heap[b]?) gk w ⟨r.tape,r.os,r.output,λb o hb=>hb,λi o b hi=>(by rw[Tr.Cy]at hi;cases hi),λi o b hi=>(by rw[Tr.Cy]at hi;cases hi),λi j o o' b U hi=>(by rw[Tr.Cy]at hi;cases hi),λ_ _=>rfl,λi o hi=>(by rw[Tr.Cy]at hi;cases hi),(λb o hb=>r.fr b o (r.bs b o hb)),(λ_ _ h=>by cases h),(λi o b hi=>by rw[Tr.Cy]at hi;cases hi),(λ_ _ _ _ h=>by cases h)⟩;refine⟨x.1,λvs Az=>?_⟩;refine CallsIn.mono (x.2 vs (Az.Pa z)) λe w' he=>?_;obtain⟨u,R,he,_,y,hv⟩:=he;cases hv;refine⟨.bool true,ρ,he,RX.refl _ _,⟨y.tape,y.os,y.output,λb o hb=>y.fr b o (r.fr b o hb),λi o b hi hb=>?_,r.dj,r.inj,r.new,r.gl,r.bs,λb o hb=>y.fr b o (r.st b o hb),r.sd,r.sf⟩,.bool _⟩;obtain⟨c,L,K⟩:=r.ob i o b hi hb;exact⟨c,y.fr _ _ L,K⟩
theorem Ap3 {P:Program} (K:P.follows .mixedOrders=true) {g:FuncId} {x:List Al} (ht:ZC P g x) {call:Da} (hc:GX P call):GX P (AeN g x call):=by
 intro t H nx B h E F ρ w r;cases t with
 |Cv id args=>exact hc _ _ _ _ h E F ρ w r
 |fn f args=>
  have h':cond (cond (Nat.beq f g) (Xp x args) false) (some (CR.mk (.bool true) H nx)) (call (.fn f args) H nx)=some B:=h;cases hb:cond (Nat.beq f g) (Xp x args) false with
  |false=>rw[hb]at h';exact hc _ _ _ _ h' E F ρ w r
  |true=>rw[hb,cond_true]at h';injection h' with h';subst h';obtain⟨z,hi⟩:=BG hb;have z:=D4 z;subst z;obtain⟨J,rounds,n,y⟩:=ht args (AbF hi);exact Ap5 K J y r
theorem AaH {P:Program} (y:P.follows .mixedOrders=true) {g:FuncId} {x:List Al} (ht:ZC P g x) (rounds:Nat):∀n,Pn P (Xe P g x rounds n).code/\GX P (Xe P g x rounds n).call/\Q9 P (Xe P g x rounds n).Ht
 |0=>⟨(λ_ _ _ _ h=>by cases h),(λ_ _ _ _ h=>by cases h),(λ_ _ _ _ _ _ h=>by cases h)⟩
 |n+1=>by
  obtain⟨z,K,J⟩:=AaH y ht rounds n;have B:=yn (rounds:=rounds) (pE y) z K;refine⟨B,Ap3 y ht λt H nx L h E F ρ w r=>?_,zd B J⟩;cases t with
  |fn f args=>exact Aal z J h r
  |Cv id args=>exact AaG z h r
theorem Ah7 {P:Program} (L:P.follows .mixedOrders=true) {g:FuncId} {y:List Al} (ht:ZC P g y) {rounds n:Nat} {f:FuncId} {args:Al} {b:Bool} (h:says ((Xe P g y rounds n).call (.fn f args) .leaf 0) b=true) {vs:List Value} (Az:AL gk args vs) (w:World): Calls P f vs.toArray w λe w'=>e=.returned (.bool b)/\RowKit.Below w.heap.size w w':=by
 obtain⟨H,nx,K⟩:=Aem h;have r:=(AaH L ht rounds n).2.1 _ _ _ _ K ⟨w.tape,w.os,w.output,λ_=>none,λ_=>true⟩ (λb=>w.heap[b]?) gk w ⟨rfl,rfl,rfl,λb o hb=>hb,λi o b hi=>(by rw[Tr.Cy]at hi;cases hi),λi o b hi=>(by rw[Tr.Cy]at hi;cases hi),λi j o o' b U hi=>(by rw[Tr.Cy]at hi;cases hi),λ_ _=>rfl,λi o hi=>(by rw[Tr.Cy]at hi;cases hi),(λ_ _ h=>by cases h),(λ_ _ h=>by cases h),(λi o b hi=>by rw[Tr.Cy]at hi;cases hi),λ_ _ _ _ _=>rfl⟩;have B:Calls P f vs.toArray w (Ends ⟨w.tape,w.os,w.output,λ_=>none,λ_=>true⟩ (λb=>w.heap[b]?) 0 gk (.bool b) H nx):=callsIn_wide.1 (r.2 vs Az);refine B.mono λe w' ⟨u,R,he,_,x,hv⟩=>?_;cases hv;refine⟨he,x.os,x.tape,x.output,?_,λk J=>?_⟩
 ·by_cases S:w.heap.size=0
  ·omega
  ·have z:w.heap.size-1<w.heap.size:=by omega
   have:=JV (x.fr (w.heap.size-1) _ (Array.getElem?_eq_getElem z));omega
 ·rw[Array.getElem?_eq_getElem J];exact x.fr k _ (Array.getElem?_eq_getElem J)
end Go.Ev
end
end
