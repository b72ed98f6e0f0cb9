/- Laid by program out of its parts: TkE. -/
import Derived.Test.YtlmmbanfhjaioaaGreatDoorTk1
import Derived.Test.YtlmmbanfhjaioaaGreatDoorMe
noncomputable section
set_option linter.unusedVariables false
set_option linter.unusedSimpArgs false
set_option maxRecDepth 100000
set_option linter.unusedSimpArgs false
open Go Go.Ev
namespace Go.Proofs.YtlmmbanfhjaioaaGreatDoor
def NA:List Ac:=[[97,102,116,101,114],[97,114,114],[99,97,108,108],[99,97,110,99,101,108],[99,108,97,115,115],[99,111,109,112],[99,114,101,97,116,101],[100,101,115,116,114,111,121],[100,105,115,97,98,108,101],[101,108,115,101],[101,110,97,98,108,101],[101,118,101,110,116],[102,110],[102,114,111,110,116],[104,97,110,100],[105,102],[105,110,116],[105,116],[106,111,105,110],[108,101,110],[108,111,103],[108,111,111,112,101,114],[109,97,105,110],[110,101,119],[110,117,108,108],[111,102,102],[111,110],[112,111,115,116],[114,101,116,117,114,110],[115,112,97,119,110],[115,116,97,114,116],[115,116,111,112],[116,111],[116,111,107],[118,97,114],[119,104,105,108,101]]
def DC (l:Ac):Bool:=NA.any λw=>decide (l=w)
def nW:List DW:=NA.zipIdx.map λp=>⟨.str p.1.length (HH p.1),.agg [.bool true],p.2⟩
def G2:CW->Bool
 |.str l=>DC l
 |.int _=>false
def IP:CW->AV:=λk=>.agg [.bool (AW (G2 k))]
def XC:Aj:=(List.range 256).map λi=>.int .u8 (if i=9\/i=10\/i=11\/i=12\/i=13\/i=32 then 1 else 0)
def Ec (H:Tr Ae):Bool:=match H.get 0 with
 |some (.Jo l)=>LW l XC
 |_=>false
def CI:List (Nat×Ae):=[(0,.Jo XC)]
def fu:Nat:=400
def Rq:AV:=.FY G2 IP (.agg [.bool false])
def gO:Tr Ae->Aj->Option Ct:=λH args=>match args with
 | []=>cond (Ec H) (some (.Be True (.ret Rq))) none
 |_=>none
theorem AlL:∃q,∀ρ,VR ρ (.agg [.bool false]) q:=⟨.agg #[.bool false],λ_=>.agg [.bool false] [.bool false] (.cons _ _ _ _ (.bool false) .nil)⟩
theorem s6 (l:Ac):∀ws:List (Ac×Nat),Px .string (.str l) (.agg [.bool false]) (ws.map λp=>⟨.str p.1.length (HH p.1),.agg [.bool true],p.2⟩)=some (ws.any λp=>decide (l=p.1),.agg [.bool (ws.any λp=>decide (l=p.1))])
 | []=>rfl
 |(w,i)::ws=>by have y:=s6 l ws;rw[List.map_cons];show(ob (N3 .string (.str w.length (HH w))) λs=>ob (Qe (.str l) s) λq=>ob (Px .string (.str l) (.agg [.bool false]) (ws.map λp=>⟨.str p.1.length (HH p.1),.agg [.bool true],p.2⟩)) λp=>ob (Hx q (AV.agg [.bool true]) p.2) λm=>some (cond q true p.1,m))=_;rw[y];show(ob (some (CW.str (BB w.length (HH w)))) λs=>ob (Qe (.str l) s) λq=>ob (some (ws.any λp=>decide (l=p.1),AV.agg [.bool (ws.any λp=>decide (l=p.1))])) λp=>ob (Hx q (AV.agg [.bool true]) p.2) λm=>some (cond q true p.1,m))=_;rw[Vd];show(ob (Hx (decide (l=w)) (AV.agg [.bool true]) (.agg [.bool (ws.any λp=>decide (l=p.1))])) λm=>some (cond (decide (l=w)) true (ws.any λp=>decide (l=p.1)),m))=_;simp only[Hx,Oq,ob,List.any_cons];cases decide (l=w)<;>rfl
attribute [local irreducible] NA DC
theorem ot {α:Type} (f:α->Bool):∀(ws:List α) (n:Nat),((ws.zipIdx n).any λp=>f p.1)=ws.any f
 | [],_=>rfl
 |w::ws,n=>by rw[List.zipIdx_cons,List.any_cons,List.any_cons,ot f ws]
theorem AlD (l:Ac):(NA.zipIdx.any λp=>decide (l=p.1))=DC l:=by rw[ot (λw=>decide (l=w)) NA 0,DC]
theorem UC (l:Ac):G2 (.str l)=DC l:=by unfold G2;rfl
theorem UB (n:Int):G2 (.int n)=false:=by unfold G2;rfl
theorem UF (l:Ac):IP (.str l)=.agg [.bool (AW (DC l))]:=by unfold IP;rw[UC]
def X24:Prop:=∀_:Unit,∀l,Px .string (.str l) (.agg [.bool false]) nW=some (G2 (.str l),IP (.str l))
theorem r24:X24:=λ_ l=>by rw[UC,UF];rw[nW,s6 l NA.zipIdx,AlD,Ea]
def Xx:Prop:=(A4 (Eb PC) fu).call 21 [] (Bx CI) 4 (Xp G2 IP (.agg [.bool false]))
def Z24:Prop:=∀l,Px .string (.str l) (.agg [.bool false]) nW=some (G2 (.str l),IP (.str l))
theorem AbW:Xx=Z24:=by kernel_rfl
theorem Ag3:Xx:=by rw[AbW];exact r24 ()
end Go.Proofs.YtlmmbanfhjaioaaGreatDoor
end
