/- Laid by program out of its parts: TkE. -/
import Derived.Test.YtlmmbanfhjaioaaGreatDoorTk1
import Derived.Test.YtlmmbanfhjaioaaGreatDoorMe
noncomputable section
set_option linter.unusedVariables false
set_option linter.unusedSimpArgs false
set_option maxRecDepth 100000
set_option linter.unusedSimpArgs false
open Go Go.Ev
namespace Go.Proofs.YtlmmbanfhjaioaaGreatDoor
def Nt:List (List UInt8):=[[97,102,116,101,114],[97,114,114],[99,97,108,108],[99,97,110,99,101,108],[99,108,97,115,115],[99,111,109,112],[99,114,101,97,116,101],[100,101,115,116,114,111,121],[100,105,115,97,98,108,101],[101,108,115,101],[101,110,97,98,108,101],[101,118,101,110,116],[102,110],[102,114,111,110,116],[104,97,110,100],[105,102],[105,110,116],[105,116],[106,111,105,110],[108,101,110],[108,111,103],[108,111,111,112,101,114],[109,97,105,110],[110,101,119],[110,117,108,108],[111,102,102],[111,110],[112,111,115,116],[114,101,116,117,114,110],[115,112,97,119,110],[115,116,97,114,116],[115,116,111,112],[116,111],[116,111,107],[118,97,114],[119,104,105,108,101]]
def Dm (l:List UInt8):Bool:=Nt.any λw=>decide (l=w)
def tN:List DJ:=Nt.zipIdx.map λp=>⟨.str p.1.length (HE p.1),.agg [.bool true],p.2⟩
def GK:CN->Bool
 |.str l=>Dm l
 |.int _=>false
def IM:CN->AV:=λk=>.agg [.bool (Ax (GK k))]
def Y7:List AV:=(List.range 256).map λi=>.int .u8 (if i=9\/i=10\/i=11\/i=12\/i=13\/i=32 then 1 else 0)
def DM (H:Tr Ac):Bool:=match H.get 0 with
 |some (.Js l)=>LN l Y7
 |_=>false
def Cm:List (Nat×Ac):=[(0,.Js Y7)]
def fu:Nat:=400
def Sa:AV:=.FN GK IM (.agg [.bool false])
def lW:Tr Ac->List AV->Option Ct:=λH args=>match args with
 | []=>cond (DM H) (some (.A6 True (.ret Sa))) none
 |_=>none
theorem Apy:∃q,∀ρ,VR ρ (.agg [.bool false]) q:=⟨.agg #[.bool false],λ_=>.agg [.bool false] [.bool false] (.cons _ _ _ _ (.bool false) .nil)⟩
theorem xR (l:List UInt8):∀ws:List (List UInt8×Nat),P0 .string (.str l) (.agg [.bool false]) (ws.map λp=>⟨.str p.1.length (HE p.1),.agg [.bool true],p.2⟩)=some (ws.any λp=>decide (l=p.1),.agg [.bool (ws.any λp=>decide (l=p.1))])
 | []=>rfl
 |(w,i)::ws=>by have y:=xR l ws;rw[List.map_cons];show(ob (NT .string (.str w.length (HE w))) λs=>ob (QA (.str l) s) λq=>ob (P0 .string (.str l) (.agg [.bool false]) (ws.map λp=>⟨.str p.1.length (HE p.1),.agg [.bool true],p.2⟩)) λp=>ob (Hp q (AV.agg [.bool true]) p.2) λm=>some (cond q true p.1,m))=_;rw[y];show(ob (some (CN.str (BC w.length (HE w)))) λs=>ob (QA (.str l) s) λq=>ob (some (ws.any λp=>decide (l=p.1),AV.agg [.bool (ws.any λp=>decide (l=p.1))])) λp=>ob (Hp q (AV.agg [.bool true]) p.2) λm=>some (cond q true p.1,m))=_;rw[V3];show(ob (Hp (decide (l=w)) (AV.agg [.bool true]) (.agg [.bool (ws.any λp=>decide (l=p.1))])) λm=>some (cond (decide (l=w)) true (ws.any λp=>decide (l=p.1)),m))=_;simp only[Hp,Ov,ob,List.any_cons];cases decide (l=w)<;>rfl
attribute [local irreducible] Nt Dm
theorem ua {α:Type} (f:α->Bool):∀(ws:List α) (n:Nat),((ws.zipIdx n).any λp=>f p.1)=ws.any f
 | [],_=>rfl
 |w::ws,n=>by rw[List.zipIdx_cons,List.any_cons,List.any_cons,ua f ws]
theorem Apq (l:List UInt8):(Nt.zipIdx.any λp=>decide (l=p.1))=Dm l:=by rw[ua (λw=>decide (l=w)) Nt 0,Dm]
theorem Vo (l:List UInt8):GK (.str l)=Dm l:=by unfold GK;rfl
theorem Vn (n:Int):GK (.int n)=false:=by unfold GK;rfl
theorem Vq (l:List UInt8):IM (.str l)=.agg [.bool (Ax (Dm l))]:=by unfold IM;rw[Vo]
def X24:Prop:=∀_:Unit,∀l,P0 .string (.str l) (.agg [.bool false]) tN=some (GK (.str l),IM (.str l))
theorem r24:X24:=λ_ l=>by rw[Vo,Vq];rw[tN,xR l Nt.zipIdx,Apq,DT]
def Y1:Prop:=(AG (D4 P7) fu).call 21 [] (AU Cm) 4 (YR GK IM (.agg [.bool false]))
def Z24:Prop:=∀l,P0 .string (.str l) (.agg [.bool false]) tN=some (GK (.str l),IM (.str l))
theorem AeC:Y1=Z24:=by kernel_rfl
theorem Aj3:Y1:=by rw[AeC];exact r24 ()
end Go.Proofs.YtlmmbanfhjaioaaGreatDoor
end
