/- Laid by program out of its parts: TkE. -/
import Derived.Test.YtlmmbanfhjaioaaDoorTk1
import Derived.Test.YtlmmbanfhjaioaaDoorMe
set_option linter.unusedVariables false
set_option linter.unusedSimpArgs false
set_option maxRecDepth 100000
set_option linter.unusedSimpArgs false
open Go Go.Ev
namespace Go.Proofs.YtlmmbanfhjaioaaDoor
def wordL:List (List UInt8):=[[97,102,116,101,114],[97,114,114],[99,97,108,108],[99,97,110,99,101,108],[99,108,97,115,115],[99,111,109,112],[99,114,101,97,116,101],[100,101,115,116,114,111,121],[100,105,115,97,98,108,101],[101,108,115,101],[101,110,97,98,108,101],[101,118,101,110,116],[102,110],[102,114,111,110,116],[104,97,110,100],[105,102],[105,110,116],[105,116],[106,111,105,110],[108,101,110],[108,111,103],[108,111,111,112,101,114],[109,97,105,110],[110,101,119],[110,117,108,108],[111,102,102],[111,110],[112,111,115,116],[114,101,116,117,114,110],[115,112,97,119,110],[115,116,97,114,116],[115,116,111,112],[116,111],[116,111,107],[118,97,114],[119,104,105,108,101]]
def isWordT (l:List UInt8):Bool:=wordL.any fun w=>decide (l=w)
noncomputable def wordE:List AEnt:=wordL.zipIdx.map fun p=>⟨.str p.1.length (packL p.1),.agg [.bool true],p.2⟩
def wHas:SKey→Bool
 | .str l=>isWordT l
 | .int _=>false
noncomputable def wVal:SKey→AV:=fun k=>.agg [.bool (bar (wHas k))]
def asciiTab:List AV:=(List.range 256).map fun i=>.int .u8 (if i=9∨i=10∨i=11∨i=12∨i=13∨i=32 then 1 else 0)
noncomputable def globB (H:Tr AObj):Bool:=match H.get 0 with
 | some (.glob l)=>avEqL l asciiTab
 | _=>false
noncomputable def glT:List (Nat×AObj):=[(0,.glob asciiTab)]
def fu:Nat:=400
noncomputable def wordM:AV:=.mapv wHas wVal (.agg [.bool false])
noncomputable def e24:Tr AObj→List AV→Option Ct:=fun H args=>match args with
 | []=>cond (globB H) (some (.need True (.ret wordM))) none
 | _=>none
theorem zW_ok:∃ zv,∀ ρ,VR ρ (.agg [.bool false]) zv:=⟨.agg #[.bool false],fun _=>.agg [.bool false] [.bool false] (.cons _ _ _ _ (.bool false) .nil)⟩
theorem Za1 (l:List UInt8):∀ ws:List (List UInt8×Nat),sFind .string (.str l) (.agg [.bool false]) (ws.map fun p=>⟨.str p.1.length (packL p.1),.agg [.bool true],p.2⟩)=some (ws.any fun p=>decide (l=p.1),.agg [.bool (ws.any fun p=>decide (l=p.1))])
 | []=>rfl
 | (w,i) :: ws=>by
  have ih:=Za1 l ws
  rw [List.map_cons]
  show (ob (keyS .string (.str w.length (packL w))) fun s=>ob (eqS (.str l) s) fun q=>ob (sFind .string (.str l) (.agg [.bool false]) (ws.map fun p=>⟨.str p.1.length (packL p.1),.agg [.bool true],p.2⟩)) fun p=>ob (sMerge q (AV.agg [.bool true]) p.2) fun m=>some (cond q true p.1,m))=_
  rw [ih]
  show (ob (some (SKey.str (bytesL w.length (packL w)))) fun s=>ob (eqS (.str l) s) fun q=>ob (some (ws.any fun p=>decide (l=p.1),AV.agg [.bool (ws.any fun p=>decide (l=p.1))])) fun p=>ob (sMerge q (AV.agg [.bool true]) p.2) fun m=>some (cond q true p.1,m))=_
  rw [Zf]
  show (ob (sMerge (decide (l=w)) (AV.agg [.bool true]) (.agg [.bool (ws.any fun p=>decide (l=p.1))])) fun m=>some (cond (decide (l=w)) true (ws.any fun p=>decide (l=p.1)),m))=_
  simp only [sMerge,sMergeL,ob,List.any_cons]
  cases decide (l=w) <;> rfl
attribute [local irreducible] wordL isWordT
theorem Zl3 {α:Type} (f:α→Bool):∀ (ws:List α) (n:Nat),((ws.zipIdx n).any fun p=>f p.1)=ws.any f
 | [],_=>rfl
 | w :: ws,n=>by rw [List.zipIdx_cons,List.any_cons,List.any_cons,Zl3 f ws]
theorem Zm2 (l:List UInt8):(wordL.zipIdx.any fun p=>decide (l=p.1))=isWordT l:=by rw [Zl3 (fun w=>decide (l=w)) wordL 0,isWordT]
theorem Uj (l:List UInt8):wHas (.str l)=isWordT l:=by unfold wHas;rfl
theorem Uk (n:Int):wHas (.int n)=false:=by unfold wHas;rfl
theorem Uz (l:List UInt8):wVal (.str l) = .agg [.bool (bar (isWordT l))]:=by unfold wVal;rw [Uj]
def X24:Prop:=∀ _:Unit,∀ l,sFind .string (.str l) (.agg [.bool false]) wordE=some (wHas (.str l),wVal (.str l))
theorem r24:X24:=fun _ l=>by
 rw [Uj,Uz]
 rw [wordE,Za1 l wordL.zipIdx,Zm2,Zs]
def Y24:Prop:=(cRun (cxA tbC) fu).call 23 [] (mkH glT) 4 (ResMap wHas wVal (.agg [.bool false]))
def Z24:Prop:=∀ l,sFind .string (.str l) (.agg [.bool false]) wordE=some (wHas (.str l),wVal (.str l))
theorem eq24:Y24=Z24:=by kernel_rfl
theorem run24:Y24:=by rw [eq24];exact r24 ()
end Go.Proofs.YtlmmbanfhjaioaaDoor
