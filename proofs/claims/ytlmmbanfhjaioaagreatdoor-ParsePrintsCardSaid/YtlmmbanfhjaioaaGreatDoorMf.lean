/- Laid by program out of its parts: SxO, SxP, SxQ, SxR, SxS. -/
import Derived.Test.YtlmmbanfhjaioaaGreatDoorMe
import Derived.Test.YtlmmbanfhjaioaaGreatDoorMg
import Derived.ChangeSlices
import Derived.OpenShut
set_option linter.unusedVariables false
set_option linter.unusedSimpArgs false
section
namespace Go.Ev
open Go.RowKit Go.ChangeShapes
def OE (w:World):Ai:=⟨λ_=>none,λb=>w.heap[b]?⟩
theorem AbR {P:Program} {g:FuncId} {AJ:Tr Ae->Aj->Option Ct} (E:Ck P g AJ) {H:Tr Ae} {args:Aj} {ct:Ct} {b:Bool} (K:AJ H args=some ct) (C:IY ct=some (false,.bool b)) {W:World} {vs:List Value} (Ax:AG (OE W) args vs) (R:∀g l,H.get g=some (.Jo l)->∃cs e fz,W.heap[g]? =some (.cells cs e fz)/\∀B,AG B l cs.toList): Calls P g vs.toArray W λe w'=>e=.returned (.bool b)/\RowKit.Below W.heap.size W w':=by
 have r:Rel ⟨W.tape,W.os,W.output,λb=>W.heap[b]?,λ_=>true⟩ (λb=>W.heap[b]?) 0 (OE W) (Tr.leaf:Tr Ae).get W:=⟨rfl,rfl,rfl,λb o O=>O,λi o b hi=>(by rw[Tr.EK]at hi;cases hi),λi o b hi=>(by rw[Tr.EK]at hi;cases hi),λi j o U b Y hi=>(by rw[Tr.EK]at hi;cases hi),λ_ _=>rfl,λi o hi=>(by rw[Tr.EK]at hi;cases hi),λ_ _ h=>h,λ_ _ h=>h,λi o b hi=>(by rw[Tr.EK]at hi;cases hi),λ_ _ _ _ _=>rfl⟩;have q:=E H args ct K false (.bool b) C ⟨W.tape,W.os,W.output,λb=>W.heap[b]?,λ_=>true⟩ _ _ W 0 .leaf R r;have L:Calls P g vs.toArray W _:=callsIn_wide.1 (q.2 vs Ax);refine L.mono λe w' S=>?_;obtain⟨u,B,he,_,y,hv⟩:=S;cases hv;refine⟨he,y.os,y.tape,y.output,?_,λk M=>?_⟩
 ·by_cases V:W.heap.size=0
  ·omega
  ·have J:W.heap.size-1<W.heap.size:=by omega
   have:=y.fr (W.heap.size-1) _ (Array.getElem?_eq_getElem J);have:=M4 this;omega
 ·rw[Array.getElem?_eq_getElem M];exact y.fr k _ (Array.getElem?_eq_getElem M)
theorem Fh {P:Program} {g:FuncId} {AJ:Tr Ae->Aj->Option Ct} {gl:List (Nat×Ae)} {ng:Nat} (O:∀p∈gl,H8 p.2=true) (h:∀H args ct,AJ H args=some ct->(∀p∈gl,H.get p.1=some p.2)/\∃pre v,ct=.Be pre (.ret v)/\ (pre->Ba [] args args/\∃(cx:Ctx) (n:Nat),cx.P=P/\P.follows .mixedOrders=true/\EY P cx.tb/\(A4 cx n).call g args (Bx gl) ng (Cb P false v))):Ck P g AJ:=by
 intro H args ct R p v C;obtain⟨Z,pre,E,W,V⟩:=h H args ct R;subst W;have B:(open Classical in if pre then some (false,E)else none)=some (p,v):=C;by_cases J:pre
 ·rw[Am J]at B;injection B with B;injection B with M L;obtain⟨Y,cx,n,e1,e2,e3,e4⟩:=V J;subst e1;exact rj (JZ e2 e3 n) (AJ:=λH' args'=>open Classical in if H'=H/\args'=args then some (.ret E)else none) O (λH' args' ab q=>by
   classical
   by_cases K:H'=H/\args'=args
   ·rw[Am K]at q;injection q with q;obtain⟨rfl,rfl⟩:=K;refine⟨Z,Y,λp' aa y=>?_⟩;rw[<-q]at y;injection y with y;injection y with U S;subst U;subst S;exact e4
   ·rw[Ad K]at q;cases q) H args (.ret E) (Am ⟨rfl,rfl⟩) p v (by rw[<-M,<-L];rfl)
 ·rw[Ad J]at B;cases B
end Go.Ev
end
section
namespace Go.Ev
open Go.ChangeShapes Go.WideShapes
theorem Abw {p:Prop} {v:AV} (h:p):IY (.Be p (.ret v))=some (false,v):=Am h
end Go.Ev
end
section
namespace Go.Ev
open Go.RowKit
def zJ (l:Aj):Ac:=match l with
 | [.bs s]=>s
 |_=>[]
def uD (l:Aj):Bool:=match l with
 | [.bs _]=>true
 |_=>false
def Ft (n:Nat) (f:Nat->Aj):List Ac:=(List.range n).map λi=>zJ (f i)
def P2 (n:Nat) (f:Nat->Aj):Bool:=decide (∀i,i<n->uD (f i)=true)
end Go.Ev
end
section
namespace Go.Ev
open Go.RowKit
end Go.Ev
end
section
namespace Go.Ev
open Go.ChangeShapes Go.WideShapes
theorem Xy (b o k:Nat):(⟨b,o,none⟩:Addr).add k=⟨b,o+k,none⟩:=by
 by_cases h:k=0
 ·subst h;simp[Addr.add]
 ·simp[Addr.add,h]
end Go.Ev
end
