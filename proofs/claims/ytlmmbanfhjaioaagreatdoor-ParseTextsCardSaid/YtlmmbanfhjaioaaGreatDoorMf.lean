/- Laid by program out of its parts: SxO, SxP, SxQ, SxR, SxS. -/
import Derived.Test.YtlmmbanfhjaioaaGreatDoorMe
import Derived.Test.YtlmmbanfhjaioaaGreatDoorMg
import Derived.ChangeSlices
import Derived.OpenShut
set_option linter.unusedVariables false
set_option linter.unusedSimpArgs false
section
/- The symbolic layer, part O: a contract at a call from outside: every block that is there stays as it is. -/
namespace Go.Ev
open Go.RowKit Go.ChangeShapes
def gA (w:World):Af:=⟨λ_=>none,λb=>w.heap[b]?⟩
theorem Aex {P:Program} {g:FuncId} {AE:Tr Ac->List AV->Option Ct} (E:Ci P g AE) {H:Tr Ac} {args:List AV} {ct:Ct} {b:Bool} (K:AE H args=some ct) (C:IY ct=some (false,.bool b)) {W:World} {vs:List Value} (At:AF (gA W) args vs) (O:∀g l,H.get g=some (.Js l)->∃cs e fz,W.heap[g]? =some (.cells cs e fz)/\∀B,AF B l cs.toList): Calls P g vs.toArray W λe w'=>e=.returned (.bool b)/\RowKit.Below W.heap.size W w':=by
 have r:Rel ⟨W.tape,W.os,W.output,λb=>W.heap[b]?,λ_=>true⟩ (λb=>W.heap[b]?) 0 (gA W) (Tr.leaf:Tr Ac).get W:=⟨rfl,rfl,rfl,λb o hb=>hb,λi o b hi=>(by rw[Tr.Em]at hi;cases hi),λi o b hi=>(by rw[Tr.Em]at hi;cases hi),λi j o o' b U hi=>(by rw[Tr.Em]at hi;cases hi),λ_ _=>rfl,λi o hi=>(by rw[Tr.Em]at hi;cases hi),λ_ _ h=>h,λ_ _ h=>h,λi o b hi=>(by rw[Tr.Em]at hi;cases hi),λ_ _ _ _ _=>rfl⟩;have q:=E H args ct K false (.bool b) C ⟨W.tape,W.os,W.output,λb=>W.heap[b]?,λ_=>true⟩ _ _ W 0 .leaf O r;have L:Calls P g vs.toArray W _:=callsIn_wide.1 (q.2 vs At);refine L.mono λe w' R=>?_;obtain⟨u,B,he,_,y,hv⟩:=R;cases hv;refine⟨he,y.os,y.tape,y.output,?_,λk M=>?_⟩
 ·by_cases S:W.heap.size=0
  ·omega
  ·have J:W.heap.size-1<W.heap.size:=by omega
   have:=y.fr (W.heap.size-1) _ (Array.getElem?_eq_getElem J);have:=MX this;omega
 ·rw[Array.getElem?_eq_getElem M];exact y.fr k _ (Array.getElem?_eq_getElem M)
theorem EN {P:Program} {g:FuncId} {AE:Tr Ac->List AV->Option Ct} {gl:List (Nat×Ac)} {ng:Nat} (O:∀p∈gl,Hf p.2=true) (h:∀H args ct,AE H args=some ct->(∀p∈gl,H.get p.1=some p.2)/\∃pre v,ct=.A6 pre (.ret v)/\ (pre->AH [] args args/\∃(cx:Ctx) (n:Nat),cx.P=P/\P.follows .mixedOrders=true/\DP P cx.tb/\(AG cx n).call g args (AU gl) ng (Ch P false v))):Ci P g AE:=by
 intro H args ct R p v C;obtain⟨Y,pre,E,V,U⟩:=h H args ct R;subst V;have B:(open Classical in if pre then some (false,E)else none)=some (p,v):=C;by_cases J:pre
 ·rw[if_pos J]at B;injection B with B;injection B with M L;obtain⟨W,cx,n,e1,e2,e3,Z⟩:=U J;subst e1;exact w9 (Is e2 e3 n) (AE:=λH' args'=>open Classical in if H'=H/\args'=args then some (.ret E)else none) O (λH' args' ab q=>by
   classical
   by_cases K:H'=H/\args'=args
   ·rw[if_pos K]at q;injection q with q;obtain⟨rfl,rfl⟩:=K;refine⟨Y,W,λp' aa y=>?_⟩;rw[<-q]at y;injection y with y;injection y with S hb;subst S;subst hb;exact Z
   ·rw[if_neg K]at q;cases q) H args (.ret E) (if_pos ⟨rfl,rfl⟩) p v (by rw[<-M,<-L];rfl)
 ·rw[if_neg J]at B;cases B
end Go.Ev
end
section
/- The symbolic layer, part P: what a call from outside hands over, as a content. -/
namespace Go.Ev
open Go.ChangeShapes Go.WideShapes
theorem Aem {p:Prop} {v:AV} (h:p):IY (.A6 p (.ret v))=some (false,v):=if_pos h
theorem AdO {H:Type} {enc:TypeId×Value->H} {P:Program} {w:World} {t el n:Nat} {v:Value} {x:DataW H×List MemPlace} (ht:P.underlying t=some (.slice el)) (Y:P.underlying el=some (.int .u8)) (hc:P.cellsOf el=1) (h:DataW.trod enc P w 0 (λ_=>true) true n t [v]=some x):∃l:List UInt8,VR (gA w) (.bv l) v:=by
 rcases open_ints ht Y hc h with⟨J,rfl⟩|⟨a,len,cap,B,J,_,W,hm,hz,rfl,y,M⟩
 ·injection J with hv _;subst hv;exact⟨[],.Hz [] rfl _ _⟩
 ·injection J with hv _;subst hv;rw[if_pos rfl]at hz;by_cases h0:len=0
  ·subst h0;exact⟨[],.Hz [] rfl _ _⟩
  ·have S:a.spot=none:=by simpa[Addr.add]using World.cell?_spot (y 0 (by omega))
   obtain⟨b,o,s⟩:=a;simp only at S;subst S;refine⟨(B.take len).map λz=>UInt8.ofNat z.toNat,?_⟩;have C:((B.take len).map λz=>UInt8.ofNat z.toNat).length=len:=by simp;omega
   have q:=y 0 (by omega);have O:∃cs e fz,w.heap[b]? =some (.cells cs e fz):=by
    simp only[World.cell?,Addr.add]at q;split at q
    ·exact⟨_,_,_,by assumption⟩
    ·cases q
   obtain⟨cs,e,fz,U⟩:=O;have key:=VR.bv (ρ:=gA w) ((B.take len).map λz=>UInt8.ofNat z.toNat) b o cap cs e fz U (by rw[C];exact W) λi hi=>by
    rw[C]at hi;have Z:=y i (by omega);have V:=M (B.getD i 0) (by rw[List.getD_eq_getElem?_getD,List.getElem?_eq_getElem (by omega)];exact List.getElem_mem _);have E:IntKind.u8.min<=B.getD i 0/\B.getD i 0<=IntKind.u8.max:=by simpa[Lit.wf]using V
    rw[show IntKind.u8.min=0 by decide,show IntKind.u8.max=255 by decide]at E;have L:w.cell? ⟨b,o+i,none⟩=some (.int .u8 (B.getD i 0)):=by
     rw[<-Z];by_cases K:i=0
     ·subst K;simp[Addr.add]
     ·simp[Addr.add,K]
    simp only[World.cell?,U]at L;rw[show cs[o+i]? =some (.int .u8 (B.getD i 0)) by simpa using L];have e1:((B.take len).map λz=>UInt8.ofNat z.toNat).getD i 0=UInt8.ofNat (B.getD i 0).toNat:=by
     have R:i<(B.take len).length:=by simp;omega
     simp only[List.getD_eq_getElem?_getD,List.getElem?_map,List.getElem?_eq_getElem R,Option.map_some,Option.getD_some,List.getElem_take,List.getElem?_eq_getElem (show i<B.length by omega)]
    rw[e1];generalize B.getD i 0=z at E;have hz:(UInt8.ofNat z.toNat).toNat=z.toNat:=by rw[UInt8.toNat_ofNat'];exact Nat.mod_eq_of_lt (by omega)
    rw[hz,Int.toNat_of_nonneg E.1]
   rw[C]at key;exact key
end Go.Ev
end
section
/- The symbolic layer, part Q: a contract of the kit's own as a contract of contents. -/
namespace Go.Ev
open Go.RowKit
end Go.Ev
end
section
/- The symbolic layer, part R: closed contents beside one another; a contract at closed arguments; a contract out of the evaluator's word. -/
namespace Go.Ev
open Go.RowKit
end Go.Ev
end
section
/- The symbolic layer, part S: a slice of structs that a call from outside hands over, as a content. -/
namespace Go.Ev
open Go.ChangeShapes Go.WideShapes
end Go.Ev
end
