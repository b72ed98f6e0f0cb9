/- Laid by program out of its parts: SxO, SxP, SxQ, SxR, SxS. -/
import Derived.Test.YthallodoidghoaaGreatMe
import Derived.Test.YthallodoidghoaaGreatMg
import Derived.ChangeSlices
import Derived.OpenShut
set_option linter.unusedVariables false
set_option linter.unusedSimpArgs false
section
namespace Go.Ev
open Go.RowKit Go.ChangeShapes
def Q7 (w:World):Ak:=⟨λ_=>none,λb=>w.heap[b]?⟩
theorem Ahp {P:Program} {g:FuncId} {AN:Tr Ah->Al->Option Ct} (J:BC P g AN) {H:Tr Ah} {args:Al} {ct:Ct} {b:Bool} (L:AN H args=some ct) (B:G2 ct=some (false,.bool b)) {W:World} {vs:List Value} (Az:AL (Q7 W) args vs) (U:∀g l,H.get g=some (.Nd l)->∃cs e fz,W.heap[g]? =some (.cells cs e fz)/\∀z,AL z l cs.toList): Calls P g vs.toArray W λe w'=>e=.returned (.bool b)/\RowKit.Below W.heap.size W w':=by
 have r:Rel ⟨W.tape,W.os,W.output,λb=>W.heap[b]?,λ_=>true⟩ (λb=>W.heap[b]?) 0 (Q7 W) (Tr.leaf:Tr Ah).get W:=⟨rfl,rfl,rfl,λb o hb=>hb,λi o b hi=>(by rw[Tr.Cy]at hi;cases hi),λi o b hi=>(by rw[Tr.Cy]at hi;cases hi),λi j o o' b Z hi=>(by rw[Tr.Cy]at hi;cases hi),λ_ _=>rfl,λi o hi=>(by rw[Tr.Cy]at hi;cases hi),λ_ _ h=>h,λ_ _ h=>h,λi o b hi=>(by rw[Tr.Cy]at hi;cases hi),λ_ _ _ _ _=>rfl⟩;have x:=J H args ct L false (.bool b) B ⟨W.tape,W.os,W.output,λb=>W.heap[b]?,λ_=>true⟩ _ _ W 0 .leaf U r;have R:Calls P g vs.toArray W _:=callsIn_wide.1 (x.2 vs Az);refine R.mono λe w' V=>?_;obtain⟨u,z,he,_,y,hv⟩:=V;cases hv;refine⟨he,y.os,y.tape,y.output,?_,λk S=>?_⟩
 ·by_cases Y:W.heap.size=0
  ·omega
  ·have K:W.heap.size-1<W.heap.size:=by omega
   have:=y.fr (W.heap.size-1) _ (Array.getElem?_eq_getElem K);have:=JV this;omega
 ·rw[Array.getElem?_eq_getElem S];exact y.fr k _ (Array.getElem?_eq_getElem S)
theorem Cw {P:Program} {g:FuncId} {AN:Tr Ah->Al->Option Ct} {gl:List (Nat×Ah)} {ng:Nat} (V:∀p∈gl,Kw p.2=true) (h:∀H args ct,AN H args=some ct->(∀p∈gl,H.get p.1=some p.2)/\∃pre v,ct=.Bb pre (.ret v)/\ (pre->AZ [] args args/\∃(J:Ctx) (n:Nat),J.P=P/\P.follows .mixedOrders=true/\EU P J.tb/\(A3 J n).call g args (BU gl) ng (BS P false v))):BC P g AN:=by
 intro H args ct W p v B;obtain⟨h1,pre,K,h3,Z⟩:=h H args ct W;subst h3;have z:(open Classical in if pre then some (false,K)else none)=some (p,v):=B;by_cases L:pre
 ·rw[As L]at z;injection z with z;injection z with U S;obtain⟨h2,J,n,e1,e2,e3,e4⟩:=Z L;subst e1;exact zu (PD e2 e3 n) (AN:=λH' y=>open Classical in if H'=H/\y=args then some (.ret K)else none) V (λH' y ab r=>by
   classical
   by_cases R:H'=H/\y=args
   ·rw[As R]at r;injection r with r;obtain⟨rfl,rfl⟩:=R;refine⟨h1,h2,λp' aa x=>?_⟩;rw[<-r]at x;injection x with x;injection x with Y hb;subst Y;subst hb;exact e4
   ·rw[An R]at r;cases r) H args (.ret K) (As ⟨rfl,rfl⟩) p v (by rw[<-U,<-S];rfl)
 ·rw[An L]at z;cases z
end Go.Ev
end
section
namespace Go.Ev
open Go.ChangeShapes Go.WideShapes
theorem Ahd {p:Prop} {v:AV} (h:p):G2 (.Bb p (.ret v))=some (false,v):=As h
theorem AgE {H:Type} {enc:TypeId×Value->H} {P:Program} {w:World} {t el n:Nat} {v:Value} {x:DataW H×List MemPlace} (ht:P.underlying t=some (.slice el)) (he:P.underlying el=some (.int .u8)) (hc:P.cellsOf el=1) (h:DataW.trod enc P w 0 (λ_=>true) true n t [v]=some x):∃l:Aj,VR (Q7 w) (.bv l) v:=by
 rcases open_ints ht he hc h with⟨L,rfl⟩|⟨a,len,cap,B,L,_,hl,hm,hz,rfl,y,U⟩
 ·injection L with hv _;subst hv;exact⟨[],.Hr [] rfl _ _⟩
 ·injection L with hv _;subst hv;rw[As rfl]at hz;by_cases h0:len=0
  ·subst h0;exact⟨[],.Hr [] rfl _ _⟩
  ·have Y:a.spot=none:=by simpa[Addr.add]using World.cell?_spot (y 0 (by omega))
   obtain⟨b,o,s⟩:=a;simp only at Y;subst Y;refine⟨(B.take len).map λz=>UInt8.ofNat z.toNat,?_⟩;have J:((B.take len).map λz=>UInt8.ofNat z.toNat).length=len:=by simp;omega
   have r:=y 0 (by omega);have V:∃cs e fz,w.heap[b]? =some (.cells cs e fz):=by
    simp only[World.cell?,Addr.add]at r;split at r
    ·exact⟨_,_,_,by assumption⟩
    ·cases r
   obtain⟨cs,e,fz,Z⟩:=V;have key:=VR.bv (ρ:=Q7 w) ((B.take len).map λz=>UInt8.ofNat z.toNat) b o cap cs e fz Z (by rw[J];exact hl) λi hi=>by
    rw[J]at hi;have h1:=y i (by omega);have hw:=U (B.getD i 0) (by rw[Bt,Ce (by omega)];exact List.getElem_mem _);have K:IntKind.u8.min<=B.getD i 0/\B.getD i 0<=IntKind.u8.max:=by simpa[Lit.wf]using hw
    rw[show IntKind.u8.min=0 by decide,show IntKind.u8.max=255 by decide]at K;have S:w.cell? ⟨b,o+i,none⟩=some (.int .u8 (B.getD i 0)):=by
     rw[<-h1];by_cases R:i=0
     ·subst R;simp[Addr.add]
     ·simp[Addr.add,R]
    simp only[World.cell?,Z]at S;rw[show cs[o+i]? =some (.int .u8 (B.getD i 0)) by simpa using S];have e1:((B.take len).map λz=>UInt8.ofNat z.toNat).getD i 0=UInt8.ofNat (B.getD i 0).toNat:=by
     have W:i<(B.take len).length:=by simp;omega
     simp only[Bt,I8,Ce W,Option.map_some,Option.getD_some,List.getElem_take,Ce (show i<B.length by omega)]
    rw[e1];generalize B.getD i 0=z at K;have hz:(UInt8.ofNat z.toNat).toNat=z.toNat:=by rw[UInt8.toNat_ofNat'];exact Nat.mod_eq_of_lt (by omega)
    rw[hz,Int.toNat_of_nonneg K.1]
   rw[J]at key;exact key
end Go.Ev
end
section
namespace Go.Ev
open Go.RowKit
theorem AlL {E:Env} {F:Nat->Option Obj} {nx:Nat} {ρ:Ak} {h:Nat->Option Ah} {w w':World} (r:Rel E F nx ρ h w) (hb:RowKit.Below w.heap.size w w'):Rel E F (nx+1) ρ h w':=by
 have y:∀b o,w.heap[b]? =some o->w'.heap[b]? =some o:=λb o x=>by rw[hb.block b (JV x)];exact x
 exact⟨hb.tape.trans r.tape,hb.os.trans r.os,hb.output.trans r.output,λb o h=>y b o (r.fr b o h),λi o b hi h=>let ⟨c,B,z⟩:=r.ob i o b hi h;⟨c,y _ _ B,z⟩,r.dj,r.inj,λi hi=>r.new i (Nat.le_of_succ_le hi),r.gl,r.bs,λb o h=>y b o (r.st b o h),r.sd,r.sf⟩
theorem Ahr {P : Program} {g : FuncId} {AN : Tr Ah → List AV → Option Ct} (hfn : ∃ fn c, P.funcs[g]? = some fn ∧ (fn.name == "runtime.NumGoroutine") = false ∧ fn.body = some c)
  (h:∀H args ct,AN H args=some ct->∃pre v,ct=.Bb pre (.ret v)/\(pre->∀(ρ:Ak) (w:World) (vs:List Value),(∀b o,ρ.st b=some o->w.heap[b]? =some o)->AL ρ args vs-> Calls P g vs.toArray w λe w'=>∃u,e=.returned u/\VR ρ v u/\RowKit.Below w.heap.size w w')):BC P g AN:=by
 intro H args ct hct p v hout E F ρ w nx H' hG r;obtain⟨pre,v',rfl,h2⟩:=h H args ct hct;obtain⟨hp,rfl,rfl⟩:=oy hout;refine⟨hfn,λvs Az=>callsIn_wide.2 ((h2 hp ρ w vs r.st Az).mono λe w' ⟨u,he,hv,hb⟩=>?_)⟩;exact⟨u,ρ,he,⟨Ak.le_refl ρ,λ_ _=>rfl,Nat.le_succ _⟩,AlL r hb,hv⟩
end Go.Ev
end
section
namespace Go.Ev
open Go.RowKit
end Go.Ev
end
section
namespace Go.Ev
open Go.ChangeShapes Go.WideShapes
end Go.Ev
end
