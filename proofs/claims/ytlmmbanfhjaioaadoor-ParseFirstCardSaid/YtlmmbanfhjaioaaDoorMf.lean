/- Laid by program out of its parts: SxO, SxP, SxQ, SxR, SxS. -/
import Derived.Test.YtlmmbanfhjaioaaDoorMe
import Derived.Test.YtlmmbanfhjaioaaDoorMg
import Derived.ChangeSlices
import Derived.OpenShut
set_option linter.unusedVariables false
set_option linter.unusedSimpArgs false
section
/- The symbolic layer, part O: a contract at a call from outside: every block that is there stays as it is. -/
namespace Go.Ev
open Go.RowKit Go.ChangeShapes
def wRen (w:World):Ren:=⟨fun _=>none,fun b=>w.heap[b]?⟩
theorem ent_law {P:Program} {g:FuncId} {ent:Tr AObj→List AV→Option Ct} (hent:EntOK P g ent) {H:Tr AObj} {args:List AV} {ct:Ct} {b:Bool} (hct:ent H args=some ct)
  (hout:ctOut ct=some (false,.bool b)) {W:World} {vs:List Value} (hvs:VRL (wRen W) args vs) (hG:∀ g l,H.get g=some (.glob l)→∃ cs e fz,W.heap[g]? = some (.cells cs e fz)∧∀ ρ',VRL ρ' l cs.toList) :
  Calls P g vs.toArray W fun e w'=>e = .returned (.bool b)∧RowKit.Below W.heap.size W w':=by
 have r:Rel ⟨W.tape,W.os,W.output,fun b=>W.heap[b]?,fun _=>true⟩ (fun b=>W.heap[b]?) 0 (wRen W) (Tr.leaf:Tr AObj).get W :=
  ⟨rfl,rfl,rfl,fun b o hb=>hb,fun i o b hi=>(by rw [Tr.get_leaf] at hi;cases hi),fun i o b hi=>(by rw [Tr.get_leaf] at hi;cases hi),
   fun i j o o' b b' hi=>(by rw [Tr.get_leaf] at hi;cases hi),fun _ _=>rfl,fun i o hi=>(by rw [Tr.get_leaf] at hi;cases hi),fun _ _ h=>h,fun _ _ h=>h,fun i o b hi=>(by rw [Tr.get_leaf] at hi;cases hi),fun _ _ _ _ _=>rfl⟩
 have hcall:=hent H args ct hct false (.bool b) hout ⟨W.tape,W.os,W.output,fun b=>W.heap[b]?,fun _=>true⟩ _ _ W 0 .leaf hG r
 have hc':Calls P g vs.toArray W _:=callsIn_wide.1 (hcall.2 vs hvs)
 refine hc'.mono fun e w' hE=>?_
 obtain ⟨u,ρ',he,_,hr,hv⟩:=hE
 cases hv
 refine ⟨he,hr.os,hr.tape,hr.output,?_,fun k hk=>?_⟩
 ·by_cases h0:W.heap.size=0
  ·omega
  ·have hlt:W.heap.size - 1 < W.heap.size:=by omega
   have:=hr.fr (W.heap.size - 1) _ (Array.getElem?_eq_getElem hlt)
   have:=YJ this
   omega
 ·rw [Array.getElem?_eq_getElem hk]
  exact hr.fr k _ (Array.getElem?_eq_getElem hk)
theorem WA {P:Program} {g:FuncId} {ent:Tr AObj→List AV→Option Ct} {gl:List (Nat×AObj)} {ng:Nat} (hgl:∀ p∈gl,isGl p.2=true)
  (h:∀ H args ct,ent H args=some ct→(∀ p∈gl,H.get p.1=some p.2)∧∃ pre v,ct = .need pre (.ret v) ∧
   (pre→vmL [] args args∧∃ (cx:Ctx) (n:Nat),cx.P=P∧P.follows .mixedOrders=true∧TbOK P cx.tb∧(cRun cx n).call g args (mkH gl) ng (ResM P false v))):EntOK P g ent:=by
 intro H args ct hct p v hout
 obtain ⟨h1,pre,v',h3,h4⟩:=h H args ct hct
 subst h3
 have ho:(open Classical in if pre then some (false,v') else none)=some (p,v):=hout
 by_cases hp:pre
 ·rw [if_pos hp] at ho
  injection ho with ho;injection ho with ho1 ho2
  obtain ⟨h2,cx,n,e1,e2,e3,e4⟩:=h4 hp
  subst e1
  exact ent_ok (Xr e2 e3 n) (ent:=fun H' args'=>open Classical in if H'=H∧args'=args then some (.ret v') else none) hgl (fun H' args' ct' hct'=>by
   classical
   by_cases hh:H'=H∧args'=args
   ·rw [if_pos hh] at hct'
    injection hct' with hct'
    obtain ⟨rfl,rfl⟩:=hh
    refine ⟨h1,h2,fun p' v'' hout'=>?_⟩
    rw [← hct'] at hout'
    injection hout' with hout'
    injection hout' with ha hb
    subst ha;subst hb;exact e4
   ·rw [if_neg hh] at hct';cases hct') H args (.ret v') (if_pos ⟨rfl,rfl⟩) p v (by rw [← ho1,← ho2];rfl)
 ·rw [if_neg hp] at ho;cases ho
end Go.Ev
end
section
/- The symbolic layer, part P: what a call from outside hands over, as a content. -/
namespace Go.Ev
open Go.ChangeShapes Go.WideShapes
theorem ctOut_of {p:Prop} {v:AV} (h:p):ctOut (.need p (.ret v))=some (false,v):=if_pos h
theorem Zdw {H:Type} {enc:TypeId×Value→H} {P:Program} {w:World} {t el n:Nat} {v:Value} {x:DataW H×List MemPlace} (ht:P.underlying t=some (.slice el)) (he:P.underlying el=some (.int .u8)) (hc:P.cellsOf el=1)
  (h:DataW.trod enc P w 0 (fun _=>true) true n t [v]=some x):∃ l:List UInt8,VR (wRen w) (.bv l) v:=by
 rcases open_ints ht he hc h with ⟨hcs,rfl⟩ | ⟨a,len,cap,zs,hcs,_,hl,hm,hz,rfl,hcell,hwf⟩
 ·injection hcs with hv _
  subst hv
  exact ⟨[],.bvz [] rfl _ _⟩
 ·injection hcs with hv _
  subst hv
  rw [if_pos rfl] at hz
  by_cases h0:len=0
  ·subst h0;exact ⟨[],.bvz [] rfl _ _⟩
  ·have hs:a.spot=none:=by simpa [Addr.add] using World.cell?_spot (hcell 0 (by omega))
   obtain ⟨b,o,s⟩:=a
   simp only at hs
   subst hs
   refine ⟨(zs.take len).map fun z=>UInt8.ofNat z.toNat,?_⟩
   have hlen:((zs.take len).map fun z=>UInt8.ofNat z.toNat).length=len:=by simp;omega
   have hcell0:=hcell 0 (by omega)
   have hob:∃ cs e fz,w.heap[b]? = some (.cells cs e fz):=by
    simp only [World.cell?,Addr.add] at hcell0
    split at hcell0
    ·exact ⟨_,_,_,by assumption⟩
    ·cases hcell0
   obtain ⟨cs,e,fz,hh⟩:=hob
   have key:=VR.bv (ρ:=wRen w) ((zs.take len).map fun z=>UInt8.ofNat z.toNat) b o cap cs e fz hh (by rw [hlen];exact hl) fun i hi=>by
    rw [hlen] at hi
    have h1:=hcell i (by omega)
    have hw:=hwf (zs.getD i 0) (by rw [List.getD_eq_getElem?_getD,List.getElem?_eq_getElem (by omega)];exact List.getElem_mem _)
    have hw2:IntKind.u8.min≤zs.getD i 0∧zs.getD i 0≤IntKind.u8.max:=by simpa [Lit.wf] using hw
    rw [show IntKind.u8.min=0 by decide,show IntKind.u8.max=255 by decide] at hw2
    have h1':w.cell? ⟨b,o + i,none⟩=some (.int .u8 (zs.getD i 0)):=by
     rw [← h1]
     by_cases hi0:i=0
     ·subst hi0;simp [Addr.add]
     ·simp [Addr.add,hi0]
    simp only [World.cell?,hh] at h1'
    rw [show cs[o + i]? = some (.int .u8 (zs.getD i 0)) by simpa using h1']
    have e1:((zs.take len).map fun z=>UInt8.ofNat z.toNat).getD i 0=UInt8.ofNat (zs.getD i 0).toNat:=by
     have hi2:i < (zs.take len).length:=by simp;omega
     simp only [List.getD_eq_getElem?_getD,List.getElem?_map,List.getElem?_eq_getElem hi2,Option.map_some,Option.getD_some,List.getElem_take,List.getElem?_eq_getElem (show i < zs.length by omega)]
    rw [e1]
    generalize zs.getD i 0=z at hw2
    have hz:(UInt8.ofNat z.toNat).toNat=z.toNat:=by
     rw [UInt8.toNat_ofNat']
     exact Nat.mod_eq_of_lt (by omega)
    rw [hz,Int.toNat_of_nonneg hw2.1]
   rw [hlen] at key
   exact key
end Go.Ev
end
section
/- The symbolic layer, part Q: a contract of the kit's own as a contract of contents. -/
namespace Go.Ev
open Go.RowKit
end Go.Ev
end
section
/- The symbolic layer, part R: closed contents beside one another; a contract at closed arguments; a contract out of the evaluator's word. -/
namespace Go.Ev
open Go.RowKit
end Go.Ev
end
section
/- The symbolic layer, part S: a slice of structs that a call from outside hands over, as a content. -/
namespace Go.Ev
open Go.ChangeShapes Go.WideShapes
end Go.Ev
end
