/- Laid by program out of its parts: SxT, SxU, SxX, SxY, SxZ. -/
import Derived.Test.YtlmmbanfhjaioaaGreatDoorMf
import Derived.ChangeSlices
import Derived.Test.YtlmmbanfhjaioaaGreatDoorMe
import Derived.Sort.Grow
import Derived.Sort.EncStr
noncomputable section
set_option linter.unusedVariables false
set_option linter.unusedSimpArgs false
section
namespace Go.Ev
open Go.RowKit
end Go.Ev
end
section
namespace Go.Ev
theorem zQ {α:Type} {row:α->Aj} {d:α} {Ap:Nat} (S:0<Ap) {H:Type} {enc:TypeId×Value->H} {P:Program} {w:World} {t e n:Nat} {v:Value} {x:DataW H×List MemPlace} (ht:P.underlying t=some (.slice e)) (hc:P.cellsOf e=Ap) (M:∀cs m x,DataW.trod enc P w 0 (λ_=>true) true m e cs=some x->∃a:α,AG (OE w) (row a) cs) (h:DataW.trod enc P w 0 (λ_=>true) true n t [v]=some x):∃l:List α,VR (OE w) (.vec Ap l.length λk=>row (l.getD k d)) v:=by
 rcases DataW.trod_slice ht h with⟨J,rfl⟩|⟨a,len,cap,elems,rest,m,_,J,rfl,_,hl,hm,ab,O,_,_⟩
 ·injection J with hv _;subst hv;exact⟨[],.Gt _ _ _ rfl _ _⟩
 ·injection J with hv _;subst hv;by_cases h0:len=0
  ·subst h0;exact⟨[],.Gt _ _ _ rfl _ _⟩
  ·have key:∀i,∃y:α×List Value,i<len->w.cells? 0 (a.add (i*Ap)) Ap=some y.2/\AG (OE w) (row y.1) y.2:=λi=>by
    by_cases hi:i<len
    ·have K:=O i hi;rw[hc,CC (by omega)]at K;obtain⟨cs,h2,h3⟩:=Option.bind_eq_some_iff.1 K;obtain⟨y,hy⟩:=M cs _ _ h3;exact⟨(y,cs),λ_=>⟨h2,hy⟩⟩
    ·exact⟨(d,[]),λh=>absurd h hi⟩
   let fn:Nat->α:=λi=>(Classical.choose (key i)).1;let E:Nat->List Value:=λi=>(Classical.choose (key i)).2;have L:∀i,i<len->w.cells? 0 (a.add (i*Ap)) Ap=some (E i):=λi hi=>(IV (key i) hi).1;have V:∀i,i<len->AG (OE w) (row (fn i)) (E i):=λi hi=>(IV (key i) hi).2;have C:∀i,i<len->(E i).length=Ap:=λi hi=>(World.cells?_some (L i hi)).2.1;have B:∀i,i<len->∀j,j<Ap->w.cell? ((a.add (i*Ap)).add j)=(E i)[j]?:=λi hi j R=>(World.cells?_some (L i hi)).2.2 j R;have q:=B 0 (by omega) 0 S;rw[Nat.zero_mul]at q;have U:(E 0)[0]? =some ((E 0)[0]'(by rw[C 0 (by omega)];exact S)):=CC _;rw[U]at q;have hs:a.spot=none:=by simpa[Addr.add]using World.cell?_spot q
   obtain⟨b,o,s⟩:=a;simp only at hs;subst hs;rw[Xy,Xy]at q;have W:∃cs el fz,w.heap[b]? =some (.cells cs el fz):=by
    simp only[World.cell?]at q;split at q
    ·exact⟨_,_,_,by assumption⟩
    ·cases q
   obtain⟨cs,el,fz,hh⟩:=W;have Y:((List.range len).map fn).length=len:=by simp
   have aa:∀i,i<len->((List.range len).map fn).getD i d=fn i:=λi hi=>by simp[B2,hi]
   refine⟨(List.range len).map fn,?_⟩;rw[Y];refine .vec Ap len _ b o cap cs el fz E hh S hl (λi hi=>?_) λi hi j u R=>?_
   ·rw[aa i hi];exact V i hi
   ·have Z:j<Ap:=by rw[<-C i hi];exact(It.1 R).1
    have K:=B i hi j Z;rw[R,Xy,Xy]at K;simp only[World.cell?,hh]at K;simpa using K
def tz (k:IntKind) (z:Int):Aj:=[.int k z]
theorem Adv {k:IntKind} {H:Type} {enc:TypeId×Value->H} {P:Program} {w:World} {t e n:Nat} {v:Value} {x:DataW H×List MemPlace} (ht:P.underlying t=some (.slice e)) (q:P.underlying e=some (.int k)) (hc:P.cellsOf e=1) (h:DataW.trod enc P w 0 (λ_=>true) true n t [v]=some x):∃l:AP,VR (OE w) (.vec 1 l.length λi=>tz k (l.getD i 0)) v:=zQ (row:=tz k) (d:=0) (by decide) ht hc (λcs m x h=>by obtain⟨z,rfl,_,_⟩:=DataW.trod_int q h;exact⟨z,.cons _ _ _ _ (.int _ _) .nil⟩) h
end Go.Ev
end
section
namespace Go.Ev
def AW (b:Bool):Bool:=@decide (b=true) (Classical.propDecidable _)
theorem Ea (b:Bool):AW b=b:=by unfold AW;cases b<;>simp
def AU {α:Type} (a:α):α:=Classical.choose (⟨a,rfl⟩:∃y,y=a)
theorem Dr {α:Type} (a:α):AU a=a:=IV (⟨a,rfl⟩:∃y,y=a)
def Hj (P:Program) (p:Bool) (c:AV) (r:CR):Prop:=
 match p,r with
 |false,.mk v H _=>Bg (Jn P H v) λq=>Al q.1 (AZ [] c q.2.1/\True)
 |true,.AB v H _=>Bg (Jn P H v) λq=>Al q.1 (AZ [] c q.2.1/\True)
 |_,_=>False
theorem Bq {q:Nat×Ae->Prop}:∀p∈([]:List (Nat×Ae)),q p:=λ_ h=>by cases h
theorem gF (b:Bool):(bif b then true else false)=b:=by cases b<;>rfl
theorem gD (b c:Bool):(bif b then c else false)=(b&&c):=by cases b<;>rfl
theorem vk (b:Bool):(bif b then false else true)= !b:=by cases b<;>rfl
theorem Wv {α:Type} {row:α->Aj} {d:α} {q:List (Nat×Nat)} (hv:∀t,Ba q (row t) (row t)) {out:List α} {t:α} {g:Nat->Aj} (y:g 0=row t) {e n:Nat} (hn:n=out.length+1): AH λi=>i*e<n*e->Ba q (row ((out++[t]).getD i d)) (DQ out.length (λk=>row (out.getD k d)) g i):=⟨λi hi=>by
 have hi:i<n:=Nat.lt_of_mul_lt_mul_right hi;unfold DQ;by_cases h:i<out.length
 ·rw[show Nat.blt i out.length=true by simpa[Co]using h,cond_true,show(out++[t]).getD i d=out.getD i d by simp[B2,List.getElem?_append_left h]];exact hv _
 ·obtain rfl:i=out.length:=by omega
  rw[show Nat.blt out.length out.length=false by exact LQ.2 λB=>h (by simp[Co]at B),cond_false,Lc,y,show(out++[t]).getD out.length d=t by simp[B2]];exact hv _⟩
theorem xJ (l:Ac):Gs l.length (Iw l)=l:=by
 unfold Gs Iw Jj;apply List.ext_getElem
 ·simp
 ·intro i q y;simp at q⊢;simp[q]
theorem o7 (l:Ac):LU l.length (Iw l)=true:=Bi λi _=>by unfold Iw O1;exact VF.2 (by have:=(l.getD i 0).toNat_lt;omega)
theorem oy {K L:Prop}:Ah false K L=L:=rfl
theorem oz {K L:Prop}:Ah true K L=K:=rfl
theorem yG {K:Prop}:Al true K=K:=rfl
theorem o8:(AH λ_=>True)=True:=eq_true ⟨λ_=>trivial⟩
theorem VE (z:Int):An z z=true:=by rw[DU];simp
end Go.Ev
end
section
namespace Go.Ev
open Go.RowKit Go.Sort Go.Proofs
def rowOf (q:List Ac) (n:Nat) (f:Nat->Aj):Nat->Aj:=λi=>cond (Nat.blt i n) [.bs (q.getD i [])] (f i)
theorem AgR (n:Nat) (f:Nat->Aj):(Ft n f).length=n:=by simp[Ft]
end Go.Ev
end
section
namespace Go.Ev
def rT (L:List Ac):Nat->Aj:=λi=>[.bs (L.getD i [])]
theorem Alr (L:List Ac) (i:Nat):Ba [] (rT L i) (rT L i):=⟨rfl,trivial⟩
theorem Agy {n:Nat} {f:Nat->Aj} (h:P2 n f=true) {i:Nat} (hi:i<n):rT (Ft n f) i=f i:=by
 unfold P2 at h;have q:=Bt h i hi;unfold uD at q;have B:(Ft n f).getD i []=zJ (f i):=by simp[Ft,B2,hi]
 unfold rT;rw[B];split at q
 ·rename_i s y;rw[y];rfl
 ·cases q
theorem Va {n i:Nat} {f g:Nat->Aj} {r:Aj} (B:i<n->f i=r) (y:¬i<n->g (i-n)=r):DQ n f g i=r:=by
 unfold DQ;by_cases h:i<n
 ·rw[show Nat.blt i n=true from by simpa[Co]using h,cond_true];exact B h
 ·rw[show Nat.blt i n=false from LQ.2 λq=>h (by simpa[Co]using q),cond_false];exact y h
theorem Ade {n:Nat} {F:Nat->Ac}:Ed 1 n (λi=>[AV.bs (F i)])=true:=OX λ_ _=>rfl
def zW (M:Aj->Type) (l:Aj) (h:Unit->M []) (d:(x:Aj)->M x):M l:=match l with
 |[]=>h ()
 |x=>d x
def Alm (M:Aj->Type) (l:Aj) (k:(x:AV)->(y:Aj)->M (x::y)) (h:Unit->M []):M l:=match l with
 |x::y=>k x y
 |[]=>h ()
def fT (M:Aj->Type) (l:Aj) (h:(k:IntKind)->(n:Int)->M [.int k n]) (d:(x:Aj)->M x):M l:=match l with
 |[.int k n]=>h k n
 |x=>d x
def Aln (M:AV->Type) (y:AV) (h:(k:IntKind)->(n:Int)->M (.int k n)) (d:(x:AV)->M x):M y:=match y with
 |.int k n=>h k n
 |x=>d x
def Alo (M:AV->Type) (y:AV) (h:(l:Ac)->M (.bs l)) (i:(m n:Nat)->M (.str m n)) (d:(x:AV)->M x):M y:=match y with
 |.bs l=>h l
 |.str m n=>i m n
 |x=>d x
def Alp (M:AV->Type) (y:AV) (h:(e n:Nat)->(f:Nat->Aj)->M (.vec e n f)) (i:(l:Ac)->M (.bv l)) (j:Unit->M .Ay) (d:(x:AV)->M x):M y:=match y with
 |.vec e n f=>h e n f
 |.bv l=>i l
 |.Ay=>j ()
 |x=>d x
theorem Cd:type_of%(And.intro @Dr (And.intro @Ea (And.intro @true_and (And.intro @and_true (And.intro @implies_true.{0} (And.intro @implies_true.{1} (And.intro @Nat.le_eq (And.intro @gF (And.intro @gD (And.intro @vk (And.intro @Int.toNat_natCast (And.intro @Int.ofNat_eq_natCast (And.intro @Nat.ble_eq (And.intro @Nat.ble_self_eq_true (And.intro @Bool.true_and (And.intro @Bool.and_true (And.intro @Bool.and_self (And.intro @Option.some.injEq.{0} (And.intro @AV.int.injEq (And.intro @xJ (And.intro @o7 (And.intro @Nat.mul_one (And.intro @Nat.beq_refl (And.intro @o8 (And.intro @cond_true.{1} (And.intro @cond_false.{1} (And.intro @VE (And.intro @Bool.not_true (And.intro @Bool.not_false (And.intro @decide_true (And.intro @oy (And.intro @oz (And.intro @yG (And.intro @Vd @List.nil_append.{0})))))))))))))))))))))))))))))))))):=And.intro @Dr (And.intro @Ea (And.intro @true_and (And.intro @and_true (And.intro @implies_true.{0} (And.intro @implies_true.{1} (And.intro @Nat.le_eq (And.intro @gF (And.intro @gD (And.intro @vk (And.intro @Int.toNat_natCast (And.intro @Int.ofNat_eq_natCast (And.intro @Nat.ble_eq (And.intro @Nat.ble_self_eq_true (And.intro @Bool.true_and (And.intro @Bool.and_true (And.intro @Bool.and_self (And.intro @Option.some.injEq.{0} (And.intro @AV.int.injEq (And.intro @xJ (And.intro @o7 (And.intro @Nat.mul_one (And.intro @Nat.beq_refl (And.intro @o8 (And.intro @cond_true.{1} (And.intro @cond_false.{1} (And.intro @VE (And.intro @Bool.not_true (And.intro @Bool.not_false (And.intro @decide_true (And.intro @oy (And.intro @oz (And.intro @yG (And.intro @Vd @List.nil_append.{0})))))))))))))))))))))))))))))))))
end Go.Ev
end
end
