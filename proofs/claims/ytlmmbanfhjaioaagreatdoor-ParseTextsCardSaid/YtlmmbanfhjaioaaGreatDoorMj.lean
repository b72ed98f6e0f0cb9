/- Laid by program out of its parts: SxT, SxU, SxX, SxY, SxZ. -/
import Derived.Test.YtlmmbanfhjaioaaGreatDoorMf
import Derived.ChangeSlices
import Derived.Test.YtlmmbanfhjaioaaGreatDoorMe
import Derived.Sort.Grow
import Derived.Sort.EncStr
noncomputable section
set_option linter.unusedVariables false
set_option linter.unusedSimpArgs false
section
/- The symbolic layer, part T: a contract out of a statement on calls, tables of the library in it. -/
namespace Go.Ev
open Go.RowKit
end Go.Ev
end
section
/- The symbolic layer, part U: slices from outside whose rows are contents in their turn; slices of which only the length is told. -/
namespace Go.Ev
end Go.Ev
end
section
/- The symbolic layer, part X: small tools for proofs about residual sentences; barriers. -/
namespace Go.Ev
def Ax (b:Bool):Bool:=@decide (b=true) (Classical.propDecidable _)
theorem DT (b:Bool):Ax b=b:=by unfold Ax;cases b<;>simp
def AY {α:Type} (a:α):α:=Classical.choose (⟨a,rfl⟩:∃y,y=a)
theorem Du {α:Type} (a:α):AY a=a:=Classical.choose_spec (⟨a,rfl⟩:∃y,y=a)
def Hb (P:Program) (p:Bool) (c:AV) (r:CR):Prop:=
 match p,r with
 |false,.mk v H _=>A7 (Jr P H v) λq=>Ap q.1 (AR [] c q.2.1/\True)
 |true,.AA v H _=>A7 (Jr P H v) λq=>Ap q.1 (AR [] c q.2.1/\True)
 |_,_=>False
theorem BQ {q:Nat×Ac->Prop}:∀p∈([]:List (Nat×Ac)),q p:=λ_ h=>by cases h
theorem Zu (b:Bool):(bif b then true else false)=b:=by cases b<;>rfl
theorem Zt (b c:Bool):(bif b then c else false)=(b&&c):=by cases b<;>rfl
theorem Aan (b:Bool):(bif b then false else true)= !b:=by cases b<;>rfl
theorem RN {α:Type} {row:α->List AV} {d:α} {q:List (Nat×Nat)} (hv:∀t,AH q (row t) (row t)) {out:List α} {t:α} {g:Nat->List AV} (y:g 0=row t) {e n:Nat} (hn:n=out.length+1): Au λi=>i*e<n*e->AH q (row ((out++[t]).getD i d)) (B0 out.length (λk=>row (out.getD k d)) g i):=⟨λi hi=>by
 have hi:i<n:=Nat.lt_of_mul_lt_mul_right hi;unfold B0;by_cases h:i<out.length
 ·rw[show Nat.blt i out.length=true by simpa[Nat.blt_eq]using h,cond_true,show(out++[t]).getD i d=out.getD i d by simp[List.getD_eq_getElem?_getD,List.getElem?_append_left h]];exact hv _
 ·obtain rfl:i=out.length:=by omega
  rw[show Nat.blt out.length out.length=false by exact Bool.eq_false_iff.2 λhb=>h (by simp[Nat.blt_eq]at hb),cond_false,Nat.sub_self,y,show(out++[t]).getD out.length d=t by simp[List.getD_eq_getElem?_getD]];exact hv _⟩
theorem Abl (l:List UInt8):Fz l.length (HW l)=l:=by
 unfold Fz HW Jn;apply List.ext_getElem
 ·simp
 ·intro i q y;simp at q⊢;simp[q]
theorem uT (l:List UInt8):ME l.length (HW l)=true:=decide_eq_true λi _=>by unfold HW O4;exact bS.2 (by have:=(l.getD i 0).toNat_lt;omega)
theorem ue {K L:Prop}:Ad false K L=L:=rfl
theorem uf {K L:Prop}:Ad true K L=K:=rfl
theorem AbZ {K:Prop}:Ap true K=K:=rfl
theorem uU:(Au λ_=>True)=True:=eq_true ⟨λ_=>trivial⟩
theorem WA (z:Int):Ak z z=true:=by rw[Dt];simp
end Go.Ev
end
section
/- The symbolic layer, part Y: a contract of the kit's own that turns a row of texts in its place, as a contract of calls that turn objects. -/
namespace Go.Ev
open Go.RowKit Go.Sort Go.Proofs
def rowOf (q:List (List UInt8)) (n:Nat) (f:Nat->List AV):Nat->List AV:=λi=>cond (Nat.blt i n) [.bs (q.getD i [])] (f i)
end Go.Ev
end
section
/- The symbolic layer, part Z: rows of texts as arguments. -/
namespace Go.Ev
theorem Y6 {n i:Nat} {f g:Nat->List AV} {r:List AV} (y:i<n->f i=r) (q:¬i<n->g (i-n)=r):B0 n f g i=r:=by
 unfold B0;by_cases h:i<n
 ·rw[show Nat.blt i n=true from by simpa[Nat.blt_eq]using h,cond_true];exact y h
 ·rw[show Nat.blt i n=false from Bool.eq_false_iff.2 λhb=>h (by simpa[Nat.blt_eq]using hb),cond_false];exact q h
def AcW (M:List AV->Type) (l:List AV) (h:Unit->M []) (d:(x:List AV)->M x):M l:=match l with
 |[]=>h ()
 |x=>d x
def AoY (M:List AV->Type) (l:List AV) (k:(x:AV)->(y:List AV)->M (x::y)) (h:Unit->M []):M l:=match l with
 |x::y=>k x y
 |[]=>h ()
def AoZ (M:AV->Type) (y:AV) (h:(k:IntKind)->(n:Int)->M (.int k n)) (d:(x:AV)->M x):M y:=match y with
 |.int k n=>h k n
 |x=>d x
def Ao0 (M:AV->Type) (y:AV) (h:(l:List UInt8)->M (.bs l)) (i:(m n:Nat)->M (.str m n)) (d:(x:AV)->M x):M y:=match y with
 |.bs l=>h l
 |.str m n=>i m n
 |x=>d x
def Ao1 (M:AV->Type) (y:AV) (h:(e n:Nat)->(f:Nat->List AV)->M (.vec e n f)) (i:(l:List UInt8)->M (.bv l)) (j:Unit->M .As) (d:(x:AV)->M x):M y:=match y with
 |.vec e n f=>h e n f
 |.bv l=>i l
 |.As=>j ()
 |x=>d x
theorem A9:type_of%(And.intro @Du (And.intro @DT (And.intro @true_and (And.intro @and_true (And.intro @implies_true.{0} (And.intro @implies_true.{1} (And.intro @Nat.le_eq (And.intro @Zu (And.intro @Zt (And.intro @Aan (And.intro @Int.toNat_natCast (And.intro @Int.ofNat_eq_natCast (And.intro @Nat.ble_eq (And.intro @Nat.ble_self_eq_true (And.intro @Bool.true_and (And.intro @Bool.and_true (And.intro @Bool.and_self (And.intro @Option.some.injEq.{0} (And.intro @AV.int.injEq (And.intro @Abl (And.intro @uT (And.intro @Nat.mul_one (And.intro @Nat.beq_refl (And.intro @uU (And.intro @cond_true.{1} (And.intro @cond_false.{1} (And.intro @WA (And.intro @Bool.not_true (And.intro @Bool.not_false (And.intro @decide_true (And.intro @ue (And.intro @uf (And.intro @AbZ (And.intro @V3 @List.nil_append.{0})))))))))))))))))))))))))))))))))):=And.intro @Du (And.intro @DT (And.intro @true_and (And.intro @and_true (And.intro @implies_true.{0} (And.intro @implies_true.{1} (And.intro @Nat.le_eq (And.intro @Zu (And.intro @Zt (And.intro @Aan (And.intro @Int.toNat_natCast (And.intro @Int.ofNat_eq_natCast (And.intro @Nat.ble_eq (And.intro @Nat.ble_self_eq_true (And.intro @Bool.true_and (And.intro @Bool.and_true (And.intro @Bool.and_self (And.intro @Option.some.injEq.{0} (And.intro @AV.int.injEq (And.intro @Abl (And.intro @uT (And.intro @Nat.mul_one (And.intro @Nat.beq_refl (And.intro @uU (And.intro @cond_true.{1} (And.intro @cond_false.{1} (And.intro @WA (And.intro @Bool.not_true (And.intro @Bool.not_false (And.intro @decide_true (And.intro @ue (And.intro @uf (And.intro @AbZ (And.intro @V3 @List.nil_append.{0})))))))))))))))))))))))))))))))))
end Go.Ev
end
end
