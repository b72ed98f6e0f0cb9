/- Laid by program out of its parts: SxT, SxU, SxX, SxY, SxZ. -/
import Derived.Test.YthallodoidghoaaGreatMf
import Derived.ChangeSlices
import Derived.Test.YthallodoidghoaaGreatMe
import Derived.Sort.Grow
import Derived.Sort.EncStr
noncomputable section
set_option linter.unusedVariables false
set_option linter.unusedSimpArgs false
section
namespace Go.Ev
open Go.RowKit
end Go.Ev
end
section
namespace Go.Ev
end Go.Ev
end
section
namespace Go.Ev
def Ay (b:Bool):Bool:=@decide (b=true) (Classical.propDecidable _)
theorem F2 (b:Bool):Ay b=b:=by unfold Ay;cases b<;>simp
def AF {α:Type} (a:α):α:=Classical.choose (⟨a,rfl⟩:∃y,y=a)
theorem Et {α:Type} (a:α):AF a=a:=LU (⟨a,rfl⟩:∃y,y=a)
theorem AS {q:Nat×Ah->Prop}:∀p∈([]:List (Nat×Ah)),q p:=λ_ h=>by cases h
theorem ot (b:Bool):(bif b then true else false)=b:=by cases b<;>rfl
theorem oq (b c:Bool):(bif b then c else false)=(b&&c):=by cases b<;>rfl
theorem AcL (b:Bool):(bif b then false else true)= !b:=by cases b<;>rfl
theorem QS {α:Type} {row:α->Al} {d:α} {r:List (Nat×Nat)} (hv:∀t,AZ r (row t) (row t)) {out:List α} {t:α} {g:Nat->Al} (x:g 0=row t) {e n:Nat} (hn:n=out.length+1): Ar λi=>i*e<n*e->AZ r (row ((out++[t]).getD i d)) (BA out.length (λk=>row (out.getD k d)) g i):=⟨λi hi=>by
 have hi:i<n:=Nat.lt_of_mul_lt_mul_right hi;unfold BA;by_cases h:i<out.length
 ·rw[show Nat.blt i out.length=true by simpa[CE]using h,cond_true,show(out++[t]).getD i d=out.getD i d by simp[Bt,List.getElem?_append_left h]];exact hv _
 ·obtain rfl:i=out.length:=by omega
  rw[show Nat.blt out.length out.length=false by exact Bool.eq_false_iff.2 λhb=>h (by simp[CE]at hb),cond_false,Of,x,show(out++[t]).getD out.length d=t by simp[Bt]];exact hv _⟩
theorem AdQ {α:Type} {row:α->Al} {d:α} {x:List (Nat×Nat)} (hv:∀t,AZ x (row t) (row t)) {out r:List α} (h:out=r) {e n:Nat}: Ar λi=>i*e<n->AZ x (row (out.getD i d)) (row (r.getD i d)):=⟨λi _=>by subst h;exact hv _⟩
theorem AdI (l:Aj):GN l.length (Kn l)=l:=by
 unfold GN Kn Jc;apply List.ext_getElem
 ·simp
 ·intro i r x;simp at r⊢;simp[r]
theorem xw (l:Aj):Ok l.length (Kn l)=true:=BF λi _=>by unfold Kn PX;exact sy.2 (by have:=(l.getD i 0).toNat_lt;omega)
theorem yE {K L:Prop}:Ag false K L=L:=rfl
theorem yF {K L:Prop}:Ag true K L=K:=rfl
theorem Aes {K:Prop}:Ap true K=K:=rfl
theorem xx:(Ar λ_=>True)=True:=eq_true ⟨λ_=>trivial⟩
theorem AbB (z:Int):Au z z=true:=by rw[DD];simp
end Go.Ev
end
section
namespace Go.Ev
open Go.RowKit Go.Sort Go.Proofs
def rowOf (r:List Aj) (n:Nat) (f:Nat->Al):Nat->Al:=λi=>cond (Nat.blt i n) [.bs (r.getD i [])] (f i)
end Go.Ev
end
section
namespace Go.Ev
def wg (M:Al->Type) (l:Al) (h:Unit->M []) (d:(x:Al)->M x):M l:=match l with
 |[]=>h ()
 |x=>d x
def AqL (M:Al->Type) (l:Al) (k:(x:AV)->(y:Al)->M (x::y)) (h:Unit->M []):M l:=match l with
 |x::y=>k x y
 |[]=>h ()
def yH (M:Al->Type) (l:Al) (h:(k:IntKind)->(n:Int)->M [.int k n]) (d:(x:Al)->M x):M l:=match l with
 |[.int k n]=>h k n
 |x=>d x
def Afr (M:AV->Type) (y:AV) (h:(k:IntKind)->(n:Int)->M (.int k n)) (d:(x:AV)->M x):M y:=match y with
 |.int k n=>h k n
 |x=>d x
def AqM (M:AV->Type) (y:AV) (h:(l:Aj)->M (.bs l)) (i:(m n:Nat)->M (.str m n)) (d:(x:AV)->M x):M y:=match y with
 |.bs l=>h l
 |.str m n=>i m n
 |x=>d x
def AqN (M:AV->Type) (y:AV) (h:(e n:Nat)->(f:Nat->Al)->M (.vec e n f)) (i:(l:Aj)->M (.bv l)) (j:Unit->M .AW) (d:(x:AV)->M x):M y:=match y with
 |.vec e n f=>h e n f
 |.bv l=>i l
 |.AW=>j ()
 |x=>d x
theorem Bq:type_of%(And.intro @Et (And.intro @F2 (And.intro @true_and (And.intro @and_true (And.intro @implies_true.{0} (And.intro @implies_true.{1} (And.intro @Nat.le_eq (And.intro @ot (And.intro @oq (And.intro @AcL (And.intro @Int.toNat_natCast (And.intro @Int.ofNat_eq_natCast (And.intro @Nat.ble_eq (And.intro @Nat.ble_self_eq_true (And.intro @Bool.true_and (And.intro @Bool.and_true (And.intro @Bool.and_self (And.intro @Option.some.injEq.{0} (And.intro @AV.int.injEq (And.intro @AdI (And.intro @xw (And.intro @Nat.mul_one (And.intro @Nat.beq_refl (And.intro @xx (And.intro @cond_true.{1} (And.intro @cond_false.{1} (And.intro @AbB (And.intro @Bool.not_true (And.intro @Bool.not_false (And.intro @decide_true (And.intro @yE (And.intro @yF (And.intro @Aes (And.intro @bW @List.nil_append.{0})))))))))))))))))))))))))))))))))):=And.intro @Et (And.intro @F2 (And.intro @true_and (And.intro @and_true (And.intro @implies_true.{0} (And.intro @implies_true.{1} (And.intro @Nat.le_eq (And.intro @ot (And.intro @oq (And.intro @AcL (And.intro @Int.toNat_natCast (And.intro @Int.ofNat_eq_natCast (And.intro @Nat.ble_eq (And.intro @Nat.ble_self_eq_true (And.intro @Bool.true_and (And.intro @Bool.and_true (And.intro @Bool.and_self (And.intro @Option.some.injEq.{0} (And.intro @AV.int.injEq (And.intro @AdI (And.intro @xw (And.intro @Nat.mul_one (And.intro @Nat.beq_refl (And.intro @xx (And.intro @cond_true.{1} (And.intro @cond_false.{1} (And.intro @AbB (And.intro @Bool.not_true (And.intro @Bool.not_false (And.intro @decide_true (And.intro @yE (And.intro @yF (And.intro @Aes (And.intro @bW @List.nil_append.{0})))))))))))))))))))))))))))))))))
end Go.Ev
end
end
