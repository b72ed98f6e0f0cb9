/- Laid by program out of its parts: SxT, SxU, SxX, SxY, SxZ. -/
import Derived.Test.YtlmmbanfhjaioaaDoorMf
import Derived.ChangeSlices
import Derived.Test.YtlmmbanfhjaioaaDoorMe
import Derived.Sort.Grow
import Derived.Sort.EncStr
set_option linter.unusedVariables false
set_option linter.unusedSimpArgs false
section
/- The symbolic layer, part T: a contract out of a statement on calls, tables of the library in it. -/
namespace Go.Ev
open Go.RowKit
end Go.Ev
end
section
/- The symbolic layer, part U: slices from outside whose rows are contents in their turn; slices of which only the length is told. -/
namespace Go.Ev
end Go.Ev
end
section
/- The symbolic layer, part X: small tools for proofs about residual sentences; barriers. -/
namespace Go.Ev
noncomputable def bar (b:Bool):Bool:=@decide (b=true) (Classical.propDecidable _)
theorem Zs (b:Bool):bar b=b:=by unfold bar;cases b <;> simp
noncomputable def barr {α:Type} (a:α):α:=Classical.choose (⟨a,rfl⟩:∃ y,y=a)
theorem Zi {α:Type} (a:α):barr a=a:=Classical.choose_spec (⟨a,rfl⟩:∃ y,y=a)
noncomputable def ResP (P:Program) (p:Bool) (c:AV) (r:CR):Prop :=
 match p,r with
 | false,.mk v H _=>okP (frz P H v) fun q=>sdA q.1 (vmP [] c q.2.1∧True)
 | true,.pan v H _=>okP (frz P H v) fun q=>sdA q.1 (vmP [] c q.2.1∧True)
 | _,_=>False
theorem gl0 {q:Nat×AObj→Prop}:∀ p∈([]:List (Nat×AObj)),q p:=fun _ h=>by cases h
theorem ZA (b:Bool):(bif b then true else false)=b:=by cases b <;> rfl
theorem Zz (b c:Bool):(bif b then c else false)=(b && c):=by cases b <;> rfl
theorem ZK (b:Bool):(bif b then false else true) = !b:=by cases b <;> rfl
theorem Uv {α:Type} {row:α→List AV} {d:α} {σ:List (Nat×Nat)} (hv:∀ t,vmL σ (row t) (row t)) {out:List α} {t:α} {g:Nat→List AV} (hg:g 0=row t) {e n:Nat} (hn:n=out.length + 1) :
  AllI fun i=>i * e < n * e→vmL σ (row ((out ++ [t]).getD i d)) (appF out.length (fun k=>row (out.getD k d)) g i):=⟨fun i hi=>by
 have hi:i < n:=Nat.lt_of_mul_lt_mul_right hi
 unfold appF
 by_cases h:i < out.length
 ·rw [show Nat.blt i out.length=true by simpa [Nat.blt_eq] using h,cond_true,show (out ++ [t]).getD i d=out.getD i d by simp [List.getD_eq_getElem?_getD,List.getElem?_append_left h]]
  exact hv _
 ·obtain rfl:i=out.length:=by omega
  rw [show Nat.blt out.length out.length=false by exact Bool.eq_false_iff.2 fun hb=>h (by simp [Nat.blt_eq] at hb),cond_false,Nat.sub_self,hg,show (out ++ [t]).getD out.length d=t by simp [List.getD_eq_getElem?_getD]]
  exact hv _⟩
theorem Zo (l:List UInt8):rowB l.length (byteRow l)=l:=by
 unfold rowB byteRow byteO
 apply List.ext_getElem
 ·simp
 ·intro i h1 h2
  simp at h1 ⊢
  simp [h1]
theorem Zj (l:List UInt8):allBR l.length (byteRow l)=true:=decide_eq_true fun i _=>by
 unfold byteRow isBR
 exact Zf6.2 (by have:=(l.getD i 0).toNat_lt;omega)
theorem ZY {K L:Prop}:brP false K L=L:=rfl
theorem Ya {K L:Prop}:brP true K L=K:=rfl
theorem ZZ {K:Prop}:sdA true K=K:=rfl
theorem Zn:(AllI fun _=>True)=True:=eq_true ⟨fun _=>trivial⟩
theorem Zp (z:Int):ieq z z=true:=by rw [Yc];simp
end Go.Ev
end
section
/- The symbolic layer, part Y: a contract of the kit's own that turns a row of texts in its place, as a contract of calls that turn objects. -/
namespace Go.Ev
open Go.RowKit Go.Sort Go.Proofs
end Go.Ev
end
section
/- The symbolic layer, part Z: rows of texts as arguments. -/
namespace Go.Ev
theorem Xx {n i:Nat} {f g:Nat→List AV} {r:List AV} (h1:i < n→f i=r) (h2:¬ i < n→g (i - n)=r):appF n f g i=r:=by
 unfold appF
 by_cases h:i < n
 ·rw [show Nat.blt i n=true from by simpa [Nat.blt_eq] using h,cond_true];exact h1 h
 ·rw [show Nat.blt i n=false from Bool.eq_false_iff.2 fun hb=>h (by simpa [Nat.blt_eq] using hb),cond_false];exact h2 h
end Go.Ev
end
