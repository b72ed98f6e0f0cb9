/- Laid by program out of its parts: PcM. -/
import Derived.Test.YtlmmbanfhjaioaaDoorPb5
set_option linter.unusedVariables false
set_option linter.unusedSimpArgs false
set_option maxRecDepth 100000
set_option maxHeartbeats 2000000
open Go Go.Ev
namespace Go.Proofs.YtlmmbanfhjaioaaDoor
theorem parW0 {l:List UInt8} (h:parD l≠[]):parW l=[]:=by
 unfold parD at h
 unfold parW
 split
 ·rename_i c
  rw [if_pos c] at h
  unfold tokD at h
  unfold tokW
  split
  ·rename_i e;rw [if_pos e] at h;exact absurd rfl h
  ·rfl
 ·rfl
noncomputable def parC (l:List UInt8):List Dg:=if (scanR l).2.length=0 then tokD ((scanR l).1.map tkOf) (tokP 100001 ((scanR l).1.map tkOf) rs0).2 else (scanR l).2
theorem Zf4 (l:List UInt8):parD l=parC l:=by
 unfold parD parC
 rw [tkL_eq,KH]
def eqD (a b:List Dg):Bool:=match a,b with
 | [],[]=>true
 | [x],[y]=>decide (x.line=y.line) && (decide (x.col=y.col) && decide (x.err=y.err))
 | _,_=>false
theorem Zj0 {a b:List Dg} (h:eqD a b=true):a=b:=by
 unfold eqD at h
 split at h
 ·rfl
 ·rename_i x y
  cases x;cases y
  simp only [Bool.and_eq_true,decide_eq_true_eq] at h
  obtain ⟨h1,h2,h3⟩:=h
  subst h1;subst h2;subst h3;rfl
 ·cases h
end Go.Proofs.YtlmmbanfhjaioaaDoor
