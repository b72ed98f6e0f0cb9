/- Laid by program out of its parts: PcM. -/
import Derived.Test.YtlmmbanfhjaioaaDoorPb5
set_option linter.unusedVariables false
set_option linter.unusedSimpArgs false
set_option maxRecDepth 100000
set_option maxHeartbeats 2000000
open Go Go.Ev
namespace Go.Proofs.YtlmmbanfhjaioaaDoor
def sgN (w:Int):List UInt8:=if w=0 then [40] else if w=1 then [97,114,114,32] else if w=2 then [105,116,91] else if w=3 then [108,101,110,32] else [119,104,105,108,101,32,105,116,32,123]
def enN (w:Int):List UInt8:=if w=0 then [41] else if w=2 then [93] else if w=4 then [125] else []
def preN (w:Int):List UInt8:=if w < 4 then [109,97,105,110,32,123,108,111,103,32] else [109,97,105,110,32,123]
def finN (w:Int):List UInt8:=if w < 4 then [59,125] else [125]
def repN (l:List UInt8):Nat→List UInt8
 | 0=>[]
 | n + 1=>repN l n ++ l
def repE (l m:List UInt8):Nat→List UInt8
 | 0=>m
 | n + 1=>l ++ repE l m n
theorem parW0 {l:List UInt8} (h:parD l≠[]):parW l=[]:=by
 unfold parD at h
 unfold parW
 split
 ·rename_i c
  rw [if_pos c] at h
  unfold tokD at h
  unfold tokW
  split
  ·rename_i e;rw [if_pos e] at h;exact absurd rfl h
  ·rfl
 ·rfl
theorem parW1 {l:List UInt8} (h:parD l=[]):0 < (parW l).length:=by
 unfold parD at h
 unfold parW
 split at h
 ·rename_i c
  rw [if_pos c]
  unfold tokD at h
  unfold tokW
  split at h
  ·rename_i e;rw [if_pos e,YS];exact XD _
  ·cases h
 ·rename_i c
  exact absurd (by rw [h];rfl) c
noncomputable def parC (l:List UInt8):List Dg:=if (scanR l).2.length=0 then tokD ((scanR l).1.map tkOf) (tokP 100001 ((scanR l).1.map tkOf) rs0).2 else (scanR l).2
theorem GD (l:List UInt8):parD l=parC l:=by
 unfold parD parC
 rw [tkL_eq,Zke]
def eqD (a b:List Dg):Bool:=match a,b with
 | [],[]=>true
 | [x],[y]=>decide (x.line=y.line) && (decide (x.col=y.col) && decide (x.err=y.err))
 | _,_=>false
theorem Ze0 {a b:List Dg} (h:eqD a b=true):a=b:=by
 unfold eqD at h
 split at h
 ·rfl
 ·rename_i x y
  cases x;cases y
  simp only [Bool.and_eq_true,decide_eq_true_eq] at h
  obtain ⟨h1,h2,h3⟩:=h
  subst h1;subst h2;subst h3;rfl
 ·cases h
def offN (w:Int):Int:=if w=2 then 2 else if w=4 then 9 else 0
def itN (w:Int):List UInt8:=if w < 4 then [105,116] else []
def txN (w:Int) (i:Nat):List UInt8:=preN w ++ repN (sgN w) (i - 1) ++ itN w ++ repE (enN w) (finN w) (i - 1)
def plN (w:Int) (i:Nat):Int:=if i≤64 then 0 else ((preN w ++ repN (sgN w) 63).length:Int) + 1
noncomputable def chkN (i k:Nat):Bool:=eqD (parC (txN k i)) (if i≤64 then [] else [⟨1,plN k i + offN k,5⟩])
noncomputable def chkR (k a:Nat):Bool:=(List.range 10).all fun i=>chkN (a + i + 1) k
theorem Zz {k a i:Nat} (h:chkR k a=true) (h1:a + 1≤i) (h2:i≤a + 10):chkN i k=true:=by
 have:=List.all_eq_true.1 h (i - a - 1) (List.mem_range.2 (by omega))
 rwa [show a + (i - a - 1) + 1=i by omega] at this
set_option maxRecDepth 1000000 in
set_option maxHeartbeats 0 in
theorem chk_0_0:chkR 0 0=true:=by kernel_rfl
set_option maxRecDepth 1000000 in
set_option maxHeartbeats 0 in
theorem chk_0_1:chkR 0 10=true:=by kernel_rfl
set_option maxRecDepth 1000000 in
set_option maxHeartbeats 0 in
theorem chk_0_2:chkR 0 20=true:=by kernel_rfl
set_option maxRecDepth 1000000 in
set_option maxHeartbeats 0 in
theorem chk_0_3:chkR 0 30=true:=by kernel_rfl
set_option maxRecDepth 1000000 in
set_option maxHeartbeats 0 in
theorem chk_0_4:chkR 0 40=true:=by kernel_rfl
set_option maxRecDepth 1000000 in
set_option maxHeartbeats 0 in
theorem chk_0_5:chkR 0 50=true:=by kernel_rfl
set_option maxRecDepth 1000000 in
set_option maxHeartbeats 0 in
theorem chk_0_6:chkR 0 60=true:=by kernel_rfl
set_option maxRecDepth 1000000 in
set_option maxHeartbeats 0 in
theorem chk_1_0:chkR 1 0=true:=by kernel_rfl
set_option maxRecDepth 1000000 in
set_option maxHeartbeats 0 in
theorem chk_1_1:chkR 1 10=true:=by kernel_rfl
set_option maxRecDepth 1000000 in
set_option maxHeartbeats 0 in
theorem chk_1_2:chkR 1 20=true:=by kernel_rfl
set_option maxRecDepth 1000000 in
set_option maxHeartbeats 0 in
theorem chk_1_3:chkR 1 30=true:=by kernel_rfl
set_option maxRecDepth 1000000 in
set_option maxHeartbeats 0 in
theorem chk_1_4:chkR 1 40=true:=by kernel_rfl
set_option maxRecDepth 1000000 in
set_option maxHeartbeats 0 in
theorem chk_1_5:chkR 1 50=true:=by kernel_rfl
set_option maxRecDepth 1000000 in
set_option maxHeartbeats 0 in
theorem chk_1_6:chkR 1 60=true:=by kernel_rfl
set_option maxRecDepth 1000000 in
set_option maxHeartbeats 0 in
theorem chk_2_0:chkR 2 0=true:=by kernel_rfl
set_option maxRecDepth 1000000 in
set_option maxHeartbeats 0 in
theorem chk_2_1:chkR 2 10=true:=by kernel_rfl
set_option maxRecDepth 1000000 in
set_option maxHeartbeats 0 in
theorem chk_2_2:chkR 2 20=true:=by kernel_rfl
set_option maxRecDepth 1000000 in
set_option maxHeartbeats 0 in
theorem chk_2_3:chkR 2 30=true:=by kernel_rfl
set_option maxRecDepth 1000000 in
set_option maxHeartbeats 0 in
theorem chk_2_4:chkR 2 40=true:=by kernel_rfl
set_option maxRecDepth 1000000 in
set_option maxHeartbeats 0 in
theorem chk_2_5:chkR 2 50=true:=by kernel_rfl
set_option maxRecDepth 1000000 in
set_option maxHeartbeats 0 in
theorem chk_2_6:chkR 2 60=true:=by kernel_rfl
set_option maxRecDepth 1000000 in
set_option maxHeartbeats 0 in
theorem chk_3_0:chkR 3 0=true:=by kernel_rfl
set_option maxRecDepth 1000000 in
set_option maxHeartbeats 0 in
theorem chk_3_1:chkR 3 10=true:=by kernel_rfl
set_option maxRecDepth 1000000 in
set_option maxHeartbeats 0 in
theorem chk_3_2:chkR 3 20=true:=by kernel_rfl
set_option maxRecDepth 1000000 in
set_option maxHeartbeats 0 in
theorem chk_3_3:chkR 3 30=true:=by kernel_rfl
set_option maxRecDepth 1000000 in
set_option maxHeartbeats 0 in
theorem chk_3_4:chkR 3 40=true:=by kernel_rfl
set_option maxRecDepth 1000000 in
set_option maxHeartbeats 0 in
theorem chk_3_5:chkR 3 50=true:=by kernel_rfl
set_option maxRecDepth 1000000 in
set_option maxHeartbeats 0 in
theorem chk_3_6:chkR 3 60=true:=by kernel_rfl
set_option maxRecDepth 1000000 in
set_option maxHeartbeats 0 in
theorem chk_4_0:chkR 4 0=true:=by kernel_rfl
set_option maxRecDepth 1000000 in
set_option maxHeartbeats 0 in
theorem chk_4_1:chkR 4 10=true:=by kernel_rfl
set_option maxRecDepth 1000000 in
set_option maxHeartbeats 0 in
theorem chk_4_2:chkR 4 20=true:=by kernel_rfl
set_option maxRecDepth 1000000 in
set_option maxHeartbeats 0 in
theorem chk_4_3:chkR 4 30=true:=by kernel_rfl
set_option maxRecDepth 1000000 in
set_option maxHeartbeats 0 in
theorem chk_4_4:chkR 4 40=true:=by kernel_rfl
set_option maxRecDepth 1000000 in
set_option maxHeartbeats 0 in
theorem chk_4_5:chkR 4 50=true:=by kernel_rfl
set_option maxRecDepth 1000000 in
set_option maxHeartbeats 0 in
theorem chk_4_6:chkR 4 60=true:=by kernel_rfl
theorem chk_all {i k:Nat} (h1:1≤i) (h2:i≤70) (hk:k < 5):chkN i k=true:=by
 have h0:chkN i 0=true:=by
  by_cases c0:i≤10
  ·exact Zz chk_0_0 (by omega) (by omega)
  by_cases c1:i≤20
  ·exact Zz chk_0_1 (by omega) (by omega)
  by_cases c2:i≤30
  ·exact Zz chk_0_2 (by omega) (by omega)
  by_cases c3:i≤40
  ·exact Zz chk_0_3 (by omega) (by omega)
  by_cases c4:i≤50
  ·exact Zz chk_0_4 (by omega) (by omega)
  by_cases c5:i≤60
  ·exact Zz chk_0_5 (by omega) (by omega)
  by_cases c6:i≤70
  ·exact Zz chk_0_6 (by omega) (by omega)
  omega
 have h1:chkN i 1=true:=by
  by_cases c0:i≤10
  ·exact Zz chk_1_0 (by omega) (by omega)
  by_cases c1:i≤20
  ·exact Zz chk_1_1 (by omega) (by omega)
  by_cases c2:i≤30
  ·exact Zz chk_1_2 (by omega) (by omega)
  by_cases c3:i≤40
  ·exact Zz chk_1_3 (by omega) (by omega)
  by_cases c4:i≤50
  ·exact Zz chk_1_4 (by omega) (by omega)
  by_cases c5:i≤60
  ·exact Zz chk_1_5 (by omega) (by omega)
  by_cases c6:i≤70
  ·exact Zz chk_1_6 (by omega) (by omega)
  omega
 have h2:chkN i 2=true:=by
  by_cases c0:i≤10
  ·exact Zz chk_2_0 (by omega) (by omega)
  by_cases c1:i≤20
  ·exact Zz chk_2_1 (by omega) (by omega)
  by_cases c2:i≤30
  ·exact Zz chk_2_2 (by omega) (by omega)
  by_cases c3:i≤40
  ·exact Zz chk_2_3 (by omega) (by omega)
  by_cases c4:i≤50
  ·exact Zz chk_2_4 (by omega) (by omega)
  by_cases c5:i≤60
  ·exact Zz chk_2_5 (by omega) (by omega)
  by_cases c6:i≤70
  ·exact Zz chk_2_6 (by omega) (by omega)
  omega
 have h3:chkN i 3=true:=by
  by_cases c0:i≤10
  ·exact Zz chk_3_0 (by omega) (by omega)
  by_cases c1:i≤20
  ·exact Zz chk_3_1 (by omega) (by omega)
  by_cases c2:i≤30
  ·exact Zz chk_3_2 (by omega) (by omega)
  by_cases c3:i≤40
  ·exact Zz chk_3_3 (by omega) (by omega)
  by_cases c4:i≤50
  ·exact Zz chk_3_4 (by omega) (by omega)
  by_cases c5:i≤60
  ·exact Zz chk_3_5 (by omega) (by omega)
  by_cases c6:i≤70
  ·exact Zz chk_3_6 (by omega) (by omega)
  omega
 have h4:chkN i 4=true:=by
  by_cases c0:i≤10
  ·exact Zz chk_4_0 (by omega) (by omega)
  by_cases c1:i≤20
  ·exact Zz chk_4_1 (by omega) (by omega)
  by_cases c2:i≤30
  ·exact Zz chk_4_2 (by omega) (by omega)
  by_cases c3:i≤40
  ·exact Zz chk_4_3 (by omega) (by omega)
  by_cases c4:i≤50
  ·exact Zz chk_4_4 (by omega) (by omega)
  by_cases c5:i≤60
  ·exact Zz chk_4_5 (by omega) (by omega)
  by_cases c6:i≤70
  ·exact Zz chk_4_6 (by omega) (by omega)
  omega
 have hk:k=0∨k=1∨k=2∨k=3∨k=4:=by omega
 rcases hk with rfl | rfl | rfl | rfl | rfl
 ·exact h0
 ·exact h1
 ·exact h2
 ·exact h3
 ·exact h4
end Go.Proofs.YtlmmbanfhjaioaaDoor
