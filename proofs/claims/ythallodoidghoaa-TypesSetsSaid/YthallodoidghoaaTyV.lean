/- Laid by program out of its parts: TyV. -/
import Derived.Test.YthallodoidghoaaTyU
set_option linter.unusedVariables false
set_option linter.unusedSimpArgs false
set_option maxRecDepth 100000
set_option maxHeartbeats 2000000
open Go Go.Ev
namespace Go.Proofs.Ythallodoidghoaa
def needsN:List (Int×List Int):=[(31,[5,1]),(34,[1]),(35,[5]),(15,[2]),(19,[2,3]),(20,[2,4]),(16,[3]),(17,[4]),(18,[1]),(23,[1]),(24,[1]),(32,[1,1])]
def needsL (k:Int):List Int:=(lookI needsN k).getD []
def needsK:SKey→List Int
 | .int n=>needsL n
 | .str _=>[]
noncomputable def needsVal:SKey→AV:=fun k=>vI (barr (needsK k))
noncomputable def needsH:SKey→Bool:=fun k=>bar (hasI .i64 needsKV k)
noncomputable def eNeeds:Tr AObj→List AV→Option Ct:=fun _ args=>match args with
 | []=>some (.need True (.ret (.mapv needsH needsVal .sl0)))
 | _=>none
theorem look_map {α β:Type} (f:α→β) (n:Int):∀ kv:List (Int×α),lookI (kv.map fun p=>(p.1,f p.2)) n=(lookI kv n).map f
 | []=>rfl
 | p :: kv=>by
  rw [List.map_cons,lookI,lookI]
  split
  ·rfl
  ·exact look_map f n kv
theorem needs_map:needsKV=needsN.map fun p=>(p.1,vI p.2):=rfl
theorem needs_some {n:Int} {a:AV} (h:lookI needsKV n=some a):vI (needsL n)=a:=by
 rw [needs_map,look_map] at h
 unfold needsL
 cases e:lookI needsN n with
 | none=>rw [e] at h;cases h
 | some l=>rw [e] at h;injection h
theorem needs_none {n:Int} (h:lookI needsKV n=none):needsL n=[]:=by
 rw [needs_map,look_map] at h
 unfold needsL
 cases e:lookI needsN n with
 | none=>rfl
 | some l=>rw [e] at h;cases h
theorem needs_far {n:Int} (h:sentN≤n):lookI needsKV n=none:=by
 have hs:(100:Int) < sentN:=by decide
 unfold needsKV
 simp only [lookI]
 repeat' rw [if_neg (by omega)]
theorem needsH_eq:needsH=hasI .i64 needsKV:=funext fun k=>bar_eq _
theorem needsVal_eq (k:SKey):needsVal k=vI (needsK k):=by unfold needsVal;rw [barr_eq]
theorem okNeeds:EntOK Try.prog 16 eNeeds:=by
 refine ent_mapI (call:=(cRun cxN0 100).call) (cRun_ok fol tb_nil 100) (ik:=.i64) (kv:=needsKV) (val:=needsVal) (z:=.sl0) (gl:=[]) (ng:=0) ?_ (fun n a h=>by rw [needsVal_eq];exact needs_some h) (fun n h=>?_) (fun l=>?_) (fun n h=>needs_far h) (fun k=>?_) (fun H args ct h=>?_) runNeeds
 ·exact ⟨_,fun ρ=>.sl0⟩
 ·exact .inr ⟨rfl,1,rI (needsL n),by rw [needsVal_eq];show vI (needsL n)=_;rw [needs_none h];rfl⟩
 ·exact .inr ⟨rfl,1,rI [],by rw [needsVal_eq];rfl⟩
 ·rw [needsVal_eq];exact ⟨rfl,rfl,⟨fun _ _=>vm_rI' [] _ _⟩⟩
 ·unfold eNeeds at h
  split at h
  ·injection h with h
   exact ⟨rfl,gl0,by rw [← h,needsH_eq]⟩
  ·cases h
end Go.Proofs.Ythallodoidghoaa
