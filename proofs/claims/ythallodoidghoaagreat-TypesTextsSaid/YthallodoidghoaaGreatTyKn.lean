/- Laid by program out of its parts: TyKn. -/
import Derived.Test.YthallodoidghoaaGreatTy9
import Derived.Test.YthallodoidghoaaGreatTyZ
import Derived.Test.YthallodoidghoaaGreatMf
import Derived.Test.YthallodoidghoaaGreatTy8
set_option linter.unusedVariables false
set_option linter.unusedSimpArgs false
set_option maxRecDepth 100000
open Go Go.Ev
namespace Go.Proofs.YthallodoidghoaaGreat
def AeO:List Al:=[[.str 36 243078206618063096867588136600946687131506746530633530800382399127361613569651255504748,.int .i64 1,.int .i64 18],[.str 41 267267306076399015110246864440622811078472204918960353299971542771082464126617417225900144186060652,.int .i64 1,.int .i64 34]]
theorem Ap4:ZC Tryz.prog 12 AeO:=by
 intro a h;rcases Dp.1 h with rfl|h
 ·exact⟨rfl,_,_,Alo⟩
 rcases Dp.1 h with rfl|h
 ·exact⟨rfl,_,_,Alp⟩
 ·cases h
set_option maxHeartbeats 0 in
theorem Ai2:says ((Xe Tryz.prog 12 AeO 100 100).call (.fn 6 []) .leaf 0) true=true:=by kernel_rfl
theorem okK:BC Tryz.prog 6 eK:=by
 refine Ahr ⟨_,_,Tryz.func6,by kernel_rfl,rfl⟩ λH args ct r=>?_;unfold eK at r;split at r
 ·injection r with r;refine⟨True,_,r.symm,λ_ ρ w vs _ Az=>?_⟩;cases Az;exact(Ah7 Cc Ap4 Ai2 .nil w).mono λe w' ⟨he,hb⟩=>⟨_,he,.bool true,hb⟩
 ·cases r
end Go.Proofs.YthallodoidghoaaGreat
