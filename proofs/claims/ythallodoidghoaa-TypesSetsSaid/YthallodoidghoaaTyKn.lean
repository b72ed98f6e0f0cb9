/- Laid by program out of its parts: TyKn. -/
import Derived.Test.YthallodoidghoaaTyK0
import Derived.Test.YthallodoidghoaaTyK1
import Derived.Test.YthallodoidghoaaMf
import Derived.Test.YthallodoidghoaaTyAD
set_option linter.unusedVariables false
set_option linter.unusedSimpArgs false
/- known() of the laws on types, out of its two texts. -/
set_option maxRecDepth 100000
open Go Go.Ev
namespace Go.Proofs.Ythallodoidghoaa
def tabK:List (List AV):=[[.str 36 243078206618063096867588136600946687131506746530633530800382399127361613569651255504748,.int .i64 1,.int .i64 18],[.str 41 267267306076399015110246864440622811078472204918960353299971542771082464126617417225900144186060652,.int .i64 1,.int .i64 34]]
theorem tabK_ok:TabOK Try.prog 9 tabK:=by
 intro a h
 rcases List.mem_cons.1 h with rfl | h
 ·exact ⟨rfl,_,_,one0⟩
 rcases List.mem_cons.1 h with rfl | h
 ·exact ⟨rfl,_,_,one1⟩
 ·cases h
set_option maxHeartbeats 0 in
theorem known_says:says ((evsT Try.prog 9 tabK 100 100).call (.fn 5 []) .leaf 0) true=true:=by kernel_rfl
theorem okK:EntOK Try.prog 5 eK:=by
 refine ent_of_calls ⟨_,_,Try.func5,by kernel_rfl,rfl⟩ fun H args ct hct=>?_
 unfold eK at hct
 split at hct
 ·injection hct with hct
  refine ⟨True,_,hct.symm,fun _ ρ w vs _ hvs=>?_⟩
  cases hvs
  exact (ev_table fol tabK_ok known_says .nil w).mono fun e w' ⟨he,hb⟩=>⟨_,he,.bool true,hb⟩
 ·cases hct
end Go.Proofs.Ythallodoidghoaa
