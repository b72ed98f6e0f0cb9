/- The law ShrinkNil: a closed call, evaluated, in pieces. -/
import Derived.Test.YtdpohandjgnknaaGreatDoorXcb
import Derived.Test.YtdpohandjgnknaaGreatDoorXl1
import Derived.Test.YtdpohandjgnknaaGreatDoorXl2
import Derived.Test.YtdpohandjgnknaaGreatDoorXl3
import Derived.Test.YtdpohandjgnknaaGreatDoorXl4
import Derived.Test.YtdpohandjgnknaaGreatDoorXl5
set_option maxRecDepth 100000
open Go Go.Ev
namespace Go.Proofs.YtdpohandjgnknaaGreatDoor
theorem loop_all : (EE (1000000 + 1)).code (.loop lb) st4 = some (.mk (.exit 0) st8) := by
  have h : (EE (1000000 + 1)).code (.loop lb) st4 = evRounds ((EE 1000000).code lb) 1000000 st4 := loop_code
  rw [h, show (1000000 : Nat) = 667 + (667 + (667 + (997998 + 1))) from rfl, iterN_rounds _ _ _ _ (iterB_eq row0), iterN_rounds _ _ _ _ (iterB_eq row1), iterN_rounds _ _ _ _ (iterB_eq row2)]
  exact rounds_last (exitB_eq row3)
theorem code_all : (EE (1000000 + 7)).code (.seq r0 (.seq r1 (.seq r2 (.seq (.seq r3 (.block 0 (.loop lb))) rst)))) st0 = (EE (1000000 + 3)).code rst st8 := by
  have h3 : (EE (1000000 + 3)).code (.seq r3 (.block 0 (.loop lb))) st3 = some (.mk .nrm st8) := (seq_code (nrmB_eq reg3)).trans (block_code loop_all)
  have h4 : (EE (1000000 + 4)).code (.seq (.seq r3 (.block 0 (.loop lb))) rst) st3 = (EE (1000000 + 3)).code rst st8 := seq_code h3
  exact (seq_code (nrmB_eq reg0)).trans ((seq_code (nrmB_eq reg1)).trans ((seq_code (nrmB_eq reg2)).trans h4))
theorem st0_eq : (⟨([] : List AV).length + (Tryz.f4.ntmps - ([] : List AV).length), setArgs [] .leaf 0, .leaf, 4, none, []⟩ : St) = st0 := by kernel_rfl
theorem law_says : says ((evsX Tryz.prog pt [c0, c1] 1000000 (1000000 + 7 + 1)).call (.fn 4 []) .leaf 4) true = true :=
  says_call (by kernel_rfl) (by kernel_rfl) (says_func Tryz.func4 (by kernel_rfl) bd_eq ((congrArg _ st0_eq).trans code_all) rest_says)

theorem law_any (w : World) : Calls Tryz.prog 4 #[] w fun e w' => e = .returned (.bool true) ∧ RowKit.Below w.heap.size w w' :=
  ev_cut mixed pt_ok (cuts_cons ok0 (cuts_cons ok1 cuts_nil)) (gl := []) law_says .nil w (fun g o h => by cases h)
end Go.Proofs.YtdpohandjgnknaaGreatDoor
