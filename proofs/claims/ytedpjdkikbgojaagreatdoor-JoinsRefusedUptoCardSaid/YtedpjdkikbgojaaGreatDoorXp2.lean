/- known() of the law JoinsRefused, in parts: calls of numbers alone. -/
import Derived.Test.YtedpjdkikbgojaaGreatDoorXd
set_option maxRecDepth 100000
open Go Go.EvC
namespace Go.Proofs.YtedpjdkikbgojaaGreatDoorK
/-- What is looked at. -/
noncomputable def pB2 : List AV × AV → Bool := fun p => cond (allL scal2 p.1) (cond (scal2 p.2) (valB ((evsG gl Tryz.prog [] [] 1000000 1000000).call (.fn 153 p.1) (trH gl .leaf) 1) p.2) false) false
set_option maxHeartbeats 0 in
theorem pf2_0 : pB2 pe2_0 = true := by kernel_rfl
set_option maxHeartbeats 0 in
theorem pf2_1 : pB2 pe2_1 = true := by kernel_rfl
set_option maxHeartbeats 0 in
theorem pf2_2 : pB2 pe2_2 = true := by kernel_rfl
set_option maxHeartbeats 0 in
theorem pf2_3 : pB2 pe2_3 = true := by kernel_rfl
set_option maxHeartbeats 0 in
theorem pf2_4 : pB2 pe2_4 = true := by kernel_rfl
set_option maxHeartbeats 0 in
theorem pf2_5 : pB2 pe2_5 = true := by kernel_rfl
set_option maxHeartbeats 0 in
theorem pf2_6 : pB2 pe2_6 = true := by kernel_rfl
set_option maxHeartbeats 0 in
theorem pf2_7 : pB2 pe2_7 = true := by kernel_rfl
set_option maxHeartbeats 0 in
theorem pf2_8 : pB2 pe2_8 = true := by kernel_rfl
end Go.Proofs.YtedpjdkikbgojaaGreatDoorK
