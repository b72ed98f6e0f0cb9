/- The law ShrinkNil: its loop, in rows of rounds. -/
import Derived.Test.YtdpohandjgnknaaGreatDoorXe
set_option maxRecDepth 100000
open Go Go.Ev
namespace Go.Proofs.YtdpohandjgnknaaGreatDoor
set_option maxHeartbeats 0 in
theorem row3 : exitB ((EE 1000000).code lb st7) 0 st8 = true := by kernel_rfl
set_option maxHeartbeats 0 in
theorem reg3 : nrmB ((EE (1000000 + 2)).code r3 st3) st4 = true := by kernel_rfl
set_option maxHeartbeats 0 in
theorem reg2 : nrmB ((EE (1000000 + 4)).code r2 st2) st3 = true := by kernel_rfl
set_option maxHeartbeats 0 in
theorem reg1 : nrmB ((EE (1000000 + 5)).code r1 st1) st2 = true := by kernel_rfl
set_option maxHeartbeats 0 in
theorem reg0 : nrmB ((EE (1000000 + 6)).code r0 st0) st1 = true := by kernel_rfl
end Go.Proofs.YtdpohandjgnknaaGreatDoor
