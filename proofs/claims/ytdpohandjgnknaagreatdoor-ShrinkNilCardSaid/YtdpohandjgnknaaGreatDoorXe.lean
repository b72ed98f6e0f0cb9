/- The law ShrinkNil: its code in pieces. -/
import Derived.Test.YtdpohandjgnknaaGreatDoorXd
set_option maxRecDepth 100000
open Go Go.Ev
namespace Go.Proofs.YtdpohandjgnknaaGreatDoor
def fstC : Code → Code
  | .seq a _ => a
  | _ => .skip
def sndC : Code → Code
  | .seq _ b => b
  | _ => .skip
def inB : Code → Code
  | .block _ c => c
  | c => c
def inL : Code → Code
  | .loop c => c
  | c => c
noncomputable def bd : Code := (Tryz.f4.body).getD .skip
noncomputable def r0 : Code := fstC bd
noncomputable def r1 : Code := fstC (sndC bd)
noncomputable def r2 : Code := fstC (sndC (sndC bd))
noncomputable def r3 : Code := fstC (fstC (sndC (sndC (sndC bd))))
noncomputable def lb : Code := inL (inB (sndC (fstC (sndC (sndC (sndC bd))))))
noncomputable def rst : Code := sndC (sndC (sndC (sndC bd)))
theorem bd_eq : Tryz.f4.body = some (.seq r0 (.seq r1 (.seq r2 (.seq (.seq r3 (.block 0 (.loop lb))) rst)))) := by kernel_rfl
noncomputable def EE (m : Nat) : Evs := evsX Tryz.prog pt [c0, c1] 1000000 m
end Go.Proofs.YtdpohandjgnknaaGreatDoor
