/- The law of the row BaselineNil: a closed fact of the program: which variables some of its functions name. -/
import Derived.Test.YtaeehnoidmkfeaaGreatDoorRows
import Derived.WalkKit
import Derived.ProofKit
namespace Go.Proofs.YtaeehnoidmkfeaaGreatDoor
open Go
def cl4 : List Nat := [12, 26, 47, 48, 107, 49, 13, 27, 50, 8, 18, 19, 34, 14, 29, 6, 7, 9, 20, 35, 58, 128, 129, 130, 253, 131, 132, 59, 133, 254, 356, 259, 359, 355, 446, 255, 357, 257, 358, 447, 519, 560, 576, 134, 256, 586, 577, 449, 520, 561, 578, 587, 260, 448, 258, 450, 36, 60, 135, 261, 360, 362, 361, 262, 263, 363, 67, 364, 264, 365, 366, 451, 452, 453, 61, 62, 63, 136, 137, 64, 138, 139, 65, 140, 141, 142, 265, 143, 144, 37, 66, 145, 68, 266, 270, 267, 268, 269, 146, 38, 69, 147, 70, 71, 148, 271, 367, 369, 454, 455, 371, 456, 149, 368, 370, 72]
def gl4 : List Nat := []
theorem gl4_is : ((cl4.flatMap fun g => ((Tryz.prog.funcs[g]?).bind (·.body)).elim [] Code.globalsNamed) == gl4) = true := by kernel_rfl
end Go.Proofs.YtaeehnoidmkfeaaGreatDoor
