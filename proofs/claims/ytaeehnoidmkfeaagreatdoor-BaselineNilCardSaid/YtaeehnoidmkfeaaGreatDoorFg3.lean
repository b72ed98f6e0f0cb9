/- The law of the row BaselineNil: a closed fact of the program: which variables some of its functions name. -/
import Derived.Test.YtaeehnoidmkfeaaGreatDoorRows
import Derived.WalkKit
import Derived.ProofKit
namespace Go.Proofs.YtaeehnoidmkfeaaGreatDoor
open Go
def cl3 : List Nat := [476, 528, 530, 477, 531, 533, 534, 478, 180, 535, 570, 159, 283, 382, 282, 380, 479, 381, 480, 536, 537, 571, 538, 539, 572, 573, 581, 540, 541, 542, 543, 160, 162, 161, 78, 79, 167, 169, 293, 170, 172, 296, 391, 173, 177, 302, 402, 403, 499, 404, 405, 500, 501, 553, 406, 407, 408, 409, 178, 179, 17, 31, 54, 120, 121, 33, 56, 123, 108, 235, 345, 236, 238, 346, 57, 124, 125, 126, 251, 127, 106, 234, 252, 354, 444, 445, 23, 28, 51, 109, 115, 244, 110, 239, 111, 112, 242, 243, 347, 113, 114, 116, 117, 44, 103, 30, 53, 233, 344, 15, 16, 24, 45, 104, 46, 5, 11, 25]
def gl3 : List Nat := [0, 0, 0, 1, 2]
theorem gl3_is : ((cl3.flatMap fun g => ((Tryz.prog.funcs[g]?).bind (·.body)).elim [] Code.globalsNamed) == gl3) = true := by kernel_rfl
end Go.Proofs.YtaeehnoidmkfeaaGreatDoor
