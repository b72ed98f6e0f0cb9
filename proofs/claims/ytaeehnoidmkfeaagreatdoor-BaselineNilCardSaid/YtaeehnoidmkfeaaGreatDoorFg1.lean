/- The law of the row BaselineNil: a closed fact of the program: which variables some of its functions name. -/
import Derived.Test.YtaeehnoidmkfeaaGreatDoorRows
import Derived.WalkKit
import Derived.ProofKit
namespace Go.Proofs.YtaeehnoidmkfeaaGreatDoor
open Go
def cl1 : List Nat := [248, 119, 350, 351, 249, 250, 352, 353, 442, 443, 196, 197, 198, 326, 430, 174, 300, 327, 431, 513, 199, 200, 201, 202, 203, 204, 330, 207, 331, 332, 333, 334, 246, 84, 205, 206, 85, 86, 42, 89, 209, 90, 210, 91, 211, 214, 335, 212, 213, 336, 215, 93, 95, 94, 96, 216, 97, 43, 98, 175, 52, 118, 301, 393, 399, 284, 394, 496, 395, 240, 241, 396, 497, 498, 552, 397, 398, 400, 401, 176, 99, 217, 218, 338, 337, 100, 219, 220, 221, 222, 339, 434, 514, 515, 230, 340, 223, 224, 225, 226, 227, 228, 341, 229, 342, 435, 436, 437, 438, 439, 516, 440, 101, 102, 231, 232, 343, 75]
def gl1 : List Nat := [4, 6, 7]
theorem gl1_is : ((cl1.flatMap fun g => ((Tryz.prog.funcs[g]?).bind (·.body)).elim [] Code.globalsNamed) == gl1) = true := by kernel_rfl
end Go.Proofs.YtaeehnoidmkfeaaGreatDoor
