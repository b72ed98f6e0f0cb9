/- The law of the row BaselineNil: a closed fact of the program: which variables some of its functions name. -/
import Derived.Test.YtaeehnoidmkfeaaGreatDoorRows
import Derived.WalkKit
import Derived.ProofKit
namespace Go.Proofs.YtaeehnoidmkfeaaGreatDoor
open Go
def cl0 : List Nat := [3, 4, 10, 21, 39, 73, 74, 22, 40, 80, 181, 245, 348, 349, 441, 517, 518, 182, 183, 303, 105, 304, 305, 410, 502, 411, 412, 237, 413, 503, 184, 306, 185, 307, 308, 415, 414, 309, 310, 311, 186, 312, 187, 81, 188, 190, 313, 314, 416, 504, 512, 328, 432, 505, 506, 417, 508, 509, 554, 555, 574, 583, 588, 590, 507, 575, 584, 418, 510, 419, 589, 423, 585, 582, 420, 556, 557, 558, 559, 421, 422, 189, 41, 82, 192, 317, 428, 329, 433, 318, 92, 319, 320, 429, 321, 322, 323, 324, 191, 315, 424, 425, 316, 427, 426, 511, 83, 193, 87, 325, 208, 88, 194, 195, 32, 55, 122, 247]
def gl0 : List Nat := [3, 3, 3, 3, 5, 0]
theorem gl0_is : ((cl0.flatMap fun g => ((Tryz.prog.funcs[g]?).bind (·.body)).elim [] Code.globalsNamed) == gl0) = true := by kernel_rfl
end Go.Proofs.YtaeehnoidmkfeaaGreatDoor
