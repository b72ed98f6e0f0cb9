/- The law of the row BaselineNil: a closed fact of the program: which variables some of its functions name. -/
import Derived.Test.YtaeehnoidmkfeaaGreatDoorRows
import Derived.WalkKit
import Derived.ProofKit
namespace Go.Proofs.YtaeehnoidmkfeaaGreatDoor
open Go
def cl2 : List Nat := [76, 77, 150, 163, 272, 372, 457, 458, 459, 460, 521, 562, 522, 292, 563, 564, 523, 461, 373, 462, 463, 464, 465, 466, 467, 468, 469, 470, 273, 285, 164, 288, 388, 484, 485, 545, 290, 295, 389, 390, 546, 486, 547, 488, 473, 493, 525, 549, 487, 548, 482, 489, 490, 550, 551, 491, 492, 166, 383, 481, 171, 294, 384, 277, 375, 472, 524, 297, 298, 392, 494, 495, 286, 385, 483, 544, 287, 386, 155, 387, 154, 165, 289, 151, 153, 274, 152, 275, 276, 374, 471, 168, 291, 156, 157, 279, 280, 377, 278, 376, 158, 281, 378, 379, 474, 526, 529, 565, 579, 566, 569, 299, 475, 527, 568, 567, 580, 532]
def gl2 : List Nat := []
theorem gl2_is : ((cl2.flatMap fun g => ((Tryz.prog.funcs[g]?).bind (·.body)).elim [] Code.globalsNamed) == gl2) = true := by kernel_rfl
end Go.Proofs.YtaeehnoidmkfeaaGreatDoor
