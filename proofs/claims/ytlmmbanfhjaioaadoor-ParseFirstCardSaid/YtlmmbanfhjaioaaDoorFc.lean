/- The law ParseFirst: closed facts of the program: what is not followed, what is named. -/
import Derived.Test.YtlmmbanfhjaioaaDoorRows
import Derived.WalkKit
import Derived.ProofKit
namespace Go.Proofs.YtlmmbanfhjaioaaDoor

theorem GU : (Rows.parseFirstRow.unfollowed == Tryd.prog.unfollowed 3) = true := by kernel_rfl

theorem Zj5 : (Rows.parseFirstRow.named == Tryd.prog.varsNamed 3) = true := by kernel_rfl
end Go.Proofs.YtlmmbanfhjaioaaDoor
