/- The law ParseNests: closed facts of the program: what is not followed, what is named. -/
import Derived.Test.YtlmmbanfhjaioaaDoorRows
import Derived.WalkKit
import Derived.ProofKit
namespace Go.Proofs.YtlmmbanfhjaioaaDoor

theorem GB : (Rows.parseNestsRow.unfollowed == Tryd.prog.unfollowed 4) = true := by kernel_rfl

theorem Zja : (Rows.parseNestsRow.named == Tryd.prog.varsNamed 4) = true := by kernel_rfl
end Go.Proofs.YtlmmbanfhjaioaaDoor
