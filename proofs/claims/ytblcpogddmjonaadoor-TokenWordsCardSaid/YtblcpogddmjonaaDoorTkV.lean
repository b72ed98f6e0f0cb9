/- Laid by program out of its parts: TkV. -/
import Derived.Test.YtblcpogddmjonaaDoorTkO
set_option maxRecDepth 100000
set_option linter.unusedSimpArgs false
set_option linter.unusedVariables false
open Go Go.Ev
namespace Go.Proofs.Tk

def Y24b : Prop := (cRun (cxA tbC) fu).call 24 [] (mkH glT) 4 (ResMapB wordE 36)
def Z24b : Prop := wordE = wordE ∧ 36 = 36
theorem eq24b : Y24b = Z24b := by kernel_rfl
theorem run24b : Y24b := by rw [eq24b]; exact ⟨rfl, rfl⟩

end Go.Proofs.Tk
