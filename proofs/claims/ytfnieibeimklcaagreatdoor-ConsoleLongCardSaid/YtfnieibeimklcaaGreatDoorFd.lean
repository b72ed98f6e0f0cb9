/- The law of the row consoleLong: what is named, from its parts. -/
import Derived.Test.YtfnieibeimklcaaGreatDoorFh
import Derived.Test.YtfnieibeimklcaaGreatDoorFg0
namespace Go.Proofs.YtfnieibeimklcaaGreatDoor
open Go
theorem cl_parts : cl = cl0 ++ (cl1 ++ (cl2 ++ (cl3 ++ (cl4)))) := by kernel_rfl
theorem gl_all : (cl.flatMap fun g => ((Tryz.prog.funcs[g]?).bind (·.body)).elim [] Code.globalsNamed) = gl0 ++ (gl1 ++ (gl2 ++ (gl3 ++ (gl4)))) := by
  rw [cl_parts]
  simp only [List.flatMap_append]
  rw [beq_iff_eq.1 gl0_is, beq_iff_eq.1 gl1_is, beq_iff_eq.1 gl2_is, beq_iff_eq.1 gl3_is, beq_iff_eq.1 gl4_is]
theorem fact_named : (Rows.consoleLongRow.named == Tryz.prog.varsNamed 3) = true := by
  unfold Program.varsNamed
  rw [beq_iff_eq.1 cl_is, gl_all, beq_iff_eq.1 en_is]
  kernel_rfl
end Go.Proofs.YtfnieibeimklcaaGreatDoor
