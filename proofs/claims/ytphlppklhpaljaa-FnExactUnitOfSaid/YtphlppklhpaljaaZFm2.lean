/-
  PLAIN MATHEMATICS: what is asked of formulas and equations.
-/
import Derived.Test.YtphlppklhpaljaaZFm
set_option linter.unusedVariables false
namespace Go.Z
theorem isFormula_len {F : Fm} (h : isFormula F = true) : F.pw.length = F.nm.size ∧ F.nm.size ≤ 6 := by
  simp only [isFormula, Bool.and_eq_true, beq_iff_eq, decide_eq_true_eq] at h
  exact ⟨h.1.2, h.1.1.2⟩
def ExponentOf (F : Fm) (c : Int) : Int × Int := if isFormula F then (expo (bs F.nm) F.pw c, 0) else (0, 1)
end Go.Z
