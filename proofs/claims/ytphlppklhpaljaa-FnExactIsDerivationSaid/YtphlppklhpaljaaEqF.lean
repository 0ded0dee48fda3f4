/-
  COMPARISONS of figures and of strings, as the operations yield them.
-/
import Derived.Test.YtphlppklhpaljaaBase
set_option linter.unusedVariables false
namespace Go.Proofs.Ytphlppklhpaljaa
open Go.RowKit
theorem eqFig_run (d t d' t' : Int) (w : World) : (binOp .eql 32 (.agg #[.int .i64 d, .int .i64 t]) (.agg #[.int .i64 d', .int .i64 t'])).run Try.prog w = .ok (.bool (d == d' && t == t')) w := by
  have u3 := Try.underlying2
  have hS : Try.prog.underlying 32 = some (.struct (Try.prog.fieldsOf 32)) := by kernel_rfl
  have hp : Try.prog.stoodInHeld 32 = false := by kernel_rfl
  rw [run_eql_struct, show (10000 : Nat) = 9999 + 1 from rfl, run_equalIn_agg w 9999 32 _ _ hS hp]
  simp only [Program.fieldsOf, Try.underlying32]
  go_simp
  by_cases h1 : d = d' <;> by_cases h2 : t = t' <;> simp [h1, h2]
theorem eqStr_run (a b : ByteArray) (w : World) : (binOp .eql 9 (.string a) (.string b)).run Try.prog w = .ok (.bool (a.toList == b.toList)) w := by
  have u9 := Try.underlying9
  go_simp
end Go.Proofs.Ytphlppklhpaljaa
