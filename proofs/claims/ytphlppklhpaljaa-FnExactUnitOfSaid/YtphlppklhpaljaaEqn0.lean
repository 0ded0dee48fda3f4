/-
  PLAIN MATHEMATICS: equations.
-/
import Derived.Test.YtphlppklhpaljaaZFm
import Derived.Test.YtphlppklhpaljaaInts
set_option linter.unusedVariables false
namespace Go.Z
structure Eqn where
  L : Fm
  R : Fm
def isEquation (E : Eqn) : Bool := isFormula E.L && isFormula E.R
end Go.Z
namespace Go.K
theorem Far.mono {lo hi lo' hi' : Nat} {a b : World} (h : Far lo hi a b) (h1 : lo' ≤ lo) (h2 : hi ≤ hi') : Far lo' hi' a b := ⟨h.os, h.tape, h.output, h.size, fun k hk ho => h.block k hk (by omega)⟩
end Go.K
