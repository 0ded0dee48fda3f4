/-
  FORMULAS: what the laws do with them, more; figures.
-/
import Derived.Test.YtgepjmfjeidbaaaFm
set_option linter.unusedVariables false
namespace Go.Proofs.Ytgepjmfjeidbaaa
open Go.RowKit
end Go.Proofs.Ytgepjmfjeidbaaa
