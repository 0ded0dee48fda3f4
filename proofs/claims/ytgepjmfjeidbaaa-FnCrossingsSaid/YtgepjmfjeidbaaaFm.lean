/-
  FORMULAS: what the laws do with them.
-/
import Derived.Test.YtgepjmfjeidbaaaBase
import Derived.Test.YtgepjmfjeidbaaaSlices
set_option linter.unusedVariables false
namespace Go.Proofs.Ytgepjmfjeidbaaa
open Go.RowKit
end Go.Proofs.Ytgepjmfjeidbaaa
