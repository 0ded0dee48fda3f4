/-
  FORMULAS: what the laws do with them.
-/
import Derived.Test.YthmnlbgbacbocaaBase
import Derived.Test.YthmnlbgbacbocaaSlices
set_option linter.unusedVariables false
namespace Go.Proofs.Ythmnlbgbacbocaa
open Go.RowKit
end Go.Proofs.Ythmnlbgbacbocaa
