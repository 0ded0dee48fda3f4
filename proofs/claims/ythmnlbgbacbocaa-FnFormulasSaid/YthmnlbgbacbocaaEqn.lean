/-
  EQUATIONS: what the laws do with them.
-/
import Derived.Test.YthmnlbgbacbocaaFm2
import Derived.Test.YthmnlbgbacbocaaBase
set_option linter.unusedVariables false
namespace Go.Proofs.Ythmnlbgbacbocaa
open Go.RowKit
end Go.Proofs.Ythmnlbgbacbocaa
