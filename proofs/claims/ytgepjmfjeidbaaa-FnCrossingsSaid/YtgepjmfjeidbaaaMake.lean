/-
  FORMULAS made of exponents, the reference: exponents of a to z; the formula with them.
-/
import Derived.Test.YtgepjmfjeidbaaaFm2
import Derived.Test.YtgepjmfjeidbaaaBase
import Derived.Test.YtgepjmfjeidbaaaSlices
import Derived.Deep.AppendLies
import Derived.Laws.IdiomStrings
set_option linter.unusedVariables false
namespace Go.K
open Go.RowKit
theorem u8_in {m : Nat} (h : m < 26) : IntKind.u8.wrap (97 + (m : Int) - 97) = (m : Int) := by
  simp [IntKind.wrap, IntKind.bits, IntKind.signed]
  omega
theorem row_ext {w w' : World} {base : Nat} {e : TypeId} {size n : Nat} {v : Value} {xs : List Value} (h : w.ownsRow base e size v n xs) (hx : Ext w w') : w'.ownsRow base e size v n xs :=
  ⟨h.1, h.2.imp id (fun ⟨g, cap, cur, hv, hb, hg, r⟩ => ⟨g, cap, cur, hv, hb, hx.block hg, r⟩)⟩
end Go.K
namespace Go.Proofs.Ytgepjmfjeidbaaa
open Go.RowKit
end Go.Proofs.Ytgepjmfjeidbaaa
