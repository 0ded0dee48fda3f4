/-
  PLAIN MATHEMATICS: sides swapped; powers split off; letters solved for.
-/
import Derived.Test.YtpepekmljmeghaaZFm2
import Derived.Test.YtpepekmljmeghaaEqn0
set_option linter.unusedVariables false
namespace Go.Z
def zeroFm : Fm := ⟨0, 0, ⟨#[]⟩, []⟩
def SwapSides (E : Eqn) : Eqn × Int := if isEquation E then (⟨E.R, E.L⟩, 0) else (⟨zeroFm, zeroFm⟩, 1)
theorem SwapSides_le (E : Eqn) (hm : E.L.pw.length ≤ 1048576) (hn : E.L.nm.size ≤ 1048576) (hm' : E.R.pw.length ≤ 1048576) (hn' : E.R.nm.size ≤ 1048576) : (SwapSides E).1.L.pw.length ≤ 1048576 ∧ (SwapSides E).1.R.pw.length ≤ 1048576 := by
  unfold SwapSides; split
  · exact ⟨hm', hm⟩
  · exact ⟨by simp [zeroFm], by simp [zeroFm]⟩
end Go.Z
