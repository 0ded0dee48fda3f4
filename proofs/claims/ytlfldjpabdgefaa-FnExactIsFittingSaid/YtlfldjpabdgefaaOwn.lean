/-
  COPIES of lists, both sides; of formulas.
-/
import Derived.Test.YtlfldjpabdgefaaFm2
import Derived.Test.YtlfldjpabdgefaaOrdX
import Derived.Test.YtlfldjpabdgefaaEqn0
import Derived.Deep.AppendLies
import Derived.Lib.Slices
import Derived.Lib.SliceRun
import Derived.Deep.RegionHeld3
set_option linter.unusedVariables false
namespace Go.K
open Go.RowKit
theorem ints_news {w : World} {b off : Nat} {xs : List Int} (hc : ∀ i, i < xs.length → w.cell? ⟨b, off + i, none⟩ = some (.int .i64 (xs.getD i 0))) :
    ∀ j u, (xs.map (Value.int .i64))[j]? = some u → w.cell? ((⟨b, off, none⟩ : Addr).add j) = some u := by
  intro j u hu
  rw [WideShapes.add_plain]
  rw [List.getElem?_map] at hu
  by_cases hj : j < xs.length
  · rw [hc j hj]
    simpa [List.getD_eq_getElem?_getD, hj] using hu
  · rw [List.getElem?_eq_none (by omega)] at hu; simp at hu
theorem one_news (xs : List Int) : ∀ u ∈ xs.map (Value.int .i64), u.oneCell' = true := by
  intro u hu
  obtain ⟨x, _, rfl⟩ := List.mem_map.1 hu
  rfl
/-- It is a list of its own. -/
def SP.own (B : Nat) (xs : List Int) : SP := ⟨fun v w => ∃ hi, B ≤ hi ∧ hi ≤ w.heap.size ∧ K.own w B hi v xs, fun _ _ _ hx ⟨hi, h1, h2, h⟩ => ⟨hi, h1, Nat.le_trans h2 hx.size, h.ext hx⟩⟩
end Go.K
namespace Go.Proofs.Ytlfldjpabdgefaa
open Go.RowKit
end Go.Proofs.Ytlfldjpabdgefaa
