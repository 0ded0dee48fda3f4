/-
  FORMULAS: a power split off, both sides.
-/
import Derived.Test.YtlfldjpabdgefaaWith
import Derived.Test.YtlfldjpabdgefaaWithI
import Derived.Test.YtlfldjpabdgefaaFm4
import Derived.Test.YtlfldjpabdgefaaFm5
set_option linter.unusedVariables false
namespace Go.Z
theorem letter_of {F : Fm} (h : isFormula F = true) {c : Int} (hn : ¬ expo (bs F.nm) F.pw c = 0) : ∃ m : Nat, m < 26 ∧ c = 97 + (m : Int) := by
  have hc : c ∈ bs F.nm := Classical.byContradiction fun hc => hn (expo_none hc)
  obtain ⟨j, hj, he⟩ := List.getElem_of_mem hc
  rw [bs_length] at hj
  obtain ⟨h1, h2, _⟩ := okAt_parts (valid_at h j hj)
  have he' : (bs F.nm).getD j 0 = c := by rw [← he]; simp [List.getD_eq_getElem?_getD, bs_length, hj]
  exact ⟨(c - 97).toNat, by omega, by omega⟩
def SplitPower (F : Fm) (c : Int) : Fm × Int × Int := if isFormula F then (if expo (bs F.nm) F.pw c = 0 then (zeroFm, 0, 4) else (without F c, expo (bs F.nm) F.pw c, 0)) else (zeroFm, 0, 1)
theorem SplitPower_le (F : Fm) (c : Int) (hm : F.pw.length ≤ 1048576) (hn : F.nm.size ≤ 1048576) : (SplitPower F c).1.pw.length ≤ 1048576 ∧ (SplitPower F c).1.nm.size ≤ 1048576 := by
  have hz : zeroFm.pw.length ≤ 1048576 ∧ zeroFm.nm.size ≤ 1048576 := ⟨by simp [zeroFm], by simp [zeroFm, ByteArray.size]⟩
  unfold SplitPower
  split
  · split
    · exact hz
    · exact made_le _ _ _
  · exact hz
end Go.Z
namespace Go.Proofs.Ytlfldjpabdgefaa
open Go.RowKit
end Go.Proofs.Ytlfldjpabdgefaa
