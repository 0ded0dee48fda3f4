/-
  EQUATIONS: solved for a letter, both sides.
-/
import Derived.Test.YtlfldjpabdgefaaEq3
import Derived.Test.YtlfldjpabdgefaaSplit
import Derived.Test.YtlfldjpabdgefaaZWith2
import Derived.Test.YtlfldjpabdgefaaOrdX2
set_option linter.unusedVariables false
namespace Go.Z
/-- a letter alone is a power, the code known -/
def solveP (P : Fm × Int) (c : Int) : Eqn × Int := if P.2 = 0 then (⟨⟨1000, 0, ⟨#[UInt8.ofNat c.toNat]⟩, [1]⟩, P.1⟩, 0) else (zeroEqn, P.2)
def solveQ (q : Fm) (n c : Int) : Eqn × Int := if n = 0 then (zeroEqn, 4) else if n = 1 ∨ n = -1 then solveP (raised (without q c) (-n)) c else (zeroEqn, 5)
def SolveFor (E : Eqn) (c : Int) : Eqn × Int :=
  if (QuotientFormula E).2 = 0 then solveQ (QuotientFormula E).1 (expo (bs (QuotientFormula E).1.nm) (QuotientFormula E).1.pw c) c else (zeroEqn, (QuotientFormula E).2)
theorem QuotientFormula_ok {E : Eqn} (h : (QuotientFormula E).2 = 0) : isFormula (QuotientFormula E).1 = true := by
  unfold QuotientFormula at h ⊢; split at h
  · rename_i hz; rw [if_pos hz]; exact quotient_ok h
  · simp at h
theorem solveP_le {P : Fm × Int} (c : Int) (hP : P.1.pw.length ≤ 1048576) : (solveP P c).1.L.pw.length ≤ 1048576 ∧ (solveP P c).1.R.pw.length ≤ 1048576 := by
  unfold solveP; split
  · exact ⟨by simp, hP⟩
  · exact ⟨zeroFm_le.1, zeroFm_le.1⟩
theorem SolveFor_le (E : Eqn) (c : Int) : (SolveFor E c).1.L.pw.length ≤ 1048576 ∧ (SolveFor E c).1.R.pw.length ≤ 1048576 := by
  unfold SolveFor; split
  · unfold solveQ; split
    · exact ⟨zeroFm_le.1, zeroFm_le.1⟩
    · split
      · exact solveP_le c (raised_le _ _).1
      · exact ⟨zeroFm_le.1, zeroFm_le.1⟩
  · exact ⟨zeroFm_le.1, zeroFm_le.1⟩
end Go.Z
namespace Go.K
open Go.RowKit
theorem own_new {w : World} {B g : Nat} {x : Int} {T : TypeId} (h : w.heap[g]? = some (.cells #[.int .i64 x] T)) (hB : B ≤ g) : K.own w B w.heap.size (.slice (some ⟨g, 0, none⟩) 1 1) [x] := by
  refine ⟨_, 1, rfl, fun _ => ⟨g, 0, rfl, hB, (Array.getElem?_eq_some_iff.1 h).1, fun i hi => ?_, fun i hi => thaw_at h⟩⟩
  obtain rfl : i = 0 := by simpa using hi
  exact cell_at h rfl
theorem own_alloc {W : World} {g : Nat} {x : Int} {T : TypeId} (hg : g = W.heap.size) : K.own (W.alloc (.cells #[.int .i64 x] T)) g (g + 1) (.slice (some ⟨g, 0, none⟩) 1 1) [x] := by
  refine (own_new (block_new hg) (Nat.le_refl _)).mono (Nat.le_refl _) ?_
  simp [hg]
end Go.K
