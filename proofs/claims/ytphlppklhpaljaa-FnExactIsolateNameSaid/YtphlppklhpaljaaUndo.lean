/-
  STEPS undone, both sides.
-/
import Derived.Test.YtphlppklhpaljaaStL
set_option linter.unusedVariables false
namespace Go.Z
def undoSt (s : St) : St := if s.kd = 1 then ⟨s.kd, s.nm, -s.pw⟩ else s
def isBad (s : St) : Bool := s.kd == 2 && !(s.pw == 1) && !(s.pw == -1)
def noBad (l : List St) : Bool := l.all (fun s => !isBad s)
def UndoSteps (l : List St) : List St × Int := if stCode l = 0 then (if noBad l then (l.reverse.map undoSt, 0) else ([], 5)) else ([], stCode l)
theorem noBad_snoc (l : List St) (s : St) : noBad (l ++ [s]) = (noBad l && (true && !isBad s)) := by simp [noBad]
theorem noBad_rev (l : List St) : noBad l.reverse = noBad l := by simp [noBad]
theorem code_valid {l : List St} (h : stCode l = 0) : ∀ s ∈ l, isStep s = true := by
  unfold stCode at h
  split at h
  · rename_i h1; unfold allSt at h1; rw [List.all_eq_true] at h1; exact h1
  · simp at h
theorem code_len {l : List St} (h : stCode l = 0) : l.length ≤ 12 := by
  unfold stCode at h
  split at h
  · split at h
    · omega
    · simp at h
  · simp at h
theorem step_cases {d m t : Int} (h : isStep ⟨d, m, t⟩ = true) : (d = 0 ∧ m = 0 ∧ t = 0) ∨ (d = 1 ∧ -6 ≤ t ∧ t ≤ 6) ∨ (d = 2 ∧ m = 0 ∧ -3 ≤ t ∧ t ≤ 3) := by
  unfold isStep at h
  split at h
  · left; rename_i h0; simp at h; exact ⟨h0, h.1, h.2⟩
  · split at h
    · right; left; rename_i h1; simp at h; exact ⟨h1, by omega, by omega⟩
    · split at h
      · right; right; rename_i h2; simp at h; exact ⟨h2, by omega, by omega, by omega⟩
      · simp at h
theorem rev_take (xs : List St) (k j : Nat) (hj : j < xs.length) (h : k + j + 1 = xs.length) : xs.reverse.take (k + 1) = xs.reverse.take k ++ [xs[j]] := by
  have hk : k < xs.reverse.length := by simp; omega
  rw [List.take_succ_eq_append_getElem hk, List.getElem_reverse]
  have e : xs.length - 1 - k = j := by omega
  simp only [e]
theorem undo_bad {l : List St} (hc : stCode l = 0) {s : St} (hs : s ∈ l) (hb : isBad s = true) : UndoSteps l = ([], 5) := by
  have : noBad l = false := by unfold noBad; rw [List.all_eq_false]; exact ⟨s, hs, by simp [hb]⟩
  unfold UndoSteps; rw [if_pos hc, this]; rfl
theorem undo_good {l : List St} (hc : stCode l = 0) (h : noBad l.reverse = true) : UndoSteps l = (l.reverse.map undoSt, 0) := by
  rw [noBad_rev] at h
  unfold UndoSteps; rw [if_pos hc, h]; rfl
theorem UndoSteps_le (l : List St) (h : l.length ≤ 1048576) : (UndoSteps l).1.length ≤ 1048576 := by
  unfold UndoSteps; split
  · split
    · simpa using h
    · simp
  · simp
end Go.Z
namespace Go.K
open Go.RowKit
theorem row_lit3 {w : World} {B g : Nat} {e : TypeId} (hg : g = w.heap.size) (hB : B ≤ g) : (w.alloc (.cells #[] e)).ownsRow B e 3 (.slice (some ⟨g, 0, none⟩) 0 0) 0 [] := by
  subst hg; exact World.ownsRow_lit w #[] 0 hB (by decide) rfl
end Go.K
namespace Go.Proofs.Ytphlppklhpaljaa
open Go.RowKit
end Go.Proofs.Ytphlppklhpaljaa
