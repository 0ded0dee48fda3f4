/-
  PLAIN MATHEMATICS: logarithms of figures and of formulas.
-/
import Derived.Test.YtphlppklhpaljaaBase
import Derived.Test.YtphlppklhpaljaaFigS
set_option linter.unusedVariables false
namespace Go.Z
def stepL (p : Int × Int) : Int × Int := if 1000000000 ≤ fl (p.1 * p.1) 100000000 then (fl (fl (p.1 * p.1) 100000000) 10, p.2 * 2 + 1) else (fl (p.1 * p.1) 100000000, p.2 * 2)
def stepH (p : Int × Int) : Int × Int := if 1000000000 ≤ cl (p.1 * p.1) 100000000 then (cl (cl (p.1 * p.1) 100000000) 10, p.2 * 2 + 1) else (cl (p.1 * p.1) 100000000, p.2 * 2)
def itL (x : Int) : Nat → Int × Int
  | 0 => (x, 0)
  | k + 1 => stepL (itL x k)
def itH (x : Int) : Nat → Int × Int
  | 0 => (x, 0)
  | k + 1 => stepH (itH x k)
def b2 : Nat → Int
  | 0 => 1
  | k + 1 => 2 * b2 k
theorem b2_pos (k : Nat) : 1 ≤ b2 k := by
  induction k with
  | zero => exact Int.le_refl 1
  | succ k ih => simp only [b2]; omega
theorem b2_mono {k m : Nat} (h : k ≤ m) : b2 k ≤ b2 m := by
  induction m with
  | zero => obtain rfl : k = 0 := by omega
            exact Int.le_refl _
  | succ m ih =>
    by_cases hk : k = m + 1
    · rw [hk]; exact Int.le_refl _
    · have h1 := ih (by omega)
      have h2 := b2_pos m
      simp only [b2]; omega
theorem b2_20 : b2 20 = 1048576 := by decide
theorem sq_bd {x : Int} (h1 : 100000000 ≤ x) (h2 : x ≤ 1000000000) : 10000000000000000 ≤ x * x ∧ x * x ≤ 1000000000000000000 := by
  have h3 := (mul_bd x x 1000000000 1000000000 (by omega) h2 (by omega) h2).2
  have h4 : 0 ≤ (x - 100000000) * (x - 100000000) := Int.mul_nonneg (by omega) (by omega)
  have h5 : (x - 100000000) * (x - 100000000) = x * x - 200000000 * x + 10000000000000000 := by
    rw [Int.sub_mul, Int.mul_sub, Int.mul_sub]; omega
  omega
theorem stepL_bd {p : Int × Int} {B : Int} (h1 : 100000000 ≤ p.1) (h2 : p.1 < 1000000000) (h3 : 0 ≤ p.2) (h4 : p.2 + 1 ≤ B) : (100000000 ≤ (stepL p).1 ∧ (stepL p).1 < 1000000000) ∧ 0 ≤ (stepL p).2 ∧ (stepL p).2 + 1 ≤ 2 * B := by
  obtain ⟨q1, q2⟩ := sq_bd h1 (by omega)
  obtain ⟨r1, r2⟩ := fl_spec (p.1 * p.1) 100000000 (by decide)
  have q3 : p.1 * p.1 < 1000000000000000000 := by
    have := (mul_bd p.1 p.1 999999999 999999999 (by omega) (by omega) (by omega) (by omega)).2
    omega
  unfold stepL
  split
  · rename_i hc
    obtain ⟨s1, s2⟩ := fl_spec (fl (p.1 * p.1) 100000000) 10 (by decide)
    exact ⟨⟨by dsimp only; omega, by dsimp only; omega⟩, by dsimp only; omega, by dsimp only; omega⟩
  · exact ⟨⟨by dsimp only; omega, by dsimp only; omega⟩, by dsimp only; omega, by dsimp only; omega⟩
theorem stepH_bd {p : Int × Int} {B : Int} (h1 : 100000000 ≤ p.1) (h2 : p.1 ≤ 1000000000) (h3 : 0 ≤ p.2) (h4 : p.2 + 1 ≤ B) : (100000000 ≤ (stepH p).1 ∧ (stepH p).1 ≤ 1000000000) ∧ 0 ≤ (stepH p).2 ∧ (stepH p).2 + 1 ≤ 2 * B := by
  obtain ⟨q1, q2⟩ := sq_bd h1 h2
  obtain ⟨r1, r2⟩ := fl_spec (-(p.1 * p.1)) 100000000 (by decide)
  unfold stepH cl
  split
  · rename_i hc
    obtain ⟨s1, s2⟩ := fl_spec (- -fl (-(p.1 * p.1)) 100000000) 10 (by decide)
    exact ⟨⟨by dsimp only; omega, by dsimp only; omega⟩, by dsimp only; omega, by dsimp only; omega⟩
  · exact ⟨⟨by dsimp only; omega, by dsimp only; omega⟩, by dsimp only; omega, by dsimp only; omega⟩
theorem itL_bd {x : Int} (h1 : 100000000 ≤ x) (h2 : x < 1000000000) (k : Nat) : (100000000 ≤ (itL x k).1 ∧ (itL x k).1 < 1000000000) ∧ 0 ≤ (itL x k).2 ∧ (itL x k).2 + 1 ≤ b2 k := by
  induction k with
  | zero => exact ⟨⟨h1, h2⟩, Int.le_refl 0, by simp [itL, b2]⟩
  | succ k ih => exact stepL_bd ih.1.1 ih.1.2 ih.2.1 ih.2.2
theorem itH_bd {x : Int} (h1 : 100000000 ≤ x) (h2 : x < 1000000000) (k : Nat) : (100000000 ≤ (itH x k).1 ∧ (itH x k).1 ≤ 1000000000) ∧ 0 ≤ (itH x k).2 ∧ (itH x k).2 + 1 ≤ b2 k := by
  induction k with
  | zero => exact ⟨⟨h1, by simp only [itH]; omega⟩, Int.le_refl 0, by simp [itH, b2]⟩
  | succ k ih => exact stepH_bd ih.1.1 ih.1.2 ih.2.1 ih.2.2
def logN (n : Nat) (x : Int) : Int × Int := ((itL x n).2, (itH x n).2 + 1)
theorem logN_bd {n : Nat} {x : Int} (hn : b2 n ≤ 1048576) (h1 : 100000000 ≤ x) (h2 : x < 1000000000) : (0 ≤ (logN n x).1 ∧ (logN n x).1 ≤ 1048576) ∧ 0 ≤ (logN n x).2 ∧ (logN n x).2 ≤ 1048577 := by
  have a := (itL_bd h1 h2 n).2
  have b := (itH_bd h1 h2 n).2
  unfold logN
  exact ⟨⟨a.1, by dsimp only; omega⟩, by dsimp only; omega, by dsimp only; omega⟩
def logOf (x : Int) : Int × Int := logN 20 x
theorem logOf_bd {x : Int} (h1 : 100000000 ≤ x) (h2 : x < 1000000000) : (0 ≤ (logOf x).1 ∧ (logOf x).1 ≤ 1048576) ∧ 0 ≤ (logOf x).2 ∧ (logOf x).2 ≤ 1048577 := logN_bd (n := 20) (by rw [b2_20]; exact Int.le_refl _) h1 h2
def figLog (f : Int × Int) : Int × Int := ((logOf (f.1 * 100000)).1 + f.2 * 1048576, (logOf (f.1 * 100000)).2 + f.2 * 1048576)
theorem figLog_bd {f : Int × Int} (h : isFig f.1 f.2 = true) : (-40000000 ≤ (figLog f).1 ∧ (figLog f).1 ≤ 40000000) ∧ -40000000 ≤ (figLog f).2 ∧ (figLog f).2 ≤ 40000000 := by
  simp only [isFig, Bool.and_eq_true, decide_eq_true_eq] at h
  obtain ⟨⟨a, b⟩, c, d⟩ := logOf_bd (x := f.1 * 100000) (by omega) (by omega)
  unfold figLog
  exact ⟨⟨by dsimp only; omega, by dsimp only; omega⟩, by dsimp only; omega, by dsimp only; omega⟩
def scale1 (a : Int × Int) (n : Int) : Int × Int := (min (a.1 * n) (a.2 * n), max (a.1 * n) (a.2 * n))
def sumI (a b : Int × Int) : Int × Int := (a.1 + b.1, a.2 + b.2)
def logK (f : Int × Int) (vs : List (Int × Int)) (ps : List Int) : Nat → Int × Int
  | 0 => figLog f
  | k + 1 => sumI (logK f vs ps k) (scale1 (figLog (vs.getD k (0, 0))) (ps.getD k 0))
theorem scale1_bd {a : Int × Int} {n : Int} (h1 : -40000000 ≤ a.1 ∧ a.1 ≤ 40000000) (h2 : -40000000 ≤ a.2 ∧ a.2 ≤ 40000000) (hn : -6 ≤ n ∧ n ≤ 6) : (-240000000 ≤ (scale1 a n).1 ∧ (scale1 a n).1 ≤ 240000000) ∧ -240000000 ≤ (scale1 a n).2 ∧ (scale1 a n).2 ≤ 240000000 := by
  obtain ⟨x1, x2⟩ := mul_bd a.1 n 40000000 6 h1.1 h1.2 hn.1 hn.2
  obtain ⟨y1, y2⟩ := mul_bd a.2 n 40000000 6 h2.1 h2.2 hn.1 hn.2
  unfold scale1
  exact ⟨⟨by dsimp only; omega, by dsimp only; omega⟩, by dsimp only; omega, by dsimp only; omega⟩
theorem logK_bd {f : Int × Int} {vs : List (Int × Int)} {ps : List Int} (hf : isFig f.1 f.2 = true) (hv : ∀ i, i < vs.length → isFig (vs.getD i (0, 0)).1 (vs.getD i (0, 0)).2 = true) (hp : ∀ i, i < vs.length → -6 ≤ ps.getD i 0 ∧ ps.getD i 0 ≤ 6) (k : Nat) (hk : k ≤ vs.length) :
    (-(40000000 + 240000000 * (k : Int)) ≤ (logK f vs ps k).1 ∧ (logK f vs ps k).1 ≤ 40000000 + 240000000 * (k : Int)) ∧ -(40000000 + 240000000 * (k : Int)) ≤ (logK f vs ps k).2 ∧ (logK f vs ps k).2 ≤ 40000000 + 240000000 * (k : Int) := by
  induction k with
  | zero => obtain ⟨a, b⟩ := figLog_bd hf; exact ⟨⟨by simp only [logK]; omega, by simp only [logK]; omega⟩, by simp only [logK]; omega, by simp only [logK]; omega⟩
  | succ k ih =>
    obtain ⟨a, b⟩ := ih (by omega)
    obtain ⟨c, d⟩ := figLog_bd (hv k (by omega))
    obtain ⟨e, g⟩ := scale1_bd c d (hp k (by omega))
    simp only [logK, sumI]
    exact ⟨⟨by omega, by omega⟩, by omega, by omega⟩
theorem areFigs_at {vs : List (Int × Int)} (h : areFigs vs = true) : ∀ i, i < vs.length → isFig (vs.getD i (0, 0)).1 (vs.getD i (0, 0)).2 = true := by
  intro i hi
  unfold areFigs at h
  rw [List.all_eq_true] at h
  have := h vs[i] (List.getElem_mem hi)
  simpa [List.getD_eq_getElem?_getD, hi] using this
def isValued (F : Fm) (vs : List (Int × Int)) : Bool := isFormula F && decide (vs.length = F.nm.size) && areFigs vs
def FormulaLog (F : Fm) (vs : List (Int × Int)) : (Int × Int) × Int := if isValued F vs then (logK (F.dg, F.tn) vs F.pw vs.length, 0) else ((0, 0), 1)
end Go.Z
namespace Go.K
open Go.RowKit
def FgR : Rec (Int × Int) := ⟨2, fun f j => match j with | 0 => .int .i64 f.1 | _ => .int .i64 f.2⟩
theorem figs_of_recs {fr : Bool} {w : World} {lo hi : Nat} {v : Value} {fs : List (Int × Int)} (h : recs fr FgR w lo hi v fs) : figs w lo hi v fs := by
  obtain ⟨o, cap, rfl, hh⟩ := h
  refine ⟨o, cap, rfl, fun hn => ?_⟩
  obtain ⟨b, off, rfl, h1, h2, h3, _⟩ := hh hn
  refine ⟨b, off, rfl, h1, h2, fun i hi => ?_⟩
  have e : fs.getD i (0, 0) = fs[i] := by simp [List.getD_eq_getElem?_getD, hi]
  rw [e]
  exact ⟨h3 i hi 0 (by decide), h3 i hi 1 (by decide)⟩
end Go.K
