/-
  PLAIN MATHEMATICS: figures: a fraction rounded to four digits.
-/
import Derived.Test.YtphlppklhpaljaaZFm3
set_option linter.unusedVariables false
namespace Go.Z
def dn : Nat → Int → Int → Int → Int × Int
  | 0, _, d, t => (d, t)
  | k + 1, n, d, t => if 10000 * d ≤ n then dn k n (10 * d) (t + 1) else (d, t)
def up : Nat → Int → Int → Int → Int × Int
  | 0, n, _, t => (n, t)
  | k + 1, n, d, t => if n < 1000 * d then up k (10 * n) d (t - 1) else (n, t)
theorem dn_end {k : Nat} {n d t : Int} (h : n < 10000 * d) : dn k n d t = (d, t) := by
  cases k with
  | zero => rfl
  | succ k => simp only [dn]; rw [if_neg (by omega)]
theorem up_end {k : Nat} {n d t : Int} (h : 1000 * d ≤ n) : up k n d t = (n, t) := by
  cases k with
  | zero => rfl
  | succ k => simp only [up]; rw [if_neg (by omega)]
theorem dn_ge (k : Nat) {n d t : Int} (h : 1000 * d ≤ n) : 1000 * (dn k n d t).1 ≤ n := by
  induction k generalizing d t with
  | zero => exact h
  | succ k ih =>
    simp only [dn]
    split
    · exact ih (by omega)
    · exact h
theorem up_lt (k : Nat) {n d t : Int} (h : n < 10000 * d) : (up k n d t).1 < 10000 * d := by
  induction k generalizing n t with
  | zero => exact h
  | succ k ih =>
    simp only [up]
    split
    · exact ih (by omega)
    · exact h
def ten : Nat → Int
  | 0 => 1
  | k + 1 => 10 * ten k
theorem ten_dn (x : Int) (k : Nat) : 10000 * x * ten (k + 1) = 10000 * (10 * x) * ten k := by
  show 10000 * x * (10 * ten k) = _
  ac_rfl
theorem ten_up (n : Int) (k : Nat) : n * ten (k + 1) = 10 * n * ten k := by
  show n * (10 * ten k) = _
  ac_rfl
theorem ten_12 : ten 12 = 1000000000000 := by decide
def fin (n d t : Int) : Int × Int := if nr n d = 10000 then (1000, t + 1) else (nr n d, t)
def round (n d t : Int) : Int × Int := fin (up 12 n (dn 12 n d (t + 3)).1 (dn 12 n d (t + 3)).2).1 (dn 12 n d (t + 3)).1 (up 12 n (dn 12 n d (t + 3)).1 (dn 12 n d (t + 3)).2).2
theorem round_eq (n d t : Int) (hd : 1 ≤ d) : round n d t = fin (up 12 n d (t + 3)).1 (dn 12 (up 12 n d (t + 3)).1 d (up 12 n d (t + 3)).2).1 (dn 12 (up 12 n d (t + 3)).1 d (up 12 n d (t + 3)).2).2 := by
  unfold round
  by_cases h : 10000 * d ≤ n
  · by_cases h' : 1000 * d ≤ n
    · rw [up_end (n := n) (d := d) h', up_end (dn_ge 12 h')]
    · exact absurd h' (by omega)
  · rw [dn_end (n := n) (d := d) (by omega), dn_end (d := d) (up_lt 12 (by omega))]
/-- a figure, if it is valid -/
def figOr (f : Int × Int) : (Int × Int) × Int := if isFig f.1 f.2 then (f, 0) else ((0, 0), 3)
def MultiplyFigures (a b : Int × Int) : (Int × Int) × Int := if isFig a.1 a.2 && isFig b.1 b.2 then figOr (round (a.1 * b.1) 1 (a.2 + b.2 - 6)) else ((0, 0), 1)
def DivideFigures (a b : Int × Int) : (Int × Int) × Int := if isFig a.1 a.2 && isFig b.1 b.2 then figOr (round a.1 b.1 (a.2 - b.2)) else ((0, 0), 1)
end Go.Z
