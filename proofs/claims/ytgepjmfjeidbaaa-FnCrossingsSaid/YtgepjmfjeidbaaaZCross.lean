/-
  PLAIN MATHEMATICS: the crossing of two lines.
-/
import Derived.Test.YtgepjmfjeidbaaaBase
set_option linter.unusedVariables false
namespace Go.Z
theorem fl_add_mul (a b k : Int) (hb : b ≠ 0) : fl (a + k * b) b = fl a b + k := by
  unfold fl; exact Int.add_mul_fdiv_right a k hb
/-- The reference's way to a + d n / m, rounded: in two parts. -/
theorem scaled_eq (a d n m : Int) (hm : 0 < m) : a + d * fl n m + nr (d * (n % m)) m = a + nr (d * n) m := by
  have h := emod_fl n m hm
  generalize fl n m = q at *
  have e : 2 * (d * n) + m = 2 * (d * (n % m)) + m + d * q * (2 * m) := by
    have e1 : n = n % m + m * q := by omega
    conv => lhs; rw [e1]
    generalize n % m = r
    rw [Int.mul_add, Int.mul_add, Int.mul_left_comm 2 d (m * q), Int.mul_assoc d q (2 * m), Int.mul_left_comm q 2 m, Int.mul_comm q m]
    omega
  unfold nr
  rw [e, fl_add_mul _ _ _ (by omega)]
  omega
theorem nr_bd (a b M : Int) (hb : 0 < b) (h1 : -M ≤ a) (h2 : a ≤ M) (hbM : b ≤ M) : -(3 * M) - 1 ≤ nr a b ∧ nr a b ≤ 3 * M + 1 := by
  unfold nr
  exact fl_bd (2 * a + b) (2 * b) (3 * M) (by omega) (by omega) (by omega)
def crossM (a b c d : Pt) : Int := (b.1 - a.1) * (d.2 - c.2) - (b.2 - a.2) * (d.1 - c.1)
def crossN (a b c d : Pt) : Int := (c.1 - a.1) * (d.2 - c.2) - (c.2 - a.2) * (d.1 - c.1)
def crossP (a b c d : Pt) : Pt := (a.1 + nearAny ((b.1 - a.1) * crossN a b c d) (crossM a b c d), a.2 + nearAny ((b.2 - a.2) * crossN a b c d) (crossM a b c d))
def CrossingOf (a b c d : Pt) : Pt × Int :=
  if !pts [a, b, c, d] then ((0, 0), 2) else if crossM a b c d = 0 then ((0, 0), 5) else if !okPt (crossP a b c d) then ((0, 0), 3) else (crossP a b c d, 0)
theorem bool_hid (x : Bool) : Go.RowKit.Hid (x = false) ∨ Go.RowKit.Hid (x = true) := by cases x; exact .inl rfl; exact .inr rfl
theorem pts1 (a : Pt) : pts [a] = okPt a := by simp [pts]
theorem cross_bd (p q r s : Int) (h : -200000 ≤ p ∧ p ≤ 200000) (h2 : -200000 ≤ q ∧ q ≤ 200000) (h3 : -200000 ≤ r ∧ r ≤ 200000) (h4 : -200000 ≤ s ∧ s ≤ 200000) :
    -80000000000 ≤ p * q - r * s ∧ p * q - r * s ≤ 80000000000 := by
  have := mul_bd p q 200000 200000 h.1 h.2 h2.1 h2.2
  have := mul_bd r s 200000 200000 h3.1 h3.2 h4.1 h4.2
  omega
theorem nearAny_pos (a b : Int) (h : 0 < b) : nearAny a b = nr a b := by unfold nearAny; rw [if_neg (by omega)]
theorem nearAny_neg (d n m : Int) (h : m < 0) : nearAny (d * n) m = nr (d * -n) (-m) := by unfold nearAny; rw [if_pos h, Int.mul_neg]
theorem nearAny_bd (a b M : Int) (hb : b ≠ 0) (h1 : -M ≤ a) (h2 : a ≤ M) (hbM : b ≤ M) (hbM2 : -M ≤ b) : -(3 * M) - 1 ≤ nearAny a b ∧ nearAny a b ≤ 3 * M + 1 := by
  unfold nearAny
  split
  · exact nr_bd (-a) (-b) M (by omega) (by omega) (by omega) (by omega)
  · exact nr_bd a b M (by omega) h1 h2 hbM
end Go.Z
