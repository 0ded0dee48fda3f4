/-
  PLAIN MATHEMATICS, no program in sight: the whole numbers' floor and ceiling, a nearest quotient, points.
-/
import Derived.Below
set_option linter.unusedVariables false
namespace Go.Z
open Go.RowKit

theorem hide {p : Prop} (h : p) : Hid p := h

/-! ### Quotients -/
def fl (a b : Int) : Int := a.fdiv b
def cl (a b : Int) : Int := -(fl (-a) b)
/-- the nearest integer to a / b for b greater than 0 -/
def nr (a b : Int) : Int := fl (2 * a + b) (2 * b)
/-- the same for every b other than 0 -/
def nearAny (a b : Int) : Int := if b < 0 then nr (-a) (-b) else nr a b

theorem tdiv_bd (a b M : Int) (h1 : -M ≤ a) (h2 : a ≤ M) : -M ≤ a.tdiv b ∧ a.tdiv b ≤ M := by
  have h : (a.tdiv b).natAbs ≤ a.natAbs := by rw [Int.natAbs_tdiv]; exact Nat.div_le_self _ _
  omega

theorem fl_dvd (a b : Int) (hb : b ≠ 0) (h : a.tmod b = 0) : fl a b = a.tdiv b := by
  have hd : b ∣ a := Int.dvd_of_tmod_eq_zero h
  unfold fl; rw [Int.fdiv_eq_tdiv, if_pos hd]; omega

theorem fl_neg (a b : Int) (hb : b ≠ 0) (h : a.tmod b ≠ 0) (hs : (a < 0) ≠ (b < 0)) : fl a b = a.tdiv b - 1 := by
  have hd : ¬ b ∣ a := fun h' => h (Int.tmod_eq_zero_of_dvd h')
  unfold fl; rw [Int.fdiv_eq_tdiv, if_neg hd]
  by_cases ha : 0 ≤ a
  · rw [if_pos ha]
    have hb' : ¬ 0 ≤ b := by
      intro hb'; apply hs; simp only [eq_iff_iff]; omega
    rw [if_neg hb']
  · rw [if_neg ha]
    have hb' : 0 ≤ b := by
      have : a < 0 := by omega
      simp only [this, ne_eq, eq_iff_iff, true_iff, Int.not_lt] at hs
      exact hs
    rw [if_pos hb', Int.sign_eq_one_of_pos (by omega)]

theorem fl_pos (a b : Int) (hb : b ≠ 0) (hs : (a < 0) = (b < 0)) : fl a b = a.tdiv b := by
  by_cases h : a.tmod b = 0
  · exact fl_dvd a b hb h
  have hd : ¬ b ∣ a := fun h' => h (Int.tmod_eq_zero_of_dvd h')
  unfold fl; rw [Int.fdiv_eq_tdiv, if_neg hd]
  simp only [eq_iff_iff] at hs
  by_cases ha : 0 ≤ a
  · rw [if_pos ha, if_pos (by omega)]; omega
  · rw [if_neg ha, if_neg (by omega), Int.sign_eq_neg_one_of_neg (by omega)]; omega

theorem fl_neg_neg (a b : Int) : fl (-a) (-b) = fl a b := Int.neg_fdiv_neg a b

theorem fl_bd (a b M : Int) (hb : b ≠ 0) (h1 : -M ≤ a) (h2 : a ≤ M) : -M - 1 ≤ fl a b ∧ fl a b ≤ M + 1 := by
  have h := tdiv_bd a b M h1 h2
  by_cases h0 : a.tmod b = 0
  · rw [fl_dvd a b hb h0]; omega
  · by_cases hs : (a < 0) = (b < 0)
    · rw [fl_pos a b hb hs]; omega
    · rw [fl_neg a b hb h0 hs]; omega

/-- fl with b greater than 0: the two inequalities. -/
theorem fl_spec (a b : Int) (hb : 0 < b) : b * fl a b ≤ a ∧ a < b * fl a b + b := by
  unfold fl; rw [Int.fdiv_eq_ediv_of_nonneg _ (by omega)]
  have h1 := Int.mul_ediv_add_emod a b
  have h2 := Int.emod_nonneg a (b := b) (by omega)
  have h3 := Int.emod_lt_of_pos a hb
  omega

theorem fl_unique (a b q : Int) (hb : 0 < b) (h1 : b * q ≤ a) (h2 : a < b * q + b) : fl a b = q := by
  have ⟨h3, h4⟩ := fl_spec a b hb
  have h5 : ¬ fl a b < q := fun h => by
    have : b * fl a b ≤ b * (q - 1) := Int.mul_le_mul_of_nonneg_left (by omega) (by omega)
    rw [Int.mul_sub] at this; omega
  have h6 : ¬ q < fl a b := fun h => by
    have : b * q ≤ b * (fl a b - 1) := Int.mul_le_mul_of_nonneg_left (by omega) (by omega)
    rw [Int.mul_sub] at this; omega
  omega

theorem fl_nonneg_tdiv (a b : Int) (ha : 0 ≤ a) (hb : 0 < b) : fl a b = a.tdiv b := by
  apply fl_pos _ _ (by omega); simp only [eq_iff_iff]; omega

theorem fl_eq_ediv (a b : Int) (hb : 0 < b) : fl a b = a / b := by
  unfold fl; rw [Int.fdiv_eq_ediv_of_nonneg _ (by omega)]

theorem tmod_np (a b : Int) (ha : a ≤ 0) : a.tmod b ≤ 0 := by
  have h := Int.tmod_nonneg (a := -a) b (by omega)
  rw [Int.neg_tmod] at h; omega
theorem tmod_pos_left (a b : Int) (h : 0 < a.tmod b) : 0 < a := by
  by_cases ha : a ≤ 0
  · have := tmod_np a b ha; omega
  · omega
theorem tmod_neg_left (a b : Int) (h : a.tmod b < 0) : a < 0 := by
  by_cases ha : 0 ≤ a
  · have := Int.tmod_nonneg b ha; omega
  · omega
theorem fl_bn_p (a b : Int) (hb : b < 0) (h : 0 < a.tmod b) : fl a b = a.tdiv b - 1 := by
  have := tmod_pos_left a b h
  exact fl_neg a b (by omega) (by omega) (by simp only [ne_eq, eq_iff_iff]; omega)
theorem fl_bn_n (a b : Int) (hb : b < 0) (h : a.tmod b ≤ 0) : fl a b = a.tdiv b := by
  by_cases h0 : a.tmod b = 0
  · exact fl_dvd a b (by omega) h0
  · have := tmod_neg_left a b (by omega)
    exact fl_pos a b (by omega) (by simp only [eq_iff_iff]; omega)
theorem fl_bp_n (a b : Int) (hb : 0 < b) (h : a.tmod b < 0) : fl a b = a.tdiv b - 1 := by
  have := tmod_neg_left a b h
  exact fl_neg a b (by omega) (by omega) (by simp only [ne_eq, eq_iff_iff]; omega)
theorem fl_bp_p (a b : Int) (hb : 0 < b) (h : 0 ≤ a.tmod b) : fl a b = a.tdiv b := by
  by_cases h0 : a.tmod b = 0
  · exact fl_dvd a b (by omega) h0
  · have := tmod_pos_left a b (by omega)
    exact fl_pos a b (by omega) (by simp only [eq_iff_iff]; omega)

def ab (a : Int) : Int := (a.natAbs : Int)
theorem ab_max (a : Int) : ab a = max a (-a) := by unfold ab; omega
theorem tmod_emod (a b : Int) (hb : 0 < b) : (a.tmod b + b) % b = a % b := by
  have h := Int.mul_tdiv_add_tmod a b
  rw [Int.add_emod_right]
  conv => rhs; rw [← h]
  rw [Int.add_comm, Int.add_mul_emod_self_left]
theorem emod_fl (a b : Int) (hb : 0 < b) : a % b = a - b * fl a b := by
  rw [fl_eq_ediv a b hb]; have := Int.mul_ediv_add_emod a b; omega

/-! ### Points -/
def place (n : Int) : Bool := decide (-100000 ≤ n) && decide (n ≤ 100000)
theorem place_iff (n : Int) : place n = true ↔ -100000 ≤ n ∧ n ≤ 100000 := by simp [place]
theorem place_not (n : Int) : place n = false ↔ n < -100000 ∨ 100000 < n := by simp [place]; omega
abbrev Pt := Int × Int
def okPt (p : Pt) : Bool := place p.1 && place p.2
def pts (l : List Pt) : Bool := l.all okPt
theorem okPt_iff (p : Pt) : okPt p = true ↔ (-100000 ≤ p.1 ∧ p.1 ≤ 100000) ∧ (-100000 ≤ p.2 ∧ p.2 ≤ 100000) := by simp [okPt, place]
theorem pts_take_succ (l : List Pt) (k : Nat) (h : k < l.length) : pts (l.take (k + 1)) = (pts (l.take k) && okPt (l.getD k (0, 0))) := by
  rw [List.take_succ_eq_append_getElem h, pts, List.all_append]; simp [pts, List.getD, h]
theorem pts_bad (l : List Pt) (k : Nat) (h : k < l.length) (hb : okPt (l.getD k (0, 0)) = false) : pts l = false := by
  have hm : l.getD k (0, 0) ∈ l := by simp [List.getD, h]
  rw [pts, List.all_eq_false]
  exact ⟨_, hm, by rw [hb]; simp⟩

theorem mul_bd (a b A B : Int) (h1 : -A ≤ a) (h2 : a ≤ A) (h3 : -B ≤ b) (h4 : b ≤ B) : -(A * B) ≤ a * b ∧ a * b ≤ A * B := by
  have ha : a.natAbs ≤ A.natAbs := by omega
  have hb : b.natAbs ≤ B.natAbs := by omega
  have h := Nat.mul_le_mul ha hb
  rw [← Int.natAbs_mul, ← Int.natAbs_mul] at h
  have hA : 0 ≤ A * B := Int.mul_nonneg (by omega) (by omega)
  omega
def sq (a b : Pt) : Int := (a.1 - b.1) * (a.1 - b.1) + (a.2 - b.2) * (a.2 - b.2)
def area (a b c : Pt) : Int := (b.1 - a.1) * (c.2 - a.2) - (c.1 - a.1) * (b.2 - a.2)
def SquareBetween (a b : Pt) : Int × Int := if pts [a, b] then (sq a b, 0) else (0, 2)
def DoubleArea (a b c : Pt) : Int × Int := if pts [a, b, c] then (area a b c, 0) else (0, 2)
def AreInLine (a b c : Pt) : Bool × Int := if pts [a, b, c] then (area a b c == 0, 0) else (false, 2)
def mid (a b : Pt) : Pt := (fl (a.1 + b.1) 2, fl (a.2 + b.2) 2)
def MiddlePoint (a b : Pt) : Pt × Int := if pts [a, b] then (mid a b, 0) else ((0, 0), 2)
theorem pts2 (a b : Pt) : pts [a, b] = (okPt a && okPt b) := by simp [pts]
theorem pts3 (a b c : Pt) : pts [a, b, c] = (okPt a && (okPt b && okPt c)) := by simp [pts]
theorem pts4 (a b c d : Pt) : pts [a, b, c, d] = (okPt a && (okPt b && (okPt c && okPt d))) := by simp [pts]

theorem area_bd (a b c : Pt) (ha : okPt a = true) (hb : okPt b = true) (hc : okPt c = true) : -80000000000 ≤ area a b c ∧ area a b c ≤ 80000000000 := by
  obtain ⟨⟨a1, a2⟩, a3, a4⟩ := (okPt_iff a).1 ha
  obtain ⟨⟨b1, b2⟩, b3, b4⟩ := (okPt_iff b).1 hb
  obtain ⟨⟨c1, c2⟩, c3, c4⟩ := (okPt_iff c).1 hc
  obtain ⟨m1, m2⟩ := mul_bd (b.1 - a.1) (c.2 - a.2) 200000 200000 (by omega) (by omega) (by omega) (by omega)
  obtain ⟨m3, m4⟩ := mul_bd (c.1 - a.1) (b.2 - a.2) 200000 200000 (by omega) (by omega) (by omega) (by omega)
  unfold area; omega
def HeightAt (a b : Pt) (x : Int) : Int × Int × Int :=
  if !pts [a, b] || !place x then (0, 0, 2) else if a.1 = b.1 then (0, 0, 5)
  else (a.2 + fl ((b.2 - a.2) * (x - a.1)) (b.1 - a.1), a.2 + cl ((b.2 - a.2) * (x - a.1)) (b.1 - a.1), 0)
def dev (p a b : Pt) : Int := cl (ab (area a b p)) (ab (b.1 - a.1))
def DeviationOf (p a b : Pt) : Int × Int := if !pts [p, a, b] then (0, 2) else if a.1 = b.1 then (0, 5) else (dev p a b, 0)
theorem pts2_iff (a b : Pt) : pts [a, b] = true ↔ okPt a = true ∧ okPt b = true := by rw [pts2]; simp
theorem pts3_iff (a b c : Pt) : pts [a, b, c] = true ↔ okPt a = true ∧ okPt b = true ∧ okPt c = true := by rw [pts3]; simp
theorem pts4_iff (a b c d : Pt) : pts [a, b, c, d] = true ↔ okPt a = true ∧ okPt b = true ∧ okPt c = true ∧ okPt d = true := by rw [pts4]; simp
theorem cl_bd (a b M : Int) (hb : b ≠ 0) (h1 : -M ≤ a) (h2 : a ≤ M) : -M - 1 ≤ cl a b ∧ cl a b ≤ M + 1 := by
  have := fl_bd (-a) b M hb (by omega) (by omega)
  unfold cl; omega
theorem ab_nonneg (a : Int) : 0 ≤ ab a := by unfold ab; omega
theorem ab_le (a M : Int) (h1 : -M ≤ a) (h2 : a ≤ M) : ab a ≤ M := by unfold ab; omega
theorem ab_pos (a : Int) (h : a ≠ 0) : 0 < ab a := by unfold ab; omega
theorem ab_of_nonneg {a : Int} (h : 0 ≤ a) : ab a = a := by unfold ab; omega
theorem ab_of_neg {a : Int} (h : a < 0) : ab a = -a := by unfold ab; omega
theorem ab_neg (a : Int) : ab (-a) = ab a := by unfold ab; omega
end Go.Z
