/-
  PLAIN LAWS of points: areas, deviations, heights, crossings, the nearest point.
-/
import Derived.Test.YtgepjmfjeidbaaaZCross
import Derived.Test.YtgepjmfjeidbaaaNear
set_option linter.unusedVariables false
namespace Go.Z
theorem area_cyc (a b c : Pt) : area b c a = area a b c := by unfold area; grind
theorem area_anti (a b c : Pt) : area b a c = -area a b c := by unfold area; grind
theorem cl_spec (a b : Int) (hb : 0 < b) : a ≤ b * cl a b ∧ b * cl a b < a + b := by
  have h := fl_spec (-a) b hb
  unfold cl
  rw [Int.mul_neg]; omega
theorem cl_fl_pos (a b : Int) (hb : 0 < b) : fl a b ≤ cl a b ∧ cl a b ≤ fl a b + 1 := by
  have h := fl_spec a b hb
  have g := cl_spec a b hb
  have h1 : fl a b ≤ cl a b := Int.le_of_mul_le_mul_left (Int.le_trans h.1 g.1) hb
  have h2 : cl a b < fl a b + 2 := Int.lt_of_mul_lt_mul_left (a := b) (by rw [Int.mul_add]; omega) (Int.le_of_lt hb)
  omega
theorem cl_neg_neg (a b : Int) : cl (-a) (-b) = cl a b := by unfold cl; rw [fl_neg_neg]
theorem cl_fl (a b : Int) (hb : b ≠ 0) : fl a b ≤ cl a b ∧ cl a b ≤ fl a b + 1 := by
  by_cases h : 0 < b
  · exact cl_fl_pos a b h
  · have := cl_fl_pos (-a) (-b) (by omega)
    rwa [cl_neg_neg, fl_neg_neg] at this
theorem dev_nonneg (p a b : Pt) (h : b.1 - a.1 ≠ 0) : 0 ≤ dev p a b := by
  have hd := ab_pos _ h
  have g := cl_spec (ab (area a b p)) _ hd
  have n := ab_nonneg (area a b p)
  unfold dev
  exact Int.le_of_mul_le_mul_left (a := ab (b.1 - a.1)) (by rw [Int.mul_zero]; omega) hd
theorem dev_zero (p a b : Pt) (h : b.1 - a.1 ≠ 0) : dev p a b = 0 ↔ area p a b = 0 := by
  have hd := ab_pos _ h
  have g := cl_spec (ab (area a b p)) _ hd
  have n := ab_nonneg (area a b p)
  have e : area p a b = area a b p := (area_cyc p a b).symm
  have q := dev_nonneg p a b h
  rw [e]
  unfold dev at *
  generalize ab (b.1 - a.1) = d at *
  constructor
  · intro hz
    rw [hz] at g
    have : ab (area a b p) = 0 := by omega
    unfold ab at this; omega
  · intro hz
    have h0 : ab (area a b p) = 0 := by unfold ab; omega
    rw [h0] at g q ⊢
    have : cl 0 d < 1 := Int.lt_of_mul_lt_mul_left (a := d) (by omega) (Int.le_of_lt hd)
    omega
theorem HeightAt_le (a b : Pt) (x : Int) (h : (HeightAt a b x).2.2 = 0) : (HeightAt a b x).1 ≤ (HeightAt a b x).2.1 ∧ (HeightAt a b x).2.1 ≤ (HeightAt a b x).1 + 1 := by
  unfold HeightAt at *
  split
  · decide
  · rename_i h1
    rw [if_neg h1] at h
    split
    · decide
    · rename_i h2
      have := cl_fl ((b.2 - a.2) * (x - a.1)) (b.1 - a.1) (by omega)
      dsimp only; omega
theorem Deviation_ok (p a b : Pt) (h : (DeviationOf p a b).2 = 0) : pts [p, a, b] = true ∧ b.1 - a.1 ≠ 0 ∧ DeviationOf p a b = (dev p a b, 0) := by
  unfold DeviationOf at *
  cases hp : pts [p, a, b]
  · rw [hp] at h; simp at h
  · rw [hp] at h
    by_cases h1 : a.1 = b.1
    · simp [h1] at h
    · exact ⟨rfl, by omega, by simp [h1]⟩
theorem Deviation_of {p a b : Pt} (h : pts [p, a, b] = true) (hn : a.1 ≠ b.1) : DeviationOf p a b = (dev p a b, 0) := by
  unfold DeviationOf; simp [h, hn]
theorem AreInLine_of {a b c : Pt} (h : pts [a, b, c] = true) : AreInLine a b c = (area a b c == 0, 0) := by unfold AreInLine; rw [if_pos h]
theorem Area_of {a b c : Pt} (h : pts [a, b, c] = true) : DoubleArea a b c = (area a b c, 0) := by unfold DoubleArea; rw [if_pos h]
theorem Area_ok {a b c : Pt} (h : (DoubleArea a b c).2 = 0) : pts [a, b, c] = true := by
  unfold DoubleArea at h
  cases hp : pts [a, b, c]
  · rw [hp] at h; simp at h
  · rfl
theorem pts_turn {a b c : Pt} (h : pts [a, b, c] = true) : pts [b, c, a] = true ∧ pts [b, a, c] = true := by
  rw [pts3_iff] at *
  rw [pts3_iff]
  exact ⟨⟨h.2.1, h.2.2, h.1⟩, h.2.1, h.1, h.2.2⟩
theorem Square_ok {a b : Pt} (h : (SquareBetween a b).2 = 0) : pts [a, b] = true := by
  unfold SquareBetween at h
  cases hp : pts [a, b]
  · rw [hp] at h; simp at h
  · rfl
theorem Square_of {a b : Pt} (h : pts [a, b] = true) : SquareBetween a b = (sq a b, 0) := by unfold SquareBetween; rw [if_pos h]
theorem sq_comm (a b : Pt) : sq b a = sq a b := by unfold sq; grind
theorem sq_self (x : Int) : 0 ≤ x * x := by
  by_cases h : 0 ≤ x
  · exact Int.mul_nonneg h h
  · have := Int.mul_nonneg (show 0 ≤ -x by omega) (show 0 ≤ -x by omega)
    rwa [Int.neg_mul_neg] at this
theorem sq_zero (a b : Pt) : sq a b = 0 ↔ a.1 = b.1 ∧ a.2 = b.2 := by
  unfold sq
  have h1 := sq_self (a.1 - b.1)
  have h2 := sq_self (a.2 - b.2)
  constructor
  · intro h
    have e1 : (a.1 - b.1) * (a.1 - b.1) = 0 := by omega
    have e2 : (a.2 - b.2) * (a.2 - b.2) = 0 := by omega
    have e1 := Int.mul_eq_zero.1 e1
    have e2 := Int.mul_eq_zero.1 e2
    omega
  · rintro ⟨h, h'⟩
    rw [h, h', Int.sub_self, Int.sub_self]; rfl
theorem near_err (n m : Int) (hm : m ≠ 0) : (2 * (nearAny n m * m - n)).natAbs ≤ m.natAbs := by
  unfold nearAny nr
  split
  · rename_i h
    have g := fl_spec (2 * -n + -m) (2 * -m) (by omega)
    generalize fl (2 * -n + -m) (2 * -m) = x at *
    have e : 2 * -m * x = -(2 * (x * m)) := by grind
    omega
  · rename_i h
    have g := fl_spec (2 * n + m) (2 * m) (by omega)
    generalize fl (2 * n + m) (2 * m) = x at *
    have e : 2 * m * x = 2 * (x * m) := by grind
    omega
theorem two_err (P Q M r1 r2 e : Int) (hM : M ≠ 0) (h1 : r1.natAbs ≤ M.natAbs) (h2 : r2.natAbs ≤ M.natAbs) (he : 2 * e * M = P * r2 - Q * r1) : 2 * e.natAbs ≤ P.natAbs + Q.natAbs := by
  have h := congrArg Int.natAbs he
  rw [Int.natAbs_mul, Int.natAbs_mul] at h
  have h3 : (P * r2 - Q * r1).natAbs ≤ P.natAbs * M.natAbs + Q.natAbs * M.natAbs := by
    refine Nat.le_trans (Int.natAbs_sub_le _ _) ?_
    rw [Int.natAbs_mul, Int.natAbs_mul]
    exact Nat.add_le_add (Nat.mul_le_mul_left _ h2) (Nat.mul_le_mul_left _ h1)
  rw [← h, ← Nat.add_mul] at h3
  exact Nat.le_of_mul_le_mul_right h3 (by omega)
theorem cross_err1 (a b c d : Pt) (hM : crossM a b c d ≠ 0) : 2 * (area a b (crossP a b c d)).natAbs ≤ (b.1 - a.1).natAbs + (b.2 - a.2).natAbs := by
  have n1 := near_err ((b.1 - a.1) * crossN a b c d) (crossM a b c d) hM
  have n2 := near_err ((b.2 - a.2) * crossN a b c d) (crossM a b c d) hM
  refine two_err _ _ _ _ _ _ hM n1 n2 ?_
  unfold area crossP
  dsimp only
  generalize nearAny ((b.1 - a.1) * crossN a b c d) (crossM a b c d) = x at *
  generalize nearAny ((b.2 - a.2) * crossN a b c d) (crossM a b c d) = y at *
  generalize crossM a b c d = M at *
  generalize crossN a b c d = N at *
  generalize b.1 - a.1 = P at *
  generalize b.2 - a.2 = Q at *
  rw [show a.2 + y - a.2 = y by omega, show a.1 + x - a.1 = x by omega]
  grind
theorem cross_err2 (a b c d : Pt) (hM : crossM a b c d ≠ 0) : 2 * (area c d (crossP a b c d)).natAbs ≤ (d.1 - c.1).natAbs + (d.2 - c.2).natAbs := by
  have n1 := near_err ((b.1 - a.1) * crossN a b c d) (crossM a b c d) hM
  have n2 := near_err ((b.2 - a.2) * crossN a b c d) (crossM a b c d) hM
  refine two_err _ _ _ _ _ _ hM n1 n2 ?_
  have eM : crossM a b c d = (b.1 - a.1) * (d.2 - c.2) - (b.2 - a.2) * (d.1 - c.1) := rfl
  have eN : crossN a b c d = (c.1 - a.1) * (d.2 - c.2) - (c.2 - a.2) * (d.1 - c.1) := rfl
  unfold area crossP
  dsimp only
  generalize nearAny ((b.1 - a.1) * crossN a b c d) (crossM a b c d) = x at *
  generalize nearAny ((b.2 - a.2) * crossN a b c d) (crossM a b c d) = y at *
  generalize crossM a b c d = M at *
  generalize crossN a b c d = N at *
  grind
theorem Crossing_ok (a b c d : Pt) (h : (CrossingOf a b c d).2 = 0) : (okPt a = true ∧ okPt b = true ∧ okPt c = true ∧ okPt d = true) ∧ okPt (CrossingOf a b c d).1 = true ∧ 2 * (area a b (CrossingOf a b c d).1).natAbs ≤ (b.1 - a.1).natAbs + (b.2 - a.2).natAbs ∧ 2 * (area c d (CrossingOf a b c d).1).natAbs ≤ (d.1 - c.1).natAbs + (d.2 - c.2).natAbs := by
  cases hp : pts [a, b, c, d]
  · exfalso; unfold CrossingOf at h; rw [hp] at h; simp at h
  · by_cases h1 : crossM a b c d = 0
    · exfalso; unfold CrossingOf at h; rw [hp] at h; simp [h1] at h
    · cases h2 : okPt (crossP a b c d)
      · exfalso; unfold CrossingOf at h; rw [hp] at h; simp [h1, h2] at h
      · have e : CrossingOf a b c d = (crossP a b c d, 0) := by unfold CrossingOf; simp [hp, h1, h2]
        rw [e]
        exact ⟨(pts4_iff a b c d).1 hp, h2, cross_err1 a b c d h1, cross_err2 a b c d h1⟩
theorem Nearest_ok (a b : Pt) (ps : List Pt) (h : (NearestInLine a b ps).2 = 0) : okPt a = true ∧ okPt b = true ∧ pts ps = true ∧ a.1 ≠ b.1 ∧ 0 < ps.length ∧ nearK a b ps ps.length < ps.length ∧ NearestInLine a b ps = (((nearK a b ps ps.length : Nat) : Int), 0) := by
  unfold NearestInLine at *
  by_cases h1 : (pts [a, b] && pts ps) = false
  · exfalso; simp [h1] at h
  · by_cases h2 : a.1 = b.1
    · exfalso; simp [h1, h2] at h
    · by_cases h3 : 100 < ps.length
      · exfalso; simp [h1, h2, h3] at h
      · by_cases h4 : ps.length = 0
        · exfalso; rw [if_neg h1, if_neg h2, if_neg h3, if_pos h4] at h; simp at h
        · rw [if_neg h1, if_neg h2, if_neg h3, if_neg h4]
          have h5 : (pts [a, b] && pts ps) = true := by simpa using h1
          rw [Bool.and_eq_true] at h5
          have h6 := (pts2_iff a b).1 h5.1
          exact ⟨h6.1, h6.2, h5.2, h2, by omega, nearK_lt a b ps ps.length (by omega), rfl⟩
theorem areas_law (a b c : Pt) (h : (DoubleArea a b c).2 = 0) :
    (DoubleArea b c a).2 = 0 ∧ (DoubleArea b a c).2 = 0 ∧ ((DoubleArea b c a).1 = (DoubleArea a b c).1 ∧ (DoubleArea b a c).1 = -(DoubleArea a b c).1) ∧ (-80000000000 ≤ (DoubleArea a b c).1 ∧ (DoubleArea a b c).1 ≤ 80000000000) ∧
      ((DoubleArea a b c).1 = 0 → (AreInLine a b c).1 = true) ∧ ((DoubleArea a b c).1 ≠ 0 → (AreInLine a b c).1 = false) := by
  have hp := Area_ok h
  obtain ⟨h1, h2⟩ := pts_turn hp
  rw [Area_of hp, Area_of h1, Area_of h2, AreInLine_of hp]
  obtain ⟨pa, pb, pc⟩ := (pts3_iff a b c).1 hp
  exact ⟨rfl, rfl, ⟨area_cyc a b c, area_anti a b c⟩, area_bd a b c pa pb pc, fun h => by simpa using h, fun h => by simpa using h⟩
theorem dev_law (p x y : Pt) (h : (DeviationOf p x y).2 = 0) :
    (AreInLine p x y).2 = 0 ∧ ¬ (DeviationOf p x y).1 < 0 ∧ ((DeviationOf p x y).1 = 0 → (AreInLine p x y).1 = true) ∧ ((DeviationOf p x y).1 ≠ 0 → (AreInLine p x y).1 = false) := by
  obtain ⟨h1, h2, h3⟩ := Deviation_ok p x y h
  rw [h3, AreInLine_of h1]
  have hz := dev_zero p x y h2
  have hn := dev_nonneg p x y h2
  refine ⟨rfl, by dsimp only; omega, fun h => ?_, fun h => ?_⟩
  · have := hz.1 h; simpa using this
  · have : ¬ area p x y = 0 := fun h' => h (hz.2 h')
    simpa using this
theorem height_law (a b : Pt) (x : Int) (h : (HeightAt a b x).2.2 = 0) :
    ¬ (HeightAt a b x).2.1 < (HeightAt a b x).1 ∧ ¬ (HeightAt a b x).1 + 1 < (HeightAt a b x).2.1 ∧ -100000000000 ≤ (HeightAt a b x).1 ∧ (HeightAt a b x).1 ≤ 100000000000 := by
  have h1 := HeightAt_le a b x h
  refine ⟨by omega, by omega, ?_⟩
  unfold HeightAt at h ⊢
  split
  · decide
  · rename_i h2
    rw [if_neg h2] at h
    split
    · decide
    · rename_i h3
      have h4 : pts [a, b] = true ∧ place x = true := by
        simp at h2; exact h2
      obtain ⟨pa, pb⟩ := (pts2_iff a b).1 h4.1
      obtain ⟨⟨a1, a2⟩, a3, a4⟩ := (okPt_iff a).1 pa
      obtain ⟨⟨b1, b2⟩, b3, b4⟩ := (okPt_iff b).1 pb
      obtain ⟨x1, x2⟩ := (place_iff x).1 h4.2
      obtain ⟨m1, m2⟩ := mul_bd (b.2 - a.2) (x - a.1) 200000 200000 (by omega) (by omega) (by omega) (by omega)
      have := fl_bd ((b.2 - a.2) * (x - a.1)) (b.1 - a.1) 40000000000 (by omega) (by omega) (by omega)
      dsimp only; omega
theorem crossings_law (a b c d : Pt) (h : (CrossingOf a b c d).2 = 0) :
    DoubleArea a b (CrossingOf a b c d).1 = (area a b (CrossingOf a b c d).1, 0) ∧ DoubleArea c d (CrossingOf a b c d).1 = (area c d (CrossingOf a b c d).1, 0) ∧
      2 * (area a b (CrossingOf a b c d).1).natAbs ≤ (b.1 - a.1).natAbs + (b.2 - a.2).natAbs ∧ 2 * (area c d (CrossingOf a b c d).1).natAbs ≤ (d.1 - c.1).natAbs + (d.2 - c.2).natAbs ∧
      ((-100000 ≤ a.1 ∧ a.1 ≤ 100000) ∧ -100000 ≤ a.2 ∧ a.2 ≤ 100000) ∧ (((-100000 ≤ b.1 ∧ b.1 ≤ 100000) ∧ -100000 ≤ b.2 ∧ b.2 ≤ 100000) ∧ ((-100000 ≤ c.1 ∧ c.1 ≤ 100000) ∧ -100000 ≤ c.2 ∧ c.2 ≤ 100000)) ∧ ((-100000 ≤ d.1 ∧ d.1 ≤ 100000) ∧ -100000 ≤ d.2 ∧ d.2 ≤ 100000) := by
  obtain ⟨⟨pa, pb, pc, pd⟩, pp, e1, e2⟩ := Crossing_ok a b c d h
  exact ⟨Area_of ((pts3_iff _ _ _).2 ⟨pa, pb, pp⟩), Area_of ((pts3_iff _ _ _).2 ⟨pc, pd, pp⟩), e1, e2, (okPt_iff a).1 pa, ⟨(okPt_iff b).1 pb, (okPt_iff c).1 pc⟩, (okPt_iff d).1 pd⟩
theorem squares_law (u t : Pt) (h : (SquareBetween u t).2 = 0) :
    (SquareBetween t u).2 = 0 ∧ (SquareBetween t u).1 = (SquareBetween u t).1 ∧ (((SquareBetween u t).1 = 0 ∧ u.1 = t.1 ∧ u.2 = t.2) ∨ ((SquareBetween u t).1 ≠ 0 ∧ u.1 ≠ t.1) ∨ ((SquareBetween u t).1 ≠ 0 ∧ u.2 ≠ t.2)) := by
  have hp := Square_ok h
  obtain ⟨pu, pt⟩ := (pts2_iff u t).1 hp
  rw [Square_of hp, Square_of ((pts2_iff t u).2 ⟨pt, pu⟩)]
  refine ⟨rfl, sq_comm u t, ?_⟩
  have hz := sq_zero u t
  by_cases h1 : u.1 = t.1
  · by_cases h2 : u.2 = t.2
    · exact .inl ⟨hz.2 ⟨h1, h2⟩, h1, h2⟩
    · exact .inr (.inr ⟨fun e => h2 (hz.1 e).2, h2⟩)
  · exact .inr (.inl ⟨fun e => h1 (hz.1 e).1, h1⟩)
theorem near_law (x y : Pt) (ps : List Pt) (h : (NearestInLine x y ps).2 = 0) :
    ∃ (j : Nat) (hj : j < ps.length), NearestInLine x y ps = ((j : Int), 0) ∧ (∀ i (hi : i < ps.length), dev (ps[j]'hj) x y ≤ dev (ps[i]'hi) x y) ∧ x.1 ≠ y.1 ∧ ∀ i (hi : i < ps.length), DeviationOf (ps[i]'hi) x y = (dev (ps[i]'hi) x y, 0) := by
  obtain ⟨px, py, pp, hn, h0, hj, he⟩ := Nearest_ok x y ps h
  refine ⟨nearK x y ps ps.length, hj, he, fun i hi => ?_, hn, fun i hi => Deviation_of ((pts3_iff _ _ _).2 ⟨pts_at ps pp i hi, px, py⟩) hn⟩
  have := nearK_le x y ps ps.length i hi
  simpa [List.getD_eq_getElem?_getD, hi, hj] using this
end Go.Z
