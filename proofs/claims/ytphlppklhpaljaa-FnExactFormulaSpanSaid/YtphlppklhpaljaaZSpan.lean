/-
  PLAIN MATHEMATICS: figures below and above a logarithm.
-/
import Derived.Test.YtphlppklhpaljaaZLog
set_option linter.unusedVariables false
namespace Go.Z
/-- bits first, then the rest -/
def leP (p q : Int × Int) : Prop := p.2 < q.2 ∨ (p.2 = q.2 ∧ p.1 ≤ q.1)
theorem stepL_mono {p q : Int × Int} (h : leP p q) (h1 : 0 ≤ p.1) (h2 : 0 ≤ q.1) : leP (stepL p) (stepL q) := by
  obtain ⟨x, n⟩ := p
  obtain ⟨y, m⟩ := q
  unfold leP at h ⊢
  dsimp only at h h1 h2
  have eL : (stepL (x, n)).2 = n * 2 ∨ (stepL (x, n)).2 = n * 2 + 1 := by unfold stepL; split <;> simp
  have eH : (stepL (y, m)).2 = m * 2 ∨ (stepL (y, m)).2 = m * 2 + 1 := by unfold stepL; split <;> simp
  rcases h with h | ⟨h, hx⟩
  · left; omega
  · subst h
    have hm : x * x ≤ y * y := Int.mul_le_mul hx hx (by omega) (by omega)
    obtain ⟨s1, s2⟩ := fl_spec (x * x) 100000000 (by decide)
    obtain ⟨t1, t2⟩ := fl_spec (y * y) 100000000 (by decide)
    unfold stepL
    dsimp only
    generalize fl (x * x) 100000000 = X at *
    generalize fl (y * y) 100000000 = Y at *
    have hXY : X ≤ Y := by omega
    by_cases c1 : 1000000000 ≤ X
    · rw [if_pos c1, if_pos (by omega)]
      right
      refine ⟨rfl, ?_⟩
      dsimp only
      obtain ⟨u1, u2⟩ := fl_spec X 10 (by decide)
      obtain ⟨v1, v2⟩ := fl_spec Y 10 (by decide)
      omega
    · rw [if_neg c1]
      by_cases c2 : 1000000000 ≤ Y
      · rw [if_pos c2]; left; dsimp only; omega
      · rw [if_neg c2]; right; exact ⟨rfl, hXY⟩
theorem stepH_mono {p q : Int × Int} (h : leP p q) (h1 : 0 ≤ p.1) (h2 : 0 ≤ q.1) : leP (stepH p) (stepH q) := by
  obtain ⟨x, n⟩ := p
  obtain ⟨y, m⟩ := q
  unfold leP at h ⊢
  dsimp only at h h1 h2
  have eL : (stepH (x, n)).2 = n * 2 ∨ (stepH (x, n)).2 = n * 2 + 1 := by unfold stepH; split <;> simp
  have eH : (stepH (y, m)).2 = m * 2 ∨ (stepH (y, m)).2 = m * 2 + 1 := by unfold stepH; split <;> simp
  rcases h with h | ⟨h, hx⟩
  · left; omega
  · subst h
    have hm : x * x ≤ y * y := Int.mul_le_mul hx hx (by omega) (by omega)
    obtain ⟨s1, s2⟩ := fl_spec (-(x * x)) 100000000 (by decide)
    obtain ⟨t1, t2⟩ := fl_spec (-(y * y)) 100000000 (by decide)
    have hX : cl (x * x) 100000000 = -fl (-(x * x)) 100000000 := rfl
    have hY : cl (y * y) 100000000 = -fl (-(y * y)) 100000000 := rfl
    unfold stepH
    dsimp only
    rw [hX, hY]
    generalize fl (-(x * x)) 100000000 = X at *
    generalize fl (-(y * y)) 100000000 = Y at *
    have hXY : -X ≤ -Y := by omega
    by_cases c1 : 1000000000 ≤ -X
    · rw [if_pos c1, if_pos (by omega)]
      right
      refine ⟨rfl, ?_⟩
      dsimp only
      obtain ⟨u1, u2⟩ := fl_spec (-(-X)) 10 (by decide)
      obtain ⟨v1, v2⟩ := fl_spec (-(-Y)) 10 (by decide)
      have hd : cl (-X) 10 = -fl (-(-X)) 10 := rfl
      have he : cl (-Y) 10 = -fl (-(-Y)) 10 := rfl
      rw [hd, he]
      omega
    · rw [if_neg c1]
      by_cases c2 : 1000000000 ≤ -Y
      · rw [if_pos c2]; left; dsimp only; omega
      · rw [if_neg c2]; right; exact ⟨rfl, hXY⟩
theorem itL_mono {x y : Int} (h : x ≤ y) (h1 : 100000000 ≤ x) (h2 : y < 1000000000) (k : Nat) : leP (itL x k) (itL y k) := by
  induction k with
  | zero => right; exact ⟨rfl, h⟩
  | succ k ih =>
    have a := itL_bd (x := x) h1 (by omega) k
    have b := itL_bd (x := y) (by omega) h2 k
    exact stepL_mono ih (by omega) (by omega)
theorem itH_mono {x y : Int} (h : x ≤ y) (h1 : 100000000 ≤ x) (h2 : y < 1000000000) (k : Nat) : leP (itH x k) (itH y k) := by
  induction k with
  | zero => right; exact ⟨rfl, h⟩
  | succ k ih =>
    have a := itH_bd (x := x) h1 (by omega) k
    have b := itH_bd (x := y) (by omega) h2 k
    exact stepH_mono ih (by omega) (by omega)
theorem logOf_mono {x y : Int} (h : x ≤ y) (h1 : 100000000 ≤ x) (h2 : y < 1000000000) : (logOf x).1 ≤ (logOf y).1 ∧ (logOf x).2 ≤ (logOf y).2 := by
  have a := itL_mono h h1 h2 20
  have b := itH_mono h h1 h2 20
  unfold leP at a b
  unfold logOf logN
  dsimp only
  generalize itL x 20 = p at *
  generalize itL y 20 = q at *
  generalize itH x 20 = r at *
  generalize itH y 20 = s at *
  constructor <;> omega
/-- a logarithm lies within its decade -/
theorem logOf_in {x : Int} (h1 : 100000000 ≤ x) (h2 : x < 1000000000) : (0 ≤ (logOf x).1 ∧ (logOf x).1 < 1048576) ∧ 1 ≤ (logOf x).2 ∧ (logOf x).2 ≤ 1048576 := by
  have a := (itL_bd h1 h2 20).2
  have b := (itH_bd h1 h2 20).2
  rw [b2_20] at a b
  unfold logOf logN
  dsimp only
  generalize itL x 20 = p at *
  generalize itH x 20 = r at *
  exact ⟨⟨a.1, by omega⟩, by omega, by omega⟩
/-- the figure of a number: four digits for each power of ten -/
def atN (n : Int) : Int × Int := (1000 + n % 9000, n / 9000)
theorem atN_digits (n : Int) : 1000 ≤ (atN n).1 ∧ (atN n).1 ≤ 9999 := by unfold atN; dsimp only; omega
theorem figLog_mono {n m : Int} (h : n ≤ m) : (figLog (atN n)).1 ≤ (figLog (atN m)).1 ∧ (figLog (atN n)).2 ≤ (figLog (atN m)).2 := by
  have dn := atN_digits n
  have dm := atN_digits m
  have a := logOf_in (x := (atN n).1 * 100000) (by omega) (by omega)
  have b := logOf_in (x := (atN m).1 * 100000) (by omega) (by omega)
  by_cases ht : n / 9000 = m / 9000
  · have c := logOf_mono (x := (atN n).1 * 100000) (y := (atN m).1 * 100000) (by unfold atN; dsimp only; omega) (by omega) (by omega)
    unfold figLog
    have e : (atN n).2 = (atN m).2 := ht
    rw [e]
    dsimp only
    omega
  · have e : (atN n).2 + 1 ≤ (atN m).2 := by unfold atN; dsimp only; omega
    unfold figLog
    dsimp only
    omega
/-- the least number from lo on, of n numbers, for which that holds; else the last -/
def firstN (P : Int → Prop) [DecidablePred P] (lo : Int) : Nat → Int
  | 0 => lo
  | k + 1 => if P lo then lo else firstN P (lo + 1) k
theorem firstN_spec (P : Int → Prop) [DecidablePred P] (lo : Int) (k : Nat) : lo ≤ firstN P lo k ∧ firstN P lo k ≤ lo + (k : Int) ∧ (firstN P lo k = lo + (k : Int) ∨ P (firstN P lo k)) ∧ ∀ i, lo ≤ i → i < firstN P lo k → ¬ P i := by
  induction k generalizing lo with
  | zero => exact ⟨Int.le_refl _, by simp [firstN], .inl (by simp [firstN]), fun i h1 h2 => by simp only [firstN] at h2; omega⟩
  | succ k ih =>
    unfold firstN
    by_cases h : P lo
    · rw [if_pos h]
      exact ⟨Int.le_refl _, by omega, .inr h, fun i h1 h2 => by omega⟩
    · rw [if_neg h]
      obtain ⟨a, b, c, d⟩ := ih (lo + 1)
      refine ⟨by omega, by omega, ?_, fun i h1 h2 => ?_⟩
      · rcases c with c | c
        · left; omega
        · right; exact c
      · by_cases hi : i = lo
        · rw [hi]; exact h
        · exact d i (by omega) h2
/-- for a property that stays once it holds, the first number is known by its neighbours -/
theorem firstN_eq (P : Int → Prop) [DecidablePred P] (lo : Int) (k : Nat) (hP : ∀ i j, i ≤ j → P i → P j) {t : Int} (h1 : lo ≤ t) (h2 : t ≤ lo + (k : Int)) (h3 : t = lo + (k : Int) ∨ P t) (h4 : t = lo ∨ ¬ P (t - 1)) : t = firstN P lo k := by
  obtain ⟨a, b, c, d⟩ := firstN_spec P lo k
  generalize firstN P lo k = f at *
  rcases Int.lt_trichotomy t f with h | h | h
  · rcases h3 with h3 | h3
    · omega
    · exact absurd h3 (d t h1 h)
  · exact h
  · exfalso
    rcases c with c | c
    · omega
    · rcases h4 with h4 | h4
      · omega
      · exact h4 (hP f (t - 1) (by omega) c)
end Go.Z
