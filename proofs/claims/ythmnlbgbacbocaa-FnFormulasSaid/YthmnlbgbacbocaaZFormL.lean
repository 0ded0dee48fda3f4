/-
  PLAIN LAWS of formulas: exponents of powers and of products.
-/
import Derived.Test.YthmnlbgbacbocaaZEquL
import Derived.Test.YthmnlbgbacbocaaMulF
set_option linter.unusedVariables false
namespace Go.Z
theorem ExponentOf_ok {F : Fm} (h : isFormula F = true) (c : Int) : ExponentOf F c = (ex F c, 0) := by unfold ExponentOf; rw [h]; rfl
theorem exponent_code (F : Fm) (c : Int) : ((ExponentOf F c).2 == 0) = isFormula F := by
  unfold ExponentOf
  cases h : isFormula F <;> rfl
theorem power_law {Y : Fm} {k : Int} (h : (PowerFormula Y k).2 = 0) :
    isFormula Y = true ∧ isFormula (PowerFormula Y k).1 = true ∧ (-3 ≤ k ∧ k ≤ 3) ∧ ∀ i : Nat, i < 26 → ex (PowerFormula Y k).1 (97 + (i : Int)) = k * ex Y (97 + (i : Int)) := by
  have hY : isFormula Y = true := by
    unfold PowerFormula at h
    cases h3 : isFormula Y
    · rw [h3] at h; simp at h
    · rfl
  have hk : -3 ≤ k ∧ k ≤ 3 := by
    unfold PowerFormula at h
    rw [hY] at h
    cases h4 : pow3 k
    · rw [h4] at h; simp at h
    · unfold pow3 at h4; simpa using h4
  have e := PowerFormula_eq hY hk
  rw [e] at h ⊢
  exact ⟨hY, raised_ok h, hk, fun i hi => raised_ex h i hi⟩
theorem product_law {F G : Fm} (h : (MultiplyFormulas F G).2 = 0) :
    isFormula F = true ∧ isFormula G = true ∧ isFormula (MultiplyFormulas F G).1 = true ∧ ∀ c : Int, ex (MultiplyFormulas F G).1 c = ex F c + ex G c := by
  have hF : isFormula F = true ∧ isFormula G = true := by
    unfold MultiplyFormulas at h
    cases h3 : isFormula F <;> cases h4 : isFormula G <;> simp [h3, h4] at h ⊢
  have e := MultiplyFormulas_eq hF.1 hF.2
  rw [e] at h ⊢
  exact ⟨hF.1, hF.2, multiplied_ok h, fun c => multiplied_ex hF.1 hF.2 h c⟩
theorem ex_six {F : Fm} (h : isFormula F = true) (c : Int) : -6 ≤ ex F c ∧ ex F c ≤ 6 := expo_6 h c
theorem mul_wrap {k a : Int} (hk : -3 ≤ k ∧ k ≤ 3) (ha : -6 ≤ a ∧ a ≤ 6) : IntKind.i64.wrap (k * a) = k * a := by
  have h := mul_bd k a 3 6 hk.1 hk.2 ha.1 ha.2
  exact IntWalk.i64_in _ (by omega)
theorem power_at {Y : Fm} {k : Int} (h : (PowerFormula Y k).2 = 0) (c : Int) (hc : 97 ≤ c ∧ c ≤ 122) :
    ExponentOf Y c = (ex Y c, 0) ∧ ExponentOf (PowerFormula Y k).1 c = (k * ex Y c, 0) ∧ IntKind.i64.wrap (k * ex Y c) = k * ex Y c := by
  obtain ⟨hY, hP, hk, he⟩ := power_law h
  refine ⟨ExponentOf_ok hY c, ?_, mul_wrap hk (ex_six hY c)⟩
  rw [ExponentOf_ok hP c]
  obtain ⟨i, rfl⟩ : ∃ i : Nat, c = 97 + (i : Int) := ⟨(c - 97).toNat, by omega⟩
  rw [he i (by omega)]
theorem product_at {F G : Fm} (h : (MultiplyFormulas F G).2 = 0) (c : Int) :
    ExponentOf F c = (ex F c, 0) ∧ ExponentOf G c = (ex G c, 0) ∧ ExponentOf (MultiplyFormulas F G).1 c = (ex F c + ex G c, 0) ∧ IntKind.i64.wrap (ex F c + ex G c) = ex F c + ex G c := by
  obtain ⟨hF, hG, hP, he⟩ := product_law h
  refine ⟨ExponentOf_ok hF c, ExponentOf_ok hG c, ?_, ?_⟩
  · rw [ExponentOf_ok hP c, he c]
  · have := ex_six hF c
    have := ex_six hG c
    exact IntWalk.i64_in _ (by omega)
theorem product_le (F G : Fm) : (MultiplyFormulas F G).1.pw.length ≤ 1048576 ∧ (MultiplyFormulas F G).1.nm.size ≤ 1048576 := by
  unfold MultiplyFormulas
  split
  · exact multiplied_le _ _
  · exact zeroFm_le
end Go.Z
