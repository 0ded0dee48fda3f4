/-
  PLAIN LAWS of equations: sides swapped twice; a product on both sides keeps the quotient's letters and exponents.
-/
import Derived.Test.YthmnlbgbacbocaaZExpo
import Derived.Test.YthmnlbgbacbocaaZPow
set_option linter.unusedVariables false
namespace Go.Z
theorem swap_law {E : Eqn} (h : (SwapSides E).2 = 0) : SwapSides (SwapSides E).1 = (E, 0) := by
  cases hq : isEquation E
  · unfold SwapSides at h; rw [hq] at h; simp at h
  · have e : SwapSides E = (⟨E.R, E.L⟩, 0) := by unfold SwapSides; rw [hq]; rfl
    rw [e]
    have hq2 : isEquation ⟨E.R, E.L⟩ = true := by
      obtain ⟨h1, h2⟩ := isEquation_parts hq
      unfold isEquation; rw [h1, h2]; rfl
    unfold SwapSides; rw [hq2]; rfl
theorem swap_code (E : Eqn) : ((SwapSides E).2 == 0) = isEquation E := by
  unfold SwapSides
  cases hq : isEquation E <;> rfl
theorem multiplied_form {F G : Fm} (h : (multiplied F G).2 = 0) : ∃ d t, (multiplied F G).1 = made d t (fun i => ex F (97 + (i : Int)) + ex G (97 + (i : Int))) 26 := by
  unfold multiplied at *
  split
  · rename_i h1
    rw [if_pos h1] at h
    unfold madeOr at *
    split
    · exact ⟨_, _, made_congr (fun i hi => rfl)⟩
    · rename_i h2; rw [if_neg h2] at h; simp at h
  · rename_i h1; rw [if_neg h1] at h; exact absurd h h1
theorem raised_ex {R : Fm} {n : Int} (h : (raised R n).2 = 0) (i : Nat) (hi : i < 26) : ex (raised R n).1 (97 + (i : Int)) = n * ex R (97 + (i : Int)) := by
  unfold raised at *
  split
  · rename_i h1
    rw [if_pos h1] at h
    rw [madeOr_ex h, if_pos (by omega)]
    have : (97 + (i : Int) - 97).toNat = i := by omega
    rw [this]; rfl
  · rename_i h1; rw [if_neg h1] at h; exact absurd h h1
theorem quotient_form {E : Eqn} (h : (quotient E).2 = 0) : ∃ d t, (quotient E).1 = made d t (fun i => ex E.L (97 + (i : Int)) - ex E.R (97 + (i : Int))) 26 := by
  unfold quotient at *
  split
  · rename_i h1
    rw [if_pos h1] at h
    obtain ⟨d, t, e⟩ := multiplied_form h
    refine ⟨d, t, e.trans (made_congr fun i hi => ?_)⟩
    rw [raised_ex h1 i hi]; omega
  · rename_i h1; rw [if_neg h1] at h; exact absurd h h1
theorem times_law {E : Eqn} {F : Fm} (h : (TimesFormula E F).2 = 0) (h1 : (QuotientFormula E).2 = 0) (h2 : (QuotientFormula (TimesFormula E F).1).2 = 0) :
    (QuotientFormula (TimesFormula E F).1).1.nm = (QuotientFormula E).1.nm ∧ (QuotientFormula (TimesFormula E F).1).1.pw = (QuotientFormula E).1.pw := by
  have hE : isEquation E = true ∧ isFormula F = true := by
    unfold TimesFormula at h
    cases h3 : isEquation E <;> cases h4 : isFormula F <;> simp [h3, h4] at h ⊢
  have e1 : QuotientFormula E = quotient E := by unfold QuotientFormula; rw [hE.1]; rfl
  have e2 : QuotientFormula (TimesFormula E F).1 = quotient (TimesFormula E F).1 := by
    unfold QuotientFormula at h2 ⊢
    split
    · rfl
    · rename_i h3; rw [if_neg h3] at h2; simp at h2
  rw [e1] at h1
  rw [e2] at h2
  rw [e1, e2]
  obtain ⟨d1, t1, q1⟩ := quotient_form h1
  obtain ⟨d2, t2, q2⟩ := quotient_form h2
  have ht : TimesFormula E F = bothOf (multiplied E.L F) (multiplied E.R F) := by unfold TimesFormula; rw [hE.1, hE.2]; rfl
  rw [ht] at h q2 ⊢
  have hb : (multiplied E.L F).2 = 0 ∧ (multiplied E.R F).2 = 0 ∧ (bothOf (multiplied E.L F) (multiplied E.R F)).1 = ⟨(multiplied E.L F).1, (multiplied E.R F).1⟩ := by
    unfold bothOf at *
    by_cases k1 : (multiplied E.L F).2 = 0
    · by_cases k2 : (multiplied E.R F).2 = 0
      · exact ⟨k1, k2, by rw [if_pos k1, if_pos k2]⟩
      · rw [if_pos k1, if_neg k2] at h; exact absurd h k2
    · rw [if_neg k1] at h; exact absurd h k1
  obtain ⟨hL, hR⟩ := isEquation_parts hE.1
  have key : made d2 t2 (fun i => ex (bothOf (multiplied E.L F) (multiplied E.R F)).1.L (97 + (i : Int)) - ex (bothOf (multiplied E.L F) (multiplied E.R F)).1.R (97 + (i : Int))) 26 = made d2 t2 (fun i => ex E.L (97 + (i : Int)) - ex E.R (97 + (i : Int))) 26 := by
    apply made_congr
    intro i hi
    rw [hb.2.2]
    dsimp only
    rw [multiplied_ex hL hE.2 hb.1, multiplied_ex hR hE.2 hb.2.1]
    omega
  rw [q2, key, q1]
  exact ⟨rfl, rfl⟩
theorem swap_nm (A : Eqn) (hL : A.L.nm.size ≤ 1048576) (hR : A.R.nm.size ≤ 1048576) : (SwapSides A).1.L.nm.size ≤ 1048576 ∧ (SwapSides A).1.R.nm.size ≤ 1048576 := by
  unfold SwapSides
  split
  · exact ⟨hR, hL⟩
  · exact ⟨zeroFm_le.2, zeroFm_le.2⟩
theorem times_nm (E : Eqn) (F : Fm) : (TimesFormula E F).1.L.nm.size ≤ 1048576 ∧ (TimesFormula E F).1.R.nm.size ≤ 1048576 := by
  unfold TimesFormula bothOf
  split
  · split
    · split
      · exact ⟨(multiplied_le _ _).2, (multiplied_le _ _).2⟩
      · exact ⟨zeroFm_le.2, zeroFm_le.2⟩
    · exact ⟨zeroFm_le.2, zeroFm_le.2⟩
  · exact ⟨zeroFm_le.2, zeroFm_le.2⟩
end Go.Z
