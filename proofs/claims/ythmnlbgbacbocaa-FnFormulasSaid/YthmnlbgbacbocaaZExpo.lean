/-
  PLAIN MATHEMATICS: the exponents of products, of powers, of what is left without a letter.
-/
import Derived.Test.YthmnlbgbacbocaaZStep
set_option linter.unusedVariables false
namespace Go.Z
theorem mkB_letters (f : Nat → Int) (n : Nat) (hn : n ≤ 26) : ∀ x ∈ (mkB f n).map (fun b => (b.toNat : Int)), 97 ≤ x ∧ x < 97 + (n : Int) := by
  induction n with
  | zero => intro x hx; simp [mkB] at hx
  | succ n ih =>
    intro x hx
    have ih' := ih (by omega)
    unfold mkB at hx
    rw [List.map_append, List.mem_append] at hx
    rcases hx with hx | hx
    · have := ih' x hx; omega
    · split at hx
      · simp at hx
      · simp only [List.map_cons, List.map_nil, List.mem_singleton] at hx
        have e : ((97 + n).toUInt8).toNat = 97 + n := by simp [Nat.toUInt8]; omega
        rw [hx, e]; omega
/-- the exponents of what is made are those that were told -/
theorem expo_mk (f : Nat → Int) (n : Nat) (hn : n ≤ 26) (c : Int) : expo ((mkB f n).map (fun b => (b.toNat : Int))) (mkP f n) c = if 97 ≤ c ∧ c < 97 + (n : Int) then f (c - 97).toNat else 0 := by
  induction n with
  | zero => rw [if_neg (by omega)]; rfl
  | succ n ih =>
    have ih' := ih (by omega)
    have hl := mk_len f n
    unfold mkB mkP
    by_cases h0 : f n = 0
    · rw [if_pos h0, if_pos h0, List.append_nil, List.append_nil, ih']
      by_cases h1 : 97 ≤ c ∧ c < 97 + (n : Int)
      · rw [if_pos h1, if_pos (by omega)]
      · rw [if_neg h1]
        by_cases h2 : 97 ≤ c ∧ c < 97 + ((n + 1 : Nat) : Int)
        · have e : (c - 97).toNat = n := by omega
          rw [if_pos h2, e, h0]
        · rw [if_neg h2]
    · rw [if_neg h0, if_neg h0, List.map_append, List.map_cons, List.map_nil]
      have e : (((97 + n).toUInt8).toNat : Int) = 97 + (n : Int) := by
        have : ((97 + n).toUInt8).toNat = 97 + n := by simp [Nat.toUInt8]; omega
        omega
      rw [e, expo_snoc _ _ _ (by rw [List.length_map]; exact hl) (fun hx => by have := mkB_letters f n (by omega) _ hx; omega), ih']
      by_cases h1 : 97 + (n : Int) = c
      · have e2 : (c - 97).toNat = n := by omega
        rw [if_pos h1, if_pos (by omega), e2]
      · rw [if_neg h1]
        by_cases h2 : 97 ≤ c ∧ c < 97 + (n : Int)
        · rw [if_pos h2, if_pos (by omega)]
        · rw [if_neg h2, if_neg (by omega)]
theorem bs_made (d t : Int) (f : Nat → Int) (n : Nat) : bs (made d t f n).nm = (mkB f n).map (fun b => (b.toNat : Int)) := by
  simp [made, bs]
theorem expo_made (d t : Int) (f : Nat → Int) (c : Int) : expo (bs (made d t f 26).nm) (made d t f 26).pw c = if 97 ≤ c ∧ c ≤ 122 then f (c - 97).toNat else 0 := by
  rw [bs_made]
  have h := expo_mk f 26 (Nat.le_refl _) c
  show expo _ (mkP f 26) c = _
  rw [h]
  by_cases h1 : 97 ≤ c ∧ c ≤ 122
  · rw [if_pos h1, if_pos (by omega)]
  · rw [if_neg h1, if_neg (by omega)]
/-- the exponent of a letter in a formula -/
def ex (F : Fm) (c : Int) : Int := expo (bs F.nm) F.pw c
theorem ex_out {F : Fm} (h : isFormula F = true) {c : Int} (hc : ¬ (97 ≤ c ∧ c ≤ 122)) : ex F c = 0 := by
  unfold ex
  apply expo_none
  intro hm
  obtain ⟨i, hi, he⟩ := List.getElem_of_mem hm
  rw [bs_length] at hi
  have h1 := okAt_parts (valid_at h i hi)
  have h2 : (bs F.nm).getD i 0 = c := by rw [← he]; simp [List.getD_eq_getElem?_getD, bs_length, hi]
  rw [h2] at h1
  exact hc ⟨h1.1, h1.2.1⟩
theorem madeOr_ex {d t : Int} {f : Nat → Int} (h : (madeOr d t f).2 = 0) (c : Int) : ex (madeOr d t f).1 c = if 97 ≤ c ∧ c ≤ 122 then f (c - 97).toNat else 0 := by
  unfold madeOr at h ⊢
  split at h
  · rename_i h1; rw [if_pos h1]; exact expo_made d t f c
  · simp at h
theorem multiplied_ex {F G : Fm} (hF : isFormula F = true) (hG : isFormula G = true) (h : (multiplied F G).2 = 0) (c : Int) : ex (multiplied F G).1 c = ex F c + ex G c := by
  unfold multiplied at h ⊢
  split at h
  · rename_i h1
    rw [if_pos h1, madeOr_ex h c]
    by_cases hc : 97 ≤ c ∧ c ≤ 122
    · rw [if_pos hc]
      have e : (97 : Int) + ((c - 97).toNat : Int) = c := by omega
      unfold sumF ex; rw [e]
    · rw [if_neg hc, ex_out hF hc, ex_out hG hc]; rfl
  · rename_i h1; exact absurd h h1
theorem stepFm_ex (m t c : Int) (hm : 0 ≤ m ∧ m ≤ 255) : ex (stepFm m t) c = if c = m then t else 0 := by
  have e : bs (stepFm m t).nm = [m] := by
    have h1 : (UInt8.ofNat m.toNat).toNat = m.toNat := by simp; omega
    simp only [stepFm, bs, List.map_cons, List.map_nil]
    rw [h1]; congr 1; omega
  unfold ex
  rw [e]
  show expo [m] [t] c = _
  simp only [expo]
  by_cases h : c = m
  · rw [if_pos h.symm, if_pos h]
  · rw [if_neg (fun e => h e.symm), if_neg h]
theorem times_ex {E : Eqn} {m t : Int} (hm : 0 ≤ m ∧ m ≤ 255) (h : (TimesFormula E (stepFm m t)).2 = 0) (c : Int) :
    ex (TimesFormula E (stepFm m t)).1.L c = ex E.L c + (if c = m then t else 0) ∧ ex (TimesFormula E (stepFm m t)).1.R c = ex E.R c + (if c = m then t else 0) := by
  unfold TimesFormula at h ⊢
  split at h
  · rename_i h1
    rw [if_pos h1]
    rw [Bool.and_eq_true] at h1
    obtain ⟨hE, hF⟩ := h1
    obtain ⟨hL, hR⟩ := isEquation_parts hE
    unfold bothOf at h ⊢
    split at h
    · rename_i h2
      split at h
      · rename_i h3
        rw [if_pos h2, if_pos h3]
        exact ⟨by rw [multiplied_ex hL hF h2 c, stepFm_ex m t c hm], by rw [multiplied_ex hR hF h3 c, stepFm_ex m t c hm]⟩
      · rename_i h3; exact absurd h h3
    · rename_i h2; exact absurd h h2
  · simp at h
end Go.Z
