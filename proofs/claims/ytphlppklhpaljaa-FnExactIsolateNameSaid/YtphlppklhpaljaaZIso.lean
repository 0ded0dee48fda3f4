/-
  PLAIN MATHEMATICS: the steps that isolate a letter.
-/
import Derived.Test.YtphlppklhpaljaaZExpo
set_option linter.unusedVariables false
namespace Go.Z
/-- one step more of a run -/
def runS (r : Option Eqn) (s : St) : Option Eqn := match r with
  | none => none
  | some A => if (stepEq A s).2 = 0 then some (stepEq A s).1 else none
def runL (E : Eqn) (l : List St) : Option Eqn := l.foldl runS (some E)
theorem runL_snoc (E : Eqn) (l : List St) (s : St) : runL E (l ++ [s]) = runS (runL E l) s := by simp [runL]
theorem runL_none {E : Eqn} {l : List St} (h : runL E l = none) (m : List St) : runL E (l ++ m) = none := by
  unfold runL at h ⊢
  rw [List.foldl_append, h]
  induction m with
  | nil => rfl
  | cons s m ih => exact ih
theorem runK_take (E : Eqn) (l : List St) (k : Nat) (hk : k ≤ l.length) : runK E l k = runL E (l.take k) := by
  induction k with
  | zero => simp [runK, runL]
  | succ k ih =>
    have hk' : k < l.length := by omega
    rw [List.take_succ_eq_append_getElem hk', runL_snoc, ← ih (by omega)]
    simp only [runK]
    have e : l.getD k zeroSt = l[k] := by simp [List.getD_eq_getElem?_getD, hk']
    rw [e]
    cases runK E l k <;> rfl
theorem runK_all (E : Eqn) (l : List St) : runK E l l.length = runL E l := by rw [runK_take E l l.length (Nat.le_refl _), List.take_length]
/-- the steps for the letters on the left, but c -/
def isoK (ns ps : List Int) (c : Int) : Nat → List St
  | 0 => []
  | k + 1 => if ns.getD k 0 = c then isoK ns ps c k else isoK ns ps c k ++ [⟨1, ns.getD k 0, -(ps.getD k 0)⟩]
def isoA (E : Eqn) (c : Int) : List St := isoK (bs E.L.nm) E.L.pw c E.L.nm.size
def isoB (E : Eqn) (c : Int) : List St := if ex E.R c = 0 then isoA E c else isoA E c ++ [⟨1, c, -(ex E.R c)⟩]
def isoN (E : Eqn) (c : Int) : Int := ex E.L c - ex E.R c
def isoC (E : Eqn) (c : Int) : List St := if isoN E c = -1 then isoB E c ++ [⟨2, 0, -1⟩] else isoB E c
def IsolateName (E : Eqn) (c : Int) : List St × Int :=
  if isEquation E then (if ex E.L c = 0 then ([], 4) else if (RunSteps E (isoB E c)).2 = 0 then (if isoN E c = 0 then ([], 4) else if isoN E c = 1 ∨ isoN E c = -1 then (if (RunSteps E (isoC E c)).2 = 0 then (isoC E c, 0) else ([], 5)) else ([], 5)) else ([], 5)) else ([], 1)
theorem isoK_len (ns ps : List Int) (c : Int) (k : Nat) : (isoK ns ps c k).length ≤ k := by
  induction k with
  | zero => simp [isoK]
  | succ k ih =>
    unfold isoK
    split
    · omega
    · rw [List.length_append, List.length_singleton]; omega
theorem isoK_all {F : Fm} (h : isFormula F = true) (c : Int) (k : Nat) (hk : k ≤ F.nm.size) : allSt (isoK (bs F.nm) F.pw c k) = true := by
  induction k with
  | zero => rfl
  | succ k ih =>
    have ih' := ih (by omega)
    obtain ⟨a1, a2, _, a4, a5, a6⟩ := okAt_parts (valid_at h k (by omega))
    unfold isoK
    generalize (bs F.nm).getD k 0 = a at *
    generalize F.pw.getD k 0 = p at *
    split
    · exact ih'
    · unfold allSt at ih' ⊢
      rw [List.all_append, ih']
      simp [isStep, a1, a2]
      omega
theorem ex_bd {F : Fm} (h : isFormula F = true) (c : Int) : -6 ≤ ex F c ∧ ex F c ≤ 6 := by
  unfold ex
  exact expo_bd (fun j hj => by rw [bs_length] at hj; have := okAt_parts (valid_at h j hj); exact ⟨this.2.2.2.2.1, this.2.2.2.2.2⟩) c
theorem ex_letter {F : Fm} (h : isFormula F = true) {c : Int} (hc : ex F c ≠ 0) : 97 ≤ c ∧ c ≤ 122 := by
  by_cases h1 : 97 ≤ c ∧ c ≤ 122
  · exact h1
  · exact absurd (ex_out h h1) hc
theorem isoB_parts {E : Eqn} (h : isEquation E = true) {c : Int} (hc : ex E.L c ≠ 0) : allSt (isoB E c) = true ∧ (isoB E c).length ≤ 7 := by
  obtain ⟨hL, hR⟩ := isEquation_parts h
  have a := isoK_all hL c E.L.nm.size (Nat.le_refl _)
  have b := isoK_len (bs E.L.nm) E.L.pw c E.L.nm.size
  have l6 := (isFormula_len hL).2
  obtain ⟨c1, c2⟩ := ex_letter hL hc
  obtain ⟨r1, r2⟩ := ex_bd hR c
  unfold isoB isoA
  split
  · exact ⟨a, by omega⟩
  · rename_i h0
    refine ⟨?_, by simp; omega⟩
    unfold allSt at a ⊢
    rw [List.all_append, a]
    simp [isStep, c1, c2]
    omega
theorem isoC_parts {E : Eqn} (h : isEquation E = true) {c : Int} (hc : ex E.L c ≠ 0) : allSt (isoC E c) = true ∧ (isoC E c).length ≤ 8 := by
  obtain ⟨a, b⟩ := isoB_parts h hc
  unfold isoC
  split
  · refine ⟨?_, by simp; omega⟩
    unfold allSt at a ⊢
    rw [List.all_append, a]
    decide
  · exact ⟨a, by omega⟩
theorem RunSteps_runL {E : Eqn} {l : List St} (h : isEquation E = true) (ha : allSt l = true) (hl : l.length ≤ 12) : RunSteps E l = ranOr (runL E l) := by
  have hc : stCode l = 0 := by unfold stCode; rw [ha]; simp; omega
  unfold RunSteps
  rw [if_pos h, if_pos hc, runK_all]
theorem runL_ok {E : Eqn} (h : isEquation E = true) (l : List St) {A : Eqn} (hr : runL E l = some A) : isEquation A = true := by
  rw [← runK_all] at hr
  exact runK_ok h _ hr
theorem ranOr_some (A : Eqn) : (ranOr (some A)).2 = 0 := rfl
theorem ranOr_none : ¬ (ranOr none).2 = 0 := by decide
/-- what is not yet undone keeps its exponents -/
theorem isoK_keeps {E : Eqn} (h : isEquation E = true) (c : Int) (k : Nat) (hk : k ≤ E.L.nm.size) {A : Eqn} (hr : runL E (isoK (bs E.L.nm) E.L.pw c k) = some A) (x : Int) (hx : x = c ∨ ∃ j, k ≤ j ∧ j < E.L.nm.size ∧ x = (bs E.L.nm).getD j 0) :
    ex A.L x = ex E.L x ∧ ex A.R x = ex E.R x := by
  obtain ⟨hL, hR⟩ := isEquation_parts h
  induction k generalizing A with
  | zero => simp only [isoK, runL, List.foldl_nil, Option.some.injEq] at hr; rw [← hr]; exact ⟨rfl, rfl⟩
  | succ k ih =>
    unfold isoK at hr
    have hx' : x = c ∨ ∃ j, k ≤ j ∧ j < E.L.nm.size ∧ x = (bs E.L.nm).getD j 0 := by
      rcases hx with hx | ⟨j, h1, h2, h3⟩
      · exact .inl hx
      · exact .inr ⟨j, by omega, h2, h3⟩
    split at hr
    · exact ih (by omega) hr hx'
    · rename_i hne
      rw [runL_snoc] at hr
      cases hB : runL E (isoK (bs E.L.nm) E.L.pw c k) with
      | none => rw [hB] at hr; cases hr
      | some B =>
        rw [hB] at hr
        have hk0 := ih (by omega) hB hx'
        simp only [runS] at hr
        by_cases h0 : (stepEq B ⟨1, (bs E.L.nm).getD k 0, -(E.L.pw.getD k 0)⟩).2 = 0
        · rw [if_pos h0] at hr
          simp only [Option.some.injEq] at hr
          obtain ⟨a1, a2, _⟩ := okAt_parts (valid_at hL k (by omega))
          have ht := times_ex (E := B) (m := (bs E.L.nm).getD k 0) (t := -(E.L.pw.getD k 0)) ⟨by omega, by omega⟩ h0 x
          have hr' : (TimesFormula B (stepFm ((bs E.L.nm).getD k 0) (-(E.L.pw.getD k 0)))).1 = A := hr
          rw [hr'] at ht
          have hxk : ¬ (x = (bs E.L.nm).getD k 0) := by
            rcases hx with hx | ⟨j, h1, h2, h3⟩
            · rw [hx]; exact fun e => hne e.symm
            · have := rising hL j h2 k (by omega)
              omega
          rw [if_neg hxk, Int.add_zero, Int.add_zero] at ht
          exact ⟨ht.1.trans hk0.1, ht.2.trans hk0.2⟩
        · rw [if_neg h0] at hr; cases hr
/-- the exponent of a letter of a formula is its power -/
theorem ex_at {F : Fm} (h : isFormula F = true) (k : Nat) (hk : k < F.nm.size) : ex F ((bs F.nm).getD k 0) = F.pw.getD k 0 := by
  have hl := (isFormula_len h).1
  unfold ex
  have h1 : ∀ (n : Nat), n ≤ F.nm.size → k < n → expo ((bs F.nm).take n) (F.pw.take n) ((bs F.nm).getD k 0) = F.pw.getD k 0 := by
    intro n
    induction n with
    | zero => intro _ h; omega
    | succ n ih =>
      intro hn hkn
      have b1 : n < (bs F.nm).length := by rw [bs_length]; omega
      have b2 : n < F.pw.length := by omega
      rw [List.take_succ_eq_append_getElem b1, List.take_succ_eq_append_getElem b2]
      have e1 : (bs F.nm)[n] = (bs F.nm).getD n 0 := by simp [List.getD_eq_getElem?_getD, b1]
      have e2 : F.pw[n] = F.pw.getD n 0 := by simp [List.getD_eq_getElem?_getD, b2]
      rw [e1, e2, expo_snoc _ _ _ (by simp [bs_length, hl]) (fresh_at h n (by omega))]
      by_cases hkn' : k = n
      · subst hkn'; rw [if_pos rfl]
      · have := rising h n (by omega) k (by omega)
        rw [if_neg (by omega), ih (by omega) (by omega)]
  have h2 := h1 F.nm.size (Nat.le_refl _) hk
  rwa [List.take_of_length_le (by rw [bs_length]; exact Nat.le_refl _), List.take_of_length_le (by omega)] at h2
theorem iso_bad {E : Eqn} (h : isEquation E = false) (c : Int) : IsolateName E c = ([], 1) := by unfold IsolateName; rw [h]; rfl
theorem iso_none {E : Eqn} (h : isEquation E = true) {c : Int} (hc : ex E.L c = 0) : IsolateName E c = ([], 4) := by unfold IsolateName; rw [if_pos h, if_pos hc]
theorem iso_fail {E : Eqn} (h : isEquation E = true) {c : Int} (hc : ex E.L c ≠ 0) (hr : runL E (isoB E c) = none) : IsolateName E c = ([], 5) := by
  obtain ⟨a, b⟩ := isoB_parts h hc
  unfold IsolateName
  rw [if_pos h, if_neg hc, RunSteps_runL h a (by omega), hr, if_neg ranOr_none]
theorem iso_zero {E : Eqn} (h : isEquation E = true) {c : Int} (hc : ex E.L c ≠ 0) {A : Eqn} (hr : runL E (isoB E c) = some A) (hn : isoN E c = 0) : IsolateName E c = ([], 4) := by
  obtain ⟨a, b⟩ := isoB_parts h hc
  unfold IsolateName
  rw [if_pos h, if_neg hc, RunSteps_runL h a (by omega), hr, if_pos (ranOr_some A), if_pos hn]
theorem iso_other {E : Eqn} (h : isEquation E = true) {c : Int} (hc : ex E.L c ≠ 0) {A : Eqn} (hr : runL E (isoB E c) = some A) (h0 : isoN E c ≠ 0) (h1 : isoN E c ≠ 1) (h2 : isoN E c ≠ -1) : IsolateName E c = ([], 5) := by
  obtain ⟨a, b⟩ := isoB_parts h hc
  unfold IsolateName
  rw [if_pos h, if_neg hc, RunSteps_runL h a (by omega), hr, if_pos (ranOr_some A), if_neg h0, if_neg (by omega)]
theorem iso_one {E : Eqn} (h : isEquation E = true) {c : Int} (hc : ex E.L c ≠ 0) {A : Eqn} (hr : runL E (isoB E c) = some A) (hn : isoN E c = 1) : IsolateName E c = (isoB E c, 0) := by
  obtain ⟨a, b⟩ := isoB_parts h hc
  have e : isoC E c = isoB E c := by unfold isoC; rw [if_neg (by omega)]
  unfold IsolateName
  rw [e, RunSteps_runL h a (by omega), hr, if_pos h, if_neg hc, if_pos (ranOr_some A), if_neg (by omega), if_pos (by omega), if_pos (ranOr_some A)]
theorem iso_neg {E : Eqn} (h : isEquation E = true) {c : Int} (hc : ex E.L c ≠ 0) {A : Eqn} (hr : runL E (isoB E c) = some A) (hn : isoN E c = -1) : IsolateName E c = if (stepEq A ⟨2, 0, -1⟩).2 = 0 then (isoB E c ++ [⟨2, 0, -1⟩], 0) else ([], 5) := by
  obtain ⟨a, b⟩ := isoB_parts h hc
  obtain ⟨a', b'⟩ := isoC_parts h hc
  have e : isoC E c = isoB E c ++ [⟨2, 0, -1⟩] := by unfold isoC; rw [if_pos hn]
  unfold IsolateName
  rw [if_pos h, if_neg hc, RunSteps_runL h a (by omega), hr, if_pos (ranOr_some A), if_neg (by omega), if_pos (by omega), RunSteps_runL h a' (by omega), e, runL_snoc, hr]
  by_cases h0 : (stepEq A ⟨2, 0, -1⟩).2 = 0
  · have e2 : runS (some A) ⟨2, 0, -1⟩ = some (stepEq A ⟨2, 0, -1⟩).1 := by simp only [runS]; rw [if_pos h0]
    rw [e2, if_pos (ranOr_some _), if_pos h0]
  · have e2 : runS (some A) ⟨2, 0, -1⟩ = none := by simp only [runS]; rw [if_neg h0]
    rw [e2, if_neg ranOr_none, if_neg h0]
/-- behind the letters' own steps: the letter c, on the left and on the right -/
theorem iso_last {E : Eqn} (h : isEquation E = true) {c : Int} (hc : ex E.L c ≠ 0) {A : Eqn} (hr : runL E (isoA E c) = some A) : (ex A.L c = ex E.L c ∧ ex A.R c = ex E.R c) ∧ (ex E.R c = 0 → runL E (isoB E c) = some A ∧ ex A.L c = isoN E c) ∧
    (ex E.R c ≠ 0 → runL E (isoB E c) = runS (some A) ⟨1, c, -(ex E.R c)⟩ ∧ ∀ B, runS (some A) ⟨1, c, -(ex E.R c)⟩ = some B → ex B.L c = isoN E c) := by
  have hk := isoK_keeps h c E.L.nm.size (Nat.le_refl _) hr c (.inl rfl)
  obtain ⟨c1, c2⟩ := ex_letter (isEquation_parts h).1 hc
  refine ⟨hk, fun h0 => ?_, fun h0 => ?_⟩
  · have e : isoB E c = isoA E c := by unfold isoB; rw [if_pos h0]
    rw [e]
    exact ⟨hr, by unfold isoN; rw [hk.1, h0]; omega⟩
  · have e : isoB E c = isoA E c ++ [⟨1, c, -(ex E.R c)⟩] := by unfold isoB; rw [if_neg h0]
    rw [e, runL_snoc, hr]
    refine ⟨rfl, fun B hB => ?_⟩
    simp only [runS] at hB
    by_cases h1 : (stepEq A ⟨1, c, -(ex E.R c)⟩).2 = 0
    · rw [if_pos h1] at hB
      simp only [Option.some.injEq] at hB
      have hB' : (TimesFormula A (stepFm c (-(ex E.R c)))).1 = B := hB
      have ht := (times_ex (E := A) (m := c) (t := -(ex E.R c)) ⟨by omega, by omega⟩ h1 c).1
      rw [hB', if_pos rfl, hk.1] at ht
      unfold isoN
      omega
    · rw [if_neg h1] at hB; cases hB
end Go.Z
