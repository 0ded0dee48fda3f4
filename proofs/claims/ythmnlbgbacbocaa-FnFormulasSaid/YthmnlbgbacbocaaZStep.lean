/-
  PLAIN MATHEMATICS: equations after steps of a derivation.
-/
import Derived.Test.YthmnlbgbacbocaaZPow
import Derived.Test.YthmnlbgbacbocaaBase
set_option linter.unusedVariables false
namespace Go.Z
def stepFm (m t : Int) : Fm := ⟨1000, 0, ⟨#[UInt8.ofNat m.toNat]⟩, [t]⟩
/-- the equation after a step, with the code of what was done -/
def stepEq (E : Eqn) (s : St) : Eqn × Int := if s.kd = 0 then SwapSides E else if s.kd = 1 then TimesFormula E (stepFm s.nm s.pw) else RaiseSides E s.pw
def stepped (E : Eqn) (s : St) : Eqn × Bool := ((stepEq E s).1, (stepEq E s).2 == 0)
theorem step_kinds {d m t : Int} (h : isStep ⟨d, m, t⟩ = true) : d = 0 ∨ d = 1 ∨ d = 2 := by
  unfold isStep at h
  dsimp only at h
  split at h
  · left; assumption
  · split at h
    · right; left; assumption
    · split at h
      · right; right; assumption
      · simp at h
theorem isStep_byte {s : St} (h : isStep s = true) : byteSt s := by
  obtain ⟨d, m, t⟩ := s
  unfold byteSt
  unfold isStep at h
  dsimp only at h ⊢
  split at h
  · simp at h; omega
  · split at h
    · simp at h; omega
    · split at h
      · simp at h; omega
      · simp at h
theorem stepEq_0 (E : Eqn) (m t : Int) : stepEq E ⟨0, m, t⟩ = SwapSides E := rfl
theorem stepEq_1 (E : Eqn) (m t : Int) : stepEq E ⟨1, m, t⟩ = TimesFormula E (stepFm m t) := rfl
theorem stepEq_2 (E : Eqn) (m t : Int) : stepEq E ⟨2, m, t⟩ = RaiseSides E t := rfl
theorem bothOf_ok {a b : Fm × Int} (h : (bothOf a b).2 = 0) (ha : a.2 = 0 → isFormula a.1 = true) (hb : b.2 = 0 → isFormula b.1 = true) : isEquation (bothOf a b).1 = true := by
  unfold bothOf at h ⊢
  split at h
  · rename_i h1
    split at h
    · rename_i h2
      rw [if_pos h1, if_pos h2]
      unfold isEquation; rw [Bool.and_eq_true]; exact ⟨ha h1, hb h2⟩
    · rename_i h2; exact absurd h h2
  · rename_i h1; exact absurd h h1
theorem SwapSides_ok {E : Eqn} (h : (SwapSides E).2 = 0) : isEquation (SwapSides E).1 = true := by
  unfold SwapSides at h ⊢
  split at h
  · rename_i h1
    rw [if_pos h1]
    unfold isEquation at h1 ⊢; rw [Bool.and_comm]; exact h1
  · simp at h
theorem TimesFormula_ok {E : Eqn} {F : Fm} (h : (TimesFormula E F).2 = 0) : isEquation (TimesFormula E F).1 = true := by
  unfold TimesFormula at h ⊢
  split at h
  · rename_i h1
    rw [if_pos h1]
    exact bothOf_ok h multiplied_ok multiplied_ok
  · simp at h
theorem RaiseSides_ok {E : Eqn} {n : Int} (h : (RaiseSides E n).2 = 0) : isEquation (RaiseSides E n).1 = true := by
  unfold RaiseSides at h ⊢
  split at h
  · rename_i h1
    rw [if_pos h1]
    split at h
    · simp at h
    · rename_i h2
      rw [if_neg h2]
      split at h
      · rename_i h3
        rw [if_pos h3]
        exact bothOf_ok h raised_ok raised_ok
      · simp at h
  · simp at h
theorem stepEq_ok {E : Eqn} {s : St} (h : (stepEq E s).2 = 0) : isEquation (stepEq E s).1 = true := by
  unfold stepEq at h ⊢
  split at h
  · rename_i h1; rw [if_pos h1]; exact SwapSides_ok h
  · rename_i h1
    rw [if_neg h1]
    split at h
    · rename_i h2; rw [if_pos h2]; exact TimesFormula_ok h
    · rename_i h2; rw [if_neg h2]; exact RaiseSides_ok h
theorem isEquation_le {E : Eqn} (h : isEquation E = true) : E.L.pw.length ≤ 1048576 ∧ E.L.nm.size ≤ 1048576 ∧ E.R.pw.length ≤ 1048576 ∧ E.R.nm.size ≤ 1048576 := by
  obtain ⟨⟨a, b⟩, c, d⟩ := isEquation_len h
  exact ⟨by omega, by omega, by omega, by omega⟩
/-- the equation after the first k steps -/
def runK (E : Eqn) (l : List St) : Nat → Option Eqn
  | 0 => some E
  | k + 1 => match runK E l k with
    | none => none
    | some A => if (stepEq A (l.getD k zeroSt)).2 = 0 then some (stepEq A (l.getD k zeroSt)).1 else none
theorem runK_ok {E : Eqn} {l : List St} (hE : isEquation E = true) (k : Nat) {A : Eqn} (h : runK E l k = some A) : isEquation A = true := by
  cases k with
  | zero => simp only [runK, Option.some.injEq] at h; rw [← h]; exact hE
  | succ k =>
    simp only [runK] at h
    split at h
    · cases h
    · split at h
      · rename_i h1; simp only [Option.some.injEq] at h; rw [← h]; exact stepEq_ok h1
      · cases h
theorem runK_none {E : Eqn} {l : List St} {k : Nat} (h : runK E l k = none) (n : Nat) : runK E l (k + n) = none := by
  induction n with
  | zero => exact h
  | succ n ih => rw [← Nat.add_assoc]; simp only [runK]; rw [ih]
theorem runK_fail {E : Eqn} {l : List St} {k n : Nat} {A : Eqn} (hk : k < n) (h : runK E l k = some A) (hs : ¬ (stepEq A (l.getD k zeroSt)).2 = 0) : runK E l n = none := by
  have h1 : runK E l (k + 1) = none := by simp only [runK]; rw [h]; simp only [if_neg hs]
  have h2 := runK_none h1 (n - (k + 1))
  rwa [show k + 1 + (n - (k + 1)) = n from by omega] at h2
theorem runK_step {E : Eqn} {l : List St} {k : Nat} {A : Eqn} (h : runK E l k = some A) (hs : (stepEq A (l.getD k zeroSt)).2 = 0) : runK E l (k + 1) = some (stepEq A (l.getD k zeroSt)).1 := by
  simp only [runK]; rw [h]; simp only [if_pos hs]
/-- the end of a run: its equation, or that there is none -/
def ranOr (r : Option Eqn) : Eqn × Int := match r with
  | some A => (A, 0)
  | none => (zeroEqn, 5)
def RunSteps (E : Eqn) (l : List St) : Eqn × Int := if isEquation E then (if stCode l = 0 then ranOr (runK E l l.length) else (zeroEqn, stCode l)) else (zeroEqn, 1)
def ApplyStep (E : Eqn) (s : St) : Eqn × Int := RunSteps E [s]
theorem RunSteps_le (E : Eqn) (l : List St) : (RunSteps E l).1.L.pw.length ≤ 1048576 ∧ (RunSteps E l).1.R.pw.length ≤ 1048576 := by
  unfold RunSteps; split
  · rename_i hE
    split
    · cases hr : runK E l l.length with
      | none => exact ⟨zeroFm_le.1, zeroFm_le.1⟩
      | some A => have := isEquation_le (runK_ok hE _ hr); exact ⟨this.1, this.2.2.1⟩
    · exact ⟨zeroFm_le.1, zeroFm_le.1⟩
  · exact ⟨zeroFm_le.1, zeroFm_le.1⟩
theorem RunSteps_ok {E : Eqn} {l : List St} (h : (RunSteps E l).2 = 0) : isEquation (RunSteps E l).1 = true := by
  unfold RunSteps at h ⊢
  split at h
  · rename_i hE
    rw [if_pos hE]
    split at h
    · rename_i hc
      rw [if_pos hc]
      cases hr : runK E l l.length with
      | none => rw [hr] at h; simp [ranOr] at h
      | some A => exact runK_ok hE _ hr
    · rename_i hc; exact absurd h hc
  · simp at h
theorem ApplyStep_le (E : Eqn) (s : St) : (ApplyStep E s).1.L.pw.length ≤ 1048576 ∧ (ApplyStep E s).1.R.pw.length ≤ 1048576 := RunSteps_le _ _
theorem stCode_one (s : St) : stCode [s] = if isStep s then 0 else 1 := by
  unfold stCode allSt
  simp only [List.all_cons, List.all_nil, Bool.and_true, List.length_singleton]
  cases isStep s <;> simp
theorem ApplyStep_eq (E : Eqn) (s : St) : ApplyStep E s = if isEquation E && isStep s then (if (stepEq E s).2 = 0 then ((stepEq E s).1, 0) else (zeroEqn, 5)) else (zeroEqn, 1) := by
  unfold ApplyStep RunSteps
  rw [stCode_one]
  cases isEquation E
  · rfl
  · cases isStep s
    · rfl
    · simp only [if_true, List.length_singleton, runK, List.getD_cons_zero, Bool.and_self]
      split <;> rfl
end Go.Z
