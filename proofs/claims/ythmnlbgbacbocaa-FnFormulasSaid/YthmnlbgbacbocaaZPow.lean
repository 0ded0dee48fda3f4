/-
  PLAIN MATHEMATICS: powers of formulas; equations whose sides are multiplied, raised; quotients; letters replaced, solved for.
-/
import Derived.Test.YthmnlbgbacbocaaMulF2
set_option linter.unusedVariables false
namespace Go.Z
/-- the factor, k times (or divided by), and the code -/
def pw1 (g : Bool) (x a : Int × Int) : (Int × Int) × Int := if g then MultiplyFigures x a else DivideFigures x a
def powK (g : Bool) (a : Int × Int) : Nat → (Int × Int) × Int
  | 0 => ((1000, 0), 0)
  | k + 1 => if (powK g a k).2 = 0 then pw1 g (powK g a k).1 a else powK g a k
theorem powK_succ (g : Bool) (a : Int × Int) (k : Nat) (h : (powK g a k).2 = 0) : powK g a (k + 1) = pw1 g (powK g a k).1 a := by
  simp only [powK, if_pos h]
theorem powK_stop (g : Bool) (a : Int × Int) (k : Nat) (h : ¬ (powK g a k).2 = 0) (n : Nat) (hk : k ≤ n) : powK g a n = powK g a k := by
  induction n with
  | zero => obtain rfl : k = 0 := by omega
            rfl
  | succ n ih =>
    by_cases hn : k = n + 1
    · rw [hn]
    · have hp : powK g a (n + 1) = powK g a n := by
        rw [powK, if_neg (by rw [ih (by omega)]; exact h)]
      rw [hp, ih (by omega)]
def powF (F : Fm) (n : Int) (i : Nat) : Int := n * expo (bs F.nm) F.pw (97 + (i : Int))
def raised (F : Fm) (n : Int) : Fm × Int :=
  if (powK (decide (0 < n)) (F.dg, F.tn) n.natAbs).2 = 0 then madeOr (powK (decide (0 < n)) (F.dg, F.tn) n.natAbs).1.1 (powK (decide (0 < n)) (F.dg, F.tn) n.natAbs).1.2 (powF F n)
  else (zeroFm, (powK (decide (0 < n)) (F.dg, F.tn) n.natAbs).2)
def pow3 (n : Int) : Bool := decide (-3 ≤ n) && decide (n ≤ 3)
def PowerFormula (F : Fm) (n : Int) : Fm × Int := if isFormula F then (if pow3 n then raised F n else (zeroFm, 2)) else (zeroFm, 1)
theorem zeroFm_le : zeroFm.pw.length ≤ 1048576 ∧ zeroFm.nm.size ≤ 1048576 := ⟨by simp [zeroFm], by simp [zeroFm, ByteArray.size]⟩
theorem madeOr_le (d t : Int) (f : Nat → Int) : (madeOr d t f).1.pw.length ≤ 1048576 ∧ (madeOr d t f).1.nm.size ≤ 1048576 := by
  unfold madeOr; split
  · exact made_le _ _ _
  · exact zeroFm_le
theorem raised_le (F : Fm) (n : Int) : (raised F n).1.pw.length ≤ 1048576 ∧ (raised F n).1.nm.size ≤ 1048576 := by
  unfold raised; split
  · exact madeOr_le _ _ _
  · exact zeroFm_le
theorem multiplied_le (F G : Fm) : (multiplied F G).1.pw.length ≤ 1048576 ∧ (multiplied F G).1.nm.size ≤ 1048576 := by
  unfold multiplied; split
  · exact madeOr_le _ _ _
  · exact zeroFm_le
theorem PowerFormula_le (F : Fm) (n : Int) : (PowerFormula F n).1.pw.length ≤ 1048576 ∧ (PowerFormula F n).1.nm.size ≤ 1048576 := by
  unfold PowerFormula; split
  · split
    · exact raised_le _ _
    · exact zeroFm_le
  · exact zeroFm_le
/-- a result with code 0 is valid -/
theorem madeOr_ok {d t : Int} {f : Nat → Int} (h : (madeOr d t f).2 = 0) : isFormula (madeOr d t f).1 = true := by
  unfold madeOr at h ⊢; split at h
  · rename_i hv; rw [if_pos hv]; exact hv
  · simp at h
theorem raised_ok {F : Fm} {n : Int} (h : (raised F n).2 = 0) : isFormula (raised F n).1 = true := by
  unfold raised at h ⊢; split at h
  · rename_i hz; rw [if_pos hz]; exact madeOr_ok h
  · rename_i hz; exact absurd h hz
theorem multiplied_ok {F G : Fm} (h : (multiplied F G).2 = 0) : isFormula (multiplied F G).1 = true := by
  unfold multiplied at h ⊢; split at h
  · rename_i hz; rw [if_pos hz]; exact madeOr_ok h
  · rename_i hz; exact absurd h hz
theorem PowerFormula_eq {F : Fm} {n : Int} (hF : isFormula F = true) (hn : -3 ≤ n ∧ n ≤ 3) : PowerFormula F n = raised F n := by
  have : pow3 n = true := by simp [pow3]; omega
  unfold PowerFormula; rw [hF, this]; rfl
theorem MultiplyFormulas_eq {F G : Fm} (hF : isFormula F = true) (hG : isFormula G = true) : MultiplyFormulas F G = multiplied F G := by unfold MultiplyFormulas; rw [hF, hG]; rfl
/-- the exponents times n, of the first k letters -/
def powL (F : Fm) (n : Int) (k : Nat) : List Int := (List.range 26).map (fun i => if i < k then powF F n i else expo (bs F.nm) F.pw (97 + (i : Int)))
theorem powL_length (F : Fm) (n : Int) (k : Nat) : (powL F n k).length = 26 := by simp [powL]
theorem powL_zero (F : Fm) (n : Int) : powL F n 0 = allOf F := by simp [powL, allOf]
theorem powL_get (F : Fm) (n : Int) (k i : Nat) (h : i < 26) : (powL F n k).getD i 0 = if i < k then powF F n i else expo (bs F.nm) F.pw (97 + (i : Int)) := by simp [powL, List.getD_eq_getElem?_getD, h]
theorem powL_succ (F : Fm) (n : Int) (k : Nat) (hk : k < 26) : powL F n (k + 1) = (powL F n k).set k (powF F n k) := by
  apply List.ext_getElem
  · simp [powL]
  · intro i hi hi'
    rw [List.getElem_set]
    simp only [powL, List.getElem_map, List.getElem_range]
    by_cases h : k = i
    · subst h; simp
    · rw [if_neg h]
      by_cases h2 : i < k
      · rw [if_pos h2, if_pos (by omega)]
      · rw [if_neg h2, if_neg (by omega)]
theorem powL_made (F : Fm) (n : Int) (d t : Int) : made d t (fun i => (powL F n 26).getD i 0) 26 = made d t (powF F n) 26 := by
  apply made_congr
  intro i hi
  show (powL F n 26).getD i 0 = _
  rw [powL_get F n 26 i hi, if_pos hi]
theorem made_fmOr (d t : Int) (f : Nat → Int) : fmOr (made d t f 26) = madeOr d t f := rfl
/-- equations -/
def zeroEqn : Eqn := ⟨zeroFm, zeroFm⟩
def bothOf (a b : Fm × Int) : Eqn × Int := if a.2 = 0 then (if b.2 = 0 then (⟨a.1, b.1⟩, 0) else (zeroEqn, b.2)) else (zeroEqn, a.2)
def TimesFormula (E : Eqn) (F : Fm) : Eqn × Int := if isEquation E && isFormula F then bothOf (multiplied E.L F) (multiplied E.R F) else (zeroEqn, 1)
def RaiseSides (E : Eqn) (n : Int) : Eqn × Int := if isEquation E then (if n = 0 then (zeroEqn, 2) else if pow3 n then bothOf (raised E.L n) (raised E.R n) else (zeroEqn, 2)) else (zeroEqn, 1)
def quotient (E : Eqn) : Fm × Int := if (raised E.R (-1)).2 = 0 then multiplied E.L (raised E.R (-1)).1 else (zeroFm, (raised E.R (-1)).2)
def QuotientFormula (E : Eqn) : Fm × Int := if isEquation E then quotient E else (zeroFm, 1)
theorem isEquation_parts {E : Eqn} (h : isEquation E = true) : isFormula E.L = true ∧ isFormula E.R = true := by
  unfold isEquation at h; rw [Bool.and_eq_true] at h; exact h
theorem bothOf_le {a b : Fm × Int} (ha : a.1.pw.length ≤ 1048576 ∧ a.1.nm.size ≤ 1048576) (hb : b.1.pw.length ≤ 1048576 ∧ b.1.nm.size ≤ 1048576) : (bothOf a b).1.L.pw.length ≤ 1048576 ∧ (bothOf a b).1.R.pw.length ≤ 1048576 := by
  unfold bothOf; split
  · split
    · exact ⟨ha.1, hb.1⟩
    · exact ⟨zeroFm_le.1, zeroFm_le.1⟩
  · exact ⟨zeroFm_le.1, zeroFm_le.1⟩
theorem TimesFormula_le (E : Eqn) (F : Fm) : (TimesFormula E F).1.L.pw.length ≤ 1048576 ∧ (TimesFormula E F).1.R.pw.length ≤ 1048576 := by
  unfold TimesFormula; split
  · exact bothOf_le (multiplied_le _ _) (multiplied_le _ _)
  · exact ⟨zeroFm_le.1, zeroFm_le.1⟩
theorem RaiseSides_le (E : Eqn) (n : Int) : (RaiseSides E n).1.L.pw.length ≤ 1048576 ∧ (RaiseSides E n).1.R.pw.length ≤ 1048576 := by
  unfold RaiseSides; split
  · split
    · exact ⟨zeroFm_le.1, zeroFm_le.1⟩
    · split
      · exact bothOf_le (raised_le _ _) (raised_le _ _)
      · exact ⟨zeroFm_le.1, zeroFm_le.1⟩
  · exact ⟨zeroFm_le.1, zeroFm_le.1⟩
theorem quotient_le (E : Eqn) : (quotient E).1.pw.length ≤ 1048576 ∧ (quotient E).1.nm.size ≤ 1048576 := by
  unfold quotient; split
  · exact multiplied_le _ _
  · exact zeroFm_le
theorem QuotientFormula_le (E : Eqn) : (QuotientFormula E).1.pw.length ≤ 1048576 ∧ (QuotientFormula E).1.nm.size ≤ 1048576 := by
  unfold QuotientFormula; split
  · exact quotient_le _
  · exact zeroFm_le
theorem quotient_ok {E : Eqn} (h : (quotient E).2 = 0) : isFormula (quotient E).1 = true := by
  unfold quotient at h ⊢; split at h
  · rename_i hz; rw [if_pos hz]; exact multiplied_ok h
  · rename_i hz; exact absurd h hz
/-- results' exponents are not 0 -/
theorem mkP_nz (f : Nat → Int) (n : Nat) : ∀ x ∈ mkP f n, x ≠ 0 := by
  induction n with
  | zero => intro x hx; simp [mkP] at hx
  | succ n ih =>
    intro x hx
    unfold mkP at hx
    split at hx
    · exact ih x (by simpa using hx)
    · rename_i hz
      rcases List.mem_append.1 hx with h | h
      · exact ih x h
      · rw [List.mem_singleton.1 h]; exact hz
theorem zeroFm_nz : ∀ x ∈ zeroFm.pw, x ≠ 0 := by intro x hx; simp [zeroFm] at hx
theorem madeOr_nz (d t : Int) (f : Nat → Int) : ∀ x ∈ (madeOr d t f).1.pw, x ≠ 0 := by
  unfold madeOr; split
  · exact mkP_nz _ _
  · exact zeroFm_nz
theorem multiplied_nz (F G : Fm) : ∀ x ∈ (multiplied F G).1.pw, x ≠ 0 := by
  unfold multiplied; split
  · exact madeOr_nz _ _ _
  · exact zeroFm_nz
theorem raised_nz (F : Fm) (n : Int) : ∀ x ∈ (raised F n).1.pw, x ≠ 0 := by
  unfold raised; split
  · exact madeOr_nz _ _ _
  · exact zeroFm_nz
theorem MultiplyFormulas_nz (F G : Fm) : ∀ x ∈ (MultiplyFormulas F G).1.pw, x ≠ 0 := by
  unfold MultiplyFormulas; split
  · exact multiplied_nz _ _
  · exact zeroFm_nz
theorem bothOf_nz {a b : Fm × Int} (ha : ∀ x ∈ a.1.pw, x ≠ 0) (hb : ∀ x ∈ b.1.pw, x ≠ 0) : (∀ x ∈ (bothOf a b).1.L.pw, x ≠ 0) ∧ ∀ x ∈ (bothOf a b).1.R.pw, x ≠ 0 := by
  unfold bothOf; split
  · split
    · exact ⟨ha, hb⟩
    · exact ⟨zeroFm_nz, zeroFm_nz⟩
  · exact ⟨zeroFm_nz, zeroFm_nz⟩
theorem TimesFormula_nz (E : Eqn) (F : Fm) : (∀ x ∈ (TimesFormula E F).1.L.pw, x ≠ 0) ∧ ∀ x ∈ (TimesFormula E F).1.R.pw, x ≠ 0 := by
  unfold TimesFormula; split
  · exact bothOf_nz (multiplied_nz _ _) (multiplied_nz _ _)
  · exact ⟨zeroFm_nz, zeroFm_nz⟩
end Go.Z
