/-
  PLAIN MATHEMATICS: a formula without a letter; made formulas that may be invalid.
-/
import Derived.Test.YtphlppklhpaljaaZMake
set_option linter.unusedVariables false
namespace Go.Z
def withF (F : Fm) (c : Int) (i : Nat) : Int := if 97 + (i : Int) = c then 0 else expo (bs F.nm) F.pw (97 + (i : Int))
def without (F : Fm) (c : Int) : Fm := made F.dg F.tn (withF F c) 26
def madeOr (d t : Int) (f : Nat → Int) : Fm × Int := if isFormula (made d t f 26) then (made d t f 26, 0) else (zeroFm, 3)
theorem with_set (F : Fm) (m : Nat) (hm : m < 26) : made F.dg F.tn (fun i => ((allOf F).set m 0).getD i 0) 26 = without F (97 + (m : Int)) := by
  apply made_congr
  intro i hi
  by_cases h : m = i
  · subst h
    simp [withF, List.getD_eq_getElem?_getD, allOf, hm]
  · have h' : ¬ (97 + (i : Int) = 97 + (m : Int)) := by omega
    rw [withF, if_neg h', ← allOf_get F i hi]
    simp [List.getD_eq_getElem?_getD, List.getElem?_set, h]
end Go.Z
