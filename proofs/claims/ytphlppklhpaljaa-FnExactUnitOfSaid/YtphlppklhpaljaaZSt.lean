/-
  PLAIN MATHEMATICS: steps of a derivation.
-/
import Derived.Test.YtphlppklhpaljaaRecs
set_option linter.unusedVariables false
namespace Go.Z
structure St where
  kd : Int
  nm : Int
  pw : Int
def zeroSt : St := ⟨0, 0, 0⟩
/-- A letter is a byte. -/
def byteSt (s : St) : Prop := 0 ≤ s.nm ∧ s.nm ≤ 255
def isStep (s : St) : Bool :=
  if s.kd = 0 then s.nm == 0 && s.pw == 0
  else if s.kd = 1 then decide (97 ≤ s.nm) && decide (s.nm ≤ 122) && !(s.pw == 0) && (decide (-6 ≤ s.pw) && decide (s.pw ≤ 6))
  else if s.kd = 2 then s.nm == 0 && !(s.pw == 0) && (decide (-3 ≤ s.pw) && decide (s.pw ≤ 3))
  else false
def allSt (l : List St) : Bool := l.all isStep
def stCode (l : List St) : Int := if allSt l then (if (l.length : Int) ≤ 12 then 0 else 3) else 1
def AreSteps (l : List St) : Bool := decide ((l.length : Int) ≤ 12) && allSt l
theorem AreSteps_code (l : List St) : AreSteps l = (stCode l == 0) := by
  unfold AreSteps stCode
  cases allSt l <;> by_cases h : (l.length : Int) ≤ 12 <;> simp [h]
theorem allSt_succ (l : List St) (k : Nat) (h : k < l.length) : allSt (l.take (k + 1)) = (allSt (l.take k) && isStep (l[k]'h)) := by
  unfold allSt
  rw [List.take_succ_eq_append_getElem h, List.all_append]; simp
theorem allSt_bad (l : List St) (k : Nat) (h : k < l.length) (hb : isStep (l[k]'h) = false) : allSt l = false := by
  unfold allSt
  rw [List.all_eq_false]
  exact ⟨l[k], List.getElem_mem h, by simpa using hb⟩
end Go.Z
namespace Go.K
def StR : Rec Z.St := ⟨3, fun s j => match j with | 0 => .int .i64 s.kd | 1 => .int .u8 s.nm | _ => .int .i64 s.pw⟩
end Go.K
