/-
  PLAIN MATHEMATICS: lists of int64s, units.
-/
import Derived.Test.YtphlppklhpaljaaZ
set_option linter.unusedVariables false
namespace Go.Z
def marks (k : Int) (n : Nat) : List Int := (List.range n).map (fun (i : Nat) => k + (i : Int))
theorem marks_length (k : Int) (n : Nat) : (marks k n).length = n := by simp [marks]
theorem marks_get (k : Int) (n i : Nat) (h : i < n) : (marks k n).getD i 0 = k + i := by simp [marks, List.getD_eq_getElem?_getD, h]
def in9 (n : Int) : Bool := decide (-9 ≤ n) && decide (n ≤ 9)
def isUnit (u : List Int) : Bool := u.all in9 && u.length == 4
theorem all_take_succ {f : Int → Bool} (l : List Int) (k : Nat) (h : k < l.length) : (l.take (k + 1)).all f = ((l.take k).all f && f (l.getD k 0)) := by
  rw [List.take_succ_eq_append_getElem h, List.all_append]; simp [List.getD_eq_getElem?_getD, h]
theorem all_bad {f : Int → Bool} (l : List Int) (k : Nat) (h : k < l.length) (hb : f (l.getD k 0) = false) : l.all f = false := by
  rw [List.all_eq_false]
  exact ⟨l[k], List.getElem_mem h, by simpa [List.getD_eq_getElem?_getD, h] using hb⟩
theorem take_set_eq (xs ys : List Int) (k : Nat) (hl : ys.length = xs.length) (hk : k < xs.length) (h : ys.take k = xs.take k) : (ys.set k (xs.getD k 0)).take (k + 1) = xs.take (k + 1) := by
  apply List.ext_getElem?
  intro i
  have hi := congrArg (fun l => l[i]?) h
  simp only [List.getElem?_take, List.getElem?_set] at hi ⊢
  by_cases h1 : i < k
  · simp [h1, Nat.lt_succ_of_lt h1, show k ≠ i by omega] at hi ⊢
    exact hi
  · by_cases h2 : i = k
    · subst h2
      simp [hl, hk, List.getD_eq_getElem?_getD]
    · simp [show ¬ i < k + 1 by omega]
def allIn (u : List Int) : Bool := u.all in9
theorem nat_beq4 (n : Nat) : ((n : Int) == 4) = (true && n == 4) := by rw [Bool.eq_iff_iff]; simp; omega
theorem in9_iff (n : Int) : in9 n = true ↔ -9 ≤ n ∧ n ≤ 9 := by simp [in9]
theorem isUnit_iff (u : List Int) : isUnit u = true ↔ u.length = 4 ∧ ∀ i, i < u.length → -9 ≤ u.getD i 0 ∧ u.getD i 0 ≤ 9 := by
  simp only [isUnit, Bool.and_eq_true, List.all_eq_true, beq_iff_eq]
  constructor
  · rintro ⟨h1, h2⟩
    refine ⟨h2, fun i hi => ?_⟩
    have := h1 _ (List.getElem_mem hi)
    rw [in9_iff] at this
    simpa [List.getD_eq_getElem?_getD, hi] using this
  · rintro ⟨h2, h1⟩
    refine ⟨fun x hx => ?_, h2⟩
    obtain ⟨i, hi, rfl⟩ := List.getElem_of_mem hx
    rw [in9_iff]
    simpa [List.getD_eq_getElem?_getD, hi] using h1 i hi
/-- a result, if it is a unit -/
def unitOr (u : List Int) : List Int × Int := if isUnit u then (u, 0) else ([], 3)
/-- sums of exponents, the second ones times n -/
def addN (u v : List Int) (n : Int) : List Int := (List.range u.length).map (fun i => u.getD i 0 + n * v.getD i 0)
theorem addN_length (u v : List Int) (n : Int) : (addN u v n).length = u.length := by simp [addN]
theorem addN_get (u v : List Int) (n : Int) (i : Nat) (h : i < u.length) : (addN u v n).getD i 0 = u.getD i 0 + n * v.getD i 0 := by simp [addN, List.getD_eq_getElem?_getD, h]
theorem take_succ_get (l : List Int) (k : Nat) (h : k < l.length) : l.take (k + 1) = l.take k ++ [l.getD k 0] := by
  rw [List.take_succ_eq_append_getElem h]; simp [List.getD_eq_getElem?_getD, h]
def MultiplyUnits (u v : List Int) : List Int × Int := if !isUnit u || !isUnit v then ([], 1) else unitOr (addN u v 1)
def PowerUnit (u : List Int) (n : Int) : List Int × Int := if !isUnit u then ([], 1) else if !in9 n then ([], 2) else unitOr (addN [0, 0, 0, 0] u n)
theorem isUnit_len {u : List Int} (h : isUnit u = true) : u.length = 4 := ((isUnit_iff u).1 h).1
theorem isUnit_bd {u : List Int} (h : isUnit u = true) : ∀ i, i < u.length → -1000000000 ≤ u.getD i 0 ∧ u.getD i 0 ≤ 1000000000 := fun i hi => by
  have := ((isUnit_iff u).1 h).2 i hi; omega
theorem isUnit_bd9 {u : List Int} (h : isUnit u = true) : ∀ i, i < u.length → -9 ≤ u.getD i 0 ∧ u.getD i 0 ≤ 9 := ((isUnit_iff u).1 h).2
theorem unitOr_len (u : List Int) : (unitOr u).1.length ≤ 4 := by
  unfold unitOr; split
  · rename_i h; exact Nat.le_of_eq (isUnit_len h)
  · simp
theorem MultiplyUnits_l {u : List Int} (v : List Int) (h : isUnit u = false) : MultiplyUnits u v = ([], 1) := by unfold MultiplyUnits; rw [h]; rfl
theorem MultiplyUnits_r {u v : List Int} (h : isUnit u = true) (h' : isUnit v = false) : MultiplyUnits u v = ([], 1) := by unfold MultiplyUnits; rw [h, h']; rfl
theorem MultiplyUnits_ok {u v : List Int} (h : isUnit u = true) (h' : isUnit v = true) : MultiplyUnits u v = unitOr (addN u v 1) := by unfold MultiplyUnits; rw [h, h']; rfl
theorem MultiplyUnits_len (u v : List Int) : (MultiplyUnits u v).1.length ≤ 1048576 := by
  unfold MultiplyUnits; split
  · simp
  · exact Nat.le_trans (unitOr_len _) (by decide)
theorem PowerUnit_1 {u : List Int} (n : Int) (h : isUnit u = false) : PowerUnit u n = ([], 1) := by unfold PowerUnit; rw [h]; rfl
theorem PowerUnit_2 {u : List Int} {n : Int} (h : isUnit u = true) (h' : in9 n = false) : PowerUnit u n = ([], 2) := by unfold PowerUnit; rw [h, h']; rfl
def mulN (u : List Int) (n : Int) : List Int := u.map (fun x => n * x)
theorem mulN_length (u : List Int) (n : Int) : (mulN u n).length = u.length := by simp [mulN]
theorem mulN_get (u : List Int) (n : Int) (k : Nat) (h : k < u.length) : (mulN u n).getD k 0 = n * u.getD k 0 := by simp [mulN, List.getD_eq_getElem?_getD, h]
theorem addN_zero {u : List Int} (n : Int) (h : u.length = 4) : addN [0, 0, 0, 0] u n = mulN u n := by
  match u, h with
  | [a, b, c, d], _ => simp [addN, mulN, List.range_succ]
theorem PowerUnit_3 {u : List Int} {n : Int} (h : isUnit u = true) (h' : in9 n = true) : PowerUnit u n = unitOr (mulN u n) := by
  rw [← addN_zero n (isUnit_len h)]; unfold PowerUnit; rw [h, h']; rfl
theorem PowerUnit_len (u : List Int) (n : Int) : (PowerUnit u n).1.length ≤ 1048576 := by
  unfold PowerUnit; split
  · simp
  · split
    · simp
    · exact Nat.le_trans (unitOr_len _) (by decide)
end Go.Z
