/-
  PLAIN MATHEMATICS: a valid formula without a letter is valid.
-/
import Derived.Test.YtphlppklhpaljaaZWith
set_option linter.unusedVariables false
namespace Go.Z
def mkN (f : Nat → Int) : Nat → List Int
  | 0 => []
  | k + 1 => mkN f k ++ (if f k = 0 then [] else [97 + (k : Int)])
theorem mkN_len (f : Nat → Int) (n : Nat) : (mkN f n).length = (mkP f n).length := by
  induction n with
  | zero => rfl
  | succ n ih => unfold mkN mkP; split <;> simp [ih]
theorem mkN_bs (f : Nat → Int) (n : Nat) (h : n ≤ 26) : (mkB f n).map (fun b => (b.toNat : Int)) = mkN f n := by
  induction n with
  | zero => rfl
  | succ n ih =>
    unfold mkN mkB
    rw [List.map_append, ih (by omega)]
    split
    · rfl
    · have : (97 + n).toUInt8.toNat = 97 + n := by simp; omega
      simp only [List.map_cons, List.map_nil, this]
      simp
theorem getD_snoc (l : List Int) (x : Int) (j : Nat) (h : j < l.length + 1) : (l ++ [x]).getD j 0 = if j < l.length then l.getD j 0 else x := by
  by_cases hj : j < l.length
  · rw [if_pos hj]; simp [List.getD_eq_getElem?_getD, List.getElem?_append_left hj]
  · have : j = l.length := by omega
    subst this
    simp [List.getD_eq_getElem?_getD]
theorem mk_at (f : Nat → Int) (n : Nat) : ∀ j, j < (mkP f n).length → 97 ≤ (mkN f n).getD j 0 ∧ (mkN f n).getD j 0 < 97 + (n : Int) ∧ (0 < j → (mkN f n).getD (j - 1) 0 < (mkN f n).getD j 0) ∧ ∃ i, i < n ∧ (mkP f n).getD j 0 = f i ∧ f i ≠ 0 := by
  induction n with
  | zero => intro j hj; simp [mkP] at hj
  | succ n ih =>
    intro j hj
    have hl := mkN_len f n
    by_cases hz : f n = 0
    · have e1 : mkN f (n + 1) = mkN f n := by simp [mkN, hz]
      have e2 : mkP f (n + 1) = mkP f n := by simp [mkP, hz]
      rw [e2] at hj
      rw [e1, e2]
      obtain ⟨h1, h2, h3, i, h4, h5⟩ := ih j hj
      exact ⟨h1, by omega, h3, i, by omega, h5⟩
    · have e1 : mkN f (n + 1) = mkN f n ++ [97 + (n : Int)] := by simp [mkN, hz]
      have e2 : mkP f (n + 1) = mkP f n ++ [f n] := by simp [mkP, hz]
      rw [e2, List.length_append, List.length_singleton] at hj
      rw [e1, e2, getD_snoc _ _ _ (by omega), getD_snoc _ _ _ hj]
      by_cases hj' : j < (mkP f n).length
      · obtain ⟨h1, h2, h3, i, h4, h5⟩ := ih j hj'
        rw [if_pos (by omega), if_pos hj']
        refine ⟨h1, by omega, fun h0 => ?_, i, by omega, h5⟩
        rw [getD_snoc _ _ _ (by omega), if_pos (by omega)]
        exact h3 h0
      · rw [if_neg (by omega), if_neg hj']
        refine ⟨by omega, by omega, fun h0 => ?_, n, by omega, rfl, hz⟩
        rw [getD_snoc _ _ _ (by omega), if_pos (by omega)]
        exact (ih (j - 1) (by omega)).2.1
theorem made_ok {d t : Int} {f : Nat → Int} (hf : isFig d t = true) (h6 : ∀ i, i < 26 → -6 ≤ f i ∧ f i ≤ 6) (hl : (mkP f 26).length ≤ 6) : isFormula (made d t f 26) = true := by
  have hb : bs (made d t f 26).nm = mkN f 26 := by
    rw [← mkN_bs f 26 (Nat.le_refl _)]; simp [bs, made]
  have hs : (made d t f 26).nm.size = (mkP f 26).length := by rw [← bs_length, hb, mkN_len]
  have hp : (made d t f 26).pw = mkP f 26 := rfl
  unfold isFormula
  rw [hs, hb, hp]
  have h1 : isFig (made d t f 26).dg (made d t f 26).tn = true := hf
  rw [h1]
  simp only [Bool.true_and, Bool.and_eq_true, decide_eq_true_eq, beq_self_eq_true, and_true, List.all_eq_true, List.mem_range]
  refine ⟨hl, fun j hj => ?_⟩
  obtain ⟨h1, h2, h3, i, h4, h5, h7⟩ := mk_at f 26 j hj
  obtain ⟨h8, h9⟩ := h6 i h4
  simp only [okAt, Bool.and_eq_true, Bool.not_eq_true', decide_eq_false_iff_not, Bool.and_eq_false_iff, decide_eq_true_eq, beq_eq_false_iff_ne, ne_eq]
  rw [h5]
  refine ⟨⟨⟨⟨by omega, by omega⟩, ?_⟩, h7⟩, h8, h9⟩
  by_cases h0 : 0 < j
  · right; have := h3 h0; omega
  · left; exact h0
theorem cnt_le (l : List Int) (a : Int) : l.countP (fun x => decide (x < a)) ≤ l.countP (fun x => decide (x < a + 1)) := by
  induction l with
  | nil => simp
  | cons x l ih =>
    simp only [List.countP_cons, decide_eq_true_eq]
    split <;> split <;> omega
theorem cnt_mem (l : List Int) (a : Int) (h : a ∈ l) : l.countP (fun x => decide (x < a)) + 1 ≤ l.countP (fun x => decide (x < a + 1)) := by
  induction l with
  | nil => simp at h
  | cons x l ih =>
    simp only [List.countP_cons, decide_eq_true_eq]
    rcases List.mem_cons.1 h with rfl | h
    · have := cnt_le l a
      split <;> split <;> omega
    · have := ih h
      split <;> split <;> omega
theorem mk_count (ns : List Int) (f : Nat → Int) (h : ∀ i : Nat, f i ≠ 0 → 97 + (i : Int) ∈ ns) (n : Nat) : (mkP f n).length ≤ ns.countP (fun x => decide (x < 97 + (n : Int))) := by
  induction n with
  | zero => simp [mkP]
  | succ n ih =>
    have e : (97 : Int) + ((n + 1 : Nat) : Int) = 97 + (n : Int) + 1 := by omega
    rw [e]
    by_cases hz : f n = 0
    · have e2 : mkP f (n + 1) = mkP f n := by simp [mkP, hz]
      rw [e2]
      exact Nat.le_trans ih (cnt_le _ _)
    · have e2 : mkP f (n + 1) = mkP f n ++ [f n] := by simp [mkP, hz]
      rw [e2, List.length_append, List.length_singleton]
      exact Nat.le_trans (Nat.succ_le_succ ih) (cnt_mem _ _ (h n hz))
theorem expo_bd {ns ps : List Int} (h : ∀ j, j < ns.length → -6 ≤ ps.getD j 0 ∧ ps.getD j 0 ≤ 6) (c : Int) : -6 ≤ expo ns ps c ∧ expo ns ps c ≤ 6 := by
  induction ns generalizing ps with
  | nil => simp [expo]
  | cons n ns ih =>
    match ps with
    | [] => simp [expo]
    | p :: ps =>
      simp only [expo]
      split
      · simpa using h 0 (by simp)
      · exact ih (fun j hj => by simpa using h (j + 1) (by simpa using hj))
theorem without_ok {F : Fm} (h : isFormula F = true) (c : Int) : isFormula (without F c) = true := by
  obtain ⟨hl, h6⟩ := isFormula_len h
  have hfig : isFig F.dg F.tn = true := by
    simp only [isFormula, Bool.and_eq_true] at h; exact h.1.1.1
  refine made_ok hfig (fun i hi => ?_) ?_
  · unfold withF
    split
    · omega
    · exact expo_bd (fun j hj => by
        have := okAt_parts (valid_at h j (by rw [bs_length] at hj; exact hj))
        exact ⟨this.2.2.2.2.1, this.2.2.2.2.2⟩) _
  · refine Nat.le_trans (mk_count (bs F.nm) _ (fun i hi => ?_) 26) (Nat.le_trans List.countP_le_length (by rw [bs_length]; exact h6))
    apply Classical.byContradiction
    intro hn
    apply hi
    unfold withF
    split
    · rfl
    · exact expo_none hn
theorem madeOr_without {F : Fm} (h : isFormula F = true) (c : Int) : madeOr F.dg F.tn (withF F c) = (without F c, 0) := by
  unfold madeOr
  rw [if_pos (show isFormula (made F.dg F.tn (withF F c) 26) = true from without_ok h c)]
  rfl
end Go.Z
