/-
  PLAIN MATHEMATICS: formulas made of exponents of a to z.
-/
import Derived.Test.YtphlppklhpaljaaZFm3
set_option linter.unusedVariables false
namespace Go.Z
def mkP (f : Nat → Int) : Nat → List Int
  | 0 => []
  | k + 1 => mkP f k ++ (if f k = 0 then [] else [f k])
def mkB (f : Nat → Int) : Nat → List UInt8
  | 0 => []
  | k + 1 => mkB f k ++ (if f k = 0 then [] else [(97 + k).toUInt8])
def made (d t : Int) (f : Nat → Int) (n : Nat) : Fm := ⟨d, t, ⟨(mkB f n).toArray⟩, mkP f n⟩
theorem mk_len (f : Nat → Int) (n : Nat) : (mkB f n).length = (mkP f n).length := by
  induction n with
  | zero => rfl
  | succ n ih => unfold mkB mkP; split <;> simp [ih]
theorem mkP_le (f : Nat → Int) (n : Nat) : (mkP f n).length ≤ n := by
  induction n with
  | zero => simp [mkP]
  | succ n ih => unfold mkP; split <;> simp <;> omega
theorem mk_congr {f g : Nat → Int} (n : Nat) (h : ∀ i, i < n → f i = g i) : mkP f n = mkP g n ∧ mkB f n = mkB g n := by
  induction n with
  | zero => exact ⟨rfl, rfl⟩
  | succ n ih =>
    obtain ⟨h1, h2⟩ := ih (fun i hi => h i (by omega))
    unfold mkP mkB
    rw [h1, h2, h n (by omega)]
    exact ⟨rfl, rfl⟩
theorem made_congr {d t : Int} {f g : Nat → Int} {n : Nat} (h : ∀ i, i < n → f i = g i) : made d t f n = made d t g n := by
  unfold made; rw [(mk_congr n h).1, (mk_congr n h).2]
theorem made_le (d t : Int) (f : Nat → Int) : (made d t f 26).pw.length ≤ 1048576 ∧ (made d t f 26).nm.size ≤ 1048576 := by
  have h1 := mkP_le f 26
  have h2 := mk_len f 26
  refine ⟨by simp only [made]; omega, ?_⟩
  simp only [made, ByteArray.size]
  simp
  omega
/-- the exponents of a to z, of the first k letters -/
def allK (F : Fm) (k : Nat) : List Int := (List.range 26).map (fun (i : Nat) => expo ((bs F.nm).take k) (F.pw.take k) (97 + (i : Int)))
def allOf (F : Fm) : List Int := (List.range 26).map (fun (i : Nat) => expo (bs F.nm) F.pw (97 + (i : Int)))
theorem allK_length (F : Fm) (k : Nat) : (allK F k).length = 26 := by simp [allK]
theorem allOf_length (F : Fm) : (allOf F).length = 26 := by simp [allOf]
theorem allOf_get (F : Fm) (i : Nat) (h : i < 26) : (allOf F).getD i 0 = expo (bs F.nm) F.pw (97 + (i : Int)) := by simp [allOf, List.getD_eq_getElem?_getD, h]
theorem allK_zero (F : Fm) : allK F 0 = List.replicate 26 0 := by
  apply List.ext_getElem
  · simp [allK]
  · intro i h1 h2
    rw [List.getElem_replicate]
    simp only [allK, List.getElem_map, List.take_zero, expo]
theorem allK_all {F : Fm} {k : Nat} (h : F.nm.size ≤ k) (h' : F.pw.length ≤ k) : allK F k = allOf F := by
  unfold allK allOf
  rw [List.take_of_length_le (by rw [bs_length]; exact h), List.take_of_length_le h']
theorem expo_none {ns ps : List Int} {c : Int} (h : c ∉ ns) : expo ns ps c = 0 := by
  induction ns generalizing ps with
  | nil => rfl
  | cons n ns ih =>
    match ps with
    | [] => rfl
    | p :: ps =>
      have h1 : ¬ (n = c) := fun e => h (by simp [e])
      have h2 : c ∉ ns := fun e => h (by simp [e])
      simp only [expo, if_neg h1, ih h2]
theorem expo_snoc {ns ps : List Int} (n p c : Int) (hl : ns.length = ps.length) (hn : n ∉ ns) : expo (ns ++ [n]) (ps ++ [p]) c = if n = c then p else expo ns ps c := by
  induction ns generalizing ps with
  | nil =>
    have hp : ps = [] := List.eq_nil_of_length_eq_zero (by simpa using hl.symm)
    subst hp
    simp only [List.nil_append, expo]
  | cons m ns ih =>
    match ps, hl with
    | q :: ps, hl =>
      have h2 : n ∉ ns := fun e => hn (by simp [e])
      have h1 : ¬ (n = m) := fun e => hn (by simp [e])
      simp only [List.cons_append, expo]
      rw [ih (by simpa using hl) h2]
      by_cases hm : m = c
      · rw [if_pos hm, if_pos hm, if_neg (fun e => h1 (by rw [e, hm]))]
      · rw [if_neg hm, if_neg hm]
/-- a valid formula's letters rise -/
theorem valid_at {F : Fm} (h : isFormula F = true) (i : Nat) (hi : i < F.nm.size) : okAt (bs F.nm) F.pw i = true := by
  simp only [isFormula, Bool.and_eq_true, List.all_eq_true] at h
  exact h.2 i (List.mem_range.2 hi)
theorem okAt_parts {ns ps : List Int} {i : Nat} (h : okAt ns ps i = true) : 97 ≤ ns.getD i 0 ∧ ns.getD i 0 ≤ 122 ∧ (0 < i → ns.getD (i - 1) 0 < ns.getD i 0) ∧ ps.getD i 0 ≠ 0 ∧ -6 ≤ ps.getD i 0 ∧ ps.getD i 0 ≤ 6 := by
  simp only [okAt, Bool.and_eq_true, Bool.not_eq_true', decide_eq_false_iff_not, Bool.and_eq_false_iff, decide_eq_true_eq, beq_eq_false_iff_ne, ne_eq] at h
  obtain ⟨⟨⟨⟨h1, h2⟩, h3⟩, h4⟩, h5, h6⟩ := h
  refine ⟨by omega, by omega, fun h0 => ?_, h4, h5, h6⟩
  rcases h3 with h3 | h3 <;> omega
theorem rising {F : Fm} (h : isFormula F = true) (j : Nat) (hj : j < F.nm.size) : ∀ i, i < j → (bs F.nm).getD i 0 < (bs F.nm).getD j 0 := by
  induction j with
  | zero => intro i hi; omega
  | succ j ih =>
    intro i hi
    have h1 := (okAt_parts (valid_at h (j + 1) hj)).2.2.1 (by omega)
    rw [Nat.add_sub_cancel] at h1
    rcases Nat.lt_or_ge i j with h2 | h2
    · have := ih (by omega) i h2; omega
    · have : i = j := by omega
      subst this; exact h1
theorem fresh_at {F : Fm} (h : isFormula F = true) (k : Nat) (hk : k < F.nm.size) : (bs F.nm).getD k 0 ∉ (bs F.nm).take k := by
  intro hm
  obtain ⟨i, hi, he⟩ := List.getElem_of_mem hm
  rw [List.length_take, bs_length] at hi
  have h1 := rising h k hk i (by omega)
  rw [List.getElem_take] at he
  rw [← he] at h1
  simp [List.getD_eq_getElem?_getD, bs_length, show i < F.nm.size by omega] at h1
theorem allK_succ {F : Fm} (h : isFormula F = true) (k : Nat) (hk : k < F.nm.size) :
    allK F (k + 1) = (allK F k).set ((bs F.nm).getD k 0 - 97).toNat (F.pw.getD k 0) := by
  obtain ⟨hl, _⟩ := isFormula_len h
  have hf := fresh_at h k hk
  obtain ⟨h1, h2, _⟩ := okAt_parts (valid_at h k hk)
  have hn : (bs F.nm).take (k + 1) = (bs F.nm).take k ++ [(bs F.nm).getD k 0] := take_succ_get _ _ (by rw [bs_length]; exact hk)
  have hp : F.pw.take (k + 1) = F.pw.take k ++ [F.pw.getD k 0] := take_succ_get _ _ (by omega)
  apply List.ext_getElem
  · simp [allK]
  · intro i hi hi'
    rw [List.getElem_set]
    simp only [allK, List.getElem_map, List.getElem_range, hn, hp]
    rw [expo_snoc _ _ _ (by simp [bs_length]; omega) hf]
    have hi26 : i < 26 := by simpa [allK] using hi
    by_cases hc : (bs F.nm).getD k 0 = 97 + (i : Int)
    · rw [if_pos hc, if_pos (by omega)]
    · rw [if_neg hc, if_neg (by omega)]
end Go.Z
