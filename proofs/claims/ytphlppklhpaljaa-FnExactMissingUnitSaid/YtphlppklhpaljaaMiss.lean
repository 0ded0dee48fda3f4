/-
  THE UNIT that is missing, both sides.
-/
import Derived.Test.YtphlppklhpaljaaUnitOf
import Derived.Test.YtphlppklhpaljaaFit
import Derived.Deep.RegionHeld3
import Derived.Deep.DrawnRows
import Derived.WalkSpells
import Derived.StillTactics
import Derived.Laws.Pointers
set_option linter.unusedVariables false
namespace Go.Z
/-- what is left for the missing unit -/
def restOf (F : Fm) (uss : List (List Int)) (ix : Nat) (r : List Int) : List Int := addN (addN r (unitK F.pw uss uss.length) (-1)) (uss.getD ix []) (F.pw.getD ix 0)
def missK (rest : List Int) (n : Int) : Nat → Option (List Int)
  | 0 => some []
  | k + 1 => match missK rest n k with
    | none => none
    | some l => if (rest.getD k 0).tmod n = 0 then some (l ++ [(rest.getD k 0).tdiv n]) else none
def missOr (r : Option (List Int)) : List Int × Int := match r with
  | some l => unitOr l
  | none => ([], 4)
def MissingUnit (F : Fm) (uss : List (List Int)) (ix : Int) (r : List Int) : List Int × Int :=
  if isFormula F && okUnits F uss && isUnit r then (if 0 ≤ ix ∧ ix ≤ (uss.length : Int) - 1 then missOr (missK (restOf F uss ix.toNat r) (F.pw.getD ix.toNat 0) 4) else ([], 2)) else ([], 1)
theorem missK_length {rest : List Int} {n : Int} (k : Nat) {l : List Int} (h : missK rest n k = some l) : l.length = k := by
  induction k generalizing l with
  | zero => simp only [missK, Option.some.injEq] at h; subst h; rfl
  | succ k ih =>
    simp only [missK] at h
    split at h
    · cases h
    · rename_i l' hl'
      split at h
      · simp only [Option.some.injEq] at h; subst h; simp [ih hl']
      · cases h
theorem missK_none {rest : List Int} {n : Int} {k : Nat} (h : missK rest n k = none) (m : Nat) : missK rest n (k + m) = none := by
  induction m with
  | zero => exact h
  | succ m ih => rw [← Nat.add_assoc]; simp only [missK]; rw [ih]
theorem missK_bad {rest : List Int} {n : Int} {k m : Nat} {l : List Int} (hk : k < m) (h : missK rest n k = some l) (hb : ¬ (rest.getD k 0).tmod n = 0) : missK rest n m = none := by
  have h1 : missK rest n (k + 1) = none := by simp only [missK]; rw [h]; simp only [if_neg hb]
  have h2 := missK_none h1 (m - (k + 1))
  rwa [show k + 1 + (m - (k + 1)) = m from by omega] at h2
theorem missK_step {rest : List Int} {n : Int} {k : Nat} {l : List Int} (h : missK rest n k = some l) (hb : (rest.getD k 0).tmod n = 0) : missK rest n (k + 1) = some (l ++ [(rest.getD k 0).tdiv n]) := by
  simp only [missK]; rw [h]; simp only [if_pos hb]
theorem MissingUnit_le (F : Fm) (uss : List (List Int)) (ix : Int) (r : List Int) : (MissingUnit F uss ix r).1.length ≤ 1048576 := by
  unfold MissingUnit; split
  · split
    · cases missK (restOf F uss ix.toNat r) (F.pw.getD ix.toNat 0) 4 with
      | none => simp [missOr]
      | some l => exact Nat.le_trans (unitOr_len _) (by decide)
    · simp
  · simp
/-- the parts of what is left -/
theorem rest_get {F : Fm} {uss : List (List Int)} {ix : Nat} {r : List Int} (hr : isUnit r = true) (k : Nat) (hk : k < 4) : (restOf F uss ix r).getD k 0 = (r.getD k 0 + -1 * (unitK F.pw uss uss.length).getD k 0) + F.pw.getD ix 0 * (uss.getD ix []).getD k 0 := by
  have h4 := isUnit_len hr
  unfold restOf
  rw [addN_get _ _ _ _ (by rw [addN_length, h4]; exact hk), addN_get _ _ _ _ (by rw [h4]; exact hk)]
theorem formula_pw {F : Fm} (h : isFormula F = true) (i : Nat) (hi : i < F.nm.size) : F.pw.getD i 0 ≠ 0 ∧ -6 ≤ F.pw.getD i 0 ∧ F.pw.getD i 0 ≤ 6 := by
  have h1 := okAt_parts (valid_at h i hi)
  exact ⟨h1.2.2.2.1, h1.2.2.2.2.1, h1.2.2.2.2.2⟩
theorem units_bd {F : Fm} {uss : List (List Int)} (hF : isFormula F = true) (hU : okUnits F uss = true) (k : Nat) (hk : k < 4) : -324 ≤ (unitK F.pw uss uss.length).getD k 0 ∧ (unitK F.pw uss uss.length).getD k 0 ≤ 324 := by
  obtain ⟨h1, h2⟩ := okUnits_len hU
  have h6 := (isFormula_len hF).2
  have hu : ∀ j (hj : j < uss.length), isUnit (uss[j]'hj) = true := fun j hj => by
    unfold allUnits at h2; rw [List.all_eq_true] at h2; exact h2 _ (List.getElem_mem hj)
  have h := unitK_bd hu (fun j hj => (formula_pw hF j (by omega)).2) uss.length (Nat.le_refl _) k hk
  omega
theorem units_at {F : Fm} {uss : List (List Int)} (hU : okUnits F uss = true) (i : Nat) (hi : i < uss.length) : isUnit (uss.getD i []) = true := by
  obtain ⟨h1, h2⟩ := okUnits_len hU
  have e : uss.getD i [] = uss[i] := by simp [List.getD_eq_getElem?_getD, hi]
  rw [e]; unfold allUnits at h2; rw [List.all_eq_true] at h2; exact h2 _ (List.getElem_mem hi)
end Go.Z
namespace Go.K
open Go.RowKit
def SP.intsA (xs : List Int) : SP := ⟨fun v w => ∃ lo hi, K.ints w lo hi v xs, fun _ _ _ hx ⟨lo, hi, h⟩ => ⟨lo, hi, h.ext hx⟩⟩
theorem SP.intsA_at {xs : List Int} {v : Value} {w : World} (h : (SP.intsA xs).p v w) : ∃ lo hi, K.ints w lo hi v xs := h
theorem SP.own_at {B : Nat} {xs : List Int} {v : Value} {w : World} (h : (SP.own B xs).p v w) : ∃ hi, B ≤ hi ∧ hi ≤ w.heap.size ∧ K.own w B hi v xs := h
end Go.K
namespace Go.Proofs.Ytphlppklhpaljaa
open Go.RowKit
attribute [local go_sem ↓] Go.wp_at_zero Go.wp_at_succ
set_option maxRecDepth 100000 in
set_option maxHeartbeats 6400000 in
theorem impl_MissingUnit (F : Z.Fm) (U : List (List Int)) (ix : Int) (r : List Int) {loF hiF : Nat} {pF : Value} {loU hiU : Nat} {pU : Value} {lor hir : Nat} {pr : Value} (w : World)  (hmF : F.pw.length ≤ 1048576) (hnF : F.nm.size ≤ 1048576) (hF : K.ints w loF hiF pF F.pw) (hmU : U.length ≤ 1048576) (hqU : ∀ xs ∈ U, (xs : List Int).length ≤ 1048576) (hU : K.rows w loU hiU pU U) (hmr : r.length ≤ 1048576) (hr : K.ints w lor hir pr r) :
    Calls Try.prog 30 #[.agg #[.int .i64 F.dg, .int .i64 F.tn, .string F.nm, pF], pU, .int .i64 ix, pr] w fun e w' => (∃ p', e = .returned (.tuple #[p', .int .i64 ((Z.MissingUnit F U ix r).2)]) ∧ K.own w' w.heap.size w'.heap.size p' ((Z.MissingUnit F U ix r).1)) ∧ K.Ext w w' := by
  have hF_ := hF
  have shF := hF
  obtain ⟨oF, cF, rfl, _⟩ := shF
  have hU_ := hU
  have shU := hU
  obtain ⟨oU, cU, _, rfl, _⟩ := shU
  have hr_ := hr
  have shr := hr
  obtain ⟨or, cr, rfl, _⟩ := shr
  obtain ⟨t, ht⟩ : ∃ t, t = (Z.isFormula F && Z.okUnits F U) := ⟨_, rfl⟩
  have HA : ∀ {a b c d : Nat} {p v : Value} (w : World), K.ints w a b p F.pw → K.rows w c d v U → Calls Try.prog 109 #[.agg #[.int .i64 F.dg, .int .i64 F.tn, .string F.nm, p], v] w fun e w' => e = .returned (.bool t) ∧ K.Ext w w' := fun w h h' => by rw [ht]; exact areUnits_any F U w hmF hnF h hmU hqU h'
  cases t
  · have HE : Hid (Z.MissingUnit F U ix r = ([], 1)) := Z.hide (by unfold Z.MissingUnit; rw [← ht]; rfl)
    clear ht
    have X0 : K.Ext w w := K.Ext.refl w
    go_enter Try.func30, Try.ntmps30
    go_wp2_with (go_at_call 109; refine K.call (by with_reducible rfl) (by with_reducible rfl) (HA _ (K.ints.alloc hF_ _) (K.rows.alloc hU_ _)) ?_; rintro e w1 ⟨rfl, x1⟩; have s1 : w.heap.size + 1 ≤ w1.heap.size := (by have h_ := x1.size; (try simp at h_); omega); have X1 := K.Ext.trans (K.Ext.alloc X0 _) x1; obtain ⟨c1_0_0, c1_0_1, c1_0_2, c1_0_3⟩ := K.c4 x1 (w.heap.size) (.int .i64 F.dg) (.int .i64 F.tn) (.string F.nm) (.slice oF F.pw.length cF) (by go_simp); have z1_0 : w.heap.size < w1.heap.size := World.block_lt_of_cell? w1 _ c1_0_0; have d1_0 : ¬ (w.heap.size = w1.heap.size) := (by omega); have e1_0 : ¬ (w1.heap.size = w.heap.size) := (by omega); have F1_1 := K.ints.ext (K.ints.alloc hF_ _) x1; have F2_1 := K.rows.ext (K.rows.alloc hU_ _) x1; have F3_1 := K.ints.ext (K.ints.alloc hr_ _) x1; clear hF_ hU_ hr_)
    rw [HE.out]
    refine bodyPost_ret (v := .tuple #[.slice none 0 0, .int .i64 1]) (by unfold results; rw [Try.results30]; go_simp) rfl ⟨⟨_, rfl, ?_⟩, ?_⟩
    · exact K.own_nil _ _ _
    · repeat with_reducible refine K.Ext.setCell ?_ (by dsimp only; omega) _
      exact (by repeat' (first | with_reducible exact X1 | with_reducible refine K.Ext.setCell ?_ ?_ _ | with_reducible refine K.Ext.alloc ?_ _ | with_reducible refine K.Ext.drew ?_ | (dsimp only; omega) | omega | (simp; omega)))
  cases vr : Z.isUnit r
  · have HE : Hid (Z.MissingUnit F U ix r = ([], 1)) := Z.hide (by unfold Z.MissingUnit; rw [← ht, vr]; rfl)
    clear ht
    have X0 : K.Ext w w := K.Ext.refl w
    go_enter Try.func30, Try.ntmps30
    go_wp2_with (go_at_call 109; refine K.call (by with_reducible rfl) (by with_reducible rfl) (HA _ (K.ints.alloc hF_ _) (K.rows.alloc hU_ _)) ?_; rintro e w1 ⟨rfl, x1⟩; have s1 : w.heap.size + 1 ≤ w1.heap.size := (by have h_ := x1.size; (try simp at h_); omega); have X1 := K.Ext.trans (K.Ext.alloc X0 _) x1; obtain ⟨c1_0_0, c1_0_1, c1_0_2, c1_0_3⟩ := K.c4 x1 (w.heap.size) (.int .i64 F.dg) (.int .i64 F.tn) (.string F.nm) (.slice oF F.pw.length cF) (by go_simp); have z1_0 : w.heap.size < w1.heap.size := World.block_lt_of_cell? w1 _ c1_0_0; have d1_0 : ¬ (w.heap.size = w1.heap.size) := (by omega); have e1_0 : ¬ (w1.heap.size = w.heap.size) := (by omega); have F1_1 := K.ints.ext (K.ints.alloc hF_ _) x1; have F2_1 := K.rows.ext (K.rows.alloc hU_ _) x1; have F3_1 := K.ints.ext (K.ints.alloc hr_ _) x1; clear hF_ hU_ hr_)
    go_wp2_with (go_at_call 65; refine K.call (by with_reducible rfl) (by with_reducible rfl) (impl_IsUnit r _ _ _ _ hmr (F3_1)) ?_; rintro e w_ ⟨rfl, rfl⟩)
    rw [HE.out]
    refine bodyPost_ret (v := .tuple #[.slice none 0 0, .int .i64 1]) (by unfold results; rw [Try.results30]; go_simp) rfl ⟨⟨_, rfl, ?_⟩, ?_⟩
    · exact K.own_nil _ _ _
    · repeat with_reducible refine K.Ext.setCell ?_ (by dsimp only; omega) _
      exact (by repeat' (first | with_reducible exact X1 | with_reducible refine K.Ext.setCell ?_ ?_ _ | with_reducible refine K.Ext.alloc ?_ _ | with_reducible refine K.Ext.drew ?_ | (dsimp only; omega) | omega | (simp; omega)))
  have h3 : Z.isFormula F = true ∧ Z.okUnits F U = true := by simpa using ht.symm
  obtain ⟨vF, vU⟩ := h3
  have hUl := (Z.okUnits_len vU).1
  by_cases hix : 0 ≤ ix ∧ ix ≤ (U.length : Int) - 1
  case neg =>
    have HE : Hid (Z.MissingUnit F U ix r = ([], 2)) := Z.hide (by unfold Z.MissingUnit; rw [← ht, vr, Bool.true_and, if_pos rfl, if_neg hix])
    have hwi : (decide (0 ≤ ix) && decide (ix ≤ (U.length : Int) - 1)) = false := by rw [Bool.and_eq_false_iff]; simp only [decide_eq_false_iff_not]; omega
    have HW : ∀ w : World, Calls Try.prog 114 #[.int .i64 ix, .int .i64 0, .int .i64 ((U.length : Int) - 1)] w fun e w' => e = .returned (.bool false) ∧ w = w' := fun w => by rw [← hwi]; exact within_any _ _ _ _
    clear ht hwi hix hUl vF vU
    have X0 : K.Ext w w := K.Ext.refl w
    go_enter Try.func30, Try.ntmps30
    go_wp2_with (go_at_call 109; refine K.call (by with_reducible rfl) (by with_reducible rfl) (HA _ (K.ints.alloc hF_ _) (K.rows.alloc hU_ _)) ?_; rintro e w1 ⟨rfl, x1⟩; have s1 : w.heap.size + 1 ≤ w1.heap.size := (by have h_ := x1.size; (try simp at h_); omega); have X1 := K.Ext.trans (K.Ext.alloc X0 _) x1; obtain ⟨c1_0_0, c1_0_1, c1_0_2, c1_0_3⟩ := K.c4 x1 (w.heap.size) (.int .i64 F.dg) (.int .i64 F.tn) (.string F.nm) (.slice oF F.pw.length cF) (by go_simp); have z1_0 : w.heap.size < w1.heap.size := World.block_lt_of_cell? w1 _ c1_0_0; have d1_0 : ¬ (w.heap.size = w1.heap.size) := (by omega); have e1_0 : ¬ (w1.heap.size = w.heap.size) := (by omega); have F1_1 := K.ints.ext (K.ints.alloc hF_ _) x1; have F2_1 := K.rows.ext (K.rows.alloc hU_ _) x1; have F3_1 := K.ints.ext (K.ints.alloc hr_ _) x1; clear hF_ hU_ hr_)
    go_wp2_with (go_at_call 65; refine K.call (by with_reducible rfl) (by with_reducible rfl) (impl_IsUnit r _ _ _ _ hmr (F3_1)) ?_; rintro e w_ ⟨rfl, rfl⟩)
    go_wp2_with (go_at_call 114; refine K.call (by with_reducible rfl) (by with_reducible rfl) (HW _) ?_; rintro e w_ ⟨rfl, rfl⟩)
    rw [HE.out]
    refine bodyPost_ret (v := .tuple #[.slice none 0 0, .int .i64 2]) (by unfold results; rw [Try.results30]; go_simp) rfl ⟨⟨_, rfl, ?_⟩, ?_⟩
    · exact K.own_nil _ _ _
    · repeat with_reducible refine K.Ext.setCell ?_ (by dsimp only; omega) _
      exact (by repeat' (first | with_reducible exact X1 | with_reducible refine K.Ext.setCell ?_ ?_ _ | with_reducible refine K.Ext.alloc ?_ _ | with_reducible refine K.Ext.drew ?_ | (dsimp only; omega) | omega | (simp; omega)))
  obtain ⟨i, rfl⟩ : ∃ i : Nat, ix = (i : Int) := ⟨ix.toNat, by omega⟩
  have hiU : i < U.length := by omega
  have hiF : i < F.nm.size := by omega
  have hwi : (decide (0 ≤ (i : Int)) && decide ((i : Int) ≤ (U.length : Int) - 1)) = true := by rw [Bool.and_eq_true]; simp only [decide_eq_true_eq]; omega
  have HW : Hid (∀ w : World, Calls Try.prog 114 #[.int .i64 (i : Int), .int .i64 0, .int .i64 ((U.length : Int) - 1)] w fun e w' => e = .returned (.bool true) ∧ w = w') := Z.hide (fun w => by rw [← hwi]; exact within_any _ _ _ _)
  obtain ⟨all, hall⟩ : ∃ k, k = Z.unitK F.pw U U.length := ⟨_, rfl⟩
  obtain ⟨n, hn⟩ : ∃ n, n = F.pw.getD i 0 := ⟨_, rfl⟩
  obtain ⟨u, hu⟩ : ∃ u, u = U.getD i [] := ⟨_, rfl⟩
  obtain ⟨rest, hrest⟩ : ∃ l, l = Z.restOf F U i r := ⟨_, rfl⟩
  have HE : Hid (Z.MissingUnit F U (i : Int) r = Z.missOr (Z.missK rest n 4)) := Z.hide (by unfold Z.MissingUnit; rw [← ht, vr, Bool.true_and, if_pos rfl, if_pos hix, Int.toNat_natCast, ← hrest, ← hn])
  have HG : Hid (∀ k, k < 4 → rest.getD k 0 = (r.getD k 0 + -1 * all.getD k 0) + n * u.getD k 0) := Z.hide (fun k hk => by rw [hrest, Z.rest_get vr k hk, ← hall, ← hn, ← hu])
  have HBr := Z.hide (Z.isUnit_bd9 vr)
  have hr4 := Z.isUnit_len vr
  have HBa : Hid (∀ k, k < 4 → -324 ≤ all.getD k 0 ∧ all.getD k 0 ≤ 324) := Z.hide (fun k hk => by rw [hall]; exact Z.units_bd vF vU k hk)
  have hall4 : all.length = 4 := by rw [hall]; exact Z.unitK_length _ _ _
  have hUu : Z.isUnit u = true := by rw [hu]; exact Z.units_at vU i hiU
  have HBu := Z.hide (Z.isUnit_bd9 hUu)
  have hu4 := Z.isUnit_len hUu
  obtain ⟨hn0, hn1, hn2⟩ : n ≠ 0 ∧ -6 ≤ n ∧ n ≤ 6 := by rw [hn]; exact Z.formula_pw vF i hiF
  have HK : Hid (∀ {a b c d : Nat} {p v : Value} (w : World), K.ints w a b p F.pw → K.rows w c d v U → Calls Try.prog 111 #[.agg #[.int .i64 F.dg, .int .i64 F.tn, .string F.nm, p], v] w fun e w' => (∃ r, e = .returned r ∧ K.own w' w.heap.size w'.heap.size r all) ∧ K.Ext w w') := Z.hide (fun w h h' => by rw [hall]; exact unitOf_any F U w vF (Z.okUnits_len vU).1 (Z.okUnits_len vU).2 h h')
  have hpl := (Z.isFormula_len vF).1
  have HAA : Hid (∀ w' : World, K.Ext w w' → Calls Try.prog 109 #[.agg #[.int .i64 F.dg, .int .i64 F.tn, .string F.nm, .slice oF F.pw.length cF], .slice oU U.length cU] w' fun e w'' => e = .returned (.bool true) ∧ K.Ext w' w'') := Z.hide (fun w' hx => HA w' (hF.ext hx) (hU.ext hx))
  have HIU : Hid (∀ w' : World, K.Ext w w' → Calls Try.prog 65 #[.slice or r.length cr] w' fun e w'' => e = .returned (.bool true) ∧ w' = w'') := Z.hide (fun w' hx => by have h_ := impl_IsUnit r _ _ _ w' hmr (hr.ext hx); rwa [vr] at h_)
  obtain ⟨b, off, hoF, _, _, hc⟩ := K.ints_at hF (by omega)
  have p0 : w.cell? ⟨b, off + i, none⟩ = some (.int .i64 n) := by rw [hn]; exact hc i (by omega)
  obtain ⟨bU, offU, uv, hoU, _, _, hcU, hiU2⟩ := K.rows_at hU i hiU
  have eu : U[i]'hiU = u := by rw [hu]; simp [List.getD_eq_getElem?_getD, hiU]
  rw [eu] at hiU2
  have hiU3 := hiU2
  obtain ⟨ou, cu, rfl, _⟩ := hiU3
  obtain ⟨bu, offu, hou, _, _, hcu⟩ := K.ints_at hiU2 (by omega)
  obtain ⟨br, offr, hor, _, _, hcr⟩ := K.ints_at hr (by omega)
  obtain ⟨it0, hi0, hz0, hz1, hz2⟩ := info_parts info_int
  have HFw := Z.hide hF
  have HUw := Z.hide hU
  have HCU := Z.hide hcu
  have HCR := Z.hide hcr
  have HRR := Z.hide hr4
  have i0 : (0 : Int) ≤ (i : Int) := Int.natCast_nonneg i
  have i1 : (i : Int) < (U.length : Int) := by omega
  have i2 : (i : Int) < (F.pw.length : Int) := by omega
  have H4 := Z.hide hall4
  have HU4 := Z.hide hu4
  subst hoF hoU hou hor
  have lb := World.block_lt_of_cell? w _ p0
  have lbU := World.block_lt_of_cell? w _ hcU
  clear hr4 hu4 hF hU hr ht hc hcu hcr hiU2 HA vF vU vr hUl hix hwi hu hn hrest hall hall4 hUu eu hpl
  go_enter Try.func30, Try.ntmps30
  go_wp2_with (first | ((go_at_call 109; refine K.call (by with_reducible rfl) (by with_reducible rfl) (HAA.out _ (by repeat' (first | with_reducible exact K.Ext.refl _ | with_reducible assumption | with_reducible refine K.Ext.drew ?_ | with_reducible refine K.Ext.alloc ?_ _ | with_reducible refine K.Ext.setCell ?_ ?_ _ | with_reducible refine K.Ext.trans ?_ (by with_reducible assumption) | (dsimp only; omega) | omega | exact K.Ext.refl _ | assumption | apply K.Ext.drew | refine K.Ext.alloc ?_ _ | refine K.Ext.setCell ?_ ?_ _ | (simp; done) | (simp; omega) | refine K.Ext.trans ?_ (by assumption)))) ?_; rintro e wa ⟨rfl, hwa⟩); have X1 := K.Ext.trans (show K.Ext w _ from (by repeat' (first | with_reducible exact K.Ext.refl _ | with_reducible assumption | with_reducible refine K.Ext.drew ?_ | with_reducible refine K.Ext.alloc ?_ _ | with_reducible refine K.Ext.setCell ?_ ?_ _ | with_reducible refine K.Ext.trans ?_ (by with_reducible assumption) | (dsimp only; omega) | omega | exact K.Ext.refl _ | assumption | apply K.Ext.drew | refine K.Ext.alloc ?_ _ | refine K.Ext.setCell ?_ ?_ _ | (simp; done) | (simp; omega) | refine K.Ext.trans ?_ (by assumption)))) hwa; have c_wa_0_0 : wa.cell? ⟨w.heap.size, 0, none⟩ = some (.int .i64 (F.dg)) := hwa.cell_of (by go_simp); have f_wa_0_0 : wa.frozen? ⟨w.heap.size, 0, none⟩ = false := hwa.thaw_of (by go_simp) (by go_simp); have c_wa_0_1 : wa.cell? ⟨w.heap.size, 1, none⟩ = some (.int .i64 (F.tn)) := hwa.cell_of (by go_simp); have f_wa_0_1 : wa.frozen? ⟨w.heap.size, 1, none⟩ = false := hwa.thaw_of (by go_simp) (by go_simp); have c_wa_0_2 : wa.cell? ⟨w.heap.size, 2, none⟩ = some (.string F.nm) := hwa.cell_of (by go_simp); have f_wa_0_2 : wa.frozen? ⟨w.heap.size, 2, none⟩ = false := hwa.thaw_of (by go_simp) (by go_simp); have c_wa_0_3 : wa.cell? ⟨w.heap.size, 3, none⟩ = some (.slice (some ⟨b, off, none⟩) F.pw.length cF) := hwa.cell_of (by go_simp); have f_wa_0_3 : wa.frozen? ⟨w.heap.size, 3, none⟩ = false := hwa.thaw_of (by go_simp) (by go_simp); have z1 := hwa.size; simp at z1) | (go_at_call 65; refine K.call (by with_reducible rfl) (by with_reducible rfl) (HIU.out _ X1) ?_; rintro e w' ⟨rfl, rfl⟩) | (go_at_call 114; refine K.call (by with_reducible rfl) (by with_reducible rfl) (HW.out _) ?_; rintro e w' ⟨rfl, rfl⟩) | ((go_at_call 111; refine K.call (by with_reducible rfl) (by with_reducible rfl) (HK.out _ (HFw.out.ext X1) (HUw.out.ext X1)) ?_; rintro e wb ⟨⟨p2, rfl, g2⟩, hwb⟩); have g2' := g2; obtain ⟨o2, c2, rfl, _⟩ := K.own.ints g2'; have X2 := X1.trans hwb; have c_wb_0_0 : wb.cell? ⟨w.heap.size, 0, none⟩ = some (.int .i64 (F.dg)) := hwb.cell_of (by go_simp); have f_wb_0_0 : wb.frozen? ⟨w.heap.size, 0, none⟩ = false := hwb.thaw_of (by go_simp) (by go_simp); have c_wb_0_1 : wb.cell? ⟨w.heap.size, 1, none⟩ = some (.int .i64 (F.tn)) := hwb.cell_of (by go_simp); have f_wb_0_1 : wb.frozen? ⟨w.heap.size, 1, none⟩ = false := hwb.thaw_of (by go_simp) (by go_simp); have c_wb_0_2 : wb.cell? ⟨w.heap.size, 2, none⟩ = some (.string F.nm) := hwb.cell_of (by go_simp); have f_wb_0_2 : wb.frozen? ⟨w.heap.size, 2, none⟩ = false := hwb.thaw_of (by go_simp) (by go_simp); have c_wb_0_3 : wb.cell? ⟨w.heap.size, 3, none⟩ = some (.slice (some ⟨b, off, none⟩) F.pw.length cF) := hwb.cell_of (by go_simp); have f_wb_0_3 : wb.frozen? ⟨w.heap.size, 3, none⟩ = false := hwb.thaw_of (by go_simp) (by go_simp); have z2 := hwb.size; have p1 := X2.cell_of p0))
  obtain ⟨ba, offa, hoa, _, _, hca⟩ := K.ints_at (K.own.ints g2) (by rw [H4.out]; decide)
  subst hoa
  have HCA := Z.hide hca
  have HX2 := Z.hide X2
  have HCUo := Z.hide hcU
  clear hwa hwb X1 X2 g2 g2' hca hcU HAA HIU HW HK HFw HUw
  go_loopw [12, 44] (fun out jj wr => ∃ k : Nat, k ≤ r.length ∧ jj = .int .i64 k ∧ Hid (∃ l, Z.missK rest n k = some l ∧ wr.ownsRow wb.heap.size 2 1 out k (l.map (Value.int .i64))) ∧ Hid (K.Ext wb wr)) (fun _ jj _ => r.length - (intOf jj).toNat)
  case atStart => exact ⟨0, Nat.zero_le _, rfl, Z.hide ⟨[], rfl, World.ownsRow_lit wb #[] 0 (Nat.le_refl _) (by decide) rfl⟩, Z.hide ((K.Ext.refl _).alloc _)⟩
  case round =>
    obtain ⟨k, hk, rfl, HS, HX⟩ := hrel
    obtain ⟨l, hl, ho⟩ := HS.out
    have HL := Z.hide hl
    have HO := Z.hide ho
    clear HS hl ho
    have k0 : (0 : Int) ≤ (k : Int) := Int.natCast_nonneg k
    have lw := HX.out.size
    by_cases hlt : k < r.length
    · have k1 : (k : Int) < (r.length : Int) := by omega
      have hk4 : k < 4 := by rw [← HRR.out]; exact hlt
      have k2 : (k : Int) < (all.length : Int) := by rw [H4.out]; omega
      have k3 : (k : Int) < (u.length : Int) := by rw [HU4.out]; omega
      have cr : wr.cell? ⟨br, offr + k, none⟩ = some (.int .i64 (r.getD k 0)) := HX.out.cell_of (HX2.out.cell_of (HCR.out k hlt))
      have ca : wr.cell? ⟨ba, offa + k, none⟩ = some (.int .i64 (all.getD k 0)) := HX.out.cell_of (HCA.out k (by rw [H4.out]; exact hk4))
      have cu_ : wr.cell? ⟨bu, offu + k, none⟩ = some (.int .i64 (u.getD k 0)) := HX.out.cell_of (HX2.out.cell_of (HCU.out k (by rw [HU4.out]; exact hk4)))
      have cU : wr.cell? ⟨bU, offU + i, none⟩ = some (.slice (some ⟨bu, offu, none⟩) u.length cu) := HX.out.cell_of (HX2.out.cell_of HCUo.out)
      obtain ⟨a1, a2⟩ := HBr.out k hlt
      obtain ⟨a3, a4⟩ := HBa.out k hk4
      obtain ⟨a5, a6⟩ := HBu.out k (by rw [HU4.out]; exact hk4)
      have hg := HG.out k hk4
      have HRm : Hid (¬ (rest.getD k 0).tmod n = 0 → Z.MissingUnit F U (i : Int) r = ([], 4)) := Z.hide (fun h => by rw [HE.out, Z.missK_bad hk4 HL.out h]; rfl)
      have HRs : Hid ((rest.getD k 0).tmod n = 0 → Z.missK rest n (k + 1) = some (l ++ [(rest.getD k 0).tdiv n])) := Z.hide (fun h => Z.missK_step HL.out h)
      generalize r.getD k 0 = x at *
      generalize all.getD k 0 = a at *
      generalize u.getD k 0 = y at *
      generalize rest.getD k 0 = z at *
      obtain ⟨m1, m2⟩ := Z.mul_bd n y 6 9 hn1 hn2 a5 a6
      have hz : z = x - a + n * y := by omega
      subst hz
      clear hg
      have q1 : IntKind.i64.wrap (n * y) = n * y := IntWalk.i64_in _ (by omega)
      have q2 : IntKind.i64.wrap (x - a) = x - a := IntWalk.i64_in _ (by omega)
      have q3 : IntKind.i64.wrap (x - a + n * y) = x - a + n * y := IntWalk.i64_in _ (by omega)
      go_wp2_with fail
      refine K.wp_region_x 16 [0, 0, 0, 0, 1, 0, 0, 0, 0, 0, 1, 0, 0, 1, 0, 0] [] (by kernel_rfl) (by kernel_rfl) ?_
      simp only [List.take_succ_cons, List.take_zero, List.drop_succ_cons, List.drop_zero]
      iterate 4
        apply K.x_pure
        · rfl
        · rfl
        · intro w'; go_simp; first | done | exact K.vint (IntWalk.i64_in _ (by omega)) | rfl | exact ⟨rfl, rfl⟩
        simp only [Act.put, List.setIfInBounds_toArray, List.set]
      apply K.x_held
      · rfl
      · rfl
      · intro w' hx; have hc := hx.all.1.1; have hf := hx.all.1.2; have hc' := hx.all.2.1; have hf' := hx.all.2.2; go_simp; first | done | rfl | exact ⟨rfl, rfl⟩
      simp only [Act.put, List.setIfInBounds_toArray, List.set]
      iterate 5
        apply K.x_pure
        · rfl
        · rfl
        · intro w'; go_simp; first | done | exact K.vint (IntWalk.i64_in _ (by omega)) | rfl | exact ⟨rfl, rfl⟩
        simp only [Act.put, List.setIfInBounds_toArray, List.set]
      apply K.x_held
      · rfl
      · rfl
      · intro w' hx; have hc := hx.all.1.1; have hf := hx.all.1.2; have hc' := hx.all.2.1; have hf' := hx.all.2.2; go_simp; first | done | rfl | exact ⟨rfl, rfl⟩
      simp only [Act.put, List.setIfInBounds_toArray, List.set]
      iterate 2
        apply K.x_pure
        · rfl
        · rfl
        · intro w'; go_simp; first | done | exact K.vint (IntWalk.i64_in _ (by omega)) | rfl | exact ⟨rfl, rfl⟩
        simp only [Act.put, List.setIfInBounds_toArray, List.set]
      apply K.x_held
      · rfl
      · rfl
      · intro w' hx; have hc := hx.all.1.1; have hf := hx.all.1.2; have hc' := hx.all.2.1; have hf' := hx.all.2.2; go_simp; first | done | rfl | exact ⟨rfl, rfl⟩
      simp only [Act.put, List.setIfInBounds_toArray, List.set]
      iterate 2
        apply K.x_pure
        · rfl
        · rfl
        · intro w'; go_simp; first | done | exact K.vint (IntWalk.i64_in _ (by omega)) | rfl | exact ⟨rfl, rfl⟩
        simp only [Act.put, List.setIfInBounds_toArray, List.set]
      apply K.x_done
      intro w6 h_x
      have hx6 := K.Ext.id h_x
      clear h_x
      obtain ⟨⟨hcw6, hfw6⟩, hc'w6, hf'w6⟩ := hx6.all
      go_wp2_with fail
      refine NoPanic.normal ?_
      obtain ⟨d1, d2⟩ := Z.tdiv_bd (x - a + n * y) n 1000 (by omega) (by omega)
      have HO6 := Z.hide (K.row_ext HO.out.drew hx6)
      have HX6 := Z.hide (K.Ext.trans HX.out.drew hx6)
      have lw6 := HX6.out.size
      by_cases hm0 : (x - a + n * y).tmod n = 0
      · have HT := Z.hide (HRs.out hm0)
        have q4 : IntKind.i64.wrap ((x - a + n * y).tdiv n) = (x - a + n * y).tdiv n := IntWalk.i64_in _ (by omega)
        clear HRs HRm HX hx6
        go_wp2_with ((at_builtin; refine wpList_append_lies _ rfl _ _ _ rfl (wb.heap.size) 2 it0 _ 1 8 Try.underlying24 hi0 hz0 hz1 hz2 rfl (by omega) u12 k _ rfl (HO6.out.alloc _) ⟨w6.heap.size, 0, none⟩ 1 1 [.int .i64 ((x - a + n * y).tdiv n)] rfl rfl (World.news_of_block (cs := #[.int .i64 ((x - a + n * y).tdiv n)]) (t := 2) (fr := (0, 0)) (K.block_new (by simp))) (by simp [Value.oneCell']) (by omega) (by unfold maxLen; omega) (by first | omega | (simp; omega)) (by first | omega | (simp; omega)) (w6.heap.size + 1) (by simp) ?_; intro g2 gcap2 w2 hown2 hgrow2 hat2 hlt3; have HR2 : Hid (∀ g, u12.ownBlock = some g → wb.heap.size ≤ g) := Z.hide (fun g hg => (HO6.out.lt g hg).1); have HP2 := Z.hide hown2))
        have HX7 : Hid (K.Ext wb w2) := Z.hide ((HX6.out.alloc _).below.grown hgrow2 (by simp; omega) (fun g hg => HR2.out g hg))
        clear hown2 hgrow2 hat2
        go_roundw
        case rel => exact ⟨k + 1, by omega, by go_num, Z.hide ⟨_, HT.out, by simpa using HP2.out⟩, HX7⟩
        case measure => first | (simp [intOf]; done) | (simp [intOf]; omega)
      · have HEb := Z.hide (HRm.out hm0)
        clear HRs HRm HX hx6
        go_wp2
        rw [HEb.out]
        go_ret2
        exact ⟨⟨_, rfl, K.own_nil _ _ _⟩, HX2.out.trans HX6.out⟩
    · obtain rfl : k = r.length := by omega
      obtain ⟨M, hM⟩ : ∃ M, M = Z.unitOr l := ⟨_, rfl⟩
      have hl4 : l.length ≤ 1048576 := by rw [Z.missK_length _ HL.out, HRR.out]; decide
      have HEe : Hid (Z.MissingUnit F U (i : Int) r = M) := Z.hide (by have h_ := HL.out; rw [HRR.out] at h_; rw [HE.out, h_, hM]; rfl)
      have HUo : Hid (Calls Try.prog 110 #[u12] wr fun e w' => (∃ r, e = .returned (.tuple #[r, .int .i64 M.2]) ∧ K.own wr wb.heap.size wr.heap.size r M.1) ∧ wr = w') := Z.hide (by rw [hM]; exact unitOr_any l _ _ _ wr hl4 (K.own_of_row HO.out))
      clear hM HO HL
      go_wp2_with ((go_at_call 110; refine K.call (by with_reducible rfl) (by with_reducible rfl) (HUo.out) ?_; rintro e w9 ⟨⟨p9, rfl, g9⟩, rfl⟩))
      rw [HEe.out]
      go_ret2
      exact ⟨⟨_, rfl, g9.mono (by omega) (Nat.le_refl _)⟩, HX2.out.trans HX.out⟩
set_option maxRecDepth 100000 in
set_option maxHeartbeats 6400000 in
theorem spec_MissingUnit (F : Z.Fm) (U : List (List Int)) (ix : Int) (r : List Int) {loF hiF : Nat} {pF : Value} {loU hiU : Nat} {pU : Value} {lor hir : Nat} {pr : Value} (w : World)  (hmF : F.pw.length ≤ 1048576) (hnF : F.nm.size ≤ 1048576) (hF : K.ints w loF hiF pF F.pw) (hmU : U.length ≤ 1048576) (hqU : ∀ xs ∈ U, (xs : List Int).length ≤ 1048576) (hU : K.rows w loU hiU pU U) (hmr : r.length ≤ 1048576) (hr : K.ints w lor hir pr r) :
    Calls Try.prog 28 #[.agg #[.int .i64 F.dg, .int .i64 F.tn, .string F.nm, pF], pU, .int .i64 ix, pr] w fun e w' => (∃ p', e = .returned (.tuple #[p', .int .i64 ((Z.MissingUnit F U ix r).2)]) ∧ K.ints w' w.heap.size w'.heap.size p' ((Z.MissingUnit F U ix r).1)) ∧ K.Ext w w' := by
  have hF_ := hF
  have shF := hF
  obtain ⟨oF, cF, rfl, _⟩ := shF
  have hU_ := hU
  have shU := hU
  obtain ⟨oU, cU, _, rfl, _⟩ := shU
  have hr_ := hr
  have shr := hr
  obtain ⟨or, cr, rfl, _⟩ := shr
  cases vF : Z.isFormula F
  · have HE : Hid (Z.MissingUnit F U ix r = ([], 1)) := Z.hide (by unfold Z.MissingUnit; rw [vF]; rfl)
    have X0 : K.Ext w w := K.Ext.refl w
    go_enter Try.func28, Try.ntmps28
    go_wp2_with (go_at_call 104; refine K.call (by with_reducible rfl) (by with_reducible rfl) (spec_IsFormula F _ hmF hnF (K.ints.alloc hF_ _)) ?_; rintro e w1 ⟨rfl, x1⟩; have s1 : w.heap.size + 1 ≤ w1.heap.size := (by have h_ := x1.size; (try simp at h_); omega); have X1 := K.Ext.trans (K.Ext.alloc X0 _) x1; obtain ⟨c1_0_0, c1_0_1, c1_0_2, c1_0_3⟩ := K.c4 x1 (w.heap.size) (.int .i64 F.dg) (.int .i64 F.tn) (.string F.nm) (.slice oF F.pw.length cF) (by go_simp); have z1_0 : w.heap.size < w1.heap.size := World.block_lt_of_cell? w1 _ c1_0_0; have d1_0 : ¬ (w.heap.size = w1.heap.size) := (by omega); have e1_0 : ¬ (w1.heap.size = w.heap.size) := (by omega); have F1_1 := K.ints.ext (K.ints.alloc hF_ _) x1; have F2_1 := K.rows.ext (K.rows.alloc hU_ _) x1; have F3_1 := K.ints.ext (K.ints.alloc hr_ _) x1; clear hF_ hU_ hr_)
    rw [HE.out]
    refine bodyPost_ret (v := .tuple #[.slice none 0 0, .int .i64 1]) (by unfold results; rw [Try.results28]; go_simp) rfl ⟨⟨_, rfl, ?_⟩, ?_⟩
    · exact K.ints_nil _ _ _
    · repeat with_reducible refine K.Ext.setCell ?_ (by dsimp only; omega) _
      exact (by repeat' (first | with_reducible exact X1 | with_reducible refine K.Ext.setCell ?_ ?_ _ | with_reducible refine K.Ext.alloc ?_ _ | with_reducible refine K.Ext.drew ?_ | (dsimp only; omega) | omega | (simp; omega)))
  cases vU : Z.okUnits F U
  · have HE : Hid (Z.MissingUnit F U ix r = ([], 1)) := Z.hide (by unfold Z.MissingUnit; rw [vF, vU]; rfl)
    have X0 : K.Ext w w := K.Ext.refl w
    go_enter Try.func28, Try.ntmps28
    go_wp2_with (go_at_call 104; refine K.call (by with_reducible rfl) (by with_reducible rfl) (spec_IsFormula F _ hmF hnF (K.ints.alloc hF_ _)) ?_; rintro e w1 ⟨rfl, x1⟩; have s1 : w.heap.size + 1 ≤ w1.heap.size := (by have h_ := x1.size; (try simp at h_); omega); have X1 := K.Ext.trans (K.Ext.alloc X0 _) x1; obtain ⟨c1_0_0, c1_0_1, c1_0_2, c1_0_3⟩ := K.c4 x1 (w.heap.size) (.int .i64 F.dg) (.int .i64 F.tn) (.string F.nm) (.slice oF F.pw.length cF) (by go_simp); have z1_0 : w.heap.size < w1.heap.size := World.block_lt_of_cell? w1 _ c1_0_0; have d1_0 : ¬ (w.heap.size = w1.heap.size) := (by omega); have e1_0 : ¬ (w1.heap.size = w.heap.size) := (by omega); have F1_1 := K.ints.ext (K.ints.alloc hF_ _) x1; have F2_1 := K.rows.ext (K.rows.alloc hU_ _) x1; have F3_1 := K.ints.ext (K.ints.alloc hr_ _) x1; clear hF_ hU_ hr_)
    go_wp2_with (go_at_call 105; refine K.call (by with_reducible rfl) (by with_reducible rfl) (l19Units_any F U _ hnF hmU hqU (F2_1)) ?_; rintro e w2 ⟨rfl, x2⟩; have s2 : w1.heap.size ≤ w2.heap.size := (by have h_ := x2.size; (try simp at h_); omega); have X2 := K.Ext.trans (X1) x2; obtain ⟨c2_0_0, c2_0_1, c2_0_2, c2_0_3⟩ := K.c4 x2 (w.heap.size) (.int .i64 F.dg) (.int .i64 F.tn) (.string F.nm) (.slice oF F.pw.length cF) (by go_simp); have z2_0 : w.heap.size < w2.heap.size := World.block_lt_of_cell? w2 _ c2_0_0; have d2_0 : ¬ (w.heap.size = w2.heap.size) := (by omega); have e2_0 : ¬ (w2.heap.size = w.heap.size) := (by omega); have F1_2 := K.ints.ext (F1_1) x2; have F2_2 := K.rows.ext (F2_1) x2; have F3_2 := K.ints.ext (F3_1) x2; clear c1_0_0 c1_0_1 c1_0_2 c1_0_3 z1_0 d1_0 e1_0 F1_1 F2_1 F3_1)
    rw [HE.out]
    refine bodyPost_ret (v := .tuple #[.slice none 0 0, .int .i64 1]) (by unfold results; rw [Try.results28]; go_simp) rfl ⟨⟨_, rfl, ?_⟩, ?_⟩
    · exact K.ints_nil _ _ _
    · repeat with_reducible refine K.Ext.setCell ?_ (by dsimp only; omega) _
      exact (by repeat' (first | with_reducible exact X2 | with_reducible refine K.Ext.setCell ?_ ?_ _ | with_reducible refine K.Ext.alloc ?_ _ | with_reducible refine K.Ext.drew ?_ | (dsimp only; omega) | omega | (simp; omega)))
  cases vr : Z.isUnit r
  · have HE : Hid (Z.MissingUnit F U ix r = ([], 1)) := Z.hide (by unfold Z.MissingUnit; rw [vF, vU, vr]; rfl)
    have X0 : K.Ext w w := K.Ext.refl w
    go_enter Try.func28, Try.ntmps28
    go_wp2_with (go_at_call 104; refine K.call (by with_reducible rfl) (by with_reducible rfl) (spec_IsFormula F _ hmF hnF (K.ints.alloc hF_ _)) ?_; rintro e w1 ⟨rfl, x1⟩; have s1 : w.heap.size + 1 ≤ w1.heap.size := (by have h_ := x1.size; (try simp at h_); omega); have X1 := K.Ext.trans (K.Ext.alloc X0 _) x1; obtain ⟨c1_0_0, c1_0_1, c1_0_2, c1_0_3⟩ := K.c4 x1 (w.heap.size) (.int .i64 F.dg) (.int .i64 F.tn) (.string F.nm) (.slice oF F.pw.length cF) (by go_simp); have z1_0 : w.heap.size < w1.heap.size := World.block_lt_of_cell? w1 _ c1_0_0; have d1_0 : ¬ (w.heap.size = w1.heap.size) := (by omega); have e1_0 : ¬ (w1.heap.size = w.heap.size) := (by omega); have F1_1 := K.ints.ext (K.ints.alloc hF_ _) x1; have F2_1 := K.rows.ext (K.rows.alloc hU_ _) x1; have F3_1 := K.ints.ext (K.ints.alloc hr_ _) x1; clear hF_ hU_ hr_)
    go_wp2_with (go_at_call 105; refine K.call (by with_reducible rfl) (by with_reducible rfl) (l19Units_any F U _ hnF hmU hqU (F2_1)) ?_; rintro e w2 ⟨rfl, x2⟩; have s2 : w1.heap.size ≤ w2.heap.size := (by have h_ := x2.size; (try simp at h_); omega); have X2 := K.Ext.trans (X1) x2; obtain ⟨c2_0_0, c2_0_1, c2_0_2, c2_0_3⟩ := K.c4 x2 (w.heap.size) (.int .i64 F.dg) (.int .i64 F.tn) (.string F.nm) (.slice oF F.pw.length cF) (by go_simp); have z2_0 : w.heap.size < w2.heap.size := World.block_lt_of_cell? w2 _ c2_0_0; have d2_0 : ¬ (w.heap.size = w2.heap.size) := (by omega); have e2_0 : ¬ (w2.heap.size = w.heap.size) := (by omega); have F1_2 := K.ints.ext (F1_1) x2; have F2_2 := K.rows.ext (F2_1) x2; have F3_2 := K.ints.ext (F3_1) x2; clear c1_0_0 c1_0_1 c1_0_2 c1_0_3 z1_0 d1_0 e1_0 F1_1 F2_1 F3_1)
    go_wp2_with (go_at_call 66; refine K.call (by with_reducible rfl) (by with_reducible rfl) (spec_IsUnit r _ _ _ _ hmr (F3_2)) ?_; rintro e w_ ⟨rfl, rfl⟩)
    rw [HE.out]
    refine bodyPost_ret (v := .tuple #[.slice none 0 0, .int .i64 1]) (by unfold results; rw [Try.results28]; go_simp) rfl ⟨⟨_, rfl, ?_⟩, ?_⟩
    · exact K.ints_nil _ _ _
    · repeat with_reducible refine K.Ext.setCell ?_ (by dsimp only; omega) _
      exact (by repeat' (first | with_reducible exact X2 | with_reducible refine K.Ext.setCell ?_ ?_ _ | with_reducible refine K.Ext.alloc ?_ _ | with_reducible refine K.Ext.drew ?_ | (dsimp only; omega) | omega | (simp; omega)))
  have hUl := (Z.okUnits_len vU).1
  by_cases hix : 0 ≤ ix ∧ ix ≤ (U.length : Int) - 1
  case neg =>
    have HE : Hid (Z.MissingUnit F U ix r = ([], 2)) := Z.hide (by unfold Z.MissingUnit; rw [vF, vU, vr, Bool.true_and, Bool.true_and, if_pos rfl, if_neg hix])
    have hwi : (decide (0 ≤ ix) && decide (ix ≤ (U.length : Int) - 1)) = false := by rw [Bool.and_eq_false_iff]; simp only [decide_eq_false_iff_not]; omega
    have HW : ∀ w : World, Calls Try.prog 112 #[.int .i64 ix, .int .i64 0, .int .i64 ((U.length : Int) - 1)] w fun e w' => e = .returned (.bool false) ∧ w = w' := fun w => by rw [← hwi]; exact l01In_any _ _ _ _
    have HF' : ∀ {a b : Nat} {p : Value} (w : World), K.ints w a b p F.pw → Calls Try.prog 104 #[.agg #[.int .i64 F.dg, .int .i64 F.tn, .string F.nm, p]] w fun e w' => e = .returned (.bool true) ∧ K.Ext w w' := fun w h => by rw [← vF]; exact spec_IsFormula F w hmF hnF h
    have HU' : ∀ {a b : Nat} {p v : Value} (w : World), K.rows w a b v U → Calls Try.prog 105 #[.agg #[.int .i64 F.dg, .int .i64 F.tn, .string F.nm, p], v] w fun e w' => e = .returned (.bool true) ∧ K.Ext w w' := fun w h => by rw [← vU]; exact l19Units_any F U w hnF hmU hqU h
    clear hwi hix hUl vF vU
    have X0 : K.Ext w w := K.Ext.refl w
    go_enter Try.func28, Try.ntmps28
    go_wp2_with (go_at_call 104; refine K.call (by with_reducible rfl) (by with_reducible rfl) (HF' _ (K.ints.alloc hF_ _)) ?_; rintro e w1 ⟨rfl, x1⟩; have s1 : w.heap.size + 1 ≤ w1.heap.size := (by have h_ := x1.size; (try simp at h_); omega); have X1 := K.Ext.trans (K.Ext.alloc X0 _) x1; obtain ⟨c1_0_0, c1_0_1, c1_0_2, c1_0_3⟩ := K.c4 x1 (w.heap.size) (.int .i64 F.dg) (.int .i64 F.tn) (.string F.nm) (.slice oF F.pw.length cF) (by go_simp); have z1_0 : w.heap.size < w1.heap.size := World.block_lt_of_cell? w1 _ c1_0_0; have d1_0 : ¬ (w.heap.size = w1.heap.size) := (by omega); have e1_0 : ¬ (w1.heap.size = w.heap.size) := (by omega); have F1_1 := K.ints.ext (K.ints.alloc hF_ _) x1; have F2_1 := K.rows.ext (K.rows.alloc hU_ _) x1; have F3_1 := K.ints.ext (K.ints.alloc hr_ _) x1; clear hF_ hU_ hr_)
    go_wp2_with (go_at_call 105; refine K.call (by with_reducible rfl) (by with_reducible rfl) (HU' _ (F2_1)) ?_; rintro e w2 ⟨rfl, x2⟩; have s2 : w1.heap.size ≤ w2.heap.size := (by have h_ := x2.size; (try simp at h_); omega); have X2 := K.Ext.trans (X1) x2; obtain ⟨c2_0_0, c2_0_1, c2_0_2, c2_0_3⟩ := K.c4 x2 (w.heap.size) (.int .i64 F.dg) (.int .i64 F.tn) (.string F.nm) (.slice oF F.pw.length cF) (by go_simp); have z2_0 : w.heap.size < w2.heap.size := World.block_lt_of_cell? w2 _ c2_0_0; have d2_0 : ¬ (w.heap.size = w2.heap.size) := (by omega); have e2_0 : ¬ (w2.heap.size = w.heap.size) := (by omega); have F1_2 := K.ints.ext (F1_1) x2; have F2_2 := K.rows.ext (F2_1) x2; have F3_2 := K.ints.ext (F3_1) x2; clear c1_0_0 c1_0_1 c1_0_2 c1_0_3 z1_0 d1_0 e1_0 F1_1 F2_1 F3_1)
    go_wp2_with (go_at_call 66; refine K.call (by with_reducible rfl) (by with_reducible rfl) (spec_IsUnit r _ _ _ _ hmr (F3_2)) ?_; rintro e w_ ⟨rfl, rfl⟩)
    go_wp2_with (go_at_call 112; refine K.call (by with_reducible rfl) (by with_reducible rfl) (HW _) ?_; rintro e w_ ⟨rfl, rfl⟩)
    rw [HE.out]
    refine bodyPost_ret (v := .tuple #[.slice none 0 0, .int .i64 2]) (by unfold results; rw [Try.results28]; go_simp) rfl ⟨⟨_, rfl, ?_⟩, ?_⟩
    · exact K.ints_nil _ _ _
    · repeat with_reducible refine K.Ext.setCell ?_ (by dsimp only; omega) _
      exact (by repeat' (first | with_reducible exact X2 | with_reducible refine K.Ext.setCell ?_ ?_ _ | with_reducible refine K.Ext.alloc ?_ _ | with_reducible refine K.Ext.drew ?_ | (dsimp only; omega) | omega | (simp; omega)))
  obtain ⟨i, rfl⟩ : ∃ i : Nat, ix = (i : Int) := ⟨ix.toNat, by omega⟩
  have hiU : i < U.length := by omega
  have hiF : i < F.nm.size := by omega
  have hwi : (decide (0 ≤ (i : Int)) && decide ((i : Int) ≤ (U.length : Int) - 1)) = true := by rw [Bool.and_eq_true]; simp only [decide_eq_true_eq]; omega
  have HW : Hid (∀ w : World, Calls Try.prog 112 #[.int .i64 (i : Int), .int .i64 0, .int .i64 ((U.length : Int) - 1)] w fun e w' => e = .returned (.bool true) ∧ w = w') := Z.hide (fun w => by rw [← hwi]; exact l01In_any _ _ _ _)
  obtain ⟨all, hall⟩ : ∃ k, k = Z.unitK F.pw U U.length := ⟨_, rfl⟩
  obtain ⟨n, hn⟩ : ∃ n, n = F.pw.getD i 0 := ⟨_, rfl⟩
  obtain ⟨u, hu⟩ : ∃ u, u = U.getD i [] := ⟨_, rfl⟩
  obtain ⟨d1, hd1⟩ : ∃ d, d = Z.addN r all (-1) := ⟨_, rfl⟩
  obtain ⟨rest, hrest⟩ : ∃ l, l = Z.addN d1 u n := ⟨_, rfl⟩
  have HE : Hid (Z.MissingUnit F U (i : Int) r = Z.missOr (Z.missK rest n 4)) := Z.hide (by unfold Z.MissingUnit; rw [vF, vU, vr, Bool.true_and, Bool.true_and, if_pos rfl, if_pos hix, Int.toNat_natCast]; unfold Z.restOf; rw [← hall, ← hd1, ← hu, ← hn, ← hrest])
  have hBr := Z.isUnit_bd9 vr
  have hr4 := Z.isUnit_len vr
  have hBa : ∀ k, k < 4 → -324 ≤ all.getD k 0 ∧ all.getD k 0 ≤ 324 := fun k hk => by rw [hall]; exact Z.units_bd vF vU k hk
  have hall4 : all.length = 4 := by rw [hall]; exact Z.unitK_length _ _ _
  have hUu : Z.isUnit u = true := by rw [hu]; exact Z.units_at vU i hiU
  have hBu := Z.isUnit_bd9 hUu
  have hu4 := Z.isUnit_len hUu
  obtain ⟨hn0, hn1, hn2⟩ : n ≠ 0 ∧ -6 ≤ n ∧ n ≤ 6 := by rw [hn]; exact Z.formula_pw vF i hiF
  have hd4 : d1.length = 4 := by rw [hd1, Z.addN_length, hr4]
  have hBd : ∀ k, k < 4 → -333 ≤ d1.getD k 0 ∧ d1.getD k 0 ≤ 333 := fun k hk => by
    have h1 := hBr k (by omega)
    have h2 := hBa k hk
    rw [hd1, Z.addN_get _ _ _ _ (by omega)]
    omega
  have hrl : rest.length = 4 := by rw [hrest, Z.addN_length, hd4]
  have hBs : ∀ k, k < 4 → -387 ≤ rest.getD k 0 ∧ rest.getD k 0 ≤ 387 := fun k hk => by
    have h1 := hBd k hk
    have h2 := hBu k (by omega)
    obtain ⟨m1, m2⟩ := Z.mul_bd n (u.getD k 0) 6 9 hn1 hn2 h2.1 h2.2
    rw [hrest, Z.addN_get _ _ _ _ (by omega)]
    omega
  have HBs := Z.hide hBs
  have HK : Hid (∀ (w0 : World), K.Ext w w0 → Calls Try.prog 107 #[.agg #[.int .i64 F.dg, .int .i64 F.tn, .string F.nm, .slice oF F.pw.length cF], .slice oU U.length cU] w0 fun e w' => ∃ v, e = .returned v ∧ K.Ext w0 w' ∧ (K.SP.intsA all).p v w') := Z.hide (fun w0 hx => by rw [hall]; exact (l19Of_any F U w0 vF (Z.okUnits_len vU).1 (Z.okUnits_len vU).2 (hF.ext hx) (hU.ext hx)).mono fun e w' ⟨⟨r, he, ho⟩, hw⟩ => ⟨r, he, hw, _, _, ho⟩)
  have HD1 : Hid (∀ {a b c d : Nat} {v v' : Value} (B : Nat) (w0 : World), B ≤ w0.heap.size → K.ints w0 a b v r → K.ints w0 c d v' all → Calls Try.prog 113 #[v, v', .int .i64 (-1)] w0 fun e w' => ∃ v, e = .returned v ∧ K.Ext w0 w' ∧ (K.SP.own B d1).p v w') := Z.hide (fun B w0 hB h h' => by rw [hd1]; exact l19Add_sp r all (-1) w0 hB (by omega) (by omega) (Z.isUnit_bd vr) (fun k hk => by have := hBa k (by omega); omega) (by decide) (by decide) h h')
  have HRe : Hid (∀ {a b c d : Nat} {v v' : Value} (B : Nat) (w0 : World), B ≤ w0.heap.size → K.ints w0 a b v d1 → K.ints w0 c d v' u → Calls Try.prog 113 #[v, v', .int .i64 n] w0 fun e w' => ∃ v, e = .returned v ∧ K.Ext w0 w' ∧ (K.SP.own B rest).p v w') := Z.hide (fun B w0 hB h h' => by rw [hrest]; exact l19Add_sp d1 u n w0 hB (by omega) (by omega) (fun k hk => by have := hBd k (by omega); omega) (Z.isUnit_bd hUu) (by omega) (by omega) h h')
  have HFF : Hid (∀ w' : World, K.Ext w w' → Calls Try.prog 104 #[.agg #[.int .i64 F.dg, .int .i64 F.tn, .string F.nm, .slice oF F.pw.length cF]] w' fun e w'' => e = .returned (.bool true) ∧ K.Ext w' w'') := Z.hide (fun w' hx => by rw [← vF]; exact spec_IsFormula F w' hmF hnF (hF.ext hx))
  have HUU : Hid (∀ w' : World, K.Ext w w' → Calls Try.prog 105 #[.agg #[.int .i64 F.dg, .int .i64 F.tn, .string F.nm, .slice oF F.pw.length cF], .slice oU U.length cU] w' fun e w'' => e = .returned (.bool true) ∧ K.Ext w' w'') := Z.hide (fun w' hx => by rw [← vU]; exact l19Units_any F U w' hnF hmU hqU (hU.ext hx))
  have HIU : Hid (∀ w' : World, K.Ext w w' → Calls Try.prog 66 #[.slice or r.length cr] w' fun e w'' => e = .returned (.bool true) ∧ w' = w'') := Z.hide (fun w' hx => by have h_ := spec_IsUnit r _ _ _ w' hmr (hr.ext hx); rwa [vr] at h_)
  have hpl := (Z.isFormula_len vF).1
  obtain ⟨b, off, hoF, _, _, hc⟩ := K.ints_at hF (by omega)
  have p0 : w.cell? ⟨b, off + i, none⟩ = some (.int .i64 n) := by rw [hn]; exact hc i (by omega)
  obtain ⟨bU, offU, uv, hoU, _, _, hcU, hiU2⟩ := K.rows_at hU i hiU
  have eu : U[i]'hiU = u := by rw [hu]; simp [List.getD_eq_getElem?_getD, hiU]
  rw [eu] at hiU2
  have hiU3 := hiU2
  obtain ⟨ou, cu, rfl, _⟩ := hiU3
  obtain ⟨it0, hi0, hz0, hz1, hz2⟩ := info_parts info_int
  have HRw := Z.hide hr
  have HUr := Z.hide hiU2
  have i0 : (0 : Int) ≤ (i : Int) := Int.natCast_nonneg i
  have i1 : (i : Int) < (U.length : Int) := by omega
  have i2 : (i : Int) < (F.pw.length : Int) := by omega
  have HRL := Z.hide hrl
  subst hoF hoU
  have lb := World.block_lt_of_cell? w _ p0
  have lbU := World.block_lt_of_cell? w _ hcU
  have HCU := Z.hide hcU
  have HP0 := Z.hide p0
  clear hr4 hu4 hF hU hr hc hcU p0 hiU2 vF vU vr hUl hix hwi hu hn hrest hall hall4 hUu eu hpl hBa hBr hBu hd1 hd4 hBd hrl hBs
  go_enter Try.func28, Try.ntmps28
  go_wp2_with (first | ((go_at_call 104; refine K.call (by with_reducible rfl) (by with_reducible rfl) (HFF.out _ (by repeat' (first | with_reducible exact K.Ext.refl _ | with_reducible assumption | with_reducible refine K.Ext.drew ?_ | with_reducible refine K.Ext.alloc ?_ _ | with_reducible refine K.Ext.setCell ?_ ?_ _ | with_reducible refine K.Ext.trans ?_ (by with_reducible assumption) | (dsimp only; omega) | omega | exact K.Ext.refl _ | assumption | apply K.Ext.drew | refine K.Ext.alloc ?_ _ | refine K.Ext.setCell ?_ ?_ _ | (simp; done) | (simp; omega) | refine K.Ext.trans ?_ (by assumption)))) ?_; rintro e wa ⟨rfl, hwa⟩); have X1 := K.Ext.trans (show K.Ext w _ from (by repeat' (first | with_reducible exact K.Ext.refl _ | with_reducible assumption | with_reducible refine K.Ext.drew ?_ | with_reducible refine K.Ext.alloc ?_ _ | with_reducible refine K.Ext.setCell ?_ ?_ _ | with_reducible refine K.Ext.trans ?_ (by with_reducible assumption) | (dsimp only; omega) | omega | exact K.Ext.refl _ | assumption | apply K.Ext.drew | refine K.Ext.alloc ?_ _ | refine K.Ext.setCell ?_ ?_ _ | (simp; done) | (simp; omega) | refine K.Ext.trans ?_ (by assumption)))) hwa; have c_wa_0_0 : wa.cell? ⟨w.heap.size, 0, none⟩ = some (.int .i64 (F.dg)) := hwa.cell_of (by go_simp); have f_wa_0_0 : wa.frozen? ⟨w.heap.size, 0, none⟩ = false := hwa.thaw_of (by go_simp) (by go_simp); have c_wa_0_1 : wa.cell? ⟨w.heap.size, 1, none⟩ = some (.int .i64 (F.tn)) := hwa.cell_of (by go_simp); have f_wa_0_1 : wa.frozen? ⟨w.heap.size, 1, none⟩ = false := hwa.thaw_of (by go_simp) (by go_simp); have c_wa_0_2 : wa.cell? ⟨w.heap.size, 2, none⟩ = some (.string F.nm) := hwa.cell_of (by go_simp); have f_wa_0_2 : wa.frozen? ⟨w.heap.size, 2, none⟩ = false := hwa.thaw_of (by go_simp) (by go_simp); have c_wa_0_3 : wa.cell? ⟨w.heap.size, 3, none⟩ = some (.slice (some ⟨b, off, none⟩) F.pw.length cF) := hwa.cell_of (by go_simp); have f_wa_0_3 : wa.frozen? ⟨w.heap.size, 3, none⟩ = false := hwa.thaw_of (by go_simp) (by go_simp); have z1 := hwa.size; simp at z1) | ((go_at_call 105; refine K.call (by with_reducible rfl) (by with_reducible rfl) (HUU.out _ X1) ?_; rintro e wb ⟨rfl, hwb⟩); have X2 := X1.trans hwb; have c_wb_0_0 : wb.cell? ⟨w.heap.size, 0, none⟩ = some (.int .i64 (F.dg)) := hwb.cell_of (by go_simp); have f_wb_0_0 : wb.frozen? ⟨w.heap.size, 0, none⟩ = false := hwb.thaw_of (by go_simp) (by go_simp); have c_wb_0_1 : wb.cell? ⟨w.heap.size, 1, none⟩ = some (.int .i64 (F.tn)) := hwb.cell_of (by go_simp); have f_wb_0_1 : wb.frozen? ⟨w.heap.size, 1, none⟩ = false := hwb.thaw_of (by go_simp) (by go_simp); have c_wb_0_2 : wb.cell? ⟨w.heap.size, 2, none⟩ = some (.string F.nm) := hwb.cell_of (by go_simp); have f_wb_0_2 : wb.frozen? ⟨w.heap.size, 2, none⟩ = false := hwb.thaw_of (by go_simp) (by go_simp); have c_wb_0_3 : wb.cell? ⟨w.heap.size, 3, none⟩ = some (.slice (some ⟨b, off, none⟩) F.pw.length cF) := hwb.cell_of (by go_simp); have f_wb_0_3 : wb.frozen? ⟨w.heap.size, 3, none⟩ = false := hwb.thaw_of (by go_simp) (by go_simp); have z2 := hwb.size; have p1 := X2.cell_of HP0.out; have pU := X2.cell_of HCU.out) | (go_at_call 66; refine K.call (by with_reducible rfl) (by with_reducible rfl) (HIU.out _ X2) ?_; rintro e w' ⟨rfl, rfl⟩) | (go_at_call 112; refine K.call (by with_reducible rfl) (by with_reducible rfl) (HW.out _) ?_; rintro e w' ⟨rfl, rfl⟩))
  have HX2 := Z.hide X2
  refine K.wp_region_x 11 [0, 1, 0, 2, 2, 0, 0, 0, 1, 0, 2] [K.SP.any, K.SP.any, K.SP.any, (K.SP.intsA all), (K.SP.own wb.heap.size d1), K.SP.any, K.SP.any, K.SP.any, K.SP.any, K.SP.any, (K.SP.own wb.heap.size rest)] (by kernel_rfl) (by kernel_rfl) ?_
  simp only [List.take_succ_cons, List.take_zero, List.drop_succ_cons, List.drop_zero]
  apply K.x_pure
  · rfl
  · rfl
  · intro w'; go_simp; first | done | exact K.vint (IntWalk.i64_in _ (by omega)) | rfl | exact ⟨rfl, rfl⟩
  simp only [Act.put, List.setIfInBounds_toArray, List.set]
  apply K.x_held
  · rfl
  · rfl
  · intro w' hx; have hc := hx.all.1.1; have hf := hx.all.1.2; have hc' := hx.all.2.1; have hf' := hx.all.2.2; go_simp; first | done | rfl | exact ⟨rfl, rfl⟩
  simp only [Act.put, List.setIfInBounds_toArray, List.set]
  apply K.x_pure
  · rfl
  · rfl
  · intro w'; go_simp; first | done | exact K.vint (IntWalk.i64_in _ (by omega)) | rfl | exact ⟨rfl, rfl⟩
  simp only [Act.put, List.setIfInBounds_toArray, List.set]
  apply K.x_call
  · rfl
  · rfl
  · intro w'; go_simp; first | done | rfl | exact ⟨rfl, rfl⟩
  · intro w' hx hp; have hc := hx.all.1.1; have hf := hx.all.1.2; have hc' := hx.all.2.1; have hf' := hx.all.2.2; exact HK.out _ (K.Ext.trans HX2.out.drew hx)
  intro v3 w_3_ hx_3_ hv3
  obtain ⟨lo3, hi3, hs3⟩ := hv3; obtain ⟨o3, c3, rfl, _⟩ := K.ints.mono hs3 (Nat.le_refl _) (Nat.le_refl _)
  simp only [Act.put, List.setIfInBounds_toArray, List.set]
  apply K.x_call
  · rfl
  · rfl
  · intro w'; go_simp; first | done | rfl | exact ⟨rfl, rfl⟩
  · intro w' hx hp; have hc := hx.all.1.1; have hf := hx.all.1.2; have hc' := hx.all.2.1; have hf' := hx.all.2.2; exact (by obtain ⟨l_, h_, q_⟩ := K.SP.intsA_at (hp 3 _ (by kernel_rfl) rfl rfl); exact HD1.out _ _ (by have h_ := hx.size; simp at h_; omega) (HRw.out.ext (K.Ext.trans HX2.out.drew hx)) q_)
  intro v4 w_4_ hx_4_ hv4
  obtain ⟨hi4, hb4, hh4, hs4⟩ := hv4; obtain ⟨o4, c4, rfl, _⟩ := K.own.ints hs4
  simp only [Act.put, List.setIfInBounds_toArray, List.set]
  iterate 3
    apply K.x_pure
    · rfl
    · rfl
    · intro w'; go_simp; first | done | exact K.vint (IntWalk.i64_in _ (by omega)) | rfl | exact ⟨rfl, rfl⟩
    simp only [Act.put, List.setIfInBounds_toArray, List.set]
  apply K.x_held
  · rfl
  · rfl
  · intro w' hx; have hc := hx.all.1.1; have hf := hx.all.1.2; have hc' := hx.all.2.1; have hf' := hx.all.2.2; go_simp; first | done | rfl | exact ⟨rfl, rfl⟩
  simp only [Act.put, List.setIfInBounds_toArray, List.set]
  apply K.x_pure
  · rfl
  · rfl
  · intro w'; go_simp; first | done | exact K.vint (IntWalk.i64_in _ (by omega)) | rfl | exact ⟨rfl, rfl⟩
  simp only [Act.put, List.setIfInBounds_toArray, List.set]
  apply K.x_call
  · rfl
  · rfl
  · intro w'; go_simp; first | done | rfl | exact ⟨rfl, rfl⟩
  · intro w' hx hp; have hc := hx.all.1.1; have hf := hx.all.1.2; have hc' := hx.all.2.1; have hf' := hx.all.2.2; exact (by obtain ⟨h_, _, _, q_⟩ := K.SP.own_at (hp 4 _ (by kernel_rfl) rfl rfl); exact HRe.out _ _ (by have h_ := hx.size; simp at h_; omega) (K.own.ints q_) (HUr.out.ext (K.Ext.trans HX2.out.drew hx)))
  intro v10 w_10_ hx_10_ hv10
  obtain ⟨hi10, hb10, hh10, hs10⟩ := hv10; obtain ⟨o10, c10, rfl, _⟩ := K.own.ints hs10
  simp only [Act.put, List.setIfInBounds_toArray, List.set]
  apply K.x_done
  intro w6 h_x
  have hx6 := hx_3_.trans (hx_4_.trans (hx_10_.trans h_x))
  have hxe3 := K.Ext.id (hx_4_.trans (hx_10_.trans h_x))
  have hxe4 := K.Ext.id (hx_10_.trans h_x)
  have hxe10 := K.Ext.id (h_x)
  clear h_x hx_3_ hx_4_ hx_10_
  obtain ⟨⟨hcw6, hfw6⟩, hc'w6, hf'w6⟩ := hx6.all
  go_wp2_with fail
  refine NoPanic.normal ?_
  have HX6 := Z.hide (K.Ext.trans HX2.out.drew hx6)
  have hr6 := K.ints.ext (K.own.ints hs10) hxe10
  obtain ⟨ba, offa, hoa, _, _, hca⟩ := K.ints_at hr6 (by rw [HRL.out]; decide)
  subst hoa
  have HCA := Z.hide hca
  have lw6 := hx6.size
  clear hwa hwb X1 X2 hca HFF HUU HIU HW HK HD1 HRe HRw HUr hr6 hs10 hs4 hs3
  go_wp2
  go_loopw [12, 13] (fun out jj wr => ∃ k : Nat, k ≤ rest.length ∧ jj = .int .i64 k ∧ Hid (∃ l, Z.missK rest n k = some l ∧ wr.ownsRow w6.heap.size 2 1 out k (l.map (Value.int .i64))) ∧ Hid (K.Ext w6 wr)) (fun _ jj _ => rest.length - (intOf jj).toNat)
  case atStart => exact ⟨0, Nat.zero_le _, rfl, Z.hide ⟨[], rfl, World.ownsRow_lit w6 #[] 0 (Nat.le_refl _) (by decide) rfl⟩, Z.hide ((K.Ext.refl _).alloc _)⟩
  case round =>
    obtain ⟨k, hk, rfl, HS, HX⟩ := hrel
    obtain ⟨l, hl, ho⟩ := HS.out
    have HL := Z.hide hl
    have HO := Z.hide ho
    clear HS hl ho
    have k0 : (0 : Int) ≤ (k : Int) := Int.natCast_nonneg k
    have lw := HX.out.size
    by_cases hlt : k < rest.length
    · have k1 : (k : Int) < (rest.length : Int) := by omega
      have hk4 : k < 4 := by rw [← HRL.out]; exact hlt
      have ca : wr.cell? ⟨ba, offa + k, none⟩ = some (.int .i64 (rest.getD k 0)) := HX.out.cell_of (HCA.out k hlt)
      have HRm : Hid (¬ (rest.getD k 0).tmod n = 0 → Z.MissingUnit F U (i : Int) r = ([], 4)) := Z.hide (fun h => by rw [HE.out, Z.missK_bad hk4 HL.out h]; rfl)
      have HRs : Hid ((rest.getD k 0).tmod n = 0 → Z.missK rest n (k + 1) = some (l ++ [(rest.getD k 0).tdiv n])) := Z.hide (fun h => Z.missK_step HL.out h)
      obtain ⟨b1, b2⟩ := HBs.out k hk4
      generalize rest.getD k 0 = z at *
      obtain ⟨d1_, d2_⟩ := Z.tdiv_bd z n 1000 (by omega) (by omega)
      have lba := World.block_lt_of_cell? wr _ ca
      by_cases hm0 : z.tmod n = 0
      · have HT := Z.hide (HRs.out hm0)
        have q4 : IntKind.i64.wrap (z.tdiv n) = z.tdiv n := IntWalk.i64_in _ (by omega)
        clear HRs HRm
        go_wp2_with ((at_builtin; refine wpList_append_lies _ rfl _ _ _ rfl (w6.heap.size) 2 it0 _ 1 8 Try.underlying24 hi0 hz0 hz1 hz2 rfl (by omega) u12 k _ rfl (HO.out.alloc _) ⟨wr.heap.size, 0, none⟩ 1 1 [.int .i64 (z.tdiv n)] rfl rfl (World.news_of_block (cs := #[.int .i64 (z.tdiv n)]) (t := 2) (fr := (0, 0)) (K.block_new (by simp))) (by simp [Value.oneCell']) (by omega) (by unfold maxLen; omega) (by first | omega | (simp; omega)) (by first | omega | (simp; omega)) (wr.heap.size + 1) (by simp) ?_; intro g2 gcap2 w2 hown2 hgrow2 hat2 hlt3; have HR2 : Hid (∀ g, u12.ownBlock = some g → w6.heap.size ≤ g) := Z.hide (fun g hg => (HO.out.lt g hg).1); have HP2 := Z.hide hown2))
        have HX7 : Hid (K.Ext w6 w2) := Z.hide ((HX.out.alloc _).below.grown hgrow2 (by simp; omega) (fun g hg => HR2.out g hg))
        clear hown2 hgrow2 hat2
        go_roundw
        case rel => exact ⟨k + 1, by omega, by go_num, Z.hide ⟨_, HT.out, by simpa using HP2.out⟩, HX7⟩
        case measure => first | (simp [intOf]; done) | (simp [intOf]; omega)
      · have HEb := Z.hide (HRm.out hm0)
        clear HRs HRm
        go_wp2
        rw [HEb.out]
        go_ret2
        exact ⟨⟨_, rfl, K.ints_nil _ _ _⟩, HX6.out.trans HX.out⟩
    · obtain rfl : k = rest.length := by omega
      obtain ⟨M, hM⟩ : ∃ M, M = Z.unitOr l := ⟨_, rfl⟩
      have hl4 : l.length ≤ 1048576 := by rw [Z.missK_length _ HL.out, HRL.out]; decide
      have HEe : Hid (Z.MissingUnit F U (i : Int) r = M) := Z.hide (by have h_ := HL.out; rw [HRL.out] at h_; rw [HE.out, h_, hM]; rfl)
      have HUo : Hid (Calls Try.prog 106 #[u12] wr fun e w' => (∃ r, e = .returned (.tuple #[r, .int .i64 M.2]) ∧ K.ints wr w6.heap.size wr.heap.size r M.1) ∧ wr = w') := Z.hide (by rw [hM]; exact l19Result_any l _ _ _ wr hl4 (K.own.ints (K.own_of_row HO.out)))
      have l66 := HX6.out.size
      clear hM HO HL
      go_wp2_with ((go_at_call 106; refine K.call (by with_reducible rfl) (by with_reducible rfl) (HUo.out) ?_; rintro e w9 ⟨⟨p9, rfl, g9⟩, rfl⟩))
      rw [HEe.out]
      go_ret2
      exact ⟨⟨_, rfl, g9.mono (by omega) (Nat.le_refl _)⟩, HX6.out.trans HX.out⟩
end Go.Proofs.Ytphlppklhpaljaa
