/-
  Part 5 of the texts of this claim: contracts of functions and plain mathematics.
-/
import Derived.Test.YthmnlbgbacbocaaV4
set_option linter.unusedVariables false
section
namespace Go.Z
/-- the number of the first figure whose upper logarithm is above u -/
def firstHigh (u : Int) : Int := firstN (fun n => u < (figLog (atN n)).2) (-270000) 549000
/-- the number of the first figure whose lower logarithm is at least u -/
def firstLow (u : Int) : Int := firstN (fun n => u ≤ (figLog (atN n)).1) (-270000) 549000
def below (u : Int) : Int × Int := atN (firstHigh u - 1)
def above (u : Int) : Int × Int := atN (firstLow u)
def units (u : Int) : Bool := decide (-31457280 ≤ u) && decide (u ≤ 31457280)
theorem units_iff (u : Int) : units u = true ↔ -31457280 ≤ u ∧ u ≤ 31457280 := by simp [units]
theorem firstHigh_is {u t : Int} (h1 : -270000 ≤ t) (h2 : t ≤ 279000) (h3 : t = 279000 ∨ u < (figLog (atN t)).2) (h4 : t = -270000 ∨ ¬ u < (figLog (atN (t - 1))).2) : firstHigh u = t := by
  unfold firstHigh
  refine (firstN_eq (fun n => u < (figLog (atN n)).2) (-270000) 549000 (fun i j hij hi => ?_) h1 (by omega) ?_ h4).symm
  · have := (figLog_mono hij).2; omega
  · rcases h3 with h3 | h3
    · left; omega
    · right; exact h3
theorem firstLow_is {u t : Int} (h1 : -270000 ≤ t) (h2 : t ≤ 279000) (h3 : t = 279000 ∨ u ≤ (figLog (atN t)).1) (h4 : t = -270000 ∨ ¬ u ≤ (figLog (atN (t - 1))).1) : firstLow u = t := by
  unfold firstLow
  refine (firstN_eq (fun n => u ≤ (figLog (atN n)).1) (-270000) 549000 (fun i j hij hi => ?_) h1 (by omega) ?_ h4).symm
  · have := (figLog_mono hij).1; omega
  · rcases h3 with h3 | h3
    · left; omega
    · right; exact h3
theorem firstHigh_bd (u : Int) : -270000 ≤ firstHigh u ∧ firstHigh u ≤ 279000 := by
  have h := firstN_spec (fun n => u < (figLog (atN n)).2) (-270000) 549000
  exact ⟨h.1, by have := h.2.1; unfold firstHigh; omega⟩
theorem firstLow_bd (u : Int) : -270000 ≤ firstLow u ∧ firstLow u ≤ 279000 := by
  have h := firstN_spec (fun n => u ≤ (figLog (atN n)).1) (-270000) 549000
  exact ⟨h.1, by have := h.2.1; unfold firstLow; omega⟩
theorem atN_at {i t : Int} (h0 : 0 ≤ i) (h1 : i < 9000) : atN (9000 * t + i) = (1000 + i, t) := by
  have a : (9000 * t + i) % 9000 = i := by omega
  have b : (9000 * t + i) / 9000 = t := by omega
  unfold atN; rw [a, b]
theorem log_1000 : (logOf 100000000).2 = 1 := by decide +kernel
theorem high_1000 (t : Int) : (figLog (1000, t)).2 = 1 + t * 1048576 := by
  have h := log_1000
  unfold figLog
  show (logOf 100000000).2 + t * 1048576 = _
  rw [h]
theorem low_1000 (t : Int) : t * 1048576 ≤ (figLog (1000, t)).1 := by
  have h := (logOf_in (x := 100000000) (by decide) (by decide)).1.1
  unfold figLog
  show _ ≤ (logOf 100000000).1 + t * 1048576
  omega
theorem low_9999 (t : Int) : (figLog (9999, t)).1 < (t + 1) * 1048576 := by
  have h := (logOf_in (x := 999900000) (by decide) (by decide)).1.2
  unfold figLog
  show (logOf 999900000).1 + t * 1048576 < _
  omega
theorem below_none {u : Int} (hu : units u = true) (ht : fl (u - 1) 1048576 < -30) : isFig (below u).1 (below u).2 = false := by
  obtain ⟨u1, u2⟩ := (units_iff u).1 hu
  obtain ⟨s1, s2⟩ := fl_spec (u - 1) 1048576 (by decide)
  generalize fl (u - 1) 1048576 = t at *
  have e : firstHigh u = -270000 := firstHigh_is (by decide) (by decide) (.inr (by
    have a : atN (-270000) = (1000, -30) := by decide
    rw [a, high_1000]; omega)) (.inl rfl)
  unfold below
  rw [e]
  decide
theorem below_at {u t : Int} {r : Nat} (hu : units u = true) (ht : t = fl (u - 1) 1048576) (h30 : ¬ t < -30) (hr : r ≤ 9000) (h3 : r = 9000 ∨ u < (figLog (1000 + (r : Int), t)).2) (h4 : r = 0 ∨ ¬ u < (figLog (1000 + ((r - 1 : Nat) : Int), t)).2) :
    below u = (999 + (r : Int), t) ∧ isFig (999 + (r : Int)) t = true := by
  obtain ⟨u1, u2⟩ := (units_iff u).1 hu
  obtain ⟨s1, s2⟩ := fl_spec (u - 1) 1048576 (by decide)
  rw [← ht] at s1 s2
  have hr0 : r ≠ 0 := by
    rintro rfl
    rcases h3 with h3 | h3
    · omega
    · have a : (1000 : Int) + ((0 : Nat) : Int) = 1000 := by omega
      rw [a, high_1000] at h3; omega
  have e : firstHigh u = 9000 * t + r := by
    refine firstHigh_is (by omega) (by omega) ?_ ?_
    · right
      rcases h3 with h3 | h3
      · have a : 9000 * t + (r : Int) = 9000 * (t + 1) + 0 := by omega
        rw [a, atN_at (by decide) (by decide)]
        show _ < (figLog (1000, t + 1)).2
        rw [high_1000]; omega
      · by_cases h9 : r = 9000
        · have a : 9000 * t + (r : Int) = 9000 * (t + 1) + 0 := by omega
          rw [a, atN_at (by decide) (by decide)]
          show _ < (figLog (1000, t + 1)).2
          rw [high_1000]; omega
        · rw [atN_at (by omega) (by omega)]; exact h3
    · right
      rcases h4 with h4 | h4
      · exact absurd h4 hr0
      · have a : 9000 * t + (r : Int) - 1 = 9000 * t + ((r - 1 : Nat) : Int) := by omega
        rw [a, atN_at (by omega) (by omega)]; exact h4
  refine ⟨?_, ?_⟩
  · unfold below
    rw [e]
    have a : 9000 * t + (r : Int) - 1 = 9000 * t + ((r - 1 : Nat) : Int) := by omega
    rw [a, atN_at (by omega) (by omega)]
    have b : (1000 : Int) + ((r - 1 : Nat) : Int) = 999 + (r : Int) := by omega
    rw [b]
  · simp only [isFig, Bool.and_eq_true, decide_eq_true_eq]; omega
theorem above_at {u t : Int} {r : Nat} (hu : units u = true) (ht : t = fl u 1048576) (hr : r ≤ 9000) (h3 : r = 9000 ∨ u ≤ (figLog (1000 + (r : Int), t)).1) (h4 : r = 0 ∨ ¬ u ≤ (figLog (1000 + ((r - 1 : Nat) : Int), t)).1) :
    above u = if r = 9000 then (1000, t + 1) else (1000 + (r : Int), t) := by
  obtain ⟨u1, u2⟩ := (units_iff u).1 hu
  obtain ⟨s1, s2⟩ := fl_spec u 1048576 (by decide)
  rw [← ht] at s1 s2
  have e : firstLow u = 9000 * t + r := by
    refine firstLow_is (by omega) (by omega) ?_ ?_
    · by_cases h9 : r = 9000
      · by_cases ht30 : t = 30
        · left; omega
        · right
          have a : 9000 * t + (r : Int) = 9000 * (t + 1) + 0 := by omega
          rw [a, atN_at (by decide) (by decide)]
          have := low_1000 (t + 1)
          show _ ≤ (figLog (1000, t + 1)).1
          omega
      · right
        rcases h3 with h3 | h3
        · exact absurd h3 h9
        · rw [atN_at (by omega) (by omega)]; exact h3
    · by_cases h0 : r = 0
      · by_cases ht30 : t = -30
        · left; omega
        · right
          have a : 9000 * t + (r : Int) - 1 = 9000 * (t - 1) + 8999 := by omega
          rw [a, atN_at (by decide) (by decide)]
          have := low_9999 (t - 1)
          show ¬ _ ≤ (figLog (9999, t - 1)).1
          omega
      · right
        rcases h4 with h4 | h4
        · exact absurd h4 h0
        · have a : 9000 * t + (r : Int) - 1 = 9000 * t + ((r - 1 : Nat) : Int) := by omega
          rw [a, atN_at (by omega) (by omega)]; exact h4
  unfold above
  rw [e]
  split
  · rename_i h9
    have a : 9000 * t + (r : Int) = 9000 * (t + 1) + 0 := by omega
    rw [a, atN_at (by decide) (by decide)]
    rfl
  · rename_i h9
    exact atN_at (by omega) (by omega)
def belowOr (u : Int) : (Int × Int) × Bool := if isFig (below u).1 (below u).2 then (below u, true) else ((0, 0), false)
def aboveOr (u : Int) : (Int × Int) × Bool := (above u, isFig (above u).1 (above u).2)
def spanOf (a : Int × Int) : (Int × Int) × (Int × Int) × Int :=
  if units a.1 && units a.2 then (if isFig (below a.1).1 (below a.1).2 && isFig (above a.2).1 (above a.2).2 then (below a.1, above a.2, 0) else ((0, 0), (0, 0), 4)) else ((0, 0), (0, 0), 2)
def FormulaSpan (F : Fm) (vs : List (Int × Int)) : (Int × Int) × (Int × Int) × Int := if isValued F vs then spanOf (lg F vs) else ((0, 0), (0, 0), 1)
end Go.Z
namespace Go.Proofs.Ythmnlbgbacbocaa
open Go.RowKit
theorem field_iv1 (w : World) (a b : Int) : (Instr.field 73 (.agg #[.int .i64 a, .int .i64 b]) 1).run Try.prog w = .ok (.int .i64 b) w := by kernel_rfl
theorem field_iv0 (w : World) (a b : Int) : (Instr.field 73 (.agg #[.int .i64 a, .int .i64 b]) 0).run Try.prog w = .ok (.int .i64 a) w := by kernel_rfl
set_option maxHeartbeats 1600000 in
theorem below_f (i : Int) (t : Int) (bt : Nat) (u : Int) (bu : Nat)  (w : World) (i0 : 0 ≤ i ∧ i ≤ 8999) (ht : -30 ≤ t ∧ t ≤ 30) (r : Int × Int) (hr : Hid (r = Z.figLog (1000 + i, t))) (hd : ¬ (bt = bu)) (kt0 : w.cell? ⟨bt, 0, none⟩ = some (.int .i64 t)) (ku0 : w.cell? ⟨bu, 0, none⟩ = some (.int .i64 u)) :
    Calls Try.prog 201 #[.int .i64 i, .pointer (some ⟨bt, 0, none⟩), .pointer (some ⟨bu, 0, none⟩)] w fun e w' => e = .returned (.bool (decide (u < r.2))) ∧ K.Ext w w' := by
  have HR : ∀ w : World, Calls Try.prog 132 #[.agg #[.int .i64 (1000 + i), .int .i64 t]] w fun e w' => e = .returned (.agg #[.int .i64 r.1, .int .i64 r.2]) ∧ K.Ext w w' := fun w => by rw [hr.out]; exact figureLog_any (1000 + i, t) w (by simp only [Z.isFig, Bool.and_eq_true, decide_eq_true_eq]; omega)
  have q1 : IntKind.i64.wrap (1000 + i) = 1000 + i := IntWalk.i64_in _ (by omega)
  clear hr
  have lbt : bt < w.heap.size := World.block_lt_of_cell? w _ kt0
  have nat0 : ¬ (bt = w.heap.size) := (by omega)
  have nbt0 : ¬ (w.heap.size = bt) := (by omega)
  have nat1 : ¬ (bt = w.heap.size + 1) := (by omega)
  have nbt1 : ¬ (w.heap.size + 1 = bt) := (by omega)
  have nat2 : ¬ (bt = w.heap.size + 1 + 1) := (by omega)
  have nbt2 : ¬ (w.heap.size + 1 + 1 = bt) := (by omega)
  have nat3 : ¬ (bt = w.heap.size + 1 + 1 + 1) := (by omega)
  have nbt3 : ¬ (w.heap.size + 1 + 1 + 1 = bt) := (by omega)
  have lbu : bu < w.heap.size := World.block_lt_of_cell? w _ ku0
  have nau0 : ¬ (bu = w.heap.size) := (by omega)
  have nbu0 : ¬ (w.heap.size = bu) := (by omega)
  have nau1 : ¬ (bu = w.heap.size + 1) := (by omega)
  have nbu1 : ¬ (w.heap.size + 1 = bu) := (by omega)
  have nau2 : ¬ (bu = w.heap.size + 1 + 1) := (by omega)
  have nbu2 : ¬ (w.heap.size + 1 + 1 = bu) := (by omega)
  have nau3 : ¬ (bu = w.heap.size + 1 + 1 + 1) := (by omega)
  have nbu3 : ¬ (w.heap.size + 1 + 1 + 1 = bu) := (by omega)
  have X0 : K.Ext w w := K.Ext.refl w
  go_enter Try.func201, Try.ntmps201
  go_wp2_with fail
  refine K.wp_region_x 8 [0, 0, 1, 0, 2, 2, 1, 2] [K.SP.any, K.SP.any, K.SP.any, K.SP.any, K.SP.is (.agg #[.int .i64 r.1, .int .i64 r.2]), K.SP.is (.int .i64 r.2), K.SP.any, K.SP.is (.bool (decide (u < r.2)))] (by kernel_rfl) (by kernel_rfl) ?_
  simp only [List.take_succ_cons, List.take_zero, List.drop_succ_cons, List.drop_zero]
  iterate 2
    apply K.x_pure
    · rfl
    · rfl
    · intro w'; go_simp; first | done | exact K.vint (IntWalk.i64_in _ (by omega)) | rfl | exact ⟨rfl, rfl⟩
    simp only [Act.put, List.setIfInBounds_toArray, List.set]
  apply K.x_held
  · rfl
  · rfl
  · intro w' hx; have hc := hx.all.1.1; have hf := hx.all.1.2; have hc' := hx.all.2.1; have hf' := hx.all.2.2; go_simp; first | done | rfl | exact ⟨rfl, rfl⟩
  simp only [Act.put, List.setIfInBounds_toArray, List.set]
  apply K.x_pure
  · rfl
  · rfl
  · intro w'; go_simp; first | done | exact K.vint (IntWalk.i64_in _ (by omega)) | rfl | exact ⟨rfl, rfl⟩
  simp only [Act.put, List.setIfInBounds_toArray, List.set]
  apply K.x_call_is
  · rfl
  · rfl
  · rfl
  · intro w'; go_simp; first | done | rfl | exact ⟨rfl, rfl⟩
  · intro w' hx hp; have hc := hx.all.1.1; have hf := hx.all.1.2; have hc' := hx.all.2.1; have hf' := hx.all.2.2; exact HR _
  intro w_4_ hx_4_
  simp only [Act.put, List.setIfInBounds_toArray, List.set]
  apply K.x_op_is
  · rfl
  · rfl
  · rfl
  · intro w' hx hp; have hc := hx.all.1.1; have hf := hx.all.1.2; have hc' := hx.all.2.1; have hf' := hx.all.2.2; have hfi := field_iv1; go_simp; first | done | rfl
  intro w_5_ hx_5_
  simp only [Act.put, List.setIfInBounds_toArray, List.set]
  apply K.x_held
  · rfl
  · rfl
  · intro w' hx; have hc := hx.all.1.1; have hf := hx.all.1.2; have hc' := hx.all.2.1; have hf' := hx.all.2.2; go_simp; first | done | rfl | exact ⟨rfl, rfl⟩
  simp only [Act.put, List.setIfInBounds_toArray, List.set]
  apply K.x_op_is
  · rfl
  · rfl
  · rfl
  · intro w' hx hp; have hc := hx.all.1.1; have hf := hx.all.1.2; have hc' := hx.all.2.1; have hf' := hx.all.2.2; go_simp; first | done | rfl
  intro w_7_ hx_7_
  simp only [Act.put, List.setIfInBounds_toArray, List.set]
  apply K.x_done
  intro w1 h_x
  have x1 := hx_4_.trans (hx_5_.trans (hx_7_.trans h_x))
  clear h_x hx_4_ hx_5_ hx_7_
  obtain ⟨⟨hcw1, hfw1⟩, hc'w1, hf'w1⟩ := x1.all
  have s1 : w.heap.size ≤ w1.heap.size := (by have h_ := x1.size; (try simp at h_); omega)
  have X1 := K.Ext.trans (K.Ext.drew (X0)) x1
  have c1_0_0 := K.c1 x1 (bt) (.int .i64 t) (by go_simp)
  have z1_0 : bt < w1.heap.size := World.block_lt_of_cell? w1 _ c1_0_0
  have d1_0 : ¬ (bt = w1.heap.size) := (by omega)
  have e1_0 : ¬ (w1.heap.size = bt) := (by omega)
  have c1_1_0 := K.c1 x1 (bu) (.int .i64 u) (by go_simp)
  have z1_1 : bu < w1.heap.size := World.block_lt_of_cell? w1 _ c1_1_0
  have d1_1 : ¬ (bu = w1.heap.size) := (by omega)
  have e1_1 : ¬ (w1.heap.size = bu) := (by omega)
  have n1_0 : ¬ (bu = bt) := (by omega)
  have n0_1 : ¬ (bt = bu) := (by omega)
  go_wp2_with fail
  refine NoPanic.normal ?_
  go_wp2_with fail
  refine bodyPost_ret (v := .bool (decide (u < r.2))) (by unfold results; rw [Try.results201]; go_simp) rfl ⟨rfl, ?_⟩
  repeat with_reducible refine K.Ext.setCell ?_ (by dsimp only; omega) _
  exact (by repeat' (first | with_reducible exact X1 | with_reducible refine K.Ext.setCell ?_ ?_ _ | with_reducible refine K.Ext.alloc ?_ _ | with_reducible refine K.Ext.drew ?_ | (dsimp only; omega) | omega | (simp; omega)))
set_option maxHeartbeats 1600000 in
theorem above_f (i : Int) (t : Int) (bt : Nat) (u : Int) (bu : Nat)  (w : World) (i0 : 0 ≤ i ∧ i ≤ 8999) (ht : -30 ≤ t ∧ t ≤ 30) (r : Int × Int) (hr : Hid (r = Z.figLog (1000 + i, t))) (hd : ¬ (bt = bu)) (kt0 : w.cell? ⟨bt, 0, none⟩ = some (.int .i64 t)) (ku0 : w.cell? ⟨bu, 0, none⟩ = some (.int .i64 u)) :
    Calls Try.prog 202 #[.int .i64 i, .pointer (some ⟨bt, 0, none⟩), .pointer (some ⟨bu, 0, none⟩)] w fun e w' => e = .returned (.bool (decide (u ≤ r.1))) ∧ K.Ext w w' := by
  have HR : ∀ w : World, Calls Try.prog 132 #[.agg #[.int .i64 (1000 + i), .int .i64 t]] w fun e w' => e = .returned (.agg #[.int .i64 r.1, .int .i64 r.2]) ∧ K.Ext w w' := fun w => by rw [hr.out]; exact figureLog_any (1000 + i, t) w (by simp only [Z.isFig, Bool.and_eq_true, decide_eq_true_eq]; omega)
  have q1 : IntKind.i64.wrap (1000 + i) = 1000 + i := IntWalk.i64_in _ (by omega)
  clear hr
  have lbt : bt < w.heap.size := World.block_lt_of_cell? w _ kt0
  have nat0 : ¬ (bt = w.heap.size) := (by omega)
  have nbt0 : ¬ (w.heap.size = bt) := (by omega)
  have nat1 : ¬ (bt = w.heap.size + 1) := (by omega)
  have nbt1 : ¬ (w.heap.size + 1 = bt) := (by omega)
  have nat2 : ¬ (bt = w.heap.size + 1 + 1) := (by omega)
  have nbt2 : ¬ (w.heap.size + 1 + 1 = bt) := (by omega)
  have nat3 : ¬ (bt = w.heap.size + 1 + 1 + 1) := (by omega)
  have nbt3 : ¬ (w.heap.size + 1 + 1 + 1 = bt) := (by omega)
  have lbu : bu < w.heap.size := World.block_lt_of_cell? w _ ku0
  have nau0 : ¬ (bu = w.heap.size) := (by omega)
  have nbu0 : ¬ (w.heap.size = bu) := (by omega)
  have nau1 : ¬ (bu = w.heap.size + 1) := (by omega)
  have nbu1 : ¬ (w.heap.size + 1 = bu) := (by omega)
  have nau2 : ¬ (bu = w.heap.size + 1 + 1) := (by omega)
  have nbu2 : ¬ (w.heap.size + 1 + 1 = bu) := (by omega)
  have nau3 : ¬ (bu = w.heap.size + 1 + 1 + 1) := (by omega)
  have nbu3 : ¬ (w.heap.size + 1 + 1 + 1 = bu) := (by omega)
  have X0 : K.Ext w w := K.Ext.refl w
  go_enter Try.func202, Try.ntmps202
  go_wp2_with fail
  refine K.wp_region_x 8 [0, 0, 1, 0, 2, 2, 1, 2] [K.SP.any, K.SP.any, K.SP.any, K.SP.any, K.SP.is (.agg #[.int .i64 r.1, .int .i64 r.2]), K.SP.is (.int .i64 r.1), K.SP.any, K.SP.is (.bool (decide (u ≤ r.1)))] (by kernel_rfl) (by kernel_rfl) ?_
  simp only [List.take_succ_cons, List.take_zero, List.drop_succ_cons, List.drop_zero]
  iterate 2
    apply K.x_pure
    · rfl
    · rfl
    · intro w'; go_simp; first | done | exact K.vint (IntWalk.i64_in _ (by omega)) | rfl | exact ⟨rfl, rfl⟩
    simp only [Act.put, List.setIfInBounds_toArray, List.set]
  apply K.x_held
  · rfl
  · rfl
  · intro w' hx; have hc := hx.all.1.1; have hf := hx.all.1.2; have hc' := hx.all.2.1; have hf' := hx.all.2.2; go_simp; first | done | rfl | exact ⟨rfl, rfl⟩
  simp only [Act.put, List.setIfInBounds_toArray, List.set]
  apply K.x_pure
  · rfl
  · rfl
  · intro w'; go_simp; first | done | exact K.vint (IntWalk.i64_in _ (by omega)) | rfl | exact ⟨rfl, rfl⟩
  simp only [Act.put, List.setIfInBounds_toArray, List.set]
  apply K.x_call_is
  · rfl
  · rfl
  · rfl
  · intro w'; go_simp; first | done | rfl | exact ⟨rfl, rfl⟩
  · intro w' hx hp; have hc := hx.all.1.1; have hf := hx.all.1.2; have hc' := hx.all.2.1; have hf' := hx.all.2.2; exact HR _
  intro w_4_ hx_4_
  simp only [Act.put, List.setIfInBounds_toArray, List.set]
  apply K.x_op_is
  · rfl
  · rfl
  · rfl
  · intro w' hx hp; have hc := hx.all.1.1; have hf := hx.all.1.2; have hc' := hx.all.2.1; have hf' := hx.all.2.2; have hfi := field_iv0; go_simp; first | done | rfl
  intro w_5_ hx_5_
  simp only [Act.put, List.setIfInBounds_toArray, List.set]
  apply K.x_held
  · rfl
  · rfl
  · intro w' hx; have hc := hx.all.1.1; have hf := hx.all.1.2; have hc' := hx.all.2.1; have hf' := hx.all.2.2; go_simp; first | done | rfl | exact ⟨rfl, rfl⟩
  simp only [Act.put, List.setIfInBounds_toArray, List.set]
  apply K.x_op_is
  · rfl
  · rfl
  · rfl
  · intro w' hx hp; have hc := hx.all.1.1; have hf := hx.all.1.2; have hc' := hx.all.2.1; have hf' := hx.all.2.2; go_simp; first | done | rfl
  intro w_7_ hx_7_
  simp only [Act.put, List.setIfInBounds_toArray, List.set]
  apply K.x_done
  intro w1 h_x
  have x1 := hx_4_.trans (hx_5_.trans (hx_7_.trans h_x))
  clear h_x hx_4_ hx_5_ hx_7_
  obtain ⟨⟨hcw1, hfw1⟩, hc'w1, hf'w1⟩ := x1.all
  have s1 : w.heap.size ≤ w1.heap.size := (by have h_ := x1.size; (try simp at h_); omega)
  have X1 := K.Ext.trans (K.Ext.drew (X0)) x1
  have c1_0_0 := K.c1 x1 (bt) (.int .i64 t) (by go_simp)
  have z1_0 : bt < w1.heap.size := World.block_lt_of_cell? w1 _ c1_0_0
  have d1_0 : ¬ (bt = w1.heap.size) := (by omega)
  have e1_0 : ¬ (w1.heap.size = bt) := (by omega)
  have c1_1_0 := K.c1 x1 (bu) (.int .i64 u) (by go_simp)
  have z1_1 : bu < w1.heap.size := World.block_lt_of_cell? w1 _ c1_1_0
  have d1_1 : ¬ (bu = w1.heap.size) := (by omega)
  have e1_1 : ¬ (w1.heap.size = bu) := (by omega)
  have n1_0 : ¬ (bu = bt) := (by omega)
  have n0_1 : ¬ (bt = bu) := (by omega)
  go_wp2_with fail
  refine NoPanic.normal ?_
  go_wp2_with fail
  refine bodyPost_ret (v := .bool (decide (u ≤ r.1))) (by unfold results; rw [Try.results202]; go_simp) rfl ⟨rfl, ?_⟩
  repeat with_reducible refine K.Ext.setCell ?_ (by dsimp only; omega) _
  exact (by repeat' (first | with_reducible exact X1 | with_reducible refine K.Ext.setCell ?_ ?_ _ | with_reducible refine K.Ext.alloc ?_ _ | with_reducible refine K.Ext.drew ?_ | (dsimp only; omega) | omega | (simp; omega)))
set_option maxRecDepth 100000 in
set_option maxHeartbeats 3200000 in
theorem figureBelow_any (u : Int)  (w : World) (hu : Z.units u = true) (B : (Int × Int) × Bool) (HB : Hid (Z.belowOr u = B))  :
    Calls Try.prog 177 #[.int .i64 u] w fun e w' => e = .returned (.tuple #[.agg #[.int .i64 B.1.1, .int .i64 B.1.2], .bool B.2]) ∧ K.Ext w w' := by
  obtain ⟨u1, u2⟩ := (Z.units_iff u).1 hu
  obtain ⟨t, ht⟩ : ∃ t, t = Z.fl (u - 1) 1048576 := ⟨_, rfl⟩
  obtain ⟨t1, t2⟩ := Z.fl_spec (u - 1) 1048576 (by decide)
  rw [← ht] at t1 t2
  have HD : ∀ w : World, Calls Try.prog 185 #[.int .i64 (u - 1), .int .i64 1048576] w fun e w' => e = .returned (.int .i64 t) ∧ w = w' := fun w => by rw [ht]; exact down_any (u - 1) 1048576 w (by decide) (by omega) (by omega)
  have q1 : IntKind.i64.wrap (u - 1) = u - 1 := IntWalk.i64_in _ (by omega)
  by_cases h30 : t < -30
  · have HE : Hid (B = ((0, 0), false)) := Z.hide (by rw [← HB.out]; unfold Z.belowOr; rw [Z.below_none hu (by rw [← ht]; exact h30)]; rfl)
    clear ht
    have X0 : K.Ext w w := K.Ext.refl w
    go_enter Try.func177, Try.ntmps177
    go_wp2_with (go_at_call 185; refine K.call (by with_reducible rfl) (by with_reducible rfl) (HD _) ?_; rintro e w_ ⟨rfl, rfl⟩)
    rw [HE.out]
    refine bodyPost_ret (v := .tuple #[.agg #[.int .i64 0, .int .i64 0], .bool false]) (by unfold results; rw [Try.results177]; go_simp) rfl ⟨rfl, ?_⟩
    repeat with_reducible refine K.Ext.setCell ?_ (by dsimp only; omega) _
    exact (by repeat' (first | with_reducible exact X0 | with_reducible refine K.Ext.setCell ?_ ?_ _ | with_reducible refine K.Ext.alloc ?_ _ | with_reducible refine K.Ext.drew ?_ | (dsimp only; omega) | omega | (simp; omega)))
  · obtain ⟨r, hr⟩ : ∃ r, r = srchN (fun i => decide (u < (Z.figLog (1000 + (i : Int), t)).2)) 9000 := ⟨_, rfl⟩
    have t3 : -30 ≤ t ∧ t ≤ 30 := by omega
    obtain ⟨r1, r2, r3⟩ := srchN_spec (fun i => decide (u < (Z.figLog (1000 + (i : Int), t)).2)) 9000 (fun i j hij hj h => by
      have a := (Z.figLog_mono (n := 9000 * t + i) (m := 9000 * t + j) (by omega)).2
      rw [Z.atN_at (by omega) (by omega), Z.atN_at (by omega) (by omega)] at a
      simp only [decide_eq_true_eq] at h ⊢
      omega)
    rw [← hr] at r1 r2 r3
    have hb := Z.below_at hu ht h30 r1 (by simpa using r2) (by simpa using r3)
    have HE : Hid (B = ((999 + (r : Int), t), true)) := Z.hide (by rw [← HB.out]; unfold Z.belowOr; rw [hb.1]; dsimp only; rw [hb.2]; rfl)
    have HS : ∀ {a b : Nat} (w : World), ¬ (a = b) → w.cell? ⟨a, 0, none⟩ = some (.int .i64 t) → w.cell? ⟨b, 0, none⟩ = some (.int .i64 u) → Calls Try.prog 200 #[.int .i64 9000, .func (.func 201) #[] #[.pointer (some ⟨a, 0, none⟩), .pointer (some ⟨b, 0, none⟩)]] w fun e w' => e = .returned (.int .i64 (r : Int)) ∧ K.Ext w w' := fun w hne ha hb => by
      rw [hr]
      exact Search_is (fun i => decide (u < (Z.figLog (1000 + (i : Int), t)).2)) 201 _ _ 9000 w (by decide) (fun args w' => by go_simp) (fun i j hij hj h => by
        have a := (Z.figLog_mono (n := 9000 * t + i) (m := 9000 * t + j) (by omega)).2
        rw [Z.atN_at (by omega) (by omega), Z.atN_at (by omega) (by omega)] at a
        simp only [decide_eq_true_eq] at h ⊢
        omega) (fun i w' hi hx => below_f i t _ u _ w' ⟨by omega, by omega⟩ t3 _ (Z.hide rfl) hne (hx.cell_of ha) (hx.cell_of hb))
    have q2 : IntKind.i64.wrap (999 + (r : Int)) = 999 + (r : Int) := IntWalk.i64_in _ (by omega)
    clear hb hr r2 r3 ht
    have X0 : K.Ext w w := K.Ext.refl w
    go_enter Try.func177, Try.ntmps177
    go_wp2_with (go_at_call 185; refine K.call (by with_reducible rfl) (by with_reducible rfl) (HD _) ?_; rintro e w_ ⟨rfl, rfl⟩)
    go_wp2_with (go_at_call 200; refine K.call (by with_reducible rfl) (by with_reducible rfl) (HS _ (by omega) (by go_simp) (by go_simp)) ?_; rintro e w2 ⟨rfl, x2⟩; have s2 : w.heap.size + 3 ≤ w2.heap.size := (by have h_ := x2.size; (try simp at h_); omega); have X2 : K.Ext w w2 := K.Ext.trans (by repeat' (first | with_reducible exact X0 | with_reducible refine K.Ext.setCell ?_ ?_ _ | with_reducible refine K.Ext.alloc ?_ _ | with_reducible refine K.Ext.drew ?_ | (dsimp only; omega) | omega | (simp; omega))) x2; have c2_0_0 := K.c1 x2 (w.heap.size) (.int .i64 u) (by go_simp); have z2_0 : w.heap.size < w2.heap.size := World.block_lt_of_cell? w2 _ c2_0_0; have d2_0 : ¬ (w.heap.size = w2.heap.size) := (by omega); have e2_0 : ¬ (w2.heap.size = w.heap.size) := (by omega); obtain ⟨c2_1_0, c2_1_1⟩ := K.c2 x2 (w.heap.size + 1) (.int .i64 0) (.int .i64 0) (by go_simp); obtain ⟨f2_1_0, f2_1_1⟩ := K.f2 x2 (w.heap.size + 1) (by go_simp); have z2_1 : w.heap.size + 1 < w2.heap.size := World.block_lt_of_cell? w2 _ c2_1_0; have d2_1 : ¬ (w.heap.size + 1 = w2.heap.size) := (by omega); have e2_1 : ¬ (w2.heap.size = w.heap.size + 1) := (by omega); have n1_0 : ¬ (w.heap.size + 1 = w.heap.size) := (by omega); have n0_1 : ¬ (w.heap.size = w.heap.size + 1) := (by omega); have c2_2_0 := K.c1 x2 (w.heap.size + 1 + 1) (.int .i64 t) (by go_simp); have f2_2_0 := K.f1 x2 (w.heap.size + 1 + 1) (by go_simp); have z2_2 : w.heap.size + 1 + 1 < w2.heap.size := World.block_lt_of_cell? w2 _ c2_2_0; have d2_2 : ¬ (w.heap.size + 1 + 1 = w2.heap.size) := (by omega); have e2_2 : ¬ (w2.heap.size = w.heap.size + 1 + 1) := (by omega); have n2_0 : ¬ (w.heap.size + 1 + 1 = w.heap.size) := (by omega); have n0_2 : ¬ (w.heap.size = w.heap.size + 1 + 1) := (by omega); have n2_1 : ¬ (w.heap.size + 1 + 1 = w.heap.size + 1) := (by omega); have n1_2 : ¬ (w.heap.size + 1 = w.heap.size + 1 + 1) := (by omega))
    rw [HE.out]
    refine bodyPost_ret (v := .tuple #[.agg #[.int .i64 (999 + (r : Int)), .int .i64 t], .bool true]) (by unfold results; rw [Try.results177]; go_simp) rfl ⟨rfl, ?_⟩
    repeat with_reducible refine K.Ext.setCell ?_ (by dsimp only; omega) _
    exact (by repeat' (first | with_reducible exact X2 | with_reducible refine K.Ext.setCell ?_ ?_ _ | with_reducible refine K.Ext.alloc ?_ _ | with_reducible refine K.Ext.drew ?_ | (dsimp only; omega) | omega | (simp; omega)))
set_option maxHeartbeats 3200000 in
theorem figureAbove_any (u : Int)  (w : World) (hu : Z.units u = true) (B : (Int × Int) × Bool) (HB : Hid (Z.aboveOr u = B))  :
    Calls Try.prog 178 #[.int .i64 u] w fun e w' => e = .returned (.tuple #[.agg #[.int .i64 B.1.1, .int .i64 B.1.2], .bool B.2]) ∧ K.Ext w w' := by
  obtain ⟨u1, u2⟩ := (Z.units_iff u).1 hu
  obtain ⟨t, ht⟩ : ∃ t, t = Z.fl u 1048576 := ⟨_, rfl⟩
  obtain ⟨t1, t2⟩ := Z.fl_spec u 1048576 (by decide)
  rw [← ht] at t1 t2
  have HD : ∀ w : World, Calls Try.prog 185 #[.int .i64 u, .int .i64 1048576] w fun e w' => e = .returned (.int .i64 t) ∧ w = w' := fun w => by rw [ht]; exact down_any u 1048576 w (by decide) (by omega) (by omega)
  obtain ⟨r, hr⟩ : ∃ r, r = srchN (fun i => decide (u ≤ (Z.figLog (1000 + (i : Int), t)).1)) 9000 := ⟨_, rfl⟩
  have t3 : -30 ≤ t ∧ t ≤ 30 := by omega
  obtain ⟨r1, r2, r3⟩ := srchN_spec (fun i => decide (u ≤ (Z.figLog (1000 + (i : Int), t)).1)) 9000 (fun i j hij hj h => by
    have a := (Z.figLog_mono (n := 9000 * t + i) (m := 9000 * t + j) (by omega)).1
    rw [Z.atN_at (by omega) (by omega), Z.atN_at (by omega) (by omega)] at a
    simp only [decide_eq_true_eq] at h ⊢
    omega)
  rw [← hr] at r1 r2 r3
  have hb := Z.above_at hu ht r1 (by simpa using r2) (by simpa using r3)
  have HS : ∀ {a b : Nat} (w : World), ¬ (a = b) → w.cell? ⟨a, 0, none⟩ = some (.int .i64 t) → w.cell? ⟨b, 0, none⟩ = some (.int .i64 u) → Calls Try.prog 200 #[.int .i64 9000, .func (.func 202) #[] #[.pointer (some ⟨a, 0, none⟩), .pointer (some ⟨b, 0, none⟩)]] w fun e w' => e = .returned (.int .i64 (r : Int)) ∧ K.Ext w w' := fun w hne ha hb => by
    rw [hr]
    exact Search_is (fun i => decide (u ≤ (Z.figLog (1000 + (i : Int), t)).1)) 202 _ _ 9000 w (by decide) (fun args w' => by go_simp) (fun i j hij hj h => by
      have a := (Z.figLog_mono (n := 9000 * t + i) (m := 9000 * t + j) (by omega)).1
      rw [Z.atN_at (by omega) (by omega), Z.atN_at (by omega) (by omega)] at a
      simp only [decide_eq_true_eq] at h ⊢
      omega) (fun i w' hi hx => above_f i t _ u _ w' ⟨by omega, by omega⟩ t3 _ (Z.hide rfl) hne (hx.cell_of ha) (hx.cell_of hb))
  have q2 : IntKind.i64.wrap (1000 + (r : Int)) = 1000 + (r : Int) := IntWalk.i64_in _ (by omega)
  have q3 : IntKind.i64.wrap (t + 1) = t + 1 := IntWalk.i64_in _ (by omega)
  by_cases h9 : r = 9000
  · rw [if_pos h9] at hb
    have HE : Hid (B = ((1000, t + 1), Z.isFig 1000 (t + 1))) := Z.hide (by rw [← HB.out]; unfold Z.aboveOr; rw [hb])
    have h9' : (r : Int) = 9000 := by omega
    clear hb hr r2 r3 ht
    have X0 : K.Ext w w := K.Ext.refl w
    go_enter Try.func178, Try.ntmps178
    go_wp2_with (go_at_call 185; refine K.call (by with_reducible rfl) (by with_reducible rfl) (HD _) ?_; rintro e w_ ⟨rfl, rfl⟩)
    go_wp2_with (go_at_call 200; refine K.call (by with_reducible rfl) (by with_reducible rfl) (HS _ (by omega) (by go_simp) (by go_simp)) ?_; rintro e w2 ⟨rfl, x2⟩; have s2 : w.heap.size + 3 ≤ w2.heap.size := (by have h_ := x2.size; (try simp at h_); omega); have X2 := K.Ext.trans (K.Ext.alloc (K.Ext.alloc (K.Ext.alloc X0 _) _) _) x2; have c2_0_0 := K.c1 x2 (w.heap.size) (.int .i64 u) (by go_simp); have z2_0 : w.heap.size < w2.heap.size := World.block_lt_of_cell? w2 _ c2_0_0; have d2_0 : ¬ (w.heap.size = w2.heap.size) := (by omega); have e2_0 : ¬ (w2.heap.size = w.heap.size) := (by omega); obtain ⟨c2_1_0, c2_1_1⟩ := K.c2 x2 (w.heap.size + 1) (.int .i64 0) (.int .i64 0) (by go_simp); obtain ⟨f2_1_0, f2_1_1⟩ := K.f2 x2 (w.heap.size + 1) (by go_simp); have z2_1 : w.heap.size + 1 < w2.heap.size := World.block_lt_of_cell? w2 _ c2_1_0; have d2_1 : ¬ (w.heap.size + 1 = w2.heap.size) := (by omega); have e2_1 : ¬ (w2.heap.size = w.heap.size + 1) := (by omega); have n1_0 : ¬ (w.heap.size + 1 = w.heap.size) := (by omega); have n0_1 : ¬ (w.heap.size = w.heap.size + 1) := (by omega); have c2_2_0 := K.c1 x2 (w.heap.size + 1 + 1) (.int .i64 t) (by go_simp); have f2_2_0 := K.f1 x2 (w.heap.size + 1 + 1) (by go_simp); have z2_2 : w.heap.size + 1 + 1 < w2.heap.size := World.block_lt_of_cell? w2 _ c2_2_0; have d2_2 : ¬ (w.heap.size + 1 + 1 = w2.heap.size) := (by omega); have e2_2 : ¬ (w2.heap.size = w.heap.size + 1 + 1) := (by omega); have n2_0 : ¬ (w.heap.size + 1 + 1 = w.heap.size) := (by omega); have n0_2 : ¬ (w.heap.size = w.heap.size + 1 + 1) := (by omega); have n2_1 : ¬ (w.heap.size + 1 + 1 = w.heap.size + 1) := (by omega); have n1_2 : ¬ (w.heap.size + 1 = w.heap.size + 1 + 1) := (by omega))
    go_wp2_with fail
    go_region_with (first | (go_at_call 112; refine K.call (by with_reducible rfl) (by with_reducible rfl) (impl_IsFigure 1000 (t + 1) _) ?_; rintro e w3 ⟨rfl, x3⟩; have s3 : w2.heap.size + 1 ≤ w3.heap.size := (by have h_ := x3.size; (try simp at h_); omega); have X3 : K.Ext w w3 := K.Ext.trans (by repeat' (first | with_reducible exact X2 | with_reducible refine K.Ext.setCell ?_ ?_ _ | with_reducible refine K.Ext.alloc ?_ _ | with_reducible refine K.Ext.drew ?_ | (dsimp only; omega) | omega | (simp; omega))) x3; have c3_0_0 := K.c1 x3 (w.heap.size) (.int .i64 u) (by go_simp); have z3_0 : w.heap.size < w3.heap.size := World.block_lt_of_cell? w3 _ c3_0_0; have d3_0 : ¬ (w.heap.size = w3.heap.size) := (by omega); have e3_0 : ¬ (w3.heap.size = w.heap.size) := (by omega); obtain ⟨c3_1_0, c3_1_1⟩ := K.c2 x3 (w.heap.size + 1) (.int .i64 0) (.int .i64 0) (by go_simp); obtain ⟨f3_1_0, f3_1_1⟩ := K.f2 x3 (w.heap.size + 1) (by go_simp); have z3_1 : w.heap.size + 1 < w3.heap.size := World.block_lt_of_cell? w3 _ c3_1_0; have d3_1 : ¬ (w.heap.size + 1 = w3.heap.size) := (by omega); have e3_1 : ¬ (w3.heap.size = w.heap.size + 1) := (by omega); have c3_2_0 := K.c1 x3 (w.heap.size + 1 + 1) (.int .i64 t) (by go_simp); have f3_2_0 := K.f1 x3 (w.heap.size + 1 + 1) (by go_simp); have z3_2 : w.heap.size + 1 + 1 < w3.heap.size := World.block_lt_of_cell? w3 _ c3_2_0; have d3_2 : ¬ (w.heap.size + 1 + 1 = w3.heap.size) := (by omega); have e3_2 : ¬ (w3.heap.size = w.heap.size + 1 + 1) := (by omega); obtain ⟨c3_3_0, c3_3_1⟩ := K.c2 x3 (w2.heap.size) (.int .i64 1000) (.int .i64 (t + 1)) (by go_simp); obtain ⟨f3_3_0, f3_3_1⟩ := K.f2 x3 (w2.heap.size) (by go_simp); have z3_3 : w2.heap.size < w3.heap.size := World.block_lt_of_cell? w3 _ c3_3_0; have d3_3 : ¬ (w2.heap.size = w3.heap.size) := (by omega); have e3_3 : ¬ (w3.heap.size = w2.heap.size) := (by omega); have n3_0 : ¬ (w2.heap.size = w.heap.size) := (by omega); have n0_3 : ¬ (w.heap.size = w2.heap.size) := (by omega); have n3_1 : ¬ (w2.heap.size = w.heap.size + 1) := (by omega); have n1_3 : ¬ (w.heap.size + 1 = w2.heap.size) := (by omega); have n3_2 : ¬ (w2.heap.size = w.heap.size + 1 + 1) := (by omega); have n2_3 : ¬ (w.heap.size + 1 + 1 = w2.heap.size) := (by omega); clear c2_0_0 z2_0 d2_0 e2_0 c2_1_0 c2_1_1 f2_1_0 f2_1_1 z2_1 d2_1 e2_1 c2_2_0 f2_2_0 z2_2 d2_2 e2_2))
    all_goals
      go_wp2_with fail
      rw [HE.out]
      refine bodyPost_ret (v := .tuple #[.agg #[.int .i64 1000, .int .i64 (t + 1)], .bool (Z.isFig 1000 (t + 1))]) (by unfold results; rw [Try.results178]; go_simp) rfl ⟨rfl, ?_⟩
      repeat with_reducible refine K.Ext.setCell ?_ (by dsimp only; omega) _
      exact (by repeat' (first | with_reducible exact X3 | with_reducible refine K.Ext.setCell ?_ ?_ _ | with_reducible refine K.Ext.alloc ?_ _ | with_reducible refine K.Ext.drew ?_ | (dsimp only; omega) | omega | (simp; omega)))
  · rw [if_neg h9] at hb
    have HE : Hid (B = ((1000 + (r : Int), t), Z.isFig (1000 + (r : Int)) t)) := Z.hide (by rw [← HB.out]; unfold Z.aboveOr; rw [hb])
    have h9' : ¬ ((r : Int) = 9000) := by omega
    clear hb hr r2 r3 ht
    have X0 : K.Ext w w := K.Ext.refl w
    go_enter Try.func178, Try.ntmps178
    go_wp2_with (go_at_call 185; refine K.call (by with_reducible rfl) (by with_reducible rfl) (HD _) ?_; rintro e w_ ⟨rfl, rfl⟩)
    go_wp2_with (go_at_call 200; refine K.call (by with_reducible rfl) (by with_reducible rfl) (HS _ (by omega) (by go_simp) (by go_simp)) ?_; rintro e w2 ⟨rfl, x2⟩; have s2 : w.heap.size + 3 ≤ w2.heap.size := (by have h_ := x2.size; (try simp at h_); omega); have X2 : K.Ext w w2 := K.Ext.trans (by repeat' (first | with_reducible exact X0 | with_reducible refine K.Ext.setCell ?_ ?_ _ | with_reducible refine K.Ext.alloc ?_ _ | with_reducible refine K.Ext.drew ?_ | (dsimp only; omega) | omega | (simp; omega))) x2; have c2_0_0 := K.c1 x2 (w.heap.size) (.int .i64 u) (by go_simp); have z2_0 : w.heap.size < w2.heap.size := World.block_lt_of_cell? w2 _ c2_0_0; have d2_0 : ¬ (w.heap.size = w2.heap.size) := (by omega); have e2_0 : ¬ (w2.heap.size = w.heap.size) := (by omega); obtain ⟨c2_1_0, c2_1_1⟩ := K.c2 x2 (w.heap.size + 1) (.int .i64 0) (.int .i64 0) (by go_simp); obtain ⟨f2_1_0, f2_1_1⟩ := K.f2 x2 (w.heap.size + 1) (by go_simp); have z2_1 : w.heap.size + 1 < w2.heap.size := World.block_lt_of_cell? w2 _ c2_1_0; have d2_1 : ¬ (w.heap.size + 1 = w2.heap.size) := (by omega); have e2_1 : ¬ (w2.heap.size = w.heap.size + 1) := (by omega); have n1_0 : ¬ (w.heap.size + 1 = w.heap.size) := (by omega); have n0_1 : ¬ (w.heap.size = w.heap.size + 1) := (by omega); have c2_2_0 := K.c1 x2 (w.heap.size + 1 + 1) (.int .i64 t) (by go_simp); have f2_2_0 := K.f1 x2 (w.heap.size + 1 + 1) (by go_simp); have z2_2 : w.heap.size + 1 + 1 < w2.heap.size := World.block_lt_of_cell? w2 _ c2_2_0; have d2_2 : ¬ (w.heap.size + 1 + 1 = w2.heap.size) := (by omega); have e2_2 : ¬ (w2.heap.size = w.heap.size + 1 + 1) := (by omega); have n2_0 : ¬ (w.heap.size + 1 + 1 = w.heap.size) := (by omega); have n0_2 : ¬ (w.heap.size = w.heap.size + 1 + 1) := (by omega); have n2_1 : ¬ (w.heap.size + 1 + 1 = w.heap.size + 1) := (by omega); have n1_2 : ¬ (w.heap.size + 1 = w.heap.size + 1 + 1) := (by omega))
    go_wp2_with fail
    go_region_with (first | (go_at_call 112; refine K.call (by with_reducible rfl) (by with_reducible rfl) (impl_IsFigure (1000 + (r : Int)) t _) ?_; rintro e w3 ⟨rfl, x3⟩; have s3 : w2.heap.size + 1 ≤ w3.heap.size := (by have h_ := x3.size; (try simp at h_); omega); have X3 : K.Ext w w3 := K.Ext.trans (by repeat' (first | with_reducible exact X2 | with_reducible refine K.Ext.setCell ?_ ?_ _ | with_reducible refine K.Ext.alloc ?_ _ | with_reducible refine K.Ext.drew ?_ | (dsimp only; omega) | omega | (simp; omega))) x3; have c3_0_0 := K.c1 x3 (w.heap.size) (.int .i64 u) (by go_simp); have z3_0 : w.heap.size < w3.heap.size := World.block_lt_of_cell? w3 _ c3_0_0; have d3_0 : ¬ (w.heap.size = w3.heap.size) := (by omega); have e3_0 : ¬ (w3.heap.size = w.heap.size) := (by omega); obtain ⟨c3_1_0, c3_1_1⟩ := K.c2 x3 (w.heap.size + 1) (.int .i64 0) (.int .i64 0) (by go_simp); obtain ⟨f3_1_0, f3_1_1⟩ := K.f2 x3 (w.heap.size + 1) (by go_simp); have z3_1 : w.heap.size + 1 < w3.heap.size := World.block_lt_of_cell? w3 _ c3_1_0; have d3_1 : ¬ (w.heap.size + 1 = w3.heap.size) := (by omega); have e3_1 : ¬ (w3.heap.size = w.heap.size + 1) := (by omega); have c3_2_0 := K.c1 x3 (w.heap.size + 1 + 1) (.int .i64 t) (by go_simp); have f3_2_0 := K.f1 x3 (w.heap.size + 1 + 1) (by go_simp); have z3_2 : w.heap.size + 1 + 1 < w3.heap.size := World.block_lt_of_cell? w3 _ c3_2_0; have d3_2 : ¬ (w.heap.size + 1 + 1 = w3.heap.size) := (by omega); have e3_2 : ¬ (w3.heap.size = w.heap.size + 1 + 1) := (by omega); obtain ⟨c3_3_0, c3_3_1⟩ := K.c2 x3 (w2.heap.size) (.int .i64 (1000 + (r : Int))) (.int .i64 t) (by go_simp); obtain ⟨f3_3_0, f3_3_1⟩ := K.f2 x3 (w2.heap.size) (by go_simp); have z3_3 : w2.heap.size < w3.heap.size := World.block_lt_of_cell? w3 _ c3_3_0; have d3_3 : ¬ (w2.heap.size = w3.heap.size) := (by omega); have e3_3 : ¬ (w3.heap.size = w2.heap.size) := (by omega); have n3_0 : ¬ (w2.heap.size = w.heap.size) := (by omega); have n0_3 : ¬ (w.heap.size = w2.heap.size) := (by omega); have n3_1 : ¬ (w2.heap.size = w.heap.size + 1) := (by omega); have n1_3 : ¬ (w.heap.size + 1 = w2.heap.size) := (by omega); have n3_2 : ¬ (w2.heap.size = w.heap.size + 1 + 1) := (by omega); have n2_3 : ¬ (w.heap.size + 1 + 1 = w2.heap.size) := (by omega); clear c2_0_0 z2_0 d2_0 e2_0 c2_1_0 c2_1_1 f2_1_0 f2_1_1 z2_1 d2_1 e2_1 c2_2_0 f2_2_0 z2_2 d2_2 e2_2))
    all_goals
      go_wp2_with fail
      rw [HE.out]
      refine bodyPost_ret (v := .tuple #[.agg #[.int .i64 (1000 + (r : Int)), .int .i64 t], .bool (Z.isFig (1000 + (r : Int)) t)]) (by unfold results; rw [Try.results178]; go_simp) rfl ⟨rfl, ?_⟩
      repeat with_reducible refine K.Ext.setCell ?_ (by dsimp only; omega) _
      exact (by repeat' (first | with_reducible exact X3 | with_reducible refine K.Ext.setCell ?_ ?_ _ | with_reducible refine K.Ext.alloc ?_ _ | with_reducible refine K.Ext.drew ?_ | (dsimp only; omega) | omega | (simp; omega)))
set_option maxHeartbeats 1600000 in
theorem l04At_any (n : Int)  (w : World) (h1 : -300000 ≤ n) (h2 : n ≤ 300000)  :
    Calls Try.prog 203 #[.int .i64 n] w fun e w' => e = .returned (.agg #[.int .i64 (Z.atN n).1, .int .i64 (Z.atN n).2]) ∧ K.Ext w w' := by
  obtain ⟨a, ha⟩ : ∃ a, a = n % 9000 := ⟨_, rfl⟩
  obtain ⟨b, hb⟩ : ∃ b, b = n / 9000 := ⟨_, rfl⟩
  have HM : ∀ w : World, Calls Try.prog 209 #[.int .i64 n, .int .i64 9000] w fun e w' => e = .returned (.int .i64 a) ∧ w = w' := fun w => by rw [ha]; exact l01Mod_any n 9000 w (by decide) (by omega) (by omega) (by decide)
  have HF : ∀ w : World, Calls Try.prog 198 #[.int .i64 n, .int .i64 9000] w fun e w' => e = .returned (.int .i64 b) ∧ w = w' := fun w => by rw [hb, ← Z.fl_eq_ediv n 9000 (by decide)]; exact l01Floor_any n 9000 w (by decide) (by omega) (by omega) (by decide) (by decide)
  have HE : Hid (Z.atN n = (1000 + a, b)) := Z.hide (by rw [ha, hb]; rfl)
  have a1 : 0 ≤ a ∧ a < 9000 := by omega
  have q1 : IntKind.i64.wrap (1000 + a) = 1000 + a := IntWalk.i64_in _ (by omega)
  clear ha hb
  have X0 : K.Ext w w := K.Ext.refl w
  go_enter Try.func203, Try.ntmps203
  go_wp2_with (go_at_call 209; refine K.call (by with_reducible rfl) (by with_reducible rfl) (HM _) ?_; rintro e w_ ⟨rfl, rfl⟩)
  go_wp2_with (go_at_call 198; refine K.call (by with_reducible rfl) (by with_reducible rfl) (HF _) ?_; rintro e w_ ⟨rfl, rfl⟩)
  rw [HE.out]
  refine bodyPost_ret (v := .agg #[.int .i64 (1000 + a), .int .i64 b]) (by unfold results; rw [Try.results203]; go_simp) rfl ⟨rfl, ?_⟩
  repeat with_reducible refine K.Ext.setCell ?_ (by dsimp only; omega) _
  exact (by repeat' (first | with_reducible exact X0 | with_reducible refine K.Ext.setCell ?_ ?_ _ | with_reducible refine K.Ext.alloc ?_ _ | with_reducible refine K.Ext.drew ?_ | (dsimp only; omega) | omega | (simp; omega)))
set_option maxHeartbeats 1600000 in
theorem holds_high (f : Int × Int) (u : Int)  (w : World) (hf : Z.isFig f.1 f.2 = true) (r : Int × Int) (hr : Hid (r = Z.figLog f))  :
    Calls Try.prog 210 #[.agg #[.int .i64 f.1, .int .i64 f.2], .int .i64 u, .bool true] w fun e w' => e = .returned (.bool (decide (u < r.2))) ∧ K.Ext w w' := by
  have HR : ∀ w : World, Calls Try.prog 173 #[.agg #[.int .i64 f.1, .int .i64 f.2]] w fun e w' => e = .returned (.agg #[.int .i64 r.1, .int .i64 r.2]) ∧ K.Ext w w' := fun w => by rw [hr.out]; exact l03Figure_any f w hf
  clear hr hf
  have hfi := field_iv1
  have X0 : K.Ext w w := K.Ext.refl w
  go_enter Try.func210, Try.ntmps210
  go_wp2_with (go_at_call 173; refine K.call (by with_reducible rfl) (by with_reducible rfl) (HR _) ?_; rintro e w1 ⟨rfl, x1⟩; have s1 : w.heap.size + 1 ≤ w1.heap.size := (by have h_ := x1.size; (try simp at h_); omega); have X1 := K.Ext.trans (K.Ext.alloc X0 _) x1; obtain ⟨c1_0_0, c1_0_1⟩ := K.c2 x1 (w.heap.size) (.int .i64 f.1) (.int .i64 f.2) (by go_simp); have z1_0 : w.heap.size < w1.heap.size := World.block_lt_of_cell? w1 _ c1_0_0; have d1_0 : ¬ (w.heap.size = w1.heap.size) := (by omega); have e1_0 : ¬ (w1.heap.size = w.heap.size) := (by omega))
  refine bodyPost_ret (v := .bool (decide (u < r.2))) (by unfold results; rw [Try.results210]; go_simp) rfl ⟨rfl, ?_⟩
  repeat with_reducible refine K.Ext.setCell ?_ (by dsimp only; omega) _
  exact (by repeat' (first | with_reducible exact X1 | with_reducible refine K.Ext.setCell ?_ ?_ _ | with_reducible refine K.Ext.alloc ?_ _ | with_reducible refine K.Ext.drew ?_ | (dsimp only; omega) | omega | (simp; omega)))
set_option maxRecDepth 100000 in
set_option maxHeartbeats 3200000 in
theorem l04First_high (u : Int) (w : World) (n : Int) (HN : Hid (Z.firstHigh u = n)) (hu : Z.units u = true) :
    Calls Try.prog 204 #[.int .i64 u, .bool true] w fun e w' => e = .returned (.int .i64 n) ∧ K.Ext w w' := by
  go_enter Try.func204, Try.ntmps204
  go_wp2
  go_loopw [5, 6] (fun a b wr => ∃ lo hi : Int, a = .int .i64 lo ∧ b = .int .i64 hi ∧ -270001 ≤ lo ∧ lo < hi ∧ hi ≤ 279000 ∧ Hid (lo = -270001 ∨ (Z.figLog (Z.atN lo)).2 ≤ u) ∧ Hid (hi = 279000 ∨ u < (Z.figLog (Z.atN hi)).2) ∧ Hid (K.Ext w wr)) (fun a b _ => (intOf b - intOf a).toNat)
  case atStart => exact ⟨-270001, 279000, rfl, rfl, by decide, by decide, by decide, Z.hide (.inl rfl), Z.hide (.inl rfl), Z.hide (K.Ext.refl _)⟩
  case round =>
    obtain ⟨lo, hi, rfl, rfl, l1, l2, l3, HL, HH, HX⟩ := hrel
    have q1 : IntKind.i64.wrap (hi - lo) = hi - lo := IntWalk.i64_in _ (by omega)
    have q2 : IntKind.i64.wrap (lo + hi) = lo + hi := IntWalk.i64_in _ (by omega)
    by_cases hlt : 1 < hi - lo
    · obtain ⟨s1, s2⟩ := Z.fl_spec (lo + hi) 2 (by decide)
      obtain ⟨m, hm⟩ : ∃ m, m = Z.fl (lo + hi) 2 := ⟨_, rfl⟩
      have HD : ∀ w : World, Calls Try.prog 198 #[.int .i64 (lo + hi), .int .i64 2] w fun e w' => e = .returned (.int .i64 m) ∧ w = w' := fun w => by rw [hm]; exact l01Floor_any (lo + hi) 2 w (by decide) (by omega) (by omega) (by decide) (by decide)
      rw [← hm] at s1 s2
      clear hm
      obtain ⟨f, hf⟩ : ∃ f, f = Z.atN m := ⟨_, rfl⟩
      have HA : ∀ w : World, Calls Try.prog 203 #[.int .i64 m] w fun e w' => e = .returned (.agg #[.int .i64 f.1, .int .i64 f.2]) ∧ K.Ext w w' := fun w => by rw [hf]; exact l04At_any m w (by omega) (by omega)
      have hfig : Z.isFig f.1 f.2 = true := by rw [hf]; unfold Z.atN; simp only [Z.isFig, Bool.and_eq_true, decide_eq_true_eq]; omega
      have HM : Hid (f = Z.atN m) := Z.hide hf
      clear hf
      by_cases hp : u < (Z.figLog f).2
      · have HB : ∀ w : World, Calls Try.prog 210 #[.agg #[.int .i64 f.1, .int .i64 f.2], .int .i64 u, .bool true] w fun e w' => e = .returned (.bool true) ∧ K.Ext w w' := fun w => by have h_ := holds_high f u w hfig _ (Z.hide rfl); rwa [decide_eq_true hp] at h_
        have HH1 : Hid (m = 279000 ∨ u < (Z.figLog (Z.atN m)).2) := Z.hide (.inr (by rw [← HM.out]; exact hp))
        clear hp hfig
        go_wp2_with (first | (go_at_call 198; refine K.call (by with_reducible rfl) (by with_reducible rfl) (HD _) ?_; rintro e w' ⟨rfl, rfl⟩) | (go_at_call 203; refine K.call (by with_reducible rfl) (by with_reducible rfl) (HA _) ?_; rintro e w1 ⟨rfl, hw1⟩; obtain ⟨hcw1, hfw1⟩ := hw1.facts) | (go_at_call 210; refine K.call (by with_reducible rfl) (by with_reducible rfl) (HB _) ?_; rintro e w2 ⟨rfl, hw2⟩; obtain ⟨hcw2, hfw2⟩ := hw2.facts))
        go_roundw
        case rel => exact ⟨lo, m, rfl, rfl, l1, by omega, by omega, HL, HH1, Z.hide (K.Ext.trans HX.out (by repeat' (first | with_reducible exact K.Ext.refl _ | with_reducible assumption | with_reducible refine K.Ext.drew ?_ | with_reducible refine K.Ext.alloc ?_ _ | with_reducible refine K.Ext.setCell ?_ ?_ _ | with_reducible refine K.Ext.trans ?_ (by with_reducible assumption) | (dsimp only; omega) | omega | exact K.Ext.refl _ | assumption | apply K.Ext.drew | refine K.Ext.alloc ?_ _ | refine K.Ext.setCell ?_ ?_ _ | (simp; done) | (simp; omega) | refine K.Ext.trans ?_ (by assumption))))⟩
        case measure => first | (simp [intOf]; done) | (simp [intOf]; omega)
      · have HB : ∀ w : World, Calls Try.prog 210 #[.agg #[.int .i64 f.1, .int .i64 f.2], .int .i64 u, .bool true] w fun e w' => e = .returned (.bool false) ∧ K.Ext w w' := fun w => by have h_ := holds_high f u w hfig _ (Z.hide rfl); rwa [decide_eq_false hp] at h_
        have HL1 : Hid (m = -270001 ∨ (Z.figLog (Z.atN m)).2 ≤ u) := Z.hide (.inr (by rw [← HM.out]; exact Int.not_lt.1 hp))
        clear hp hfig
        go_wp2_with (first | (go_at_call 198; refine K.call (by with_reducible rfl) (by with_reducible rfl) (HD _) ?_; rintro e w' ⟨rfl, rfl⟩) | (go_at_call 203; refine K.call (by with_reducible rfl) (by with_reducible rfl) (HA _) ?_; rintro e w1 ⟨rfl, hw1⟩; obtain ⟨hcw1, hfw1⟩ := hw1.facts) | (go_at_call 210; refine K.call (by with_reducible rfl) (by with_reducible rfl) (HB _) ?_; rintro e w2 ⟨rfl, hw2⟩; obtain ⟨hcw2, hfw2⟩ := hw2.facts))
        go_roundw
        case rel => exact ⟨m, hi, rfl, rfl, by omega, by omega, l3, HL1, HH, Z.hide (K.Ext.trans HX.out (by repeat' (first | with_reducible exact K.Ext.refl _ | with_reducible assumption | with_reducible refine K.Ext.drew ?_ | with_reducible refine K.Ext.alloc ?_ _ | with_reducible refine K.Ext.setCell ?_ ?_ _ | with_reducible refine K.Ext.trans ?_ (by with_reducible assumption) | (dsimp only; omega) | omega | exact K.Ext.refl _ | assumption | apply K.Ext.drew | refine K.Ext.alloc ?_ _ | refine K.Ext.setCell ?_ ?_ _ | (simp; done) | (simp; omega) | refine K.Ext.trans ?_ (by assumption))))⟩
        case measure => first | (simp [intOf]; done) | (simp [intOf]; omega)
    · have e1 : lo = hi - 1 := by omega
      have HE : Hid (n = hi) := Z.hide (HN.out.symm.trans (Z.firstHigh_is (by omega) l3 HH.out (by rw [← e1]; rcases HL.out with h | h; exact .inl (by omega); exact .inr (Int.not_lt.2 h))))
      clear e1
      go_wp2
      rw [HE.out]
      go_ret
      exact ⟨rfl, HX.out⟩
set_option maxHeartbeats 1600000 in
theorem holds_low (f : Int × Int) (u : Int)  (w : World) (hf : Z.isFig f.1 f.2 = true) (r : Int × Int) (hr : Hid (r = Z.figLog f))  :
    Calls Try.prog 210 #[.agg #[.int .i64 f.1, .int .i64 f.2], .int .i64 u, .bool false] w fun e w' => e = .returned (.bool (decide (u ≤ r.1))) ∧ K.Ext w w' := by
  have HR : ∀ w : World, Calls Try.prog 173 #[.agg #[.int .i64 f.1, .int .i64 f.2]] w fun e w' => e = .returned (.agg #[.int .i64 r.1, .int .i64 r.2]) ∧ K.Ext w w' := fun w => by rw [hr.out]; exact l03Figure_any f w hf
  clear hr hf
  have hfi := field_iv0
  have X0 : K.Ext w w := K.Ext.refl w
  go_enter Try.func210, Try.ntmps210
  go_wp2_with (go_at_call 173; refine K.call (by with_reducible rfl) (by with_reducible rfl) (HR _) ?_; rintro e w1 ⟨rfl, x1⟩; have s1 : w.heap.size + 1 ≤ w1.heap.size := (by have h_ := x1.size; (try simp at h_); omega); have X1 := K.Ext.trans (K.Ext.alloc X0 _) x1; obtain ⟨c1_0_0, c1_0_1⟩ := K.c2 x1 (w.heap.size) (.int .i64 f.1) (.int .i64 f.2) (by go_simp); have z1_0 : w.heap.size < w1.heap.size := World.block_lt_of_cell? w1 _ c1_0_0; have d1_0 : ¬ (w.heap.size = w1.heap.size) := (by omega); have e1_0 : ¬ (w1.heap.size = w.heap.size) := (by omega))
  refine bodyPost_ret (v := .bool (decide (u ≤ r.1))) (by unfold results; rw [Try.results210]; go_simp) rfl ⟨rfl, ?_⟩
  repeat with_reducible refine K.Ext.setCell ?_ (by dsimp only; omega) _
  exact (by repeat' (first | with_reducible exact X1 | with_reducible refine K.Ext.setCell ?_ ?_ _ | with_reducible refine K.Ext.alloc ?_ _ | with_reducible refine K.Ext.drew ?_ | (dsimp only; omega) | omega | (simp; omega)))
set_option maxRecDepth 100000 in
set_option maxHeartbeats 3200000 in
theorem l04First_low (u : Int) (w : World) (n : Int) (HN : Hid (Z.firstLow u = n)) (hu : Z.units u = true) :
    Calls Try.prog 204 #[.int .i64 u, .bool false] w fun e w' => e = .returned (.int .i64 n) ∧ K.Ext w w' := by
  go_enter Try.func204, Try.ntmps204
  go_wp2
  go_loopw [5, 6] (fun a b wr => ∃ lo hi : Int, a = .int .i64 lo ∧ b = .int .i64 hi ∧ -270001 ≤ lo ∧ lo < hi ∧ hi ≤ 279000 ∧ Hid (lo = -270001 ∨ (Z.figLog (Z.atN lo)).1 < u) ∧ Hid (hi = 279000 ∨ u ≤ (Z.figLog (Z.atN hi)).1) ∧ Hid (K.Ext w wr)) (fun a b _ => (intOf b - intOf a).toNat)
  case atStart => exact ⟨-270001, 279000, rfl, rfl, by decide, by decide, by decide, Z.hide (.inl rfl), Z.hide (.inl rfl), Z.hide (K.Ext.refl _)⟩
  case round =>
    obtain ⟨lo, hi, rfl, rfl, l1, l2, l3, HL, HH, HX⟩ := hrel
    have q1 : IntKind.i64.wrap (hi - lo) = hi - lo := IntWalk.i64_in _ (by omega)
    have q2 : IntKind.i64.wrap (lo + hi) = lo + hi := IntWalk.i64_in _ (by omega)
    by_cases hlt : 1 < hi - lo
    · obtain ⟨s1, s2⟩ := Z.fl_spec (lo + hi) 2 (by decide)
      obtain ⟨m, hm⟩ : ∃ m, m = Z.fl (lo + hi) 2 := ⟨_, rfl⟩
      have HD : ∀ w : World, Calls Try.prog 198 #[.int .i64 (lo + hi), .int .i64 2] w fun e w' => e = .returned (.int .i64 m) ∧ w = w' := fun w => by rw [hm]; exact l01Floor_any (lo + hi) 2 w (by decide) (by omega) (by omega) (by decide) (by decide)
      rw [← hm] at s1 s2
      clear hm
      obtain ⟨f, hf⟩ : ∃ f, f = Z.atN m := ⟨_, rfl⟩
      have HA : ∀ w : World, Calls Try.prog 203 #[.int .i64 m] w fun e w' => e = .returned (.agg #[.int .i64 f.1, .int .i64 f.2]) ∧ K.Ext w w' := fun w => by rw [hf]; exact l04At_any m w (by omega) (by omega)
      have hfig : Z.isFig f.1 f.2 = true := by rw [hf]; unfold Z.atN; simp only [Z.isFig, Bool.and_eq_true, decide_eq_true_eq]; omega
      have HM : Hid (f = Z.atN m) := Z.hide hf
      clear hf
      by_cases hp : u ≤ (Z.figLog f).1
      · have HB : ∀ w : World, Calls Try.prog 210 #[.agg #[.int .i64 f.1, .int .i64 f.2], .int .i64 u, .bool false] w fun e w' => e = .returned (.bool true) ∧ K.Ext w w' := fun w => by have h_ := holds_low f u w hfig _ (Z.hide rfl); rwa [decide_eq_true hp] at h_
        have HH1 : Hid (m = 279000 ∨ u ≤ (Z.figLog (Z.atN m)).1) := Z.hide (.inr (by rw [← HM.out]; exact hp))
        clear hp hfig
        go_wp2_with (first | (go_at_call 198; refine K.call (by with_reducible rfl) (by with_reducible rfl) (HD _) ?_; rintro e w' ⟨rfl, rfl⟩) | (go_at_call 203; refine K.call (by with_reducible rfl) (by with_reducible rfl) (HA _) ?_; rintro e w1 ⟨rfl, hw1⟩; obtain ⟨hcw1, hfw1⟩ := hw1.facts) | (go_at_call 210; refine K.call (by with_reducible rfl) (by with_reducible rfl) (HB _) ?_; rintro e w2 ⟨rfl, hw2⟩; obtain ⟨hcw2, hfw2⟩ := hw2.facts))
        go_roundw
        case rel => exact ⟨lo, m, rfl, rfl, l1, by omega, by omega, HL, HH1, Z.hide (K.Ext.trans HX.out (by repeat' (first | with_reducible exact K.Ext.refl _ | with_reducible assumption | with_reducible refine K.Ext.drew ?_ | with_reducible refine K.Ext.alloc ?_ _ | with_reducible refine K.Ext.setCell ?_ ?_ _ | with_reducible refine K.Ext.trans ?_ (by with_reducible assumption) | (dsimp only; omega) | omega | exact K.Ext.refl _ | assumption | apply K.Ext.drew | refine K.Ext.alloc ?_ _ | refine K.Ext.setCell ?_ ?_ _ | (simp; done) | (simp; omega) | refine K.Ext.trans ?_ (by assumption))))⟩
        case measure => first | (simp [intOf]; done) | (simp [intOf]; omega)
      · have HB : ∀ w : World, Calls Try.prog 210 #[.agg #[.int .i64 f.1, .int .i64 f.2], .int .i64 u, .bool false] w fun e w' => e = .returned (.bool false) ∧ K.Ext w w' := fun w => by have h_ := holds_low f u w hfig _ (Z.hide rfl); rwa [decide_eq_false hp] at h_
        have HL1 : Hid (m = -270001 ∨ (Z.figLog (Z.atN m)).1 < u) := Z.hide (.inr (by rw [← HM.out]; exact Int.not_le.1 hp))
        clear hp hfig
        go_wp2_with (first | (go_at_call 198; refine K.call (by with_reducible rfl) (by with_reducible rfl) (HD _) ?_; rintro e w' ⟨rfl, rfl⟩) | (go_at_call 203; refine K.call (by with_reducible rfl) (by with_reducible rfl) (HA _) ?_; rintro e w1 ⟨rfl, hw1⟩; obtain ⟨hcw1, hfw1⟩ := hw1.facts) | (go_at_call 210; refine K.call (by with_reducible rfl) (by with_reducible rfl) (HB _) ?_; rintro e w2 ⟨rfl, hw2⟩; obtain ⟨hcw2, hfw2⟩ := hw2.facts))
        go_roundw
        case rel => exact ⟨m, hi, rfl, rfl, by omega, by omega, l3, HL1, HH, Z.hide (K.Ext.trans HX.out (by repeat' (first | with_reducible exact K.Ext.refl _ | with_reducible assumption | with_reducible refine K.Ext.drew ?_ | with_reducible refine K.Ext.alloc ?_ _ | with_reducible refine K.Ext.setCell ?_ ?_ _ | with_reducible refine K.Ext.trans ?_ (by with_reducible assumption) | (dsimp only; omega) | omega | exact K.Ext.refl _ | assumption | apply K.Ext.drew | refine K.Ext.alloc ?_ _ | refine K.Ext.setCell ?_ ?_ _ | (simp; done) | (simp; omega) | refine K.Ext.trans ?_ (by assumption))))⟩
        case measure => first | (simp [intOf]; done) | (simp [intOf]; omega)
    · have e1 : lo = hi - 1 := by omega
      have HE : Hid (n = hi) := Z.hide (HN.out.symm.trans (Z.firstLow_is (by omega) l3 HH.out (by rw [← e1]; rcases HL.out with h | h; exact .inl (by omega); exact .inr (Int.not_le.2 h))))
      clear e1
      go_wp2
      rw [HE.out]
      go_ret
      exact ⟨rfl, HX.out⟩
set_option maxHeartbeats 1600000 in
theorem l04Below_any (u : Int)  (w : World) (hu : Z.units u = true) (B : Int × Int) (HB : Hid (Z.below u = B))  :
    Calls Try.prog 180 #[.int .i64 u] w fun e w' => e = .returned (.agg #[.int .i64 B.1, .int .i64 B.2]) ∧ K.Ext w w' := by
  obtain ⟨n, hn⟩ : ∃ n, n = Z.firstHigh u := ⟨_, rfl⟩
  have HF : ∀ w : World, Calls Try.prog 204 #[.int .i64 u, .bool true] w fun e w' => e = .returned (.int .i64 n) ∧ K.Ext w w' := fun w => l04First_high u w n (Z.hide hn.symm) hu
  have hbd : -270000 ≤ n ∧ n ≤ 279000 := by rw [hn]; exact Z.firstHigh_bd u
  obtain ⟨n1, n2⟩ := hbd
  obtain ⟨f, hf⟩ : ∃ f, f = Z.atN (n - 1) := ⟨_, rfl⟩
  have HA : ∀ w : World, Calls Try.prog 203 #[.int .i64 (n - 1)] w fun e w' => e = .returned (.agg #[.int .i64 f.1, .int .i64 f.2]) ∧ K.Ext w w' := fun w => by rw [hf]; exact l04At_any (n - 1) w (by omega) (by omega)
  have HE : Hid (B = f) := Z.hide (by rw [← HB.out]; unfold Z.below; rw [hf, hn])
  have q1 : IntKind.i64.wrap (n - 1) = n - 1 := IntWalk.i64_in _ (by omega)
  clear hf hn
  have X0 : K.Ext w w := K.Ext.refl w
  go_enter Try.func180, Try.ntmps180
  go_wp2_with (go_at_call 204; refine K.call (by with_reducible rfl) (by with_reducible rfl) (HF _) ?_; rintro e w1 ⟨rfl, x1⟩; have s1 : w.heap.size + 1 ≤ w1.heap.size := (by have h_ := x1.size; (try simp at h_); omega); have X1 := K.Ext.trans (K.Ext.alloc X0 _) x1; obtain ⟨c1_0_0, c1_0_1⟩ := K.c2 x1 (w.heap.size) (.int .i64 0) (.int .i64 0) (by go_simp); obtain ⟨f1_0_0, f1_0_1⟩ := K.f2 x1 (w.heap.size) (by go_simp); have z1_0 : w.heap.size < w1.heap.size := World.block_lt_of_cell? w1 _ c1_0_0; have d1_0 : ¬ (w.heap.size = w1.heap.size) := (by omega); have e1_0 : ¬ (w1.heap.size = w.heap.size) := (by omega))
  go_wp2_with (go_at_call 203; refine K.call (by with_reducible rfl) (by with_reducible rfl) (HA _) ?_; rintro e w2 ⟨rfl, x2⟩; have s2 : w1.heap.size ≤ w2.heap.size := (by have h_ := x2.size; (try simp at h_); omega); have X2 := K.Ext.trans (X1) x2; obtain ⟨c2_0_0, c2_0_1⟩ := K.c2 x2 (w.heap.size) (.int .i64 0) (.int .i64 0) (by go_simp); obtain ⟨f2_0_0, f2_0_1⟩ := K.f2 x2 (w.heap.size) (by go_simp); have z2_0 : w.heap.size < w2.heap.size := World.block_lt_of_cell? w2 _ c2_0_0; have d2_0 : ¬ (w.heap.size = w2.heap.size) := (by omega); have e2_0 : ¬ (w2.heap.size = w.heap.size) := (by omega); clear c1_0_0 c1_0_1 f1_0_0 f1_0_1 z1_0 d1_0 e1_0)
  rw [HE.out]
  refine bodyPost_ret (v := .agg #[.int .i64 f.1, .int .i64 f.2]) (by unfold results; rw [Try.results180]; go_simp) rfl ⟨rfl, ?_⟩
  repeat with_reducible refine K.Ext.setCell ?_ (by dsimp only; omega) _
  exact (by repeat' (first | with_reducible exact X2 | with_reducible refine K.Ext.setCell ?_ ?_ _ | with_reducible refine K.Ext.alloc ?_ _ | with_reducible refine K.Ext.drew ?_ | (dsimp only; omega) | omega | (simp; omega)))
set_option maxHeartbeats 1600000 in
theorem l04Above_any (u : Int)  (w : World) (hu : Z.units u = true) (B : Int × Int) (HB : Hid (Z.above u = B))  :
    Calls Try.prog 181 #[.int .i64 u] w fun e w' => e = .returned (.agg #[.int .i64 B.1, .int .i64 B.2]) ∧ K.Ext w w' := by
  obtain ⟨n, hn⟩ : ∃ n, n = Z.firstLow u := ⟨_, rfl⟩
  have HF : ∀ w : World, Calls Try.prog 204 #[.int .i64 u, .bool false] w fun e w' => e = .returned (.int .i64 n) ∧ K.Ext w w' := fun w => l04First_low u w n (Z.hide hn.symm) hu
  have hbd : -270000 ≤ n ∧ n ≤ 279000 := by rw [hn]; exact Z.firstLow_bd u
  obtain ⟨n1, n2⟩ := hbd
  obtain ⟨f, hf⟩ : ∃ f, f = Z.atN (n) := ⟨_, rfl⟩
  have HA : ∀ w : World, Calls Try.prog 203 #[.int .i64 (n)] w fun e w' => e = .returned (.agg #[.int .i64 f.1, .int .i64 f.2]) ∧ K.Ext w w' := fun w => by rw [hf]; exact l04At_any (n) w (by omega) (by omega)
  have HE : Hid (B = f) := Z.hide (by rw [← HB.out]; unfold Z.above; rw [hf, hn])
  have q1 : IntKind.i64.wrap (n - 1) = n - 1 := IntWalk.i64_in _ (by omega)
  clear hf hn
  have X0 : K.Ext w w := K.Ext.refl w
  go_enter Try.func181, Try.ntmps181
  go_wp2_with (go_at_call 204; refine K.call (by with_reducible rfl) (by with_reducible rfl) (HF _) ?_; rintro e w1 ⟨rfl, x1⟩; have s1 : w.heap.size + 1 ≤ w1.heap.size := (by have h_ := x1.size; (try simp at h_); omega); have X1 := K.Ext.trans (K.Ext.alloc X0 _) x1; obtain ⟨c1_0_0, c1_0_1⟩ := K.c2 x1 (w.heap.size) (.int .i64 0) (.int .i64 0) (by go_simp); obtain ⟨f1_0_0, f1_0_1⟩ := K.f2 x1 (w.heap.size) (by go_simp); have z1_0 : w.heap.size < w1.heap.size := World.block_lt_of_cell? w1 _ c1_0_0; have d1_0 : ¬ (w.heap.size = w1.heap.size) := (by omega); have e1_0 : ¬ (w1.heap.size = w.heap.size) := (by omega))
  go_wp2_with (go_at_call 203; refine K.call (by with_reducible rfl) (by with_reducible rfl) (HA _) ?_; rintro e w2 ⟨rfl, x2⟩; have s2 : w1.heap.size ≤ w2.heap.size := (by have h_ := x2.size; (try simp at h_); omega); have X2 := K.Ext.trans (X1) x2; obtain ⟨c2_0_0, c2_0_1⟩ := K.c2 x2 (w.heap.size) (.int .i64 0) (.int .i64 0) (by go_simp); obtain ⟨f2_0_0, f2_0_1⟩ := K.f2 x2 (w.heap.size) (by go_simp); have z2_0 : w.heap.size < w2.heap.size := World.block_lt_of_cell? w2 _ c2_0_0; have d2_0 : ¬ (w.heap.size = w2.heap.size) := (by omega); have e2_0 : ¬ (w2.heap.size = w.heap.size) := (by omega); clear c1_0_0 c1_0_1 f1_0_0 f1_0_1 z1_0 d1_0 e1_0)
  rw [HE.out]
  refine bodyPost_ret (v := .agg #[.int .i64 f.1, .int .i64 f.2]) (by unfold results; rw [Try.results181]; go_simp) rfl ⟨rfl, ?_⟩
  repeat with_reducible refine K.Ext.setCell ?_ (by dsimp only; omega) _
  exact (by repeat' (first | with_reducible exact X2 | with_reducible refine K.Ext.setCell ?_ ?_ _ | with_reducible refine K.Ext.alloc ?_ _ | with_reducible refine K.Ext.drew ?_ | (dsimp only; omega) | omega | (simp; omega)))
set_option maxHeartbeats 1600000 in
theorem isUnits_any (u : Int)  (w : World)   :
    Calls Try.prog 176 #[.int .i64 u] w fun e w' => e = .returned (.bool (Z.units u)) ∧ K.Ext w w' := by
  obtain ⟨b, hb⟩ : ∃ b, b = Z.units u := ⟨_, rfl⟩
  have HW : ∀ w : World, Calls Try.prog 95 #[.int .i64 u, .int .i64 (-31457280), .int .i64 31457280] w fun e w' => e = .returned (.bool b) ∧ w = w' := fun w => by rw [hb]; exact within_any u (-31457280) 31457280 w
  have HE : Hid (Z.units u = b) := Z.hide hb.symm
  clear hb
  have X0 : K.Ext w w := K.Ext.refl w
  go_enter Try.func176, Try.ntmps176
  go_wp2_with (go_at_call 95; refine K.call (by with_reducible rfl) (by with_reducible rfl) (HW _) ?_; rintro e w_ ⟨rfl, rfl⟩)
  rw [HE.out]
  refine bodyPost_ret (v := .bool b) (by unfold results; rw [Try.results176]; go_simp) rfl ⟨rfl, ?_⟩
  repeat with_reducible refine K.Ext.setCell ?_ (by dsimp only; omega) _
  exact (by repeat' (first | with_reducible exact X0 | with_reducible refine K.Ext.setCell ?_ ?_ _ | with_reducible refine K.Ext.alloc ?_ _ | with_reducible refine K.Ext.drew ?_ | (dsimp only; omega) | omega | (simp; omega)))
set_option maxHeartbeats 6400000 in
theorem spanOf_any (a : Int × Int)  (w : World) (S : (Int × Int) × (Int × Int) × Int) (hS : Hid (Z.spanOf a = S))  :
    Calls Try.prog 128 #[.agg #[.int .i64 a.1, .int .i64 a.2]] w fun e w' => e = .returned (.tuple #[.agg #[.int .i64 S.1.1, .int .i64 S.1.2], .agg #[.int .i64 S.2.1.1, .int .i64 S.2.1.2], .int .i64 S.2.2]) ∧ K.Ext w w' := by
  cases v1 : Z.units a.1
  · have HE : Hid (S = ((0, 0), (0, 0), 2)) := Z.hide (by rw [← hS.out]; unfold Z.spanOf; rw [v1]; rfl)
    have HU1 : ∀ w : World, Calls Try.prog 176 #[.int .i64 a.1] w fun e w' => e = .returned (.bool false) ∧ K.Ext w w' := fun w => by rw [← v1]; exact isUnits_any a.1 w
    clear v1
    have X0 : K.Ext w w := K.Ext.refl w
    go_enter Try.func128, Try.ntmps128
    go_wp2_with (go_at_call 176; refine K.call (by with_reducible rfl) (by with_reducible rfl) (HU1 _) ?_; rintro e w1 ⟨rfl, x1⟩; have s1 : w.heap.size + 3 ≤ w1.heap.size := (by have h_ := x1.size; (try simp at h_); omega); have X1 := K.Ext.trans (K.Ext.alloc (K.Ext.alloc (K.Ext.alloc X0 _) _) _) x1; obtain ⟨c1_0_0, c1_0_1⟩ := K.c2 x1 (w.heap.size) (.int .i64 a.1) (.int .i64 a.2) (by go_simp); have z1_0 : w.heap.size < w1.heap.size := World.block_lt_of_cell? w1 _ c1_0_0; have d1_0 : ¬ (w.heap.size = w1.heap.size) := (by omega); have e1_0 : ¬ (w1.heap.size = w.heap.size) := (by omega); obtain ⟨c1_1_0, c1_1_1⟩ := K.c2 x1 (w.heap.size + 1) (.int .i64 0) (.int .i64 0) (by go_simp); obtain ⟨f1_1_0, f1_1_1⟩ := K.f2 x1 (w.heap.size + 1) (by go_simp); have z1_1 : w.heap.size + 1 < w1.heap.size := World.block_lt_of_cell? w1 _ c1_1_0; have d1_1 : ¬ (w.heap.size + 1 = w1.heap.size) := (by omega); have e1_1 : ¬ (w1.heap.size = w.heap.size + 1) := (by omega); have n1_0 : ¬ (w.heap.size + 1 = w.heap.size) := (by omega); have n0_1 : ¬ (w.heap.size = w.heap.size + 1) := (by omega); obtain ⟨c1_2_0, c1_2_1⟩ := K.c2 x1 (w.heap.size + 1 + 1) (.int .i64 0) (.int .i64 0) (by go_simp); obtain ⟨f1_2_0, f1_2_1⟩ := K.f2 x1 (w.heap.size + 1 + 1) (by go_simp); have z1_2 : w.heap.size + 1 + 1 < w1.heap.size := World.block_lt_of_cell? w1 _ c1_2_0; have d1_2 : ¬ (w.heap.size + 1 + 1 = w1.heap.size) := (by omega); have e1_2 : ¬ (w1.heap.size = w.heap.size + 1 + 1) := (by omega); have n2_0 : ¬ (w.heap.size + 1 + 1 = w.heap.size) := (by omega); have n0_2 : ¬ (w.heap.size = w.heap.size + 1 + 1) := (by omega); have n2_1 : ¬ (w.heap.size + 1 + 1 = w.heap.size + 1) := (by omega); have n1_2 : ¬ (w.heap.size + 1 = w.heap.size + 1 + 1) := (by omega))
    rw [HE.out]
    refine bodyPost_ret (v := .tuple #[.agg #[.int .i64 0, .int .i64 0], .agg #[.int .i64 0, .int .i64 0], .int .i64 2]) (by unfold results; rw [Try.results128]; go_simp) rfl ⟨rfl, ?_⟩
    repeat with_reducible refine K.Ext.setCell ?_ (by dsimp only; omega) _
    exact (by repeat' (first | with_reducible exact X1 | with_reducible refine K.Ext.setCell ?_ ?_ _ | with_reducible refine K.Ext.alloc ?_ _ | with_reducible refine K.Ext.drew ?_ | (dsimp only; omega) | omega | (simp; omega)))
  cases v2 : Z.units a.2
  · have HE : Hid (S = ((0, 0), (0, 0), 2)) := Z.hide (by rw [← hS.out]; unfold Z.spanOf; rw [v1, v2]; rfl)
    have HU1 : ∀ w : World, Calls Try.prog 176 #[.int .i64 a.1] w fun e w' => e = .returned (.bool true) ∧ K.Ext w w' := fun w => by rw [← v1]; exact isUnits_any a.1 w
    have HU2 : ∀ w : World, Calls Try.prog 176 #[.int .i64 a.2] w fun e w' => e = .returned (.bool false) ∧ K.Ext w w' := fun w => by rw [← v2]; exact isUnits_any a.2 w
    clear v1 v2
    have X0 : K.Ext w w := K.Ext.refl w
    go_enter Try.func128, Try.ntmps128
    go_wp2_with (go_at_call 176; refine K.call (by with_reducible rfl) (by with_reducible rfl) (HU1 _) ?_; rintro e w1 ⟨rfl, x1⟩; have s1 : w.heap.size + 3 ≤ w1.heap.size := (by have h_ := x1.size; (try simp at h_); omega); have X1 : K.Ext w w1 := K.Ext.trans (by repeat' (first | with_reducible exact X0 | with_reducible refine K.Ext.setCell ?_ ?_ _ | with_reducible refine K.Ext.alloc ?_ _ | with_reducible refine K.Ext.drew ?_ | (dsimp only; omega) | omega | (simp; omega))) x1; obtain ⟨c1_0_0, c1_0_1⟩ := K.c2 x1 (w.heap.size) (.int .i64 a.1) (.int .i64 a.2) (by go_simp); have z1_0 : w.heap.size < w1.heap.size := World.block_lt_of_cell? w1 _ c1_0_0; have d1_0 : ¬ (w.heap.size = w1.heap.size) := (by omega); have e1_0 : ¬ (w1.heap.size = w.heap.size) := (by omega); obtain ⟨c1_1_0, c1_1_1⟩ := K.c2 x1 (w.heap.size + 1) (.int .i64 0) (.int .i64 0) (by go_simp); obtain ⟨f1_1_0, f1_1_1⟩ := K.f2 x1 (w.heap.size + 1) (by go_simp); have z1_1 : w.heap.size + 1 < w1.heap.size := World.block_lt_of_cell? w1 _ c1_1_0; have d1_1 : ¬ (w.heap.size + 1 = w1.heap.size) := (by omega); have e1_1 : ¬ (w1.heap.size = w.heap.size + 1) := (by omega); have n1_0 : ¬ (w.heap.size + 1 = w.heap.size) := (by omega); have n0_1 : ¬ (w.heap.size = w.heap.size + 1) := (by omega); obtain ⟨c1_2_0, c1_2_1⟩ := K.c2 x1 (w.heap.size + 1 + 1) (.int .i64 0) (.int .i64 0) (by go_simp); obtain ⟨f1_2_0, f1_2_1⟩ := K.f2 x1 (w.heap.size + 1 + 1) (by go_simp); have z1_2 : w.heap.size + 1 + 1 < w1.heap.size := World.block_lt_of_cell? w1 _ c1_2_0; have d1_2 : ¬ (w.heap.size + 1 + 1 = w1.heap.size) := (by omega); have e1_2 : ¬ (w1.heap.size = w.heap.size + 1 + 1) := (by omega); have n2_0 : ¬ (w.heap.size + 1 + 1 = w.heap.size) := (by omega); have n0_2 : ¬ (w.heap.size = w.heap.size + 1 + 1) := (by omega); have n2_1 : ¬ (w.heap.size + 1 + 1 = w.heap.size + 1) := (by omega); have n1_2 : ¬ (w.heap.size + 1 = w.heap.size + 1 + 1) := (by omega))
    go_wp2_with (go_at_call 176; refine K.call (by with_reducible rfl) (by with_reducible rfl) (HU2 _) ?_; rintro e w2 ⟨rfl, x2⟩; have s2 : w1.heap.size ≤ w2.heap.size := (by have h_ := x2.size; (try simp at h_); omega); have X2 := K.Ext.trans (X1) x2; obtain ⟨c2_0_0, c2_0_1⟩ := K.c2 x2 (w.heap.size) (.int .i64 a.1) (.int .i64 a.2) (by go_simp); have z2_0 : w.heap.size < w2.heap.size := World.block_lt_of_cell? w2 _ c2_0_0; have d2_0 : ¬ (w.heap.size = w2.heap.size) := (by omega); have e2_0 : ¬ (w2.heap.size = w.heap.size) := (by omega); obtain ⟨c2_1_0, c2_1_1⟩ := K.c2 x2 (w.heap.size + 1) (.int .i64 0) (.int .i64 0) (by go_simp); obtain ⟨f2_1_0, f2_1_1⟩ := K.f2 x2 (w.heap.size + 1) (by go_simp); have z2_1 : w.heap.size + 1 < w2.heap.size := World.block_lt_of_cell? w2 _ c2_1_0; have d2_1 : ¬ (w.heap.size + 1 = w2.heap.size) := (by omega); have e2_1 : ¬ (w2.heap.size = w.heap.size + 1) := (by omega); obtain ⟨c2_2_0, c2_2_1⟩ := K.c2 x2 (w.heap.size + 1 + 1) (.int .i64 0) (.int .i64 0) (by go_simp); obtain ⟨f2_2_0, f2_2_1⟩ := K.f2 x2 (w.heap.size + 1 + 1) (by go_simp); have z2_2 : w.heap.size + 1 + 1 < w2.heap.size := World.block_lt_of_cell? w2 _ c2_2_0; have d2_2 : ¬ (w.heap.size + 1 + 1 = w2.heap.size) := (by omega); have e2_2 : ¬ (w2.heap.size = w.heap.size + 1 + 1) := (by omega); clear c1_0_0 c1_0_1 z1_0 d1_0 e1_0 c1_1_0 c1_1_1 f1_1_0 f1_1_1 z1_1 d1_1 e1_1 c1_2_0 c1_2_1 f1_2_0 f1_2_1 z1_2 d1_2 e1_2)
    rw [HE.out]
    refine bodyPost_ret (v := .tuple #[.agg #[.int .i64 0, .int .i64 0], .agg #[.int .i64 0, .int .i64 0], .int .i64 2]) (by unfold results; rw [Try.results128]; go_simp) rfl ⟨rfl, ?_⟩
    repeat with_reducible refine K.Ext.setCell ?_ (by dsimp only; omega) _
    exact (by repeat' (first | with_reducible exact X2 | with_reducible refine K.Ext.setCell ?_ ?_ _ | with_reducible refine K.Ext.alloc ?_ _ | with_reducible refine K.Ext.drew ?_ | (dsimp only; omega) | omega | (simp; omega)))
  have HU1 : ∀ w : World, Calls Try.prog 176 #[.int .i64 a.1] w fun e w' => e = .returned (.bool true) ∧ K.Ext w w' := fun w => by rw [← v1]; exact isUnits_any a.1 w
  have HU2 : ∀ w : World, Calls Try.prog 176 #[.int .i64 a.2] w fun e w' => e = .returned (.bool true) ∧ K.Ext w w' := fun w => by rw [← v2]; exact isUnits_any a.2 w
  obtain ⟨B, hB⟩ : ∃ B, B = Z.belowOr a.1 := ⟨_, rfl⟩
  obtain ⟨C, hC⟩ : ∃ C, C = Z.aboveOr a.2 := ⟨_, rfl⟩
  have HB : ∀ w : World, Calls Try.prog 177 #[.int .i64 a.1] w fun e w' => e = .returned (.tuple #[.agg #[.int .i64 B.1.1, .int .i64 B.1.2], .bool B.2]) ∧ K.Ext w w' := fun w => figureBelow_any a.1 w v1 B (Z.hide hB.symm)
  have HC : ∀ w : World, Calls Try.prog 178 #[.int .i64 a.2] w fun e w' => e = .returned (.tuple #[.agg #[.int .i64 C.1.1, .int .i64 C.1.2], .bool C.2]) ∧ K.Ext w w' := fun w => figureAbove_any a.2 w v2 C (Z.hide hC.symm)
  have HS : Hid (Z.spanOf a = if B.2 && C.2 then (B.1, C.1, 0) else ((0, 0), (0, 0), 4)) := Z.hide (by
    unfold Z.spanOf; rw [v1, v2, hB, hC]; unfold Z.belowOr Z.aboveOr
    cases Z.isFig (Z.below a.1).1 (Z.below a.1).2 <;> cases Z.isFig (Z.above a.2).1 (Z.above a.2).2 <;> rfl)
  clear hB hC v1 v2
  obtain ⟨f, o1⟩ := B
  obtain ⟨g, o2⟩ := C
  dsimp only at HB HC HS
  cases o1
  · have HE : Hid (S = ((0, 0), (0, 0), 4)) := Z.hide (by rw [← hS.out, HS.out]; rfl)
    have X0 : K.Ext w w := K.Ext.refl w
    go_enter Try.func128, Try.ntmps128
    go_wp2_with (go_at_call 176; refine K.call (by with_reducible rfl) (by with_reducible rfl) (HU1 _) ?_; rintro e w1 ⟨rfl, x1⟩; have s1 : w.heap.size + 3 ≤ w1.heap.size := (by have h_ := x1.size; (try simp at h_); omega); have X1 : K.Ext w w1 := K.Ext.trans (by repeat' (first | with_reducible exact X0 | with_reducible refine K.Ext.setCell ?_ ?_ _ | with_reducible refine K.Ext.alloc ?_ _ | with_reducible refine K.Ext.drew ?_ | (dsimp only; omega) | omega | (simp; omega))) x1; obtain ⟨c1_0_0, c1_0_1⟩ := K.c2 x1 (w.heap.size) (.int .i64 a.1) (.int .i64 a.2) (by go_simp); have z1_0 : w.heap.size < w1.heap.size := World.block_lt_of_cell? w1 _ c1_0_0; have d1_0 : ¬ (w.heap.size = w1.heap.size) := (by omega); have e1_0 : ¬ (w1.heap.size = w.heap.size) := (by omega); obtain ⟨c1_1_0, c1_1_1⟩ := K.c2 x1 (w.heap.size + 1) (.int .i64 0) (.int .i64 0) (by go_simp); obtain ⟨f1_1_0, f1_1_1⟩ := K.f2 x1 (w.heap.size + 1) (by go_simp); have z1_1 : w.heap.size + 1 < w1.heap.size := World.block_lt_of_cell? w1 _ c1_1_0; have d1_1 : ¬ (w.heap.size + 1 = w1.heap.size) := (by omega); have e1_1 : ¬ (w1.heap.size = w.heap.size + 1) := (by omega); have n1_0 : ¬ (w.heap.size + 1 = w.heap.size) := (by omega); have n0_1 : ¬ (w.heap.size = w.heap.size + 1) := (by omega); obtain ⟨c1_2_0, c1_2_1⟩ := K.c2 x1 (w.heap.size + 1 + 1) (.int .i64 0) (.int .i64 0) (by go_simp); obtain ⟨f1_2_0, f1_2_1⟩ := K.f2 x1 (w.heap.size + 1 + 1) (by go_simp); have z1_2 : w.heap.size + 1 + 1 < w1.heap.size := World.block_lt_of_cell? w1 _ c1_2_0; have d1_2 : ¬ (w.heap.size + 1 + 1 = w1.heap.size) := (by omega); have e1_2 : ¬ (w1.heap.size = w.heap.size + 1 + 1) := (by omega); have n2_0 : ¬ (w.heap.size + 1 + 1 = w.heap.size) := (by omega); have n0_2 : ¬ (w.heap.size = w.heap.size + 1 + 1) := (by omega); have n2_1 : ¬ (w.heap.size + 1 + 1 = w.heap.size + 1) := (by omega); have n1_2 : ¬ (w.heap.size + 1 = w.heap.size + 1 + 1) := (by omega))
    go_wp2_with (go_at_call 176; refine K.call (by with_reducible rfl) (by with_reducible rfl) (HU2 _) ?_; rintro e w2 ⟨rfl, x2⟩; have s2 : w1.heap.size ≤ w2.heap.size := (by have h_ := x2.size; (try simp at h_); omega); have X2 := K.Ext.trans (X1) x2; obtain ⟨c2_0_0, c2_0_1⟩ := K.c2 x2 (w.heap.size) (.int .i64 a.1) (.int .i64 a.2) (by go_simp); have z2_0 : w.heap.size < w2.heap.size := World.block_lt_of_cell? w2 _ c2_0_0; have d2_0 : ¬ (w.heap.size = w2.heap.size) := (by omega); have e2_0 : ¬ (w2.heap.size = w.heap.size) := (by omega); obtain ⟨c2_1_0, c2_1_1⟩ := K.c2 x2 (w.heap.size + 1) (.int .i64 0) (.int .i64 0) (by go_simp); obtain ⟨f2_1_0, f2_1_1⟩ := K.f2 x2 (w.heap.size + 1) (by go_simp); have z2_1 : w.heap.size + 1 < w2.heap.size := World.block_lt_of_cell? w2 _ c2_1_0; have d2_1 : ¬ (w.heap.size + 1 = w2.heap.size) := (by omega); have e2_1 : ¬ (w2.heap.size = w.heap.size + 1) := (by omega); obtain ⟨c2_2_0, c2_2_1⟩ := K.c2 x2 (w.heap.size + 1 + 1) (.int .i64 0) (.int .i64 0) (by go_simp); obtain ⟨f2_2_0, f2_2_1⟩ := K.f2 x2 (w.heap.size + 1 + 1) (by go_simp); have z2_2 : w.heap.size + 1 + 1 < w2.heap.size := World.block_lt_of_cell? w2 _ c2_2_0; have d2_2 : ¬ (w.heap.size + 1 + 1 = w2.heap.size) := (by omega); have e2_2 : ¬ (w2.heap.size = w.heap.size + 1 + 1) := (by omega); clear c1_0_0 c1_0_1 z1_0 d1_0 e1_0 c1_1_0 c1_1_1 f1_1_0 f1_1_1 z1_1 d1_1 e1_1 c1_2_0 c1_2_1 f1_2_0 f1_2_1 z1_2 d1_2 e1_2)
    go_wp2_with (go_at_call 177; refine K.call (by with_reducible rfl) (by with_reducible rfl) (HB _) ?_; rintro e w3 ⟨rfl, x3⟩; have s3 : w2.heap.size ≤ w3.heap.size := (by have h_ := x3.size; (try simp at h_); omega); have X3 := K.Ext.trans (X2) x3; obtain ⟨c3_0_0, c3_0_1⟩ := K.c2 x3 (w.heap.size) (.int .i64 a.1) (.int .i64 a.2) (by go_simp); have z3_0 : w.heap.size < w3.heap.size := World.block_lt_of_cell? w3 _ c3_0_0; have d3_0 : ¬ (w.heap.size = w3.heap.size) := (by omega); have e3_0 : ¬ (w3.heap.size = w.heap.size) := (by omega); obtain ⟨c3_1_0, c3_1_1⟩ := K.c2 x3 (w.heap.size + 1) (.int .i64 0) (.int .i64 0) (by go_simp); obtain ⟨f3_1_0, f3_1_1⟩ := K.f2 x3 (w.heap.size + 1) (by go_simp); have z3_1 : w.heap.size + 1 < w3.heap.size := World.block_lt_of_cell? w3 _ c3_1_0; have d3_1 : ¬ (w.heap.size + 1 = w3.heap.size) := (by omega); have e3_1 : ¬ (w3.heap.size = w.heap.size + 1) := (by omega); obtain ⟨c3_2_0, c3_2_1⟩ := K.c2 x3 (w.heap.size + 1 + 1) (.int .i64 0) (.int .i64 0) (by go_simp); obtain ⟨f3_2_0, f3_2_1⟩ := K.f2 x3 (w.heap.size + 1 + 1) (by go_simp); have z3_2 : w.heap.size + 1 + 1 < w3.heap.size := World.block_lt_of_cell? w3 _ c3_2_0; have d3_2 : ¬ (w.heap.size + 1 + 1 = w3.heap.size) := (by omega); have e3_2 : ¬ (w3.heap.size = w.heap.size + 1 + 1) := (by omega); clear c2_0_0 c2_0_1 z2_0 d2_0 e2_0 c2_1_0 c2_1_1 f2_1_0 f2_1_1 z2_1 d2_1 e2_1 c2_2_0 c2_2_1 f2_2_0 f2_2_1 z2_2 d2_2 e2_2)
    go_wp2_with (go_at_call 178; refine K.call (by with_reducible rfl) (by with_reducible rfl) (HC _) ?_; rintro e w4 ⟨rfl, x4⟩; have s4 : w3.heap.size + 1 ≤ w4.heap.size := (by have h_ := x4.size; (try simp at h_); omega); have X4 := K.Ext.trans (K.Ext.alloc X3 _) x4; obtain ⟨c4_0_0, c4_0_1⟩ := K.c2 x4 (w.heap.size) (.int .i64 a.1) (.int .i64 a.2) (by go_simp); have z4_0 : w.heap.size < w4.heap.size := World.block_lt_of_cell? w4 _ c4_0_0; have d4_0 : ¬ (w.heap.size = w4.heap.size) := (by omega); have e4_0 : ¬ (w4.heap.size = w.heap.size) := (by omega); obtain ⟨c4_1_0, c4_1_1⟩ := K.c2 x4 (w.heap.size + 1) (.int .i64 0) (.int .i64 0) (by go_simp); obtain ⟨f4_1_0, f4_1_1⟩ := K.f2 x4 (w.heap.size + 1) (by go_simp); have z4_1 : w.heap.size + 1 < w4.heap.size := World.block_lt_of_cell? w4 _ c4_1_0; have d4_1 : ¬ (w.heap.size + 1 = w4.heap.size) := (by omega); have e4_1 : ¬ (w4.heap.size = w.heap.size + 1) := (by omega); obtain ⟨c4_2_0, c4_2_1⟩ := K.c2 x4 (w.heap.size + 1 + 1) (.int .i64 0) (.int .i64 0) (by go_simp); obtain ⟨f4_2_0, f4_2_1⟩ := K.f2 x4 (w.heap.size + 1 + 1) (by go_simp); have z4_2 : w.heap.size + 1 + 1 < w4.heap.size := World.block_lt_of_cell? w4 _ c4_2_0; have d4_2 : ¬ (w.heap.size + 1 + 1 = w4.heap.size) := (by omega); have e4_2 : ¬ (w4.heap.size = w.heap.size + 1 + 1) := (by omega); obtain ⟨c4_3_0, c4_3_1⟩ := K.c2 x4 (w3.heap.size) (.int .i64 ((f, false).1).1) (.int .i64 ((f, false).1).2) (by go_simp); obtain ⟨f4_3_0, f4_3_1⟩ := K.f2 x4 (w3.heap.size) (by go_simp); have z4_3 : w3.heap.size < w4.heap.size := World.block_lt_of_cell? w4 _ c4_3_0; have d4_3 : ¬ (w3.heap.size = w4.heap.size) := (by omega); have e4_3 : ¬ (w4.heap.size = w3.heap.size) := (by omega); have n3_0 : ¬ (w3.heap.size = w.heap.size) := (by omega); have n0_3 : ¬ (w.heap.size = w3.heap.size) := (by omega); have n3_1 : ¬ (w3.heap.size = w.heap.size + 1) := (by omega); have n1_3 : ¬ (w.heap.size + 1 = w3.heap.size) := (by omega); have n3_2 : ¬ (w3.heap.size = w.heap.size + 1 + 1) := (by omega); have n2_3 : ¬ (w.heap.size + 1 + 1 = w3.heap.size) := (by omega); clear c3_0_0 c3_0_1 z3_0 d3_0 e3_0 c3_1_0 c3_1_1 f3_1_0 f3_1_1 z3_1 d3_1 e3_1 c3_2_0 c3_2_1 f3_2_0 f3_2_1 z3_2 d3_2 e3_2)
    rw [HE.out]
    refine bodyPost_ret (v := .tuple #[.agg #[.int .i64 0, .int .i64 0], .agg #[.int .i64 0, .int .i64 0], .int .i64 4]) (by unfold results; rw [Try.results128]; go_simp) rfl ⟨rfl, ?_⟩
    repeat with_reducible refine K.Ext.setCell ?_ (by dsimp only; omega) _
    exact (by repeat' (first | with_reducible exact X4 | with_reducible refine K.Ext.setCell ?_ ?_ _ | with_reducible refine K.Ext.alloc ?_ _ | with_reducible refine K.Ext.drew ?_ | (dsimp only; omega) | omega | (simp; omega)))
  cases o2
  · have HE : Hid (S = ((0, 0), (0, 0), 4)) := Z.hide (by rw [← hS.out, HS.out]; rfl)
    have X0 : K.Ext w w := K.Ext.refl w
    go_enter Try.func128, Try.ntmps128
    go_wp2_with (go_at_call 176; refine K.call (by with_reducible rfl) (by with_reducible rfl) (HU1 _) ?_; rintro e w1 ⟨rfl, x1⟩; have s1 : w.heap.size + 3 ≤ w1.heap.size := (by have h_ := x1.size; (try simp at h_); omega); have X1 : K.Ext w w1 := K.Ext.trans (by repeat' (first | with_reducible exact X0 | with_reducible refine K.Ext.setCell ?_ ?_ _ | with_reducible refine K.Ext.alloc ?_ _ | with_reducible refine K.Ext.drew ?_ | (dsimp only; omega) | omega | (simp; omega))) x1; obtain ⟨c1_0_0, c1_0_1⟩ := K.c2 x1 (w.heap.size) (.int .i64 a.1) (.int .i64 a.2) (by go_simp); have z1_0 : w.heap.size < w1.heap.size := World.block_lt_of_cell? w1 _ c1_0_0; have d1_0 : ¬ (w.heap.size = w1.heap.size) := (by omega); have e1_0 : ¬ (w1.heap.size = w.heap.size) := (by omega); obtain ⟨c1_1_0, c1_1_1⟩ := K.c2 x1 (w.heap.size + 1) (.int .i64 0) (.int .i64 0) (by go_simp); obtain ⟨f1_1_0, f1_1_1⟩ := K.f2 x1 (w.heap.size + 1) (by go_simp); have z1_1 : w.heap.size + 1 < w1.heap.size := World.block_lt_of_cell? w1 _ c1_1_0; have d1_1 : ¬ (w.heap.size + 1 = w1.heap.size) := (by omega); have e1_1 : ¬ (w1.heap.size = w.heap.size + 1) := (by omega); have n1_0 : ¬ (w.heap.size + 1 = w.heap.size) := (by omega); have n0_1 : ¬ (w.heap.size = w.heap.size + 1) := (by omega); obtain ⟨c1_2_0, c1_2_1⟩ := K.c2 x1 (w.heap.size + 1 + 1) (.int .i64 0) (.int .i64 0) (by go_simp); obtain ⟨f1_2_0, f1_2_1⟩ := K.f2 x1 (w.heap.size + 1 + 1) (by go_simp); have z1_2 : w.heap.size + 1 + 1 < w1.heap.size := World.block_lt_of_cell? w1 _ c1_2_0; have d1_2 : ¬ (w.heap.size + 1 + 1 = w1.heap.size) := (by omega); have e1_2 : ¬ (w1.heap.size = w.heap.size + 1 + 1) := (by omega); have n2_0 : ¬ (w.heap.size + 1 + 1 = w.heap.size) := (by omega); have n0_2 : ¬ (w.heap.size = w.heap.size + 1 + 1) := (by omega); have n2_1 : ¬ (w.heap.size + 1 + 1 = w.heap.size + 1) := (by omega); have n1_2 : ¬ (w.heap.size + 1 = w.heap.size + 1 + 1) := (by omega))
    go_wp2_with (go_at_call 176; refine K.call (by with_reducible rfl) (by with_reducible rfl) (HU2 _) ?_; rintro e w2 ⟨rfl, x2⟩; have s2 : w1.heap.size ≤ w2.heap.size := (by have h_ := x2.size; (try simp at h_); omega); have X2 := K.Ext.trans (X1) x2; obtain ⟨c2_0_0, c2_0_1⟩ := K.c2 x2 (w.heap.size) (.int .i64 a.1) (.int .i64 a.2) (by go_simp); have z2_0 : w.heap.size < w2.heap.size := World.block_lt_of_cell? w2 _ c2_0_0; have d2_0 : ¬ (w.heap.size = w2.heap.size) := (by omega); have e2_0 : ¬ (w2.heap.size = w.heap.size) := (by omega); obtain ⟨c2_1_0, c2_1_1⟩ := K.c2 x2 (w.heap.size + 1) (.int .i64 0) (.int .i64 0) (by go_simp); obtain ⟨f2_1_0, f2_1_1⟩ := K.f2 x2 (w.heap.size + 1) (by go_simp); have z2_1 : w.heap.size + 1 < w2.heap.size := World.block_lt_of_cell? w2 _ c2_1_0; have d2_1 : ¬ (w.heap.size + 1 = w2.heap.size) := (by omega); have e2_1 : ¬ (w2.heap.size = w.heap.size + 1) := (by omega); obtain ⟨c2_2_0, c2_2_1⟩ := K.c2 x2 (w.heap.size + 1 + 1) (.int .i64 0) (.int .i64 0) (by go_simp); obtain ⟨f2_2_0, f2_2_1⟩ := K.f2 x2 (w.heap.size + 1 + 1) (by go_simp); have z2_2 : w.heap.size + 1 + 1 < w2.heap.size := World.block_lt_of_cell? w2 _ c2_2_0; have d2_2 : ¬ (w.heap.size + 1 + 1 = w2.heap.size) := (by omega); have e2_2 : ¬ (w2.heap.size = w.heap.size + 1 + 1) := (by omega); clear c1_0_0 c1_0_1 z1_0 d1_0 e1_0 c1_1_0 c1_1_1 f1_1_0 f1_1_1 z1_1 d1_1 e1_1 c1_2_0 c1_2_1 f1_2_0 f1_2_1 z1_2 d1_2 e1_2)
    go_wp2_with (go_at_call 177; refine K.call (by with_reducible rfl) (by with_reducible rfl) (HB _) ?_; rintro e w3 ⟨rfl, x3⟩; have s3 : w2.heap.size ≤ w3.heap.size := (by have h_ := x3.size; (try simp at h_); omega); have X3 := K.Ext.trans (X2) x3; obtain ⟨c3_0_0, c3_0_1⟩ := K.c2 x3 (w.heap.size) (.int .i64 a.1) (.int .i64 a.2) (by go_simp); have z3_0 : w.heap.size < w3.heap.size := World.block_lt_of_cell? w3 _ c3_0_0; have d3_0 : ¬ (w.heap.size = w3.heap.size) := (by omega); have e3_0 : ¬ (w3.heap.size = w.heap.size) := (by omega); obtain ⟨c3_1_0, c3_1_1⟩ := K.c2 x3 (w.heap.size + 1) (.int .i64 0) (.int .i64 0) (by go_simp); obtain ⟨f3_1_0, f3_1_1⟩ := K.f2 x3 (w.heap.size + 1) (by go_simp); have z3_1 : w.heap.size + 1 < w3.heap.size := World.block_lt_of_cell? w3 _ c3_1_0; have d3_1 : ¬ (w.heap.size + 1 = w3.heap.size) := (by omega); have e3_1 : ¬ (w3.heap.size = w.heap.size + 1) := (by omega); obtain ⟨c3_2_0, c3_2_1⟩ := K.c2 x3 (w.heap.size + 1 + 1) (.int .i64 0) (.int .i64 0) (by go_simp); obtain ⟨f3_2_0, f3_2_1⟩ := K.f2 x3 (w.heap.size + 1 + 1) (by go_simp); have z3_2 : w.heap.size + 1 + 1 < w3.heap.size := World.block_lt_of_cell? w3 _ c3_2_0; have d3_2 : ¬ (w.heap.size + 1 + 1 = w3.heap.size) := (by omega); have e3_2 : ¬ (w3.heap.size = w.heap.size + 1 + 1) := (by omega); clear c2_0_0 c2_0_1 z2_0 d2_0 e2_0 c2_1_0 c2_1_1 f2_1_0 f2_1_1 z2_1 d2_1 e2_1 c2_2_0 c2_2_1 f2_2_0 f2_2_1 z2_2 d2_2 e2_2)
    go_wp2_with (go_at_call 178; refine K.call (by with_reducible rfl) (by with_reducible rfl) (HC _) ?_; rintro e w4 ⟨rfl, x4⟩; have s4 : w3.heap.size + 1 ≤ w4.heap.size := (by have h_ := x4.size; (try simp at h_); omega); have X4 := K.Ext.trans (K.Ext.alloc X3 _) x4; obtain ⟨c4_0_0, c4_0_1⟩ := K.c2 x4 (w.heap.size) (.int .i64 a.1) (.int .i64 a.2) (by go_simp); have z4_0 : w.heap.size < w4.heap.size := World.block_lt_of_cell? w4 _ c4_0_0; have d4_0 : ¬ (w.heap.size = w4.heap.size) := (by omega); have e4_0 : ¬ (w4.heap.size = w.heap.size) := (by omega); obtain ⟨c4_1_0, c4_1_1⟩ := K.c2 x4 (w.heap.size + 1) (.int .i64 0) (.int .i64 0) (by go_simp); obtain ⟨f4_1_0, f4_1_1⟩ := K.f2 x4 (w.heap.size + 1) (by go_simp); have z4_1 : w.heap.size + 1 < w4.heap.size := World.block_lt_of_cell? w4 _ c4_1_0; have d4_1 : ¬ (w.heap.size + 1 = w4.heap.size) := (by omega); have e4_1 : ¬ (w4.heap.size = w.heap.size + 1) := (by omega); obtain ⟨c4_2_0, c4_2_1⟩ := K.c2 x4 (w.heap.size + 1 + 1) (.int .i64 0) (.int .i64 0) (by go_simp); obtain ⟨f4_2_0, f4_2_1⟩ := K.f2 x4 (w.heap.size + 1 + 1) (by go_simp); have z4_2 : w.heap.size + 1 + 1 < w4.heap.size := World.block_lt_of_cell? w4 _ c4_2_0; have d4_2 : ¬ (w.heap.size + 1 + 1 = w4.heap.size) := (by omega); have e4_2 : ¬ (w4.heap.size = w.heap.size + 1 + 1) := (by omega); obtain ⟨c4_3_0, c4_3_1⟩ := K.c2 x4 (w3.heap.size) (.int .i64 ((f, true).1).1) (.int .i64 ((f, true).1).2) (by go_simp); obtain ⟨f4_3_0, f4_3_1⟩ := K.f2 x4 (w3.heap.size) (by go_simp); have z4_3 : w3.heap.size < w4.heap.size := World.block_lt_of_cell? w4 _ c4_3_0; have d4_3 : ¬ (w3.heap.size = w4.heap.size) := (by omega); have e4_3 : ¬ (w4.heap.size = w3.heap.size) := (by omega); have n3_0 : ¬ (w3.heap.size = w.heap.size) := (by omega); have n0_3 : ¬ (w.heap.size = w3.heap.size) := (by omega); have n3_1 : ¬ (w3.heap.size = w.heap.size + 1) := (by omega); have n1_3 : ¬ (w.heap.size + 1 = w3.heap.size) := (by omega); have n3_2 : ¬ (w3.heap.size = w.heap.size + 1 + 1) := (by omega); have n2_3 : ¬ (w.heap.size + 1 + 1 = w3.heap.size) := (by omega); clear c3_0_0 c3_0_1 z3_0 d3_0 e3_0 c3_1_0 c3_1_1 f3_1_0 f3_1_1 z3_1 d3_1 e3_1 c3_2_0 c3_2_1 f3_2_0 f3_2_1 z3_2 d3_2 e3_2)
    rw [HE.out]
    refine bodyPost_ret (v := .tuple #[.agg #[.int .i64 0, .int .i64 0], .agg #[.int .i64 0, .int .i64 0], .int .i64 4]) (by unfold results; rw [Try.results128]; go_simp) rfl ⟨rfl, ?_⟩
    repeat with_reducible refine K.Ext.setCell ?_ (by dsimp only; omega) _
    exact (by repeat' (first | with_reducible exact X4 | with_reducible refine K.Ext.setCell ?_ ?_ _ | with_reducible refine K.Ext.alloc ?_ _ | with_reducible refine K.Ext.drew ?_ | (dsimp only; omega) | omega | (simp; omega)))
  · have HE : Hid (S = (f, g, 0)) := Z.hide (by rw [← hS.out, HS.out]; rfl)
    have X0 : K.Ext w w := K.Ext.refl w
    go_enter Try.func128, Try.ntmps128
    go_wp2_with (go_at_call 176; refine K.call (by with_reducible rfl) (by with_reducible rfl) (HU1 _) ?_; rintro e w1 ⟨rfl, x1⟩; have s1 : w.heap.size + 3 ≤ w1.heap.size := (by have h_ := x1.size; (try simp at h_); omega); have X1 : K.Ext w w1 := K.Ext.trans (by repeat' (first | with_reducible exact X0 | with_reducible refine K.Ext.setCell ?_ ?_ _ | with_reducible refine K.Ext.alloc ?_ _ | with_reducible refine K.Ext.drew ?_ | (dsimp only; omega) | omega | (simp; omega))) x1; obtain ⟨c1_0_0, c1_0_1⟩ := K.c2 x1 (w.heap.size) (.int .i64 a.1) (.int .i64 a.2) (by go_simp); have z1_0 : w.heap.size < w1.heap.size := World.block_lt_of_cell? w1 _ c1_0_0; have d1_0 : ¬ (w.heap.size = w1.heap.size) := (by omega); have e1_0 : ¬ (w1.heap.size = w.heap.size) := (by omega); obtain ⟨c1_1_0, c1_1_1⟩ := K.c2 x1 (w.heap.size + 1) (.int .i64 0) (.int .i64 0) (by go_simp); obtain ⟨f1_1_0, f1_1_1⟩ := K.f2 x1 (w.heap.size + 1) (by go_simp); have z1_1 : w.heap.size + 1 < w1.heap.size := World.block_lt_of_cell? w1 _ c1_1_0; have d1_1 : ¬ (w.heap.size + 1 = w1.heap.size) := (by omega); have e1_1 : ¬ (w1.heap.size = w.heap.size + 1) := (by omega); have n1_0 : ¬ (w.heap.size + 1 = w.heap.size) := (by omega); have n0_1 : ¬ (w.heap.size = w.heap.size + 1) := (by omega); obtain ⟨c1_2_0, c1_2_1⟩ := K.c2 x1 (w.heap.size + 1 + 1) (.int .i64 0) (.int .i64 0) (by go_simp); obtain ⟨f1_2_0, f1_2_1⟩ := K.f2 x1 (w.heap.size + 1 + 1) (by go_simp); have z1_2 : w.heap.size + 1 + 1 < w1.heap.size := World.block_lt_of_cell? w1 _ c1_2_0; have d1_2 : ¬ (w.heap.size + 1 + 1 = w1.heap.size) := (by omega); have e1_2 : ¬ (w1.heap.size = w.heap.size + 1 + 1) := (by omega); have n2_0 : ¬ (w.heap.size + 1 + 1 = w.heap.size) := (by omega); have n0_2 : ¬ (w.heap.size = w.heap.size + 1 + 1) := (by omega); have n2_1 : ¬ (w.heap.size + 1 + 1 = w.heap.size + 1) := (by omega); have n1_2 : ¬ (w.heap.size + 1 = w.heap.size + 1 + 1) := (by omega))
    go_wp2_with (go_at_call 176; refine K.call (by with_reducible rfl) (by with_reducible rfl) (HU2 _) ?_; rintro e w2 ⟨rfl, x2⟩; have s2 : w1.heap.size ≤ w2.heap.size := (by have h_ := x2.size; (try simp at h_); omega); have X2 := K.Ext.trans (X1) x2; obtain ⟨c2_0_0, c2_0_1⟩ := K.c2 x2 (w.heap.size) (.int .i64 a.1) (.int .i64 a.2) (by go_simp); have z2_0 : w.heap.size < w2.heap.size := World.block_lt_of_cell? w2 _ c2_0_0; have d2_0 : ¬ (w.heap.size = w2.heap.size) := (by omega); have e2_0 : ¬ (w2.heap.size = w.heap.size) := (by omega); obtain ⟨c2_1_0, c2_1_1⟩ := K.c2 x2 (w.heap.size + 1) (.int .i64 0) (.int .i64 0) (by go_simp); obtain ⟨f2_1_0, f2_1_1⟩ := K.f2 x2 (w.heap.size + 1) (by go_simp); have z2_1 : w.heap.size + 1 < w2.heap.size := World.block_lt_of_cell? w2 _ c2_1_0; have d2_1 : ¬ (w.heap.size + 1 = w2.heap.size) := (by omega); have e2_1 : ¬ (w2.heap.size = w.heap.size + 1) := (by omega); obtain ⟨c2_2_0, c2_2_1⟩ := K.c2 x2 (w.heap.size + 1 + 1) (.int .i64 0) (.int .i64 0) (by go_simp); obtain ⟨f2_2_0, f2_2_1⟩ := K.f2 x2 (w.heap.size + 1 + 1) (by go_simp); have z2_2 : w.heap.size + 1 + 1 < w2.heap.size := World.block_lt_of_cell? w2 _ c2_2_0; have d2_2 : ¬ (w.heap.size + 1 + 1 = w2.heap.size) := (by omega); have e2_2 : ¬ (w2.heap.size = w.heap.size + 1 + 1) := (by omega); clear c1_0_0 c1_0_1 z1_0 d1_0 e1_0 c1_1_0 c1_1_1 f1_1_0 f1_1_1 z1_1 d1_1 e1_1 c1_2_0 c1_2_1 f1_2_0 f1_2_1 z1_2 d1_2 e1_2)
    go_wp2_with (go_at_call 177; refine K.call (by with_reducible rfl) (by with_reducible rfl) (HB _) ?_; rintro e w3 ⟨rfl, x3⟩; have s3 : w2.heap.size ≤ w3.heap.size := (by have h_ := x3.size; (try simp at h_); omega); have X3 := K.Ext.trans (X2) x3; obtain ⟨c3_0_0, c3_0_1⟩ := K.c2 x3 (w.heap.size) (.int .i64 a.1) (.int .i64 a.2) (by go_simp); have z3_0 : w.heap.size < w3.heap.size := World.block_lt_of_cell? w3 _ c3_0_0; have d3_0 : ¬ (w.heap.size = w3.heap.size) := (by omega); have e3_0 : ¬ (w3.heap.size = w.heap.size) := (by omega); obtain ⟨c3_1_0, c3_1_1⟩ := K.c2 x3 (w.heap.size + 1) (.int .i64 0) (.int .i64 0) (by go_simp); obtain ⟨f3_1_0, f3_1_1⟩ := K.f2 x3 (w.heap.size + 1) (by go_simp); have z3_1 : w.heap.size + 1 < w3.heap.size := World.block_lt_of_cell? w3 _ c3_1_0; have d3_1 : ¬ (w.heap.size + 1 = w3.heap.size) := (by omega); have e3_1 : ¬ (w3.heap.size = w.heap.size + 1) := (by omega); obtain ⟨c3_2_0, c3_2_1⟩ := K.c2 x3 (w.heap.size + 1 + 1) (.int .i64 0) (.int .i64 0) (by go_simp); obtain ⟨f3_2_0, f3_2_1⟩ := K.f2 x3 (w.heap.size + 1 + 1) (by go_simp); have z3_2 : w.heap.size + 1 + 1 < w3.heap.size := World.block_lt_of_cell? w3 _ c3_2_0; have d3_2 : ¬ (w.heap.size + 1 + 1 = w3.heap.size) := (by omega); have e3_2 : ¬ (w3.heap.size = w.heap.size + 1 + 1) := (by omega); clear c2_0_0 c2_0_1 z2_0 d2_0 e2_0 c2_1_0 c2_1_1 f2_1_0 f2_1_1 z2_1 d2_1 e2_1 c2_2_0 c2_2_1 f2_2_0 f2_2_1 z2_2 d2_2 e2_2)
    go_wp2_with (go_at_call 178; refine K.call (by with_reducible rfl) (by with_reducible rfl) (HC _) ?_; rintro e w4 ⟨rfl, x4⟩; have s4 : w3.heap.size + 1 ≤ w4.heap.size := (by have h_ := x4.size; (try simp at h_); omega); have X4 := K.Ext.trans (K.Ext.alloc X3 _) x4; obtain ⟨c4_0_0, c4_0_1⟩ := K.c2 x4 (w.heap.size) (.int .i64 a.1) (.int .i64 a.2) (by go_simp); have z4_0 : w.heap.size < w4.heap.size := World.block_lt_of_cell? w4 _ c4_0_0; have d4_0 : ¬ (w.heap.size = w4.heap.size) := (by omega); have e4_0 : ¬ (w4.heap.size = w.heap.size) := (by omega); obtain ⟨c4_1_0, c4_1_1⟩ := K.c2 x4 (w.heap.size + 1) (.int .i64 0) (.int .i64 0) (by go_simp); obtain ⟨f4_1_0, f4_1_1⟩ := K.f2 x4 (w.heap.size + 1) (by go_simp); have z4_1 : w.heap.size + 1 < w4.heap.size := World.block_lt_of_cell? w4 _ c4_1_0; have d4_1 : ¬ (w.heap.size + 1 = w4.heap.size) := (by omega); have e4_1 : ¬ (w4.heap.size = w.heap.size + 1) := (by omega); obtain ⟨c4_2_0, c4_2_1⟩ := K.c2 x4 (w.heap.size + 1 + 1) (.int .i64 0) (.int .i64 0) (by go_simp); obtain ⟨f4_2_0, f4_2_1⟩ := K.f2 x4 (w.heap.size + 1 + 1) (by go_simp); have z4_2 : w.heap.size + 1 + 1 < w4.heap.size := World.block_lt_of_cell? w4 _ c4_2_0; have d4_2 : ¬ (w.heap.size + 1 + 1 = w4.heap.size) := (by omega); have e4_2 : ¬ (w4.heap.size = w.heap.size + 1 + 1) := (by omega); obtain ⟨c4_3_0, c4_3_1⟩ := K.c2 x4 (w3.heap.size) (.int .i64 ((f, true).1).1) (.int .i64 ((f, true).1).2) (by go_simp); obtain ⟨f4_3_0, f4_3_1⟩ := K.f2 x4 (w3.heap.size) (by go_simp); have z4_3 : w3.heap.size < w4.heap.size := World.block_lt_of_cell? w4 _ c4_3_0; have d4_3 : ¬ (w3.heap.size = w4.heap.size) := (by omega); have e4_3 : ¬ (w4.heap.size = w3.heap.size) := (by omega); have n3_0 : ¬ (w3.heap.size = w.heap.size) := (by omega); have n0_3 : ¬ (w.heap.size = w3.heap.size) := (by omega); have n3_1 : ¬ (w3.heap.size = w.heap.size + 1) := (by omega); have n1_3 : ¬ (w.heap.size + 1 = w3.heap.size) := (by omega); have n3_2 : ¬ (w3.heap.size = w.heap.size + 1 + 1) := (by omega); have n2_3 : ¬ (w.heap.size + 1 + 1 = w3.heap.size) := (by omega); clear c3_0_0 c3_0_1 z3_0 d3_0 e3_0 c3_1_0 c3_1_1 f3_1_0 f3_1_1 z3_1 d3_1 e3_1 c3_2_0 c3_2_1 f3_2_0 f3_2_1 z3_2 d3_2 e3_2)
    go_region
    all_goals
      go_wp2_with fail
      rw [HE.out]
      refine bodyPost_ret (v := .tuple #[.agg #[.int .i64 ((f, true).1).1, .int .i64 ((f, true).1).2], .agg #[.int .i64 ((g, true).1).1, .int .i64 ((g, true).1).2], .int .i64 0]) (by unfold results; rw [Try.results128]; go_simp) rfl ⟨rfl, ?_⟩
      repeat with_reducible refine K.Ext.setCell ?_ (by dsimp only; omega) _
      exact (by repeat' (first | with_reducible exact X4 | with_reducible refine K.Ext.setCell ?_ ?_ _ | with_reducible refine K.Ext.alloc ?_ _ | with_reducible refine K.Ext.drew ?_ | (dsimp only; omega) | omega | (simp; omega)))
set_option maxHeartbeats 6400000 in
theorem impl_FormulaSpan (F : Z.Fm) (vs : List (Int × Int)) {loF hiF : Nat} {pF : Value} {lovs hivs : Nat} {pvs : Value} (w : World)  (hmF : F.pw.length ≤ 1048576) (hnF : F.nm.size ≤ 1048576) (hF : K.ints w loF hiF pF F.pw) (hmvs : vs.length ≤ 1048576) (hvs : K.recs false K.FgR w lovs hivs pvs vs) :
    Calls Try.prog 51 #[.agg #[.int .i64 F.dg, .int .i64 F.tn, .string F.nm, pF], pvs] w fun e w' => e = .returned (.tuple #[.agg #[.int .i64 ((Z.FormulaSpan F vs).1).1, .int .i64 ((Z.FormulaSpan F vs).1).2], .agg #[.int .i64 ((Z.FormulaSpan F vs).2.1).1, .int .i64 ((Z.FormulaSpan F vs).2.1).2], .int .i64 ((Z.FormulaSpan F vs).2.2)]) ∧ K.Ext w w' := by
  have hF_ := hF
  have shF := hF
  obtain ⟨oF, cF, rfl, _⟩ := shF
  have hvs_ := hvs
  have shvs := hvs
  obtain ⟨ovs, cvs, rfl, _⟩ := shvs
  cases vV : Z.isValued F vs
  · have HE : Hid (Z.FormulaSpan F vs = ((0, 0), (0, 0), 1)) := Z.hide (by unfold Z.FormulaSpan; rw [vV]; rfl)
    have HV : ∀ {a b c d : Nat} {p v : Value} (w : World), K.ints w a b p F.pw → K.recs false K.FgR w c d v vs → Calls Try.prog 124 #[.agg #[.int .i64 F.dg, .int .i64 F.tn, .string F.nm, p], v] w fun e w' => e = .returned (.bool false) ∧ K.Ext w w' := fun w h h' => by rw [← vV]; exact isValued_any F vs w hmF hnF h hmvs h'
    clear vV
    have X0 : K.Ext w w := K.Ext.refl w
    go_enter Try.func51, Try.ntmps51
    go_wp2_with (go_at_call 124; refine K.call (by with_reducible rfl) (by with_reducible rfl) (HV _ (K.ints.alloc (K.ints.alloc (K.ints.alloc hF_ _) _) _) (K.recs.alloc (K.recs.alloc (K.recs.alloc hvs_ _) _) _)) ?_; rintro e w1 ⟨rfl, x1⟩; have s1 : w.heap.size + 3 ≤ w1.heap.size := (by have h_ := x1.size; (try simp at h_); omega); have X1 := K.Ext.trans (K.Ext.alloc (K.Ext.alloc (K.Ext.alloc X0 _) _) _) x1; obtain ⟨c1_0_0, c1_0_1, c1_0_2, c1_0_3⟩ := K.c4 x1 (w.heap.size) (.int .i64 F.dg) (.int .i64 F.tn) (.string F.nm) (.slice oF F.pw.length cF) (by go_simp); have z1_0 : w.heap.size < w1.heap.size := World.block_lt_of_cell? w1 _ c1_0_0; have d1_0 : ¬ (w.heap.size = w1.heap.size) := (by omega); have e1_0 : ¬ (w1.heap.size = w.heap.size) := (by omega); obtain ⟨c1_1_0, c1_1_1⟩ := K.c2 x1 (w.heap.size + 1) (.int .i64 0) (.int .i64 0) (by go_simp); obtain ⟨f1_1_0, f1_1_1⟩ := K.f2 x1 (w.heap.size + 1) (by go_simp); have z1_1 : w.heap.size + 1 < w1.heap.size := World.block_lt_of_cell? w1 _ c1_1_0; have d1_1 : ¬ (w.heap.size + 1 = w1.heap.size) := (by omega); have e1_1 : ¬ (w1.heap.size = w.heap.size + 1) := (by omega); have n1_0 : ¬ (w.heap.size + 1 = w.heap.size) := (by omega); have n0_1 : ¬ (w.heap.size = w.heap.size + 1) := (by omega); obtain ⟨c1_2_0, c1_2_1⟩ := K.c2 x1 (w.heap.size + 1 + 1) (.int .i64 0) (.int .i64 0) (by go_simp); obtain ⟨f1_2_0, f1_2_1⟩ := K.f2 x1 (w.heap.size + 1 + 1) (by go_simp); have z1_2 : w.heap.size + 1 + 1 < w1.heap.size := World.block_lt_of_cell? w1 _ c1_2_0; have d1_2 : ¬ (w.heap.size + 1 + 1 = w1.heap.size) := (by omega); have e1_2 : ¬ (w1.heap.size = w.heap.size + 1 + 1) := (by omega); have n2_0 : ¬ (w.heap.size + 1 + 1 = w.heap.size) := (by omega); have n0_2 : ¬ (w.heap.size = w.heap.size + 1 + 1) := (by omega); have n2_1 : ¬ (w.heap.size + 1 + 1 = w.heap.size + 1) := (by omega); have n1_2 : ¬ (w.heap.size + 1 = w.heap.size + 1 + 1) := (by omega); have F1_1 := K.ints.ext (K.ints.alloc (K.ints.alloc (K.ints.alloc hF_ _) _) _) x1; have F2_1 := K.recs.ext (K.recs.alloc (K.recs.alloc (K.recs.alloc hvs_ _) _) _) x1; clear hF_ hvs_)
    rw [HE.out]
    refine bodyPost_ret (v := .tuple #[.agg #[.int .i64 0, .int .i64 0], .agg #[.int .i64 0, .int .i64 0], .int .i64 1]) (by unfold results; rw [Try.results51]; go_simp) rfl ⟨rfl, ?_⟩
    repeat with_reducible refine K.Ext.setCell ?_ (by dsimp only; omega) _
    exact (by repeat' (first | with_reducible exact X1 | with_reducible refine K.Ext.setCell ?_ ?_ _ | with_reducible refine K.Ext.alloc ?_ _ | with_reducible refine K.Ext.drew ?_ | (dsimp only; omega) | omega | (simp; omega)))
  have HV : ∀ {a b c d : Nat} {p v : Value} (w : World), K.ints w a b p F.pw → K.recs false K.FgR w c d v vs → Calls Try.prog 124 #[.agg #[.int .i64 F.dg, .int .i64 F.tn, .string F.nm, p], v] w fun e w' => e = .returned (.bool true) ∧ K.Ext w w' := fun w h h' => by rw [← vV]; exact isValued_any F vs w hmF hnF h hmvs h'
  have h3 : (Z.isFormula F = true ∧ vs.length = F.nm.size) ∧ Z.areFigs vs = true := by simpa [Z.isValued] using vV
  obtain ⟨X, hX⟩ : ∃ X, X = Z.lg F vs := ⟨_, rfl⟩
  have HL : ∀ {a b c d : Nat} {p v : Value} (w : World), K.ints w a b p F.pw → K.recs false K.FgR w c d v vs → Calls Try.prog 125 #[.agg #[.int .i64 F.dg, .int .i64 F.tn, .string F.nm, p], v] w fun e w' => e = .returned (.agg #[.int .i64 X.1, .int .i64 X.2]) ∧ K.Ext w w' := fun w h h' => by rw [hX]; exact formulaLog_any F vs w h3.1.1 h3.1.2 h3.2 h h'
  obtain ⟨S, hS⟩ : ∃ S, S = Z.spanOf X := ⟨_, rfl⟩
  have HS : ∀ w : World, Calls Try.prog 128 #[.agg #[.int .i64 X.1, .int .i64 X.2]] w fun e w' => e = .returned (.tuple #[.agg #[.int .i64 S.1.1, .int .i64 S.1.2], .agg #[.int .i64 S.2.1.1, .int .i64 S.2.1.2], .int .i64 S.2.2]) ∧ K.Ext w w' := fun w => spanOf_any X w S (Z.hide hS.symm)
  have HE : Hid (Z.FormulaSpan F vs = S) := Z.hide (by unfold Z.FormulaSpan; rw [vV, hS, hX]; rfl)
  clear hX hS h3 vV
  have X0 : K.Ext w w := K.Ext.refl w
  go_enter Try.func51, Try.ntmps51
  go_wp2_with (go_at_call 124; refine K.call (by with_reducible rfl) (by with_reducible rfl) (HV _ (show K.ints _ (loF) (hiF) (.slice oF F.pw.length cF) (F.pw) from by repeat' (first | with_reducible exact hF_ | with_reducible refine K.ints.set ?_ _ ?_ _ | with_reducible refine K.ints.alloc ?_ _ | with_reducible refine K.ints.drew ?_ | (dsimp only; omega) | omega | (simp; done) | (simp; omega))) (show K.recs false K.FgR _ (lovs) (hivs) (.slice ovs vs.length cvs) (vs) from by repeat' (first | with_reducible exact hvs_ | with_reducible refine K.recs.set (by decide) ?_ _ ?_ _ | with_reducible refine K.recs.alloc ?_ _ | with_reducible refine K.recs.drew ?_ | (dsimp only; omega) | omega | (simp; done) | (simp; omega)))) ?_; rintro e w1 ⟨rfl, x1⟩; have s1 : w.heap.size + 3 ≤ w1.heap.size := (by have h_ := x1.size; (try simp at h_); omega); have X1 : K.Ext w w1 := K.Ext.trans (by repeat' (first | with_reducible exact X0 | with_reducible refine K.Ext.setCell ?_ ?_ _ | with_reducible refine K.Ext.alloc ?_ _ | with_reducible refine K.Ext.drew ?_ | (dsimp only; omega) | omega | (simp; omega))) x1; obtain ⟨c1_0_0, c1_0_1, c1_0_2, c1_0_3⟩ := K.c4 x1 (w.heap.size) (.int .i64 F.dg) (.int .i64 F.tn) (.string F.nm) (.slice oF F.pw.length cF) (by go_simp); have z1_0 : w.heap.size < w1.heap.size := World.block_lt_of_cell? w1 _ c1_0_0; have d1_0 : ¬ (w.heap.size = w1.heap.size) := (by omega); have e1_0 : ¬ (w1.heap.size = w.heap.size) := (by omega); obtain ⟨c1_1_0, c1_1_1⟩ := K.c2 x1 (w.heap.size + 1) (.int .i64 0) (.int .i64 0) (by go_simp); obtain ⟨f1_1_0, f1_1_1⟩ := K.f2 x1 (w.heap.size + 1) (by go_simp); have z1_1 : w.heap.size + 1 < w1.heap.size := World.block_lt_of_cell? w1 _ c1_1_0; have d1_1 : ¬ (w.heap.size + 1 = w1.heap.size) := (by omega); have e1_1 : ¬ (w1.heap.size = w.heap.size + 1) := (by omega); have n1_0 : ¬ (w.heap.size + 1 = w.heap.size) := (by omega); have n0_1 : ¬ (w.heap.size = w.heap.size + 1) := (by omega); obtain ⟨c1_2_0, c1_2_1⟩ := K.c2 x1 (w.heap.size + 1 + 1) (.int .i64 0) (.int .i64 0) (by go_simp); obtain ⟨f1_2_0, f1_2_1⟩ := K.f2 x1 (w.heap.size + 1 + 1) (by go_simp); have z1_2 : w.heap.size + 1 + 1 < w1.heap.size := World.block_lt_of_cell? w1 _ c1_2_0; have d1_2 : ¬ (w.heap.size + 1 + 1 = w1.heap.size) := (by omega); have e1_2 : ¬ (w1.heap.size = w.heap.size + 1 + 1) := (by omega); have n2_0 : ¬ (w.heap.size + 1 + 1 = w.heap.size) := (by omega); have n0_2 : ¬ (w.heap.size = w.heap.size + 1 + 1) := (by omega); have n2_1 : ¬ (w.heap.size + 1 + 1 = w.heap.size + 1) := (by omega); have n1_2 : ¬ (w.heap.size + 1 = w.heap.size + 1 + 1) := (by omega); have F1_1 := K.ints.ext (show K.ints _ (loF) (hiF) (.slice oF F.pw.length cF) (F.pw) from by repeat' (first | with_reducible exact hF_ | with_reducible refine K.ints.set ?_ _ ?_ _ | with_reducible refine K.ints.alloc ?_ _ | with_reducible refine K.ints.drew ?_ | (dsimp only; omega) | omega | (simp; done) | (simp; omega))) x1; have F2_1 := K.recs.ext (show K.recs false K.FgR _ (lovs) (hivs) (.slice ovs vs.length cvs) (vs) from by repeat' (first | with_reducible exact hvs_ | with_reducible refine K.recs.set (by decide) ?_ _ ?_ _ | with_reducible refine K.recs.alloc ?_ _ | with_reducible refine K.recs.drew ?_ | (dsimp only; omega) | omega | (simp; done) | (simp; omega))) x1; clear hF_ hvs_)
  go_wp2_with (go_at_call 125; refine K.call (by with_reducible rfl) (by with_reducible rfl) (HL _ (F1_1) (F2_1)) ?_; rintro e w2 ⟨rfl, x2⟩; have s2 : w1.heap.size ≤ w2.heap.size := (by have h_ := x2.size; (try simp at h_); omega); have X2 := K.Ext.trans (X1) x2; obtain ⟨c2_0_0, c2_0_1, c2_0_2, c2_0_3⟩ := K.c4 x2 (w.heap.size) (.int .i64 F.dg) (.int .i64 F.tn) (.string F.nm) (.slice oF F.pw.length cF) (by go_simp); have z2_0 : w.heap.size < w2.heap.size := World.block_lt_of_cell? w2 _ c2_0_0; have d2_0 : ¬ (w.heap.size = w2.heap.size) := (by omega); have e2_0 : ¬ (w2.heap.size = w.heap.size) := (by omega); obtain ⟨c2_1_0, c2_1_1⟩ := K.c2 x2 (w.heap.size + 1) (.int .i64 0) (.int .i64 0) (by go_simp); obtain ⟨f2_1_0, f2_1_1⟩ := K.f2 x2 (w.heap.size + 1) (by go_simp); have z2_1 : w.heap.size + 1 < w2.heap.size := World.block_lt_of_cell? w2 _ c2_1_0; have d2_1 : ¬ (w.heap.size + 1 = w2.heap.size) := (by omega); have e2_1 : ¬ (w2.heap.size = w.heap.size + 1) := (by omega); obtain ⟨c2_2_0, c2_2_1⟩ := K.c2 x2 (w.heap.size + 1 + 1) (.int .i64 0) (.int .i64 0) (by go_simp); obtain ⟨f2_2_0, f2_2_1⟩ := K.f2 x2 (w.heap.size + 1 + 1) (by go_simp); have z2_2 : w.heap.size + 1 + 1 < w2.heap.size := World.block_lt_of_cell? w2 _ c2_2_0; have d2_2 : ¬ (w.heap.size + 1 + 1 = w2.heap.size) := (by omega); have e2_2 : ¬ (w2.heap.size = w.heap.size + 1 + 1) := (by omega); have F1_2 := K.ints.ext (F1_1) x2; have F2_2 := K.recs.ext (F2_1) x2; clear c1_0_0 c1_0_1 c1_0_2 c1_0_3 z1_0 d1_0 e1_0 c1_1_0 c1_1_1 f1_1_0 f1_1_1 z1_1 d1_1 e1_1 c1_2_0 c1_2_1 f1_2_0 f1_2_1 z1_2 d1_2 e1_2 F1_1 F2_1)
  go_wp2_with (go_at_call 128; refine K.call (by with_reducible rfl) (by with_reducible rfl) (HS _) ?_; rintro e w3 ⟨rfl, x3⟩; have s3 : w2.heap.size ≤ w3.heap.size := (by have h_ := x3.size; (try simp at h_); omega); have X3 := K.Ext.trans (X2) x3; obtain ⟨c3_0_0, c3_0_1, c3_0_2, c3_0_3⟩ := K.c4 x3 (w.heap.size) (.int .i64 F.dg) (.int .i64 F.tn) (.string F.nm) (.slice oF F.pw.length cF) (by go_simp); have z3_0 : w.heap.size < w3.heap.size := World.block_lt_of_cell? w3 _ c3_0_0; have d3_0 : ¬ (w.heap.size = w3.heap.size) := (by omega); have e3_0 : ¬ (w3.heap.size = w.heap.size) := (by omega); obtain ⟨c3_1_0, c3_1_1⟩ := K.c2 x3 (w.heap.size + 1) (.int .i64 0) (.int .i64 0) (by go_simp); obtain ⟨f3_1_0, f3_1_1⟩ := K.f2 x3 (w.heap.size + 1) (by go_simp); have z3_1 : w.heap.size + 1 < w3.heap.size := World.block_lt_of_cell? w3 _ c3_1_0; have d3_1 : ¬ (w.heap.size + 1 = w3.heap.size) := (by omega); have e3_1 : ¬ (w3.heap.size = w.heap.size + 1) := (by omega); obtain ⟨c3_2_0, c3_2_1⟩ := K.c2 x3 (w.heap.size + 1 + 1) (.int .i64 0) (.int .i64 0) (by go_simp); obtain ⟨f3_2_0, f3_2_1⟩ := K.f2 x3 (w.heap.size + 1 + 1) (by go_simp); have z3_2 : w.heap.size + 1 + 1 < w3.heap.size := World.block_lt_of_cell? w3 _ c3_2_0; have d3_2 : ¬ (w.heap.size + 1 + 1 = w3.heap.size) := (by omega); have e3_2 : ¬ (w3.heap.size = w.heap.size + 1 + 1) := (by omega); have F1_3 := K.ints.ext (F1_2) x3; have F2_3 := K.recs.ext (F2_2) x3; clear c2_0_0 c2_0_1 c2_0_2 c2_0_3 z2_0 d2_0 e2_0 c2_1_0 c2_1_1 f2_1_0 f2_1_1 z2_1 d2_1 e2_1 c2_2_0 c2_2_1 f2_2_0 f2_2_1 z2_2 d2_2 e2_2 F1_2 F2_2)
  rw [HE.out]
  refine bodyPost_ret (v := .tuple #[.agg #[.int .i64 S.1.1, .int .i64 S.1.2], .agg #[.int .i64 S.2.1.1, .int .i64 S.2.1.2], .int .i64 S.2.2]) (by unfold results; rw [Try.results51]; go_simp) rfl ⟨rfl, ?_⟩
  repeat with_reducible refine K.Ext.setCell ?_ (by dsimp only; omega) _
  exact (by repeat' (first | with_reducible exact X3 | with_reducible refine K.Ext.setCell ?_ ?_ _ | with_reducible refine K.Ext.alloc ?_ _ | with_reducible refine K.Ext.drew ?_ | (dsimp only; omega) | omega | (simp; omega)))
set_option maxHeartbeats 1600000 in
theorem l04Units_any (u : Int)  (w : World)   :
    Calls Try.prog 179 #[.int .i64 u] w fun e w' => e = .returned (.bool (Z.units u)) ∧ K.Ext w w' := by
  obtain ⟨b, hb⟩ : ∃ b, b = Z.units u := ⟨_, rfl⟩
  have HW : ∀ w : World, Calls Try.prog 96 #[.int .i64 u, .int .i64 (-31457280), .int .i64 31457280] w fun e w' => e = .returned (.bool b) ∧ w = w' := fun w => by rw [hb]; exact l01In_any u (-31457280) 31457280 w
  have HE : Hid (Z.units u = b) := Z.hide hb.symm
  clear hb
  have X0 : K.Ext w w := K.Ext.refl w
  go_enter Try.func179, Try.ntmps179
  go_wp2_with (go_at_call 96; refine K.call (by with_reducible rfl) (by with_reducible rfl) (HW _) ?_; rintro e w_ ⟨rfl, rfl⟩)
  rw [HE.out]
  refine bodyPost_ret (v := .bool b) (by unfold results; rw [Try.results179]; go_simp) rfl ⟨rfl, ?_⟩
  repeat with_reducible refine K.Ext.setCell ?_ (by dsimp only; omega) _
  exact (by repeat' (first | with_reducible exact X0 | with_reducible refine K.Ext.setCell ?_ ?_ _ | with_reducible refine K.Ext.alloc ?_ _ | with_reducible refine K.Ext.drew ?_ | (dsimp only; omega) | omega | (simp; omega)))
set_option maxHeartbeats 6400000 in
theorem l04Span_any (a : Int × Int)  (w : World) (S : (Int × Int) × (Int × Int) × Int) (hS : Hid (Z.spanOf a = S))  :
    Calls Try.prog 129 #[.agg #[.int .i64 a.1, .int .i64 a.2]] w fun e w' => e = .returned (.tuple #[.agg #[.int .i64 S.1.1, .int .i64 S.1.2], .agg #[.int .i64 S.2.1.1, .int .i64 S.2.1.2], .int .i64 S.2.2]) ∧ K.Ext w w' := by
  cases v1 : Z.units a.1
  · have HE : Hid (S = ((0, 0), (0, 0), 2)) := Z.hide (by rw [← hS.out]; unfold Z.spanOf; rw [v1]; rfl)
    have HU1 : ∀ w : World, Calls Try.prog 179 #[.int .i64 a.1] w fun e w' => e = .returned (.bool false) ∧ K.Ext w w' := fun w => by rw [← v1]; exact l04Units_any a.1 w
    clear v1
    have X0 : K.Ext w w := K.Ext.refl w
    go_enter Try.func129, Try.ntmps129
    go_wp2_with (go_at_call 179; refine K.call (by with_reducible rfl) (by with_reducible rfl) (HU1 _) ?_; rintro e w1 ⟨rfl, x1⟩; have s1 : w.heap.size + 3 ≤ w1.heap.size := (by have h_ := x1.size; (try simp at h_); omega); have X1 := K.Ext.trans (K.Ext.alloc (K.Ext.alloc (K.Ext.alloc X0 _) _) _) x1; obtain ⟨c1_0_0, c1_0_1⟩ := K.c2 x1 (w.heap.size) (.int .i64 a.1) (.int .i64 a.2) (by go_simp); have z1_0 : w.heap.size < w1.heap.size := World.block_lt_of_cell? w1 _ c1_0_0; have d1_0 : ¬ (w.heap.size = w1.heap.size) := (by omega); have e1_0 : ¬ (w1.heap.size = w.heap.size) := (by omega); obtain ⟨c1_1_0, c1_1_1⟩ := K.c2 x1 (w.heap.size + 1) (.int .i64 0) (.int .i64 0) (by go_simp); obtain ⟨f1_1_0, f1_1_1⟩ := K.f2 x1 (w.heap.size + 1) (by go_simp); have z1_1 : w.heap.size + 1 < w1.heap.size := World.block_lt_of_cell? w1 _ c1_1_0; have d1_1 : ¬ (w.heap.size + 1 = w1.heap.size) := (by omega); have e1_1 : ¬ (w1.heap.size = w.heap.size + 1) := (by omega); have n1_0 : ¬ (w.heap.size + 1 = w.heap.size) := (by omega); have n0_1 : ¬ (w.heap.size = w.heap.size + 1) := (by omega); obtain ⟨c1_2_0, c1_2_1⟩ := K.c2 x1 (w.heap.size + 1 + 1) (.int .i64 0) (.int .i64 0) (by go_simp); obtain ⟨f1_2_0, f1_2_1⟩ := K.f2 x1 (w.heap.size + 1 + 1) (by go_simp); have z1_2 : w.heap.size + 1 + 1 < w1.heap.size := World.block_lt_of_cell? w1 _ c1_2_0; have d1_2 : ¬ (w.heap.size + 1 + 1 = w1.heap.size) := (by omega); have e1_2 : ¬ (w1.heap.size = w.heap.size + 1 + 1) := (by omega); have n2_0 : ¬ (w.heap.size + 1 + 1 = w.heap.size) := (by omega); have n0_2 : ¬ (w.heap.size = w.heap.size + 1 + 1) := (by omega); have n2_1 : ¬ (w.heap.size + 1 + 1 = w.heap.size + 1) := (by omega); have n1_2 : ¬ (w.heap.size + 1 = w.heap.size + 1 + 1) := (by omega))
    rw [HE.out]
    refine bodyPost_ret (v := .tuple #[.agg #[.int .i64 0, .int .i64 0], .agg #[.int .i64 0, .int .i64 0], .int .i64 2]) (by unfold results; rw [Try.results129]; go_simp) rfl ⟨rfl, ?_⟩
    repeat with_reducible refine K.Ext.setCell ?_ (by dsimp only; omega) _
    exact (by repeat' (first | with_reducible exact X1 | with_reducible refine K.Ext.setCell ?_ ?_ _ | with_reducible refine K.Ext.alloc ?_ _ | with_reducible refine K.Ext.drew ?_ | (dsimp only; omega) | omega | (simp; omega)))
  cases v2 : Z.units a.2
  · have HE : Hid (S = ((0, 0), (0, 0), 2)) := Z.hide (by rw [← hS.out]; unfold Z.spanOf; rw [v1, v2]; rfl)
    have HU1 : ∀ w : World, Calls Try.prog 179 #[.int .i64 a.1] w fun e w' => e = .returned (.bool true) ∧ K.Ext w w' := fun w => by rw [← v1]; exact l04Units_any a.1 w
    have HU2 : ∀ w : World, Calls Try.prog 179 #[.int .i64 a.2] w fun e w' => e = .returned (.bool false) ∧ K.Ext w w' := fun w => by rw [← v2]; exact l04Units_any a.2 w
    clear v1 v2
    have X0 : K.Ext w w := K.Ext.refl w
    go_enter Try.func129, Try.ntmps129
    go_wp2_with (go_at_call 179; refine K.call (by with_reducible rfl) (by with_reducible rfl) (HU1 _) ?_; rintro e w1 ⟨rfl, x1⟩; have s1 : w.heap.size + 3 ≤ w1.heap.size := (by have h_ := x1.size; (try simp at h_); omega); have X1 : K.Ext w w1 := K.Ext.trans (by repeat' (first | with_reducible exact X0 | with_reducible refine K.Ext.setCell ?_ ?_ _ | with_reducible refine K.Ext.alloc ?_ _ | with_reducible refine K.Ext.drew ?_ | (dsimp only; omega) | omega | (simp; omega))) x1; obtain ⟨c1_0_0, c1_0_1⟩ := K.c2 x1 (w.heap.size) (.int .i64 a.1) (.int .i64 a.2) (by go_simp); have z1_0 : w.heap.size < w1.heap.size := World.block_lt_of_cell? w1 _ c1_0_0; have d1_0 : ¬ (w.heap.size = w1.heap.size) := (by omega); have e1_0 : ¬ (w1.heap.size = w.heap.size) := (by omega); obtain ⟨c1_1_0, c1_1_1⟩ := K.c2 x1 (w.heap.size + 1) (.int .i64 0) (.int .i64 0) (by go_simp); obtain ⟨f1_1_0, f1_1_1⟩ := K.f2 x1 (w.heap.size + 1) (by go_simp); have z1_1 : w.heap.size + 1 < w1.heap.size := World.block_lt_of_cell? w1 _ c1_1_0; have d1_1 : ¬ (w.heap.size + 1 = w1.heap.size) := (by omega); have e1_1 : ¬ (w1.heap.size = w.heap.size + 1) := (by omega); have n1_0 : ¬ (w.heap.size + 1 = w.heap.size) := (by omega); have n0_1 : ¬ (w.heap.size = w.heap.size + 1) := (by omega); obtain ⟨c1_2_0, c1_2_1⟩ := K.c2 x1 (w.heap.size + 1 + 1) (.int .i64 0) (.int .i64 0) (by go_simp); obtain ⟨f1_2_0, f1_2_1⟩ := K.f2 x1 (w.heap.size + 1 + 1) (by go_simp); have z1_2 : w.heap.size + 1 + 1 < w1.heap.size := World.block_lt_of_cell? w1 _ c1_2_0; have d1_2 : ¬ (w.heap.size + 1 + 1 = w1.heap.size) := (by omega); have e1_2 : ¬ (w1.heap.size = w.heap.size + 1 + 1) := (by omega); have n2_0 : ¬ (w.heap.size + 1 + 1 = w.heap.size) := (by omega); have n0_2 : ¬ (w.heap.size = w.heap.size + 1 + 1) := (by omega); have n2_1 : ¬ (w.heap.size + 1 + 1 = w.heap.size + 1) := (by omega); have n1_2 : ¬ (w.heap.size + 1 = w.heap.size + 1 + 1) := (by omega))
    go_wp2_with (go_at_call 179; refine K.call (by with_reducible rfl) (by with_reducible rfl) (HU2 _) ?_; rintro e w2 ⟨rfl, x2⟩; have s2 : w1.heap.size ≤ w2.heap.size := (by have h_ := x2.size; (try simp at h_); omega); have X2 := K.Ext.trans (X1) x2; obtain ⟨c2_0_0, c2_0_1⟩ := K.c2 x2 (w.heap.size) (.int .i64 a.1) (.int .i64 a.2) (by go_simp); have z2_0 : w.heap.size < w2.heap.size := World.block_lt_of_cell? w2 _ c2_0_0; have d2_0 : ¬ (w.heap.size = w2.heap.size) := (by omega); have e2_0 : ¬ (w2.heap.size = w.heap.size) := (by omega); obtain ⟨c2_1_0, c2_1_1⟩ := K.c2 x2 (w.heap.size + 1) (.int .i64 0) (.int .i64 0) (by go_simp); obtain ⟨f2_1_0, f2_1_1⟩ := K.f2 x2 (w.heap.size + 1) (by go_simp); have z2_1 : w.heap.size + 1 < w2.heap.size := World.block_lt_of_cell? w2 _ c2_1_0; have d2_1 : ¬ (w.heap.size + 1 = w2.heap.size) := (by omega); have e2_1 : ¬ (w2.heap.size = w.heap.size + 1) := (by omega); obtain ⟨c2_2_0, c2_2_1⟩ := K.c2 x2 (w.heap.size + 1 + 1) (.int .i64 0) (.int .i64 0) (by go_simp); obtain ⟨f2_2_0, f2_2_1⟩ := K.f2 x2 (w.heap.size + 1 + 1) (by go_simp); have z2_2 : w.heap.size + 1 + 1 < w2.heap.size := World.block_lt_of_cell? w2 _ c2_2_0; have d2_2 : ¬ (w.heap.size + 1 + 1 = w2.heap.size) := (by omega); have e2_2 : ¬ (w2.heap.size = w.heap.size + 1 + 1) := (by omega); clear c1_0_0 c1_0_1 z1_0 d1_0 e1_0 c1_1_0 c1_1_1 f1_1_0 f1_1_1 z1_1 d1_1 e1_1 c1_2_0 c1_2_1 f1_2_0 f1_2_1 z1_2 d1_2 e1_2)
    rw [HE.out]
    refine bodyPost_ret (v := .tuple #[.agg #[.int .i64 0, .int .i64 0], .agg #[.int .i64 0, .int .i64 0], .int .i64 2]) (by unfold results; rw [Try.results129]; go_simp) rfl ⟨rfl, ?_⟩
    repeat with_reducible refine K.Ext.setCell ?_ (by dsimp only; omega) _
    exact (by repeat' (first | with_reducible exact X2 | with_reducible refine K.Ext.setCell ?_ ?_ _ | with_reducible refine K.Ext.alloc ?_ _ | with_reducible refine K.Ext.drew ?_ | (dsimp only; omega) | omega | (simp; omega)))
  have HU1 : ∀ w : World, Calls Try.prog 179 #[.int .i64 a.1] w fun e w' => e = .returned (.bool true) ∧ K.Ext w w' := fun w => by rw [← v1]; exact l04Units_any a.1 w
  have HU2 : ∀ w : World, Calls Try.prog 179 #[.int .i64 a.2] w fun e w' => e = .returned (.bool true) ∧ K.Ext w w' := fun w => by rw [← v2]; exact l04Units_any a.2 w
  obtain ⟨f, hf⟩ : ∃ f, f = Z.below a.1 := ⟨_, rfl⟩
  obtain ⟨g, hg⟩ : ∃ g, g = Z.above a.2 := ⟨_, rfl⟩
  have HB : ∀ w : World, Calls Try.prog 180 #[.int .i64 a.1] w fun e w' => e = .returned (.agg #[.int .i64 f.1, .int .i64 f.2]) ∧ K.Ext w w' := fun w => l04Below_any a.1 w v1 f (Z.hide hf.symm)
  have HC : ∀ w : World, Calls Try.prog 181 #[.int .i64 a.2] w fun e w' => e = .returned (.agg #[.int .i64 g.1, .int .i64 g.2]) ∧ K.Ext w w' := fun w => l04Above_any a.2 w v2 g (Z.hide hg.symm)
  have HS : Hid (Z.spanOf a = if Z.isFig f.1 f.2 && Z.isFig g.1 g.2 then (f, g, 0) else ((0, 0), (0, 0), 4)) := Z.hide (by unfold Z.spanOf; rw [v1, v2, ← hf, ← hg]; rfl)
  clear hf hg v1 v2
  cases vf : Z.isFig f.1 f.2
  · have HE : Hid (S = ((0, 0), (0, 0), 4)) := Z.hide (by rw [← hS.out, HS.out, vf]; rfl)
    have HIf : ∀ w : World, Calls Try.prog 145 #[.agg #[.int .i64 f.1, .int .i64 f.2]] w fun e w' => e = .returned (.bool false) ∧ K.Ext w w' := fun w => by rw [← vf]; exact spec_IsFigure f.1 f.2 w
    clear vf HS
    have X0 : K.Ext w w := K.Ext.refl w
    go_enter Try.func129, Try.ntmps129
    go_wp2_with (go_at_call 179; refine K.call (by with_reducible rfl) (by with_reducible rfl) (HU1 _) ?_; rintro e w1 ⟨rfl, x1⟩; have s1 : w.heap.size + 3 ≤ w1.heap.size := (by have h_ := x1.size; (try simp at h_); omega); have X1 : K.Ext w w1 := K.Ext.trans (by repeat' (first | with_reducible exact X0 | with_reducible refine K.Ext.setCell ?_ ?_ _ | with_reducible refine K.Ext.alloc ?_ _ | with_reducible refine K.Ext.drew ?_ | (dsimp only; omega) | omega | (simp; omega))) x1; obtain ⟨c1_0_0, c1_0_1⟩ := K.c2 x1 (w.heap.size) (.int .i64 a.1) (.int .i64 a.2) (by go_simp); have z1_0 : w.heap.size < w1.heap.size := World.block_lt_of_cell? w1 _ c1_0_0; have d1_0 : ¬ (w.heap.size = w1.heap.size) := (by omega); have e1_0 : ¬ (w1.heap.size = w.heap.size) := (by omega); obtain ⟨c1_1_0, c1_1_1⟩ := K.c2 x1 (w.heap.size + 1) (.int .i64 0) (.int .i64 0) (by go_simp); obtain ⟨f1_1_0, f1_1_1⟩ := K.f2 x1 (w.heap.size + 1) (by go_simp); have z1_1 : w.heap.size + 1 < w1.heap.size := World.block_lt_of_cell? w1 _ c1_1_0; have d1_1 : ¬ (w.heap.size + 1 = w1.heap.size) := (by omega); have e1_1 : ¬ (w1.heap.size = w.heap.size + 1) := (by omega); have n1_0 : ¬ (w.heap.size + 1 = w.heap.size) := (by omega); have n0_1 : ¬ (w.heap.size = w.heap.size + 1) := (by omega); obtain ⟨c1_2_0, c1_2_1⟩ := K.c2 x1 (w.heap.size + 1 + 1) (.int .i64 0) (.int .i64 0) (by go_simp); obtain ⟨f1_2_0, f1_2_1⟩ := K.f2 x1 (w.heap.size + 1 + 1) (by go_simp); have z1_2 : w.heap.size + 1 + 1 < w1.heap.size := World.block_lt_of_cell? w1 _ c1_2_0; have d1_2 : ¬ (w.heap.size + 1 + 1 = w1.heap.size) := (by omega); have e1_2 : ¬ (w1.heap.size = w.heap.size + 1 + 1) := (by omega); have n2_0 : ¬ (w.heap.size + 1 + 1 = w.heap.size) := (by omega); have n0_2 : ¬ (w.heap.size = w.heap.size + 1 + 1) := (by omega); have n2_1 : ¬ (w.heap.size + 1 + 1 = w.heap.size + 1) := (by omega); have n1_2 : ¬ (w.heap.size + 1 = w.heap.size + 1 + 1) := (by omega))
    go_wp2_with (go_at_call 179; refine K.call (by with_reducible rfl) (by with_reducible rfl) (HU2 _) ?_; rintro e w2 ⟨rfl, x2⟩; have s2 : w1.heap.size ≤ w2.heap.size := (by have h_ := x2.size; (try simp at h_); omega); have X2 := K.Ext.trans (X1) x2; obtain ⟨c2_0_0, c2_0_1⟩ := K.c2 x2 (w.heap.size) (.int .i64 a.1) (.int .i64 a.2) (by go_simp); have z2_0 : w.heap.size < w2.heap.size := World.block_lt_of_cell? w2 _ c2_0_0; have d2_0 : ¬ (w.heap.size = w2.heap.size) := (by omega); have e2_0 : ¬ (w2.heap.size = w.heap.size) := (by omega); obtain ⟨c2_1_0, c2_1_1⟩ := K.c2 x2 (w.heap.size + 1) (.int .i64 0) (.int .i64 0) (by go_simp); obtain ⟨f2_1_0, f2_1_1⟩ := K.f2 x2 (w.heap.size + 1) (by go_simp); have z2_1 : w.heap.size + 1 < w2.heap.size := World.block_lt_of_cell? w2 _ c2_1_0; have d2_1 : ¬ (w.heap.size + 1 = w2.heap.size) := (by omega); have e2_1 : ¬ (w2.heap.size = w.heap.size + 1) := (by omega); obtain ⟨c2_2_0, c2_2_1⟩ := K.c2 x2 (w.heap.size + 1 + 1) (.int .i64 0) (.int .i64 0) (by go_simp); obtain ⟨f2_2_0, f2_2_1⟩ := K.f2 x2 (w.heap.size + 1 + 1) (by go_simp); have z2_2 : w.heap.size + 1 + 1 < w2.heap.size := World.block_lt_of_cell? w2 _ c2_2_0; have d2_2 : ¬ (w.heap.size + 1 + 1 = w2.heap.size) := (by omega); have e2_2 : ¬ (w2.heap.size = w.heap.size + 1 + 1) := (by omega); clear c1_0_0 c1_0_1 z1_0 d1_0 e1_0 c1_1_0 c1_1_1 f1_1_0 f1_1_1 z1_1 d1_1 e1_1 c1_2_0 c1_2_1 f1_2_0 f1_2_1 z1_2 d1_2 e1_2)
    go_wp2_with fail
    refine K.wp_region_y (R := K.RE) 8 [0, 1, 2, 0, 1, 2, 2, 2] [K.SQ.any, K.SQ.any, K.SQ.is (.agg #[.int .i64 f.1, .int .i64 f.2]), K.SQ.any, K.SQ.any, K.SQ.is (.agg #[.int .i64 g.1, .int .i64 g.2]), K.SQ.new (w2.heap.size) (Nat.zero_le _) (.cells #[.int .i64 0, .int .i64 0] 30), K.SQ.new (w2.heap.size) (Nat.zero_le _) (.cells #[.int .i64 0, .int .i64 0] 30)] (by kernel_rfl) (by kernel_rfl) ?_
    simp only [List.take_succ_cons, List.take_zero, List.drop_succ_cons, List.drop_zero]
    apply K.y_pure
    · rfl
    · rfl
    · intro w'; go_simp; first | done | exact K.vint (IntWalk.i64_in _ (by omega)) | rfl | exact ⟨rfl, rfl⟩
    simp only [Act.put, List.setIfInBounds_toArray, List.set]
    apply K.y_held
    · rfl
    · rfl
    · intro w' hx; have hx : K.Ext _ _ := hx; have hc := hx.all.1.1; have hf := hx.all.1.2; have hc' := hx.all.2.1; have hf' := hx.all.2.2; go_simp; first | done | rfl | exact ⟨rfl, rfl⟩
    simp only [Act.put, List.setIfInBounds_toArray, List.set]
    apply K.y_call_is
    · rfl
    · rfl
    · rfl
    · intro w'; go_simp; first | done | rfl | exact ⟨rfl, rfl⟩
    · intro w' hx hp; have hx : K.Ext _ _ := hx; have hc := hx.all.1.1; have hf := hx.all.1.2; have hc' := hx.all.2.1; have hf' := hx.all.2.2; exact HB _
    intro w_2_ hx_2_
    replace hx_2_ : K.Ext _ _ := hx_2_
    simp only [Act.put, List.setIfInBounds_toArray, List.set]
    apply K.y_pure
    · rfl
    · rfl
    · intro w'; go_simp; first | done | exact K.vint (IntWalk.i64_in _ (by omega)) | rfl | exact ⟨rfl, rfl⟩
    simp only [Act.put, List.setIfInBounds_toArray, List.set]
    apply K.y_held
    · rfl
    · rfl
    · intro w' hx; have hx : K.Ext _ _ := hx; have hc := hx.all.1.1; have hf := hx.all.1.2; have hc' := hx.all.2.1; have hf' := hx.all.2.2; go_simp; first | done | rfl | exact ⟨rfl, rfl⟩
    simp only [Act.put, List.setIfInBounds_toArray, List.set]
    apply K.y_call_is
    · rfl
    · rfl
    · rfl
    · intro w'; go_simp; first | done | rfl | exact ⟨rfl, rfl⟩
    · intro w' hx hp; have hx : K.Ext _ _ := hx; have hc := hx.all.1.1; have hf := hx.all.1.2; have hc' := hx.all.2.1; have hf' := hx.all.2.2; exact HC _
    intro w_5_ hx_5_
    replace hx_5_ : K.Ext _ _ := hx_5_
    simp only [Act.put, List.setIfInBounds_toArray, List.set]
    apply K.y_new (Nat.zero_le _)
    · rfl
    · rfl
    · rfl
    · go_simp; first | done | omega
    · intro w'; go_simp; first | done | rfl | exact ⟨rfl, rfl⟩
    intro g3_6 w_6_ hx_6_ hg3_6 hb_6_ hn_6_
    replace hx_6_ : K.Ext _ _ := hx_6_
    clear hn_6_
    simp only [Act.put, List.setIfInBounds_toArray, List.set]
    apply K.y_new (Nat.zero_le _)
    · rfl
    · rfl
    · rfl
    · go_simp; first | done | omega
    · intro w'; go_simp; first | done | rfl | exact ⟨rfl, rfl⟩
    intro g3_7 w_7_ hx_7_ hg3_7 hb_7_ hn_7_
    replace hx_7_ : K.Ext _ _ := hx_7_
    have ne3_6_7 : ¬ (g3_6 = g3_7) := K.blk_ptr (hn_7_ 6 _ (by decide) rfl rfl rfl)
    have ne3_7_6 : ¬ (g3_7 = g3_6) := fun e => ne3_6_7 e.symm
    clear hn_7_
    simp only [Act.put, List.setIfInBounds_toArray, List.set]
    apply K.y_done
    intro w3 h_x
    replace h_x : K.Ext _ _ := h_x
    have x3 := hx_2_.trans (hx_5_.trans (hx_6_.trans (hx_7_.trans h_x)))
    have hb3_6 := K.Ext.block (hx_7_.trans h_x) hb_6_
    have cg3_6_0 : w3.cell? ⟨g3_6, 0, none⟩ = some (.int .i64 0) := K.cell_at hb3_6 rfl
    have fg3_6_0 : w3.frozen? ⟨g3_6, 0, none⟩ = false := K.thaw_at hb3_6
    have cg3_6_1 : w3.cell? ⟨g3_6, 1, none⟩ = some (.int .i64 0) := K.cell_at hb3_6 rfl
    have fg3_6_1 : w3.frozen? ⟨g3_6, 1, none⟩ = false := K.thaw_at hb3_6
    have hb3_7 := K.Ext.block (h_x) hb_7_
    have cg3_7_0 : w3.cell? ⟨g3_7, 0, none⟩ = some (.int .i64 0) := K.cell_at hb3_7 rfl
    have fg3_7_0 : w3.frozen? ⟨g3_7, 0, none⟩ = false := K.thaw_at hb3_7
    have cg3_7_1 : w3.cell? ⟨g3_7, 1, none⟩ = some (.int .i64 0) := K.cell_at hb3_7 rfl
    have fg3_7_1 : w3.frozen? ⟨g3_7, 1, none⟩ = false := K.thaw_at hb3_7
    clear h_x hx_2_ hx_5_ hx_6_ hx_7_
    obtain ⟨⟨hcw3, hfw3⟩, hc'w3, hf'w3⟩ := x3.all
    have s3 : w2.heap.size ≤ w3.heap.size := (by have h_ := x3.size; (try simp at h_); omega)
    have X3 := K.Ext.trans (K.Ext.drew (X2)) x3
    obtain ⟨c3_0_0, c3_0_1⟩ := K.c2 x3 (w.heap.size) (.int .i64 a.1) (.int .i64 a.2) (by go_simp)
    have z3_0 : w.heap.size < w3.heap.size := World.block_lt_of_cell? w3 _ c3_0_0
    have d3_0 : ¬ (w.heap.size = w3.heap.size) := (by omega)
    have e3_0 : ¬ (w3.heap.size = w.heap.size) := (by omega)
    obtain ⟨c3_1_0, c3_1_1⟩ := K.c2 x3 (w.heap.size + 1) (.int .i64 0) (.int .i64 0) (by go_simp)
    obtain ⟨f3_1_0, f3_1_1⟩ := K.f2 x3 (w.heap.size + 1) (by go_simp)
    have z3_1 : w.heap.size + 1 < w3.heap.size := World.block_lt_of_cell? w3 _ c3_1_0
    have d3_1 : ¬ (w.heap.size + 1 = w3.heap.size) := (by omega)
    have e3_1 : ¬ (w3.heap.size = w.heap.size + 1) := (by omega)
    obtain ⟨c3_2_0, c3_2_1⟩ := K.c2 x3 (w.heap.size + 1 + 1) (.int .i64 0) (.int .i64 0) (by go_simp)
    obtain ⟨f3_2_0, f3_2_1⟩ := K.f2 x3 (w.heap.size + 1 + 1) (by go_simp)
    have z3_2 : w.heap.size + 1 + 1 < w3.heap.size := World.block_lt_of_cell? w3 _ c3_2_0
    have d3_2 : ¬ (w.heap.size + 1 + 1 = w3.heap.size) := (by omega)
    have e3_2 : ¬ (w3.heap.size = w.heap.size + 1 + 1) := (by omega)
    clear c2_0_0 c2_0_1 z2_0 d2_0 e2_0 c2_1_0 c2_1_1 f2_1_0 f2_1_1 z2_1 d2_1 e2_1 c2_2_0 c2_2_1 f2_2_0 f2_2_1 z2_2 d2_2 e2_2
    have nng3_6_0 : ¬ (g3_6 = w.heap.size) := (by omega)
    have nmg3_6_0 : ¬ (w.heap.size = g3_6) := (by omega)
    have nng3_6_1 : ¬ (g3_6 = w.heap.size + 1) := (by omega)
    have nmg3_6_1 : ¬ (w.heap.size + 1 = g3_6) := (by omega)
    have nng3_6_2 : ¬ (g3_6 = w.heap.size + 1 + 1) := (by omega)
    have nmg3_6_2 : ¬ (w.heap.size + 1 + 1 = g3_6) := (by omega)
    have nng3_7_0 : ¬ (g3_7 = w.heap.size) := (by omega)
    have nmg3_7_0 : ¬ (w.heap.size = g3_7) := (by omega)
    have nng3_7_1 : ¬ (g3_7 = w.heap.size + 1) := (by omega)
    have nmg3_7_1 : ¬ (w.heap.size + 1 = g3_7) := (by omega)
    have nng3_7_2 : ¬ (g3_7 = w.heap.size + 1 + 1) := (by omega)
    have nmg3_7_2 : ¬ (w.heap.size + 1 + 1 = g3_7) := (by omega)
    go_wp2_with fail
    refine NoPanic.normal ?_
    go_wp2_with (go_at_call 145; refine K.call (by with_reducible rfl) (by with_reducible rfl) (HIf _) ?_; rintro e w4 ⟨rfl, x4⟩; have s4 : w3.heap.size ≤ w4.heap.size := (by have h_ := x4.size; (try simp at h_); omega); have X4 : K.Ext w w4 := K.Ext.trans (by repeat' (first | with_reducible exact X3 | with_reducible refine K.Ext.setCell ?_ ?_ _ | with_reducible refine K.Ext.alloc ?_ _ | with_reducible refine K.Ext.drew ?_ | (dsimp only; omega) | omega | (simp; omega))) x4; obtain ⟨c4_0_0, c4_0_1⟩ := K.c2 x4 (w.heap.size) (.int .i64 a.1) (.int .i64 a.2) (by go_simp); have z4_0 : w.heap.size < w4.heap.size := World.block_lt_of_cell? w4 _ c4_0_0; have d4_0 : ¬ (w.heap.size = w4.heap.size) := (by omega); have e4_0 : ¬ (w4.heap.size = w.heap.size) := (by omega); obtain ⟨c4_1_0, c4_1_1⟩ := K.c2 x4 (w.heap.size + 1) (.int .i64 0) (.int .i64 0) (by go_simp); obtain ⟨f4_1_0, f4_1_1⟩ := K.f2 x4 (w.heap.size + 1) (by go_simp); have z4_1 : w.heap.size + 1 < w4.heap.size := World.block_lt_of_cell? w4 _ c4_1_0; have d4_1 : ¬ (w.heap.size + 1 = w4.heap.size) := (by omega); have e4_1 : ¬ (w4.heap.size = w.heap.size + 1) := (by omega); obtain ⟨c4_2_0, c4_2_1⟩ := K.c2 x4 (w.heap.size + 1 + 1) (.int .i64 0) (.int .i64 0) (by go_simp); obtain ⟨f4_2_0, f4_2_1⟩ := K.f2 x4 (w.heap.size + 1 + 1) (by go_simp); have z4_2 : w.heap.size + 1 + 1 < w4.heap.size := World.block_lt_of_cell? w4 _ c4_2_0; have d4_2 : ¬ (w.heap.size + 1 + 1 = w4.heap.size) := (by omega); have e4_2 : ¬ (w4.heap.size = w.heap.size + 1 + 1) := (by omega); obtain ⟨c4_3_0, c4_3_1⟩ := K.c2 x4 (g3_6) (.int .i64 f.1) (.int .i64 f.2) (by go_simp); obtain ⟨f4_3_0, f4_3_1⟩ := K.f2 x4 (g3_6) (by go_simp); have z4_3 : g3_6 < w4.heap.size := World.block_lt_of_cell? w4 _ c4_3_0; have d4_3 : ¬ (g3_6 = w4.heap.size) := (by omega); have e4_3 : ¬ (w4.heap.size = g3_6) := (by omega); have n3_0 : ¬ (g3_6 = w.heap.size) := (by omega); have n0_3 : ¬ (w.heap.size = g3_6) := (by omega); have n3_1 : ¬ (g3_6 = w.heap.size + 1) := (by omega); have n1_3 : ¬ (w.heap.size + 1 = g3_6) := (by omega); have n3_2 : ¬ (g3_6 = w.heap.size + 1 + 1) := (by omega); have n2_3 : ¬ (w.heap.size + 1 + 1 = g3_6) := (by omega); obtain ⟨c4_4_0, c4_4_1⟩ := K.c2 x4 (g3_7) (.int .i64 g.1) (.int .i64 g.2) (by go_simp); obtain ⟨f4_4_0, f4_4_1⟩ := K.f2 x4 (g3_7) (by go_simp); have z4_4 : g3_7 < w4.heap.size := World.block_lt_of_cell? w4 _ c4_4_0; have d4_4 : ¬ (g3_7 = w4.heap.size) := (by omega); have e4_4 : ¬ (w4.heap.size = g3_7) := (by omega); have n4_0 : ¬ (g3_7 = w.heap.size) := (by omega); have n0_4 : ¬ (w.heap.size = g3_7) := (by omega); have n4_1 : ¬ (g3_7 = w.heap.size + 1) := (by omega); have n1_4 : ¬ (w.heap.size + 1 = g3_7) := (by omega); have n4_2 : ¬ (g3_7 = w.heap.size + 1 + 1) := (by omega); have n2_4 : ¬ (w.heap.size + 1 + 1 = g3_7) := (by omega); have n4_3 : ¬ (g3_7 = g3_6) := (by omega); have n3_4 : ¬ (g3_6 = g3_7) := (by omega); clear c3_0_0 c3_0_1 z3_0 d3_0 e3_0 c3_1_0 c3_1_1 f3_1_0 f3_1_1 z3_1 d3_1 e3_1 c3_2_0 c3_2_1 f3_2_0 f3_2_1 z3_2 d3_2 e3_2)
    rw [HE.out]
    refine bodyPost_ret (v := .tuple #[.agg #[.int .i64 0, .int .i64 0], .agg #[.int .i64 0, .int .i64 0], .int .i64 4]) (by unfold results; rw [Try.results129]; go_simp) rfl ⟨rfl, ?_⟩
    repeat with_reducible refine K.Ext.setCell ?_ (by dsimp only; omega) _
    exact (by repeat' (first | with_reducible exact X4 | with_reducible refine K.Ext.setCell ?_ ?_ _ | with_reducible refine K.Ext.alloc ?_ _ | with_reducible refine K.Ext.drew ?_ | (dsimp only; omega) | omega | (simp; omega)))
  cases vg : Z.isFig g.1 g.2
  · have HE : Hid (S = ((0, 0), (0, 0), 4)) := Z.hide (by rw [← hS.out, HS.out, vf, vg]; rfl)
    have HIf : ∀ w : World, Calls Try.prog 145 #[.agg #[.int .i64 f.1, .int .i64 f.2]] w fun e w' => e = .returned (.bool true) ∧ K.Ext w w' := fun w => by rw [← vf]; exact spec_IsFigure f.1 f.2 w
    have HIg : ∀ w : World, Calls Try.prog 145 #[.agg #[.int .i64 g.1, .int .i64 g.2]] w fun e w' => e = .returned (.bool false) ∧ K.Ext w w' := fun w => by rw [← vg]; exact spec_IsFigure g.1 g.2 w
    clear vf vg HS
    have X0 : K.Ext w w := K.Ext.refl w
    go_enter Try.func129, Try.ntmps129
    go_wp2_with (go_at_call 179; refine K.call (by with_reducible rfl) (by with_reducible rfl) (HU1 _) ?_; rintro e w1 ⟨rfl, x1⟩; have s1 : w.heap.size + 3 ≤ w1.heap.size := (by have h_ := x1.size; (try simp at h_); omega); have X1 : K.Ext w w1 := K.Ext.trans (by repeat' (first | with_reducible exact X0 | with_reducible refine K.Ext.setCell ?_ ?_ _ | with_reducible refine K.Ext.alloc ?_ _ | with_reducible refine K.Ext.drew ?_ | (dsimp only; omega) | omega | (simp; omega))) x1; obtain ⟨c1_0_0, c1_0_1⟩ := K.c2 x1 (w.heap.size) (.int .i64 a.1) (.int .i64 a.2) (by go_simp); have z1_0 : w.heap.size < w1.heap.size := World.block_lt_of_cell? w1 _ c1_0_0; have d1_0 : ¬ (w.heap.size = w1.heap.size) := (by omega); have e1_0 : ¬ (w1.heap.size = w.heap.size) := (by omega); obtain ⟨c1_1_0, c1_1_1⟩ := K.c2 x1 (w.heap.size + 1) (.int .i64 0) (.int .i64 0) (by go_simp); obtain ⟨f1_1_0, f1_1_1⟩ := K.f2 x1 (w.heap.size + 1) (by go_simp); have z1_1 : w.heap.size + 1 < w1.heap.size := World.block_lt_of_cell? w1 _ c1_1_0; have d1_1 : ¬ (w.heap.size + 1 = w1.heap.size) := (by omega); have e1_1 : ¬ (w1.heap.size = w.heap.size + 1) := (by omega); have n1_0 : ¬ (w.heap.size + 1 = w.heap.size) := (by omega); have n0_1 : ¬ (w.heap.size = w.heap.size + 1) := (by omega); obtain ⟨c1_2_0, c1_2_1⟩ := K.c2 x1 (w.heap.size + 1 + 1) (.int .i64 0) (.int .i64 0) (by go_simp); obtain ⟨f1_2_0, f1_2_1⟩ := K.f2 x1 (w.heap.size + 1 + 1) (by go_simp); have z1_2 : w.heap.size + 1 + 1 < w1.heap.size := World.block_lt_of_cell? w1 _ c1_2_0; have d1_2 : ¬ (w.heap.size + 1 + 1 = w1.heap.size) := (by omega); have e1_2 : ¬ (w1.heap.size = w.heap.size + 1 + 1) := (by omega); have n2_0 : ¬ (w.heap.size + 1 + 1 = w.heap.size) := (by omega); have n0_2 : ¬ (w.heap.size = w.heap.size + 1 + 1) := (by omega); have n2_1 : ¬ (w.heap.size + 1 + 1 = w.heap.size + 1) := (by omega); have n1_2 : ¬ (w.heap.size + 1 = w.heap.size + 1 + 1) := (by omega))
    go_wp2_with (go_at_call 179; refine K.call (by with_reducible rfl) (by with_reducible rfl) (HU2 _) ?_; rintro e w2 ⟨rfl, x2⟩; have s2 : w1.heap.size ≤ w2.heap.size := (by have h_ := x2.size; (try simp at h_); omega); have X2 := K.Ext.trans (X1) x2; obtain ⟨c2_0_0, c2_0_1⟩ := K.c2 x2 (w.heap.size) (.int .i64 a.1) (.int .i64 a.2) (by go_simp); have z2_0 : w.heap.size < w2.heap.size := World.block_lt_of_cell? w2 _ c2_0_0; have d2_0 : ¬ (w.heap.size = w2.heap.size) := (by omega); have e2_0 : ¬ (w2.heap.size = w.heap.size) := (by omega); obtain ⟨c2_1_0, c2_1_1⟩ := K.c2 x2 (w.heap.size + 1) (.int .i64 0) (.int .i64 0) (by go_simp); obtain ⟨f2_1_0, f2_1_1⟩ := K.f2 x2 (w.heap.size + 1) (by go_simp); have z2_1 : w.heap.size + 1 < w2.heap.size := World.block_lt_of_cell? w2 _ c2_1_0; have d2_1 : ¬ (w.heap.size + 1 = w2.heap.size) := (by omega); have e2_1 : ¬ (w2.heap.size = w.heap.size + 1) := (by omega); obtain ⟨c2_2_0, c2_2_1⟩ := K.c2 x2 (w.heap.size + 1 + 1) (.int .i64 0) (.int .i64 0) (by go_simp); obtain ⟨f2_2_0, f2_2_1⟩ := K.f2 x2 (w.heap.size + 1 + 1) (by go_simp); have z2_2 : w.heap.size + 1 + 1 < w2.heap.size := World.block_lt_of_cell? w2 _ c2_2_0; have d2_2 : ¬ (w.heap.size + 1 + 1 = w2.heap.size) := (by omega); have e2_2 : ¬ (w2.heap.size = w.heap.size + 1 + 1) := (by omega); clear c1_0_0 c1_0_1 z1_0 d1_0 e1_0 c1_1_0 c1_1_1 f1_1_0 f1_1_1 z1_1 d1_1 e1_1 c1_2_0 c1_2_1 f1_2_0 f1_2_1 z1_2 d1_2 e1_2)
    go_wp2_with fail
    refine K.wp_region_y (R := K.RE) 8 [0, 1, 2, 0, 1, 2, 2, 2] [K.SQ.any, K.SQ.any, K.SQ.is (.agg #[.int .i64 f.1, .int .i64 f.2]), K.SQ.any, K.SQ.any, K.SQ.is (.agg #[.int .i64 g.1, .int .i64 g.2]), K.SQ.new (w2.heap.size) (Nat.zero_le _) (.cells #[.int .i64 0, .int .i64 0] 30), K.SQ.new (w2.heap.size) (Nat.zero_le _) (.cells #[.int .i64 0, .int .i64 0] 30)] (by kernel_rfl) (by kernel_rfl) ?_
    simp only [List.take_succ_cons, List.take_zero, List.drop_succ_cons, List.drop_zero]
    apply K.y_pure
    · rfl
    · rfl
    · intro w'; go_simp; first | done | exact K.vint (IntWalk.i64_in _ (by omega)) | rfl | exact ⟨rfl, rfl⟩
    simp only [Act.put, List.setIfInBounds_toArray, List.set]
    apply K.y_held
    · rfl
    · rfl
    · intro w' hx; have hx : K.Ext _ _ := hx; have hc := hx.all.1.1; have hf := hx.all.1.2; have hc' := hx.all.2.1; have hf' := hx.all.2.2; go_simp; first | done | rfl | exact ⟨rfl, rfl⟩
    simp only [Act.put, List.setIfInBounds_toArray, List.set]
    apply K.y_call_is
    · rfl
    · rfl
    · rfl
    · intro w'; go_simp; first | done | rfl | exact ⟨rfl, rfl⟩
    · intro w' hx hp; have hx : K.Ext _ _ := hx; have hc := hx.all.1.1; have hf := hx.all.1.2; have hc' := hx.all.2.1; have hf' := hx.all.2.2; exact HB _
    intro w_2_ hx_2_
    replace hx_2_ : K.Ext _ _ := hx_2_
    simp only [Act.put, List.setIfInBounds_toArray, List.set]
    apply K.y_pure
    · rfl
    · rfl
    · intro w'; go_simp; first | done | exact K.vint (IntWalk.i64_in _ (by omega)) | rfl | exact ⟨rfl, rfl⟩
    simp only [Act.put, List.setIfInBounds_toArray, List.set]
    apply K.y_held
    · rfl
    · rfl
    · intro w' hx; have hx : K.Ext _ _ := hx; have hc := hx.all.1.1; have hf := hx.all.1.2; have hc' := hx.all.2.1; have hf' := hx.all.2.2; go_simp; first | done | rfl | exact ⟨rfl, rfl⟩
    simp only [Act.put, List.setIfInBounds_toArray, List.set]
    apply K.y_call_is
    · rfl
    · rfl
    · rfl
    · intro w'; go_simp; first | done | rfl | exact ⟨rfl, rfl⟩
    · intro w' hx hp; have hx : K.Ext _ _ := hx; have hc := hx.all.1.1; have hf := hx.all.1.2; have hc' := hx.all.2.1; have hf' := hx.all.2.2; exact HC _
    intro w_5_ hx_5_
    replace hx_5_ : K.Ext _ _ := hx_5_
    simp only [Act.put, List.setIfInBounds_toArray, List.set]
    apply K.y_new (Nat.zero_le _)
    · rfl
    · rfl
    · rfl
    · go_simp; first | done | omega
    · intro w'; go_simp; first | done | rfl | exact ⟨rfl, rfl⟩
    intro g3_6 w_6_ hx_6_ hg3_6 hb_6_ hn_6_
    replace hx_6_ : K.Ext _ _ := hx_6_
    clear hn_6_
    simp only [Act.put, List.setIfInBounds_toArray, List.set]
    apply K.y_new (Nat.zero_le _)
    · rfl
    · rfl
    · rfl
    · go_simp; first | done | omega
    · intro w'; go_simp; first | done | rfl | exact ⟨rfl, rfl⟩
    intro g3_7 w_7_ hx_7_ hg3_7 hb_7_ hn_7_
    replace hx_7_ : K.Ext _ _ := hx_7_
    have ne3_6_7 : ¬ (g3_6 = g3_7) := K.blk_ptr (hn_7_ 6 _ (by decide) rfl rfl rfl)
    have ne3_7_6 : ¬ (g3_7 = g3_6) := fun e => ne3_6_7 e.symm
    clear hn_7_
    simp only [Act.put, List.setIfInBounds_toArray, List.set]
    apply K.y_done
    intro w3 h_x
    replace h_x : K.Ext _ _ := h_x
    have x3 := hx_2_.trans (hx_5_.trans (hx_6_.trans (hx_7_.trans h_x)))
    have hb3_6 := K.Ext.block (hx_7_.trans h_x) hb_6_
    have cg3_6_0 : w3.cell? ⟨g3_6, 0, none⟩ = some (.int .i64 0) := K.cell_at hb3_6 rfl
    have fg3_6_0 : w3.frozen? ⟨g3_6, 0, none⟩ = false := K.thaw_at hb3_6
    have cg3_6_1 : w3.cell? ⟨g3_6, 1, none⟩ = some (.int .i64 0) := K.cell_at hb3_6 rfl
    have fg3_6_1 : w3.frozen? ⟨g3_6, 1, none⟩ = false := K.thaw_at hb3_6
    have hb3_7 := K.Ext.block (h_x) hb_7_
    have cg3_7_0 : w3.cell? ⟨g3_7, 0, none⟩ = some (.int .i64 0) := K.cell_at hb3_7 rfl
    have fg3_7_0 : w3.frozen? ⟨g3_7, 0, none⟩ = false := K.thaw_at hb3_7
    have cg3_7_1 : w3.cell? ⟨g3_7, 1, none⟩ = some (.int .i64 0) := K.cell_at hb3_7 rfl
    have fg3_7_1 : w3.frozen? ⟨g3_7, 1, none⟩ = false := K.thaw_at hb3_7
    clear h_x hx_2_ hx_5_ hx_6_ hx_7_
    obtain ⟨⟨hcw3, hfw3⟩, hc'w3, hf'w3⟩ := x3.all
    have s3 : w2.heap.size ≤ w3.heap.size := (by have h_ := x3.size; (try simp at h_); omega)
    have X3 := K.Ext.trans (K.Ext.drew (X2)) x3
    obtain ⟨c3_0_0, c3_0_1⟩ := K.c2 x3 (w.heap.size) (.int .i64 a.1) (.int .i64 a.2) (by go_simp)
    have z3_0 : w.heap.size < w3.heap.size := World.block_lt_of_cell? w3 _ c3_0_0
    have d3_0 : ¬ (w.heap.size = w3.heap.size) := (by omega)
    have e3_0 : ¬ (w3.heap.size = w.heap.size) := (by omega)
    obtain ⟨c3_1_0, c3_1_1⟩ := K.c2 x3 (w.heap.size + 1) (.int .i64 0) (.int .i64 0) (by go_simp)
    obtain ⟨f3_1_0, f3_1_1⟩ := K.f2 x3 (w.heap.size + 1) (by go_simp)
    have z3_1 : w.heap.size + 1 < w3.heap.size := World.block_lt_of_cell? w3 _ c3_1_0
    have d3_1 : ¬ (w.heap.size + 1 = w3.heap.size) := (by omega)
    have e3_1 : ¬ (w3.heap.size = w.heap.size + 1) := (by omega)
    obtain ⟨c3_2_0, c3_2_1⟩ := K.c2 x3 (w.heap.size + 1 + 1) (.int .i64 0) (.int .i64 0) (by go_simp)
    obtain ⟨f3_2_0, f3_2_1⟩ := K.f2 x3 (w.heap.size + 1 + 1) (by go_simp)
    have z3_2 : w.heap.size + 1 + 1 < w3.heap.size := World.block_lt_of_cell? w3 _ c3_2_0
    have d3_2 : ¬ (w.heap.size + 1 + 1 = w3.heap.size) := (by omega)
    have e3_2 : ¬ (w3.heap.size = w.heap.size + 1 + 1) := (by omega)
    clear c2_0_0 c2_0_1 z2_0 d2_0 e2_0 c2_1_0 c2_1_1 f2_1_0 f2_1_1 z2_1 d2_1 e2_1 c2_2_0 c2_2_1 f2_2_0 f2_2_1 z2_2 d2_2 e2_2
    have nng3_6_0 : ¬ (g3_6 = w.heap.size) := (by omega)
    have nmg3_6_0 : ¬ (w.heap.size = g3_6) := (by omega)
    have nng3_6_1 : ¬ (g3_6 = w.heap.size + 1) := (by omega)
    have nmg3_6_1 : ¬ (w.heap.size + 1 = g3_6) := (by omega)
    have nng3_6_2 : ¬ (g3_6 = w.heap.size + 1 + 1) := (by omega)
    have nmg3_6_2 : ¬ (w.heap.size + 1 + 1 = g3_6) := (by omega)
    have nng3_7_0 : ¬ (g3_7 = w.heap.size) := (by omega)
    have nmg3_7_0 : ¬ (w.heap.size = g3_7) := (by omega)
    have nng3_7_1 : ¬ (g3_7 = w.heap.size + 1) := (by omega)
    have nmg3_7_1 : ¬ (w.heap.size + 1 = g3_7) := (by omega)
    have nng3_7_2 : ¬ (g3_7 = w.heap.size + 1 + 1) := (by omega)
    have nmg3_7_2 : ¬ (w.heap.size + 1 + 1 = g3_7) := (by omega)
    go_wp2_with fail
    refine NoPanic.normal ?_
    go_wp2_with (go_at_call 145; refine K.call (by with_reducible rfl) (by with_reducible rfl) (HIf _) ?_; rintro e w4 ⟨rfl, x4⟩; have s4 : w3.heap.size ≤ w4.heap.size := (by have h_ := x4.size; (try simp at h_); omega); have X4 : K.Ext w w4 := K.Ext.trans (by repeat' (first | with_reducible exact X3 | with_reducible refine K.Ext.setCell ?_ ?_ _ | with_reducible refine K.Ext.alloc ?_ _ | with_reducible refine K.Ext.drew ?_ | (dsimp only; omega) | omega | (simp; omega))) x4; obtain ⟨c4_0_0, c4_0_1⟩ := K.c2 x4 (w.heap.size) (.int .i64 a.1) (.int .i64 a.2) (by go_simp); have z4_0 : w.heap.size < w4.heap.size := World.block_lt_of_cell? w4 _ c4_0_0; have d4_0 : ¬ (w.heap.size = w4.heap.size) := (by omega); have e4_0 : ¬ (w4.heap.size = w.heap.size) := (by omega); obtain ⟨c4_1_0, c4_1_1⟩ := K.c2 x4 (w.heap.size + 1) (.int .i64 0) (.int .i64 0) (by go_simp); obtain ⟨f4_1_0, f4_1_1⟩ := K.f2 x4 (w.heap.size + 1) (by go_simp); have z4_1 : w.heap.size + 1 < w4.heap.size := World.block_lt_of_cell? w4 _ c4_1_0; have d4_1 : ¬ (w.heap.size + 1 = w4.heap.size) := (by omega); have e4_1 : ¬ (w4.heap.size = w.heap.size + 1) := (by omega); obtain ⟨c4_2_0, c4_2_1⟩ := K.c2 x4 (w.heap.size + 1 + 1) (.int .i64 0) (.int .i64 0) (by go_simp); obtain ⟨f4_2_0, f4_2_1⟩ := K.f2 x4 (w.heap.size + 1 + 1) (by go_simp); have z4_2 : w.heap.size + 1 + 1 < w4.heap.size := World.block_lt_of_cell? w4 _ c4_2_0; have d4_2 : ¬ (w.heap.size + 1 + 1 = w4.heap.size) := (by omega); have e4_2 : ¬ (w4.heap.size = w.heap.size + 1 + 1) := (by omega); obtain ⟨c4_3_0, c4_3_1⟩ := K.c2 x4 (g3_6) (.int .i64 f.1) (.int .i64 f.2) (by go_simp); obtain ⟨f4_3_0, f4_3_1⟩ := K.f2 x4 (g3_6) (by go_simp); have z4_3 : g3_6 < w4.heap.size := World.block_lt_of_cell? w4 _ c4_3_0; have d4_3 : ¬ (g3_6 = w4.heap.size) := (by omega); have e4_3 : ¬ (w4.heap.size = g3_6) := (by omega); have n3_0 : ¬ (g3_6 = w.heap.size) := (by omega); have n0_3 : ¬ (w.heap.size = g3_6) := (by omega); have n3_1 : ¬ (g3_6 = w.heap.size + 1) := (by omega); have n1_3 : ¬ (w.heap.size + 1 = g3_6) := (by omega); have n3_2 : ¬ (g3_6 = w.heap.size + 1 + 1) := (by omega); have n2_3 : ¬ (w.heap.size + 1 + 1 = g3_6) := (by omega); obtain ⟨c4_4_0, c4_4_1⟩ := K.c2 x4 (g3_7) (.int .i64 g.1) (.int .i64 g.2) (by go_simp); obtain ⟨f4_4_0, f4_4_1⟩ := K.f2 x4 (g3_7) (by go_simp); have z4_4 : g3_7 < w4.heap.size := World.block_lt_of_cell? w4 _ c4_4_0; have d4_4 : ¬ (g3_7 = w4.heap.size) := (by omega); have e4_4 : ¬ (w4.heap.size = g3_7) := (by omega); have n4_0 : ¬ (g3_7 = w.heap.size) := (by omega); have n0_4 : ¬ (w.heap.size = g3_7) := (by omega); have n4_1 : ¬ (g3_7 = w.heap.size + 1) := (by omega); have n1_4 : ¬ (w.heap.size + 1 = g3_7) := (by omega); have n4_2 : ¬ (g3_7 = w.heap.size + 1 + 1) := (by omega); have n2_4 : ¬ (w.heap.size + 1 + 1 = g3_7) := (by omega); have n4_3 : ¬ (g3_7 = g3_6) := (by omega); have n3_4 : ¬ (g3_6 = g3_7) := (by omega); clear c3_0_0 c3_0_1 z3_0 d3_0 e3_0 c3_1_0 c3_1_1 f3_1_0 f3_1_1 z3_1 d3_1 e3_1 c3_2_0 c3_2_1 f3_2_0 f3_2_1 z3_2 d3_2 e3_2)
    go_wp2_with (go_at_call 145; refine K.call (by with_reducible rfl) (by with_reducible rfl) (HIg _) ?_; rintro e w5 ⟨rfl, x5⟩; have s5 : w4.heap.size ≤ w5.heap.size := (by have h_ := x5.size; (try simp at h_); omega); have X5 := K.Ext.trans (X4) x5; obtain ⟨c5_0_0, c5_0_1⟩ := K.c2 x5 (w.heap.size) (.int .i64 a.1) (.int .i64 a.2) (by go_simp); have z5_0 : w.heap.size < w5.heap.size := World.block_lt_of_cell? w5 _ c5_0_0; have d5_0 : ¬ (w.heap.size = w5.heap.size) := (by omega); have e5_0 : ¬ (w5.heap.size = w.heap.size) := (by omega); obtain ⟨c5_1_0, c5_1_1⟩ := K.c2 x5 (w.heap.size + 1) (.int .i64 0) (.int .i64 0) (by go_simp); obtain ⟨f5_1_0, f5_1_1⟩ := K.f2 x5 (w.heap.size + 1) (by go_simp); have z5_1 : w.heap.size + 1 < w5.heap.size := World.block_lt_of_cell? w5 _ c5_1_0; have d5_1 : ¬ (w.heap.size + 1 = w5.heap.size) := (by omega); have e5_1 : ¬ (w5.heap.size = w.heap.size + 1) := (by omega); obtain ⟨c5_2_0, c5_2_1⟩ := K.c2 x5 (w.heap.size + 1 + 1) (.int .i64 0) (.int .i64 0) (by go_simp); obtain ⟨f5_2_0, f5_2_1⟩ := K.f2 x5 (w.heap.size + 1 + 1) (by go_simp); have z5_2 : w.heap.size + 1 + 1 < w5.heap.size := World.block_lt_of_cell? w5 _ c5_2_0; have d5_2 : ¬ (w.heap.size + 1 + 1 = w5.heap.size) := (by omega); have e5_2 : ¬ (w5.heap.size = w.heap.size + 1 + 1) := (by omega); obtain ⟨c5_3_0, c5_3_1⟩ := K.c2 x5 (g3_6) (.int .i64 f.1) (.int .i64 f.2) (by go_simp); obtain ⟨f5_3_0, f5_3_1⟩ := K.f2 x5 (g3_6) (by go_simp); have z5_3 : g3_6 < w5.heap.size := World.block_lt_of_cell? w5 _ c5_3_0; have d5_3 : ¬ (g3_6 = w5.heap.size) := (by omega); have e5_3 : ¬ (w5.heap.size = g3_6) := (by omega); obtain ⟨c5_4_0, c5_4_1⟩ := K.c2 x5 (g3_7) (.int .i64 g.1) (.int .i64 g.2) (by go_simp); obtain ⟨f5_4_0, f5_4_1⟩ := K.f2 x5 (g3_7) (by go_simp); have z5_4 : g3_7 < w5.heap.size := World.block_lt_of_cell? w5 _ c5_4_0; have d5_4 : ¬ (g3_7 = w5.heap.size) := (by omega); have e5_4 : ¬ (w5.heap.size = g3_7) := (by omega); clear c4_0_0 c4_0_1 z4_0 d4_0 e4_0 c4_1_0 c4_1_1 f4_1_0 f4_1_1 z4_1 d4_1 e4_1 c4_2_0 c4_2_1 f4_2_0 f4_2_1 z4_2 d4_2 e4_2 c4_3_0 c4_3_1 f4_3_0 f4_3_1 z4_3 d4_3 e4_3 c4_4_0 c4_4_1 f4_4_0 f4_4_1 z4_4 d4_4 e4_4)
    rw [HE.out]
    refine bodyPost_ret (v := .tuple #[.agg #[.int .i64 0, .int .i64 0], .agg #[.int .i64 0, .int .i64 0], .int .i64 4]) (by unfold results; rw [Try.results129]; go_simp) rfl ⟨rfl, ?_⟩
    repeat with_reducible refine K.Ext.setCell ?_ (by dsimp only; omega) _
    exact (by repeat' (first | with_reducible exact X5 | with_reducible refine K.Ext.setCell ?_ ?_ _ | with_reducible refine K.Ext.alloc ?_ _ | with_reducible refine K.Ext.drew ?_ | (dsimp only; omega) | omega | (simp; omega)))
  · have HE : Hid (S = (f, g, 0)) := Z.hide (by rw [← hS.out, HS.out, vf, vg]; rfl)
    have HIf : ∀ w : World, Calls Try.prog 145 #[.agg #[.int .i64 f.1, .int .i64 f.2]] w fun e w' => e = .returned (.bool true) ∧ K.Ext w w' := fun w => by rw [← vf]; exact spec_IsFigure f.1 f.2 w
    have HIg : ∀ w : World, Calls Try.prog 145 #[.agg #[.int .i64 g.1, .int .i64 g.2]] w fun e w' => e = .returned (.bool true) ∧ K.Ext w w' := fun w => by rw [← vg]; exact spec_IsFigure g.1 g.2 w
    clear vf vg HS
    have X0 : K.Ext w w := K.Ext.refl w
    go_enter Try.func129, Try.ntmps129
    go_wp2_with (go_at_call 179; refine K.call (by with_reducible rfl) (by with_reducible rfl) (HU1 _) ?_; rintro e w1 ⟨rfl, x1⟩; have s1 : w.heap.size + 3 ≤ w1.heap.size := (by have h_ := x1.size; (try simp at h_); omega); have X1 : K.Ext w w1 := K.Ext.trans (by repeat' (first | with_reducible exact X0 | with_reducible refine K.Ext.setCell ?_ ?_ _ | with_reducible refine K.Ext.alloc ?_ _ | with_reducible refine K.Ext.drew ?_ | (dsimp only; omega) | omega | (simp; omega))) x1; obtain ⟨c1_0_0, c1_0_1⟩ := K.c2 x1 (w.heap.size) (.int .i64 a.1) (.int .i64 a.2) (by go_simp); have z1_0 : w.heap.size < w1.heap.size := World.block_lt_of_cell? w1 _ c1_0_0; have d1_0 : ¬ (w.heap.size = w1.heap.size) := (by omega); have e1_0 : ¬ (w1.heap.size = w.heap.size) := (by omega); obtain ⟨c1_1_0, c1_1_1⟩ := K.c2 x1 (w.heap.size + 1) (.int .i64 0) (.int .i64 0) (by go_simp); obtain ⟨f1_1_0, f1_1_1⟩ := K.f2 x1 (w.heap.size + 1) (by go_simp); have z1_1 : w.heap.size + 1 < w1.heap.size := World.block_lt_of_cell? w1 _ c1_1_0; have d1_1 : ¬ (w.heap.size + 1 = w1.heap.size) := (by omega); have e1_1 : ¬ (w1.heap.size = w.heap.size + 1) := (by omega); have n1_0 : ¬ (w.heap.size + 1 = w.heap.size) := (by omega); have n0_1 : ¬ (w.heap.size = w.heap.size + 1) := (by omega); obtain ⟨c1_2_0, c1_2_1⟩ := K.c2 x1 (w.heap.size + 1 + 1) (.int .i64 0) (.int .i64 0) (by go_simp); obtain ⟨f1_2_0, f1_2_1⟩ := K.f2 x1 (w.heap.size + 1 + 1) (by go_simp); have z1_2 : w.heap.size + 1 + 1 < w1.heap.size := World.block_lt_of_cell? w1 _ c1_2_0; have d1_2 : ¬ (w.heap.size + 1 + 1 = w1.heap.size) := (by omega); have e1_2 : ¬ (w1.heap.size = w.heap.size + 1 + 1) := (by omega); have n2_0 : ¬ (w.heap.size + 1 + 1 = w.heap.size) := (by omega); have n0_2 : ¬ (w.heap.size = w.heap.size + 1 + 1) := (by omega); have n2_1 : ¬ (w.heap.size + 1 + 1 = w.heap.size + 1) := (by omega); have n1_2 : ¬ (w.heap.size + 1 = w.heap.size + 1 + 1) := (by omega))
    go_wp2_with (go_at_call 179; refine K.call (by with_reducible rfl) (by with_reducible rfl) (HU2 _) ?_; rintro e w2 ⟨rfl, x2⟩; have s2 : w1.heap.size ≤ w2.heap.size := (by have h_ := x2.size; (try simp at h_); omega); have X2 := K.Ext.trans (X1) x2; obtain ⟨c2_0_0, c2_0_1⟩ := K.c2 x2 (w.heap.size) (.int .i64 a.1) (.int .i64 a.2) (by go_simp); have z2_0 : w.heap.size < w2.heap.size := World.block_lt_of_cell? w2 _ c2_0_0; have d2_0 : ¬ (w.heap.size = w2.heap.size) := (by omega); have e2_0 : ¬ (w2.heap.size = w.heap.size) := (by omega); obtain ⟨c2_1_0, c2_1_1⟩ := K.c2 x2 (w.heap.size + 1) (.int .i64 0) (.int .i64 0) (by go_simp); obtain ⟨f2_1_0, f2_1_1⟩ := K.f2 x2 (w.heap.size + 1) (by go_simp); have z2_1 : w.heap.size + 1 < w2.heap.size := World.block_lt_of_cell? w2 _ c2_1_0; have d2_1 : ¬ (w.heap.size + 1 = w2.heap.size) := (by omega); have e2_1 : ¬ (w2.heap.size = w.heap.size + 1) := (by omega); obtain ⟨c2_2_0, c2_2_1⟩ := K.c2 x2 (w.heap.size + 1 + 1) (.int .i64 0) (.int .i64 0) (by go_simp); obtain ⟨f2_2_0, f2_2_1⟩ := K.f2 x2 (w.heap.size + 1 + 1) (by go_simp); have z2_2 : w.heap.size + 1 + 1 < w2.heap.size := World.block_lt_of_cell? w2 _ c2_2_0; have d2_2 : ¬ (w.heap.size + 1 + 1 = w2.heap.size) := (by omega); have e2_2 : ¬ (w2.heap.size = w.heap.size + 1 + 1) := (by omega); clear c1_0_0 c1_0_1 z1_0 d1_0 e1_0 c1_1_0 c1_1_1 f1_1_0 f1_1_1 z1_1 d1_1 e1_1 c1_2_0 c1_2_1 f1_2_0 f1_2_1 z1_2 d1_2 e1_2)
    go_wp2_with fail
    refine K.wp_region_y (R := K.RE) 8 [0, 1, 2, 0, 1, 2, 2, 2] [K.SQ.any, K.SQ.any, K.SQ.is (.agg #[.int .i64 f.1, .int .i64 f.2]), K.SQ.any, K.SQ.any, K.SQ.is (.agg #[.int .i64 g.1, .int .i64 g.2]), K.SQ.new (w2.heap.size) (Nat.zero_le _) (.cells #[.int .i64 0, .int .i64 0] 30), K.SQ.new (w2.heap.size) (Nat.zero_le _) (.cells #[.int .i64 0, .int .i64 0] 30)] (by kernel_rfl) (by kernel_rfl) ?_
    simp only [List.take_succ_cons, List.take_zero, List.drop_succ_cons, List.drop_zero]
    apply K.y_pure
    · rfl
    · rfl
    · intro w'; go_simp; first | done | exact K.vint (IntWalk.i64_in _ (by omega)) | rfl | exact ⟨rfl, rfl⟩
    simp only [Act.put, List.setIfInBounds_toArray, List.set]
    apply K.y_held
    · rfl
    · rfl
    · intro w' hx; have hx : K.Ext _ _ := hx; have hc := hx.all.1.1; have hf := hx.all.1.2; have hc' := hx.all.2.1; have hf' := hx.all.2.2; go_simp; first | done | rfl | exact ⟨rfl, rfl⟩
    simp only [Act.put, List.setIfInBounds_toArray, List.set]
    apply K.y_call_is
    · rfl
    · rfl
    · rfl
    · intro w'; go_simp; first | done | rfl | exact ⟨rfl, rfl⟩
    · intro w' hx hp; have hx : K.Ext _ _ := hx; have hc := hx.all.1.1; have hf := hx.all.1.2; have hc' := hx.all.2.1; have hf' := hx.all.2.2; exact HB _
    intro w_2_ hx_2_
    replace hx_2_ : K.Ext _ _ := hx_2_
    simp only [Act.put, List.setIfInBounds_toArray, List.set]
    apply K.y_pure
    · rfl
    · rfl
    · intro w'; go_simp; first | done | exact K.vint (IntWalk.i64_in _ (by omega)) | rfl | exact ⟨rfl, rfl⟩
    simp only [Act.put, List.setIfInBounds_toArray, List.set]
    apply K.y_held
    · rfl
    · rfl
    · intro w' hx; have hx : K.Ext _ _ := hx; have hc := hx.all.1.1; have hf := hx.all.1.2; have hc' := hx.all.2.1; have hf' := hx.all.2.2; go_simp; first | done | rfl | exact ⟨rfl, rfl⟩
    simp only [Act.put, List.setIfInBounds_toArray, List.set]
    apply K.y_call_is
    · rfl
    · rfl
    · rfl
    · intro w'; go_simp; first | done | rfl | exact ⟨rfl, rfl⟩
    · intro w' hx hp; have hx : K.Ext _ _ := hx; have hc := hx.all.1.1; have hf := hx.all.1.2; have hc' := hx.all.2.1; have hf' := hx.all.2.2; exact HC _
    intro w_5_ hx_5_
    replace hx_5_ : K.Ext _ _ := hx_5_
    simp only [Act.put, List.setIfInBounds_toArray, List.set]
    apply K.y_new (Nat.zero_le _)
    · rfl
    · rfl
    · rfl
    · go_simp; first | done | omega
    · intro w'; go_simp; first | done | rfl | exact ⟨rfl, rfl⟩
    intro g3_6 w_6_ hx_6_ hg3_6 hb_6_ hn_6_
    replace hx_6_ : K.Ext _ _ := hx_6_
    clear hn_6_
    simp only [Act.put, List.setIfInBounds_toArray, List.set]
    apply K.y_new (Nat.zero_le _)
    · rfl
    · rfl
    · rfl
    · go_simp; first | done | omega
    · intro w'; go_simp; first | done | rfl | exact ⟨rfl, rfl⟩
    intro g3_7 w_7_ hx_7_ hg3_7 hb_7_ hn_7_
    replace hx_7_ : K.Ext _ _ := hx_7_
    have ne3_6_7 : ¬ (g3_6 = g3_7) := K.blk_ptr (hn_7_ 6 _ (by decide) rfl rfl rfl)
    have ne3_7_6 : ¬ (g3_7 = g3_6) := fun e => ne3_6_7 e.symm
    clear hn_7_
    simp only [Act.put, List.setIfInBounds_toArray, List.set]
    apply K.y_done
    intro w3 h_x
    replace h_x : K.Ext _ _ := h_x
    have x3 := hx_2_.trans (hx_5_.trans (hx_6_.trans (hx_7_.trans h_x)))
    have hb3_6 := K.Ext.block (hx_7_.trans h_x) hb_6_
    have cg3_6_0 : w3.cell? ⟨g3_6, 0, none⟩ = some (.int .i64 0) := K.cell_at hb3_6 rfl
    have fg3_6_0 : w3.frozen? ⟨g3_6, 0, none⟩ = false := K.thaw_at hb3_6
    have cg3_6_1 : w3.cell? ⟨g3_6, 1, none⟩ = some (.int .i64 0) := K.cell_at hb3_6 rfl
    have fg3_6_1 : w3.frozen? ⟨g3_6, 1, none⟩ = false := K.thaw_at hb3_6
    have hb3_7 := K.Ext.block (h_x) hb_7_
    have cg3_7_0 : w3.cell? ⟨g3_7, 0, none⟩ = some (.int .i64 0) := K.cell_at hb3_7 rfl
    have fg3_7_0 : w3.frozen? ⟨g3_7, 0, none⟩ = false := K.thaw_at hb3_7
    have cg3_7_1 : w3.cell? ⟨g3_7, 1, none⟩ = some (.int .i64 0) := K.cell_at hb3_7 rfl
    have fg3_7_1 : w3.frozen? ⟨g3_7, 1, none⟩ = false := K.thaw_at hb3_7
    clear h_x hx_2_ hx_5_ hx_6_ hx_7_
    obtain ⟨⟨hcw3, hfw3⟩, hc'w3, hf'w3⟩ := x3.all
    have s3 : w2.heap.size ≤ w3.heap.size := (by have h_ := x3.size; (try simp at h_); omega)
    have X3 := K.Ext.trans (K.Ext.drew (X2)) x3
    obtain ⟨c3_0_0, c3_0_1⟩ := K.c2 x3 (w.heap.size) (.int .i64 a.1) (.int .i64 a.2) (by go_simp)
    have z3_0 : w.heap.size < w3.heap.size := World.block_lt_of_cell? w3 _ c3_0_0
    have d3_0 : ¬ (w.heap.size = w3.heap.size) := (by omega)
    have e3_0 : ¬ (w3.heap.size = w.heap.size) := (by omega)
    obtain ⟨c3_1_0, c3_1_1⟩ := K.c2 x3 (w.heap.size + 1) (.int .i64 0) (.int .i64 0) (by go_simp)
    obtain ⟨f3_1_0, f3_1_1⟩ := K.f2 x3 (w.heap.size + 1) (by go_simp)
    have z3_1 : w.heap.size + 1 < w3.heap.size := World.block_lt_of_cell? w3 _ c3_1_0
    have d3_1 : ¬ (w.heap.size + 1 = w3.heap.size) := (by omega)
    have e3_1 : ¬ (w3.heap.size = w.heap.size + 1) := (by omega)
    obtain ⟨c3_2_0, c3_2_1⟩ := K.c2 x3 (w.heap.size + 1 + 1) (.int .i64 0) (.int .i64 0) (by go_simp)
    obtain ⟨f3_2_0, f3_2_1⟩ := K.f2 x3 (w.heap.size + 1 + 1) (by go_simp)
    have z3_2 : w.heap.size + 1 + 1 < w3.heap.size := World.block_lt_of_cell? w3 _ c3_2_0
    have d3_2 : ¬ (w.heap.size + 1 + 1 = w3.heap.size) := (by omega)
    have e3_2 : ¬ (w3.heap.size = w.heap.size + 1 + 1) := (by omega)
    clear c2_0_0 c2_0_1 z2_0 d2_0 e2_0 c2_1_0 c2_1_1 f2_1_0 f2_1_1 z2_1 d2_1 e2_1 c2_2_0 c2_2_1 f2_2_0 f2_2_1 z2_2 d2_2 e2_2
    have nng3_6_0 : ¬ (g3_6 = w.heap.size) := (by omega)
    have nmg3_6_0 : ¬ (w.heap.size = g3_6) := (by omega)
    have nng3_6_1 : ¬ (g3_6 = w.heap.size + 1) := (by omega)
    have nmg3_6_1 : ¬ (w.heap.size + 1 = g3_6) := (by omega)
    have nng3_6_2 : ¬ (g3_6 = w.heap.size + 1 + 1) := (by omega)
    have nmg3_6_2 : ¬ (w.heap.size + 1 + 1 = g3_6) := (by omega)
    have nng3_7_0 : ¬ (g3_7 = w.heap.size) := (by omega)
    have nmg3_7_0 : ¬ (w.heap.size = g3_7) := (by omega)
    have nng3_7_1 : ¬ (g3_7 = w.heap.size + 1) := (by omega)
    have nmg3_7_1 : ¬ (w.heap.size + 1 = g3_7) := (by omega)
    have nng3_7_2 : ¬ (g3_7 = w.heap.size + 1 + 1) := (by omega)
    have nmg3_7_2 : ¬ (w.heap.size + 1 + 1 = g3_7) := (by omega)
    go_wp2_with fail
    refine NoPanic.normal ?_
    go_wp2_with (go_at_call 145; refine K.call (by with_reducible rfl) (by with_reducible rfl) (HIf _) ?_; rintro e w4 ⟨rfl, x4⟩; have s4 : w3.heap.size ≤ w4.heap.size := (by have h_ := x4.size; (try simp at h_); omega); have X4 : K.Ext w w4 := K.Ext.trans (by repeat' (first | with_reducible exact X3 | with_reducible refine K.Ext.setCell ?_ ?_ _ | with_reducible refine K.Ext.alloc ?_ _ | with_reducible refine K.Ext.drew ?_ | (dsimp only; omega) | omega | (simp; omega))) x4; obtain ⟨c4_0_0, c4_0_1⟩ := K.c2 x4 (w.heap.size) (.int .i64 a.1) (.int .i64 a.2) (by go_simp); have z4_0 : w.heap.size < w4.heap.size := World.block_lt_of_cell? w4 _ c4_0_0; have d4_0 : ¬ (w.heap.size = w4.heap.size) := (by omega); have e4_0 : ¬ (w4.heap.size = w.heap.size) := (by omega); obtain ⟨c4_1_0, c4_1_1⟩ := K.c2 x4 (w.heap.size + 1) (.int .i64 0) (.int .i64 0) (by go_simp); obtain ⟨f4_1_0, f4_1_1⟩ := K.f2 x4 (w.heap.size + 1) (by go_simp); have z4_1 : w.heap.size + 1 < w4.heap.size := World.block_lt_of_cell? w4 _ c4_1_0; have d4_1 : ¬ (w.heap.size + 1 = w4.heap.size) := (by omega); have e4_1 : ¬ (w4.heap.size = w.heap.size + 1) := (by omega); obtain ⟨c4_2_0, c4_2_1⟩ := K.c2 x4 (w.heap.size + 1 + 1) (.int .i64 0) (.int .i64 0) (by go_simp); obtain ⟨f4_2_0, f4_2_1⟩ := K.f2 x4 (w.heap.size + 1 + 1) (by go_simp); have z4_2 : w.heap.size + 1 + 1 < w4.heap.size := World.block_lt_of_cell? w4 _ c4_2_0; have d4_2 : ¬ (w.heap.size + 1 + 1 = w4.heap.size) := (by omega); have e4_2 : ¬ (w4.heap.size = w.heap.size + 1 + 1) := (by omega); obtain ⟨c4_3_0, c4_3_1⟩ := K.c2 x4 (g3_6) (.int .i64 f.1) (.int .i64 f.2) (by go_simp); obtain ⟨f4_3_0, f4_3_1⟩ := K.f2 x4 (g3_6) (by go_simp); have z4_3 : g3_6 < w4.heap.size := World.block_lt_of_cell? w4 _ c4_3_0; have d4_3 : ¬ (g3_6 = w4.heap.size) := (by omega); have e4_3 : ¬ (w4.heap.size = g3_6) := (by omega); have n3_0 : ¬ (g3_6 = w.heap.size) := (by omega); have n0_3 : ¬ (w.heap.size = g3_6) := (by omega); have n3_1 : ¬ (g3_6 = w.heap.size + 1) := (by omega); have n1_3 : ¬ (w.heap.size + 1 = g3_6) := (by omega); have n3_2 : ¬ (g3_6 = w.heap.size + 1 + 1) := (by omega); have n2_3 : ¬ (w.heap.size + 1 + 1 = g3_6) := (by omega); obtain ⟨c4_4_0, c4_4_1⟩ := K.c2 x4 (g3_7) (.int .i64 g.1) (.int .i64 g.2) (by go_simp); obtain ⟨f4_4_0, f4_4_1⟩ := K.f2 x4 (g3_7) (by go_simp); have z4_4 : g3_7 < w4.heap.size := World.block_lt_of_cell? w4 _ c4_4_0; have d4_4 : ¬ (g3_7 = w4.heap.size) := (by omega); have e4_4 : ¬ (w4.heap.size = g3_7) := (by omega); have n4_0 : ¬ (g3_7 = w.heap.size) := (by omega); have n0_4 : ¬ (w.heap.size = g3_7) := (by omega); have n4_1 : ¬ (g3_7 = w.heap.size + 1) := (by omega); have n1_4 : ¬ (w.heap.size + 1 = g3_7) := (by omega); have n4_2 : ¬ (g3_7 = w.heap.size + 1 + 1) := (by omega); have n2_4 : ¬ (w.heap.size + 1 + 1 = g3_7) := (by omega); have n4_3 : ¬ (g3_7 = g3_6) := (by omega); have n3_4 : ¬ (g3_6 = g3_7) := (by omega); clear c3_0_0 c3_0_1 z3_0 d3_0 e3_0 c3_1_0 c3_1_1 f3_1_0 f3_1_1 z3_1 d3_1 e3_1 c3_2_0 c3_2_1 f3_2_0 f3_2_1 z3_2 d3_2 e3_2)
    go_wp2_with (go_at_call 145; refine K.call (by with_reducible rfl) (by with_reducible rfl) (HIg _) ?_; rintro e w5 ⟨rfl, x5⟩; have s5 : w4.heap.size ≤ w5.heap.size := (by have h_ := x5.size; (try simp at h_); omega); have X5 := K.Ext.trans (X4) x5; obtain ⟨c5_0_0, c5_0_1⟩ := K.c2 x5 (w.heap.size) (.int .i64 a.1) (.int .i64 a.2) (by go_simp); have z5_0 : w.heap.size < w5.heap.size := World.block_lt_of_cell? w5 _ c5_0_0; have d5_0 : ¬ (w.heap.size = w5.heap.size) := (by omega); have e5_0 : ¬ (w5.heap.size = w.heap.size) := (by omega); obtain ⟨c5_1_0, c5_1_1⟩ := K.c2 x5 (w.heap.size + 1) (.int .i64 0) (.int .i64 0) (by go_simp); obtain ⟨f5_1_0, f5_1_1⟩ := K.f2 x5 (w.heap.size + 1) (by go_simp); have z5_1 : w.heap.size + 1 < w5.heap.size := World.block_lt_of_cell? w5 _ c5_1_0; have d5_1 : ¬ (w.heap.size + 1 = w5.heap.size) := (by omega); have e5_1 : ¬ (w5.heap.size = w.heap.size + 1) := (by omega); obtain ⟨c5_2_0, c5_2_1⟩ := K.c2 x5 (w.heap.size + 1 + 1) (.int .i64 0) (.int .i64 0) (by go_simp); obtain ⟨f5_2_0, f5_2_1⟩ := K.f2 x5 (w.heap.size + 1 + 1) (by go_simp); have z5_2 : w.heap.size + 1 + 1 < w5.heap.size := World.block_lt_of_cell? w5 _ c5_2_0; have d5_2 : ¬ (w.heap.size + 1 + 1 = w5.heap.size) := (by omega); have e5_2 : ¬ (w5.heap.size = w.heap.size + 1 + 1) := (by omega); obtain ⟨c5_3_0, c5_3_1⟩ := K.c2 x5 (g3_6) (.int .i64 f.1) (.int .i64 f.2) (by go_simp); obtain ⟨f5_3_0, f5_3_1⟩ := K.f2 x5 (g3_6) (by go_simp); have z5_3 : g3_6 < w5.heap.size := World.block_lt_of_cell? w5 _ c5_3_0; have d5_3 : ¬ (g3_6 = w5.heap.size) := (by omega); have e5_3 : ¬ (w5.heap.size = g3_6) := (by omega); obtain ⟨c5_4_0, c5_4_1⟩ := K.c2 x5 (g3_7) (.int .i64 g.1) (.int .i64 g.2) (by go_simp); obtain ⟨f5_4_0, f5_4_1⟩ := K.f2 x5 (g3_7) (by go_simp); have z5_4 : g3_7 < w5.heap.size := World.block_lt_of_cell? w5 _ c5_4_0; have d5_4 : ¬ (g3_7 = w5.heap.size) := (by omega); have e5_4 : ¬ (w5.heap.size = g3_7) := (by omega); clear c4_0_0 c4_0_1 z4_0 d4_0 e4_0 c4_1_0 c4_1_1 f4_1_0 f4_1_1 z4_1 d4_1 e4_1 c4_2_0 c4_2_1 f4_2_0 f4_2_1 z4_2 d4_2 e4_2 c4_3_0 c4_3_1 f4_3_0 f4_3_1 z4_3 d4_3 e4_3 c4_4_0 c4_4_1 f4_4_0 f4_4_1 z4_4 d4_4 e4_4)
    go_region
    all_goals
      go_wp2_with fail
      rw [HE.out]
      refine bodyPost_ret (v := .tuple #[.agg #[.int .i64 f.1, .int .i64 f.2], .agg #[.int .i64 g.1, .int .i64 g.2], .int .i64 0]) (by unfold results; rw [Try.results129]; go_simp) rfl ⟨rfl, ?_⟩
      repeat with_reducible refine K.Ext.setCell ?_ (by dsimp only; omega) _
      exact (by repeat' (first | with_reducible exact X5 | with_reducible refine K.Ext.setCell ?_ ?_ _ | with_reducible refine K.Ext.alloc ?_ _ | with_reducible refine K.Ext.drew ?_ | (dsimp only; omega) | omega | (simp; omega)))
set_option maxHeartbeats 6400000 in
theorem spec_FormulaSpan (F : Z.Fm) (vs : List (Int × Int)) {loF hiF : Nat} {pF : Value} {lovs hivs : Nat} {pvs : Value} (w : World)  (hmF : F.pw.length ≤ 1048576) (hnF : F.nm.size ≤ 1048576) (hF : K.ints w loF hiF pF F.pw) (hmvs : vs.length ≤ 1048576) (hvs : K.recs false K.FgR w lovs hivs pvs vs) :
    Calls Try.prog 52 #[.agg #[.int .i64 F.dg, .int .i64 F.tn, .string F.nm, pF], pvs] w fun e w' => e = .returned (.tuple #[.agg #[.int .i64 ((Z.FormulaSpan F vs).1).1, .int .i64 ((Z.FormulaSpan F vs).1).2], .agg #[.int .i64 ((Z.FormulaSpan F vs).2.1).1, .int .i64 ((Z.FormulaSpan F vs).2.1).2], .int .i64 ((Z.FormulaSpan F vs).2.2)]) ∧ K.Ext w w' := by
  have hF_ := hF
  have shF := hF
  obtain ⟨oF, cF, rfl, _⟩ := shF
  have hvs_ := hvs
  have shvs := hvs
  obtain ⟨ovs, cvs, rfl, _⟩ := shvs
  cases vF : Z.isFormula F
  · have HE : Hid (Z.FormulaSpan F vs = ((0, 0), (0, 0), 1)) := Z.hide (by unfold Z.FormulaSpan Z.isValued; rw [vF]; rfl)
    have HF : ∀ {a b : Nat} {p : Value} (w : World), K.ints w a b p F.pw → Calls Try.prog 91 #[.agg #[.int .i64 F.dg, .int .i64 F.tn, .string F.nm, p]] w fun e w' => e = .returned (.bool false) ∧ K.Ext w w' := fun w h => by rw [← vF]; exact spec_IsFormula F w hmF hnF h
    clear vF
    have X0 : K.Ext w w := K.Ext.refl w
    go_enter Try.func52, Try.ntmps52
    go_wp2_with (go_at_call 91; refine K.call (by with_reducible rfl) (by with_reducible rfl) (HF _ (K.ints.alloc (K.ints.alloc (K.ints.alloc hF_ _) _) _)) ?_; rintro e w1 ⟨rfl, x1⟩; have s1 : w.heap.size + 3 ≤ w1.heap.size := (by have h_ := x1.size; (try simp at h_); omega); have X1 := K.Ext.trans (K.Ext.alloc (K.Ext.alloc (K.Ext.alloc X0 _) _) _) x1; obtain ⟨c1_0_0, c1_0_1, c1_0_2, c1_0_3⟩ := K.c4 x1 (w.heap.size) (.int .i64 F.dg) (.int .i64 F.tn) (.string F.nm) (.slice oF F.pw.length cF) (by go_simp); have z1_0 : w.heap.size < w1.heap.size := World.block_lt_of_cell? w1 _ c1_0_0; have d1_0 : ¬ (w.heap.size = w1.heap.size) := (by omega); have e1_0 : ¬ (w1.heap.size = w.heap.size) := (by omega); obtain ⟨c1_1_0, c1_1_1⟩ := K.c2 x1 (w.heap.size + 1) (.int .i64 0) (.int .i64 0) (by go_simp); obtain ⟨f1_1_0, f1_1_1⟩ := K.f2 x1 (w.heap.size + 1) (by go_simp); have z1_1 : w.heap.size + 1 < w1.heap.size := World.block_lt_of_cell? w1 _ c1_1_0; have d1_1 : ¬ (w.heap.size + 1 = w1.heap.size) := (by omega); have e1_1 : ¬ (w1.heap.size = w.heap.size + 1) := (by omega); have n1_0 : ¬ (w.heap.size + 1 = w.heap.size) := (by omega); have n0_1 : ¬ (w.heap.size = w.heap.size + 1) := (by omega); obtain ⟨c1_2_0, c1_2_1⟩ := K.c2 x1 (w.heap.size + 1 + 1) (.int .i64 0) (.int .i64 0) (by go_simp); obtain ⟨f1_2_0, f1_2_1⟩ := K.f2 x1 (w.heap.size + 1 + 1) (by go_simp); have z1_2 : w.heap.size + 1 + 1 < w1.heap.size := World.block_lt_of_cell? w1 _ c1_2_0; have d1_2 : ¬ (w.heap.size + 1 + 1 = w1.heap.size) := (by omega); have e1_2 : ¬ (w1.heap.size = w.heap.size + 1 + 1) := (by omega); have n2_0 : ¬ (w.heap.size + 1 + 1 = w.heap.size) := (by omega); have n0_2 : ¬ (w.heap.size = w.heap.size + 1 + 1) := (by omega); have n2_1 : ¬ (w.heap.size + 1 + 1 = w.heap.size + 1) := (by omega); have n1_2 : ¬ (w.heap.size + 1 = w.heap.size + 1 + 1) := (by omega); have F1_1 := K.ints.ext (K.ints.alloc (K.ints.alloc (K.ints.alloc hF_ _) _) _) x1; have F2_1 := K.recs.ext (K.recs.alloc (K.recs.alloc (K.recs.alloc hvs_ _) _) _) x1; clear hF_ hvs_)
    rw [HE.out]
    refine bodyPost_ret (v := .tuple #[.agg #[.int .i64 0, .int .i64 0], .agg #[.int .i64 0, .int .i64 0], .int .i64 1]) (by unfold results; rw [Try.results52]; go_simp) rfl ⟨rfl, ?_⟩
    repeat with_reducible refine K.Ext.setCell ?_ (by dsimp only; omega) _
    exact (by repeat' (first | with_reducible exact X1 | with_reducible refine K.Ext.setCell ?_ ?_ _ | with_reducible refine K.Ext.alloc ?_ _ | with_reducible refine K.Ext.drew ?_ | (dsimp only; omega) | omega | (simp; omega)))
  have HF : ∀ {a b : Nat} {p : Value} (w : World), K.ints w a b p F.pw → Calls Try.prog 91 #[.agg #[.int .i64 F.dg, .int .i64 F.tn, .string F.nm, p]] w fun e w' => e = .returned (.bool true) ∧ K.Ext w w' := fun w h => by rw [← vF]; exact spec_IsFormula F w hmF hnF h
  cases vL : (decide (vs.length = F.nm.size) && Z.areFigs vs)
  · have HE : Hid (Z.FormulaSpan F vs = ((0, 0), (0, 0), 1)) := Z.hide (by unfold Z.FormulaSpan Z.isValued; rw [Bool.and_assoc, vL, Bool.and_false]; rfl)
    have HV : ∀ {a b : Nat} {p v : Value} (w : World), K.recs false K.FgR w a b v vs → Calls Try.prog 126 #[.agg #[.int .i64 F.dg, .int .i64 F.tn, .string F.nm, p], v] w fun e w' => e = .returned (.bool false) ∧ K.Ext w w' := fun w h => by rw [← vL]; exact l18Values_any F vs w hnF hmvs h
    clear vF vL
    have X0 : K.Ext w w := K.Ext.refl w
    go_enter Try.func52, Try.ntmps52
    go_wp2_with (go_at_call 91; refine K.call (by with_reducible rfl) (by with_reducible rfl) (HF _ (show K.ints _ (loF) (hiF) (.slice oF F.pw.length cF) (F.pw) from by repeat' (first | with_reducible exact hF_ | with_reducible refine K.ints.set ?_ _ ?_ _ | with_reducible refine K.ints.alloc ?_ _ | with_reducible refine K.ints.drew ?_ | (dsimp only; omega) | omega | (simp; done) | (simp; omega)))) ?_; rintro e w1 ⟨rfl, x1⟩; have s1 : w.heap.size + 3 ≤ w1.heap.size := (by have h_ := x1.size; (try simp at h_); omega); have X1 : K.Ext w w1 := K.Ext.trans (by repeat' (first | with_reducible exact X0 | with_reducible refine K.Ext.setCell ?_ ?_ _ | with_reducible refine K.Ext.alloc ?_ _ | with_reducible refine K.Ext.drew ?_ | (dsimp only; omega) | omega | (simp; omega))) x1; obtain ⟨c1_0_0, c1_0_1, c1_0_2, c1_0_3⟩ := K.c4 x1 (w.heap.size) (.int .i64 F.dg) (.int .i64 F.tn) (.string F.nm) (.slice oF F.pw.length cF) (by go_simp); have z1_0 : w.heap.size < w1.heap.size := World.block_lt_of_cell? w1 _ c1_0_0; have d1_0 : ¬ (w.heap.size = w1.heap.size) := (by omega); have e1_0 : ¬ (w1.heap.size = w.heap.size) := (by omega); obtain ⟨c1_1_0, c1_1_1⟩ := K.c2 x1 (w.heap.size + 1) (.int .i64 0) (.int .i64 0) (by go_simp); obtain ⟨f1_1_0, f1_1_1⟩ := K.f2 x1 (w.heap.size + 1) (by go_simp); have z1_1 : w.heap.size + 1 < w1.heap.size := World.block_lt_of_cell? w1 _ c1_1_0; have d1_1 : ¬ (w.heap.size + 1 = w1.heap.size) := (by omega); have e1_1 : ¬ (w1.heap.size = w.heap.size + 1) := (by omega); have n1_0 : ¬ (w.heap.size + 1 = w.heap.size) := (by omega); have n0_1 : ¬ (w.heap.size = w.heap.size + 1) := (by omega); obtain ⟨c1_2_0, c1_2_1⟩ := K.c2 x1 (w.heap.size + 1 + 1) (.int .i64 0) (.int .i64 0) (by go_simp); obtain ⟨f1_2_0, f1_2_1⟩ := K.f2 x1 (w.heap.size + 1 + 1) (by go_simp); have z1_2 : w.heap.size + 1 + 1 < w1.heap.size := World.block_lt_of_cell? w1 _ c1_2_0; have d1_2 : ¬ (w.heap.size + 1 + 1 = w1.heap.size) := (by omega); have e1_2 : ¬ (w1.heap.size = w.heap.size + 1 + 1) := (by omega); have n2_0 : ¬ (w.heap.size + 1 + 1 = w.heap.size) := (by omega); have n0_2 : ¬ (w.heap.size = w.heap.size + 1 + 1) := (by omega); have n2_1 : ¬ (w.heap.size + 1 + 1 = w.heap.size + 1) := (by omega); have n1_2 : ¬ (w.heap.size + 1 = w.heap.size + 1 + 1) := (by omega); have F1_1 := K.ints.ext (show K.ints _ (loF) (hiF) (.slice oF F.pw.length cF) (F.pw) from by repeat' (first | with_reducible exact hF_ | with_reducible refine K.ints.set ?_ _ ?_ _ | with_reducible refine K.ints.alloc ?_ _ | with_reducible refine K.ints.drew ?_ | (dsimp only; omega) | omega | (simp; done) | (simp; omega))) x1; have F2_1 := K.recs.ext (show K.recs false K.FgR _ (lovs) (hivs) (.slice ovs vs.length cvs) (vs) from by repeat' (first | with_reducible exact hvs_ | with_reducible refine K.recs.set (by decide) ?_ _ ?_ _ | with_reducible refine K.recs.alloc ?_ _ | with_reducible refine K.recs.drew ?_ | (dsimp only; omega) | omega | (simp; done) | (simp; omega))) x1; clear hF_ hvs_)
    go_wp2_with (go_at_call 126; refine K.call (by with_reducible rfl) (by with_reducible rfl) (HV _ (F2_1)) ?_; rintro e w2 ⟨rfl, x2⟩; have s2 : w1.heap.size ≤ w2.heap.size := (by have h_ := x2.size; (try simp at h_); omega); have X2 := K.Ext.trans (X1) x2; obtain ⟨c2_0_0, c2_0_1, c2_0_2, c2_0_3⟩ := K.c4 x2 (w.heap.size) (.int .i64 F.dg) (.int .i64 F.tn) (.string F.nm) (.slice oF F.pw.length cF) (by go_simp); have z2_0 : w.heap.size < w2.heap.size := World.block_lt_of_cell? w2 _ c2_0_0; have d2_0 : ¬ (w.heap.size = w2.heap.size) := (by omega); have e2_0 : ¬ (w2.heap.size = w.heap.size) := (by omega); obtain ⟨c2_1_0, c2_1_1⟩ := K.c2 x2 (w.heap.size + 1) (.int .i64 0) (.int .i64 0) (by go_simp); obtain ⟨f2_1_0, f2_1_1⟩ := K.f2 x2 (w.heap.size + 1) (by go_simp); have z2_1 : w.heap.size + 1 < w2.heap.size := World.block_lt_of_cell? w2 _ c2_1_0; have d2_1 : ¬ (w.heap.size + 1 = w2.heap.size) := (by omega); have e2_1 : ¬ (w2.heap.size = w.heap.size + 1) := (by omega); obtain ⟨c2_2_0, c2_2_1⟩ := K.c2 x2 (w.heap.size + 1 + 1) (.int .i64 0) (.int .i64 0) (by go_simp); obtain ⟨f2_2_0, f2_2_1⟩ := K.f2 x2 (w.heap.size + 1 + 1) (by go_simp); have z2_2 : w.heap.size + 1 + 1 < w2.heap.size := World.block_lt_of_cell? w2 _ c2_2_0; have d2_2 : ¬ (w.heap.size + 1 + 1 = w2.heap.size) := (by omega); have e2_2 : ¬ (w2.heap.size = w.heap.size + 1 + 1) := (by omega); have F1_2 := K.ints.ext (F1_1) x2; have F2_2 := K.recs.ext (F2_1) x2; clear c1_0_0 c1_0_1 c1_0_2 c1_0_3 z1_0 d1_0 e1_0 c1_1_0 c1_1_1 f1_1_0 f1_1_1 z1_1 d1_1 e1_1 c1_2_0 c1_2_1 f1_2_0 f1_2_1 z1_2 d1_2 e1_2 F1_1 F2_1)
    rw [HE.out]
    refine bodyPost_ret (v := .tuple #[.agg #[.int .i64 0, .int .i64 0], .agg #[.int .i64 0, .int .i64 0], .int .i64 1]) (by unfold results; rw [Try.results52]; go_simp) rfl ⟨rfl, ?_⟩
    repeat with_reducible refine K.Ext.setCell ?_ (by dsimp only; omega) _
    exact (by repeat' (first | with_reducible exact X2 | with_reducible refine K.Ext.setCell ?_ ?_ _ | with_reducible refine K.Ext.alloc ?_ _ | with_reducible refine K.Ext.drew ?_ | (dsimp only; omega) | omega | (simp; omega)))
  have HV : ∀ {a b : Nat} {p v : Value} (w : World), K.recs false K.FgR w a b v vs → Calls Try.prog 126 #[.agg #[.int .i64 F.dg, .int .i64 F.tn, .string F.nm, p], v] w fun e w' => e = .returned (.bool true) ∧ K.Ext w w' := fun w h => by rw [← vL]; exact l18Values_any F vs w hnF hmvs h
  have vV : Z.isValued F vs = true := by unfold Z.isValued; rw [Bool.and_assoc, vF, vL]; rfl
  clear vF vL
  have h3 : (Z.isFormula F = true ∧ vs.length = F.nm.size) ∧ Z.areFigs vs = true := by simpa [Z.isValued] using vV
  obtain ⟨X, hX⟩ : ∃ X, X = Z.lg F vs := ⟨_, rfl⟩
  have HL : ∀ {a b c d : Nat} {p v : Value} (w : World), K.ints w a b p F.pw → K.recs false K.FgR w c d v vs → Calls Try.prog 127 #[.agg #[.int .i64 F.dg, .int .i64 F.tn, .string F.nm, p], v] w fun e w' => e = .returned (.agg #[.int .i64 X.1, .int .i64 X.2]) ∧ K.Ext w w' := fun w h h' => by rw [hX]; exact l18Log_any F vs w h3.1.1 h3.1.2 h3.2 h h'
  obtain ⟨S, hS⟩ : ∃ S, S = Z.spanOf X := ⟨_, rfl⟩
  have HS : ∀ w : World, Calls Try.prog 129 #[.agg #[.int .i64 X.1, .int .i64 X.2]] w fun e w' => e = .returned (.tuple #[.agg #[.int .i64 S.1.1, .int .i64 S.1.2], .agg #[.int .i64 S.2.1.1, .int .i64 S.2.1.2], .int .i64 S.2.2]) ∧ K.Ext w w' := fun w => l04Span_any X w S (Z.hide hS.symm)
  have HE : Hid (Z.FormulaSpan F vs = S) := Z.hide (by unfold Z.FormulaSpan; rw [vV, hS, hX]; rfl)
  clear hX hS h3 vV
  have X0 : K.Ext w w := K.Ext.refl w
  go_enter Try.func52, Try.ntmps52
  go_wp2_with (go_at_call 91; refine K.call (by with_reducible rfl) (by with_reducible rfl) (HF _ (show K.ints _ (loF) (hiF) (.slice oF F.pw.length cF) (F.pw) from by repeat' (first | with_reducible exact hF_ | with_reducible refine K.ints.set ?_ _ ?_ _ | with_reducible refine K.ints.alloc ?_ _ | with_reducible refine K.ints.drew ?_ | (dsimp only; omega) | omega | (simp; done) | (simp; omega)))) ?_; rintro e w1 ⟨rfl, x1⟩; have s1 : w.heap.size + 3 ≤ w1.heap.size := (by have h_ := x1.size; (try simp at h_); omega); have X1 : K.Ext w w1 := K.Ext.trans (by repeat' (first | with_reducible exact X0 | with_reducible refine K.Ext.setCell ?_ ?_ _ | with_reducible refine K.Ext.alloc ?_ _ | with_reducible refine K.Ext.drew ?_ | (dsimp only; omega) | omega | (simp; omega))) x1; obtain ⟨c1_0_0, c1_0_1, c1_0_2, c1_0_3⟩ := K.c4 x1 (w.heap.size) (.int .i64 F.dg) (.int .i64 F.tn) (.string F.nm) (.slice oF F.pw.length cF) (by go_simp); have z1_0 : w.heap.size < w1.heap.size := World.block_lt_of_cell? w1 _ c1_0_0; have d1_0 : ¬ (w.heap.size = w1.heap.size) := (by omega); have e1_0 : ¬ (w1.heap.size = w.heap.size) := (by omega); obtain ⟨c1_1_0, c1_1_1⟩ := K.c2 x1 (w.heap.size + 1) (.int .i64 0) (.int .i64 0) (by go_simp); obtain ⟨f1_1_0, f1_1_1⟩ := K.f2 x1 (w.heap.size + 1) (by go_simp); have z1_1 : w.heap.size + 1 < w1.heap.size := World.block_lt_of_cell? w1 _ c1_1_0; have d1_1 : ¬ (w.heap.size + 1 = w1.heap.size) := (by omega); have e1_1 : ¬ (w1.heap.size = w.heap.size + 1) := (by omega); have n1_0 : ¬ (w.heap.size + 1 = w.heap.size) := (by omega); have n0_1 : ¬ (w.heap.size = w.heap.size + 1) := (by omega); obtain ⟨c1_2_0, c1_2_1⟩ := K.c2 x1 (w.heap.size + 1 + 1) (.int .i64 0) (.int .i64 0) (by go_simp); obtain ⟨f1_2_0, f1_2_1⟩ := K.f2 x1 (w.heap.size + 1 + 1) (by go_simp); have z1_2 : w.heap.size + 1 + 1 < w1.heap.size := World.block_lt_of_cell? w1 _ c1_2_0; have d1_2 : ¬ (w.heap.size + 1 + 1 = w1.heap.size) := (by omega); have e1_2 : ¬ (w1.heap.size = w.heap.size + 1 + 1) := (by omega); have n2_0 : ¬ (w.heap.size + 1 + 1 = w.heap.size) := (by omega); have n0_2 : ¬ (w.heap.size = w.heap.size + 1 + 1) := (by omega); have n2_1 : ¬ (w.heap.size + 1 + 1 = w.heap.size + 1) := (by omega); have n1_2 : ¬ (w.heap.size + 1 = w.heap.size + 1 + 1) := (by omega); have F1_1 := K.ints.ext (show K.ints _ (loF) (hiF) (.slice oF F.pw.length cF) (F.pw) from by repeat' (first | with_reducible exact hF_ | with_reducible refine K.ints.set ?_ _ ?_ _ | with_reducible refine K.ints.alloc ?_ _ | with_reducible refine K.ints.drew ?_ | (dsimp only; omega) | omega | (simp; done) | (simp; omega))) x1; have F2_1 := K.recs.ext (show K.recs false K.FgR _ (lovs) (hivs) (.slice ovs vs.length cvs) (vs) from by repeat' (first | with_reducible exact hvs_ | with_reducible refine K.recs.set (by decide) ?_ _ ?_ _ | with_reducible refine K.recs.alloc ?_ _ | with_reducible refine K.recs.drew ?_ | (dsimp only; omega) | omega | (simp; done) | (simp; omega))) x1; clear hF_ hvs_)
  go_wp2_with (go_at_call 126; refine K.call (by with_reducible rfl) (by with_reducible rfl) (HV _ (F2_1)) ?_; rintro e w2 ⟨rfl, x2⟩; have s2 : w1.heap.size ≤ w2.heap.size := (by have h_ := x2.size; (try simp at h_); omega); have X2 := K.Ext.trans (X1) x2; obtain ⟨c2_0_0, c2_0_1, c2_0_2, c2_0_3⟩ := K.c4 x2 (w.heap.size) (.int .i64 F.dg) (.int .i64 F.tn) (.string F.nm) (.slice oF F.pw.length cF) (by go_simp); have z2_0 : w.heap.size < w2.heap.size := World.block_lt_of_cell? w2 _ c2_0_0; have d2_0 : ¬ (w.heap.size = w2.heap.size) := (by omega); have e2_0 : ¬ (w2.heap.size = w.heap.size) := (by omega); obtain ⟨c2_1_0, c2_1_1⟩ := K.c2 x2 (w.heap.size + 1) (.int .i64 0) (.int .i64 0) (by go_simp); obtain ⟨f2_1_0, f2_1_1⟩ := K.f2 x2 (w.heap.size + 1) (by go_simp); have z2_1 : w.heap.size + 1 < w2.heap.size := World.block_lt_of_cell? w2 _ c2_1_0; have d2_1 : ¬ (w.heap.size + 1 = w2.heap.size) := (by omega); have e2_1 : ¬ (w2.heap.size = w.heap.size + 1) := (by omega); obtain ⟨c2_2_0, c2_2_1⟩ := K.c2 x2 (w.heap.size + 1 + 1) (.int .i64 0) (.int .i64 0) (by go_simp); obtain ⟨f2_2_0, f2_2_1⟩ := K.f2 x2 (w.heap.size + 1 + 1) (by go_simp); have z2_2 : w.heap.size + 1 + 1 < w2.heap.size := World.block_lt_of_cell? w2 _ c2_2_0; have d2_2 : ¬ (w.heap.size + 1 + 1 = w2.heap.size) := (by omega); have e2_2 : ¬ (w2.heap.size = w.heap.size + 1 + 1) := (by omega); have F1_2 := K.ints.ext (F1_1) x2; have F2_2 := K.recs.ext (F2_1) x2; clear c1_0_0 c1_0_1 c1_0_2 c1_0_3 z1_0 d1_0 e1_0 c1_1_0 c1_1_1 f1_1_0 f1_1_1 z1_1 d1_1 e1_1 c1_2_0 c1_2_1 f1_2_0 f1_2_1 z1_2 d1_2 e1_2 F1_1 F2_1)
  go_wp2_with (go_at_call 127; refine K.call (by with_reducible rfl) (by with_reducible rfl) (HL _ (F1_2) (F2_2)) ?_; rintro e w3 ⟨rfl, x3⟩; have s3 : w2.heap.size ≤ w3.heap.size := (by have h_ := x3.size; (try simp at h_); omega); have X3 := K.Ext.trans (X2) x3; obtain ⟨c3_0_0, c3_0_1, c3_0_2, c3_0_3⟩ := K.c4 x3 (w.heap.size) (.int .i64 F.dg) (.int .i64 F.tn) (.string F.nm) (.slice oF F.pw.length cF) (by go_simp); have z3_0 : w.heap.size < w3.heap.size := World.block_lt_of_cell? w3 _ c3_0_0; have d3_0 : ¬ (w.heap.size = w3.heap.size) := (by omega); have e3_0 : ¬ (w3.heap.size = w.heap.size) := (by omega); obtain ⟨c3_1_0, c3_1_1⟩ := K.c2 x3 (w.heap.size + 1) (.int .i64 0) (.int .i64 0) (by go_simp); obtain ⟨f3_1_0, f3_1_1⟩ := K.f2 x3 (w.heap.size + 1) (by go_simp); have z3_1 : w.heap.size + 1 < w3.heap.size := World.block_lt_of_cell? w3 _ c3_1_0; have d3_1 : ¬ (w.heap.size + 1 = w3.heap.size) := (by omega); have e3_1 : ¬ (w3.heap.size = w.heap.size + 1) := (by omega); obtain ⟨c3_2_0, c3_2_1⟩ := K.c2 x3 (w.heap.size + 1 + 1) (.int .i64 0) (.int .i64 0) (by go_simp); obtain ⟨f3_2_0, f3_2_1⟩ := K.f2 x3 (w.heap.size + 1 + 1) (by go_simp); have z3_2 : w.heap.size + 1 + 1 < w3.heap.size := World.block_lt_of_cell? w3 _ c3_2_0; have d3_2 : ¬ (w.heap.size + 1 + 1 = w3.heap.size) := (by omega); have e3_2 : ¬ (w3.heap.size = w.heap.size + 1 + 1) := (by omega); have F1_3 := K.ints.ext (F1_2) x3; have F2_3 := K.recs.ext (F2_2) x3; clear c2_0_0 c2_0_1 c2_0_2 c2_0_3 z2_0 d2_0 e2_0 c2_1_0 c2_1_1 f2_1_0 f2_1_1 z2_1 d2_1 e2_1 c2_2_0 c2_2_1 f2_2_0 f2_2_1 z2_2 d2_2 e2_2 F1_2 F2_2)
  go_wp2_with (go_at_call 129; refine K.call (by with_reducible rfl) (by with_reducible rfl) (HS _) ?_; rintro e w4 ⟨rfl, x4⟩; have s4 : w3.heap.size ≤ w4.heap.size := (by have h_ := x4.size; (try simp at h_); omega); have X4 := K.Ext.trans (X3) x4; obtain ⟨c4_0_0, c4_0_1, c4_0_2, c4_0_3⟩ := K.c4 x4 (w.heap.size) (.int .i64 F.dg) (.int .i64 F.tn) (.string F.nm) (.slice oF F.pw.length cF) (by go_simp); have z4_0 : w.heap.size < w4.heap.size := World.block_lt_of_cell? w4 _ c4_0_0; have d4_0 : ¬ (w.heap.size = w4.heap.size) := (by omega); have e4_0 : ¬ (w4.heap.size = w.heap.size) := (by omega); obtain ⟨c4_1_0, c4_1_1⟩ := K.c2 x4 (w.heap.size + 1) (.int .i64 0) (.int .i64 0) (by go_simp); obtain ⟨f4_1_0, f4_1_1⟩ := K.f2 x4 (w.heap.size + 1) (by go_simp); have z4_1 : w.heap.size + 1 < w4.heap.size := World.block_lt_of_cell? w4 _ c4_1_0; have d4_1 : ¬ (w.heap.size + 1 = w4.heap.size) := (by omega); have e4_1 : ¬ (w4.heap.size = w.heap.size + 1) := (by omega); obtain ⟨c4_2_0, c4_2_1⟩ := K.c2 x4 (w.heap.size + 1 + 1) (.int .i64 0) (.int .i64 0) (by go_simp); obtain ⟨f4_2_0, f4_2_1⟩ := K.f2 x4 (w.heap.size + 1 + 1) (by go_simp); have z4_2 : w.heap.size + 1 + 1 < w4.heap.size := World.block_lt_of_cell? w4 _ c4_2_0; have d4_2 : ¬ (w.heap.size + 1 + 1 = w4.heap.size) := (by omega); have e4_2 : ¬ (w4.heap.size = w.heap.size + 1 + 1) := (by omega); have F1_4 := K.ints.ext (F1_3) x4; have F2_4 := K.recs.ext (F2_3) x4; clear c3_0_0 c3_0_1 c3_0_2 c3_0_3 z3_0 d3_0 e3_0 c3_1_0 c3_1_1 f3_1_0 f3_1_1 z3_1 d3_1 e3_1 c3_2_0 c3_2_1 f3_2_0 f3_2_1 z3_2 d3_2 e3_2 F1_3 F2_3)
  rw [HE.out]
  refine bodyPost_ret (v := .tuple #[.agg #[.int .i64 S.1.1, .int .i64 S.1.2], .agg #[.int .i64 S.2.1.1, .int .i64 S.2.1.2], .int .i64 S.2.2]) (by unfold results; rw [Try.results52]; go_simp) rfl ⟨rfl, ?_⟩
  repeat with_reducible refine K.Ext.setCell ?_ (by dsimp only; omega) _
  exact (by repeat' (first | with_reducible exact X4 | with_reducible refine K.Ext.setCell ?_ ?_ _ | with_reducible refine K.Ext.alloc ?_ _ | with_reducible refine K.Ext.drew ?_ | (dsimp only; omega) | omega | (simp; omega)))
end Go.Proofs.Ythmnlbgbacbocaa
end
section
namespace Go.Proofs.Ythmnlbgbacbocaa
open Go.RowKit
set_option maxRecDepth 100000 in
set_option maxHeartbeats 12800000 in
theorem spec_PowerFormula (F : Z.Fm) (n : Int) {lo hi : Nat} {p : Value} (w : World) (hm : F.pw.length ≤ 1048576) (hn : F.nm.size ≤ 1048576) (h : K.ints w lo hi p F.pw) :
    Calls Try.prog 31 #[.agg #[.int .i64 F.dg, .int .i64 F.tn, .string F.nm, p], .int .i64 n] w fun e w' => (∃ p', e = .returned (.tuple #[.agg #[.int .i64 ((Z.PowerFormula F n).1).dg, .int .i64 ((Z.PowerFormula F n).1).tn, .string ((Z.PowerFormula F n).1).nm, p'], .int .i64 (Z.PowerFormula F n).2]) ∧ K.ints w' w.heap.size w'.heap.size p' (Z.PowerFormula F n).1.pw) ∧ K.Ext w w' := by
  have g1 := h
  obtain ⟨o, cap, rfl, _⟩ := g1
  cases hF : Z.isFormula F
  · have HE : Hid (Z.PowerFormula F n = (Z.zeroFm, 1)) := Z.hide (by unfold Z.PowerFormula; rw [hF]; rfl)
    go_enter Try.func31, Try.ntmps31
    go_wp2_with (((go_at_call 91; refine K.call (by with_reducible rfl) (by with_reducible rfl) (spec_IsFormula F _ hm hn (h.ext (by repeat' (first | with_reducible exact K.Ext.refl _ | with_reducible assumption | with_reducible refine K.Ext.drew ?_ | with_reducible refine K.Ext.alloc ?_ _ | with_reducible refine K.Ext.setCell ?_ ?_ _ | with_reducible refine K.Ext.trans ?_ (by with_reducible assumption) | (dsimp only; omega) | omega | exact K.Ext.refl _ | assumption | apply K.Ext.drew | refine K.Ext.alloc ?_ _ | refine K.Ext.setCell ?_ ?_ _ | (simp; done) | (simp; omega) | refine K.Ext.trans ?_ (by assumption))))) ?_; rintro e w1 ⟨rfl, hw1⟩; obtain ⟨hcw1, hfw1⟩ := hw1.facts); have c_w1_0_0 : w1.cell? ⟨w.heap.size, 0, none⟩ = some (.int .i64 (F.dg)) := hw1.cell_of (by go_simp); have f_w1_0_0 : w1.frozen? ⟨w.heap.size, 0, none⟩ = false := hw1.thaw_of (by go_simp) (by go_simp); have c_w1_0_1 : w1.cell? ⟨w.heap.size, 1, none⟩ = some (.int .i64 (F.tn)) := hw1.cell_of (by go_simp); have f_w1_0_1 : w1.frozen? ⟨w.heap.size, 1, none⟩ = false := hw1.thaw_of (by go_simp) (by go_simp); have c_w1_0_2 : w1.cell? ⟨w.heap.size, 2, none⟩ = some (.string F.nm) := hw1.cell_of (by go_simp); have f_w1_0_2 : w1.frozen? ⟨w.heap.size, 2, none⟩ = false := hw1.thaw_of (by go_simp) (by go_simp); have c_w1_0_3 : w1.cell? ⟨w.heap.size, 3, none⟩ = some (.slice o F.pw.length cap) := hw1.cell_of (by go_simp); have f_w1_0_3 : w1.frozen? ⟨w.heap.size, 3, none⟩ = false := hw1.thaw_of (by go_simp) (by go_simp); have c_w1_1_0 : w1.cell? ⟨w.heap.size + 1, 0, none⟩ = some (.int .i64 (0)) := hw1.cell_of (by go_simp); have f_w1_1_0 : w1.frozen? ⟨w.heap.size + 1, 0, none⟩ = false := hw1.thaw_of (by go_simp) (by go_simp); have c_w1_1_1 : w1.cell? ⟨w.heap.size + 1, 1, none⟩ = some (.int .i64 (0)) := hw1.cell_of (by go_simp); have f_w1_1_1 : w1.frozen? ⟨w.heap.size + 1, 1, none⟩ = false := hw1.thaw_of (by go_simp) (by go_simp); have c_w1_1_2 : w1.cell? ⟨w.heap.size + 1, 2, none⟩ = some (.string ⟨#[]⟩) := hw1.cell_of (by go_simp); have f_w1_1_2 : w1.frozen? ⟨w.heap.size + 1, 2, none⟩ = false := hw1.thaw_of (by go_simp) (by go_simp); have c_w1_1_3 : w1.cell? ⟨w.heap.size + 1, 3, none⟩ = some (.slice none 0 0) := hw1.cell_of (by go_simp); have f_w1_1_3 : w1.frozen? ⟨w.heap.size + 1, 3, none⟩ = false := hw1.thaw_of (by go_simp) (by go_simp)))
    rw [HE.out]
    refine bodyPost_ret (v := .tuple #[.agg #[.int .i64 0, .int .i64 0, .string ⟨#[]⟩, .slice none 0 0], .int .i64 1]) (by unfold results; rw [Try.results31]; go_simp) rfl ⟨⟨_, rfl, K.ints_nil _ _ _⟩, ?_⟩
    repeat with_reducible refine K.Ext.setCell ?_ (by dsimp only; omega) _
    exact (by repeat' (first | with_reducible exact K.Ext.refl _ | with_reducible assumption | with_reducible refine K.Ext.drew ?_ | with_reducible refine K.Ext.alloc ?_ _ | with_reducible refine K.Ext.setCell ?_ ?_ _ | with_reducible refine K.Ext.trans ?_ (by with_reducible assumption) | (dsimp only; omega) | omega | exact K.Ext.refl _ | assumption | apply K.Ext.drew | refine K.Ext.alloc ?_ _ | refine K.Ext.setCell ?_ ?_ _ | (simp; done) | (simp; omega) | refine K.Ext.trans ?_ (by assumption)))
  · cases h3 : Z.pow3 n
    · have HE : Hid (Z.PowerFormula F n = (Z.zeroFm, 2)) := Z.hide (by unfold Z.PowerFormula; rw [hF, h3]; rfl)
      have H3 : ∀ w : World, Calls Try.prog 96 #[.int .i64 n, .int .i64 (-3), .int .i64 3] w fun e w' => e = .returned (.bool false) ∧ w = w' := fun w => by
        have h_ := l01In_any n (-3) 3 w
        rwa [show (decide (-3 ≤ n) && decide (n ≤ 3)) = false from h3] at h_
      have H3' := Z.hide H3
      clear h3 H3
      go_enter Try.func31, Try.ntmps31
      go_wp2_with (first | ((go_at_call 91; refine K.call (by with_reducible rfl) (by with_reducible rfl) (spec_IsFormula F _ hm hn (h.ext (by repeat' (first | with_reducible exact K.Ext.refl _ | with_reducible assumption | with_reducible refine K.Ext.drew ?_ | with_reducible refine K.Ext.alloc ?_ _ | with_reducible refine K.Ext.setCell ?_ ?_ _ | with_reducible refine K.Ext.trans ?_ (by with_reducible assumption) | (dsimp only; omega) | omega | exact K.Ext.refl _ | assumption | apply K.Ext.drew | refine K.Ext.alloc ?_ _ | refine K.Ext.setCell ?_ ?_ _ | (simp; done) | (simp; omega) | refine K.Ext.trans ?_ (by assumption))))) ?_; rintro e w1 ⟨rfl, hw1⟩; obtain ⟨hcw1, hfw1⟩ := hw1.facts); have c_w1_0_0 : w1.cell? ⟨w.heap.size, 0, none⟩ = some (.int .i64 (F.dg)) := hw1.cell_of (by go_simp); have f_w1_0_0 : w1.frozen? ⟨w.heap.size, 0, none⟩ = false := hw1.thaw_of (by go_simp) (by go_simp); have c_w1_0_1 : w1.cell? ⟨w.heap.size, 1, none⟩ = some (.int .i64 (F.tn)) := hw1.cell_of (by go_simp); have f_w1_0_1 : w1.frozen? ⟨w.heap.size, 1, none⟩ = false := hw1.thaw_of (by go_simp) (by go_simp); have c_w1_0_2 : w1.cell? ⟨w.heap.size, 2, none⟩ = some (.string F.nm) := hw1.cell_of (by go_simp); have f_w1_0_2 : w1.frozen? ⟨w.heap.size, 2, none⟩ = false := hw1.thaw_of (by go_simp) (by go_simp); have c_w1_0_3 : w1.cell? ⟨w.heap.size, 3, none⟩ = some (.slice o F.pw.length cap) := hw1.cell_of (by go_simp); have f_w1_0_3 : w1.frozen? ⟨w.heap.size, 3, none⟩ = false := hw1.thaw_of (by go_simp) (by go_simp); have c_w1_1_0 : w1.cell? ⟨w.heap.size + 1, 0, none⟩ = some (.int .i64 (0)) := hw1.cell_of (by go_simp); have f_w1_1_0 : w1.frozen? ⟨w.heap.size + 1, 0, none⟩ = false := hw1.thaw_of (by go_simp) (by go_simp); have c_w1_1_1 : w1.cell? ⟨w.heap.size + 1, 1, none⟩ = some (.int .i64 (0)) := hw1.cell_of (by go_simp); have f_w1_1_1 : w1.frozen? ⟨w.heap.size + 1, 1, none⟩ = false := hw1.thaw_of (by go_simp) (by go_simp); have c_w1_1_2 : w1.cell? ⟨w.heap.size + 1, 2, none⟩ = some (.string ⟨#[]⟩) := hw1.cell_of (by go_simp); have f_w1_1_2 : w1.frozen? ⟨w.heap.size + 1, 2, none⟩ = false := hw1.thaw_of (by go_simp) (by go_simp); have c_w1_1_3 : w1.cell? ⟨w.heap.size + 1, 3, none⟩ = some (.slice none 0 0) := hw1.cell_of (by go_simp); have f_w1_1_3 : w1.frozen? ⟨w.heap.size + 1, 3, none⟩ = false := hw1.thaw_of (by go_simp) (by go_simp)) | (go_at_call 96; refine K.call (by with_reducible rfl) (by with_reducible rfl) (H3'.out _) ?_; rintro e w' ⟨rfl, rfl⟩))
      rw [HE.out]
      refine bodyPost_ret (v := .tuple #[.agg #[.int .i64 0, .int .i64 0, .string ⟨#[]⟩, .slice none 0 0], .int .i64 2]) (by unfold results; rw [Try.results31]; go_simp) rfl ⟨⟨_, rfl, K.ints_nil _ _ _⟩, ?_⟩
      repeat with_reducible refine K.Ext.setCell ?_ (by dsimp only; omega) _
      exact (by repeat' (first | with_reducible exact K.Ext.refl _ | with_reducible assumption | with_reducible refine K.Ext.drew ?_ | with_reducible refine K.Ext.alloc ?_ _ | with_reducible refine K.Ext.setCell ?_ ?_ _ | with_reducible refine K.Ext.trans ?_ (by with_reducible assumption) | (dsimp only; omega) | omega | exact K.Ext.refl _ | assumption | apply K.Ext.drew | refine K.Ext.alloc ?_ _ | refine K.Ext.setCell ?_ ?_ _ | (simp; done) | (simp; omega) | refine K.Ext.trans ?_ (by assumption)))
    · obtain ⟨n1, n2⟩ : -3 ≤ n ∧ n ≤ 3 := by simp only [Z.pow3, Bool.and_eq_true, decide_eq_true_eq] at h3; exact h3
      have HP : Hid (Z.PowerFormula F n = Z.raised F n) := Z.hide (Z.PowerFormula_eq hF ⟨n1, n2⟩)
      have H3 : ∀ w : World, Calls Try.prog 96 #[.int .i64 n, .int .i64 (-3), .int .i64 3] w fun e w' => e = .returned (.bool true) ∧ w = w' := fun w => by
        have h_ := l01In_any n (-3) 3 w
        rwa [show (decide (-3 ≤ n) && decide (n ≤ 3)) = true from h3] at h_
      have H3' := Z.hide H3
      obtain ⟨m, hmn⟩ : ∃ m : Nat, m = n.natAbs := ⟨_, rfl⟩
      have hm3 : m ≤ 3 := by omega
      have HAB : Hid (∀ w : World, Calls Try.prog 110 #[.int .i64 n] w fun e w' => e = .returned (.int .i64 (m : Int)) ∧ w = w') := Z.hide (fun w => by rw [hmn]; exact l01Abs_any n w (by omega) (by omega))
      obtain ⟨g, hgd⟩ : ∃ g, g = decide (0 < n) := ⟨_, rfl⟩
      have HM := Z.hide hmn
      have HD := Z.hide hgd
      have HF := Z.hide hF
      have HH := Z.hide h
      clear h3 H3 hmn hgd
      go_enter Try.func31, Try.ntmps31
      go_wp2_with (first | ((go_at_call 91; refine K.call (by with_reducible rfl) (by with_reducible rfl) (spec_IsFormula F _ hm hn (h.ext (by repeat' (first | with_reducible exact K.Ext.refl _ | with_reducible assumption | with_reducible refine K.Ext.drew ?_ | with_reducible refine K.Ext.alloc ?_ _ | with_reducible refine K.Ext.setCell ?_ ?_ _ | with_reducible refine K.Ext.trans ?_ (by with_reducible assumption) | (dsimp only; omega) | omega | exact K.Ext.refl _ | assumption | apply K.Ext.drew | refine K.Ext.alloc ?_ _ | refine K.Ext.setCell ?_ ?_ _ | (simp; done) | (simp; omega) | refine K.Ext.trans ?_ (by assumption))))) ?_; rintro e w1 ⟨rfl, hw1⟩; obtain ⟨hcw1, hfw1⟩ := hw1.facts); have c_w1_0_0 : w1.cell? ⟨w.heap.size, 0, none⟩ = some (.int .i64 (F.dg)) := hw1.cell_of (by go_simp); have f_w1_0_0 : w1.frozen? ⟨w.heap.size, 0, none⟩ = false := hw1.thaw_of (by go_simp) (by go_simp); have c_w1_0_1 : w1.cell? ⟨w.heap.size, 1, none⟩ = some (.int .i64 (F.tn)) := hw1.cell_of (by go_simp); have f_w1_0_1 : w1.frozen? ⟨w.heap.size, 1, none⟩ = false := hw1.thaw_of (by go_simp) (by go_simp); have c_w1_0_2 : w1.cell? ⟨w.heap.size, 2, none⟩ = some (.string F.nm) := hw1.cell_of (by go_simp); have f_w1_0_2 : w1.frozen? ⟨w.heap.size, 2, none⟩ = false := hw1.thaw_of (by go_simp) (by go_simp); have c_w1_0_3 : w1.cell? ⟨w.heap.size, 3, none⟩ = some (.slice o F.pw.length cap) := hw1.cell_of (by go_simp); have f_w1_0_3 : w1.frozen? ⟨w.heap.size, 3, none⟩ = false := hw1.thaw_of (by go_simp) (by go_simp); have c_w1_1_0 : w1.cell? ⟨w.heap.size + 1, 0, none⟩ = some (.int .i64 (0)) := hw1.cell_of (by go_simp); have f_w1_1_0 : w1.frozen? ⟨w.heap.size + 1, 0, none⟩ = false := hw1.thaw_of (by go_simp) (by go_simp); have c_w1_1_1 : w1.cell? ⟨w.heap.size + 1, 1, none⟩ = some (.int .i64 (0)) := hw1.cell_of (by go_simp); have f_w1_1_1 : w1.frozen? ⟨w.heap.size + 1, 1, none⟩ = false := hw1.thaw_of (by go_simp) (by go_simp); have c_w1_1_2 : w1.cell? ⟨w.heap.size + 1, 2, none⟩ = some (.string ⟨#[]⟩) := hw1.cell_of (by go_simp); have f_w1_1_2 : w1.frozen? ⟨w.heap.size + 1, 2, none⟩ = false := hw1.thaw_of (by go_simp) (by go_simp); have c_w1_1_3 : w1.cell? ⟨w.heap.size + 1, 3, none⟩ = some (.slice none 0 0) := hw1.cell_of (by go_simp); have f_w1_1_3 : w1.frozen? ⟨w.heap.size + 1, 3, none⟩ = false := hw1.thaw_of (by go_simp) (by go_simp)) | (go_at_call 96; refine K.call (by with_reducible rfl) (by with_reducible rfl) (H3'.out _) ?_; rintro e w' ⟨rfl, rfl⟩))
      have s1 : w.heap.size + 2 ≤ w1.heap.size := by have h_ := hw1.size; simp at h_; omega
      have B0 : w1.heap[w.heap.size]? = some (.cells #[.int .i64 F.dg, .int .i64 F.tn, .string F.nm, .slice o F.pw.length cap] 32) := K.Ext.block_of (((K.Ext.refl _).alloc _).block (K.block_new rfl)) hw1
      have B1 : w1.heap[w.heap.size + 1]? = some (.cells #[.int .i64 0, .int .i64 0, .string ⟨#[]⟩, .slice none 0 0] 32) := K.Ext.block_of (K.block_new (by simp)) hw1
      have R0 := Z.hide B0
      have R1 := Z.hide B1
      have HX1 : Hid (K.Ext w w1) := Z.hide (by repeat' (first | with_reducible exact K.Ext.refl _ | with_reducible assumption | with_reducible refine K.Ext.drew ?_ | with_reducible refine K.Ext.alloc ?_ _ | with_reducible refine K.Ext.setCell ?_ ?_ _ | with_reducible refine K.Ext.trans ?_ (by with_reducible assumption) | (dsimp only; omega) | omega | exact K.Ext.refl _ | assumption | apply K.Ext.drew | refine K.Ext.alloc ?_ _ | refine K.Ext.setCell ?_ ?_ _ | (simp; done) | (simp; omega) | refine K.Ext.trans ?_ (by assumption)))
      clear B0 B1 hF h
      go_loopw [7] (fun i wr => ∃ k : Nat, k ≤ m ∧ i = .int .i64 k ∧ Hid ((Z.powK g (F.dg, F.tn) k).2 = 0) ∧ Hid (wr.heap[w.heap.size]? = some (.cells #[.int .i64 F.dg, .int .i64 F.tn, .string F.nm, .slice o F.pw.length cap] 32)) ∧ Hid (wr.heap[w.heap.size + 1]? = some (.cells #[.int .i64 0, .int .i64 0, .string ⟨#[]⟩, .slice none 0 0] 32)) ∧ Hid (wr.heap[w1.heap.size]? = some (.cells #[.int .i64 (Z.powK g (F.dg, F.tn) k).1.1, .int .i64 (Z.powK g (F.dg, F.tn) k).1.2] 30)) ∧ Hid (K.Ext w wr)) (fun i _ => m - (intOf i).toNat)
      case atStart =>
        refine ⟨0, Nat.zero_le _, rfl, Z.hide rfl, Z.hide ?_, Z.hide ?_, Z.hide ?_, Z.hide (by repeat' (first | with_reducible exact K.Ext.refl _ | with_reducible assumption | with_reducible refine K.Ext.drew ?_ | with_reducible refine K.Ext.alloc ?_ _ | with_reducible refine K.Ext.setCell ?_ ?_ _ | with_reducible refine K.Ext.trans ?_ (by with_reducible assumption) | (dsimp only; omega) | omega | exact K.Ext.refl _ | assumption | apply K.Ext.drew | refine K.Ext.alloc ?_ _ | refine K.Ext.setCell ?_ ?_ _ | (simp; done) | (simp; omega) | refine K.Ext.trans ?_ (by assumption)))⟩
        · exact K.Ext.block_of R0.out (by repeat' (first | with_reducible exact K.Ext.refl _ | with_reducible assumption | with_reducible refine K.Ext.drew ?_ | with_reducible refine K.Ext.alloc ?_ _ | with_reducible refine K.Ext.setCell ?_ ?_ _ | with_reducible refine K.Ext.trans ?_ (by with_reducible assumption) | (dsimp only; omega) | omega | exact K.Ext.refl _ | assumption | apply K.Ext.drew | refine K.Ext.alloc ?_ _ | refine K.Ext.setCell ?_ ?_ _ | (simp; done) | (simp; omega) | refine K.Ext.trans ?_ (by assumption)))
        · exact K.Ext.block_of R1.out (by repeat' (first | with_reducible exact K.Ext.refl _ | with_reducible assumption | with_reducible refine K.Ext.drew ?_ | with_reducible refine K.Ext.alloc ?_ _ | with_reducible refine K.Ext.setCell ?_ ?_ _ | with_reducible refine K.Ext.trans ?_ (by with_reducible assumption) | (dsimp only; omega) | omega | exact K.Ext.refl _ | assumption | apply K.Ext.drew | refine K.Ext.alloc ?_ _ | refine K.Ext.setCell ?_ ?_ _ | (simp; done) | (simp; omega) | refine K.Ext.trans ?_ (by assumption)))
        · exact K.block_new rfl
      case round =>
        obtain ⟨k, hk, rfl, HZ, C0, C1, C3, HX⟩ := hrel
        clear R0 R1 HX1 hw1
        have k0 : (0 : Int) ≤ (k : Int) := Int.natCast_nonneg k
        have d0 : wr.cell? ⟨w.heap.size, 0, none⟩ = some (.int .i64 F.dg) := K.cell_at C0.out rfl
        have d1 : wr.cell? ⟨w.heap.size, 1, none⟩ = some (.int .i64 F.tn) := K.cell_at C0.out rfl
        have e0 : wr.cell? ⟨w1.heap.size, 0, none⟩ = some (.int .i64 (Z.powK g (F.dg, F.tn) k).1.1) := K.cell_at C3.out rfl
        have e1 : wr.cell? ⟨w1.heap.size, 1, none⟩ = some (.int .i64 (Z.powK g (F.dg, F.tn) k).1.2) := K.cell_at C3.out rfl
        have lw : w1.heap.size < wr.heap.size := (Array.getElem?_eq_some_iff.1 C3.out).1
        have m0 : (m : Int) = n ∨ (m : Int) = -n := by have := HM.out; omega
        by_cases hlt : k < m
        · have k1 : (k : Int) < (m : Int) := by omega
          obtain ⟨x, hx⟩ : ∃ x, x = (Z.powK g (F.dg, F.tn) k).1 := ⟨_, rfl⟩
          rw [← hx] at e0 e1
          obtain ⟨q, hq⟩ : ∃ q, q = Z.MultiplyFigures x (F.dg, F.tn) := ⟨_, rfl⟩
          have HQ : Hid (∀ w' : World, Calls Try.prog 101 #[.agg #[.int .i64 x.1, .int .i64 x.2], .agg #[.int .i64 F.dg, .int .i64 F.tn]] w' fun e w'' => e = .returned (.tuple #[.agg #[.int .i64 q.1.1, .int .i64 q.1.2], .int .i64 q.2]) ∧ K.Ext w' w'') := Z.hide (fun w' => by rw [hq]; exact spec_MultiplyFigures x (F.dg, F.tn) w')
          obtain ⟨r, hr⟩ : ∃ r, r = Z.pw1 g x (F.dg, F.tn) := ⟨_, rfl⟩
          have HS : Hid (Z.powK g (F.dg, F.tn) (k + 1) = r) := Z.hide (by rw [Z.powK_succ _ _ _ HZ.out, hr, hx])
          have HEb : Hid (¬ r.2 = 0 → Z.PowerFormula F n = (Z.zeroFm, r.2)) := Z.hide (fun hz => by
            have h1 := Z.powK_stop g (F.dg, F.tn) (k + 1) (by rw [HS.out]; exact hz) m (by omega)
            rw [HP.out]
            unfold Z.raised
            rw [← HM.out, ← HD.out, h1, HS.out, if_neg hz])
          have hgn : g = decide (0 < n) := HD.out
          by_cases hp : 0 < n
          · obtain rfl : g = true := by rw [hgn]; simpa using hp
            obtain rfl : q = r := by rw [hq, hr]; rfl
            clear hgn hx hq hr
            by_cases hz : q.2 = 0
            · have HZ2 : Hid ((Z.powK true (F.dg, F.tn) (k + 1)).2 = 0) := Z.hide (by rw [HS.out]; exact hz)
              go_wp2_with (first | (go_at_call 110; refine K.call (by with_reducible rfl) (by with_reducible rfl) (HAB.out _) ?_; rintro e w' ⟨rfl, rfl⟩) | ((go_at_call 101; refine K.call (by with_reducible rfl) (by with_reducible rfl) (HQ.out _) ?_; rintro e w2 ⟨rfl, hw2⟩; have D0 := Z.hide (K.Ext.block_of C0.out hw2); have D1 := Z.hide (K.Ext.block_of C1.out hw2); have D3 := Z.hide (K.Ext.block_of C3.out hw2); have HX2 : Hid (K.Ext w w2) := Z.hide (HX.out.trans hw2); have lw2 := hw2.size; have b1_c0 : w2.cell? ⟨w1.heap.size, 0, none⟩ = some (.int .i64 (_)) := K.cell_at D3.out rfl; have b1_f0 : w2.frozen? ⟨w1.heap.size, 0, none⟩ = false := K.thaw_at D3.out; have b1_c1 : w2.cell? ⟨w1.heap.size, 1, none⟩ = some (.int .i64 (_)) := K.cell_at D3.out rfl; have b1_f1 : w2.frozen? ⟨w1.heap.size, 1, none⟩ = false := K.thaw_at D3.out; have n1 : ¬ (w1.heap.size = w2.heap.size) := (by omega); have y1 : w1.heap.size < w2.heap.size := (by omega); have y2 : w.heap.size < w2.heap.size := (by omega); have n2 : ¬ (w2.heap.size = w1.heap.size) := (by omega))))
              go_roundw
              case rel =>
                refine ⟨k + 1, by omega, by go_num, HZ2, Z.hide ?_, Z.hide ?_, Z.hide ?_, Z.hide ?_⟩
                · refine K.Ext.block_of ?_ ((K.Ext.refl _).alloc _)
                  iterate 2 with_reducible refine Eq.trans (K.set_block (by dsimp only; omega)) ?_
                  exact D0.out
                · refine K.Ext.block_of ?_ ((K.Ext.refl _).alloc _)
                  iterate 2 with_reducible refine Eq.trans (K.set_block (by dsimp only; omega)) ?_
                  exact D1.out
                · rw [HS.out]
                  exact K.Ext.block_of (Joins.block_setCell (Joins.block_setCell D3.out _) _) ((K.Ext.refl _).alloc _)
                · with_reducible refine K.Ext.alloc ?_ _
                  iterate 2 with_reducible refine K.Ext.setCell ?_ (by dsimp only; omega) _
                  exact HX2.out
              case measure => simp [intOf]; omega
            · have HE : Hid (Z.PowerFormula F n = (Z.zeroFm, q.2)) := Z.hide (HEb.out hz)
              go_wp2_with (first | (go_at_call 110; refine K.call (by with_reducible rfl) (by with_reducible rfl) (HAB.out _) ?_; rintro e w' ⟨rfl, rfl⟩) | ((go_at_call 101; refine K.call (by with_reducible rfl) (by with_reducible rfl) (HQ.out _) ?_; rintro e w2 ⟨rfl, hw2⟩; have D1 := Z.hide (K.Ext.block_of C1.out hw2); have HX2 : Hid (K.Ext w w2) := Z.hide (HX.out.trans hw2); have lw2 := hw2.size; have b2_c0 : w2.cell? ⟨w.heap.size + 1, 0, none⟩ = some (.int .i64 (0)) := K.cell_at D1.out rfl; have b2_f0 : w2.frozen? ⟨w.heap.size + 1, 0, none⟩ = false := K.thaw_at D1.out; have b2_c1 : w2.cell? ⟨w.heap.size + 1, 1, none⟩ = some (.int .i64 (0)) := K.cell_at D1.out rfl; have b2_f1 : w2.frozen? ⟨w.heap.size + 1, 1, none⟩ = false := K.thaw_at D1.out; have b2_c2 : w2.cell? ⟨w.heap.size + 1, 2, none⟩ = some (.string ⟨#[]⟩) := K.cell_at D1.out rfl; have b2_f2 : w2.frozen? ⟨w.heap.size + 1, 2, none⟩ = false := K.thaw_at D1.out; have b2_c3 : w2.cell? ⟨w.heap.size + 1, 3, none⟩ = some (.slice none 0 0) := K.cell_at D1.out rfl; have b2_f3 : w2.frozen? ⟨w.heap.size + 1, 3, none⟩ = false := K.thaw_at D1.out; have n1 : ¬ (w.heap.size + 1 = w2.heap.size) := (by omega); have y1 : w.heap.size + 1 < w2.heap.size := (by omega); have n2 : ¬ (w2.heap.size = w.heap.size + 1) := (by omega))))
              rw [HE.out]
              refine bodyPost_ret (v := .tuple #[.agg #[.int .i64 0, .int .i64 0, .string ⟨#[]⟩, .slice none 0 0], .int .i64 q.2]) (by unfold results; rw [Try.results31]; go_simp) rfl ⟨⟨_, rfl, K.ints_nil _ _ _⟩, ?_⟩
              repeat' (first | with_reducible refine K.Ext.setCell ?_ ?_ _ | with_reducible refine K.Ext.alloc ?_ _ | (dsimp only; omega))
              exact HX2.out
          · obtain rfl : g = false := by rw [hgn]; simpa using hp
            have hneg : n < 0 := by omega
            have HR : Hid (∀ w' : World, Calls Try.prog 111 #[.agg #[.int .i64 x.1, .int .i64 x.2], .agg #[.int .i64 F.dg, .int .i64 F.tn]] w' fun e w'' => e = .returned (.tuple #[.agg #[.int .i64 r.1.1, .int .i64 r.1.2], .int .i64 r.2]) ∧ K.Ext w' w'') := Z.hide (fun w' => by rw [hr]; exact spec_DivideFigures x (F.dg, F.tn) w')
            clear hgn hx hq hr
            by_cases hz : r.2 = 0
            · have HZ2 : Hid ((Z.powK false (F.dg, F.tn) (k + 1)).2 = 0) := Z.hide (by rw [HS.out]; exact hz)
              go_wp2_with (first | (go_at_call 110; refine K.call (by with_reducible rfl) (by with_reducible rfl) (HAB.out _) ?_; rintro e w' ⟨rfl, rfl⟩) | ((go_at_call 101; refine K.call (by with_reducible rfl) (by with_reducible rfl) (HQ.out _) ?_; rintro e w2 ⟨rfl, hw2⟩; have D0 := Z.hide (K.Ext.block_of C0.out hw2); have D1 := Z.hide (K.Ext.block_of C1.out hw2); have D3 := Z.hide (K.Ext.block_of C3.out hw2); have HX2 : Hid (K.Ext w w2) := Z.hide (HX.out.trans hw2); have lw2 := hw2.size; have f0 := hw2.cell_of e0; have f1 := hw2.cell_of e1; have b3_c0 : w2.cell? ⟨w.heap.size, 0, none⟩ = some (.int .i64 (F.dg)) := K.cell_at D0.out rfl; have b3_f0 : w2.frozen? ⟨w.heap.size, 0, none⟩ = false := K.thaw_at D0.out; have b3_c1 : w2.cell? ⟨w.heap.size, 1, none⟩ = some (.int .i64 (F.tn)) := K.cell_at D0.out rfl; have b3_f1 : w2.frozen? ⟨w.heap.size, 1, none⟩ = false := K.thaw_at D0.out; have n1 : ¬ (w1.heap.size = w2.heap.size) := (by omega); have y1 : w1.heap.size < w2.heap.size := (by omega); have y2 : w.heap.size < w2.heap.size := (by omega); have n2 : ¬ (w2.heap.size = w1.heap.size) := (by omega); have n3 : ¬ (w.heap.size = w2.heap.size) := (by omega))) | ((go_at_call 111; refine K.call (by with_reducible rfl) (by with_reducible rfl) (HR.out _) ?_; rintro e w3 ⟨rfl, hw3⟩; have lw3 : w2.heap.size < w3.heap.size := (by have h_ := hw3.size; simp at h_; omega); have E0 := Z.hide (K.Ext.block_of (K.Ext.block_of D0.out ((K.Ext.refl _).alloc _)) hw3); have E1 := Z.hide (K.Ext.block_of (K.Ext.block_of D1.out ((K.Ext.refl _).alloc _)) hw3); have E3 := Z.hide (K.Ext.block_of (K.Ext.block_of D3.out ((K.Ext.refl _).alloc _)) hw3); have HX3 : Hid (K.Ext w w3) := Z.hide (K.Ext.trans (K.Ext.alloc HX2.out _) hw3); have E4 : Hid (w3.heap[w2.heap.size]? = some (.cells #[.int .i64 q.1.1, .int .i64 q.1.2] 30)) := Z.hide (K.Ext.block_of (K.block_new rfl) hw3); have b4_c0 : w3.cell? ⟨w1.heap.size, 0, none⟩ = some (.int .i64 (_)) := K.cell_at E3.out rfl; have b4_f0 : w3.frozen? ⟨w1.heap.size, 0, none⟩ = false := K.thaw_at E3.out; have b4_c1 : w3.cell? ⟨w1.heap.size, 1, none⟩ = some (.int .i64 (_)) := K.cell_at E3.out rfl; have b4_f1 : w3.frozen? ⟨w1.heap.size, 1, none⟩ = false := K.thaw_at E3.out; have b5_c0 : w3.cell? ⟨w2.heap.size, 0, none⟩ = some (.int .i64 (_)) := K.cell_at E4.out rfl; have b5_f0 : w3.frozen? ⟨w2.heap.size, 0, none⟩ = false := K.thaw_at E4.out; have b5_c1 : w3.cell? ⟨w2.heap.size, 1, none⟩ = some (.int .i64 (_)) := K.cell_at E4.out rfl; have b5_f1 : w3.frozen? ⟨w2.heap.size, 1, none⟩ = false := K.thaw_at E4.out)))
              go_roundw
              case rel =>
                refine ⟨k + 1, by omega, by go_num, HZ2, Z.hide ?_, Z.hide ?_, Z.hide ?_, Z.hide ?_⟩
                · iterate 4 with_reducible refine Eq.trans (K.set_block (by dsimp only; omega)) ?_
                  exact E0.out
                · iterate 4 with_reducible refine Eq.trans (K.set_block (by dsimp only; omega)) ?_
                  exact E1.out
                · rw [HS.out]
                  have E5 : ((w3.setCell ⟨w2.heap.size, 0, none⟩ (.int .i64 r.1.1)).setCell ⟨w2.heap.size, 1, none⟩ (.int .i64 r.1.2)).heap[w1.heap.size]? = some (.cells #[.int .i64 (Z.powK false (F.dg, F.tn) k).1.1, .int .i64 (Z.powK false (F.dg, F.tn) k).1.2] 30) := by
                    iterate 2 with_reducible refine Eq.trans (K.set_block (by dsimp only; omega)) ?_
                    exact E3.out
                  exact Joins.block_setCell (Joins.block_setCell E5 _) _
                · repeat with_reducible refine K.Ext.setCell ?_ (by dsimp only; omega) _
                  exact HX3.out
              case measure => simp [intOf]; omega
            · have HE : Hid (Z.PowerFormula F n = (Z.zeroFm, r.2)) := Z.hide (HEb.out hz)
              go_wp2_with (first | (go_at_call 110; refine K.call (by with_reducible rfl) (by with_reducible rfl) (HAB.out _) ?_; rintro e w' ⟨rfl, rfl⟩) | ((go_at_call 101; refine K.call (by with_reducible rfl) (by with_reducible rfl) (HQ.out _) ?_; rintro e w2 ⟨rfl, hw2⟩; have D0 := Z.hide (K.Ext.block_of C0.out hw2); have D1 := Z.hide (K.Ext.block_of C1.out hw2); have D3 := Z.hide (K.Ext.block_of C3.out hw2); have HX2 : Hid (K.Ext w w2) := Z.hide (HX.out.trans hw2); have lw2 := hw2.size; have f0 := hw2.cell_of e0; have f1 := hw2.cell_of e1; have b6_c0 : w2.cell? ⟨w.heap.size, 0, none⟩ = some (.int .i64 (F.dg)) := K.cell_at D0.out rfl; have b6_f0 : w2.frozen? ⟨w.heap.size, 0, none⟩ = false := K.thaw_at D0.out; have b6_c1 : w2.cell? ⟨w.heap.size, 1, none⟩ = some (.int .i64 (F.tn)) := K.cell_at D0.out rfl; have b6_f1 : w2.frozen? ⟨w.heap.size, 1, none⟩ = false := K.thaw_at D0.out; have n1 : ¬ (w1.heap.size = w2.heap.size) := (by omega); have y1 : w1.heap.size < w2.heap.size := (by omega); have y2 : w.heap.size < w2.heap.size := (by omega); have n2 : ¬ (w2.heap.size = w1.heap.size) := (by omega); have n3 : ¬ (w.heap.size = w2.heap.size) := (by omega))) | ((go_at_call 111; refine K.call (by with_reducible rfl) (by with_reducible rfl) (HR.out _) ?_; rintro e w3 ⟨rfl, hw3⟩; have lw3 : w2.heap.size < w3.heap.size := (by have h_ := hw3.size; simp at h_; omega); have E1 := Z.hide (K.Ext.block_of (K.Ext.block_of D1.out ((K.Ext.refl _).alloc _)) hw3); have HX3 : Hid (K.Ext w w3) := Z.hide (K.Ext.trans (K.Ext.alloc HX2.out _) hw3); have E4 : Hid (w3.heap[w2.heap.size]? = some (.cells #[.int .i64 q.1.1, .int .i64 q.1.2] 30)) := Z.hide (K.Ext.block_of (K.block_new rfl) hw3); have b7_c0 : w3.cell? ⟨w.heap.size + 1, 0, none⟩ = some (.int .i64 (0)) := K.cell_at E1.out rfl; have b7_f0 : w3.frozen? ⟨w.heap.size + 1, 0, none⟩ = false := K.thaw_at E1.out; have b7_c1 : w3.cell? ⟨w.heap.size + 1, 1, none⟩ = some (.int .i64 (0)) := K.cell_at E1.out rfl; have b7_f1 : w3.frozen? ⟨w.heap.size + 1, 1, none⟩ = false := K.thaw_at E1.out; have b7_c2 : w3.cell? ⟨w.heap.size + 1, 2, none⟩ = some (.string ⟨#[]⟩) := K.cell_at E1.out rfl; have b7_f2 : w3.frozen? ⟨w.heap.size + 1, 2, none⟩ = false := K.thaw_at E1.out; have b7_c3 : w3.cell? ⟨w.heap.size + 1, 3, none⟩ = some (.slice none 0 0) := K.cell_at E1.out rfl; have b7_f3 : w3.frozen? ⟨w.heap.size + 1, 3, none⟩ = false := K.thaw_at E1.out; have b8_c0 : w3.cell? ⟨w2.heap.size, 0, none⟩ = some (.int .i64 (_)) := K.cell_at E4.out rfl; have b8_f0 : w3.frozen? ⟨w2.heap.size, 0, none⟩ = false := K.thaw_at E4.out; have b8_c1 : w3.cell? ⟨w2.heap.size, 1, none⟩ = some (.int .i64 (_)) := K.cell_at E4.out rfl; have b8_f1 : w3.frozen? ⟨w2.heap.size, 1, none⟩ = false := K.thaw_at E4.out; have n4 : ¬ (w.heap.size + 1 = w2.heap.size) := (by omega); have n5 : ¬ (w2.heap.size = w.heap.size + 1) := (by omega))))
              rw [HE.out]
              refine bodyPost_ret (v := .tuple #[.agg #[.int .i64 0, .int .i64 0, .string ⟨#[]⟩, .slice none 0 0], .int .i64 r.2]) (by unfold results; rw [Try.results31]; go_simp) rfl ⟨⟨_, rfl, K.ints_nil _ _ _⟩, ?_⟩
              repeat' (first | with_reducible refine K.Ext.setCell ?_ ?_ _ | with_reducible refine K.Ext.alloc ?_ _ | (dsimp only; omega))
              exact HX3.out
        · obtain rfl : k = m := by omega
          obtain ⟨wo, rfl⟩ : ∃ wo : World, wo = wr := ⟨_, rfl⟩
          obtain ⟨r, hr⟩ : ∃ r, r = (Z.powK g (F.dg, F.tn) k).1 := ⟨_, rfl⟩
          rw [← hr] at e0 e1
          have C3' : Hid (wo.heap[w1.heap.size]? = some (.cells #[.int .i64 r.1, .int .i64 r.2] 30)) := Z.hide (by rw [hr]; exact C3.out)
          have HZm := HZ.out
          have HE : Hid (Z.PowerFormula F n = Z.fmOr (Z.made r.1 r.2 (Z.powF F n) 26)) := Z.hide (by
            rw [HP.out]
            unfold Z.raised
            rw [← HM.out, ← HD.out, if_pos HZm, ← hr]; rfl)
          clear hr HZm C3
          have HK : ∀ w' : World, K.Ext w w' → Calls Try.prog 102 #[.agg #[.int .i64 F.dg, .int .i64 F.tn, .string F.nm, .slice o F.pw.length cap]] w' fun e w'' => (∃ v', e = .returned v' ∧ K.own w'' w'.heap.size w''.heap.size v' (Z.allOf F)) ∧ K.Ext w' w'' := fun w' hx => l18All_any F w' HF.out (K.ints.ext HH.out hx)
          have HKh := Z.hide HK
          clear HK
          have b9_c0 : wo.cell? ⟨w.heap.size, 0, none⟩ = some (.int .i64 (F.dg)) := K.cell_at C0.out rfl; have b9_f0 : wo.frozen? ⟨w.heap.size, 0, none⟩ = false := K.thaw_at C0.out; have b9_c1 : wo.cell? ⟨w.heap.size, 1, none⟩ = some (.int .i64 (F.tn)) := K.cell_at C0.out rfl; have b9_f1 : wo.frozen? ⟨w.heap.size, 1, none⟩ = false := K.thaw_at C0.out; have b9_c2 : wo.cell? ⟨w.heap.size, 2, none⟩ = some (.string F.nm) := K.cell_at C0.out rfl; have b9_f2 : wo.frozen? ⟨w.heap.size, 2, none⟩ = false := K.thaw_at C0.out; have b9_c3 : wo.cell? ⟨w.heap.size, 3, none⟩ = some (.slice o F.pw.length cap) := K.cell_at C0.out rfl; have b9_f3 : wo.frozen? ⟨w.heap.size, 3, none⟩ = false := K.thaw_at C0.out
          go_wp2_with (first | (go_at_call 110; refine K.call (by with_reducible rfl) (by with_reducible rfl) (HAB.out _) ?_; rintro e w' ⟨rfl, rfl⟩) | ((go_at_call 102; refine K.call (by with_reducible rfl) (by with_reducible rfl) (HKh.out _ HX.out) ?_; rintro e w4 ⟨⟨v4, rfl, hv4⟩, hw4⟩; have s4 := hv4; obtain ⟨o4, c4, rfl, _⟩ := s4; rw [Z.allOf_length] at hv4; have HA := Z.hide hv4; have D1 := Z.hide (K.Ext.block_of C1.out hw4); have D3 := Z.hide (K.Ext.block_of C3'.out hw4); have HX4 : Hid (K.Ext w w4) := Z.hide (HX.out.trans hw4); have lw4 := hw4.size; clear hw4 hv4)))
          rw [Z.allOf_length]
          go_loopw [11] (fun i wr => ∃ j : Nat, j ≤ 26 ∧ i = .int .i64 j ∧ Hid (K.own wr wo.heap.size w4.heap.size (.slice o4 26 c4) (Z.powL F n j)) ∧ Hid (K.Ext w wr) ∧ Hid (wr.heap[w.heap.size + 1]? = some (.cells #[.int .i64 0, .int .i64 0, .string ⟨#[]⟩, .slice none 0 0] 32)) ∧ Hid (wr.heap[w1.heap.size]? = some (.cells #[.int .i64 r.1, .int .i64 r.2] 30)) ∧ w4.heap.size ≤ wr.heap.size) (fun i _ => 26 - (intOf i).toNat)
          case atStart => exact ⟨0, Nat.zero_le _, rfl, Z.hide (by rw [Z.powL_zero]; exact HA.out), HX4, D1, D3, Nat.le_refl _⟩
          case round =>
            obtain ⟨j, hj, rfl, HA1, HX5, E1, E3, lw5⟩ := hrel
            clear HA HX4 D1 D3
            have j0 : (0 : Int) ≤ (j : Int) := Int.natCast_nonneg j
            by_cases hlt2 : j < 26
            · have j1 : (j : Int) < 26 := by omega
              obtain ⟨b, off, rfl, b1, b2, bc, bf⟩ := K.own_at HA1.out (by rw [Z.powL_length]; decide)
              have hca := bc j (by rw [Z.powL_length]; exact hlt2)
              have hfa := bf j (by rw [Z.powL_length]; exact hlt2)
              rw [Z.powL_get _ _ _ _ hlt2, if_neg (Nat.lt_irrefl j)] at hca
              obtain ⟨x1, x2⟩ := Z.expo_6 HF.out (97 + (j : Int))
              have HS : Hid (Z.powL F n (j + 1) = (Z.powL F n j).set j (n * Z.expo (Z.bs F.nm) F.pw (97 + (j : Int)))) := Z.hide (Z.powL_succ F n j hlt2)
              have HL := Z.hide (Z.powL_length F n j)
              clear bc bf
              generalize Z.expo (Z.bs F.nm) F.pw (97 + (j : Int)) = x at *
              obtain ⟨m1, m2⟩ := Z.mul_bd n x 3 6 n1 n2 x1 x2
              have q1 : IntKind.i64.wrap (n * x) = n * x := IntWalk.i64_in _ (by omega)
              have HT := Z.hide (K.own_setAt (x := n * x) (k := j) (by rw [HL.out]; exact hlt2) HA1.out)
              have HXT : Hid (K.Ext w (wr.setCell ⟨b, off + j, none⟩ (.int .i64 (n * x)))) := Z.hide (K.Ext.setCell HX5.out (by dsimp only; omega) _)
              have G1 : Hid ((wr.setCell ⟨b, off + j, none⟩ (.int .i64 (n * x))).heap[w.heap.size + 1]? = some (.cells #[.int .i64 0, .int .i64 0, .string ⟨#[]⟩, .slice none 0 0] 32)) := Z.hide ((K.set_block (by dsimp only; omega)).trans E1.out)
              have G3 : Hid ((wr.setCell ⟨b, off + j, none⟩ (.int .i64 (n * x))).heap[w1.heap.size]? = some (.cells #[.int .i64 r.1, .int .i64 r.2] 30)) := Z.hide ((K.set_block (by dsimp only; omega)).trans E3.out)
              clear m1 m2
              go_wp2
              go_roundw
              case rel => exact ⟨j + 1, by omega, by go_num, Z.hide (by rw [HS.out]; exact HT.out), HXT, G1, G3, by simp; omega⟩
              case measure => simp [intOf]; omega
            · obtain rfl : j = 26 := by omega
              have f0 : wr.cell? ⟨w1.heap.size, 0, none⟩ = some (.int .i64 r.1) := K.cell_at E3.out rfl
              have f1 : wr.cell? ⟨w1.heap.size, 1, none⟩ = some (.int .i64 r.2) := K.cell_at E3.out rfl
              obtain ⟨M, HMM⟩ : ∃ M, M = Z.made r.1 r.2 (Z.powF F n) 26 := ⟨_, rfl⟩
              have HK : Calls Try.prog 104 #[.agg #[.int .i64 r.1, .int .i64 r.2], .slice o4 26 c4] wr fun e w' => (∃ p', e = .returned (.agg #[.int .i64 M.dg, .int .i64 M.tn, .string M.nm, p']) ∧ K.own w' wr.heap.size w'.heap.size p' M.pw) ∧ K.Ext wr w' := by
                have hk := l18Make_any r.1 r.2 (Z.powL F n 26) wr (Z.powL_length F n 26) (K.own.ints HA1.out)
                rw [Z.powL_made] at hk
                rw [HMM]
                exact hk
              have hle : M.pw.length ≤ 1048576 ∧ M.nm.size ≤ 1048576 := by rw [HMM]; exact Z.made_le _ _ _
              have HL := Z.hide hle
              rw [← HMM] at HE
              clear HMM hle HA1
              obtain ⟨N, HN⟩ : ∃ N, N = Z.fmOr M := ⟨_, rfl⟩
              have HR : ∀ {lo hi : Nat} {p : Value} (w : World), K.ints w lo hi p M.pw → Calls Try.prog 103 #[.agg #[.int .i64 M.dg, .int .i64 M.tn, .string M.nm, p]] w fun e w' => (∃ p', e = .returned (.tuple #[.agg #[.int .i64 N.1.dg, .int .i64 N.1.tn, .string N.1.nm, p'], .int .i64 N.2]) ∧ K.ints w' lo hi p' N.1.pw) ∧ K.Ext w w' := fun w hh => by rw [HN]; exact l18Result_any M w HL.out.1 HL.out.2 hh
              rw [← HN] at HE
              clear HN
              go_wp2_with (first | ((go_at_call 104; refine K.call (by with_reducible rfl) (by with_reducible rfl) (HK) ?_; rintro e w6 ⟨⟨p6, rfl, hp6⟩, hw6⟩; have E2 := Z.hide (K.Ext.block_of E1.out hw6); have hp7 := hp6; obtain ⟨o6, c6, rfl, _⟩ := hp7)) | ((go_at_call 103; refine K.call (by with_reducible rfl) (by with_reducible rfl) (HR _ (K.own.ints hp6)) ?_; rintro e w7 ⟨⟨p7, rfl, hp7⟩, hw7⟩; have hp8 := hp7; obtain ⟨o7, c7, rfl, _⟩ := hp8; have G2 := Z.hide (K.Ext.block_of E2.out hw7); have lw2 : w.heap.size + 1 < w7.heap.size := (Array.getElem?_eq_some_iff.1 G2.out).1; have b10_c0 : w7.cell? ⟨w.heap.size + 1, 0, none⟩ = some (.int .i64 (0)) := K.cell_at G2.out rfl; have b10_f0 : w7.frozen? ⟨w.heap.size + 1, 0, none⟩ = false := K.thaw_at G2.out; have b10_c1 : w7.cell? ⟨w.heap.size + 1, 1, none⟩ = some (.int .i64 (0)) := K.cell_at G2.out rfl; have b10_f1 : w7.frozen? ⟨w.heap.size + 1, 1, none⟩ = false := K.thaw_at G2.out; have b10_c2 : w7.cell? ⟨w.heap.size + 1, 2, none⟩ = some (.string ⟨#[]⟩) := K.cell_at G2.out rfl; have b10_f2 : w7.frozen? ⟨w.heap.size + 1, 2, none⟩ = false := K.thaw_at G2.out; have b10_c3 : w7.cell? ⟨w.heap.size + 1, 3, none⟩ = some (.slice none 0 0) := K.cell_at G2.out rfl; have b10_f3 : w7.frozen? ⟨w.heap.size + 1, 3, none⟩ = false := K.thaw_at G2.out)))
              rw [HE.out]
              have z8 := HX5.out.size
              have z9 := hw6.size
              have z10 := hw7.size
              have z11 : w.heap.size + 1 < wr.heap.size := (Array.getElem?_eq_some_iff.1 E1.out).1
              refine bodyPost_ret (v := .tuple #[.agg #[.int .i64 N.1.dg, .int .i64 N.1.tn, .string N.1.nm, .slice o7 N.1.pw.length c7], .int .i64 N.2]) (by unfold results; rw [Try.results31]; go_simp) rfl ⟨⟨_, rfl, ?_⟩, ?_⟩
              · refine K.ints.mono (lo := wr.heap.size) (hi := w6.heap.size) ?_ (by omega) (by simp; omega)
                repeat with_reducible refine K.ints.set ?_ _ (.inl (by dsimp only; omega)) _
                exact hp7
              · repeat with_reducible refine K.Ext.setCell ?_ (by dsimp only; omega) _
                exact K.Ext.trans HX5.out (K.Ext.trans hw6 hw7)
end Go.Proofs.Ythmnlbgbacbocaa
end
section
namespace Go.Proofs.Ythmnlbgbacbocaa
open Go.RowKit
set_option maxHeartbeats 3200000 in
theorem impl_PowerFormula (F : Z.Fm) (n : Int) {loF hiF : Nat} {pF : Value} (w : World)  (hmF : F.pw.length ≤ 1048576) (hnF : F.nm.size ≤ 1048576) (hF : K.ints w loF hiF pF F.pw) :
    Calls Try.prog 30 #[.agg #[.int .i64 F.dg, .int .i64 F.tn, .string F.nm, pF], .int .i64 n] w fun e w' => (∃ p', e = .returned (.tuple #[.agg #[.int .i64 ((Z.PowerFormula F n).1).dg, .int .i64 ((Z.PowerFormula F n).1).tn, .string ((Z.PowerFormula F n).1).nm, p'], .int .i64 ((Z.PowerFormula F n).2)]) ∧ K.own w' w.heap.size w'.heap.size p' (Z.PowerFormula F n).1.pw) ∧ K.Ext w w' := by
  have hF_ := hF
  have shF := hF
  obtain ⟨oF, cF, rfl, _⟩ := shF
  cases hF : Z.isFormula F
  · have HE : Hid (Z.PowerFormula F n = (Z.zeroFm, 1)) := Z.hide (by unfold Z.PowerFormula; rw [hF]; rfl)
    have X0 : K.Ext w w := K.Ext.refl w
    go_enter Try.func30, Try.ntmps30
    go_wp2_with (go_at_call 33; refine K.call (by with_reducible rfl) (by with_reducible rfl) (impl_IsFormula F _ hmF hnF (K.ints.alloc (K.ints.alloc hF_ _) _)) ?_; rintro e w1 ⟨rfl, x1⟩; have s1 : w.heap.size + 2 ≤ w1.heap.size := (by have h_ := x1.size; (try simp at h_); omega); have X1 := K.Ext.trans (K.Ext.alloc (K.Ext.alloc X0 _) _) x1; obtain ⟨c1_0_0, c1_0_1, c1_0_2, c1_0_3⟩ := K.c4 x1 (w.heap.size) (.int .i64 F.dg) (.int .i64 F.tn) (.string F.nm) (.slice oF F.pw.length cF) (by go_simp); have z1_0 : w.heap.size < w1.heap.size := World.block_lt_of_cell? w1 _ c1_0_0; have d1_0 : ¬ (w.heap.size = w1.heap.size) := (by omega); have e1_0 : ¬ (w1.heap.size = w.heap.size) := (by omega); obtain ⟨c1_1_0, c1_1_1, c1_1_2, c1_1_3⟩ := K.c4 x1 (w.heap.size + 1) (.int .i64 0) (.int .i64 0) (.string ⟨#[]⟩) (.slice none 0 0) (by go_simp); obtain ⟨f1_1_0, f1_1_1, f1_1_2, f1_1_3⟩ := K.f4 x1 (w.heap.size + 1) (by go_simp); have z1_1 : w.heap.size + 1 < w1.heap.size := World.block_lt_of_cell? w1 _ c1_1_0; have d1_1 : ¬ (w.heap.size + 1 = w1.heap.size) := (by omega); have e1_1 : ¬ (w1.heap.size = w.heap.size + 1) := (by omega); have n1_0 : ¬ (w.heap.size + 1 = w.heap.size) := (by omega); have n0_1 : ¬ (w.heap.size = w.heap.size + 1) := (by omega); have F1_1 := K.ints.ext (K.ints.alloc (K.ints.alloc hF_ _) _) x1; clear hF_)
    rw [HE.out]
    refine bodyPost_ret (v := .tuple #[.agg #[.int .i64 0, .int .i64 0, .string ⟨#[]⟩, .slice none 0 0], .int .i64 1]) (by unfold results; rw [Try.results30]; go_simp) rfl ⟨⟨_, rfl, ?_⟩, ?_⟩
    · exact K.own_nil _ _ _
    · repeat with_reducible refine K.Ext.setCell ?_ (by dsimp only; omega) _
      exact (by repeat' (first | with_reducible exact X1 | with_reducible refine K.Ext.setCell ?_ ?_ _ | with_reducible refine K.Ext.alloc ?_ _ | with_reducible refine K.Ext.drew ?_ | (dsimp only; omega) | omega | (simp; omega)))
  · cases h3 : Z.pow3 n
    · have HE : Hid (Z.PowerFormula F n = (Z.zeroFm, 2)) := Z.hide (by unfold Z.PowerFormula; rw [hF, h3]; rfl)
      have H3 : ∀ w : World, Calls Try.prog 95 #[.int .i64 n, .int .i64 (-3), .int .i64 3] w fun e w' => e = .returned (.bool false) ∧ w = w' := fun w => by
        have h_ := within_any n (-3) 3 w
        rwa [show (decide (-3 ≤ n) && decide (n ≤ 3)) = false from h3] at h_
      have H3' := Z.hide H3
      clear h3 H3
      have X0 : K.Ext w w := K.Ext.refl w
      go_enter Try.func30, Try.ntmps30
      go_wp2_with (go_at_call 33; refine K.call (by with_reducible rfl) (by with_reducible rfl) (impl_IsFormula F _ hmF hnF (show K.ints _ (loF) (hiF) (.slice oF F.pw.length cF) (F.pw) from by repeat' (first | with_reducible exact hF_ | with_reducible refine K.ints.set ?_ _ ?_ _ | with_reducible refine K.ints.alloc ?_ _ | with_reducible refine K.ints.drew ?_ | (dsimp only; omega) | omega | (simp; done) | (simp; omega)))) ?_; rintro e w1 ⟨rfl, x1⟩; have s1 : w.heap.size + 2 ≤ w1.heap.size := (by have h_ := x1.size; (try simp at h_); omega); have X1 : K.Ext w w1 := K.Ext.trans (by repeat' (first | with_reducible exact X0 | with_reducible refine K.Ext.setCell ?_ ?_ _ | with_reducible refine K.Ext.alloc ?_ _ | with_reducible refine K.Ext.drew ?_ | (dsimp only; omega) | omega | (simp; omega))) x1; obtain ⟨c1_0_0, c1_0_1, c1_0_2, c1_0_3⟩ := K.c4 x1 (w.heap.size) (.int .i64 F.dg) (.int .i64 F.tn) (.string F.nm) (.slice oF F.pw.length cF) (by go_simp); have z1_0 : w.heap.size < w1.heap.size := World.block_lt_of_cell? w1 _ c1_0_0; have d1_0 : ¬ (w.heap.size = w1.heap.size) := (by omega); have e1_0 : ¬ (w1.heap.size = w.heap.size) := (by omega); obtain ⟨c1_1_0, c1_1_1, c1_1_2, c1_1_3⟩ := K.c4 x1 (w.heap.size + 1) (.int .i64 0) (.int .i64 0) (.string ⟨#[]⟩) (.slice none 0 0) (by go_simp); obtain ⟨f1_1_0, f1_1_1, f1_1_2, f1_1_3⟩ := K.f4 x1 (w.heap.size + 1) (by go_simp); have z1_1 : w.heap.size + 1 < w1.heap.size := World.block_lt_of_cell? w1 _ c1_1_0; have d1_1 : ¬ (w.heap.size + 1 = w1.heap.size) := (by omega); have e1_1 : ¬ (w1.heap.size = w.heap.size + 1) := (by omega); have n1_0 : ¬ (w.heap.size + 1 = w.heap.size) := (by omega); have n0_1 : ¬ (w.heap.size = w.heap.size + 1) := (by omega); have F1_1 := K.ints.ext (show K.ints _ (loF) (hiF) (.slice oF F.pw.length cF) (F.pw) from by repeat' (first | with_reducible exact hF_ | with_reducible refine K.ints.set ?_ _ ?_ _ | with_reducible refine K.ints.alloc ?_ _ | with_reducible refine K.ints.drew ?_ | (dsimp only; omega) | omega | (simp; done) | (simp; omega))) x1; clear hF_)
      go_wp2_with (go_at_call 95; refine K.call (by with_reducible rfl) (by with_reducible rfl) (H3'.out _) ?_; rintro e w_ ⟨rfl, rfl⟩)
      rw [HE.out]
      refine bodyPost_ret (v := .tuple #[.agg #[.int .i64 0, .int .i64 0, .string ⟨#[]⟩, .slice none 0 0], .int .i64 2]) (by unfold results; rw [Try.results30]; go_simp) rfl ⟨⟨_, rfl, ?_⟩, ?_⟩
      · exact K.own_nil _ _ _
      · repeat with_reducible refine K.Ext.setCell ?_ (by dsimp only; omega) _
        exact (by repeat' (first | with_reducible exact X1 | with_reducible refine K.Ext.setCell ?_ ?_ _ | with_reducible refine K.Ext.alloc ?_ _ | with_reducible refine K.Ext.drew ?_ | (dsimp only; omega) | omega | (simp; omega)))
    · obtain ⟨n1, n2⟩ : -3 ≤ n ∧ n ≤ 3 := by simp only [Z.pow3, Bool.and_eq_true, decide_eq_true_eq] at h3; exact h3
      have H3 : ∀ w : World, Calls Try.prog 95 #[.int .i64 n, .int .i64 (-3), .int .i64 3] w fun e w' => e = .returned (.bool true) ∧ w = w' := fun w => by
        have h_ := within_any n (-3) 3 w
        rwa [show (decide (-3 ≤ n) && decide (n ≤ 3)) = true from h3] at h_
      have H3' := Z.hide H3
      clear h3 H3
      obtain ⟨M, hM⟩ : ∃ M, M = Z.raised F n := ⟨_, rfl⟩
      have HE : Hid (Z.PowerFormula F n = M) := Z.hide (by rw [Z.PowerFormula_eq hF ⟨n1, n2⟩, hM])
      have HR : ∀ {lo hi : Nat} {p : Value} (w : World), K.ints w lo hi p F.pw → Calls Try.prog 109 #[.agg #[.int .i64 F.dg, .int .i64 F.tn, .string F.nm, p], .int .i64 n] w fun e w' => (∃ p', e = .returned (.tuple #[.agg #[.int .i64 M.1.dg, .int .i64 M.1.tn, .string M.1.nm, p'], .int .i64 M.2]) ∧ K.own w' w.heap.size w'.heap.size p' M.1.pw) ∧ K.Ext w w' := fun w h => by rw [hM]; exact raised_any F n w hF ⟨n1, n2⟩ h
      have HRh := @HR
      clear hM n1 n2
      have X0 : K.Ext w w := K.Ext.refl w
      go_enter Try.func30, Try.ntmps30
      go_wp2_with (go_at_call 33; refine K.call (by with_reducible rfl) (by with_reducible rfl) (impl_IsFormula F _ hmF hnF (show K.ints _ (loF) (hiF) (.slice oF F.pw.length cF) (F.pw) from by repeat' (first | with_reducible exact hF_ | with_reducible refine K.ints.set ?_ _ ?_ _ | with_reducible refine K.ints.alloc ?_ _ | with_reducible refine K.ints.drew ?_ | (dsimp only; omega) | omega | (simp; done) | (simp; omega)))) ?_; rintro e w1 ⟨rfl, x1⟩; have s1 : w.heap.size + 2 ≤ w1.heap.size := (by have h_ := x1.size; (try simp at h_); omega); have X1 : K.Ext w w1 := K.Ext.trans (by repeat' (first | with_reducible exact X0 | with_reducible refine K.Ext.setCell ?_ ?_ _ | with_reducible refine K.Ext.alloc ?_ _ | with_reducible refine K.Ext.drew ?_ | (dsimp only; omega) | omega | (simp; omega))) x1; obtain ⟨c1_0_0, c1_0_1, c1_0_2, c1_0_3⟩ := K.c4 x1 (w.heap.size) (.int .i64 F.dg) (.int .i64 F.tn) (.string F.nm) (.slice oF F.pw.length cF) (by go_simp); have z1_0 : w.heap.size < w1.heap.size := World.block_lt_of_cell? w1 _ c1_0_0; have d1_0 : ¬ (w.heap.size = w1.heap.size) := (by omega); have e1_0 : ¬ (w1.heap.size = w.heap.size) := (by omega); obtain ⟨c1_1_0, c1_1_1, c1_1_2, c1_1_3⟩ := K.c4 x1 (w.heap.size + 1) (.int .i64 0) (.int .i64 0) (.string ⟨#[]⟩) (.slice none 0 0) (by go_simp); obtain ⟨f1_1_0, f1_1_1, f1_1_2, f1_1_3⟩ := K.f4 x1 (w.heap.size + 1) (by go_simp); have z1_1 : w.heap.size + 1 < w1.heap.size := World.block_lt_of_cell? w1 _ c1_1_0; have d1_1 : ¬ (w.heap.size + 1 = w1.heap.size) := (by omega); have e1_1 : ¬ (w1.heap.size = w.heap.size + 1) := (by omega); have n1_0 : ¬ (w.heap.size + 1 = w.heap.size) := (by omega); have n0_1 : ¬ (w.heap.size = w.heap.size + 1) := (by omega); have F1_1 := K.ints.ext (show K.ints _ (loF) (hiF) (.slice oF F.pw.length cF) (F.pw) from by repeat' (first | with_reducible exact hF_ | with_reducible refine K.ints.set ?_ _ ?_ _ | with_reducible refine K.ints.alloc ?_ _ | with_reducible refine K.ints.drew ?_ | (dsimp only; omega) | omega | (simp; done) | (simp; omega))) x1; clear hF_)
      go_wp2_with (go_at_call 95; refine K.call (by with_reducible rfl) (by with_reducible rfl) (H3'.out _) ?_; rintro e w_ ⟨rfl, rfl⟩)
      go_wp2_with (go_at_call 109; refine K.call (by with_reducible rfl) (by with_reducible rfl) (HR _ (F1_1)) ?_; rintro e w3 ⟨⟨p3, rfl, g3⟩, x3⟩; obtain ⟨o3, k3, rfl, _⟩ := K.own.ints g3; have F2_3 : K.own w3 (w1.heap.size) (w3.heap.size) (.slice o3 M.1.pw.length k3) (M.1.pw) := g3.mono (by simp) (Nat.le_refl _); clear g3; have s3 : w1.heap.size ≤ w3.heap.size := (by have h_ := x3.size; (try simp at h_); omega); have X3 := K.Ext.trans (X1) x3; obtain ⟨c3_0_0, c3_0_1, c3_0_2, c3_0_3⟩ := K.c4 x3 (w.heap.size) (.int .i64 F.dg) (.int .i64 F.tn) (.string F.nm) (.slice oF F.pw.length cF) (by go_simp); have z3_0 : w.heap.size < w3.heap.size := World.block_lt_of_cell? w3 _ c3_0_0; have d3_0 : ¬ (w.heap.size = w3.heap.size) := (by omega); have e3_0 : ¬ (w3.heap.size = w.heap.size) := (by omega); obtain ⟨c3_1_0, c3_1_1, c3_1_2, c3_1_3⟩ := K.c4 x3 (w.heap.size + 1) (.int .i64 0) (.int .i64 0) (.string ⟨#[]⟩) (.slice none 0 0) (by go_simp); obtain ⟨f3_1_0, f3_1_1, f3_1_2, f3_1_3⟩ := K.f4 x3 (w.heap.size + 1) (by go_simp); have z3_1 : w.heap.size + 1 < w3.heap.size := World.block_lt_of_cell? w3 _ c3_1_0; have d3_1 : ¬ (w.heap.size + 1 = w3.heap.size) := (by omega); have e3_1 : ¬ (w3.heap.size = w.heap.size + 1) := (by omega); have F1_3 := K.ints.ext (F1_1) x3; clear c1_0_0 c1_0_1 c1_0_2 c1_0_3 z1_0 d1_0 e1_0 c1_1_0 c1_1_1 c1_1_2 c1_1_3 f1_1_0 f1_1_1 f1_1_2 f1_1_3 z1_1 d1_1 e1_1 F1_1)
      rw [HE.out]
      refine bodyPost_ret (v := .tuple #[.agg #[.int .i64 M.1.dg, .int .i64 M.1.tn, .string M.1.nm, .slice o3 M.1.pw.length k3], .int .i64 M.2]) (by unfold results; rw [Try.results30]; go_simp) rfl ⟨⟨_, rfl, ?_⟩, ?_⟩
      · refine K.own.mono (lo := w1.heap.size) (hi := w3.heap.size) ?_ (by first | omega | (simp; done) | (simp; omega)) (by first | omega | (simp; done) | (simp; omega))
        repeat' (first | with_reducible exact F2_3 | with_reducible refine K.own.set ?_ _ ?_ _ | with_reducible refine K.own.alloc ?_ _ | with_reducible refine K.own.drew ?_ | (dsimp only; omega) | omega | (simp; done) | (simp; omega))
      · repeat with_reducible refine K.Ext.setCell ?_ (by dsimp only; omega) _
        exact (by repeat' (first | with_reducible exact X3 | with_reducible refine K.Ext.setCell ?_ ?_ _ | with_reducible refine K.Ext.alloc ?_ _ | with_reducible refine K.Ext.drew ?_ | (dsimp only; omega) | omega | (simp; omega)))
end Go.Proofs.Ythmnlbgbacbocaa
end
section
namespace Go.Z
theorem letter_of {F : Fm} (h : isFormula F = true) {c : Int} (hn : ¬ expo (bs F.nm) F.pw c = 0) : ∃ m : Nat, m < 26 ∧ c = 97 + (m : Int) := by
  have hc : c ∈ bs F.nm := Classical.byContradiction fun hc => hn (expo_none hc)
  obtain ⟨j, hj, he⟩ := List.getElem_of_mem hc
  rw [bs_length] at hj
  obtain ⟨h1, h2, _⟩ := okAt_parts (valid_at h j hj)
  have he' : (bs F.nm).getD j 0 = c := by rw [← he]; simp [List.getD_eq_getElem?_getD, bs_length, hj]
  exact ⟨(c - 97).toNat, by omega, by omega⟩
end Go.Z
namespace Go.Proofs.Ythmnlbgbacbocaa
open Go.RowKit
end Go.Proofs.Ythmnlbgbacbocaa
end
