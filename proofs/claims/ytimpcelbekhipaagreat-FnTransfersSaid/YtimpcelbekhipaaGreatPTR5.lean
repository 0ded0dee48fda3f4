/-
  Part 5 of the texts of this claim: contracts of functions and plain mathematics.
-/
import Derived.Test.YtimpcelbekhipaaGreatPTR4
set_option linter.unusedVariables false
section
namespace Go.Z
/-- the number of the first figure whose upper logarithm is above u -/
def firstHigh (u : Int) : Int := firstN (fun n => u < (figLog (atN n)).2) (-270000) 549000
/-- the number of the first figure whose lower logarithm is at least u -/
def firstLow (u : Int) : Int := firstN (fun n => u ≤ (figLog (atN n)).1) (-270000) 549000
def below (u : Int) : Int × Int := atN (firstHigh u - 1)
def above (u : Int) : Int × Int := atN (firstLow u)
def units (u : Int) : Bool := decide (-31457280 ≤ u) && decide (u ≤ 31457280)
theorem units_iff (u : Int) : units u = true ↔ -31457280 ≤ u ∧ u ≤ 31457280 := by simp [units]
theorem firstHigh_is {u t : Int} (h1 : -270000 ≤ t) (h2 : t ≤ 279000) (h3 : t = 279000 ∨ u < (figLog (atN t)).2) (h4 : t = -270000 ∨ ¬ u < (figLog (atN (t - 1))).2) : firstHigh u = t := by
  unfold firstHigh
  refine (firstN_eq (fun n => u < (figLog (atN n)).2) (-270000) 549000 (fun i j hij hi => ?_) h1 (by omega) ?_ h4).symm
  · have := (figLog_mono hij).2; omega
  · rcases h3 with h3 | h3
    · left; omega
    · right; exact h3
theorem firstLow_is {u t : Int} (h1 : -270000 ≤ t) (h2 : t ≤ 279000) (h3 : t = 279000 ∨ u ≤ (figLog (atN t)).1) (h4 : t = -270000 ∨ ¬ u ≤ (figLog (atN (t - 1))).1) : firstLow u = t := by
  unfold firstLow
  refine (firstN_eq (fun n => u ≤ (figLog (atN n)).1) (-270000) 549000 (fun i j hij hi => ?_) h1 (by omega) ?_ h4).symm
  · have := (figLog_mono hij).1; omega
  · rcases h3 with h3 | h3
    · left; omega
    · right; exact h3
theorem firstHigh_bd (u : Int) : -270000 ≤ firstHigh u ∧ firstHigh u ≤ 279000 := by
  have h := firstN_spec (fun n => u < (figLog (atN n)).2) (-270000) 549000
  exact ⟨h.1, by have := h.2.1; unfold firstHigh; omega⟩
theorem firstLow_bd (u : Int) : -270000 ≤ firstLow u ∧ firstLow u ≤ 279000 := by
  have h := firstN_spec (fun n => u ≤ (figLog (atN n)).1) (-270000) 549000
  exact ⟨h.1, by have := h.2.1; unfold firstLow; omega⟩
theorem atN_at {i t : Int} (h0 : 0 ≤ i) (h1 : i < 9000) : atN (9000 * t + i) = (1000 + i, t) := by
  have a : (9000 * t + i) % 9000 = i := by omega
  have b : (9000 * t + i) / 9000 = t := by omega
  unfold atN; rw [a, b]
theorem log_1000 : (logOf 100000000).2 = 1 := by decide +kernel
theorem high_1000 (t : Int) : (figLog (1000, t)).2 = 1 + t * 1048576 := by
  have h := log_1000
  unfold figLog
  show (logOf 100000000).2 + t * 1048576 = _
  rw [h]
theorem low_1000 (t : Int) : t * 1048576 ≤ (figLog (1000, t)).1 := by
  have h := (logOf_in (x := 100000000) (by decide) (by decide)).1.1
  unfold figLog
  show _ ≤ (logOf 100000000).1 + t * 1048576
  omega
theorem low_9999 (t : Int) : (figLog (9999, t)).1 < (t + 1) * 1048576 := by
  have h := (logOf_in (x := 999900000) (by decide) (by decide)).1.2
  unfold figLog
  show (logOf 999900000).1 + t * 1048576 < _
  omega
theorem below_none {u : Int} (hu : units u = true) (ht : fl (u - 1) 1048576 < -30) : isFig (below u).1 (below u).2 = false := by
  obtain ⟨u1, u2⟩ := (units_iff u).1 hu
  obtain ⟨s1, s2⟩ := fl_spec (u - 1) 1048576 (by decide)
  generalize fl (u - 1) 1048576 = t at *
  have e : firstHigh u = -270000 := firstHigh_is (by decide) (by decide) (.inr (by
    have a : atN (-270000) = (1000, -30) := by decide
    rw [a, high_1000]; omega)) (.inl rfl)
  unfold below
  rw [e]
  decide
theorem below_at {u t : Int} {r : Nat} (hu : units u = true) (ht : t = fl (u - 1) 1048576) (h30 : ¬ t < -30) (hr : r ≤ 9000) (h3 : r = 9000 ∨ u < (figLog (1000 + (r : Int), t)).2) (h4 : r = 0 ∨ ¬ u < (figLog (1000 + ((r - 1 : Nat) : Int), t)).2) :
    below u = (999 + (r : Int), t) ∧ isFig (999 + (r : Int)) t = true := by
  obtain ⟨u1, u2⟩ := (units_iff u).1 hu
  obtain ⟨s1, s2⟩ := fl_spec (u - 1) 1048576 (by decide)
  rw [← ht] at s1 s2
  have hr0 : r ≠ 0 := by
    rintro rfl
    rcases h3 with h3 | h3
    · omega
    · have a : (1000 : Int) + ((0 : Nat) : Int) = 1000 := by omega
      rw [a, high_1000] at h3; omega
  have e : firstHigh u = 9000 * t + r := by
    refine firstHigh_is (by omega) (by omega) ?_ ?_
    · right
      rcases h3 with h3 | h3
      · have a : 9000 * t + (r : Int) = 9000 * (t + 1) + 0 := by omega
        rw [a, atN_at (by decide) (by decide)]
        show _ < (figLog (1000, t + 1)).2
        rw [high_1000]; omega
      · by_cases h9 : r = 9000
        · have a : 9000 * t + (r : Int) = 9000 * (t + 1) + 0 := by omega
          rw [a, atN_at (by decide) (by decide)]
          show _ < (figLog (1000, t + 1)).2
          rw [high_1000]; omega
        · rw [atN_at (by omega) (by omega)]; exact h3
    · right
      rcases h4 with h4 | h4
      · exact absurd h4 hr0
      · have a : 9000 * t + (r : Int) - 1 = 9000 * t + ((r - 1 : Nat) : Int) := by omega
        rw [a, atN_at (by omega) (by omega)]; exact h4
  refine ⟨?_, ?_⟩
  · unfold below
    rw [e]
    have a : 9000 * t + (r : Int) - 1 = 9000 * t + ((r - 1 : Nat) : Int) := by omega
    rw [a, atN_at (by omega) (by omega)]
    have b : (1000 : Int) + ((r - 1 : Nat) : Int) = 999 + (r : Int) := by omega
    rw [b]
  · simp only [isFig, Bool.and_eq_true, decide_eq_true_eq]; omega
theorem above_at {u t : Int} {r : Nat} (hu : units u = true) (ht : t = fl u 1048576) (hr : r ≤ 9000) (h3 : r = 9000 ∨ u ≤ (figLog (1000 + (r : Int), t)).1) (h4 : r = 0 ∨ ¬ u ≤ (figLog (1000 + ((r - 1 : Nat) : Int), t)).1) :
    above u = if r = 9000 then (1000, t + 1) else (1000 + (r : Int), t) := by
  obtain ⟨u1, u2⟩ := (units_iff u).1 hu
  obtain ⟨s1, s2⟩ := fl_spec u 1048576 (by decide)
  rw [← ht] at s1 s2
  have e : firstLow u = 9000 * t + r := by
    refine firstLow_is (by omega) (by omega) ?_ ?_
    · by_cases h9 : r = 9000
      · by_cases ht30 : t = 30
        · left; omega
        · right
          have a : 9000 * t + (r : Int) = 9000 * (t + 1) + 0 := by omega
          rw [a, atN_at (by decide) (by decide)]
          have := low_1000 (t + 1)
          show _ ≤ (figLog (1000, t + 1)).1
          omega
      · right
        rcases h3 with h3 | h3
        · exact absurd h3 h9
        · rw [atN_at (by omega) (by omega)]; exact h3
    · by_cases h0 : r = 0
      · by_cases ht30 : t = -30
        · left; omega
        · right
          have a : 9000 * t + (r : Int) - 1 = 9000 * (t - 1) + 8999 := by omega
          rw [a, atN_at (by decide) (by decide)]
          have := low_9999 (t - 1)
          show ¬ _ ≤ (figLog (9999, t - 1)).1
          omega
      · right
        rcases h4 with h4 | h4
        · exact absurd h4 h0
        · have a : 9000 * t + (r : Int) - 1 = 9000 * t + ((r - 1 : Nat) : Int) := by omega
          rw [a, atN_at (by omega) (by omega)]; exact h4
  unfold above
  rw [e]
  split
  · rename_i h9
    have a : 9000 * t + (r : Int) = 9000 * (t + 1) + 0 := by omega
    rw [a, atN_at (by decide) (by decide)]
    rfl
  · rename_i h9
    exact atN_at (by omega) (by omega)
def belowOr (u : Int) : (Int × Int) × Bool := if isFig (below u).1 (below u).2 then (below u, true) else ((0, 0), false)
def aboveOr (u : Int) : (Int × Int) × Bool := (above u, isFig (above u).1 (above u).2)
def spanOf (a : Int × Int) : (Int × Int) × (Int × Int) × Int :=
  if units a.1 && units a.2 then (if isFig (below a.1).1 (below a.1).2 && isFig (above a.2).1 (above a.2).2 then (below a.1, above a.2, 0) else ((0, 0), (0, 0), 4)) else ((0, 0), (0, 0), 2)
end Go.Z
namespace Go.Proofs.YtimpcelbekhipaaGreat
open Go.RowKit
theorem field_iv1 (w : World) (a b : Int) : (Instr.field 82 (.agg #[.int .i64 a, .int .i64 b]) 1).run Tryz.prog w = .ok (.int .i64 b) w := by kernel_rfl
theorem field_iv0 (w : World) (a b : Int) : (Instr.field 82 (.agg #[.int .i64 a, .int .i64 b]) 0).run Tryz.prog w = .ok (.int .i64 a) w := by kernel_rfl
set_option maxHeartbeats 1600000 in
theorem below_f (i : Int) (t : Int) (bt : Nat) (u : Int) (bu : Nat)  (w : World) (i0 : 0 ≤ i ∧ i ≤ 8999) (ht : -30 ≤ t ∧ t ≤ 30) (r : Int × Int) (hr : Hid (r = Z.figLog (1000 + i, t))) (hd : ¬ (bt = bu)) (kt0 : w.cell? ⟨bt, 0, none⟩ = some (.int .i64 t)) (ku0 : w.cell? ⟨bu, 0, none⟩ = some (.int .i64 u)) :
    Calls Tryz.prog 140 #[.int .i64 i, .pointer (some ⟨bt, 0, none⟩), .pointer (some ⟨bu, 0, none⟩)] w fun e w' => e = .returned (.bool (decide (u < r.2))) ∧ K.Ext w w' := by
  have HR : ∀ w : World, Calls Tryz.prog 63 #[.agg #[.int .i64 (1000 + i), .int .i64 t]] w fun e w' => e = .returned (.agg #[.int .i64 r.1, .int .i64 r.2]) ∧ K.Ext w w' := fun w => by rw [hr.out]; exact figureLog_any (1000 + i, t) w (by simp only [Z.isFig, Bool.and_eq_true, decide_eq_true_eq]; omega)
  have q1 : IntKind.i64.wrap (1000 + i) = 1000 + i := IntWalk.i64_in _ (by omega)
  clear hr
  have lbt : bt < w.heap.size := World.block_lt_of_cell? w _ kt0
  have nat0 : ¬ (bt = w.heap.size) := (by omega)
  have nbt0 : ¬ (w.heap.size = bt) := (by omega)
  have nat1 : ¬ (bt = w.heap.size + 1) := (by omega)
  have nbt1 : ¬ (w.heap.size + 1 = bt) := (by omega)
  have nat2 : ¬ (bt = w.heap.size + 1 + 1) := (by omega)
  have nbt2 : ¬ (w.heap.size + 1 + 1 = bt) := (by omega)
  have nat3 : ¬ (bt = w.heap.size + 1 + 1 + 1) := (by omega)
  have nbt3 : ¬ (w.heap.size + 1 + 1 + 1 = bt) := (by omega)
  have lbu : bu < w.heap.size := World.block_lt_of_cell? w _ ku0
  have nau0 : ¬ (bu = w.heap.size) := (by omega)
  have nbu0 : ¬ (w.heap.size = bu) := (by omega)
  have nau1 : ¬ (bu = w.heap.size + 1) := (by omega)
  have nbu1 : ¬ (w.heap.size + 1 = bu) := (by omega)
  have nau2 : ¬ (bu = w.heap.size + 1 + 1) := (by omega)
  have nbu2 : ¬ (w.heap.size + 1 + 1 = bu) := (by omega)
  have nau3 : ¬ (bu = w.heap.size + 1 + 1 + 1) := (by omega)
  have nbu3 : ¬ (w.heap.size + 1 + 1 + 1 = bu) := (by omega)
  have X0 : K.Ext w w := K.Ext.refl w
  go_enter Tryz.func140, Tryz.ntmps140
  go_wp2_with fail
  refine K.wp_region_x 8 [0, 0, 1, 0, 2, 2, 1, 2] [K.SP.any, K.SP.any, K.SP.any, K.SP.any, K.SP.is (.agg #[.int .i64 r.1, .int .i64 r.2]), K.SP.is (.int .i64 r.2), K.SP.any, K.SP.is (.bool (decide (u < r.2)))] (by kernel_rfl) (by kernel_rfl) ?_
  simp only [List.take_succ_cons, List.take_zero, List.drop_succ_cons, List.drop_zero]
  iterate 2
    refine K.xp ?_
    simp only [Act.put, List.setIfInBounds_toArray, List.set]
  refine K.xh ?_
  simp only [Act.put, List.setIfInBounds_toArray, List.set]
  refine K.xp ?_
  simp only [Act.put, List.setIfInBounds_toArray, List.set]
  apply K.x_call_is
  · rfl
  · rfl
  · rfl
  · intro w'; go_simp; first | done | rfl | exact ⟨rfl, rfl⟩
  · intro w' hx hp; have hc := hx.all.1.1; have hf := hx.all.1.2; have hc' := hx.all.2.1; have hf' := hx.all.2.2; exact HR _
  intro w_4_ hx_4_
  simp only [Act.put, List.setIfInBounds_toArray, List.set]
  apply K.x_op_is
  · rfl
  · rfl
  · rfl
  · intro w' hx hp; have hc := hx.all.1.1; have hf := hx.all.1.2; have hc' := hx.all.2.1; have hf' := hx.all.2.2; have hfi := field_iv1; go_simp; first | done | rfl
  intro w_5_ hx_5_
  simp only [Act.put, List.setIfInBounds_toArray, List.set]
  refine K.xh ?_
  simp only [Act.put, List.setIfInBounds_toArray, List.set]
  apply K.x_op_is
  · rfl
  · rfl
  · rfl
  · intro w' hx hp; have hc := hx.all.1.1; have hf := hx.all.1.2; have hc' := hx.all.2.1; have hf' := hx.all.2.2; go_simp; first | done | rfl
  intro w_7_ hx_7_
  simp only [Act.put, List.setIfInBounds_toArray, List.set]
  apply K.x_done
  intro w1 h_x
  have x1 := hx_4_.trans (hx_5_.trans (hx_7_.trans h_x))
  clear h_x hx_4_ hx_5_ hx_7_
  obtain ⟨⟨hcw1, hfw1⟩, hc'w1, hf'w1⟩ := x1.all
  have s1 : w.heap.size ≤ w1.heap.size := (by have h_ := x1.size; (try simp at h_); omega)
  have X1 := K.Ext.trans (K.Ext.drew (X0)) x1
  have c1_0_0 := K.c1 x1 (bt) (.int .i64 t) (by go_simp)
  have z1_0 : bt < w1.heap.size := World.block_lt_of_cell? w1 _ c1_0_0
  have d1_0 : ¬ (bt = w1.heap.size) := (by omega)
  have e1_0 : ¬ (w1.heap.size = bt) := (by omega)
  have c1_1_0 := K.c1 x1 (bu) (.int .i64 u) (by go_simp)
  have z1_1 : bu < w1.heap.size := World.block_lt_of_cell? w1 _ c1_1_0
  have d1_1 : ¬ (bu = w1.heap.size) := (by omega)
  have e1_1 : ¬ (w1.heap.size = bu) := (by omega)
  have n1_0 : ¬ (bu = bt) := (by omega)
  have n0_1 : ¬ (bt = bu) := (by omega)
  go_wp2_with fail
  refine NoPanic.normal ?_
  go_wp2_with fail
  refine bodyPost_ret (v := .bool (decide (u < r.2))) (by unfold results; rw [Tryz.results140]; go_simp) rfl ⟨rfl, ?_⟩
  repeat with_reducible refine K.Ext.setCell ?_ (by dsimp only; omega) _
  exact (by repeat' (first | with_reducible exact X1 | with_reducible refine K.Ext.setCell ?_ ?_ _ | with_reducible refine K.Ext.alloc ?_ _ | with_reducible refine K.Ext.drew ?_ | (dsimp only; omega) | omega | (simp; omega)))
set_option maxHeartbeats 1600000 in
theorem above_f (i : Int) (t : Int) (bt : Nat) (u : Int) (bu : Nat)  (w : World) (i0 : 0 ≤ i ∧ i ≤ 8999) (ht : -30 ≤ t ∧ t ≤ 30) (r : Int × Int) (hr : Hid (r = Z.figLog (1000 + i, t))) (hd : ¬ (bt = bu)) (kt0 : w.cell? ⟨bt, 0, none⟩ = some (.int .i64 t)) (ku0 : w.cell? ⟨bu, 0, none⟩ = some (.int .i64 u)) :
    Calls Tryz.prog 141 #[.int .i64 i, .pointer (some ⟨bt, 0, none⟩), .pointer (some ⟨bu, 0, none⟩)] w fun e w' => e = .returned (.bool (decide (u ≤ r.1))) ∧ K.Ext w w' := by
  have HR : ∀ w : World, Calls Tryz.prog 63 #[.agg #[.int .i64 (1000 + i), .int .i64 t]] w fun e w' => e = .returned (.agg #[.int .i64 r.1, .int .i64 r.2]) ∧ K.Ext w w' := fun w => by rw [hr.out]; exact figureLog_any (1000 + i, t) w (by simp only [Z.isFig, Bool.and_eq_true, decide_eq_true_eq]; omega)
  have q1 : IntKind.i64.wrap (1000 + i) = 1000 + i := IntWalk.i64_in _ (by omega)
  clear hr
  have lbt : bt < w.heap.size := World.block_lt_of_cell? w _ kt0
  have nat0 : ¬ (bt = w.heap.size) := (by omega)
  have nbt0 : ¬ (w.heap.size = bt) := (by omega)
  have nat1 : ¬ (bt = w.heap.size + 1) := (by omega)
  have nbt1 : ¬ (w.heap.size + 1 = bt) := (by omega)
  have nat2 : ¬ (bt = w.heap.size + 1 + 1) := (by omega)
  have nbt2 : ¬ (w.heap.size + 1 + 1 = bt) := (by omega)
  have nat3 : ¬ (bt = w.heap.size + 1 + 1 + 1) := (by omega)
  have nbt3 : ¬ (w.heap.size + 1 + 1 + 1 = bt) := (by omega)
  have lbu : bu < w.heap.size := World.block_lt_of_cell? w _ ku0
  have nau0 : ¬ (bu = w.heap.size) := (by omega)
  have nbu0 : ¬ (w.heap.size = bu) := (by omega)
  have nau1 : ¬ (bu = w.heap.size + 1) := (by omega)
  have nbu1 : ¬ (w.heap.size + 1 = bu) := (by omega)
  have nau2 : ¬ (bu = w.heap.size + 1 + 1) := (by omega)
  have nbu2 : ¬ (w.heap.size + 1 + 1 = bu) := (by omega)
  have nau3 : ¬ (bu = w.heap.size + 1 + 1 + 1) := (by omega)
  have nbu3 : ¬ (w.heap.size + 1 + 1 + 1 = bu) := (by omega)
  have X0 : K.Ext w w := K.Ext.refl w
  go_enter Tryz.func141, Tryz.ntmps141
  go_wp2_with fail
  refine K.wp_region_x 8 [0, 0, 1, 0, 2, 2, 1, 2] [K.SP.any, K.SP.any, K.SP.any, K.SP.any, K.SP.is (.agg #[.int .i64 r.1, .int .i64 r.2]), K.SP.is (.int .i64 r.1), K.SP.any, K.SP.is (.bool (decide (u ≤ r.1)))] (by kernel_rfl) (by kernel_rfl) ?_
  simp only [List.take_succ_cons, List.take_zero, List.drop_succ_cons, List.drop_zero]
  iterate 2
    refine K.xp ?_
    simp only [Act.put, List.setIfInBounds_toArray, List.set]
  refine K.xh ?_
  simp only [Act.put, List.setIfInBounds_toArray, List.set]
  refine K.xp ?_
  simp only [Act.put, List.setIfInBounds_toArray, List.set]
  apply K.x_call_is
  · rfl
  · rfl
  · rfl
  · intro w'; go_simp; first | done | rfl | exact ⟨rfl, rfl⟩
  · intro w' hx hp; have hc := hx.all.1.1; have hf := hx.all.1.2; have hc' := hx.all.2.1; have hf' := hx.all.2.2; exact HR _
  intro w_4_ hx_4_
  simp only [Act.put, List.setIfInBounds_toArray, List.set]
  apply K.x_op_is
  · rfl
  · rfl
  · rfl
  · intro w' hx hp; have hc := hx.all.1.1; have hf := hx.all.1.2; have hc' := hx.all.2.1; have hf' := hx.all.2.2; have hfi := field_iv0; go_simp; first | done | rfl
  intro w_5_ hx_5_
  simp only [Act.put, List.setIfInBounds_toArray, List.set]
  refine K.xh ?_
  simp only [Act.put, List.setIfInBounds_toArray, List.set]
  apply K.x_op_is
  · rfl
  · rfl
  · rfl
  · intro w' hx hp; have hc := hx.all.1.1; have hf := hx.all.1.2; have hc' := hx.all.2.1; have hf' := hx.all.2.2; go_simp; first | done | rfl
  intro w_7_ hx_7_
  simp only [Act.put, List.setIfInBounds_toArray, List.set]
  apply K.x_done
  intro w1 h_x
  have x1 := hx_4_.trans (hx_5_.trans (hx_7_.trans h_x))
  clear h_x hx_4_ hx_5_ hx_7_
  obtain ⟨⟨hcw1, hfw1⟩, hc'w1, hf'w1⟩ := x1.all
  have s1 : w.heap.size ≤ w1.heap.size := (by have h_ := x1.size; (try simp at h_); omega)
  have X1 := K.Ext.trans (K.Ext.drew (X0)) x1
  have c1_0_0 := K.c1 x1 (bt) (.int .i64 t) (by go_simp)
  have z1_0 : bt < w1.heap.size := World.block_lt_of_cell? w1 _ c1_0_0
  have d1_0 : ¬ (bt = w1.heap.size) := (by omega)
  have e1_0 : ¬ (w1.heap.size = bt) := (by omega)
  have c1_1_0 := K.c1 x1 (bu) (.int .i64 u) (by go_simp)
  have z1_1 : bu < w1.heap.size := World.block_lt_of_cell? w1 _ c1_1_0
  have d1_1 : ¬ (bu = w1.heap.size) := (by omega)
  have e1_1 : ¬ (w1.heap.size = bu) := (by omega)
  have n1_0 : ¬ (bu = bt) := (by omega)
  have n0_1 : ¬ (bt = bu) := (by omega)
  go_wp2_with fail
  refine NoPanic.normal ?_
  go_wp2_with fail
  refine bodyPost_ret (v := .bool (decide (u ≤ r.1))) (by unfold results; rw [Tryz.results141]; go_simp) rfl ⟨rfl, ?_⟩
  repeat with_reducible refine K.Ext.setCell ?_ (by dsimp only; omega) _
  exact (by repeat' (first | with_reducible exact X1 | with_reducible refine K.Ext.setCell ?_ ?_ _ | with_reducible refine K.Ext.alloc ?_ _ | with_reducible refine K.Ext.drew ?_ | (dsimp only; omega) | omega | (simp; omega)))
set_option maxRecDepth 100000 in
set_option maxHeartbeats 3200000 in
theorem figureBelow_any (u : Int)  (w : World) (hu : Z.units u = true) (B : (Int × Int) × Bool) (HB : Hid (Z.belowOr u = B))  :
    Calls Tryz.prog 123 #[.int .i64 u] w fun e w' => e = .returned (.tuple #[.agg #[.int .i64 B.1.1, .int .i64 B.1.2], .bool B.2]) ∧ K.Ext w w' := by
  obtain ⟨u1, u2⟩ := (Z.units_iff u).1 hu
  obtain ⟨t, ht⟩ : ∃ t, t = Z.fl (u - 1) 1048576 := ⟨_, rfl⟩
  obtain ⟨t1, t2⟩ := Z.fl_spec (u - 1) 1048576 (by decide)
  rw [← ht] at t1 t2
  have HD : ∀ w : World, Calls Tryz.prog 91 #[.int .i64 (u - 1), .int .i64 1048576] w fun e w' => e = .returned (.int .i64 t) ∧ w = w' := fun w => by rw [ht]; exact down_any (u - 1) 1048576 w (by decide) (by omega) (by omega)
  have q1 : IntKind.i64.wrap (u - 1) = u - 1 := IntWalk.i64_in _ (by omega)
  by_cases h30 : t < -30
  · have HE : Hid (B = ((0, 0), false)) := Z.hide (by rw [← HB.out]; unfold Z.belowOr; rw [Z.below_none hu (by rw [← ht]; exact h30)]; rfl)
    clear ht
    have X0 : K.Ext w w := K.Ext.refl w
    go_enter Tryz.func123, Tryz.ntmps123
    go_wp2_with (go_at_call 91; refine K.call (by with_reducible rfl) (by with_reducible rfl) (HD _) ?_; rintro e w_ ⟨rfl, rfl⟩)
    rw [HE.out]
    refine bodyPost_ret (v := .tuple #[.agg #[.int .i64 0, .int .i64 0], .bool false]) (by unfold results; rw [Tryz.results123]; go_simp) rfl ⟨rfl, ?_⟩
    repeat with_reducible refine K.Ext.setCell ?_ (by dsimp only; omega) _
    exact (by repeat' (first | with_reducible exact X0 | with_reducible refine K.Ext.setCell ?_ ?_ _ | with_reducible refine K.Ext.alloc ?_ _ | with_reducible refine K.Ext.drew ?_ | (dsimp only; omega) | omega | (simp; omega)))
  · obtain ⟨r, hr⟩ : ∃ r, r = srchN (fun i => decide (u < (Z.figLog (1000 + (i : Int), t)).2)) 9000 := ⟨_, rfl⟩
    have t3 : -30 ≤ t ∧ t ≤ 30 := by omega
    obtain ⟨r1, r2, r3⟩ := srchN_spec (fun i => decide (u < (Z.figLog (1000 + (i : Int), t)).2)) 9000 (fun i j hij hj h => by
      have a := (Z.figLog_mono (n := 9000 * t + i) (m := 9000 * t + j) (by omega)).2
      rw [Z.atN_at (by omega) (by omega), Z.atN_at (by omega) (by omega)] at a
      simp only [decide_eq_true_eq] at h ⊢
      omega)
    rw [← hr] at r1 r2 r3
    have hb := Z.below_at hu ht h30 r1 (by simpa using r2) (by simpa using r3)
    have HE : Hid (B = ((999 + (r : Int), t), true)) := Z.hide (by rw [← HB.out]; unfold Z.belowOr; rw [hb.1]; dsimp only; rw [hb.2]; rfl)
    have HS : ∀ {a b : Nat} (w : World), ¬ (a = b) → w.cell? ⟨a, 0, none⟩ = some (.int .i64 t) → w.cell? ⟨b, 0, none⟩ = some (.int .i64 u) → Calls Tryz.prog 113 #[.int .i64 9000, .func (.func 140) #[] #[.pointer (some ⟨a, 0, none⟩), .pointer (some ⟨b, 0, none⟩)]] w fun e w' => e = .returned (.int .i64 (r : Int)) ∧ K.Ext w w' := fun w hne ha hb => by
      rw [hr]
      exact Search_is (fun i => decide (u < (Z.figLog (1000 + (i : Int), t)).2)) 140 _ _ 9000 w (by decide) (fun args w' => by go_simp) (fun i j hij hj h => by
        have a := (Z.figLog_mono (n := 9000 * t + i) (m := 9000 * t + j) (by omega)).2
        rw [Z.atN_at (by omega) (by omega), Z.atN_at (by omega) (by omega)] at a
        simp only [decide_eq_true_eq] at h ⊢
        omega) (fun i w' hi hx => below_f i t _ u _ w' ⟨by omega, by omega⟩ t3 _ (Z.hide rfl) hne (hx.cell_of ha) (hx.cell_of hb))
    have q2 : IntKind.i64.wrap (999 + (r : Int)) = 999 + (r : Int) := IntWalk.i64_in _ (by omega)
    clear hb hr r2 r3 ht
    have X0 : K.Ext w w := K.Ext.refl w
    go_enter Tryz.func123, Tryz.ntmps123
    go_wp2_with (go_at_call 91; refine K.call (by with_reducible rfl) (by with_reducible rfl) (HD _) ?_; rintro e w_ ⟨rfl, rfl⟩)
    go_wp2_with (go_at_call 113; refine K.call (by with_reducible rfl) (by with_reducible rfl) (HS _ (by omega) (by go_simp) (by go_simp)) ?_; rintro e w2 ⟨rfl, x2⟩; have s2 : w.heap.size + 3 ≤ w2.heap.size := (by have h_ := x2.size; (try simp at h_); omega); have X2 : K.Ext w w2 := K.Ext.trans (by repeat' (first | with_reducible exact X0 | with_reducible refine K.Ext.setCell ?_ ?_ _ | with_reducible refine K.Ext.alloc ?_ _ | with_reducible refine K.Ext.drew ?_ | (dsimp only; omega) | omega | (simp; omega))) x2; have c2_0_0 := K.c1 x2 (w.heap.size) (.int .i64 u) (by go_simp); have z2_0 : w.heap.size < w2.heap.size := World.block_lt_of_cell? w2 _ c2_0_0; have d2_0 : ¬ (w.heap.size = w2.heap.size) := (by omega); have e2_0 : ¬ (w2.heap.size = w.heap.size) := (by omega); obtain ⟨c2_1_0, c2_1_1⟩ := K.c2 x2 (w.heap.size + 1) (.int .i64 0) (.int .i64 0) (by go_simp); obtain ⟨f2_1_0, f2_1_1⟩ := K.f2 x2 (w.heap.size + 1) (by go_simp); have z2_1 : w.heap.size + 1 < w2.heap.size := World.block_lt_of_cell? w2 _ c2_1_0; have d2_1 : ¬ (w.heap.size + 1 = w2.heap.size) := (by omega); have e2_1 : ¬ (w2.heap.size = w.heap.size + 1) := (by omega); have n1_0 : ¬ (w.heap.size + 1 = w.heap.size) := (by omega); have n0_1 : ¬ (w.heap.size = w.heap.size + 1) := (by omega); have c2_2_0 := K.c1 x2 (w.heap.size + 1 + 1) (.int .i64 t) (by go_simp); have f2_2_0 := K.f1 x2 (w.heap.size + 1 + 1) (by go_simp); have z2_2 : w.heap.size + 1 + 1 < w2.heap.size := World.block_lt_of_cell? w2 _ c2_2_0; have d2_2 : ¬ (w.heap.size + 1 + 1 = w2.heap.size) := (by omega); have e2_2 : ¬ (w2.heap.size = w.heap.size + 1 + 1) := (by omega); have n2_0 : ¬ (w.heap.size + 1 + 1 = w.heap.size) := (by omega); have n0_2 : ¬ (w.heap.size = w.heap.size + 1 + 1) := (by omega); have n2_1 : ¬ (w.heap.size + 1 + 1 = w.heap.size + 1) := (by omega); have n1_2 : ¬ (w.heap.size + 1 = w.heap.size + 1 + 1) := (by omega))
    rw [HE.out]
    refine bodyPost_ret (v := .tuple #[.agg #[.int .i64 (999 + (r : Int)), .int .i64 t], .bool true]) (by unfold results; rw [Tryz.results123]; go_simp) rfl ⟨rfl, ?_⟩
    repeat with_reducible refine K.Ext.setCell ?_ (by dsimp only; omega) _
    exact (by repeat' (first | with_reducible exact X2 | with_reducible refine K.Ext.setCell ?_ ?_ _ | with_reducible refine K.Ext.alloc ?_ _ | with_reducible refine K.Ext.drew ?_ | (dsimp only; omega) | omega | (simp; omega)))
set_option maxHeartbeats 3200000 in
theorem figureAbove_any (u : Int)  (w : World) (hu : Z.units u = true) (B : (Int × Int) × Bool) (HB : Hid (Z.aboveOr u = B))  :
    Calls Tryz.prog 124 #[.int .i64 u] w fun e w' => e = .returned (.tuple #[.agg #[.int .i64 B.1.1, .int .i64 B.1.2], .bool B.2]) ∧ K.Ext w w' := by
  obtain ⟨u1, u2⟩ := (Z.units_iff u).1 hu
  obtain ⟨t, ht⟩ : ∃ t, t = Z.fl u 1048576 := ⟨_, rfl⟩
  obtain ⟨t1, t2⟩ := Z.fl_spec u 1048576 (by decide)
  rw [← ht] at t1 t2
  have HD : ∀ w : World, Calls Tryz.prog 91 #[.int .i64 u, .int .i64 1048576] w fun e w' => e = .returned (.int .i64 t) ∧ w = w' := fun w => by rw [ht]; exact down_any u 1048576 w (by decide) (by omega) (by omega)
  obtain ⟨r, hr⟩ : ∃ r, r = srchN (fun i => decide (u ≤ (Z.figLog (1000 + (i : Int), t)).1)) 9000 := ⟨_, rfl⟩
  have t3 : -30 ≤ t ∧ t ≤ 30 := by omega
  obtain ⟨r1, r2, r3⟩ := srchN_spec (fun i => decide (u ≤ (Z.figLog (1000 + (i : Int), t)).1)) 9000 (fun i j hij hj h => by
    have a := (Z.figLog_mono (n := 9000 * t + i) (m := 9000 * t + j) (by omega)).1
    rw [Z.atN_at (by omega) (by omega), Z.atN_at (by omega) (by omega)] at a
    simp only [decide_eq_true_eq] at h ⊢
    omega)
  rw [← hr] at r1 r2 r3
  have hb := Z.above_at hu ht r1 (by simpa using r2) (by simpa using r3)
  have HS : ∀ {a b : Nat} (w : World), ¬ (a = b) → w.cell? ⟨a, 0, none⟩ = some (.int .i64 t) → w.cell? ⟨b, 0, none⟩ = some (.int .i64 u) → Calls Tryz.prog 113 #[.int .i64 9000, .func (.func 141) #[] #[.pointer (some ⟨a, 0, none⟩), .pointer (some ⟨b, 0, none⟩)]] w fun e w' => e = .returned (.int .i64 (r : Int)) ∧ K.Ext w w' := fun w hne ha hb => by
    rw [hr]
    exact Search_is (fun i => decide (u ≤ (Z.figLog (1000 + (i : Int), t)).1)) 141 _ _ 9000 w (by decide) (fun args w' => by go_simp) (fun i j hij hj h => by
      have a := (Z.figLog_mono (n := 9000 * t + i) (m := 9000 * t + j) (by omega)).1
      rw [Z.atN_at (by omega) (by omega), Z.atN_at (by omega) (by omega)] at a
      simp only [decide_eq_true_eq] at h ⊢
      omega) (fun i w' hi hx => above_f i t _ u _ w' ⟨by omega, by omega⟩ t3 _ (Z.hide rfl) hne (hx.cell_of ha) (hx.cell_of hb))
  have q2 : IntKind.i64.wrap (1000 + (r : Int)) = 1000 + (r : Int) := IntWalk.i64_in _ (by omega)
  have q3 : IntKind.i64.wrap (t + 1) = t + 1 := IntWalk.i64_in _ (by omega)
  by_cases h9 : r = 9000
  · rw [if_pos h9] at hb
    have HE : Hid (B = ((1000, t + 1), Z.isFig 1000 (t + 1))) := Z.hide (by rw [← HB.out]; unfold Z.aboveOr; rw [hb])
    have h9' : (r : Int) = 9000 := by omega
    clear hb hr r2 r3 ht
    have X0 : K.Ext w w := K.Ext.refl w
    go_enter Tryz.func124, Tryz.ntmps124
    go_wp2_with (go_at_call 91; refine K.call (by with_reducible rfl) (by with_reducible rfl) (HD _) ?_; rintro e w_ ⟨rfl, rfl⟩)
    go_wp2_with (go_at_call 113; refine K.call (by with_reducible rfl) (by with_reducible rfl) (HS _ (by omega) (by go_simp) (by go_simp)) ?_; rintro e w2 ⟨rfl, x2⟩; have s2 : w.heap.size + 3 ≤ w2.heap.size := (by have h_ := x2.size; (try simp at h_); omega); have X2 := K.Ext.trans (K.Ext.alloc (K.Ext.alloc (K.Ext.alloc X0 _) _) _) x2; have c2_0_0 := K.c1 x2 (w.heap.size) (.int .i64 u) (by go_simp); have z2_0 : w.heap.size < w2.heap.size := World.block_lt_of_cell? w2 _ c2_0_0; have d2_0 : ¬ (w.heap.size = w2.heap.size) := (by omega); have e2_0 : ¬ (w2.heap.size = w.heap.size) := (by omega); obtain ⟨c2_1_0, c2_1_1⟩ := K.c2 x2 (w.heap.size + 1) (.int .i64 0) (.int .i64 0) (by go_simp); obtain ⟨f2_1_0, f2_1_1⟩ := K.f2 x2 (w.heap.size + 1) (by go_simp); have z2_1 : w.heap.size + 1 < w2.heap.size := World.block_lt_of_cell? w2 _ c2_1_0; have d2_1 : ¬ (w.heap.size + 1 = w2.heap.size) := (by omega); have e2_1 : ¬ (w2.heap.size = w.heap.size + 1) := (by omega); have n1_0 : ¬ (w.heap.size + 1 = w.heap.size) := (by omega); have n0_1 : ¬ (w.heap.size = w.heap.size + 1) := (by omega); have c2_2_0 := K.c1 x2 (w.heap.size + 1 + 1) (.int .i64 t) (by go_simp); have f2_2_0 := K.f1 x2 (w.heap.size + 1 + 1) (by go_simp); have z2_2 : w.heap.size + 1 + 1 < w2.heap.size := World.block_lt_of_cell? w2 _ c2_2_0; have d2_2 : ¬ (w.heap.size + 1 + 1 = w2.heap.size) := (by omega); have e2_2 : ¬ (w2.heap.size = w.heap.size + 1 + 1) := (by omega); have n2_0 : ¬ (w.heap.size + 1 + 1 = w.heap.size) := (by omega); have n0_2 : ¬ (w.heap.size = w.heap.size + 1 + 1) := (by omega); have n2_1 : ¬ (w.heap.size + 1 + 1 = w.heap.size + 1) := (by omega); have n1_2 : ¬ (w.heap.size + 1 = w.heap.size + 1 + 1) := (by omega))
    go_wp2_with fail
    go_region_with (first | (go_at_call 71; refine K.call (by with_reducible rfl) (by with_reducible rfl) (impl_IsFigure 1000 (t + 1) _) ?_; rintro e w3 ⟨rfl, x3⟩; have s3 : w2.heap.size + 1 ≤ w3.heap.size := (by have h_ := x3.size; (try simp at h_); omega); have X3 : K.Ext w w3 := K.Ext.trans (by repeat' (first | with_reducible exact X2 | with_reducible refine K.Ext.setCell ?_ ?_ _ | with_reducible refine K.Ext.alloc ?_ _ | with_reducible refine K.Ext.drew ?_ | (dsimp only; omega) | omega | (simp; omega))) x3; have c3_0_0 := K.c1 x3 (w.heap.size) (.int .i64 u) (by go_simp); have z3_0 : w.heap.size < w3.heap.size := World.block_lt_of_cell? w3 _ c3_0_0; have d3_0 : ¬ (w.heap.size = w3.heap.size) := (by omega); have e3_0 : ¬ (w3.heap.size = w.heap.size) := (by omega); obtain ⟨c3_1_0, c3_1_1⟩ := K.c2 x3 (w.heap.size + 1) (.int .i64 0) (.int .i64 0) (by go_simp); obtain ⟨f3_1_0, f3_1_1⟩ := K.f2 x3 (w.heap.size + 1) (by go_simp); have z3_1 : w.heap.size + 1 < w3.heap.size := World.block_lt_of_cell? w3 _ c3_1_0; have d3_1 : ¬ (w.heap.size + 1 = w3.heap.size) := (by omega); have e3_1 : ¬ (w3.heap.size = w.heap.size + 1) := (by omega); have c3_2_0 := K.c1 x3 (w.heap.size + 1 + 1) (.int .i64 t) (by go_simp); have f3_2_0 := K.f1 x3 (w.heap.size + 1 + 1) (by go_simp); have z3_2 : w.heap.size + 1 + 1 < w3.heap.size := World.block_lt_of_cell? w3 _ c3_2_0; have d3_2 : ¬ (w.heap.size + 1 + 1 = w3.heap.size) := (by omega); have e3_2 : ¬ (w3.heap.size = w.heap.size + 1 + 1) := (by omega); obtain ⟨c3_3_0, c3_3_1⟩ := K.c2 x3 (w2.heap.size) (.int .i64 1000) (.int .i64 (t + 1)) (by go_simp); obtain ⟨f3_3_0, f3_3_1⟩ := K.f2 x3 (w2.heap.size) (by go_simp); have z3_3 : w2.heap.size < w3.heap.size := World.block_lt_of_cell? w3 _ c3_3_0; have d3_3 : ¬ (w2.heap.size = w3.heap.size) := (by omega); have e3_3 : ¬ (w3.heap.size = w2.heap.size) := (by omega); have n3_0 : ¬ (w2.heap.size = w.heap.size) := (by omega); have n0_3 : ¬ (w.heap.size = w2.heap.size) := (by omega); have n3_1 : ¬ (w2.heap.size = w.heap.size + 1) := (by omega); have n1_3 : ¬ (w.heap.size + 1 = w2.heap.size) := (by omega); have n3_2 : ¬ (w2.heap.size = w.heap.size + 1 + 1) := (by omega); have n2_3 : ¬ (w.heap.size + 1 + 1 = w2.heap.size) := (by omega); clear c2_0_0 z2_0 d2_0 e2_0 c2_1_0 c2_1_1 f2_1_0 f2_1_1 z2_1 d2_1 e2_1 c2_2_0 f2_2_0 z2_2 d2_2 e2_2))
    all_goals
      go_wp2_with fail
      rw [HE.out]
      refine bodyPost_ret (v := .tuple #[.agg #[.int .i64 1000, .int .i64 (t + 1)], .bool (Z.isFig 1000 (t + 1))]) (by unfold results; rw [Tryz.results124]; go_simp) rfl ⟨rfl, ?_⟩
      repeat with_reducible refine K.Ext.setCell ?_ (by dsimp only; omega) _
      exact (by repeat' (first | with_reducible exact X3 | with_reducible refine K.Ext.setCell ?_ ?_ _ | with_reducible refine K.Ext.alloc ?_ _ | with_reducible refine K.Ext.drew ?_ | (dsimp only; omega) | omega | (simp; omega)))
  · rw [if_neg h9] at hb
    have HE : Hid (B = ((1000 + (r : Int), t), Z.isFig (1000 + (r : Int)) t)) := Z.hide (by rw [← HB.out]; unfold Z.aboveOr; rw [hb])
    have h9' : ¬ ((r : Int) = 9000) := by omega
    clear hb hr r2 r3 ht
    have X0 : K.Ext w w := K.Ext.refl w
    go_enter Tryz.func124, Tryz.ntmps124
    go_wp2_with (go_at_call 91; refine K.call (by with_reducible rfl) (by with_reducible rfl) (HD _) ?_; rintro e w_ ⟨rfl, rfl⟩)
    go_wp2_with (go_at_call 113; refine K.call (by with_reducible rfl) (by with_reducible rfl) (HS _ (by omega) (by go_simp) (by go_simp)) ?_; rintro e w2 ⟨rfl, x2⟩; have s2 : w.heap.size + 3 ≤ w2.heap.size := (by have h_ := x2.size; (try simp at h_); omega); have X2 : K.Ext w w2 := K.Ext.trans (by repeat' (first | with_reducible exact X0 | with_reducible refine K.Ext.setCell ?_ ?_ _ | with_reducible refine K.Ext.alloc ?_ _ | with_reducible refine K.Ext.drew ?_ | (dsimp only; omega) | omega | (simp; omega))) x2; have c2_0_0 := K.c1 x2 (w.heap.size) (.int .i64 u) (by go_simp); have z2_0 : w.heap.size < w2.heap.size := World.block_lt_of_cell? w2 _ c2_0_0; have d2_0 : ¬ (w.heap.size = w2.heap.size) := (by omega); have e2_0 : ¬ (w2.heap.size = w.heap.size) := (by omega); obtain ⟨c2_1_0, c2_1_1⟩ := K.c2 x2 (w.heap.size + 1) (.int .i64 0) (.int .i64 0) (by go_simp); obtain ⟨f2_1_0, f2_1_1⟩ := K.f2 x2 (w.heap.size + 1) (by go_simp); have z2_1 : w.heap.size + 1 < w2.heap.size := World.block_lt_of_cell? w2 _ c2_1_0; have d2_1 : ¬ (w.heap.size + 1 = w2.heap.size) := (by omega); have e2_1 : ¬ (w2.heap.size = w.heap.size + 1) := (by omega); have n1_0 : ¬ (w.heap.size + 1 = w.heap.size) := (by omega); have n0_1 : ¬ (w.heap.size = w.heap.size + 1) := (by omega); have c2_2_0 := K.c1 x2 (w.heap.size + 1 + 1) (.int .i64 t) (by go_simp); have f2_2_0 := K.f1 x2 (w.heap.size + 1 + 1) (by go_simp); have z2_2 : w.heap.size + 1 + 1 < w2.heap.size := World.block_lt_of_cell? w2 _ c2_2_0; have d2_2 : ¬ (w.heap.size + 1 + 1 = w2.heap.size) := (by omega); have e2_2 : ¬ (w2.heap.size = w.heap.size + 1 + 1) := (by omega); have n2_0 : ¬ (w.heap.size + 1 + 1 = w.heap.size) := (by omega); have n0_2 : ¬ (w.heap.size = w.heap.size + 1 + 1) := (by omega); have n2_1 : ¬ (w.heap.size + 1 + 1 = w.heap.size + 1) := (by omega); have n1_2 : ¬ (w.heap.size + 1 = w.heap.size + 1 + 1) := (by omega))
    go_wp2_with fail
    go_region_with (first | (go_at_call 71; refine K.call (by with_reducible rfl) (by with_reducible rfl) (impl_IsFigure (1000 + (r : Int)) t _) ?_; rintro e w3 ⟨rfl, x3⟩; have s3 : w2.heap.size + 1 ≤ w3.heap.size := (by have h_ := x3.size; (try simp at h_); omega); have X3 : K.Ext w w3 := K.Ext.trans (by repeat' (first | with_reducible exact X2 | with_reducible refine K.Ext.setCell ?_ ?_ _ | with_reducible refine K.Ext.alloc ?_ _ | with_reducible refine K.Ext.drew ?_ | (dsimp only; omega) | omega | (simp; omega))) x3; have c3_0_0 := K.c1 x3 (w.heap.size) (.int .i64 u) (by go_simp); have z3_0 : w.heap.size < w3.heap.size := World.block_lt_of_cell? w3 _ c3_0_0; have d3_0 : ¬ (w.heap.size = w3.heap.size) := (by omega); have e3_0 : ¬ (w3.heap.size = w.heap.size) := (by omega); obtain ⟨c3_1_0, c3_1_1⟩ := K.c2 x3 (w.heap.size + 1) (.int .i64 0) (.int .i64 0) (by go_simp); obtain ⟨f3_1_0, f3_1_1⟩ := K.f2 x3 (w.heap.size + 1) (by go_simp); have z3_1 : w.heap.size + 1 < w3.heap.size := World.block_lt_of_cell? w3 _ c3_1_0; have d3_1 : ¬ (w.heap.size + 1 = w3.heap.size) := (by omega); have e3_1 : ¬ (w3.heap.size = w.heap.size + 1) := (by omega); have c3_2_0 := K.c1 x3 (w.heap.size + 1 + 1) (.int .i64 t) (by go_simp); have f3_2_0 := K.f1 x3 (w.heap.size + 1 + 1) (by go_simp); have z3_2 : w.heap.size + 1 + 1 < w3.heap.size := World.block_lt_of_cell? w3 _ c3_2_0; have d3_2 : ¬ (w.heap.size + 1 + 1 = w3.heap.size) := (by omega); have e3_2 : ¬ (w3.heap.size = w.heap.size + 1 + 1) := (by omega); obtain ⟨c3_3_0, c3_3_1⟩ := K.c2 x3 (w2.heap.size) (.int .i64 (1000 + (r : Int))) (.int .i64 t) (by go_simp); obtain ⟨f3_3_0, f3_3_1⟩ := K.f2 x3 (w2.heap.size) (by go_simp); have z3_3 : w2.heap.size < w3.heap.size := World.block_lt_of_cell? w3 _ c3_3_0; have d3_3 : ¬ (w2.heap.size = w3.heap.size) := (by omega); have e3_3 : ¬ (w3.heap.size = w2.heap.size) := (by omega); have n3_0 : ¬ (w2.heap.size = w.heap.size) := (by omega); have n0_3 : ¬ (w.heap.size = w2.heap.size) := (by omega); have n3_1 : ¬ (w2.heap.size = w.heap.size + 1) := (by omega); have n1_3 : ¬ (w.heap.size + 1 = w2.heap.size) := (by omega); have n3_2 : ¬ (w2.heap.size = w.heap.size + 1 + 1) := (by omega); have n2_3 : ¬ (w.heap.size + 1 + 1 = w2.heap.size) := (by omega); clear c2_0_0 z2_0 d2_0 e2_0 c2_1_0 c2_1_1 f2_1_0 f2_1_1 z2_1 d2_1 e2_1 c2_2_0 f2_2_0 z2_2 d2_2 e2_2))
    all_goals
      go_wp2_with fail
      rw [HE.out]
      refine bodyPost_ret (v := .tuple #[.agg #[.int .i64 (1000 + (r : Int)), .int .i64 t], .bool (Z.isFig (1000 + (r : Int)) t)]) (by unfold results; rw [Tryz.results124]; go_simp) rfl ⟨rfl, ?_⟩
      repeat with_reducible refine K.Ext.setCell ?_ (by dsimp only; omega) _
      exact (by repeat' (first | with_reducible exact X3 | with_reducible refine K.Ext.setCell ?_ ?_ _ | with_reducible refine K.Ext.alloc ?_ _ | with_reducible refine K.Ext.drew ?_ | (dsimp only; omega) | omega | (simp; omega)))
set_option maxHeartbeats 1600000 in
theorem l04At_any (n : Int)  (w : World) (h1 : -300000 ≤ n) (h2 : n ≤ 300000)  :
    Calls Tryz.prog 143 #[.int .i64 n] w fun e w' => e = .returned (.agg #[.int .i64 (Z.atN n).1, .int .i64 (Z.atN n).2]) ∧ K.Ext w w' := by
  obtain ⟨a, ha⟩ : ∃ a, a = n % 9000 := ⟨_, rfl⟩
  obtain ⟨b, hb⟩ : ∃ b, b = n / 9000 := ⟨_, rfl⟩
  have HM : ∀ w : World, Calls Tryz.prog 138 #[.int .i64 n, .int .i64 9000] w fun e w' => e = .returned (.int .i64 a) ∧ w = w' := fun w => by rw [ha]; exact l01Mod_any n 9000 w (by decide) (by omega) (by omega) (by decide)
  have HF : ∀ w : World, Calls Tryz.prog 69 #[.int .i64 n, .int .i64 9000] w fun e w' => e = .returned (.int .i64 b) ∧ w = w' := fun w => by rw [hb, ← Z.fl_eq_ediv n 9000 (by decide)]; exact l01Floor_any n 9000 w (by decide) (by omega) (by omega) (by decide) (by decide)
  have HE : Hid (Z.atN n = (1000 + a, b)) := Z.hide (by rw [ha, hb]; rfl)
  have a1 : 0 ≤ a ∧ a < 9000 := by omega
  have q1 : IntKind.i64.wrap (1000 + a) = 1000 + a := IntWalk.i64_in _ (by omega)
  clear ha hb
  have X0 : K.Ext w w := K.Ext.refl w
  go_enter Tryz.func143, Tryz.ntmps143
  go_wp2_with (go_at_call 138; refine K.call (by with_reducible rfl) (by with_reducible rfl) (HM _) ?_; rintro e w_ ⟨rfl, rfl⟩)
  go_wp2_with (go_at_call 69; refine K.call (by with_reducible rfl) (by with_reducible rfl) (HF _) ?_; rintro e w_ ⟨rfl, rfl⟩)
  rw [HE.out]
  refine bodyPost_ret (v := .agg #[.int .i64 (1000 + a), .int .i64 b]) (by unfold results; rw [Tryz.results143]; go_simp) rfl ⟨rfl, ?_⟩
  repeat with_reducible refine K.Ext.setCell ?_ (by dsimp only; omega) _
  exact (by repeat' (first | with_reducible exact X0 | with_reducible refine K.Ext.setCell ?_ ?_ _ | with_reducible refine K.Ext.alloc ?_ _ | with_reducible refine K.Ext.drew ?_ | (dsimp only; omega) | omega | (simp; omega)))
set_option maxHeartbeats 1600000 in
theorem holds_high (f : Int × Int) (u : Int)  (w : World) (hf : Z.isFig f.1 f.2 = true) (r : Int × Int) (hr : Hid (r = Z.figLog f))  :
    Calls Tryz.prog 147 #[.agg #[.int .i64 f.1, .int .i64 f.2], .int .i64 u, .bool true] w fun e w' => e = .returned (.bool (decide (u < r.2))) ∧ K.Ext w w' := by
  have HR : ∀ w : World, Calls Tryz.prog 67 #[.agg #[.int .i64 f.1, .int .i64 f.2]] w fun e w' => e = .returned (.agg #[.int .i64 r.1, .int .i64 r.2]) ∧ K.Ext w w' := fun w => by rw [hr.out]; exact l03Figure_any f w hf
  clear hr hf
  have hfi := field_iv1
  have X0 : K.Ext w w := K.Ext.refl w
  go_enter Tryz.func147, Tryz.ntmps147
  go_wp2_with (go_at_call 67; refine K.call (by with_reducible rfl) (by with_reducible rfl) (HR _) ?_; rintro e w1 ⟨rfl, x1⟩; have s1 : w.heap.size + 1 ≤ w1.heap.size := (by have h_ := x1.size; (try simp at h_); omega); have X1 := K.Ext.trans (K.Ext.alloc X0 _) x1; obtain ⟨c1_0_0, c1_0_1⟩ := K.c2 x1 (w.heap.size) (.int .i64 f.1) (.int .i64 f.2) (by go_simp); have z1_0 : w.heap.size < w1.heap.size := World.block_lt_of_cell? w1 _ c1_0_0; have d1_0 : ¬ (w.heap.size = w1.heap.size) := (by omega); have e1_0 : ¬ (w1.heap.size = w.heap.size) := (by omega))
  refine bodyPost_ret (v := .bool (decide (u < r.2))) (by unfold results; rw [Tryz.results147]; go_simp) rfl ⟨rfl, ?_⟩
  repeat with_reducible refine K.Ext.setCell ?_ (by dsimp only; omega) _
  exact (by repeat' (first | with_reducible exact X1 | with_reducible refine K.Ext.setCell ?_ ?_ _ | with_reducible refine K.Ext.alloc ?_ _ | with_reducible refine K.Ext.drew ?_ | (dsimp only; omega) | omega | (simp; omega)))
set_option maxRecDepth 100000 in
set_option maxHeartbeats 3200000 in
theorem l04First_high (u : Int) (w : World) (n : Int) (HN : Hid (Z.firstHigh u = n)) (hu : Z.units u = true) :
    Calls Tryz.prog 144 #[.int .i64 u, .bool true] w fun e w' => e = .returned (.int .i64 n) ∧ K.Ext w w' := by
  go_enter Tryz.func144, Tryz.ntmps144
  go_wp2
  go_loopw [5, 6] (fun a b wr => ∃ lo hi : Int, a = .int .i64 lo ∧ b = .int .i64 hi ∧ -270001 ≤ lo ∧ lo < hi ∧ hi ≤ 279000 ∧ Hid (lo = -270001 ∨ (Z.figLog (Z.atN lo)).2 ≤ u) ∧ Hid (hi = 279000 ∨ u < (Z.figLog (Z.atN hi)).2) ∧ Hid (K.Ext w wr)) (fun a b _ => (intOf b - intOf a).toNat)
  case atStart => exact ⟨-270001, 279000, rfl, rfl, by decide, by decide, by decide, Z.hide (.inl rfl), Z.hide (.inl rfl), Z.hide (K.Ext.refl _)⟩
  case round =>
    obtain ⟨lo, hi, rfl, rfl, l1, l2, l3, HL, HH, HX⟩ := hrel
    have q1 : IntKind.i64.wrap (hi - lo) = hi - lo := IntWalk.i64_in _ (by omega)
    have q2 : IntKind.i64.wrap (lo + hi) = lo + hi := IntWalk.i64_in _ (by omega)
    by_cases hlt : 1 < hi - lo
    · obtain ⟨s1, s2⟩ := Z.fl_spec (lo + hi) 2 (by decide)
      obtain ⟨m, hm⟩ : ∃ m, m = Z.fl (lo + hi) 2 := ⟨_, rfl⟩
      have HD : ∀ w : World, Calls Tryz.prog 69 #[.int .i64 (lo + hi), .int .i64 2] w fun e w' => e = .returned (.int .i64 m) ∧ w = w' := fun w => by rw [hm]; exact l01Floor_any (lo + hi) 2 w (by decide) (by omega) (by omega) (by decide) (by decide)
      rw [← hm] at s1 s2
      clear hm
      obtain ⟨f, hf⟩ : ∃ f, f = Z.atN m := ⟨_, rfl⟩
      have HA : ∀ w : World, Calls Tryz.prog 143 #[.int .i64 m] w fun e w' => e = .returned (.agg #[.int .i64 f.1, .int .i64 f.2]) ∧ K.Ext w w' := fun w => by rw [hf]; exact l04At_any m w (by omega) (by omega)
      have hfig : Z.isFig f.1 f.2 = true := by rw [hf]; unfold Z.atN; simp only [Z.isFig, Bool.and_eq_true, decide_eq_true_eq]; omega
      have HM : Hid (f = Z.atN m) := Z.hide hf
      clear hf
      by_cases hp : u < (Z.figLog f).2
      · have HB : ∀ w : World, Calls Tryz.prog 147 #[.agg #[.int .i64 f.1, .int .i64 f.2], .int .i64 u, .bool true] w fun e w' => e = .returned (.bool true) ∧ K.Ext w w' := fun w => by have h_ := holds_high f u w hfig _ (Z.hide rfl); rwa [decide_eq_true hp] at h_
        have HH1 : Hid (m = 279000 ∨ u < (Z.figLog (Z.atN m)).2) := Z.hide (.inr (by rw [← HM.out]; exact hp))
        clear hp hfig
        go_wp2_with (first | (go_at_call 69; refine K.call (by with_reducible rfl) (by with_reducible rfl) (HD _) ?_; rintro e w' ⟨rfl, rfl⟩) | (go_at_call 143; refine K.call (by with_reducible rfl) (by with_reducible rfl) (HA _) ?_; rintro e w1 ⟨rfl, hw1⟩; obtain ⟨hcw1, hfw1⟩ := hw1.facts) | (go_at_call 147; refine K.call (by with_reducible rfl) (by with_reducible rfl) (HB _) ?_; rintro e w2 ⟨rfl, hw2⟩; obtain ⟨hcw2, hfw2⟩ := hw2.facts))
        go_roundw
        case rel => exact ⟨lo, m, rfl, rfl, l1, by omega, by omega, HL, HH1, Z.hide (K.Ext.trans HX.out K.bel)⟩
        case measure => first | (simp [intOf]; done) | (simp [intOf]; omega)
      · have HB : ∀ w : World, Calls Tryz.prog 147 #[.agg #[.int .i64 f.1, .int .i64 f.2], .int .i64 u, .bool true] w fun e w' => e = .returned (.bool false) ∧ K.Ext w w' := fun w => by have h_ := holds_high f u w hfig _ (Z.hide rfl); rwa [decide_eq_false hp] at h_
        have HL1 : Hid (m = -270001 ∨ (Z.figLog (Z.atN m)).2 ≤ u) := Z.hide (.inr (by rw [← HM.out]; exact Int.not_lt.1 hp))
        clear hp hfig
        go_wp2_with (first | (go_at_call 69; refine K.call (by with_reducible rfl) (by with_reducible rfl) (HD _) ?_; rintro e w' ⟨rfl, rfl⟩) | (go_at_call 143; refine K.call (by with_reducible rfl) (by with_reducible rfl) (HA _) ?_; rintro e w1 ⟨rfl, hw1⟩; obtain ⟨hcw1, hfw1⟩ := hw1.facts) | (go_at_call 147; refine K.call (by with_reducible rfl) (by with_reducible rfl) (HB _) ?_; rintro e w2 ⟨rfl, hw2⟩; obtain ⟨hcw2, hfw2⟩ := hw2.facts))
        go_roundw
        case rel => exact ⟨m, hi, rfl, rfl, by omega, by omega, l3, HL1, HH, Z.hide (K.Ext.trans HX.out K.bel)⟩
        case measure => first | (simp [intOf]; done) | (simp [intOf]; omega)
    · have e1 : lo = hi - 1 := by omega
      have HE : Hid (n = hi) := Z.hide (HN.out.symm.trans (Z.firstHigh_is (by omega) l3 HH.out (by rw [← e1]; rcases HL.out with h | h; exact .inl (by omega); exact .inr (Int.not_lt.2 h))))
      clear e1
      go_wp2
      rw [HE.out]
      go_ret
      exact ⟨rfl, HX.out⟩
set_option maxHeartbeats 1600000 in
theorem holds_low (f : Int × Int) (u : Int)  (w : World) (hf : Z.isFig f.1 f.2 = true) (r : Int × Int) (hr : Hid (r = Z.figLog f))  :
    Calls Tryz.prog 147 #[.agg #[.int .i64 f.1, .int .i64 f.2], .int .i64 u, .bool false] w fun e w' => e = .returned (.bool (decide (u ≤ r.1))) ∧ K.Ext w w' := by
  have HR : ∀ w : World, Calls Tryz.prog 67 #[.agg #[.int .i64 f.1, .int .i64 f.2]] w fun e w' => e = .returned (.agg #[.int .i64 r.1, .int .i64 r.2]) ∧ K.Ext w w' := fun w => by rw [hr.out]; exact l03Figure_any f w hf
  clear hr hf
  have hfi := field_iv0
  have X0 : K.Ext w w := K.Ext.refl w
  go_enter Tryz.func147, Tryz.ntmps147
  go_wp2_with (go_at_call 67; refine K.call (by with_reducible rfl) (by with_reducible rfl) (HR _) ?_; rintro e w1 ⟨rfl, x1⟩; have s1 : w.heap.size + 1 ≤ w1.heap.size := (by have h_ := x1.size; (try simp at h_); omega); have X1 := K.Ext.trans (K.Ext.alloc X0 _) x1; obtain ⟨c1_0_0, c1_0_1⟩ := K.c2 x1 (w.heap.size) (.int .i64 f.1) (.int .i64 f.2) (by go_simp); have z1_0 : w.heap.size < w1.heap.size := World.block_lt_of_cell? w1 _ c1_0_0; have d1_0 : ¬ (w.heap.size = w1.heap.size) := (by omega); have e1_0 : ¬ (w1.heap.size = w.heap.size) := (by omega))
  refine bodyPost_ret (v := .bool (decide (u ≤ r.1))) (by unfold results; rw [Tryz.results147]; go_simp) rfl ⟨rfl, ?_⟩
  repeat with_reducible refine K.Ext.setCell ?_ (by dsimp only; omega) _
  exact (by repeat' (first | with_reducible exact X1 | with_reducible refine K.Ext.setCell ?_ ?_ _ | with_reducible refine K.Ext.alloc ?_ _ | with_reducible refine K.Ext.drew ?_ | (dsimp only; omega) | omega | (simp; omega)))
set_option maxRecDepth 100000 in
set_option maxHeartbeats 3200000 in
theorem l04First_low (u : Int) (w : World) (n : Int) (HN : Hid (Z.firstLow u = n)) (hu : Z.units u = true) :
    Calls Tryz.prog 144 #[.int .i64 u, .bool false] w fun e w' => e = .returned (.int .i64 n) ∧ K.Ext w w' := by
  go_enter Tryz.func144, Tryz.ntmps144
  go_wp2
  go_loopw [5, 6] (fun a b wr => ∃ lo hi : Int, a = .int .i64 lo ∧ b = .int .i64 hi ∧ -270001 ≤ lo ∧ lo < hi ∧ hi ≤ 279000 ∧ Hid (lo = -270001 ∨ (Z.figLog (Z.atN lo)).1 < u) ∧ Hid (hi = 279000 ∨ u ≤ (Z.figLog (Z.atN hi)).1) ∧ Hid (K.Ext w wr)) (fun a b _ => (intOf b - intOf a).toNat)
  case atStart => exact ⟨-270001, 279000, rfl, rfl, by decide, by decide, by decide, Z.hide (.inl rfl), Z.hide (.inl rfl), Z.hide (K.Ext.refl _)⟩
  case round =>
    obtain ⟨lo, hi, rfl, rfl, l1, l2, l3, HL, HH, HX⟩ := hrel
    have q1 : IntKind.i64.wrap (hi - lo) = hi - lo := IntWalk.i64_in _ (by omega)
    have q2 : IntKind.i64.wrap (lo + hi) = lo + hi := IntWalk.i64_in _ (by omega)
    by_cases hlt : 1 < hi - lo
    · obtain ⟨s1, s2⟩ := Z.fl_spec (lo + hi) 2 (by decide)
      obtain ⟨m, hm⟩ : ∃ m, m = Z.fl (lo + hi) 2 := ⟨_, rfl⟩
      have HD : ∀ w : World, Calls Tryz.prog 69 #[.int .i64 (lo + hi), .int .i64 2] w fun e w' => e = .returned (.int .i64 m) ∧ w = w' := fun w => by rw [hm]; exact l01Floor_any (lo + hi) 2 w (by decide) (by omega) (by omega) (by decide) (by decide)
      rw [← hm] at s1 s2
      clear hm
      obtain ⟨f, hf⟩ : ∃ f, f = Z.atN m := ⟨_, rfl⟩
      have HA : ∀ w : World, Calls Tryz.prog 143 #[.int .i64 m] w fun e w' => e = .returned (.agg #[.int .i64 f.1, .int .i64 f.2]) ∧ K.Ext w w' := fun w => by rw [hf]; exact l04At_any m w (by omega) (by omega)
      have hfig : Z.isFig f.1 f.2 = true := by rw [hf]; unfold Z.atN; simp only [Z.isFig, Bool.and_eq_true, decide_eq_true_eq]; omega
      have HM : Hid (f = Z.atN m) := Z.hide hf
      clear hf
      by_cases hp : u ≤ (Z.figLog f).1
      · have HB : ∀ w : World, Calls Tryz.prog 147 #[.agg #[.int .i64 f.1, .int .i64 f.2], .int .i64 u, .bool false] w fun e w' => e = .returned (.bool true) ∧ K.Ext w w' := fun w => by have h_ := holds_low f u w hfig _ (Z.hide rfl); rwa [decide_eq_true hp] at h_
        have HH1 : Hid (m = 279000 ∨ u ≤ (Z.figLog (Z.atN m)).1) := Z.hide (.inr (by rw [← HM.out]; exact hp))
        clear hp hfig
        go_wp2_with (first | (go_at_call 69; refine K.call (by with_reducible rfl) (by with_reducible rfl) (HD _) ?_; rintro e w' ⟨rfl, rfl⟩) | (go_at_call 143; refine K.call (by with_reducible rfl) (by with_reducible rfl) (HA _) ?_; rintro e w1 ⟨rfl, hw1⟩; obtain ⟨hcw1, hfw1⟩ := hw1.facts) | (go_at_call 147; refine K.call (by with_reducible rfl) (by with_reducible rfl) (HB _) ?_; rintro e w2 ⟨rfl, hw2⟩; obtain ⟨hcw2, hfw2⟩ := hw2.facts))
        go_roundw
        case rel => exact ⟨lo, m, rfl, rfl, l1, by omega, by omega, HL, HH1, Z.hide (K.Ext.trans HX.out K.bel)⟩
        case measure => first | (simp [intOf]; done) | (simp [intOf]; omega)
      · have HB : ∀ w : World, Calls Tryz.prog 147 #[.agg #[.int .i64 f.1, .int .i64 f.2], .int .i64 u, .bool false] w fun e w' => e = .returned (.bool false) ∧ K.Ext w w' := fun w => by have h_ := holds_low f u w hfig _ (Z.hide rfl); rwa [decide_eq_false hp] at h_
        have HL1 : Hid (m = -270001 ∨ (Z.figLog (Z.atN m)).1 < u) := Z.hide (.inr (by rw [← HM.out]; exact Int.not_le.1 hp))
        clear hp hfig
        go_wp2_with (first | (go_at_call 69; refine K.call (by with_reducible rfl) (by with_reducible rfl) (HD _) ?_; rintro e w' ⟨rfl, rfl⟩) | (go_at_call 143; refine K.call (by with_reducible rfl) (by with_reducible rfl) (HA _) ?_; rintro e w1 ⟨rfl, hw1⟩; obtain ⟨hcw1, hfw1⟩ := hw1.facts) | (go_at_call 147; refine K.call (by with_reducible rfl) (by with_reducible rfl) (HB _) ?_; rintro e w2 ⟨rfl, hw2⟩; obtain ⟨hcw2, hfw2⟩ := hw2.facts))
        go_roundw
        case rel => exact ⟨m, hi, rfl, rfl, by omega, by omega, l3, HL1, HH, Z.hide (K.Ext.trans HX.out K.bel)⟩
        case measure => first | (simp [intOf]; done) | (simp [intOf]; omega)
    · have e1 : lo = hi - 1 := by omega
      have HE : Hid (n = hi) := Z.hide (HN.out.symm.trans (Z.firstLow_is (by omega) l3 HH.out (by rw [← e1]; rcases HL.out with h | h; exact .inl (by omega); exact .inr (Int.not_le.2 h))))
      clear e1
      go_wp2
      rw [HE.out]
      go_ret
      exact ⟨rfl, HX.out⟩
set_option maxHeartbeats 1600000 in
theorem l04Below_any (u : Int)  (w : World) (hu : Z.units u = true) (B : Int × Int) (HB : Hid (Z.below u = B))  :
    Calls Tryz.prog 128 #[.int .i64 u] w fun e w' => e = .returned (.agg #[.int .i64 B.1, .int .i64 B.2]) ∧ K.Ext w w' := by
  obtain ⟨n, hn⟩ : ∃ n, n = Z.firstHigh u := ⟨_, rfl⟩
  have HF : ∀ w : World, Calls Tryz.prog 144 #[.int .i64 u, .bool true] w fun e w' => e = .returned (.int .i64 n) ∧ K.Ext w w' := fun w => l04First_high u w n (Z.hide hn.symm) hu
  have hbd : -270000 ≤ n ∧ n ≤ 279000 := by rw [hn]; exact Z.firstHigh_bd u
  obtain ⟨n1, n2⟩ := hbd
  obtain ⟨f, hf⟩ : ∃ f, f = Z.atN (n - 1) := ⟨_, rfl⟩
  have HA : ∀ w : World, Calls Tryz.prog 143 #[.int .i64 (n - 1)] w fun e w' => e = .returned (.agg #[.int .i64 f.1, .int .i64 f.2]) ∧ K.Ext w w' := fun w => by rw [hf]; exact l04At_any (n - 1) w (by omega) (by omega)
  have HE : Hid (B = f) := Z.hide (by rw [← HB.out]; unfold Z.below; rw [hf, hn])
  have q1 : IntKind.i64.wrap (n - 1) = n - 1 := IntWalk.i64_in _ (by omega)
  clear hf hn
  have X0 : K.Ext w w := K.Ext.refl w
  go_enter Tryz.func128, Tryz.ntmps128
  go_wp2_with (go_at_call 144; refine K.call (by with_reducible rfl) (by with_reducible rfl) (HF _) ?_; rintro e w1 ⟨rfl, x1⟩; have s1 : w.heap.size + 1 ≤ w1.heap.size := (by have h_ := x1.size; (try simp at h_); omega); have X1 := K.Ext.trans (K.Ext.alloc X0 _) x1; obtain ⟨c1_0_0, c1_0_1⟩ := K.c2 x1 (w.heap.size) (.int .i64 0) (.int .i64 0) (by go_simp); obtain ⟨f1_0_0, f1_0_1⟩ := K.f2 x1 (w.heap.size) (by go_simp); have z1_0 : w.heap.size < w1.heap.size := World.block_lt_of_cell? w1 _ c1_0_0; have d1_0 : ¬ (w.heap.size = w1.heap.size) := (by omega); have e1_0 : ¬ (w1.heap.size = w.heap.size) := (by omega))
  go_wp2_with (go_at_call 143; refine K.call (by with_reducible rfl) (by with_reducible rfl) (HA _) ?_; rintro e w2 ⟨rfl, x2⟩; have s2 : w1.heap.size ≤ w2.heap.size := (by have h_ := x2.size; (try simp at h_); omega); have X2 := K.Ext.trans (X1) x2; obtain ⟨c2_0_0, c2_0_1⟩ := K.c2 x2 (w.heap.size) (.int .i64 0) (.int .i64 0) (by go_simp); obtain ⟨f2_0_0, f2_0_1⟩ := K.f2 x2 (w.heap.size) (by go_simp); have z2_0 : w.heap.size < w2.heap.size := World.block_lt_of_cell? w2 _ c2_0_0; have d2_0 : ¬ (w.heap.size = w2.heap.size) := (by omega); have e2_0 : ¬ (w2.heap.size = w.heap.size) := (by omega); clear c1_0_0 c1_0_1 f1_0_0 f1_0_1 z1_0 d1_0 e1_0)
  rw [HE.out]
  refine bodyPost_ret (v := .agg #[.int .i64 f.1, .int .i64 f.2]) (by unfold results; rw [Tryz.results128]; go_simp) rfl ⟨rfl, ?_⟩
  repeat with_reducible refine K.Ext.setCell ?_ (by dsimp only; omega) _
  exact (by repeat' (first | with_reducible exact X2 | with_reducible refine K.Ext.setCell ?_ ?_ _ | with_reducible refine K.Ext.alloc ?_ _ | with_reducible refine K.Ext.drew ?_ | (dsimp only; omega) | omega | (simp; omega)))
set_option maxHeartbeats 1600000 in
theorem l04Above_any (u : Int)  (w : World) (hu : Z.units u = true) (B : Int × Int) (HB : Hid (Z.above u = B))  :
    Calls Tryz.prog 129 #[.int .i64 u] w fun e w' => e = .returned (.agg #[.int .i64 B.1, .int .i64 B.2]) ∧ K.Ext w w' := by
  obtain ⟨n, hn⟩ : ∃ n, n = Z.firstLow u := ⟨_, rfl⟩
  have HF : ∀ w : World, Calls Tryz.prog 144 #[.int .i64 u, .bool false] w fun e w' => e = .returned (.int .i64 n) ∧ K.Ext w w' := fun w => l04First_low u w n (Z.hide hn.symm) hu
  have hbd : -270000 ≤ n ∧ n ≤ 279000 := by rw [hn]; exact Z.firstLow_bd u
  obtain ⟨n1, n2⟩ := hbd
  obtain ⟨f, hf⟩ : ∃ f, f = Z.atN (n) := ⟨_, rfl⟩
  have HA : ∀ w : World, Calls Tryz.prog 143 #[.int .i64 (n)] w fun e w' => e = .returned (.agg #[.int .i64 f.1, .int .i64 f.2]) ∧ K.Ext w w' := fun w => by rw [hf]; exact l04At_any (n) w (by omega) (by omega)
  have HE : Hid (B = f) := Z.hide (by rw [← HB.out]; unfold Z.above; rw [hf, hn])
  have q1 : IntKind.i64.wrap (n - 1) = n - 1 := IntWalk.i64_in _ (by omega)
  clear hf hn
  have X0 : K.Ext w w := K.Ext.refl w
  go_enter Tryz.func129, Tryz.ntmps129
  go_wp2_with (go_at_call 144; refine K.call (by with_reducible rfl) (by with_reducible rfl) (HF _) ?_; rintro e w1 ⟨rfl, x1⟩; have s1 : w.heap.size + 1 ≤ w1.heap.size := (by have h_ := x1.size; (try simp at h_); omega); have X1 := K.Ext.trans (K.Ext.alloc X0 _) x1; obtain ⟨c1_0_0, c1_0_1⟩ := K.c2 x1 (w.heap.size) (.int .i64 0) (.int .i64 0) (by go_simp); obtain ⟨f1_0_0, f1_0_1⟩ := K.f2 x1 (w.heap.size) (by go_simp); have z1_0 : w.heap.size < w1.heap.size := World.block_lt_of_cell? w1 _ c1_0_0; have d1_0 : ¬ (w.heap.size = w1.heap.size) := (by omega); have e1_0 : ¬ (w1.heap.size = w.heap.size) := (by omega))
  go_wp2_with (go_at_call 143; refine K.call (by with_reducible rfl) (by with_reducible rfl) (HA _) ?_; rintro e w2 ⟨rfl, x2⟩; have s2 : w1.heap.size ≤ w2.heap.size := (by have h_ := x2.size; (try simp at h_); omega); have X2 := K.Ext.trans (X1) x2; obtain ⟨c2_0_0, c2_0_1⟩ := K.c2 x2 (w.heap.size) (.int .i64 0) (.int .i64 0) (by go_simp); obtain ⟨f2_0_0, f2_0_1⟩ := K.f2 x2 (w.heap.size) (by go_simp); have z2_0 : w.heap.size < w2.heap.size := World.block_lt_of_cell? w2 _ c2_0_0; have d2_0 : ¬ (w.heap.size = w2.heap.size) := (by omega); have e2_0 : ¬ (w2.heap.size = w.heap.size) := (by omega); clear c1_0_0 c1_0_1 f1_0_0 f1_0_1 z1_0 d1_0 e1_0)
  rw [HE.out]
  refine bodyPost_ret (v := .agg #[.int .i64 f.1, .int .i64 f.2]) (by unfold results; rw [Tryz.results129]; go_simp) rfl ⟨rfl, ?_⟩
  repeat with_reducible refine K.Ext.setCell ?_ (by dsimp only; omega) _
  exact (by repeat' (first | with_reducible exact X2 | with_reducible refine K.Ext.setCell ?_ ?_ _ | with_reducible refine K.Ext.alloc ?_ _ | with_reducible refine K.Ext.drew ?_ | (dsimp only; omega) | omega | (simp; omega)))
set_option maxHeartbeats 1600000 in
theorem isUnits_any (u : Int)  (w : World)   :
    Calls Tryz.prog 122 #[.int .i64 u] w fun e w' => e = .returned (.bool (Z.units u)) ∧ K.Ext w w' := by
  obtain ⟨b, hb⟩ : ∃ b, b = Z.units u := ⟨_, rfl⟩
  have HW : ∀ w : World, Calls Tryz.prog 96 #[.int .i64 u, .int .i64 (-31457280), .int .i64 31457280] w fun e w' => e = .returned (.bool b) ∧ w = w' := fun w => by rw [hb]; exact within_any u (-31457280) 31457280 w
  have HE : Hid (Z.units u = b) := Z.hide hb.symm
  clear hb
  have X0 : K.Ext w w := K.Ext.refl w
  go_enter Tryz.func122, Tryz.ntmps122
  go_wp2_with (go_at_call 96; refine K.call (by with_reducible rfl) (by with_reducible rfl) (HW _) ?_; rintro e w_ ⟨rfl, rfl⟩)
  rw [HE.out]
  refine bodyPost_ret (v := .bool b) (by unfold results; rw [Tryz.results122]; go_simp) rfl ⟨rfl, ?_⟩
  repeat with_reducible refine K.Ext.setCell ?_ (by dsimp only; omega) _
  exact (by repeat' (first | with_reducible exact X0 | with_reducible refine K.Ext.setCell ?_ ?_ _ | with_reducible refine K.Ext.alloc ?_ _ | with_reducible refine K.Ext.drew ?_ | (dsimp only; omega) | omega | (simp; omega)))
set_option maxHeartbeats 6400000 in
theorem spanOf_any (a : Int × Int)  (w : World) (S : (Int × Int) × (Int × Int) × Int) (hS : Hid (Z.spanOf a = S))  :
    Calls Tryz.prog 97 #[.agg #[.int .i64 a.1, .int .i64 a.2]] w fun e w' => e = .returned (.tuple #[.agg #[.int .i64 S.1.1, .int .i64 S.1.2], .agg #[.int .i64 S.2.1.1, .int .i64 S.2.1.2], .int .i64 S.2.2]) ∧ K.Ext w w' := by
  cases v1 : Z.units a.1
  · have HE : Hid (S = ((0, 0), (0, 0), 2)) := Z.hide (by rw [← hS.out]; unfold Z.spanOf; rw [v1]; rfl)
    have HU1 : ∀ w : World, Calls Tryz.prog 122 #[.int .i64 a.1] w fun e w' => e = .returned (.bool false) ∧ K.Ext w w' := fun w => by rw [← v1]; exact isUnits_any a.1 w
    clear v1
    have X0 : K.Ext w w := K.Ext.refl w
    go_enter Tryz.func97, Tryz.ntmps97
    go_wp2_with (go_at_call 122; refine K.call (by with_reducible rfl) (by with_reducible rfl) (HU1 _) ?_; rintro e w1 ⟨rfl, x1⟩; have s1 : w.heap.size + 3 ≤ w1.heap.size := (by have h_ := x1.size; (try simp at h_); omega); have X1 := K.Ext.trans (K.Ext.alloc (K.Ext.alloc (K.Ext.alloc X0 _) _) _) x1; obtain ⟨c1_0_0, c1_0_1⟩ := K.c2 x1 (w.heap.size) (.int .i64 a.1) (.int .i64 a.2) (by go_simp); have z1_0 : w.heap.size < w1.heap.size := World.block_lt_of_cell? w1 _ c1_0_0; have d1_0 : ¬ (w.heap.size = w1.heap.size) := (by omega); have e1_0 : ¬ (w1.heap.size = w.heap.size) := (by omega); obtain ⟨c1_1_0, c1_1_1⟩ := K.c2 x1 (w.heap.size + 1) (.int .i64 0) (.int .i64 0) (by go_simp); obtain ⟨f1_1_0, f1_1_1⟩ := K.f2 x1 (w.heap.size + 1) (by go_simp); have z1_1 : w.heap.size + 1 < w1.heap.size := World.block_lt_of_cell? w1 _ c1_1_0; have d1_1 : ¬ (w.heap.size + 1 = w1.heap.size) := (by omega); have e1_1 : ¬ (w1.heap.size = w.heap.size + 1) := (by omega); have n1_0 : ¬ (w.heap.size + 1 = w.heap.size) := (by omega); have n0_1 : ¬ (w.heap.size = w.heap.size + 1) := (by omega); obtain ⟨c1_2_0, c1_2_1⟩ := K.c2 x1 (w.heap.size + 1 + 1) (.int .i64 0) (.int .i64 0) (by go_simp); obtain ⟨f1_2_0, f1_2_1⟩ := K.f2 x1 (w.heap.size + 1 + 1) (by go_simp); have z1_2 : w.heap.size + 1 + 1 < w1.heap.size := World.block_lt_of_cell? w1 _ c1_2_0; have d1_2 : ¬ (w.heap.size + 1 + 1 = w1.heap.size) := (by omega); have e1_2 : ¬ (w1.heap.size = w.heap.size + 1 + 1) := (by omega); have n2_0 : ¬ (w.heap.size + 1 + 1 = w.heap.size) := (by omega); have n0_2 : ¬ (w.heap.size = w.heap.size + 1 + 1) := (by omega); have n2_1 : ¬ (w.heap.size + 1 + 1 = w.heap.size + 1) := (by omega); have n1_2 : ¬ (w.heap.size + 1 = w.heap.size + 1 + 1) := (by omega))
    rw [HE.out]
    refine bodyPost_ret (v := .tuple #[.agg #[.int .i64 0, .int .i64 0], .agg #[.int .i64 0, .int .i64 0], .int .i64 2]) (by unfold results; rw [Tryz.results97]; go_simp) rfl ⟨rfl, ?_⟩
    repeat with_reducible refine K.Ext.setCell ?_ (by dsimp only; omega) _
    exact (by repeat' (first | with_reducible exact X1 | with_reducible refine K.Ext.setCell ?_ ?_ _ | with_reducible refine K.Ext.alloc ?_ _ | with_reducible refine K.Ext.drew ?_ | (dsimp only; omega) | omega | (simp; omega)))
  cases v2 : Z.units a.2
  · have HE : Hid (S = ((0, 0), (0, 0), 2)) := Z.hide (by rw [← hS.out]; unfold Z.spanOf; rw [v1, v2]; rfl)
    have HU1 : ∀ w : World, Calls Tryz.prog 122 #[.int .i64 a.1] w fun e w' => e = .returned (.bool true) ∧ K.Ext w w' := fun w => by rw [← v1]; exact isUnits_any a.1 w
    have HU2 : ∀ w : World, Calls Tryz.prog 122 #[.int .i64 a.2] w fun e w' => e = .returned (.bool false) ∧ K.Ext w w' := fun w => by rw [← v2]; exact isUnits_any a.2 w
    clear v1 v2
    have X0 : K.Ext w w := K.Ext.refl w
    go_enter Tryz.func97, Tryz.ntmps97
    go_wp2_with (go_at_call 122; refine K.call (by with_reducible rfl) (by with_reducible rfl) (HU1 _) ?_; rintro e w1 ⟨rfl, x1⟩; have s1 : w.heap.size + 3 ≤ w1.heap.size := (by have h_ := x1.size; (try simp at h_); omega); have X1 : K.Ext w w1 := K.Ext.trans (by repeat' (first | with_reducible exact X0 | with_reducible refine K.Ext.setCell ?_ ?_ _ | with_reducible refine K.Ext.alloc ?_ _ | with_reducible refine K.Ext.drew ?_ | (dsimp only; omega) | omega | (simp; omega))) x1; obtain ⟨c1_0_0, c1_0_1⟩ := K.c2 x1 (w.heap.size) (.int .i64 a.1) (.int .i64 a.2) (by go_simp); have z1_0 : w.heap.size < w1.heap.size := World.block_lt_of_cell? w1 _ c1_0_0; have d1_0 : ¬ (w.heap.size = w1.heap.size) := (by omega); have e1_0 : ¬ (w1.heap.size = w.heap.size) := (by omega); obtain ⟨c1_1_0, c1_1_1⟩ := K.c2 x1 (w.heap.size + 1) (.int .i64 0) (.int .i64 0) (by go_simp); obtain ⟨f1_1_0, f1_1_1⟩ := K.f2 x1 (w.heap.size + 1) (by go_simp); have z1_1 : w.heap.size + 1 < w1.heap.size := World.block_lt_of_cell? w1 _ c1_1_0; have d1_1 : ¬ (w.heap.size + 1 = w1.heap.size) := (by omega); have e1_1 : ¬ (w1.heap.size = w.heap.size + 1) := (by omega); have n1_0 : ¬ (w.heap.size + 1 = w.heap.size) := (by omega); have n0_1 : ¬ (w.heap.size = w.heap.size + 1) := (by omega); obtain ⟨c1_2_0, c1_2_1⟩ := K.c2 x1 (w.heap.size + 1 + 1) (.int .i64 0) (.int .i64 0) (by go_simp); obtain ⟨f1_2_0, f1_2_1⟩ := K.f2 x1 (w.heap.size + 1 + 1) (by go_simp); have z1_2 : w.heap.size + 1 + 1 < w1.heap.size := World.block_lt_of_cell? w1 _ c1_2_0; have d1_2 : ¬ (w.heap.size + 1 + 1 = w1.heap.size) := (by omega); have e1_2 : ¬ (w1.heap.size = w.heap.size + 1 + 1) := (by omega); have n2_0 : ¬ (w.heap.size + 1 + 1 = w.heap.size) := (by omega); have n0_2 : ¬ (w.heap.size = w.heap.size + 1 + 1) := (by omega); have n2_1 : ¬ (w.heap.size + 1 + 1 = w.heap.size + 1) := (by omega); have n1_2 : ¬ (w.heap.size + 1 = w.heap.size + 1 + 1) := (by omega))
    go_wp2_with (go_at_call 122; refine K.call (by with_reducible rfl) (by with_reducible rfl) (HU2 _) ?_; rintro e w2 ⟨rfl, x2⟩; have s2 : w1.heap.size ≤ w2.heap.size := (by have h_ := x2.size; (try simp at h_); omega); have X2 := K.Ext.trans (X1) x2; obtain ⟨c2_0_0, c2_0_1⟩ := K.c2 x2 (w.heap.size) (.int .i64 a.1) (.int .i64 a.2) (by go_simp); have z2_0 : w.heap.size < w2.heap.size := World.block_lt_of_cell? w2 _ c2_0_0; have d2_0 : ¬ (w.heap.size = w2.heap.size) := (by omega); have e2_0 : ¬ (w2.heap.size = w.heap.size) := (by omega); obtain ⟨c2_1_0, c2_1_1⟩ := K.c2 x2 (w.heap.size + 1) (.int .i64 0) (.int .i64 0) (by go_simp); obtain ⟨f2_1_0, f2_1_1⟩ := K.f2 x2 (w.heap.size + 1) (by go_simp); have z2_1 : w.heap.size + 1 < w2.heap.size := World.block_lt_of_cell? w2 _ c2_1_0; have d2_1 : ¬ (w.heap.size + 1 = w2.heap.size) := (by omega); have e2_1 : ¬ (w2.heap.size = w.heap.size + 1) := (by omega); obtain ⟨c2_2_0, c2_2_1⟩ := K.c2 x2 (w.heap.size + 1 + 1) (.int .i64 0) (.int .i64 0) (by go_simp); obtain ⟨f2_2_0, f2_2_1⟩ := K.f2 x2 (w.heap.size + 1 + 1) (by go_simp); have z2_2 : w.heap.size + 1 + 1 < w2.heap.size := World.block_lt_of_cell? w2 _ c2_2_0; have d2_2 : ¬ (w.heap.size + 1 + 1 = w2.heap.size) := (by omega); have e2_2 : ¬ (w2.heap.size = w.heap.size + 1 + 1) := (by omega); clear c1_0_0 c1_0_1 z1_0 d1_0 e1_0 c1_1_0 c1_1_1 f1_1_0 f1_1_1 z1_1 d1_1 e1_1 c1_2_0 c1_2_1 f1_2_0 f1_2_1 z1_2 d1_2 e1_2)
    rw [HE.out]
    refine bodyPost_ret (v := .tuple #[.agg #[.int .i64 0, .int .i64 0], .agg #[.int .i64 0, .int .i64 0], .int .i64 2]) (by unfold results; rw [Tryz.results97]; go_simp) rfl ⟨rfl, ?_⟩
    repeat with_reducible refine K.Ext.setCell ?_ (by dsimp only; omega) _
    exact (by repeat' (first | with_reducible exact X2 | with_reducible refine K.Ext.setCell ?_ ?_ _ | with_reducible refine K.Ext.alloc ?_ _ | with_reducible refine K.Ext.drew ?_ | (dsimp only; omega) | omega | (simp; omega)))
  have HU1 : ∀ w : World, Calls Tryz.prog 122 #[.int .i64 a.1] w fun e w' => e = .returned (.bool true) ∧ K.Ext w w' := fun w => by rw [← v1]; exact isUnits_any a.1 w
  have HU2 : ∀ w : World, Calls Tryz.prog 122 #[.int .i64 a.2] w fun e w' => e = .returned (.bool true) ∧ K.Ext w w' := fun w => by rw [← v2]; exact isUnits_any a.2 w
  obtain ⟨B, hB⟩ : ∃ B, B = Z.belowOr a.1 := ⟨_, rfl⟩
  obtain ⟨C, hC⟩ : ∃ C, C = Z.aboveOr a.2 := ⟨_, rfl⟩
  have HB : ∀ w : World, Calls Tryz.prog 123 #[.int .i64 a.1] w fun e w' => e = .returned (.tuple #[.agg #[.int .i64 B.1.1, .int .i64 B.1.2], .bool B.2]) ∧ K.Ext w w' := fun w => figureBelow_any a.1 w v1 B (Z.hide hB.symm)
  have HC : ∀ w : World, Calls Tryz.prog 124 #[.int .i64 a.2] w fun e w' => e = .returned (.tuple #[.agg #[.int .i64 C.1.1, .int .i64 C.1.2], .bool C.2]) ∧ K.Ext w w' := fun w => figureAbove_any a.2 w v2 C (Z.hide hC.symm)
  have HS : Hid (Z.spanOf a = if B.2 && C.2 then (B.1, C.1, 0) else ((0, 0), (0, 0), 4)) := Z.hide (by
    unfold Z.spanOf; rw [v1, v2, hB, hC]; unfold Z.belowOr Z.aboveOr
    cases Z.isFig (Z.below a.1).1 (Z.below a.1).2 <;> cases Z.isFig (Z.above a.2).1 (Z.above a.2).2 <;> rfl)
  clear hB hC v1 v2
  obtain ⟨f, o1⟩ := B
  obtain ⟨g, o2⟩ := C
  dsimp only at HB HC HS
  cases o1
  · have HE : Hid (S = ((0, 0), (0, 0), 4)) := Z.hide (by rw [← hS.out, HS.out]; rfl)
    have X0 : K.Ext w w := K.Ext.refl w
    go_enter Tryz.func97, Tryz.ntmps97
    go_wp2_with (go_at_call 122; refine K.call (by with_reducible rfl) (by with_reducible rfl) (HU1 _) ?_; rintro e w1 ⟨rfl, x1⟩; have s1 : w.heap.size + 3 ≤ w1.heap.size := (by have h_ := x1.size; (try simp at h_); omega); have X1 : K.Ext w w1 := K.Ext.trans (by repeat' (first | with_reducible exact X0 | with_reducible refine K.Ext.setCell ?_ ?_ _ | with_reducible refine K.Ext.alloc ?_ _ | with_reducible refine K.Ext.drew ?_ | (dsimp only; omega) | omega | (simp; omega))) x1; obtain ⟨c1_0_0, c1_0_1⟩ := K.c2 x1 (w.heap.size) (.int .i64 a.1) (.int .i64 a.2) (by go_simp); have z1_0 : w.heap.size < w1.heap.size := World.block_lt_of_cell? w1 _ c1_0_0; have d1_0 : ¬ (w.heap.size = w1.heap.size) := (by omega); have e1_0 : ¬ (w1.heap.size = w.heap.size) := (by omega); obtain ⟨c1_1_0, c1_1_1⟩ := K.c2 x1 (w.heap.size + 1) (.int .i64 0) (.int .i64 0) (by go_simp); obtain ⟨f1_1_0, f1_1_1⟩ := K.f2 x1 (w.heap.size + 1) (by go_simp); have z1_1 : w.heap.size + 1 < w1.heap.size := World.block_lt_of_cell? w1 _ c1_1_0; have d1_1 : ¬ (w.heap.size + 1 = w1.heap.size) := (by omega); have e1_1 : ¬ (w1.heap.size = w.heap.size + 1) := (by omega); have n1_0 : ¬ (w.heap.size + 1 = w.heap.size) := (by omega); have n0_1 : ¬ (w.heap.size = w.heap.size + 1) := (by omega); obtain ⟨c1_2_0, c1_2_1⟩ := K.c2 x1 (w.heap.size + 1 + 1) (.int .i64 0) (.int .i64 0) (by go_simp); obtain ⟨f1_2_0, f1_2_1⟩ := K.f2 x1 (w.heap.size + 1 + 1) (by go_simp); have z1_2 : w.heap.size + 1 + 1 < w1.heap.size := World.block_lt_of_cell? w1 _ c1_2_0; have d1_2 : ¬ (w.heap.size + 1 + 1 = w1.heap.size) := (by omega); have e1_2 : ¬ (w1.heap.size = w.heap.size + 1 + 1) := (by omega); have n2_0 : ¬ (w.heap.size + 1 + 1 = w.heap.size) := (by omega); have n0_2 : ¬ (w.heap.size = w.heap.size + 1 + 1) := (by omega); have n2_1 : ¬ (w.heap.size + 1 + 1 = w.heap.size + 1) := (by omega); have n1_2 : ¬ (w.heap.size + 1 = w.heap.size + 1 + 1) := (by omega))
    go_wp2_with (go_at_call 122; refine K.call (by with_reducible rfl) (by with_reducible rfl) (HU2 _) ?_; rintro e w2 ⟨rfl, x2⟩; have s2 : w1.heap.size ≤ w2.heap.size := (by have h_ := x2.size; (try simp at h_); omega); have X2 := K.Ext.trans (X1) x2; obtain ⟨c2_0_0, c2_0_1⟩ := K.c2 x2 (w.heap.size) (.int .i64 a.1) (.int .i64 a.2) (by go_simp); have z2_0 : w.heap.size < w2.heap.size := World.block_lt_of_cell? w2 _ c2_0_0; have d2_0 : ¬ (w.heap.size = w2.heap.size) := (by omega); have e2_0 : ¬ (w2.heap.size = w.heap.size) := (by omega); obtain ⟨c2_1_0, c2_1_1⟩ := K.c2 x2 (w.heap.size + 1) (.int .i64 0) (.int .i64 0) (by go_simp); obtain ⟨f2_1_0, f2_1_1⟩ := K.f2 x2 (w.heap.size + 1) (by go_simp); have z2_1 : w.heap.size + 1 < w2.heap.size := World.block_lt_of_cell? w2 _ c2_1_0; have d2_1 : ¬ (w.heap.size + 1 = w2.heap.size) := (by omega); have e2_1 : ¬ (w2.heap.size = w.heap.size + 1) := (by omega); obtain ⟨c2_2_0, c2_2_1⟩ := K.c2 x2 (w.heap.size + 1 + 1) (.int .i64 0) (.int .i64 0) (by go_simp); obtain ⟨f2_2_0, f2_2_1⟩ := K.f2 x2 (w.heap.size + 1 + 1) (by go_simp); have z2_2 : w.heap.size + 1 + 1 < w2.heap.size := World.block_lt_of_cell? w2 _ c2_2_0; have d2_2 : ¬ (w.heap.size + 1 + 1 = w2.heap.size) := (by omega); have e2_2 : ¬ (w2.heap.size = w.heap.size + 1 + 1) := (by omega); clear c1_0_0 c1_0_1 z1_0 d1_0 e1_0 c1_1_0 c1_1_1 f1_1_0 f1_1_1 z1_1 d1_1 e1_1 c1_2_0 c1_2_1 f1_2_0 f1_2_1 z1_2 d1_2 e1_2)
    go_wp2_with (go_at_call 123; refine K.call (by with_reducible rfl) (by with_reducible rfl) (HB _) ?_; rintro e w3 ⟨rfl, x3⟩; have s3 : w2.heap.size ≤ w3.heap.size := (by have h_ := x3.size; (try simp at h_); omega); have X3 := K.Ext.trans (X2) x3; obtain ⟨c3_0_0, c3_0_1⟩ := K.c2 x3 (w.heap.size) (.int .i64 a.1) (.int .i64 a.2) (by go_simp); have z3_0 : w.heap.size < w3.heap.size := World.block_lt_of_cell? w3 _ c3_0_0; have d3_0 : ¬ (w.heap.size = w3.heap.size) := (by omega); have e3_0 : ¬ (w3.heap.size = w.heap.size) := (by omega); obtain ⟨c3_1_0, c3_1_1⟩ := K.c2 x3 (w.heap.size + 1) (.int .i64 0) (.int .i64 0) (by go_simp); obtain ⟨f3_1_0, f3_1_1⟩ := K.f2 x3 (w.heap.size + 1) (by go_simp); have z3_1 : w.heap.size + 1 < w3.heap.size := World.block_lt_of_cell? w3 _ c3_1_0; have d3_1 : ¬ (w.heap.size + 1 = w3.heap.size) := (by omega); have e3_1 : ¬ (w3.heap.size = w.heap.size + 1) := (by omega); obtain ⟨c3_2_0, c3_2_1⟩ := K.c2 x3 (w.heap.size + 1 + 1) (.int .i64 0) (.int .i64 0) (by go_simp); obtain ⟨f3_2_0, f3_2_1⟩ := K.f2 x3 (w.heap.size + 1 + 1) (by go_simp); have z3_2 : w.heap.size + 1 + 1 < w3.heap.size := World.block_lt_of_cell? w3 _ c3_2_0; have d3_2 : ¬ (w.heap.size + 1 + 1 = w3.heap.size) := (by omega); have e3_2 : ¬ (w3.heap.size = w.heap.size + 1 + 1) := (by omega); clear c2_0_0 c2_0_1 z2_0 d2_0 e2_0 c2_1_0 c2_1_1 f2_1_0 f2_1_1 z2_1 d2_1 e2_1 c2_2_0 c2_2_1 f2_2_0 f2_2_1 z2_2 d2_2 e2_2)
    go_wp2_with (go_at_call 124; refine K.call (by with_reducible rfl) (by with_reducible rfl) (HC _) ?_; rintro e w4 ⟨rfl, x4⟩; have s4 : w3.heap.size + 1 ≤ w4.heap.size := (by have h_ := x4.size; (try simp at h_); omega); have X4 := K.Ext.trans (K.Ext.alloc X3 _) x4; obtain ⟨c4_0_0, c4_0_1⟩ := K.c2 x4 (w.heap.size) (.int .i64 a.1) (.int .i64 a.2) (by go_simp); have z4_0 : w.heap.size < w4.heap.size := World.block_lt_of_cell? w4 _ c4_0_0; have d4_0 : ¬ (w.heap.size = w4.heap.size) := (by omega); have e4_0 : ¬ (w4.heap.size = w.heap.size) := (by omega); obtain ⟨c4_1_0, c4_1_1⟩ := K.c2 x4 (w.heap.size + 1) (.int .i64 0) (.int .i64 0) (by go_simp); obtain ⟨f4_1_0, f4_1_1⟩ := K.f2 x4 (w.heap.size + 1) (by go_simp); have z4_1 : w.heap.size + 1 < w4.heap.size := World.block_lt_of_cell? w4 _ c4_1_0; have d4_1 : ¬ (w.heap.size + 1 = w4.heap.size) := (by omega); have e4_1 : ¬ (w4.heap.size = w.heap.size + 1) := (by omega); obtain ⟨c4_2_0, c4_2_1⟩ := K.c2 x4 (w.heap.size + 1 + 1) (.int .i64 0) (.int .i64 0) (by go_simp); obtain ⟨f4_2_0, f4_2_1⟩ := K.f2 x4 (w.heap.size + 1 + 1) (by go_simp); have z4_2 : w.heap.size + 1 + 1 < w4.heap.size := World.block_lt_of_cell? w4 _ c4_2_0; have d4_2 : ¬ (w.heap.size + 1 + 1 = w4.heap.size) := (by omega); have e4_2 : ¬ (w4.heap.size = w.heap.size + 1 + 1) := (by omega); obtain ⟨c4_3_0, c4_3_1⟩ := K.c2 x4 (w3.heap.size) (.int .i64 ((f, false).1).1) (.int .i64 ((f, false).1).2) (by go_simp); obtain ⟨f4_3_0, f4_3_1⟩ := K.f2 x4 (w3.heap.size) (by go_simp); have z4_3 : w3.heap.size < w4.heap.size := World.block_lt_of_cell? w4 _ c4_3_0; have d4_3 : ¬ (w3.heap.size = w4.heap.size) := (by omega); have e4_3 : ¬ (w4.heap.size = w3.heap.size) := (by omega); have n3_0 : ¬ (w3.heap.size = w.heap.size) := (by omega); have n0_3 : ¬ (w.heap.size = w3.heap.size) := (by omega); have n3_1 : ¬ (w3.heap.size = w.heap.size + 1) := (by omega); have n1_3 : ¬ (w.heap.size + 1 = w3.heap.size) := (by omega); have n3_2 : ¬ (w3.heap.size = w.heap.size + 1 + 1) := (by omega); have n2_3 : ¬ (w.heap.size + 1 + 1 = w3.heap.size) := (by omega); clear c3_0_0 c3_0_1 z3_0 d3_0 e3_0 c3_1_0 c3_1_1 f3_1_0 f3_1_1 z3_1 d3_1 e3_1 c3_2_0 c3_2_1 f3_2_0 f3_2_1 z3_2 d3_2 e3_2)
    rw [HE.out]
    refine bodyPost_ret (v := .tuple #[.agg #[.int .i64 0, .int .i64 0], .agg #[.int .i64 0, .int .i64 0], .int .i64 4]) (by unfold results; rw [Tryz.results97]; go_simp) rfl ⟨rfl, ?_⟩
    repeat with_reducible refine K.Ext.setCell ?_ (by dsimp only; omega) _
    exact (by repeat' (first | with_reducible exact X4 | with_reducible refine K.Ext.setCell ?_ ?_ _ | with_reducible refine K.Ext.alloc ?_ _ | with_reducible refine K.Ext.drew ?_ | (dsimp only; omega) | omega | (simp; omega)))
  cases o2
  · have HE : Hid (S = ((0, 0), (0, 0), 4)) := Z.hide (by rw [← hS.out, HS.out]; rfl)
    have X0 : K.Ext w w := K.Ext.refl w
    go_enter Tryz.func97, Tryz.ntmps97
    go_wp2_with (go_at_call 122; refine K.call (by with_reducible rfl) (by with_reducible rfl) (HU1 _) ?_; rintro e w1 ⟨rfl, x1⟩; have s1 : w.heap.size + 3 ≤ w1.heap.size := (by have h_ := x1.size; (try simp at h_); omega); have X1 : K.Ext w w1 := K.Ext.trans (by repeat' (first | with_reducible exact X0 | with_reducible refine K.Ext.setCell ?_ ?_ _ | with_reducible refine K.Ext.alloc ?_ _ | with_reducible refine K.Ext.drew ?_ | (dsimp only; omega) | omega | (simp; omega))) x1; obtain ⟨c1_0_0, c1_0_1⟩ := K.c2 x1 (w.heap.size) (.int .i64 a.1) (.int .i64 a.2) (by go_simp); have z1_0 : w.heap.size < w1.heap.size := World.block_lt_of_cell? w1 _ c1_0_0; have d1_0 : ¬ (w.heap.size = w1.heap.size) := (by omega); have e1_0 : ¬ (w1.heap.size = w.heap.size) := (by omega); obtain ⟨c1_1_0, c1_1_1⟩ := K.c2 x1 (w.heap.size + 1) (.int .i64 0) (.int .i64 0) (by go_simp); obtain ⟨f1_1_0, f1_1_1⟩ := K.f2 x1 (w.heap.size + 1) (by go_simp); have z1_1 : w.heap.size + 1 < w1.heap.size := World.block_lt_of_cell? w1 _ c1_1_0; have d1_1 : ¬ (w.heap.size + 1 = w1.heap.size) := (by omega); have e1_1 : ¬ (w1.heap.size = w.heap.size + 1) := (by omega); have n1_0 : ¬ (w.heap.size + 1 = w.heap.size) := (by omega); have n0_1 : ¬ (w.heap.size = w.heap.size + 1) := (by omega); obtain ⟨c1_2_0, c1_2_1⟩ := K.c2 x1 (w.heap.size + 1 + 1) (.int .i64 0) (.int .i64 0) (by go_simp); obtain ⟨f1_2_0, f1_2_1⟩ := K.f2 x1 (w.heap.size + 1 + 1) (by go_simp); have z1_2 : w.heap.size + 1 + 1 < w1.heap.size := World.block_lt_of_cell? w1 _ c1_2_0; have d1_2 : ¬ (w.heap.size + 1 + 1 = w1.heap.size) := (by omega); have e1_2 : ¬ (w1.heap.size = w.heap.size + 1 + 1) := (by omega); have n2_0 : ¬ (w.heap.size + 1 + 1 = w.heap.size) := (by omega); have n0_2 : ¬ (w.heap.size = w.heap.size + 1 + 1) := (by omega); have n2_1 : ¬ (w.heap.size + 1 + 1 = w.heap.size + 1) := (by omega); have n1_2 : ¬ (w.heap.size + 1 = w.heap.size + 1 + 1) := (by omega))
    go_wp2_with (go_at_call 122; refine K.call (by with_reducible rfl) (by with_reducible rfl) (HU2 _) ?_; rintro e w2 ⟨rfl, x2⟩; have s2 : w1.heap.size ≤ w2.heap.size := (by have h_ := x2.size; (try simp at h_); omega); have X2 := K.Ext.trans (X1) x2; obtain ⟨c2_0_0, c2_0_1⟩ := K.c2 x2 (w.heap.size) (.int .i64 a.1) (.int .i64 a.2) (by go_simp); have z2_0 : w.heap.size < w2.heap.size := World.block_lt_of_cell? w2 _ c2_0_0; have d2_0 : ¬ (w.heap.size = w2.heap.size) := (by omega); have e2_0 : ¬ (w2.heap.size = w.heap.size) := (by omega); obtain ⟨c2_1_0, c2_1_1⟩ := K.c2 x2 (w.heap.size + 1) (.int .i64 0) (.int .i64 0) (by go_simp); obtain ⟨f2_1_0, f2_1_1⟩ := K.f2 x2 (w.heap.size + 1) (by go_simp); have z2_1 : w.heap.size + 1 < w2.heap.size := World.block_lt_of_cell? w2 _ c2_1_0; have d2_1 : ¬ (w.heap.size + 1 = w2.heap.size) := (by omega); have e2_1 : ¬ (w2.heap.size = w.heap.size + 1) := (by omega); obtain ⟨c2_2_0, c2_2_1⟩ := K.c2 x2 (w.heap.size + 1 + 1) (.int .i64 0) (.int .i64 0) (by go_simp); obtain ⟨f2_2_0, f2_2_1⟩ := K.f2 x2 (w.heap.size + 1 + 1) (by go_simp); have z2_2 : w.heap.size + 1 + 1 < w2.heap.size := World.block_lt_of_cell? w2 _ c2_2_0; have d2_2 : ¬ (w.heap.size + 1 + 1 = w2.heap.size) := (by omega); have e2_2 : ¬ (w2.heap.size = w.heap.size + 1 + 1) := (by omega); clear c1_0_0 c1_0_1 z1_0 d1_0 e1_0 c1_1_0 c1_1_1 f1_1_0 f1_1_1 z1_1 d1_1 e1_1 c1_2_0 c1_2_1 f1_2_0 f1_2_1 z1_2 d1_2 e1_2)
    go_wp2_with (go_at_call 123; refine K.call (by with_reducible rfl) (by with_reducible rfl) (HB _) ?_; rintro e w3 ⟨rfl, x3⟩; have s3 : w2.heap.size ≤ w3.heap.size := (by have h_ := x3.size; (try simp at h_); omega); have X3 := K.Ext.trans (X2) x3; obtain ⟨c3_0_0, c3_0_1⟩ := K.c2 x3 (w.heap.size) (.int .i64 a.1) (.int .i64 a.2) (by go_simp); have z3_0 : w.heap.size < w3.heap.size := World.block_lt_of_cell? w3 _ c3_0_0; have d3_0 : ¬ (w.heap.size = w3.heap.size) := (by omega); have e3_0 : ¬ (w3.heap.size = w.heap.size) := (by omega); obtain ⟨c3_1_0, c3_1_1⟩ := K.c2 x3 (w.heap.size + 1) (.int .i64 0) (.int .i64 0) (by go_simp); obtain ⟨f3_1_0, f3_1_1⟩ := K.f2 x3 (w.heap.size + 1) (by go_simp); have z3_1 : w.heap.size + 1 < w3.heap.size := World.block_lt_of_cell? w3 _ c3_1_0; have d3_1 : ¬ (w.heap.size + 1 = w3.heap.size) := (by omega); have e3_1 : ¬ (w3.heap.size = w.heap.size + 1) := (by omega); obtain ⟨c3_2_0, c3_2_1⟩ := K.c2 x3 (w.heap.size + 1 + 1) (.int .i64 0) (.int .i64 0) (by go_simp); obtain ⟨f3_2_0, f3_2_1⟩ := K.f2 x3 (w.heap.size + 1 + 1) (by go_simp); have z3_2 : w.heap.size + 1 + 1 < w3.heap.size := World.block_lt_of_cell? w3 _ c3_2_0; have d3_2 : ¬ (w.heap.size + 1 + 1 = w3.heap.size) := (by omega); have e3_2 : ¬ (w3.heap.size = w.heap.size + 1 + 1) := (by omega); clear c2_0_0 c2_0_1 z2_0 d2_0 e2_0 c2_1_0 c2_1_1 f2_1_0 f2_1_1 z2_1 d2_1 e2_1 c2_2_0 c2_2_1 f2_2_0 f2_2_1 z2_2 d2_2 e2_2)
    go_wp2_with (go_at_call 124; refine K.call (by with_reducible rfl) (by with_reducible rfl) (HC _) ?_; rintro e w4 ⟨rfl, x4⟩; have s4 : w3.heap.size + 1 ≤ w4.heap.size := (by have h_ := x4.size; (try simp at h_); omega); have X4 := K.Ext.trans (K.Ext.alloc X3 _) x4; obtain ⟨c4_0_0, c4_0_1⟩ := K.c2 x4 (w.heap.size) (.int .i64 a.1) (.int .i64 a.2) (by go_simp); have z4_0 : w.heap.size < w4.heap.size := World.block_lt_of_cell? w4 _ c4_0_0; have d4_0 : ¬ (w.heap.size = w4.heap.size) := (by omega); have e4_0 : ¬ (w4.heap.size = w.heap.size) := (by omega); obtain ⟨c4_1_0, c4_1_1⟩ := K.c2 x4 (w.heap.size + 1) (.int .i64 0) (.int .i64 0) (by go_simp); obtain ⟨f4_1_0, f4_1_1⟩ := K.f2 x4 (w.heap.size + 1) (by go_simp); have z4_1 : w.heap.size + 1 < w4.heap.size := World.block_lt_of_cell? w4 _ c4_1_0; have d4_1 : ¬ (w.heap.size + 1 = w4.heap.size) := (by omega); have e4_1 : ¬ (w4.heap.size = w.heap.size + 1) := (by omega); obtain ⟨c4_2_0, c4_2_1⟩ := K.c2 x4 (w.heap.size + 1 + 1) (.int .i64 0) (.int .i64 0) (by go_simp); obtain ⟨f4_2_0, f4_2_1⟩ := K.f2 x4 (w.heap.size + 1 + 1) (by go_simp); have z4_2 : w.heap.size + 1 + 1 < w4.heap.size := World.block_lt_of_cell? w4 _ c4_2_0; have d4_2 : ¬ (w.heap.size + 1 + 1 = w4.heap.size) := (by omega); have e4_2 : ¬ (w4.heap.size = w.heap.size + 1 + 1) := (by omega); obtain ⟨c4_3_0, c4_3_1⟩ := K.c2 x4 (w3.heap.size) (.int .i64 ((f, true).1).1) (.int .i64 ((f, true).1).2) (by go_simp); obtain ⟨f4_3_0, f4_3_1⟩ := K.f2 x4 (w3.heap.size) (by go_simp); have z4_3 : w3.heap.size < w4.heap.size := World.block_lt_of_cell? w4 _ c4_3_0; have d4_3 : ¬ (w3.heap.size = w4.heap.size) := (by omega); have e4_3 : ¬ (w4.heap.size = w3.heap.size) := (by omega); have n3_0 : ¬ (w3.heap.size = w.heap.size) := (by omega); have n0_3 : ¬ (w.heap.size = w3.heap.size) := (by omega); have n3_1 : ¬ (w3.heap.size = w.heap.size + 1) := (by omega); have n1_3 : ¬ (w.heap.size + 1 = w3.heap.size) := (by omega); have n3_2 : ¬ (w3.heap.size = w.heap.size + 1 + 1) := (by omega); have n2_3 : ¬ (w.heap.size + 1 + 1 = w3.heap.size) := (by omega); clear c3_0_0 c3_0_1 z3_0 d3_0 e3_0 c3_1_0 c3_1_1 f3_1_0 f3_1_1 z3_1 d3_1 e3_1 c3_2_0 c3_2_1 f3_2_0 f3_2_1 z3_2 d3_2 e3_2)
    rw [HE.out]
    refine bodyPost_ret (v := .tuple #[.agg #[.int .i64 0, .int .i64 0], .agg #[.int .i64 0, .int .i64 0], .int .i64 4]) (by unfold results; rw [Tryz.results97]; go_simp) rfl ⟨rfl, ?_⟩
    repeat with_reducible refine K.Ext.setCell ?_ (by dsimp only; omega) _
    exact (by repeat' (first | with_reducible exact X4 | with_reducible refine K.Ext.setCell ?_ ?_ _ | with_reducible refine K.Ext.alloc ?_ _ | with_reducible refine K.Ext.drew ?_ | (dsimp only; omega) | omega | (simp; omega)))
  · have HE : Hid (S = (f, g, 0)) := Z.hide (by rw [← hS.out, HS.out]; rfl)
    have X0 : K.Ext w w := K.Ext.refl w
    go_enter Tryz.func97, Tryz.ntmps97
    go_wp2_with (go_at_call 122; refine K.call (by with_reducible rfl) (by with_reducible rfl) (HU1 _) ?_; rintro e w1 ⟨rfl, x1⟩; have s1 : w.heap.size + 3 ≤ w1.heap.size := (by have h_ := x1.size; (try simp at h_); omega); have X1 : K.Ext w w1 := K.Ext.trans (by repeat' (first | with_reducible exact X0 | with_reducible refine K.Ext.setCell ?_ ?_ _ | with_reducible refine K.Ext.alloc ?_ _ | with_reducible refine K.Ext.drew ?_ | (dsimp only; omega) | omega | (simp; omega))) x1; obtain ⟨c1_0_0, c1_0_1⟩ := K.c2 x1 (w.heap.size) (.int .i64 a.1) (.int .i64 a.2) (by go_simp); have z1_0 : w.heap.size < w1.heap.size := World.block_lt_of_cell? w1 _ c1_0_0; have d1_0 : ¬ (w.heap.size = w1.heap.size) := (by omega); have e1_0 : ¬ (w1.heap.size = w.heap.size) := (by omega); obtain ⟨c1_1_0, c1_1_1⟩ := K.c2 x1 (w.heap.size + 1) (.int .i64 0) (.int .i64 0) (by go_simp); obtain ⟨f1_1_0, f1_1_1⟩ := K.f2 x1 (w.heap.size + 1) (by go_simp); have z1_1 : w.heap.size + 1 < w1.heap.size := World.block_lt_of_cell? w1 _ c1_1_0; have d1_1 : ¬ (w.heap.size + 1 = w1.heap.size) := (by omega); have e1_1 : ¬ (w1.heap.size = w.heap.size + 1) := (by omega); have n1_0 : ¬ (w.heap.size + 1 = w.heap.size) := (by omega); have n0_1 : ¬ (w.heap.size = w.heap.size + 1) := (by omega); obtain ⟨c1_2_0, c1_2_1⟩ := K.c2 x1 (w.heap.size + 1 + 1) (.int .i64 0) (.int .i64 0) (by go_simp); obtain ⟨f1_2_0, f1_2_1⟩ := K.f2 x1 (w.heap.size + 1 + 1) (by go_simp); have z1_2 : w.heap.size + 1 + 1 < w1.heap.size := World.block_lt_of_cell? w1 _ c1_2_0; have d1_2 : ¬ (w.heap.size + 1 + 1 = w1.heap.size) := (by omega); have e1_2 : ¬ (w1.heap.size = w.heap.size + 1 + 1) := (by omega); have n2_0 : ¬ (w.heap.size + 1 + 1 = w.heap.size) := (by omega); have n0_2 : ¬ (w.heap.size = w.heap.size + 1 + 1) := (by omega); have n2_1 : ¬ (w.heap.size + 1 + 1 = w.heap.size + 1) := (by omega); have n1_2 : ¬ (w.heap.size + 1 = w.heap.size + 1 + 1) := (by omega))
    go_wp2_with (go_at_call 122; refine K.call (by with_reducible rfl) (by with_reducible rfl) (HU2 _) ?_; rintro e w2 ⟨rfl, x2⟩; have s2 : w1.heap.size ≤ w2.heap.size := (by have h_ := x2.size; (try simp at h_); omega); have X2 := K.Ext.trans (X1) x2; obtain ⟨c2_0_0, c2_0_1⟩ := K.c2 x2 (w.heap.size) (.int .i64 a.1) (.int .i64 a.2) (by go_simp); have z2_0 : w.heap.size < w2.heap.size := World.block_lt_of_cell? w2 _ c2_0_0; have d2_0 : ¬ (w.heap.size = w2.heap.size) := (by omega); have e2_0 : ¬ (w2.heap.size = w.heap.size) := (by omega); obtain ⟨c2_1_0, c2_1_1⟩ := K.c2 x2 (w.heap.size + 1) (.int .i64 0) (.int .i64 0) (by go_simp); obtain ⟨f2_1_0, f2_1_1⟩ := K.f2 x2 (w.heap.size + 1) (by go_simp); have z2_1 : w.heap.size + 1 < w2.heap.size := World.block_lt_of_cell? w2 _ c2_1_0; have d2_1 : ¬ (w.heap.size + 1 = w2.heap.size) := (by omega); have e2_1 : ¬ (w2.heap.size = w.heap.size + 1) := (by omega); obtain ⟨c2_2_0, c2_2_1⟩ := K.c2 x2 (w.heap.size + 1 + 1) (.int .i64 0) (.int .i64 0) (by go_simp); obtain ⟨f2_2_0, f2_2_1⟩ := K.f2 x2 (w.heap.size + 1 + 1) (by go_simp); have z2_2 : w.heap.size + 1 + 1 < w2.heap.size := World.block_lt_of_cell? w2 _ c2_2_0; have d2_2 : ¬ (w.heap.size + 1 + 1 = w2.heap.size) := (by omega); have e2_2 : ¬ (w2.heap.size = w.heap.size + 1 + 1) := (by omega); clear c1_0_0 c1_0_1 z1_0 d1_0 e1_0 c1_1_0 c1_1_1 f1_1_0 f1_1_1 z1_1 d1_1 e1_1 c1_2_0 c1_2_1 f1_2_0 f1_2_1 z1_2 d1_2 e1_2)
    go_wp2_with (go_at_call 123; refine K.call (by with_reducible rfl) (by with_reducible rfl) (HB _) ?_; rintro e w3 ⟨rfl, x3⟩; have s3 : w2.heap.size ≤ w3.heap.size := (by have h_ := x3.size; (try simp at h_); omega); have X3 := K.Ext.trans (X2) x3; obtain ⟨c3_0_0, c3_0_1⟩ := K.c2 x3 (w.heap.size) (.int .i64 a.1) (.int .i64 a.2) (by go_simp); have z3_0 : w.heap.size < w3.heap.size := World.block_lt_of_cell? w3 _ c3_0_0; have d3_0 : ¬ (w.heap.size = w3.heap.size) := (by omega); have e3_0 : ¬ (w3.heap.size = w.heap.size) := (by omega); obtain ⟨c3_1_0, c3_1_1⟩ := K.c2 x3 (w.heap.size + 1) (.int .i64 0) (.int .i64 0) (by go_simp); obtain ⟨f3_1_0, f3_1_1⟩ := K.f2 x3 (w.heap.size + 1) (by go_simp); have z3_1 : w.heap.size + 1 < w3.heap.size := World.block_lt_of_cell? w3 _ c3_1_0; have d3_1 : ¬ (w.heap.size + 1 = w3.heap.size) := (by omega); have e3_1 : ¬ (w3.heap.size = w.heap.size + 1) := (by omega); obtain ⟨c3_2_0, c3_2_1⟩ := K.c2 x3 (w.heap.size + 1 + 1) (.int .i64 0) (.int .i64 0) (by go_simp); obtain ⟨f3_2_0, f3_2_1⟩ := K.f2 x3 (w.heap.size + 1 + 1) (by go_simp); have z3_2 : w.heap.size + 1 + 1 < w3.heap.size := World.block_lt_of_cell? w3 _ c3_2_0; have d3_2 : ¬ (w.heap.size + 1 + 1 = w3.heap.size) := (by omega); have e3_2 : ¬ (w3.heap.size = w.heap.size + 1 + 1) := (by omega); clear c2_0_0 c2_0_1 z2_0 d2_0 e2_0 c2_1_0 c2_1_1 f2_1_0 f2_1_1 z2_1 d2_1 e2_1 c2_2_0 c2_2_1 f2_2_0 f2_2_1 z2_2 d2_2 e2_2)
    go_wp2_with (go_at_call 124; refine K.call (by with_reducible rfl) (by with_reducible rfl) (HC _) ?_; rintro e w4 ⟨rfl, x4⟩; have s4 : w3.heap.size + 1 ≤ w4.heap.size := (by have h_ := x4.size; (try simp at h_); omega); have X4 := K.Ext.trans (K.Ext.alloc X3 _) x4; obtain ⟨c4_0_0, c4_0_1⟩ := K.c2 x4 (w.heap.size) (.int .i64 a.1) (.int .i64 a.2) (by go_simp); have z4_0 : w.heap.size < w4.heap.size := World.block_lt_of_cell? w4 _ c4_0_0; have d4_0 : ¬ (w.heap.size = w4.heap.size) := (by omega); have e4_0 : ¬ (w4.heap.size = w.heap.size) := (by omega); obtain ⟨c4_1_0, c4_1_1⟩ := K.c2 x4 (w.heap.size + 1) (.int .i64 0) (.int .i64 0) (by go_simp); obtain ⟨f4_1_0, f4_1_1⟩ := K.f2 x4 (w.heap.size + 1) (by go_simp); have z4_1 : w.heap.size + 1 < w4.heap.size := World.block_lt_of_cell? w4 _ c4_1_0; have d4_1 : ¬ (w.heap.size + 1 = w4.heap.size) := (by omega); have e4_1 : ¬ (w4.heap.size = w.heap.size + 1) := (by omega); obtain ⟨c4_2_0, c4_2_1⟩ := K.c2 x4 (w.heap.size + 1 + 1) (.int .i64 0) (.int .i64 0) (by go_simp); obtain ⟨f4_2_0, f4_2_1⟩ := K.f2 x4 (w.heap.size + 1 + 1) (by go_simp); have z4_2 : w.heap.size + 1 + 1 < w4.heap.size := World.block_lt_of_cell? w4 _ c4_2_0; have d4_2 : ¬ (w.heap.size + 1 + 1 = w4.heap.size) := (by omega); have e4_2 : ¬ (w4.heap.size = w.heap.size + 1 + 1) := (by omega); obtain ⟨c4_3_0, c4_3_1⟩ := K.c2 x4 (w3.heap.size) (.int .i64 ((f, true).1).1) (.int .i64 ((f, true).1).2) (by go_simp); obtain ⟨f4_3_0, f4_3_1⟩ := K.f2 x4 (w3.heap.size) (by go_simp); have z4_3 : w3.heap.size < w4.heap.size := World.block_lt_of_cell? w4 _ c4_3_0; have d4_3 : ¬ (w3.heap.size = w4.heap.size) := (by omega); have e4_3 : ¬ (w4.heap.size = w3.heap.size) := (by omega); have n3_0 : ¬ (w3.heap.size = w.heap.size) := (by omega); have n0_3 : ¬ (w.heap.size = w3.heap.size) := (by omega); have n3_1 : ¬ (w3.heap.size = w.heap.size + 1) := (by omega); have n1_3 : ¬ (w.heap.size + 1 = w3.heap.size) := (by omega); have n3_2 : ¬ (w3.heap.size = w.heap.size + 1 + 1) := (by omega); have n2_3 : ¬ (w.heap.size + 1 + 1 = w3.heap.size) := (by omega); clear c3_0_0 c3_0_1 z3_0 d3_0 e3_0 c3_1_0 c3_1_1 f3_1_0 f3_1_1 z3_1 d3_1 e3_1 c3_2_0 c3_2_1 f3_2_0 f3_2_1 z3_2 d3_2 e3_2)
    go_region
    all_goals
      go_wp2_with fail
      rw [HE.out]
      refine bodyPost_ret (v := .tuple #[.agg #[.int .i64 ((f, true).1).1, .int .i64 ((f, true).1).2], .agg #[.int .i64 ((g, true).1).1, .int .i64 ((g, true).1).2], .int .i64 0]) (by unfold results; rw [Tryz.results97]; go_simp) rfl ⟨rfl, ?_⟩
      repeat with_reducible refine K.Ext.setCell ?_ (by dsimp only; omega) _
      exact (by repeat' (first | with_reducible exact X4 | with_reducible refine K.Ext.setCell ?_ ?_ _ | with_reducible refine K.Ext.alloc ?_ _ | with_reducible refine K.Ext.drew ?_ | (dsimp only; omega) | omega | (simp; omega)))
set_option maxHeartbeats 1600000 in
theorem l04Units_any (u : Int)  (w : World)   :
    Calls Tryz.prog 127 #[.int .i64 u] w fun e w' => e = .returned (.bool (Z.units u)) ∧ K.Ext w w' := by
  obtain ⟨b, hb⟩ : ∃ b, b = Z.units u := ⟨_, rfl⟩
  have HW : ∀ w : World, Calls Tryz.prog 87 #[.int .i64 u, .int .i64 (-31457280), .int .i64 31457280] w fun e w' => e = .returned (.bool b) ∧ w = w' := fun w => by rw [hb]; exact l01In_any u (-31457280) 31457280 w
  have HE : Hid (Z.units u = b) := Z.hide hb.symm
  clear hb
  have X0 : K.Ext w w := K.Ext.refl w
  go_enter Tryz.func127, Tryz.ntmps127
  go_wp2_with (go_at_call 87; refine K.call (by with_reducible rfl) (by with_reducible rfl) (HW _) ?_; rintro e w_ ⟨rfl, rfl⟩)
  rw [HE.out]
  refine bodyPost_ret (v := .bool b) (by unfold results; rw [Tryz.results127]; go_simp) rfl ⟨rfl, ?_⟩
  repeat with_reducible refine K.Ext.setCell ?_ (by dsimp only; omega) _
  exact (by repeat' (first | with_reducible exact X0 | with_reducible refine K.Ext.setCell ?_ ?_ _ | with_reducible refine K.Ext.alloc ?_ _ | with_reducible refine K.Ext.drew ?_ | (dsimp only; omega) | omega | (simp; omega)))
set_option maxHeartbeats 6400000 in
theorem l04Span_any (a : Int × Int)  (w : World) (S : (Int × Int) × (Int × Int) × Int) (hS : Hid (Z.spanOf a = S))  :
    Calls Tryz.prog 99 #[.agg #[.int .i64 a.1, .int .i64 a.2]] w fun e w' => e = .returned (.tuple #[.agg #[.int .i64 S.1.1, .int .i64 S.1.2], .agg #[.int .i64 S.2.1.1, .int .i64 S.2.1.2], .int .i64 S.2.2]) ∧ K.Ext w w' := by
  cases v1 : Z.units a.1
  · have HE : Hid (S = ((0, 0), (0, 0), 2)) := Z.hide (by rw [← hS.out]; unfold Z.spanOf; rw [v1]; rfl)
    have HU1 : ∀ w : World, Calls Tryz.prog 127 #[.int .i64 a.1] w fun e w' => e = .returned (.bool false) ∧ K.Ext w w' := fun w => by rw [← v1]; exact l04Units_any a.1 w
    clear v1
    have X0 : K.Ext w w := K.Ext.refl w
    go_enter Tryz.func99, Tryz.ntmps99
    go_wp2_with (go_at_call 127; refine K.call (by with_reducible rfl) (by with_reducible rfl) (HU1 _) ?_; rintro e w1 ⟨rfl, x1⟩; have s1 : w.heap.size + 3 ≤ w1.heap.size := (by have h_ := x1.size; (try simp at h_); omega); have X1 := K.Ext.trans (K.Ext.alloc (K.Ext.alloc (K.Ext.alloc X0 _) _) _) x1; obtain ⟨c1_0_0, c1_0_1⟩ := K.c2 x1 (w.heap.size) (.int .i64 a.1) (.int .i64 a.2) (by go_simp); have z1_0 : w.heap.size < w1.heap.size := World.block_lt_of_cell? w1 _ c1_0_0; have d1_0 : ¬ (w.heap.size = w1.heap.size) := (by omega); have e1_0 : ¬ (w1.heap.size = w.heap.size) := (by omega); obtain ⟨c1_1_0, c1_1_1⟩ := K.c2 x1 (w.heap.size + 1) (.int .i64 0) (.int .i64 0) (by go_simp); obtain ⟨f1_1_0, f1_1_1⟩ := K.f2 x1 (w.heap.size + 1) (by go_simp); have z1_1 : w.heap.size + 1 < w1.heap.size := World.block_lt_of_cell? w1 _ c1_1_0; have d1_1 : ¬ (w.heap.size + 1 = w1.heap.size) := (by omega); have e1_1 : ¬ (w1.heap.size = w.heap.size + 1) := (by omega); have n1_0 : ¬ (w.heap.size + 1 = w.heap.size) := (by omega); have n0_1 : ¬ (w.heap.size = w.heap.size + 1) := (by omega); obtain ⟨c1_2_0, c1_2_1⟩ := K.c2 x1 (w.heap.size + 1 + 1) (.int .i64 0) (.int .i64 0) (by go_simp); obtain ⟨f1_2_0, f1_2_1⟩ := K.f2 x1 (w.heap.size + 1 + 1) (by go_simp); have z1_2 : w.heap.size + 1 + 1 < w1.heap.size := World.block_lt_of_cell? w1 _ c1_2_0; have d1_2 : ¬ (w.heap.size + 1 + 1 = w1.heap.size) := (by omega); have e1_2 : ¬ (w1.heap.size = w.heap.size + 1 + 1) := (by omega); have n2_0 : ¬ (w.heap.size + 1 + 1 = w.heap.size) := (by omega); have n0_2 : ¬ (w.heap.size = w.heap.size + 1 + 1) := (by omega); have n2_1 : ¬ (w.heap.size + 1 + 1 = w.heap.size + 1) := (by omega); have n1_2 : ¬ (w.heap.size + 1 = w.heap.size + 1 + 1) := (by omega))
    rw [HE.out]
    refine bodyPost_ret (v := .tuple #[.agg #[.int .i64 0, .int .i64 0], .agg #[.int .i64 0, .int .i64 0], .int .i64 2]) (by unfold results; rw [Tryz.results99]; go_simp) rfl ⟨rfl, ?_⟩
    repeat with_reducible refine K.Ext.setCell ?_ (by dsimp only; omega) _
    exact (by repeat' (first | with_reducible exact X1 | with_reducible refine K.Ext.setCell ?_ ?_ _ | with_reducible refine K.Ext.alloc ?_ _ | with_reducible refine K.Ext.drew ?_ | (dsimp only; omega) | omega | (simp; omega)))
  cases v2 : Z.units a.2
  · have HE : Hid (S = ((0, 0), (0, 0), 2)) := Z.hide (by rw [← hS.out]; unfold Z.spanOf; rw [v1, v2]; rfl)
    have HU1 : ∀ w : World, Calls Tryz.prog 127 #[.int .i64 a.1] w fun e w' => e = .returned (.bool true) ∧ K.Ext w w' := fun w => by rw [← v1]; exact l04Units_any a.1 w
    have HU2 : ∀ w : World, Calls Tryz.prog 127 #[.int .i64 a.2] w fun e w' => e = .returned (.bool false) ∧ K.Ext w w' := fun w => by rw [← v2]; exact l04Units_any a.2 w
    clear v1 v2
    have X0 : K.Ext w w := K.Ext.refl w
    go_enter Tryz.func99, Tryz.ntmps99
    go_wp2_with (go_at_call 127; refine K.call (by with_reducible rfl) (by with_reducible rfl) (HU1 _) ?_; rintro e w1 ⟨rfl, x1⟩; have s1 : w.heap.size + 3 ≤ w1.heap.size := (by have h_ := x1.size; (try simp at h_); omega); have X1 : K.Ext w w1 := K.Ext.trans (by repeat' (first | with_reducible exact X0 | with_reducible refine K.Ext.setCell ?_ ?_ _ | with_reducible refine K.Ext.alloc ?_ _ | with_reducible refine K.Ext.drew ?_ | (dsimp only; omega) | omega | (simp; omega))) x1; obtain ⟨c1_0_0, c1_0_1⟩ := K.c2 x1 (w.heap.size) (.int .i64 a.1) (.int .i64 a.2) (by go_simp); have z1_0 : w.heap.size < w1.heap.size := World.block_lt_of_cell? w1 _ c1_0_0; have d1_0 : ¬ (w.heap.size = w1.heap.size) := (by omega); have e1_0 : ¬ (w1.heap.size = w.heap.size) := (by omega); obtain ⟨c1_1_0, c1_1_1⟩ := K.c2 x1 (w.heap.size + 1) (.int .i64 0) (.int .i64 0) (by go_simp); obtain ⟨f1_1_0, f1_1_1⟩ := K.f2 x1 (w.heap.size + 1) (by go_simp); have z1_1 : w.heap.size + 1 < w1.heap.size := World.block_lt_of_cell? w1 _ c1_1_0; have d1_1 : ¬ (w.heap.size + 1 = w1.heap.size) := (by omega); have e1_1 : ¬ (w1.heap.size = w.heap.size + 1) := (by omega); have n1_0 : ¬ (w.heap.size + 1 = w.heap.size) := (by omega); have n0_1 : ¬ (w.heap.size = w.heap.size + 1) := (by omega); obtain ⟨c1_2_0, c1_2_1⟩ := K.c2 x1 (w.heap.size + 1 + 1) (.int .i64 0) (.int .i64 0) (by go_simp); obtain ⟨f1_2_0, f1_2_1⟩ := K.f2 x1 (w.heap.size + 1 + 1) (by go_simp); have z1_2 : w.heap.size + 1 + 1 < w1.heap.size := World.block_lt_of_cell? w1 _ c1_2_0; have d1_2 : ¬ (w.heap.size + 1 + 1 = w1.heap.size) := (by omega); have e1_2 : ¬ (w1.heap.size = w.heap.size + 1 + 1) := (by omega); have n2_0 : ¬ (w.heap.size + 1 + 1 = w.heap.size) := (by omega); have n0_2 : ¬ (w.heap.size = w.heap.size + 1 + 1) := (by omega); have n2_1 : ¬ (w.heap.size + 1 + 1 = w.heap.size + 1) := (by omega); have n1_2 : ¬ (w.heap.size + 1 = w.heap.size + 1 + 1) := (by omega))
    go_wp2_with (go_at_call 127; refine K.call (by with_reducible rfl) (by with_reducible rfl) (HU2 _) ?_; rintro e w2 ⟨rfl, x2⟩; have s2 : w1.heap.size ≤ w2.heap.size := (by have h_ := x2.size; (try simp at h_); omega); have X2 := K.Ext.trans (X1) x2; obtain ⟨c2_0_0, c2_0_1⟩ := K.c2 x2 (w.heap.size) (.int .i64 a.1) (.int .i64 a.2) (by go_simp); have z2_0 : w.heap.size < w2.heap.size := World.block_lt_of_cell? w2 _ c2_0_0; have d2_0 : ¬ (w.heap.size = w2.heap.size) := (by omega); have e2_0 : ¬ (w2.heap.size = w.heap.size) := (by omega); obtain ⟨c2_1_0, c2_1_1⟩ := K.c2 x2 (w.heap.size + 1) (.int .i64 0) (.int .i64 0) (by go_simp); obtain ⟨f2_1_0, f2_1_1⟩ := K.f2 x2 (w.heap.size + 1) (by go_simp); have z2_1 : w.heap.size + 1 < w2.heap.size := World.block_lt_of_cell? w2 _ c2_1_0; have d2_1 : ¬ (w.heap.size + 1 = w2.heap.size) := (by omega); have e2_1 : ¬ (w2.heap.size = w.heap.size + 1) := (by omega); obtain ⟨c2_2_0, c2_2_1⟩ := K.c2 x2 (w.heap.size + 1 + 1) (.int .i64 0) (.int .i64 0) (by go_simp); obtain ⟨f2_2_0, f2_2_1⟩ := K.f2 x2 (w.heap.size + 1 + 1) (by go_simp); have z2_2 : w.heap.size + 1 + 1 < w2.heap.size := World.block_lt_of_cell? w2 _ c2_2_0; have d2_2 : ¬ (w.heap.size + 1 + 1 = w2.heap.size) := (by omega); have e2_2 : ¬ (w2.heap.size = w.heap.size + 1 + 1) := (by omega); clear c1_0_0 c1_0_1 z1_0 d1_0 e1_0 c1_1_0 c1_1_1 f1_1_0 f1_1_1 z1_1 d1_1 e1_1 c1_2_0 c1_2_1 f1_2_0 f1_2_1 z1_2 d1_2 e1_2)
    rw [HE.out]
    refine bodyPost_ret (v := .tuple #[.agg #[.int .i64 0, .int .i64 0], .agg #[.int .i64 0, .int .i64 0], .int .i64 2]) (by unfold results; rw [Tryz.results99]; go_simp) rfl ⟨rfl, ?_⟩
    repeat with_reducible refine K.Ext.setCell ?_ (by dsimp only; omega) _
    exact (by repeat' (first | with_reducible exact X2 | with_reducible refine K.Ext.setCell ?_ ?_ _ | with_reducible refine K.Ext.alloc ?_ _ | with_reducible refine K.Ext.drew ?_ | (dsimp only; omega) | omega | (simp; omega)))
  have HU1 : ∀ w : World, Calls Tryz.prog 127 #[.int .i64 a.1] w fun e w' => e = .returned (.bool true) ∧ K.Ext w w' := fun w => by rw [← v1]; exact l04Units_any a.1 w
  have HU2 : ∀ w : World, Calls Tryz.prog 127 #[.int .i64 a.2] w fun e w' => e = .returned (.bool true) ∧ K.Ext w w' := fun w => by rw [← v2]; exact l04Units_any a.2 w
  obtain ⟨f, hf⟩ : ∃ f, f = Z.below a.1 := ⟨_, rfl⟩
  obtain ⟨g, hg⟩ : ∃ g, g = Z.above a.2 := ⟨_, rfl⟩
  have HB : ∀ w : World, Calls Tryz.prog 128 #[.int .i64 a.1] w fun e w' => e = .returned (.agg #[.int .i64 f.1, .int .i64 f.2]) ∧ K.Ext w w' := fun w => l04Below_any a.1 w v1 f (Z.hide hf.symm)
  have HC : ∀ w : World, Calls Tryz.prog 129 #[.int .i64 a.2] w fun e w' => e = .returned (.agg #[.int .i64 g.1, .int .i64 g.2]) ∧ K.Ext w w' := fun w => l04Above_any a.2 w v2 g (Z.hide hg.symm)
  have HS : Hid (Z.spanOf a = if Z.isFig f.1 f.2 && Z.isFig g.1 g.2 then (f, g, 0) else ((0, 0), (0, 0), 4)) := Z.hide (by unfold Z.spanOf; rw [v1, v2, ← hf, ← hg]; rfl)
  clear hf hg v1 v2
  cases vf : Z.isFig f.1 f.2
  · have HE : Hid (S = ((0, 0), (0, 0), 4)) := Z.hide (by rw [← hS.out, HS.out, vf]; rfl)
    have HIf : ∀ w : World, Calls Tryz.prog 52 #[.agg #[.int .i64 f.1, .int .i64 f.2]] w fun e w' => e = .returned (.bool false) ∧ K.Ext w w' := fun w => by rw [← vf]; exact spec_IsFigure f.1 f.2 w
    clear vf HS
    have X0 : K.Ext w w := K.Ext.refl w
    go_enter Tryz.func99, Tryz.ntmps99
    go_wp2_with (go_at_call 127; refine K.call (by with_reducible rfl) (by with_reducible rfl) (HU1 _) ?_; rintro e w1 ⟨rfl, x1⟩; have s1 : w.heap.size + 3 ≤ w1.heap.size := (by have h_ := x1.size; (try simp at h_); omega); have X1 : K.Ext w w1 := K.Ext.trans (by repeat' (first | with_reducible exact X0 | with_reducible refine K.Ext.setCell ?_ ?_ _ | with_reducible refine K.Ext.alloc ?_ _ | with_reducible refine K.Ext.drew ?_ | (dsimp only; omega) | omega | (simp; omega))) x1; obtain ⟨c1_0_0, c1_0_1⟩ := K.c2 x1 (w.heap.size) (.int .i64 a.1) (.int .i64 a.2) (by go_simp); have z1_0 : w.heap.size < w1.heap.size := World.block_lt_of_cell? w1 _ c1_0_0; have d1_0 : ¬ (w.heap.size = w1.heap.size) := (by omega); have e1_0 : ¬ (w1.heap.size = w.heap.size) := (by omega); obtain ⟨c1_1_0, c1_1_1⟩ := K.c2 x1 (w.heap.size + 1) (.int .i64 0) (.int .i64 0) (by go_simp); obtain ⟨f1_1_0, f1_1_1⟩ := K.f2 x1 (w.heap.size + 1) (by go_simp); have z1_1 : w.heap.size + 1 < w1.heap.size := World.block_lt_of_cell? w1 _ c1_1_0; have d1_1 : ¬ (w.heap.size + 1 = w1.heap.size) := (by omega); have e1_1 : ¬ (w1.heap.size = w.heap.size + 1) := (by omega); have n1_0 : ¬ (w.heap.size + 1 = w.heap.size) := (by omega); have n0_1 : ¬ (w.heap.size = w.heap.size + 1) := (by omega); obtain ⟨c1_2_0, c1_2_1⟩ := K.c2 x1 (w.heap.size + 1 + 1) (.int .i64 0) (.int .i64 0) (by go_simp); obtain ⟨f1_2_0, f1_2_1⟩ := K.f2 x1 (w.heap.size + 1 + 1) (by go_simp); have z1_2 : w.heap.size + 1 + 1 < w1.heap.size := World.block_lt_of_cell? w1 _ c1_2_0; have d1_2 : ¬ (w.heap.size + 1 + 1 = w1.heap.size) := (by omega); have e1_2 : ¬ (w1.heap.size = w.heap.size + 1 + 1) := (by omega); have n2_0 : ¬ (w.heap.size + 1 + 1 = w.heap.size) := (by omega); have n0_2 : ¬ (w.heap.size = w.heap.size + 1 + 1) := (by omega); have n2_1 : ¬ (w.heap.size + 1 + 1 = w.heap.size + 1) := (by omega); have n1_2 : ¬ (w.heap.size + 1 = w.heap.size + 1 + 1) := (by omega))
    go_wp2_with (go_at_call 127; refine K.call (by with_reducible rfl) (by with_reducible rfl) (HU2 _) ?_; rintro e w2 ⟨rfl, x2⟩; have s2 : w1.heap.size ≤ w2.heap.size := (by have h_ := x2.size; (try simp at h_); omega); have X2 := K.Ext.trans (X1) x2; obtain ⟨c2_0_0, c2_0_1⟩ := K.c2 x2 (w.heap.size) (.int .i64 a.1) (.int .i64 a.2) (by go_simp); have z2_0 : w.heap.size < w2.heap.size := World.block_lt_of_cell? w2 _ c2_0_0; have d2_0 : ¬ (w.heap.size = w2.heap.size) := (by omega); have e2_0 : ¬ (w2.heap.size = w.heap.size) := (by omega); obtain ⟨c2_1_0, c2_1_1⟩ := K.c2 x2 (w.heap.size + 1) (.int .i64 0) (.int .i64 0) (by go_simp); obtain ⟨f2_1_0, f2_1_1⟩ := K.f2 x2 (w.heap.size + 1) (by go_simp); have z2_1 : w.heap.size + 1 < w2.heap.size := World.block_lt_of_cell? w2 _ c2_1_0; have d2_1 : ¬ (w.heap.size + 1 = w2.heap.size) := (by omega); have e2_1 : ¬ (w2.heap.size = w.heap.size + 1) := (by omega); obtain ⟨c2_2_0, c2_2_1⟩ := K.c2 x2 (w.heap.size + 1 + 1) (.int .i64 0) (.int .i64 0) (by go_simp); obtain ⟨f2_2_0, f2_2_1⟩ := K.f2 x2 (w.heap.size + 1 + 1) (by go_simp); have z2_2 : w.heap.size + 1 + 1 < w2.heap.size := World.block_lt_of_cell? w2 _ c2_2_0; have d2_2 : ¬ (w.heap.size + 1 + 1 = w2.heap.size) := (by omega); have e2_2 : ¬ (w2.heap.size = w.heap.size + 1 + 1) := (by omega); clear c1_0_0 c1_0_1 z1_0 d1_0 e1_0 c1_1_0 c1_1_1 f1_1_0 f1_1_1 z1_1 d1_1 e1_1 c1_2_0 c1_2_1 f1_2_0 f1_2_1 z1_2 d1_2 e1_2)
    go_wp2_with fail
    refine K.wp_region_y (R := K.RE) 8 [0, 1, 2, 0, 1, 2, 2, 2] [K.SQ.any, K.SQ.any, K.SQ.is (.agg #[.int .i64 f.1, .int .i64 f.2]), K.SQ.any, K.SQ.any, K.SQ.is (.agg #[.int .i64 g.1, .int .i64 g.2]), K.SQ.new (w2.heap.size) (Nat.zero_le _) (.cells #[.int .i64 0, .int .i64 0] 32), K.SQ.new (w2.heap.size) (Nat.zero_le _) (.cells #[.int .i64 0, .int .i64 0] 32)] (by kernel_rfl) (by kernel_rfl) ?_
    simp only [List.take_succ_cons, List.take_zero, List.drop_succ_cons, List.drop_zero]
    apply K.y_pure
    · rfl
    · rfl
    · intro w'; go_simp; first | done | exact K.vint (IntWalk.i64_in _ (by omega)) | rfl | exact ⟨rfl, rfl⟩
    simp only [Act.put, List.setIfInBounds_toArray, List.set]
    apply K.y_held
    · rfl
    · rfl
    · intro w' hx; have hx : K.Ext _ _ := hx; have hc := hx.all.1.1; have hf := hx.all.1.2; have hc' := hx.all.2.1; have hf' := hx.all.2.2; go_simp; first | done | rfl | exact ⟨rfl, rfl⟩
    simp only [Act.put, List.setIfInBounds_toArray, List.set]
    apply K.y_call_is
    · rfl
    · rfl
    · rfl
    · intro w'; go_simp; first | done | rfl | exact ⟨rfl, rfl⟩
    · intro w' hx hp; have hx : K.Ext _ _ := hx; have hc := hx.all.1.1; have hf := hx.all.1.2; have hc' := hx.all.2.1; have hf' := hx.all.2.2; exact HB _
    intro w_2_ hx_2_
    replace hx_2_ : K.Ext _ _ := hx_2_
    simp only [Act.put, List.setIfInBounds_toArray, List.set]
    apply K.y_pure
    · rfl
    · rfl
    · intro w'; go_simp; first | done | exact K.vint (IntWalk.i64_in _ (by omega)) | rfl | exact ⟨rfl, rfl⟩
    simp only [Act.put, List.setIfInBounds_toArray, List.set]
    apply K.y_held
    · rfl
    · rfl
    · intro w' hx; have hx : K.Ext _ _ := hx; have hc := hx.all.1.1; have hf := hx.all.1.2; have hc' := hx.all.2.1; have hf' := hx.all.2.2; go_simp; first | done | rfl | exact ⟨rfl, rfl⟩
    simp only [Act.put, List.setIfInBounds_toArray, List.set]
    apply K.y_call_is
    · rfl
    · rfl
    · rfl
    · intro w'; go_simp; first | done | rfl | exact ⟨rfl, rfl⟩
    · intro w' hx hp; have hx : K.Ext _ _ := hx; have hc := hx.all.1.1; have hf := hx.all.1.2; have hc' := hx.all.2.1; have hf' := hx.all.2.2; exact HC _
    intro w_5_ hx_5_
    replace hx_5_ : K.Ext _ _ := hx_5_
    simp only [Act.put, List.setIfInBounds_toArray, List.set]
    apply K.y_new (Nat.zero_le _)
    · rfl
    · rfl
    · rfl
    · go_simp; first | done | omega
    · intro w'; go_simp; first | done | rfl | exact ⟨rfl, rfl⟩
    intro g3_6 w_6_ hx_6_ hg3_6 hb_6_ hn_6_
    replace hx_6_ : K.Ext _ _ := hx_6_
    clear hn_6_
    simp only [Act.put, List.setIfInBounds_toArray, List.set]
    apply K.y_new (Nat.zero_le _)
    · rfl
    · rfl
    · rfl
    · go_simp; first | done | omega
    · intro w'; go_simp; first | done | rfl | exact ⟨rfl, rfl⟩
    intro g3_7 w_7_ hx_7_ hg3_7 hb_7_ hn_7_
    replace hx_7_ : K.Ext _ _ := hx_7_
    have ne3_6_7 : ¬ (g3_6 = g3_7) := K.blk_ptr (hn_7_ 6 _ (by decide) rfl rfl rfl)
    have ne3_7_6 : ¬ (g3_7 = g3_6) := fun e => ne3_6_7 e.symm
    clear hn_7_
    simp only [Act.put, List.setIfInBounds_toArray, List.set]
    apply K.y_done
    intro w3 h_x
    replace h_x : K.Ext _ _ := h_x
    have x3 := hx_2_.trans (hx_5_.trans (hx_6_.trans (hx_7_.trans h_x)))
    have hb3_6 := K.Ext.block (hx_7_.trans h_x) hb_6_
    have cg3_6_0 : w3.cell? ⟨g3_6, 0, none⟩ = some (.int .i64 0) := K.cell_at hb3_6 rfl
    have fg3_6_0 : w3.frozen? ⟨g3_6, 0, none⟩ = false := K.thaw_at hb3_6
    have cg3_6_1 : w3.cell? ⟨g3_6, 1, none⟩ = some (.int .i64 0) := K.cell_at hb3_6 rfl
    have fg3_6_1 : w3.frozen? ⟨g3_6, 1, none⟩ = false := K.thaw_at hb3_6
    have hb3_7 := K.Ext.block (h_x) hb_7_
    have cg3_7_0 : w3.cell? ⟨g3_7, 0, none⟩ = some (.int .i64 0) := K.cell_at hb3_7 rfl
    have fg3_7_0 : w3.frozen? ⟨g3_7, 0, none⟩ = false := K.thaw_at hb3_7
    have cg3_7_1 : w3.cell? ⟨g3_7, 1, none⟩ = some (.int .i64 0) := K.cell_at hb3_7 rfl
    have fg3_7_1 : w3.frozen? ⟨g3_7, 1, none⟩ = false := K.thaw_at hb3_7
    clear h_x hx_2_ hx_5_ hx_6_ hx_7_
    obtain ⟨⟨hcw3, hfw3⟩, hc'w3, hf'w3⟩ := x3.all
    have s3 : w2.heap.size ≤ w3.heap.size := (by have h_ := x3.size; (try simp at h_); omega)
    have X3 := K.Ext.trans (K.Ext.drew (X2)) x3
    obtain ⟨c3_0_0, c3_0_1⟩ := K.c2 x3 (w.heap.size) (.int .i64 a.1) (.int .i64 a.2) (by go_simp)
    have z3_0 : w.heap.size < w3.heap.size := World.block_lt_of_cell? w3 _ c3_0_0
    have d3_0 : ¬ (w.heap.size = w3.heap.size) := (by omega)
    have e3_0 : ¬ (w3.heap.size = w.heap.size) := (by omega)
    obtain ⟨c3_1_0, c3_1_1⟩ := K.c2 x3 (w.heap.size + 1) (.int .i64 0) (.int .i64 0) (by go_simp)
    obtain ⟨f3_1_0, f3_1_1⟩ := K.f2 x3 (w.heap.size + 1) (by go_simp)
    have z3_1 : w.heap.size + 1 < w3.heap.size := World.block_lt_of_cell? w3 _ c3_1_0
    have d3_1 : ¬ (w.heap.size + 1 = w3.heap.size) := (by omega)
    have e3_1 : ¬ (w3.heap.size = w.heap.size + 1) := (by omega)
    obtain ⟨c3_2_0, c3_2_1⟩ := K.c2 x3 (w.heap.size + 1 + 1) (.int .i64 0) (.int .i64 0) (by go_simp)
    obtain ⟨f3_2_0, f3_2_1⟩ := K.f2 x3 (w.heap.size + 1 + 1) (by go_simp)
    have z3_2 : w.heap.size + 1 + 1 < w3.heap.size := World.block_lt_of_cell? w3 _ c3_2_0
    have d3_2 : ¬ (w.heap.size + 1 + 1 = w3.heap.size) := (by omega)
    have e3_2 : ¬ (w3.heap.size = w.heap.size + 1 + 1) := (by omega)
    have nng3_6_0 : ¬ (g3_6 = w.heap.size) := (by omega)
    have nmg3_6_0 : ¬ (w.heap.size = g3_6) := (by omega)
    have nng3_6_1 : ¬ (g3_6 = w.heap.size + 1) := (by omega)
    have nmg3_6_1 : ¬ (w.heap.size + 1 = g3_6) := (by omega)
    have nng3_6_2 : ¬ (g3_6 = w.heap.size + 1 + 1) := (by omega)
    have nmg3_6_2 : ¬ (w.heap.size + 1 + 1 = g3_6) := (by omega)
    have nng3_7_0 : ¬ (g3_7 = w.heap.size) := (by omega)
    have nmg3_7_0 : ¬ (w.heap.size = g3_7) := (by omega)
    have nng3_7_1 : ¬ (g3_7 = w.heap.size + 1) := (by omega)
    have nmg3_7_1 : ¬ (w.heap.size + 1 = g3_7) := (by omega)
    have nng3_7_2 : ¬ (g3_7 = w.heap.size + 1 + 1) := (by omega)
    have nmg3_7_2 : ¬ (w.heap.size + 1 + 1 = g3_7) := (by omega)
    clear c2_0_0 c2_0_1 z2_0 d2_0 e2_0 c2_1_0 c2_1_1 f2_1_0 f2_1_1 z2_1 d2_1 e2_1 c2_2_0 c2_2_1 f2_2_0 f2_2_1 z2_2 d2_2 e2_2
    go_wp2_with fail
    refine NoPanic.normal ?_
    go_wp2_with (go_at_call 52; refine K.call (by with_reducible rfl) (by with_reducible rfl) (HIf _) ?_; rintro e w4 ⟨rfl, x4⟩; have s4 : w3.heap.size ≤ w4.heap.size := (by have h_ := x4.size; (try simp at h_); omega); have X4 : K.Ext w w4 := K.Ext.trans (by repeat' (first | with_reducible exact X3 | with_reducible refine K.Ext.setCell ?_ ?_ _ | with_reducible refine K.Ext.alloc ?_ _ | with_reducible refine K.Ext.drew ?_ | (dsimp only; omega) | omega | (simp; omega))) x4; obtain ⟨c4_0_0, c4_0_1⟩ := K.c2 x4 (w.heap.size) (.int .i64 a.1) (.int .i64 a.2) (by go_simp); have z4_0 : w.heap.size < w4.heap.size := World.block_lt_of_cell? w4 _ c4_0_0; have d4_0 : ¬ (w.heap.size = w4.heap.size) := (by omega); have e4_0 : ¬ (w4.heap.size = w.heap.size) := (by omega); obtain ⟨c4_1_0, c4_1_1⟩ := K.c2 x4 (w.heap.size + 1) (.int .i64 0) (.int .i64 0) (by go_simp); obtain ⟨f4_1_0, f4_1_1⟩ := K.f2 x4 (w.heap.size + 1) (by go_simp); have z4_1 : w.heap.size + 1 < w4.heap.size := World.block_lt_of_cell? w4 _ c4_1_0; have d4_1 : ¬ (w.heap.size + 1 = w4.heap.size) := (by omega); have e4_1 : ¬ (w4.heap.size = w.heap.size + 1) := (by omega); obtain ⟨c4_2_0, c4_2_1⟩ := K.c2 x4 (w.heap.size + 1 + 1) (.int .i64 0) (.int .i64 0) (by go_simp); obtain ⟨f4_2_0, f4_2_1⟩ := K.f2 x4 (w.heap.size + 1 + 1) (by go_simp); have z4_2 : w.heap.size + 1 + 1 < w4.heap.size := World.block_lt_of_cell? w4 _ c4_2_0; have d4_2 : ¬ (w.heap.size + 1 + 1 = w4.heap.size) := (by omega); have e4_2 : ¬ (w4.heap.size = w.heap.size + 1 + 1) := (by omega); obtain ⟨c4_3_0, c4_3_1⟩ := K.c2 x4 (g3_6) (.int .i64 f.1) (.int .i64 f.2) (by go_simp); obtain ⟨f4_3_0, f4_3_1⟩ := K.f2 x4 (g3_6) (by go_simp); have z4_3 : g3_6 < w4.heap.size := World.block_lt_of_cell? w4 _ c4_3_0; have d4_3 : ¬ (g3_6 = w4.heap.size) := (by omega); have e4_3 : ¬ (w4.heap.size = g3_6) := (by omega); have n3_0 : ¬ (g3_6 = w.heap.size) := (by omega); have n0_3 : ¬ (w.heap.size = g3_6) := (by omega); have n3_1 : ¬ (g3_6 = w.heap.size + 1) := (by omega); have n1_3 : ¬ (w.heap.size + 1 = g3_6) := (by omega); have n3_2 : ¬ (g3_6 = w.heap.size + 1 + 1) := (by omega); have n2_3 : ¬ (w.heap.size + 1 + 1 = g3_6) := (by omega); obtain ⟨c4_4_0, c4_4_1⟩ := K.c2 x4 (g3_7) (.int .i64 g.1) (.int .i64 g.2) (by go_simp); obtain ⟨f4_4_0, f4_4_1⟩ := K.f2 x4 (g3_7) (by go_simp); have z4_4 : g3_7 < w4.heap.size := World.block_lt_of_cell? w4 _ c4_4_0; have d4_4 : ¬ (g3_7 = w4.heap.size) := (by omega); have e4_4 : ¬ (w4.heap.size = g3_7) := (by omega); have n4_0 : ¬ (g3_7 = w.heap.size) := (by omega); have n0_4 : ¬ (w.heap.size = g3_7) := (by omega); have n4_1 : ¬ (g3_7 = w.heap.size + 1) := (by omega); have n1_4 : ¬ (w.heap.size + 1 = g3_7) := (by omega); have n4_2 : ¬ (g3_7 = w.heap.size + 1 + 1) := (by omega); have n2_4 : ¬ (w.heap.size + 1 + 1 = g3_7) := (by omega); have n4_3 : ¬ (g3_7 = g3_6) := (by omega); have n3_4 : ¬ (g3_6 = g3_7) := (by omega); clear c3_0_0 c3_0_1 z3_0 d3_0 e3_0 c3_1_0 c3_1_1 f3_1_0 f3_1_1 z3_1 d3_1 e3_1 c3_2_0 c3_2_1 f3_2_0 f3_2_1 z3_2 d3_2 e3_2)
    rw [HE.out]
    refine bodyPost_ret (v := .tuple #[.agg #[.int .i64 0, .int .i64 0], .agg #[.int .i64 0, .int .i64 0], .int .i64 4]) (by unfold results; rw [Tryz.results99]; go_simp) rfl ⟨rfl, ?_⟩
    repeat with_reducible refine K.Ext.setCell ?_ (by dsimp only; omega) _
    exact (by repeat' (first | with_reducible exact X4 | with_reducible refine K.Ext.setCell ?_ ?_ _ | with_reducible refine K.Ext.alloc ?_ _ | with_reducible refine K.Ext.drew ?_ | (dsimp only; omega) | omega | (simp; omega)))
  cases vg : Z.isFig g.1 g.2
  · have HE : Hid (S = ((0, 0), (0, 0), 4)) := Z.hide (by rw [← hS.out, HS.out, vf, vg]; rfl)
    have HIf : ∀ w : World, Calls Tryz.prog 52 #[.agg #[.int .i64 f.1, .int .i64 f.2]] w fun e w' => e = .returned (.bool true) ∧ K.Ext w w' := fun w => by rw [← vf]; exact spec_IsFigure f.1 f.2 w
    have HIg : ∀ w : World, Calls Tryz.prog 52 #[.agg #[.int .i64 g.1, .int .i64 g.2]] w fun e w' => e = .returned (.bool false) ∧ K.Ext w w' := fun w => by rw [← vg]; exact spec_IsFigure g.1 g.2 w
    clear vf vg HS
    have X0 : K.Ext w w := K.Ext.refl w
    go_enter Tryz.func99, Tryz.ntmps99
    go_wp2_with (go_at_call 127; refine K.call (by with_reducible rfl) (by with_reducible rfl) (HU1 _) ?_; rintro e w1 ⟨rfl, x1⟩; have s1 : w.heap.size + 3 ≤ w1.heap.size := (by have h_ := x1.size; (try simp at h_); omega); have X1 : K.Ext w w1 := K.Ext.trans (by repeat' (first | with_reducible exact X0 | with_reducible refine K.Ext.setCell ?_ ?_ _ | with_reducible refine K.Ext.alloc ?_ _ | with_reducible refine K.Ext.drew ?_ | (dsimp only; omega) | omega | (simp; omega))) x1; obtain ⟨c1_0_0, c1_0_1⟩ := K.c2 x1 (w.heap.size) (.int .i64 a.1) (.int .i64 a.2) (by go_simp); have z1_0 : w.heap.size < w1.heap.size := World.block_lt_of_cell? w1 _ c1_0_0; have d1_0 : ¬ (w.heap.size = w1.heap.size) := (by omega); have e1_0 : ¬ (w1.heap.size = w.heap.size) := (by omega); obtain ⟨c1_1_0, c1_1_1⟩ := K.c2 x1 (w.heap.size + 1) (.int .i64 0) (.int .i64 0) (by go_simp); obtain ⟨f1_1_0, f1_1_1⟩ := K.f2 x1 (w.heap.size + 1) (by go_simp); have z1_1 : w.heap.size + 1 < w1.heap.size := World.block_lt_of_cell? w1 _ c1_1_0; have d1_1 : ¬ (w.heap.size + 1 = w1.heap.size) := (by omega); have e1_1 : ¬ (w1.heap.size = w.heap.size + 1) := (by omega); have n1_0 : ¬ (w.heap.size + 1 = w.heap.size) := (by omega); have n0_1 : ¬ (w.heap.size = w.heap.size + 1) := (by omega); obtain ⟨c1_2_0, c1_2_1⟩ := K.c2 x1 (w.heap.size + 1 + 1) (.int .i64 0) (.int .i64 0) (by go_simp); obtain ⟨f1_2_0, f1_2_1⟩ := K.f2 x1 (w.heap.size + 1 + 1) (by go_simp); have z1_2 : w.heap.size + 1 + 1 < w1.heap.size := World.block_lt_of_cell? w1 _ c1_2_0; have d1_2 : ¬ (w.heap.size + 1 + 1 = w1.heap.size) := (by omega); have e1_2 : ¬ (w1.heap.size = w.heap.size + 1 + 1) := (by omega); have n2_0 : ¬ (w.heap.size + 1 + 1 = w.heap.size) := (by omega); have n0_2 : ¬ (w.heap.size = w.heap.size + 1 + 1) := (by omega); have n2_1 : ¬ (w.heap.size + 1 + 1 = w.heap.size + 1) := (by omega); have n1_2 : ¬ (w.heap.size + 1 = w.heap.size + 1 + 1) := (by omega))
    go_wp2_with (go_at_call 127; refine K.call (by with_reducible rfl) (by with_reducible rfl) (HU2 _) ?_; rintro e w2 ⟨rfl, x2⟩; have s2 : w1.heap.size ≤ w2.heap.size := (by have h_ := x2.size; (try simp at h_); omega); have X2 := K.Ext.trans (X1) x2; obtain ⟨c2_0_0, c2_0_1⟩ := K.c2 x2 (w.heap.size) (.int .i64 a.1) (.int .i64 a.2) (by go_simp); have z2_0 : w.heap.size < w2.heap.size := World.block_lt_of_cell? w2 _ c2_0_0; have d2_0 : ¬ (w.heap.size = w2.heap.size) := (by omega); have e2_0 : ¬ (w2.heap.size = w.heap.size) := (by omega); obtain ⟨c2_1_0, c2_1_1⟩ := K.c2 x2 (w.heap.size + 1) (.int .i64 0) (.int .i64 0) (by go_simp); obtain ⟨f2_1_0, f2_1_1⟩ := K.f2 x2 (w.heap.size + 1) (by go_simp); have z2_1 : w.heap.size + 1 < w2.heap.size := World.block_lt_of_cell? w2 _ c2_1_0; have d2_1 : ¬ (w.heap.size + 1 = w2.heap.size) := (by omega); have e2_1 : ¬ (w2.heap.size = w.heap.size + 1) := (by omega); obtain ⟨c2_2_0, c2_2_1⟩ := K.c2 x2 (w.heap.size + 1 + 1) (.int .i64 0) (.int .i64 0) (by go_simp); obtain ⟨f2_2_0, f2_2_1⟩ := K.f2 x2 (w.heap.size + 1 + 1) (by go_simp); have z2_2 : w.heap.size + 1 + 1 < w2.heap.size := World.block_lt_of_cell? w2 _ c2_2_0; have d2_2 : ¬ (w.heap.size + 1 + 1 = w2.heap.size) := (by omega); have e2_2 : ¬ (w2.heap.size = w.heap.size + 1 + 1) := (by omega); clear c1_0_0 c1_0_1 z1_0 d1_0 e1_0 c1_1_0 c1_1_1 f1_1_0 f1_1_1 z1_1 d1_1 e1_1 c1_2_0 c1_2_1 f1_2_0 f1_2_1 z1_2 d1_2 e1_2)
    go_wp2_with fail
    refine K.wp_region_y (R := K.RE) 8 [0, 1, 2, 0, 1, 2, 2, 2] [K.SQ.any, K.SQ.any, K.SQ.is (.agg #[.int .i64 f.1, .int .i64 f.2]), K.SQ.any, K.SQ.any, K.SQ.is (.agg #[.int .i64 g.1, .int .i64 g.2]), K.SQ.new (w2.heap.size) (Nat.zero_le _) (.cells #[.int .i64 0, .int .i64 0] 32), K.SQ.new (w2.heap.size) (Nat.zero_le _) (.cells #[.int .i64 0, .int .i64 0] 32)] (by kernel_rfl) (by kernel_rfl) ?_
    simp only [List.take_succ_cons, List.take_zero, List.drop_succ_cons, List.drop_zero]
    apply K.y_pure
    · rfl
    · rfl
    · intro w'; go_simp; first | done | exact K.vint (IntWalk.i64_in _ (by omega)) | rfl | exact ⟨rfl, rfl⟩
    simp only [Act.put, List.setIfInBounds_toArray, List.set]
    apply K.y_held
    · rfl
    · rfl
    · intro w' hx; have hx : K.Ext _ _ := hx; have hc := hx.all.1.1; have hf := hx.all.1.2; have hc' := hx.all.2.1; have hf' := hx.all.2.2; go_simp; first | done | rfl | exact ⟨rfl, rfl⟩
    simp only [Act.put, List.setIfInBounds_toArray, List.set]
    apply K.y_call_is
    · rfl
    · rfl
    · rfl
    · intro w'; go_simp; first | done | rfl | exact ⟨rfl, rfl⟩
    · intro w' hx hp; have hx : K.Ext _ _ := hx; have hc := hx.all.1.1; have hf := hx.all.1.2; have hc' := hx.all.2.1; have hf' := hx.all.2.2; exact HB _
    intro w_2_ hx_2_
    replace hx_2_ : K.Ext _ _ := hx_2_
    simp only [Act.put, List.setIfInBounds_toArray, List.set]
    apply K.y_pure
    · rfl
    · rfl
    · intro w'; go_simp; first | done | exact K.vint (IntWalk.i64_in _ (by omega)) | rfl | exact ⟨rfl, rfl⟩
    simp only [Act.put, List.setIfInBounds_toArray, List.set]
    apply K.y_held
    · rfl
    · rfl
    · intro w' hx; have hx : K.Ext _ _ := hx; have hc := hx.all.1.1; have hf := hx.all.1.2; have hc' := hx.all.2.1; have hf' := hx.all.2.2; go_simp; first | done | rfl | exact ⟨rfl, rfl⟩
    simp only [Act.put, List.setIfInBounds_toArray, List.set]
    apply K.y_call_is
    · rfl
    · rfl
    · rfl
    · intro w'; go_simp; first | done | rfl | exact ⟨rfl, rfl⟩
    · intro w' hx hp; have hx : K.Ext _ _ := hx; have hc := hx.all.1.1; have hf := hx.all.1.2; have hc' := hx.all.2.1; have hf' := hx.all.2.2; exact HC _
    intro w_5_ hx_5_
    replace hx_5_ : K.Ext _ _ := hx_5_
    simp only [Act.put, List.setIfInBounds_toArray, List.set]
    apply K.y_new (Nat.zero_le _)
    · rfl
    · rfl
    · rfl
    · go_simp; first | done | omega
    · intro w'; go_simp; first | done | rfl | exact ⟨rfl, rfl⟩
    intro g3_6 w_6_ hx_6_ hg3_6 hb_6_ hn_6_
    replace hx_6_ : K.Ext _ _ := hx_6_
    clear hn_6_
    simp only [Act.put, List.setIfInBounds_toArray, List.set]
    apply K.y_new (Nat.zero_le _)
    · rfl
    · rfl
    · rfl
    · go_simp; first | done | omega
    · intro w'; go_simp; first | done | rfl | exact ⟨rfl, rfl⟩
    intro g3_7 w_7_ hx_7_ hg3_7 hb_7_ hn_7_
    replace hx_7_ : K.Ext _ _ := hx_7_
    have ne3_6_7 : ¬ (g3_6 = g3_7) := K.blk_ptr (hn_7_ 6 _ (by decide) rfl rfl rfl)
    have ne3_7_6 : ¬ (g3_7 = g3_6) := fun e => ne3_6_7 e.symm
    clear hn_7_
    simp only [Act.put, List.setIfInBounds_toArray, List.set]
    apply K.y_done
    intro w3 h_x
    replace h_x : K.Ext _ _ := h_x
    have x3 := hx_2_.trans (hx_5_.trans (hx_6_.trans (hx_7_.trans h_x)))
    have hb3_6 := K.Ext.block (hx_7_.trans h_x) hb_6_
    have cg3_6_0 : w3.cell? ⟨g3_6, 0, none⟩ = some (.int .i64 0) := K.cell_at hb3_6 rfl
    have fg3_6_0 : w3.frozen? ⟨g3_6, 0, none⟩ = false := K.thaw_at hb3_6
    have cg3_6_1 : w3.cell? ⟨g3_6, 1, none⟩ = some (.int .i64 0) := K.cell_at hb3_6 rfl
    have fg3_6_1 : w3.frozen? ⟨g3_6, 1, none⟩ = false := K.thaw_at hb3_6
    have hb3_7 := K.Ext.block (h_x) hb_7_
    have cg3_7_0 : w3.cell? ⟨g3_7, 0, none⟩ = some (.int .i64 0) := K.cell_at hb3_7 rfl
    have fg3_7_0 : w3.frozen? ⟨g3_7, 0, none⟩ = false := K.thaw_at hb3_7
    have cg3_7_1 : w3.cell? ⟨g3_7, 1, none⟩ = some (.int .i64 0) := K.cell_at hb3_7 rfl
    have fg3_7_1 : w3.frozen? ⟨g3_7, 1, none⟩ = false := K.thaw_at hb3_7
    clear h_x hx_2_ hx_5_ hx_6_ hx_7_
    obtain ⟨⟨hcw3, hfw3⟩, hc'w3, hf'w3⟩ := x3.all
    have s3 : w2.heap.size ≤ w3.heap.size := (by have h_ := x3.size; (try simp at h_); omega)
    have X3 := K.Ext.trans (K.Ext.drew (X2)) x3
    obtain ⟨c3_0_0, c3_0_1⟩ := K.c2 x3 (w.heap.size) (.int .i64 a.1) (.int .i64 a.2) (by go_simp)
    have z3_0 : w.heap.size < w3.heap.size := World.block_lt_of_cell? w3 _ c3_0_0
    have d3_0 : ¬ (w.heap.size = w3.heap.size) := (by omega)
    have e3_0 : ¬ (w3.heap.size = w.heap.size) := (by omega)
    obtain ⟨c3_1_0, c3_1_1⟩ := K.c2 x3 (w.heap.size + 1) (.int .i64 0) (.int .i64 0) (by go_simp)
    obtain ⟨f3_1_0, f3_1_1⟩ := K.f2 x3 (w.heap.size + 1) (by go_simp)
    have z3_1 : w.heap.size + 1 < w3.heap.size := World.block_lt_of_cell? w3 _ c3_1_0
    have d3_1 : ¬ (w.heap.size + 1 = w3.heap.size) := (by omega)
    have e3_1 : ¬ (w3.heap.size = w.heap.size + 1) := (by omega)
    obtain ⟨c3_2_0, c3_2_1⟩ := K.c2 x3 (w.heap.size + 1 + 1) (.int .i64 0) (.int .i64 0) (by go_simp)
    obtain ⟨f3_2_0, f3_2_1⟩ := K.f2 x3 (w.heap.size + 1 + 1) (by go_simp)
    have z3_2 : w.heap.size + 1 + 1 < w3.heap.size := World.block_lt_of_cell? w3 _ c3_2_0
    have d3_2 : ¬ (w.heap.size + 1 + 1 = w3.heap.size) := (by omega)
    have e3_2 : ¬ (w3.heap.size = w.heap.size + 1 + 1) := (by omega)
    have nng3_6_0 : ¬ (g3_6 = w.heap.size) := (by omega)
    have nmg3_6_0 : ¬ (w.heap.size = g3_6) := (by omega)
    have nng3_6_1 : ¬ (g3_6 = w.heap.size + 1) := (by omega)
    have nmg3_6_1 : ¬ (w.heap.size + 1 = g3_6) := (by omega)
    have nng3_6_2 : ¬ (g3_6 = w.heap.size + 1 + 1) := (by omega)
    have nmg3_6_2 : ¬ (w.heap.size + 1 + 1 = g3_6) := (by omega)
    have nng3_7_0 : ¬ (g3_7 = w.heap.size) := (by omega)
    have nmg3_7_0 : ¬ (w.heap.size = g3_7) := (by omega)
    have nng3_7_1 : ¬ (g3_7 = w.heap.size + 1) := (by omega)
    have nmg3_7_1 : ¬ (w.heap.size + 1 = g3_7) := (by omega)
    have nng3_7_2 : ¬ (g3_7 = w.heap.size + 1 + 1) := (by omega)
    have nmg3_7_2 : ¬ (w.heap.size + 1 + 1 = g3_7) := (by omega)
    clear c2_0_0 c2_0_1 z2_0 d2_0 e2_0 c2_1_0 c2_1_1 f2_1_0 f2_1_1 z2_1 d2_1 e2_1 c2_2_0 c2_2_1 f2_2_0 f2_2_1 z2_2 d2_2 e2_2
    go_wp2_with fail
    refine NoPanic.normal ?_
    go_wp2_with (go_at_call 52; refine K.call (by with_reducible rfl) (by with_reducible rfl) (HIf _) ?_; rintro e w4 ⟨rfl, x4⟩; have s4 : w3.heap.size ≤ w4.heap.size := (by have h_ := x4.size; (try simp at h_); omega); have X4 : K.Ext w w4 := K.Ext.trans (by repeat' (first | with_reducible exact X3 | with_reducible refine K.Ext.setCell ?_ ?_ _ | with_reducible refine K.Ext.alloc ?_ _ | with_reducible refine K.Ext.drew ?_ | (dsimp only; omega) | omega | (simp; omega))) x4; obtain ⟨c4_0_0, c4_0_1⟩ := K.c2 x4 (w.heap.size) (.int .i64 a.1) (.int .i64 a.2) (by go_simp); have z4_0 : w.heap.size < w4.heap.size := World.block_lt_of_cell? w4 _ c4_0_0; have d4_0 : ¬ (w.heap.size = w4.heap.size) := (by omega); have e4_0 : ¬ (w4.heap.size = w.heap.size) := (by omega); obtain ⟨c4_1_0, c4_1_1⟩ := K.c2 x4 (w.heap.size + 1) (.int .i64 0) (.int .i64 0) (by go_simp); obtain ⟨f4_1_0, f4_1_1⟩ := K.f2 x4 (w.heap.size + 1) (by go_simp); have z4_1 : w.heap.size + 1 < w4.heap.size := World.block_lt_of_cell? w4 _ c4_1_0; have d4_1 : ¬ (w.heap.size + 1 = w4.heap.size) := (by omega); have e4_1 : ¬ (w4.heap.size = w.heap.size + 1) := (by omega); obtain ⟨c4_2_0, c4_2_1⟩ := K.c2 x4 (w.heap.size + 1 + 1) (.int .i64 0) (.int .i64 0) (by go_simp); obtain ⟨f4_2_0, f4_2_1⟩ := K.f2 x4 (w.heap.size + 1 + 1) (by go_simp); have z4_2 : w.heap.size + 1 + 1 < w4.heap.size := World.block_lt_of_cell? w4 _ c4_2_0; have d4_2 : ¬ (w.heap.size + 1 + 1 = w4.heap.size) := (by omega); have e4_2 : ¬ (w4.heap.size = w.heap.size + 1 + 1) := (by omega); obtain ⟨c4_3_0, c4_3_1⟩ := K.c2 x4 (g3_6) (.int .i64 f.1) (.int .i64 f.2) (by go_simp); obtain ⟨f4_3_0, f4_3_1⟩ := K.f2 x4 (g3_6) (by go_simp); have z4_3 : g3_6 < w4.heap.size := World.block_lt_of_cell? w4 _ c4_3_0; have d4_3 : ¬ (g3_6 = w4.heap.size) := (by omega); have e4_3 : ¬ (w4.heap.size = g3_6) := (by omega); have n3_0 : ¬ (g3_6 = w.heap.size) := (by omega); have n0_3 : ¬ (w.heap.size = g3_6) := (by omega); have n3_1 : ¬ (g3_6 = w.heap.size + 1) := (by omega); have n1_3 : ¬ (w.heap.size + 1 = g3_6) := (by omega); have n3_2 : ¬ (g3_6 = w.heap.size + 1 + 1) := (by omega); have n2_3 : ¬ (w.heap.size + 1 + 1 = g3_6) := (by omega); obtain ⟨c4_4_0, c4_4_1⟩ := K.c2 x4 (g3_7) (.int .i64 g.1) (.int .i64 g.2) (by go_simp); obtain ⟨f4_4_0, f4_4_1⟩ := K.f2 x4 (g3_7) (by go_simp); have z4_4 : g3_7 < w4.heap.size := World.block_lt_of_cell? w4 _ c4_4_0; have d4_4 : ¬ (g3_7 = w4.heap.size) := (by omega); have e4_4 : ¬ (w4.heap.size = g3_7) := (by omega); have n4_0 : ¬ (g3_7 = w.heap.size) := (by omega); have n0_4 : ¬ (w.heap.size = g3_7) := (by omega); have n4_1 : ¬ (g3_7 = w.heap.size + 1) := (by omega); have n1_4 : ¬ (w.heap.size + 1 = g3_7) := (by omega); have n4_2 : ¬ (g3_7 = w.heap.size + 1 + 1) := (by omega); have n2_4 : ¬ (w.heap.size + 1 + 1 = g3_7) := (by omega); have n4_3 : ¬ (g3_7 = g3_6) := (by omega); have n3_4 : ¬ (g3_6 = g3_7) := (by omega); clear c3_0_0 c3_0_1 z3_0 d3_0 e3_0 c3_1_0 c3_1_1 f3_1_0 f3_1_1 z3_1 d3_1 e3_1 c3_2_0 c3_2_1 f3_2_0 f3_2_1 z3_2 d3_2 e3_2)
    go_wp2_with (go_at_call 52; refine K.call (by with_reducible rfl) (by with_reducible rfl) (HIg _) ?_; rintro e w5 ⟨rfl, x5⟩; have s5 : w4.heap.size ≤ w5.heap.size := (by have h_ := x5.size; (try simp at h_); omega); have X5 := K.Ext.trans (X4) x5; obtain ⟨c5_0_0, c5_0_1⟩ := K.c2 x5 (w.heap.size) (.int .i64 a.1) (.int .i64 a.2) (by go_simp); have z5_0 : w.heap.size < w5.heap.size := World.block_lt_of_cell? w5 _ c5_0_0; have d5_0 : ¬ (w.heap.size = w5.heap.size) := (by omega); have e5_0 : ¬ (w5.heap.size = w.heap.size) := (by omega); obtain ⟨c5_1_0, c5_1_1⟩ := K.c2 x5 (w.heap.size + 1) (.int .i64 0) (.int .i64 0) (by go_simp); obtain ⟨f5_1_0, f5_1_1⟩ := K.f2 x5 (w.heap.size + 1) (by go_simp); have z5_1 : w.heap.size + 1 < w5.heap.size := World.block_lt_of_cell? w5 _ c5_1_0; have d5_1 : ¬ (w.heap.size + 1 = w5.heap.size) := (by omega); have e5_1 : ¬ (w5.heap.size = w.heap.size + 1) := (by omega); obtain ⟨c5_2_0, c5_2_1⟩ := K.c2 x5 (w.heap.size + 1 + 1) (.int .i64 0) (.int .i64 0) (by go_simp); obtain ⟨f5_2_0, f5_2_1⟩ := K.f2 x5 (w.heap.size + 1 + 1) (by go_simp); have z5_2 : w.heap.size + 1 + 1 < w5.heap.size := World.block_lt_of_cell? w5 _ c5_2_0; have d5_2 : ¬ (w.heap.size + 1 + 1 = w5.heap.size) := (by omega); have e5_2 : ¬ (w5.heap.size = w.heap.size + 1 + 1) := (by omega); obtain ⟨c5_3_0, c5_3_1⟩ := K.c2 x5 (g3_6) (.int .i64 f.1) (.int .i64 f.2) (by go_simp); obtain ⟨f5_3_0, f5_3_1⟩ := K.f2 x5 (g3_6) (by go_simp); have z5_3 : g3_6 < w5.heap.size := World.block_lt_of_cell? w5 _ c5_3_0; have d5_3 : ¬ (g3_6 = w5.heap.size) := (by omega); have e5_3 : ¬ (w5.heap.size = g3_6) := (by omega); obtain ⟨c5_4_0, c5_4_1⟩ := K.c2 x5 (g3_7) (.int .i64 g.1) (.int .i64 g.2) (by go_simp); obtain ⟨f5_4_0, f5_4_1⟩ := K.f2 x5 (g3_7) (by go_simp); have z5_4 : g3_7 < w5.heap.size := World.block_lt_of_cell? w5 _ c5_4_0; have d5_4 : ¬ (g3_7 = w5.heap.size) := (by omega); have e5_4 : ¬ (w5.heap.size = g3_7) := (by omega); clear c4_0_0 c4_0_1 z4_0 d4_0 e4_0 c4_1_0 c4_1_1 f4_1_0 f4_1_1 z4_1 d4_1 e4_1 c4_2_0 c4_2_1 f4_2_0 f4_2_1 z4_2 d4_2 e4_2 c4_3_0 c4_3_1 f4_3_0 f4_3_1 z4_3 d4_3 e4_3 c4_4_0 c4_4_1 f4_4_0 f4_4_1 z4_4 d4_4 e4_4)
    rw [HE.out]
    refine bodyPost_ret (v := .tuple #[.agg #[.int .i64 0, .int .i64 0], .agg #[.int .i64 0, .int .i64 0], .int .i64 4]) (by unfold results; rw [Tryz.results99]; go_simp) rfl ⟨rfl, ?_⟩
    repeat with_reducible refine K.Ext.setCell ?_ (by dsimp only; omega) _
    exact (by repeat' (first | with_reducible exact X5 | with_reducible refine K.Ext.setCell ?_ ?_ _ | with_reducible refine K.Ext.alloc ?_ _ | with_reducible refine K.Ext.drew ?_ | (dsimp only; omega) | omega | (simp; omega)))
  · have HE : Hid (S = (f, g, 0)) := Z.hide (by rw [← hS.out, HS.out, vf, vg]; rfl)
    have HIf : ∀ w : World, Calls Tryz.prog 52 #[.agg #[.int .i64 f.1, .int .i64 f.2]] w fun e w' => e = .returned (.bool true) ∧ K.Ext w w' := fun w => by rw [← vf]; exact spec_IsFigure f.1 f.2 w
    have HIg : ∀ w : World, Calls Tryz.prog 52 #[.agg #[.int .i64 g.1, .int .i64 g.2]] w fun e w' => e = .returned (.bool true) ∧ K.Ext w w' := fun w => by rw [← vg]; exact spec_IsFigure g.1 g.2 w
    clear vf vg HS
    have X0 : K.Ext w w := K.Ext.refl w
    go_enter Tryz.func99, Tryz.ntmps99
    go_wp2_with (go_at_call 127; refine K.call (by with_reducible rfl) (by with_reducible rfl) (HU1 _) ?_; rintro e w1 ⟨rfl, x1⟩; have s1 : w.heap.size + 3 ≤ w1.heap.size := (by have h_ := x1.size; (try simp at h_); omega); have X1 : K.Ext w w1 := K.Ext.trans (by repeat' (first | with_reducible exact X0 | with_reducible refine K.Ext.setCell ?_ ?_ _ | with_reducible refine K.Ext.alloc ?_ _ | with_reducible refine K.Ext.drew ?_ | (dsimp only; omega) | omega | (simp; omega))) x1; obtain ⟨c1_0_0, c1_0_1⟩ := K.c2 x1 (w.heap.size) (.int .i64 a.1) (.int .i64 a.2) (by go_simp); have z1_0 : w.heap.size < w1.heap.size := World.block_lt_of_cell? w1 _ c1_0_0; have d1_0 : ¬ (w.heap.size = w1.heap.size) := (by omega); have e1_0 : ¬ (w1.heap.size = w.heap.size) := (by omega); obtain ⟨c1_1_0, c1_1_1⟩ := K.c2 x1 (w.heap.size + 1) (.int .i64 0) (.int .i64 0) (by go_simp); obtain ⟨f1_1_0, f1_1_1⟩ := K.f2 x1 (w.heap.size + 1) (by go_simp); have z1_1 : w.heap.size + 1 < w1.heap.size := World.block_lt_of_cell? w1 _ c1_1_0; have d1_1 : ¬ (w.heap.size + 1 = w1.heap.size) := (by omega); have e1_1 : ¬ (w1.heap.size = w.heap.size + 1) := (by omega); have n1_0 : ¬ (w.heap.size + 1 = w.heap.size) := (by omega); have n0_1 : ¬ (w.heap.size = w.heap.size + 1) := (by omega); obtain ⟨c1_2_0, c1_2_1⟩ := K.c2 x1 (w.heap.size + 1 + 1) (.int .i64 0) (.int .i64 0) (by go_simp); obtain ⟨f1_2_0, f1_2_1⟩ := K.f2 x1 (w.heap.size + 1 + 1) (by go_simp); have z1_2 : w.heap.size + 1 + 1 < w1.heap.size := World.block_lt_of_cell? w1 _ c1_2_0; have d1_2 : ¬ (w.heap.size + 1 + 1 = w1.heap.size) := (by omega); have e1_2 : ¬ (w1.heap.size = w.heap.size + 1 + 1) := (by omega); have n2_0 : ¬ (w.heap.size + 1 + 1 = w.heap.size) := (by omega); have n0_2 : ¬ (w.heap.size = w.heap.size + 1 + 1) := (by omega); have n2_1 : ¬ (w.heap.size + 1 + 1 = w.heap.size + 1) := (by omega); have n1_2 : ¬ (w.heap.size + 1 = w.heap.size + 1 + 1) := (by omega))
    go_wp2_with (go_at_call 127; refine K.call (by with_reducible rfl) (by with_reducible rfl) (HU2 _) ?_; rintro e w2 ⟨rfl, x2⟩; have s2 : w1.heap.size ≤ w2.heap.size := (by have h_ := x2.size; (try simp at h_); omega); have X2 := K.Ext.trans (X1) x2; obtain ⟨c2_0_0, c2_0_1⟩ := K.c2 x2 (w.heap.size) (.int .i64 a.1) (.int .i64 a.2) (by go_simp); have z2_0 : w.heap.size < w2.heap.size := World.block_lt_of_cell? w2 _ c2_0_0; have d2_0 : ¬ (w.heap.size = w2.heap.size) := (by omega); have e2_0 : ¬ (w2.heap.size = w.heap.size) := (by omega); obtain ⟨c2_1_0, c2_1_1⟩ := K.c2 x2 (w.heap.size + 1) (.int .i64 0) (.int .i64 0) (by go_simp); obtain ⟨f2_1_0, f2_1_1⟩ := K.f2 x2 (w.heap.size + 1) (by go_simp); have z2_1 : w.heap.size + 1 < w2.heap.size := World.block_lt_of_cell? w2 _ c2_1_0; have d2_1 : ¬ (w.heap.size + 1 = w2.heap.size) := (by omega); have e2_1 : ¬ (w2.heap.size = w.heap.size + 1) := (by omega); obtain ⟨c2_2_0, c2_2_1⟩ := K.c2 x2 (w.heap.size + 1 + 1) (.int .i64 0) (.int .i64 0) (by go_simp); obtain ⟨f2_2_0, f2_2_1⟩ := K.f2 x2 (w.heap.size + 1 + 1) (by go_simp); have z2_2 : w.heap.size + 1 + 1 < w2.heap.size := World.block_lt_of_cell? w2 _ c2_2_0; have d2_2 : ¬ (w.heap.size + 1 + 1 = w2.heap.size) := (by omega); have e2_2 : ¬ (w2.heap.size = w.heap.size + 1 + 1) := (by omega); clear c1_0_0 c1_0_1 z1_0 d1_0 e1_0 c1_1_0 c1_1_1 f1_1_0 f1_1_1 z1_1 d1_1 e1_1 c1_2_0 c1_2_1 f1_2_0 f1_2_1 z1_2 d1_2 e1_2)
    go_wp2_with fail
    refine K.wp_region_y (R := K.RE) 8 [0, 1, 2, 0, 1, 2, 2, 2] [K.SQ.any, K.SQ.any, K.SQ.is (.agg #[.int .i64 f.1, .int .i64 f.2]), K.SQ.any, K.SQ.any, K.SQ.is (.agg #[.int .i64 g.1, .int .i64 g.2]), K.SQ.new (w2.heap.size) (Nat.zero_le _) (.cells #[.int .i64 0, .int .i64 0] 32), K.SQ.new (w2.heap.size) (Nat.zero_le _) (.cells #[.int .i64 0, .int .i64 0] 32)] (by kernel_rfl) (by kernel_rfl) ?_
    simp only [List.take_succ_cons, List.take_zero, List.drop_succ_cons, List.drop_zero]
    apply K.y_pure
    · rfl
    · rfl
    · intro w'; go_simp; first | done | exact K.vint (IntWalk.i64_in _ (by omega)) | rfl | exact ⟨rfl, rfl⟩
    simp only [Act.put, List.setIfInBounds_toArray, List.set]
    apply K.y_held
    · rfl
    · rfl
    · intro w' hx; have hx : K.Ext _ _ := hx; have hc := hx.all.1.1; have hf := hx.all.1.2; have hc' := hx.all.2.1; have hf' := hx.all.2.2; go_simp; first | done | rfl | exact ⟨rfl, rfl⟩
    simp only [Act.put, List.setIfInBounds_toArray, List.set]
    apply K.y_call_is
    · rfl
    · rfl
    · rfl
    · intro w'; go_simp; first | done | rfl | exact ⟨rfl, rfl⟩
    · intro w' hx hp; have hx : K.Ext _ _ := hx; have hc := hx.all.1.1; have hf := hx.all.1.2; have hc' := hx.all.2.1; have hf' := hx.all.2.2; exact HB _
    intro w_2_ hx_2_
    replace hx_2_ : K.Ext _ _ := hx_2_
    simp only [Act.put, List.setIfInBounds_toArray, List.set]
    apply K.y_pure
    · rfl
    · rfl
    · intro w'; go_simp; first | done | exact K.vint (IntWalk.i64_in _ (by omega)) | rfl | exact ⟨rfl, rfl⟩
    simp only [Act.put, List.setIfInBounds_toArray, List.set]
    apply K.y_held
    · rfl
    · rfl
    · intro w' hx; have hx : K.Ext _ _ := hx; have hc := hx.all.1.1; have hf := hx.all.1.2; have hc' := hx.all.2.1; have hf' := hx.all.2.2; go_simp; first | done | rfl | exact ⟨rfl, rfl⟩
    simp only [Act.put, List.setIfInBounds_toArray, List.set]
    apply K.y_call_is
    · rfl
    · rfl
    · rfl
    · intro w'; go_simp; first | done | rfl | exact ⟨rfl, rfl⟩
    · intro w' hx hp; have hx : K.Ext _ _ := hx; have hc := hx.all.1.1; have hf := hx.all.1.2; have hc' := hx.all.2.1; have hf' := hx.all.2.2; exact HC _
    intro w_5_ hx_5_
    replace hx_5_ : K.Ext _ _ := hx_5_
    simp only [Act.put, List.setIfInBounds_toArray, List.set]
    apply K.y_new (Nat.zero_le _)
    · rfl
    · rfl
    · rfl
    · go_simp; first | done | omega
    · intro w'; go_simp; first | done | rfl | exact ⟨rfl, rfl⟩
    intro g3_6 w_6_ hx_6_ hg3_6 hb_6_ hn_6_
    replace hx_6_ : K.Ext _ _ := hx_6_
    clear hn_6_
    simp only [Act.put, List.setIfInBounds_toArray, List.set]
    apply K.y_new (Nat.zero_le _)
    · rfl
    · rfl
    · rfl
    · go_simp; first | done | omega
    · intro w'; go_simp; first | done | rfl | exact ⟨rfl, rfl⟩
    intro g3_7 w_7_ hx_7_ hg3_7 hb_7_ hn_7_
    replace hx_7_ : K.Ext _ _ := hx_7_
    have ne3_6_7 : ¬ (g3_6 = g3_7) := K.blk_ptr (hn_7_ 6 _ (by decide) rfl rfl rfl)
    have ne3_7_6 : ¬ (g3_7 = g3_6) := fun e => ne3_6_7 e.symm
    clear hn_7_
    simp only [Act.put, List.setIfInBounds_toArray, List.set]
    apply K.y_done
    intro w3 h_x
    replace h_x : K.Ext _ _ := h_x
    have x3 := hx_2_.trans (hx_5_.trans (hx_6_.trans (hx_7_.trans h_x)))
    have hb3_6 := K.Ext.block (hx_7_.trans h_x) hb_6_
    have cg3_6_0 : w3.cell? ⟨g3_6, 0, none⟩ = some (.int .i64 0) := K.cell_at hb3_6 rfl
    have fg3_6_0 : w3.frozen? ⟨g3_6, 0, none⟩ = false := K.thaw_at hb3_6
    have cg3_6_1 : w3.cell? ⟨g3_6, 1, none⟩ = some (.int .i64 0) := K.cell_at hb3_6 rfl
    have fg3_6_1 : w3.frozen? ⟨g3_6, 1, none⟩ = false := K.thaw_at hb3_6
    have hb3_7 := K.Ext.block (h_x) hb_7_
    have cg3_7_0 : w3.cell? ⟨g3_7, 0, none⟩ = some (.int .i64 0) := K.cell_at hb3_7 rfl
    have fg3_7_0 : w3.frozen? ⟨g3_7, 0, none⟩ = false := K.thaw_at hb3_7
    have cg3_7_1 : w3.cell? ⟨g3_7, 1, none⟩ = some (.int .i64 0) := K.cell_at hb3_7 rfl
    have fg3_7_1 : w3.frozen? ⟨g3_7, 1, none⟩ = false := K.thaw_at hb3_7
    clear h_x hx_2_ hx_5_ hx_6_ hx_7_
    obtain ⟨⟨hcw3, hfw3⟩, hc'w3, hf'w3⟩ := x3.all
    have s3 : w2.heap.size ≤ w3.heap.size := (by have h_ := x3.size; (try simp at h_); omega)
    have X3 := K.Ext.trans (K.Ext.drew (X2)) x3
    obtain ⟨c3_0_0, c3_0_1⟩ := K.c2 x3 (w.heap.size) (.int .i64 a.1) (.int .i64 a.2) (by go_simp)
    have z3_0 : w.heap.size < w3.heap.size := World.block_lt_of_cell? w3 _ c3_0_0
    have d3_0 : ¬ (w.heap.size = w3.heap.size) := (by omega)
    have e3_0 : ¬ (w3.heap.size = w.heap.size) := (by omega)
    obtain ⟨c3_1_0, c3_1_1⟩ := K.c2 x3 (w.heap.size + 1) (.int .i64 0) (.int .i64 0) (by go_simp)
    obtain ⟨f3_1_0, f3_1_1⟩ := K.f2 x3 (w.heap.size + 1) (by go_simp)
    have z3_1 : w.heap.size + 1 < w3.heap.size := World.block_lt_of_cell? w3 _ c3_1_0
    have d3_1 : ¬ (w.heap.size + 1 = w3.heap.size) := (by omega)
    have e3_1 : ¬ (w3.heap.size = w.heap.size + 1) := (by omega)
    obtain ⟨c3_2_0, c3_2_1⟩ := K.c2 x3 (w.heap.size + 1 + 1) (.int .i64 0) (.int .i64 0) (by go_simp)
    obtain ⟨f3_2_0, f3_2_1⟩ := K.f2 x3 (w.heap.size + 1 + 1) (by go_simp)
    have z3_2 : w.heap.size + 1 + 1 < w3.heap.size := World.block_lt_of_cell? w3 _ c3_2_0
    have d3_2 : ¬ (w.heap.size + 1 + 1 = w3.heap.size) := (by omega)
    have e3_2 : ¬ (w3.heap.size = w.heap.size + 1 + 1) := (by omega)
    have nng3_6_0 : ¬ (g3_6 = w.heap.size) := (by omega)
    have nmg3_6_0 : ¬ (w.heap.size = g3_6) := (by omega)
    have nng3_6_1 : ¬ (g3_6 = w.heap.size + 1) := (by omega)
    have nmg3_6_1 : ¬ (w.heap.size + 1 = g3_6) := (by omega)
    have nng3_6_2 : ¬ (g3_6 = w.heap.size + 1 + 1) := (by omega)
    have nmg3_6_2 : ¬ (w.heap.size + 1 + 1 = g3_6) := (by omega)
    have nng3_7_0 : ¬ (g3_7 = w.heap.size) := (by omega)
    have nmg3_7_0 : ¬ (w.heap.size = g3_7) := (by omega)
    have nng3_7_1 : ¬ (g3_7 = w.heap.size + 1) := (by omega)
    have nmg3_7_1 : ¬ (w.heap.size + 1 = g3_7) := (by omega)
    have nng3_7_2 : ¬ (g3_7 = w.heap.size + 1 + 1) := (by omega)
    have nmg3_7_2 : ¬ (w.heap.size + 1 + 1 = g3_7) := (by omega)
    clear c2_0_0 c2_0_1 z2_0 d2_0 e2_0 c2_1_0 c2_1_1 f2_1_0 f2_1_1 z2_1 d2_1 e2_1 c2_2_0 c2_2_1 f2_2_0 f2_2_1 z2_2 d2_2 e2_2
    go_wp2_with fail
    refine NoPanic.normal ?_
    go_wp2_with (go_at_call 52; refine K.call (by with_reducible rfl) (by with_reducible rfl) (HIf _) ?_; rintro e w4 ⟨rfl, x4⟩; have s4 : w3.heap.size ≤ w4.heap.size := (by have h_ := x4.size; (try simp at h_); omega); have X4 : K.Ext w w4 := K.Ext.trans (by repeat' (first | with_reducible exact X3 | with_reducible refine K.Ext.setCell ?_ ?_ _ | with_reducible refine K.Ext.alloc ?_ _ | with_reducible refine K.Ext.drew ?_ | (dsimp only; omega) | omega | (simp; omega))) x4; obtain ⟨c4_0_0, c4_0_1⟩ := K.c2 x4 (w.heap.size) (.int .i64 a.1) (.int .i64 a.2) (by go_simp); have z4_0 : w.heap.size < w4.heap.size := World.block_lt_of_cell? w4 _ c4_0_0; have d4_0 : ¬ (w.heap.size = w4.heap.size) := (by omega); have e4_0 : ¬ (w4.heap.size = w.heap.size) := (by omega); obtain ⟨c4_1_0, c4_1_1⟩ := K.c2 x4 (w.heap.size + 1) (.int .i64 0) (.int .i64 0) (by go_simp); obtain ⟨f4_1_0, f4_1_1⟩ := K.f2 x4 (w.heap.size + 1) (by go_simp); have z4_1 : w.heap.size + 1 < w4.heap.size := World.block_lt_of_cell? w4 _ c4_1_0; have d4_1 : ¬ (w.heap.size + 1 = w4.heap.size) := (by omega); have e4_1 : ¬ (w4.heap.size = w.heap.size + 1) := (by omega); obtain ⟨c4_2_0, c4_2_1⟩ := K.c2 x4 (w.heap.size + 1 + 1) (.int .i64 0) (.int .i64 0) (by go_simp); obtain ⟨f4_2_0, f4_2_1⟩ := K.f2 x4 (w.heap.size + 1 + 1) (by go_simp); have z4_2 : w.heap.size + 1 + 1 < w4.heap.size := World.block_lt_of_cell? w4 _ c4_2_0; have d4_2 : ¬ (w.heap.size + 1 + 1 = w4.heap.size) := (by omega); have e4_2 : ¬ (w4.heap.size = w.heap.size + 1 + 1) := (by omega); obtain ⟨c4_3_0, c4_3_1⟩ := K.c2 x4 (g3_6) (.int .i64 f.1) (.int .i64 f.2) (by go_simp); obtain ⟨f4_3_0, f4_3_1⟩ := K.f2 x4 (g3_6) (by go_simp); have z4_3 : g3_6 < w4.heap.size := World.block_lt_of_cell? w4 _ c4_3_0; have d4_3 : ¬ (g3_6 = w4.heap.size) := (by omega); have e4_3 : ¬ (w4.heap.size = g3_6) := (by omega); have n3_0 : ¬ (g3_6 = w.heap.size) := (by omega); have n0_3 : ¬ (w.heap.size = g3_6) := (by omega); have n3_1 : ¬ (g3_6 = w.heap.size + 1) := (by omega); have n1_3 : ¬ (w.heap.size + 1 = g3_6) := (by omega); have n3_2 : ¬ (g3_6 = w.heap.size + 1 + 1) := (by omega); have n2_3 : ¬ (w.heap.size + 1 + 1 = g3_6) := (by omega); obtain ⟨c4_4_0, c4_4_1⟩ := K.c2 x4 (g3_7) (.int .i64 g.1) (.int .i64 g.2) (by go_simp); obtain ⟨f4_4_0, f4_4_1⟩ := K.f2 x4 (g3_7) (by go_simp); have z4_4 : g3_7 < w4.heap.size := World.block_lt_of_cell? w4 _ c4_4_0; have d4_4 : ¬ (g3_7 = w4.heap.size) := (by omega); have e4_4 : ¬ (w4.heap.size = g3_7) := (by omega); have n4_0 : ¬ (g3_7 = w.heap.size) := (by omega); have n0_4 : ¬ (w.heap.size = g3_7) := (by omega); have n4_1 : ¬ (g3_7 = w.heap.size + 1) := (by omega); have n1_4 : ¬ (w.heap.size + 1 = g3_7) := (by omega); have n4_2 : ¬ (g3_7 = w.heap.size + 1 + 1) := (by omega); have n2_4 : ¬ (w.heap.size + 1 + 1 = g3_7) := (by omega); have n4_3 : ¬ (g3_7 = g3_6) := (by omega); have n3_4 : ¬ (g3_6 = g3_7) := (by omega); clear c3_0_0 c3_0_1 z3_0 d3_0 e3_0 c3_1_0 c3_1_1 f3_1_0 f3_1_1 z3_1 d3_1 e3_1 c3_2_0 c3_2_1 f3_2_0 f3_2_1 z3_2 d3_2 e3_2)
    go_wp2_with (go_at_call 52; refine K.call (by with_reducible rfl) (by with_reducible rfl) (HIg _) ?_; rintro e w5 ⟨rfl, x5⟩; have s5 : w4.heap.size ≤ w5.heap.size := (by have h_ := x5.size; (try simp at h_); omega); have X5 := K.Ext.trans (X4) x5; obtain ⟨c5_0_0, c5_0_1⟩ := K.c2 x5 (w.heap.size) (.int .i64 a.1) (.int .i64 a.2) (by go_simp); have z5_0 : w.heap.size < w5.heap.size := World.block_lt_of_cell? w5 _ c5_0_0; have d5_0 : ¬ (w.heap.size = w5.heap.size) := (by omega); have e5_0 : ¬ (w5.heap.size = w.heap.size) := (by omega); obtain ⟨c5_1_0, c5_1_1⟩ := K.c2 x5 (w.heap.size + 1) (.int .i64 0) (.int .i64 0) (by go_simp); obtain ⟨f5_1_0, f5_1_1⟩ := K.f2 x5 (w.heap.size + 1) (by go_simp); have z5_1 : w.heap.size + 1 < w5.heap.size := World.block_lt_of_cell? w5 _ c5_1_0; have d5_1 : ¬ (w.heap.size + 1 = w5.heap.size) := (by omega); have e5_1 : ¬ (w5.heap.size = w.heap.size + 1) := (by omega); obtain ⟨c5_2_0, c5_2_1⟩ := K.c2 x5 (w.heap.size + 1 + 1) (.int .i64 0) (.int .i64 0) (by go_simp); obtain ⟨f5_2_0, f5_2_1⟩ := K.f2 x5 (w.heap.size + 1 + 1) (by go_simp); have z5_2 : w.heap.size + 1 + 1 < w5.heap.size := World.block_lt_of_cell? w5 _ c5_2_0; have d5_2 : ¬ (w.heap.size + 1 + 1 = w5.heap.size) := (by omega); have e5_2 : ¬ (w5.heap.size = w.heap.size + 1 + 1) := (by omega); obtain ⟨c5_3_0, c5_3_1⟩ := K.c2 x5 (g3_6) (.int .i64 f.1) (.int .i64 f.2) (by go_simp); obtain ⟨f5_3_0, f5_3_1⟩ := K.f2 x5 (g3_6) (by go_simp); have z5_3 : g3_6 < w5.heap.size := World.block_lt_of_cell? w5 _ c5_3_0; have d5_3 : ¬ (g3_6 = w5.heap.size) := (by omega); have e5_3 : ¬ (w5.heap.size = g3_6) := (by omega); obtain ⟨c5_4_0, c5_4_1⟩ := K.c2 x5 (g3_7) (.int .i64 g.1) (.int .i64 g.2) (by go_simp); obtain ⟨f5_4_0, f5_4_1⟩ := K.f2 x5 (g3_7) (by go_simp); have z5_4 : g3_7 < w5.heap.size := World.block_lt_of_cell? w5 _ c5_4_0; have d5_4 : ¬ (g3_7 = w5.heap.size) := (by omega); have e5_4 : ¬ (w5.heap.size = g3_7) := (by omega); clear c4_0_0 c4_0_1 z4_0 d4_0 e4_0 c4_1_0 c4_1_1 f4_1_0 f4_1_1 z4_1 d4_1 e4_1 c4_2_0 c4_2_1 f4_2_0 f4_2_1 z4_2 d4_2 e4_2 c4_3_0 c4_3_1 f4_3_0 f4_3_1 z4_3 d4_3 e4_3 c4_4_0 c4_4_1 f4_4_0 f4_4_1 z4_4 d4_4 e4_4)
    go_region
    all_goals
      go_wp2_with fail
      rw [HE.out]
      refine bodyPost_ret (v := .tuple #[.agg #[.int .i64 f.1, .int .i64 f.2], .agg #[.int .i64 g.1, .int .i64 g.2], .int .i64 0]) (by unfold results; rw [Tryz.results99]; go_simp) rfl ⟨rfl, ?_⟩
      repeat with_reducible refine K.Ext.setCell ?_ (by dsimp only; omega) _
      exact (by repeat' (first | with_reducible exact X5 | with_reducible refine K.Ext.setCell ?_ ?_ _ | with_reducible refine K.Ext.alloc ?_ _ | with_reducible refine K.Ext.drew ?_ | (dsimp only; omega) | omega | (simp; omega)))
end Go.Proofs.YtimpcelbekhipaaGreat
end
section
namespace Go.Z
def p10 : Nat → Int
  | 0 => 1
  | n + 1 => p10 n * 10
theorem p10_bd : ∀ n : Nat, n ≤ 7 → 1 ≤ p10 n ∧ p10 n ≤ 10000000
  | 0, _ | 1, _ | 2, _ | 3, _ | 4, _ | 5, _ | 6, _ | 7, _ => by decide
  | n + 8, h => absurd h (by omega)
/-- the error of a from b in millionths (9000001 if it is too great) -/
def relE (a b : Int × Int) : Int :=
  if 1 < a.2 - b.2 then 9000001 else if a.2 - b.2 < -6 then 1000000 else cl (1000000 * ab (a.1 * p10 (a.2 - b.2).toNat - b.1 * p10 (-(a.2 - b.2)).toNat)) (b.1 * p10 (-(a.2 - b.2)).toNat)
def relO (a b : Int × Int) : Int × Int := if 9000000 < relE a b then (0, 3) else (relE a b, 0)
theorem rel_7 {x y : Int} (h1 : 1000 ≤ x) (h2 : x ≤ 9999) (h3 : 1000 ≤ y) (h4 : y ≤ 9999) : cl (1000000 * ab (x * 1 - y * 10000000)) (y * 10000000) = 1000000 := by
  have hA : ab (x * 1 - y * 10000000) = y * 10000000 - x := by unfold ab; omega
  rw [hA]
  have : fl (-(1000000 * (y * 10000000 - x))) (y * 10000000) = -1000000 := fl_unique _ _ _ (by omega) (by omega) (by omega)
  unfold cl; rw [this]; decide
theorem mul_in {x m X M : Int} (h0 : 0 ≤ x) (h1 : x ≤ X) (h2 : 1 ≤ m) (h3 : m ≤ M) : x ≤ x * m ∧ x * m ≤ X * M := by
  refine ⟨?_, ?_⟩
  · have := Int.mul_le_mul_of_nonneg_left h2 h0; omega
  · calc x * m ≤ X * m := Int.mul_le_mul_of_nonneg_right h1 (by omega)
      _ ≤ X * M := Int.mul_le_mul_of_nonneg_left h3 (by omega)
end Go.Z
namespace Go.Proofs.YtimpcelbekhipaaGreat
open Go.RowKit
theorem ten_any (n : Nat) (w : World) (hn : n ≤ 7) :
    Calls Tryz.prog 76 #[.int .i64 (n : Int)] w fun e w' => e = .returned (.int .i64 (Z.p10 n)) ∧ w = w' := by
  go_enter Tryz.func76, Tryz.ntmps76
  go_wp2
  go_loop [3, 5] (fun o i => ∃ k : Nat, k ≤ n ∧ i = .int .i64 k ∧ o = .int .i64 (Z.p10 k)) (fun _ i => n - (intOf i).toNat)
  case atStart => exact ⟨0, Nat.zero_le _, rfl, rfl⟩
  case round =>
    obtain ⟨k, hk, rfl, rfl⟩ := hrel
    by_cases hlt : k < n
    · have hb := Z.p10_bd k (by omega)
      have q1 : IntKind.i64.wrap (Z.p10 k * 10) = Z.p10 k * 10 := IntWalk.i64_in _ (by omega)
      have HS : Hid (Z.p10 (k + 1) = Z.p10 k * 10) := Z.hide rfl
      generalize Z.p10 k = a at *
      go_wp2
      go_round
      case rel => exact ⟨k + 1, by omega, by go_num, by rw [HS.out]⟩
      case measure => simp [intOf]; omega
    · obtain rfl : k = n := by omega
      go_wp2
      go_ret
      exact ⟨rfl, rfl⟩
theorem ten_m (t u : Int) (w : World) (h : u = max 0 t) (ht : t ≤ 7) : Calls Tryz.prog 76 #[.int .i64 u] w fun e w' => e = .returned (.int .i64 (Z.p10 t.toNat)) ∧ K.Ext w w' := by
  have := ten_any t.toNat w (by omega)
  rw [show ((t.toNat : Nat) : Int) = u by omega] at this
  exact this.mono fun e w' ⟨h1, h2⟩ => ⟨h1, h2 ▸ K.Ext.refl _⟩
theorem l01Ten_any (n : Nat) (w : World) (hn : n ≤ 7) :
    Calls Tryz.prog 100 #[.int .i64 (n : Int)] w fun e w' => e = .returned (.int .i64 (Z.p10 n)) ∧ w = w' := by
  go_enter Tryz.func100, Tryz.ntmps100
  go_wp2
  go_loop [0, 3] (fun i o => ∃ k : Nat, k ≤ n ∧ i = .int .i64 ((n - k : Nat) : Int) ∧ o = .int .i64 (Z.p10 k)) (fun i _ => (intOf i).toNat)
  case atStart => exact ⟨0, Nat.zero_le _, rfl, rfl⟩
  case round =>
    obtain ⟨k, hk, rfl, rfl⟩ := hrel
    by_cases hlt : k < n
    · have hb := Z.p10_bd k (by omega)
      obtain ⟨j, hj⟩ : ∃ j : Int, ((n - k : Nat) : Int) = j := ⟨_, rfl⟩
      have j0 : 0 < j := by omega
      have HJ : Hid (((n - (k + 1) : Nat) : Int) = j - 1) := Z.hide (by omega)
      have j1 : j ≤ 7 := by omega
      rw [hj]
      have q1 : IntKind.i64.wrap (10 * Z.p10 k) = 10 * Z.p10 k := IntWalk.i64_in _ (by omega)
      have q2 : IntKind.i64.wrap (j - 1) = j - 1 := IntWalk.i64_in _ (by omega)
      have HS : Hid (Z.p10 (k + 1) = Z.p10 k * 10) := Z.hide rfl
      generalize Z.p10 k = a at *
      clear hj
      go_wp2
      go_round
      case rel => exact ⟨k + 1, by omega, by rw [HJ.out], by rw [HS.out, Int.mul_comm]⟩
      case measure => simp [intOf]; omega
    · obtain rfl : k = n := by omega
      rw [Nat.sub_self]
      go_wp2
      go_ret
      exact ⟨rfl, rfl⟩
set_option maxHeartbeats 1600000 in
theorem relativeError_any (a : Int × Int) (b : Int × Int)  (w : World) (a1 : 1000 ≤ a.1) (a2 : a.1 ≤ 9999) (a3 : -30 ≤ a.2 ∧ a.2 ≤ 30) (b1 : 1000 ≤ b.1) (b2 : b.1 ≤ 9999) (b3 : -30 ≤ b.2 ∧ b.2 ≤ 30)  :
    Calls Tryz.prog 41 #[.agg #[.int .i64 a.1, .int .i64 a.2], .agg #[.int .i64 b.1, .int .i64 b.2]] w fun e w' => e = .returned (.tuple #[.int .i64 ((Z.relO a b).1), .int .i64 ((Z.relO a b).2)]) ∧ K.Ext w w' := by
  have HM : Hid (Z.relO a b = if 9000000 < Z.relE a b then (0, 3) else (Z.relE a b, 0)) := Z.hide rfl
  have HR : Hid (Z.relE a b = if 1 < a.2 - b.2 then 9000001 else if a.2 - b.2 < -6 then 1000000 else Z.cl (1000000 * Z.ab (a.1 * Z.p10 (a.2 - b.2).toNat - b.1 * Z.p10 (-(a.2 - b.2)).toNat)) (b.1 * Z.p10 (-(a.2 - b.2)).toNat)) := Z.hide rfl
  obtain ⟨t, ht⟩ : ∃ t, a.2 - b.2 = t := ⟨_, rfl⟩
  rw [ht] at HR
  have q0 : IntKind.i64.wrap (a.2 - b.2) = t := by rw [ht]; exact IntWalk.i64_in _ (by omega)
  have tb : -60 ≤ t ∧ t ≤ 60 := by omega
  have q9 : IntKind.i64.wrap (-t) = -t := IntWalk.i64_in _ (by omega)
  clear ht
  by_cases h1 : 1 < t
  · have HE : Hid (Z.relO a b = (0, 3)) := Z.hide (by rw [HM.out, HR.out, if_pos h1, if_pos (by decide)])
    have g1 : 2 ≤ t := by omega
    generalize Z.relO a b = M at *
    clear HM HR
    have X0 : K.Ext w w := K.Ext.refl w
    go_enter Tryz.func41, Tryz.ntmps41
    go_wp2_with fail
    rw [HE.out]
    refine bodyPost_ret (v := .tuple #[.int .i64 0, .int .i64 3]) (by unfold results; rw [Tryz.results41]; go_simp) rfl ⟨rfl, ?_⟩
    repeat with_reducible refine K.Ext.setCell ?_ (by dsimp only; omega) _
    exact (by repeat' (first | with_reducible exact X0 | with_reducible refine K.Ext.setCell ?_ ?_ _ | with_reducible refine K.Ext.alloc ?_ _ | with_reducible refine K.Ext.drew ?_ | (dsimp only; omega) | omega | (simp; omega)))
  have g1 : ¬ (2 ≤ t) := by omega
  by_cases h2 : t ≤ -8
  · have HE : Hid (Z.relO a b = (1000000, 0)) := Z.hide (by rw [HM.out, HR.out, if_neg h1, if_pos (show t < -6 by omega), if_neg (by decide)])
    generalize Z.relO a b = M at *
    clear HM HR
    have X0 : K.Ext w w := K.Ext.refl w
    go_enter Tryz.func41, Tryz.ntmps41
    go_wp2_with fail
    rw [HE.out]
    refine bodyPost_ret (v := .tuple #[.int .i64 1000000, .int .i64 0]) (by unfold results; rw [Tryz.results41]; go_simp) rfl ⟨rfl, ?_⟩
    repeat with_reducible refine K.Ext.setCell ?_ (by dsimp only; omega) _
    exact (by repeat' (first | with_reducible exact X0 | with_reducible refine K.Ext.setCell ?_ ?_ _ | with_reducible refine K.Ext.alloc ?_ _ | with_reducible refine K.Ext.drew ?_ | (dsimp only; omega) | omega | (simp; omega)))
  obtain ⟨u, hu⟩ : ∃ u, Z.cl (1000000 * Z.ab (a.1 * Z.p10 t.toNat - b.1 * Z.p10 (-t).toNat)) (b.1 * Z.p10 (-t).toNat) = u := ⟨_, rfl⟩
  have HU : Hid (Z.relO a b = if 9000000 < u then (0, 3) else (u, 0)) := Z.hide (by
    rw [HM.out, HR.out, if_neg h1, hu]
    by_cases h7 : t < -6
    · obtain rfl : t = -7 := by omega
      have hu' : u = 1000000 := by rw [← hu]; exact Z.rel_7 a1 a2 b1 b2
      rw [if_pos h7, hu']
    · rw [if_neg h7])
  clear HM HR
  generalize Z.relO a b = M at *
  have HT1 := Z.hide (fun w => ten_m t (max 0 t) w rfl (by omega))
  have HT2 := Z.hide (fun w => ten_m (-t) (max 0 (-t)) w rfl (by omega))
  have m1 := Z.p10_bd t.toNat (by omega)
  have m2 := Z.p10_bd (-t).toNat (by omega)
  generalize Z.p10 t.toNat = m at *
  generalize Z.p10 (-t).toNat = k at *
  have e1 := Z.mul_in (x := a.1) (m := m) (by omega) a2 m1.1 m1.2
  have e2 := Z.mul_in (x := b.1) (m := k) (by omega) b2 m2.1 m2.2
  obtain ⟨x, hx⟩ : ∃ x, a.1 * m = x := ⟨_, rfl⟩
  obtain ⟨y, hy⟩ : ∃ y, b.1 * k = y := ⟨_, rfl⟩
  rw [hx] at e1
  rw [hy] at e2
  rw [hx, hy] at hu
  have r1 : wrap64 (a.1 * m) = x := by rw [hx]; unfold wrap64; omega
  have r2 : wrap64 (b.1 * k) = y := by rw [hy]; unfold wrap64; omega
  have q1 : IntKind.i64.wrap (a.1 * m) = x := by rw [hx]; exact IntWalk.i64_in _ (by omega)
  have q2 : IntKind.i64.wrap (b.1 * k) = y := by rw [hy]; exact IntWalk.i64_in _ (by omega)
  clear hx hy
  have q3 : IntKind.i64.wrap (x - y) = x - y := IntWalk.i64_in _ (by omega)
  have q4 : IntKind.i64.wrap (y - x) = y - x := IntWalk.i64_in _ (by omega)
  have q5 : IntKind.i64.wrap (1000000 * max (x - y) (y - x)) = 1000000 * max (x - y) (y - x) := IntWalk.i64_in _ (by omega)
  have r3 : wrap64 (x - y) = x - y := by unfold wrap64; omega
  have r4 : wrap64 (y - x) = y - x := by unfold wrap64; omega
  have r5 : wrap64 (1000000 * max (x - y) (y - x)) = 1000000 * max (x - y) (y - x) := by unfold wrap64; omega
  have HUP : Hid (∀ w : World, Calls Tryz.prog 77 #[.int .i64 (1000000 * max (x - y) (y - x)), .int .i64 y] w fun e w' => e = .returned (.int .i64 u) ∧ w = w') := Z.hide (fun w => by
    rw [show max (x - y) (y - x) = Z.ab (x - y) by unfold Z.ab; omega, ← hu]
    exact up_any _ _ w (by omega) (by unfold Z.ab; omega) (by unfold Z.ab; omega))
  clear hu
  by_cases h3 : 9000000 < u
  · rw [if_pos h3] at HU
    have X0 : K.Ext w w := K.Ext.refl w
    go_enter Tryz.func41, Tryz.ntmps41
    go_wp2_with fail
    refine K.wp_region_x 14 [0, 1, 0, 0, 2, 0, 0, 1, 0, 0, 0, 2, 0, 0] [K.SP.any, K.SP.any, K.SP.any, K.SP.any, K.SP.is (.int .i64 m), K.SP.any, K.SP.any, K.SP.any, K.SP.any, K.SP.any, K.SP.any, K.SP.is (.int .i64 k)] (by kernel_rfl) (by kernel_rfl) ?_
    simp only [List.take_succ_cons, List.take_zero, List.drop_succ_cons, List.drop_zero]
    refine K.xp ?_
    simp only [Act.put, List.setIfInBounds_toArray, List.set]
    refine K.xh ?_
    simp only [Act.put, List.setIfInBounds_toArray, List.set]
    iterate 2
      refine K.xp ?_
      simp only [Act.put, List.setIfInBounds_toArray, List.set]
    apply K.x_call_is
    · rfl
    · rfl
    · rfl
    · intro w'; go_simp; first | done | rfl | exact ⟨rfl, rfl⟩
    · intro w' hx hp; have hc := hx.all.1.1; have hf := hx.all.1.2; have hc' := hx.all.2.1; have hf' := hx.all.2.2; exact HT1.out _
    intro w_4_ hx_4_
    simp only [Act.put, List.setIfInBounds_toArray, List.set]
    iterate 2
      refine K.xp ?_
      simp only [Act.put, List.setIfInBounds_toArray, List.set]
    refine K.xh ?_
    simp only [Act.put, List.setIfInBounds_toArray, List.set]
    iterate 3
      refine K.xp ?_
      simp only [Act.put, List.setIfInBounds_toArray, List.set]
    apply K.x_call_is
    · rfl
    · rfl
    · rfl
    · intro w'; go_simp; first | done | rfl | exact ⟨rfl, rfl⟩
    · intro w' hx hp; have hc := hx.all.1.1; have hf := hx.all.1.2; have hc' := hx.all.2.1; have hf' := hx.all.2.2; exact HT2.out _
    intro w_11_ hx_11_
    simp only [Act.put, List.setIfInBounds_toArray, List.set]
    iterate 2
      refine K.xp ?_
      simp only [Act.put, List.setIfInBounds_toArray, List.set]
    apply K.x_done
    intro w1 h_x
    have x1 := hx_4_.trans (hx_11_.trans h_x)
    clear h_x hx_4_ hx_11_
    obtain ⟨⟨hcw1, hfw1⟩, hc'w1, hf'w1⟩ := x1.all
    have s1 : w.heap.size + 2 ≤ w1.heap.size := (by have h_ := x1.size; (try simp at h_); omega)
    have X1 := K.Ext.trans (K.Ext.drew (K.Ext.alloc (K.Ext.alloc X0 _) _)) x1
    obtain ⟨c1_0_0, c1_0_1⟩ := K.c2 x1 (w.heap.size) (.int .i64 a.1) (.int .i64 a.2) (by go_simp)
    have z1_0 : w.heap.size < w1.heap.size := World.block_lt_of_cell? w1 _ c1_0_0
    have d1_0 : ¬ (w.heap.size = w1.heap.size) := (by omega)
    have e1_0 : ¬ (w1.heap.size = w.heap.size) := (by omega)
    obtain ⟨c1_1_0, c1_1_1⟩ := K.c2 x1 (w.heap.size + 1) (.int .i64 b.1) (.int .i64 b.2) (by go_simp)
    have z1_1 : w.heap.size + 1 < w1.heap.size := World.block_lt_of_cell? w1 _ c1_1_0
    have d1_1 : ¬ (w.heap.size + 1 = w1.heap.size) := (by omega)
    have e1_1 : ¬ (w1.heap.size = w.heap.size + 1) := (by omega)
    have n1_0 : ¬ (w.heap.size + 1 = w.heap.size) := (by omega)
    have n0_1 : ¬ (w.heap.size = w.heap.size + 1) := (by omega)
    go_wp2_with fail
    refine NoPanic.normal ?_
    go_wp2_with (go_at_call 77; refine K.call (by with_reducible rfl) (by with_reducible rfl) (HUP.out _) ?_; rintro e w_ ⟨rfl, rfl⟩)
    rw [HU.out]
    refine bodyPost_ret (v := .tuple #[.int .i64 0, .int .i64 3]) (by unfold results; rw [Tryz.results41]; go_simp) rfl ⟨rfl, ?_⟩
    repeat with_reducible refine K.Ext.setCell ?_ (by dsimp only; omega) _
    exact (by repeat' (first | with_reducible exact X1 | with_reducible refine K.Ext.setCell ?_ ?_ _ | with_reducible refine K.Ext.alloc ?_ _ | with_reducible refine K.Ext.drew ?_ | (dsimp only; omega) | omega | (simp; omega)))
  · rw [if_neg h3] at HU
    have X0 : K.Ext w w := K.Ext.refl w
    go_enter Tryz.func41, Tryz.ntmps41
    go_wp2_with fail
    refine K.wp_region_x 14 [0, 1, 0, 0, 2, 0, 0, 1, 0, 0, 0, 2, 0, 0] [K.SP.any, K.SP.any, K.SP.any, K.SP.any, K.SP.is (.int .i64 m), K.SP.any, K.SP.any, K.SP.any, K.SP.any, K.SP.any, K.SP.any, K.SP.is (.int .i64 k)] (by kernel_rfl) (by kernel_rfl) ?_
    simp only [List.take_succ_cons, List.take_zero, List.drop_succ_cons, List.drop_zero]
    refine K.xp ?_
    simp only [Act.put, List.setIfInBounds_toArray, List.set]
    refine K.xh ?_
    simp only [Act.put, List.setIfInBounds_toArray, List.set]
    iterate 2
      refine K.xp ?_
      simp only [Act.put, List.setIfInBounds_toArray, List.set]
    apply K.x_call_is
    · rfl
    · rfl
    · rfl
    · intro w'; go_simp; first | done | rfl | exact ⟨rfl, rfl⟩
    · intro w' hx hp; have hc := hx.all.1.1; have hf := hx.all.1.2; have hc' := hx.all.2.1; have hf' := hx.all.2.2; exact HT1.out _
    intro w_4_ hx_4_
    simp only [Act.put, List.setIfInBounds_toArray, List.set]
    iterate 2
      refine K.xp ?_
      simp only [Act.put, List.setIfInBounds_toArray, List.set]
    refine K.xh ?_
    simp only [Act.put, List.setIfInBounds_toArray, List.set]
    iterate 3
      refine K.xp ?_
      simp only [Act.put, List.setIfInBounds_toArray, List.set]
    apply K.x_call_is
    · rfl
    · rfl
    · rfl
    · intro w'; go_simp; first | done | rfl | exact ⟨rfl, rfl⟩
    · intro w' hx hp; have hc := hx.all.1.1; have hf := hx.all.1.2; have hc' := hx.all.2.1; have hf' := hx.all.2.2; exact HT2.out _
    intro w_11_ hx_11_
    simp only [Act.put, List.setIfInBounds_toArray, List.set]
    iterate 2
      refine K.xp ?_
      simp only [Act.put, List.setIfInBounds_toArray, List.set]
    apply K.x_done
    intro w1 h_x
    have x1 := hx_4_.trans (hx_11_.trans h_x)
    clear h_x hx_4_ hx_11_
    obtain ⟨⟨hcw1, hfw1⟩, hc'w1, hf'w1⟩ := x1.all
    have s1 : w.heap.size + 2 ≤ w1.heap.size := (by have h_ := x1.size; (try simp at h_); omega)
    have X1 := K.Ext.trans (K.Ext.drew (K.Ext.alloc (K.Ext.alloc X0 _) _)) x1
    obtain ⟨c1_0_0, c1_0_1⟩ := K.c2 x1 (w.heap.size) (.int .i64 a.1) (.int .i64 a.2) (by go_simp)
    have z1_0 : w.heap.size < w1.heap.size := World.block_lt_of_cell? w1 _ c1_0_0
    have d1_0 : ¬ (w.heap.size = w1.heap.size) := (by omega)
    have e1_0 : ¬ (w1.heap.size = w.heap.size) := (by omega)
    obtain ⟨c1_1_0, c1_1_1⟩ := K.c2 x1 (w.heap.size + 1) (.int .i64 b.1) (.int .i64 b.2) (by go_simp)
    have z1_1 : w.heap.size + 1 < w1.heap.size := World.block_lt_of_cell? w1 _ c1_1_0
    have d1_1 : ¬ (w.heap.size + 1 = w1.heap.size) := (by omega)
    have e1_1 : ¬ (w1.heap.size = w.heap.size + 1) := (by omega)
    have n1_0 : ¬ (w.heap.size + 1 = w.heap.size) := (by omega)
    have n0_1 : ¬ (w.heap.size = w.heap.size + 1) := (by omega)
    go_wp2_with fail
    refine NoPanic.normal ?_
    go_wp2_with (go_at_call 77; refine K.call (by with_reducible rfl) (by with_reducible rfl) (HUP.out _) ?_; rintro e w_ ⟨rfl, rfl⟩)
    rw [HU.out]
    refine bodyPost_ret (v := .tuple #[.int .i64 u, .int .i64 0]) (by unfold results; rw [Tryz.results41]; go_simp) rfl ⟨rfl, ?_⟩
    repeat with_reducible refine K.Ext.setCell ?_ (by dsimp only; omega) _
    exact (by repeat' (first | with_reducible exact X1 | with_reducible refine K.Ext.setCell ?_ ?_ _ | with_reducible refine K.Ext.alloc ?_ _ | with_reducible refine K.Ext.drew ?_ | (dsimp only; omega) | omega | (simp; omega)))
end Go.Proofs.YtimpcelbekhipaaGreat
end
section
namespace Go.Z
def relX (a b : Int × Int) : Int × Int := if (isFig a.1 a.2 && isFig b.1 b.2) = false then (0, 1) else relO a b
end Go.Z
namespace Go.Proofs.YtimpcelbekhipaaGreat
open Go.RowKit
set_option maxHeartbeats 1600000 in
theorem l02Error_any (a : Int × Int) (b : Int × Int)  (w : World) (a1 : 1000 ≤ a.1) (a2 : a.1 ≤ 9999) (a3 : -30 ≤ a.2 ∧ a.2 ≤ 30) (b1 : 1000 ≤ b.1) (b2 : b.1 ≤ 9999) (b3 : -30 ≤ b.2 ∧ b.2 ≤ 30)  :
    Calls Tryz.prog 75 #[.agg #[.int .i64 a.1, .int .i64 a.2], .agg #[.int .i64 b.1, .int .i64 b.2]] w fun e w' => e = .returned (.int .i64 (Z.relE a b)) ∧ K.Ext w w' := by
  have HR : Hid (Z.relE a b = if 1 < a.2 - b.2 then 9000001 else if a.2 - b.2 < -6 then 1000000 else Z.cl (1000000 * Z.ab (a.1 * Z.p10 (a.2 - b.2).toNat - b.1 * Z.p10 (-(a.2 - b.2)).toNat)) (b.1 * Z.p10 (-(a.2 - b.2)).toNat)) := Z.hide rfl
  obtain ⟨M, hM⟩ : ∃ M, Z.relE a b = M := ⟨_, rfl⟩
  rw [hM] at HR ⊢
  clear hM
  obtain ⟨t, ht⟩ : ∃ t, a.2 - b.2 = t := ⟨_, rfl⟩
  rw [ht] at HR
  have q0 : IntKind.i64.wrap (a.2 - b.2) = t := by rw [ht]; exact IntWalk.i64_in _ (by omega)
  have tb : -60 ≤ t ∧ t ≤ 60 := by omega
  have q9 : IntKind.i64.wrap (-t) = -t := IntWalk.i64_in _ (by omega)
  clear ht
  by_cases h1 : 1 < t
  · have HE : Hid (M = 9000001) := Z.hide (by rw [HR.out, if_pos h1])
    clear HR
    have X0 : K.Ext w w := K.Ext.refl w
    go_enter Tryz.func75, Tryz.ntmps75
    go_wp2_with fail
    rw [HE.out]
    refine bodyPost_ret (v := .int .i64 9000001) (by unfold results; rw [Tryz.results75]; go_simp) rfl ⟨rfl, ?_⟩
    repeat with_reducible refine K.Ext.setCell ?_ (by dsimp only; omega) _
    exact (by repeat' (first | with_reducible exact X0 | with_reducible refine K.Ext.setCell ?_ ?_ _ | with_reducible refine K.Ext.alloc ?_ _ | with_reducible refine K.Ext.drew ?_ | (dsimp only; omega) | omega | (simp; omega)))
  by_cases h2 : t < -6
  · have HE : Hid (M = 1000000) := Z.hide (by rw [HR.out, if_neg h1, if_pos h2])
    clear HR
    have X0 : K.Ext w w := K.Ext.refl w
    go_enter Tryz.func75, Tryz.ntmps75
    go_wp2_with fail
    rw [HE.out]
    refine bodyPost_ret (v := .int .i64 1000000) (by unfold results; rw [Tryz.results75]; go_simp) rfl ⟨rfl, ?_⟩
    repeat with_reducible refine K.Ext.setCell ?_ (by dsimp only; omega) _
    exact (by repeat' (first | with_reducible exact X0 | with_reducible refine K.Ext.setCell ?_ ?_ _ | with_reducible refine K.Ext.alloc ?_ _ | with_reducible refine K.Ext.drew ?_ | (dsimp only; omega) | omega | (simp; omega)))
  have HU : Hid (Z.cl (1000000 * Z.ab (a.1 * Z.p10 t.toNat - b.1 * Z.p10 (-t).toNat)) (b.1 * Z.p10 (-t).toNat) = M) := Z.hide (by rw [HR.out, if_neg h1, if_neg h2])
  clear HR
  by_cases h3 : 0 < t
  · obtain rfl : t = 1 := by omega
    have HT : Hid (∀ w : World, Calls Tryz.prog 100 #[.int .i64 1] w fun e w' => e = .returned (.int .i64 10) ∧ w = w') := Z.hide (fun w => l01Ten_any 1 w (by decide))
    have q1 : IntKind.i64.wrap (a.1 * 10) = a.1 * 10 := IntWalk.i64_in _ (by omega)
    have hu : Z.cl (1000000 * Z.ab (a.1 * 10 - b.1)) b.1 = M := by
      have h := HU.out
      simp only [Z.p10, Int.toNat_one] at h
      rw [show ((-1 : Int)).toNat = 0 from rfl] at h
      simpa [Z.p10] using h
    have q3 : IntKind.i64.wrap (a.1 * 10 - b.1) = a.1 * 10 - b.1 := IntWalk.i64_in _ (by omega)
    have q4 : IntKind.i64.wrap (1000000 * Z.ab (a.1 * 10 - b.1)) = 1000000 * Z.ab (a.1 * 10 - b.1) := IntWalk.i64_in _ (by unfold Z.ab; omega)
    have HA := Z.hide (fun w => l01Abs_any (a.1 * 10 - b.1) w (by omega) (by omega))
    have HC := Z.hide (fun w => l01Ceil_any (1000000 * Z.ab (a.1 * 10 - b.1)) b.1 w (by omega) (by unfold Z.ab; omega) (by unfold Z.ab; omega) (by omega) (by omega))
    rw [hu] at HC
    clear hu HU
    generalize Z.ab (a.1 * 10 - b.1) = u at *
    have X0 : K.Ext w w := K.Ext.refl w
    go_enter Tryz.func75, Tryz.ntmps75
    go_wp2_with fail
    refine K.wp_region_x 5 [0, 1, 0, 1, 0] [] (by kernel_rfl) (by kernel_rfl) ?_
    simp only [List.take_succ_cons, List.take_zero, List.drop_succ_cons, List.drop_zero]
    refine K.xp ?_
    simp only [Act.put, List.setIfInBounds_toArray, List.set]
    refine K.xh ?_
    simp only [Act.put, List.setIfInBounds_toArray, List.set]
    refine K.xp ?_
    simp only [Act.put, List.setIfInBounds_toArray, List.set]
    refine K.xh ?_
    simp only [Act.put, List.setIfInBounds_toArray, List.set]
    refine K.xp ?_
    simp only [Act.put, List.setIfInBounds_toArray, List.set]
    apply K.x_done
    intro w1 h_x
    have x1 := K.Ext.id h_x
    clear h_x
    obtain ⟨⟨hcw1, hfw1⟩, hc'w1, hf'w1⟩ := x1.all
    have s1 : w.heap.size + 2 ≤ w1.heap.size := (by have h_ := x1.size; (try simp at h_); omega)
    have X1 := K.Ext.trans (K.Ext.drew (K.Ext.alloc (K.Ext.alloc X0 _) _)) x1
    obtain ⟨c1_0_0, c1_0_1⟩ := K.c2 x1 (w.heap.size) (.int .i64 a.1) (.int .i64 a.2) (by go_simp)
    have z1_0 : w.heap.size < w1.heap.size := World.block_lt_of_cell? w1 _ c1_0_0
    have d1_0 : ¬ (w.heap.size = w1.heap.size) := (by omega)
    have e1_0 : ¬ (w1.heap.size = w.heap.size) := (by omega)
    obtain ⟨c1_1_0, c1_1_1⟩ := K.c2 x1 (w.heap.size + 1) (.int .i64 b.1) (.int .i64 b.2) (by go_simp)
    have z1_1 : w.heap.size + 1 < w1.heap.size := World.block_lt_of_cell? w1 _ c1_1_0
    have d1_1 : ¬ (w.heap.size + 1 = w1.heap.size) := (by omega)
    have e1_1 : ¬ (w1.heap.size = w.heap.size + 1) := (by omega)
    have n1_0 : ¬ (w.heap.size + 1 = w.heap.size) := (by omega)
    have n0_1 : ¬ (w.heap.size = w.heap.size + 1) := (by omega)
    go_wp2_with fail
    refine NoPanic.normal ?_
    go_wp2_with (go_at_call 100; refine K.call (by with_reducible rfl) (by with_reducible rfl) (HT.out _) ?_; rintro e w_ ⟨rfl, rfl⟩)
    go_wp2_with (go_at_call 101; refine K.call (by with_reducible rfl) (by with_reducible rfl) (HA.out _) ?_; rintro e w_ ⟨rfl, rfl⟩)
    go_wp2_with (go_at_call 94; refine K.call (by with_reducible rfl) (by with_reducible rfl) (HC.out _) ?_; rintro e w_ ⟨rfl, rfl⟩)
    refine bodyPost_ret (v := .int .i64 M) (by unfold results; rw [Tryz.results75]; go_simp) rfl ⟨rfl, ?_⟩
    repeat with_reducible refine K.Ext.setCell ?_ (by dsimp only; omega) _
    exact (by repeat' (first | with_reducible exact X1 | with_reducible refine K.Ext.setCell ?_ ?_ _ | with_reducible refine K.Ext.alloc ?_ _ | with_reducible refine K.Ext.drew ?_ | (dsimp only; omega) | omega | (simp; omega)))
  · have HT : Hid (∀ w : World, Calls Tryz.prog 100 #[.int .i64 (-t)] w fun e w' => e = .returned (.int .i64 (Z.p10 (-t).toNat)) ∧ w = w') := Z.hide (fun w => by
      have h_ := l01Ten_any (-t).toNat w (by omega)
      rwa [show (((-t).toNat : Nat) : Int) = -t by omega] at h_)
    have h0 : t.toNat = 0 := by omega
    have hu : Z.cl (1000000 * Z.ab (a.1 - b.1 * Z.p10 (-t).toNat)) (b.1 * Z.p10 (-t).toNat) = M := by
      have h := HU.out
      rw [h0] at h
      simpa [Z.p10] using h
    have m2 := Z.p10_bd (-t).toNat (by omega)
    generalize Z.p10 (-t).toNat = k at *
    have e2 := Z.mul_in (x := b.1) (m := k) (by omega) b2 m2.1 m2.2
    obtain ⟨y, hy⟩ : ∃ y, b.1 * k = y := ⟨_, rfl⟩
    rw [hy] at hu e2
    have r2 : wrap64 (b.1 * k) = y := by rw [hy]; unfold wrap64; omega
    have q2 : IntKind.i64.wrap (b.1 * k) = y := by rw [hy]; exact IntWalk.i64_in _ (by omega)
    clear hy h0 HU
    have q3 : IntKind.i64.wrap (a.1 - y) = a.1 - y := IntWalk.i64_in _ (by omega)
    have q4 : IntKind.i64.wrap (1000000 * Z.ab (a.1 - y)) = 1000000 * Z.ab (a.1 - y) := IntWalk.i64_in _ (by unfold Z.ab; omega)
    have HA := Z.hide (fun w => l01Abs_any (a.1 - y) w (by omega) (by omega))
    have HC := Z.hide (fun w => l01Ceil_any (1000000 * Z.ab (a.1 - y)) y w (by omega) (by unfold Z.ab; omega) (by unfold Z.ab; omega) (by omega) (by omega))
    rw [hu] at HC
    clear hu
    generalize Z.ab (a.1 - y) = u at *
    have X0 : K.Ext w w := K.Ext.refl w
    go_enter Tryz.func75, Tryz.ntmps75
    go_wp2_with fail
    refine K.wp_region_x 5 [0, 1, 0, 1, 0] [] (by kernel_rfl) (by kernel_rfl) ?_
    simp only [List.take_succ_cons, List.take_zero, List.drop_succ_cons, List.drop_zero]
    refine K.xp ?_
    simp only [Act.put, List.setIfInBounds_toArray, List.set]
    refine K.xh ?_
    simp only [Act.put, List.setIfInBounds_toArray, List.set]
    refine K.xp ?_
    simp only [Act.put, List.setIfInBounds_toArray, List.set]
    refine K.xh ?_
    simp only [Act.put, List.setIfInBounds_toArray, List.set]
    refine K.xp ?_
    simp only [Act.put, List.setIfInBounds_toArray, List.set]
    apply K.x_done
    intro w1 h_x
    have x1 := K.Ext.id h_x
    clear h_x
    obtain ⟨⟨hcw1, hfw1⟩, hc'w1, hf'w1⟩ := x1.all
    have s1 : w.heap.size + 2 ≤ w1.heap.size := (by have h_ := x1.size; (try simp at h_); omega)
    have X1 := K.Ext.trans (K.Ext.drew (K.Ext.alloc (K.Ext.alloc X0 _) _)) x1
    obtain ⟨c1_0_0, c1_0_1⟩ := K.c2 x1 (w.heap.size) (.int .i64 a.1) (.int .i64 a.2) (by go_simp)
    have z1_0 : w.heap.size < w1.heap.size := World.block_lt_of_cell? w1 _ c1_0_0
    have d1_0 : ¬ (w.heap.size = w1.heap.size) := (by omega)
    have e1_0 : ¬ (w1.heap.size = w.heap.size) := (by omega)
    obtain ⟨c1_1_0, c1_1_1⟩ := K.c2 x1 (w.heap.size + 1) (.int .i64 b.1) (.int .i64 b.2) (by go_simp)
    have z1_1 : w.heap.size + 1 < w1.heap.size := World.block_lt_of_cell? w1 _ c1_1_0
    have d1_1 : ¬ (w.heap.size + 1 = w1.heap.size) := (by omega)
    have e1_1 : ¬ (w1.heap.size = w.heap.size + 1) := (by omega)
    have n1_0 : ¬ (w.heap.size + 1 = w.heap.size) := (by omega)
    have n0_1 : ¬ (w.heap.size = w.heap.size + 1) := (by omega)
    go_wp2_with fail
    refine NoPanic.normal ?_
    go_wp2_with (go_at_call 100; refine K.call (by with_reducible rfl) (by with_reducible rfl) (HT.out _) ?_; rintro e w_ ⟨rfl, rfl⟩)
    go_wp2_with (go_at_call 101; refine K.call (by with_reducible rfl) (by with_reducible rfl) (HA.out _) ?_; rintro e w_ ⟨rfl, rfl⟩)
    go_wp2_with (go_at_call 94; refine K.call (by with_reducible rfl) (by with_reducible rfl) (HC.out _) ?_; rintro e w_ ⟨rfl, rfl⟩)
    refine bodyPost_ret (v := .int .i64 M) (by unfold results; rw [Tryz.results75]; go_simp) rfl ⟨rfl, ?_⟩
    repeat with_reducible refine K.Ext.setCell ?_ (by dsimp only; omega) _
    exact (by repeat' (first | with_reducible exact X1 | with_reducible refine K.Ext.setCell ?_ ?_ _ | with_reducible refine K.Ext.alloc ?_ _ | with_reducible refine K.Ext.drew ?_ | (dsimp only; omega) | omega | (simp; omega)))
theorem spec_RelativeError (a : Int × Int) (b : Int × Int)  (w : World)   :
    Calls Tryz.prog 38 #[.agg #[.int .i64 a.1, .int .i64 a.2], .agg #[.int .i64 b.1, .int .i64 b.2]] w fun e w' => e = .returned (.tuple #[.int .i64 ((Z.relX a b).1), .int .i64 ((Z.relX a b).2)]) ∧ K.Ext w w' := by
  have HM : Hid (Z.relX a b = if (Z.isFig a.1 a.2 && Z.isFig b.1 b.2) = false then (0, 1) else if 9000000 < Z.relE a b then (0, 3) else (Z.relE a b, 0)) := Z.hide rfl
  have HG := Z.hide (fun w => l02Two_any a b w)
  obtain ⟨M, hM⟩ : ∃ M, Z.relX a b = M := ⟨_, rfl⟩
  rw [hM] at HM ⊢
  clear hM
  cases hg : (Z.isFig a.1 a.2 && Z.isFig b.1 b.2)
  · rw [hg] at HG
    rw [if_pos hg] at HM
    clear hg
    have X0 : K.Ext w w := K.Ext.refl w
    go_enter Tryz.func38, Tryz.ntmps38
    go_wp2_with (go_at_call 74; refine K.call (by with_reducible rfl) (by with_reducible rfl) (HG.out _) ?_; rintro e w1 ⟨rfl, x1⟩; have s1 : w.heap.size + 2 ≤ w1.heap.size := (by have h_ := x1.size; (try simp at h_); omega); have X1 := K.Ext.trans (K.Ext.alloc (K.Ext.alloc X0 _) _) x1; obtain ⟨c1_0_0, c1_0_1⟩ := K.c2 x1 (w.heap.size) (.int .i64 a.1) (.int .i64 a.2) (by go_simp); have z1_0 : w.heap.size < w1.heap.size := World.block_lt_of_cell? w1 _ c1_0_0; have d1_0 : ¬ (w.heap.size = w1.heap.size) := (by omega); have e1_0 : ¬ (w1.heap.size = w.heap.size) := (by omega); obtain ⟨c1_1_0, c1_1_1⟩ := K.c2 x1 (w.heap.size + 1) (.int .i64 b.1) (.int .i64 b.2) (by go_simp); have z1_1 : w.heap.size + 1 < w1.heap.size := World.block_lt_of_cell? w1 _ c1_1_0; have d1_1 : ¬ (w.heap.size + 1 = w1.heap.size) := (by omega); have e1_1 : ¬ (w1.heap.size = w.heap.size + 1) := (by omega); have n1_0 : ¬ (w.heap.size + 1 = w.heap.size) := (by omega); have n0_1 : ¬ (w.heap.size = w.heap.size + 1) := (by omega))
    rw [HM.out]
    refine bodyPost_ret (v := .tuple #[.int .i64 0, .int .i64 1]) (by unfold results; rw [Tryz.results38]; go_simp) rfl ⟨rfl, ?_⟩
    repeat with_reducible refine K.Ext.setCell ?_ (by dsimp only; omega) _
    exact (by repeat' (first | with_reducible exact X1 | with_reducible refine K.Ext.setCell ?_ ?_ _ | with_reducible refine K.Ext.alloc ?_ _ | with_reducible refine K.Ext.drew ?_ | (dsimp only; omega) | omega | (simp; omega)))
  obtain ⟨ga, gb⟩ := Bool.and_eq_true_iff.1 hg
  obtain ⟨⟨a1, a2⟩, a3, a4⟩ := Z.isFig_parts ga
  obtain ⟨⟨b1, b2⟩, b3, b4⟩ := Z.isFig_parts gb
  rw [hg] at HG
  rw [if_neg (by rw [hg]; decide)] at HM
  have HR := Z.hide (fun w => l02Error_any a b w a1 a2 ⟨a3, a4⟩ b1 b2 ⟨b3, b4⟩)
  generalize Z.relE a b = u at *
  clear hg ga gb
  by_cases h : 9000000 < u
  · rw [if_pos h] at HM
    have X0 : K.Ext w w := K.Ext.refl w
    go_enter Tryz.func38, Tryz.ntmps38
    go_wp2_with (go_at_call 74; refine K.call (by with_reducible rfl) (by with_reducible rfl) (HG.out _) ?_; rintro e w1 ⟨rfl, x1⟩; have s1 : w.heap.size + 2 ≤ w1.heap.size := (by have h_ := x1.size; (try simp at h_); omega); have X1 := K.Ext.trans (K.Ext.alloc (K.Ext.alloc X0 _) _) x1; obtain ⟨c1_0_0, c1_0_1⟩ := K.c2 x1 (w.heap.size) (.int .i64 a.1) (.int .i64 a.2) (by go_simp); have z1_0 : w.heap.size < w1.heap.size := World.block_lt_of_cell? w1 _ c1_0_0; have d1_0 : ¬ (w.heap.size = w1.heap.size) := (by omega); have e1_0 : ¬ (w1.heap.size = w.heap.size) := (by omega); obtain ⟨c1_1_0, c1_1_1⟩ := K.c2 x1 (w.heap.size + 1) (.int .i64 b.1) (.int .i64 b.2) (by go_simp); have z1_1 : w.heap.size + 1 < w1.heap.size := World.block_lt_of_cell? w1 _ c1_1_0; have d1_1 : ¬ (w.heap.size + 1 = w1.heap.size) := (by omega); have e1_1 : ¬ (w1.heap.size = w.heap.size + 1) := (by omega); have n1_0 : ¬ (w.heap.size + 1 = w.heap.size) := (by omega); have n0_1 : ¬ (w.heap.size = w.heap.size + 1) := (by omega))
    go_wp2_with (go_at_call 75; refine K.call (by with_reducible rfl) (by with_reducible rfl) (HR.out _) ?_; rintro e w2 ⟨rfl, x2⟩; have s2 : w1.heap.size ≤ w2.heap.size := (by have h_ := x2.size; (try simp at h_); omega); have X2 := K.Ext.trans (X1) x2; obtain ⟨c2_0_0, c2_0_1⟩ := K.c2 x2 (w.heap.size) (.int .i64 a.1) (.int .i64 a.2) (by go_simp); have z2_0 : w.heap.size < w2.heap.size := World.block_lt_of_cell? w2 _ c2_0_0; have d2_0 : ¬ (w.heap.size = w2.heap.size) := (by omega); have e2_0 : ¬ (w2.heap.size = w.heap.size) := (by omega); obtain ⟨c2_1_0, c2_1_1⟩ := K.c2 x2 (w.heap.size + 1) (.int .i64 b.1) (.int .i64 b.2) (by go_simp); have z2_1 : w.heap.size + 1 < w2.heap.size := World.block_lt_of_cell? w2 _ c2_1_0; have d2_1 : ¬ (w.heap.size + 1 = w2.heap.size) := (by omega); have e2_1 : ¬ (w2.heap.size = w.heap.size + 1) := (by omega); clear c1_0_0 c1_0_1 z1_0 d1_0 e1_0 c1_1_0 c1_1_1 z1_1 d1_1 e1_1)
    rw [HM.out]
    refine bodyPost_ret (v := .tuple #[.int .i64 0, .int .i64 3]) (by unfold results; rw [Tryz.results38]; go_simp) rfl ⟨rfl, ?_⟩
    repeat with_reducible refine K.Ext.setCell ?_ (by dsimp only; omega) _
    exact (by repeat' (first | with_reducible exact X2 | with_reducible refine K.Ext.setCell ?_ ?_ _ | with_reducible refine K.Ext.alloc ?_ _ | with_reducible refine K.Ext.drew ?_ | (dsimp only; omega) | omega | (simp; omega)))
  · rw [if_neg h] at HM
    have X0 : K.Ext w w := K.Ext.refl w
    go_enter Tryz.func38, Tryz.ntmps38
    go_wp2_with (go_at_call 74; refine K.call (by with_reducible rfl) (by with_reducible rfl) (HG.out _) ?_; rintro e w1 ⟨rfl, x1⟩; have s1 : w.heap.size + 2 ≤ w1.heap.size := (by have h_ := x1.size; (try simp at h_); omega); have X1 := K.Ext.trans (K.Ext.alloc (K.Ext.alloc X0 _) _) x1; obtain ⟨c1_0_0, c1_0_1⟩ := K.c2 x1 (w.heap.size) (.int .i64 a.1) (.int .i64 a.2) (by go_simp); have z1_0 : w.heap.size < w1.heap.size := World.block_lt_of_cell? w1 _ c1_0_0; have d1_0 : ¬ (w.heap.size = w1.heap.size) := (by omega); have e1_0 : ¬ (w1.heap.size = w.heap.size) := (by omega); obtain ⟨c1_1_0, c1_1_1⟩ := K.c2 x1 (w.heap.size + 1) (.int .i64 b.1) (.int .i64 b.2) (by go_simp); have z1_1 : w.heap.size + 1 < w1.heap.size := World.block_lt_of_cell? w1 _ c1_1_0; have d1_1 : ¬ (w.heap.size + 1 = w1.heap.size) := (by omega); have e1_1 : ¬ (w1.heap.size = w.heap.size + 1) := (by omega); have n1_0 : ¬ (w.heap.size + 1 = w.heap.size) := (by omega); have n0_1 : ¬ (w.heap.size = w.heap.size + 1) := (by omega))
    go_wp2_with (go_at_call 75; refine K.call (by with_reducible rfl) (by with_reducible rfl) (HR.out _) ?_; rintro e w2 ⟨rfl, x2⟩; have s2 : w1.heap.size ≤ w2.heap.size := (by have h_ := x2.size; (try simp at h_); omega); have X2 := K.Ext.trans (X1) x2; obtain ⟨c2_0_0, c2_0_1⟩ := K.c2 x2 (w.heap.size) (.int .i64 a.1) (.int .i64 a.2) (by go_simp); have z2_0 : w.heap.size < w2.heap.size := World.block_lt_of_cell? w2 _ c2_0_0; have d2_0 : ¬ (w.heap.size = w2.heap.size) := (by omega); have e2_0 : ¬ (w2.heap.size = w.heap.size) := (by omega); obtain ⟨c2_1_0, c2_1_1⟩ := K.c2 x2 (w.heap.size + 1) (.int .i64 b.1) (.int .i64 b.2) (by go_simp); have z2_1 : w.heap.size + 1 < w2.heap.size := World.block_lt_of_cell? w2 _ c2_1_0; have d2_1 : ¬ (w.heap.size + 1 = w2.heap.size) := (by omega); have e2_1 : ¬ (w2.heap.size = w.heap.size + 1) := (by omega); clear c1_0_0 c1_0_1 z1_0 d1_0 e1_0 c1_1_0 c1_1_1 z1_1 d1_1 e1_1)
    rw [HM.out]
    refine bodyPost_ret (v := .tuple #[.int .i64 u, .int .i64 0]) (by unfold results; rw [Tryz.results38]; go_simp) rfl ⟨rfl, ?_⟩
    repeat with_reducible refine K.Ext.setCell ?_ (by dsimp only; omega) _
    exact (by repeat' (first | with_reducible exact X2 | with_reducible refine K.Ext.setCell ?_ ?_ _ | with_reducible refine K.Ext.alloc ?_ _ | with_reducible refine K.Ext.drew ?_ | (dsimp only; omega) | omega | (simp; omega)))
end Go.Proofs.YtimpcelbekhipaaGreat
end
section
namespace Go.Z
noncomputable def xpO (fr to : Int) (f : Int × Int) : (Int × Int) × (Int × Int) × Int :=
  if isFig f.1 f.2 = false then ((0, 0), (0, 0), 1) else if ordS fr = 0 ∨ ordS to = 0 then ((0, 0), (0, 0), 2) else spanOf (scaleD (figLog f) (powS fr to).1 (powS fr to).2)
theorem scaleD_le {a : Int × Int} {n d : Int} (hd : 0 < d) : (scaleD a n d).1 ≤ (scaleD a n d).2 := by
  obtain ⟨h1, h2⟩ := fl_spec (min (a.1 * n) (a.2 * n)) d hd
  obtain ⟨h3, h4⟩ := fl_spec (-(max (a.1 * n) (a.2 * n))) d hd
  unfold scaleD cl
  dsimp only
  have h5 : min (a.1 * n) (a.2 * n) ≤ max (a.1 * n) (a.2 * n) := by omega
  rcases Int.lt_or_le (-(fl (-(max (a.1 * n) (a.2 * n))) d)) (fl (min (a.1 * n) (a.2 * n)) d) with h | h
  · have := Int.mul_le_mul_of_nonneg_left (show -(fl (-(max (a.1 * n) (a.2 * n))) d) + 1 ≤ fl (min (a.1 * n) (a.2 * n)) d by omega) (show (0 : Int) ≤ d by omega)
    rw [Int.mul_add, Int.mul_one, Int.mul_neg] at this
    omega
  · exact h
end Go.Z
namespace Go.Proofs.YtimpcelbekhipaaGreat
open Go.RowKit
set_option maxHeartbeats 1600000 in
theorem impl_PowerSpan (f : Int × Int) (n : Int) (d : Int)  (w : World) (hf : Z.isFig f.1 f.2 = true) (hn : -3 ≤ n ∧ n ≤ 3) (hd : 1 ≤ d ∧ d ≤ 3) (S : (Int × Int) × (Int × Int) × Int) (hS : Hid (Z.spanOf (Z.scaleD (Z.figLog f) n d) = S))  :
    Calls Tryz.prog 72 #[.agg #[.int .i64 f.1, .int .i64 f.2], .int .i64 n, .int .i64 d] w fun e w' => e = .returned (.tuple #[.agg #[.int .i64 S.1.1, .int .i64 S.1.2], .agg #[.int .i64 S.2.1.1, .int .i64 S.2.1.2], .int .i64 S.2.2]) ∧ K.Ext w w' := by
  have HG : Hid (∀ w' : World, Calls Tryz.prog 71 #[.agg #[.int .i64 f.1, .int .i64 f.2]] w' fun e w'' => e = .returned (.bool true) ∧ K.Ext w' w'') := Z.hide (fun w' => by rw [← hf]; exact impl_IsFigure f.1 f.2 w')
  have HW1 : Hid (∀ w : World, Calls Tryz.prog 96 #[.int .i64 n, .int .i64 (-12), .int .i64 12] w fun e w' => e = .returned (.bool true) ∧ w = w') := Z.hide (fun w => by
    have h_ := within_any n (-12) 12 w
    rwa [show (decide (-12 ≤ n) && decide (n ≤ 12)) = true by simp; omega] at h_)
  have HW2 : Hid (∀ w : World, Calls Tryz.prog 96 #[.int .i64 d, .int .i64 1, .int .i64 12] w fun e w' => e = .returned (.bool true) ∧ w = w') := Z.hide (fun w => by
    have h_ := within_any d 1 12 w
    rwa [show (decide (1 ≤ d) && decide (d ≤ 12)) = true by simp; omega] at h_)
  obtain ⟨⟨f1, f2⟩, f3, f4⟩ := Z.isFig_parts hf
  have HL := Z.hide (fun w => figureLog_any f w hf)
  have lb := Z.figLog_lq f1 f2
  generalize Z.figLog f = l at *
  have HS := Z.hide (fun w => scaledD_any l n d w ⟨by omega, by omega⟩ ⟨by omega, by omega⟩ ⟨by omega, by omega⟩ (by omega))
  generalize Z.scaleD l n d = sc at *
  have HP := Z.hide (fun w => spanOf_any sc w S hS)
  clear hS hf lb hn hd
  have X0 : K.Ext w w := K.Ext.refl w
  go_enter Tryz.func72, Tryz.ntmps72
  go_wp2_with (go_at_call 71; refine K.call (by with_reducible rfl) (by with_reducible rfl) (HG.out _) ?_; rintro e w1 ⟨rfl, x1⟩; have s1 : w.heap.size + 3 ≤ w1.heap.size := (by have h_ := x1.size; (try simp at h_); omega); have X1 := K.Ext.trans (K.Ext.alloc (K.Ext.alloc (K.Ext.alloc X0 _) _) _) x1; obtain ⟨c1_0_0, c1_0_1⟩ := K.c2 x1 (w.heap.size) (.int .i64 f.1) (.int .i64 f.2) (by go_simp); have z1_0 : w.heap.size < w1.heap.size := World.block_lt_of_cell? w1 _ c1_0_0; have d1_0 : ¬ (w.heap.size = w1.heap.size) := (by omega); have e1_0 : ¬ (w1.heap.size = w.heap.size) := (by omega); obtain ⟨c1_1_0, c1_1_1⟩ := K.c2 x1 (w.heap.size + 1) (.int .i64 0) (.int .i64 0) (by go_simp); obtain ⟨f1_1_0, f1_1_1⟩ := K.f2 x1 (w.heap.size + 1) (by go_simp); have z1_1 : w.heap.size + 1 < w1.heap.size := World.block_lt_of_cell? w1 _ c1_1_0; have d1_1 : ¬ (w.heap.size + 1 = w1.heap.size) := (by omega); have e1_1 : ¬ (w1.heap.size = w.heap.size + 1) := (by omega); have n1_0 : ¬ (w.heap.size + 1 = w.heap.size) := (by omega); have n0_1 : ¬ (w.heap.size = w.heap.size + 1) := (by omega); obtain ⟨c1_2_0, c1_2_1⟩ := K.c2 x1 (w.heap.size + 1 + 1) (.int .i64 0) (.int .i64 0) (by go_simp); obtain ⟨f1_2_0, f1_2_1⟩ := K.f2 x1 (w.heap.size + 1 + 1) (by go_simp); have z1_2 : w.heap.size + 1 + 1 < w1.heap.size := World.block_lt_of_cell? w1 _ c1_2_0; have d1_2 : ¬ (w.heap.size + 1 + 1 = w1.heap.size) := (by omega); have e1_2 : ¬ (w1.heap.size = w.heap.size + 1 + 1) := (by omega); have n2_0 : ¬ (w.heap.size + 1 + 1 = w.heap.size) := (by omega); have n0_2 : ¬ (w.heap.size = w.heap.size + 1 + 1) := (by omega); have n2_1 : ¬ (w.heap.size + 1 + 1 = w.heap.size + 1) := (by omega); have n1_2 : ¬ (w.heap.size + 1 = w.heap.size + 1 + 1) := (by omega))
  go_wp2_with (go_at_call 96; refine K.call (by with_reducible rfl) (by with_reducible rfl) (HW1.out _) ?_; rintro e w_ ⟨rfl, rfl⟩)
  go_wp2_with (go_at_call 96; refine K.call (by with_reducible rfl) (by with_reducible rfl) (HW2.out _) ?_; rintro e w_ ⟨rfl, rfl⟩)
  go_wp2_with (go_at_call 63; refine K.call (by with_reducible rfl) (by with_reducible rfl) (HL.out _) ?_; rintro e w4 ⟨rfl, x4⟩; have s4 : w1.heap.size ≤ w4.heap.size := (by have h_ := x4.size; (try simp at h_); omega); have X4 := K.Ext.trans (X1) x4; obtain ⟨c4_0_0, c4_0_1⟩ := K.c2 x4 (w.heap.size) (.int .i64 f.1) (.int .i64 f.2) (by go_simp); have z4_0 : w.heap.size < w4.heap.size := World.block_lt_of_cell? w4 _ c4_0_0; have d4_0 : ¬ (w.heap.size = w4.heap.size) := (by omega); have e4_0 : ¬ (w4.heap.size = w.heap.size) := (by omega); obtain ⟨c4_1_0, c4_1_1⟩ := K.c2 x4 (w.heap.size + 1) (.int .i64 0) (.int .i64 0) (by go_simp); obtain ⟨f4_1_0, f4_1_1⟩ := K.f2 x4 (w.heap.size + 1) (by go_simp); have z4_1 : w.heap.size + 1 < w4.heap.size := World.block_lt_of_cell? w4 _ c4_1_0; have d4_1 : ¬ (w.heap.size + 1 = w4.heap.size) := (by omega); have e4_1 : ¬ (w4.heap.size = w.heap.size + 1) := (by omega); obtain ⟨c4_2_0, c4_2_1⟩ := K.c2 x4 (w.heap.size + 1 + 1) (.int .i64 0) (.int .i64 0) (by go_simp); obtain ⟨f4_2_0, f4_2_1⟩ := K.f2 x4 (w.heap.size + 1 + 1) (by go_simp); have z4_2 : w.heap.size + 1 + 1 < w4.heap.size := World.block_lt_of_cell? w4 _ c4_2_0; have d4_2 : ¬ (w.heap.size + 1 + 1 = w4.heap.size) := (by omega); have e4_2 : ¬ (w4.heap.size = w.heap.size + 1 + 1) := (by omega); clear c1_0_0 c1_0_1 z1_0 d1_0 e1_0 c1_1_0 c1_1_1 f1_1_0 f1_1_1 z1_1 d1_1 e1_1 c1_2_0 c1_2_1 f1_2_0 f1_2_1 z1_2 d1_2 e1_2)
  go_wp2_with (go_at_call 62; refine K.call (by with_reducible rfl) (by with_reducible rfl) (HS.out _) ?_; rintro e w5 ⟨rfl, x5⟩; have s5 : w4.heap.size ≤ w5.heap.size := (by have h_ := x5.size; (try simp at h_); omega); have X5 := K.Ext.trans (X4) x5; obtain ⟨c5_0_0, c5_0_1⟩ := K.c2 x5 (w.heap.size) (.int .i64 f.1) (.int .i64 f.2) (by go_simp); have z5_0 : w.heap.size < w5.heap.size := World.block_lt_of_cell? w5 _ c5_0_0; have d5_0 : ¬ (w.heap.size = w5.heap.size) := (by omega); have e5_0 : ¬ (w5.heap.size = w.heap.size) := (by omega); obtain ⟨c5_1_0, c5_1_1⟩ := K.c2 x5 (w.heap.size + 1) (.int .i64 0) (.int .i64 0) (by go_simp); obtain ⟨f5_1_0, f5_1_1⟩ := K.f2 x5 (w.heap.size + 1) (by go_simp); have z5_1 : w.heap.size + 1 < w5.heap.size := World.block_lt_of_cell? w5 _ c5_1_0; have d5_1 : ¬ (w.heap.size + 1 = w5.heap.size) := (by omega); have e5_1 : ¬ (w5.heap.size = w.heap.size + 1) := (by omega); obtain ⟨c5_2_0, c5_2_1⟩ := K.c2 x5 (w.heap.size + 1 + 1) (.int .i64 0) (.int .i64 0) (by go_simp); obtain ⟨f5_2_0, f5_2_1⟩ := K.f2 x5 (w.heap.size + 1 + 1) (by go_simp); have z5_2 : w.heap.size + 1 + 1 < w5.heap.size := World.block_lt_of_cell? w5 _ c5_2_0; have d5_2 : ¬ (w.heap.size + 1 + 1 = w5.heap.size) := (by omega); have e5_2 : ¬ (w5.heap.size = w.heap.size + 1 + 1) := (by omega); clear c4_0_0 c4_0_1 z4_0 d4_0 e4_0 c4_1_0 c4_1_1 f4_1_0 f4_1_1 z4_1 d4_1 e4_1 c4_2_0 c4_2_1 f4_2_0 f4_2_1 z4_2 d4_2 e4_2)
  go_wp2_with (go_at_call 97; refine K.call (by with_reducible rfl) (by with_reducible rfl) (HP.out _) ?_; rintro e w6 ⟨rfl, x6⟩; have s6 : w5.heap.size ≤ w6.heap.size := (by have h_ := x6.size; (try simp at h_); omega); have X6 := K.Ext.trans (X5) x6; obtain ⟨c6_0_0, c6_0_1⟩ := K.c2 x6 (w.heap.size) (.int .i64 f.1) (.int .i64 f.2) (by go_simp); have z6_0 : w.heap.size < w6.heap.size := World.block_lt_of_cell? w6 _ c6_0_0; have d6_0 : ¬ (w.heap.size = w6.heap.size) := (by omega); have e6_0 : ¬ (w6.heap.size = w.heap.size) := (by omega); obtain ⟨c6_1_0, c6_1_1⟩ := K.c2 x6 (w.heap.size + 1) (.int .i64 0) (.int .i64 0) (by go_simp); obtain ⟨f6_1_0, f6_1_1⟩ := K.f2 x6 (w.heap.size + 1) (by go_simp); have z6_1 : w.heap.size + 1 < w6.heap.size := World.block_lt_of_cell? w6 _ c6_1_0; have d6_1 : ¬ (w.heap.size + 1 = w6.heap.size) := (by omega); have e6_1 : ¬ (w6.heap.size = w.heap.size + 1) := (by omega); obtain ⟨c6_2_0, c6_2_1⟩ := K.c2 x6 (w.heap.size + 1 + 1) (.int .i64 0) (.int .i64 0) (by go_simp); obtain ⟨f6_2_0, f6_2_1⟩ := K.f2 x6 (w.heap.size + 1 + 1) (by go_simp); have z6_2 : w.heap.size + 1 + 1 < w6.heap.size := World.block_lt_of_cell? w6 _ c6_2_0; have d6_2 : ¬ (w.heap.size + 1 + 1 = w6.heap.size) := (by omega); have e6_2 : ¬ (w6.heap.size = w.heap.size + 1 + 1) := (by omega); clear c5_0_0 c5_0_1 z5_0 d5_0 e5_0 c5_1_0 c5_1_1 f5_1_0 f5_1_1 z5_1 d5_1 e5_1 c5_2_0 c5_2_1 f5_2_0 f5_2_1 z5_2 d5_2 e5_2)
  refine bodyPost_ret (v := .tuple #[.agg #[.int .i64 S.1.1, .int .i64 S.1.2], .agg #[.int .i64 S.2.1.1, .int .i64 S.2.1.2], .int .i64 S.2.2]) (by unfold results; rw [Tryz.results72]; go_simp) rfl ⟨rfl, ?_⟩
  repeat with_reducible refine K.Ext.setCell ?_ (by dsimp only; omega) _
  exact (by repeat' (first | with_reducible exact X6 | with_reducible refine K.Ext.setCell ?_ ?_ _ | with_reducible refine K.Ext.alloc ?_ _ | with_reducible refine K.Ext.drew ?_ | (dsimp only; omega) | omega | (simp; omega)))
theorem l01Is_true (n : Int)  (w : World) (h1 : -1000000000000 ≤ n) (h2 : n ≤ 1000000000000)  :
    Calls Tryz.prog 142 #[.int .i64 n] w fun e w' => e = .returned (.bool true) ∧ K.Ext w w' := by
  have HW : ∀ w : World, Calls Tryz.prog 87 #[.int .i64 n, .int .i64 (-1000000000000), .int .i64 1000000000000] w fun e w' => e = .returned (.bool true) ∧ w = w' := fun w => by
    have h_ := l01In_any n (-1000000000000) 1000000000000 w
    rwa [show (decide (-1000000000000 ≤ n) && decide (n ≤ 1000000000000)) = true by simp; omega] at h_
  have X0 : K.Ext w w := K.Ext.refl w
  go_enter Tryz.func142, Tryz.ntmps142
  go_wp2_with (go_at_call 87; refine K.call (by with_reducible rfl) (by with_reducible rfl) (HW _) ?_; rintro e w_ ⟨rfl, rfl⟩)
  refine bodyPost_ret (v := .bool true) (by unfold results; rw [Tryz.results142]; go_simp) rfl ⟨rfl, ?_⟩
  repeat with_reducible refine K.Ext.setCell ?_ (by dsimp only; omega) _
  exact (by repeat' (first | with_reducible exact X0 | with_reducible refine K.Ext.setCell ?_ ?_ _ | with_reducible refine K.Ext.alloc ?_ _ | with_reducible refine K.Ext.drew ?_ | (dsimp only; omega) | omega | (simp; omega)))
theorem specInterval_true (a : Int × Int)  (w : World) (h1 : -1000000000000 ≤ a.1) (h2 : a.1 ≤ a.2) (h3 : a.2 ≤ 1000000000000)  :
    Calls Tryz.prog 125 #[.agg #[.int .i64 a.1, .int .i64 a.2]] w fun e w' => e = .returned (.bool true) ∧ K.Ext w w' := by
  have HA := Z.hide (fun w => l01Is_true a.1 w h1 (by omega))
  have HB := Z.hide (fun w => l01Is_true a.2 w (by omega) h3)
  have X0 : K.Ext w w := K.Ext.refl w
  go_enter Tryz.func125, Tryz.ntmps125
  go_wp2_with (go_at_call 142; refine K.call (by with_reducible rfl) (by with_reducible rfl) (HA.out _) ?_; rintro e w1 ⟨rfl, x1⟩; have s1 : w.heap.size + 1 ≤ w1.heap.size := (by have h_ := x1.size; (try simp at h_); omega); have X1 := K.Ext.trans (K.Ext.alloc X0 _) x1; obtain ⟨c1_0_0, c1_0_1⟩ := K.c2 x1 (w.heap.size) (.int .i64 a.1) (.int .i64 a.2) (by go_simp); have z1_0 : w.heap.size < w1.heap.size := World.block_lt_of_cell? w1 _ c1_0_0; have d1_0 : ¬ (w.heap.size = w1.heap.size) := (by omega); have e1_0 : ¬ (w1.heap.size = w.heap.size) := (by omega))
  go_wp2_with (go_at_call 142; refine K.call (by with_reducible rfl) (by with_reducible rfl) (HB.out _) ?_; rintro e w2 ⟨rfl, x2⟩; have s2 : w1.heap.size ≤ w2.heap.size := (by have h_ := x2.size; (try simp at h_); omega); have X2 := K.Ext.trans (X1) x2; obtain ⟨c2_0_0, c2_0_1⟩ := K.c2 x2 (w.heap.size) (.int .i64 a.1) (.int .i64 a.2) (by go_simp); have z2_0 : w.heap.size < w2.heap.size := World.block_lt_of_cell? w2 _ c2_0_0; have d2_0 : ¬ (w.heap.size = w2.heap.size) := (by omega); have e2_0 : ¬ (w2.heap.size = w.heap.size) := (by omega); clear c1_0_0 c1_0_1 z1_0 d1_0 e1_0)
  refine bodyPost_ret (v := .bool true) (by unfold results; rw [Tryz.results125]; go_simp) rfl ⟨rfl, ?_⟩
  repeat with_reducible refine K.Ext.setCell ?_ (by dsimp only; omega) _
  exact (by repeat' (first | with_reducible exact X2 | with_reducible refine K.Ext.setCell ?_ ?_ _ | with_reducible refine K.Ext.alloc ?_ _ | with_reducible refine K.Ext.drew ?_ | (dsimp only; omega) | omega | (simp; omega)))
theorem l03Result_ok (a : Int × Int)  (w : World) (h1 : -1000000000000 ≤ a.1) (h2 : a.1 ≤ a.2) (h3 : a.2 ≤ 1000000000000)  :
    Calls Tryz.prog 126 #[.agg #[.int .i64 a.1, .int .i64 a.2]] w fun e w' => e = .returned (.tuple #[.agg #[.int .i64 ((a, (0 : Int)).1).1, .int .i64 ((a, (0 : Int)).1).2], .int .i64 ((a, (0 : Int)).2)]) ∧ K.Ext w w' := by
  have HA := Z.hide (fun w => specInterval_true a w h1 h2 h3)
  have X0 : K.Ext w w := K.Ext.refl w
  go_enter Tryz.func126, Tryz.ntmps126
  go_wp2_with (go_at_call 125; refine K.call (by with_reducible rfl) (by with_reducible rfl) (HA.out _) ?_; rintro e w1 ⟨rfl, x1⟩; have s1 : w.heap.size + 2 ≤ w1.heap.size := (by have h_ := x1.size; (try simp at h_); omega); have X1 := K.Ext.trans (K.Ext.alloc (K.Ext.alloc X0 _) _) x1; obtain ⟨c1_0_0, c1_0_1⟩ := K.c2 x1 (w.heap.size) (.int .i64 a.1) (.int .i64 a.2) (by go_simp); have z1_0 : w.heap.size < w1.heap.size := World.block_lt_of_cell? w1 _ c1_0_0; have d1_0 : ¬ (w.heap.size = w1.heap.size) := (by omega); have e1_0 : ¬ (w1.heap.size = w.heap.size) := (by omega); obtain ⟨c1_1_0, c1_1_1⟩ := K.c2 x1 (w.heap.size + 1) (.int .i64 0) (.int .i64 0) (by go_simp); obtain ⟨f1_1_0, f1_1_1⟩ := K.f2 x1 (w.heap.size + 1) (by go_simp); have z1_1 : w.heap.size + 1 < w1.heap.size := World.block_lt_of_cell? w1 _ c1_1_0; have d1_1 : ¬ (w.heap.size + 1 = w1.heap.size) := (by omega); have e1_1 : ¬ (w1.heap.size = w.heap.size + 1) := (by omega); have n1_0 : ¬ (w.heap.size + 1 = w.heap.size) := (by omega); have n0_1 : ¬ (w.heap.size = w.heap.size + 1) := (by omega))
  refine bodyPost_ret (v := .tuple #[.agg #[.int .i64 a.1, .int .i64 a.2], .int .i64 0]) (by unfold results; rw [Tryz.results126]; go_simp) rfl ⟨rfl, ?_⟩
  repeat with_reducible refine K.Ext.setCell ?_ (by dsimp only; omega) _
  exact (by repeat' (first | with_reducible exact X1 | with_reducible refine K.Ext.setCell ?_ ?_ _ | with_reducible refine K.Ext.alloc ?_ _ | with_reducible refine K.Ext.drew ?_ | (dsimp only; omega) | omega | (simp; omega)))
theorem ScaleLog_ok (a : Int × Int) (n : Int) (d : Int)  (w : World) (h1 : -70000000 ≤ a.1) (h2 : a.1 ≤ a.2) (h3 : a.2 ≤ 70000000) (hn : -3 ≤ n ∧ n ≤ 3) (hd : 1 ≤ d ∧ d ≤ 3) (hb : (-130000000000 ≤ (Z.scaleD a n d).1 ∧ (Z.scaleD a n d).1 ≤ 130000000000) ∧ (-130000000000 ≤ (Z.scaleD a n d).2 ∧ (Z.scaleD a n d).2 ≤ 130000000000))  :
    Calls Tryz.prog 98 #[.agg #[.int .i64 a.1, .int .i64 a.2], .int .i64 n, .int .i64 d] w fun e w' => e = .returned (.tuple #[.agg #[.int .i64 ((Z.scaleD a n d, (0 : Int)).1).1, .int .i64 ((Z.scaleD a n d, (0 : Int)).1).2], .int .i64 ((Z.scaleD a n d, (0 : Int)).2)]) ∧ K.Ext w w' := by
  have HA := Z.hide (fun w => specInterval_true a w (by omega) h2 (by omega))
  have HW1 : Hid (∀ w : World, Calls Tryz.prog 87 #[.int .i64 n, .int .i64 (-12), .int .i64 12] w fun e w' => e = .returned (.bool true) ∧ w = w') := Z.hide (fun w => by
    have h_ := l01In_any n (-12) 12 w
    rwa [show (decide (-12 ≤ n) && decide (n ≤ 12)) = true by simp; omega] at h_)
  have HW2 : Hid (∀ w : World, Calls Tryz.prog 87 #[.int .i64 d, .int .i64 1, .int .i64 12] w fun e w' => e = .returned (.bool true) ∧ w = w') := Z.hide (fun w => by
    have h_ := l01In_any d 1 12 w
    rwa [show (decide (1 ≤ d) && decide (d ≤ 12)) = true by simp; omega] at h_)
  have HS := Z.hide (fun w => l03ScaleD_any a n d w ⟨by omega, by omega⟩ ⟨by omega, by omega⟩ ⟨by omega, by omega⟩ (by omega) ⟨by omega, by omega⟩)
  have sle := Z.scaleD_le (a := a) (n := n) (d := d) (by omega)
  generalize Z.scaleD a n d = sc at *
  have HR := Z.hide (fun w => l03Result_ok sc w (by omega) sle (by omega))
  clear hn hd hb sle
  have X0 : K.Ext w w := K.Ext.refl w
  go_enter Tryz.func98, Tryz.ntmps98
  go_wp2_with (go_at_call 125; refine K.call (by with_reducible rfl) (by with_reducible rfl) (HA.out _) ?_; rintro e w1 ⟨rfl, x1⟩; have s1 : w.heap.size + 2 ≤ w1.heap.size := (by have h_ := x1.size; (try simp at h_); omega); have X1 := K.Ext.trans (K.Ext.alloc (K.Ext.alloc X0 _) _) x1; obtain ⟨c1_0_0, c1_0_1⟩ := K.c2 x1 (w.heap.size) (.int .i64 a.1) (.int .i64 a.2) (by go_simp); have z1_0 : w.heap.size < w1.heap.size := World.block_lt_of_cell? w1 _ c1_0_0; have d1_0 : ¬ (w.heap.size = w1.heap.size) := (by omega); have e1_0 : ¬ (w1.heap.size = w.heap.size) := (by omega); obtain ⟨c1_1_0, c1_1_1⟩ := K.c2 x1 (w.heap.size + 1) (.int .i64 0) (.int .i64 0) (by go_simp); obtain ⟨f1_1_0, f1_1_1⟩ := K.f2 x1 (w.heap.size + 1) (by go_simp); have z1_1 : w.heap.size + 1 < w1.heap.size := World.block_lt_of_cell? w1 _ c1_1_0; have d1_1 : ¬ (w.heap.size + 1 = w1.heap.size) := (by omega); have e1_1 : ¬ (w1.heap.size = w.heap.size + 1) := (by omega); have n1_0 : ¬ (w.heap.size + 1 = w.heap.size) := (by omega); have n0_1 : ¬ (w.heap.size = w.heap.size + 1) := (by omega))
  go_wp2_with (go_at_call 87; refine K.call (by with_reducible rfl) (by with_reducible rfl) (HW1.out _) ?_; rintro e w_ ⟨rfl, rfl⟩)
  go_wp2_with (go_at_call 87; refine K.call (by with_reducible rfl) (by with_reducible rfl) (HW2.out _) ?_; rintro e w_ ⟨rfl, rfl⟩)
  go_wp2_with (go_at_call 66; refine K.call (by with_reducible rfl) (by with_reducible rfl) (HS.out _) ?_; rintro e w4 ⟨rfl, x4⟩; have s4 : w1.heap.size ≤ w4.heap.size := (by have h_ := x4.size; (try simp at h_); omega); have X4 := K.Ext.trans (X1) x4; obtain ⟨c4_0_0, c4_0_1⟩ := K.c2 x4 (w.heap.size) (.int .i64 a.1) (.int .i64 a.2) (by go_simp); have z4_0 : w.heap.size < w4.heap.size := World.block_lt_of_cell? w4 _ c4_0_0; have d4_0 : ¬ (w.heap.size = w4.heap.size) := (by omega); have e4_0 : ¬ (w4.heap.size = w.heap.size) := (by omega); obtain ⟨c4_1_0, c4_1_1⟩ := K.c2 x4 (w.heap.size + 1) (.int .i64 0) (.int .i64 0) (by go_simp); obtain ⟨f4_1_0, f4_1_1⟩ := K.f2 x4 (w.heap.size + 1) (by go_simp); have z4_1 : w.heap.size + 1 < w4.heap.size := World.block_lt_of_cell? w4 _ c4_1_0; have d4_1 : ¬ (w.heap.size + 1 = w4.heap.size) := (by omega); have e4_1 : ¬ (w4.heap.size = w.heap.size + 1) := (by omega); clear c1_0_0 c1_0_1 z1_0 d1_0 e1_0 c1_1_0 c1_1_1 f1_1_0 f1_1_1 z1_1 d1_1 e1_1)
  go_wp2_with (go_at_call 126; refine K.call (by with_reducible rfl) (by with_reducible rfl) (HR.out _) ?_; rintro e w5 ⟨rfl, x5⟩; have s5 : w4.heap.size ≤ w5.heap.size := (by have h_ := x5.size; (try simp at h_); omega); have X5 := K.Ext.trans (X4) x5; obtain ⟨c5_0_0, c5_0_1⟩ := K.c2 x5 (w.heap.size) (.int .i64 a.1) (.int .i64 a.2) (by go_simp); have z5_0 : w.heap.size < w5.heap.size := World.block_lt_of_cell? w5 _ c5_0_0; have d5_0 : ¬ (w.heap.size = w5.heap.size) := (by omega); have e5_0 : ¬ (w5.heap.size = w.heap.size) := (by omega); obtain ⟨c5_1_0, c5_1_1⟩ := K.c2 x5 (w.heap.size + 1) (.int .i64 0) (.int .i64 0) (by go_simp); obtain ⟨f5_1_0, f5_1_1⟩ := K.f2 x5 (w.heap.size + 1) (by go_simp); have z5_1 : w.heap.size + 1 < w5.heap.size := World.block_lt_of_cell? w5 _ c5_1_0; have d5_1 : ¬ (w.heap.size + 1 = w5.heap.size) := (by omega); have e5_1 : ¬ (w5.heap.size = w.heap.size + 1) := (by omega); clear c4_0_0 c4_0_1 z4_0 d4_0 e4_0 c4_1_0 c4_1_1 f4_1_0 f4_1_1 z4_1 d4_1 e4_1)
  refine bodyPost_ret (v := .tuple #[.agg #[.int .i64 ((sc, (0 : Int)).1).1, .int .i64 ((sc, (0 : Int)).1).2], .int .i64 ((sc, (0 : Int)).2)]) (by unfold results; rw [Tryz.results98]; go_simp) rfl ⟨rfl, ?_⟩
  repeat with_reducible refine K.Ext.setCell ?_ (by dsimp only; omega) _
  exact (by repeat' (first | with_reducible exact X5 | with_reducible refine K.Ext.setCell ?_ ?_ _ | with_reducible refine K.Ext.alloc ?_ _ | with_reducible refine K.Ext.drew ?_ | (dsimp only; omega) | omega | (simp; omega)))
set_option maxHeartbeats 1600000 in
theorem spec_PowerSpan (f : Int × Int) (n : Int) (d : Int)  (w : World) (hf : Z.isFig f.1 f.2 = true) (hn : -3 ≤ n ∧ n ≤ 3) (hd : 1 ≤ d ∧ d ≤ 3) (S : (Int × Int) × (Int × Int) × Int) (hS : Hid (Z.spanOf (Z.scaleD (Z.figLog f) n d) = S))  :
    Calls Tryz.prog 73 #[.agg #[.int .i64 f.1, .int .i64 f.2], .int .i64 n, .int .i64 d] w fun e w' => e = .returned (.tuple #[.agg #[.int .i64 S.1.1, .int .i64 S.1.2], .agg #[.int .i64 S.2.1.1, .int .i64 S.2.1.2], .int .i64 S.2.2]) ∧ K.Ext w w' := by
  have HG : Hid (∀ w' : World, Calls Tryz.prog 52 #[.agg #[.int .i64 f.1, .int .i64 f.2]] w' fun e w'' => e = .returned (.bool true) ∧ K.Ext w' w'') := Z.hide (fun w' => by rw [← hf]; exact spec_IsFigure f.1 f.2 w')
  obtain ⟨⟨f1, f2⟩, f3, f4⟩ := Z.isFig_parts hf
  have HL := Z.hide (fun w => l03Figure_any f w hf)
  have lb := Z.figLog_lq f1 f2
  generalize Z.figLog f = l at *
  have sb := Z.scaleD_bd (a := l) (n := n) (d := d) ⟨by omega, by omega⟩ ⟨by omega, by omega⟩ hn (by omega)
  have HS := Z.hide (fun w => ScaleLog_ok l n d w (by omega) (by omega) (by omega) hn hd ⟨⟨by omega, by omega⟩, by omega, by omega⟩)
  generalize Z.scaleD l n d = sc at *
  have HP := Z.hide (fun w => l04Span_any sc w S hS)
  clear hS hf lb hn hd sb
  have X0 : K.Ext w w := K.Ext.refl w
  go_enter Tryz.func73, Tryz.ntmps73
  go_wp2_with (go_at_call 52; refine K.call (by with_reducible rfl) (by with_reducible rfl) (HG.out _) ?_; rintro e w1 ⟨rfl, x1⟩; have s1 : w.heap.size + 3 ≤ w1.heap.size := (by have h_ := x1.size; (try simp at h_); omega); have X1 := K.Ext.trans (K.Ext.alloc (K.Ext.alloc (K.Ext.alloc X0 _) _) _) x1; obtain ⟨c1_0_0, c1_0_1⟩ := K.c2 x1 (w.heap.size) (.int .i64 f.1) (.int .i64 f.2) (by go_simp); have z1_0 : w.heap.size < w1.heap.size := World.block_lt_of_cell? w1 _ c1_0_0; have d1_0 : ¬ (w.heap.size = w1.heap.size) := (by omega); have e1_0 : ¬ (w1.heap.size = w.heap.size) := (by omega); obtain ⟨c1_1_0, c1_1_1⟩ := K.c2 x1 (w.heap.size + 1) (.int .i64 0) (.int .i64 0) (by go_simp); obtain ⟨f1_1_0, f1_1_1⟩ := K.f2 x1 (w.heap.size + 1) (by go_simp); have z1_1 : w.heap.size + 1 < w1.heap.size := World.block_lt_of_cell? w1 _ c1_1_0; have d1_1 : ¬ (w.heap.size + 1 = w1.heap.size) := (by omega); have e1_1 : ¬ (w1.heap.size = w.heap.size + 1) := (by omega); have n1_0 : ¬ (w.heap.size + 1 = w.heap.size) := (by omega); have n0_1 : ¬ (w.heap.size = w.heap.size + 1) := (by omega); obtain ⟨c1_2_0, c1_2_1⟩ := K.c2 x1 (w.heap.size + 1 + 1) (.int .i64 0) (.int .i64 0) (by go_simp); obtain ⟨f1_2_0, f1_2_1⟩ := K.f2 x1 (w.heap.size + 1 + 1) (by go_simp); have z1_2 : w.heap.size + 1 + 1 < w1.heap.size := World.block_lt_of_cell? w1 _ c1_2_0; have d1_2 : ¬ (w.heap.size + 1 + 1 = w1.heap.size) := (by omega); have e1_2 : ¬ (w1.heap.size = w.heap.size + 1 + 1) := (by omega); have n2_0 : ¬ (w.heap.size + 1 + 1 = w.heap.size) := (by omega); have n0_2 : ¬ (w.heap.size = w.heap.size + 1 + 1) := (by omega); have n2_1 : ¬ (w.heap.size + 1 + 1 = w.heap.size + 1) := (by omega); have n1_2 : ¬ (w.heap.size + 1 = w.heap.size + 1 + 1) := (by omega))
  go_wp2_with (go_at_call 67; refine K.call (by with_reducible rfl) (by with_reducible rfl) (HL.out _) ?_; rintro e w2 ⟨rfl, x2⟩; have s2 : w1.heap.size ≤ w2.heap.size := (by have h_ := x2.size; (try simp at h_); omega); have X2 := K.Ext.trans (X1) x2; obtain ⟨c2_0_0, c2_0_1⟩ := K.c2 x2 (w.heap.size) (.int .i64 f.1) (.int .i64 f.2) (by go_simp); have z2_0 : w.heap.size < w2.heap.size := World.block_lt_of_cell? w2 _ c2_0_0; have d2_0 : ¬ (w.heap.size = w2.heap.size) := (by omega); have e2_0 : ¬ (w2.heap.size = w.heap.size) := (by omega); obtain ⟨c2_1_0, c2_1_1⟩ := K.c2 x2 (w.heap.size + 1) (.int .i64 0) (.int .i64 0) (by go_simp); obtain ⟨f2_1_0, f2_1_1⟩ := K.f2 x2 (w.heap.size + 1) (by go_simp); have z2_1 : w.heap.size + 1 < w2.heap.size := World.block_lt_of_cell? w2 _ c2_1_0; have d2_1 : ¬ (w.heap.size + 1 = w2.heap.size) := (by omega); have e2_1 : ¬ (w2.heap.size = w.heap.size + 1) := (by omega); obtain ⟨c2_2_0, c2_2_1⟩ := K.c2 x2 (w.heap.size + 1 + 1) (.int .i64 0) (.int .i64 0) (by go_simp); obtain ⟨f2_2_0, f2_2_1⟩ := K.f2 x2 (w.heap.size + 1 + 1) (by go_simp); have z2_2 : w.heap.size + 1 + 1 < w2.heap.size := World.block_lt_of_cell? w2 _ c2_2_0; have d2_2 : ¬ (w.heap.size + 1 + 1 = w2.heap.size) := (by omega); have e2_2 : ¬ (w2.heap.size = w.heap.size + 1 + 1) := (by omega); clear c1_0_0 c1_0_1 z1_0 d1_0 e1_0 c1_1_0 c1_1_1 f1_1_0 f1_1_1 z1_1 d1_1 e1_1 c1_2_0 c1_2_1 f1_2_0 f1_2_1 z1_2 d1_2 e1_2)
  go_wp2_with (go_at_call 98; refine K.call (by with_reducible rfl) (by with_reducible rfl) (HS.out _) ?_; rintro e w3 ⟨rfl, x3⟩; have s3 : w2.heap.size ≤ w3.heap.size := (by have h_ := x3.size; (try simp at h_); omega); have X3 := K.Ext.trans (X2) x3; obtain ⟨c3_0_0, c3_0_1⟩ := K.c2 x3 (w.heap.size) (.int .i64 f.1) (.int .i64 f.2) (by go_simp); have z3_0 : w.heap.size < w3.heap.size := World.block_lt_of_cell? w3 _ c3_0_0; have d3_0 : ¬ (w.heap.size = w3.heap.size) := (by omega); have e3_0 : ¬ (w3.heap.size = w.heap.size) := (by omega); obtain ⟨c3_1_0, c3_1_1⟩ := K.c2 x3 (w.heap.size + 1) (.int .i64 0) (.int .i64 0) (by go_simp); obtain ⟨f3_1_0, f3_1_1⟩ := K.f2 x3 (w.heap.size + 1) (by go_simp); have z3_1 : w.heap.size + 1 < w3.heap.size := World.block_lt_of_cell? w3 _ c3_1_0; have d3_1 : ¬ (w.heap.size + 1 = w3.heap.size) := (by omega); have e3_1 : ¬ (w3.heap.size = w.heap.size + 1) := (by omega); obtain ⟨c3_2_0, c3_2_1⟩ := K.c2 x3 (w.heap.size + 1 + 1) (.int .i64 0) (.int .i64 0) (by go_simp); obtain ⟨f3_2_0, f3_2_1⟩ := K.f2 x3 (w.heap.size + 1 + 1) (by go_simp); have z3_2 : w.heap.size + 1 + 1 < w3.heap.size := World.block_lt_of_cell? w3 _ c3_2_0; have d3_2 : ¬ (w.heap.size + 1 + 1 = w3.heap.size) := (by omega); have e3_2 : ¬ (w3.heap.size = w.heap.size + 1 + 1) := (by omega); clear c2_0_0 c2_0_1 z2_0 d2_0 e2_0 c2_1_0 c2_1_1 f2_1_0 f2_1_1 z2_1 d2_1 e2_1 c2_2_0 c2_2_1 f2_2_0 f2_2_1 z2_2 d2_2 e2_2)
  go_wp2_with (go_at_call 99; refine K.call (by with_reducible rfl) (by with_reducible rfl) (HP.out _) ?_; rintro e w4 ⟨rfl, x4⟩; have s4 : w3.heap.size + 1 ≤ w4.heap.size := (by have h_ := x4.size; (try simp at h_); omega); have X4 := K.Ext.trans (K.Ext.alloc X3 _) x4; obtain ⟨c4_0_0, c4_0_1⟩ := K.c2 x4 (w.heap.size) (.int .i64 f.1) (.int .i64 f.2) (by go_simp); have z4_0 : w.heap.size < w4.heap.size := World.block_lt_of_cell? w4 _ c4_0_0; have d4_0 : ¬ (w.heap.size = w4.heap.size) := (by omega); have e4_0 : ¬ (w4.heap.size = w.heap.size) := (by omega); obtain ⟨c4_1_0, c4_1_1⟩ := K.c2 x4 (w.heap.size + 1) (.int .i64 0) (.int .i64 0) (by go_simp); obtain ⟨f4_1_0, f4_1_1⟩ := K.f2 x4 (w.heap.size + 1) (by go_simp); have z4_1 : w.heap.size + 1 < w4.heap.size := World.block_lt_of_cell? w4 _ c4_1_0; have d4_1 : ¬ (w.heap.size + 1 = w4.heap.size) := (by omega); have e4_1 : ¬ (w4.heap.size = w.heap.size + 1) := (by omega); obtain ⟨c4_2_0, c4_2_1⟩ := K.c2 x4 (w.heap.size + 1 + 1) (.int .i64 0) (.int .i64 0) (by go_simp); obtain ⟨f4_2_0, f4_2_1⟩ := K.f2 x4 (w.heap.size + 1 + 1) (by go_simp); have z4_2 : w.heap.size + 1 + 1 < w4.heap.size := World.block_lt_of_cell? w4 _ c4_2_0; have d4_2 : ¬ (w.heap.size + 1 + 1 = w4.heap.size) := (by omega); have e4_2 : ¬ (w4.heap.size = w.heap.size + 1 + 1) := (by omega); obtain ⟨c4_3_0, c4_3_1⟩ := K.c2 x4 (w3.heap.size) (.int .i64 ((sc, (0 : Int)).1).1) (.int .i64 ((sc, (0 : Int)).1).2) (by go_simp); obtain ⟨f4_3_0, f4_3_1⟩ := K.f2 x4 (w3.heap.size) (by go_simp); have z4_3 : w3.heap.size < w4.heap.size := World.block_lt_of_cell? w4 _ c4_3_0; have d4_3 : ¬ (w3.heap.size = w4.heap.size) := (by omega); have e4_3 : ¬ (w4.heap.size = w3.heap.size) := (by omega); have n3_0 : ¬ (w3.heap.size = w.heap.size) := (by omega); have n0_3 : ¬ (w.heap.size = w3.heap.size) := (by omega); have n3_1 : ¬ (w3.heap.size = w.heap.size + 1) := (by omega); have n1_3 : ¬ (w.heap.size + 1 = w3.heap.size) := (by omega); have n3_2 : ¬ (w3.heap.size = w.heap.size + 1 + 1) := (by omega); have n2_3 : ¬ (w.heap.size + 1 + 1 = w3.heap.size) := (by omega); clear c3_0_0 c3_0_1 z3_0 d3_0 e3_0 c3_1_0 c3_1_1 f3_1_0 f3_1_1 z3_1 d3_1 e3_1 c3_2_0 c3_2_1 f3_2_0 f3_2_1 z3_2 d3_2 e3_2)
  refine bodyPost_ret (v := .tuple #[.agg #[.int .i64 S.1.1, .int .i64 S.1.2], .agg #[.int .i64 S.2.1.1, .int .i64 S.2.1.2], .int .i64 S.2.2]) (by unfold results; rw [Tryz.results73]; go_simp) rfl ⟨rfl, ?_⟩
  repeat with_reducible refine K.Ext.setCell ?_ (by dsimp only; omega) _
  exact (by repeat' (first | with_reducible exact X4 | with_reducible refine K.Ext.setCell ?_ ?_ _ | with_reducible refine K.Ext.alloc ?_ _ | with_reducible refine K.Ext.drew ?_ | (dsimp only; omega) | omega | (simp; omega)))
end Go.Proofs.YtimpcelbekhipaaGreat
end
section
namespace Go.Proofs.YtimpcelbekhipaaGreat
open Go.RowKit
set_option maxHeartbeats 1600000 in
theorem impl_TransferExact (fr : Int) (to : Int) (f : Int × Int)  (w : World)   :
    Calls Tryz.prog 34 #[.int .i64 fr, .int .i64 to, .agg #[.int .i64 f.1, .int .i64 f.2]] w fun e w' => e = .returned (.tuple #[.agg #[.int .i64 ((Z.xpO fr to f).1).1, .int .i64 ((Z.xpO fr to f).1).2], .agg #[.int .i64 ((Z.xpO fr to f).2.1).1, .int .i64 ((Z.xpO fr to f).2.1).2], .int .i64 ((Z.xpO fr to f).2.2)]) ∧ K.Ext w w' := by
  have HM : Hid (Z.xpO fr to f = if Z.isFig f.1 f.2 = false then ((0, 0), (0, 0), 1) else if Z.ordS fr = 0 ∨ Z.ordS to = 0 then ((0, 0), (0, 0), 2) else Z.spanOf (Z.scaleD (Z.figLog f) (Z.powS fr to).1 (Z.powS fr to).2)) := Z.hide rfl
  obtain ⟨M, hM⟩ : ∃ M, Z.xpO fr to f = M := ⟨_, rfl⟩
  rw [hM] at HM ⊢
  clear hM
  have HG : Hid (∀ w' : World, Calls Tryz.prog 71 #[.agg #[.int .i64 f.1, .int .i64 f.2]] w' fun e w'' => e = .returned (.bool (Z.isFig f.1 f.2)) ∧ K.Ext w' w'') := Z.hide (fun w' => impl_IsFigure f.1 f.2 w')
  have HF := fun w => orderOf_any fr w
  have HT := fun w => orderOf_any to w
  cases hf : Z.isFig f.1 f.2
  · rw [hf] at HG
    rw [if_pos hf] at HM
    clear hf
    have X0 : K.Ext w w := K.Ext.refl w
    go_enter Tryz.func34, Tryz.ntmps34
    go_wp2_with (go_at_call 71; refine K.call (by with_reducible rfl) (by with_reducible rfl) (HG.out _) ?_; rintro e w1 ⟨rfl, x1⟩; have s1 : w.heap.size + 3 ≤ w1.heap.size := (by have h_ := x1.size; (try simp at h_); omega); have X1 := K.Ext.trans (K.Ext.alloc (K.Ext.alloc (K.Ext.alloc X0 _) _) _) x1; obtain ⟨c1_0_0, c1_0_1⟩ := K.c2 x1 (w.heap.size) (.int .i64 f.1) (.int .i64 f.2) (by go_simp); have z1_0 : w.heap.size < w1.heap.size := World.block_lt_of_cell? w1 _ c1_0_0; have d1_0 : ¬ (w.heap.size = w1.heap.size) := (by omega); have e1_0 : ¬ (w1.heap.size = w.heap.size) := (by omega); obtain ⟨c1_1_0, c1_1_1⟩ := K.c2 x1 (w.heap.size + 1) (.int .i64 0) (.int .i64 0) (by go_simp); obtain ⟨f1_1_0, f1_1_1⟩ := K.f2 x1 (w.heap.size + 1) (by go_simp); have z1_1 : w.heap.size + 1 < w1.heap.size := World.block_lt_of_cell? w1 _ c1_1_0; have d1_1 : ¬ (w.heap.size + 1 = w1.heap.size) := (by omega); have e1_1 : ¬ (w1.heap.size = w.heap.size + 1) := (by omega); have n1_0 : ¬ (w.heap.size + 1 = w.heap.size) := (by omega); have n0_1 : ¬ (w.heap.size = w.heap.size + 1) := (by omega); obtain ⟨c1_2_0, c1_2_1⟩ := K.c2 x1 (w.heap.size + 1 + 1) (.int .i64 0) (.int .i64 0) (by go_simp); obtain ⟨f1_2_0, f1_2_1⟩ := K.f2 x1 (w.heap.size + 1 + 1) (by go_simp); have z1_2 : w.heap.size + 1 + 1 < w1.heap.size := World.block_lt_of_cell? w1 _ c1_2_0; have d1_2 : ¬ (w.heap.size + 1 + 1 = w1.heap.size) := (by omega); have e1_2 : ¬ (w1.heap.size = w.heap.size + 1 + 1) := (by omega); have n2_0 : ¬ (w.heap.size + 1 + 1 = w.heap.size) := (by omega); have n0_2 : ¬ (w.heap.size = w.heap.size + 1 + 1) := (by omega); have n2_1 : ¬ (w.heap.size + 1 + 1 = w.heap.size + 1) := (by omega); have n1_2 : ¬ (w.heap.size + 1 = w.heap.size + 1 + 1) := (by omega))
    rw [HM.out]
    refine bodyPost_ret (v := .tuple #[.agg #[.int .i64 0, .int .i64 0], .agg #[.int .i64 0, .int .i64 0], .int .i64 1]) (by unfold results; rw [Tryz.results34]; go_simp) rfl ⟨rfl, ?_⟩
    repeat with_reducible refine K.Ext.setCell ?_ (by dsimp only; omega) _
    exact (by repeat' (first | with_reducible exact X1 | with_reducible refine K.Ext.setCell ?_ ?_ _ | with_reducible refine K.Ext.alloc ?_ _ | with_reducible refine K.Ext.drew ?_ | (dsimp only; omega) | omega | (simp; omega)))
  rw [hf] at HG
  rw [if_neg (by rw [hf]; decide)] at HM
  by_cases ha : Z.ordS fr = 0
  · rw [if_pos (.inl ha)] at HM
    rw [ha] at HF
    clear ha hf
    have X0 : K.Ext w w := K.Ext.refl w
    go_enter Tryz.func34, Tryz.ntmps34
    go_wp2_with (go_at_call 71; refine K.call (by with_reducible rfl) (by with_reducible rfl) (HG.out _) ?_; rintro e w1 ⟨rfl, x1⟩; have s1 : w.heap.size + 3 ≤ w1.heap.size := (by have h_ := x1.size; (try simp at h_); omega); have X1 : K.Ext w w1 := K.Ext.trans (by repeat' (first | with_reducible exact X0 | with_reducible refine K.Ext.setCell ?_ ?_ _ | with_reducible refine K.Ext.alloc ?_ _ | with_reducible refine K.Ext.drew ?_ | (dsimp only; omega) | omega | (simp; omega))) x1; obtain ⟨c1_0_0, c1_0_1⟩ := K.c2 x1 (w.heap.size) (.int .i64 f.1) (.int .i64 f.2) (by go_simp); have z1_0 : w.heap.size < w1.heap.size := World.block_lt_of_cell? w1 _ c1_0_0; have d1_0 : ¬ (w.heap.size = w1.heap.size) := (by omega); have e1_0 : ¬ (w1.heap.size = w.heap.size) := (by omega); obtain ⟨c1_1_0, c1_1_1⟩ := K.c2 x1 (w.heap.size + 1) (.int .i64 0) (.int .i64 0) (by go_simp); obtain ⟨f1_1_0, f1_1_1⟩ := K.f2 x1 (w.heap.size + 1) (by go_simp); have z1_1 : w.heap.size + 1 < w1.heap.size := World.block_lt_of_cell? w1 _ c1_1_0; have d1_1 : ¬ (w.heap.size + 1 = w1.heap.size) := (by omega); have e1_1 : ¬ (w1.heap.size = w.heap.size + 1) := (by omega); have n1_0 : ¬ (w.heap.size + 1 = w.heap.size) := (by omega); have n0_1 : ¬ (w.heap.size = w.heap.size + 1) := (by omega); obtain ⟨c1_2_0, c1_2_1⟩ := K.c2 x1 (w.heap.size + 1 + 1) (.int .i64 0) (.int .i64 0) (by go_simp); obtain ⟨f1_2_0, f1_2_1⟩ := K.f2 x1 (w.heap.size + 1 + 1) (by go_simp); have z1_2 : w.heap.size + 1 + 1 < w1.heap.size := World.block_lt_of_cell? w1 _ c1_2_0; have d1_2 : ¬ (w.heap.size + 1 + 1 = w1.heap.size) := (by omega); have e1_2 : ¬ (w1.heap.size = w.heap.size + 1 + 1) := (by omega); have n2_0 : ¬ (w.heap.size + 1 + 1 = w.heap.size) := (by omega); have n0_2 : ¬ (w.heap.size = w.heap.size + 1 + 1) := (by omega); have n2_1 : ¬ (w.heap.size + 1 + 1 = w.heap.size + 1) := (by omega); have n1_2 : ¬ (w.heap.size + 1 = w.heap.size + 1 + 1) := (by omega))
    go_wp2_with (go_at_call 58; refine K.call (by with_reducible rfl) (by with_reducible rfl) (HF _) ?_; rintro e w_ ⟨rfl, rfl⟩)
    rw [HM.out]
    refine bodyPost_ret (v := .tuple #[.agg #[.int .i64 0, .int .i64 0], .agg #[.int .i64 0, .int .i64 0], .int .i64 2]) (by unfold results; rw [Tryz.results34]; go_simp) rfl ⟨rfl, ?_⟩
    repeat with_reducible refine K.Ext.setCell ?_ (by dsimp only; omega) _
    exact (by repeat' (first | with_reducible exact X1 | with_reducible refine K.Ext.setCell ?_ ?_ _ | with_reducible refine K.Ext.alloc ?_ _ | with_reducible refine K.Ext.drew ?_ | (dsimp only; omega) | omega | (simp; omega)))
  have ha' : (Z.ordS fr == 0) = false := by simpa using ha
  by_cases hb : Z.ordS to = 0
  · rw [if_pos (.inr hb)] at HM
    rw [hb] at HT
    generalize Z.ordS fr = a at *
    clear hb hf
    have X0 : K.Ext w w := K.Ext.refl w
    go_enter Tryz.func34, Tryz.ntmps34
    go_wp2_with (go_at_call 71; refine K.call (by with_reducible rfl) (by with_reducible rfl) (HG.out _) ?_; rintro e w1 ⟨rfl, x1⟩; have s1 : w.heap.size + 3 ≤ w1.heap.size := (by have h_ := x1.size; (try simp at h_); omega); have X1 : K.Ext w w1 := K.Ext.trans (by repeat' (first | with_reducible exact X0 | with_reducible refine K.Ext.setCell ?_ ?_ _ | with_reducible refine K.Ext.alloc ?_ _ | with_reducible refine K.Ext.drew ?_ | (dsimp only; omega) | omega | (simp; omega))) x1; obtain ⟨c1_0_0, c1_0_1⟩ := K.c2 x1 (w.heap.size) (.int .i64 f.1) (.int .i64 f.2) (by go_simp); have z1_0 : w.heap.size < w1.heap.size := World.block_lt_of_cell? w1 _ c1_0_0; have d1_0 : ¬ (w.heap.size = w1.heap.size) := (by omega); have e1_0 : ¬ (w1.heap.size = w.heap.size) := (by omega); obtain ⟨c1_1_0, c1_1_1⟩ := K.c2 x1 (w.heap.size + 1) (.int .i64 0) (.int .i64 0) (by go_simp); obtain ⟨f1_1_0, f1_1_1⟩ := K.f2 x1 (w.heap.size + 1) (by go_simp); have z1_1 : w.heap.size + 1 < w1.heap.size := World.block_lt_of_cell? w1 _ c1_1_0; have d1_1 : ¬ (w.heap.size + 1 = w1.heap.size) := (by omega); have e1_1 : ¬ (w1.heap.size = w.heap.size + 1) := (by omega); have n1_0 : ¬ (w.heap.size + 1 = w.heap.size) := (by omega); have n0_1 : ¬ (w.heap.size = w.heap.size + 1) := (by omega); obtain ⟨c1_2_0, c1_2_1⟩ := K.c2 x1 (w.heap.size + 1 + 1) (.int .i64 0) (.int .i64 0) (by go_simp); obtain ⟨f1_2_0, f1_2_1⟩ := K.f2 x1 (w.heap.size + 1 + 1) (by go_simp); have z1_2 : w.heap.size + 1 + 1 < w1.heap.size := World.block_lt_of_cell? w1 _ c1_2_0; have d1_2 : ¬ (w.heap.size + 1 + 1 = w1.heap.size) := (by omega); have e1_2 : ¬ (w1.heap.size = w.heap.size + 1 + 1) := (by omega); have n2_0 : ¬ (w.heap.size + 1 + 1 = w.heap.size) := (by omega); have n0_2 : ¬ (w.heap.size = w.heap.size + 1 + 1) := (by omega); have n2_1 : ¬ (w.heap.size + 1 + 1 = w.heap.size + 1) := (by omega); have n1_2 : ¬ (w.heap.size + 1 = w.heap.size + 1 + 1) := (by omega))
    go_wp2_with (go_at_call 58; refine K.call (by with_reducible rfl) (by with_reducible rfl) (HF _) ?_; rintro e w_ ⟨rfl, rfl⟩)
    go_wp2_with (go_at_call 58; refine K.call (by with_reducible rfl) (by with_reducible rfl) (HT _) ?_; rintro e w_ ⟨rfl, rfl⟩)
    rw [HM.out]
    refine bodyPost_ret (v := .tuple #[.agg #[.int .i64 0, .int .i64 0], .agg #[.int .i64 0, .int .i64 0], .int .i64 2]) (by unfold results; rw [Tryz.results34]; go_simp) rfl ⟨rfl, ?_⟩
    repeat with_reducible refine K.Ext.setCell ?_ (by dsimp only; omega) _
    exact (by repeat' (first | with_reducible exact X1 | with_reducible refine K.Ext.setCell ?_ ?_ _ | with_reducible refine K.Ext.alloc ?_ _ | with_reducible refine K.Ext.drew ?_ | (dsimp only; omega) | omega | (simp; omega)))
  have hb' : (Z.ordS to == 0) = false := by simpa using hb
  rw [if_neg (by simp [ha, hb])] at HM
  have HP := fun w => exponent_any fr to w
  have pb := Z.pow_bd (to := to) ha
  generalize Z.powS fr to = pw at *
  obtain ⟨n, d⟩ := pw
  dsimp only at pb HP HM
  have HS := Z.hide (fun w => impl_PowerSpan f n d w hf pb.1 ⟨by omega, by omega⟩ M (Z.hide HM.out.symm))
  generalize Z.ordS fr = a at *
  generalize Z.ordS to = b at *
  clear HM ha hb hf pb
  have X0 : K.Ext w w := K.Ext.refl w
  go_enter Tryz.func34, Tryz.ntmps34
  go_wp2_with (go_at_call 71; refine K.call (by with_reducible rfl) (by with_reducible rfl) (HG.out _) ?_; rintro e w1 ⟨rfl, x1⟩; have s1 : w.heap.size + 3 ≤ w1.heap.size := (by have h_ := x1.size; (try simp at h_); omega); have X1 : K.Ext w w1 := K.Ext.trans (by repeat' (first | with_reducible exact X0 | with_reducible refine K.Ext.setCell ?_ ?_ _ | with_reducible refine K.Ext.alloc ?_ _ | with_reducible refine K.Ext.drew ?_ | (dsimp only; omega) | omega | (simp; omega))) x1; obtain ⟨c1_0_0, c1_0_1⟩ := K.c2 x1 (w.heap.size) (.int .i64 f.1) (.int .i64 f.2) (by go_simp); have z1_0 : w.heap.size < w1.heap.size := World.block_lt_of_cell? w1 _ c1_0_0; have d1_0 : ¬ (w.heap.size = w1.heap.size) := (by omega); have e1_0 : ¬ (w1.heap.size = w.heap.size) := (by omega); obtain ⟨c1_1_0, c1_1_1⟩ := K.c2 x1 (w.heap.size + 1) (.int .i64 0) (.int .i64 0) (by go_simp); obtain ⟨f1_1_0, f1_1_1⟩ := K.f2 x1 (w.heap.size + 1) (by go_simp); have z1_1 : w.heap.size + 1 < w1.heap.size := World.block_lt_of_cell? w1 _ c1_1_0; have d1_1 : ¬ (w.heap.size + 1 = w1.heap.size) := (by omega); have e1_1 : ¬ (w1.heap.size = w.heap.size + 1) := (by omega); have n1_0 : ¬ (w.heap.size + 1 = w.heap.size) := (by omega); have n0_1 : ¬ (w.heap.size = w.heap.size + 1) := (by omega); obtain ⟨c1_2_0, c1_2_1⟩ := K.c2 x1 (w.heap.size + 1 + 1) (.int .i64 0) (.int .i64 0) (by go_simp); obtain ⟨f1_2_0, f1_2_1⟩ := K.f2 x1 (w.heap.size + 1 + 1) (by go_simp); have z1_2 : w.heap.size + 1 + 1 < w1.heap.size := World.block_lt_of_cell? w1 _ c1_2_0; have d1_2 : ¬ (w.heap.size + 1 + 1 = w1.heap.size) := (by omega); have e1_2 : ¬ (w1.heap.size = w.heap.size + 1 + 1) := (by omega); have n2_0 : ¬ (w.heap.size + 1 + 1 = w.heap.size) := (by omega); have n0_2 : ¬ (w.heap.size = w.heap.size + 1 + 1) := (by omega); have n2_1 : ¬ (w.heap.size + 1 + 1 = w.heap.size + 1) := (by omega); have n1_2 : ¬ (w.heap.size + 1 = w.heap.size + 1 + 1) := (by omega))
  go_wp2_with (go_at_call 58; refine K.call (by with_reducible rfl) (by with_reducible rfl) (HF _) ?_; rintro e w_ ⟨rfl, rfl⟩)
  go_wp2_with (go_at_call 58; refine K.call (by with_reducible rfl) (by with_reducible rfl) (HT _) ?_; rintro e w_ ⟨rfl, rfl⟩)
  go_wp2_with (go_at_call 60; refine K.call (by with_reducible rfl) (by with_reducible rfl) (HP _) ?_; rintro e w4 ⟨rfl, x4⟩; have s4 : w1.heap.size ≤ w4.heap.size := (by have h_ := x4.size; (try simp at h_); omega); have X4 := K.Ext.trans (X1) x4; obtain ⟨c4_0_0, c4_0_1⟩ := K.c2 x4 (w.heap.size) (.int .i64 f.1) (.int .i64 f.2) (by go_simp); have z4_0 : w.heap.size < w4.heap.size := World.block_lt_of_cell? w4 _ c4_0_0; have d4_0 : ¬ (w.heap.size = w4.heap.size) := (by omega); have e4_0 : ¬ (w4.heap.size = w.heap.size) := (by omega); obtain ⟨c4_1_0, c4_1_1⟩ := K.c2 x4 (w.heap.size + 1) (.int .i64 0) (.int .i64 0) (by go_simp); obtain ⟨f4_1_0, f4_1_1⟩ := K.f2 x4 (w.heap.size + 1) (by go_simp); have z4_1 : w.heap.size + 1 < w4.heap.size := World.block_lt_of_cell? w4 _ c4_1_0; have d4_1 : ¬ (w.heap.size + 1 = w4.heap.size) := (by omega); have e4_1 : ¬ (w4.heap.size = w.heap.size + 1) := (by omega); obtain ⟨c4_2_0, c4_2_1⟩ := K.c2 x4 (w.heap.size + 1 + 1) (.int .i64 0) (.int .i64 0) (by go_simp); obtain ⟨f4_2_0, f4_2_1⟩ := K.f2 x4 (w.heap.size + 1 + 1) (by go_simp); have z4_2 : w.heap.size + 1 + 1 < w4.heap.size := World.block_lt_of_cell? w4 _ c4_2_0; have d4_2 : ¬ (w.heap.size + 1 + 1 = w4.heap.size) := (by omega); have e4_2 : ¬ (w4.heap.size = w.heap.size + 1 + 1) := (by omega); clear c1_0_0 c1_0_1 z1_0 d1_0 e1_0 c1_1_0 c1_1_1 f1_1_0 f1_1_1 z1_1 d1_1 e1_1 c1_2_0 c1_2_1 f1_2_0 f1_2_1 z1_2 d1_2 e1_2)
  go_wp2_with (go_at_call 72; refine K.call (by with_reducible rfl) (by with_reducible rfl) (HS.out _) ?_; rintro e w5 ⟨rfl, x5⟩; have s5 : w4.heap.size ≤ w5.heap.size := (by have h_ := x5.size; (try simp at h_); omega); have X5 := K.Ext.trans (X4) x5; obtain ⟨c5_0_0, c5_0_1⟩ := K.c2 x5 (w.heap.size) (.int .i64 f.1) (.int .i64 f.2) (by go_simp); have z5_0 : w.heap.size < w5.heap.size := World.block_lt_of_cell? w5 _ c5_0_0; have d5_0 : ¬ (w.heap.size = w5.heap.size) := (by omega); have e5_0 : ¬ (w5.heap.size = w.heap.size) := (by omega); obtain ⟨c5_1_0, c5_1_1⟩ := K.c2 x5 (w.heap.size + 1) (.int .i64 0) (.int .i64 0) (by go_simp); obtain ⟨f5_1_0, f5_1_1⟩ := K.f2 x5 (w.heap.size + 1) (by go_simp); have z5_1 : w.heap.size + 1 < w5.heap.size := World.block_lt_of_cell? w5 _ c5_1_0; have d5_1 : ¬ (w.heap.size + 1 = w5.heap.size) := (by omega); have e5_1 : ¬ (w5.heap.size = w.heap.size + 1) := (by omega); obtain ⟨c5_2_0, c5_2_1⟩ := K.c2 x5 (w.heap.size + 1 + 1) (.int .i64 0) (.int .i64 0) (by go_simp); obtain ⟨f5_2_0, f5_2_1⟩ := K.f2 x5 (w.heap.size + 1 + 1) (by go_simp); have z5_2 : w.heap.size + 1 + 1 < w5.heap.size := World.block_lt_of_cell? w5 _ c5_2_0; have d5_2 : ¬ (w.heap.size + 1 + 1 = w5.heap.size) := (by omega); have e5_2 : ¬ (w5.heap.size = w.heap.size + 1 + 1) := (by omega); clear c4_0_0 c4_0_1 z4_0 d4_0 e4_0 c4_1_0 c4_1_1 f4_1_0 f4_1_1 z4_1 d4_1 e4_1 c4_2_0 c4_2_1 f4_2_0 f4_2_1 z4_2 d4_2 e4_2)
  refine bodyPost_ret (v := .tuple #[.agg #[.int .i64 M.1.1, .int .i64 M.1.2], .agg #[.int .i64 M.2.1.1, .int .i64 M.2.1.2], .int .i64 M.2.2]) (by unfold results; rw [Tryz.results34]; go_simp) rfl ⟨rfl, ?_⟩
  repeat with_reducible refine K.Ext.setCell ?_ (by dsimp only; omega) _
  exact (by repeat' (first | with_reducible exact X5 | with_reducible refine K.Ext.setCell ?_ ?_ _ | with_reducible refine K.Ext.alloc ?_ _ | with_reducible refine K.Ext.drew ?_ | (dsimp only; omega) | omega | (simp; omega)))
set_option maxHeartbeats 1600000 in
theorem spec_TransferExact (fr : Int) (to : Int) (f : Int × Int)  (w : World)   :
    Calls Tryz.prog 35 #[.int .i64 fr, .int .i64 to, .agg #[.int .i64 f.1, .int .i64 f.2]] w fun e w' => e = .returned (.tuple #[.agg #[.int .i64 ((Z.xpO fr to f).1).1, .int .i64 ((Z.xpO fr to f).1).2], .agg #[.int .i64 ((Z.xpO fr to f).2.1).1, .int .i64 ((Z.xpO fr to f).2.1).2], .int .i64 ((Z.xpO fr to f).2.2)]) ∧ K.Ext w w' := by
  have HM : Hid (Z.xpO fr to f = if Z.isFig f.1 f.2 = false then ((0, 0), (0, 0), 1) else if Z.ordS fr = 0 ∨ Z.ordS to = 0 then ((0, 0), (0, 0), 2) else Z.spanOf (Z.scaleD (Z.figLog f) (Z.powS fr to).1 (Z.powS fr to).2)) := Z.hide rfl
  obtain ⟨M, hM⟩ : ∃ M, Z.xpO fr to f = M := ⟨_, rfl⟩
  rw [hM] at HM ⊢
  clear hM
  have HX := Z.hide (fun w => l17Exact_any fr to f w)
  have HC : Hid (Z.xCode fr to (Z.isFig f.1 f.2) = if Z.isFig f.1 f.2 = false then 1 else if Z.ordS fr = 0 ∨ Z.ordS to = 0 then 2 else 0) := Z.hide rfl
  cases hf : Z.isFig f.1 f.2
  · rw [if_pos hf] at HM
    rw [if_pos hf] at HC
    rw [HC.out] at HX
    clear hf HC
    have X0 : K.Ext w w := K.Ext.refl w
    go_enter Tryz.func35, Tryz.ntmps35
    go_wp2_with (go_at_call 64; refine K.call (by with_reducible rfl) (by with_reducible rfl) (HX.out _) ?_; rintro e w1 ⟨rfl, x1⟩; have s1 : w.heap.size + 3 ≤ w1.heap.size := (by have h_ := x1.size; (try simp at h_); omega); have X1 := K.Ext.trans (K.Ext.alloc (K.Ext.alloc (K.Ext.alloc X0 _) _) _) x1; obtain ⟨c1_0_0, c1_0_1⟩ := K.c2 x1 (w.heap.size) (.int .i64 f.1) (.int .i64 f.2) (by go_simp); have z1_0 : w.heap.size < w1.heap.size := World.block_lt_of_cell? w1 _ c1_0_0; have d1_0 : ¬ (w.heap.size = w1.heap.size) := (by omega); have e1_0 : ¬ (w1.heap.size = w.heap.size) := (by omega); obtain ⟨c1_1_0, c1_1_1⟩ := K.c2 x1 (w.heap.size + 1) (.int .i64 0) (.int .i64 0) (by go_simp); obtain ⟨f1_1_0, f1_1_1⟩ := K.f2 x1 (w.heap.size + 1) (by go_simp); have z1_1 : w.heap.size + 1 < w1.heap.size := World.block_lt_of_cell? w1 _ c1_1_0; have d1_1 : ¬ (w.heap.size + 1 = w1.heap.size) := (by omega); have e1_1 : ¬ (w1.heap.size = w.heap.size + 1) := (by omega); have n1_0 : ¬ (w.heap.size + 1 = w.heap.size) := (by omega); have n0_1 : ¬ (w.heap.size = w.heap.size + 1) := (by omega); obtain ⟨c1_2_0, c1_2_1⟩ := K.c2 x1 (w.heap.size + 1 + 1) (.int .i64 0) (.int .i64 0) (by go_simp); obtain ⟨f1_2_0, f1_2_1⟩ := K.f2 x1 (w.heap.size + 1 + 1) (by go_simp); have z1_2 : w.heap.size + 1 + 1 < w1.heap.size := World.block_lt_of_cell? w1 _ c1_2_0; have d1_2 : ¬ (w.heap.size + 1 + 1 = w1.heap.size) := (by omega); have e1_2 : ¬ (w1.heap.size = w.heap.size + 1 + 1) := (by omega); have n2_0 : ¬ (w.heap.size + 1 + 1 = w.heap.size) := (by omega); have n0_2 : ¬ (w.heap.size = w.heap.size + 1 + 1) := (by omega); have n2_1 : ¬ (w.heap.size + 1 + 1 = w.heap.size + 1) := (by omega); have n1_2 : ¬ (w.heap.size + 1 = w.heap.size + 1 + 1) := (by omega))
    rw [HM.out]
    refine bodyPost_ret (v := .tuple #[.agg #[.int .i64 0, .int .i64 0], .agg #[.int .i64 0, .int .i64 0], .int .i64 1]) (by unfold results; rw [Tryz.results35]; go_simp) rfl ⟨rfl, ?_⟩
    repeat with_reducible refine K.Ext.setCell ?_ (by dsimp only; omega) _
    exact (by repeat' (first | with_reducible exact X1 | with_reducible refine K.Ext.setCell ?_ ?_ _ | with_reducible refine K.Ext.alloc ?_ _ | with_reducible refine K.Ext.drew ?_ | (dsimp only; omega) | omega | (simp; omega)))
  rw [if_neg (by rw [hf]; decide)] at HM
  rw [if_neg (by rw [hf]; decide)] at HC
  by_cases hab : Z.ordS fr = 0 ∨ Z.ordS to = 0
  · rw [if_pos hab] at HM
    rw [if_pos hab] at HC
    rw [HC.out] at HX
    clear hab hf HC
    have X0 : K.Ext w w := K.Ext.refl w
    go_enter Tryz.func35, Tryz.ntmps35
    go_wp2_with (go_at_call 64; refine K.call (by with_reducible rfl) (by with_reducible rfl) (HX.out _) ?_; rintro e w1 ⟨rfl, x1⟩; have s1 : w.heap.size + 3 ≤ w1.heap.size := (by have h_ := x1.size; (try simp at h_); omega); have X1 : K.Ext w w1 := K.Ext.trans (by repeat' (first | with_reducible exact X0 | with_reducible refine K.Ext.setCell ?_ ?_ _ | with_reducible refine K.Ext.alloc ?_ _ | with_reducible refine K.Ext.drew ?_ | (dsimp only; omega) | omega | (simp; omega))) x1; obtain ⟨c1_0_0, c1_0_1⟩ := K.c2 x1 (w.heap.size) (.int .i64 f.1) (.int .i64 f.2) (by go_simp); have z1_0 : w.heap.size < w1.heap.size := World.block_lt_of_cell? w1 _ c1_0_0; have d1_0 : ¬ (w.heap.size = w1.heap.size) := (by omega); have e1_0 : ¬ (w1.heap.size = w.heap.size) := (by omega); obtain ⟨c1_1_0, c1_1_1⟩ := K.c2 x1 (w.heap.size + 1) (.int .i64 0) (.int .i64 0) (by go_simp); obtain ⟨f1_1_0, f1_1_1⟩ := K.f2 x1 (w.heap.size + 1) (by go_simp); have z1_1 : w.heap.size + 1 < w1.heap.size := World.block_lt_of_cell? w1 _ c1_1_0; have d1_1 : ¬ (w.heap.size + 1 = w1.heap.size) := (by omega); have e1_1 : ¬ (w1.heap.size = w.heap.size + 1) := (by omega); have n1_0 : ¬ (w.heap.size + 1 = w.heap.size) := (by omega); have n0_1 : ¬ (w.heap.size = w.heap.size + 1) := (by omega); obtain ⟨c1_2_0, c1_2_1⟩ := K.c2 x1 (w.heap.size + 1 + 1) (.int .i64 0) (.int .i64 0) (by go_simp); obtain ⟨f1_2_0, f1_2_1⟩ := K.f2 x1 (w.heap.size + 1 + 1) (by go_simp); have z1_2 : w.heap.size + 1 + 1 < w1.heap.size := World.block_lt_of_cell? w1 _ c1_2_0; have d1_2 : ¬ (w.heap.size + 1 + 1 = w1.heap.size) := (by omega); have e1_2 : ¬ (w1.heap.size = w.heap.size + 1 + 1) := (by omega); have n2_0 : ¬ (w.heap.size + 1 + 1 = w.heap.size) := (by omega); have n0_2 : ¬ (w.heap.size = w.heap.size + 1 + 1) := (by omega); have n2_1 : ¬ (w.heap.size + 1 + 1 = w.heap.size + 1) := (by omega); have n1_2 : ¬ (w.heap.size + 1 = w.heap.size + 1 + 1) := (by omega))
    rw [HM.out]
    refine bodyPost_ret (v := .tuple #[.agg #[.int .i64 0, .int .i64 0], .agg #[.int .i64 0, .int .i64 0], .int .i64 2]) (by unfold results; rw [Tryz.results35]; go_simp) rfl ⟨rfl, ?_⟩
    repeat with_reducible refine K.Ext.setCell ?_ (by dsimp only; omega) _
    exact (by repeat' (first | with_reducible exact X1 | with_reducible refine K.Ext.setCell ?_ ?_ _ | with_reducible refine K.Ext.alloc ?_ _ | with_reducible refine K.Ext.drew ?_ | (dsimp only; omega) | omega | (simp; omega)))
  rw [if_neg hab] at HM
  rw [if_neg hab] at HC
  rw [HC.out] at HX
  have HP := fun w => l17Power_any fr to w
  have pb := Z.pow_bd (to := to) (fun h => hab (.inl h))
  generalize Z.powS fr to = pw at *
  obtain ⟨n, d⟩ := pw
  dsimp only at pb HP HM
  have HS := Z.hide (fun w => spec_PowerSpan f n d w hf pb.1 ⟨by omega, by omega⟩ M (Z.hide HM.out.symm))
  clear HM hab hf pb HC
  have X0 : K.Ext w w := K.Ext.refl w
  go_enter Tryz.func35, Tryz.ntmps35
  go_wp2_with (go_at_call 64; refine K.call (by with_reducible rfl) (by with_reducible rfl) (HX.out _) ?_; rintro e w1 ⟨rfl, x1⟩; have s1 : w.heap.size + 3 ≤ w1.heap.size := (by have h_ := x1.size; (try simp at h_); omega); have X1 : K.Ext w w1 := K.Ext.trans (by repeat' (first | with_reducible exact X0 | with_reducible refine K.Ext.setCell ?_ ?_ _ | with_reducible refine K.Ext.alloc ?_ _ | with_reducible refine K.Ext.drew ?_ | (dsimp only; omega) | omega | (simp; omega))) x1; obtain ⟨c1_0_0, c1_0_1⟩ := K.c2 x1 (w.heap.size) (.int .i64 f.1) (.int .i64 f.2) (by go_simp); have z1_0 : w.heap.size < w1.heap.size := World.block_lt_of_cell? w1 _ c1_0_0; have d1_0 : ¬ (w.heap.size = w1.heap.size) := (by omega); have e1_0 : ¬ (w1.heap.size = w.heap.size) := (by omega); obtain ⟨c1_1_0, c1_1_1⟩ := K.c2 x1 (w.heap.size + 1) (.int .i64 0) (.int .i64 0) (by go_simp); obtain ⟨f1_1_0, f1_1_1⟩ := K.f2 x1 (w.heap.size + 1) (by go_simp); have z1_1 : w.heap.size + 1 < w1.heap.size := World.block_lt_of_cell? w1 _ c1_1_0; have d1_1 : ¬ (w.heap.size + 1 = w1.heap.size) := (by omega); have e1_1 : ¬ (w1.heap.size = w.heap.size + 1) := (by omega); have n1_0 : ¬ (w.heap.size + 1 = w.heap.size) := (by omega); have n0_1 : ¬ (w.heap.size = w.heap.size + 1) := (by omega); obtain ⟨c1_2_0, c1_2_1⟩ := K.c2 x1 (w.heap.size + 1 + 1) (.int .i64 0) (.int .i64 0) (by go_simp); obtain ⟨f1_2_0, f1_2_1⟩ := K.f2 x1 (w.heap.size + 1 + 1) (by go_simp); have z1_2 : w.heap.size + 1 + 1 < w1.heap.size := World.block_lt_of_cell? w1 _ c1_2_0; have d1_2 : ¬ (w.heap.size + 1 + 1 = w1.heap.size) := (by omega); have e1_2 : ¬ (w1.heap.size = w.heap.size + 1 + 1) := (by omega); have n2_0 : ¬ (w.heap.size + 1 + 1 = w.heap.size) := (by omega); have n0_2 : ¬ (w.heap.size = w.heap.size + 1 + 1) := (by omega); have n2_1 : ¬ (w.heap.size + 1 + 1 = w.heap.size + 1) := (by omega); have n1_2 : ¬ (w.heap.size + 1 = w.heap.size + 1 + 1) := (by omega))
  go_wp2_with (go_at_call 65; refine K.call (by with_reducible rfl) (by with_reducible rfl) (HP _) ?_; rintro e w2 ⟨rfl, x2⟩; have s2 : w1.heap.size ≤ w2.heap.size := (by have h_ := x2.size; (try simp at h_); omega); have X2 := K.Ext.trans (X1) x2; obtain ⟨c2_0_0, c2_0_1⟩ := K.c2 x2 (w.heap.size) (.int .i64 f.1) (.int .i64 f.2) (by go_simp); have z2_0 : w.heap.size < w2.heap.size := World.block_lt_of_cell? w2 _ c2_0_0; have d2_0 : ¬ (w.heap.size = w2.heap.size) := (by omega); have e2_0 : ¬ (w2.heap.size = w.heap.size) := (by omega); obtain ⟨c2_1_0, c2_1_1⟩ := K.c2 x2 (w.heap.size + 1) (.int .i64 0) (.int .i64 0) (by go_simp); obtain ⟨f2_1_0, f2_1_1⟩ := K.f2 x2 (w.heap.size + 1) (by go_simp); have z2_1 : w.heap.size + 1 < w2.heap.size := World.block_lt_of_cell? w2 _ c2_1_0; have d2_1 : ¬ (w.heap.size + 1 = w2.heap.size) := (by omega); have e2_1 : ¬ (w2.heap.size = w.heap.size + 1) := (by omega); obtain ⟨c2_2_0, c2_2_1⟩ := K.c2 x2 (w.heap.size + 1 + 1) (.int .i64 0) (.int .i64 0) (by go_simp); obtain ⟨f2_2_0, f2_2_1⟩ := K.f2 x2 (w.heap.size + 1 + 1) (by go_simp); have z2_2 : w.heap.size + 1 + 1 < w2.heap.size := World.block_lt_of_cell? w2 _ c2_2_0; have d2_2 : ¬ (w.heap.size + 1 + 1 = w2.heap.size) := (by omega); have e2_2 : ¬ (w2.heap.size = w.heap.size + 1 + 1) := (by omega); clear c1_0_0 c1_0_1 z1_0 d1_0 e1_0 c1_1_0 c1_1_1 f1_1_0 f1_1_1 z1_1 d1_1 e1_1 c1_2_0 c1_2_1 f1_2_0 f1_2_1 z1_2 d1_2 e1_2)
  go_wp2_with (go_at_call 73; refine K.call (by with_reducible rfl) (by with_reducible rfl) (HS.out _) ?_; rintro e w3 ⟨rfl, x3⟩; have s3 : w2.heap.size ≤ w3.heap.size := (by have h_ := x3.size; (try simp at h_); omega); have X3 := K.Ext.trans (X2) x3; obtain ⟨c3_0_0, c3_0_1⟩ := K.c2 x3 (w.heap.size) (.int .i64 f.1) (.int .i64 f.2) (by go_simp); have z3_0 : w.heap.size < w3.heap.size := World.block_lt_of_cell? w3 _ c3_0_0; have d3_0 : ¬ (w.heap.size = w3.heap.size) := (by omega); have e3_0 : ¬ (w3.heap.size = w.heap.size) := (by omega); obtain ⟨c3_1_0, c3_1_1⟩ := K.c2 x3 (w.heap.size + 1) (.int .i64 0) (.int .i64 0) (by go_simp); obtain ⟨f3_1_0, f3_1_1⟩ := K.f2 x3 (w.heap.size + 1) (by go_simp); have z3_1 : w.heap.size + 1 < w3.heap.size := World.block_lt_of_cell? w3 _ c3_1_0; have d3_1 : ¬ (w.heap.size + 1 = w3.heap.size) := (by omega); have e3_1 : ¬ (w3.heap.size = w.heap.size + 1) := (by omega); obtain ⟨c3_2_0, c3_2_1⟩ := K.c2 x3 (w.heap.size + 1 + 1) (.int .i64 0) (.int .i64 0) (by go_simp); obtain ⟨f3_2_0, f3_2_1⟩ := K.f2 x3 (w.heap.size + 1 + 1) (by go_simp); have z3_2 : w.heap.size + 1 + 1 < w3.heap.size := World.block_lt_of_cell? w3 _ c3_2_0; have d3_2 : ¬ (w.heap.size + 1 + 1 = w3.heap.size) := (by omega); have e3_2 : ¬ (w3.heap.size = w.heap.size + 1 + 1) := (by omega); clear c2_0_0 c2_0_1 z2_0 d2_0 e2_0 c2_1_0 c2_1_1 f2_1_0 f2_1_1 z2_1 d2_1 e2_1 c2_2_0 c2_2_1 f2_2_0 f2_2_1 z2_2 d2_2 e2_2)
  refine bodyPost_ret (v := .tuple #[.agg #[.int .i64 M.1.1, .int .i64 M.1.2], .agg #[.int .i64 M.2.1.1, .int .i64 M.2.1.2], .int .i64 M.2.2]) (by unfold results; rw [Tryz.results35]; go_simp) rfl ⟨rfl, ?_⟩
  repeat with_reducible refine K.Ext.setCell ?_ (by dsimp only; omega) _
  exact (by repeat' (first | with_reducible exact X3 | with_reducible refine K.Ext.setCell ?_ ?_ _ | with_reducible refine K.Ext.alloc ?_ _ | with_reducible refine K.Ext.drew ?_ | (dsimp only; omega) | omega | (simp; omega)))
end Go.Proofs.YtimpcelbekhipaaGreat
end
