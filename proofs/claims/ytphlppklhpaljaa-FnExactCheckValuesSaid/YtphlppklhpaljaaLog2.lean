/-
  LOGARITHMS of figures, sums, multiples, both sides.
-/
import Derived.Test.YtphlppklhpaljaaLog
import Derived.Test.YtphlppklhpaljaaPow
set_option linter.unusedVariables false
namespace Go.Proofs.Ytphlppklhpaljaa
open Go.RowKit
set_option maxHeartbeats 3200000 in
theorem figureLog_any (f : Int × Int)  (w : World) (hf : Z.isFig f.1 f.2 = true)  :
    Calls Try.prog 181 #[.agg #[.int .i64 f.1, .int .i64 f.2]] w fun e w' => e = .returned (.agg #[.int .i64 (Z.figLog f).1, .int .i64 (Z.figLog f).2]) ∧ K.Ext w w' := by
  obtain ⟨⟨f1, f2⟩, f3, f4⟩ : (1000 ≤ f.1 ∧ f.1 ≤ 9999) ∧ -30 ≤ f.2 ∧ f.2 ≤ 30 := by
    simp only [Z.isFig, Bool.and_eq_true, decide_eq_true_eq] at hf
    omega
  obtain ⟨⟨r1, r2⟩, r3, r4⟩ := Z.logOf_bd (x := f.1 * 100000) (by omega) (by omega)
  obtain ⟨r, hr⟩ : ∃ r, r = Z.logOf (f.1 * 100000) := ⟨_, rfl⟩
  rw [← hr] at r1 r2 r3 r4
  have HR : ∀ w : World, Calls Try.prog 213 #[.int .i64 (f.1 * 100000)] w fun e w' => e = .returned (.agg #[.int .i64 r.1, .int .i64 r.2]) ∧ K.Ext w w' := fun w => by rw [hr]; exact logarithm_any _ w (by omega) (by omega)
  have HE : Hid (Z.figLog f = (r.1 + f.2 * 1048576, r.2 + f.2 * 1048576)) := Z.hide (by unfold Z.figLog; rw [← hr])
  clear hr hf
  have X0 : K.Ext w w := K.Ext.refl w
  go_enter Try.func181, Try.ntmps181
  go_wp2_with (go_at_call 213; refine K.call (by with_reducible rfl) (by with_reducible rfl) (HR _) ?_; rintro e w1 ⟨rfl, x1⟩; have s1 : w.heap.size + 2 ≤ w1.heap.size := (by have h_ := x1.size; (try simp at h_); omega); have X1 := K.Ext.trans (K.Ext.alloc (K.Ext.alloc X0 _) _) x1; obtain ⟨c1_0_0, c1_0_1⟩ := K.c2 x1 (w.heap.size) (.int .i64 f.1) (.int .i64 f.2) (by go_simp); have z1_0 : w.heap.size < w1.heap.size := World.block_lt_of_cell? w1 _ c1_0_0; have d1_0 : ¬ (w.heap.size = w1.heap.size) := (by omega); have e1_0 : ¬ (w1.heap.size = w.heap.size) := (by omega); obtain ⟨c1_1_0, c1_1_1⟩ := K.c2 x1 (w.heap.size + 1) (.int .i64 0) (.int .i64 0) (by go_simp); obtain ⟨f1_1_0, f1_1_1⟩ := K.f2 x1 (w.heap.size + 1) (by go_simp); have z1_1 : w.heap.size + 1 < w1.heap.size := World.block_lt_of_cell? w1 _ c1_1_0; have d1_1 : ¬ (w.heap.size + 1 = w1.heap.size) := (by omega); have e1_1 : ¬ (w1.heap.size = w.heap.size + 1) := (by omega); have n1_0 : ¬ (w.heap.size + 1 = w.heap.size) := (by omega); have n0_1 : ¬ (w.heap.size = w.heap.size + 1) := (by omega))
  rw [HE.out]
  refine bodyPost_ret (v := .agg #[.int .i64 (r.1 + (f.2 * 1048576)), .int .i64 (r.2 + (f.2 * 1048576))]) (by unfold results; rw [Try.results181]; go_simp) rfl ⟨rfl, ?_⟩
  repeat with_reducible refine K.Ext.setCell ?_ (by dsimp only; omega) _
  exact (by repeat' (first | with_reducible exact X1 | with_reducible refine K.Ext.setCell ?_ ?_ _ | with_reducible refine K.Ext.alloc ?_ _ | with_reducible refine K.Ext.drew ?_ | (dsimp only; omega) | omega | (simp; omega)))
set_option maxHeartbeats 3200000 in
theorem l03Log_any (x : Int)  (w : World) (x1 : 100000000 ≤ x) (x2 : x < 1000000000)  :
    Calls Try.prog 209 #[.int .i64 x] w fun e w' => e = .returned (.agg #[.int .i64 (Z.logOf x).1, .int .i64 (Z.logOf x).2]) ∧ K.Ext w w' := by
  obtain ⟨⟨r1, r2⟩, r3, r4⟩ := Z.logOf_bd x1 x2
  obtain ⟨r, hr⟩ : ∃ r, r = Z.logOf x := ⟨_, rfl⟩
  obtain ⟨a, ha⟩ : ∃ a, a = (Z.itL x 20).2 := ⟨_, rfl⟩
  obtain ⟨b, hb⟩ : ∃ b, b = (Z.itH x 20).2 := ⟨_, rfl⟩
  have HL : ∀ w : World, Calls Try.prog 226 #[.int .i64 x, .bool false] w fun e w' => e = .returned (.int .i64 a) ∧ w = w' := fun w => by rw [ha]; exact l03Bits_low x w x1 x2
  have HH : ∀ w : World, Calls Try.prog 226 #[.int .i64 x, .bool true] w fun e w' => e = .returned (.int .i64 b) ∧ w = w' := fun w => by rw [hb]; exact l03Bits_high x w x1 x2
  have HE : Hid (Z.logOf x = (a, b + 1)) := Z.hide (by rw [ha, hb]; rfl)
  have b0 : 0 ≤ b := by rw [hb]; exact (Z.itH_bd x1 x2 20).2.1
  have b1 : b ≤ 1048577 := by rw [HE.out] at r4; dsimp only at r4; omega
  clear ha hb hr r1 r2 r3 r4
  have X0 : K.Ext w w := K.Ext.refl w
  go_enter Try.func209, Try.ntmps209
  go_wp2_with (go_at_call 226; refine K.call (by with_reducible rfl) (by with_reducible rfl) (HL _) ?_; rintro e w_ ⟨rfl, rfl⟩)
  go_wp2_with (go_at_call 226; refine K.call (by with_reducible rfl) (by with_reducible rfl) (HH _) ?_; rintro e w_ ⟨rfl, rfl⟩)
  rw [HE.out]
  refine bodyPost_ret (v := .agg #[.int .i64 a, .int .i64 (b + 1)]) (by unfold results; rw [Try.results209]; go_simp) rfl ⟨rfl, ?_⟩
  repeat with_reducible refine K.Ext.setCell ?_ (by dsimp only; omega) _
  exact (by repeat' (first | with_reducible exact X0 | with_reducible refine K.Ext.setCell ?_ ?_ _ | with_reducible refine K.Ext.alloc ?_ _ | with_reducible refine K.Ext.drew ?_ | (dsimp only; omega) | omega | (simp; omega)))
set_option maxHeartbeats 3200000 in
theorem l03Figure_any (f : Int × Int)  (w : World) (hf : Z.isFig f.1 f.2 = true)  :
    Calls Try.prog 177 #[.agg #[.int .i64 f.1, .int .i64 f.2]] w fun e w' => e = .returned (.agg #[.int .i64 (Z.figLog f).1, .int .i64 (Z.figLog f).2]) ∧ K.Ext w w' := by
  obtain ⟨⟨f1, f2⟩, f3, f4⟩ : (1000 ≤ f.1 ∧ f.1 ≤ 9999) ∧ -30 ≤ f.2 ∧ f.2 ≤ 30 := by
    simp only [Z.isFig, Bool.and_eq_true, decide_eq_true_eq] at hf
    omega
  obtain ⟨⟨r1, r2⟩, r3, r4⟩ := Z.logOf_bd (x := f.1 * 100000) (by omega) (by omega)
  obtain ⟨r, hr⟩ : ∃ r, r = Z.logOf (f.1 * 100000) := ⟨_, rfl⟩
  rw [← hr] at r1 r2 r3 r4
  have HR : ∀ w : World, Calls Try.prog 209 #[.int .i64 (f.1 * 100000)] w fun e w' => e = .returned (.agg #[.int .i64 r.1, .int .i64 r.2]) ∧ K.Ext w w' := fun w => by rw [hr]; exact l03Log_any _ w (by omega) (by omega)
  have HE : Hid (Z.figLog f = (r.1 + f.2 * 1048576, r.2 + f.2 * 1048576)) := Z.hide (by unfold Z.figLog; rw [← hr])
  clear hr hf
  have X0 : K.Ext w w := K.Ext.refl w
  go_enter Try.func177, Try.ntmps177
  go_wp2_with (go_at_call 209; refine K.call (by with_reducible rfl) (by with_reducible rfl) (HR _) ?_; rintro e w1 ⟨rfl, x1⟩; have s1 : w.heap.size + 2 ≤ w1.heap.size := (by have h_ := x1.size; (try simp at h_); omega); have X1 := K.Ext.trans (K.Ext.alloc (K.Ext.alloc X0 _) _) x1; obtain ⟨c1_0_0, c1_0_1⟩ := K.c2 x1 (w.heap.size) (.int .i64 f.1) (.int .i64 f.2) (by go_simp); have z1_0 : w.heap.size < w1.heap.size := World.block_lt_of_cell? w1 _ c1_0_0; have d1_0 : ¬ (w.heap.size = w1.heap.size) := (by omega); have e1_0 : ¬ (w1.heap.size = w.heap.size) := (by omega); obtain ⟨c1_1_0, c1_1_1⟩ := K.c2 x1 (w.heap.size + 1) (.int .i64 0) (.int .i64 0) (by go_simp); obtain ⟨f1_1_0, f1_1_1⟩ := K.f2 x1 (w.heap.size + 1) (by go_simp); have z1_1 : w.heap.size + 1 < w1.heap.size := World.block_lt_of_cell? w1 _ c1_1_0; have d1_1 : ¬ (w.heap.size + 1 = w1.heap.size) := (by omega); have e1_1 : ¬ (w1.heap.size = w.heap.size + 1) := (by omega); have n1_0 : ¬ (w.heap.size + 1 = w.heap.size) := (by omega); have n0_1 : ¬ (w.heap.size = w.heap.size + 1) := (by omega))
  rw [HE.out]
  refine bodyPost_ret (v := .agg #[.int .i64 (r.1 + (f.2 * 1048576)), .int .i64 (r.2 + (f.2 * 1048576))]) (by unfold results; rw [Try.results177]; go_simp) rfl ⟨rfl, ?_⟩
  repeat with_reducible refine K.Ext.setCell ?_ (by dsimp only; omega) _
  exact (by repeat' (first | with_reducible exact X1 | with_reducible refine K.Ext.setCell ?_ ?_ _ | with_reducible refine K.Ext.alloc ?_ _ | with_reducible refine K.Ext.drew ?_ | (dsimp only; omega) | omega | (simp; omega)))
set_option maxHeartbeats 1600000 in
theorem sum_any (a : Int × Int) (b : Int × Int)  (w : World) (h1 : -4000000000 ≤ a.1 ∧ a.1 ≤ 4000000000) (h2 : -4000000000 ≤ a.2 ∧ a.2 ≤ 4000000000) (h3 : -4000000000 ≤ b.1 ∧ b.1 ≤ 4000000000) (h4 : -4000000000 ≤ b.2 ∧ b.2 ≤ 4000000000)  :
    Calls Try.prog 182 #[.agg #[.int .i64 a.1, .int .i64 a.2], .agg #[.int .i64 b.1, .int .i64 b.2]] w fun e w' => e = .returned (.agg #[.int .i64 (Z.sumI a b).1, .int .i64 (Z.sumI a b).2]) ∧ K.Ext w w' := by
  have HE : Hid (Z.sumI a b = (a.1 + b.1, a.2 + b.2)) := Z.hide rfl
  obtain ⟨h1a, h1b⟩ := h1
  obtain ⟨h2a, h2b⟩ := h2
  obtain ⟨h3a, h3b⟩ := h3
  obtain ⟨h4a, h4b⟩ := h4
  have X0 : K.Ext w w := K.Ext.refl w
  go_enter Try.func182, Try.ntmps182
  go_wp2_with fail
  rw [HE.out]
  refine bodyPost_ret (v := .agg #[.int .i64 (a.1 + b.1), .int .i64 (a.2 + b.2)]) (by unfold results; rw [Try.results182]; go_simp) rfl ⟨rfl, ?_⟩
  repeat with_reducible refine K.Ext.setCell ?_ (by dsimp only; omega) _
  exact (by repeat' (first | with_reducible exact X0 | with_reducible refine K.Ext.setCell ?_ ?_ _ | with_reducible refine K.Ext.alloc ?_ _ | with_reducible refine K.Ext.drew ?_ | (dsimp only; omega) | omega | (simp; omega)))
set_option maxHeartbeats 1600000 in
theorem l03Add_any (a : Int × Int) (b : Int × Int)  (w : World) (h1 : -4000000000 ≤ a.1 ∧ a.1 ≤ 4000000000) (h2 : -4000000000 ≤ a.2 ∧ a.2 ≤ 4000000000) (h3 : -4000000000 ≤ b.1 ∧ b.1 ≤ 4000000000) (h4 : -4000000000 ≤ b.2 ∧ b.2 ≤ 4000000000)  :
    Calls Try.prog 178 #[.agg #[.int .i64 a.1, .int .i64 a.2], .agg #[.int .i64 b.1, .int .i64 b.2]] w fun e w' => e = .returned (.agg #[.int .i64 (Z.sumI a b).1, .int .i64 (Z.sumI a b).2]) ∧ K.Ext w w' := by
  have HE : Hid (Z.sumI a b = (a.1 + b.1, a.2 + b.2)) := Z.hide rfl
  obtain ⟨h1a, h1b⟩ := h1
  obtain ⟨h2a, h2b⟩ := h2
  obtain ⟨h3a, h3b⟩ := h3
  obtain ⟨h4a, h4b⟩ := h4
  have X0 : K.Ext w w := K.Ext.refl w
  go_enter Try.func178, Try.ntmps178
  go_wp2_with fail
  rw [HE.out]
  refine bodyPost_ret (v := .agg #[.int .i64 (a.1 + b.1), .int .i64 (a.2 + b.2)]) (by unfold results; rw [Try.results178]; go_simp) rfl ⟨rfl, ?_⟩
  repeat with_reducible refine K.Ext.setCell ?_ (by dsimp only; omega) _
  exact (by repeat' (first | with_reducible exact X0 | with_reducible refine K.Ext.setCell ?_ ?_ _ | with_reducible refine K.Ext.alloc ?_ _ | with_reducible refine K.Ext.drew ?_ | (dsimp only; omega) | omega | (simp; omega)))
end Go.Proofs.Ytphlppklhpaljaa
