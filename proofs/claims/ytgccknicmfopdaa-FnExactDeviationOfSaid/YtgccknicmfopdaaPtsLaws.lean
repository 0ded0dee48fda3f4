/-
  THE LAWS OVER POINTS whose results are plain numbers: walks.
-/
import Derived.Test.YtgccknicmfopdaaMid
import Derived.Test.YtgccknicmfopdaaPts3
import Derived.Test.YtgccknicmfopdaaPts5
set_option linter.unusedVariables false
namespace Go.Proofs.Ytgccknicmfopdaa
open Go.RowKit

theorem law_FnExactSquareBetween (a b : Z.Pt) (w : World) :
    Calls Try.prog 3 #[.agg #[.int .i64 a.1, .int .i64 a.2], .agg #[.int .i64 b.1, .int .i64 b.2]] w fun e w' => e = .returned (.bool true) ∧ K.Ext w w' := by
  go_enter Try.func3, Try.ntmps3
  go_wp2_with fail
  refine K.wp_region_ext (by kernel_rfl) (by kernel_rfl) ?_
  apply K.qcons
  · rfl
  · intro w' hw'; obtain ⟨⟨hc, hf⟩, hc', hf'⟩ := hw'.all; unfold Oper.quietAt; go_simp; first | done | rfl | exact ⟨rfl, rfl⟩
  simp only [Act.put, List.setIfInBounds_toArray, List.set]
  apply K.qcons
  · rfl
  · intro w' hw'; obtain ⟨⟨hc, hf⟩, hc', hf'⟩ := hw'.all; unfold Oper.quietAt; go_simp; exact K.ext_call hw' (toPoint_any _ _ _)
  simp only [Act.put, List.setIfInBounds_toArray, List.set]
  apply K.qcons
  · rfl
  · intro w' hw'; obtain ⟨⟨hc, hf⟩, hc', hf'⟩ := hw'.all; unfold Oper.quietAt; go_simp; first | done | rfl | exact ⟨rfl, rfl⟩
  simp only [Act.put, List.setIfInBounds_toArray, List.set]
  apply K.qcons
  · rfl
  · intro w' hw'; obtain ⟨⟨hc, hf⟩, hc', hf'⟩ := hw'.all; unfold Oper.quietAt; go_simp; exact K.ext_call hw' (toPoint_any _ _ _)
  simp only [Act.put, List.setIfInBounds_toArray, List.set]
  apply K.qcons
  · rfl
  · intro w' hw'; obtain ⟨⟨hc, hf⟩, hc', hf'⟩ := hw'.all; unfold Oper.quietAt; go_simp; exact K.ext_call hw' (spec_SquareBetween a b _)
  simp only [Act.put, List.setIfInBounds_toArray, List.set]
  apply K.qcons
  · rfl
  · intro w' hw'; obtain ⟨⟨hc, hf⟩, hc', hf'⟩ := hw'.all; unfold Oper.quietAt; go_simp; first | done | rfl | exact ⟨rfl, rfl⟩
  simp only [Act.put, List.setIfInBounds_toArray, List.set]
  apply K.qcons
  · rfl
  · intro w' hw'; obtain ⟨⟨hc, hf⟩, hc', hf'⟩ := hw'.all; unfold Oper.quietAt; go_simp; first | done | rfl | exact ⟨rfl, rfl⟩
  simp only [Act.put, List.setIfInBounds_toArray, List.set]
  apply K.qcons
  · rfl
  · intro w' hw'; obtain ⟨⟨hc, hf⟩, hc', hf'⟩ := hw'.all; unfold Oper.quietAt; go_simp; first | done | rfl | exact ⟨rfl, rfl⟩
  simp only [Act.put, List.setIfInBounds_toArray, List.set]
  apply K.qcons
  · rfl
  · intro w' hw'; obtain ⟨⟨hc, hf⟩, hc', hf'⟩ := hw'.all; unfold Oper.quietAt; go_simp; first | done | rfl | exact ⟨rfl, rfl⟩
  simp only [Act.put, List.setIfInBounds_toArray, List.set]
  apply K.qcons
  · rfl
  · intro w' hw'; obtain ⟨⟨hc, hf⟩, hc', hf'⟩ := hw'.all; unfold Oper.quietAt; go_simp; first | done | rfl | exact ⟨rfl, rfl⟩
  simp only [Act.put, List.setIfInBounds_toArray, List.set]
  refine wpQuiet_nil ?_
  intro w1 hx1
  obtain ⟨⟨hcw1, hfw1⟩, hc'w1, hf'w1⟩ := hx1.all
  have c_w1_0_0 : w1.cell? ⟨w.heap.size, 0, none⟩ = some (.int .i64 (a.1)) := hx1.cell_of (by go_simp); have f_w1_0_0 : w1.frozen? ⟨w.heap.size, 0, none⟩ = false := hx1.thaw_of (by go_simp) (by go_simp); have c_w1_0_1 : w1.cell? ⟨w.heap.size, 1, none⟩ = some (.int .i64 (a.2)) := hx1.cell_of (by go_simp); have f_w1_0_1 : w1.frozen? ⟨w.heap.size, 1, none⟩ = false := hx1.thaw_of (by go_simp) (by go_simp); have c_w1_1_0 : w1.cell? ⟨w.heap.size + 1, 0, none⟩ = some (.int .i64 (b.1)) := hx1.cell_of (by go_simp); have f_w1_1_0 : w1.frozen? ⟨w.heap.size + 1, 0, none⟩ = false := hx1.thaw_of (by go_simp) (by go_simp); have c_w1_1_1 : w1.cell? ⟨w.heap.size + 1, 1, none⟩ = some (.int .i64 (b.2)) := hx1.cell_of (by go_simp); have f_w1_1_1 : w1.frozen? ⟨w.heap.size + 1, 1, none⟩ = false := hx1.thaw_of (by go_simp) (by go_simp)
  go_wp2_with fail
  refine K.wp_region_ext (by kernel_rfl) (by kernel_rfl) ?_
  apply K.qcons
  · rfl
  · intro w' hw'; obtain ⟨⟨hc, hf⟩, hc', hf'⟩ := hw'.all; unfold Oper.quietAt; go_simp; first | done | rfl | exact ⟨rfl, rfl⟩
  simp only [Act.put, List.setIfInBounds_toArray, List.set]
  apply K.qcons
  · rfl
  · intro w' hw'; obtain ⟨⟨hc, hf⟩, hc', hf'⟩ := hw'.all; unfold Oper.quietAt; go_simp; exact K.ext_call hw' (toPoint_any _ _ _)
  simp only [Act.put, List.setIfInBounds_toArray, List.set]
  apply K.qcons
  · rfl
  · intro w' hw'; obtain ⟨⟨hc, hf⟩, hc', hf'⟩ := hw'.all; unfold Oper.quietAt; go_simp; first | done | rfl | exact ⟨rfl, rfl⟩
  simp only [Act.put, List.setIfInBounds_toArray, List.set]
  apply K.qcons
  · rfl
  · intro w' hw'; obtain ⟨⟨hc, hf⟩, hc', hf'⟩ := hw'.all; unfold Oper.quietAt; go_simp; exact K.ext_call hw' (toPoint_any _ _ _)
  simp only [Act.put, List.setIfInBounds_toArray, List.set]
  apply K.qcons
  · rfl
  · intro w' hw'; obtain ⟨⟨hc, hf⟩, hc', hf'⟩ := hw'.all; unfold Oper.quietAt; go_simp; exact K.ext_call hw' (impl_SquareBetween a b _)
  simp only [Act.put, List.setIfInBounds_toArray, List.set]
  apply K.qcons
  · rfl
  · intro w' hw'; obtain ⟨⟨hc, hf⟩, hc', hf'⟩ := hw'.all; unfold Oper.quietAt; go_simp; first | done | rfl | exact ⟨rfl, rfl⟩
  simp only [Act.put, List.setIfInBounds_toArray, List.set]
  apply K.qcons
  · rfl
  · intro w' hw'; obtain ⟨⟨hc, hf⟩, hc', hf'⟩ := hw'.all; unfold Oper.quietAt; go_simp; first | done | rfl | exact ⟨rfl, rfl⟩
  simp only [Act.put, List.setIfInBounds_toArray, List.set]
  apply K.qcons
  · rfl
  · intro w' hw'; obtain ⟨⟨hc, hf⟩, hc', hf'⟩ := hw'.all; unfold Oper.quietAt; go_simp; first | done | rfl | exact ⟨rfl, rfl⟩
  simp only [Act.put, List.setIfInBounds_toArray, List.set]
  apply K.qcons
  · rfl
  · intro w' hw'; obtain ⟨⟨hc, hf⟩, hc', hf'⟩ := hw'.all; unfold Oper.quietAt; go_simp; first | done | rfl | exact ⟨rfl, rfl⟩
  simp only [Act.put, List.setIfInBounds_toArray, List.set]
  apply K.qcons
  · rfl
  · intro w' hw'; obtain ⟨⟨hc, hf⟩, hc', hf'⟩ := hw'.all; unfold Oper.quietAt; go_simp; first | done | rfl | exact ⟨rfl, rfl⟩
  simp only [Act.put, List.setIfInBounds_toArray, List.set]
  refine wpQuiet_nil ?_
  intro w2 hx2
  obtain ⟨⟨hcw2, hfw2⟩, hc'w2, hf'w2⟩ := hx2.all
  go_wp2_with fail
  go_ret
  exact ⟨rfl, (by repeat' (first | exact K.Ext.refl _ | assumption | apply K.Ext.drew | refine K.Ext.alloc ?_ _ | refine K.Ext.setCell ?_ ?_ _ | (simp; done) | (simp; omega) | omega | refine K.Ext.trans ?_ (by assumption)))⟩
theorem law_FnExactDoubleArea (a b c : Z.Pt) (w : World) :
    Calls Try.prog 4 #[.agg #[.int .i64 a.1, .int .i64 a.2], .agg #[.int .i64 b.1, .int .i64 b.2], .agg #[.int .i64 c.1, .int .i64 c.2]] w fun e w' => e = .returned (.bool true) ∧ K.Ext w w' := by
  go_enter Try.func4, Try.ntmps4
  go_wp2_with fail
  refine K.wp_region_ext (by kernel_rfl) (by kernel_rfl) ?_
  apply K.qcons
  · rfl
  · intro w' hw'; obtain ⟨⟨hc, hf⟩, hc', hf'⟩ := hw'.all; unfold Oper.quietAt; go_simp; first | done | rfl | exact ⟨rfl, rfl⟩
  simp only [Act.put, List.setIfInBounds_toArray, List.set]
  apply K.qcons
  · rfl
  · intro w' hw'; obtain ⟨⟨hc, hf⟩, hc', hf'⟩ := hw'.all; unfold Oper.quietAt; go_simp; exact K.ext_call hw' (toPoint_any _ _ _)
  simp only [Act.put, List.setIfInBounds_toArray, List.set]
  apply K.qcons
  · rfl
  · intro w' hw'; obtain ⟨⟨hc, hf⟩, hc', hf'⟩ := hw'.all; unfold Oper.quietAt; go_simp; first | done | rfl | exact ⟨rfl, rfl⟩
  simp only [Act.put, List.setIfInBounds_toArray, List.set]
  apply K.qcons
  · rfl
  · intro w' hw'; obtain ⟨⟨hc, hf⟩, hc', hf'⟩ := hw'.all; unfold Oper.quietAt; go_simp; exact K.ext_call hw' (toPoint_any _ _ _)
  simp only [Act.put, List.setIfInBounds_toArray, List.set]
  apply K.qcons
  · rfl
  · intro w' hw'; obtain ⟨⟨hc, hf⟩, hc', hf'⟩ := hw'.all; unfold Oper.quietAt; go_simp; first | done | rfl | exact ⟨rfl, rfl⟩
  simp only [Act.put, List.setIfInBounds_toArray, List.set]
  apply K.qcons
  · rfl
  · intro w' hw'; obtain ⟨⟨hc, hf⟩, hc', hf'⟩ := hw'.all; unfold Oper.quietAt; go_simp; exact K.ext_call hw' (toPoint_any _ _ _)
  simp only [Act.put, List.setIfInBounds_toArray, List.set]
  apply K.qcons
  · rfl
  · intro w' hw'; obtain ⟨⟨hc, hf⟩, hc', hf'⟩ := hw'.all; unfold Oper.quietAt; go_simp; exact K.ext_call hw' (spec_DoubleArea a b c _)
  simp only [Act.put, List.setIfInBounds_toArray, List.set]
  apply K.qcons
  · rfl
  · intro w' hw'; obtain ⟨⟨hc, hf⟩, hc', hf'⟩ := hw'.all; unfold Oper.quietAt; go_simp; first | done | rfl | exact ⟨rfl, rfl⟩
  simp only [Act.put, List.setIfInBounds_toArray, List.set]
  apply K.qcons
  · rfl
  · intro w' hw'; obtain ⟨⟨hc, hf⟩, hc', hf'⟩ := hw'.all; unfold Oper.quietAt; go_simp; first | done | rfl | exact ⟨rfl, rfl⟩
  simp only [Act.put, List.setIfInBounds_toArray, List.set]
  apply K.qcons
  · rfl
  · intro w' hw'; obtain ⟨⟨hc, hf⟩, hc', hf'⟩ := hw'.all; unfold Oper.quietAt; go_simp; first | done | rfl | exact ⟨rfl, rfl⟩
  simp only [Act.put, List.setIfInBounds_toArray, List.set]
  apply K.qcons
  · rfl
  · intro w' hw'; obtain ⟨⟨hc, hf⟩, hc', hf'⟩ := hw'.all; unfold Oper.quietAt; go_simp; first | done | rfl | exact ⟨rfl, rfl⟩
  simp only [Act.put, List.setIfInBounds_toArray, List.set]
  apply K.qcons
  · rfl
  · intro w' hw'; obtain ⟨⟨hc, hf⟩, hc', hf'⟩ := hw'.all; unfold Oper.quietAt; go_simp; first | done | rfl | exact ⟨rfl, rfl⟩
  simp only [Act.put, List.setIfInBounds_toArray, List.set]
  refine wpQuiet_nil ?_
  intro w1 hx1
  obtain ⟨⟨hcw1, hfw1⟩, hc'w1, hf'w1⟩ := hx1.all
  have c_w1_0_0 : w1.cell? ⟨w.heap.size, 0, none⟩ = some (.int .i64 (a.1)) := hx1.cell_of (by go_simp); have f_w1_0_0 : w1.frozen? ⟨w.heap.size, 0, none⟩ = false := hx1.thaw_of (by go_simp) (by go_simp); have c_w1_0_1 : w1.cell? ⟨w.heap.size, 1, none⟩ = some (.int .i64 (a.2)) := hx1.cell_of (by go_simp); have f_w1_0_1 : w1.frozen? ⟨w.heap.size, 1, none⟩ = false := hx1.thaw_of (by go_simp) (by go_simp); have c_w1_1_0 : w1.cell? ⟨w.heap.size + 1, 0, none⟩ = some (.int .i64 (b.1)) := hx1.cell_of (by go_simp); have f_w1_1_0 : w1.frozen? ⟨w.heap.size + 1, 0, none⟩ = false := hx1.thaw_of (by go_simp) (by go_simp); have c_w1_1_1 : w1.cell? ⟨w.heap.size + 1, 1, none⟩ = some (.int .i64 (b.2)) := hx1.cell_of (by go_simp); have f_w1_1_1 : w1.frozen? ⟨w.heap.size + 1, 1, none⟩ = false := hx1.thaw_of (by go_simp) (by go_simp); have c_w1_2_0 : w1.cell? ⟨w.heap.size + 1 + 1, 0, none⟩ = some (.int .i64 (c.1)) := hx1.cell_of (by go_simp); have f_w1_2_0 : w1.frozen? ⟨w.heap.size + 1 + 1, 0, none⟩ = false := hx1.thaw_of (by go_simp) (by go_simp); have c_w1_2_1 : w1.cell? ⟨w.heap.size + 1 + 1, 1, none⟩ = some (.int .i64 (c.2)) := hx1.cell_of (by go_simp); have f_w1_2_1 : w1.frozen? ⟨w.heap.size + 1 + 1, 1, none⟩ = false := hx1.thaw_of (by go_simp) (by go_simp)
  go_wp2_with fail
  refine K.wp_region_ext (by kernel_rfl) (by kernel_rfl) ?_
  apply K.qcons
  · rfl
  · intro w' hw'; obtain ⟨⟨hc, hf⟩, hc', hf'⟩ := hw'.all; unfold Oper.quietAt; go_simp; first | done | rfl | exact ⟨rfl, rfl⟩
  simp only [Act.put, List.setIfInBounds_toArray, List.set]
  apply K.qcons
  · rfl
  · intro w' hw'; obtain ⟨⟨hc, hf⟩, hc', hf'⟩ := hw'.all; unfold Oper.quietAt; go_simp; exact K.ext_call hw' (toPoint_any _ _ _)
  simp only [Act.put, List.setIfInBounds_toArray, List.set]
  apply K.qcons
  · rfl
  · intro w' hw'; obtain ⟨⟨hc, hf⟩, hc', hf'⟩ := hw'.all; unfold Oper.quietAt; go_simp; first | done | rfl | exact ⟨rfl, rfl⟩
  simp only [Act.put, List.setIfInBounds_toArray, List.set]
  apply K.qcons
  · rfl
  · intro w' hw'; obtain ⟨⟨hc, hf⟩, hc', hf'⟩ := hw'.all; unfold Oper.quietAt; go_simp; exact K.ext_call hw' (toPoint_any _ _ _)
  simp only [Act.put, List.setIfInBounds_toArray, List.set]
  apply K.qcons
  · rfl
  · intro w' hw'; obtain ⟨⟨hc, hf⟩, hc', hf'⟩ := hw'.all; unfold Oper.quietAt; go_simp; first | done | rfl | exact ⟨rfl, rfl⟩
  simp only [Act.put, List.setIfInBounds_toArray, List.set]
  apply K.qcons
  · rfl
  · intro w' hw'; obtain ⟨⟨hc, hf⟩, hc', hf'⟩ := hw'.all; unfold Oper.quietAt; go_simp; exact K.ext_call hw' (toPoint_any _ _ _)
  simp only [Act.put, List.setIfInBounds_toArray, List.set]
  apply K.qcons
  · rfl
  · intro w' hw'; obtain ⟨⟨hc, hf⟩, hc', hf'⟩ := hw'.all; unfold Oper.quietAt; go_simp; exact K.ext_call hw' (impl_DoubleArea a b c _)
  simp only [Act.put, List.setIfInBounds_toArray, List.set]
  apply K.qcons
  · rfl
  · intro w' hw'; obtain ⟨⟨hc, hf⟩, hc', hf'⟩ := hw'.all; unfold Oper.quietAt; go_simp; first | done | rfl | exact ⟨rfl, rfl⟩
  simp only [Act.put, List.setIfInBounds_toArray, List.set]
  apply K.qcons
  · rfl
  · intro w' hw'; obtain ⟨⟨hc, hf⟩, hc', hf'⟩ := hw'.all; unfold Oper.quietAt; go_simp; first | done | rfl | exact ⟨rfl, rfl⟩
  simp only [Act.put, List.setIfInBounds_toArray, List.set]
  apply K.qcons
  · rfl
  · intro w' hw'; obtain ⟨⟨hc, hf⟩, hc', hf'⟩ := hw'.all; unfold Oper.quietAt; go_simp; first | done | rfl | exact ⟨rfl, rfl⟩
  simp only [Act.put, List.setIfInBounds_toArray, List.set]
  apply K.qcons
  · rfl
  · intro w' hw'; obtain ⟨⟨hc, hf⟩, hc', hf'⟩ := hw'.all; unfold Oper.quietAt; go_simp; first | done | rfl | exact ⟨rfl, rfl⟩
  simp only [Act.put, List.setIfInBounds_toArray, List.set]
  apply K.qcons
  · rfl
  · intro w' hw'; obtain ⟨⟨hc, hf⟩, hc', hf'⟩ := hw'.all; unfold Oper.quietAt; go_simp; first | done | rfl | exact ⟨rfl, rfl⟩
  simp only [Act.put, List.setIfInBounds_toArray, List.set]
  refine wpQuiet_nil ?_
  intro w2 hx2
  obtain ⟨⟨hcw2, hfw2⟩, hc'w2, hf'w2⟩ := hx2.all
  go_wp2_with fail
  go_ret
  exact ⟨rfl, (by repeat' (first | exact K.Ext.refl _ | assumption | apply K.Ext.drew | refine K.Ext.alloc ?_ _ | refine K.Ext.setCell ?_ ?_ _ | (simp; done) | (simp; omega) | omega | refine K.Ext.trans ?_ (by assumption)))⟩
theorem law_FnExactAreInLine (a b c : Z.Pt) (w : World) :
    Calls Try.prog 5 #[.agg #[.int .i64 a.1, .int .i64 a.2], .agg #[.int .i64 b.1, .int .i64 b.2], .agg #[.int .i64 c.1, .int .i64 c.2]] w fun e w' => e = .returned (.bool true) ∧ K.Ext w w' := by
  go_enter Try.func5, Try.ntmps5
  go_wp2_with fail
  refine K.wp_region_ext (by kernel_rfl) (by kernel_rfl) ?_
  apply K.qcons
  · rfl
  · intro w' hw'; obtain ⟨⟨hc, hf⟩, hc', hf'⟩ := hw'.all; unfold Oper.quietAt; go_simp; first | done | rfl | exact ⟨rfl, rfl⟩
  simp only [Act.put, List.setIfInBounds_toArray, List.set]
  apply K.qcons
  · rfl
  · intro w' hw'; obtain ⟨⟨hc, hf⟩, hc', hf'⟩ := hw'.all; unfold Oper.quietAt; go_simp; exact K.ext_call hw' (toPoint_any _ _ _)
  simp only [Act.put, List.setIfInBounds_toArray, List.set]
  apply K.qcons
  · rfl
  · intro w' hw'; obtain ⟨⟨hc, hf⟩, hc', hf'⟩ := hw'.all; unfold Oper.quietAt; go_simp; first | done | rfl | exact ⟨rfl, rfl⟩
  simp only [Act.put, List.setIfInBounds_toArray, List.set]
  apply K.qcons
  · rfl
  · intro w' hw'; obtain ⟨⟨hc, hf⟩, hc', hf'⟩ := hw'.all; unfold Oper.quietAt; go_simp; exact K.ext_call hw' (toPoint_any _ _ _)
  simp only [Act.put, List.setIfInBounds_toArray, List.set]
  apply K.qcons
  · rfl
  · intro w' hw'; obtain ⟨⟨hc, hf⟩, hc', hf'⟩ := hw'.all; unfold Oper.quietAt; go_simp; first | done | rfl | exact ⟨rfl, rfl⟩
  simp only [Act.put, List.setIfInBounds_toArray, List.set]
  apply K.qcons
  · rfl
  · intro w' hw'; obtain ⟨⟨hc, hf⟩, hc', hf'⟩ := hw'.all; unfold Oper.quietAt; go_simp; exact K.ext_call hw' (toPoint_any _ _ _)
  simp only [Act.put, List.setIfInBounds_toArray, List.set]
  apply K.qcons
  · rfl
  · intro w' hw'; obtain ⟨⟨hc, hf⟩, hc', hf'⟩ := hw'.all; unfold Oper.quietAt; go_simp; exact K.ext_call hw' (spec_AreInLine a b c _)
  simp only [Act.put, List.setIfInBounds_toArray, List.set]
  apply K.qcons
  · rfl
  · intro w' hw'; obtain ⟨⟨hc, hf⟩, hc', hf'⟩ := hw'.all; unfold Oper.quietAt; go_simp; first | done | rfl | exact ⟨rfl, rfl⟩
  simp only [Act.put, List.setIfInBounds_toArray, List.set]
  apply K.qcons
  · rfl
  · intro w' hw'; obtain ⟨⟨hc, hf⟩, hc', hf'⟩ := hw'.all; unfold Oper.quietAt; go_simp; first | done | rfl | exact ⟨rfl, rfl⟩
  simp only [Act.put, List.setIfInBounds_toArray, List.set]
  apply K.qcons
  · rfl
  · intro w' hw'; obtain ⟨⟨hc, hf⟩, hc', hf'⟩ := hw'.all; unfold Oper.quietAt; go_simp; first | done | rfl | exact ⟨rfl, rfl⟩
  simp only [Act.put, List.setIfInBounds_toArray, List.set]
  apply K.qcons
  · rfl
  · intro w' hw'; obtain ⟨⟨hc, hf⟩, hc', hf'⟩ := hw'.all; unfold Oper.quietAt; go_simp; first | done | rfl | exact ⟨rfl, rfl⟩
  simp only [Act.put, List.setIfInBounds_toArray, List.set]
  apply K.qcons
  · rfl
  · intro w' hw'; obtain ⟨⟨hc, hf⟩, hc', hf'⟩ := hw'.all; unfold Oper.quietAt; go_simp; first | done | rfl | exact ⟨rfl, rfl⟩
  simp only [Act.put, List.setIfInBounds_toArray, List.set]
  refine wpQuiet_nil ?_
  intro w1 hx1
  obtain ⟨⟨hcw1, hfw1⟩, hc'w1, hf'w1⟩ := hx1.all
  have c_w1_0_0 : w1.cell? ⟨w.heap.size, 0, none⟩ = some (.int .i64 (a.1)) := hx1.cell_of (by go_simp); have f_w1_0_0 : w1.frozen? ⟨w.heap.size, 0, none⟩ = false := hx1.thaw_of (by go_simp) (by go_simp); have c_w1_0_1 : w1.cell? ⟨w.heap.size, 1, none⟩ = some (.int .i64 (a.2)) := hx1.cell_of (by go_simp); have f_w1_0_1 : w1.frozen? ⟨w.heap.size, 1, none⟩ = false := hx1.thaw_of (by go_simp) (by go_simp); have c_w1_1_0 : w1.cell? ⟨w.heap.size + 1, 0, none⟩ = some (.int .i64 (b.1)) := hx1.cell_of (by go_simp); have f_w1_1_0 : w1.frozen? ⟨w.heap.size + 1, 0, none⟩ = false := hx1.thaw_of (by go_simp) (by go_simp); have c_w1_1_1 : w1.cell? ⟨w.heap.size + 1, 1, none⟩ = some (.int .i64 (b.2)) := hx1.cell_of (by go_simp); have f_w1_1_1 : w1.frozen? ⟨w.heap.size + 1, 1, none⟩ = false := hx1.thaw_of (by go_simp) (by go_simp); have c_w1_2_0 : w1.cell? ⟨w.heap.size + 1 + 1, 0, none⟩ = some (.int .i64 (c.1)) := hx1.cell_of (by go_simp); have f_w1_2_0 : w1.frozen? ⟨w.heap.size + 1 + 1, 0, none⟩ = false := hx1.thaw_of (by go_simp) (by go_simp); have c_w1_2_1 : w1.cell? ⟨w.heap.size + 1 + 1, 1, none⟩ = some (.int .i64 (c.2)) := hx1.cell_of (by go_simp); have f_w1_2_1 : w1.frozen? ⟨w.heap.size + 1 + 1, 1, none⟩ = false := hx1.thaw_of (by go_simp) (by go_simp)
  go_wp2_with fail
  refine K.wp_region_ext (by kernel_rfl) (by kernel_rfl) ?_
  apply K.qcons
  · rfl
  · intro w' hw'; obtain ⟨⟨hc, hf⟩, hc', hf'⟩ := hw'.all; unfold Oper.quietAt; go_simp; first | done | rfl | exact ⟨rfl, rfl⟩
  simp only [Act.put, List.setIfInBounds_toArray, List.set]
  apply K.qcons
  · rfl
  · intro w' hw'; obtain ⟨⟨hc, hf⟩, hc', hf'⟩ := hw'.all; unfold Oper.quietAt; go_simp; exact K.ext_call hw' (toPoint_any _ _ _)
  simp only [Act.put, List.setIfInBounds_toArray, List.set]
  apply K.qcons
  · rfl
  · intro w' hw'; obtain ⟨⟨hc, hf⟩, hc', hf'⟩ := hw'.all; unfold Oper.quietAt; go_simp; first | done | rfl | exact ⟨rfl, rfl⟩
  simp only [Act.put, List.setIfInBounds_toArray, List.set]
  apply K.qcons
  · rfl
  · intro w' hw'; obtain ⟨⟨hc, hf⟩, hc', hf'⟩ := hw'.all; unfold Oper.quietAt; go_simp; exact K.ext_call hw' (toPoint_any _ _ _)
  simp only [Act.put, List.setIfInBounds_toArray, List.set]
  apply K.qcons
  · rfl
  · intro w' hw'; obtain ⟨⟨hc, hf⟩, hc', hf'⟩ := hw'.all; unfold Oper.quietAt; go_simp; first | done | rfl | exact ⟨rfl, rfl⟩
  simp only [Act.put, List.setIfInBounds_toArray, List.set]
  apply K.qcons
  · rfl
  · intro w' hw'; obtain ⟨⟨hc, hf⟩, hc', hf'⟩ := hw'.all; unfold Oper.quietAt; go_simp; exact K.ext_call hw' (toPoint_any _ _ _)
  simp only [Act.put, List.setIfInBounds_toArray, List.set]
  apply K.qcons
  · rfl
  · intro w' hw'; obtain ⟨⟨hc, hf⟩, hc', hf'⟩ := hw'.all; unfold Oper.quietAt; go_simp; exact K.ext_call hw' (impl_AreInLine a b c _)
  simp only [Act.put, List.setIfInBounds_toArray, List.set]
  apply K.qcons
  · rfl
  · intro w' hw'; obtain ⟨⟨hc, hf⟩, hc', hf'⟩ := hw'.all; unfold Oper.quietAt; go_simp; first | done | rfl | exact ⟨rfl, rfl⟩
  simp only [Act.put, List.setIfInBounds_toArray, List.set]
  apply K.qcons
  · rfl
  · intro w' hw'; obtain ⟨⟨hc, hf⟩, hc', hf'⟩ := hw'.all; unfold Oper.quietAt; go_simp; first | done | rfl | exact ⟨rfl, rfl⟩
  simp only [Act.put, List.setIfInBounds_toArray, List.set]
  apply K.qcons
  · rfl
  · intro w' hw'; obtain ⟨⟨hc, hf⟩, hc', hf'⟩ := hw'.all; unfold Oper.quietAt; go_simp; first | done | rfl | exact ⟨rfl, rfl⟩
  simp only [Act.put, List.setIfInBounds_toArray, List.set]
  apply K.qcons
  · rfl
  · intro w' hw'; obtain ⟨⟨hc, hf⟩, hc', hf'⟩ := hw'.all; unfold Oper.quietAt; go_simp; first | done | rfl | exact ⟨rfl, rfl⟩
  simp only [Act.put, List.setIfInBounds_toArray, List.set]
  apply K.qcons
  · rfl
  · intro w' hw'; obtain ⟨⟨hc, hf⟩, hc', hf'⟩ := hw'.all; unfold Oper.quietAt; go_simp; first | done | rfl | exact ⟨rfl, rfl⟩
  simp only [Act.put, List.setIfInBounds_toArray, List.set]
  refine wpQuiet_nil ?_
  intro w2 hx2
  obtain ⟨⟨hcw2, hfw2⟩, hc'w2, hf'w2⟩ := hx2.all
  go_wp2_with fail
  go_ret
  exact ⟨rfl, (by repeat' (first | exact K.Ext.refl _ | assumption | apply K.Ext.drew | refine K.Ext.alloc ?_ _ | refine K.Ext.setCell ?_ ?_ _ | (simp; done) | (simp; omega) | omega | refine K.Ext.trans ?_ (by assumption)))⟩
theorem law_FnExactHeightAt (a b : Z.Pt) (x : Int) (w : World) :
    Calls Try.prog 7 #[.agg #[.int .i64 a.1, .int .i64 a.2], .agg #[.int .i64 b.1, .int .i64 b.2], .int .i64 x] w fun e w' => e = .returned (.bool true) ∧ K.Ext w w' := by
  go_enter Try.func7, Try.ntmps7
  go_wp2_with fail
  refine K.wp_region_ext (by kernel_rfl) (by kernel_rfl) ?_
  apply K.qcons
  · rfl
  · intro w' hw'; obtain ⟨⟨hc, hf⟩, hc', hf'⟩ := hw'.all; unfold Oper.quietAt; go_simp; first | done | rfl | exact ⟨rfl, rfl⟩
  simp only [Act.put, List.setIfInBounds_toArray, List.set]
  apply K.qcons
  · rfl
  · intro w' hw'; obtain ⟨⟨hc, hf⟩, hc', hf'⟩ := hw'.all; unfold Oper.quietAt; go_simp; exact K.ext_call hw' (toPoint_any _ _ _)
  simp only [Act.put, List.setIfInBounds_toArray, List.set]
  apply K.qcons
  · rfl
  · intro w' hw'; obtain ⟨⟨hc, hf⟩, hc', hf'⟩ := hw'.all; unfold Oper.quietAt; go_simp; first | done | rfl | exact ⟨rfl, rfl⟩
  simp only [Act.put, List.setIfInBounds_toArray, List.set]
  apply K.qcons
  · rfl
  · intro w' hw'; obtain ⟨⟨hc, hf⟩, hc', hf'⟩ := hw'.all; unfold Oper.quietAt; go_simp; exact K.ext_call hw' (toPoint_any _ _ _)
  simp only [Act.put, List.setIfInBounds_toArray, List.set]
  apply K.qcons
  · rfl
  · intro w' hw'; obtain ⟨⟨hc, hf⟩, hc', hf'⟩ := hw'.all; unfold Oper.quietAt; go_simp; first | done | rfl | exact ⟨rfl, rfl⟩
  simp only [Act.put, List.setIfInBounds_toArray, List.set]
  apply K.qcons
  · rfl
  · intro w' hw'; obtain ⟨⟨hc, hf⟩, hc', hf'⟩ := hw'.all; unfold Oper.quietAt; go_simp; exact K.ext_call hw' (spec_HeightAt a b x _)
  simp only [Act.put, List.setIfInBounds_toArray, List.set]
  apply K.qcons
  · rfl
  · intro w' hw'; obtain ⟨⟨hc, hf⟩, hc', hf'⟩ := hw'.all; unfold Oper.quietAt; go_simp; first | done | rfl | exact ⟨rfl, rfl⟩
  simp only [Act.put, List.setIfInBounds_toArray, List.set]
  apply K.qcons
  · rfl
  · intro w' hw'; obtain ⟨⟨hc, hf⟩, hc', hf'⟩ := hw'.all; unfold Oper.quietAt; go_simp; first | done | rfl | exact ⟨rfl, rfl⟩
  simp only [Act.put, List.setIfInBounds_toArray, List.set]
  apply K.qcons
  · rfl
  · intro w' hw'; obtain ⟨⟨hc, hf⟩, hc', hf'⟩ := hw'.all; unfold Oper.quietAt; go_simp; first | done | rfl | exact ⟨rfl, rfl⟩
  simp only [Act.put, List.setIfInBounds_toArray, List.set]
  apply K.qcons
  · rfl
  · intro w' hw'; obtain ⟨⟨hc, hf⟩, hc', hf'⟩ := hw'.all; unfold Oper.quietAt; go_simp; first | done | rfl | exact ⟨rfl, rfl⟩
  simp only [Act.put, List.setIfInBounds_toArray, List.set]
  apply K.qcons
  · rfl
  · intro w' hw'; obtain ⟨⟨hc, hf⟩, hc', hf'⟩ := hw'.all; unfold Oper.quietAt; go_simp; first | done | rfl | exact ⟨rfl, rfl⟩
  simp only [Act.put, List.setIfInBounds_toArray, List.set]
  apply K.qcons
  · rfl
  · intro w' hw'; obtain ⟨⟨hc, hf⟩, hc', hf'⟩ := hw'.all; unfold Oper.quietAt; go_simp; first | done | rfl | exact ⟨rfl, rfl⟩
  simp only [Act.put, List.setIfInBounds_toArray, List.set]
  apply K.qcons
  · rfl
  · intro w' hw'; obtain ⟨⟨hc, hf⟩, hc', hf'⟩ := hw'.all; unfold Oper.quietAt; go_simp; first | done | rfl | exact ⟨rfl, rfl⟩
  simp only [Act.put, List.setIfInBounds_toArray, List.set]
  refine wpQuiet_nil ?_
  intro w1 hx1
  obtain ⟨⟨hcw1, hfw1⟩, hc'w1, hf'w1⟩ := hx1.all
  have c_w1_0_0 : w1.cell? ⟨w.heap.size, 0, none⟩ = some (.int .i64 (a.1)) := hx1.cell_of (by go_simp); have f_w1_0_0 : w1.frozen? ⟨w.heap.size, 0, none⟩ = false := hx1.thaw_of (by go_simp) (by go_simp); have c_w1_0_1 : w1.cell? ⟨w.heap.size, 1, none⟩ = some (.int .i64 (a.2)) := hx1.cell_of (by go_simp); have f_w1_0_1 : w1.frozen? ⟨w.heap.size, 1, none⟩ = false := hx1.thaw_of (by go_simp) (by go_simp); have c_w1_1_0 : w1.cell? ⟨w.heap.size + 1, 0, none⟩ = some (.int .i64 (b.1)) := hx1.cell_of (by go_simp); have f_w1_1_0 : w1.frozen? ⟨w.heap.size + 1, 0, none⟩ = false := hx1.thaw_of (by go_simp) (by go_simp); have c_w1_1_1 : w1.cell? ⟨w.heap.size + 1, 1, none⟩ = some (.int .i64 (b.2)) := hx1.cell_of (by go_simp); have f_w1_1_1 : w1.frozen? ⟨w.heap.size + 1, 1, none⟩ = false := hx1.thaw_of (by go_simp) (by go_simp)
  go_wp2_with fail
  refine K.wp_region_ext (by kernel_rfl) (by kernel_rfl) ?_
  apply K.qcons
  · rfl
  · intro w' hw'; obtain ⟨⟨hc, hf⟩, hc', hf'⟩ := hw'.all; unfold Oper.quietAt; go_simp; first | done | rfl | exact ⟨rfl, rfl⟩
  simp only [Act.put, List.setIfInBounds_toArray, List.set]
  apply K.qcons
  · rfl
  · intro w' hw'; obtain ⟨⟨hc, hf⟩, hc', hf'⟩ := hw'.all; unfold Oper.quietAt; go_simp; exact K.ext_call hw' (toPoint_any _ _ _)
  simp only [Act.put, List.setIfInBounds_toArray, List.set]
  apply K.qcons
  · rfl
  · intro w' hw'; obtain ⟨⟨hc, hf⟩, hc', hf'⟩ := hw'.all; unfold Oper.quietAt; go_simp; first | done | rfl | exact ⟨rfl, rfl⟩
  simp only [Act.put, List.setIfInBounds_toArray, List.set]
  apply K.qcons
  · rfl
  · intro w' hw'; obtain ⟨⟨hc, hf⟩, hc', hf'⟩ := hw'.all; unfold Oper.quietAt; go_simp; exact K.ext_call hw' (toPoint_any _ _ _)
  simp only [Act.put, List.setIfInBounds_toArray, List.set]
  apply K.qcons
  · rfl
  · intro w' hw'; obtain ⟨⟨hc, hf⟩, hc', hf'⟩ := hw'.all; unfold Oper.quietAt; go_simp; first | done | rfl | exact ⟨rfl, rfl⟩
  simp only [Act.put, List.setIfInBounds_toArray, List.set]
  apply K.qcons
  · rfl
  · intro w' hw'; obtain ⟨⟨hc, hf⟩, hc', hf'⟩ := hw'.all; unfold Oper.quietAt; go_simp; exact K.ext_call hw' (impl_HeightAt a b x _)
  simp only [Act.put, List.setIfInBounds_toArray, List.set]
  apply K.qcons
  · rfl
  · intro w' hw'; obtain ⟨⟨hc, hf⟩, hc', hf'⟩ := hw'.all; unfold Oper.quietAt; go_simp; first | done | rfl | exact ⟨rfl, rfl⟩
  simp only [Act.put, List.setIfInBounds_toArray, List.set]
  apply K.qcons
  · rfl
  · intro w' hw'; obtain ⟨⟨hc, hf⟩, hc', hf'⟩ := hw'.all; unfold Oper.quietAt; go_simp; first | done | rfl | exact ⟨rfl, rfl⟩
  simp only [Act.put, List.setIfInBounds_toArray, List.set]
  apply K.qcons
  · rfl
  · intro w' hw'; obtain ⟨⟨hc, hf⟩, hc', hf'⟩ := hw'.all; unfold Oper.quietAt; go_simp; first | done | rfl | exact ⟨rfl, rfl⟩
  simp only [Act.put, List.setIfInBounds_toArray, List.set]
  apply K.qcons
  · rfl
  · intro w' hw'; obtain ⟨⟨hc, hf⟩, hc', hf'⟩ := hw'.all; unfold Oper.quietAt; go_simp; first | done | rfl | exact ⟨rfl, rfl⟩
  simp only [Act.put, List.setIfInBounds_toArray, List.set]
  apply K.qcons
  · rfl
  · intro w' hw'; obtain ⟨⟨hc, hf⟩, hc', hf'⟩ := hw'.all; unfold Oper.quietAt; go_simp; first | done | rfl | exact ⟨rfl, rfl⟩
  simp only [Act.put, List.setIfInBounds_toArray, List.set]
  apply K.qcons
  · rfl
  · intro w' hw'; obtain ⟨⟨hc, hf⟩, hc', hf'⟩ := hw'.all; unfold Oper.quietAt; go_simp; first | done | rfl | exact ⟨rfl, rfl⟩
  simp only [Act.put, List.setIfInBounds_toArray, List.set]
  apply K.qcons
  · rfl
  · intro w' hw'; obtain ⟨⟨hc, hf⟩, hc', hf'⟩ := hw'.all; unfold Oper.quietAt; go_simp; first | done | rfl | exact ⟨rfl, rfl⟩
  simp only [Act.put, List.setIfInBounds_toArray, List.set]
  refine wpQuiet_nil ?_
  intro w2 hx2
  obtain ⟨⟨hcw2, hfw2⟩, hc'w2, hf'w2⟩ := hx2.all
  go_wp2_with fail
  go_ret
  exact ⟨rfl, (by repeat' (first | exact K.Ext.refl _ | assumption | apply K.Ext.drew | refine K.Ext.alloc ?_ _ | refine K.Ext.setCell ?_ ?_ _ | (simp; done) | (simp; omega) | omega | refine K.Ext.trans ?_ (by assumption)))⟩
theorem law_FnExactDeviationOf (p a b : Z.Pt) (w : World) :
    Calls Try.prog 8 #[.agg #[.int .i64 p.1, .int .i64 p.2], .agg #[.int .i64 a.1, .int .i64 a.2], .agg #[.int .i64 b.1, .int .i64 b.2]] w fun e w' => e = .returned (.bool true) ∧ K.Ext w w' := by
  go_enter Try.func8, Try.ntmps8
  go_wp2_with fail
  refine K.wp_region_ext (by kernel_rfl) (by kernel_rfl) ?_
  apply K.qcons
  · rfl
  · intro w' hw'; obtain ⟨⟨hc, hf⟩, hc', hf'⟩ := hw'.all; unfold Oper.quietAt; go_simp; first | done | rfl | exact ⟨rfl, rfl⟩
  simp only [Act.put, List.setIfInBounds_toArray, List.set]
  apply K.qcons
  · rfl
  · intro w' hw'; obtain ⟨⟨hc, hf⟩, hc', hf'⟩ := hw'.all; unfold Oper.quietAt; go_simp; exact K.ext_call hw' (toPoint_any _ _ _)
  simp only [Act.put, List.setIfInBounds_toArray, List.set]
  apply K.qcons
  · rfl
  · intro w' hw'; obtain ⟨⟨hc, hf⟩, hc', hf'⟩ := hw'.all; unfold Oper.quietAt; go_simp; first | done | rfl | exact ⟨rfl, rfl⟩
  simp only [Act.put, List.setIfInBounds_toArray, List.set]
  apply K.qcons
  · rfl
  · intro w' hw'; obtain ⟨⟨hc, hf⟩, hc', hf'⟩ := hw'.all; unfold Oper.quietAt; go_simp; exact K.ext_call hw' (toPoint_any _ _ _)
  simp only [Act.put, List.setIfInBounds_toArray, List.set]
  apply K.qcons
  · rfl
  · intro w' hw'; obtain ⟨⟨hc, hf⟩, hc', hf'⟩ := hw'.all; unfold Oper.quietAt; go_simp; first | done | rfl | exact ⟨rfl, rfl⟩
  simp only [Act.put, List.setIfInBounds_toArray, List.set]
  apply K.qcons
  · rfl
  · intro w' hw'; obtain ⟨⟨hc, hf⟩, hc', hf'⟩ := hw'.all; unfold Oper.quietAt; go_simp; exact K.ext_call hw' (toPoint_any _ _ _)
  simp only [Act.put, List.setIfInBounds_toArray, List.set]
  apply K.qcons
  · rfl
  · intro w' hw'; obtain ⟨⟨hc, hf⟩, hc', hf'⟩ := hw'.all; unfold Oper.quietAt; go_simp; exact K.ext_call hw' (spec_DeviationOf p a b _)
  simp only [Act.put, List.setIfInBounds_toArray, List.set]
  apply K.qcons
  · rfl
  · intro w' hw'; obtain ⟨⟨hc, hf⟩, hc', hf'⟩ := hw'.all; unfold Oper.quietAt; go_simp; first | done | rfl | exact ⟨rfl, rfl⟩
  simp only [Act.put, List.setIfInBounds_toArray, List.set]
  apply K.qcons
  · rfl
  · intro w' hw'; obtain ⟨⟨hc, hf⟩, hc', hf'⟩ := hw'.all; unfold Oper.quietAt; go_simp; first | done | rfl | exact ⟨rfl, rfl⟩
  simp only [Act.put, List.setIfInBounds_toArray, List.set]
  apply K.qcons
  · rfl
  · intro w' hw'; obtain ⟨⟨hc, hf⟩, hc', hf'⟩ := hw'.all; unfold Oper.quietAt; go_simp; first | done | rfl | exact ⟨rfl, rfl⟩
  simp only [Act.put, List.setIfInBounds_toArray, List.set]
  apply K.qcons
  · rfl
  · intro w' hw'; obtain ⟨⟨hc, hf⟩, hc', hf'⟩ := hw'.all; unfold Oper.quietAt; go_simp; first | done | rfl | exact ⟨rfl, rfl⟩
  simp only [Act.put, List.setIfInBounds_toArray, List.set]
  apply K.qcons
  · rfl
  · intro w' hw'; obtain ⟨⟨hc, hf⟩, hc', hf'⟩ := hw'.all; unfold Oper.quietAt; go_simp; first | done | rfl | exact ⟨rfl, rfl⟩
  simp only [Act.put, List.setIfInBounds_toArray, List.set]
  refine wpQuiet_nil ?_
  intro w1 hx1
  obtain ⟨⟨hcw1, hfw1⟩, hc'w1, hf'w1⟩ := hx1.all
  have c_w1_0_0 : w1.cell? ⟨w.heap.size, 0, none⟩ = some (.int .i64 (p.1)) := hx1.cell_of (by go_simp); have f_w1_0_0 : w1.frozen? ⟨w.heap.size, 0, none⟩ = false := hx1.thaw_of (by go_simp) (by go_simp); have c_w1_0_1 : w1.cell? ⟨w.heap.size, 1, none⟩ = some (.int .i64 (p.2)) := hx1.cell_of (by go_simp); have f_w1_0_1 : w1.frozen? ⟨w.heap.size, 1, none⟩ = false := hx1.thaw_of (by go_simp) (by go_simp); have c_w1_1_0 : w1.cell? ⟨w.heap.size + 1, 0, none⟩ = some (.int .i64 (a.1)) := hx1.cell_of (by go_simp); have f_w1_1_0 : w1.frozen? ⟨w.heap.size + 1, 0, none⟩ = false := hx1.thaw_of (by go_simp) (by go_simp); have c_w1_1_1 : w1.cell? ⟨w.heap.size + 1, 1, none⟩ = some (.int .i64 (a.2)) := hx1.cell_of (by go_simp); have f_w1_1_1 : w1.frozen? ⟨w.heap.size + 1, 1, none⟩ = false := hx1.thaw_of (by go_simp) (by go_simp); have c_w1_2_0 : w1.cell? ⟨w.heap.size + 1 + 1, 0, none⟩ = some (.int .i64 (b.1)) := hx1.cell_of (by go_simp); have f_w1_2_0 : w1.frozen? ⟨w.heap.size + 1 + 1, 0, none⟩ = false := hx1.thaw_of (by go_simp) (by go_simp); have c_w1_2_1 : w1.cell? ⟨w.heap.size + 1 + 1, 1, none⟩ = some (.int .i64 (b.2)) := hx1.cell_of (by go_simp); have f_w1_2_1 : w1.frozen? ⟨w.heap.size + 1 + 1, 1, none⟩ = false := hx1.thaw_of (by go_simp) (by go_simp)
  go_wp2_with fail
  refine K.wp_region_ext (by kernel_rfl) (by kernel_rfl) ?_
  apply K.qcons
  · rfl
  · intro w' hw'; obtain ⟨⟨hc, hf⟩, hc', hf'⟩ := hw'.all; unfold Oper.quietAt; go_simp; first | done | rfl | exact ⟨rfl, rfl⟩
  simp only [Act.put, List.setIfInBounds_toArray, List.set]
  apply K.qcons
  · rfl
  · intro w' hw'; obtain ⟨⟨hc, hf⟩, hc', hf'⟩ := hw'.all; unfold Oper.quietAt; go_simp; exact K.ext_call hw' (toPoint_any _ _ _)
  simp only [Act.put, List.setIfInBounds_toArray, List.set]
  apply K.qcons
  · rfl
  · intro w' hw'; obtain ⟨⟨hc, hf⟩, hc', hf'⟩ := hw'.all; unfold Oper.quietAt; go_simp; first | done | rfl | exact ⟨rfl, rfl⟩
  simp only [Act.put, List.setIfInBounds_toArray, List.set]
  apply K.qcons
  · rfl
  · intro w' hw'; obtain ⟨⟨hc, hf⟩, hc', hf'⟩ := hw'.all; unfold Oper.quietAt; go_simp; exact K.ext_call hw' (toPoint_any _ _ _)
  simp only [Act.put, List.setIfInBounds_toArray, List.set]
  apply K.qcons
  · rfl
  · intro w' hw'; obtain ⟨⟨hc, hf⟩, hc', hf'⟩ := hw'.all; unfold Oper.quietAt; go_simp; first | done | rfl | exact ⟨rfl, rfl⟩
  simp only [Act.put, List.setIfInBounds_toArray, List.set]
  apply K.qcons
  · rfl
  · intro w' hw'; obtain ⟨⟨hc, hf⟩, hc', hf'⟩ := hw'.all; unfold Oper.quietAt; go_simp; exact K.ext_call hw' (toPoint_any _ _ _)
  simp only [Act.put, List.setIfInBounds_toArray, List.set]
  apply K.qcons
  · rfl
  · intro w' hw'; obtain ⟨⟨hc, hf⟩, hc', hf'⟩ := hw'.all; unfold Oper.quietAt; go_simp; exact K.ext_call hw' (impl_DeviationOf p a b _)
  simp only [Act.put, List.setIfInBounds_toArray, List.set]
  apply K.qcons
  · rfl
  · intro w' hw'; obtain ⟨⟨hc, hf⟩, hc', hf'⟩ := hw'.all; unfold Oper.quietAt; go_simp; first | done | rfl | exact ⟨rfl, rfl⟩
  simp only [Act.put, List.setIfInBounds_toArray, List.set]
  apply K.qcons
  · rfl
  · intro w' hw'; obtain ⟨⟨hc, hf⟩, hc', hf'⟩ := hw'.all; unfold Oper.quietAt; go_simp; first | done | rfl | exact ⟨rfl, rfl⟩
  simp only [Act.put, List.setIfInBounds_toArray, List.set]
  apply K.qcons
  · rfl
  · intro w' hw'; obtain ⟨⟨hc, hf⟩, hc', hf'⟩ := hw'.all; unfold Oper.quietAt; go_simp; first | done | rfl | exact ⟨rfl, rfl⟩
  simp only [Act.put, List.setIfInBounds_toArray, List.set]
  apply K.qcons
  · rfl
  · intro w' hw'; obtain ⟨⟨hc, hf⟩, hc', hf'⟩ := hw'.all; unfold Oper.quietAt; go_simp; first | done | rfl | exact ⟨rfl, rfl⟩
  simp only [Act.put, List.setIfInBounds_toArray, List.set]
  apply K.qcons
  · rfl
  · intro w' hw'; obtain ⟨⟨hc, hf⟩, hc', hf'⟩ := hw'.all; unfold Oper.quietAt; go_simp; first | done | rfl | exact ⟨rfl, rfl⟩
  simp only [Act.put, List.setIfInBounds_toArray, List.set]
  refine wpQuiet_nil ?_
  intro w2 hx2
  obtain ⟨⟨hcw2, hfw2⟩, hc'w2, hf'w2⟩ := hx2.all
  go_wp2_with fail
  go_ret
  exact ⟨rfl, (by repeat' (first | exact K.Ext.refl _ | assumption | apply K.Ext.drew | refine K.Ext.alloc ?_ _ | refine K.Ext.setCell ?_ ?_ _ | (simp; done) | (simp; omega) | omega | refine K.Ext.trans ?_ (by assumption)))⟩
end Go.Proofs.Ytgccknicmfopdaa
