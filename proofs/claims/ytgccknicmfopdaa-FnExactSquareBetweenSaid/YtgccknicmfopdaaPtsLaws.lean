/-
  THE LAWS OVER POINTS: walks.
-/
import Derived.Test.YtgccknicmfopdaaPts
set_option linter.unusedVariables false
namespace Go.Proofs.Ytgccknicmfopdaa
open Go.RowKit

theorem law_FnExactSquareBetween (a b : Z.Pt) (w : World) :
    Calls Try.prog 3 #[.agg #[.int .i64 a.1, .int .i64 a.2], .agg #[.int .i64 b.1, .int .i64 b.2]] w fun e w' => e = .returned (.bool true) ∧ K.Ext w w' := by
  go_enter Try.func3, Try.ntmps3
  go_wp2_with fail
  refine K.wp_region_ext (by kernel_rfl) (by kernel_rfl) ?_
  iterate 10
    apply K.qcons
    · rfl
    · intro w' hw'
      obtain ⟨hc, hf⟩ := hw'.facts
      unfold Oper.quietAt
      go_simp
      first | rfl | exact K.ext_call hw' (toPoint_any _ _ _) | exact K.ext_call hw' (spec_SquareBetween _ _ _)
    simp only [Act.put, List.setIfInBounds_toArray, List.set]
  refine wpQuiet_nil ?_
  intro w1 hw1
  obtain ⟨hc1, hf1⟩ := hw1.facts
  have c_w1_0_0 : w1.cell? ⟨w.heap.size, 0, none⟩ = some (.int .i64 (a.1)) := hw1.cell_of (by go_simp); have f_w1_0_0 : w1.frozen? ⟨w.heap.size, 0, none⟩ = false := hw1.thaw_of (by go_simp) (by go_simp); have c_w1_0_1 : w1.cell? ⟨w.heap.size, 1, none⟩ = some (.int .i64 (a.2)) := hw1.cell_of (by go_simp); have f_w1_0_1 : w1.frozen? ⟨w.heap.size, 1, none⟩ = false := hw1.thaw_of (by go_simp) (by go_simp); have c_w1_1_0 : w1.cell? ⟨w.heap.size + 1, 0, none⟩ = some (.int .i64 (b.1)) := hw1.cell_of (by go_simp); have f_w1_1_0 : w1.frozen? ⟨w.heap.size + 1, 0, none⟩ = false := hw1.thaw_of (by go_simp) (by go_simp); have c_w1_1_1 : w1.cell? ⟨w.heap.size + 1, 1, none⟩ = some (.int .i64 (b.2)) := hw1.cell_of (by go_simp); have f_w1_1_1 : w1.frozen? ⟨w.heap.size + 1, 1, none⟩ = false := hw1.thaw_of (by go_simp) (by go_simp)
  go_wp2_with fail
  refine K.wp_region_ext (by kernel_rfl) (by kernel_rfl) ?_
  iterate 10
    apply K.qcons
    · rfl
    · intro w' hw'
      obtain ⟨⟨hc, hf⟩, hc', hf'⟩ := hw'.all
      unfold Oper.quietAt
      go_simp
      first | rfl | exact K.ext_call hw' (toPoint_any _ _ _) | exact K.ext_call hw' (impl_SquareBetween _ _ _)
    simp only [Act.put, List.setIfInBounds_toArray, List.set]
  refine wpQuiet_nil ?_
  intro w2 hw2
  obtain ⟨hc2, hf2⟩ := hw2.facts
  go_wp2_with fail
  go_ret
  exact ⟨rfl, (by repeat' (first | exact K.Ext.refl _ | assumption | apply K.Ext.drew | refine K.Ext.alloc ?_ _ | refine K.Ext.setCell ?_ ?_ _ | (simp; done) | (simp; omega) | omega | refine K.Ext.trans ?_ (by assumption)))⟩
end Go.Proofs.Ytgccknicmfopdaa
