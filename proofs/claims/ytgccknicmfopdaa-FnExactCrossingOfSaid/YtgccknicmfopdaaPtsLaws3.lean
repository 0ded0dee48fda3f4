/-
  THE LAW ON CROSSINGS: its walk.
-/
import Derived.Test.YtgccknicmfopdaaCross2
set_option linter.unusedVariables false
namespace Go.Proofs.Ytgccknicmfopdaa
open Go.RowKit

theorem law_FnExactCrossingOf (a b c d : Z.Pt) (w : World) :
    Calls Try.prog 9 #[.agg #[.int .i64 a.1, .int .i64 a.2], .agg #[.int .i64 b.1, .int .i64 b.2], .agg #[.int .i64 c.1, .int .i64 c.2], .agg #[.int .i64 d.1, .int .i64 d.2]] w fun e w' => e = .returned (.bool true) ∧ K.Ext w w' := by
  go_enter Try.func9, Try.ntmps9
  go_wp2_with fail
  refine K.wp_region_x 13 [1, 2, 1, 2, 1, 2, 1, 2, 2, 0, 0, 0, 2] [K.SP.any, K.SP.is (.agg #[.int .i64 a.1, .int .i64 a.2]), K.SP.any, K.SP.is (.agg #[.int .i64 b.1, .int .i64 b.2]), K.SP.any, K.SP.is (.agg #[.int .i64 c.1, .int .i64 c.2]), K.SP.any, K.SP.is (.agg #[.int .i64 d.1, .int .i64 d.2]), K.SP.is (.tuple #[.agg #[.int .i64 (Z.CrossingOf a b c d).1.1, .int .i64 (Z.CrossingOf a b c d).1.2], .int .i64 (Z.CrossingOf a b c d).2]), K.SP.any, K.SP.any, K.SP.any, K.SP.new (w.heap.size + 4) (.cells #[.int .i64 0, .int .i64 0] 26)] (by kernel_rfl) (by kernel_rfl) ?_
  simp only [List.take_succ_cons, List.take_zero, List.drop_succ_cons, List.drop_zero]
  apply K.x_held
  · rfl
  · rfl
  · intro w' hx; obtain ⟨⟨hc, hf⟩, hc', hf'⟩ := hx.all; go_simp; first | done | rfl | exact ⟨rfl, rfl⟩
  simp only [Act.put, List.setIfInBounds_toArray, List.set]
  apply K.x_call_is
  · rfl
  · rfl
  · rfl
  · intro w'; go_simp; first | done | rfl | exact ⟨rfl, rfl⟩
  · intro w' hx hp; obtain ⟨⟨hc, hf⟩, hc', hf'⟩ := hx.all; exact toPoint_any _ _ _
  intro w_1_ hx_1_
  simp only [Act.put, List.setIfInBounds_toArray, List.set]
  apply K.x_held
  · rfl
  · rfl
  · intro w' hx; obtain ⟨⟨hc, hf⟩, hc', hf'⟩ := hx.all; go_simp; first | done | rfl | exact ⟨rfl, rfl⟩
  simp only [Act.put, List.setIfInBounds_toArray, List.set]
  apply K.x_call_is
  · rfl
  · rfl
  · rfl
  · intro w'; go_simp; first | done | rfl | exact ⟨rfl, rfl⟩
  · intro w' hx hp; obtain ⟨⟨hc, hf⟩, hc', hf'⟩ := hx.all; exact toPoint_any _ _ _
  intro w_3_ hx_3_
  simp only [Act.put, List.setIfInBounds_toArray, List.set]
  apply K.x_held
  · rfl
  · rfl
  · intro w' hx; obtain ⟨⟨hc, hf⟩, hc', hf'⟩ := hx.all; go_simp; first | done | rfl | exact ⟨rfl, rfl⟩
  simp only [Act.put, List.setIfInBounds_toArray, List.set]
  apply K.x_call_is
  · rfl
  · rfl
  · rfl
  · intro w'; go_simp; first | done | rfl | exact ⟨rfl, rfl⟩
  · intro w' hx hp; obtain ⟨⟨hc, hf⟩, hc', hf'⟩ := hx.all; exact toPoint_any _ _ _
  intro w_5_ hx_5_
  simp only [Act.put, List.setIfInBounds_toArray, List.set]
  apply K.x_held
  · rfl
  · rfl
  · intro w' hx; obtain ⟨⟨hc, hf⟩, hc', hf'⟩ := hx.all; go_simp; first | done | rfl | exact ⟨rfl, rfl⟩
  simp only [Act.put, List.setIfInBounds_toArray, List.set]
  apply K.x_call_is
  · rfl
  · rfl
  · rfl
  · intro w'; go_simp; first | done | rfl | exact ⟨rfl, rfl⟩
  · intro w' hx hp; obtain ⟨⟨hc, hf⟩, hc', hf'⟩ := hx.all; exact toPoint_any _ _ _
  intro w_7_ hx_7_
  simp only [Act.put, List.setIfInBounds_toArray, List.set]
  apply K.x_call_is
  · rfl
  · rfl
  · rfl
  · intro w'; go_simp; first | done | rfl | exact ⟨rfl, rfl⟩
  · intro w' hx hp; obtain ⟨⟨hc, hf⟩, hc', hf'⟩ := hx.all; exact spec_CrossingOf a b c d _
  intro w_8_ hx_8_
  simp only [Act.put, List.setIfInBounds_toArray, List.set]
  apply K.x_pure
  · rfl
  · rfl
  · intro w'; go_simp; first | done | rfl | exact ⟨rfl, rfl⟩
  simp only [Act.put, List.setIfInBounds_toArray, List.set]
  apply K.x_pure
  · rfl
  · rfl
  · intro w'; go_simp; first | done | rfl | exact ⟨rfl, rfl⟩
  simp only [Act.put, List.setIfInBounds_toArray, List.set]
  apply K.x_pure
  · rfl
  · rfl
  · intro w'; go_simp; first | done | rfl | exact ⟨rfl, rfl⟩
  simp only [Act.put, List.setIfInBounds_toArray, List.set]
  apply K.x_new
  · rfl
  · rfl
  · rfl
  · go_simp; first | done | omega
  · intro w'; go_simp; first | done | rfl | exact ⟨rfl, rfl⟩
  intro g1_12 w_12_ hx_12_ hg1_12 hb_12_
  simp only [Act.put, List.setIfInBounds_toArray, List.set]
  apply K.x_done
  intro w1 h_x
  have hx1 := hx_1_.trans (hx_3_.trans (hx_5_.trans (hx_7_.trans (hx_8_.trans (hx_12_.trans h_x)))))
  have hb1_12 := K.Ext.block (h_x) hb_12_
  have cg1_12_0 : w1.cell? ⟨g1_12, 0, none⟩ = some (.int .i64 0) := K.cell_at hb1_12 rfl
  have fg1_12_0 : w1.frozen? ⟨g1_12, 0, none⟩ = false := K.thaw_at hb1_12
  have cg1_12_1 : w1.cell? ⟨g1_12, 1, none⟩ = some (.int .i64 0) := K.cell_at hb1_12 rfl
  have fg1_12_1 : w1.frozen? ⟨g1_12, 1, none⟩ = false := K.thaw_at hb1_12
  clear h_x hx_1_ hx_3_ hx_5_ hx_7_ hx_8_ hx_12_
  obtain ⟨⟨hcw1, hfw1⟩, hc'w1, hf'w1⟩ := hx1.all
  have c_w1_0_0 : w1.cell? ⟨w.heap.size, 0, none⟩ = some (.int .i64 (a.1)) := hx1.cell_of (by go_simp); have f_w1_0_0 : w1.frozen? ⟨w.heap.size, 0, none⟩ = false := hx1.thaw_of (by go_simp) (by go_simp); have c_w1_0_1 : w1.cell? ⟨w.heap.size, 1, none⟩ = some (.int .i64 (a.2)) := hx1.cell_of (by go_simp); have f_w1_0_1 : w1.frozen? ⟨w.heap.size, 1, none⟩ = false := hx1.thaw_of (by go_simp) (by go_simp); have c_w1_1_0 : w1.cell? ⟨w.heap.size + 1, 0, none⟩ = some (.int .i64 (b.1)) := hx1.cell_of (by go_simp); have f_w1_1_0 : w1.frozen? ⟨w.heap.size + 1, 0, none⟩ = false := hx1.thaw_of (by go_simp) (by go_simp); have c_w1_1_1 : w1.cell? ⟨w.heap.size + 1, 1, none⟩ = some (.int .i64 (b.2)) := hx1.cell_of (by go_simp); have f_w1_1_1 : w1.frozen? ⟨w.heap.size + 1, 1, none⟩ = false := hx1.thaw_of (by go_simp) (by go_simp); have c_w1_2_0 : w1.cell? ⟨w.heap.size + 1 + 1, 0, none⟩ = some (.int .i64 (c.1)) := hx1.cell_of (by go_simp); have f_w1_2_0 : w1.frozen? ⟨w.heap.size + 1 + 1, 0, none⟩ = false := hx1.thaw_of (by go_simp) (by go_simp); have c_w1_2_1 : w1.cell? ⟨w.heap.size + 1 + 1, 1, none⟩ = some (.int .i64 (c.2)) := hx1.cell_of (by go_simp); have f_w1_2_1 : w1.frozen? ⟨w.heap.size + 1 + 1, 1, none⟩ = false := hx1.thaw_of (by go_simp) (by go_simp); have c_w1_3_0 : w1.cell? ⟨w.heap.size + 1 + 1 + 1, 0, none⟩ = some (.int .i64 (d.1)) := hx1.cell_of (by go_simp); have f_w1_3_0 : w1.frozen? ⟨w.heap.size + 1 + 1 + 1, 0, none⟩ = false := hx1.thaw_of (by go_simp) (by go_simp); have c_w1_3_1 : w1.cell? ⟨w.heap.size + 1 + 1 + 1, 1, none⟩ = some (.int .i64 (d.2)) := hx1.cell_of (by go_simp); have f_w1_3_1 : w1.frozen? ⟨w.heap.size + 1 + 1 + 1, 1, none⟩ = false := hx1.thaw_of (by go_simp) (by go_simp)
  have n0 : ¬ g1_12 = w.heap.size := by omega
  have n1 : ¬ g1_12 = w.heap.size + 1 := by omega
  have n2 : ¬ g1_12 = w.heap.size + 1 + 1 := by omega
  have n3 : ¬ g1_12 = w.heap.size + 1 + 1 + 1 := by omega
  have z1 : g1_12 < w1.heap.size := World.block_lt_of_cell? w1 _ cg1_12_0
  go_wp2_with fail
  refine NoPanic.normal ?_
  go_wp2_with fail
  refine K.wp_region_x 13 [1, 2, 1, 2, 1, 2, 1, 2, 2, 0, 0, 0, 2] [K.SP.any, K.SP.is (.agg #[.int .i64 a.1, .int .i64 a.2]), K.SP.any, K.SP.is (.agg #[.int .i64 b.1, .int .i64 b.2]), K.SP.any, K.SP.is (.agg #[.int .i64 c.1, .int .i64 c.2]), K.SP.any, K.SP.is (.agg #[.int .i64 d.1, .int .i64 d.2]), K.SP.is (.tuple #[.agg #[.int .i64 (Z.CrossingOf a b c d).1.1, .int .i64 (Z.CrossingOf a b c d).1.2], .int .i64 (Z.CrossingOf a b c d).2]), K.SP.any, K.SP.any, K.SP.any, K.SP.new (w1.heap.size) (.cells #[.int .i64 0, .int .i64 0] 26)] (by kernel_rfl) (by kernel_rfl) ?_
  simp only [List.take_succ_cons, List.take_zero, List.drop_succ_cons, List.drop_zero]
  apply K.x_held
  · rfl
  · rfl
  · intro w' hx; obtain ⟨⟨hc, hf⟩, hc', hf'⟩ := hx.all; go_simp; first | done | rfl | exact ⟨rfl, rfl⟩
  simp only [Act.put, List.setIfInBounds_toArray, List.set]
  apply K.x_call_is
  · rfl
  · rfl
  · rfl
  · intro w'; go_simp; first | done | rfl | exact ⟨rfl, rfl⟩
  · intro w' hx hp; obtain ⟨⟨hc, hf⟩, hc', hf'⟩ := hx.all; exact toPoint_any _ _ _
  intro w_1_ hx_1_
  simp only [Act.put, List.setIfInBounds_toArray, List.set]
  apply K.x_held
  · rfl
  · rfl
  · intro w' hx; obtain ⟨⟨hc, hf⟩, hc', hf'⟩ := hx.all; go_simp; first | done | rfl | exact ⟨rfl, rfl⟩
  simp only [Act.put, List.setIfInBounds_toArray, List.set]
  apply K.x_call_is
  · rfl
  · rfl
  · rfl
  · intro w'; go_simp; first | done | rfl | exact ⟨rfl, rfl⟩
  · intro w' hx hp; obtain ⟨⟨hc, hf⟩, hc', hf'⟩ := hx.all; exact toPoint_any _ _ _
  intro w_3_ hx_3_
  simp only [Act.put, List.setIfInBounds_toArray, List.set]
  apply K.x_held
  · rfl
  · rfl
  · intro w' hx; obtain ⟨⟨hc, hf⟩, hc', hf'⟩ := hx.all; go_simp; first | done | rfl | exact ⟨rfl, rfl⟩
  simp only [Act.put, List.setIfInBounds_toArray, List.set]
  apply K.x_call_is
  · rfl
  · rfl
  · rfl
  · intro w'; go_simp; first | done | rfl | exact ⟨rfl, rfl⟩
  · intro w' hx hp; obtain ⟨⟨hc, hf⟩, hc', hf'⟩ := hx.all; exact toPoint_any _ _ _
  intro w_5_ hx_5_
  simp only [Act.put, List.setIfInBounds_toArray, List.set]
  apply K.x_held
  · rfl
  · rfl
  · intro w' hx; obtain ⟨⟨hc, hf⟩, hc', hf'⟩ := hx.all; go_simp; first | done | rfl | exact ⟨rfl, rfl⟩
  simp only [Act.put, List.setIfInBounds_toArray, List.set]
  apply K.x_call_is
  · rfl
  · rfl
  · rfl
  · intro w'; go_simp; first | done | rfl | exact ⟨rfl, rfl⟩
  · intro w' hx hp; obtain ⟨⟨hc, hf⟩, hc', hf'⟩ := hx.all; exact toPoint_any _ _ _
  intro w_7_ hx_7_
  simp only [Act.put, List.setIfInBounds_toArray, List.set]
  apply K.x_call_is
  · rfl
  · rfl
  · rfl
  · intro w'; go_simp; first | done | rfl | exact ⟨rfl, rfl⟩
  · intro w' hx hp; obtain ⟨⟨hc, hf⟩, hc', hf'⟩ := hx.all; exact impl_CrossingOf a b c d _
  intro w_8_ hx_8_
  simp only [Act.put, List.setIfInBounds_toArray, List.set]
  apply K.x_pure
  · rfl
  · rfl
  · intro w'; go_simp; first | done | rfl | exact ⟨rfl, rfl⟩
  simp only [Act.put, List.setIfInBounds_toArray, List.set]
  apply K.x_pure
  · rfl
  · rfl
  · intro w'; go_simp; first | done | rfl | exact ⟨rfl, rfl⟩
  simp only [Act.put, List.setIfInBounds_toArray, List.set]
  apply K.x_pure
  · rfl
  · rfl
  · intro w'; go_simp; first | done | rfl | exact ⟨rfl, rfl⟩
  simp only [Act.put, List.setIfInBounds_toArray, List.set]
  apply K.x_new
  · rfl
  · rfl
  · rfl
  · go_simp; first | done | omega
  · intro w'; go_simp; first | done | rfl | exact ⟨rfl, rfl⟩
  intro g2_12 w_12_ hx_12_ hg2_12 hb_12_
  simp only [Act.put, List.setIfInBounds_toArray, List.set]
  apply K.x_done
  intro w2 h_x
  have hx2 := hx_1_.trans (hx_3_.trans (hx_5_.trans (hx_7_.trans (hx_8_.trans (hx_12_.trans h_x)))))
  have hb2_12 := K.Ext.block (h_x) hb_12_
  have cg2_12_0 : w2.cell? ⟨g2_12, 0, none⟩ = some (.int .i64 0) := K.cell_at hb2_12 rfl
  have fg2_12_0 : w2.frozen? ⟨g2_12, 0, none⟩ = false := K.thaw_at hb2_12
  have cg2_12_1 : w2.cell? ⟨g2_12, 1, none⟩ = some (.int .i64 0) := K.cell_at hb2_12 rfl
  have fg2_12_1 : w2.frozen? ⟨g2_12, 1, none⟩ = false := K.thaw_at hb2_12
  clear h_x hx_1_ hx_3_ hx_5_ hx_7_ hx_8_ hx_12_
  obtain ⟨⟨hcw2, hfw2⟩, hc'w2, hf'w2⟩ := hx2.all
  have k0 : w2.cell? ⟨g1_12, 0, none⟩ = some (.int .i64 (Z.CrossingOf a b c d).1.1) := hx2.cell_of (by go_simp)
  have k1 : w2.cell? ⟨g1_12, 1, none⟩ = some (.int .i64 (Z.CrossingOf a b c d).1.2) := hx2.cell_of (by go_simp)
  have n9 : ¬ g2_12 = g1_12 := by omega
  go_wp2_with fail
  refine NoPanic.normal ?_
  go_wp2_with (go_at_call 22; refine Calls.mono (eqPoint_same _ _ _) ?_; rintro e w3 ⟨rfl, hw3⟩; obtain ⟨hcw3, hfw3⟩ := hw3.facts)
  go_ret
  exact ⟨rfl, (by repeat' (first | exact K.Ext.refl _ | assumption | apply K.Ext.drew | refine K.Ext.alloc ?_ _ | refine K.Ext.setCell ?_ ?_ _ | (simp; done) | (simp; omega) | omega | refine K.Ext.trans ?_ (by assumption)))⟩
end Go.Proofs.Ytgccknicmfopdaa
