/-
  THE LAW FnAreas: its walk.
-/
import Derived.Test.YtgepjmfjeidbaaaDrP
import Derived.Test.YtgepjmfjeidbaaaBig
import Derived.Test.YtgepjmfjeidbaaaZArea
import Derived.Test.YtgepjmfjeidbaaaPts3
set_option linter.unusedVariables false
namespace Go.Proofs.Ytgepjmfjeidbaaa
open Go.RowKit
set_option maxRecDepth 100000 in
set_option maxHeartbeats 12800000 in
theorem law_FnAreas {n : Nat} {v : Value} (w : World) (h : K.byts w w.heap.size v n) :
    Calls Try.prog 4 #[v] w fun e w' => e = .returned (.bool true) ∧ K.Ext w w' := by
  have F0 : K.Ext w w := K.Ext.refl _
  rcases Nat.lt_or_ge 4096 n with hn | hn
  · go_enter Try.func4, Try.ntmps4
    go_wp2_with fail
    refine K.call (by with_reducible rfl) (by with_reducible rfl) (big_yes _ hn h) ?_
    rintro e w1 ⟨rfl, rfl⟩
    go_wp2_with fail
    go_ret
    exact ⟨rfl, F0⟩
  go_enter Try.func4, Try.ntmps4
  go_wp2_with fail
  refine K.call (by with_reducible rfl) (by with_reducible rfl) (big_no _ hn h) ?_
  rintro e w1 ⟨rfl, rfl⟩
  go_wp2_with fail
  refine K.call (by with_reducible rfl) (by with_reducible rfl) (DrawDoubleArea_any _ hn (K.le_ext (Nat.le_refl w.heap.size) (by repeat' (first | with_reducible exact F0 | with_reducible refine K.Ext.setCell ?_ ?_ _ | with_reducible refine K.Ext.alloc ?_ _ | with_reducible refine K.Ext.drew ?_ | (dsimp only; omega) | omega | (simp; omega)))) (h.ext (by repeat' (first | with_reducible exact F0 | with_reducible refine K.Ext.setCell ?_ ?_ _ | with_reducible refine K.Ext.alloc ?_ _ | with_reducible refine K.Ext.drew ?_ | (dsimp only; omega) | omega | (simp; omega))))) ?_
  rintro e w1 ⟨⟨a, b, c, rfl⟩, f1⟩
  have F1 : K.Ext w w1 := K.Ext.trans (by repeat' (first | with_reducible exact F0 | with_reducible refine K.Ext.setCell ?_ ?_ _ | with_reducible refine K.Ext.alloc ?_ _ | with_reducible refine K.Ext.drew ?_ | (dsimp only; omega) | omega | (simp; omega))) f1
  clear f1
  go_wp2_with fail
  refine K.call (by with_reducible rfl) (by with_reducible rfl) (impl_DoubleArea a b c _) ?_
  rintro e w2 ⟨rfl, f2⟩
  have F2 : K.Ext w w2 := K.Ext.trans (by repeat' (first | with_reducible exact F1 | with_reducible refine K.Ext.setCell ?_ ?_ _ | with_reducible refine K.Ext.alloc ?_ _ | with_reducible refine K.Ext.drew ?_ | (dsimp only; omega) | omega | (simp; omega))) f2
  have c2_0_0 : w2.cell? ⟨w1.heap.size, 0, none⟩ = some (.int .i64 a.1) := f2.cell_of (by go_simp)
  have c2_0_1 : w2.cell? ⟨w1.heap.size, 1, none⟩ = some (.int .i64 a.2) := f2.cell_of (by go_simp)
  have y2_0 : w1.heap.size < w2.heap.size := World.block_lt_of_cell? w2 _ c2_0_0
  have c2_1_0 : w2.cell? ⟨w1.heap.size + 1, 0, none⟩ = some (.int .i64 b.1) := f2.cell_of (by go_simp)
  have c2_1_1 : w2.cell? ⟨w1.heap.size + 1, 1, none⟩ = some (.int .i64 b.2) := f2.cell_of (by go_simp)
  have y2_1 : w1.heap.size + 1 < w2.heap.size := World.block_lt_of_cell? w2 _ c2_1_0
  have c2_2_0 : w2.cell? ⟨w1.heap.size + 1 + 1, 0, none⟩ = some (.int .i64 c.1) := f2.cell_of (by go_simp)
  have c2_2_1 : w2.cell? ⟨w1.heap.size + 1 + 1, 1, none⟩ = some (.int .i64 c.2) := f2.cell_of (by go_simp)
  have y2_2 : w1.heap.size + 1 + 1 < w2.heap.size := World.block_lt_of_cell? w2 _ c2_2_0
  clear F1 f2
  go_wp2_with fail
  refine K.call (by with_reducible rfl) (by with_reducible rfl) (spec_DoubleArea a b c _) ?_
  rintro e w3 ⟨rfl, f3⟩
  have F3 : K.Ext w w3 := K.Ext.trans (by repeat' (first | with_reducible exact F2 | with_reducible refine K.Ext.setCell ?_ ?_ _ | with_reducible refine K.Ext.alloc ?_ _ | with_reducible refine K.Ext.drew ?_ | (dsimp only; omega) | omega | (simp; omega))) f3
  have c3_0_0 : w3.cell? ⟨w1.heap.size, 0, none⟩ = some (.int .i64 a.1) := f3.cell_of (by go_simp)
  have c3_0_1 : w3.cell? ⟨w1.heap.size, 1, none⟩ = some (.int .i64 a.2) := f3.cell_of (by go_simp)
  have y3_0 : w1.heap.size < w3.heap.size := World.block_lt_of_cell? w3 _ c3_0_0
  have c3_1_0 : w3.cell? ⟨w1.heap.size + 1, 0, none⟩ = some (.int .i64 b.1) := f3.cell_of (by go_simp)
  have c3_1_1 : w3.cell? ⟨w1.heap.size + 1, 1, none⟩ = some (.int .i64 b.2) := f3.cell_of (by go_simp)
  have y3_1 : w1.heap.size + 1 < w3.heap.size := World.block_lt_of_cell? w3 _ c3_1_0
  have c3_2_0 : w3.cell? ⟨w1.heap.size + 1 + 1, 0, none⟩ = some (.int .i64 c.1) := f3.cell_of (by go_simp)
  have c3_2_1 : w3.cell? ⟨w1.heap.size + 1 + 1, 1, none⟩ = some (.int .i64 c.2) := f3.cell_of (by go_simp)
  have y3_2 : w1.heap.size + 1 + 1 < w3.heap.size := World.block_lt_of_cell? w3 _ c3_2_0
  clear c2_0_0 c2_0_1 y2_0 c2_1_0 c2_1_1 y2_1 c2_2_0 c2_2_1 y2_2 F2 f3
  go_wp2_with fail
  refine K.call (by with_reducible rfl) (by with_reducible rfl) (impl_AreInLine a b c _) ?_
  rintro e w4 ⟨rfl, f4⟩
  have F4 : K.Ext w w4 := K.Ext.trans (by repeat' (first | with_reducible exact F3 | with_reducible refine K.Ext.setCell ?_ ?_ _ | with_reducible refine K.Ext.alloc ?_ _ | with_reducible refine K.Ext.drew ?_ | (dsimp only; omega) | omega | (simp; omega))) f4
  have c4_0_0 : w4.cell? ⟨w1.heap.size, 0, none⟩ = some (.int .i64 a.1) := f4.cell_of (by go_simp)
  have c4_0_1 : w4.cell? ⟨w1.heap.size, 1, none⟩ = some (.int .i64 a.2) := f4.cell_of (by go_simp)
  have y4_0 : w1.heap.size < w4.heap.size := World.block_lt_of_cell? w4 _ c4_0_0
  have c4_1_0 : w4.cell? ⟨w1.heap.size + 1, 0, none⟩ = some (.int .i64 b.1) := f4.cell_of (by go_simp)
  have c4_1_1 : w4.cell? ⟨w1.heap.size + 1, 1, none⟩ = some (.int .i64 b.2) := f4.cell_of (by go_simp)
  have y4_1 : w1.heap.size + 1 < w4.heap.size := World.block_lt_of_cell? w4 _ c4_1_0
  have c4_2_0 : w4.cell? ⟨w1.heap.size + 1 + 1, 0, none⟩ = some (.int .i64 c.1) := f4.cell_of (by go_simp)
  have c4_2_1 : w4.cell? ⟨w1.heap.size + 1 + 1, 1, none⟩ = some (.int .i64 c.2) := f4.cell_of (by go_simp)
  have y4_2 : w1.heap.size + 1 + 1 < w4.heap.size := World.block_lt_of_cell? w4 _ c4_2_0
  clear c3_0_0 c3_0_1 y3_0 c3_1_0 c3_1_1 y3_1 c3_2_0 c3_2_1 y3_2 F3 f4
  go_wp2_with fail
  refine K.call (by with_reducible rfl) (by with_reducible rfl) (spec_AreInLine a b c _) ?_
  rintro e w5 ⟨rfl, f5⟩
  have F5 : K.Ext w w5 := K.Ext.trans (by repeat' (first | with_reducible exact F4 | with_reducible refine K.Ext.setCell ?_ ?_ _ | with_reducible refine K.Ext.alloc ?_ _ | with_reducible refine K.Ext.drew ?_ | (dsimp only; omega) | omega | (simp; omega))) f5
  have c5_0_0 : w5.cell? ⟨w1.heap.size, 0, none⟩ = some (.int .i64 a.1) := f5.cell_of (by go_simp)
  have c5_0_1 : w5.cell? ⟨w1.heap.size, 1, none⟩ = some (.int .i64 a.2) := f5.cell_of (by go_simp)
  have y5_0 : w1.heap.size < w5.heap.size := World.block_lt_of_cell? w5 _ c5_0_0
  have c5_1_0 : w5.cell? ⟨w1.heap.size + 1, 0, none⟩ = some (.int .i64 b.1) := f5.cell_of (by go_simp)
  have c5_1_1 : w5.cell? ⟨w1.heap.size + 1, 1, none⟩ = some (.int .i64 b.2) := f5.cell_of (by go_simp)
  have y5_1 : w1.heap.size + 1 < w5.heap.size := World.block_lt_of_cell? w5 _ c5_1_0
  have c5_2_0 : w5.cell? ⟨w1.heap.size + 1 + 1, 0, none⟩ = some (.int .i64 c.1) := f5.cell_of (by go_simp)
  have c5_2_1 : w5.cell? ⟨w1.heap.size + 1 + 1, 1, none⟩ = some (.int .i64 c.2) := f5.cell_of (by go_simp)
  have y5_2 : w1.heap.size + 1 + 1 < w5.heap.size := World.block_lt_of_cell? w5 _ c5_2_0
  clear c4_0_0 c4_0_1 y4_0 c4_1_0 c4_1_1 y4_1 c4_2_0 c4_2_1 y4_2 F4 f5
  go_wp2_with fail
  refine K.call (by with_reducible rfl) (by with_reducible rfl) (DrawDeviationOf_any _ hn (K.le_ext (Nat.le_refl w.heap.size) (by repeat' (first | with_reducible exact F5 | with_reducible refine K.Ext.setCell ?_ ?_ _ | with_reducible refine K.Ext.alloc ?_ _ | with_reducible refine K.Ext.drew ?_ | (dsimp only; omega) | omega | (simp; omega)))) (h.ext (by repeat' (first | with_reducible exact F5 | with_reducible refine K.Ext.setCell ?_ ?_ _ | with_reducible refine K.Ext.alloc ?_ _ | with_reducible refine K.Ext.drew ?_ | (dsimp only; omega) | omega | (simp; omega))))) ?_
  rintro e w6 ⟨⟨p, x, y, rfl⟩, f6⟩
  have F6 : K.Ext w w6 := K.Ext.trans (by repeat' (first | with_reducible exact F5 | with_reducible refine K.Ext.setCell ?_ ?_ _ | with_reducible refine K.Ext.alloc ?_ _ | with_reducible refine K.Ext.drew ?_ | (dsimp only; omega) | omega | (simp; omega))) f6
  have c6_0_0 : w6.cell? ⟨w1.heap.size, 0, none⟩ = some (.int .i64 a.1) := f6.cell_of (by go_simp)
  have c6_0_1 : w6.cell? ⟨w1.heap.size, 1, none⟩ = some (.int .i64 a.2) := f6.cell_of (by go_simp)
  have y6_0 : w1.heap.size < w6.heap.size := World.block_lt_of_cell? w6 _ c6_0_0
  have c6_1_0 : w6.cell? ⟨w1.heap.size + 1, 0, none⟩ = some (.int .i64 b.1) := f6.cell_of (by go_simp)
  have c6_1_1 : w6.cell? ⟨w1.heap.size + 1, 1, none⟩ = some (.int .i64 b.2) := f6.cell_of (by go_simp)
  have y6_1 : w1.heap.size + 1 < w6.heap.size := World.block_lt_of_cell? w6 _ c6_1_0
  have c6_2_0 : w6.cell? ⟨w1.heap.size + 1 + 1, 0, none⟩ = some (.int .i64 c.1) := f6.cell_of (by go_simp)
  have c6_2_1 : w6.cell? ⟨w1.heap.size + 1 + 1, 1, none⟩ = some (.int .i64 c.2) := f6.cell_of (by go_simp)
  have y6_2 : w1.heap.size + 1 + 1 < w6.heap.size := World.block_lt_of_cell? w6 _ c6_2_0
  clear c5_0_0 c5_0_1 y5_0 c5_1_0 c5_1_1 y5_1 c5_2_0 c5_2_1 y5_2 F5 f6
  go_wp2_with fail
  refine K.call (by with_reducible rfl) (by with_reducible rfl) (impl_DeviationOf p x y _) ?_
  rintro e w7 ⟨rfl, f7⟩
  have u7_0_1 : w1.heap.size < w6.heap.size + 1 := (by omega)
  have u7_0_2 : w1.heap.size < w6.heap.size + 1 + 1 := (by omega)
  have u7_0_3 : w1.heap.size < w6.heap.size + 1 + 1 + 1 := (by omega)
  have u7_1_1 : w1.heap.size + 1 < w6.heap.size + 1 := (by omega)
  have u7_1_2 : w1.heap.size + 1 < w6.heap.size + 1 + 1 := (by omega)
  have u7_1_3 : w1.heap.size + 1 < w6.heap.size + 1 + 1 + 1 := (by omega)
  have u7_2_1 : w1.heap.size + 1 + 1 < w6.heap.size + 1 := (by omega)
  have u7_2_2 : w1.heap.size + 1 + 1 < w6.heap.size + 1 + 1 := (by omega)
  have u7_2_3 : w1.heap.size + 1 + 1 < w6.heap.size + 1 + 1 + 1 := (by omega)
  have F7 : K.Ext w w7 := K.Ext.trans (by repeat' (first | with_reducible exact F6 | with_reducible refine K.Ext.setCell ?_ ?_ _ | with_reducible refine K.Ext.alloc ?_ _ | with_reducible refine K.Ext.drew ?_ | (dsimp only; omega) | omega | (simp; omega))) f7
  have c7_0_0 : w7.cell? ⟨w1.heap.size, 0, none⟩ = some (.int .i64 a.1) := f7.cell_of (by go_simp)
  have c7_0_1 : w7.cell? ⟨w1.heap.size, 1, none⟩ = some (.int .i64 a.2) := f7.cell_of (by go_simp)
  have y7_0 : w1.heap.size < w7.heap.size := World.block_lt_of_cell? w7 _ c7_0_0
  have c7_1_0 : w7.cell? ⟨w1.heap.size + 1, 0, none⟩ = some (.int .i64 b.1) := f7.cell_of (by go_simp)
  have c7_1_1 : w7.cell? ⟨w1.heap.size + 1, 1, none⟩ = some (.int .i64 b.2) := f7.cell_of (by go_simp)
  have y7_1 : w1.heap.size + 1 < w7.heap.size := World.block_lt_of_cell? w7 _ c7_1_0
  have c7_2_0 : w7.cell? ⟨w1.heap.size + 1 + 1, 0, none⟩ = some (.int .i64 c.1) := f7.cell_of (by go_simp)
  have c7_2_1 : w7.cell? ⟨w1.heap.size + 1 + 1, 1, none⟩ = some (.int .i64 c.2) := f7.cell_of (by go_simp)
  have y7_2 : w1.heap.size + 1 + 1 < w7.heap.size := World.block_lt_of_cell? w7 _ c7_2_0
  have c7_3_0 : w7.cell? ⟨w6.heap.size, 0, none⟩ = some (.int .i64 p.1) := f7.cell_of (by go_simp)
  have c7_3_1 : w7.cell? ⟨w6.heap.size, 1, none⟩ = some (.int .i64 p.2) := f7.cell_of (by go_simp)
  have y7_3 : w6.heap.size < w7.heap.size := World.block_lt_of_cell? w7 _ c7_3_0
  have c7_4_0 : w7.cell? ⟨w6.heap.size + 1, 0, none⟩ = some (.int .i64 x.1) := f7.cell_of (by go_simp)
  have c7_4_1 : w7.cell? ⟨w6.heap.size + 1, 1, none⟩ = some (.int .i64 x.2) := f7.cell_of (by go_simp)
  have y7_4 : w6.heap.size + 1 < w7.heap.size := World.block_lt_of_cell? w7 _ c7_4_0
  have c7_5_0 : w7.cell? ⟨w6.heap.size + 1 + 1, 0, none⟩ = some (.int .i64 y.1) := f7.cell_of (by go_simp)
  have c7_5_1 : w7.cell? ⟨w6.heap.size + 1 + 1, 1, none⟩ = some (.int .i64 y.2) := f7.cell_of (by go_simp)
  have y7_5 : w6.heap.size + 1 + 1 < w7.heap.size := World.block_lt_of_cell? w7 _ c7_5_0
  clear c6_0_0 c6_0_1 y6_0 c6_1_0 c6_1_1 y6_1 c6_2_0 c6_2_1 y6_2 F6 f7
  go_wp2_with fail
  refine K.call (by with_reducible rfl) (by with_reducible rfl) (spec_DeviationOf p x y _) ?_
  rintro e w8 ⟨rfl, f8⟩
  have F8 : K.Ext w w8 := K.Ext.trans (by repeat' (first | with_reducible exact F7 | with_reducible refine K.Ext.setCell ?_ ?_ _ | with_reducible refine K.Ext.alloc ?_ _ | with_reducible refine K.Ext.drew ?_ | (dsimp only; omega) | omega | (simp; omega))) f8
  have c8_0_0 : w8.cell? ⟨w1.heap.size, 0, none⟩ = some (.int .i64 a.1) := f8.cell_of (by go_simp)
  have c8_0_1 : w8.cell? ⟨w1.heap.size, 1, none⟩ = some (.int .i64 a.2) := f8.cell_of (by go_simp)
  have y8_0 : w1.heap.size < w8.heap.size := World.block_lt_of_cell? w8 _ c8_0_0
  have c8_1_0 : w8.cell? ⟨w1.heap.size + 1, 0, none⟩ = some (.int .i64 b.1) := f8.cell_of (by go_simp)
  have c8_1_1 : w8.cell? ⟨w1.heap.size + 1, 1, none⟩ = some (.int .i64 b.2) := f8.cell_of (by go_simp)
  have y8_1 : w1.heap.size + 1 < w8.heap.size := World.block_lt_of_cell? w8 _ c8_1_0
  have c8_2_0 : w8.cell? ⟨w1.heap.size + 1 + 1, 0, none⟩ = some (.int .i64 c.1) := f8.cell_of (by go_simp)
  have c8_2_1 : w8.cell? ⟨w1.heap.size + 1 + 1, 1, none⟩ = some (.int .i64 c.2) := f8.cell_of (by go_simp)
  have y8_2 : w1.heap.size + 1 + 1 < w8.heap.size := World.block_lt_of_cell? w8 _ c8_2_0
  have c8_3_0 : w8.cell? ⟨w6.heap.size, 0, none⟩ = some (.int .i64 p.1) := f8.cell_of (by go_simp)
  have c8_3_1 : w8.cell? ⟨w6.heap.size, 1, none⟩ = some (.int .i64 p.2) := f8.cell_of (by go_simp)
  have y8_3 : w6.heap.size < w8.heap.size := World.block_lt_of_cell? w8 _ c8_3_0
  have c8_4_0 : w8.cell? ⟨w6.heap.size + 1, 0, none⟩ = some (.int .i64 x.1) := f8.cell_of (by go_simp)
  have c8_4_1 : w8.cell? ⟨w6.heap.size + 1, 1, none⟩ = some (.int .i64 x.2) := f8.cell_of (by go_simp)
  have y8_4 : w6.heap.size + 1 < w8.heap.size := World.block_lt_of_cell? w8 _ c8_4_0
  have c8_5_0 : w8.cell? ⟨w6.heap.size + 1 + 1, 0, none⟩ = some (.int .i64 y.1) := f8.cell_of (by go_simp)
  have c8_5_1 : w8.cell? ⟨w6.heap.size + 1 + 1, 1, none⟩ = some (.int .i64 y.2) := f8.cell_of (by go_simp)
  have y8_5 : w6.heap.size + 1 + 1 < w8.heap.size := World.block_lt_of_cell? w8 _ c8_5_0
  clear c7_0_0 c7_0_1 y7_0 c7_1_0 c7_1_1 y7_1 c7_2_0 c7_2_1 y7_2 c7_3_0 c7_3_1 y7_3 c7_4_0 c7_4_1 y7_4 c7_5_0 c7_5_1 y7_5 F7 f8
  go_wp2_with fail
  refine K.call (by with_reducible rfl) (by with_reducible rfl) (DrawHeightAt_any _ hn (K.le_ext (Nat.le_refl w.heap.size) (by repeat' (first | with_reducible exact F8 | with_reducible refine K.Ext.setCell ?_ ?_ _ | with_reducible refine K.Ext.alloc ?_ _ | with_reducible refine K.Ext.drew ?_ | (dsimp only; omega) | omega | (simp; omega)))) (h.ext (by repeat' (first | with_reducible exact F8 | with_reducible refine K.Ext.setCell ?_ ?_ _ | with_reducible refine K.Ext.alloc ?_ _ | with_reducible refine K.Ext.drew ?_ | (dsimp only; omega) | omega | (simp; omega))))) ?_
  rintro e w9 ⟨⟨u, q, t, rfl⟩, f9⟩
  have F9 : K.Ext w w9 := K.Ext.trans (by repeat' (first | with_reducible exact F8 | with_reducible refine K.Ext.setCell ?_ ?_ _ | with_reducible refine K.Ext.alloc ?_ _ | with_reducible refine K.Ext.drew ?_ | (dsimp only; omega) | omega | (simp; omega))) f9
  have c9_0_0 : w9.cell? ⟨w1.heap.size, 0, none⟩ = some (.int .i64 a.1) := f9.cell_of (by go_simp)
  have c9_0_1 : w9.cell? ⟨w1.heap.size, 1, none⟩ = some (.int .i64 a.2) := f9.cell_of (by go_simp)
  have y9_0 : w1.heap.size < w9.heap.size := World.block_lt_of_cell? w9 _ c9_0_0
  have c9_1_0 : w9.cell? ⟨w1.heap.size + 1, 0, none⟩ = some (.int .i64 b.1) := f9.cell_of (by go_simp)
  have c9_1_1 : w9.cell? ⟨w1.heap.size + 1, 1, none⟩ = some (.int .i64 b.2) := f9.cell_of (by go_simp)
  have y9_1 : w1.heap.size + 1 < w9.heap.size := World.block_lt_of_cell? w9 _ c9_1_0
  have c9_2_0 : w9.cell? ⟨w1.heap.size + 1 + 1, 0, none⟩ = some (.int .i64 c.1) := f9.cell_of (by go_simp)
  have c9_2_1 : w9.cell? ⟨w1.heap.size + 1 + 1, 1, none⟩ = some (.int .i64 c.2) := f9.cell_of (by go_simp)
  have y9_2 : w1.heap.size + 1 + 1 < w9.heap.size := World.block_lt_of_cell? w9 _ c9_2_0
  have c9_3_0 : w9.cell? ⟨w6.heap.size, 0, none⟩ = some (.int .i64 p.1) := f9.cell_of (by go_simp)
  have c9_3_1 : w9.cell? ⟨w6.heap.size, 1, none⟩ = some (.int .i64 p.2) := f9.cell_of (by go_simp)
  have y9_3 : w6.heap.size < w9.heap.size := World.block_lt_of_cell? w9 _ c9_3_0
  have c9_4_0 : w9.cell? ⟨w6.heap.size + 1, 0, none⟩ = some (.int .i64 x.1) := f9.cell_of (by go_simp)
  have c9_4_1 : w9.cell? ⟨w6.heap.size + 1, 1, none⟩ = some (.int .i64 x.2) := f9.cell_of (by go_simp)
  have y9_4 : w6.heap.size + 1 < w9.heap.size := World.block_lt_of_cell? w9 _ c9_4_0
  have c9_5_0 : w9.cell? ⟨w6.heap.size + 1 + 1, 0, none⟩ = some (.int .i64 y.1) := f9.cell_of (by go_simp)
  have c9_5_1 : w9.cell? ⟨w6.heap.size + 1 + 1, 1, none⟩ = some (.int .i64 y.2) := f9.cell_of (by go_simp)
  have y9_5 : w6.heap.size + 1 + 1 < w9.heap.size := World.block_lt_of_cell? w9 _ c9_5_0
  clear c8_0_0 c8_0_1 y8_0 c8_1_0 c8_1_1 y8_1 c8_2_0 c8_2_1 y8_2 c8_3_0 c8_3_1 y8_3 c8_4_0 c8_4_1 y8_4 c8_5_0 c8_5_1 y8_5 F8 f9
  go_wp2_with fail
  refine K.call (by with_reducible rfl) (by with_reducible rfl) (impl_HeightAt u q t _) ?_
  rintro e w10 ⟨rfl, f10⟩
  have u10_0_1 : w1.heap.size < w9.heap.size + 1 := (by omega)
  have u10_0_2 : w1.heap.size < w9.heap.size + 1 + 1 := (by omega)
  have u10_1_1 : w1.heap.size + 1 < w9.heap.size + 1 := (by omega)
  have u10_1_2 : w1.heap.size + 1 < w9.heap.size + 1 + 1 := (by omega)
  have u10_2_1 : w1.heap.size + 1 + 1 < w9.heap.size + 1 := (by omega)
  have u10_2_2 : w1.heap.size + 1 + 1 < w9.heap.size + 1 + 1 := (by omega)
  have u10_3_1 : w6.heap.size < w9.heap.size + 1 := (by omega)
  have u10_3_2 : w6.heap.size < w9.heap.size + 1 + 1 := (by omega)
  have u10_4_1 : w6.heap.size + 1 < w9.heap.size + 1 := (by omega)
  have u10_4_2 : w6.heap.size + 1 < w9.heap.size + 1 + 1 := (by omega)
  have u10_5_1 : w6.heap.size + 1 + 1 < w9.heap.size + 1 := (by omega)
  have u10_5_2 : w6.heap.size + 1 + 1 < w9.heap.size + 1 + 1 := (by omega)
  have F10 : K.Ext w w10 := K.Ext.trans (by repeat' (first | with_reducible exact F9 | with_reducible refine K.Ext.setCell ?_ ?_ _ | with_reducible refine K.Ext.alloc ?_ _ | with_reducible refine K.Ext.drew ?_ | (dsimp only; omega) | omega | (simp; omega))) f10
  have c10_0_0 : w10.cell? ⟨w1.heap.size, 0, none⟩ = some (.int .i64 a.1) := f10.cell_of (by go_simp)
  have c10_0_1 : w10.cell? ⟨w1.heap.size, 1, none⟩ = some (.int .i64 a.2) := f10.cell_of (by go_simp)
  have y10_0 : w1.heap.size < w10.heap.size := World.block_lt_of_cell? w10 _ c10_0_0
  have c10_1_0 : w10.cell? ⟨w1.heap.size + 1, 0, none⟩ = some (.int .i64 b.1) := f10.cell_of (by go_simp)
  have c10_1_1 : w10.cell? ⟨w1.heap.size + 1, 1, none⟩ = some (.int .i64 b.2) := f10.cell_of (by go_simp)
  have y10_1 : w1.heap.size + 1 < w10.heap.size := World.block_lt_of_cell? w10 _ c10_1_0
  have c10_2_0 : w10.cell? ⟨w1.heap.size + 1 + 1, 0, none⟩ = some (.int .i64 c.1) := f10.cell_of (by go_simp)
  have c10_2_1 : w10.cell? ⟨w1.heap.size + 1 + 1, 1, none⟩ = some (.int .i64 c.2) := f10.cell_of (by go_simp)
  have y10_2 : w1.heap.size + 1 + 1 < w10.heap.size := World.block_lt_of_cell? w10 _ c10_2_0
  have c10_3_0 : w10.cell? ⟨w6.heap.size, 0, none⟩ = some (.int .i64 p.1) := f10.cell_of (by go_simp)
  have c10_3_1 : w10.cell? ⟨w6.heap.size, 1, none⟩ = some (.int .i64 p.2) := f10.cell_of (by go_simp)
  have y10_3 : w6.heap.size < w10.heap.size := World.block_lt_of_cell? w10 _ c10_3_0
  have c10_4_0 : w10.cell? ⟨w6.heap.size + 1, 0, none⟩ = some (.int .i64 x.1) := f10.cell_of (by go_simp)
  have c10_4_1 : w10.cell? ⟨w6.heap.size + 1, 1, none⟩ = some (.int .i64 x.2) := f10.cell_of (by go_simp)
  have y10_4 : w6.heap.size + 1 < w10.heap.size := World.block_lt_of_cell? w10 _ c10_4_0
  have c10_5_0 : w10.cell? ⟨w6.heap.size + 1 + 1, 0, none⟩ = some (.int .i64 y.1) := f10.cell_of (by go_simp)
  have c10_5_1 : w10.cell? ⟨w6.heap.size + 1 + 1, 1, none⟩ = some (.int .i64 y.2) := f10.cell_of (by go_simp)
  have y10_5 : w6.heap.size + 1 + 1 < w10.heap.size := World.block_lt_of_cell? w10 _ c10_5_0
  have c10_6_0 : w10.cell? ⟨w9.heap.size, 0, none⟩ = some (.int .i64 u.1) := f10.cell_of (by go_simp)
  have c10_6_1 : w10.cell? ⟨w9.heap.size, 1, none⟩ = some (.int .i64 u.2) := f10.cell_of (by go_simp)
  have y10_6 : w9.heap.size < w10.heap.size := World.block_lt_of_cell? w10 _ c10_6_0
  have c10_7_0 : w10.cell? ⟨w9.heap.size + 1, 0, none⟩ = some (.int .i64 q.1) := f10.cell_of (by go_simp)
  have c10_7_1 : w10.cell? ⟨w9.heap.size + 1, 1, none⟩ = some (.int .i64 q.2) := f10.cell_of (by go_simp)
  have y10_7 : w9.heap.size + 1 < w10.heap.size := World.block_lt_of_cell? w10 _ c10_7_0
  clear c9_0_0 c9_0_1 y9_0 c9_1_0 c9_1_1 y9_1 c9_2_0 c9_2_1 y9_2 c9_3_0 c9_3_1 y9_3 c9_4_0 c9_4_1 y9_4 c9_5_0 c9_5_1 y9_5 F9 f10
  go_wp2_with fail
  refine K.call (by with_reducible rfl) (by with_reducible rfl) (spec_HeightAt u q t _) ?_
  rintro e w11 ⟨rfl, f11⟩
  have F11 : K.Ext w w11 := K.Ext.trans (by repeat' (first | with_reducible exact F10 | with_reducible refine K.Ext.setCell ?_ ?_ _ | with_reducible refine K.Ext.alloc ?_ _ | with_reducible refine K.Ext.drew ?_ | (dsimp only; omega) | omega | (simp; omega))) f11
  have c11_0_0 : w11.cell? ⟨w1.heap.size, 0, none⟩ = some (.int .i64 a.1) := f11.cell_of (by go_simp)
  have c11_0_1 : w11.cell? ⟨w1.heap.size, 1, none⟩ = some (.int .i64 a.2) := f11.cell_of (by go_simp)
  have y11_0 : w1.heap.size < w11.heap.size := World.block_lt_of_cell? w11 _ c11_0_0
  have c11_1_0 : w11.cell? ⟨w1.heap.size + 1, 0, none⟩ = some (.int .i64 b.1) := f11.cell_of (by go_simp)
  have c11_1_1 : w11.cell? ⟨w1.heap.size + 1, 1, none⟩ = some (.int .i64 b.2) := f11.cell_of (by go_simp)
  have y11_1 : w1.heap.size + 1 < w11.heap.size := World.block_lt_of_cell? w11 _ c11_1_0
  have c11_2_0 : w11.cell? ⟨w1.heap.size + 1 + 1, 0, none⟩ = some (.int .i64 c.1) := f11.cell_of (by go_simp)
  have c11_2_1 : w11.cell? ⟨w1.heap.size + 1 + 1, 1, none⟩ = some (.int .i64 c.2) := f11.cell_of (by go_simp)
  have y11_2 : w1.heap.size + 1 + 1 < w11.heap.size := World.block_lt_of_cell? w11 _ c11_2_0
  have c11_3_0 : w11.cell? ⟨w6.heap.size, 0, none⟩ = some (.int .i64 p.1) := f11.cell_of (by go_simp)
  have c11_3_1 : w11.cell? ⟨w6.heap.size, 1, none⟩ = some (.int .i64 p.2) := f11.cell_of (by go_simp)
  have y11_3 : w6.heap.size < w11.heap.size := World.block_lt_of_cell? w11 _ c11_3_0
  have c11_4_0 : w11.cell? ⟨w6.heap.size + 1, 0, none⟩ = some (.int .i64 x.1) := f11.cell_of (by go_simp)
  have c11_4_1 : w11.cell? ⟨w6.heap.size + 1, 1, none⟩ = some (.int .i64 x.2) := f11.cell_of (by go_simp)
  have y11_4 : w6.heap.size + 1 < w11.heap.size := World.block_lt_of_cell? w11 _ c11_4_0
  have c11_5_0 : w11.cell? ⟨w6.heap.size + 1 + 1, 0, none⟩ = some (.int .i64 y.1) := f11.cell_of (by go_simp)
  have c11_5_1 : w11.cell? ⟨w6.heap.size + 1 + 1, 1, none⟩ = some (.int .i64 y.2) := f11.cell_of (by go_simp)
  have y11_5 : w6.heap.size + 1 + 1 < w11.heap.size := World.block_lt_of_cell? w11 _ c11_5_0
  clear c10_0_0 c10_0_1 y10_0 c10_1_0 c10_1_1 y10_1 c10_2_0 c10_2_1 y10_2 c10_3_0 c10_3_1 y10_3 c10_4_0 c10_4_1 y10_4 c10_5_0 c10_5_1 y10_5 c10_6_0 c10_6_1 y10_6 c10_7_0 c10_7_1 y10_7 F10 f11
  by_cases hh : (Z.HeightAt u q t).2.2 = 0
  · obtain ⟨hH1, hH2, hH3, hH4⟩ := Z.height_law u q t hh
    have hH5 : IntKind.i64.wrap ((Z.HeightAt u q t).1 + 1) = (Z.HeightAt u q t).1 + 1 := IntWalk.i64_in _ (by omega)
    by_cases ht : (Z.DeviationOf p x y).2 = 0
    · obtain ⟨hD1, hD2, hD3, hD4⟩ := Z.dev_law p x y ht
      by_cases hy : (Z.DeviationOf p x y).1 = 0
      · have hE := hD3 hy
        go_wp2_with fail
        refine K.call (by with_reducible rfl) (by with_reducible rfl) (impl_AreInLine p x y _) ?_
        rintro e w12 ⟨rfl, f12⟩
        have F12 : K.Ext w w12 := K.Ext.trans (by repeat' (first | with_reducible exact F11 | with_reducible refine K.Ext.setCell ?_ ?_ _ | with_reducible refine K.Ext.alloc ?_ _ | with_reducible refine K.Ext.drew ?_ | (dsimp only; omega) | omega | (simp; omega))) f12
        have c12_0_0 : w12.cell? ⟨w1.heap.size, 0, none⟩ = some (.int .i64 a.1) := f12.cell_of (by go_simp)
        have c12_0_1 : w12.cell? ⟨w1.heap.size, 1, none⟩ = some (.int .i64 a.2) := f12.cell_of (by go_simp)
        have y12_0 : w1.heap.size < w12.heap.size := World.block_lt_of_cell? w12 _ c12_0_0
        have c12_1_0 : w12.cell? ⟨w1.heap.size + 1, 0, none⟩ = some (.int .i64 b.1) := f12.cell_of (by go_simp)
        have c12_1_1 : w12.cell? ⟨w1.heap.size + 1, 1, none⟩ = some (.int .i64 b.2) := f12.cell_of (by go_simp)
        have y12_1 : w1.heap.size + 1 < w12.heap.size := World.block_lt_of_cell? w12 _ c12_1_0
        have c12_2_0 : w12.cell? ⟨w1.heap.size + 1 + 1, 0, none⟩ = some (.int .i64 c.1) := f12.cell_of (by go_simp)
        have c12_2_1 : w12.cell? ⟨w1.heap.size + 1 + 1, 1, none⟩ = some (.int .i64 c.2) := f12.cell_of (by go_simp)
        have y12_2 : w1.heap.size + 1 + 1 < w12.heap.size := World.block_lt_of_cell? w12 _ c12_2_0
        have c12_3_0 : w12.cell? ⟨w6.heap.size, 0, none⟩ = some (.int .i64 p.1) := f12.cell_of (by go_simp)
        have c12_3_1 : w12.cell? ⟨w6.heap.size, 1, none⟩ = some (.int .i64 p.2) := f12.cell_of (by go_simp)
        have y12_3 : w6.heap.size < w12.heap.size := World.block_lt_of_cell? w12 _ c12_3_0
        have c12_4_0 : w12.cell? ⟨w6.heap.size + 1, 0, none⟩ = some (.int .i64 x.1) := f12.cell_of (by go_simp)
        have c12_4_1 : w12.cell? ⟨w6.heap.size + 1, 1, none⟩ = some (.int .i64 x.2) := f12.cell_of (by go_simp)
        have y12_4 : w6.heap.size + 1 < w12.heap.size := World.block_lt_of_cell? w12 _ c12_4_0
        have c12_5_0 : w12.cell? ⟨w6.heap.size + 1 + 1, 0, none⟩ = some (.int .i64 y.1) := f12.cell_of (by go_simp)
        have c12_5_1 : w12.cell? ⟨w6.heap.size + 1 + 1, 1, none⟩ = some (.int .i64 y.2) := f12.cell_of (by go_simp)
        have y12_5 : w6.heap.size + 1 + 1 < w12.heap.size := World.block_lt_of_cell? w12 _ c12_5_0
        clear c11_0_0 c11_0_1 y11_0 c11_1_0 c11_1_1 y11_1 c11_2_0 c11_2_1 y11_2 c11_3_0 c11_3_1 y11_3 c11_4_0 c11_4_1 y11_4 c11_5_0 c11_5_1 y11_5 F11 f12
        by_cases hb : (Z.DoubleArea a b c).2 = 0
        · obtain ⟨hA1, hA2, hA3, hA4, hA5, hA6⟩ := Z.areas_law a b c hb
          have hA7 : IntKind.i64.wrap (-(Z.DoubleArea a b c).1) = -(Z.DoubleArea a b c).1 := IntWalk.i64_in _ (by omega)
          by_cases hz : (Z.DoubleArea a b c).1 = 0
          · have hB := hA5 hz
            go_wp2_with fail
            refine K.call (by with_reducible rfl) (by with_reducible rfl) (impl_DoubleArea b c a _) ?_
            rintro e w13 ⟨rfl, f13⟩
            have F13 : K.Ext w w13 := K.Ext.trans (by repeat' (first | with_reducible exact F12 | with_reducible refine K.Ext.setCell ?_ ?_ _ | with_reducible refine K.Ext.alloc ?_ _ | with_reducible refine K.Ext.drew ?_ | (dsimp only; omega) | omega | (simp; omega))) f13
            have c13_0_0 : w13.cell? ⟨w1.heap.size, 0, none⟩ = some (.int .i64 a.1) := f13.cell_of (by go_simp)
            have c13_0_1 : w13.cell? ⟨w1.heap.size, 1, none⟩ = some (.int .i64 a.2) := f13.cell_of (by go_simp)
            have y13_0 : w1.heap.size < w13.heap.size := World.block_lt_of_cell? w13 _ c13_0_0
            have c13_1_0 : w13.cell? ⟨w1.heap.size + 1, 0, none⟩ = some (.int .i64 b.1) := f13.cell_of (by go_simp)
            have c13_1_1 : w13.cell? ⟨w1.heap.size + 1, 1, none⟩ = some (.int .i64 b.2) := f13.cell_of (by go_simp)
            have y13_1 : w1.heap.size + 1 < w13.heap.size := World.block_lt_of_cell? w13 _ c13_1_0
            have c13_2_0 : w13.cell? ⟨w1.heap.size + 1 + 1, 0, none⟩ = some (.int .i64 c.1) := f13.cell_of (by go_simp)
            have c13_2_1 : w13.cell? ⟨w1.heap.size + 1 + 1, 1, none⟩ = some (.int .i64 c.2) := f13.cell_of (by go_simp)
            have y13_2 : w1.heap.size + 1 + 1 < w13.heap.size := World.block_lt_of_cell? w13 _ c13_2_0
            clear c12_0_0 c12_0_1 y12_0 c12_1_0 c12_1_1 y12_1 c12_2_0 c12_2_1 y12_2 c12_3_0 c12_3_1 y12_3 c12_4_0 c12_4_1 y12_4 c12_5_0 c12_5_1 y12_5 F12 f13
            go_wp2_with fail
            refine K.call (by with_reducible rfl) (by with_reducible rfl) (impl_DoubleArea b a c _) ?_
            rintro e w14 ⟨rfl, f14⟩
            have F14 : K.Ext w w14 := K.Ext.trans (by repeat' (first | with_reducible exact F13 | with_reducible refine K.Ext.setCell ?_ ?_ _ | with_reducible refine K.Ext.alloc ?_ _ | with_reducible refine K.Ext.drew ?_ | (dsimp only; omega) | omega | (simp; omega))) f14
            have c14_0_0 : w14.cell? ⟨w1.heap.size, 0, none⟩ = some (.int .i64 a.1) := f14.cell_of (by go_simp)
            have c14_0_1 : w14.cell? ⟨w1.heap.size, 1, none⟩ = some (.int .i64 a.2) := f14.cell_of (by go_simp)
            have y14_0 : w1.heap.size < w14.heap.size := World.block_lt_of_cell? w14 _ c14_0_0
            have c14_1_0 : w14.cell? ⟨w1.heap.size + 1, 0, none⟩ = some (.int .i64 b.1) := f14.cell_of (by go_simp)
            have c14_1_1 : w14.cell? ⟨w1.heap.size + 1, 1, none⟩ = some (.int .i64 b.2) := f14.cell_of (by go_simp)
            have y14_1 : w1.heap.size + 1 < w14.heap.size := World.block_lt_of_cell? w14 _ c14_1_0
            have c14_2_0 : w14.cell? ⟨w1.heap.size + 1 + 1, 0, none⟩ = some (.int .i64 c.1) := f14.cell_of (by go_simp)
            have c14_2_1 : w14.cell? ⟨w1.heap.size + 1 + 1, 1, none⟩ = some (.int .i64 c.2) := f14.cell_of (by go_simp)
            have y14_2 : w1.heap.size + 1 + 1 < w14.heap.size := World.block_lt_of_cell? w14 _ c14_2_0
            clear c13_0_0 c13_0_1 y13_0 c13_1_0 c13_1_1 y13_1 c13_2_0 c13_2_1 y13_2 F13 f14
            go_wp2_with fail
            go_ret
            exact ⟨rfl, (by repeat' (first | with_reducible exact F14 | with_reducible refine K.Ext.setCell ?_ ?_ _ | with_reducible refine K.Ext.alloc ?_ _ | with_reducible refine K.Ext.drew ?_ | (dsimp only; omega) | omega | (simp; omega)))⟩
          · have hB := hA6 hz
            have hz' : ((Z.DoubleArea a b c).1 == 0) = false := by simpa using hz
            go_wp2_with fail
            refine K.call (by with_reducible rfl) (by with_reducible rfl) (impl_DoubleArea b c a _) ?_
            rintro e w13 ⟨rfl, f13⟩
            have F13 : K.Ext w w13 := K.Ext.trans (by repeat' (first | with_reducible exact F12 | with_reducible refine K.Ext.setCell ?_ ?_ _ | with_reducible refine K.Ext.alloc ?_ _ | with_reducible refine K.Ext.drew ?_ | (dsimp only; omega) | omega | (simp; omega))) f13
            have c13_0_0 : w13.cell? ⟨w1.heap.size, 0, none⟩ = some (.int .i64 a.1) := f13.cell_of (by go_simp)
            have c13_0_1 : w13.cell? ⟨w1.heap.size, 1, none⟩ = some (.int .i64 a.2) := f13.cell_of (by go_simp)
            have y13_0 : w1.heap.size < w13.heap.size := World.block_lt_of_cell? w13 _ c13_0_0
            have c13_1_0 : w13.cell? ⟨w1.heap.size + 1, 0, none⟩ = some (.int .i64 b.1) := f13.cell_of (by go_simp)
            have c13_1_1 : w13.cell? ⟨w1.heap.size + 1, 1, none⟩ = some (.int .i64 b.2) := f13.cell_of (by go_simp)
            have y13_1 : w1.heap.size + 1 < w13.heap.size := World.block_lt_of_cell? w13 _ c13_1_0
            have c13_2_0 : w13.cell? ⟨w1.heap.size + 1 + 1, 0, none⟩ = some (.int .i64 c.1) := f13.cell_of (by go_simp)
            have c13_2_1 : w13.cell? ⟨w1.heap.size + 1 + 1, 1, none⟩ = some (.int .i64 c.2) := f13.cell_of (by go_simp)
            have y13_2 : w1.heap.size + 1 + 1 < w13.heap.size := World.block_lt_of_cell? w13 _ c13_2_0
            clear c12_0_0 c12_0_1 y12_0 c12_1_0 c12_1_1 y12_1 c12_2_0 c12_2_1 y12_2 c12_3_0 c12_3_1 y12_3 c12_4_0 c12_4_1 y12_4 c12_5_0 c12_5_1 y12_5 F12 f13
            go_wp2_with fail
            refine K.call (by with_reducible rfl) (by with_reducible rfl) (impl_DoubleArea b a c _) ?_
            rintro e w14 ⟨rfl, f14⟩
            have F14 : K.Ext w w14 := K.Ext.trans (by repeat' (first | with_reducible exact F13 | with_reducible refine K.Ext.setCell ?_ ?_ _ | with_reducible refine K.Ext.alloc ?_ _ | with_reducible refine K.Ext.drew ?_ | (dsimp only; omega) | omega | (simp; omega))) f14
            have c14_0_0 : w14.cell? ⟨w1.heap.size, 0, none⟩ = some (.int .i64 a.1) := f14.cell_of (by go_simp)
            have c14_0_1 : w14.cell? ⟨w1.heap.size, 1, none⟩ = some (.int .i64 a.2) := f14.cell_of (by go_simp)
            have y14_0 : w1.heap.size < w14.heap.size := World.block_lt_of_cell? w14 _ c14_0_0
            have c14_1_0 : w14.cell? ⟨w1.heap.size + 1, 0, none⟩ = some (.int .i64 b.1) := f14.cell_of (by go_simp)
            have c14_1_1 : w14.cell? ⟨w1.heap.size + 1, 1, none⟩ = some (.int .i64 b.2) := f14.cell_of (by go_simp)
            have y14_1 : w1.heap.size + 1 < w14.heap.size := World.block_lt_of_cell? w14 _ c14_1_0
            have c14_2_0 : w14.cell? ⟨w1.heap.size + 1 + 1, 0, none⟩ = some (.int .i64 c.1) := f14.cell_of (by go_simp)
            have c14_2_1 : w14.cell? ⟨w1.heap.size + 1 + 1, 1, none⟩ = some (.int .i64 c.2) := f14.cell_of (by go_simp)
            have y14_2 : w1.heap.size + 1 + 1 < w14.heap.size := World.block_lt_of_cell? w14 _ c14_2_0
            clear c13_0_0 c13_0_1 y13_0 c13_1_0 c13_1_1 y13_1 c13_2_0 c13_2_1 y13_2 F13 f14
            go_wp2_with fail
            go_ret
            exact ⟨rfl, (by repeat' (first | with_reducible exact F14 | with_reducible refine K.Ext.setCell ?_ ?_ _ | with_reducible refine K.Ext.alloc ?_ _ | with_reducible refine K.Ext.drew ?_ | (dsimp only; omega) | omega | (simp; omega)))⟩
        go_wp2_with fail
        go_ret
        exact ⟨rfl, (by repeat' (first | with_reducible exact F12 | with_reducible refine K.Ext.setCell ?_ ?_ _ | with_reducible refine K.Ext.alloc ?_ _ | with_reducible refine K.Ext.drew ?_ | (dsimp only; omega) | omega | (simp; omega)))⟩
      · have hE := hD4 hy
        have hy' : ((Z.DeviationOf p x y).1 == 0) = false := by simpa using hy
        go_wp2_with fail
        refine K.call (by with_reducible rfl) (by with_reducible rfl) (impl_AreInLine p x y _) ?_
        rintro e w12 ⟨rfl, f12⟩
        have F12 : K.Ext w w12 := K.Ext.trans (by repeat' (first | with_reducible exact F11 | with_reducible refine K.Ext.setCell ?_ ?_ _ | with_reducible refine K.Ext.alloc ?_ _ | with_reducible refine K.Ext.drew ?_ | (dsimp only; omega) | omega | (simp; omega))) f12
        have c12_0_0 : w12.cell? ⟨w1.heap.size, 0, none⟩ = some (.int .i64 a.1) := f12.cell_of (by go_simp)
        have c12_0_1 : w12.cell? ⟨w1.heap.size, 1, none⟩ = some (.int .i64 a.2) := f12.cell_of (by go_simp)
        have y12_0 : w1.heap.size < w12.heap.size := World.block_lt_of_cell? w12 _ c12_0_0
        have c12_1_0 : w12.cell? ⟨w1.heap.size + 1, 0, none⟩ = some (.int .i64 b.1) := f12.cell_of (by go_simp)
        have c12_1_1 : w12.cell? ⟨w1.heap.size + 1, 1, none⟩ = some (.int .i64 b.2) := f12.cell_of (by go_simp)
        have y12_1 : w1.heap.size + 1 < w12.heap.size := World.block_lt_of_cell? w12 _ c12_1_0
        have c12_2_0 : w12.cell? ⟨w1.heap.size + 1 + 1, 0, none⟩ = some (.int .i64 c.1) := f12.cell_of (by go_simp)
        have c12_2_1 : w12.cell? ⟨w1.heap.size + 1 + 1, 1, none⟩ = some (.int .i64 c.2) := f12.cell_of (by go_simp)
        have y12_2 : w1.heap.size + 1 + 1 < w12.heap.size := World.block_lt_of_cell? w12 _ c12_2_0
        have c12_3_0 : w12.cell? ⟨w6.heap.size, 0, none⟩ = some (.int .i64 p.1) := f12.cell_of (by go_simp)
        have c12_3_1 : w12.cell? ⟨w6.heap.size, 1, none⟩ = some (.int .i64 p.2) := f12.cell_of (by go_simp)
        have y12_3 : w6.heap.size < w12.heap.size := World.block_lt_of_cell? w12 _ c12_3_0
        have c12_4_0 : w12.cell? ⟨w6.heap.size + 1, 0, none⟩ = some (.int .i64 x.1) := f12.cell_of (by go_simp)
        have c12_4_1 : w12.cell? ⟨w6.heap.size + 1, 1, none⟩ = some (.int .i64 x.2) := f12.cell_of (by go_simp)
        have y12_4 : w6.heap.size + 1 < w12.heap.size := World.block_lt_of_cell? w12 _ c12_4_0
        have c12_5_0 : w12.cell? ⟨w6.heap.size + 1 + 1, 0, none⟩ = some (.int .i64 y.1) := f12.cell_of (by go_simp)
        have c12_5_1 : w12.cell? ⟨w6.heap.size + 1 + 1, 1, none⟩ = some (.int .i64 y.2) := f12.cell_of (by go_simp)
        have y12_5 : w6.heap.size + 1 + 1 < w12.heap.size := World.block_lt_of_cell? w12 _ c12_5_0
        clear c11_0_0 c11_0_1 y11_0 c11_1_0 c11_1_1 y11_1 c11_2_0 c11_2_1 y11_2 c11_3_0 c11_3_1 y11_3 c11_4_0 c11_4_1 y11_4 c11_5_0 c11_5_1 y11_5 F11 f12
        by_cases hb : (Z.DoubleArea a b c).2 = 0
        · obtain ⟨hA1, hA2, hA3, hA4, hA5, hA6⟩ := Z.areas_law a b c hb
          have hA7 : IntKind.i64.wrap (-(Z.DoubleArea a b c).1) = -(Z.DoubleArea a b c).1 := IntWalk.i64_in _ (by omega)
          by_cases hz : (Z.DoubleArea a b c).1 = 0
          · have hB := hA5 hz
            go_wp2_with fail
            refine K.call (by with_reducible rfl) (by with_reducible rfl) (impl_DoubleArea b c a _) ?_
            rintro e w13 ⟨rfl, f13⟩
            have F13 : K.Ext w w13 := K.Ext.trans (by repeat' (first | with_reducible exact F12 | with_reducible refine K.Ext.setCell ?_ ?_ _ | with_reducible refine K.Ext.alloc ?_ _ | with_reducible refine K.Ext.drew ?_ | (dsimp only; omega) | omega | (simp; omega))) f13
            have c13_0_0 : w13.cell? ⟨w1.heap.size, 0, none⟩ = some (.int .i64 a.1) := f13.cell_of (by go_simp)
            have c13_0_1 : w13.cell? ⟨w1.heap.size, 1, none⟩ = some (.int .i64 a.2) := f13.cell_of (by go_simp)
            have y13_0 : w1.heap.size < w13.heap.size := World.block_lt_of_cell? w13 _ c13_0_0
            have c13_1_0 : w13.cell? ⟨w1.heap.size + 1, 0, none⟩ = some (.int .i64 b.1) := f13.cell_of (by go_simp)
            have c13_1_1 : w13.cell? ⟨w1.heap.size + 1, 1, none⟩ = some (.int .i64 b.2) := f13.cell_of (by go_simp)
            have y13_1 : w1.heap.size + 1 < w13.heap.size := World.block_lt_of_cell? w13 _ c13_1_0
            have c13_2_0 : w13.cell? ⟨w1.heap.size + 1 + 1, 0, none⟩ = some (.int .i64 c.1) := f13.cell_of (by go_simp)
            have c13_2_1 : w13.cell? ⟨w1.heap.size + 1 + 1, 1, none⟩ = some (.int .i64 c.2) := f13.cell_of (by go_simp)
            have y13_2 : w1.heap.size + 1 + 1 < w13.heap.size := World.block_lt_of_cell? w13 _ c13_2_0
            clear c12_0_0 c12_0_1 y12_0 c12_1_0 c12_1_1 y12_1 c12_2_0 c12_2_1 y12_2 c12_3_0 c12_3_1 y12_3 c12_4_0 c12_4_1 y12_4 c12_5_0 c12_5_1 y12_5 F12 f13
            go_wp2_with fail
            refine K.call (by with_reducible rfl) (by with_reducible rfl) (impl_DoubleArea b a c _) ?_
            rintro e w14 ⟨rfl, f14⟩
            have F14 : K.Ext w w14 := K.Ext.trans (by repeat' (first | with_reducible exact F13 | with_reducible refine K.Ext.setCell ?_ ?_ _ | with_reducible refine K.Ext.alloc ?_ _ | with_reducible refine K.Ext.drew ?_ | (dsimp only; omega) | omega | (simp; omega))) f14
            have c14_0_0 : w14.cell? ⟨w1.heap.size, 0, none⟩ = some (.int .i64 a.1) := f14.cell_of (by go_simp)
            have c14_0_1 : w14.cell? ⟨w1.heap.size, 1, none⟩ = some (.int .i64 a.2) := f14.cell_of (by go_simp)
            have y14_0 : w1.heap.size < w14.heap.size := World.block_lt_of_cell? w14 _ c14_0_0
            have c14_1_0 : w14.cell? ⟨w1.heap.size + 1, 0, none⟩ = some (.int .i64 b.1) := f14.cell_of (by go_simp)
            have c14_1_1 : w14.cell? ⟨w1.heap.size + 1, 1, none⟩ = some (.int .i64 b.2) := f14.cell_of (by go_simp)
            have y14_1 : w1.heap.size + 1 < w14.heap.size := World.block_lt_of_cell? w14 _ c14_1_0
            have c14_2_0 : w14.cell? ⟨w1.heap.size + 1 + 1, 0, none⟩ = some (.int .i64 c.1) := f14.cell_of (by go_simp)
            have c14_2_1 : w14.cell? ⟨w1.heap.size + 1 + 1, 1, none⟩ = some (.int .i64 c.2) := f14.cell_of (by go_simp)
            have y14_2 : w1.heap.size + 1 + 1 < w14.heap.size := World.block_lt_of_cell? w14 _ c14_2_0
            clear c13_0_0 c13_0_1 y13_0 c13_1_0 c13_1_1 y13_1 c13_2_0 c13_2_1 y13_2 F13 f14
            go_wp2_with fail
            go_ret
            exact ⟨rfl, (by repeat' (first | with_reducible exact F14 | with_reducible refine K.Ext.setCell ?_ ?_ _ | with_reducible refine K.Ext.alloc ?_ _ | with_reducible refine K.Ext.drew ?_ | (dsimp only; omega) | omega | (simp; omega)))⟩
          · have hB := hA6 hz
            have hz' : ((Z.DoubleArea a b c).1 == 0) = false := by simpa using hz
            go_wp2_with fail
            refine K.call (by with_reducible rfl) (by with_reducible rfl) (impl_DoubleArea b c a _) ?_
            rintro e w13 ⟨rfl, f13⟩
            have F13 : K.Ext w w13 := K.Ext.trans (by repeat' (first | with_reducible exact F12 | with_reducible refine K.Ext.setCell ?_ ?_ _ | with_reducible refine K.Ext.alloc ?_ _ | with_reducible refine K.Ext.drew ?_ | (dsimp only; omega) | omega | (simp; omega))) f13
            have c13_0_0 : w13.cell? ⟨w1.heap.size, 0, none⟩ = some (.int .i64 a.1) := f13.cell_of (by go_simp)
            have c13_0_1 : w13.cell? ⟨w1.heap.size, 1, none⟩ = some (.int .i64 a.2) := f13.cell_of (by go_simp)
            have y13_0 : w1.heap.size < w13.heap.size := World.block_lt_of_cell? w13 _ c13_0_0
            have c13_1_0 : w13.cell? ⟨w1.heap.size + 1, 0, none⟩ = some (.int .i64 b.1) := f13.cell_of (by go_simp)
            have c13_1_1 : w13.cell? ⟨w1.heap.size + 1, 1, none⟩ = some (.int .i64 b.2) := f13.cell_of (by go_simp)
            have y13_1 : w1.heap.size + 1 < w13.heap.size := World.block_lt_of_cell? w13 _ c13_1_0
            have c13_2_0 : w13.cell? ⟨w1.heap.size + 1 + 1, 0, none⟩ = some (.int .i64 c.1) := f13.cell_of (by go_simp)
            have c13_2_1 : w13.cell? ⟨w1.heap.size + 1 + 1, 1, none⟩ = some (.int .i64 c.2) := f13.cell_of (by go_simp)
            have y13_2 : w1.heap.size + 1 + 1 < w13.heap.size := World.block_lt_of_cell? w13 _ c13_2_0
            clear c12_0_0 c12_0_1 y12_0 c12_1_0 c12_1_1 y12_1 c12_2_0 c12_2_1 y12_2 c12_3_0 c12_3_1 y12_3 c12_4_0 c12_4_1 y12_4 c12_5_0 c12_5_1 y12_5 F12 f13
            go_wp2_with fail
            refine K.call (by with_reducible rfl) (by with_reducible rfl) (impl_DoubleArea b a c _) ?_
            rintro e w14 ⟨rfl, f14⟩
            have F14 : K.Ext w w14 := K.Ext.trans (by repeat' (first | with_reducible exact F13 | with_reducible refine K.Ext.setCell ?_ ?_ _ | with_reducible refine K.Ext.alloc ?_ _ | with_reducible refine K.Ext.drew ?_ | (dsimp only; omega) | omega | (simp; omega))) f14
            have c14_0_0 : w14.cell? ⟨w1.heap.size, 0, none⟩ = some (.int .i64 a.1) := f14.cell_of (by go_simp)
            have c14_0_1 : w14.cell? ⟨w1.heap.size, 1, none⟩ = some (.int .i64 a.2) := f14.cell_of (by go_simp)
            have y14_0 : w1.heap.size < w14.heap.size := World.block_lt_of_cell? w14 _ c14_0_0
            have c14_1_0 : w14.cell? ⟨w1.heap.size + 1, 0, none⟩ = some (.int .i64 b.1) := f14.cell_of (by go_simp)
            have c14_1_1 : w14.cell? ⟨w1.heap.size + 1, 1, none⟩ = some (.int .i64 b.2) := f14.cell_of (by go_simp)
            have y14_1 : w1.heap.size + 1 < w14.heap.size := World.block_lt_of_cell? w14 _ c14_1_0
            have c14_2_0 : w14.cell? ⟨w1.heap.size + 1 + 1, 0, none⟩ = some (.int .i64 c.1) := f14.cell_of (by go_simp)
            have c14_2_1 : w14.cell? ⟨w1.heap.size + 1 + 1, 1, none⟩ = some (.int .i64 c.2) := f14.cell_of (by go_simp)
            have y14_2 : w1.heap.size + 1 + 1 < w14.heap.size := World.block_lt_of_cell? w14 _ c14_2_0
            clear c13_0_0 c13_0_1 y13_0 c13_1_0 c13_1_1 y13_1 c13_2_0 c13_2_1 y13_2 F13 f14
            go_wp2_with fail
            go_ret
            exact ⟨rfl, (by repeat' (first | with_reducible exact F14 | with_reducible refine K.Ext.setCell ?_ ?_ _ | with_reducible refine K.Ext.alloc ?_ _ | with_reducible refine K.Ext.drew ?_ | (dsimp only; omega) | omega | (simp; omega)))⟩
        go_wp2_with fail
        go_ret
        exact ⟨rfl, (by repeat' (first | with_reducible exact F12 | with_reducible refine K.Ext.setCell ?_ ?_ _ | with_reducible refine K.Ext.alloc ?_ _ | with_reducible refine K.Ext.drew ?_ | (dsimp only; omega) | omega | (simp; omega)))⟩
    by_cases hb : (Z.DoubleArea a b c).2 = 0
    · obtain ⟨hA1, hA2, hA3, hA4, hA5, hA6⟩ := Z.areas_law a b c hb
      have hA7 : IntKind.i64.wrap (-(Z.DoubleArea a b c).1) = -(Z.DoubleArea a b c).1 := IntWalk.i64_in _ (by omega)
      by_cases hz : (Z.DoubleArea a b c).1 = 0
      · have hB := hA5 hz
        go_wp2_with fail
        refine K.call (by with_reducible rfl) (by with_reducible rfl) (impl_DoubleArea b c a _) ?_
        rintro e w12 ⟨rfl, f12⟩
        have F12 : K.Ext w w12 := K.Ext.trans (by repeat' (first | with_reducible exact F11 | with_reducible refine K.Ext.setCell ?_ ?_ _ | with_reducible refine K.Ext.alloc ?_ _ | with_reducible refine K.Ext.drew ?_ | (dsimp only; omega) | omega | (simp; omega))) f12
        have c12_0_0 : w12.cell? ⟨w1.heap.size, 0, none⟩ = some (.int .i64 a.1) := f12.cell_of (by go_simp)
        have c12_0_1 : w12.cell? ⟨w1.heap.size, 1, none⟩ = some (.int .i64 a.2) := f12.cell_of (by go_simp)
        have y12_0 : w1.heap.size < w12.heap.size := World.block_lt_of_cell? w12 _ c12_0_0
        have c12_1_0 : w12.cell? ⟨w1.heap.size + 1, 0, none⟩ = some (.int .i64 b.1) := f12.cell_of (by go_simp)
        have c12_1_1 : w12.cell? ⟨w1.heap.size + 1, 1, none⟩ = some (.int .i64 b.2) := f12.cell_of (by go_simp)
        have y12_1 : w1.heap.size + 1 < w12.heap.size := World.block_lt_of_cell? w12 _ c12_1_0
        have c12_2_0 : w12.cell? ⟨w1.heap.size + 1 + 1, 0, none⟩ = some (.int .i64 c.1) := f12.cell_of (by go_simp)
        have c12_2_1 : w12.cell? ⟨w1.heap.size + 1 + 1, 1, none⟩ = some (.int .i64 c.2) := f12.cell_of (by go_simp)
        have y12_2 : w1.heap.size + 1 + 1 < w12.heap.size := World.block_lt_of_cell? w12 _ c12_2_0
        clear c11_0_0 c11_0_1 y11_0 c11_1_0 c11_1_1 y11_1 c11_2_0 c11_2_1 y11_2 c11_3_0 c11_3_1 y11_3 c11_4_0 c11_4_1 y11_4 c11_5_0 c11_5_1 y11_5 F11 f12
        go_wp2_with fail
        refine K.call (by with_reducible rfl) (by with_reducible rfl) (impl_DoubleArea b a c _) ?_
        rintro e w13 ⟨rfl, f13⟩
        have F13 : K.Ext w w13 := K.Ext.trans (by repeat' (first | with_reducible exact F12 | with_reducible refine K.Ext.setCell ?_ ?_ _ | with_reducible refine K.Ext.alloc ?_ _ | with_reducible refine K.Ext.drew ?_ | (dsimp only; omega) | omega | (simp; omega))) f13
        have c13_0_0 : w13.cell? ⟨w1.heap.size, 0, none⟩ = some (.int .i64 a.1) := f13.cell_of (by go_simp)
        have c13_0_1 : w13.cell? ⟨w1.heap.size, 1, none⟩ = some (.int .i64 a.2) := f13.cell_of (by go_simp)
        have y13_0 : w1.heap.size < w13.heap.size := World.block_lt_of_cell? w13 _ c13_0_0
        have c13_1_0 : w13.cell? ⟨w1.heap.size + 1, 0, none⟩ = some (.int .i64 b.1) := f13.cell_of (by go_simp)
        have c13_1_1 : w13.cell? ⟨w1.heap.size + 1, 1, none⟩ = some (.int .i64 b.2) := f13.cell_of (by go_simp)
        have y13_1 : w1.heap.size + 1 < w13.heap.size := World.block_lt_of_cell? w13 _ c13_1_0
        have c13_2_0 : w13.cell? ⟨w1.heap.size + 1 + 1, 0, none⟩ = some (.int .i64 c.1) := f13.cell_of (by go_simp)
        have c13_2_1 : w13.cell? ⟨w1.heap.size + 1 + 1, 1, none⟩ = some (.int .i64 c.2) := f13.cell_of (by go_simp)
        have y13_2 : w1.heap.size + 1 + 1 < w13.heap.size := World.block_lt_of_cell? w13 _ c13_2_0
        clear c12_0_0 c12_0_1 y12_0 c12_1_0 c12_1_1 y12_1 c12_2_0 c12_2_1 y12_2 F12 f13
        go_wp2_with fail
        go_ret
        exact ⟨rfl, (by repeat' (first | with_reducible exact F13 | with_reducible refine K.Ext.setCell ?_ ?_ _ | with_reducible refine K.Ext.alloc ?_ _ | with_reducible refine K.Ext.drew ?_ | (dsimp only; omega) | omega | (simp; omega)))⟩
      · have hB := hA6 hz
        have hz' : ((Z.DoubleArea a b c).1 == 0) = false := by simpa using hz
        go_wp2_with fail
        refine K.call (by with_reducible rfl) (by with_reducible rfl) (impl_DoubleArea b c a _) ?_
        rintro e w12 ⟨rfl, f12⟩
        have F12 : K.Ext w w12 := K.Ext.trans (by repeat' (first | with_reducible exact F11 | with_reducible refine K.Ext.setCell ?_ ?_ _ | with_reducible refine K.Ext.alloc ?_ _ | with_reducible refine K.Ext.drew ?_ | (dsimp only; omega) | omega | (simp; omega))) f12
        have c12_0_0 : w12.cell? ⟨w1.heap.size, 0, none⟩ = some (.int .i64 a.1) := f12.cell_of (by go_simp)
        have c12_0_1 : w12.cell? ⟨w1.heap.size, 1, none⟩ = some (.int .i64 a.2) := f12.cell_of (by go_simp)
        have y12_0 : w1.heap.size < w12.heap.size := World.block_lt_of_cell? w12 _ c12_0_0
        have c12_1_0 : w12.cell? ⟨w1.heap.size + 1, 0, none⟩ = some (.int .i64 b.1) := f12.cell_of (by go_simp)
        have c12_1_1 : w12.cell? ⟨w1.heap.size + 1, 1, none⟩ = some (.int .i64 b.2) := f12.cell_of (by go_simp)
        have y12_1 : w1.heap.size + 1 < w12.heap.size := World.block_lt_of_cell? w12 _ c12_1_0
        have c12_2_0 : w12.cell? ⟨w1.heap.size + 1 + 1, 0, none⟩ = some (.int .i64 c.1) := f12.cell_of (by go_simp)
        have c12_2_1 : w12.cell? ⟨w1.heap.size + 1 + 1, 1, none⟩ = some (.int .i64 c.2) := f12.cell_of (by go_simp)
        have y12_2 : w1.heap.size + 1 + 1 < w12.heap.size := World.block_lt_of_cell? w12 _ c12_2_0
        clear c11_0_0 c11_0_1 y11_0 c11_1_0 c11_1_1 y11_1 c11_2_0 c11_2_1 y11_2 c11_3_0 c11_3_1 y11_3 c11_4_0 c11_4_1 y11_4 c11_5_0 c11_5_1 y11_5 F11 f12
        go_wp2_with fail
        refine K.call (by with_reducible rfl) (by with_reducible rfl) (impl_DoubleArea b a c _) ?_
        rintro e w13 ⟨rfl, f13⟩
        have F13 : K.Ext w w13 := K.Ext.trans (by repeat' (first | with_reducible exact F12 | with_reducible refine K.Ext.setCell ?_ ?_ _ | with_reducible refine K.Ext.alloc ?_ _ | with_reducible refine K.Ext.drew ?_ | (dsimp only; omega) | omega | (simp; omega))) f13
        have c13_0_0 : w13.cell? ⟨w1.heap.size, 0, none⟩ = some (.int .i64 a.1) := f13.cell_of (by go_simp)
        have c13_0_1 : w13.cell? ⟨w1.heap.size, 1, none⟩ = some (.int .i64 a.2) := f13.cell_of (by go_simp)
        have y13_0 : w1.heap.size < w13.heap.size := World.block_lt_of_cell? w13 _ c13_0_0
        have c13_1_0 : w13.cell? ⟨w1.heap.size + 1, 0, none⟩ = some (.int .i64 b.1) := f13.cell_of (by go_simp)
        have c13_1_1 : w13.cell? ⟨w1.heap.size + 1, 1, none⟩ = some (.int .i64 b.2) := f13.cell_of (by go_simp)
        have y13_1 : w1.heap.size + 1 < w13.heap.size := World.block_lt_of_cell? w13 _ c13_1_0
        have c13_2_0 : w13.cell? ⟨w1.heap.size + 1 + 1, 0, none⟩ = some (.int .i64 c.1) := f13.cell_of (by go_simp)
        have c13_2_1 : w13.cell? ⟨w1.heap.size + 1 + 1, 1, none⟩ = some (.int .i64 c.2) := f13.cell_of (by go_simp)
        have y13_2 : w1.heap.size + 1 + 1 < w13.heap.size := World.block_lt_of_cell? w13 _ c13_2_0
        clear c12_0_0 c12_0_1 y12_0 c12_1_0 c12_1_1 y12_1 c12_2_0 c12_2_1 y12_2 F12 f13
        go_wp2_with fail
        go_ret
        exact ⟨rfl, (by repeat' (first | with_reducible exact F13 | with_reducible refine K.Ext.setCell ?_ ?_ _ | with_reducible refine K.Ext.alloc ?_ _ | with_reducible refine K.Ext.drew ?_ | (dsimp only; omega) | omega | (simp; omega)))⟩
    go_wp2_with fail
    go_ret
    exact ⟨rfl, (by repeat' (first | with_reducible exact F11 | with_reducible refine K.Ext.setCell ?_ ?_ _ | with_reducible refine K.Ext.alloc ?_ _ | with_reducible refine K.Ext.drew ?_ | (dsimp only; omega) | omega | (simp; omega)))⟩
  by_cases ht : (Z.DeviationOf p x y).2 = 0
  · obtain ⟨hD1, hD2, hD3, hD4⟩ := Z.dev_law p x y ht
    by_cases hy : (Z.DeviationOf p x y).1 = 0
    · have hE := hD3 hy
      go_wp2_with fail
      refine K.call (by with_reducible rfl) (by with_reducible rfl) (impl_AreInLine p x y _) ?_
      rintro e w12 ⟨rfl, f12⟩
      have F12 : K.Ext w w12 := K.Ext.trans (by repeat' (first | with_reducible exact F11 | with_reducible refine K.Ext.setCell ?_ ?_ _ | with_reducible refine K.Ext.alloc ?_ _ | with_reducible refine K.Ext.drew ?_ | (dsimp only; omega) | omega | (simp; omega))) f12
      have c12_0_0 : w12.cell? ⟨w1.heap.size, 0, none⟩ = some (.int .i64 a.1) := f12.cell_of (by go_simp)
      have c12_0_1 : w12.cell? ⟨w1.heap.size, 1, none⟩ = some (.int .i64 a.2) := f12.cell_of (by go_simp)
      have y12_0 : w1.heap.size < w12.heap.size := World.block_lt_of_cell? w12 _ c12_0_0
      have c12_1_0 : w12.cell? ⟨w1.heap.size + 1, 0, none⟩ = some (.int .i64 b.1) := f12.cell_of (by go_simp)
      have c12_1_1 : w12.cell? ⟨w1.heap.size + 1, 1, none⟩ = some (.int .i64 b.2) := f12.cell_of (by go_simp)
      have y12_1 : w1.heap.size + 1 < w12.heap.size := World.block_lt_of_cell? w12 _ c12_1_0
      have c12_2_0 : w12.cell? ⟨w1.heap.size + 1 + 1, 0, none⟩ = some (.int .i64 c.1) := f12.cell_of (by go_simp)
      have c12_2_1 : w12.cell? ⟨w1.heap.size + 1 + 1, 1, none⟩ = some (.int .i64 c.2) := f12.cell_of (by go_simp)
      have y12_2 : w1.heap.size + 1 + 1 < w12.heap.size := World.block_lt_of_cell? w12 _ c12_2_0
      have c12_3_0 : w12.cell? ⟨w6.heap.size, 0, none⟩ = some (.int .i64 p.1) := f12.cell_of (by go_simp)
      have c12_3_1 : w12.cell? ⟨w6.heap.size, 1, none⟩ = some (.int .i64 p.2) := f12.cell_of (by go_simp)
      have y12_3 : w6.heap.size < w12.heap.size := World.block_lt_of_cell? w12 _ c12_3_0
      have c12_4_0 : w12.cell? ⟨w6.heap.size + 1, 0, none⟩ = some (.int .i64 x.1) := f12.cell_of (by go_simp)
      have c12_4_1 : w12.cell? ⟨w6.heap.size + 1, 1, none⟩ = some (.int .i64 x.2) := f12.cell_of (by go_simp)
      have y12_4 : w6.heap.size + 1 < w12.heap.size := World.block_lt_of_cell? w12 _ c12_4_0
      have c12_5_0 : w12.cell? ⟨w6.heap.size + 1 + 1, 0, none⟩ = some (.int .i64 y.1) := f12.cell_of (by go_simp)
      have c12_5_1 : w12.cell? ⟨w6.heap.size + 1 + 1, 1, none⟩ = some (.int .i64 y.2) := f12.cell_of (by go_simp)
      have y12_5 : w6.heap.size + 1 + 1 < w12.heap.size := World.block_lt_of_cell? w12 _ c12_5_0
      clear c11_0_0 c11_0_1 y11_0 c11_1_0 c11_1_1 y11_1 c11_2_0 c11_2_1 y11_2 c11_3_0 c11_3_1 y11_3 c11_4_0 c11_4_1 y11_4 c11_5_0 c11_5_1 y11_5 F11 f12
      by_cases hb : (Z.DoubleArea a b c).2 = 0
      · obtain ⟨hA1, hA2, hA3, hA4, hA5, hA6⟩ := Z.areas_law a b c hb
        have hA7 : IntKind.i64.wrap (-(Z.DoubleArea a b c).1) = -(Z.DoubleArea a b c).1 := IntWalk.i64_in _ (by omega)
        by_cases hz : (Z.DoubleArea a b c).1 = 0
        · have hB := hA5 hz
          go_wp2_with fail
          refine K.call (by with_reducible rfl) (by with_reducible rfl) (impl_DoubleArea b c a _) ?_
          rintro e w13 ⟨rfl, f13⟩
          have F13 : K.Ext w w13 := K.Ext.trans (by repeat' (first | with_reducible exact F12 | with_reducible refine K.Ext.setCell ?_ ?_ _ | with_reducible refine K.Ext.alloc ?_ _ | with_reducible refine K.Ext.drew ?_ | (dsimp only; omega) | omega | (simp; omega))) f13
          have c13_0_0 : w13.cell? ⟨w1.heap.size, 0, none⟩ = some (.int .i64 a.1) := f13.cell_of (by go_simp)
          have c13_0_1 : w13.cell? ⟨w1.heap.size, 1, none⟩ = some (.int .i64 a.2) := f13.cell_of (by go_simp)
          have y13_0 : w1.heap.size < w13.heap.size := World.block_lt_of_cell? w13 _ c13_0_0
          have c13_1_0 : w13.cell? ⟨w1.heap.size + 1, 0, none⟩ = some (.int .i64 b.1) := f13.cell_of (by go_simp)
          have c13_1_1 : w13.cell? ⟨w1.heap.size + 1, 1, none⟩ = some (.int .i64 b.2) := f13.cell_of (by go_simp)
          have y13_1 : w1.heap.size + 1 < w13.heap.size := World.block_lt_of_cell? w13 _ c13_1_0
          have c13_2_0 : w13.cell? ⟨w1.heap.size + 1 + 1, 0, none⟩ = some (.int .i64 c.1) := f13.cell_of (by go_simp)
          have c13_2_1 : w13.cell? ⟨w1.heap.size + 1 + 1, 1, none⟩ = some (.int .i64 c.2) := f13.cell_of (by go_simp)
          have y13_2 : w1.heap.size + 1 + 1 < w13.heap.size := World.block_lt_of_cell? w13 _ c13_2_0
          clear c12_0_0 c12_0_1 y12_0 c12_1_0 c12_1_1 y12_1 c12_2_0 c12_2_1 y12_2 c12_3_0 c12_3_1 y12_3 c12_4_0 c12_4_1 y12_4 c12_5_0 c12_5_1 y12_5 F12 f13
          go_wp2_with fail
          refine K.call (by with_reducible rfl) (by with_reducible rfl) (impl_DoubleArea b a c _) ?_
          rintro e w14 ⟨rfl, f14⟩
          have F14 : K.Ext w w14 := K.Ext.trans (by repeat' (first | with_reducible exact F13 | with_reducible refine K.Ext.setCell ?_ ?_ _ | with_reducible refine K.Ext.alloc ?_ _ | with_reducible refine K.Ext.drew ?_ | (dsimp only; omega) | omega | (simp; omega))) f14
          have c14_0_0 : w14.cell? ⟨w1.heap.size, 0, none⟩ = some (.int .i64 a.1) := f14.cell_of (by go_simp)
          have c14_0_1 : w14.cell? ⟨w1.heap.size, 1, none⟩ = some (.int .i64 a.2) := f14.cell_of (by go_simp)
          have y14_0 : w1.heap.size < w14.heap.size := World.block_lt_of_cell? w14 _ c14_0_0
          have c14_1_0 : w14.cell? ⟨w1.heap.size + 1, 0, none⟩ = some (.int .i64 b.1) := f14.cell_of (by go_simp)
          have c14_1_1 : w14.cell? ⟨w1.heap.size + 1, 1, none⟩ = some (.int .i64 b.2) := f14.cell_of (by go_simp)
          have y14_1 : w1.heap.size + 1 < w14.heap.size := World.block_lt_of_cell? w14 _ c14_1_0
          have c14_2_0 : w14.cell? ⟨w1.heap.size + 1 + 1, 0, none⟩ = some (.int .i64 c.1) := f14.cell_of (by go_simp)
          have c14_2_1 : w14.cell? ⟨w1.heap.size + 1 + 1, 1, none⟩ = some (.int .i64 c.2) := f14.cell_of (by go_simp)
          have y14_2 : w1.heap.size + 1 + 1 < w14.heap.size := World.block_lt_of_cell? w14 _ c14_2_0
          clear c13_0_0 c13_0_1 y13_0 c13_1_0 c13_1_1 y13_1 c13_2_0 c13_2_1 y13_2 F13 f14
          go_wp2_with fail
          go_ret
          exact ⟨rfl, (by repeat' (first | with_reducible exact F14 | with_reducible refine K.Ext.setCell ?_ ?_ _ | with_reducible refine K.Ext.alloc ?_ _ | with_reducible refine K.Ext.drew ?_ | (dsimp only; omega) | omega | (simp; omega)))⟩
        · have hB := hA6 hz
          have hz' : ((Z.DoubleArea a b c).1 == 0) = false := by simpa using hz
          go_wp2_with fail
          refine K.call (by with_reducible rfl) (by with_reducible rfl) (impl_DoubleArea b c a _) ?_
          rintro e w13 ⟨rfl, f13⟩
          have F13 : K.Ext w w13 := K.Ext.trans (by repeat' (first | with_reducible exact F12 | with_reducible refine K.Ext.setCell ?_ ?_ _ | with_reducible refine K.Ext.alloc ?_ _ | with_reducible refine K.Ext.drew ?_ | (dsimp only; omega) | omega | (simp; omega))) f13
          have c13_0_0 : w13.cell? ⟨w1.heap.size, 0, none⟩ = some (.int .i64 a.1) := f13.cell_of (by go_simp)
          have c13_0_1 : w13.cell? ⟨w1.heap.size, 1, none⟩ = some (.int .i64 a.2) := f13.cell_of (by go_simp)
          have y13_0 : w1.heap.size < w13.heap.size := World.block_lt_of_cell? w13 _ c13_0_0
          have c13_1_0 : w13.cell? ⟨w1.heap.size + 1, 0, none⟩ = some (.int .i64 b.1) := f13.cell_of (by go_simp)
          have c13_1_1 : w13.cell? ⟨w1.heap.size + 1, 1, none⟩ = some (.int .i64 b.2) := f13.cell_of (by go_simp)
          have y13_1 : w1.heap.size + 1 < w13.heap.size := World.block_lt_of_cell? w13 _ c13_1_0
          have c13_2_0 : w13.cell? ⟨w1.heap.size + 1 + 1, 0, none⟩ = some (.int .i64 c.1) := f13.cell_of (by go_simp)
          have c13_2_1 : w13.cell? ⟨w1.heap.size + 1 + 1, 1, none⟩ = some (.int .i64 c.2) := f13.cell_of (by go_simp)
          have y13_2 : w1.heap.size + 1 + 1 < w13.heap.size := World.block_lt_of_cell? w13 _ c13_2_0
          clear c12_0_0 c12_0_1 y12_0 c12_1_0 c12_1_1 y12_1 c12_2_0 c12_2_1 y12_2 c12_3_0 c12_3_1 y12_3 c12_4_0 c12_4_1 y12_4 c12_5_0 c12_5_1 y12_5 F12 f13
          go_wp2_with fail
          refine K.call (by with_reducible rfl) (by with_reducible rfl) (impl_DoubleArea b a c _) ?_
          rintro e w14 ⟨rfl, f14⟩
          have F14 : K.Ext w w14 := K.Ext.trans (by repeat' (first | with_reducible exact F13 | with_reducible refine K.Ext.setCell ?_ ?_ _ | with_reducible refine K.Ext.alloc ?_ _ | with_reducible refine K.Ext.drew ?_ | (dsimp only; omega) | omega | (simp; omega))) f14
          have c14_0_0 : w14.cell? ⟨w1.heap.size, 0, none⟩ = some (.int .i64 a.1) := f14.cell_of (by go_simp)
          have c14_0_1 : w14.cell? ⟨w1.heap.size, 1, none⟩ = some (.int .i64 a.2) := f14.cell_of (by go_simp)
          have y14_0 : w1.heap.size < w14.heap.size := World.block_lt_of_cell? w14 _ c14_0_0
          have c14_1_0 : w14.cell? ⟨w1.heap.size + 1, 0, none⟩ = some (.int .i64 b.1) := f14.cell_of (by go_simp)
          have c14_1_1 : w14.cell? ⟨w1.heap.size + 1, 1, none⟩ = some (.int .i64 b.2) := f14.cell_of (by go_simp)
          have y14_1 : w1.heap.size + 1 < w14.heap.size := World.block_lt_of_cell? w14 _ c14_1_0
          have c14_2_0 : w14.cell? ⟨w1.heap.size + 1 + 1, 0, none⟩ = some (.int .i64 c.1) := f14.cell_of (by go_simp)
          have c14_2_1 : w14.cell? ⟨w1.heap.size + 1 + 1, 1, none⟩ = some (.int .i64 c.2) := f14.cell_of (by go_simp)
          have y14_2 : w1.heap.size + 1 + 1 < w14.heap.size := World.block_lt_of_cell? w14 _ c14_2_0
          clear c13_0_0 c13_0_1 y13_0 c13_1_0 c13_1_1 y13_1 c13_2_0 c13_2_1 y13_2 F13 f14
          go_wp2_with fail
          go_ret
          exact ⟨rfl, (by repeat' (first | with_reducible exact F14 | with_reducible refine K.Ext.setCell ?_ ?_ _ | with_reducible refine K.Ext.alloc ?_ _ | with_reducible refine K.Ext.drew ?_ | (dsimp only; omega) | omega | (simp; omega)))⟩
      go_wp2_with fail
      go_ret
      exact ⟨rfl, (by repeat' (first | with_reducible exact F12 | with_reducible refine K.Ext.setCell ?_ ?_ _ | with_reducible refine K.Ext.alloc ?_ _ | with_reducible refine K.Ext.drew ?_ | (dsimp only; omega) | omega | (simp; omega)))⟩
    · have hE := hD4 hy
      have hy' : ((Z.DeviationOf p x y).1 == 0) = false := by simpa using hy
      go_wp2_with fail
      refine K.call (by with_reducible rfl) (by with_reducible rfl) (impl_AreInLine p x y _) ?_
      rintro e w12 ⟨rfl, f12⟩
      have F12 : K.Ext w w12 := K.Ext.trans (by repeat' (first | with_reducible exact F11 | with_reducible refine K.Ext.setCell ?_ ?_ _ | with_reducible refine K.Ext.alloc ?_ _ | with_reducible refine K.Ext.drew ?_ | (dsimp only; omega) | omega | (simp; omega))) f12
      have c12_0_0 : w12.cell? ⟨w1.heap.size, 0, none⟩ = some (.int .i64 a.1) := f12.cell_of (by go_simp)
      have c12_0_1 : w12.cell? ⟨w1.heap.size, 1, none⟩ = some (.int .i64 a.2) := f12.cell_of (by go_simp)
      have y12_0 : w1.heap.size < w12.heap.size := World.block_lt_of_cell? w12 _ c12_0_0
      have c12_1_0 : w12.cell? ⟨w1.heap.size + 1, 0, none⟩ = some (.int .i64 b.1) := f12.cell_of (by go_simp)
      have c12_1_1 : w12.cell? ⟨w1.heap.size + 1, 1, none⟩ = some (.int .i64 b.2) := f12.cell_of (by go_simp)
      have y12_1 : w1.heap.size + 1 < w12.heap.size := World.block_lt_of_cell? w12 _ c12_1_0
      have c12_2_0 : w12.cell? ⟨w1.heap.size + 1 + 1, 0, none⟩ = some (.int .i64 c.1) := f12.cell_of (by go_simp)
      have c12_2_1 : w12.cell? ⟨w1.heap.size + 1 + 1, 1, none⟩ = some (.int .i64 c.2) := f12.cell_of (by go_simp)
      have y12_2 : w1.heap.size + 1 + 1 < w12.heap.size := World.block_lt_of_cell? w12 _ c12_2_0
      have c12_3_0 : w12.cell? ⟨w6.heap.size, 0, none⟩ = some (.int .i64 p.1) := f12.cell_of (by go_simp)
      have c12_3_1 : w12.cell? ⟨w6.heap.size, 1, none⟩ = some (.int .i64 p.2) := f12.cell_of (by go_simp)
      have y12_3 : w6.heap.size < w12.heap.size := World.block_lt_of_cell? w12 _ c12_3_0
      have c12_4_0 : w12.cell? ⟨w6.heap.size + 1, 0, none⟩ = some (.int .i64 x.1) := f12.cell_of (by go_simp)
      have c12_4_1 : w12.cell? ⟨w6.heap.size + 1, 1, none⟩ = some (.int .i64 x.2) := f12.cell_of (by go_simp)
      have y12_4 : w6.heap.size + 1 < w12.heap.size := World.block_lt_of_cell? w12 _ c12_4_0
      have c12_5_0 : w12.cell? ⟨w6.heap.size + 1 + 1, 0, none⟩ = some (.int .i64 y.1) := f12.cell_of (by go_simp)
      have c12_5_1 : w12.cell? ⟨w6.heap.size + 1 + 1, 1, none⟩ = some (.int .i64 y.2) := f12.cell_of (by go_simp)
      have y12_5 : w6.heap.size + 1 + 1 < w12.heap.size := World.block_lt_of_cell? w12 _ c12_5_0
      clear c11_0_0 c11_0_1 y11_0 c11_1_0 c11_1_1 y11_1 c11_2_0 c11_2_1 y11_2 c11_3_0 c11_3_1 y11_3 c11_4_0 c11_4_1 y11_4 c11_5_0 c11_5_1 y11_5 F11 f12
      by_cases hb : (Z.DoubleArea a b c).2 = 0
      · obtain ⟨hA1, hA2, hA3, hA4, hA5, hA6⟩ := Z.areas_law a b c hb
        have hA7 : IntKind.i64.wrap (-(Z.DoubleArea a b c).1) = -(Z.DoubleArea a b c).1 := IntWalk.i64_in _ (by omega)
        by_cases hz : (Z.DoubleArea a b c).1 = 0
        · have hB := hA5 hz
          go_wp2_with fail
          refine K.call (by with_reducible rfl) (by with_reducible rfl) (impl_DoubleArea b c a _) ?_
          rintro e w13 ⟨rfl, f13⟩
          have F13 : K.Ext w w13 := K.Ext.trans (by repeat' (first | with_reducible exact F12 | with_reducible refine K.Ext.setCell ?_ ?_ _ | with_reducible refine K.Ext.alloc ?_ _ | with_reducible refine K.Ext.drew ?_ | (dsimp only; omega) | omega | (simp; omega))) f13
          have c13_0_0 : w13.cell? ⟨w1.heap.size, 0, none⟩ = some (.int .i64 a.1) := f13.cell_of (by go_simp)
          have c13_0_1 : w13.cell? ⟨w1.heap.size, 1, none⟩ = some (.int .i64 a.2) := f13.cell_of (by go_simp)
          have y13_0 : w1.heap.size < w13.heap.size := World.block_lt_of_cell? w13 _ c13_0_0
          have c13_1_0 : w13.cell? ⟨w1.heap.size + 1, 0, none⟩ = some (.int .i64 b.1) := f13.cell_of (by go_simp)
          have c13_1_1 : w13.cell? ⟨w1.heap.size + 1, 1, none⟩ = some (.int .i64 b.2) := f13.cell_of (by go_simp)
          have y13_1 : w1.heap.size + 1 < w13.heap.size := World.block_lt_of_cell? w13 _ c13_1_0
          have c13_2_0 : w13.cell? ⟨w1.heap.size + 1 + 1, 0, none⟩ = some (.int .i64 c.1) := f13.cell_of (by go_simp)
          have c13_2_1 : w13.cell? ⟨w1.heap.size + 1 + 1, 1, none⟩ = some (.int .i64 c.2) := f13.cell_of (by go_simp)
          have y13_2 : w1.heap.size + 1 + 1 < w13.heap.size := World.block_lt_of_cell? w13 _ c13_2_0
          clear c12_0_0 c12_0_1 y12_0 c12_1_0 c12_1_1 y12_1 c12_2_0 c12_2_1 y12_2 c12_3_0 c12_3_1 y12_3 c12_4_0 c12_4_1 y12_4 c12_5_0 c12_5_1 y12_5 F12 f13
          go_wp2_with fail
          refine K.call (by with_reducible rfl) (by with_reducible rfl) (impl_DoubleArea b a c _) ?_
          rintro e w14 ⟨rfl, f14⟩
          have F14 : K.Ext w w14 := K.Ext.trans (by repeat' (first | with_reducible exact F13 | with_reducible refine K.Ext.setCell ?_ ?_ _ | with_reducible refine K.Ext.alloc ?_ _ | with_reducible refine K.Ext.drew ?_ | (dsimp only; omega) | omega | (simp; omega))) f14
          have c14_0_0 : w14.cell? ⟨w1.heap.size, 0, none⟩ = some (.int .i64 a.1) := f14.cell_of (by go_simp)
          have c14_0_1 : w14.cell? ⟨w1.heap.size, 1, none⟩ = some (.int .i64 a.2) := f14.cell_of (by go_simp)
          have y14_0 : w1.heap.size < w14.heap.size := World.block_lt_of_cell? w14 _ c14_0_0
          have c14_1_0 : w14.cell? ⟨w1.heap.size + 1, 0, none⟩ = some (.int .i64 b.1) := f14.cell_of (by go_simp)
          have c14_1_1 : w14.cell? ⟨w1.heap.size + 1, 1, none⟩ = some (.int .i64 b.2) := f14.cell_of (by go_simp)
          have y14_1 : w1.heap.size + 1 < w14.heap.size := World.block_lt_of_cell? w14 _ c14_1_0
          have c14_2_0 : w14.cell? ⟨w1.heap.size + 1 + 1, 0, none⟩ = some (.int .i64 c.1) := f14.cell_of (by go_simp)
          have c14_2_1 : w14.cell? ⟨w1.heap.size + 1 + 1, 1, none⟩ = some (.int .i64 c.2) := f14.cell_of (by go_simp)
          have y14_2 : w1.heap.size + 1 + 1 < w14.heap.size := World.block_lt_of_cell? w14 _ c14_2_0
          clear c13_0_0 c13_0_1 y13_0 c13_1_0 c13_1_1 y13_1 c13_2_0 c13_2_1 y13_2 F13 f14
          go_wp2_with fail
          go_ret
          exact ⟨rfl, (by repeat' (first | with_reducible exact F14 | with_reducible refine K.Ext.setCell ?_ ?_ _ | with_reducible refine K.Ext.alloc ?_ _ | with_reducible refine K.Ext.drew ?_ | (dsimp only; omega) | omega | (simp; omega)))⟩
        · have hB := hA6 hz
          have hz' : ((Z.DoubleArea a b c).1 == 0) = false := by simpa using hz
          go_wp2_with fail
          refine K.call (by with_reducible rfl) (by with_reducible rfl) (impl_DoubleArea b c a _) ?_
          rintro e w13 ⟨rfl, f13⟩
          have F13 : K.Ext w w13 := K.Ext.trans (by repeat' (first | with_reducible exact F12 | with_reducible refine K.Ext.setCell ?_ ?_ _ | with_reducible refine K.Ext.alloc ?_ _ | with_reducible refine K.Ext.drew ?_ | (dsimp only; omega) | omega | (simp; omega))) f13
          have c13_0_0 : w13.cell? ⟨w1.heap.size, 0, none⟩ = some (.int .i64 a.1) := f13.cell_of (by go_simp)
          have c13_0_1 : w13.cell? ⟨w1.heap.size, 1, none⟩ = some (.int .i64 a.2) := f13.cell_of (by go_simp)
          have y13_0 : w1.heap.size < w13.heap.size := World.block_lt_of_cell? w13 _ c13_0_0
          have c13_1_0 : w13.cell? ⟨w1.heap.size + 1, 0, none⟩ = some (.int .i64 b.1) := f13.cell_of (by go_simp)
          have c13_1_1 : w13.cell? ⟨w1.heap.size + 1, 1, none⟩ = some (.int .i64 b.2) := f13.cell_of (by go_simp)
          have y13_1 : w1.heap.size + 1 < w13.heap.size := World.block_lt_of_cell? w13 _ c13_1_0
          have c13_2_0 : w13.cell? ⟨w1.heap.size + 1 + 1, 0, none⟩ = some (.int .i64 c.1) := f13.cell_of (by go_simp)
          have c13_2_1 : w13.cell? ⟨w1.heap.size + 1 + 1, 1, none⟩ = some (.int .i64 c.2) := f13.cell_of (by go_simp)
          have y13_2 : w1.heap.size + 1 + 1 < w13.heap.size := World.block_lt_of_cell? w13 _ c13_2_0
          clear c12_0_0 c12_0_1 y12_0 c12_1_0 c12_1_1 y12_1 c12_2_0 c12_2_1 y12_2 c12_3_0 c12_3_1 y12_3 c12_4_0 c12_4_1 y12_4 c12_5_0 c12_5_1 y12_5 F12 f13
          go_wp2_with fail
          refine K.call (by with_reducible rfl) (by with_reducible rfl) (impl_DoubleArea b a c _) ?_
          rintro e w14 ⟨rfl, f14⟩
          have F14 : K.Ext w w14 := K.Ext.trans (by repeat' (first | with_reducible exact F13 | with_reducible refine K.Ext.setCell ?_ ?_ _ | with_reducible refine K.Ext.alloc ?_ _ | with_reducible refine K.Ext.drew ?_ | (dsimp only; omega) | omega | (simp; omega))) f14
          have c14_0_0 : w14.cell? ⟨w1.heap.size, 0, none⟩ = some (.int .i64 a.1) := f14.cell_of (by go_simp)
          have c14_0_1 : w14.cell? ⟨w1.heap.size, 1, none⟩ = some (.int .i64 a.2) := f14.cell_of (by go_simp)
          have y14_0 : w1.heap.size < w14.heap.size := World.block_lt_of_cell? w14 _ c14_0_0
          have c14_1_0 : w14.cell? ⟨w1.heap.size + 1, 0, none⟩ = some (.int .i64 b.1) := f14.cell_of (by go_simp)
          have c14_1_1 : w14.cell? ⟨w1.heap.size + 1, 1, none⟩ = some (.int .i64 b.2) := f14.cell_of (by go_simp)
          have y14_1 : w1.heap.size + 1 < w14.heap.size := World.block_lt_of_cell? w14 _ c14_1_0
          have c14_2_0 : w14.cell? ⟨w1.heap.size + 1 + 1, 0, none⟩ = some (.int .i64 c.1) := f14.cell_of (by go_simp)
          have c14_2_1 : w14.cell? ⟨w1.heap.size + 1 + 1, 1, none⟩ = some (.int .i64 c.2) := f14.cell_of (by go_simp)
          have y14_2 : w1.heap.size + 1 + 1 < w14.heap.size := World.block_lt_of_cell? w14 _ c14_2_0
          clear c13_0_0 c13_0_1 y13_0 c13_1_0 c13_1_1 y13_1 c13_2_0 c13_2_1 y13_2 F13 f14
          go_wp2_with fail
          go_ret
          exact ⟨rfl, (by repeat' (first | with_reducible exact F14 | with_reducible refine K.Ext.setCell ?_ ?_ _ | with_reducible refine K.Ext.alloc ?_ _ | with_reducible refine K.Ext.drew ?_ | (dsimp only; omega) | omega | (simp; omega)))⟩
      go_wp2_with fail
      go_ret
      exact ⟨rfl, (by repeat' (first | with_reducible exact F12 | with_reducible refine K.Ext.setCell ?_ ?_ _ | with_reducible refine K.Ext.alloc ?_ _ | with_reducible refine K.Ext.drew ?_ | (dsimp only; omega) | omega | (simp; omega)))⟩
  by_cases hb : (Z.DoubleArea a b c).2 = 0
  · obtain ⟨hA1, hA2, hA3, hA4, hA5, hA6⟩ := Z.areas_law a b c hb
    have hA7 : IntKind.i64.wrap (-(Z.DoubleArea a b c).1) = -(Z.DoubleArea a b c).1 := IntWalk.i64_in _ (by omega)
    by_cases hz : (Z.DoubleArea a b c).1 = 0
    · have hB := hA5 hz
      go_wp2_with fail
      refine K.call (by with_reducible rfl) (by with_reducible rfl) (impl_DoubleArea b c a _) ?_
      rintro e w12 ⟨rfl, f12⟩
      have F12 : K.Ext w w12 := K.Ext.trans (by repeat' (first | with_reducible exact F11 | with_reducible refine K.Ext.setCell ?_ ?_ _ | with_reducible refine K.Ext.alloc ?_ _ | with_reducible refine K.Ext.drew ?_ | (dsimp only; omega) | omega | (simp; omega))) f12
      have c12_0_0 : w12.cell? ⟨w1.heap.size, 0, none⟩ = some (.int .i64 a.1) := f12.cell_of (by go_simp)
      have c12_0_1 : w12.cell? ⟨w1.heap.size, 1, none⟩ = some (.int .i64 a.2) := f12.cell_of (by go_simp)
      have y12_0 : w1.heap.size < w12.heap.size := World.block_lt_of_cell? w12 _ c12_0_0
      have c12_1_0 : w12.cell? ⟨w1.heap.size + 1, 0, none⟩ = some (.int .i64 b.1) := f12.cell_of (by go_simp)
      have c12_1_1 : w12.cell? ⟨w1.heap.size + 1, 1, none⟩ = some (.int .i64 b.2) := f12.cell_of (by go_simp)
      have y12_1 : w1.heap.size + 1 < w12.heap.size := World.block_lt_of_cell? w12 _ c12_1_0
      have c12_2_0 : w12.cell? ⟨w1.heap.size + 1 + 1, 0, none⟩ = some (.int .i64 c.1) := f12.cell_of (by go_simp)
      have c12_2_1 : w12.cell? ⟨w1.heap.size + 1 + 1, 1, none⟩ = some (.int .i64 c.2) := f12.cell_of (by go_simp)
      have y12_2 : w1.heap.size + 1 + 1 < w12.heap.size := World.block_lt_of_cell? w12 _ c12_2_0
      clear c11_0_0 c11_0_1 y11_0 c11_1_0 c11_1_1 y11_1 c11_2_0 c11_2_1 y11_2 c11_3_0 c11_3_1 y11_3 c11_4_0 c11_4_1 y11_4 c11_5_0 c11_5_1 y11_5 F11 f12
      go_wp2_with fail
      refine K.call (by with_reducible rfl) (by with_reducible rfl) (impl_DoubleArea b a c _) ?_
      rintro e w13 ⟨rfl, f13⟩
      have F13 : K.Ext w w13 := K.Ext.trans (by repeat' (first | with_reducible exact F12 | with_reducible refine K.Ext.setCell ?_ ?_ _ | with_reducible refine K.Ext.alloc ?_ _ | with_reducible refine K.Ext.drew ?_ | (dsimp only; omega) | omega | (simp; omega))) f13
      have c13_0_0 : w13.cell? ⟨w1.heap.size, 0, none⟩ = some (.int .i64 a.1) := f13.cell_of (by go_simp)
      have c13_0_1 : w13.cell? ⟨w1.heap.size, 1, none⟩ = some (.int .i64 a.2) := f13.cell_of (by go_simp)
      have y13_0 : w1.heap.size < w13.heap.size := World.block_lt_of_cell? w13 _ c13_0_0
      have c13_1_0 : w13.cell? ⟨w1.heap.size + 1, 0, none⟩ = some (.int .i64 b.1) := f13.cell_of (by go_simp)
      have c13_1_1 : w13.cell? ⟨w1.heap.size + 1, 1, none⟩ = some (.int .i64 b.2) := f13.cell_of (by go_simp)
      have y13_1 : w1.heap.size + 1 < w13.heap.size := World.block_lt_of_cell? w13 _ c13_1_0
      have c13_2_0 : w13.cell? ⟨w1.heap.size + 1 + 1, 0, none⟩ = some (.int .i64 c.1) := f13.cell_of (by go_simp)
      have c13_2_1 : w13.cell? ⟨w1.heap.size + 1 + 1, 1, none⟩ = some (.int .i64 c.2) := f13.cell_of (by go_simp)
      have y13_2 : w1.heap.size + 1 + 1 < w13.heap.size := World.block_lt_of_cell? w13 _ c13_2_0
      clear c12_0_0 c12_0_1 y12_0 c12_1_0 c12_1_1 y12_1 c12_2_0 c12_2_1 y12_2 F12 f13
      go_wp2_with fail
      go_ret
      exact ⟨rfl, (by repeat' (first | with_reducible exact F13 | with_reducible refine K.Ext.setCell ?_ ?_ _ | with_reducible refine K.Ext.alloc ?_ _ | with_reducible refine K.Ext.drew ?_ | (dsimp only; omega) | omega | (simp; omega)))⟩
    · have hB := hA6 hz
      have hz' : ((Z.DoubleArea a b c).1 == 0) = false := by simpa using hz
      go_wp2_with fail
      refine K.call (by with_reducible rfl) (by with_reducible rfl) (impl_DoubleArea b c a _) ?_
      rintro e w12 ⟨rfl, f12⟩
      have F12 : K.Ext w w12 := K.Ext.trans (by repeat' (first | with_reducible exact F11 | with_reducible refine K.Ext.setCell ?_ ?_ _ | with_reducible refine K.Ext.alloc ?_ _ | with_reducible refine K.Ext.drew ?_ | (dsimp only; omega) | omega | (simp; omega))) f12
      have c12_0_0 : w12.cell? ⟨w1.heap.size, 0, none⟩ = some (.int .i64 a.1) := f12.cell_of (by go_simp)
      have c12_0_1 : w12.cell? ⟨w1.heap.size, 1, none⟩ = some (.int .i64 a.2) := f12.cell_of (by go_simp)
      have y12_0 : w1.heap.size < w12.heap.size := World.block_lt_of_cell? w12 _ c12_0_0
      have c12_1_0 : w12.cell? ⟨w1.heap.size + 1, 0, none⟩ = some (.int .i64 b.1) := f12.cell_of (by go_simp)
      have c12_1_1 : w12.cell? ⟨w1.heap.size + 1, 1, none⟩ = some (.int .i64 b.2) := f12.cell_of (by go_simp)
      have y12_1 : w1.heap.size + 1 < w12.heap.size := World.block_lt_of_cell? w12 _ c12_1_0
      have c12_2_0 : w12.cell? ⟨w1.heap.size + 1 + 1, 0, none⟩ = some (.int .i64 c.1) := f12.cell_of (by go_simp)
      have c12_2_1 : w12.cell? ⟨w1.heap.size + 1 + 1, 1, none⟩ = some (.int .i64 c.2) := f12.cell_of (by go_simp)
      have y12_2 : w1.heap.size + 1 + 1 < w12.heap.size := World.block_lt_of_cell? w12 _ c12_2_0
      clear c11_0_0 c11_0_1 y11_0 c11_1_0 c11_1_1 y11_1 c11_2_0 c11_2_1 y11_2 c11_3_0 c11_3_1 y11_3 c11_4_0 c11_4_1 y11_4 c11_5_0 c11_5_1 y11_5 F11 f12
      go_wp2_with fail
      refine K.call (by with_reducible rfl) (by with_reducible rfl) (impl_DoubleArea b a c _) ?_
      rintro e w13 ⟨rfl, f13⟩
      have F13 : K.Ext w w13 := K.Ext.trans (by repeat' (first | with_reducible exact F12 | with_reducible refine K.Ext.setCell ?_ ?_ _ | with_reducible refine K.Ext.alloc ?_ _ | with_reducible refine K.Ext.drew ?_ | (dsimp only; omega) | omega | (simp; omega))) f13
      have c13_0_0 : w13.cell? ⟨w1.heap.size, 0, none⟩ = some (.int .i64 a.1) := f13.cell_of (by go_simp)
      have c13_0_1 : w13.cell? ⟨w1.heap.size, 1, none⟩ = some (.int .i64 a.2) := f13.cell_of (by go_simp)
      have y13_0 : w1.heap.size < w13.heap.size := World.block_lt_of_cell? w13 _ c13_0_0
      have c13_1_0 : w13.cell? ⟨w1.heap.size + 1, 0, none⟩ = some (.int .i64 b.1) := f13.cell_of (by go_simp)
      have c13_1_1 : w13.cell? ⟨w1.heap.size + 1, 1, none⟩ = some (.int .i64 b.2) := f13.cell_of (by go_simp)
      have y13_1 : w1.heap.size + 1 < w13.heap.size := World.block_lt_of_cell? w13 _ c13_1_0
      have c13_2_0 : w13.cell? ⟨w1.heap.size + 1 + 1, 0, none⟩ = some (.int .i64 c.1) := f13.cell_of (by go_simp)
      have c13_2_1 : w13.cell? ⟨w1.heap.size + 1 + 1, 1, none⟩ = some (.int .i64 c.2) := f13.cell_of (by go_simp)
      have y13_2 : w1.heap.size + 1 + 1 < w13.heap.size := World.block_lt_of_cell? w13 _ c13_2_0
      clear c12_0_0 c12_0_1 y12_0 c12_1_0 c12_1_1 y12_1 c12_2_0 c12_2_1 y12_2 F12 f13
      go_wp2_with fail
      go_ret
      exact ⟨rfl, (by repeat' (first | with_reducible exact F13 | with_reducible refine K.Ext.setCell ?_ ?_ _ | with_reducible refine K.Ext.alloc ?_ _ | with_reducible refine K.Ext.drew ?_ | (dsimp only; omega) | omega | (simp; omega)))⟩
  go_wp2_with fail
  go_ret
  exact ⟨rfl, (by repeat' (first | with_reducible exact F11 | with_reducible refine K.Ext.setCell ?_ ?_ _ | with_reducible refine K.Ext.alloc ?_ _ | with_reducible refine K.Ext.drew ?_ | (dsimp only; omega) | omega | (simp; omega)))⟩
end Go.Proofs.Ytgepjmfjeidbaaa
